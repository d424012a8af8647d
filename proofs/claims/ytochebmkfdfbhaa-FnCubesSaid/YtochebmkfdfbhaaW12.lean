/- Walks: draws. -/
import Derived.Test.YtochebmkfdfbhaaW11
set_option linter.all false
namespace Go.Proofs.Ytochebmkfdfbhaa
open Go.RowKit

def Cur.pick (c : Cur) (n : Int) : Int × Cur :=
  if n ≤ 1 then (0, c) else if 200 < n then ((c.next * 256 + c.after.next).tmod n, c.after.after) else (c.next.tmod n, c.after)
theorem drawn_in (s : Int) : 0 ≤ drawn s ∧ drawn s ≤ 255 := by
  unfold drawn
  have h1 : (BitVec.ofInt 64 (s.fdiv (2 ^ (min (40 : Int).toNat 64))) &&& BitVec.ofInt 64 255).toNat ≤ 255 := by
    rw [BitVec.toNat_and]
    exact Nat.le_trans Nat.and_le_right (by decide)
  generalize (BitVec.ofInt 64 (s.fdiv (2 ^ (min (40 : Int).toNat 64))) &&& BitVec.ofInt 64 255).toNat = x at h1
  have h2 : IntKind.u64.wrap (x : Int) = x := wrap_u64 (by omega)
  rw [h2, wrap_i64 (by omega)]
  omega
theorem Cur.next_in (c : Cur) : 0 ≤ c.next ∧ c.next ≤ 255 := by
  unfold Cur.next
  split
  · exact c.byte_in
  · exact drawn_in _
theorem Cur.pick_in (c : Cur) (n : Int) (h : 1 ≤ n) : 0 ≤ (c.pick n).1 ∧ (c.pick n).1 < n := by
  have h1 := c.next_in
  have h2 := c.after.next_in
  unfold Cur.pick
  split
  · exact ⟨Int.le_refl _, by show (0 : Int) < n; omega⟩
  · split
    · exact ⟨Int.tmod_nonneg _ (by omega), Int.tmod_lt_of_pos _ (by omega)⟩
    · exact ⟨Int.tmod_nonneg _ (by omega), Int.tmod_lt_of_pos _ (by omega)⟩
theorem Cur.pick_pos (c : Cur) (n : Int) : (c.pick n).2.pos ≤ c.pos + 2 := by
  unfold Cur.pick
  split
  · show c.pos ≤ _; omega
  · split
    · show c.pos + 1 + 1 ≤ _; omega
    · show c.pos + 1 ≤ _; omega
theorem Cur.pick_code (c : Cur) (n : Int) : (c.pick n).2.code = c.code := by
  unfold Cur.pick
  split
  · rfl
  · split <;> rfl

set_option maxHeartbeats 1000000 in
theorem pick_spec (c : Cur) (n : Int) (hn : n ≤ 65536) (hp : c.pos ≤ 100000000000000) : ASpec Try.prog 17 [.ptr 0 0, aI n] [(0, curC c)] (Fun1 (aI (c.pick n).1) [(0, curC (c.pick n).2)]) := by
  have hi := c.next_in
  have hi2 := c.after.next_in
  have hpa : c.after.pos ≤ 1000000000000000 := by show c.pos + 1 ≤ _; omega
  refine ASpec.of Try.func17 rfl rfl fun C hC => ?_
  refine AC.seq ?_
  refine AC.region ?_
  refine AL.p (by first | exact as1 rfl | exact as2 rfl | exact as3 rfl | exact as4 rfl | exact as5 rfl | exact as6 rfl | exact as7 rfl | exact as8 rfl | exact as9 rfl) rfl ?_
  refine AL.nil ?_
  refine th_n ?_
  refine AC.seq ?_
  refine AC.seq ?_
  refine AC.region ?_
  refine AL.p (by first | exact mv1 rfl | exact mv2 rfl | exact mv3 rfl | exact mv4 rfl | exact mv5 rfl | exact mv6 rfl | exact mv7 rfl | exact mv8 rfl | exact mv9 rfl) rfl ?_
  refine AL.p (by first | exact g_cmp rfl rfl rfl | exact g_scmp rfl rfl rfl | exact g_eqB rfl rfl rfl | exact g_neB rfl rfl rfl) rfl ?_
  refine AL.nil ?_
  refine th_n ?_
  first | refine AC.condD rfl (fun h0 => ?_) (fun h0 => ?_) | refine AC.condND rfl (fun h0 => ?_) (fun h0 => ?_) | refine AC.condB rfl (fun h0 => ?_) (fun h0 => ?_) | refine AC.condNB rfl (fun h0 => ?_) (fun h0 => ?_)
  · refine AC.seq ?_
    refine AC.region ?_
    refine AL.p (by first | exact as1 rfl | exact as2 rfl | exact as3 rfl | exact as4 rfl | exact as5 rfl | exact as6 rfl | exact as7 rfl | exact as8 rfl | exact as9 rfl) rfl ?_
    refine AL.nil ?_
    refine th_n ?_
    refine AC.ret ?_
    refine th_r ?_
    refine bq_r ?_
    have e : c.pick n = (0, c) := by unfold Cur.pick; rw [if_pos h0]
    exact retF rfl (by rw [e]; repeat (first | exact True.intro | refine And.intro ?_ ?_ | exact DLead.same | exact DLead.eqI (by omega) | exact DLead.nil | exact rfl | refine ⟨_, _, rfl, rfl, ?_⟩ | refine ⟨_, rfl, ?_⟩ | refine ⟨_, _, rfl, ?_, ?_⟩)) (by rw [e]; repeat (first | exact True.intro | refine And.intro ?_ ?_ | exact DLead.same | exact DLead.eqI (by omega) | exact DLead.nil | exact rfl | refine ⟨_, _, rfl, rfl, ?_⟩ | refine ⟨_, rfl, ?_⟩ | refine ⟨_, _, rfl, ?_, ?_⟩)) rfl
  · refine AC.skip ?_
    refine th_n ?_
    refine AC.seq ?_
    refine AC.region ?_
    refine AL.p (by first | exact mv1 rfl | exact mv2 rfl | exact mv3 rfl | exact mv4 rfl | exact mv5 rfl | exact mv6 rfl | exact mv7 rfl | exact mv8 rfl | exact mv9 rfl) rfl ?_
    refine AL.q (by exact h_fun (cs := [0]) en_next rfl rfl (by repeat (first | exact rfl | exact DLead.same | exact DLead.nil | refine ⟨_, _, rfl, ?_, ?_⟩ | refine ⟨_, rfl, ?_⟩ | exact ⟨_, rfl, rfl⟩)) (by repeat (first | exact True.intro | refine And.intro ?_ ?_ | exact DLead.same | exact DLead.eqI (by omega) | exact DLead.nil | exact rfl | refine ⟨_, _, rfl, rfl, ?_⟩ | refine ⟨_, rfl, ?_⟩ | refine ⟨_, _, rfl, ?_, ?_⟩)) (next_spec _ (by first | assumption | omega)) rfl rfl rfl rfl) rfl ?_
    refine AL.p (by first | exact as1 rfl | exact as2 rfl | exact as3 rfl | exact as4 rfl | exact as5 rfl | exact as6 rfl | exact as7 rfl | exact as8 rfl | exact as9 rfl) rfl ?_
    refine AL.nil ?_
    refine th_n ?_
    refine AC.seq ?_
    refine AC.seq ?_
    refine AC.region ?_
    refine AL.p (by first | exact mv1 rfl | exact mv2 rfl | exact mv3 rfl | exact mv4 rfl | exact mv5 rfl | exact mv6 rfl | exact mv7 rfl | exact mv8 rfl | exact mv9 rfl) rfl ?_
    refine AL.p (by first | exact g_cmp rfl rfl rfl | exact g_scmp rfl rfl rfl | exact g_eqB rfl rfl rfl | exact g_neB rfl rfl rfl) rfl ?_
    refine AL.nil ?_
    refine th_n ?_
    first | refine AC.condD rfl (fun h1 => ?_) (fun h1 => ?_) | refine AC.condND rfl (fun h1 => ?_) (fun h1 => ?_) | refine AC.condB rfl (fun h1 => ?_) (fun h1 => ?_) | refine AC.condNB rfl (fun h1 => ?_) (fun h1 => ?_)
    · refine AC.region ?_
      refine AL.p (by first | exact mv1 rfl | exact mv2 rfl | exact mv3 rfl | exact mv4 rfl | exact mv5 rfl | exact mv6 rfl | exact mv7 rfl | exact mv8 rfl | exact mv9 rfl) rfl ?_
      refine AL.p (by exact g_arith rfl rfl rfl (by first | exact wrap_i64 (by omega) | exact wrap_u8 (by omega) | exact wrap_u64 (by omega) | rfl)) rfl ?_
      refine AL.p (by first | exact mv1 rfl | exact mv2 rfl | exact mv3 rfl | exact mv4 rfl | exact mv5 rfl | exact mv6 rfl | exact mv7 rfl | exact mv8 rfl | exact mv9 rfl) rfl ?_
      refine AL.q (by exact h_fun (cs := [0]) en_next rfl rfl (by repeat (first | exact rfl | exact DLead.same | exact DLead.nil | refine ⟨_, _, rfl, ?_, ?_⟩ | refine ⟨_, rfl, ?_⟩ | exact ⟨_, rfl, rfl⟩)) (by repeat (first | exact True.intro | refine And.intro ?_ ?_ | exact DLead.same | exact DLead.eqI (by omega) | exact DLead.nil | exact rfl | refine ⟨_, _, rfl, rfl, ?_⟩ | refine ⟨_, rfl, ?_⟩ | refine ⟨_, _, rfl, ?_, ?_⟩)) (next_spec _ (by first | assumption | omega)) rfl rfl rfl rfl) rfl ?_
      refine AL.p (by first | exact g_arith rfl rfl rfl (by first | exact wrap_i64 (by omega) | exact wrap_u8 (by omega) | exact wrap_u64 (by omega) | rfl) | exact g_sadd rfl rfl (by first | assumption | omega | (simp only [ByteArray.size_append, bstr_size, List.length_take, List.length_drop, List.length_cons, List.length_nil]; omega))) rfl ?_
      refine AL.p (by first | exact as1 rfl | exact as2 rfl | exact as3 rfl | exact as4 rfl | exact as5 rfl | exact as6 rfl | exact as7 rfl | exact as8 rfl | exact as9 rfl) rfl ?_
      refine AL.nil ?_
      refine th_n ?_
      refine AC.seq ?_
      refine AC.region ?_
      refine AL.p (by first | exact mv1 rfl | exact mv2 rfl | exact mv3 rfl | exact mv4 rfl | exact mv5 rfl | exact mv6 rfl | exact mv7 rfl | exact mv8 rfl | exact mv9 rfl) rfl ?_
      refine AL.p (by first | exact mv1 rfl | exact mv2 rfl | exact mv3 rfl | exact mv4 rfl | exact mv5 rfl | exact mv6 rfl | exact mv7 rfl | exact mv8 rfl | exact mv9 rfl) rfl ?_
      refine AL.p (by exact g_rem rfl rfl (by first | decide | omega) rfl) rfl ?_
      refine AL.p (by first | exact as1 rfl | exact as2 rfl | exact as3 rfl | exact as4 rfl | exact as5 rfl | exact as6 rfl | exact as7 rfl | exact as8 rfl | exact as9 rfl) rfl ?_
      refine AL.nil ?_
      refine th_n ?_
      refine AC.ret ?_
      refine bq_r ?_
      first | (have e : c.pick n = ((c.next * 256 + c.after.next).tmod n, c.after.after) := (by unfold Cur.pick; rw [if_neg h0, if_pos h1]); exact retF rfl (by rw [e]; repeat (first | exact True.intro | refine And.intro ?_ ?_ | exact DLead.same | exact DLead.eqI (by omega) | exact DLead.nil | exact rfl | refine ⟨_, _, rfl, rfl, ?_⟩ | refine ⟨_, rfl, ?_⟩ | refine ⟨_, _, rfl, ?_, ?_⟩)) (by rw [e]; repeat (first | exact True.intro | refine And.intro ?_ ?_ | exact DLead.same | exact DLead.eqI (by omega) | exact DLead.nil | exact rfl | refine ⟨_, _, rfl, rfl, ?_⟩ | refine ⟨_, rfl, ?_⟩ | refine ⟨_, _, rfl, ?_, ?_⟩)) rfl) | (have e : c.pick n = (c.next.tmod n, c.after) := (by unfold Cur.pick; rw [if_neg h0, if_neg h1]); exact retF rfl (by rw [e]; repeat (first | exact True.intro | refine And.intro ?_ ?_ | exact DLead.same | exact DLead.eqI (by omega) | exact DLead.nil | exact rfl | refine ⟨_, _, rfl, rfl, ?_⟩ | refine ⟨_, rfl, ?_⟩ | refine ⟨_, _, rfl, ?_, ?_⟩)) (by rw [e]; repeat (first | exact True.intro | refine And.intro ?_ ?_ | exact DLead.same | exact DLead.eqI (by omega) | exact DLead.nil | exact rfl | refine ⟨_, _, rfl, rfl, ?_⟩ | refine ⟨_, rfl, ?_⟩ | refine ⟨_, _, rfl, ?_, ?_⟩)) rfl)
    · refine AC.skip ?_
      refine th_n ?_
      refine AC.seq ?_
      refine AC.region ?_
      refine AL.p (by first | exact mv1 rfl | exact mv2 rfl | exact mv3 rfl | exact mv4 rfl | exact mv5 rfl | exact mv6 rfl | exact mv7 rfl | exact mv8 rfl | exact mv9 rfl) rfl ?_
      refine AL.p (by first | exact mv1 rfl | exact mv2 rfl | exact mv3 rfl | exact mv4 rfl | exact mv5 rfl | exact mv6 rfl | exact mv7 rfl | exact mv8 rfl | exact mv9 rfl) rfl ?_
      refine AL.p (by exact g_rem rfl rfl (by first | decide | omega) rfl) rfl ?_
      refine AL.p (by first | exact as1 rfl | exact as2 rfl | exact as3 rfl | exact as4 rfl | exact as5 rfl | exact as6 rfl | exact as7 rfl | exact as8 rfl | exact as9 rfl) rfl ?_
      refine AL.nil ?_
      refine th_n ?_
      refine AC.ret ?_
      refine bq_r ?_
      first | (have e : c.pick n = ((c.next * 256 + c.after.next).tmod n, c.after.after) := (by unfold Cur.pick; rw [if_neg h0, if_pos h1]); exact retF rfl (by rw [e]; repeat (first | exact True.intro | refine And.intro ?_ ?_ | exact DLead.same | exact DLead.eqI (by omega) | exact DLead.nil | exact rfl | refine ⟨_, _, rfl, rfl, ?_⟩ | refine ⟨_, rfl, ?_⟩ | refine ⟨_, _, rfl, ?_, ?_⟩)) (by rw [e]; repeat (first | exact True.intro | refine And.intro ?_ ?_ | exact DLead.same | exact DLead.eqI (by omega) | exact DLead.nil | exact rfl | refine ⟨_, _, rfl, rfl, ?_⟩ | refine ⟨_, rfl, ?_⟩ | refine ⟨_, _, rfl, ?_, ?_⟩)) rfl) | (have e : c.pick n = (c.next.tmod n, c.after) := (by unfold Cur.pick; rw [if_neg h0, if_neg h1]); exact retF rfl (by rw [e]; repeat (first | exact True.intro | refine And.intro ?_ ?_ | exact DLead.same | exact DLead.eqI (by omega) | exact DLead.nil | exact rfl | refine ⟨_, _, rfl, rfl, ?_⟩ | refine ⟨_, rfl, ?_⟩ | refine ⟨_, _, rfl, ?_, ?_⟩)) (by rw [e]; repeat (first | exact True.intro | refine And.intro ?_ ?_ | exact DLead.same | exact DLead.eqI (by omega) | exact DLead.nil | exact rfl | refine ⟨_, _, rfl, rfl, ?_⟩ | refine ⟨_, rfl, ?_⟩ | refine ⟨_, _, rfl, ?_, ?_⟩)) rfl)
theorem en_pick : Enters Try.prog 17 := enters_of Try.func17 rfl rfl
theorem one_spec (c : Cur) (n : Int) (hn : n ≤ 65536) (hp : c.pos ≤ 100000000000000) : ASpec Try.prog 24 [.ptr 0 0, aI n] [(0, curC c)] (Fun1 (aT (decide ((c.pick n).1 = 0))) [(0, curC (c.pick n).2)]) := by
  refine ASpec.of Try.func24 rfl rfl fun C hC => ?_
  refine AC.seq ?_
  refine AC.region ?_
  refine AL.p (by first | exact as1 rfl | exact as2 rfl | exact as3 rfl | exact as4 rfl | exact as5 rfl | exact as6 rfl | exact as7 rfl | exact as8 rfl | exact as9 rfl) rfl ?_
  refine AL.nil ?_
  refine th_n ?_
  refine AC.seq ?_
  refine AC.region ?_
  refine AL.p (by first | exact mv1 rfl | exact mv2 rfl | exact mv3 rfl | exact mv4 rfl | exact mv5 rfl | exact mv6 rfl | exact mv7 rfl | exact mv8 rfl | exact mv9 rfl) rfl ?_
  refine AL.p (by first | exact mv1 rfl | exact mv2 rfl | exact mv3 rfl | exact mv4 rfl | exact mv5 rfl | exact mv6 rfl | exact mv7 rfl | exact mv8 rfl | exact mv9 rfl) rfl ?_
  refine AL.q (by exact h_fun (cs := [0]) en_pick rfl rfl (by repeat (first | exact rfl | exact DLead.same | exact DLead.nil | refine ⟨_, _, rfl, ?_, ?_⟩ | refine ⟨_, rfl, ?_⟩ | exact ⟨_, rfl, rfl⟩)) (by repeat (first | exact True.intro | refine And.intro ?_ ?_ | exact DLead.same | exact DLead.eqI (by omega) | exact DLead.nil | exact rfl | refine ⟨_, _, rfl, rfl, ?_⟩ | refine ⟨_, rfl, ?_⟩ | refine ⟨_, _, rfl, ?_, ?_⟩)) (pick_spec _ _ (by first | assumption | omega) (by first | assumption | omega)) rfl rfl rfl rfl) rfl ?_
  refine AL.p (by first | exact g_cmp rfl rfl rfl | exact g_scmp rfl rfl rfl | exact g_eqB rfl rfl rfl | exact g_neB rfl rfl rfl) rfl ?_
  refine AL.p (by first | exact as1 rfl | exact as2 rfl | exact as3 rfl | exact as4 rfl | exact as5 rfl | exact as6 rfl | exact as7 rfl | exact as8 rfl | exact as9 rfl) rfl ?_
  refine AL.nil ?_
  refine th_n ?_
  refine AC.ret ?_
  refine bq_r ?_
  exact retF rfl (by repeat (first | exact True.intro | refine And.intro ?_ ?_ | exact DLead.same | exact DLead.eqI (by omega) | exact DLead.nil | exact rfl | refine ⟨_, _, rfl, rfl, ?_⟩ | refine ⟨_, rfl, ?_⟩ | refine ⟨_, _, rfl, ?_, ?_⟩)) (by repeat (first | exact True.intro | refine And.intro ?_ ?_ | exact DLead.same | exact DLead.eqI (by omega) | exact DLead.nil | exact rfl | refine ⟨_, _, rfl, rfl, ?_⟩ | refine ⟨_, rfl, ?_⟩ | refine ⟨_, _, rfl, ?_, ?_⟩)) rfl
theorem en_one : Enters Try.prog 24 := enters_of Try.func24 rfl rfl
/-- A number put into a rising list. -/
def putI (l : List Int) (x : Int) : List Int :=
  if l[l.findIdx (fun y => decide (x ≤ y))]? = some x then l else l.take (l.findIdx (fun y => decide (x ≤ y))) ++ [x] ++ l.drop (l.findIdx (fun y => decide (x ≤ y)))
theorem putI_len (l : List Int) (x : Int) : (putI l x).length ≤ l.length + 1 := by
  unfold putI
  split
  · omega
  · simp; omega
theorem idx_at {l : List Int} {x : Int} {k : Nat} (hk : k < l.length) (h : ¬ l[k] < x) (hp : ∀ j (hj : j < k), l[j]'(by omega) < x) : l.findIdx (fun y => decide (x ≤ y)) = k :=
  (List.findIdx_eq hk).2 ⟨by simp; omega, fun j hj => by have := hp j hj; simp; omega⟩
theorem idx_end {l : List Int} {x : Int} (hp : ∀ j (hj : j < l.length), l[j] < x) {k : Nat} (hk : l.length = k) : l.findIdx (fun y => decide (x ≤ y)) = k := by
  subst hk
  exact List.findIdx_eq_length.2 (fun y hy => by obtain ⟨j, hj, rfl⟩ := List.getElem_of_mem hy; have := hp j hj; simp; omega)
theorem putI_same {l : List Int} {x : Int} {k : Nat} (h : l.findIdx (fun y => decide (x ≤ y)) = k) (hk : k < l.length) (he : l[k] = x) : putI l x = l := by
  unfold putI; rw [h, List.getElem?_eq_getElem hk, he, if_pos rfl]
theorem putI_at {l : List Int} {x : Int} {k : Nat} (h : l.findIdx (fun y => decide (x ≤ y)) = k) (hk : k < l.length) (he : ¬ l[k] = x) : putI l x = l.take k ++ [x] ++ l.drop k := by
  unfold putI; rw [h, List.getElem?_eq_getElem hk, if_neg (by simpa using he)]
theorem putI_end {l : List Int} {x : Int} {k : Nat} (h : l.findIdx (fun y => decide (x ≤ y)) = k) (hk : l.length ≤ k) : putI l x = l.take k ++ [x] ++ l.drop k := by
  unfold putI; rw [h, List.getElem?_eq_none hk, if_neg (by simp)]
end Go.Proofs.Ytochebmkfdfbhaa
