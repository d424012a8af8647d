/- Walks: draws of nets with markings. -/
import Derived.Test.YthhfhpeeinohiaaW16
set_option linter.all false
namespace Go.Proofs.Ythhfhpeeinohiaa
open Go.RowKit

def cur0 (code : List UInt8) : Cur := ⟨code, 0, 0⟩
/-- The length of the marking drawn. -/
abbrev markW (c : Cur) : Int := c.anyNet.1.places + (c.anyNet.2.pick 15).1.tdiv 14
def drawM (code : List UInt8) : Net × List UInt8 :=
  let c := cur0 code
  let k := (c.anyNet.2.pick 15).2.markOf (markW c)
  if (k.2.pick 15).1 = 0 then (c.anyNet.1, ((k.2.pick 15).2.spoilt k.1 [48, 49, 50]).1) else (c.anyNet.1, k.1)
theorem Cur.netP_in (c : Cur) : 2 ≤ c.netP ∧ c.netP ≤ 6 := by
  have := c.pick_in 5 (by decide)
  unfold Cur.netP; omega
theorem fewP_in (c : Cur) : 0 ≤ fewP c ∧ fewP c ≤ 31 := by
  unfold fewP
  split
  · omega
  · split
    · omega
    · split <;> omega
def small (N : Net) : Prop := 0 ≤ N.places ∧ N.places ≤ 31 ∧ N.ts.length ≤ 4 ∧ ∀ t, t ∈ N.ts → t.pre.length ≤ 2 ∧ t.post.length ≤ 2
theorem small_set {p : Int} {ts : List Tn} {x : Tn} (h0 : 0 ≤ p ∧ p ≤ 31) (hl : ts.length ≤ 4) (h : ∀ t, t ∈ ts → t.pre.length ≤ 2 ∧ t.post.length ≤ 2) (hx : x.pre.length ≤ 2 ∧ x.post.length ≤ 2) : small ⟨p, ts.set 0 x⟩ :=
  ⟨h0.1, h0.2, by show (ts.set 0 x).length ≤ 4; rw [List.length_set]; exact hl, fun t ht => by
    rcases List.mem_or_eq_of_mem_set ht with h' | rfl
    · exact h t h'
    · exact hx⟩
theorem getD_small {ts : List Tn} (h : ∀ t, t ∈ ts → t.pre.length ≤ 2 ∧ t.post.length ≤ 2) : (ts.getD 0 ⟨[], []⟩).pre.length ≤ 2 ∧ (ts.getD 0 ⟨[], []⟩).post.length ≤ 2 := by
  cases ts with
  | nil => exact ⟨by simp, by simp⟩
  | cons a l => exact h a (List.mem_cons_self ..)
theorem Cur.anyNet_in (c : Cur) : small c.anyNet.1 ∧ c.anyNet.2.pos ≤ c.pos + 70 ∧ c.anyNet.2.code = c.code := by
  have hn := c.netT_in
  have hp := c.netP_in
  have hf := fewP_in (c.netT.2.pick 20).2
  have hg := getD_small hn.2.1
  have h1 := c.netT.2.pick_pos 20
  have h2 := (c.netT.2.pick 20).2.pick_pos 8
  have h3 := (c.netT.2.pick 20).2.pick_pos 4
  have k1 := c.netT.2.pick_code 20
  have k2 := (c.netT.2.pick 20).2.pick_code 8
  have k3 := (c.netT.2.pick 20).2.pick_code 4
  have hpp : 0 ≤ c.netP ∧ c.netP ≤ 31 := by omega
  unfold Cur.anyNet
  split
  · split
    · exact ⟨small_set hpp hn.1 hn.2.1 ⟨by simp, hg.2⟩, by dsimp only; omega, by dsimp only; rw [k1, hn.2.2.2]⟩
    · split
      · exact ⟨small_set hpp hn.1 hn.2.1 ⟨hg.1, by simp⟩, by dsimp only; omega, by dsimp only; rw [k2, k1, hn.2.2.2]⟩
      · split
        · exact ⟨⟨hf.1, hf.2, hn.1, hn.2.1⟩, by dsimp only; omega, by dsimp only; rw [k3, k1, hn.2.2.2]⟩
        · exact ⟨⟨hpp.1, hpp.2, hn.1, hn.2.1⟩, by dsimp only; omega, by dsimp only; rw [k1, hn.2.2.2]⟩
  · exact ⟨⟨hpp.1, hpp.2, hn.1, hn.2.1⟩, by dsimp only; omega, hn.2.2.2⟩
theorem small_B {N : Net} (h : small N) : NetB N := ⟨by have := h.1; have := h.2.1; omega, by have := h.2.2.1; omega, fun t ht => by have := h.2.2.2 t ht; omega⟩
theorem small_Q {N : Net} (h : small N) : NetQ N := fun t ht => by have := h.2.2.2 t ht; omega
theorem markOf_len (c : Cur) (n : Int) : ((c.markOf n).1.length = n.toNat) ∧ (c.markOf n).2.pos ≤ c.pos + 2 * n.toNat ∧ (c.markOf n).2.code = c.code := by
  have h := markN_len n.toNat c []
  simp only [List.length_nil] at h
  exact ⟨by show (markN _ _ _).1.length = _; omega, h.2.1, h.2.2⟩

set_option maxHeartbeats 4000000 in
theorem sDrawMark_spec (code : List UInt8) : ASpec Try.prog 28 [.d (vB code)] [] (Pure1 (.tup [netA (drawM code).1, aS (bstr (drawM code).2)])) := by
  have ha := (cur0 code).anyNet_in
  have hpos0 : (cur0 code).pos = 0 := rfl
  have hap := ha.2.1
  have hs0 := ha.1.1
  have hs1 := ha.1.2.1
  have hpk := (cur0 code).anyNet.2.pick_in 15 (by decide)
  have hpp := (cur0 code).anyNet.2.pick_pos 15
  have hq : 0 ≤ ((cur0 code).anyNet.2.pick 15).1.tdiv 14 ∧ ((cur0 code).anyNet.2.pick 15).1.tdiv 14 ≤ 1 := by rw [Int.tdiv_eq_ediv_of_nonneg hpk.1]; omega
  have hmk := markOf_len ((cur0 code).anyNet.2.pick 15).2 (markW (cur0 code))
  have hkp := (((cur0 code).anyNet.2.pick 15).2.markOf (markW (cur0 code))).2.pick_pos 15
  have hw : 0 ≤ markW (cur0 code) ∧ markW (cur0 code) ≤ 32 := by show 0 ≤ _ + _ ∧ _ + _ ≤ _; omega
  refine ASpec.of Try.func28 rfl rfl fun C hC => ?_
  refine AC.seq ?_
  refine AC.region ?_
  refine AL.q (by exact h_alloc rfl) rfl ?_
  refine AL.p (by first | exact g_assign (r := .d _) rfl | exact g_assign (r := .own _ _) rfl | exact g_assign (r := .ptr _ _) rfl | exact g_assign (r := .agg _) rfl | exact g_assign (r := .tup _) rfl | exact g_assign (r := .clo _ _) rfl | exact g_assign (r := .tight _ _ _) rfl | exact g_assign (r := .und) rfl | exact g_assign (r := .dead) rfl) rfl ?_
  refine AL.nil ?_
  refine th_n ?_
  refine AC.seq ?_
  refine AC.region ?_
  refine AL.p (by first | exact g_move (r := .d _) rfl | exact g_move (r := .own _ _) rfl | exact g_move (r := .ptr _ _) rfl | exact g_move (r := .agg _) rfl | exact g_move (r := .tup _) rfl | exact g_move (r := .clo _ _) rfl | exact g_move (r := .tight _ _ _) rfl | exact g_move (r := .und) rfl | exact g_move (r := .dead) rfl) rfl ?_
  refine AL.p (by exact g_build rfl rfl rfl) rfl ?_
  refine AL.q (by exact h_box rfl) rfl ?_
  refine AL.p (by first | exact g_assign (r := .d _) rfl | exact g_assign (r := .own _ _) rfl | exact g_assign (r := .ptr _ _) rfl | exact g_assign (r := .agg _) rfl | exact g_assign (r := .tup _) rfl | exact g_assign (r := .clo _ _) rfl | exact g_assign (r := .tight _ _ _) rfl | exact g_assign (r := .und) rfl | exact g_assign (r := .dead) rfl) rfl ?_
  refine AL.nil ?_
  refine th_n ?_
  refine AC.seq ?_
  refine AC.region ?_
  refine AL.p (by first | exact g_move (r := .d _) rfl | exact g_move (r := .own _ _) rfl | exact g_move (r := .ptr _ _) rfl | exact g_move (r := .agg _) rfl | exact g_move (r := .tup _) rfl | exact g_move (r := .clo _ _) rfl | exact g_move (r := .tight _ _ _) rfl | exact g_move (r := .und) rfl | exact g_move (r := .dead) rfl) rfl ?_
  refine AL.q (by exact h_fun (cs := [8]) en_anyNet rfl rfl (by repeat (first | exact rfl | exact DLead.same | exact DLead.nil | refine ⟨_, _, rfl, ?_, ?_⟩ | refine ⟨_, rfl, ?_⟩)) (by repeat (first | exact True.intro | refine And.intro ?_ ?_ | exact DLead.same | exact DLead.eqI (by omega) | exact DLead.nil | exact rfl | refine ⟨_, _, rfl, rfl, ?_⟩ | refine ⟨_, rfl, ?_⟩ | refine ⟨_, _, rfl, ?_, ?_⟩)) (anyNet_spec (cur0 code) (by omega)) rfl rfl rfl rfl) rfl ?_
  refine AL.q (by exact h_alloc rfl) rfl ?_
  refine AL.q (by first | exact h_store rfl rfl rfl rfl rfl rfl | exact h_store_arr1 rfl rfl rfl rfl (by first | exact .same | exact .nil) (by assumption) | exact h_store_arr rfl rfl rfl rfl (by first | exact .same | exact .nil) (by first | rfl | omega) (by first | assumption | rfl) (by omega)) rfl ?_
  refine AL.nil ?_
  refine th_n ?_
  refine AC.seq ?_
  refine AC.drawn' mixed_ok [[], [], [1], [], [3], [3,4], [1,2,3,4,5], [0,1,2,3,4,5,6], [0,1,2,3,4,5,6,7]] (by decide) ?_
  refine DF.op 0 [] 9 rfl rfl rfl (.free rfl (NOp.of (by first | exact g_move (r := .d _) rfl | exact g_move (r := .own _ _) rfl | exact g_move (r := .ptr _ _) rfl | exact g_move (r := .agg _) rfl | exact g_move (r := .tup _) rfl | exact g_move (r := .clo _ _) rfl | exact g_move (r := .tight _ _ _) rfl | exact g_move (r := .und) rfl | exact g_move (r := .dead) rfl))) rfl ?_
  refine DF.op 1 [] 9 rfl rfl rfl (.free rfl (NOp.of (by first | exact g_fa_ref rfl rfl rfl rfl rfl rfl | exact g_fa_ptr rfl rfl rfl rfl rfl))) rfl ?_
  refine DF.op 2 [1] 9 rfl rfl rfl (.free rfl (NOp.of (by first | exact g_load_ref rfl rfl rfl | exact g_load_ptr rfl rfl rfl rfl rfl | exact g_load_refN rfl rfl rfl rfl | exact g_load_ptrN rfl rfl rfl rfl rfl | exact g_load_arr1 rfl rfl rfl rfl (by assumption) | exact g_load_arr rfl rfl rfl rfl (by first | rfl | omega) (by first | assumption | rfl) (by first | assumption | rfl)))) rfl ?_
  refine DF.op 3 [] 9 rfl rfl rfl (.free rfl (NOp.of (by first | exact g_move (r := .d _) rfl | exact g_move (r := .own _ _) rfl | exact g_move (r := .ptr _ _) rfl | exact g_move (r := .agg _) rfl | exact g_move (r := .tup _) rfl | exact g_move (r := .clo _ _) rfl | exact g_move (r := .tight _ _ _) rfl | exact g_move (r := .und) rfl | exact g_move (r := .dead) rfl))) rfl ?_
  refine DF.op 4 [3] 9 rfl rfl rfl (.free rfl (by exact h_fun (cs := [8]) en_pick rfl rfl (by repeat (first | exact rfl | exact DLead.same | exact DLead.nil | refine ⟨_, _, rfl, ?_, ?_⟩ | refine ⟨_, rfl, ?_⟩ | exact ⟨_, rfl, rfl⟩)) (by repeat (first | exact True.intro | refine And.intro ?_ ?_ | exact DLead.same | exact DLead.eqI (by omega) | exact DLead.nil | exact rfl | refine ⟨_, _, rfl, rfl, ?_⟩ | refine ⟨_, rfl, ?_⟩ | refine ⟨_, _, rfl, ?_, ?_⟩)) (pick_spec _ _ (by first | assumption | omega) (by first | assumption | omega)) rfl rfl rfl rfl)) rfl ?_
  refine DF.op 5 [3,4] 9 rfl rfl rfl (.free rfl (NOp.of (by exact g_quo rfl rfl (by first | decide | omega) (by first | exact wrap_i64 (by omega) | exact wrap_u8 (by omega) | exact wrap_u64 (by omega) | rfl)))) rfl ?_
  refine DF.op 6 [1,2,3,4,5] 9 rfl rfl rfl (.free rfl (NOp.of (by first | exact g_arith rfl rfl rfl (by first | exact wrap_i64 (by omega) | exact wrap_u8 (by omega) | exact wrap_u64 (by omega) | rfl) | exact g_sadd rfl rfl (by first | assumption | omega | (simp only [ByteArray.size_append, bstr_size, List.length_take, List.length_drop, List.length_cons, List.length_nil]; omega))))) rfl ?_
  refine DF.op 7 [0,1,2,3,4,5,6] 9 rfl rfl rfl (.free rfl (by exact h_fun (cs := [8]) en_markOf rfl rfl (by repeat (first | exact rfl | exact DLead.same | exact DLead.nil | refine ⟨_, _, rfl, ?_, ?_⟩ | refine ⟨_, rfl, ?_⟩ | exact ⟨_, rfl, rfl⟩)) (by repeat (first | exact True.intro | refine And.intro ?_ ?_ | exact DLead.same | exact DLead.eqI (by omega) | exact DLead.nil | exact rfl | refine ⟨_, _, rfl, rfl, ?_⟩ | refine ⟨_, rfl, ?_⟩ | refine ⟨_, _, rfl, ?_, ?_⟩)) (markOf_spec _ _ (by first | assumption | omega) (by first | assumption | omega) (by first | assumption | omega)) rfl rfl rfl rfl)) rfl ?_
  refine DF.op 8 [0,1,2,3,4,5,6,7] 9 rfl rfl rfl (.free rfl (NOp.of (by first | exact g_assign (r := .d _) rfl | exact g_assign (r := .own _ _) rfl | exact g_assign (r := .ptr _ _) rfl | exact g_assign (r := .agg _) rfl | exact g_assign (r := .tup _) rfl | exact g_assign (r := .clo _ _) rfl | exact g_assign (r := .tight _ _ _) rfl | exact g_assign (r := .und) rfl | exact g_assign (r := .dead) rfl))) rfl ?_
  refine DF.fin (ps := [(0, 1), (0, 2), (0, 3), (0, 4), (0, 5), (0, 6), (1, 0), (1, 3), (1, 4), (1, 5), (2, 0), (2, 3), (2, 4), (2, 5), (3, 0), (3, 1), (3, 2), (4, 0), (4, 1), (4, 2), (5, 0), (5, 1), (5, 2), (6, 0)]) 9 rfl (by decide) (by decide) (by rfl) ?_
  refine th_n ?_
  refine AC.seq ?_
  refine AC.seq ?_
  refine AC.region ?_
  refine AL.p (by first | exact g_move (r := .d _) rfl | exact g_move (r := .own _ _) rfl | exact g_move (r := .ptr _ _) rfl | exact g_move (r := .agg _) rfl | exact g_move (r := .tup _) rfl | exact g_move (r := .clo _ _) rfl | exact g_move (r := .tight _ _ _) rfl | exact g_move (r := .und) rfl | exact g_move (r := .dead) rfl) rfl ?_
  refine AL.q (by exact h_fun (cs := [8]) en_one rfl rfl (by repeat (first | exact rfl | exact DLead.same | exact DLead.nil | refine ⟨_, _, rfl, ?_, ?_⟩ | refine ⟨_, rfl, ?_⟩)) (by repeat (first | exact True.intro | refine And.intro ?_ ?_ | exact DLead.same | exact DLead.eqI (by omega) | exact DLead.nil | exact rfl | refine ⟨_, _, rfl, rfl, ?_⟩ | refine ⟨_, rfl, ?_⟩ | refine ⟨_, _, rfl, ?_, ?_⟩)) (one_spec (((cur0 code).anyNet.2.pick 15).2.markOf (markW (cur0 code))).2 15 (by decide) (by omega)) rfl rfl rfl rfl) rfl ?_
  refine AL.nil ?_
  refine th_n ?_
  first | refine AC.condD rfl (fun h0 => ?_) (fun h0 => ?_) | refine AC.condND rfl (fun h0 => ?_) (fun h0 => ?_) | refine AC.condB rfl (fun h0 => ?_) (fun h0 => ?_) | refine AC.condNB rfl (fun h0 => ?_) (fun h0 => ?_)
  · refine AC.region ?_
    refine AL.p (by first | exact g_move (r := .d _) rfl | exact g_move (r := .own _ _) rfl | exact g_move (r := .ptr _ _) rfl | exact g_move (r := .agg _) rfl | exact g_move (r := .tup _) rfl | exact g_move (r := .clo _ _) rfl | exact g_move (r := .tight _ _ _) rfl | exact g_move (r := .und) rfl | exact g_move (r := .dead) rfl) rfl ?_
    refine AL.p (by first | exact g_move (r := .d _) rfl | exact g_move (r := .own _ _) rfl | exact g_move (r := .ptr _ _) rfl | exact g_move (r := .agg _) rfl | exact g_move (r := .tup _) rfl | exact g_move (r := .clo _ _) rfl | exact g_move (r := .tight _ _ _) rfl | exact g_move (r := .und) rfl | exact g_move (r := .dead) rfl) rfl ?_
    refine AL.q (by exact h_fun (cs := [8]) en_spoilt rfl rfl (by repeat (first | exact rfl | exact DLead.same | exact DLead.nil | refine ⟨_, _, rfl, ?_, ?_⟩ | refine ⟨_, rfl, ?_⟩)) (by repeat (first | exact True.intro | refine And.intro ?_ ?_ | exact DLead.same | exact DLead.eqI (by omega) | exact DLead.nil | exact rfl | refine ⟨_, _, rfl, rfl, ?_⟩ | refine ⟨_, rfl, ?_⟩ | refine ⟨_, _, rfl, ?_, ?_⟩)) (spoilt_spec ((((cur0 code).anyNet.2.pick 15).2.markOf (markW (cur0 code))).2.pick 15).2 (((cur0 code).anyNet.2.pick 15).2.markOf (markW (cur0 code))).1 [48, 49, 50] (by omega) (by decide) (by decide) (by omega)) rfl rfl rfl rfl) rfl ?_
    refine AL.p (by first | exact g_assign (r := .d _) rfl | exact g_assign (r := .own _ _) rfl | exact g_assign (r := .ptr _ _) rfl | exact g_assign (r := .agg _) rfl | exact g_assign (r := .tup _) rfl | exact g_assign (r := .clo _ _) rfl | exact g_assign (r := .tight _ _ _) rfl | exact g_assign (r := .und) rfl | exact g_assign (r := .dead) rfl) rfl ?_
    refine AL.nil ?_
    refine th_n ?_
    refine AC.seq ?_
    refine AC.region ?_
    refine AL.p (by first | exact g_load_ref rfl rfl rfl | exact g_load_ptr rfl rfl rfl rfl rfl | exact g_load_refN rfl rfl rfl rfl | exact g_load_ptrN rfl rfl rfl rfl rfl | exact g_load_arr1 rfl rfl rfl rfl (by assumption) | exact g_load_arr rfl rfl rfl rfl (by first | rfl | omega) (by first | assumption | rfl) (by first | assumption | rfl)) rfl ?_
    refine AL.p (by first | exact g_move (r := .d _) rfl | exact g_move (r := .own _ _) rfl | exact g_move (r := .ptr _ _) rfl | exact g_move (r := .agg _) rfl | exact g_move (r := .tup _) rfl | exact g_move (r := .clo _ _) rfl | exact g_move (r := .tight _ _ _) rfl | exact g_move (r := .und) rfl | exact g_move (r := .dead) rfl) rfl ?_
    refine AL.q (by first | exact h_store rfl rfl rfl rfl rfl rfl | exact h_store_arr1 rfl rfl rfl rfl (by first | exact .same | exact .nil) (by assumption) | exact h_store_arr rfl rfl rfl rfl (by first | exact .same | exact .nil) (by first | rfl | omega) (by first | assumption | rfl) (by omega)) rfl ?_
    refine AL.p (by first | exact g_assign (r := .d _) rfl | exact g_assign (r := .own _ _) rfl | exact g_assign (r := .ptr _ _) rfl | exact g_assign (r := .agg _) rfl | exact g_assign (r := .tup _) rfl | exact g_assign (r := .clo _ _) rfl | exact g_assign (r := .tight _ _ _) rfl | exact g_assign (r := .und) rfl | exact g_assign (r := .dead) rfl) rfl ?_
    refine AL.nil ?_
    refine th_n ?_
    refine AC.ret ?_
    refine bq_r ?_
    first | (have e : drawM code = ((cur0 code).anyNet.1, (((((cur0 code).anyNet.2.pick 15).2.markOf (markW (cur0 code))).2.pick 15).2.spoilt (((cur0 code).anyNet.2.pick 15).2.markOf (markW (cur0 code))).1 [48, 49, 50]).1) := (by unfold drawM; exact if_pos h0); exact ret0 rfl (by rw [e]; repeat (first | exact True.intro | refine And.intro ?_ ?_ | exact DLead.same | exact DLead.eqI (by omega) | exact DLead.nil | exact rfl | refine ⟨_, _, rfl, rfl, ?_⟩ | refine ⟨_, rfl, ?_⟩ | refine ⟨_, _, rfl, ?_, ?_⟩))) | (have e : drawM code = ((cur0 code).anyNet.1, (((cur0 code).anyNet.2.pick 15).2.markOf (markW (cur0 code))).1) := (by unfold drawM; exact if_neg h0); exact ret0 rfl (by rw [e]; repeat (first | exact True.intro | refine And.intro ?_ ?_ | exact DLead.same | exact DLead.eqI (by omega) | exact DLead.nil | exact rfl | refine ⟨_, _, rfl, rfl, ?_⟩ | refine ⟨_, rfl, ?_⟩ | refine ⟨_, _, rfl, ?_, ?_⟩)))
  · refine AC.skip ?_
    refine th_n ?_
    refine AC.seq ?_
    refine AC.region ?_
    refine AL.p (by first | exact g_load_ref rfl rfl rfl | exact g_load_ptr rfl rfl rfl rfl rfl | exact g_load_refN rfl rfl rfl rfl | exact g_load_ptrN rfl rfl rfl rfl rfl | exact g_load_arr1 rfl rfl rfl rfl (by assumption) | exact g_load_arr rfl rfl rfl rfl (by first | rfl | omega) (by first | assumption | rfl) (by first | assumption | rfl)) rfl ?_
    refine AL.p (by first | exact g_move (r := .d _) rfl | exact g_move (r := .own _ _) rfl | exact g_move (r := .ptr _ _) rfl | exact g_move (r := .agg _) rfl | exact g_move (r := .tup _) rfl | exact g_move (r := .clo _ _) rfl | exact g_move (r := .tight _ _ _) rfl | exact g_move (r := .und) rfl | exact g_move (r := .dead) rfl) rfl ?_
    refine AL.q (by first | exact h_store rfl rfl rfl rfl rfl rfl | exact h_store_arr1 rfl rfl rfl rfl (by first | exact .same | exact .nil) (by assumption) | exact h_store_arr rfl rfl rfl rfl (by first | exact .same | exact .nil) (by first | rfl | omega) (by first | assumption | rfl) (by omega)) rfl ?_
    refine AL.p (by first | exact g_assign (r := .d _) rfl | exact g_assign (r := .own _ _) rfl | exact g_assign (r := .ptr _ _) rfl | exact g_assign (r := .agg _) rfl | exact g_assign (r := .tup _) rfl | exact g_assign (r := .clo _ _) rfl | exact g_assign (r := .tight _ _ _) rfl | exact g_assign (r := .und) rfl | exact g_assign (r := .dead) rfl) rfl ?_
    refine AL.nil ?_
    refine th_n ?_
    refine AC.ret ?_
    refine bq_r ?_
    first | (have e : drawM code = ((cur0 code).anyNet.1, (((((cur0 code).anyNet.2.pick 15).2.markOf (markW (cur0 code))).2.pick 15).2.spoilt (((cur0 code).anyNet.2.pick 15).2.markOf (markW (cur0 code))).1 [48, 49, 50]).1) := (by unfold drawM; exact if_pos h0); exact ret0 rfl (by rw [e]; repeat (first | exact True.intro | refine And.intro ?_ ?_ | exact DLead.same | exact DLead.eqI (by omega) | exact DLead.nil | exact rfl | refine ⟨_, _, rfl, rfl, ?_⟩ | refine ⟨_, rfl, ?_⟩ | refine ⟨_, _, rfl, ?_, ?_⟩))) | (have e : drawM code = ((cur0 code).anyNet.1, (((cur0 code).anyNet.2.pick 15).2.markOf (markW (cur0 code))).1) := (by unfold drawM; exact if_neg h0); exact ret0 rfl (by rw [e]; repeat (first | exact True.intro | refine And.intro ?_ ?_ | exact DLead.same | exact DLead.eqI (by omega) | exact DLead.nil | exact rfl | refine ⟨_, _, rfl, rfl, ?_⟩ | refine ⟨_, rfl, ?_⟩ | refine ⟨_, _, rfl, ?_, ?_⟩)))
theorem en_sDrawMark : Enters Try.prog 28 := enters_of Try.func28 rfl rfl
end Go.Proofs.Ythhfhpeeinohiaa
