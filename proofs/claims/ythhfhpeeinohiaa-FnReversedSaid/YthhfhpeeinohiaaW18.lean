/- Walks: draws for firing. -/
import Derived.Test.YthhfhpeeinohiaaW17
set_option linter.all false
namespace Go.Proofs.Ythhfhpeeinohiaa
open Go.RowKit

theorem drawM_in (code : List UInt8) : small (drawM code).1 ∧ (drawM code).2.length ≤ 40 := by
  have ha := (cur0 code).anyNet_in
  have hs0 := ha.1.1
  have hs1 := ha.1.2.1
  have hpk := (cur0 code).anyNet.2.pick_in 15 (by decide)
  have hq : 0 ≤ ((cur0 code).anyNet.2.pick 15).1.tdiv 14 ∧ ((cur0 code).anyNet.2.pick 15).1.tdiv 14 ≤ 1 := by rw [Int.tdiv_eq_ediv_of_nonneg hpk.1]; omega
  have hmk := (markOf_len ((cur0 code).anyNet.2.pick 15).2 (markW (cur0 code))).1
  have hw : 0 ≤ markW (cur0 code) ∧ markW (cur0 code) ≤ 32 := by show 0 ≤ _ + _ ∧ _ + _ ≤ _; omega
  have hsp := (((((cur0 code).anyNet.2.pick 15).2.markOf (markW (cur0 code))).2.pick 15).2.spoilt_in (((cur0 code).anyNet.2.pick 15).2.markOf (markW (cur0 code))).1 [48, 49, 50]).1
  have h32 : (markW (cur0 code)).toNat ≤ 32 := by omega
  unfold drawM
  dsimp only
  split
  · exact ⟨ha.1, by dsimp only; omega⟩
  · exact ⟨ha.1, by dsimp only; omega⟩
def drawT (code : List UInt8) : Int := ((cur0 code).pick 5).1 - (((cur0 code).pick 5).2.pick 20).1.tdiv 19
set_option maxHeartbeats 4000000 in
theorem sDrawFire_spec (code : List UInt8) : ASpec Try.prog 6 [.d (vB code)] [] (Pure1 (.tup [netA (drawM code).1, aS (bstr (drawM code).2), aI (drawT code)])) := by
  have hpos0 : (cur0 code).pos = 0 := rfl
  have h1 := (cur0 code).pick_in 5 (by decide)
  have h2 := (cur0 code).pick_pos 5
  have h3 := ((cur0 code).pick 5).2.pick_in 20 (by decide)
  have hq : 0 ≤ (((cur0 code).pick 5).2.pick 20).1.tdiv 19 ∧ (((cur0 code).pick 5).2.pick 20).1.tdiv 19 ≤ 1 := by rw [Int.tdiv_eq_ediv_of_nonneg h3.1]; omega
  refine ASpec.of Try.func6 rfl rfl fun C hC => ?_
  refine AC.seq ?_
  refine AC.region ?_
  refine AL.q (by exact h_alloc rfl) rfl ?_
  refine AL.p (by first | exact g_assign (r := .d _) rfl | exact g_assign (r := .own _ _) rfl | exact g_assign (r := .ptr _ _) rfl | exact g_assign (r := .agg _) rfl | exact g_assign (r := .tup _) rfl | exact g_assign (r := .clo _ _) rfl | exact g_assign (r := .tight _ _ _) rfl | exact g_assign (r := .und) rfl | exact g_assign (r := .dead) rfl) rfl ?_
  refine AL.p (by first | exact g_assign (r := .d _) rfl | exact g_assign (r := .own _ _) rfl | exact g_assign (r := .ptr _ _) rfl | exact g_assign (r := .agg _) rfl | exact g_assign (r := .tup _) rfl | exact g_assign (r := .clo _ _) rfl | exact g_assign (r := .tight _ _ _) rfl | exact g_assign (r := .und) rfl | exact g_assign (r := .dead) rfl) rfl ?_
  refine AL.nil ?_
  refine th_n ?_
  refine AC.seq ?_
  refine AC.region ?_
  refine AL.p (by first | exact g_move (r := .d _) rfl | exact g_move (r := .own _ _) rfl | exact g_move (r := .ptr _ _) rfl | exact g_move (r := .agg _) rfl | exact g_move (r := .tup _) rfl | exact g_move (r := .clo _ _) rfl | exact g_move (r := .tight _ _ _) rfl | exact g_move (r := .und) rfl | exact g_move (r := .dead) rfl) rfl ?_
  refine AL.p (by exact g_build rfl rfl rfl) rfl ?_
  refine AL.q (by exact h_box rfl) rfl ?_
  refine AL.p (by first | exact g_assign (r := .d _) rfl | exact g_assign (r := .own _ _) rfl | exact g_assign (r := .ptr _ _) rfl | exact g_assign (r := .agg _) rfl | exact g_assign (r := .tup _) rfl | exact g_assign (r := .clo _ _) rfl | exact g_assign (r := .tight _ _ _) rfl | exact g_assign (r := .und) rfl | exact g_assign (r := .dead) rfl) rfl ?_
  refine AL.nil ?_
  refine th_n ?_
  refine AC.seq ?_
  refine AC.region ?_
  refine AL.p (by first | exact g_move (r := .d _) rfl | exact g_move (r := .own _ _) rfl | exact g_move (r := .ptr _ _) rfl | exact g_move (r := .agg _) rfl | exact g_move (r := .tup _) rfl | exact g_move (r := .clo _ _) rfl | exact g_move (r := .tight _ _ _) rfl | exact g_move (r := .und) rfl | exact g_move (r := .dead) rfl) rfl ?_
  refine AL.q (by exact h_pure en_sDrawMark rfl rfl (by repeat (first | exact rfl | exact DLead.same | exact DLead.nil | refine ⟨_, _, rfl, ?_, ?_⟩ | refine ⟨_, rfl, ?_⟩ | exact ⟨_, rfl, rfl⟩)) (sDrawMark_spec _) rfl) rfl ?_
  refine AL.p (by first | exact g_move (r := .d _) rfl | exact g_move (r := .own _ _) rfl | exact g_move (r := .ptr _ _) rfl | exact g_move (r := .agg _) rfl | exact g_move (r := .tup _) rfl | exact g_move (r := .clo _ _) rfl | exact g_move (r := .tight _ _ _) rfl | exact g_move (r := .und) rfl | exact g_move (r := .dead) rfl) rfl ?_
  refine AL.p (by first | exact g_extract (r := .d _) rfl rfl | exact g_extract (r := .own _ _) rfl rfl | exact g_extract (r := .agg _) rfl rfl) rfl ?_
  refine AL.p (by first | exact g_extract (r := .d _) rfl rfl | exact g_extract (r := .own _ _) rfl rfl | exact g_extract (r := .agg _) rfl rfl) rfl ?_
  refine AL.q (by exact h_alloc rfl) rfl ?_
  refine AL.q (by first | exact h_store rfl rfl rfl rfl rfl rfl | exact h_store_arr1 rfl rfl rfl rfl (by first | exact .same | exact .nil) (by assumption) | exact h_store_arr rfl rfl rfl rfl (by first | exact .same | exact .nil) (by first | rfl | omega) (by first | assumption | rfl) (by omega)) rfl ?_
  refine AL.p (by first | exact g_assign (r := .d _) rfl | exact g_assign (r := .own _ _) rfl | exact g_assign (r := .ptr _ _) rfl | exact g_assign (r := .agg _) rfl | exact g_assign (r := .tup _) rfl | exact g_assign (r := .clo _ _) rfl | exact g_assign (r := .tight _ _ _) rfl | exact g_assign (r := .und) rfl | exact g_assign (r := .dead) rfl) rfl ?_
  refine AL.nil ?_
  refine th_n ?_
  refine AC.seq ?_
  refine AC.drawn' mixed_ok [[], [], [], [2], [], [2,3,4], [2,3,4,5], [2,3,4,5,6], [0,2,3,4,5], [0,1,2,3,4,5,8], [0,1,2,3,4,5,6,7,8,9]] (by decide) ?_
  refine DF.op 0 [] 11 rfl rfl rfl (.free rfl (NOp.of (by first | exact g_load_ref rfl rfl rfl | exact g_load_ptr rfl rfl rfl rfl rfl | exact g_load_refN rfl rfl rfl rfl | exact g_load_ptrN rfl rfl rfl rfl rfl | exact g_load_arr1 rfl rfl rfl rfl (by assumption) | exact g_load_arr rfl rfl rfl rfl (by first | rfl | omega) (by first | assumption | rfl) (by first | assumption | rfl)))) rfl ?_
  refine DF.op 1 [] 11 rfl rfl rfl (.free rfl (NOp.of (by first | exact g_move (r := .d _) rfl | exact g_move (r := .own _ _) rfl | exact g_move (r := .ptr _ _) rfl | exact g_move (r := .agg _) rfl | exact g_move (r := .tup _) rfl | exact g_move (r := .clo _ _) rfl | exact g_move (r := .tight _ _ _) rfl | exact g_move (r := .und) rfl | exact g_move (r := .dead) rfl))) rfl ?_
  refine DF.op 2 [] 11 rfl rfl rfl (.free rfl (NOp.of (by first | exact g_move (r := .d _) rfl | exact g_move (r := .own _ _) rfl | exact g_move (r := .ptr _ _) rfl | exact g_move (r := .agg _) rfl | exact g_move (r := .tup _) rfl | exact g_move (r := .clo _ _) rfl | exact g_move (r := .tight _ _ _) rfl | exact g_move (r := .und) rfl | exact g_move (r := .dead) rfl))) rfl ?_
  refine DF.op 3 [2] 11 rfl rfl rfl (.free rfl (by exact h_fun (cs := [8]) en_pick rfl rfl (by repeat (first | exact rfl | exact DLead.same | exact DLead.nil | refine ⟨_, _, rfl, ?_, ?_⟩ | refine ⟨_, rfl, ?_⟩)) (by repeat (first | exact True.intro | refine And.intro ?_ ?_ | exact DLead.same | exact DLead.eqI (by omega) | exact DLead.nil | exact rfl | refine ⟨_, _, rfl, rfl, ?_⟩ | refine ⟨_, rfl, ?_⟩ | refine ⟨_, _, rfl, ?_, ?_⟩)) (pick_spec (cur0 code) 5 (by decide) (by omega)) rfl rfl rfl rfl)) rfl ?_
  refine DF.op 4 [] 11 rfl rfl rfl (.free rfl (NOp.of (by first | exact g_move (r := .d _) rfl | exact g_move (r := .own _ _) rfl | exact g_move (r := .ptr _ _) rfl | exact g_move (r := .agg _) rfl | exact g_move (r := .tup _) rfl | exact g_move (r := .clo _ _) rfl | exact g_move (r := .tight _ _ _) rfl | exact g_move (r := .und) rfl | exact g_move (r := .dead) rfl))) rfl ?_
  refine DF.op 5 [2,3,4] 11 rfl rfl rfl (.free rfl (by exact h_fun (cs := [8]) en_pick rfl rfl (by repeat (first | exact rfl | exact DLead.same | exact DLead.nil | refine ⟨_, _, rfl, ?_, ?_⟩ | refine ⟨_, rfl, ?_⟩)) (by repeat (first | exact True.intro | refine And.intro ?_ ?_ | exact DLead.same | exact DLead.eqI (by omega) | exact DLead.nil | exact rfl | refine ⟨_, _, rfl, rfl, ?_⟩ | refine ⟨_, rfl, ?_⟩ | refine ⟨_, _, rfl, ?_, ?_⟩)) (pick_spec ((cur0 code).pick 5).2 20 (by decide) (by omega)) rfl rfl rfl rfl)) rfl ?_
  refine DF.op 6 [2,3,4,5] 11 rfl rfl rfl (.free rfl (NOp.of (by exact g_quo rfl rfl (by first | decide | omega) (by first | exact wrap_i64 (by omega) | exact wrap_u8 (by omega) | exact wrap_u64 (by omega) | rfl)))) rfl ?_
  refine DF.op 7 [2,3,4,5,6] 11 rfl rfl rfl (.free rfl (NOp.of (by exact g_arith rfl rfl rfl (by first | exact wrap_i64 (by omega) | exact wrap_u8 (by omega) | exact wrap_u64 (by omega) | rfl)))) rfl ?_
  refine DF.op 8 [0,2,3,4,5] 11 rfl rfl rfl (.free rfl (by first | exact h_store rfl rfl rfl rfl rfl rfl | exact h_store_arr1 rfl rfl rfl rfl (by first | exact .same | exact .nil) (by assumption) | exact h_store_arr rfl rfl rfl rfl (by first | exact .same | exact .nil) (by first | rfl | omega) (by first | assumption | rfl) (by omega))) rfl ?_
  refine DF.op 9 [0,1,2,3,4,5,8] 11 rfl rfl rfl (.free rfl (NOp.of (by first | exact g_assign (r := .d _) rfl | exact g_assign (r := .own _ _) rfl | exact g_assign (r := .ptr _ _) rfl | exact g_assign (r := .agg _) rfl | exact g_assign (r := .tup _) rfl | exact g_assign (r := .clo _ _) rfl | exact g_assign (r := .tight _ _ _) rfl | exact g_assign (r := .und) rfl | exact g_assign (r := .dead) rfl))) rfl ?_
  refine DF.op 10 [0,1,2,3,4,5,6,7,8,9] 11 rfl rfl rfl (.free rfl (NOp.of (by first | exact g_assign (r := .d _) rfl | exact g_assign (r := .own _ _) rfl | exact g_assign (r := .ptr _ _) rfl | exact g_assign (r := .agg _) rfl | exact g_assign (r := .tup _) rfl | exact g_assign (r := .clo _ _) rfl | exact g_assign (r := .tight _ _ _) rfl | exact g_assign (r := .und) rfl | exact g_assign (r := .dead) rfl))) rfl ?_
  refine DF.fin (ps := [(0, 1), (0, 2), (0, 3), (0, 4), (0, 5), (0, 6), (0, 7), (1, 0), (1, 2), (1, 3), (1, 4), (1, 5), (1, 6), (1, 7), (1, 8), (2, 0), (2, 1), (2, 4), (3, 0), (3, 1), (3, 4), (4, 0), (4, 1), (4, 2), (4, 3), (5, 0), (5, 1), (6, 0), (6, 1), (6, 8), (6, 9), (7, 0), (7, 1), (7, 8), (7, 9), (8, 1), (8, 6), (8, 7), (9, 6), (9, 7)]) 11 rfl (by decide) (by decide) (by rfl) ?_
  refine th_n ?_
  refine AC.ret ?_
  refine bq_r ?_
  exact ret0 rfl (by repeat (first | exact True.intro | refine And.intro ?_ ?_ | exact DLead.same | exact DLead.eqI (by omega) | exact DLead.nil | exact rfl | refine ⟨_, _, rfl, rfl, ?_⟩ | refine ⟨_, rfl, ?_⟩ | refine ⟨_, _, rfl, ?_, ?_⟩))
theorem en_sDrawFire : Enters Try.prog 6 := enters_of Try.func6 rfl rfl
end Go.Proofs.Ythhfhpeeinohiaa
