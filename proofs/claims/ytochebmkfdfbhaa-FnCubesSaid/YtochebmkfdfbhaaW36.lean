/- Walks: draws for the laws on cubes. -/
import Derived.Test.YtochebmkfdfbhaaW35
set_option linter.all false
namespace Go.Proofs.Ytochebmkfdfbhaa
open Go.RowKit

set_option maxHeartbeats 2000000 in
theorem sDrawInter_ex (code : List UInt8) : ∃ a b : List UInt8, a.length ≤ 10 ∧ b.length ≤ 10 ∧ ASpec Try.prog 5 [.d (vB code)] [] (Pure1 (.tup [aS (bstr a), aS (bstr b)])) := by
  have hp0 : (cur0 code).pos = 0 := rfl
  have h1 := (cur0 code).pick_in 4 (by decide)
  have h2 := (cur0 code).pick_pos 4
  have hK1 := pick_spec (cur0 code) 4 (by decide) (by omega)
  obtain ⟨p, hp⟩ : ∃ p, p = (cur0 code).pick 4 := ⟨_, rfl⟩
  rw [← hp] at h1 h2 hK1
  obtain ⟨n, hn⟩ : ∃ n, n = 1 + p.1 := ⟨_, rfl⟩
  have hA := p.2.lits_in [48, 49, 45] n
  have hK2 := cube_spec p.2 n (by omega) (by omega)
  obtain ⟨A, hAA⟩ : ∃ A, A = p.2.lits [48, 49, 45] n := ⟨_, rfl⟩
  rw [← hAA] at hA hK2
  have h3 := A.2.pick_in 15 (by decide)
  have h4 := A.2.pick_pos 15
  have hK3 := pick_spec A.2 15 (by decide) (by omega)
  obtain ⟨q, hq⟩ : ∃ q, q = A.2.pick 15 := ⟨_, rfl⟩
  rw [← hq] at h3 h4 hK3
  have hd : 0 ≤ q.1.tdiv 14 ∧ q.1.tdiv 14 ≤ 1 := by rw [Int.tdiv_eq_ediv_of_nonneg h3.1]; omega
  have hB := q.2.lits_in [48, 49, 45] (n + q.1.tdiv 14)
  have hK4 := cube_spec q.2 (n + q.1.tdiv 14) (by omega) (by omega)
  obtain ⟨B, hBB⟩ : ∃ B, B = q.2.lits [48, 49, 45] (n + q.1.tdiv 14) := ⟨_, rfl⟩
  rw [← hBB] at hB hK4
  refine ⟨A.1, B.1, by omega, by omega, ?_⟩
  refine ASpec.of Try.func5 rfl rfl fun C hC => ?_
  refine AC.seq ?_
  refine AC.region ?_
  refine AL.p (by first | exact as1 rfl | exact as2 rfl | exact as3 rfl | exact as4 rfl | exact as5 rfl | exact as6 rfl | exact as7 rfl | exact as8 rfl | exact as9 rfl) rfl ?_
  refine AL.p (by first | exact as1 rfl | exact as2 rfl | exact as3 rfl | exact as4 rfl | exact as5 rfl | exact as6 rfl | exact as7 rfl | exact as8 rfl | exact as9 rfl) rfl ?_
  refine AL.nil ?_
  refine th_n ?_
  refine AC.seq ?_
  refine AC.region ?_
  refine AL.p (by first | exact mv1 rfl | exact mv2 rfl | exact mv3 rfl | exact mv4 rfl | exact mv5 rfl | exact mv6 rfl | exact mv7 rfl | exact mv8 rfl | exact mv9 rfl) rfl ?_
  refine AL.p (by exact g_build rfl rfl rfl) rfl ?_
  refine AL.q (by exact h_box rfl) rfl ?_
  refine AL.p (by first | exact as1 rfl | exact as2 rfl | exact as3 rfl | exact as4 rfl | exact as5 rfl | exact as6 rfl | exact as7 rfl | exact as8 rfl | exact as9 rfl) rfl ?_
  refine AL.nil ?_
  refine th_n ?_
  refine AC.seq ?_
  refine AC.region ?_
  refine AL.p (by first | exact mv1 rfl | exact mv2 rfl | exact mv3 rfl | exact mv4 rfl | exact mv5 rfl | exact mv6 rfl | exact mv7 rfl | exact mv8 rfl | exact mv9 rfl) rfl ?_
  refine AL.q (by exact h_fun (cs := [0]) en_pick rfl rfl (by repeat (first | exact rfl | exact DLead.same | exact DLead.nil | refine ⟨_, _, rfl, ?_, ?_⟩ | refine ⟨_, rfl, ?_⟩)) (by repeat (first | exact True.intro | refine And.intro ?_ ?_ | exact DLead.same | exact DLead.eqI (by omega) | exact DLead.nil | exact rfl | refine ⟨_, _, rfl, rfl, ?_⟩ | refine ⟨_, rfl, ?_⟩ | refine ⟨_, _, rfl, ?_, ?_⟩)) hK1 rfl rfl rfl rfl) rfl ?_
  refine AL.p (by first | exact g_arith rfl rfl rfl (by first | exact wrap_i64 (by omega) | exact wrap_u8 (by omega) | exact wrap_u64 (by omega) | rfl) | exact g_sadd rfl rfl (by first | assumption | omega | (simp only [ByteArray.size_append, bstr_size, List.length_take, List.length_drop, List.length_cons, List.length_nil]; omega))) rfl ?_
  refine AL.p (by first | exact as1 rfl | exact as2 rfl | exact as3 rfl | exact as4 rfl | exact as5 rfl | exact as6 rfl | exact as7 rfl | exact as8 rfl | exact as9 rfl) rfl ?_
  refine AL.nil ?_
  refine th_n ?_
  refine AC.seq ?_
  rw [← hn]
  refine AC.region ?_
  refine AL.p (by first | exact mv1 rfl | exact mv2 rfl | exact mv3 rfl | exact mv4 rfl | exact mv5 rfl | exact mv6 rfl | exact mv7 rfl | exact mv8 rfl | exact mv9 rfl) rfl ?_
  refine AL.p (by first | exact mv1 rfl | exact mv2 rfl | exact mv3 rfl | exact mv4 rfl | exact mv5 rfl | exact mv6 rfl | exact mv7 rfl | exact mv8 rfl | exact mv9 rfl) rfl ?_
  refine AL.q (by exact h_fun (cs := [0]) en_cube rfl rfl (by repeat (first | exact rfl | exact DLead.same | exact DLead.nil | refine ⟨_, _, rfl, ?_, ?_⟩ | refine ⟨_, rfl, ?_⟩)) (by repeat (first | exact True.intro | refine And.intro ?_ ?_ | exact DLead.same | exact DLead.eqI (by omega) | exact DLead.nil | exact rfl | refine ⟨_, _, rfl, rfl, ?_⟩ | refine ⟨_, rfl, ?_⟩ | refine ⟨_, _, rfl, ?_, ?_⟩)) hK2 rfl rfl rfl rfl) rfl ?_
  refine AL.p (by first | exact mv1 rfl | exact mv2 rfl | exact mv3 rfl | exact mv4 rfl | exact mv5 rfl | exact mv6 rfl | exact mv7 rfl | exact mv8 rfl | exact mv9 rfl) rfl ?_
  refine AL.p (by first | exact mv1 rfl | exact mv2 rfl | exact mv3 rfl | exact mv4 rfl | exact mv5 rfl | exact mv6 rfl | exact mv7 rfl | exact mv8 rfl | exact mv9 rfl) rfl ?_
  refine AL.p (by first | exact mv1 rfl | exact mv2 rfl | exact mv3 rfl | exact mv4 rfl | exact mv5 rfl | exact mv6 rfl | exact mv7 rfl | exact mv8 rfl | exact mv9 rfl) rfl ?_
  refine AL.q (by exact h_fun (cs := [0]) en_pick rfl rfl (by repeat (first | exact rfl | exact DLead.same | exact DLead.nil | refine ⟨_, _, rfl, ?_, ?_⟩ | refine ⟨_, rfl, ?_⟩)) (by repeat (first | exact True.intro | refine And.intro ?_ ?_ | exact DLead.same | exact DLead.eqI (by omega) | exact DLead.nil | exact rfl | refine ⟨_, _, rfl, rfl, ?_⟩ | refine ⟨_, rfl, ?_⟩ | refine ⟨_, _, rfl, ?_, ?_⟩)) hK3 rfl rfl rfl rfl) rfl ?_
  refine AL.p (by exact g_quo rfl rfl (by first | decide | omega) (by first | exact wrap_i64 (by omega) | exact wrap_u8 (by omega) | exact wrap_u64 (by omega) | rfl)) rfl ?_
  refine AL.p (by first | exact g_arith rfl rfl rfl (by first | exact wrap_i64 (by omega) | exact wrap_u8 (by omega) | exact wrap_u64 (by omega) | rfl) | exact g_sadd rfl rfl (by first | assumption | omega | (simp only [ByteArray.size_append, bstr_size, List.length_take, List.length_drop, List.length_cons, List.length_nil]; omega))) rfl ?_
  refine AL.q (by exact h_fun (cs := [0]) en_cube rfl rfl (by repeat (first | exact rfl | exact DLead.same | exact DLead.nil | refine ⟨_, _, rfl, ?_, ?_⟩ | refine ⟨_, rfl, ?_⟩)) (by repeat (first | exact True.intro | refine And.intro ?_ ?_ | exact DLead.same | exact DLead.eqI (by omega) | exact DLead.nil | exact rfl | refine ⟨_, _, rfl, rfl, ?_⟩ | refine ⟨_, rfl, ?_⟩ | refine ⟨_, _, rfl, ?_, ?_⟩)) hK4 rfl rfl rfl rfl) rfl ?_
  refine AL.p (by first | exact as1 rfl | exact as2 rfl | exact as3 rfl | exact as4 rfl | exact as5 rfl | exact as6 rfl | exact as7 rfl | exact as8 rfl | exact as9 rfl) rfl ?_
  refine AL.p (by first | exact as1 rfl | exact as2 rfl | exact as3 rfl | exact as4 rfl | exact as5 rfl | exact as6 rfl | exact as7 rfl | exact as8 rfl | exact as9 rfl) rfl ?_
  refine AL.nil ?_
  refine th_n ?_
  refine AC.ret ?_
  refine bq_r ?_
  exact ret0 rfl (by repeat (first | exact True.intro | refine And.intro ?_ ?_ | exact DLead.same | exact DLead.eqI (by omega) | exact DLead.nil | exact rfl | refine ⟨_, _, rfl, rfl, ?_⟩ | refine ⟨_, rfl, ?_⟩ | refine ⟨_, _, rfl, ?_, ?_⟩))
theorem en_sDrawInter : Enters Try.prog 5 := enters_of Try.func5 rfl rfl
theorem inter_len (a b : List UInt8) : (interI a b).1.length ≤ a.length := by
  unfold interI meetI
  split
  · split
    · exact Nat.le_of_eq (meetV_len _ _ _)
    · exact Nat.zero_le _
  · exact Nat.zero_le _
set_option maxHeartbeats 2000000 in
theorem sDrawSub_ex (code : List UInt8) : ∃ a b : List UInt8, a.length ≤ 10 ∧ b.length ≤ 10 ∧ ASpec Try.prog 13 [.d (vB code)] [] (Pure1 (.tup [aS (bstr a), aS (bstr b)])) := by
  have hp0 : (cur0 code).pos = 0 := rfl
  obtain ⟨a, b, ha, hb, hD⟩ := sDrawInter_ex code
  have hI := sInter_spec a b (by omega) (by omega)
  have hil := inter_len a b
  obtain ⟨M, hM⟩ : ∃ M, M = interI a b := ⟨_, rfl⟩
  rw [← hM] at hI hil
  have hO := one_spec (cur0 code) 2 (by decide) (by omega)
  obtain ⟨p, hp⟩ : ∃ p, p = (cur0 code).pick 2 := ⟨_, rfl⟩
  rw [← hp] at hO
  obtain ⟨g, hg⟩ : ∃ g : Bool, g = (M.2 && decide (p.1 = 0)) := ⟨_, rfl⟩
  refine ⟨if g = true then M.1 else a, if g = true then a else b, by split <;> omega, by split <;> omega, ?_⟩
  refine ASpec.of Try.func13 rfl rfl fun C hC => ?_
  refine AC.seq ?_
  refine AC.region ?_
  refine AL.p (by first | exact as1 rfl | exact as2 rfl | exact as3 rfl | exact as4 rfl | exact as5 rfl | exact as6 rfl | exact as7 rfl | exact as8 rfl | exact as9 rfl) rfl ?_
  refine AL.p (by first | exact as1 rfl | exact as2 rfl | exact as3 rfl | exact as4 rfl | exact as5 rfl | exact as6 rfl | exact as7 rfl | exact as8 rfl | exact as9 rfl) rfl ?_
  refine AL.nil ?_
  refine th_n ?_
  refine AC.seq ?_
  refine AC.region ?_
  refine AL.p (by first | exact mv1 rfl | exact mv2 rfl | exact mv3 rfl | exact mv4 rfl | exact mv5 rfl | exact mv6 rfl | exact mv7 rfl | exact mv8 rfl | exact mv9 rfl) rfl ?_
  refine AL.p (by exact g_build rfl rfl rfl) rfl ?_
  refine AL.q (by exact h_box rfl) rfl ?_
  refine AL.p (by first | exact as1 rfl | exact as2 rfl | exact as3 rfl | exact as4 rfl | exact as5 rfl | exact as6 rfl | exact as7 rfl | exact as8 rfl | exact as9 rfl) rfl ?_
  refine AL.nil ?_
  refine th_n ?_
  refine AC.seq ?_
  refine AC.region ?_
  refine AL.p (by first | exact mv1 rfl | exact mv2 rfl | exact mv3 rfl | exact mv4 rfl | exact mv5 rfl | exact mv6 rfl | exact mv7 rfl | exact mv8 rfl | exact mv9 rfl) rfl ?_
  refine AL.q (by exact h_pure en_sDrawInter rfl rfl (by repeat (first | exact rfl | exact DLead.same | exact DLead.nil | refine ⟨_, _, rfl, ?_, ?_⟩ | refine ⟨_, rfl, ?_⟩)) hD rfl) rfl ?_
  refine AL.p (by first | exact mv1 rfl | exact mv2 rfl | exact mv3 rfl | exact mv4 rfl | exact mv5 rfl | exact mv6 rfl | exact mv7 rfl | exact mv8 rfl | exact mv9 rfl) rfl ?_
  refine AL.p (by first | exact g_extract (r := .d _) rfl rfl | exact g_extract (r := .own _ _) rfl rfl | exact g_extract (r := .agg _) rfl rfl) rfl ?_
  refine AL.p (by first | exact g_extract (r := .d _) rfl rfl | exact g_extract (r := .own _ _) rfl rfl | exact g_extract (r := .agg _) rfl rfl) rfl ?_
  refine AL.p (by first | exact as1 rfl | exact as2 rfl | exact as3 rfl | exact as4 rfl | exact as5 rfl | exact as6 rfl | exact as7 rfl | exact as8 rfl | exact as9 rfl) rfl ?_
  refine AL.p (by first | exact as1 rfl | exact as2 rfl | exact as3 rfl | exact as4 rfl | exact as5 rfl | exact as6 rfl | exact as7 rfl | exact as8 rfl | exact as9 rfl) rfl ?_
  refine AL.nil ?_
  refine th_n ?_
  refine AC.seq ?_
  refine AC.seq ?_
  refine AC.region ?_
  refine AL.p (by first | exact mv1 rfl | exact mv2 rfl | exact mv3 rfl | exact mv4 rfl | exact mv5 rfl | exact mv6 rfl | exact mv7 rfl | exact mv8 rfl | exact mv9 rfl) rfl ?_
  refine AL.p (by first | exact mv1 rfl | exact mv2 rfl | exact mv3 rfl | exact mv4 rfl | exact mv5 rfl | exact mv6 rfl | exact mv7 rfl | exact mv8 rfl | exact mv9 rfl) rfl ?_
  refine AL.q (by exact h_pure en_sInter rfl rfl (by repeat (first | exact rfl | exact DLead.same | exact DLead.nil | refine ⟨_, _, rfl, ?_, ?_⟩ | refine ⟨_, rfl, ?_⟩)) hI rfl) rfl ?_
  refine AL.p (by first | exact mv1 rfl | exact mv2 rfl | exact mv3 rfl | exact mv4 rfl | exact mv5 rfl | exact mv6 rfl | exact mv7 rfl | exact mv8 rfl | exact mv9 rfl) rfl ?_
  refine AL.p (by first | exact g_extract (r := .d _) rfl rfl | exact g_extract (r := .own _ _) rfl rfl | exact g_extract (r := .agg _) rfl rfl) rfl ?_
  refine AL.p (by first | exact g_extract (r := .d _) rfl rfl | exact g_extract (r := .own _ _) rfl rfl | exact g_extract (r := .agg _) rfl rfl) rfl ?_
  refine AL.p (by first | exact as1 rfl | exact as2 rfl | exact as3 rfl | exact as4 rfl | exact as5 rfl | exact as6 rfl | exact as7 rfl | exact as8 rfl | exact as9 rfl) rfl ?_
  refine AL.p (by first | exact as1 rfl | exact as2 rfl | exact as3 rfl | exact as4 rfl | exact as5 rfl | exact as6 rfl | exact as7 rfl | exact as8 rfl | exact as9 rfl) rfl ?_
  refine AL.nil ?_
  refine th_n ?_
  refine AC.seq ?_
  refine AC.region ?_
  refine AL.p (by first | exact mv1 rfl | exact mv2 rfl | exact mv3 rfl | exact mv4 rfl | exact mv5 rfl | exact mv6 rfl | exact mv7 rfl | exact mv8 rfl | exact mv9 rfl) rfl ?_
  refine AL.p (by first | exact mv1 rfl | exact mv2 rfl | exact mv3 rfl | exact mv4 rfl | exact mv5 rfl | exact mv6 rfl | exact mv7 rfl | exact mv8 rfl | exact mv9 rfl) rfl ?_
  first | refine AL.caseG rfl rfl (fun h0 => ?_) (fun h0 => ?_) | refine AL.caseGN rfl rfl (fun h0 => ?_) (fun h0 => ?_) | refine AL.caseGB rfl rfl (fun h0 => ?_) (fun h0 => ?_) | refine AL.caseGNB rfl rfl (fun h0 => ?_) (fun h0 => ?_)
  · refine AL.yes rfl rfl rfl ?_
    refine AL.p (by first | exact mv1 rfl | exact mv2 rfl | exact mv3 rfl | exact mv4 rfl | exact mv5 rfl | exact mv6 rfl | exact mv7 rfl | exact mv8 rfl | exact mv9 rfl) rfl ?_
    refine AL.yes rfl rfl rfl ?_
    refine AL.q (by exact h_fun (cs := [0]) en_one rfl rfl (by repeat (first | exact rfl | exact DLead.same | exact DLead.nil | refine ⟨_, _, rfl, ?_, ?_⟩ | refine ⟨_, rfl, ?_⟩)) (by repeat (first | exact True.intro | refine And.intro ?_ ?_ | exact DLead.same | exact DLead.eqI (by omega) | exact DLead.nil | exact rfl | refine ⟨_, _, rfl, rfl, ?_⟩ | refine ⟨_, rfl, ?_⟩ | refine ⟨_, _, rfl, ?_, ?_⟩)) hO rfl rfl rfl rfl) rfl ?_
    refine AL.p (by first | exact g_pickT (r := .d _) rfl rfl | exact g_pickF (r := .d _) rfl rfl) rfl ?_
    refine AL.nil ?_
    refine th_n ?_
    first | refine AC.condD rfl (fun h1 => ?_) (fun h1 => ?_) | refine AC.condND rfl (fun h1 => ?_) (fun h1 => ?_) | refine AC.condB rfl (fun h1 => ?_) (fun h1 => ?_) | refine AC.condNB rfl (fun h1 => ?_) (fun h1 => ?_)
    · refine AC.seq ?_
      refine AC.region ?_
      refine AL.p (by first | exact mv1 rfl | exact mv2 rfl | exact mv3 rfl | exact mv4 rfl | exact mv5 rfl | exact mv6 rfl | exact mv7 rfl | exact mv8 rfl | exact mv9 rfl) rfl ?_
      refine AL.p (by first | exact mv1 rfl | exact mv2 rfl | exact mv3 rfl | exact mv4 rfl | exact mv5 rfl | exact mv6 rfl | exact mv7 rfl | exact mv8 rfl | exact mv9 rfl) rfl ?_
      refine AL.p (by first | exact as1 rfl | exact as2 rfl | exact as3 rfl | exact as4 rfl | exact as5 rfl | exact as6 rfl | exact as7 rfl | exact as8 rfl | exact as9 rfl) rfl ?_
      refine AL.p (by first | exact as1 rfl | exact as2 rfl | exact as3 rfl | exact as4 rfl | exact as5 rfl | exact as6 rfl | exact as7 rfl | exact as8 rfl | exact as9 rfl) rfl ?_
      refine AL.nil ?_
      refine th_n ?_
      refine AC.ret ?_
      refine th_r ?_
      refine bq_r ?_
      have hgt : g = true := by rw [hg, h0, decide_eq_true h1]; rfl
      rw [if_pos hgt, if_pos hgt]
      exact ret0 rfl (by repeat (first | exact True.intro | refine And.intro ?_ ?_ | exact DLead.same | exact DLead.eqI (by omega) | exact DLead.nil | exact rfl | refine ⟨_, _, rfl, rfl, ?_⟩ | refine ⟨_, rfl, ?_⟩ | refine ⟨_, _, rfl, ?_, ?_⟩))
    · refine AC.skip ?_
      refine th_n ?_
      refine AC.seq ?_
      refine AC.region ?_
      refine AL.p (by first | exact mv1 rfl | exact mv2 rfl | exact mv3 rfl | exact mv4 rfl | exact mv5 rfl | exact mv6 rfl | exact mv7 rfl | exact mv8 rfl | exact mv9 rfl) rfl ?_
      refine AL.p (by first | exact mv1 rfl | exact mv2 rfl | exact mv3 rfl | exact mv4 rfl | exact mv5 rfl | exact mv6 rfl | exact mv7 rfl | exact mv8 rfl | exact mv9 rfl) rfl ?_
      refine AL.p (by first | exact as1 rfl | exact as2 rfl | exact as3 rfl | exact as4 rfl | exact as5 rfl | exact as6 rfl | exact as7 rfl | exact as8 rfl | exact as9 rfl) rfl ?_
      refine AL.p (by first | exact as1 rfl | exact as2 rfl | exact as3 rfl | exact as4 rfl | exact as5 rfl | exact as6 rfl | exact as7 rfl | exact as8 rfl | exact as9 rfl) rfl ?_
      refine AL.nil ?_
      refine th_n ?_
      refine AC.ret ?_
      refine bq_r ?_
      have hgf : ¬ g = true := by first | (rw [hg, h0, decide_eq_false h1]; decide) | (rw [hg, h0]; simp)
      rw [if_neg hgf, if_neg hgf]
      exact ret0 rfl (by repeat (first | exact True.intro | refine And.intro ?_ ?_ | exact DLead.same | exact DLead.eqI (by omega) | exact DLead.nil | exact rfl | refine ⟨_, _, rfl, rfl, ?_⟩ | refine ⟨_, rfl, ?_⟩ | refine ⟨_, _, rfl, ?_, ?_⟩))
  · refine AL.not rfl rfl rfl rfl rfl ?_
    refine AL.not rfl rfl rfl rfl rfl ?_
    refine AL.p (by first | exact g_pickT (r := .d _) rfl rfl | exact g_pickF (r := .d _) rfl rfl) rfl ?_
    refine AL.nil ?_
    refine th_n ?_
    refine AC.condF rfl ?_
    refine AC.skip ?_
    refine th_n ?_
    refine AC.seq ?_
    refine AC.region ?_
    refine AL.p (by first | exact mv1 rfl | exact mv2 rfl | exact mv3 rfl | exact mv4 rfl | exact mv5 rfl | exact mv6 rfl | exact mv7 rfl | exact mv8 rfl | exact mv9 rfl) rfl ?_
    refine AL.p (by first | exact mv1 rfl | exact mv2 rfl | exact mv3 rfl | exact mv4 rfl | exact mv5 rfl | exact mv6 rfl | exact mv7 rfl | exact mv8 rfl | exact mv9 rfl) rfl ?_
    refine AL.p (by first | exact as1 rfl | exact as2 rfl | exact as3 rfl | exact as4 rfl | exact as5 rfl | exact as6 rfl | exact as7 rfl | exact as8 rfl | exact as9 rfl) rfl ?_
    refine AL.p (by first | exact as1 rfl | exact as2 rfl | exact as3 rfl | exact as4 rfl | exact as5 rfl | exact as6 rfl | exact as7 rfl | exact as8 rfl | exact as9 rfl) rfl ?_
    refine AL.nil ?_
    refine th_n ?_
    refine AC.ret ?_
    refine bq_r ?_
    have hgf : ¬ g = true := by first | (rw [hg, h0, decide_eq_false h1]; decide) | (rw [hg, h0]; simp)
    rw [if_neg hgf, if_neg hgf]
    exact ret0 rfl (by repeat (first | exact True.intro | refine And.intro ?_ ?_ | exact DLead.same | exact DLead.eqI (by omega) | exact DLead.nil | exact rfl | refine ⟨_, _, rfl, rfl, ?_⟩ | refine ⟨_, rfl, ?_⟩ | refine ⟨_, _, rfl, ?_, ?_⟩))
theorem en_sDrawSub : Enters Try.prog 13 := enters_of Try.func13 rfl rfl
set_option maxHeartbeats 2000000 in
theorem sDrawHas_ex (code : List UInt8) : ∃ a b : List UInt8, a.length ≤ 10 ∧ b.length ≤ 10 ∧ ASpec Try.prog 15 [.d (vB code)] [] (Pure1 (.tup [aS (bstr a), aS (bstr b)])) := by
  have hp0 : (cur0 code).pos = 0 := rfl
  have h1 := (cur0 code).pick_in 4 (by decide)
  have h2 := (cur0 code).pick_pos 4
  have hK1 := pick_spec (cur0 code) 4 (by decide) (by omega)
  obtain ⟨p, hp⟩ : ∃ p, p = (cur0 code).pick 4 := ⟨_, rfl⟩
  rw [← hp] at h1 h2 hK1
  obtain ⟨n, hn⟩ : ∃ n, n = 1 + p.1 := ⟨_, rfl⟩
  have h3 := p.2.pick_in 15 (by decide)
  have h4 := p.2.pick_pos 15
  have hK2 := pick_spec p.2 15 (by decide) (by omega)
  obtain ⟨q, hq⟩ : ∃ q, q = p.2.pick 15 := ⟨_, rfl⟩
  rw [← hq] at h3 h4 hK2
  have hd : 0 ≤ q.1.tdiv 14 ∧ q.1.tdiv 14 ≤ 1 := by rw [Int.tdiv_eq_ediv_of_nonneg h3.1]; omega
  have hA := q.2.lits_in [48, 49] (n + q.1.tdiv 14)
  have hK3 := code1_spec q.2 (n + q.1.tdiv 14) (by omega) (by omega)
  obtain ⟨A, hAA⟩ : ∃ A, A = q.2.lits [48, 49] (n + q.1.tdiv 14) := ⟨_, rfl⟩
  rw [← hAA] at hA hK3
  have h5 := A.2.pick_pos 15
  have hK4 := one_spec A.2 15 (by decide) (by omega)
  obtain ⟨o, ho⟩ : ∃ o, o = A.2.pick 15 := ⟨_, rfl⟩
  rw [← ho] at h5 hK4
  have h6 := o.2.spoilt_in A.1 [48, 49, 45]
  have hK5 := spoilt_spec o.2 A.1 [48, 49, 45] (by omega) (by decide) (by decide) (by omega)
  obtain ⟨Z, hZ⟩ : ∃ Z, Z = o.2.spoilt A.1 [48, 49, 45] := ⟨_, rfl⟩
  rw [← hZ] at h6 hK5
  obtain ⟨W, hW⟩ : ∃ W : List UInt8 × Cur, W = if o.1 = 0 then Z else (A.1, o.2) := ⟨_, rfl⟩
  have hWl : W.1.length ≤ 10 ∧ W.2.pos ≤ 1000 := by
    rw [hW]
    split
    · exact ⟨by omega, by omega⟩
    · exact ⟨by show A.1.length ≤ 10; omega, by show o.2.pos ≤ 1000; omega⟩
  have hB := W.2.lits_in [48, 49, 45] n
  have hK6 := cube_spec W.2 n (by omega) (by omega)
  obtain ⟨B, hBB⟩ : ∃ B, B = W.2.lits [48, 49, 45] n := ⟨_, rfl⟩
  rw [← hBB] at hB hK6
  refine ⟨B.1, W.1, by omega, hWl.1, ?_⟩
  refine ASpec.of Try.func15 rfl rfl fun C hC => ?_
  refine AC.seq ?_
  refine AC.region ?_
  refine AL.p (by first | exact as1 rfl | exact as2 rfl | exact as3 rfl | exact as4 rfl | exact as5 rfl | exact as6 rfl | exact as7 rfl | exact as8 rfl | exact as9 rfl) rfl ?_
  refine AL.p (by first | exact as1 rfl | exact as2 rfl | exact as3 rfl | exact as4 rfl | exact as5 rfl | exact as6 rfl | exact as7 rfl | exact as8 rfl | exact as9 rfl) rfl ?_
  refine AL.nil ?_
  refine th_n ?_
  refine AC.seq ?_
  refine AC.region ?_
  refine AL.p (by first | exact mv1 rfl | exact mv2 rfl | exact mv3 rfl | exact mv4 rfl | exact mv5 rfl | exact mv6 rfl | exact mv7 rfl | exact mv8 rfl | exact mv9 rfl) rfl ?_
  refine AL.p (by exact g_build rfl rfl rfl) rfl ?_
  refine AL.q (by exact h_box rfl) rfl ?_
  refine AL.p (by first | exact as1 rfl | exact as2 rfl | exact as3 rfl | exact as4 rfl | exact as5 rfl | exact as6 rfl | exact as7 rfl | exact as8 rfl | exact as9 rfl) rfl ?_
  refine AL.nil ?_
  refine th_n ?_
  refine AC.seq ?_
  refine AC.region ?_
  refine AL.p (by first | exact mv1 rfl | exact mv2 rfl | exact mv3 rfl | exact mv4 rfl | exact mv5 rfl | exact mv6 rfl | exact mv7 rfl | exact mv8 rfl | exact mv9 rfl) rfl ?_
  refine AL.q (by exact h_fun (cs := [0]) en_pick rfl rfl (by repeat (first | exact rfl | exact DLead.same | exact DLead.nil | refine ⟨_, _, rfl, ?_, ?_⟩ | refine ⟨_, rfl, ?_⟩)) (by repeat (first | exact True.intro | refine And.intro ?_ ?_ | exact DLead.same | exact DLead.eqI (by omega) | exact DLead.nil | exact rfl | refine ⟨_, _, rfl, rfl, ?_⟩ | refine ⟨_, rfl, ?_⟩ | refine ⟨_, _, rfl, ?_, ?_⟩)) hK1 rfl rfl rfl rfl) rfl ?_
  refine AL.p (by first | exact g_arith rfl rfl rfl (by first | exact wrap_i64 (by omega) | exact wrap_u8 (by omega) | exact wrap_u64 (by omega) | rfl) | exact g_sadd rfl rfl (by first | assumption | omega | (simp only [ByteArray.size_append, bstr_size, List.length_take, List.length_drop, List.length_cons, List.length_nil]; omega))) rfl ?_
  refine AL.p (by first | exact as1 rfl | exact as2 rfl | exact as3 rfl | exact as4 rfl | exact as5 rfl | exact as6 rfl | exact as7 rfl | exact as8 rfl | exact as9 rfl) rfl ?_
  refine AL.nil ?_
  refine th_n ?_
  refine AC.seq ?_
  rw [← hn]
  refine AC.region ?_
  refine AL.p (by first | exact mv1 rfl | exact mv2 rfl | exact mv3 rfl | exact mv4 rfl | exact mv5 rfl | exact mv6 rfl | exact mv7 rfl | exact mv8 rfl | exact mv9 rfl) rfl ?_
  refine AL.p (by first | exact mv1 rfl | exact mv2 rfl | exact mv3 rfl | exact mv4 rfl | exact mv5 rfl | exact mv6 rfl | exact mv7 rfl | exact mv8 rfl | exact mv9 rfl) rfl ?_
  refine AL.p (by first | exact mv1 rfl | exact mv2 rfl | exact mv3 rfl | exact mv4 rfl | exact mv5 rfl | exact mv6 rfl | exact mv7 rfl | exact mv8 rfl | exact mv9 rfl) rfl ?_
  refine AL.q (by exact h_fun (cs := [0]) en_pick rfl rfl (by repeat (first | exact rfl | exact DLead.same | exact DLead.nil | refine ⟨_, _, rfl, ?_, ?_⟩ | refine ⟨_, rfl, ?_⟩)) (by repeat (first | exact True.intro | refine And.intro ?_ ?_ | exact DLead.same | exact DLead.eqI (by omega) | exact DLead.nil | exact rfl | refine ⟨_, _, rfl, rfl, ?_⟩ | refine ⟨_, rfl, ?_⟩ | refine ⟨_, _, rfl, ?_, ?_⟩)) hK2 rfl rfl rfl rfl) rfl ?_
  refine AL.p (by exact g_quo rfl rfl (by first | decide | omega) (by first | exact wrap_i64 (by omega) | exact wrap_u8 (by omega) | exact wrap_u64 (by omega) | rfl)) rfl ?_
  refine AL.p (by first | exact g_arith rfl rfl rfl (by first | exact wrap_i64 (by omega) | exact wrap_u8 (by omega) | exact wrap_u64 (by omega) | rfl) | exact g_sadd rfl rfl (by first | assumption | omega | (simp only [ByteArray.size_append, bstr_size, List.length_take, List.length_drop, List.length_cons, List.length_nil]; omega))) rfl ?_
  refine AL.q (by exact h_fun (cs := [0]) en_code1 rfl rfl (by repeat (first | exact rfl | exact DLead.same | exact DLead.nil | refine ⟨_, _, rfl, ?_, ?_⟩ | refine ⟨_, rfl, ?_⟩)) (by repeat (first | exact True.intro | refine And.intro ?_ ?_ | exact DLead.same | exact DLead.eqI (by omega) | exact DLead.nil | exact rfl | refine ⟨_, _, rfl, rfl, ?_⟩ | refine ⟨_, rfl, ?_⟩ | refine ⟨_, _, rfl, ?_, ?_⟩)) hK3 rfl rfl rfl rfl) rfl ?_
  refine AL.p (by first | exact as1 rfl | exact as2 rfl | exact as3 rfl | exact as4 rfl | exact as5 rfl | exact as6 rfl | exact as7 rfl | exact as8 rfl | exact as9 rfl) rfl ?_
  refine AL.nil ?_
  refine th_n ?_
  refine AC.cut (fun (_ : Unit) => ⟨29, 108, [(4, .ptr 100 0), (5, aI n), (6, aS (bstr W.1))], [(100, some (curC W.2))]⟩) (fun _ => True) ?_ ?_
  · refine AC.seq ?_
    refine AC.region ?_
    refine AL.p (by first | exact mv1 rfl | exact mv2 rfl | exact mv3 rfl | exact mv4 rfl | exact mv5 rfl | exact mv6 rfl | exact mv7 rfl | exact mv8 rfl | exact mv9 rfl) rfl ?_
    refine AL.q (by exact h_fun (cs := [0]) en_one rfl rfl (by repeat (first | exact rfl | exact DLead.same | exact DLead.nil | refine ⟨_, _, rfl, ?_, ?_⟩ | refine ⟨_, rfl, ?_⟩)) (by repeat (first | exact True.intro | refine And.intro ?_ ?_ | exact DLead.same | exact DLead.eqI (by omega) | exact DLead.nil | exact rfl | refine ⟨_, _, rfl, rfl, ?_⟩ | refine ⟨_, rfl, ?_⟩ | refine ⟨_, _, rfl, ?_, ?_⟩)) hK4 rfl rfl rfl rfl) rfl ?_
    refine AL.nil ?_
    refine th_n ?_
    first | refine AC.condD rfl (fun h0 => ?_) (fun h0 => ?_) | refine AC.condND rfl (fun h0 => ?_) (fun h0 => ?_) | refine AC.condB rfl (fun h0 => ?_) (fun h0 => ?_) | refine AC.condNB rfl (fun h0 => ?_) (fun h0 => ?_)
    · refine AC.region ?_
      refine AL.p (by first | exact mv1 rfl | exact mv2 rfl | exact mv3 rfl | exact mv4 rfl | exact mv5 rfl | exact mv6 rfl | exact mv7 rfl | exact mv8 rfl | exact mv9 rfl) rfl ?_
      refine AL.p (by first | exact mv1 rfl | exact mv2 rfl | exact mv3 rfl | exact mv4 rfl | exact mv5 rfl | exact mv6 rfl | exact mv7 rfl | exact mv8 rfl | exact mv9 rfl) rfl ?_
      refine AL.q (by exact h_fun (cs := [0]) en_spoilt rfl rfl (by repeat (first | exact rfl | exact DLead.same | exact DLead.nil | refine ⟨_, _, rfl, ?_, ?_⟩ | refine ⟨_, rfl, ?_⟩)) (by repeat (first | exact True.intro | refine And.intro ?_ ?_ | exact DLead.same | exact DLead.eqI (by omega) | exact DLead.nil | exact rfl | refine ⟨_, _, rfl, rfl, ?_⟩ | refine ⟨_, rfl, ?_⟩ | refine ⟨_, _, rfl, ?_, ?_⟩)) hK5 rfl rfl rfl rfl) rfl ?_
      refine AL.p (by first | exact as1 rfl | exact as2 rfl | exact as3 rfl | exact as4 rfl | exact as5 rfl | exact as6 rfl | exact as7 rfl | exact as8 rfl | exact as9 rfl) rfl ?_
      refine AL.nil ?_
      refine th_n ?_
      first | (have e := hW.trans (if_pos h0); exact ⟨(), trivial, Weak.ren _ [(100, _)] hC rfl (by rw [e]; repeat (first | exact True.intro | refine And.intro ?_ ?_ | exact DLead.same | exact DLead.eqI (by omega) | exact DLead.nil | exact rfl | refine ⟨_, _, rfl, rfl, ?_⟩ | refine ⟨_, rfl, ?_⟩ | refine ⟨_, _, rfl, ?_, ?_⟩)) (by rw [e]; repeat (first | exact True.intro | refine And.intro ?_ ?_ | exact DLead.same | exact DLead.eqI (by omega) | exact DLead.nil | exact rfl | refine ⟨_, _, rfl, rfl, ?_⟩ | refine ⟨_, rfl, ?_⟩ | refine ⟨_, _, rfl, ?_, ?_⟩)) rfl rfl rfl⟩) | (have e := hW.trans (if_neg h0); exact ⟨(), trivial, Weak.ren _ [(100, _)] hC rfl (by rw [e]; repeat (first | exact True.intro | refine And.intro ?_ ?_ | exact DLead.same | exact DLead.eqI (by omega) | exact DLead.nil | exact rfl | refine ⟨_, _, rfl, rfl, ?_⟩ | refine ⟨_, rfl, ?_⟩ | refine ⟨_, _, rfl, ?_, ?_⟩)) (by rw [e]; repeat (first | exact True.intro | refine And.intro ?_ ?_ | exact DLead.same | exact DLead.eqI (by omega) | exact DLead.nil | exact rfl | refine ⟨_, _, rfl, rfl, ?_⟩ | refine ⟨_, rfl, ?_⟩ | refine ⟨_, _, rfl, ?_, ?_⟩)) rfl rfl rfl⟩)
    · refine AC.skip ?_
      refine th_n ?_
      first | (have e := hW.trans (if_pos h0); exact ⟨(), trivial, Weak.ren _ [(100, _)] hC rfl (by rw [e]; repeat (first | exact True.intro | refine And.intro ?_ ?_ | exact DLead.same | exact DLead.eqI (by omega) | exact DLead.nil | exact rfl | refine ⟨_, _, rfl, rfl, ?_⟩ | refine ⟨_, rfl, ?_⟩ | refine ⟨_, _, rfl, ?_, ?_⟩)) (by rw [e]; repeat (first | exact True.intro | refine And.intro ?_ ?_ | exact DLead.same | exact DLead.eqI (by omega) | exact DLead.nil | exact rfl | refine ⟨_, _, rfl, rfl, ?_⟩ | refine ⟨_, rfl, ?_⟩ | refine ⟨_, _, rfl, ?_, ?_⟩)) rfl rfl rfl⟩) | (have e := hW.trans (if_neg h0); exact ⟨(), trivial, Weak.ren _ [(100, _)] hC rfl (by rw [e]; repeat (first | exact True.intro | refine And.intro ?_ ?_ | exact DLead.same | exact DLead.eqI (by omega) | exact DLead.nil | exact rfl | refine ⟨_, _, rfl, rfl, ?_⟩ | refine ⟨_, rfl, ?_⟩ | refine ⟨_, _, rfl, ?_, ?_⟩)) (by rw [e]; repeat (first | exact True.intro | refine And.intro ?_ ?_ | exact DLead.same | exact DLead.eqI (by omega) | exact DLead.nil | exact rfl | refine ⟨_, _, rfl, rfl, ?_⟩ | refine ⟨_, rfl, ?_⟩ | refine ⟨_, _, rfl, ?_, ?_⟩)) rfl rfl rfl⟩)
  · intro _ _
    refine AC.seq ?_
    refine AC.region ?_
    refine AL.p (by first | exact mv1 rfl | exact mv2 rfl | exact mv3 rfl | exact mv4 rfl | exact mv5 rfl | exact mv6 rfl | exact mv7 rfl | exact mv8 rfl | exact mv9 rfl) rfl ?_
    refine AL.p (by first | exact mv1 rfl | exact mv2 rfl | exact mv3 rfl | exact mv4 rfl | exact mv5 rfl | exact mv6 rfl | exact mv7 rfl | exact mv8 rfl | exact mv9 rfl) rfl ?_
    refine AL.q (by exact h_fun (cs := [100]) en_cube rfl rfl (by repeat (first | exact rfl | exact DLead.same | exact DLead.nil | refine ⟨_, _, rfl, ?_, ?_⟩ | refine ⟨_, rfl, ?_⟩)) (by repeat (first | exact True.intro | refine And.intro ?_ ?_ | exact DLead.same | exact DLead.eqI (by omega) | exact DLead.nil | exact rfl | refine ⟨_, _, rfl, rfl, ?_⟩ | refine ⟨_, rfl, ?_⟩ | refine ⟨_, _, rfl, ?_, ?_⟩)) hK6 rfl rfl rfl rfl) rfl ?_
    refine AL.p (by first | exact mv1 rfl | exact mv2 rfl | exact mv3 rfl | exact mv4 rfl | exact mv5 rfl | exact mv6 rfl | exact mv7 rfl | exact mv8 rfl | exact mv9 rfl) rfl ?_
    refine AL.p (by first | exact as1 rfl | exact as2 rfl | exact as3 rfl | exact as4 rfl | exact as5 rfl | exact as6 rfl | exact as7 rfl | exact as8 rfl | exact as9 rfl) rfl ?_
    refine AL.p (by first | exact as1 rfl | exact as2 rfl | exact as3 rfl | exact as4 rfl | exact as5 rfl | exact as6 rfl | exact as7 rfl | exact as8 rfl | exact as9 rfl) rfl ?_
    refine AL.nil ?_
    refine th_n ?_
    refine AC.ret ?_
    refine bq_r ?_
    exact ret0 rfl (by repeat (first | exact True.intro | refine And.intro ?_ ?_ | exact DLead.same | exact DLead.eqI (by omega) | exact DLead.nil | exact rfl | refine ⟨_, _, rfl, rfl, ?_⟩ | refine ⟨_, rfl, ?_⟩ | refine ⟨_, _, rfl, ?_, ?_⟩))
theorem en_sDrawHas : Enters Try.prog 15 := enters_of Try.func15 rfl rfl
/-- append over lists of strings. -/
theorem h_appendS (acc new : List (List UInt8)) {s : ASt} {dst : Option Nat} {ty : Nat} {pos : String} {af : Array Edge} {gd : Option (Nat × Bool)} {x y : Operand} {f : Nat} {ids ids2 : List Nat} {gone : List (Nat × Option Chunk)}
    (hto : AppTo s x 9 1 (strsL acc) ids gone) (harg : AppArg s y 1 (strsL new) ids2) (h : (acc ++ new).length ≤ 100000000) (hnew : gone = [] → 0 < new.length) :
    NOp Try.prog (ids ++ ids2) s ⟨dst, .call { callee := .builtin .append, args := #[x, y], argTypes := #[30, 30] }, ty, pos, af, gd⟩ f ⟨.own f (acc ++ new).length, (f, some (.arr 9 1 (strsL (acc ++ new)))) :: gone⟩ := by
  have := h_append (P := Try.prog) (s := s) (dst := dst) (ty := ty) (pos := pos) (af := af) (gd := gd) (x := x) (y := y) (f := f) (t := 30) (tx := 30) (k := (acc ++ new).length) rfl rfl rfl rfl rfl rfl hto harg (by simp) (by omega) (by show (acc ++ new).length * 16 ≤ _; omega) (fun h => by rw [List.length_map]; exact hnew h)
  rwa [← List.map_append] at this
def dsN (n : Int) : Nat → Cur → List (List UInt8) → List (List UInt8) × Cur
  | 0, c, l => (l, c)
  | j + 1, c, l => dsN n j (c.lits [48, 49] n).2 (l ++ [(c.lits [48, 49] n).1])
theorem dsN_in (n : Int) (hn : n ≤ 4) : ∀ (j : Nat) (c : Cur) (l : List (List UInt8)), (∀ t, t ∈ l → t.length ≤ 4) → (dsN n j c l).1.length = l.length + j ∧ (∀ t, t ∈ (dsN n j c l).1 → t.length ≤ 4) ∧ (dsN n j c l).2.pos ≤ c.pos + 8 * j
  | 0, c, l, h => ⟨rfl, h, Nat.le_refl _⟩
  | j + 1, c, l, h => by
    have h1 := c.lits_in [48, 49] n
    have h2 := dsN_in n hn j (c.lits [48, 49] n).2 (l ++ [(c.lits [48, 49] n).1]) (fun t ht => by
      rcases List.mem_append.1 ht with h' | h'
      · exact h t h'
      · rw [List.mem_singleton] at h'; subst h'; omega)
    simp only [List.length_append, List.length_cons, List.length_nil] at h2
    simp only [dsN]
    exact ⟨by omega, h2.2.1, by omega⟩
theorem strsL_len (l : List (List UInt8)) : (strsL l).length = l.length := List.length_map _
theorem strsL_all (l : List (List UInt8)) : (strsL l).take l.length = strsL l := by rw [List.take_of_length_le (by simp)]
theorem strsL_set (l : List (List UInt8)) (i : Nat) (s : List UInt8) : (strsL l).set i [dS (bstr s)] = strsL (l.set i s) := by simp [strsL, List.map_set]
theorem ne_t {g : Bool} (h : g = false) : ¬ g = true := by rw [h]; exact Bool.false_ne_true
theorem band_t {n : Nat} {x : Int} (h1 : 0 < (n : Int)) (h2 : x = 0) : (decide (0 < n) && decide (x = 0)) = true := by rw [decide_eq_true (by omega : 0 < n), decide_eq_true h2]; rfl
theorem band_f1 {n : Nat} {x : Int} (h1 : ¬ 0 < (n : Int)) : (decide (0 < n) && decide (x = 0)) = false := by rw [decide_eq_false (by omega : ¬ 0 < n)]; rfl
theorem band_f2 {n : Nat} {x : Int} (h1 : ¬ x = 0) : (decide (0 < n) && decide (x = 0)) = false := by rw [decide_eq_false h1, Bool.and_false]
set_option maxHeartbeats 4000000 in
theorem sDrawSuper_ex (code : List UInt8) : ∃ l : List (List UInt8), l.length ≤ 10 ∧ (∀ t, t ∈ l → t.length ≤ 10) ∧ ASpec Try.prog 9 [.d (vB code)] [] (Pure1 (.d (vSs l))) := by
  have hp0 : (cur0 code).pos = 0 := rfl
  have h1 := (cur0 code).pick_in 4 (by decide)
  have h2 := (cur0 code).pick_pos 4
  have hK1 := pick_spec (cur0 code) 4 (by decide) (by omega)
  obtain ⟨p, hp⟩ : ∃ p, p = (cur0 code).pick 4 := ⟨_, rfl⟩
  rw [← hp] at h1 h2 hK1
  obtain ⟨n, hn⟩ : ∃ n, n = 1 + p.1 := ⟨_, rfl⟩
  have h3 := p.2.pick_in 5 (by decide)
  have h4 := p.2.pick_pos 5
  have hK2 := pick_spec p.2 5 (by decide) (by omega)
  obtain ⟨q, hq⟩ : ∃ q, q = p.2.pick 5 := ⟨_, rfl⟩
  rw [← hq] at h3 h4 hK2
  have hZ := dsN_in n (by omega) q.1.toNat q.2 [] (fun t ht => by cases ht)
  obtain ⟨Z, hZZ⟩ : ∃ Z, Z = dsN n q.1.toNat q.2 [] := ⟨_, rfl⟩
  rw [← hZZ] at hZ
  simp only [List.length_nil] at hZ
  have hK3 := one_spec Z.2 12 (by decide) (by omega)
  obtain ⟨o, ho⟩ : ∃ o, o = Z.2.pick 12 := ⟨_, rfl⟩
  rw [← ho] at hK3
  obtain ⟨g, hg⟩ : ∃ g : Bool, g = (decide (0 < Z.1.length) && decide (o.1 = 0)) := ⟨_, rfl⟩
  obtain ⟨y, hy⟩ : ∃ y, y = Z.1.getD (Z.1.length - 1) [] ++ [49] := ⟨_, rfl⟩
  refine ⟨if g = true then Z.1.set (Z.1.length - 1) y else Z.1, by split; rw [List.length_set]; omega; omega, fun t ht => ?_, ?_⟩
  · split at ht
    · rename_i hgt
      rcases List.mem_or_eq_of_mem_set ht with h' | rfl
      · have := hZ.2.1 t h'; omega
      · rw [hy, List.length_append]
        rw [hg, Bool.and_eq_true, decide_eq_true_eq] at hgt
        have hm : Z.1.getD (Z.1.length - 1) [] ∈ Z.1 := by rw [List.getD_eq_getElem?_getD, List.getElem?_eq_getElem (by omega)]; exact List.getElem_mem _
        have := hZ.2.1 _ hm
        show _ + 1 ≤ 10; omega
    · have := hZ.2.1 t ht; omega
  refine ASpec.of Try.func9 rfl rfl fun C hC => ?_
  refine AC.seq ?_
  refine AC.region ?_
  refine AL.p (by first | exact as1 rfl | exact as2 rfl | exact as3 rfl | exact as4 rfl | exact as5 rfl | exact as6 rfl | exact as7 rfl | exact as8 rfl | exact as9 rfl) rfl ?_
  refine AL.nil ?_
  refine th_n ?_
  refine AC.seq ?_
  refine AC.region ?_
  refine AL.p (by first | exact mv1 rfl | exact mv2 rfl | exact mv3 rfl | exact mv4 rfl | exact mv5 rfl | exact mv6 rfl | exact mv7 rfl | exact mv8 rfl | exact mv9 rfl) rfl ?_
  refine AL.p (by exact g_build rfl rfl rfl) rfl ?_
  refine AL.q (by exact h_box rfl) rfl ?_
  refine AL.p (by first | exact as1 rfl | exact as2 rfl | exact as3 rfl | exact as4 rfl | exact as5 rfl | exact as6 rfl | exact as7 rfl | exact as8 rfl | exact as9 rfl) rfl ?_
  refine AL.nil ?_
  refine th_n ?_
  refine AC.seq ?_
  refine AC.region ?_
  refine AL.p (by first | exact mv1 rfl | exact mv2 rfl | exact mv3 rfl | exact mv4 rfl | exact mv5 rfl | exact mv6 rfl | exact mv7 rfl | exact mv8 rfl | exact mv9 rfl) rfl ?_
  refine AL.q (by exact h_fun (cs := [0]) en_pick rfl rfl (by repeat (first | exact rfl | exact DLead.same | exact DLead.nil | refine ⟨_, _, rfl, ?_, ?_⟩ | refine ⟨_, rfl, ?_⟩)) (by repeat (first | exact True.intro | refine And.intro ?_ ?_ | exact DLead.same | exact DLead.eqI (by omega) | exact DLead.nil | exact rfl | refine ⟨_, _, rfl, rfl, ?_⟩ | refine ⟨_, rfl, ?_⟩ | refine ⟨_, _, rfl, ?_, ?_⟩)) hK1 rfl rfl rfl rfl) rfl ?_
  refine AL.p (by first | exact g_arith rfl rfl rfl (by first | exact wrap_i64 (by omega) | exact wrap_u8 (by omega) | exact wrap_u64 (by omega) | rfl) | exact g_sadd rfl rfl (by first | assumption | omega | (simp only [ByteArray.size_append, bstr_size, List.length_take, List.length_drop, List.length_cons, List.length_nil]; omega))) rfl ?_
  refine AL.p (by first | exact as1 rfl | exact as2 rfl | exact as3 rfl | exact as4 rfl | exact as5 rfl | exact as6 rfl | exact as7 rfl | exact as8 rfl | exact as9 rfl) rfl ?_
  refine AL.nil ?_
  refine th_n ?_
  refine AC.seq ?_
  rw [← hn]
  refine AC.region ?_
  refine AL.p (by first | exact as1 rfl | exact as2 rfl | exact as3 rfl | exact as4 rfl | exact as5 rfl | exact as6 rfl | exact as7 rfl | exact as8 rfl | exact as9 rfl) rfl ?_
  refine AL.nil ?_
  refine th_n ?_
  refine AC.seq ?_
  refine AC.seq ?_
  refine AC.region ?_
  refine AL.p (by first | exact mv1 rfl | exact mv2 rfl | exact mv3 rfl | exact mv4 rfl | exact mv5 rfl | exact mv6 rfl | exact mv7 rfl | exact mv8 rfl | exact mv9 rfl) rfl ?_
  refine AL.q (by exact h_fun (cs := [0]) en_pick rfl rfl (by repeat (first | exact rfl | exact DLead.same | exact DLead.nil | refine ⟨_, _, rfl, ?_, ?_⟩ | refine ⟨_, rfl, ?_⟩)) (by repeat (first | exact True.intro | refine And.intro ?_ ?_ | exact DLead.same | exact DLead.eqI (by omega) | exact DLead.nil | exact rfl | refine ⟨_, _, rfl, rfl, ?_⟩ | refine ⟨_, rfl, ?_⟩ | refine ⟨_, _, rfl, ?_, ?_⟩)) hK2 rfl rfl rfl rfl) rfl ?_
  refine AL.p (by first | exact as1 rfl | exact as2 rfl | exact as3 rfl | exact as4 rfl | exact as5 rfl | exact as6 rfl | exact as7 rfl | exact as8 rfl | exact as9 rfl) rfl ?_
  refine AL.nil ?_
  refine th_n ?_
  refine AC.block ?_
  refine AC.loop (ι := Nat × Cur × List (List UInt8)) (fun x => ⟨41, 128, [(3, .ptr 101 0), (4, aI n), (5, .own 100 x.2.2.length), (6, aI x.1)], [(100, some (.arr 9 1 (strsL x.2.2))), (101, some (curC x.2.1))]⟩) (fun x => dsN n x.1 x.2.1 x.2.2 = Z ∧ x.2.2.length + x.1 ≤ 10 ∧ x.2.1.pos ≤ 1000 + 8 * (5 - x.1) ∧ x.1 ≤ 5) (fun x => x.1) ((q.1.toNat, q.2, [])) ?_ (⟨hZZ.symm, by show 0 + q.1.toNat ≤ 10; omega, by show q.2.pos ≤ _; omega, by show q.1.toNat ≤ 5; omega⟩) ?_
  · exact (Weak.nilOwn (i := 5) (e := 9) (sz := 1) rfl (by decide)).trans (Weak.ren _ [(100, _), (101, _)] hC rfl (by repeat (first | exact True.intro | refine And.intro ?_ ?_ | exact DLead.same | exact DLead.eqI (by omega) | exact DLead.nil | exact rfl | refine ⟨_, _, rfl, rfl, ?_⟩ | refine ⟨_, rfl, ?_⟩ | refine ⟨_, _, rfl, ?_, ?_⟩)) (by repeat (first | exact True.intro | refine And.intro ?_ ?_ | exact DLead.same | exact DLead.eqI (by omega) | exact DLead.nil | exact rfl | refine ⟨_, _, rfl, rfl, ?_⟩ | refine ⟨_, rfl, ?_⟩ | refine ⟨_, _, rfl, ?_, ?_⟩)) rfl rfl rfl)
  · rintro ⟨j, cc, l⟩ ⟨hsub, hlen, hpos, hj5⟩
    dsimp only at hsub hlen hpos hj5 ⊢
    refine AC.seq ?_
    refine AC.seq ?_
    refine AC.region ?_
    refine AL.p (by first | exact mv1 rfl | exact mv2 rfl | exact mv3 rfl | exact mv4 rfl | exact mv5 rfl | exact mv6 rfl | exact mv7 rfl | exact mv8 rfl | exact mv9 rfl) rfl ?_
    refine AL.p (by first | exact g_cmp rfl rfl rfl | exact g_scmp rfl rfl rfl | exact g_eqB rfl rfl rfl | exact g_neB rfl rfl rfl) rfl ?_
    refine AL.nil ?_
    refine th_n ?_
    first | refine AC.condD rfl (fun h0 => ?_) (fun h0 => ?_) | refine AC.condND rfl (fun h0 => ?_) (fun h0 => ?_) | refine AC.condB rfl (fun h0 => ?_) (fun h0 => ?_) | refine AC.condNB rfl (fun h0 => ?_) (fun h0 => ?_)
    · refine AC.skip ?_
      refine th_n ?_
      refine AC.seq ?_
      refine AC.block ?_
      obtain ⟨i, rfl⟩ : ∃ i, j = i + 1 := ⟨j - 1, by omega⟩
      have hcl := cc.lits_in [48, 49] n
      have hKc := code1_spec cc n (by omega) (by omega)
      have hsub2 : dsN n i (cc.lits [48, 49] n).2 (l ++ [(cc.lits [48, 49] n).1]) = Z := hsub
      obtain ⟨A, hA⟩ : ∃ A, A = cc.lits [48, 49] n := ⟨_, rfl⟩
      rw [← hA] at hcl hKc hsub2
      refine AC.region ?_
      refine AL.p (by first | exact mv1 rfl | exact mv2 rfl | exact mv3 rfl | exact mv4 rfl | exact mv5 rfl | exact mv6 rfl | exact mv7 rfl | exact mv8 rfl | exact mv9 rfl) rfl ?_
      refine AL.p (by first | exact mv1 rfl | exact mv2 rfl | exact mv3 rfl | exact mv4 rfl | exact mv5 rfl | exact mv6 rfl | exact mv7 rfl | exact mv8 rfl | exact mv9 rfl) rfl ?_
      refine AL.p (by first | exact mv1 rfl | exact mv2 rfl | exact mv3 rfl | exact mv4 rfl | exact mv5 rfl | exact mv6 rfl | exact mv7 rfl | exact mv8 rfl | exact mv9 rfl) rfl ?_
      refine AL.q (by exact h_fun (cs := [101]) en_code1 rfl rfl (by repeat (first | exact rfl | exact DLead.same | exact DLead.nil | refine ⟨_, _, rfl, ?_, ?_⟩ | refine ⟨_, rfl, ?_⟩)) (by repeat (first | exact True.intro | refine And.intro ?_ ?_ | exact DLead.same | exact DLead.eqI (by omega) | exact DLead.nil | exact rfl | refine ⟨_, _, rfl, rfl, ?_⟩ | refine ⟨_, rfl, ?_⟩ | refine ⟨_, _, rfl, ?_, ?_⟩)) hKc rfl rfl rfl rfl) rfl ?_
      refine AL.q (by exact h_litF rfl rfl rfl rfl rfl rfl rfl rfl) rfl ?_
      refine AL.q (by exact h_appendS l [A.1] (.own rfl rfl (strsL_len _).symm) (.view rfl) (by simp; omega) (by simp)) rfl ?_
      refine AL.p (by first | exact as1 rfl | exact as2 rfl | exact as3 rfl | exact as4 rfl | exact as5 rfl | exact as6 rfl | exact as7 rfl | exact as8 rfl | exact as9 rfl) rfl ?_
      refine AL.nil ?_
      refine ib_n ?_
      refine th_n ?_
      refine AC.region ?_
      refine AL.p (by first | exact mv1 rfl | exact mv2 rfl | exact mv3 rfl | exact mv4 rfl | exact mv5 rfl | exact mv6 rfl | exact mv7 rfl | exact mv8 rfl | exact mv9 rfl) rfl ?_
      refine AL.p (by exact g_arith rfl rfl rfl (by first | exact wrap_i64 (by omega) | exact wrap_u8 (by omega) | exact wrap_u64 (by omega) | rfl)) rfl ?_
      refine AL.p (by first | exact as1 rfl | exact as2 rfl | exact as3 rfl | exact as4 rfl | exact as5 rfl | exact as6 rfl | exact as7 rfl | exact as8 rfl | exact as9 rfl) rfl ?_
      refine AL.nil ?_
      refine th_n ?_
      exact ⟨(i, A.2, l ++ [A.1]), ⟨hsub2, by show (l ++ [A.1]).length + i ≤ 10; rw [List.length_append]; show l.length + 1 + i ≤ 10; omega, by show A.2.pos ≤ 1000 + 8 * (5 - i); omega, by show i ≤ 5; omega⟩, by show i < i + 1; omega, Weak.ren _ [(100, _), (101, _)] hC rfl (by repeat (first | exact True.intro | refine And.intro ?_ ?_ | exact DLead.same | exact DLead.eqI (by omega) | exact DLead.nil | exact rfl | refine ⟨_, _, rfl, rfl, ?_⟩ | refine ⟨_, rfl, ?_⟩ | refine ⟨_, _, rfl, ?_, ?_⟩)) (by repeat (first | exact True.intro | refine And.intro ?_ ?_ | exact DLead.same | exact DLead.eqI (by omega) | exact DLead.nil | exact rfl | refine ⟨_, _, rfl, rfl, ?_⟩ | refine ⟨_, rfl, ?_⟩ | refine ⟨_, _, rfl, ?_, ?_⟩)) rfl rfl rfl⟩
    · refine AC.exit ?_
      refine th_e ?_
      refine th_e ?_
      refine ib_y ?_
      refine th_n ?_
      refine AC.seq ?_
      refine AC.seq ?_
      have hj0 : j = 0 := by omega
      subst hj0
      have hZe : Z = (l, cc) := hsub.symm
      subst hZe
      dsimp only at hZ hK3 ho hg hy ⊢
      refine AC.region ?_
      refine AL.p (by first | exact mv1 rfl | exact mv2 rfl | exact mv3 rfl | exact mv4 rfl | exact mv5 rfl | exact mv6 rfl | exact mv7 rfl | exact mv8 rfl | exact mv9 rfl) rfl ?_
      refine AL.p (by first | exact g_len_view rfl rfl (by first | exact List.length_map _ | rfl) | exact g_len_str rfl rfl rfl | exact g_len_nil rfl rfl | exact g_len_own (sz := 1) (els := []) (e' := 0) rfl rfl (by simp only [maxLen]; omega) | exact g_len_tight rfl rfl (by first | exact List.length_map _ | rfl)) rfl ?_
      refine AL.p (by first | exact g_cmp rfl rfl rfl | exact g_scmp rfl rfl rfl | exact g_eqB rfl rfl rfl | exact g_neB rfl rfl rfl) rfl ?_
      refine AL.p (by first | exact mv1 rfl | exact mv2 rfl | exact mv3 rfl | exact mv4 rfl | exact mv5 rfl | exact mv6 rfl | exact mv7 rfl | exact mv8 rfl | exact mv9 rfl) rfl ?_
      first | refine AL.caseG rfl rfl (fun h1 => ?_) (fun h1 => ?_) | refine AL.caseGN rfl rfl (fun h1 => ?_) (fun h1 => ?_) | refine AL.caseGB rfl rfl (fun h1 => ?_) (fun h1 => ?_) | refine AL.caseGNB rfl rfl (fun h1 => ?_) (fun h1 => ?_)
      · refine AL.yes rfl rfl rfl ?_
        refine AL.p (by first | exact mv1 rfl | exact mv2 rfl | exact mv3 rfl | exact mv4 rfl | exact mv5 rfl | exact mv6 rfl | exact mv7 rfl | exact mv8 rfl | exact mv9 rfl) rfl ?_
        refine AL.yes rfl rfl rfl ?_
        refine AL.q (by exact h_fun (cs := [101]) en_one rfl rfl (by repeat (first | exact rfl | exact DLead.same | exact DLead.nil | refine ⟨_, _, rfl, ?_, ?_⟩ | refine ⟨_, rfl, ?_⟩)) (by repeat (first | exact True.intro | refine And.intro ?_ ?_ | exact DLead.same | exact DLead.eqI (by omega) | exact DLead.nil | exact rfl | refine ⟨_, _, rfl, rfl, ?_⟩ | refine ⟨_, rfl, ?_⟩ | refine ⟨_, _, rfl, ?_, ?_⟩)) hK3 rfl rfl rfl rfl) rfl ?_
        refine AL.p (by first | exact g_pickT (r := .d _) rfl rfl | exact g_pickF (r := .d _) rfl rfl) rfl ?_
        refine AL.nil ?_
        refine th_n ?_
        first | refine AC.condD rfl (fun h2 => ?_) (fun h2 => ?_) | refine AC.condND rfl (fun h2 => ?_) (fun h2 => ?_) | refine AC.condB rfl (fun h2 => ?_) (fun h2 => ?_) | refine AC.condNB rfl (fun h2 => ?_) (fun h2 => ?_)
        · have hl0 : 0 < l.length := by omega
          have hI : (l.length : Int) - 1 = ((l.length - 1 : Nat) : Int) := by omega
          obtain ⟨x, hx⟩ : ∃ x, x = l.getD (l.length - 1) [] := ⟨_, rfl⟩
          rw [← hx] at hy
          have hrow : (strsL l)[l.length - 1]? = some [dS (bstr x)] := by rw [strs_at (by omega), hx, List.getD_eq_getElem?_getD, List.getElem?_eq_getElem (by omega)]; rfl
          have hxl : x.length ≤ 4 := by rw [hx]; exact hZ.2.1 _ (by rw [List.getD_eq_getElem?_getD, List.getElem?_eq_getElem (by omega)]; exact List.getElem_mem _)
          have hxz : (bstr x).size ≤ 4 := by rw [bstr_size]; exact hxl
          have hset : (strsL l).set (l.length - 1) ([dS (bstr x)].set 0 (dS (bstr x ++ ⟨#[49]⟩))) = strsL (l.set (l.length - 1) y) := by rw [hy, ← strsL_set, ← bstr_append]; rfl
          refine AC.region ?_
          refine AL.p (by first | exact mv1 rfl | exact mv2 rfl | exact mv3 rfl | exact mv4 rfl | exact mv5 rfl | exact mv6 rfl | exact mv7 rfl | exact mv8 rfl | exact mv9 rfl) rfl ?_
          refine AL.p (by first | exact mv1 rfl | exact mv2 rfl | exact mv3 rfl | exact mv4 rfl | exact mv5 rfl | exact mv6 rfl | exact mv7 rfl | exact mv8 rfl | exact mv9 rfl) rfl ?_
          refine AL.p (by first | exact g_len_view rfl rfl (by first | exact List.length_map _ | rfl) | exact g_len_str rfl rfl rfl | exact g_len_nil rfl rfl | exact g_len_own (sz := 1) (els := []) (e' := 0) rfl rfl (by simp only [maxLen]; omega) | exact g_len_tight rfl rfl (by first | exact List.length_map _ | rfl)) rfl ?_
          refine AL.p (by exact g_arith rfl rfl rfl (by first | exact wrap_i64 (by omega) | exact wrap_u8 (by omega) | exact wrap_u64 (by omega) | rfl)) rfl ?_
          refine AL.p (by first | exact g_ia_view rfl rfl rfl rfl rfl (by first | rfl | assumption) (by first | assumption | rfl) | exact g_ia_own rfl rfl rfl rfl rfl (by first | rfl | assumption) (by omega) (by first | exact Nat.mul_one _ | rfl | omega)) rfl ?_
          refine AL.p (by first | exact g_load_ref rfl rfl rfl | exact g_load_ptr rfl rfl rfl rfl rfl | exact g_load_refN rfl rfl rfl rfl | exact g_load_ptrN rfl rfl rfl rfl rfl | exact g_load_arr1 rfl rfl rfl rfl (by assumption) | exact g_load_arr rfl rfl rfl rfl (by first | rfl | omega) (by first | assumption | rfl) (by first | assumption | rfl)) rfl ?_
          refine AL.p (by exact g_sadd rfl rfl (by show _ + 1 ≤ _; omega)) rfl ?_
          refine AL.p (by first | exact g_ia_view rfl rfl rfl rfl rfl (by first | rfl | assumption) (by first | assumption | rfl) | exact g_ia_own rfl rfl rfl rfl rfl (by first | rfl | assumption) (by omega) (by first | exact Nat.mul_one _ | rfl | omega)) rfl ?_
          refine AL.q (by first | exact h_store rfl rfl rfl rfl rfl rfl | exact h_store_arr1 rfl rfl rfl rfl (by first | exact .same | exact .nil) (by assumption) | exact h_store_arr rfl rfl rfl rfl (by first | exact .same | exact .nil) (by first | rfl | omega) (by first | assumption | rfl) (by omega)) rfl ?_
          refine AL.nil ?_
          refine th_n ?_
          refine AC.seq ?_
          first | have e : (if g = true then l.set (l.length - 1) y else l) = l.set (l.length - 1) y := if_pos (hg.trans (band_t h1 h2)) | have e : (if g = true then l.set (l.length - 1) y else l) = l := if_neg (ne_t (hg.trans (band_f2 h2))) | have e : (if g = true then l.set (l.length - 1) y else l) = l := if_neg (ne_t (hg.trans (band_f1 h1)))
          rw [e]
          first | refine AC.weak (Weak.freeze (i := 5) rfl rfl (Nat.le_of_eq (strsL_len _).symm) (strsL_all _)) ?_ | refine AC.weak (Weak.freeze (els' := strsL (l.set (l.length - 1) y)) (i := 5) rfl rfl (by simp) ((List.take_of_length_le (by simp)).trans hset)) ?_
          refine AC.region ?_
          refine AL.p (by first | exact mv1 rfl | exact mv2 rfl | exact mv3 rfl | exact mv4 rfl | exact mv5 rfl | exact mv6 rfl | exact mv7 rfl | exact mv8 rfl | exact mv9 rfl) rfl ?_
          refine AL.p (by first | exact as1 rfl | exact as2 rfl | exact as3 rfl | exact as4 rfl | exact as5 rfl | exact as6 rfl | exact as7 rfl | exact as8 rfl | exact as9 rfl) rfl ?_
          refine AL.nil ?_
          refine th_n ?_
          refine AC.ret ?_
          refine bq_r ?_
          exact ret1 rfl rfl
        · refine AC.skip ?_
          refine th_n ?_
          refine AC.seq ?_
          first | have e : (if g = true then l.set (l.length - 1) y else l) = l.set (l.length - 1) y := if_pos (hg.trans (band_t h1 h2)) | have e : (if g = true then l.set (l.length - 1) y else l) = l := if_neg (ne_t (hg.trans (band_f2 h2))) | have e : (if g = true then l.set (l.length - 1) y else l) = l := if_neg (ne_t (hg.trans (band_f1 h1)))
          rw [e]
          first | refine AC.weak (Weak.freeze (i := 5) rfl rfl (Nat.le_of_eq (strsL_len _).symm) (strsL_all _)) ?_ | refine AC.weak (Weak.freeze (els' := strsL (l.set (l.length - 1) y)) (i := 5) rfl rfl (by simp) ((List.take_of_length_le (by simp)).trans hset)) ?_
          refine AC.region ?_
          refine AL.p (by first | exact mv1 rfl | exact mv2 rfl | exact mv3 rfl | exact mv4 rfl | exact mv5 rfl | exact mv6 rfl | exact mv7 rfl | exact mv8 rfl | exact mv9 rfl) rfl ?_
          refine AL.p (by first | exact as1 rfl | exact as2 rfl | exact as3 rfl | exact as4 rfl | exact as5 rfl | exact as6 rfl | exact as7 rfl | exact as8 rfl | exact as9 rfl) rfl ?_
          refine AL.nil ?_
          refine th_n ?_
          refine AC.ret ?_
          refine bq_r ?_
          exact ret1 rfl rfl
      · refine AL.not rfl rfl rfl rfl rfl ?_
        refine AL.not rfl rfl rfl rfl rfl ?_
        refine AL.p (by first | exact g_pickT (r := .d _) rfl rfl | exact g_pickF (r := .d _) rfl rfl) rfl ?_
        refine AL.nil ?_
        refine th_n ?_
        refine AC.condF rfl ?_
        refine AC.skip ?_
        refine th_n ?_
        refine AC.seq ?_
        first | have e : (if g = true then l.set (l.length - 1) y else l) = l.set (l.length - 1) y := if_pos (hg.trans (band_t h1 h2)) | have e : (if g = true then l.set (l.length - 1) y else l) = l := if_neg (ne_t (hg.trans (band_f2 h2))) | have e : (if g = true then l.set (l.length - 1) y else l) = l := if_neg (ne_t (hg.trans (band_f1 h1)))
        rw [e]
        first | refine AC.weak (Weak.freeze (i := 5) rfl rfl (Nat.le_of_eq (strsL_len _).symm) (strsL_all _)) ?_ | refine AC.weak (Weak.freeze (els' := strsL (l.set (l.length - 1) y)) (i := 5) rfl rfl (by simp) ((List.take_of_length_le (by simp)).trans hset)) ?_
        refine AC.region ?_
        refine AL.p (by first | exact mv1 rfl | exact mv2 rfl | exact mv3 rfl | exact mv4 rfl | exact mv5 rfl | exact mv6 rfl | exact mv7 rfl | exact mv8 rfl | exact mv9 rfl) rfl ?_
        refine AL.p (by first | exact as1 rfl | exact as2 rfl | exact as3 rfl | exact as4 rfl | exact as5 rfl | exact as6 rfl | exact as7 rfl | exact as8 rfl | exact as9 rfl) rfl ?_
        refine AL.nil ?_
        refine th_n ?_
        refine AC.ret ?_
        refine bq_r ?_
        exact ret1 rfl rfl
theorem en_sDrawSuper : Enters Try.prog 9 := enters_of Try.func9 rfl rfl
end Go.Proofs.Ytochebmkfdfbhaa
