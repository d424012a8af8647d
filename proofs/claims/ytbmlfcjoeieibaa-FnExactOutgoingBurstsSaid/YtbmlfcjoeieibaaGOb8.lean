/- Contracts of the functions of the program and of the reference, each proved by a walk through its code. -/
import Derived.WalkKit
import Derived.WalkSpells
import Derived.WalkLawsBesides
import Derived.Deep.Draws
import Derived.Lib.Hide
import Derived.Maps.AppendAt
import Derived.OwnWalk
import Derived.Deep.MidRow
import Derived.Laws.ResultCell
import Derived.Deep.Upon
import Derived.Great.FillDense
import Derived.Laws.Tables
import Derived.Laws.BytesArg
import Derived.Laws.MakeOwn
import Derived.Great.BuildSlice
import Derived.ArgAppend
import Derived.Deep.AppendSrc
import Derived.Test.YtbmlfcjoeieibaaProg
import Derived.KernelRfl
import Derived.Orders
import Derived.Laws.IdiomStrings
import Derived.Lib.AppendZerosOnto
import Derived.ProofKit
import Derived.OpenShut
import Derived.Laws.StructEq
import Derived.ChangeKeysEq
import Derived.Test.YtbmlfcjoeieibaaChecked
import Derived.Test.YtbmlfcjoeieibaaGOb7
set_option linter.all false
set_option maxRecDepth 20000
namespace Go.Proofs.Ytbmlfcjoeieibaa
open Go.RowKit

theorem obR_len (m : Mach) (st : Int) : (obR m st).length ≤ m.burs.length := by
  unfold obR
  split
  · exact outK_len _ _ _
  · simp
set_option maxRecDepth 20000 in
set_option maxHeartbeats 8000000 in
theorem FnExactOutgoingBursts_spec (m : Mach) (i : Int) (hM : ArgM m) (hi : okI i) : ASpec Try.prog 3 [machLA m, aI i] [] (Pure1 (aT true)) := by
  have hS1 := szMach_spec m 1048576 (by omega) hM
  have hle := szI_le (n := szMc m) (left := 1048576)
  obtain ⟨a, ha⟩ : ∃ a, a = szI (szMc m) 1048576 := ⟨_, rfl⟩
  rw [← ha] at hS1 hle
  refine ASpec.of Try.func3 rfl rfl fun C hC => ?_
  refine AC.seq ?_
  refine AC.region ?_
  refine AL.q (by exact h_boxF rfl rfl) rfl ?_
  refine AL.p (by exact as1 rfl) rfl ?_
  refine AL.nil ?_
  refine th_n ?_
  refine AC.seq ?_
  refine AC.region ?_
  refine AL.p (by exact as1 rfl) rfl ?_
  refine AL.nil ?_
  refine th_n ?_
  refine AC.seq ?_
  refine AC.region ?_
  refine AL.p (by exact g_load_refN rfl rfl rfl rfl) rfl ?_
  refine AL.p (by exact mv1 rfl) rfl ?_
  refine AL.q (by exact h_pure en_szMach rfl rfl (by repeat (first | exact rfl | exact DLead.same | refine ⟨_, _, rfl, ?_, ?_⟩ | refine ⟨_, rfl, ?_⟩)) hS1 rfl) rfl ?_
  refine AL.p (by exact as1 rfl) rfl ?_
  refine AL.nil ?_
  refine th_n ?_
  refine AC.seq ?_
  refine AC.seq ?_
  refine AC.region ?_
  refine AL.p (by exact mv1 rfl) rfl ?_
  refine AL.p (by exact g_cmp rfl rfl rfl) rfl ?_
  refine AL.nil ?_
  refine th_n ?_
  refine AC.condD rfl (fun h0 => ?_) (fun h0 => ?_)
  · refine AC.seq ?_
    refine AC.region ?_
    refine AL.p (by exact as1 rfl) rfl ?_
    refine AL.nil ?_
    refine th_n ?_
    refine AC.ret ?_
    refine th_r ?_
    refine bq_r ?_
    exact ret1 rfl rfl
  · refine AC.skip ?_
    refine th_n ?_
    refine AC.seq ?_
    have hsz : szMc m ≤ 1048576 := by have := hle (by omega); omega
    have hS := SmM.of hM hsz
    have hcToM := toMach_spec m hS
    have hcEqM := eqMach_spec m m hS hS
    rw [decide_eq_true rfl] at hcEqM
    have hG1 := sOutB_spec m i hS hi
    have hG2 := iOutB_T m i hS hi
    have hgl : (obR m i).length ≤ 1048576 := Nat.le_trans (obR_len m i) hS.b
    obtain ⟨g0, hg0⟩ : ∃ g, g = obR m i := ⟨_, rfl⟩
    rw [← hg0] at hG1 hG2 hgl
    obtain ⟨g1, hg1⟩ : ∃ g, g = askM m i := ⟨_, rfl⟩
    rw [← hg1] at hG1 hG2
    have hG2F := TupT.thaw hG2
    have hcEq0 := eqIntS_spec g0 g0 hgl hgl
    rw [decide_eq_true rfl] at hcEq0
    have hwb := wBu_sum m.burs
    have hmc : szMc m = (m.sigs.length + sumL szSg m.sigs) + szBrs m.burs + m.first.length := rfl
    have hcM := markMach_T m 1 hS (by omega)
    have hcI := markIntS_T g0 1 hgl (by omega)
    have hcH := heldIntS_spec 1 g0.length hgl (by omega)
    refine AC.region ?_
    refine AL.p (by exact g_load_refN rfl rfl rfl rfl) rfl ?_
    refine AL.q (by exact h_pure en_toMach rfl rfl (by repeat (first | exact rfl | exact DLead.same | refine ⟨_, _, rfl, ?_, ?_⟩ | refine ⟨_, rfl, ?_⟩)) hcToM rfl) rfl ?_
    refine AL.p (by exact mv1 rfl) rfl ?_
    refine AL.q (by exact h_pure en_sOutB rfl rfl (by repeat (first | exact rfl | exact DLead.same | refine ⟨_, _, rfl, ?_, ?_⟩ | refine ⟨_, rfl, ?_⟩)) hG1 rfl) rfl ?_
    refine AL.p (by exact mv5 rfl) rfl ?_
    refine AL.p (by exact g_extract (r := .d _) rfl rfl) rfl ?_
    refine AL.p (by exact g_extract (r := .d _) rfl rfl) rfl ?_
    refine AL.p (by exact as1 rfl) rfl ?_
    refine AL.p (by exact as1 rfl) rfl ?_
    refine AL.nil ?_
    refine th_n ?_
    refine AC.seq ?_
    refine AC.region ?_
    refine AL.p (by exact g_load_refN rfl rfl rfl rfl) rfl ?_
    refine AL.r (by exact h_funR (cs := []) en_toMach rfl rfl (by repeat (first | exact rfl | exact DLead.same | refine ⟨_, _, rfl, ?_, ?_⟩ | refine ⟨_, rfl, ?_⟩)) (by repeat (exact True.intro)) (toMach_T m hS) rfl rfl rfl) rfl ?_
    rintro _ ⟨_, _, ⟨x1, x2, x3, x4, SA, rfl, rfl⟩, rfl⟩
    refine AL.q (by exact h_alloc rfl) rfl ?_
    refine AL.q (by exact h_store rfl rfl rfl rfl rfl rfl) rfl ?_
    refine AL.nil ?_
    refine th_n ?_
    refine AC.seq ?_
    refine AC.region ?_
    refine AL.p (by exact g_load_ptrN rfl rfl rfl rfl rfl) rfl ?_
    refine AL.p (by exact mv1 rfl) rfl ?_
    refine AL.r (by exact h_borrowN [32] en_iOutB rfl rfl hG2 (.cons (.aggs (ds := [vSigs m.sigs, dI m.states, vBurs m.burs, dS (bstr m.first)]) (.cons (.pred (id := 32) rfl rfl (fun w h => TL.data h 0 rfl rfl)) (.cons (.pred (id := 32) rfl rfl (fun w h => TL.data h 1 rfl rfl)) (.cons (.pred (id := 32) rfl rfl (fun w h => TL.data h 2 rfl rfl)) (.cons (.pred (id := 32) rfl rfl (fun w h => TL.data h 3 rfl rfl)) .nil))))) (.cons (.of .d) .nil)) TupT.solid) rfl ?_
    rintro _ ⟨_, _, ⟨v, SG, rfl, rfl⟩, rfl⟩
    refine AL.p (by exact mv5 rfl) rfl ?_
    refine AL.p (by exact g_extract (r := .d _) rfl rfl) rfl ?_
    refine AL.p (by exact g_extract (r := .d _) rfl rfl) rfl ?_
    refine AL.p (by exact as1 rfl) rfl ?_
    refine AL.p (by exact as1 rfl) rfl ?_
    refine AL.nil ?_
    refine th_n ?_
    refine AC.seq ?_
    refine AC.seq ?_
    refine AC.weak (t := ⟨101, 208, [(1, aI i), (2, .d (.ref (machLD m))), (6, .d (vI g0)), (7, aT g1), (8, .ptr 100 0), (9, .d (.val v)), (10, aT g1)], [(100, some (.cells 33 [.d (.val x1), .d (.val x2), .d (.val x3), .d (.val x4)])), (102, some (.pred SA fun w => TL w SA [vSigs m.sigs, dI m.states, vBurs m.burs, dS (bstr m.first)] [x1, x2, x3, x4])), (104, some (.pred SG fun w => TRep w SG (vI g0) v))]⟩) (Weak.ren _ [(100, 40), (102, 32), (104, 56)] hC rfl (by repeat (first | exact True.intro | refine And.intro ?_ ?_ | exact DLead.same | exact rfl | refine ⟨_, rfl, ?_⟩)) (by repeat (first | exact True.intro | refine And.intro ?_ ?_ | exact DLead.same | exact rfl | refine ⟨_, _, rfl, rfl, ?_⟩ | refine ⟨_, rfl, ?_⟩ | refine ⟨_, _, rfl, ?_, ?_⟩)) rfl rfl rfl) ?_
    refine AC.region ?_
    refine AL.p (by exact mv1 rfl) rfl ?_
    refine AL.p (by exact mv1 rfl) rfl ?_
    refine AL.q (by exact h_borrow [104] en_eqIntS rfl rfl hcEq0 (.cons (.of (.pred (id := 104) rfl rfl (fun w h => TRep.data h))) (.cons (.of .d) .nil)) rfl) rfl ?_
    refine AL.p (by exact g_not rfl) rfl ?_
    refine AL.p (by exact mv1 rfl) rfl ?_
    refine AL.caseGB rfl rfl (fun h1 => ?_) (fun h1 => ?_)
    · refine AL.not rfl rfl rfl rfl rfl ?_
      refine AL.not rfl rfl rfl rfl rfl ?_
      refine AL.not rfl rfl rfl rfl rfl ?_
      refine AL.p (by exact g_pickT (r := .d _) rfl rfl) rfl ?_
      refine AL.nil ?_
      refine th_n ?_
      refine AC.condT rfl ?_
      refine AC.seq ?_
      exact absurd h1 (by simp)
    · refine AL.yes rfl rfl rfl ?_
      refine AL.p (by exact mv1 rfl) rfl ?_
      refine AL.yes rfl rfl rfl ?_
      refine AL.p (by exact mv1 rfl) rfl ?_
      refine AL.yes rfl rfl rfl ?_
      refine AL.p (by exact g_neB rfl rfl rfl) rfl ?_
      refine AL.p (by exact g_pickF (r := .d _) rfl rfl) rfl ?_
      refine AL.nil ?_
      refine th_n ?_
      refine AC.condND rfl (fun h2 => ?_) (fun h2 => ?_)
      · refine AC.seq ?_
        exact absurd h2 (by simp)
      · refine AC.skip ?_
        refine th_n ?_
        refine AC.seq ?_
        refine AC.seq ?_
        refine AC.drawn' mixed_ok [[], [], [1], [0,1,2], [0,1,2,3]] (by decide) ?_
        refine DF.op 0 [] 5 rfl rfl rfl (.free rfl (NOp.of (by exact g_load_ptrN rfl rfl rfl rfl rfl))) rfl ?_
        refine DF.op 1 [] 5 rfl rfl rfl (.free rfl (NOp.of (by exact g_load_refN rfl rfl rfl rfl))) rfl ?_
        refine DF.op 2 [1] 5 rfl rfl rfl (.free rfl (by exact h_pure en_toMach rfl rfl (by repeat (first | exact rfl | exact DLead.same | refine ⟨_, _, rfl, ?_, ?_⟩ | refine ⟨_, rfl, ?_⟩)) hcToM rfl)) rfl ?_
        refine DF.op 3 [0,1,2] 5 rfl rfl rfl (.free rfl (by exact h_borrow [102] en_eqMach rfl rfl hcEqM (.cons (.aggs (ds := [vSigs m.sigs, dI m.states, vBurs m.burs, dS (bstr m.first)]) (.cons (.pred (id := 102) rfl rfl (fun w h => TL.data h 0 rfl rfl)) (.cons (.pred (id := 102) rfl rfl (fun w h => TL.data h 1 rfl rfl)) (.cons (.pred (id := 102) rfl rfl (fun w h => TL.data h 2 rfl rfl)) (.cons (.pred (id := 102) rfl rfl (fun w h => TL.data h 3 rfl rfl)) .nil))))) (.cons (.agg (ds := [vSigs m.sigs, dI m.states, vBurs m.burs, dS (bstr m.first)])) .nil)) rfl)) rfl ?_
        refine DF.op 4 [0,1,2,3] 5 rfl rfl rfl (.free rfl (NOp.of (by exact g_not rfl))) rfl ?_
        refine DF.fin (ps := [(0, 1), (0, 2), (1, 0), (2, 0)]) 5 rfl (by decide +kernel) (by decide +kernel) (by rfl) ?_
        refine th_n ?_
        refine AC.condB rfl (fun h3 => ?_) (fun h3 => ?_)
        · refine AC.seq ?_
          exact absurd h3 (by simp)
        · refine AC.skip ?_
          refine th_n ?_
          refine AC.seq ?_
          refine AC.region ?_
          refine AL.p (by exact as1 rfl) rfl ?_
          refine AL.nil ?_
          refine th_n ?_
          refine AC.seq ?_
          refine AC.region ?_
          refine AL.p (by exact g_load_ptrN rfl rfl rfl rfl rfl) rfl ?_
          refine AL.p (by exact mv1 rfl) rfl ?_
          refine AL.q (by exact h_fun (cs := [102]) en_markMach rfl rfl (by repeat (first | exact rfl | exact DLead.same | refine ⟨_, _, rfl, ?_, ?_⟩ | refine ⟨_, rfl, ?_⟩)) (by repeat (first | exact True.intro | refine And.intro ?_ ?_ | exact rfl | refine ⟨_, _, rfl, rfl, ?_⟩)) (hcM x1 x2 x3 x4 SA) rfl rfl rfl rfl) rfl ?_
          refine AL.p (by exact as1 rfl) rfl ?_
          refine AL.nil ?_
          refine th_n ?_
          refine AC.seq ?_
          refine AC.seq ?_
          refine AC.region ?_
          refine AL.p (by exact mv1 rfl) rfl ?_
          refine AL.p (by exact g_cmp rfl rfl rfl) rfl ?_
          refine AL.p (by exact mv1 rfl) rfl ?_
          refine AL.caseG rfl rfl (fun h4 => ?_) (fun h4 => ?_)
          · refine AL.not rfl rfl rfl rfl rfl ?_
            refine AL.not rfl rfl rfl rfl rfl ?_
            refine AL.not rfl rfl rfl rfl rfl ?_
            refine AL.not rfl rfl rfl rfl rfl ?_
            refine AL.p (by exact g_pickT (r := .d _) rfl rfl) rfl ?_
            refine AL.p (by exact mv1 rfl) rfl ?_
            refine AL.not rfl rfl rfl rfl rfl ?_
            refine AL.not rfl rfl rfl rfl rfl ?_
            refine AL.not rfl rfl rfl rfl rfl ?_
            refine AL.p (by exact g_pickT (r := .d _) rfl rfl) rfl ?_
            refine AL.nil ?_
            refine th_n ?_
            refine AC.condT rfl ?_
            refine AC.seq ?_
            (exfalso; omega)
          · refine AL.yes rfl rfl rfl ?_
            refine AL.p (by exact mv1 rfl) rfl ?_
            refine AL.yes rfl rfl rfl ?_
            refine AL.p (by exact mv1 rfl) rfl ?_
            refine AL.yes rfl rfl rfl ?_
            refine AL.q (by exact h_borrow [104] en_eqIntS rfl rfl hcEq0 (.cons (.of (.pred (id := 104) rfl rfl (fun w h => TRep.data h))) (.cons (.of .d) .nil)) rfl) rfl ?_
            refine AL.yes rfl rfl rfl ?_
            refine AL.p (by exact g_not rfl) rfl ?_
            refine AL.p (by exact g_pickF (r := .d _) rfl rfl) rfl ?_
            refine AL.p (by exact mv1 rfl) rfl ?_
            refine AL.caseGB rfl rfl (fun h5 => ?_) (fun h5 => ?_)
            · refine AL.not rfl rfl rfl rfl rfl ?_
              refine AL.not rfl rfl rfl rfl rfl ?_
              refine AL.not rfl rfl rfl rfl rfl ?_
              refine AL.p (by exact g_pickT (r := .d _) rfl rfl) rfl ?_
              refine AL.nil ?_
              refine th_n ?_
              refine AC.condT rfl ?_
              refine AC.seq ?_
              exact absurd h5 (by simp)
            · refine AL.yes rfl rfl rfl ?_
              refine AL.p (by exact mv1 rfl) rfl ?_
              refine AL.yes rfl rfl rfl ?_
              refine AL.p (by exact mv1 rfl) rfl ?_
              refine AL.yes rfl rfl rfl ?_
              refine AL.p (by exact g_neB rfl rfl rfl) rfl ?_
              refine AL.p (by exact g_pickF (r := .d _) rfl rfl) rfl ?_
              refine AL.nil ?_
              refine th_n ?_
              refine AC.condND rfl (fun h6 => ?_) (fun h6 => ?_)
              · refine AC.seq ?_
                exact absurd h6 (by simp)
              · refine AC.skip ?_
                refine th_n ?_
                refine AC.seq ?_
                refine AC.region ?_
                refine AL.p (by exact as1 rfl) rfl ?_
                refine AL.nil ?_
                refine th_n ?_
                refine AC.seq ?_
                refine AC.region ?_
                refine AL.p (by exact mv1 rfl) rfl ?_
                refine AL.p (by exact mv1 rfl) rfl ?_
                refine AL.q (by exact h_fun (cs := [104]) en_markIntS rfl rfl (by repeat (first | exact rfl | exact DLead.same | refine ⟨_, _, rfl, ?_, ?_⟩)) (by repeat (first | exact True.intro | refine And.intro ?_ ?_ | exact rfl | refine ⟨_, _, rfl, rfl, ?_⟩)) (hcI v SG) rfl rfl rfl rfl) rfl ?_
                refine AL.p (by exact as1 rfl) rfl ?_
                refine AL.nil ?_
                refine th_n ?_
                refine AC.seq ?_
                refine AC.region ?_
                refine AL.p (by exact as1 rfl) rfl ?_
                refine AL.nil ?_
                refine th_n ?_
                refine AC.seq ?_
                refine AC.region ?_
                refine AL.p (by exact mv1 rfl) rfl ?_
                refine AL.p (by exact mv1 rfl) rfl ?_
                refine AL.q (by exact h_borrow [104] en_heldIntS rfl rfl hcH (.cons (.of (.pred (id := 104) rfl rfl (fun w h => TRep.data h))) (.cons (.of .d) .nil)) rfl) rfl ?_
                refine AL.p (by exact as1 rfl) rfl ?_
                refine AL.nil ?_
                refine th_n ?_
                refine AC.seq ?_
                refine AC.seq ?_
                refine AC.region ?_
                refine AL.p (by exact mv1 rfl) rfl ?_
                refine AL.p (by exact g_cmp rfl rfl rfl) rfl ?_
                refine AL.nil ?_
                refine th_n ?_
                refine AC.condD rfl (fun h7 => ?_) (fun h7 => ?_)
                · refine AC.seq ?_
                  (exfalso; omega)
                · refine AC.skip ?_
                  refine th_n ?_
                  refine AC.seq ?_
                  refine AC.seq ?_
                  refine AC.region ?_
                  refine AL.p (by exact mv1 rfl) rfl ?_
                  refine AL.p (by exact mv1 rfl) rfl ?_
                  refine AL.p (by exact g_cmp rfl rfl rfl) rfl ?_
                  refine AL.nil ?_
                  refine th_n ?_
                  refine AC.condND rfl (fun h8 => ?_) (fun h8 => ?_)
                  · refine AC.seq ?_
                    (exfalso; omega)
                  · refine AC.skip ?_
                    refine th_n ?_
                    refine AC.seq ?_
                    refine AC.region ?_
                    refine AL.p (by exact g_load_refN rfl rfl rfl rfl) rfl ?_
                    refine AL.q (by exact h_pure en_toMach rfl rfl (by repeat (first | exact rfl | exact DLead.same | refine ⟨_, _, rfl, ?_, ?_⟩ | refine ⟨_, rfl, ?_⟩)) hcToM rfl) rfl ?_
                    refine AL.p (by exact mv1 rfl) rfl ?_
                    refine AL.q (by exact h_pure en_iOutB rfl rfl (by repeat (first | exact rfl | exact DLead.same | refine ⟨_, _, rfl, ?_, ?_⟩ | refine ⟨_, rfl, ?_⟩)) hG2F rfl) rfl ?_
                    refine AL.p (by exact mv5 rfl) rfl ?_
                    refine AL.p (by exact g_extract (r := .d _) rfl rfl) rfl ?_
                    refine AL.p (by exact g_extract (r := .d _) rfl rfl) rfl ?_
                    refine AL.p (by exact as1 rfl) rfl ?_
                    refine AL.p (by exact as1 rfl) rfl ?_
                    refine AL.nil ?_
                    refine th_n ?_
                    refine AC.seq ?_
                    refine AC.seq ?_
                    refine AC.region ?_
                    refine AL.p (by exact mv1 rfl) rfl ?_
                    refine AL.p (by exact mv1 rfl) rfl ?_
                    refine AL.q (by exact h_pure en_eqIntS rfl rfl (by repeat (first | exact rfl | exact DLead.same | refine ⟨_, _, rfl, ?_, ?_⟩)) hcEq0 rfl) rfl ?_
                    refine AL.p (by exact g_not rfl) rfl ?_
                    refine AL.p (by exact mv1 rfl) rfl ?_
                    refine AL.caseGB rfl rfl (fun h9 => ?_) (fun h9 => ?_)
                    · refine AL.not rfl rfl rfl rfl rfl ?_
                      refine AL.not rfl rfl rfl rfl rfl ?_
                      refine AL.not rfl rfl rfl rfl rfl ?_
                      refine AL.p (by exact g_pickT (r := .d _) rfl rfl) rfl ?_
                      refine AL.nil ?_
                      refine th_n ?_
                      refine AC.condT rfl ?_
                      refine AC.seq ?_
                      exact absurd h9 (by simp)
                    · refine AL.yes rfl rfl rfl ?_
                      refine AL.p (by exact mv1 rfl) rfl ?_
                      refine AL.yes rfl rfl rfl ?_
                      refine AL.p (by exact mv1 rfl) rfl ?_
                      refine AL.yes rfl rfl rfl ?_
                      refine AL.p (by exact g_neB rfl rfl rfl) rfl ?_
                      refine AL.p (by exact g_pickF (r := .d _) rfl rfl) rfl ?_
                      refine AL.nil ?_
                      refine th_n ?_
                      refine AC.condND rfl (fun h10 => ?_) (fun h10 => ?_)
                      · refine AC.seq ?_
                        exact absurd h10 (by simp)
                      · refine AC.skip ?_
                        refine th_n ?_
                        refine AC.seq ?_
                        refine AC.region ?_
                        refine AL.p (by exact as1 rfl) rfl ?_
                        refine AL.nil ?_
                        refine th_n ?_
                        refine AC.seq ?_
                        refine AC.region ?_
                        refine AL.p (by exact mv1 rfl) rfl ?_
                        refine AL.p (by exact mv1 rfl) rfl ?_
                        refine AL.q (by exact h_borrow [104] en_heldIntS rfl rfl hcH (.cons (.of (.pred (id := 104) rfl rfl (fun w h => TRep.data h))) (.cons (.of .d) .nil)) rfl) rfl ?_
                        refine AL.p (by exact as1 rfl) rfl ?_
                        refine AL.nil ?_
                        refine th_n ?_
                        refine AC.seq ?_
                        refine AC.seq ?_
                        refine AC.region ?_
                        refine AL.p (by exact mv1 rfl) rfl ?_
                        refine AL.p (by exact g_cmp rfl rfl rfl) rfl ?_
                        refine AL.nil ?_
                        refine th_n ?_
                        refine AC.condD rfl (fun h11 => ?_) (fun h11 => ?_)
                        · refine AC.seq ?_
                          (exfalso; omega)
                        · refine AC.skip ?_
                          refine th_n ?_
                          refine AC.seq ?_
                          refine AC.seq ?_
                          refine AC.region ?_
                          refine AL.p (by exact mv1 rfl) rfl ?_
                          refine AL.p (by exact mv1 rfl) rfl ?_
                          refine AL.p (by exact g_cmp rfl rfl rfl) rfl ?_
                          refine AL.nil ?_
                          refine th_n ?_
                          refine AC.condND rfl (fun h12 => ?_) (fun h12 => ?_)
                          · refine AC.seq ?_
                            (exfalso; omega)
                          · refine AC.skip ?_
                            refine th_n ?_
                            refine AC.seq ?_
                            refine AC.region ?_
                            refine AL.p (by exact as1 rfl) rfl ?_
                            refine AL.nil ?_
                            refine th_n ?_
                            refine AC.ret ?_
                            refine bq_r ?_
                            exact ret1 rfl rfl
end Go.Proofs.Ytbmlfcjoeieibaa

