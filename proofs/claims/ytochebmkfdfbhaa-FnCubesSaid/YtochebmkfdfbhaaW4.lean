/- Walks: nets and markings, both sides. -/
import Derived.Test.YtochebmkfdfbhaaW3
import Derived.Test.YtochebmkfdfbhaaC1
set_option linter.all false
namespace Go.Proofs.Ytochebmkfdfbhaa
open Go.RowKit

theorem l1In_spec (n lo hi : Int) : ASpec Try.prog 30 [aI n, aI lo, aI hi] [] (Pure1 (aT (decide (lo ≤ n) && decide (n ≤ hi)))) := by
  refine ASpec.of Try.func30 rfl rfl fun C hC => ?_
  refine AC.seq ?_
  refine AC.region ?_
  refine AL.p (by first | exact as1 rfl | exact as2 rfl | exact as3 rfl | exact as4 rfl | exact as5 rfl | exact as6 rfl | exact as7 rfl | exact as8 rfl | exact as9 rfl) rfl ?_
  refine AL.nil ?_
  refine th_n ?_
  refine AC.seq ?_
  refine AC.region ?_
  refine AL.p (by first | exact mv1 rfl | exact mv2 rfl | exact mv3 rfl | exact mv4 rfl | exact mv5 rfl | exact mv6 rfl | exact mv7 rfl | exact mv8 rfl | exact mv9 rfl) rfl ?_
  refine AL.p (by first | exact mv1 rfl | exact mv2 rfl | exact mv3 rfl | exact mv4 rfl | exact mv5 rfl | exact mv6 rfl | exact mv7 rfl | exact mv8 rfl | exact mv9 rfl) rfl ?_
  refine AL.p (by first | exact g_cmp rfl rfl rfl | exact g_scmp rfl rfl rfl | exact g_eqB rfl rfl rfl | exact g_neB rfl rfl rfl) rfl ?_
  refine AL.p (by first | exact mv1 rfl | exact mv2 rfl | exact mv3 rfl | exact mv4 rfl | exact mv5 rfl | exact mv6 rfl | exact mv7 rfl | exact mv8 rfl | exact mv9 rfl) rfl ?_
  first | refine AL.caseG rfl rfl (fun h0 => ?_) (fun h0 => ?_) | refine AL.caseGN rfl rfl (fun h0 => ?_) (fun h0 => ?_) | refine AL.caseGB rfl rfl (fun h0 => ?_) (fun h0 => ?_) | refine AL.caseGNB rfl rfl (fun h0 => ?_) (fun h0 => ?_)
  · refine AL.yes rfl rfl rfl ?_
    refine AL.p (by first | exact mv1 rfl | exact mv2 rfl | exact mv3 rfl | exact mv4 rfl | exact mv5 rfl | exact mv6 rfl | exact mv7 rfl | exact mv8 rfl | exact mv9 rfl) rfl ?_
    refine AL.yes rfl rfl rfl ?_
    refine AL.p (by first | exact mv1 rfl | exact mv2 rfl | exact mv3 rfl | exact mv4 rfl | exact mv5 rfl | exact mv6 rfl | exact mv7 rfl | exact mv8 rfl | exact mv9 rfl) rfl ?_
    refine AL.yes rfl rfl rfl ?_
    refine AL.p (by first | exact g_cmp rfl rfl rfl | exact g_scmp rfl rfl rfl | exact g_eqB rfl rfl rfl | exact g_neB rfl rfl rfl) rfl ?_
    refine AL.p (by first | exact g_pickT (r := .d _) rfl rfl | exact g_pickF (r := .d _) rfl rfl) rfl ?_
    refine AL.p (by first | exact as1 rfl | exact as2 rfl | exact as3 rfl | exact as4 rfl | exact as5 rfl | exact as6 rfl | exact as7 rfl | exact as8 rfl | exact as9 rfl) rfl ?_
    refine AL.nil ?_
    refine th_n ?_
    refine AC.ret ?_
    refine bq_r ?_
    exact ret1 rfl (by simp [h0])
  · refine AL.not rfl rfl rfl rfl rfl ?_
    refine AL.not rfl rfl rfl rfl rfl ?_
    refine AL.not rfl rfl rfl rfl rfl ?_
    refine AL.p (by first | exact g_pickT (r := .d _) rfl rfl | exact g_pickF (r := .d _) rfl rfl) rfl ?_
    refine AL.p (by first | exact as1 rfl | exact as2 rfl | exact as3 rfl | exact as4 rfl | exact as5 rfl | exact as6 rfl | exact as7 rfl | exact as8 rfl | exact as9 rfl) rfl ?_
    refine AL.nil ?_
    refine th_n ?_
    refine AC.ret ?_
    refine bq_r ?_
    exact ret1 rfl (by simp [h0])
theorem en_l1In : Enters Try.prog 30 := enters_of Try.func30 rfl rfl
structure Net where
  places : Int
  ts : List Tn
  deriving DecidableEq
/-- Bounds under which nothing overflows. -/
structure NetB (n : Net) : Prop where
  p : -1000000 ≤ n.places ∧ n.places ≤ 1000000
  l : n.ts.length ≤ 1000000
  t : ∀ t, t ∈ n.ts → t.pre.length ≤ 1000000 ∧ t.post.length ≤ 1000000
def badT (n : Int) (t : Tn) : Bool := decide ((t.pre.length : Int) = 0) || !rising t.pre 0 (n - 1) || !rising t.post 0 (n - 1)
def goodN (n : Net) : Bool := (decide (1 ≤ n.places) && decide (n.places ≤ 30)) && decide ((n.ts.length : Int) ≤ 24) && !n.ts.any (badT n.places)

end Go.Proofs.Ytochebmkfdfbhaa
