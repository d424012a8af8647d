/- A slice held against nil. No program is named here. -/
import Derived.Test.YtochebmkfdfbhaaC4
import Derived.Lib.SliceRun
set_option linter.all false
namespace Go.Proofs.Ytochebmkfdfbhaa
open Go.RowKit

section
variable {P : Program} [PT P] {C : Ctx} {Q : Exit → ASt → Prop} {s : ASt} {ops : Array Oper}
theorem AL.eqNil {x : Operand} {rest : List Oper} {dst : Option Nat} {ty xt yt : Nat} {pos : String} {af : Array Edge} {e sz e0 n bt : Nat} {zs : List ZK} {els : List (List DV)} (ht : PT.ty P xt = some ⟨.slice e0, n, bt, zs⟩) (hx : s.ev x = .d (.view e sz els)) (hd : dstOk dst s.n = true)
    (h : ∀ b, (b = true → els = []) → AL P C ops rest Q (s.put dst (aT b))) : AL P C ops (⟨dst, .binOp .eql xt x (.const (.slice none 0 0)) yt, ty, pos, af, none⟩ :: rest) Q s := by
  refine ⟨fun a w hR' => ?_⟩
  obtain ⟨m, hR⟩ := hR'
  refine wpList_step fun K hK => ?_
  rw [if_pos (wanted_none rfl a)]
  obtain ⟨i, d, z, _, hdd, hk, _⟩ := PT.facts ht
  have hu : P.underlying xt = some (.slice e0) := by rw [hdd]; cases d <;> simp [tkOf] at hk; rw [hk]
  have hv := hR.ev x
  rw [hx] at hv
  have key : ∃ (ad : Option Addr) (l c : Nat), a.eval x = .slice ad l c ∧ (ad = none → els = []) := by
    generalize hz : a.eval x = vv at hv
    cases hv with
    | d hd =>
      cases hd with
      | nil => exact ⟨_, _, _, rfl, fun _ => rfl⟩
      | view => exact ⟨_, _, _, rfl, fun h => by cases h⟩
  obtain ⟨ad, l, c, he, hne⟩ := key
  have hrun : (execOp a.eval ⟨dst, .binOp .eql xt x (.const (.slice none 0 0)) yt, ty, pos, af, none⟩).run P w = .ok (.value (.bool ad.isNone)) w := by
    have h1 : a.eval (.const (.slice none 0 0)) = .slice none 0 0 := rfl
    have h2 := Go.Lib.run_eql_slice_nil (P := P) w xt e0 ad l c 0 0 hu
    simp only [execOp, he, h1, eqGuard]
    simp [h2]
  unfold Oper.wp
  rw [hrun]
  refine hK _ _ ((h ad.isNone (fun hb => hne (by simpa using hb))).run _ _ ⟨m, ?_⟩)
  have := hR.setSlot (x := aT ad.isNone) (v := .bool ad.isNone) hd (.d (.val trivial))
  cases hdst : dst <;> (rw [hdst] at this; exact this)
end
end Go.Proofs.Ytochebmkfdfbhaa
