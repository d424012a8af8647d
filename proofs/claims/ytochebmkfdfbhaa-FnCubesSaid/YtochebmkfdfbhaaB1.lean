/- Code read plainly: statements, branches, loops, the way out. No program is named here. -/
import Derived.Test.YtochebmkfdfbhaaA9
set_option linter.all false
namespace Go.Proofs.Ytochebmkfdfbhaa
open Go.RowKit

/-- What is asked of a state at an exit, said of worlds. -/
def Qc (C : Ctx) (Q : Exit → ASt → Prop) (e : Exit) (a : Act) (w : World) : Prop := ∃ s, Rel C s a w ∧ Q e s
structure ACode (P : Program) (C : Ctx) (c : Code) (Q : Exit → ASt → Prop) (s : ASt) : Prop where
  run : ∀ a w, Rel C s a w → c.wp P (Qc C Q) a w
structure AL (P : Program) (C : Ctx) (ops : Array Oper) (l : List Oper) (Q : Exit → ASt → Prop) (s : ASt) : Prop where
  run : ∀ a w, Rel C s a w → wpList P ops (Qc C Q) l a w
inductive thenA (K : ASt → Prop) (Q : Exit → ASt → Prop) : Exit → ASt → Prop
  | n {s : ASt} : K s → thenA K Q .normal s
  | o {e : Exit} {s : ASt} : e ≠ .normal → Q e s → thenA K Q e s
inductive inBlockA (id : Nat) (Q : Exit → ASt → Prop) : Exit → ASt → Prop
  | y {s : ASt} : Q .normal s → inBlockA id Q (.exit id) s
  | o {e : Exit} {s : ASt} : e ≠ .exit id → Q e s → inBlockA id Q e s
/-- The state behind an operation that may make blocks: eight names are used up. -/
def ASt.nxt (s : ASt) (d : Option Nat) (u : Upd) : ASt :=
  match d with
  | some i => { n := s.n, nx := s.nx + 8, sl := (i, u.r) :: s.sl, ch := u.ch ++ s.ch }
  | none => { n := s.n, nx := s.nx + 8, sl := s.sl, ch := u.ch ++ s.ch }

section
variable {P : Program} {C : Ctx} {Q : Exit → ASt → Prop} {s : ASt} {ops : Array Oper}

theorem Rel.weak {s' : ASt} {a : Act} {w : World} (h : Rel C s a w) (hn : s'.n = s.n) (hx : s.nx ≤ s'.nx) (hs : ∀ i, s'.get i = .dead ∨ s'.get i = s.get i) (hc : ∀ id c, s'.chunk id = some c → s.chunk id = some c) : Rel C s' a w := by
  obtain ⟨m, hm⟩ := h
  exact ⟨m, hm.weaken hn hs hc (fun id hid => Nat.le_trans hx hid)⟩

theorem AL.nil (h : Q .normal s) : AL P C ops [] Q s := ⟨fun a w hR => ⟨s, hR, h⟩⟩
theorem AL.g' {ids : List Nat} {o : Oper} {rest : List Oper} {r : AV} (hw : ∀ a w, Rel C s a w → Region.wanted o (yielded ops a.tmps) = true) (hop : GOp P ids s o r) (hd : dstOk o.dst s.n = true) (h : AL P C ops rest Q (s.put o.dst r)) : AL P C ops (o :: rest) Q s := by
  refine ⟨fun a w hR' => ?_⟩
  have hwt := hw a w hR'
  obtain ⟨m, hR⟩ := hR'
  refine wpList_step fun K hK => ?_
  rw [if_pos hwt]
  obtain ⟨v, hrun, hr⟩ := hop.run s (Agr.refl _ _ _) C _ a w m hR
  unfold Oper.wp
  rw [hrun]
  refine hK _ _ (h.run _ _ ⟨m, ?_⟩)
  have := hR.setSlot hd hr
  cases hdst : o.dst <;> (rw [hdst] at this; exact this)
theorem AL.h' {ids : List Nat} {o : Oper} {rest : List Oper} {u : Upd} (hw : ∀ a w, Rel C s a w → Region.wanted o (yielded ops a.tmps) = true) (hop : NOp P ids s o s.nx u) (hd : dstOk o.dst s.n = true) (h : AL P C ops rest Q (s.nxt o.dst u)) : AL P C ops (o :: rest) Q s := by
  refine ⟨fun a w hR' => ?_⟩
  have hwt := hw a w hR'
  obtain ⟨m, hR⟩ := hR'
  refine wpList_step fun K hK => ?_
  rw [if_pos hwt]
  refine hop.run s (Agr.refl _ _ _) C (fun id => s.nx ≤ id) (fun id => s.nx + 8 ≤ id) a w m hR (fun k hk => Nat.le_add_right _ _) (fun j hj => ⟨by omega, .inr hj⟩) hd K _ (fun a' w' m' hR' => hK _ _ (h.run a' w' ⟨m', hR'.weaken ?_ (fun i => .inr ?_) (fun id c hc => ?_) (fun id hid => ?_)⟩))
  · cases o.dst <;> rfl
  · cases o.dst <;> rfl
  · cases hdst : o.dst <;> (rw [hdst] at hc; exact hc)
  · cases hdst : o.dst <;> (rw [hdst] at hid; exact hid)
theorem wanted_none {o : Oper} (hg : o.guard = none) (a : Act) : Region.wanted o (yielded ops a.tmps) = true := by simp [Region.wanted, hg]
theorem AL.g {ids : List Nat} {o : Oper} {rest : List Oper} {r : AV} (hg : o.guard = none) (hop : GOp P ids s o r) (hd : dstOk o.dst s.n = true) (h : AL P C ops rest Q (s.put o.dst r)) : AL P C ops (o :: rest) Q s := AL.g' (fun a w _ => wanted_none hg a) hop hd h
theorem AL.h {ids : List Nat} {o : Oper} {rest : List Oper} {u : Upd} (hg : o.guard = none) (hop : NOp P ids s o s.nx u) (hd : dstOk o.dst s.n = true) (h : AL P C ops rest Q (s.nxt o.dst u)) : AL P C ops (o :: rest) Q s := AL.h' (fun a w _ => wanted_none hg a) hop hd h
theorem yielded_of {j t : Nat} {b : Bool} (ht : ((ops[j]?).bind (·.dst)) = some t) (htn : Nat.blt t s.n = true) (hs : s.get t = aT b) {a : Act} {w : World} (hR : Rel C s a w) : yielded ops a.tmps j = some b := by
  obtain ⟨m, hR⟩ := hR
  have := hR.sl t
  rw [hs] at this
  have hv := this.val_eq.1
  have hlt : t < a.tmps.size := by rw [hR.sz]; simpa using htn
  have h2 : a.tmps[t]? = some (.bool b) := by
    rw [Array.getElem?_eq_getElem hlt]
    rw [Array.getD_eq_getD_getElem?, Array.getElem?_eq_getElem hlt] at hv
    simpa using hv
  simp [yielded, ht, h2]
/-- A guarded operation that is wanted. -/
theorem wanted_yes {j t : Nat} {b want : Bool} {o : Oper} (hg : o.guard = some (j, want)) (ht : ((ops[j]?).bind (·.dst)) = some t) (htn : Nat.blt t s.n = true) (hs : s.get t = aT b) (hb : b = want) (a : Act) (w : World) (hR : Rel C s a w) : Region.wanted o (yielded ops a.tmps) = true := by
  simp [Region.wanted, hg, yielded_of ht htn hs hR, hb]
theorem AL.gY {ids : List Nat} {j t : Nat} {b want : Bool} {o : Oper} {rest : List Oper} {r : AV} (hg : o.guard = some (j, want)) (ht : ((ops[j]?).bind (·.dst)) = some t) (htn : Nat.blt t s.n = true) (hs : s.get t = aT b) (hb : b = want) (hop : GOp P ids s o r) (hd : dstOk o.dst s.n = true) (h : AL P C ops rest Q (s.put o.dst r)) : AL P C ops (o :: rest) Q s := AL.g' (wanted_yes hg ht htn hs hb) hop hd h
theorem AL.hY {ids : List Nat} {j t : Nat} {b want : Bool} {o : Oper} {rest : List Oper} {u : Upd} (hg : o.guard = some (j, want)) (ht : ((ops[j]?).bind (·.dst)) = some t) (htn : Nat.blt t s.n = true) (hs : s.get t = aT b) (hb : b = want) (hop : NOp P ids s o s.nx u) (hd : dstOk o.dst s.n = true) (h : AL P C ops rest Q (s.nxt o.dst u)) : AL P C ops (o :: rest) Q s := AL.h' (wanted_yes hg ht htn hs hb) hop hd h
theorem AL.no {j t : Nat} {b want : Bool} {o : Oper} {rest : List Oper} (hg : o.guard = some (j, want)) (ht : ((ops[j]?).bind (·.dst)) = some t) (htn : Nat.blt t s.n = true) (hs : s.get t = aT b) (hb : b = !want) (hd : dstOk o.dst s.n = true) (h : AL P C ops rest Q (s.put o.dst .und)) : AL P C ops (o :: rest) Q s := by
  refine ⟨fun a w hR' => ?_⟩
  have hy := yielded_of ht htn hs hR'
  obtain ⟨m, hR⟩ := hR'
  refine wpList_step fun K hK => ?_
  have hwt : ¬ Region.wanted o (yielded ops a.tmps) = true := by simp [Region.wanted, hg, hy, hb]
  rw [if_neg hwt]
  refine hK _ _ (h.run _ _ ⟨m, ?_⟩)
  have := hR.setSlot (x := .und) (v := undef) hd .und
  cases hdst : o.dst <;> (rw [hdst] at this; exact this)
/-- An operation guarded by one that was not wanted. -/
theorem AL.noU {j t : Nat} {want : Bool} {o : Oper} {rest : List Oper} (hg : o.guard = some (j, want)) (ht : ((ops[j]?).bind (·.dst)) = some t) (hs : s.get t = .und) (hd : dstOk o.dst s.n = true) (h : AL P C ops rest Q (s.put o.dst .und)) : AL P C ops (o :: rest) Q s := by
  refine ⟨fun a w hR' => ?_⟩
  obtain ⟨m, hR⟩ := hR'
  have hu := hR.sl t
  rw [hs] at hu
  have hy : yielded ops a.tmps j = none := by
    generalize hv : a.tmps.getD t undef = v at hu
    cases hu
    unfold yielded
    rw [ht]
    rw [Array.getD_eq_getD_getElem?] at hv
    simp only [Option.bind_some]
    cases hq : a.tmps[t]? with
    | none => rfl
    | some v => rw [hq] at hv; simp only [Option.getD_some] at hv; subst hv; rfl
  refine wpList_step fun K hK => ?_
  have hwt : ¬ Region.wanted o (yielded ops a.tmps) = true := by simp [Region.wanted, hg, hy]
  rw [if_neg hwt]
  refine hK _ _ (h.run _ _ ⟨m, ?_⟩)
  have := hR.setSlot (x := .und) (v := undef) hd .und
  cases hdst : o.dst <;> (rw [hdst] at this; exact this)
/-- Two ways. -/
theorem AL.case {l : List Oper} {t : Nat} {p : Prop} [Decidable p] (hs : s.get t = aT (decide p)) (hT : p → AL P C ops l Q (s.put (some t) (aT true))) (hF : ¬ p → AL P C ops l Q (s.put (some t) (aT false))) : AL P C ops l Q s := by
  refine ⟨fun a w hR => ?_⟩
  have key : ∀ b, decide p = b → Rel C (s.put (some t) (aT b)) a w := by
    intro b hb
    refine hR.weak rfl (Nat.le_refl _) (fun i => .inr ?_) (fun id c hc => hc)
    show ASt.get _ i = _
    simp only [ASt.put, ASt.get, getL_cons]
    by_cases hi : i = t
    · subst hi; rw [if_pos rfl]; rw [← hb]; exact hs.symm
    · rw [if_neg hi]
  by_cases hp : p
  · exact (hT hp).run a w (key true (by simp [hp]))
  · exact (hF hp).run a w (key false (by simp [hp]))
theorem AL.caseB {l : List Oper} {t : Nat} {b : Bool} (hs : s.get t = aT b) (hT : b = true → AL P C ops l Q (s.put (some t) (aT true))) (hF : b = false → AL P C ops l Q (s.put (some t) (aT false))) : AL P C ops l Q s := by
  refine AL.case (p := b = true) (by rw [hs]; simp) hT (fun h => hF (by simpa using h))

theorem AC.region {id : Nat} {l : List Oper} (h : AL P C l.toArray l Q s) : ACode P C (.region id l.toArray false) Q s := ⟨fun a w hR => wp_region_lit (h.run a w hR)⟩
theorem AC.skip (h : Q .normal s) : ACode P C .skip Q s := ⟨fun a w hR => wp_skip ⟨s, hR, h⟩⟩
theorem AC.exit {id : Nat} (h : Q (.exit id) s) : ACode P C (.exit id) Q s := ⟨fun a w hR => wp_exit ⟨s, hR, h⟩⟩
theorem AC.ret (h : Q .ret s) : ACode P C .ret Q s := ⟨fun a w hR => wp_ret ⟨s, hR, h⟩⟩
theorem AC.seq {x y : Code} (h : ACode P C x (thenA (ACode P C y Q) Q) s) : ACode P C (.seq x y) Q s := ⟨fun a w hR =>
  wp_seq (Go.wp_mono (h.run a w hR) fun e a w ⟨s, hR, hq⟩ => by
    cases hq with
    | n hq => exact hq.run a w hR
    | o hn hq =>
      cases e with
      | normal => exact absurd rfl hn
      | _ => exact ⟨s, hR, hq⟩)⟩
theorem AC.block {id : Nat} {x : Code} (h : ACode P C x (inBlockA id Q) s) : ACode P C (.block id x) Q s := ⟨fun a w hR =>
  wp_block (Go.wp_mono (h.run a w hR) fun e a w ⟨s, hR, hq⟩ => by
    cases hq with
    | y hq =>
      simp only [Exit.inBlock, if_true]
      exact ⟨s, hR, hq⟩
    | o hn hq =>
      cases e with
      | exit j =>
        have hj : ¬ j = id := fun e => hn (by rw [e])
        simp only [Exit.inBlock, hj, if_false]
        exact ⟨s, hR, hq⟩
      | _ => exact ⟨s, hR, hq⟩)⟩
theorem Rel.cond {a : Act} {w : World} (h : Rel C s a w) {c : Operand} {b : Bool} (hc : s.ev c = aT b) : a.eval c = .bool b := by
  obtain ⟨m, hR⟩ := h
  have := hR.ev c
  rw [hc] at this
  exact this.val_eq.1
theorem AC.condT {c : Operand} {x y : Code} (hc : s.ev c = aT true) (h : ACode P C x Q s) : ACode P C (.cond c x y) Q s := ⟨fun a w hR => wp_cond_true (hR.cond hc) (h.run a w hR)⟩
theorem AC.condF {c : Operand} {x y : Code} (hc : s.ev c = aT false) (h : ACode P C y Q s) : ACode P C (.cond c x y) Q s := ⟨fun a w hR => wp_cond_false (hR.cond hc) (h.run a w hR)⟩
theorem AC.condD {c : Operand} {x y : Code} {p : Prop} [Decidable p] (hc : s.ev c = aT (decide p)) (hT : p → ACode P C x Q s) (hF : ¬ p → ACode P C y Q s) : ACode P C (.cond c x y) Q s := ⟨fun a w hR =>
  wp_cond_split (hR.cond hc) (fun h => (hT (of_decide_eq_true h)).run a w hR) (fun h => (hF (of_decide_eq_false h)).run a w hR)⟩
theorem AC.condND {c : Operand} {x y : Code} {p : Prop} [Decidable p] (hc : s.ev c = aT (!decide p)) (hT : ¬ p → ACode P C x Q s) (hF : p → ACode P C y Q s) : ACode P C (.cond c x y) Q s := ⟨fun a w hR =>
  wp_cond_split (hR.cond hc) (fun h => (hT (by simpa using h)).run a w hR) (fun h => (hF (by simpa using h)).run a w hR)⟩
theorem AC.condB {c : Operand} {x y : Code} {b : Bool} (hc : s.ev c = aT b) (hT : b = true → ACode P C x Q s) (hF : b = false → ACode P C y Q s) : ACode P C (.cond c x y) Q s := ⟨fun a w hR =>
  wp_cond_split (hR.cond hc) (fun h => (hT h).run a w hR) (fun h => (hF h).run a w hR)⟩
theorem AC.condNB {c : Operand} {x y : Code} {b : Bool} (hc : s.ev c = aT (!b)) (hT : b = false → ACode P C x Q s) (hF : b = true → ACode P C y Q s) : ACode P C (.cond c x y) Q s := ⟨fun a w hR =>
  wp_cond_split (hR.cond hc) (fun h => (hT (by simpa using h)).run a w hR) (fun h => (hF (by simpa using h)).run a w hR)⟩

/-- Every reading of s is one of t: t says less. -/
structure Weak (C : Ctx) (s t : ASt) : Prop where
  run : ∀ a w, Rel C s a w → Rel C t a w
theorem Weak.refl : Weak C s s := ⟨fun _ _ h => h⟩
theorem Weak.trans {s t u : ASt} (h : Weak C s t) (k : Weak C t u) : Weak C s u := ⟨fun a w hR => k.run a w (h.run a w hR)⟩
theorem AC.weak {t : ASt} {c : Code} (h : Weak C s t) (k : ACode P C c Q t) : ACode P C c Q s := ⟨fun a w hR => k.run a w (h.run a w hR)⟩
theorem AL.weak {t : ASt} {l : List Oper} (h : Weak C s t) (k : AL P C ops l Q t) : AL P C ops l Q s := ⟨fun a w hR => k.run a w (h.run a w hR)⟩
theorem AC.mono {Q' : Exit → ASt → Prop} {c : Code} (h : ACode P C c Q s) (hq : ∀ e s, Q e s → Q' e s) : ACode P C c Q' s := ⟨fun a w hR => Go.wp_mono (h.run a w hR) fun e a w ⟨s, hR, hq'⟩ => ⟨s, hR, hq e s hq'⟩⟩
/-- A loop: its states st i, of which each round meets a lesser one or leaves. -/
theorem AC.loop {ι : Type} {c : Code} (st : ι → ASt) (I : ι → Prop) (μ : ι → Nat) (i₀ : ι) (h₀ : Weak C s (st i₀)) (hI : I i₀)
    (round : ∀ i, I i → ACode P C c (thenA (fun s' => ∃ j, I j ∧ μ j < μ i ∧ Weak C s' (st j)) Q) (st i)) : ACode P C (.loop c) Q s := by
  have hleast : ∀ aw : Act × World, ∃ n : Nat, (∃ i, I i ∧ Rel C (st i) aw.1 aw.2) → (∃ i, μ i = n ∧ I i ∧ Rel C (st i) aw.1 aw.2) ∧ ∀ i, I i → Rel C (st i) aw.1 aw.2 → n ≤ μ i := by
    intro aw
    by_cases h : ∃ i, I i ∧ Rel C (st i) aw.1 aw.2
    · obtain ⟨i, hi⟩ := h
      have key : ∀ n, (∃ i, μ i = n ∧ I i ∧ Rel C (st i) aw.1 aw.2) → ∃ n, (∃ i, μ i = n ∧ I i ∧ Rel C (st i) aw.1 aw.2) ∧ ∀ i, I i → Rel C (st i) aw.1 aw.2 → n ≤ μ i := by
        intro n
        induction n using Nat.strongRecOn with
        | _ n ih =>
          intro hn
          by_cases hl : ∃ i, I i ∧ Rel C (st i) aw.1 aw.2 ∧ μ i < n
          · obtain ⟨i, h1, h2, h3⟩ := hl
            exact ih (μ i) h3 ⟨i, rfl, h1, h2⟩
          · exact ⟨n, hn, fun i h1 h2 => Nat.le_of_not_lt fun h3 => hl ⟨i, h1, h2, h3⟩⟩
      obtain ⟨n, hn⟩ := key (μ i) ⟨i, rfl, hi⟩
      exact ⟨n, fun _ => hn⟩
    · exact ⟨0, fun h' => absurd h' h⟩
  obtain ⟨M, hM⟩ := Classical.axiomOfChoice hleast
  refine ⟨fun a w hR => ?_⟩
  refine wp_loop (fun a w => ∃ i, I i ∧ Rel C (st i) a w) (fun a w => M (a, w)) ⟨i₀, hI, h₀.run a w hR⟩ ?_
  intro a w hI'
  obtain ⟨⟨i, hμ, hi, hRi⟩, hmin⟩ := hM (a, w) hI'
  refine Go.wp_mono ((round i hi).run a w hRi) fun e a' w' ⟨s', hR', hq⟩ => ?_
  cases hq with
  | n hq =>
    obtain ⟨j, hj, hlt, hwk⟩ := hq
    have hRj := hwk.run a' w' hR'
    have h2 := (hM (a', w') ⟨j, hj, hRj⟩).2 j hj hRj
    exact ⟨⟨j, hj, hRj⟩, by omega⟩
  | o hn hq =>
    cases e with
    | normal => exact absurd rfl hn
    | _ => exact ⟨s', hR', hq⟩
/-- A join behind a statement: states st i. -/
theorem AC.cut {ι : Type} {x y : Code} (st : ι → ASt) (I : ι → Prop) (h : ACode P C x (thenA (fun s' => ∃ i, I i ∧ Weak C s' (st i)) Q) s) (k : ∀ i, I i → ACode P C y Q (st i)) : ACode P C (.seq x y) Q s :=
  AC.seq (AC.mono h fun e s' hq => by
    cases hq with
    | n hq => obtain ⟨i, hi, hw⟩ := hq; exact .n (AC.weak hw (k i hi))
    | o hn hq => exact .o hn hq)
end
end Go.Proofs.Ytochebmkfdfbhaa
