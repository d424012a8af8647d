/- Small laws for walking: guards, the ways out, plain results. No program is named here. -/
import Derived.Test.YtochebmkfdfbhaaB5
set_option linter.all false
namespace Go.Proofs.Ytochebmkfdfbhaa
open Go.RowKit

section
variable {P : Program} [PT P] {C : Ctx} {Q : Exit → ASt → Prop} {K : ASt → Prop} {s : ASt} {ops : Array Oper}
variable {dst : Option Nat} {op : Op} {ty : Nat} {pos : String} {af : Array Edge} {rest : List Oper}

theorem AL.p {ids : List Nat} {r : AV} (hop : GOp P ids s ⟨dst, op, ty, pos, af, none⟩ r) (hd : dstOk dst s.n = true) (h : AL P C ops rest Q (s.put dst r)) : AL P C ops (⟨dst, op, ty, pos, af, none⟩ :: rest) Q s := AL.g rfl hop hd h
theorem AL.q {ids : List Nat} {u : Upd} (hop : NOp P ids s ⟨dst, op, ty, pos, af, none⟩ s.nx u) (hd : dstOk dst s.n = true) (h : AL P C ops rest Q (s.nxt dst u)) : AL P C ops (⟨dst, op, ty, pos, af, none⟩ :: rest) Q s := AL.h rfl hop hd h
theorem AL.r {ids : List Nat} {Us : Upd → Prop} (hop : NOpR P ids s ⟨dst, op, ty, pos, af, none⟩ s.nx Us) (hd : dstOk dst s.n = true) (h : ∀ u, Us u → AL P C ops rest Q (s.nxt dst u)) : AL P C ops (⟨dst, op, ty, pos, af, none⟩ :: rest) Q s := AL.call' (fun a w _ => wanted_none rfl a) hop hd h
theorem AL.yes {j t : Nat} {want : Bool} (ht : ((ops[j]?).bind (·.dst)) = some t) (htn : Nat.blt t s.n = true) (hs : s.get t = aT want) (h : AL P C ops (⟨dst, op, ty, pos, af, none⟩ :: rest) Q s) : AL P C ops (⟨dst, op, ty, pos, af, some (j, want)⟩ :: rest) Q s := by
  refine ⟨fun a w hR => ?_⟩
  have hw := wanted_yes (o := ⟨dst, op, ty, pos, af, some (j, want)⟩) rfl ht htn hs rfl a w hR
  have h1 := h.run a w hR
  unfold wpList at h1 ⊢
  rw [if_pos (by simp [Region.wanted])] at h1
  rw [if_pos hw]
  exact h1
theorem AL.not {j t : Nat} {want b : Bool} (ht : ((ops[j]?).bind (·.dst)) = some t) (htn : Nat.blt t s.n = true) (hs : s.get t = aT b) (hb : b = !want) (hd : dstOk dst s.n = true) (h : AL P C ops rest Q (s.put dst .und)) : AL P C ops (⟨dst, op, ty, pos, af, some (j, want)⟩ :: rest) Q s :=
  AL.no rfl ht htn hs hb hd h
theorem AL.notU {j t : Nat} {want : Bool} (ht : ((ops[j]?).bind (·.dst)) = some t) (hs : s.get t = .und) (hd : dstOk dst s.n = true) (h : AL P C ops rest Q (s.put dst .und)) : AL P C ops (⟨dst, op, ty, pos, af, some (j, want)⟩ :: rest) Q s :=
  AL.noU rfl ht hs hd h
theorem AL.caseG {j t : Nat} {want : Bool} {p : Prop} [Decidable p] (ht : ((ops[j]?).bind (·.dst)) = some t) (hs : s.get t = aT (decide p)) (hT : p → AL P C ops (⟨dst, op, ty, pos, af, some (j, want)⟩ :: rest) Q (s.put (some t) (aT true))) (hF : ¬ p → AL P C ops (⟨dst, op, ty, pos, af, some (j, want)⟩ :: rest) Q (s.put (some t) (aT false))) : AL P C ops (⟨dst, op, ty, pos, af, some (j, want)⟩ :: rest) Q s := AL.case hs hT hF
theorem AL.caseGN {j t : Nat} {want : Bool} {p : Prop} [Decidable p] (ht : ((ops[j]?).bind (·.dst)) = some t) (hs : s.get t = aT (!decide p)) (hT : ¬ p → AL P C ops (⟨dst, op, ty, pos, af, some (j, want)⟩ :: rest) Q (s.put (some t) (aT true))) (hF : p → AL P C ops (⟨dst, op, ty, pos, af, some (j, want)⟩ :: rest) Q (s.put (some t) (aT false))) : AL P C ops (⟨dst, op, ty, pos, af, some (j, want)⟩ :: rest) Q s := AL.caseB hs (fun h => hT (by simpa using h)) (fun h => hF (by simpa using h))
theorem AL.caseGB {j t : Nat} {want b : Bool} (ht : ((ops[j]?).bind (·.dst)) = some t) (hs : s.get t = aT b) (hT : b = true → AL P C ops (⟨dst, op, ty, pos, af, some (j, want)⟩ :: rest) Q (s.put (some t) (aT true))) (hF : b = false → AL P C ops (⟨dst, op, ty, pos, af, some (j, want)⟩ :: rest) Q (s.put (some t) (aT false))) : AL P C ops (⟨dst, op, ty, pos, af, some (j, want)⟩ :: rest) Q s := AL.caseB hs hT hF
theorem AL.caseGNB {j t : Nat} {want b : Bool} (ht : ((ops[j]?).bind (·.dst)) = some t) (hs : s.get t = aT (!b)) (hT : b = false → AL P C ops (⟨dst, op, ty, pos, af, some (j, want)⟩ :: rest) Q (s.put (some t) (aT true))) (hF : b = true → AL P C ops (⟨dst, op, ty, pos, af, some (j, want)⟩ :: rest) Q (s.put (some t) (aT false))) : AL P C ops (⟨dst, op, ty, pos, af, some (j, want)⟩ :: rest) Q s := AL.caseB hs (fun h => hT (by simpa using h)) (fun h => hF (by simpa using h))

theorem th_n (h : K s) : thenA K Q .normal s := .n h
theorem th_r (h : Q .ret s) : thenA K Q .ret s := .o (by simp) h
theorem th_e {id : Nat} (h : Q (.exit id) s) : thenA K Q (.exit id) s := .o (by simp) h
theorem ib_n {id : Nat} (h : Q .normal s) : inBlockA id Q .normal s := .o (by simp) h
theorem ib_r {id : Nat} (h : Q .ret s) : inBlockA id Q .ret s := .o (by simp) h
theorem ib_y {id : Nat} (h : Q .normal s) : inBlockA id Q (.exit id) s := .y h
theorem ib_no {id j : Nat} (hj : Nat.beq j id = false) (h : Q (.exit j) s) : inBlockA id Q (.exit j) s := .o (by simp only [ne_eq, Exit.exit.injEq]; exact Nat.ne_of_beq_eq_false hj) h

/-- The contract of a function with one plain result, that turns nothing. -/
def Pure1 (r : AV) : AV → List (Nat × Chunk) → Prop := fun r' chs' => r' = r ∧ chs' = []
theorem bq_r {fn : Func} {k : Nat} {R : AV → List (Nat × Chunk) → Prop} (h : RetQ P fn k R s) : BodyQ P fn k R .ret s := .r h
theorem bq_n {fn : Func} {k : Nat} {R : AV → List (Nat × Chunk) → Prop} (h : RetQ P fn k R s) : BodyQ P fn k R .normal s := .n h
theorem ret0 {fn : Func} {k : Nat} {x r : AV} (hx : resAV P s fn.results.toList = some x) (h : r.leads (sig k []) x) : RetQ P fn k (Pure1 r) s :=
  ⟨⟨x, r, [], [], hx, ⟨rfl, rfl⟩, h, fun id c hc => by simp [getL] at hc, fun id hid => by
    have : Nat.blt id k = false := by cases hb : Nat.blt id k with
      | true => have : id < k := by simpa using hb
                omega
      | false => rfl
    simp [sig, this, getL], fun id id' j h1 => by simp [getL] at h1⟩⟩
theorem ret1 {fn : Func} {k : Nat} {x r : DV} (hx : resAV P s fn.results.toList = some (.d x)) (h : x = r) : RetQ P fn k (Pure1 (.d r)) s := ret0 hx (by subst h; exact .same)
theorem ret2 {fn : Func} {k : Nat} {x r x2 r2 : DV} (hx : resAV P s fn.results.toList = some (.tup [.d x, .d x2])) (h : x = r) (h2 : x2 = r2) : RetQ P fn k (Pure1 (.tup [.d r, .d r2])) s :=
  ret0 hx (by subst h; subst h2; exact ⟨_, rfl, _, _, rfl, .same, _, _, rfl, .same, rfl⟩)
theorem ret3 {fn : Func} {k : Nat} {x r x2 r2 x3 r3 : DV} (hx : resAV P s fn.results.toList = some (.tup [.d x, .d x2, .d x3])) (h : x = r) (h2 : x2 = r2) (h3 : x3 = r3) : RetQ P fn k (Pure1 (.tup [.d r, .d r2, .d r3])) s :=
  ret0 hx (by subst h; subst h2; subst h3; exact ⟨_, rfl, _, _, rfl, .same, _, _, rfl, .same, _, _, rfl, .same, rfl⟩)

/-- The end of a function that turns the blocks it was handed. -/
theorem retF {fn : Func} {k : Nat} {x r : AV} {chs' : List (Nat × Chunk)} (hx : resAV P s fn.results.toList = some x) (h : r.leads (sig k []) x) (hc : leadsC (sig k []) s (chL chs')) (ha : apartL (sig k []) (keysC (chL chs')) = true) : RetQ P fn k (Fun1 r chs') s :=
  ⟨⟨x, r, chs', [], hx, ⟨rfl, rfl⟩, h, fun id c hc' => (leadsC_get hc id c (by rw [getL_chL]; exact hc')).1, fun id hid => by
    have : Nat.blt id k = false := by cases hb : Nat.blt id k with
      | true => have : id < k := by simpa using hb
                omega
      | false => rfl
    simp [sig, this, getL], fun id id' j h1 h2 h3 h4 => by
    obtain ⟨c, h1⟩ := h1
    obtain ⟨c', h2⟩ := h2
    exact apartL_inj ha id id' j (leadsC_get hc id c (by rw [getL_chL]; exact h1)).2 (leadsC_get hc id' c' (by rw [getL_chL]; exact h2)).2 h3 h4⟩⟩

/-- A call of a function that turns nothing: its plain result. -/
theorem h_pure {g : FuncId} {caps ys as : List AV} {fx : Operand} {xs : Array Operand} {ats : Array TypeId} {r : AV} {f : Nat} {gd : Option (Nat × Bool)} (hen : Enters P g) (hf : s.ev fx = .clo g caps) (hys : xs.toList.map s.ev ++ caps = ys)
    (hlead : AV.leadsL (sigC []) as ys) (hspec : ASpec P g as [] (Pure1 r)) (hr : r.ren (tauC [] f) = r) :
    NOp P [] s ⟨dst, .call { callee := .value fx, args := xs, argTypes := ats }, ty, pos, af, gd⟩ f ⟨r, []⟩ :=
  NOpR.one (h_callR (cs := []) hen hf hys hspec hlead rfl (fun id c h => by simp [getL] at h) (fun id j h => by simp at h) (fun i i' j h => by simp at h)) (by
    rintro v ⟨r', chs', ⟨rfl, rfl⟩, rfl⟩
    simp [callU, mapC, noneC, hr])
def nodupB : List Nat → Bool
  | [] => true
  | x :: l => l.all (fun y => !Nat.beq x y) && nodupB l
theorem nodupB_inj : ∀ {l : List Nat}, nodupB l = true → ∀ (i i' j : Nat), l[i]? = some j → l[i']? = some j → i = i'
  | x :: l, h, i, i', j, h1, h2 => by
    simp only [nodupB, Bool.and_eq_true, List.all_eq_true, Bool.not_eq_true'] at h
    cases i with
    | zero =>
      cases i' with
      | zero => rfl
      | succ i' =>
        simp at h1 h2; subst h1
        have := h.1 x (List.mem_of_getElem? h2)
        simp at this
    | succ i =>
      cases i' with
      | zero =>
        simp at h1 h2; subst h2
        have := h.1 x (List.mem_of_getElem? h1)
        simp at this
      | succ i' => rw [nodupB_inj h.2 i i' j (by simpa using h1) (by simpa using h2)]
theorem keys_range {chs : List (Nat × Chunk)} {ks : List Nat} (h : chs.map (·.1) = ks) {i : Nat} (hi : i ∈ ks) : ∃ c, getL i chs = some c := by
  subst h
  induction chs with
  | nil => simp at hi
  | cons p l ih =>
    obtain ⟨j, x⟩ := p
    rw [getL_cons]
    by_cases hij : i = j
    · exact ⟨x, by rw [if_pos hij]⟩
    · rw [if_neg hij]; exact ih (by simp at hi; rcases hi with h | h; exact absurd h hij; simpa using h)
/-- A call of a function that turns blocks it is handed: cs names them here. -/
theorem h_fun {g : FuncId} {caps ys as : List AV} {fx : Operand} {xs : Array Operand} {ats : Array TypeId} {chs chs0 : List (Nat × Chunk)} {r0 : AV} {cs : List Nat} {u : Upd} {f : Nat} {gd : Option (Nat × Bool)} (hen : Enters P g) (hf : s.ev fx = .clo g caps) (hys : xs.toList.map s.ev ++ caps = ys)
    (hlead : AV.leadsL (sigC cs) as ys) (hch : leadsC (sigC cs) s (chL chs)) (hspec : ASpec P g as chs (Fun1 r0 chs0)) (hkeys : chs.map (·.1) = List.range cs.length) (hlen : chs.length = cs.length) (hnd : nodupB cs = true) (hu : callU cs f r0 chs0 = u) :
    NOp P cs s ⟨dst, .call { callee := .value fx, args := xs, argTypes := ats }, ty, pos, af, gd⟩ f u :=
  NOpR.one (h_callR (cs := cs) hen hf hys hspec hlead hlen (fun id c h => by
    obtain ⟨⟨j, d, h1, h2, h3⟩, _⟩ := leadsC_get hch id c (by rw [getL_chL]; exact h)
    exact ⟨j, d, h1, h2, h3⟩) (fun id j h => by
    obtain ⟨c, hc⟩ := keys_range hkeys (i := id) (List.mem_range.2 (List.getElem?_eq_some_iff.1 h).1)
    obtain ⟨⟨j', d, h1, h2, _⟩, _⟩ := leadsC_get hch id c (by rw [getL_chL]; exact hc)
    have h1' : cs[id]? = some j' := h1
    rw [h] at h1'
    obtain rfl : j = j' := by simpa using h1'
    exact ⟨d, h2⟩) (fun i i' j => nodupB_inj hnd i i' j)) (by
    rintro v ⟨r', chs', ⟨rfl, rfl⟩, rfl⟩
    exact hu)
theorem enters_of {g : FuncId} {fn : Func} {c : Code} (hf : P.funcs[g]? = some fn) (hb : fn.body = some c) (hn : (fn.name == "runtime.NumGoroutine") = false) : Enters P g := by
  intro args w
  have h1 : fn.name ≠ "runtime.NumGoroutine" := by simpa using hn
  simp [callFunc, hf, h1, hb]
end
end Go.Proofs.Ytochebmkfdfbhaa
