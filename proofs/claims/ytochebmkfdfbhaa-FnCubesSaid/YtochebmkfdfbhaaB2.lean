/- Readings said in other words: names changed, slices given up to all; a function's contract, and its call. No program is named here. -/
import Derived.Test.YtochebmkfdfbhaaB1
set_option linter.all false
namespace Go.Proofs.Ytochebmkfdfbhaa
open Go.RowKit

mutual
def AV.ren (σ : Nat → Nat) : AV → AV
  | .dead => .dead
  | .und => .und
  | .d x => .d x
  | .own id n => .own (σ id) n
  | .ptr id k => .ptr (σ id) k
  | .tight e sz els => .tight e sz els
  | .agg cs => .agg (AV.renL σ cs)
  | .tup cs => .tup (AV.renL σ cs)
  | .clo f cs => .clo f (AV.renL σ cs)
def AV.renL (σ : Nat → Nat) : List AV → List AV
  | [] => []
  | c :: cs => c.ren σ :: AV.renL σ cs
end
theorem AV.renL_eq (σ : Nat → Nat) (l : List AV) : AV.renL σ l = l.map (AV.ren σ) := by
  induction l with
  | nil => rfl
  | cons c l ih => simp [AV.renL, ih]
def Chunk.ren (σ : Nat → Nat) : Chunk → Chunk
  | .cells t cs => .cells t (AV.renL σ cs)
  | .arr e sz els => .arr e sz els
  | .iter st pos => .iter st pos

theorem ARep.ren {m m' : Nat → Option (Option Nat × Nat)} {F F' : Nat → Prop} {w : World} {σ : Nat → Nat} (hm : ∀ id p, m id = some p → m' (σ id) = some p) (hF : ∀ k, F k → F' k) {x : AV} {v : Value} (h : ARep m F w x v) : ARep m' F' w (x.ren σ) v := by
  induction h with
  | dead => exact .dead
  | und => exact .und
  | d h => exact .d (h.mono hF)
  | own h h0 => exact .own (hm _ _ h) h0
  | ptr h => exact .ptr (hm _ _ h)
  | tight h => exact .tight (h.mono hF)
  | agg h1 _ h3 ih =>
    simp only [AV.ren, AV.renL_eq]
    refine .agg (by simpa using h1) (fun i c hc => ?_) h3
    rw [List.getElem?_map, Option.map_eq_some_iff] at hc
    obtain ⟨c', hc', rfl⟩ := hc
    exact ih i c' hc'
  | tup h1 _ ih =>
    simp only [AV.ren, AV.renL_eq]
    refine .tup (by simpa using h1) (fun i c hc => ?_)
    rw [List.getElem?_map, Option.map_eq_some_iff] at hc
    obtain ⟨c', hc', rfl⟩ := hc
    exact ih i c' hc'
  | clo h1 _ ih =>
    simp only [AV.ren, AV.renL_eq]
    refine .clo (by simpa using h1) (fun i c hc => ?_)
    rw [List.getElem?_map, Option.map_eq_some_iff] at hc
    obtain ⟨c', hc', rfl⟩ := hc
    exact ih i c' hc'
theorem CRep.ren {m m' : Nat → Option (Option Nat × Nat)} {F F' : Nat → Prop} {w : World} {σ : Nat → Nat} (hm : ∀ id p, m id = some p → m' (σ id) = some p) (hF : ∀ k, F k → F' k) {p : Option Nat × Nat} {c : Chunk} (h : CRep m F w p c) : CRep m' F' w p (c.ren σ) := by
  cases h with
  | cells h1 h2 h3 h4 =>
    simp only [Chunk.ren, AV.renL_eq]
    refine .cells h1 (by simpa using h2) (fun i c hc => ?_) h4
    rw [List.getElem?_map, Option.map_eq_some_iff] at hc
    obtain ⟨c', hc', rfl⟩ := hc
    exact (h3 i c' hc').ren hm hF
  | arr h1 h2 h3 h4 h5 h6 h7 h8 => exact .arr h1 h2 h3 h4 h5 h6 h7 (fun i cs j d hi hj => (h8 i cs j d hi hj).mono hF)
  | nil h => exact .nil h
  | iter h => exact .iter h
/-- Where a name leads: by a table; the names below k stand for themselves. -/
def sig (k : Nat) (ρ : List (Nat × Nat)) (i : Nat) : Option Nat := bif Nat.blt i k then some i else getL i ρ
/-- Data that a slot's reading gives: the same, or no elements for the slice that is nil. -/
inductive DLead : DV → AV → Prop
  | same {x : DV} : DLead x (.d x)
  | nil {e sz : Nat} : DLead (.view e sz []) (.d (.val (.slice none 0 0)))
theorem DLead.eqI {a b : Int} {k : IntKind} (h : a = b) : DLead (.val (.int k a)) (.d (.val (.int k b))) := by subst h; exact .same
theorem DLead.eq {x y : DV} (h : x = y) : DLead x (.d y) := by subst h; exact .same
mutual
/-- x with names that lead, by σ, to the names of y. -/
def AV.leads (σ : Nat → Option Nat) : AV → AV → Prop
  | .dead, _ => True
  | .und, y => y = .und
  | .d x, y => DLead x y
  | .own id n, y => ∃ j, σ id = some j ∧ y = .own j n
  | .ptr id n, y => ∃ j, σ id = some j ∧ y = .ptr j n
  | .tight e sz els, y => y = .tight e sz els
  | .agg cs, y => ∃ ds, y = .agg ds ∧ AV.leadsL σ cs ds
  | .tup cs, y => ∃ ds, y = .tup ds ∧ AV.leadsL σ cs ds
  | .clo f cs, y => ∃ ds, y = .clo f ds ∧ AV.leadsL σ cs ds
def AV.leadsL (σ : Nat → Option Nat) : List AV → List AV → Prop
  | [], l => l = []
  | c :: cs, l => ∃ d ds, l = d :: ds ∧ c.leads σ d ∧ AV.leadsL σ cs ds
end
theorem AV.leadsL_get {σ : Nat → Option Nat} : ∀ {cs ds : List AV}, AV.leadsL σ cs ds → cs.length = ds.length ∧ ∀ (i : Nat) c, cs[i]? = some c → ∃ d, ds[i]? = some d ∧ c.leads σ d
  | [], ds, h => by simp only [AV.leadsL] at h; subst h; simp
  | c :: cs, ds, h => by
    simp only [AV.leadsL] at h
    obtain ⟨d, ds, rfl, h1, h2⟩ := h
    obtain ⟨h3, h4⟩ := AV.leadsL_get h2
    refine ⟨by simp [h3], fun i c' hc => ?_⟩
    cases i with
    | zero => simp at hc; subst hc; exact ⟨d, rfl, h1⟩
    | succ i => simpa using h4 i c' (by simpa using hc)
theorem ARep.lead {m m' : Nat → Option (Option Nat × Nat)} {F F' : Nat → Prop} {w : World} {σ : Nat → Option Nat} (hm : ∀ id j p, σ id = some j → m j = some p → m' id = some p) (hF : ∀ k, F k → F' k) {y : AV} {v : Value} (h : ARep m F w y v) : ∀ x : AV, x.leads σ y → ARep m' F' w x v := by
  induction h with
  | dead => intro x hx; cases x <;> simp [AV.leads] at hx; exact .dead; cases hx
  | und => intro x hx; cases x <;> simp [AV.leads] at hx; exact .dead; exact .und; cases hx
  | d h =>
    intro x hx
    cases x <;> simp [AV.leads] at hx
    · exact .dead
    · cases hx with
      | same => exact .d (h.mono hF)
      | nil => cases h; exact .d .nil
  | own h h0 => intro x hx; cases x <;> simp [AV.leads] at hx; exact .dead; cases hx; obtain ⟨j, hs, hj, hn⟩ := hx; subst hj; subst hn; exact .own (hm _ _ _ hs h) h0
  | ptr h => intro x hx; cases x <;> simp [AV.leads] at hx; exact .dead; cases hx; obtain ⟨j, hs, hj, hn⟩ := hx; subst hj; subst hn; exact .ptr (hm _ _ _ hs h)
  | tight h => intro x hx; cases x <;> simp [AV.leads] at hx; exact .dead; cases hx; obtain ⟨rfl, rfl, rfl⟩ := hx; exact .tight (h.mono hF)
  | agg h1 _ h3 ih =>
    intro x hx
    cases x <;> simp [AV.leads] at hx
    · exact .dead
    · cases hx
    · obtain ⟨h4, h5⟩ := AV.leadsL_get hx
      exact .agg (by omega) (fun i c hc => by obtain ⟨d, hd, hl⟩ := h5 i c hc; exact ih i d hd c hl) h3
  | tup h1 _ ih =>
    intro x hx
    cases x <;> simp [AV.leads] at hx
    · exact .dead
    · cases hx
    · obtain ⟨h4, h5⟩ := AV.leadsL_get hx
      exact .tup (by omega) (fun i c hc => by obtain ⟨d, hd, hl⟩ := h5 i c hc; exact ih i d hd c hl)
  | clo h1 _ ih =>
    intro x hx
    cases x <;> simp [AV.leads] at hx
    · exact .dead
    · cases hx
    · obtain ⟨ds, ⟨hf, hd⟩, hx⟩ := hx
      subst hf; subst hd
      obtain ⟨h4, h5⟩ := AV.leadsL_get hx
      exact .clo (by omega) (fun i c hc => by obtain ⟨d, hd, hl⟩ := h5 i c hc; exact ih i d hd c hl)
def Chunk.leads (σ : Nat → Option Nat) : Chunk → Chunk → Prop
  | .cells t cs, c => ∃ ds, c = .cells t ds ∧ AV.leadsL σ cs ds
  | .arr e sz els, c => c = .arr e sz els
  | .iter st pos, c => c = .iter st pos
theorem CRep.lead {m m' : Nat → Option (Option Nat × Nat)} {F F' : Nat → Prop} {w : World} {σ : Nat → Option Nat} (hm : ∀ id j p, σ id = some j → m j = some p → m' id = some p) (hF : ∀ k, F k → F' k) {p : Option Nat × Nat} {c d : Chunk} (h : CRep m F w p d) (hx : c.leads σ d) : CRep m' F' w p c := by
  cases c with
  | cells t cs =>
    obtain ⟨ds, rfl, hx⟩ := hx
    obtain ⟨h4, h5⟩ := AV.leadsL_get hx
    cases h with
    | cells h1 h2 h3 h6 => exact .cells h1 (by omega) (fun i c hc => by obtain ⟨d, hd, hl⟩ := h5 i c hc; exact (h3 i d hd).lead hm hF c hl) h6
  | arr e sz els =>
    simp only [Chunk.leads] at hx
    subst hx
    cases h with
    | arr h1 h2 h3 h4 h5 h6 h7 h8 => exact .arr h1 h2 h3 h4 h5 h6 h7 (fun i cs j d hi hj => (h8 i cs j d hi hj).mono hF)
    | nil h => exact .nil h
  | iter st pos =>
    simp only [Chunk.leads] at hx
    subst hx
    cases h with
    | iter h => exact .iter h

section
variable {P : Program} {C : Ctx} {Q : Exit → ASt → Prop} {s : ASt} {ops : Array Oper}

/-- A contract: called with what reads as args, among blocks chs (named 0, 1, ..) that it may turn, f returns what reads as r, and leaves blocks chs'; all else stays. -/
def ASpec (P : Program) (f : FuncId) (args : List AV) (chs : List (Nat × Chunk)) (R : AV → List (Nat × Chunk) → Prop) : Prop :=
  ∀ (w : World) (m : Nat → Option (Option Nat × Nat)) (Fin : Nat → Prop) (vs : Array Value),
    (∀ k, Fin k → k < w.heap.size ∧ ∀ id c p, getL id chs = some c → m id = some p → p.1 ≠ some k) →
    vs.size = args.length → (∀ (i : Nat) x, args[i]? = some x → ARep m Fin w x (vs.getD i undef)) →
    (∀ id c, getL id chs = some c → id < chs.length ∧ ∃ p, m id = some p ∧ CRep m Fin w p c) →
    (∀ id id' c c' p p' b, getL id chs = some c → getL id' chs = some c' → m id = some p → m id' = some p' → p.1 = some b → p'.1 = some b → id = id') →
    (∀ id, chs.length ≤ id → m id = none) →
    Calls P f vs w fun e w' => ∃ v r chs' m' F', e = .returned v ∧ R r chs' ∧
      (∀ id p, id < chs.length → m id = some p → m' id = some p) ∧ (∀ id, chs.length + 8 ≤ id → m' id = none) ∧
      (∀ k, F' k ↔ (Fin k ∨ (∃ id c p, getL id chs = some c ∧ m id = some p ∧ p.1 = some k) ∨ w.heap.size ≤ k) ∧ k < w'.heap.size ∧ ∀ id c p, getL id chs' = some c → m' id = some p → p.1 ≠ some k) ∧
      (w'.os = w.os ∧ w'.tape = w.tape ∧ w'.output = w.output ∧ w.heap.size ≤ w'.heap.size ∧ ∀ k, k < w.heap.size → (∀ id c p, getL id chs = some c → m id = some p → p.1 ≠ some k) → w'.heap[k]? = w.heap[k]?) ∧
      ARep m' F' w' r v ∧
      (∀ id c, getL id chs' = some c → ∃ p, m' id = some p ∧ CRep m' F' w' p c ∧ ∀ b, p.1 = some b → w.heap.size ≤ b ∨ ∃ id0 c0 p0, getL id0 chs = some c0 ∧ m id0 = some p0 ∧ p0.1 = some b) ∧
      (∀ id id' c c' p p' b, getL id chs' = some c → getL id' chs' = some c' → m' id = some p → m' id' = some p' → p.1 = some b → p'.1 = some b → id = id')

def chL : List (Nat × Chunk) → List (Nat × Option Chunk)
  | [] => []
  | (i, c) :: t => (i, some c) :: chL t
theorem getL_chL (id : Nat) : ∀ l : List (Nat × Chunk), (getL id (chL l)).getD none = getL id l
  | [] => rfl
  | (i, c) :: t => by
    simp only [chL, getL_cons]
    split
    · rfl
    · exact getL_chL id t
def slL : Nat → List AV → List (Nat × AV)
  | _, [] => []
  | i, x :: l => (i, x) :: slL (i + 1) l
theorem getL_slL : ∀ (l : List AV) (k i : Nat), getL i (slL k l) = if k ≤ i then l[i - k]? else none
  | [], k, i => by simp [slL, getL]
  | x :: l, k, i => by
    simp only [slL, getL_cons, getL_slL l]
    by_cases h1 : i = k
    · subst h1; simp
    · rw [if_neg h1]
      by_cases h2 : k ≤ i
      · rw [if_pos (show k + 1 ≤ i by omega), if_pos h2, show i - k = (i - (k + 1)) + 1 by omega]; simp
      · rw [if_neg (show ¬ k + 1 ≤ i by omega), if_neg h2]
/-- The state at a function's head. -/
def entry (n : Nat) (args : List AV) (chs : List (Nat × Chunk)) : ASt := ⟨n, chs.length, slL 0 args, chL chs⟩

/-- What a function hands back. -/
def resOne (P : Program) [PT P] (s : ASt) : ResultVar → Option AV
  | .tmp t => some (s.get t)
  | .cell t ty =>
    match s.get t with
    | .ptr id 0 =>
      match s.chunk id, PT.ty P ty with
      | some (.cells _ cs), some ts =>
        bif ts.kind.isRow then (bif Nat.beq cs.length ts.size then some (.agg cs) else none) else cs.head?
      | _, _ => none
    | _ => none
def resL (P : Program) [PT P] (s : ASt) : List ResultVar → Option (List AV)
  | [] => some []
  | r :: l =>
    match resOne P s r, resL P s l with
    | some x, some xs => some (x :: xs)
    | _, _ => none
def resAV (P : Program) [PT P] (s : ASt) (l : List ResultVar) : Option AV :=
  match resL P s l with
  | some [x] => some x
  | some xs => some (.tup xs)
  | none => none
/-- The end of a function: its result, and the blocks it leaves, under names of the contract's. -/
structure RetQ (P : Program) [PT P] (fn : Func) (k : Nat) (R : AV → List (Nat × Chunk) → Prop) (s : ASt) : Prop where
  out : ∃ x r chs' ρ, resAV P s fn.results.toList = some x ∧ R r chs' ∧ r.leads (sig k ρ) x ∧ (∀ id c, getL id chs' = some c → ∃ j d, sig k ρ id = some j ∧ s.chunk j = some d ∧ c.leads (sig k ρ) d) ∧ (∀ id, k + 8 ≤ id → sig k ρ id = none) ∧ (∀ id id' j, (∃ c, getL id chs' = some c) → (∃ c, getL id' chs' = some c) → sig k ρ id = some j → sig k ρ id' = some j → id = id')
inductive BodyQ (P : Program) [PT P] (fn : Func) (k : Nat) (R : AV → List (Nat × Chunk) → Prop) : Exit → ASt → Prop
  | r {s : ASt} : RetQ P fn k R s → BodyQ P fn k R .ret s
  | n {s : ASt} : RetQ P fn k R s → BodyQ P fn k R .normal s
end
end Go.Proofs.Ytochebmkfdfbhaa
