/- Contracts of the functions of the program and of the reference, each proved by a walk through its code. -/
import Derived.Maps.AppendAt
import Derived.OwnWalk
import Derived.Deep.MidRow
import Derived.Laws.ResultCell
import Derived.Deep.Upon
import Derived.Great.FillDense
import Derived.Laws.Tables
import Derived.Laws.BytesArg
import Derived.Laws.MakeOwn
import Derived.Great.BuildSlice
import Derived.ArgAppend
import Derived.Deep.AppendSrc
import Derived.Orders
import Derived.Laws.IdiomStrings
import Derived.Lib.AppendZerosOnto
import Derived.ProofKit
import Derived.OpenShut
import Derived.Lib.SliceRun
import Derived.Laws.Small
import Derived.Laws.StructEq
import Derived.ChangeKeysEq
import Derived.Test.YtkfpoagjlaldgaaProg
import Derived.KernelRfl
import Derived.Sort.Grow
import Derived.Laws.RangeString
import Derived.Below
import Derived.Test.YtkfpoagjlaldgaaGPskKit
import Derived.Test.YtkfpoagjlaldgaaGPskRep
import Derived.Test.YtkfpoagjlaldgaaGPskEdges2
import Derived.Test.YtkfpoagjlaldgaaGPs1
set_option linter.all false
set_option maxRecDepth 20000
namespace Go.Proofs.Ytkfpoagjlaldgaa
open Go.RowKit

def cntF (L : Nat → Bool) : Nat → Nat
  | 0 => 0
  | n + 1 => cntF L n + (if L n then 0 else 1)
theorem cntF_zero {L : Nat → Bool} : ∀ {n : Nat}, cntF L n = 0 → ∀ i, i < n → L i = true
  | n + 1, h, i, hi => by
    simp only [cntF] at h
    by_cases hin : i = n
    · subst hin; cases hL : L i <;> simp [hL] at h ⊢
    · exact cntF_zero (n := n) (by omega) i (by omega)
theorem cntF_set {L L' : Nat → Bool} {i : Nat} (hi0 : L i = false) (hi1 : L' i = true) (hne : ∀ j, j ≠ i → L' j = L j) : ∀ n, (i < n → cntF L' n + 1 = cntF L n) ∧ (n ≤ i → cntF L' n = cntF L n)
  | 0 => by simp [cntF]
  | n + 1 => by
    obtain ⟨h1, h2⟩ := cntF_set hi0 hi1 hne n
    simp only [cntF]
    refine ⟨fun h => ?_, fun h => ?_⟩
    · by_cases hin : n = i
      · subst hin; have := h2 (Nat.le_refl _); simp [hi0, hi1, this]
      · have := h1 (by omega); rw [hne n hin]; omega
    · have := h2 (by omega); rw [hne n (by omega)]; omega
theorem cntF_full (L : Nat → Bool) (h : ∀ i, L i = false) : ∀ n, cntF L n = n
  | 0 => rfl
  | n + 1 => by simp [cntF, cntF_full L h n, h]

theorem goS_cut {L : Nat → Bool} {i : Nat} (hL : ∀ k, L k = true → k < i) : ∀ (os : List Oper) (rs : List ORec) (k : Nat) (x : List (Nat × AV)), goS L k os (rs.take (i - k)) x = goS L k os rs x := by
  have hfalse : ∀ (os : List Oper) (rs : List ORec) (q : Nat) (x : List (Nat × AV)), i ≤ q → goS L q os rs x = x := by
    intro os
    induction os with
    | nil => intro rs q x _; simp [goS]
    | cons o os ih2 =>
      intro rs q x hq
      cases rs with
      | nil => simp [goS]
      | cons r rs =>
        have : L q = false := by cases hh : L q with
          | false => rfl
          | true => have := hL q hh; omega
        simp only [goS, this]
        exact ih2 rs (q + 1) x (by omega)
  intro os
  induction os with
  | nil => intro rs k x; simp [goS]
  | cons o os ih =>
    intro rs k x
    cases rs with
    | nil => simp
    | cons r rs =>
      by_cases hk : k < i
      · rw [show i - k = (i - (k + 1)) + 1 by omega, List.take_succ_cons]
        simp only [goS]
        exact ih rs (k + 1) _
      · have hki : i - k = 0 := by omega
        rw [hki, List.take_zero, hfalse _ (r :: rs) _ _ (by omega)]
        simp [goS]
theorem goC_cut {L : Nat → Bool} {i : Nat} (hL : ∀ k, L k = true → k < i) : ∀ (os : List Oper) (rs : List ORec) (k : Nat) (x : List (Nat × Option Chunk)), goC L k os (rs.take (i - k)) x = goC L k os rs x := by
  have hfalse : ∀ (os : List Oper) (rs : List ORec) (q : Nat) (x : List (Nat × Option Chunk)), i ≤ q → goC L q os rs x = x := by
    intro os
    induction os with
    | nil => intro rs q x _; simp [goC]
    | cons o os ih2 =>
      intro rs q x hq
      cases rs with
      | nil => simp [goC]
      | cons r rs =>
        have : L q = false := by cases hh : L q with
          | false => rfl
          | true => have := hL q hh; omega
        simp only [goC, this]
        exact ih2 rs (q + 1) x (by omega)
  intro os
  induction os with
  | nil => intro rs k x; simp [goC]
  | cons o os ih =>
    intro rs k x
    cases rs with
    | nil => simp
    | cons r rs =>
      by_cases hk : k < i
      · rw [show i - k = (i - (k + 1)) + 1 by omega, List.take_succ_cons]
        simp only [goC]
        exact ih rs (k + 1) _
      · have hki : i - k = 0 := by omega
        rw [hki, List.take_zero, hfalse _ (r :: rs) _ _ (by omega)]
        simp [goC]

section
variable {P : Program} {C : Ctx} {Q : Exit → ASt → Prop} {s : ASt} {ops : List Oper} {anc : List (List Nat)} {recs : List ORec}

theorem anc_lt (h : ancOk ops anc = true) {i j : Nat} (hi : i < ops.length) (hj : j ∈ ancAt anc i) : j < i := by
  simp only [ancOk, List.all_eq_true, List.mem_range] at h
  have := h i hi
  rw [List.getElem?_eq_getElem hi] at this
  simp only [Bool.and_eq_true, List.all_eq_true] at this
  have := (this.2 j hj).1
  simpa using this
theorem deps_lt (h : ancOk ops anc = true) {i d : Nat} {o : Oper} (ho : ops[i]? = some o) (hd : d ∈ deps o) : d < i := by
  have hi := (List.getElem?_eq_some_iff.1 ho).1
  simp only [ancOk, List.all_eq_true, List.mem_range] at h
  have := h i hi
  rw [ho] at this
  simp only [Bool.and_eq_true, List.all_eq_true] at this
  simpa using this.1 d hd
theorem anc_in (h : ancOk ops anc = true) {L : Nat → Bool} (hL : ∀ i o, ops[i]? = some o → L i = true → ∀ d, d ∈ deps o → L d = true) : ∀ n i o, i < n → ops[i]? = some o → (∀ d, d ∈ deps o → L d = true) → ∀ j, j ∈ ancAt anc i → L j = true := by
  intro n
  induction n with
  | zero => intro i o hi; omega
  | succ n ih =>
    intro i o hi ho hd j hj
    have hil := (List.getElem?_eq_some_iff.1 ho).1
    have h' := h
    simp only [ancOk, List.all_eq_true, List.mem_range] at h'
    have := h' i hil
    rw [ho] at this
    simp only [Bool.and_eq_true, List.all_eq_true, Bool.or_eq_true, List.any_eq_true] at this
    rcases (this.2 j hj).2 with h1 | ⟨k, h1, h2⟩
    · exact hd j (by simpa using h1)
    · have hk := deps_lt h ho h1
      have hkl : k < ops.length := by omega
      exact ih k ops[k] (by omega) (List.getElem?_eq_getElem hkl) (hL k _ (List.getElem?_eq_getElem hkl) (hd k h1)) j (by simpa using h2)

def UL (s : ASt) (n : Nat) (L : Nat → Bool) (j : Nat) : Prop := s.nx + 8 * n ≤ j ∨ ∃ i, i < n ∧ L i = false ∧ s.nx + 8 * i ≤ j ∧ j < s.nx + 8 * i + 8

theorem indep_of (h : indepOk ops anc recs = true) {i j : Nat} {oi oj : Oper} {ri rj : ORec} (hi : ops[i]? = some oi) (hj : ops[j]? = some oj) (hri : recs[i]? = some ri) (hrj : recs[j]? = some rj) (hne : i ≠ j) (h1 : j ∉ ancAt anc i) (h2 : i ∉ ancAt anc j) :
    (∀ d, oj.dst = some d → d ∉ looksT ops oi ∧ oi.dst ≠ some d) ∧ (∀ id, id ∈ keysU rj.1 → id ∉ ri.2 ∧ id ∉ keysU ri.1) := by
  simp only [indepOk, List.all_eq_true, List.mem_range] at h
  have := h i (List.getElem?_eq_some_iff.1 hi).1 j (List.getElem?_eq_some_iff.1 hj).1
  rw [hi, hj, hri, hrj] at this
  simp only [Bool.or_eq_true, beq_iff_eq, List.contains_eq_mem, decide_eq_true_eq] at this
  rcases this with ((h3 | h3) | h3) | h3
  · exact absurd h3 hne
  · exact absurd h3 h1
  · exact absurd h3 h2
  · simp only [Bool.and_eq_true, disj, List.all_eq_true, Bool.not_eq_true', List.contains_eq_mem, decide_eq_false_iff_not] at h3
    obtain ⟨⟨⟨a, b⟩, c⟩, d⟩ := h3
    refine ⟨fun x hx => ⟨a x (by simp [hx]), fun he => b x (by simp [hx]) (by simp [he])⟩, fun id hid => ⟨c id hid, d id hid⟩⟩
theorem keysU_none {u : Upd} {id : Nat} (h : id ∉ keysU u) : getL id u.ch = none := by
  unfold keysU at h
  generalize u.ch = l at h
  induction l with
  | nil => rfl
  | cons p l ih =>
    obtain ⟨j, x⟩ := p
    simp only [List.map_cons, List.mem_cons, not_or] at h
    rw [getL_cons, if_neg h.1]
    exact ih h.2
theorem keysU_of {u : Upd} {id : Nat} (h : getL id u.ch ≠ none) : id ∈ keysU u := by
  by_cases hm : id ∈ keysU u
  · exact hm
  · exact absurd (keysU_none hm) h

theorem dr_any (hanc : ancOk ops anc = true) (hlen : recs.length = ops.length) (hind : indepOk ops anc recs = true) (hfin : Q .normal (mkS s (fun _ => true) ops recs))
    (hstep : ∀ i o r, ops[i]? = some o → recs[i]? = some r → dstOk o.dst s.n = true ∧ StepOk P ops (mkS s (fun k => memL k (ancAt anc i)) ops (recs.take i)) o r.2 (s.nx + 8 * i) r.1) :
    ∀ (fuel : Nat) (listed : Array Bool) (a : Act) (w : World) (m : Nat → Option (Option Nat × Nat)), listed.size = ops.length → cntF (fun i => listed.getD i false) ops.length = fuel → (∀ i o, ops[i]? = some o → listed.getD i false = true → ∀ d, d ∈ deps o → listed.getD d false = true) →
      RelM C (UL s ops.length (fun i => listed.getD i false)) (mkS s (fun i => listed.getD i false) ops recs) a w m → wpAny P .any ops.toArray (Qc C Q) fuel listed a w := by
  have hready : ∀ (listed : Array Bool), listed.size = ops.length → ∀ i, i ∈ Region.ready .any ops.toArray listed ↔ ∃ o, ops[i]? = some o ∧ listed.getD i false = false ∧ ∀ d, d ∈ deps o → listed.getD d false = true := by
    intro listed hsz i
    rw [mem_ready]
    have hg : ∀ i, i < ops.length → listed.getD i true = listed.getD i false := fun i hi => by simp [Array.getD_eq_getD_getElem?, show i < listed.size by omega]
    constructor
    · rintro ⟨h0, o, ho, hall⟩
      have ho' : ops[i]? = some o := by simpa using ho
      refine ⟨o, ho', by rw [← hg i (List.getElem?_eq_some_iff.1 ho').1]; exact h0, fun d hd => ?_⟩
      simp only [deps, List.mem_map, List.mem_filter] at hd
      obtain ⟨e, ⟨he, hb⟩, rfl⟩ := hd
      exact hall e (by simpa using he) hb
    · rintro ⟨o, ho, h0, hall⟩
      refine ⟨by rw [hg i (List.getElem?_eq_some_iff.1 ho).1]; exact h0, o, by simpa using ho, fun e he hb => hall e.on ?_⟩
      simp only [deps, List.mem_map, List.mem_filter]
      exact ⟨e, ⟨by simpa using he, hb⟩, rfl⟩
  have hnone : ∀ (listed : Array Bool), listed.size = ops.length → Region.ready .any ops.toArray listed = [] → ∀ i, i < ops.length → listed.getD i false = true := by
    intro listed hsz hr i
    induction i using Nat.strongRecOn with
    | _ i ih =>
      intro hi
      cases hL : listed.getD i false with
      | true => rfl
      | false =>
        have ho := List.getElem?_eq_getElem hi
        have : i ∈ Region.ready .any ops.toArray listed := (hready listed hsz i).2 ⟨_, ho, hL, fun d hd => ih d (deps_lt hanc ho hd) (by have := deps_lt hanc ho hd; omega)⟩
        rw [hr] at this; cases this
  have hend : ∀ (listed : Array Bool) a w m, (∀ i, i < ops.length → listed.getD i false = true) → RelM C (UL s ops.length (fun i => listed.getD i false)) (mkS s (fun i => listed.getD i false) ops recs) a w m → Qc C Q .normal a w := by
    intro listed a w m hall hR
    refine ⟨mkS s (fun _ => true) ops recs, ⟨m, hR.weaken (s' := mkS s (fun _ => true) ops recs) rfl (fun t => .inr ?_) (fun id c hc => ?_) (fun j hj => .inl hj)⟩, hfin⟩
    · show (getL t (goS _ 0 ops recs s.sl)).getD .dead = (getL t (goS _ 0 ops recs s.sl)).getD .dead
      rw [goS_same (L := fun _ => true) (L' := fun i => listed.getD i false) ops recs 0 s.sl s.sl (fun i o hi _ => by simp only [Nat.zero_add]; exact (hall i (List.getElem?_eq_some_iff.1 hi).1).symm) rfl]
    · have : (mkS s (fun _ => true) ops recs).chunk id = (mkS s (fun i => listed.getD i false) ops recs).chunk id := by
        show (getL id (goC _ 0 ops recs s.ch)).getD none = (getL id (goC _ 0 ops recs s.ch)).getD none
        rw [goC_same (L := fun _ => true) (L' := fun i => listed.getD i false) ops recs 0 s.ch s.ch (fun i r hi _ => by simp only [Nat.zero_add]; exact (hall i (by have := (List.getElem?_eq_some_iff.1 hi).1; omega)).symm) rfl]
      rw [← this]; exact hc
  intro fuel
  induction fuel with
  | zero =>
    intro listed a w m hsz hcnt hcl hR
    have hall : ∀ i, i < ops.length → listed.getD i false = true := fun i hi => cntF_zero hcnt i hi
    refine ⟨?_, hend listed a w m hall hR⟩
    cases hr : Region.ready .any ops.toArray listed with
    | nil => rfl
    | cons i l =>
      obtain ⟨o, ho, h0, _⟩ := (hready listed hsz i).1 (by rw [hr]; simp)
      rw [hall i (List.getElem?_eq_some_iff.1 ho).1] at h0; cases h0
  | succ fuel ih =>
    intro listed a w m hsz hcnt hcl hR
    refine ⟨fun hr => hend listed a w m (hnone listed hsz hr) hR, fun i hi => ?_⟩
    obtain ⟨o, ho, h0, hd⟩ := (hready listed hsz i).1 hi
    have hil := (List.getElem?_eq_some_iff.1 ho).1
    obtain ⟨r, hr⟩ : ∃ r, recs[i]? = some r := ⟨_, List.getElem?_eq_getElem (by omega)⟩
    obtain ⟨hdst, hst⟩ := hstep i o r ho hr
    have hanci : ∀ j, j ∈ ancAt anc i → listed.getD j false = true := anc_in (L := fun i => listed.getD i false) hanc hcl (i + 1) i o (by omega) ho hd
    have hdesc : ∀ j, j < ops.length → i ∈ ancAt anc j → listed.getD j false = false := by
      intro j hj hij
      cases hL : listed.getD j false with
      | false => rfl
      | true =>
        have hoj := List.getElem?_eq_getElem hj
        have := anc_in (L := fun i => listed.getD i false) hanc hcl (j + 1) j _ (by omega) hoj (hcl j _ hoj hL) i hij
        rw [h0] at this; cases this
    have hL' : ∀ j, (listed.setIfInBounds i true).getD j false = (listed.getD j false || j == i) := by
      intro j
      by_cases hj : j = i
      · subst hj; simp [Array.getD_eq_getD_getElem?, show j < listed.size by omega]
      · simp [Array.getD_eq_getD_getElem?, Array.getElem?_setIfInBounds_ne (Ne.symm hj), hj]
    have hlt : ∀ k, memL k (ancAt anc i) = true → k < i := fun k hk => anc_lt hanc hil (memL_iff.1 hk)
    have hsame : ∀ k, k < ops.length → (k ∉ ancAt anc i → i ∉ ancAt anc k → k ≠ i → False) → listed.getD k false = memL k (ancAt anc i) := by
      intro k hkl hex
      by_cases hka : k ∈ ancAt anc i
      · rw [hanci k hka]; exact (memL_iff.2 hka).symm
      · have e1 : memL k (ancAt anc i) = false := memL_not.2 hka
        rw [e1]
        by_cases hki : k = i
        · subst hki; exact h0
        · by_cases hik : i ∈ ancAt anc k
          · exact hdesc k hkl hik
          · exact (hex hka hik hki).elim
    have hagr : AgrT ops r.2 o (mkS s (fun k => memL k (ancAt anc i)) ops (recs.take i)) (mkS s (fun i => listed.getD i false) ops recs) := by
      refine ⟨rfl, fun t ht => ?_, fun id hid => ?_⟩
      · show (getL t (goS _ 0 ops recs s.sl)).getD .dead = (getL t (goS _ 0 ops (recs.take i) s.sl)).getD .dead
        have := goS_cut hlt ops recs 0 s.sl
        rw [Nat.sub_zero] at this
        rw [this, goS_same (L := fun i => listed.getD i false) (L' := fun k => memL k (ancAt anc i)) ops recs 0 s.sl s.sl (fun k ok hk hdk => ?_) rfl]
        simp only [Nat.zero_add]
        have hkl := (List.getElem?_eq_some_iff.1 hk).1
        refine hsame k hkl (fun hka hik hki => ?_)
        obtain ⟨rk, hrk⟩ : ∃ rk, recs[k]? = some rk := ⟨_, List.getElem?_eq_getElem (by omega)⟩
        exact absurd ht ((indep_of hind ho hk hr hrk (Ne.symm hki) hka hik).1 t hdk).1
      · show (getL id (goC _ 0 ops recs s.ch)).getD none = (getL id (goC _ 0 ops (recs.take i) s.ch)).getD none
        have := goC_cut hlt ops recs 0 s.ch
        rw [Nat.sub_zero] at this
        rw [this, goC_same (L := fun i => listed.getD i false) (L' := fun k => memL k (ancAt anc i)) ops recs 0 s.ch s.ch (fun k rk hrk hdk => ?_) rfl]
        simp only [Nat.zero_add]
        have hkl : k < ops.length := by have := (List.getElem?_eq_some_iff.1 hrk).1; omega
        refine hsame k hkl (fun hka hik hki => ?_)
        exact absurd hid ((indep_of hind ho (List.getElem?_eq_getElem hkl) hr hrk (Ne.symm hki) hka hik).2 id (keysU_of hdk)).1
    have hnext : ∀ a' w' m', RelM C (UL s ops.length (fun j => (listed.setIfInBounds i true).getD j false)) ((mkS s (fun i => listed.getD i false) ops recs).app o.dst r.1) a' w' m' → wpAny P .any ops.toArray (Qc C Q) fuel (listed.setIfInBounds i true) a' w' := by
      intro a' w' m' hR'
      refine ih (listed.setIfInBounds i true) a' w' m' (by simpa using hsz) ?_ ?_ ?_
      · have := (cntF_set (L := fun i => listed.getD i false) (L' := fun j => (listed.setIfInBounds i true).getD j false) (i := i) h0 (by simp only [hL']; simp) (fun j hj => by simp only [hL']; simp [hj]) ops.length).1 hil
        omega
      · intro k ok hk hLk d hdd
        rw [hL'] at hLk ⊢
        simp only [Bool.or_eq_true, beq_iff_eq] at hLk ⊢
        rcases hLk with h | h
        · exact .inl (hcl k ok hk h d hdd)
        · subst h
          rw [ho] at hk
          obtain rfl : o = ok := by simpa using hk
          exact .inl (hd d hdd)
      · have e1 : (fun j => (listed.setIfInBounds i true).getD j false) = (fun j => (fun k => listed.getD k false) j || j == i) := funext hL'
        refine hR'.weaken (by rw [ASt.n_app]; rfl) (fun t => .inr ?_) (fun id c hc => ?_) (fun j hj => hj)
        · rw [ASt.get_app]
          show (getL t (goS (fun j => (listed.setIfInBounds i true).getD j false) 0 ops recs s.sl)).getD .dead = _
          rw [e1, goS_more (L := fun k => listed.getD k false) (i := i) (r0 := r) ops recs 0 s.sl o (Nat.zero_le _) (by simpa using ho) (by simpa using hr) (fun j oj hj hij hLj hdj hdi => ?_)]
          · by_cases hdt : o.dst = some t
            · rw [if_pos hdt, if_pos hdt]; rfl
            · rw [if_neg hdt, if_neg hdt]; rfl
          · rw [Nat.zero_add] at hij hLj
            have hjl := (List.getElem?_eq_some_iff.1 hj).1
            obtain ⟨rj, hrj⟩ : ∃ rj, recs[j]? = some rj := ⟨_, List.getElem?_eq_getElem (by omega)⟩
            by_cases hja : j ∈ ancAt anc i
            · have := anc_lt hanc hil hja; omega
            · by_cases hij2 : i ∈ ancAt anc j
              · rw [hdesc j hjl hij2] at hLj; cases hLj
              · exact ((indep_of hind ho hj hr hrj (by omega) hja hij2).1 t hdj).2 hdi
        · rw [ASt.chunk_app]
          have hc2 : (getL id (goC (fun j => (listed.setIfInBounds i true).getD j false) 0 ops recs s.ch)).getD none = some c := hc
          rw [e1, goC_more (t := id) (L := fun k => listed.getD k false) (i := i) (r0 := r) ops recs 0 s.ch hlen.symm (Nat.zero_le _) (by simpa using hr) (fun j rj hrj hij hLj hdj => ?_)] at hc2
          · cases hg : getL id r.1.ch with
            | some x => rw [hg] at hc2; simpa using hc2
            | none => rw [hg] at hc2; rw [Option.none_or] at hc2; exact hc2
          · rw [Nat.zero_add] at hij hLj
            have hjl : j < ops.length := by have := (List.getElem?_eq_some_iff.1 hrj).1; omega
            by_cases hja : j ∈ ancAt anc i
            · have := anc_lt hanc hil hja; omega
            · by_cases hij2 : i ∈ ancAt anc j
              · rw [hdesc j hjl hij2] at hLj; cases hLj
              · exact keysU_none ((indep_of hind ho (List.getElem?_eq_getElem hjl) hr hrj (by omega) hja hij2).2 id (keysU_of hdj)).2
    have hU1 : ∀ k, k < 8 → UL s ops.length (fun i => listed.getD i false) (s.nx + 8 * i + k) := fun k hk => .inr ⟨i, hil, h0, by omega, by omega⟩
    have hU2 : ∀ j, UL s ops.length (fun j => (listed.setIfInBounds i true).getD j false) j → UL s ops.length (fun i => listed.getD i false) j ∧ (j < s.nx + 8 * i ∨ s.nx + 8 * i + 8 ≤ j) := by
      rintro j (hj | ⟨k, hk, hLk, h1, h2⟩)
      · exact ⟨.inl hj, .inr (by omega)⟩
      · have hLk' : (listed.getD k false || k == i) = false := by rw [← hL']; exact hLk
        simp only [Bool.or_eq_false_iff, beq_eq_false_iff_ne] at hLk'
        exact ⟨.inr ⟨k, hk, hLk'.1, h1, h2⟩, by omega⟩
    have hoa : ops.toArray[i]? = some o := by simpa using ho
    have hrun : NOp P r.2 (mkS s (fun k => memL k (ancAt anc i)) ops (recs.take i)) o (s.nx + 8 * i) r.1 → o.wp P a w (wpAny P .any ops.toArray (Qc C Q) fuel (listed.setIfInBounds i true)) (Qc C Q) := fun hn =>
      hn.run _ hagr.agr C _ _ a w m hR hU1 hU2 hdst _ _ hnext
    have hyield : ∀ j t b, ((ops[j]?).bind (·.dst)) = some t → Nat.blt t s.n = true → (mkS s (fun i => listed.getD i false) ops recs).get t = aT b → yielded ops.toArray a.tmps j = some b := by
      intro j t b h1 h2 h3
      have := hR.sl t
      rw [h3] at this
      have hv := this.val_eq.1
      have hlt : t < a.tmps.size := by rw [hR.sz]; simpa [mkS] using h2
      have h4 : a.tmps[t]? = some (.bool b) := by
        rw [Array.getElem?_eq_getElem hlt]
        rw [Array.getD_eq_getD_getElem?, Array.getElem?_eq_getElem hlt] at hv
        simpa using hv
      simp [yielded, h1, h4]
    have hskip : r.1 = ⟨.und, []⟩ → wpAny P .any ops.toArray (Qc C Q) fuel (listed.setIfInBounds i true) (a.put o.dst undef) w := by
      intro hu
      refine hnext _ _ m ?_
      rw [hu]
      exact (hR.setSlot (x := .und) (v := undef) hdst .und).weaken rfl (fun _ => .inr rfl) (fun _ _ h => h) (fun j hj => (hU2 j hj).1)
    have hlook : ∀ j w t, o.guard = some (j, w) → ((ops[j]?).bind (·.dst)) = some t → t ∈ looksT ops o := by
      intro j w t h1 h2
      refine List.mem_append_right _ ?_
      rw [h1]; simp [h2]
    unfold wpOp
    rw [hoa]
    simp only
    cases hst with
    | free hg hn => rw [if_pos (by simp [Region.wanted, hg])]; exact .inl (hrun hn)
    | @yes j t b hg ht htn hs hn =>
      rw [if_pos (by simp [Region.wanted, hg, hyield j t b ht htn ((hagr.get t (hlook j b t hg ht)).trans hs)])]
      exact .inl (hrun hn)
    | @no j t b b' hg ht htn hs hb hu =>
      rw [if_neg (by simp [Region.wanted, hg, hyield j t b' ht htn ((hagr.get t (hlook j b t hg ht)).trans hs), hb])]
      exact hskip hu
    | @noU j t b hg ht hs hu =>
      have hux := hR.sl t
      rw [(hagr.get t (hlook j b t hg ht)).trans hs] at hux
      have hy : yielded ops.toArray a.tmps j = none := by
        generalize hv : a.tmps.getD t undef = v at hux
        cases hux
        have ht' : ((ops.toArray[j]?).bind (·.dst)) = some t := by simpa using ht
        unfold yielded
        rw [ht']
        rw [Array.getD_eq_getD_getElem?] at hv
        simp only [Option.bind_some]
        cases hq : a.tmps[t]? with
        | none => rfl
        | some v => rw [hq] at hv; simp only [Option.getD_some] at hv; subst hv; rfl
      rw [if_neg (by simp [Region.wanted, hg, hy])]
      exact hskip hu

/-- The statement as a whole. -/
theorem AC.drawn {id : Nat} (hm : P.follows .mixedOrders = true) (anc : List (List Nat)) (hanc : ancOk ops anc = true) (h : Dr P ops anc s Q []) : ACode P C (.region id ops.toArray true) Q s := by
  refine ⟨fun a w hR => ?_⟩
  obtain ⟨m, hR⟩ := hR
  obtain ⟨full, _, g2, g3, g4, g5⟩ := h.all
  refine wp_region_any hm ?_
  have hrep : ∀ i, (Array.replicate ops.toArray.size false).getD i false = false := fun i => by
    simp only [Array.getD_eq_getD_getElem?, Array.getElem?_replicate]
    split <;> rfl
  have e1 : (fun i => (Array.replicate ops.toArray.size false).getD i false) = (fun _ => false) := funext hrep
  refine dr_any (recs := full) (anc := anc) hanc g2 g3 g4 (fun i o r ho hr => g5 i o r (Nat.zero_le _) ho hr) ops.toArray.size _ a _ m (by simp) (by rw [e1, cntF_full _ (fun _ => rfl)]; simp) (fun i o _ h => by rw [hrep] at h; cases h) ?_
  rw [e1]
  have hS : ∀ (os : List Oper) (rs : List ORec) (k : Nat) (x : List (Nat × AV)), goS (fun _ => false) k os rs x = x := by
    intro os
    induction os with
    | nil => intro rs k x; simp [goS]
    | cons o os ih => intro rs k x; cases rs <;> simp [goS, ih]
  have hC : ∀ (os : List Oper) (rs : List ORec) (k : Nat) (x : List (Nat × Option Chunk)), goC (fun _ => false) k os rs x = x := by
    intro os
    induction os with
    | nil => intro rs k x; simp [goC]
    | cons o os ih => intro rs k x; cases rs <;> simp [goC, ih]
  have := hR.drewN 1
  refine RelM.weaken (s := s) (U := fun id => s.nx ≤ id) (w := { w with drawn := w.drawn + 1 }) this rfl (fun t => .inr ?_) (fun id c hc => ?_) (fun j hj => ?_)
  · show (getL t (goS _ 0 ops full s.sl)).getD .dead = _
    rw [hS]; rfl
  · have h2 : (getL id (goC (fun _ => false) 0 ops full s.ch)).getD none = some c := hc
    rw [hC] at h2; exact h2
  · rcases hj with h | ⟨i, _, _, h1, _⟩
    · show s.nx ≤ j; omega
    · show s.nx ≤ j; omega
end
end Go.Proofs.Ytkfpoagjlaldgaa

set_option linter.all false
set_option maxRecDepth 20000
namespace Go.Proofs.Ytkfpoagjlaldgaa
open Go.RowKit

/-- An operation's number, its slot, what it brings, the names it asked for; the last operation first. -/
abbrev FRec := Nat × Option Nat × Upd × List Nat
def fS (row : List Nat) : List FRec → List (Nat × AV) → List (Nat × AV)
  | [], acc => acc
  | (i, some d, u, _) :: l, acc => bif memL i row then (d, u.r) :: fS row l acc else fS row l acc
  | (_, none, _, _) :: l, acc => fS row l acc
def fC (row : List Nat) : List FRec → List (Nat × Option Chunk) → List (Nat × Option Chunk)
  | [], acc => acc
  | (_, _, ⟨_, []⟩, _) :: l, acc => fC row l acc
  | (i, _, ⟨_, c :: cs⟩, _) :: l, acc => bif memL i row then c :: (cs ++ fC row l acc) else fC row l acc
def mkF (s : ASt) (n : Nat) (row : List Nat) (l : List FRec) : ASt := ⟨s.n, s.nx + 8 * n, fS row l s.sl, fC row l s.ch⟩
/-- .. behind all of them. -/
def allS : List FRec → List (Nat × AV) → List (Nat × AV)
  | [], acc => acc
  | (_, some d, u, _) :: l, acc => (d, u.r) :: allS l acc
  | (_, none, _, _) :: l, acc => allS l acc
def allC : List FRec → List (Nat × Option Chunk) → List (Nat × Option Chunk)
  | [], acc => acc
  | (_, _, ⟨_, []⟩, _) :: l, acc => allC l acc
  | (_, _, ⟨_, c :: cs⟩, _) :: l, acc => c :: (cs ++ allC l acc)
def mkAll (s : ASt) (n : Nat) (l : List FRec) : ASt := ⟨s.n, s.nx + 8 * n, allS l s.sl, allC l s.ch⟩
def fwd (l : List FRec) : List ORec := (l.map fun f => (f.2.2.1, f.2.2.2)).reverse
/-- The table fits the operations. -/
def FOk (ops : List Oper) : List FRec → Prop
  | [] => True
  | (i, d, _, _) :: l => i = l.length ∧ (∃ o, ops[i]? = some o ∧ o.dst = d) ∧ FOk ops l

theorem fwd_cons (f : FRec) (l : List FRec) : fwd (f :: l) = fwd l ++ [(f.2.2.1, f.2.2.2)] := by simp [fwd]
theorem fwd_len (l : List FRec) : (fwd l).length = l.length := by simp [fwd]
theorem goS_snoc (L : Nat → Bool) (r : ORec) (o : Oper) : ∀ (os : List Oper) (rs : List ORec) (k : Nat) (acc : List (Nat × AV)), os[rs.length]? = some o → goS L k os (rs ++ [r]) acc = match L (k + rs.length), o.dst with | true, some d => (d, r.1.r) :: goS L k os rs acc | _, _ => goS L k os rs acc
  | [], rs, k, acc, h => by simp at h
  | o' :: os, [], k, acc, h => by
    simp only [List.length_nil, List.getElem?_cons_zero, Option.some.injEq] at h
    subst h
    cases hL : L k <;> cases hd : o'.dst <;> cases os <;> simp [goS, hL, hd]
  | o' :: os, r' :: rs, k, acc, h => by
    simp only [List.length_cons, List.getElem?_cons_succ] at h
    simp only [List.cons_append, goS, List.length_cons]
    rw [goS_snoc L r o os rs (k + 1) _ h]
    rw [show k + 1 + rs.length = k + (rs.length + 1) by omega]
theorem goC_snoc (L : Nat → Bool) (r : ORec) (o : Oper) : ∀ (os : List Oper) (rs : List ORec) (k : Nat) (acc : List (Nat × Option Chunk)), os[rs.length]? = some o → goC L k os (rs ++ [r]) acc = match L (k + rs.length) with | true => r.1.ch ++ goC L k os rs acc | _ => goC L k os rs acc
  | [], rs, k, acc, h => by simp at h
  | o' :: os, [], k, acc, h => by
    cases hL : L k <;> cases os <;> simp [goC, hL]
  | o' :: os, r' :: rs, k, acc, h => by
    simp only [List.length_cons, List.getElem?_cons_succ] at h
    simp only [List.cons_append, goC, List.length_cons]
    rw [goC_snoc L r o os rs (k + 1) _ h]
    rw [show k + 1 + rs.length = k + (rs.length + 1) by omega]
theorem goS_F (row : List Nat) {ops : List Oper} : ∀ {l : List FRec}, FOk ops l → ∀ acc, goS (fun k => memL k row) 0 ops (fwd l) acc = fS row l acc
  | [], _, acc => by cases ops <;> simp [fwd, goS, fS]
  | (i, d, u, ids) :: l, h, acc => by
    obtain ⟨rfl, ⟨o, ho, rfl⟩, h3⟩ := h
    rw [fwd_cons, goS_snoc _ _ o _ _ _ _ (by rw [fwd_len]; exact ho), fwd_len, Nat.zero_add, goS_F row h3]
    cases hm : memL l.length row <;> cases hd : o.dst <;> simp [fS, hm]
theorem goC_F (row : List Nat) {ops : List Oper} : ∀ {l : List FRec}, FOk ops l → ∀ acc, goC (fun k => memL k row) 0 ops (fwd l) acc = fC row l acc
  | [], _, acc => by cases ops <;> simp [fwd, goC, fC]
  | (i, d, u, ids) :: l, h, acc => by
    obtain ⟨rfl, ⟨o, ho, rfl⟩, h3⟩ := h
    rw [fwd_cons, goC_snoc _ _ o _ _ _ _ (by rw [fwd_len]; exact ho), fwd_len, Nat.zero_add, goC_F row h3]
    obtain ⟨r, ch⟩ := u
    cases hm : memL l.length row <;> cases ch <;> simp [fC, hm]
theorem goS_A {ops : List Oper} : ∀ {l : List FRec}, FOk ops l → ∀ acc, goS (fun _ => true) 0 ops (fwd l) acc = allS l acc
  | [], _, acc => by cases ops <;> simp [fwd, goS, allS]
  | (i, d, u, ids) :: l, h, acc => by
    obtain ⟨rfl, ⟨o, ho, rfl⟩, h3⟩ := h
    rw [fwd_cons, goS_snoc _ _ o _ _ _ _ (by rw [fwd_len]; exact ho), goS_A h3]
    cases hd : o.dst <;> simp [allS]
theorem goC_A {ops : List Oper} : ∀ {l : List FRec}, FOk ops l → ∀ acc, goC (fun _ => true) 0 ops (fwd l) acc = allC l acc
  | [], _, acc => by cases ops <;> simp [fwd, goC, allC]
  | (i, d, u, ids) :: l, h, acc => by
    obtain ⟨rfl, ⟨o, ho, rfl⟩, h3⟩ := h
    rw [fwd_cons, goC_snoc _ _ o _ _ _ _ (by rw [fwd_len]; exact ho), goC_A h3]
    obtain ⟨r, ch⟩ := u
    cases ch <;> simp [allC]

/-- What the operations turn and what they ask for, the last first; where nothing is turned nothing is asked. -/
def idsF : List FRec → List (Nat × Nat) → Bool
  | l, [] => true
  | l, (i, j) :: ps => (match atF j l with
    | some ([], _) => true
    | some (ks, _) => (match atF i l with
      | some (ks', ids') => disj2 ks ids' ks'
      | none => false)
    | none => false) && idsF l ps
where atF (i : Nat) : List FRec → Option (List Nat × List Nat)
  | [] => none
  | (k, _, u, ids) :: l => bif Nat.beq k i then some (keysU u, ids) else atF i l
theorem atF_of {ops : List Oper} {i : Nat} : ∀ {l : List FRec}, FOk ops l → ∀ {x}, idsF.atF i l = some x → ∃ r, (fwd l)[i]? = some r ∧ (keysU r.1, r.2) = x
  | [], _, x, h => by simp [idsF.atF] at h
  | (k, d, u, ids) :: l, hf, x, h => by
    obtain ⟨rfl, _, h3⟩ := hf
    simp only [idsF.atF] at h
    rw [fwd_cons]
    cases hb : Nat.beq l.length i with
    | true =>
      rw [hb] at h
      simp only [cond_true, Option.some.injEq] at h
      have : l.length = i := by simpa using hb
      subst this
      exact ⟨(u, ids), by rw [List.getElem?_append_right (by rw [fwd_len]; exact Nat.le_refl _), fwd_len]; simp, h⟩
    | false =>
      rw [hb] at h
      obtain ⟨r, h1, h2⟩ := atF_of h3 h
      exact ⟨r, by rw [List.getElem?_append_left (List.getElem?_eq_some_iff.1 h1).1]; exact h1, h2⟩
theorem idsF_ok {ops : List Oper} {l : List FRec} (hf : FOk ops l) (hlen : l.length = ops.length) : ∀ {ps : List (Nat × Nat)}, slotOk ops ps = true → idsF l ps = true → idsOk (fwd l) ps = true
  | [], _, _ => rfl
  | (i, j) :: ps, hs, h => by
    obtain ⟨oi, oj, h1, h2, _⟩ := slotOk_mem hs (List.mem_cons_self ..)
    have hi := (List.getElem?_eq_some_iff.1 h1).1
    have hj := (List.getElem?_eq_some_iff.1 h2).1
    have hs' : slotOk ops ps = true := by simp only [slotOk, Bool.and_eq_true] at hs; exact hs.2
    simp only [idsF, Bool.and_eq_true] at h
    simp only [idsOk, Bool.and_eq_true]
    refine ⟨?_, idsF_ok hf hlen hs' h.2⟩
    obtain ⟨ri, hri⟩ : ∃ ri, (fwd l)[i]? = some ri := ⟨_, List.getElem?_eq_getElem (by rw [fwd_len]; omega)⟩
    cases ha : idsF.atF j l with
    | none => rw [ha] at h; simp at h
    | some x =>
      obtain ⟨rj, g1, g2⟩ := atF_of hf ha
      rw [hri, g1]
      obtain ⟨ks, ids⟩ := x
      simp only [Prod.mk.injEq] at g2
      cases ks with
      | nil => simp only [g2.1, disj2]
      | cons k ks =>
        rw [ha] at h
        cases hb : idsF.atF i l with
        | none => rw [hb] at h; simp at h
        | some y =>
          obtain ⟨ri', q1, q2⟩ := atF_of hf hb
          rw [hri] at q1
          obtain rfl : ri = ri' := by simpa using q1
          obtain ⟨ks', ids'⟩ := y
          simp only [Prod.mk.injEq] at q2
          rw [hb] at h
          simp only
          rw [g2.1, q2.1, q2.2]
          exact h.1

/-- The operations one by one. -/
structure DF (P : Program) (ops : List Oper) (anc : List (List Nat)) (s : ASt) (Q : Exit → ASt → Prop) (rest : List Oper) (l : List FRec) : Prop where
  dr : FOk ops l → ops.drop l.length = rest → Dr P ops anc s Q (fwd l)
section
variable {P : Program} {ops : List Oper} {anc : List (List Nat)} {s : ASt} {Q : Exit → ASt → Prop} {l : List FRec}
theorem DF.fin {ps : List (Nat × Nat)} (n : Nat) (hn : Nat.beq ops.length n = true) (h1 : coverOk n anc ps = true) (h2 : slotOk ops ps = true) (h3 : idsF l ps = true) (h : Q .normal (mkAll s n l)) : DF P ops anc s Q [] l := by
  refine ⟨fun hf hr => ?_⟩
  have hn : ops.length = n := by simpa using hn
  subst hn
  have hle : ops.length ≤ l.length := by simpa using hr
  have hle2 : l.length ≤ ops.length := by
    cases l with
    | nil => exact Nat.zero_le _
    | cons f l =>
      obtain ⟨i, d, u, ids⟩ := f
      obtain ⟨rfl, ⟨o, ho, _⟩, _⟩ := hf
      exact (List.getElem?_eq_some_iff.1 ho).1
  have hlen : l.length = ops.length := by omega
  refine Dr.done (by rw [fwd_len, hlen]; simp) (indep_parts h1 h2 (idsF_ok hf hlen h2 h3)) ?_
  have : mkS s (fun _ => true) ops (fwd l) = mkAll s ops.length l := by simp [mkS, mkAll, goS_A hf, goC_A hf]
  rw [this]; exact h
theorem DF.op {rest : List Oper} {o : Oper} (i : Nat) (row : List Nat) {ids : List Nat} {u : Upd} (n : Nat) (hi : Nat.beq l.length i = true) (hn : Nat.beq ops.length n = true) (hrow : ancAt anc i = row) (hst : StepOk P ops (mkF s n row l) o ids (s.nx + 8 * i) u) (hd : dstOk o.dst s.n = true) (h : DF P ops anc s Q rest ((i, o.dst, u, ids) :: l)) : DF P ops anc s Q (o :: rest) l := by
  refine ⟨fun hf hr => ?_⟩
  have hi : l.length = i := by simpa using hi
  have hn : ops.length = n := by simpa using hn
  subst hi; subst hn
  have ho : ops[l.length]? = some o := by
    have := congrArg (fun x => x[0]?) hr
    simpa using this
  have hr' : ops.drop (l.length + 1) = rest := by
    have := congrArg List.tail hr
    simpa using this
  have h1 := h.dr ⟨rfl, ⟨o, ho, rfl⟩, hf⟩ hr'
  rw [fwd_cons] at h1
  refine Dr.op (by rw [fwd_len]; exact ho) ?_ hd h1
  rw [fwd_len]
  have : mkS s (fun k => memL k (ancAt anc l.length)) ops (fwd l) = mkF s ops.length row l := by rw [hrow]; simp [mkS, mkF, goS_F row hf, goC_F row hf]
  rw [this]; exact hst
def setF (j : Nat) (r : AV) : List FRec → List FRec
  | [] => []
  | (i, d, u, ids) :: l => bif Nat.beq i j then (i, d, ⟨r, u.ch⟩, ids) :: l else (i, d, u, ids) :: setF j r l
def getF (j : Nat) : List FRec → Option AV
  | [] => none
  | (i, _, u, _) :: l => bif Nat.beq i j then some u.r else getF j l
theorem setF_same {j : Nat} {r : AV} : ∀ {l : List FRec}, getF j l = some r → setF j r l = l
  | [], h => rfl
  | (i, d, u, ids) :: l, h => by
    simp only [getF] at h
    simp only [setF]
    cases hb : Nat.beq i j with
    | true => rw [hb] at h; simp only [cond_true, Option.some.injEq] at h; subst h; rfl
    | false => rw [hb] at h; simp only [cond_false] at h ⊢; rw [setF_same h]
theorem DF.caseD {rest : List Oper} (j : Nat) {p : Prop} [Decidable p] (h : getF j l = some (aT (decide p))) (hT : p → DF P ops anc s Q rest (setF j (aT true) l)) (hF : ¬ p → DF P ops anc s Q rest (setF j (aT false) l)) : DF P ops anc s Q rest l := by
  by_cases hp : p
  · have := hT hp; rwa [setF_same (by rw [h]; simp [hp])] at this
  · have := hF hp; rwa [setF_same (by rw [h]; simp [hp])] at this
theorem DF.caseB {rest : List Oper} (j : Nat) {b : Bool} (h : getF j l = some (aT b)) (hT : b = true → DF P ops anc s Q rest (setF j (aT true) l)) (hF : b = false → DF P ops anc s Q rest (setF j (aT false) l)) : DF P ops anc s Q rest l := by
  cases b
  · have := hF rfl; rwa [setF_same h] at this
  · have := hT rfl; rwa [setF_same h] at this
theorem AC.drawn' {C : Ctx} {id : Nat} (hm : P.follows .mixedOrders = true) (anc : List (List Nat)) (hanc : ancOk ops anc = true) (h : DF P ops anc s Q ops []) : ACode P C (.region id ops.toArray true) Q s := AC.drawn hm anc hanc (h.dr trivial rfl)
end
end Go.Proofs.Ytkfpoagjlaldgaa

set_option linter.all false
set_option maxRecDepth 20000
namespace Go.Proofs.Ytkfpoagjlaldgaa
open Go.RowKit

/-- A string of bytes. -/
def bstr (l : List UInt8) : ByteArray := ⟨l.toArray⟩
theorem bstr_data (l : List UInt8) : (bstr l).data.toList = l := rfl
theorem bstr_size (l : List UInt8) : (bstr l).size = l.length := by simp [bstr, ByteArray.size]
theorem bstr_of (s : ByteArray) : bstr s.data.toList = s := by cases s; rfl
theorem bstr_inj {a b : List UInt8} (h : bstr a = bstr b) : a = b := by have := congrArg (fun s => s.data.toList) h; simpa [bstr_data] using this
theorem bstr_append (a b : List UInt8) : bstr a ++ bstr b = bstr (a ++ b) := by
  rw [← bstr_of (bstr a ++ bstr b)]
  congr 1
abbrev byteEls (l : List UInt8) : List (List DV) := l.map fun b => [dB b]

section
variable {P : Program} [PT P]
variable {s : ASt} {dst : Option Nat} {ty : Nat} {pos : String} {af : Array Edge} {gd : Option (Nat × Bool)} {x : Operand} {t u f : Nat}

theorem g_strOfBytes {e id n1 bt n2 bt2 bt3 k : Nat} {zs zs2 zs3 : List ZK} {l : List UInt8} {els : List (List DV)} (ht : PT.ty P t = some ⟨.slice e, n1, bt, zs⟩) (hu : PT.ty P u = some ⟨.string, n2, bt2, zs2⟩) (he : PT.ty P e = some ⟨.int .u8, 1, bt3, zs3⟩) (hx : s.ev x = .own id k) (hc : s.chunk id = some (.arr e 1 els)) (hels : els = byteEls l) (hk : k = l.length) :
    GOp P [id] s ⟨dst, .convert t u x, ty, pos, af, gd⟩ (aS (bstr l)) := by
  subst hels; subst hk
  refine ⟨fun s' ha C U a w m hR => ?_⟩
  have hv := hR.ev x
  rw [ha.2.1 x (by simp [Op.operands]), hx] at hv
  have hc' : s'.chunk id = some (.arr e 1 (byteEls l)) := by rw [ha.2.2 id (by simp)]; exact hc
  generalize hvv : a.eval x = v at hv
  cases hv with
  | own hp h0 =>
    rename_i cap b
    have hC := hR.chunkAt hc' hp
    cases b with
    | none =>
      have hl0 : l.length = 0 := (h0 rfl).1
      have hl : l = [] := List.eq_nil_of_length_eq_zero hl0
      subst hl
      refine ⟨.string (bstr []), ?_, .d (.val (by show ByteArray.size _ ≤ _; rw [bstr_size]; simp [maxLen]))⟩
      have := run_convert_bytes_nil (P := P) w t e (PT.slice ht) (PT.int he) 0 cap u (PT.string hu)
      simp only [execOp, Sem.run_bind, hvv, Option.map_none, List.length_nil, this, Result.andThen_ok, Sem.run_pure]
      rfl
    | some b =>
      generalize hels2 : byteEls l = els at hC
      cases hC with
      | arr hb hf hs hl hm h1 hrow hel =>
        rename_i arr fz
        have hlen : els.length = l.length := by rw [← hels2]; simp
        have hcell : ∀ i, i < l.length → w.cell? ⟨b, 0 + i, none⟩ = some (.int .u8 ((l.map fun b => (b.toNat : Int)).getD i 0)) := by
          intro i hi
          have hi' : els[i]? = some [dB l[i]] := by rw [← hels2]; simp [List.getElem?_eq_getElem hi]
          have h2 := hel i [dB l[i]] 0 (dB l[i]) hi' rfl
          have h3 : i * 1 + 0 < arr.size := by omega
          rw [Nat.zero_add, show i = i * 1 + 0 by omega, cell_getD hb h3]
          have h4 : arr.getD (i * 1 + 0) undef = .int .u8 (l[i].toNat : Int) := by
            generalize arr.getD (i * 1 + 0) undef = v at h2
            cases h2 with | val h => rfl
          rw [h4]
          simp [hi]
        have hrun := run_convert_bytes_arg (P := P) w t e (PT.slice ht) (PT.int he) b 0 l.length cap (l.map fun b => (b.toNat : Int)) (by simp) hcell u (PT.string hu)
        have hst : strOfNums (l.map fun b => (b.toNat : Int)) = bstr l := by
          rw [← bstr_of (strOfNums _)]
          congr 1
          rw [strOfNums_data, List.map_map]
          conv => rhs; rw [← List.map_id l]
          apply List.map_congr_left
          intro b _
          simp
        refine ⟨.string (bstr l), ?_, .d (.val (by show ByteArray.size _ ≤ _; rw [bstr_size]; omega))⟩
        simp only [execOp, Sem.run_bind, hvv, Option.map_some, hrun, hst, Result.andThen_ok, Sem.run_pure]
end
end Go.Proofs.Ytkfpoagjlaldgaa

set_option linter.all false
set_option maxRecDepth 20000
namespace Go.Proofs.Ytkfpoagjlaldgaa
open Go.RowKit

section
variable {P : Program} [PT P]
variable {s : ASt} {dst : Option Nat} {ty : Nat} {pos : String} {af : Array Edge} {gd : Option (Nat × Bool)} {x y : Operand} {t u f : Nat}

/-- The end of a function that turns the blocks it was handed and makes new ones: ρ says which names they have within. -/
theorem retN (ρ : List (Nat × Nat)) {fn : Func} {k : Nat} {x r : AV} {chs' : List (Nat × Chunk)} (hx : resAV P s fn.results.toList = some x) (h : r.leads (sig k ρ) x) (hc : leadsC (sig k ρ) s (chL chs')) (ha : apartL (sig k ρ) (keysC (chL chs')) = true) (hρ : ρ.all (fun p => Nat.blt p.1 (k + 8)) = true) : RetQ P fn k (Fun1 r chs') s :=
  ⟨⟨x, r, chs', ρ, hx, ⟨rfl, rfl⟩, h, fun id c hc' => (leadsC_get hc id c (by rw [getL_chL]; exact hc')).1, fun id hid => by
    have : Nat.blt id k = false := by cases hb : Nat.blt id k with
      | true => have : id < k := by simpa using hb
                omega
      | false => rfl
    have h2 : getL id ρ = none := by
      cases hg : getL id ρ with
      | none => rfl
      | some v =>
        have : ∀ (l : List (Nat × Nat)), l.all (fun p => Nat.blt p.1 (k + 8)) = true → getL id l = some v → id < k + 8 := by
          intro l
          induction l with
          | nil => intro _ h; simp [getL] at h
          | cons p l ih =>
            intro h1 h2
            rw [getL_cons] at h2
            simp only [List.all_cons, Bool.and_eq_true] at h1
            split at h2
            · rename_i e; have := h1.1; rw [e]; simpa using this
            · exact ih h1.2 h2
        have := this ρ hρ hg
        omega
    simp [sig, this, h2], fun id id' j h1 h2 h3 h4 => by
    obtain ⟨c, h1⟩ := h1
    obtain ⟨c', h2⟩ := h2
    exact apartL_inj ha id id' j (leadsC_get hc id c (by rw [getL_chL]; exact h1)).2 (leadsC_get hc id' c' (by rw [getL_chL]; exact h2)).2 h3 h4⟩⟩
end
end Go.Proofs.Ytkfpoagjlaldgaa

set_option linter.all false
set_option maxRecDepth 20000
namespace Go.Proofs.Ytkfpoagjlaldgaa
open Go.RowKit

section
variable {P : Program} [PT P] {C : Ctx} {s : ASt}

/-- What a slice of the call's own stands for, once its block is nobody's. -/
theorem own_view {m : Nat → Option (Option Nat × Nat)} {F F' : Nat → Prop} {w : World} {id n e sz : Nat} {els : List (List DV)} {v : Value} {p : Option Nat × Nat} (hv : ARep m F w (.own id n) v) (hp : m id = some p) (hC : CRep m F w p (.arr e sz els)) (hn : n ≤ els.length) (hF : ∀ q, F q → F' q) (hFb : ∀ b, p.1 = some b → F' b) : DRep F' w (.view e sz (els.take n)) v := by
  cases hv with
  | own hp' h0 =>
    rename_i cap b
    rw [hp] at hp'
    simp only [Option.some.injEq] at hp'
    subst hp'
    cases hC with
    | nil h =>
      have : n = 0 := by simpa using hn
      subst this
      exact .nil
    | arr hb hf hsz hl hm h0' hrow hel =>
      rename_i b arr fz
      have hlen : (els.take n).length = n := by simp; omega
      have hsub : ∀ (i : Nat) cs, (els.take n)[i]? = some cs → els[i]? = some cs := by
        intro i cs hi
        rw [List.getElem?_take] at hi
        split at hi
        · exact hi
        · cases hi
      have := DRep.view (F := F') (w := w) (e := e) (sz := sz) (els := els.take n) (off := 0) (cap := cap) (hFb b rfl) hb (by omega) hm (by omega) (fun i cs hi => hrow i cs (hsub i cs hi)) (fun i cs j d hi hj => by rw [Nat.zero_add]; exact (hel i cs j d (hsub i cs hi) hj).mono hF)
      rw [hlen] at this
      exact this
end
end Go.Proofs.Ytkfpoagjlaldgaa

set_option linter.all false
set_option maxRecDepth 20000
namespace Go.Proofs.Ytkfpoagjlaldgaa
open Go.ChangeShapes Go.WideShapes Go.ChangeAt Go.RowKit

/-- A contract without blocks whose result is true, as a law's call. -/
theorem ASpec.law {P : Program} {f : FuncId} {ars : List AV} {W : World} {vs : Array Value} (h : ASpec P f ars [] (Pure1 (aT true))) (hn : vs.size = ars.length) (ha : ∀ (i : Nat) x, ars[i]? = some x → ARep (fun _ => none) (fun k => k < W.heap.size) W x (vs.getD i undef)) :
    Calls P f vs W fun e W' => e = .returned (.bool true) ∧ Below W.heap.size W W' := by
  refine (h W (fun _ => none) (fun k => k < W.heap.size) vs (fun k hk => ⟨hk, fun id c p hc => by simp [getL] at hc⟩) hn ha (fun id c hc => by simp [getL] at hc) (fun id id' c c' p p' b hc => by simp [getL] at hc) (fun id _ => rfl)).mono ?_
  rintro e W' ⟨v, r, chs', m', F', rfl, ⟨rfl, rfl⟩, _, _, _, ⟨h1, h2, h3, h4, h5⟩, hv, _⟩
  refine ⟨?_, h1, h2, h3, h4, fun k hk => h5 k hk (fun id c p hc => by simp [getL] at hc)⟩
  cases hv with
  | d hd => cases hd; rfl
end Go.Proofs.Ytkfpoagjlaldgaa

set_option linter.all false
set_option maxRecDepth 20000
namespace Go.Proofs.Ytkfpoagjlaldgaa
open Go.ChangeShapes Go.WideShapes Go.ChangeAt Go.RowKit

section
variable {H : Type} {enc : TypeId × Value → H} {P : Program}
/-- A type of so many cells reads as data 'f a' with 'a' fit. -/
structure RT (enc : TypeId × Value → H) (P : Program) (t : TypeId) (k : Nat) {α : Type} (f : α → List DV) (ok : α → Prop) : Prop where
  rd : ∀ (W : World) (fuel : Nat) (cs : List Value) (x : DataW H × List MemPlace), DataW.trod enc P W 0 (fun _ => true) true fuel t cs = some x →
    cs.length = k ∧ ∃ a, ok a ∧ (f a).length = k ∧ ∀ j d, (f a)[j]? = some d → DRep (fun k => k < W.heap.size) W d (cs.getD j undef)
theorem get1 {x d : DV} {j : Nat} (h : [x][j]? = some d) : j = 0 ∧ d = x := by
  cases j with
  | zero => simp at h; exact ⟨rfl, h.symm⟩
  | succ j => simp at h
def okI (n : Int) : Prop := -9223372036854775808 ≤ n ∧ n ≤ 9223372036854775807
theorem RT.int {t : TypeId} (ht : P.underlying t = some (.int .i64)) : RT enc P t 1 (fun n : Int => [dI n]) okI := by
  refine ⟨fun W fuel cs x h => ?_⟩
  obtain ⟨n, rfl, rfl, hwf⟩ := DataW.trod_int ht h
  have hb := bounds_i64 hwf
  refine ⟨rfl, n, hb, rfl, fun j d hj => ?_⟩
  obtain ⟨rfl, rfl⟩ := get1 hj
  refine .val ?_
  show IntKind.i64.wrap n = n
  exact wrap_i64 hb
theorem RT.bool {t : TypeId} (ht : P.underlying t = some .bool) : RT enc P t 1 (fun b : Bool => [dT b]) (fun _ => True) := by
  refine ⟨fun W fuel cs x h => ?_⟩
  obtain ⟨b, rfl, rfl⟩ := DataW.trod_bool ht h
  exact ⟨rfl, b, trivial, rfl, fun j d hj => by obtain ⟨rfl, rfl⟩ := get1 hj; exact .val trivial⟩
theorem RT.str {t : TypeId} (ht : P.underlying t = some .string) : RT enc P t 1 (fun s : List UInt8 => [dS (bstr s)]) (fun s => s.length ≤ 9223372036854775807) := by
  refine ⟨fun W fuel cs x h => ?_⟩
  obtain ⟨s, rfl, rfl, hm⟩ := DataW.trod_string ht h
  have hsz : s.data.toList.length = s.size := by simp
  have he : bstr s.data.toList = s := by
    apply ByteArray.ext
    simp [bstr]
  refine ⟨rfl, s.data.toList, by rw [hsz]; exact hm, rfl, fun j d hj => ?_⟩
  simp only [he] at hj
  obtain ⟨rfl, rfl⟩ := get1 hj
  exact .val hm
theorem list_of {α : Type} {n : Nat} {Q : Nat → α → Prop} (h : ∀ i, i < n → ∃ a, Q i a) : ∃ l : List α, l.length = n ∧ ∀ i a, l[i]? = some a → Q i a := by
  induction n with
  | zero => exact ⟨[], rfl, fun i a h => by simp at h⟩
  | succ n ih =>
    obtain ⟨l, hl, hq⟩ := ih fun i hi => h i (by omega)
    obtain ⟨a, ha⟩ := h n (by omega)
    refine ⟨l ++ [a], by simp [hl], fun i b hb => ?_⟩
    by_cases hi : i < l.length
    · rw [List.getElem?_append_left hi] at hb; exact hq i b hb
    · rw [List.getElem?_append_right (by omega)] at hb
      have h0 : i - l.length = 0 := by
        by_cases e : i - l.length = 0
        · exact e
        · rw [List.getElem?_eq_none (by simp; omega)] at hb; cases hb
      rw [h0] at hb
      simp at hb; subst hb
      have : i = n := by omega
      subst this; exact ha
theorem RT.slice {t e : TypeId} {k : Nat} {α : Type} {f : α → List DV} {ok : α → Prop} (te : Nat) (ht : P.underlying t = some (.slice e)) (hc : P.cellsOf e = k) (hk : 0 < k) (hr : RT enc P e k f ok) :
    RT enc P t 1 (fun l : List α => [.view te k (l.map f)]) (fun l => l.length ≤ 9223372036854775807 ∧ ∀ a, a ∈ l → ok a) := by
  refine ⟨fun W fuel cs x h => ?_⟩
  rcases DataW.trod_slice ht h with ⟨rfl, _⟩ | ⟨a, len, cap, elems, rest, n, _, rfl, _, _, hl, hm, hlen, hel, hsp, _⟩
  · exact ⟨rfl, [], ⟨Nat.zero_le _, fun a ha => absurd ha List.not_mem_nil⟩, rfl, fun j d hj => by obtain ⟨rfl, rfl⟩ := get1 hj; exact .nil⟩
  · refine ⟨rfl, ?_⟩
    rw [hc] at hel hsp
    obtain ⟨hrl, hrs⟩ := hsp rfl
    -- every element up to the capacity is there
    have hcell : ∀ i, i < cap → ∃ cs', W.cells? 0 (a.add (i * k)) k = some cs' ∧ ∃ y, DataW.trod enc P W 0 (fun _ => true) true n e cs' = some y := by
      intro i hi
      by_cases hil : i < len
      · have h1 := hel i hil
        rw [List.getElem?_eq_getElem (by omega)] at h1
        obtain ⟨cs', h2, h3⟩ := Option.bind_eq_some_iff.1 h1
        exact ⟨cs', h2, _, h3⟩
      · have h1 := hrs (i - len) (by omega)
        rw [show len + (i - len) = i by omega, List.getElem?_eq_getElem (by omega)] at h1
        obtain ⟨cs', h2, h3⟩ := Option.bind_eq_some_iff.1 h1
        exact ⟨cs', h2, _, h3⟩
    by_cases hc0 : cap = 0
    · subst hc0
      have : len = 0 := by omega
      subst this
      exact ⟨[], ⟨Nat.zero_le _, fun a ha => absurd ha List.not_mem_nil⟩, rfl, fun j d hj => by obtain ⟨rfl, rfl⟩ := get1 hj; exact .empty⟩
    · obtain ⟨b, off, sp⟩ := a
      have hrow : ∀ i, i < cap → ∀ j, j < k → ∃ v, W.cell? (((⟨b, off, sp⟩ : Addr).add (i * k)).add j) = some v := by
        intro i hi j hj
        obtain ⟨cs', h1, _⟩ := hcell i hi
        obtain ⟨_, h2, h3⟩ := World.cells?_some h1
        rw [h3 j hj, List.getElem?_eq_getElem (by omega)]
        exact ⟨_, rfl⟩
      have h00 := hrow 0 (by omega) 0 hk
      have hsp0 : sp = none := by
        obtain ⟨v, hv⟩ := h00
        cases sp with
        | none => rfl
        | some q =>
          unfold World.cell? Addr.add at hv
          split at hv
          · split at hv <;> simp_all
          · cases hv
      subst hsp0
      have hadd : ∀ i j, ((⟨b, off, none⟩ : Addr).add (i * k)).add j = ⟨b, off + i * k + j, none⟩ := fun i j => by rw [Addr.add_mid, Addr.add_mid]
      simp only [hadd] at hrow
      obtain ⟨arr, e2, fz, hb⟩ : ∃ arr e2 fz, W.heap[b]? = some (.cells arr e2 fz) := by
        obtain ⟨v, hv⟩ := hrow 0 (by omega) 0 hk
        unfold World.cell? at hv
        split at hv
        · rename_i c e2 fz hb; exact ⟨c, e2, fz, hb⟩
        · cases hv
      have hget : ∀ q, W.cell? ⟨b, q, none⟩ = arr[q]? := by intro q; simp [World.cell?, hb]
      have hsz : off + cap * k ≤ arr.size := by
        obtain ⟨v, hv⟩ := hrow (cap - 1) (by omega) (k - 1) (by omega)
        rw [hget] at hv
        have := (Array.getElem?_eq_some_iff.1 hv).1
        obtain ⟨c, rfl⟩ : ∃ c, cap = c + 1 := ⟨cap - 1, by omega⟩
        rw [Nat.add_sub_cancel] at this
        rw [Nat.succ_mul]; omega
      have hall : ∀ i, i < len → ∃ a, ok a ∧ (f a).length = k ∧ ∀ j d, (f a)[j]? = some d → DRep (fun k => k < W.heap.size) W d (arr.getD (off + i * k + j) undef) := by
        intro i hi
        obtain ⟨cs', h1, y, h2⟩ := hcell i (by omega)
        obtain ⟨h3, a, h4, h5, h6⟩ := hr.rd W n cs' y h2
        obtain ⟨_, h7, h8⟩ := World.cells?_some h1
        refine ⟨a, h4, h5, fun j d hj => ?_⟩
        have hj1 := (List.getElem?_eq_some_iff.1 hj).1
        have h9 := h8 j (by omega)
        rw [hadd, hget] at h9
        have : arr.getD (off + i * k + j) undef = cs'.getD j undef := by
          rw [Array.getD_eq_getD_getElem?, h9, List.getD_eq_getElem?_getD]
        rw [this]
        exact h6 j d hj
      obtain ⟨l, hll, hq⟩ := list_of hall
      have hin : ∀ a, a ∈ l → ok a ∧ (f a).length = k := by
        intro a ha
        obtain ⟨i, hi⟩ := List.getElem?_of_mem ha
        exact ⟨(hq i a hi).1, (hq i a hi).2.1⟩
      refine ⟨l, ⟨by have : cap ≤ 9223372036854775807 := hm; omega, fun a ha => (hin a ha).1⟩, rfl, fun j d hj => ?_⟩
      obtain ⟨rfl, rfl⟩ := get1 hj
      have hle : (l.map f).length = len := by rw [List.length_map, hll]
      have hv := DRep.view (F := fun k => k < W.heap.size) (w := W) (e := te) (sz := k) (els := l.map f) (b := b) (off := off) (cap := cap) (arr := arr) (lt_of_block hb) hb (by omega) hm hsz (fun i cs hi => ?_) (fun i cs j d hi hj => ?_)
      · rw [hle] at hv; exact hv
      · rw [List.getElem?_map, Option.map_eq_some_iff] at hi
        obtain ⟨a, ha, rfl⟩ := hi
        exact (hin a (List.mem_of_getElem? ha)).2
      · rw [List.getElem?_map, Option.map_eq_some_iff] at hi
        obtain ⟨a, ha, rfl⟩ := hi
        exact (hq i a ha).2.2 j d hj
theorem RT.imp {t : TypeId} {k : Nat} {α β : Type} {f : α → List DV} {ok : α → Prop} {f' : β → List DV} {ok' : β → Prop} (h : RT enc P t k f ok) (g : α → β) (hf : ∀ a, ok a → f' (g a) = f a) (ho : ∀ a, ok a → ok' (g a)) : RT enc P t k f' ok' :=
  ⟨fun W fuel cs x hx => by
    obtain ⟨h1, a, h2, h3, h4⟩ := h.rd W fuel cs x hx
    exact ⟨h1, g a, ho a h2, by rw [hf a h2]; exact h3, by rw [hf a h2]; exact h4⟩⟩
/-- An argument that is one cell. -/
theorem RT.arg1 {W : World} {t : TypeId} {α : Type} {f : α → List DV} {ok : α → Prop} {v : Value} {d : DataW H} {ps : List MemPlace} (h : RT enc P t 1 f ok) (hv : v.cells.toList = [v]) (ht : DataW.Trod enc P W 0 (fun _ => true) true t v d ps) :
    ∃ a, ok a ∧ ∀ x, f a = [x] → DRep (fun k => k < W.heap.size) W x v := by
  obtain ⟨fuel, ht⟩ := ht
  obtain ⟨_, a, h1, h2, h3⟩ := h.rd W fuel _ _ ht
  refine ⟨a, h1, fun x hx => ?_⟩
  rw [hx, hv] at h3
  exact h3 0 x rfl
end
theorem cells_slice (a : Option Addr) (l c : Nat) : (Value.slice a l c).cells.toList = [Value.slice a l c] := rfl
theorem cells_str (s : ByteArray) : (Value.string s).cells.toList = [Value.string s] := rfl
/-- Arguments one by one. -/
inductive AReps (m : Nat → Option (Option Nat × Nat)) (F : Nat → Prop) (W : World) : List AV → List Value → Prop
  | nil : AReps m F W [] []
  | cons {x : AV} {v : Value} {xs : List AV} {vs : List Value} : ARep m F W x v → AReps m F W xs vs → AReps m F W (x :: xs) (v :: vs)
theorem AReps.at {m : Nat → Option (Option Nat × Nat)} {F : Nat → Prop} {W : World} {xs : List AV} {vs : List Value} (h : AReps m F W xs vs) : ∀ (i : Nat) a, xs[i]? = some a → ARep m F W a (vs.toArray.getD i undef) := by
  have key : ∀ (i : Nat) a, xs[i]? = some a → ARep m F W a (vs.getD i undef) := by
    induction h with
    | nil => intro i a h; simp at h
    | cons h _ ih =>
      intro i a hi
      cases i with
      | zero => simp at hi; subst hi; exact h
      | succ i => simp at hi; exact ih i a hi
  intro i a hi
  have := key i a hi
  have e : vs.toArray.getD i undef = vs.getD i undef := by simp [List.getD_eq_getElem?_getD, Array.getD_eq_getD_getElem?]
  rwa [e]
end Go.Proofs.Ytkfpoagjlaldgaa

set_option linter.all false
set_option maxRecDepth 20000
namespace Go.Proofs.Ytkfpoagjlaldgaa
open Go.RowKit

/-- Data in blocks of its own: a value that reads so through just these blocks, no two parts through one. -/
inductive TRep (w : World) : (Nat → Prop) → DV → Value → Prop
  | val {S : Nat → Prop} {v : Value} : (∀ k, ¬ S k) → okV v → TRep w S (.val v) v
  | nil {S : Nat → Prop} {e sz : Nat} : (∀ k, ¬ S k) → TRep w S (.view e sz []) (.slice none 0 0)
  | view {S : Nat → Prop} {e sz : Nat} {els : List (List DV)} {b cap : Nat} {vs : Array Value} {fz : Nat × Nat} (Ts : Nat → Nat → Prop) : w.heap[b]? = some (.cells vs e fz) → (∀ (i : Nat), i < vs.size → ¬ (fz.1 ≤ i ∧ i < fz.2)) → vs.size = cap * sz → els.length ≤ cap → cap ≤ maxLen → 0 < sz →
      (∀ (i : Nat) (cs : List DV), els[i]? = some cs → cs.length = sz) → (∀ (i : Nat) (cs : List DV) (j : Nat) (d : DV), els[i]? = some cs → cs[j]? = some d → TRep w (Ts (i * sz + j)) d (vs.getD (i * sz + j) undef)) →
      (∀ c, ¬ Ts c b) → (∀ c c' k, Ts c k → Ts c' k → c = c') → (∀ k, S k ↔ k = b ∨ ∃ c, c < els.length * sz ∧ Ts c k) → TRep w S (.view e sz els) (.slice (some ⟨b, 0, none⟩) els.length cap)
theorem TRep.lt {w : World} {S : Nat → Prop} {x : DV} {v : Value} (h : TRep w S x v) : ∀ k, S k → k < w.heap.size := by
  induction h with
  | val h _ => intro k h'; exact absurd h' (h k)
  | nil h => intro k h'; exact absurd h' (h k)
  | @view S e sz els b cap vs fz Ts hb _ _ _ _ hz hr _ _ _ hS ih =>
    intro k hk
    rcases (hS k).1 hk with rfl | ⟨c, hc, hk⟩
    · exact lt_of_block hb
    · have h1 : c / sz < els.length := Nat.div_lt_of_lt_mul (by rw [Nat.mul_comm]; exact hc)
      have h2 : c % sz < sz := Nat.mod_lt _ hz
      have e1 := List.getElem?_eq_getElem h1
      have h3 := hr _ _ e1
      have e2 : c / sz * sz + c % sz = c := Nat.div_add_mod' c sz
      have := ih _ _ _ _ e1 (List.getElem?_eq_getElem (by rw [h3]; exact h2)) k
      rw [e2] at this
      exact this hk
theorem TRep.turn {w w' : World} {S : Nat → Prop} {x : DV} {v : Value} (h : TRep w S x v) : (∀ k, S k → w'.heap[k]? = w.heap[k]?) → TRep w' S x v := by
  induction h with
  | val h0 h => intro _; exact .val h0 h
  | nil h0 => intro _; exact .nil h0
  | @view S e sz els b cap vs fz Ts hb h1 h2 h3 h4 h5 h6 h7 h8 h9 h10 ih =>
    intro hk
    refine .view Ts ((hk _ ((h10 _).2 (.inl rfl))).trans hb) h1 h2 h3 h4 h5 h6 (fun i cs j d hi hj => ih i cs j d hi hj (fun k hk' => hk k ((h10 k).2 (.inr ⟨_, ?_, hk'⟩)))) h8 h9 h10
    have hi1 := (List.getElem?_eq_some_iff.1 hi).1
    have hj1 := (List.getElem?_eq_some_iff.1 hj).1
    rw [h6 i cs hi] at hj1
    have h := Nat.mul_le_mul_right sz hi1
    rw [Nat.succ_mul] at h
    omega
theorem TRep.data {w : World} {S : Nat → Prop} {x : DV} {v : Value} (h : TRep w S x v) : DRep S w x v := by
  induction h with
  | val _ h => exact .val h
  | nil _ => exact .nil
  | @view S e sz els b cap vs fz Ts hb h1 h2 h3 h4 h5 h6 h7 h8 h9 h10 ih =>
    refine .view ((h10 _).2 (.inl rfl)) hb h3 h4 (by rw [Nat.zero_add, h2]; exact Nat.le_refl _) h6 (fun i cs j d hi hj => ?_)
    rw [Nat.zero_add]
    refine (ih i cs j d hi hj).mono fun k hk => (h10 k).2 (.inr ⟨_, ?_, hk⟩)
    have hi1 := (List.getElem?_eq_some_iff.1 hi).1
    have hj1 := (List.getElem?_eq_some_iff.1 hj).1
    rw [h6 i cs hi] at hj1
    have h := Nat.mul_le_mul_right sz hi1
    rw [Nat.succ_mul] at h
    omega
theorem TRep.congr {w : World} {S S' : Nat → Prop} {x : DV} {v : Value} (h : TRep w S x v) (he : ∀ k, S k ↔ S' k) : TRep w S' x v := by
  have : S = S' := funext fun k => propext (he k)
  subst this; exact h
/-- .. and so does a list of values, each in blocks of its own. -/
def TL (w : World) (S : Nat → Prop) (L : List DV) (V : List Value) : Prop :=
  ∃ Ts : Nat → Nat → Prop, V.length = L.length ∧ (∀ i d v, L[i]? = some d → V[i]? = some v → TRep w (Ts i) d v) ∧ (∀ i j k, Ts i k → Ts j k → i = j) ∧ ∀ k, S k ↔ ∃ i, i < L.length ∧ Ts i k
theorem TL.turn {w w' : World} {S : Nat → Prop} {L : List DV} {V : List Value} (h : TL w S L V) (hk : ∀ k, S k → w'.heap[k]? = w.heap[k]?) : TL w' S L V := by
  obtain ⟨Ts, h1, h2, h3, h4⟩ := h
  exact ⟨Ts, h1, fun i d v hd hv => (h2 i d v hd hv).turn fun k hk' => hk k ((h4 k).2 ⟨i, (List.getElem?_eq_some_iff.1 hd).1, hk'⟩), h3, h4⟩
theorem TL.lt {w : World} {S : Nat → Prop} {L : List DV} {V : List Value} (h : TL w S L V) (k : Nat) (hk : S k) : k < w.heap.size := by
  obtain ⟨Ts, h1, h2, h3, h4⟩ := h
  obtain ⟨i, hi, hk'⟩ := (h4 k).1 hk
  exact (h2 i _ _ (List.getElem?_eq_getElem hi) (List.getElem?_eq_getElem (by omega))).lt k hk'
theorem TL.data {w : World} {S : Nat → Prop} {L : List DV} {V : List Value} (h : TL w S L V) (i : Nat) {d : DV} {v : Value} (hd : L[i]? = some d) (hv : V[i]? = some v) : DRep S w d v := by
  obtain ⟨Ts, h1, h2, h3, h4⟩ := h
  exact (h2 i d v hd hv).data.mono fun k hk => (h4 k).2 ⟨i, (List.getElem?_eq_some_iff.1 hd).1, hk⟩
theorem TL.len {w : World} {S : Nat → Prop} {L : List DV} {V : List Value} (h : TL w S L V) : V.length = L.length := h.choose_spec.1
theorem TL.nil (w : World) : TL w (fun _ => False) [] [] := ⟨fun _ _ => False, rfl, fun i d v h => by simp at h, fun _ _ _ h => h.elim, fun k => ⟨fun h => h.elim, fun ⟨_, h, _⟩ => by simp at h⟩⟩
theorem TL.one {w : World} {S : Nat → Prop} {d : DV} {v : Value} (h : TRep w S d v) : TL w S [d] [v] := by
  refine ⟨fun i k => i = 0 ∧ S k, rfl, fun i d' v' hd hv => ?_, fun i j k h1 h2 => h1.1.trans h2.1.symm, fun k => ⟨fun h => ⟨0, by simp, rfl, h⟩, fun ⟨_, _, h⟩ => h.2⟩⟩
  cases i with
  | zero =>
    simp at hd hv; subst hd; subst hv
    exact h.congr fun k => by simp
  | succ i => simp at hd
theorem TL.app {w : World} {S S' : Nat → Prop} {L L' : List DV} {V V' : List Value} (h : TL w S L V) (h' : TL w S' L' V') (hd : ∀ k, S k → ¬ S' k) : TL w (fun k => S k ∨ S' k) (L ++ L') (V ++ V') := by
  obtain ⟨Ts, h1, h2, h3, h4⟩ := h
  obtain ⟨Ts', g1, g2, g3, g4⟩ := h'
  refine ⟨fun i k => (i < L.length ∧ Ts i k) ∨ (L.length ≤ i ∧ i < L.length + L'.length ∧ Ts' (i - L.length) k), by simp [h1, g1], fun i d v hd' hv => ?_, fun i j k hi hj => ?_, fun k => ⟨fun h => ?_, fun h => ?_⟩⟩
  · by_cases hi : i < L.length
    · rw [List.getElem?_append_left hi] at hd'
      rw [List.getElem?_append_left (by omega)] at hv
      exact (h2 i d v hd' hv).congr fun k => by simp [hi, Nat.not_le.2 hi]
    · have hlt := (List.getElem?_eq_some_iff.1 hd').1
      rw [List.length_append] at hlt
      rw [List.getElem?_append_right (by omega)] at hd' hv
      rw [h1] at hv
      exact (g2 _ d v hd' hv).congr fun k => by simp [hi, hlt, Nat.le_of_not_lt hi]
  · rcases hi with ⟨a1, a2⟩ | ⟨a1, a2, a3⟩ <;> rcases hj with ⟨b1, b2⟩ | ⟨b1, b2, b3⟩
    · exact h3 i j k a2 b2
    · exact absurd ((g4 k).2 ⟨_, by omega, b3⟩) (hd k ((h4 k).2 ⟨i, a1, a2⟩))
    · exact absurd ((g4 k).2 ⟨_, by omega, a3⟩) (hd k ((h4 k).2 ⟨j, b1, b2⟩))
    · have := g3 _ _ k a3 b3; omega
  · rcases h with h | h
    · obtain ⟨i, hi, hk⟩ := (h4 k).1 h
      exact ⟨i, by rw [List.length_append]; omega, .inl ⟨hi, hk⟩⟩
    · obtain ⟨i, hi, hk⟩ := (g4 k).1 h
      refine ⟨L.length + i, by rw [List.length_append]; omega, .inr ⟨by omega, by omega, ?_⟩⟩
      rw [show L.length + i - L.length = i by omega]; exact hk
  · obtain ⟨i, _, ⟨a1, a2⟩ | ⟨a1, a2, a3⟩⟩ := h
    · exact .inl ((h4 k).2 ⟨i, a1, a2⟩)
    · exact .inr ((g4 k).2 ⟨_, by omega, a3⟩)
theorem TL.cons {w : World} {S S' : Nat → Prop} {d : DV} {v : Value} {L : List DV} {V : List Value} (h : TRep w S d v) (h' : TL w S' L V) (hd : ∀ k, S k → ¬ S' k) : TL w (fun k => S k ∨ S' k) (d :: L) (v :: V) := (TL.one h).app h' hd
/-- All but one. -/
def TX (w : World) (S : Nat → Prop) (c : Nat) (L : List DV) (V : List Value) : Prop :=
  ∃ Ts : Nat → Nat → Prop, V.length = L.length ∧ (∀ i d v, i ≠ c → L[i]? = some d → V[i]? = some v → TRep w (Ts i) d v) ∧ (∀ i j k, Ts i k → Ts j k → i = j) ∧ (∀ k, ¬ Ts c k) ∧ ∀ k, S k ↔ ∃ i, i < L.length ∧ Ts i k
theorem TX.turn {w w' : World} {S : Nat → Prop} {c : Nat} {L : List DV} {V : List Value} (h : TX w S c L V) (hk : ∀ k, S k → w'.heap[k]? = w.heap[k]?) : TX w' S c L V := by
  obtain ⟨Ts, h1, h2, h3, h4, h5⟩ := h
  exact ⟨Ts, h1, fun i d v hi hd hv => (h2 i d v hi hd hv).turn fun k hk' => hk k ((h5 k).2 ⟨i, (List.getElem?_eq_some_iff.1 hd).1, hk'⟩), h3, h4, h5⟩
theorem TL.split {w : World} {S : Nat → Prop} {L : List DV} {V : List Value} (h : TL w S L V) {c : Nat} {d : DV} {v : Value} (hd : L[c]? = some d) (hv : V[c]? = some v) : ∃ S1 S2, TRep w S1 d v ∧ TX w S2 c L V ∧ (∀ k, S1 k → ¬ S2 k) ∧ ∀ k, S k ↔ S1 k ∨ S2 k := by
  obtain ⟨Ts, h1, h2, h3, h4⟩ := h
  have hlt := (List.getElem?_eq_some_iff.1 hd).1
  refine ⟨Ts c, fun k => ∃ i, i < L.length ∧ i ≠ c ∧ Ts i k, h2 c d v hd hv, ⟨fun i k => i ≠ c ∧ Ts i k, h1, fun i d v hi hd hv => ?_, fun i j k hi hj => h3 i j k hi.2 hj.2, fun k hk => hk.1 rfl, fun k => Iff.rfl⟩, fun k hk ⟨i, _, hi, hk'⟩ => hi (h3 i c k hk' hk), fun k => ⟨fun hk => ?_, fun hk => ?_⟩⟩
  · exact (h2 i d v hd hv).congr fun k => by simp [hi]
  · obtain ⟨i, hi, hk⟩ := (h4 k).1 hk
    by_cases hic : i = c
    · subst hic; exact .inl hk
    · exact .inr ⟨i, hi, hic, hk⟩
  · rcases hk with hk | ⟨i, hi, _, hk⟩
    · exact (h4 k).2 ⟨c, hlt, hk⟩
    · exact (h4 k).2 ⟨i, hi, hk⟩
theorem TX.join {w : World} {S1 S2 : Nat → Prop} {c : Nat} {L : List DV} {V : List Value} {d : DV} {v : Value} (h : TX w S2 c L V) (h1 : TRep w S1 d v) (hc : c < L.length) (hv : V[c]? = some v) (hd : ∀ k, S1 k → ¬ S2 k) : TL w (fun k => S1 k ∨ S2 k) (L.set c d) V := by
  obtain ⟨Ts, g1, g2, g3, g4, g5⟩ := h
  refine ⟨fun i k => (i = c ∧ S1 k) ∨ (i < L.length ∧ Ts i k), by simpa using g1, fun i d' v' hd' hv' => ?_, fun i j k hi hj => ?_, fun k => ⟨fun hk => ?_, fun hk => ?_⟩⟩
  · by_cases hi : c = i
    · subst hi
      rw [List.getElem?_set_self hc] at hd'
      rw [hv] at hv'
      simp only [Option.some.injEq] at hd' hv'
      subst hd'; subst hv'
      exact h1.congr fun k => by simp [g4]
    · rw [List.getElem?_set_ne hi] at hd'
      have hl := (List.getElem?_eq_some_iff.1 hd').1
      have hi' : ¬ i = c := fun e => hi e.symm
      exact (g2 i d' v' hi' hd' hv').congr fun k => by simp [hi', hl]
  · rcases hi with ⟨a1, a2⟩ | ⟨a1, a2⟩ <;> rcases hj with ⟨b1, b2⟩ | ⟨b1, b2⟩
    · rw [a1, b1]
    · exact absurd ((g5 k).2 ⟨j, b1, b2⟩) (hd k a2)
    · exact absurd ((g5 k).2 ⟨i, a1, a2⟩) (hd k b2)
    · exact g3 i j k a2 b2
  · rcases hk with hk | hk
    · exact ⟨c, by simpa using hc, .inl ⟨rfl, hk⟩⟩
    · obtain ⟨i, hi, hk⟩ := (g5 k).1 hk
      exact ⟨i, by simpa using hi, .inr ⟨hi, hk⟩⟩
  · obtain ⟨i, _, ⟨_, hk⟩ | ⟨hi, hk⟩⟩ := hk
    · exact .inl hk
    · exact .inr ((g5 k).2 ⟨i, hi, hk⟩)
end Go.Proofs.Ytkfpoagjlaldgaa

set_option linter.all false
set_option maxRecDepth 20000
namespace Go.Proofs.Ytkfpoagjlaldgaa
open Go.RowKit

section
variable {P : Program} [PT P] {C : Ctx} {Q : Exit → ASt → Prop} {s : ASt} {ops : Array Oper} {U U' : Nat → Prop} {a : Act} {w : World} {m : Nat → Option (Option Nat × Nat)}

def mNew (m : Nat → Option (Option Nat × Nat)) (new : List (Nat × Chunk)) (pm : Nat → Option Nat × Nat) (j : Nat) : Option (Option Nat × Nat) :=
  match getL j new with
  | some _ => some (pm j)
  | none => m j
theorem mNew_some {new : List (Nat × Chunk)} {pm : Nat → Option Nat × Nat} {j : Nat} {c : Chunk} (h : getL j new = some c) : mNew m new pm j = some (pm j) := by simp [mNew, h]
theorem mNew_none {new : List (Nat × Chunk)} {pm : Nat → Option Nat × Nat} {j : Nat} (h : getL j new = none) : mNew m new pm j = m j := by simp [mNew, h]
theorem RelM.repack (h : RelM C U s a w m) {t : ASt} (new : List (Nat × Chunk)) (pm : Nat → Option Nat × Nat) (gone : List Nat) (hn : t.n = s.n)
    (ht : ∀ id c, t.chunk id = some c → getL id new = some c ∨ (getL id new = none ∧ id ∉ gone ∧ s.chunk id = some c))
    (hU : ∀ id c, getL id new = some c → U id ∨ m id = some (pm id))
    (hU' : ∀ j, U' j → U j ∧ getL j new = none)
    (hocc : ∀ id c b, getL id new = some c → occ (pm id) c b → ∃ j c0 q, j ∈ gone ∧ s.chunk j = some c0 ∧ m j = some q ∧ occ q c0 b)
    (hdis : ∀ id id' c c' b, getL id new = some c → getL id' new = some c' → occ (pm id) c b → occ (pm id') c' b → id = id')
    (hrep : ∀ F', (∀ k, Fz C m s w k → F' k) → ∀ id c, getL id new = some c → CRep (mNew m new pm) F' w (pm id) c)
    (hsl : MLe m (mNew m new pm) → ∀ F', (∀ k, Fz C m s w k → F' k) → ∀ i, ARep (mNew m new pm) F' w (t.get i) (a.tmps.getD i undef)) : RelM C U' t a w (mNew m new pm) := by
  have hle : MLe m (mNew m new pm) := by
    intro j p hp
    cases hg : getL j new with
    | none => rw [mNew_none hg]; exact hp
    | some c =>
      rcases hU j c hg with h1 | h1
      · rw [h.un j h1] at hp; cases hp
      · rw [hp] at h1; rw [mNew_some hg, h1]
  have hF : ∀ k, Fz C m s w k → Fz C (mNew m new pm) t w k := by
    intro k hk
    refine ⟨hk.1, hk.2.1, fun id c p h1 h2 ho => ?_⟩
    rcases ht id c h1 with g | ⟨g, _, g3⟩
    · rw [mNew_some g] at h2
      obtain rfl : pm id = p := by simpa using h2
      obtain ⟨j, c0, q, _, q2, q3, q4⟩ := hocc id c k g ho
      exact hk.2.2 j c0 q q2 q3 q4
    · rw [mNew_none g] at h2
      exact hk.2.2 id c p g3 h2 ho
  refine ⟨h.fr, h.fin, by rw [hn]; exact h.sz, hsl hle _ hF, fun id c h1 => ?_, fun id id' c c' p p' h1 h2 hp hp' b hb hb' => ?_, fun j hj => ?_, h.defers, fun id p hp => hle id p (h.m0 id p hp), h.m0k⟩
  · rcases ht id c h1 with g | ⟨g, _, g3⟩
    · refine ⟨pm id, mNew_some g, hrep _ hF id c g, fun b hb => ?_⟩
      obtain ⟨j, c0, q, _, q2, q3, q4⟩ := hocc id c b g hb
      obtain ⟨q', hq', _, hl⟩ := h.ch j c0 q2
      rw [q3] at hq'
      obtain rfl : q = q' := by simpa using hq'
      exact hl b q4
    · obtain ⟨p, hp, hr, hl⟩ := h.ch id c g3
      exact ⟨p, hle _ _ hp, hr.turn hle (fun k hk _ => ⟨hF k hk, rfl⟩) (fun _ _ => rfl), hl⟩
  · rcases ht id c h1 with g | ⟨g, g2, g3⟩ <;> rcases ht id' c' h2 with g' | ⟨g', g2', g3'⟩
    · rw [mNew_some g] at hp
      rw [mNew_some g'] at hp'
      obtain rfl : pm id = p := by simpa using hp
      obtain rfl : pm id' = p' := by simpa using hp'
      exact hdis id id' c c' b g g' hb hb'
    · rw [mNew_some g] at hp
      rw [mNew_none g'] at hp'
      obtain rfl : pm id = p := by simpa using hp
      obtain ⟨j, c0, q, q1, q2, q3, q4⟩ := hocc id c b g hb
      have := h.inj j id' c0 c' q p' q2 g3' q3 hp' b q4 hb'
      subst this
      exact absurd q1 g2'
    · rw [mNew_none g] at hp
      rw [mNew_some g'] at hp'
      obtain rfl : pm id' = p' := by simpa using hp'
      obtain ⟨j, c0, q, q1, q2, q3, q4⟩ := hocc id' c' b g' hb'
      have := h.inj j id c0 c q p q2 g3 q3 hp b q4 hb
      subst this
      exact absurd q1 g2
    · rw [mNew_none g] at hp
      rw [mNew_none g'] at hp'
      exact h.inj id id' c c' p p' g3 g3' hp hp' b hb hb'
  · obtain ⟨h1, h2⟩ := hU' j hj
    rw [mNew_none h2]
    exact h.un j h1

/-- A reading that can be said in one of several ways. -/
structure WeakR (C : Ctx) (s : ASt) (T : ASt → Prop) : Prop where
  run : ∀ a w, Rel C s a w → ∃ t, T t ∧ Rel C t a w
theorem CRep.predAt {F : Nat → Prop} {p : Option Nat × Nat} {S : Nat → Prop} {K : World → Prop} (h : CRep m F w p (.pred S K)) : p = (none, 0) ∧ K w ∧ (∀ w w', (∀ k, S k → w'.heap[k]? = w.heap[k]?) → K w → K w') ∧ ∀ k, S k → k < w.heap.size := by
  cases h with
  | pred h1 h2 h3 => exact ⟨rfl, h1, h2, h3⟩
theorem occ_pred' {S : Nat → Prop} {K : World → Prop} {k : Nat} (h : occ (none, 0) (.pred S K) k) : S k := by
  rcases h with h | h
  · cases h
  · exact h

/-- Two facts made one, under the first one's name. -/
theorem Weak.join (id1 id2 : Nat) {S1 S2 : Nat → Prop} {K1 K2 : World → Prop} (K : World → Prop) (h1 : s.chunk id1 = some (.pred S1 K1)) (h2 : s.chunk id2 = some (.pred S2 K2)) (hne : Nat.beq id1 id2 = false)
    (hK : ∀ w, K1 w → K2 w → (∀ k, S1 k → ¬ S2 k) → K w) (hcl : ∀ w w', (∀ k, S1 k ∨ S2 k → w'.heap[k]? = w.heap[k]?) → K w → K w') :
    Weak C s { n := s.n, nx := s.nx, sl := s.sl, ch := (id1, some (.pred (fun k => S1 k ∨ S2 k) K)) :: (id2, none) :: s.ch } := by
  refine ⟨?_⟩
  rintro a w ⟨m, hR⟩
  have hne : id1 ≠ id2 := Nat.ne_of_beq_eq_false hne
  obtain ⟨p1, q1, c1, l1⟩ := hR.ch id1 _ h1
  obtain ⟨p2, q2, c2, l2⟩ := hR.ch id2 _ h2
  obtain ⟨rfl, k1, cl1, lt1⟩ := c1.predAt
  obtain ⟨rfl, k2, cl2, lt2⟩ := c2.predAt
  have hd : ∀ k, S1 k → ¬ S2 k := fun k g1 g2 => hne (hR.inj id1 id2 _ _ _ _ h1 h2 q1 q2 k (.inr g1) (.inr g2))
  refine ⟨_, hR.repack (U' := fun i => s.nx ≤ i) [(id1, .pred (fun k => S1 k ∨ S2 k) K)] (fun _ => (none, 0)) [id1, id2] rfl (fun i c h => ?_) (fun i c h => .inr ?_) (fun i hi => ⟨hi, ?_⟩) (fun i c b h hb => ?_) (fun i i' c c' b h h' _ _ => ?_) (fun F' _ i c h => ?_) (fun hle F' hF i => (hR.sl i).turn hle (fun k hk _ => ⟨hF k hk, rfl⟩))⟩
  · change (getL i (_ :: _ :: _)).getD none = _ at h
    rw [getL_cons] at h
    rw [getL_cons]
    split at h
    · rename_i ei; rw [if_pos ei]; exact .inl (by simpa using h)
    · rename_i ei
      rw [if_neg ei]
      rw [getL_cons] at h
      split at h
      · cases h
      · rename_i ei'; exact .inr ⟨rfl, by simp [ei, ei'], h⟩
  · obtain ⟨rfl, _⟩ := getL_one h; exact q1
  · rw [getL_cons]
    split
    · rename_i ei; subst ei; have := hR.un i hi; rw [q1] at this; cases this
    · rfl
  · obtain ⟨rfl, rfl⟩ := getL_one h
    rcases occ_pred' hb with g | g
    · exact ⟨i, _, _, by simp, h1, q1, .inr g⟩
    · exact ⟨id2, _, _, by simp, h2, q2, .inr g⟩
  · rw [(getL_one h).1, (getL_one h').1]
  · obtain ⟨rfl, rfl⟩ := getL_one h
    exact .pred (hK w k1 k2 hd) hcl (fun k hk => hk.elim (lt1 k) (lt2 k))
/-- A fact said in other words. -/
theorem Weak.cons (id : Nat) {S : Nat → Prop} {K : World → Prop} (K' : World → Prop) (h0 : s.chunk id = some (.pred S K)) (hK : ∀ w, K w → K' w) (hcl : ∀ w w', (∀ k, S k → w'.heap[k]? = w.heap[k]?) → K' w → K' w') :
    Weak C s { n := s.n, nx := s.nx, sl := s.sl, ch := (id, some (.pred S K')) :: s.ch } := by
  refine ⟨?_⟩
  rintro a w ⟨m, hR⟩
  obtain ⟨p1, q1, c1, l1⟩ := hR.ch id _ h0
  obtain ⟨rfl, k1, cl1, lt1⟩ := c1.predAt
  refine ⟨_, hR.repack (U' := fun i => s.nx ≤ i) [(id, .pred S K')] (fun _ => (none, 0)) [id] rfl (fun i c h => ?_) (fun i c h => .inr ?_) (fun i hi => ⟨hi, ?_⟩) (fun i c b h hb => ?_) (fun i i' c c' b h h' _ _ => ?_) (fun F' _ i c h => ?_) (fun hle F' hF i => (hR.sl i).turn hle (fun k hk _ => ⟨hF k hk, rfl⟩))⟩
  · change (getL i (_ :: _)).getD none = _ at h
    rw [getL_cons] at h
    rw [getL_cons]
    split at h
    · rename_i ei; rw [if_pos ei]; exact .inl (by simpa using h)
    · rename_i ei
      rw [if_neg ei]
      exact .inr ⟨rfl, by simpa using ei, h⟩
  · obtain ⟨rfl, _⟩ := getL_one h; exact q1
  · rw [getL_cons]
    split
    · rename_i ei; subst ei; have := hR.un i hi; rw [q1] at this; cases this
    · rfl
  · obtain ⟨rfl, rfl⟩ := getL_one h
    exact ⟨_, _, _, by simp, h0, q1, .inr (occ_pred' hb)⟩
  · rw [(getL_one h).1, (getL_one h').1]
  · obtain ⟨rfl, rfl⟩ := getL_one h
    exact .pred (hK w k1) hcl lt1
end
end Go.Proofs.Ytkfpoagjlaldgaa

set_option linter.all false
set_option maxRecDepth 20000
namespace Go.Proofs.Ytkfpoagjlaldgaa
open Go.RowKit

/-- Rows of cells that hold just these values. -/
def rowsV (sz n : Nat) (V : List Value) : List (List DV) := (List.range n).map fun i => (List.range sz).map fun j => DV.val ((V[i * sz + j]?).getD undef)
theorem rowsV_len (sz n : Nat) (V : List Value) : (rowsV sz n V).length = n := by simp [rowsV]
theorem rowsV_get {sz n : Nat} {V : List Value} {i : Nat} (h : i < n) : (rowsV sz n V)[i]? = some ((List.range sz).map fun j => DV.val ((V[i * sz + j]?).getD undef)) := by simp [rowsV, h]
theorem rowsV_row {sz n : Nat} {V : List Value} {i : Nat} {cs : List DV} (h : (rowsV sz n V)[i]? = some cs) : i < n ∧ cs.length = sz ∧ ∀ (j : Nat) d, cs[j]? = some d → j < sz ∧ d = .val ((V[i * sz + j]?).getD undef) := by
  have hi := (List.getElem?_eq_some_iff.1 h).1
  rw [rowsV_len] at hi
  rw [rowsV_get hi] at h
  simp only [Option.some.injEq] at h
  subst h
  refine ⟨hi, by simp, fun j d hd => ?_⟩
  rw [List.getElem?_map, Option.map_eq_some_iff] at hd
  obtain ⟨q, hq, rfl⟩ := hd
  have := (List.getElem?_eq_some_iff.1 hq).1
  have h2 : q = j := by
    have := (List.getElem?_eq_some_iff.1 hq).2
    simpa using this.symm
  subst h2
  exact ⟨by simpa using this, rfl⟩
theorem row_lt {i j n sz : Nat} (hi : i < n) (hj : j < sz) : i * sz + j < n * sz := by
  have h := Nat.mul_le_mul_right sz hi
  rw [Nat.succ_mul] at h
  omega
theorem flat_len : ∀ {els : List (List DV)} {sz : Nat}, (∀ cs, cs ∈ els → cs.length = sz) → els.flatten.length = els.length * sz
  | [], sz, _ => by simp
  | c :: els, sz, h => by
    rw [List.flatten_cons, List.length_append, flat_len (els := els) (fun cs hc => h cs (List.mem_cons_of_mem _ hc)), h c (by simp), List.length_cons, Nat.succ_mul]; omega
theorem flat_get : ∀ {els : List (List DV)} {sz : Nat} (_ : ∀ cs, cs ∈ els → cs.length = sz) {i j : Nat} {cs : List DV} {d : DV}, els[i]? = some cs → cs[j]? = some d → els.flatten[i * sz + j]? = some d
  | [], sz, _, i, j, cs, d, hi, _ => by simp at hi
  | c :: els, sz, h, i, j, cs, d, hi, hj => by
    have hc := h c (by simp)
    have hlt := (List.getElem?_eq_some_iff.1 hj).1
    cases i with
    | zero =>
      simp at hi; subst hi
      rw [List.flatten_cons, Nat.zero_mul, Nat.zero_add, List.getElem?_append_left hlt]; exact hj
    | succ i =>
      rw [List.getElem?_cons_succ] at hi
      rw [List.flatten_cons, List.getElem?_append_right (by rw [hc, Nat.succ_mul]; omega), hc, show (i + 1) * sz + j - sz = i * sz + j by rw [Nat.succ_mul]; omega]
      exact flat_get (fun cs hc => h cs (List.mem_cons_of_mem _ hc)) hi hj
theorem rowsV_flat {els : List (List DV)} {sz : Nat} (h : ∀ cs, cs ∈ els → cs.length = sz) (hz : 0 < sz) {c : Nat} (hc : c < els.flatten.length) : ∃ i j cs d, els[i]? = some cs ∧ cs[j]? = some d ∧ c = i * sz + j ∧ els.flatten[c]? = some d := by
  rw [flat_len h] at hc
  have h1 : c / sz < els.length := Nat.div_lt_of_lt_mul (by rw [Nat.mul_comm]; exact hc)
  have h2 : c % sz < sz := Nat.mod_lt _ hz
  have e1 := List.getElem?_eq_getElem h1
  have h3 := h _ (List.mem_of_getElem? e1)
  have e2 : c = c / sz * sz + c % sz := (Nat.div_add_mod' c sz).symm
  have e3 := List.getElem?_eq_getElem (show c % sz < (els[c / sz]).length by omega)
  refine ⟨_, _, _, _, e1, e3, e2, ?_⟩
  have := flat_get h e1 e3
  rwa [← e2] at this

/-- What data in blocks of its own is made of: its own array, and its parts. -/
theorem TRep.parts {w : World} {S : Nat → Prop} {e sz : Nat} {els : List (List DV)} {v : Value} (h : TRep w S (.view e sz els) v) (hz : 0 < sz) : ∃ (p : Option Nat × Nat) (V : List Value) (S' : Nat → Prop),
    v = .slice (p.1.map fun b => ⟨b, 0, none⟩) els.length p.2 ∧ (p.1 = none → els.length = 0 ∧ p.2 = 0) ∧ V.length = els.length * sz ∧ (∀ cs, cs ∈ els → cs.length = sz) ∧ TL w S' els.flatten V ∧ (∀ k, S k ↔ p.1 = some k ∨ S' k) ∧ (∀ k, p.1 = some k → ¬ S' k) ∧
    (∀ (c : Nat) x, els.flatten[c]? = some (.val x) → V[c]? = some x) ∧ ∀ m F, CRep m F w p (.arr e sz (rowsV sz els.length V)) := by
  cases h with
  | nil h => exact ⟨(none, 0), [], S, rfl, fun _ => ⟨rfl, rfl⟩, by simp, fun cs hc => by simp at hc, ⟨fun _ _ => False, rfl, fun i d v h => by simp at h, fun _ _ _ h => h.elim, fun k => ⟨fun h' => absurd h' (h k), fun ⟨_, h, _⟩ => by simp at h⟩⟩, fun k => by simp, fun k h => by simp at h, fun c x hc => by simp at hc, fun m F => .nil hz⟩
  | @view _ _ _ _ b cap vs fz Ts hb h1 h2 h3 h4 h5 h6 h7 h8 h9 h10 =>
    have hrow : ∀ cs, cs ∈ els → cs.length = sz := fun cs hc => by
      obtain ⟨i, hi⟩ := List.mem_iff_getElem?.1 hc
      exact h6 i cs hi
    have hfl := flat_len hrow
    have hcap := Nat.mul_le_mul_right sz h3
    have hV : ∀ c, c < els.length * sz → ((List.range (els.length * sz)).map fun c => vs.getD c undef)[c]? = some (vs.getD c undef) := fun c hc => by simp [hc]
    have hT : ∀ c d, els.flatten[c]? = some d → TRep w (Ts c) d (vs.getD c undef) := by
      intro c d hd
      obtain ⟨i, j, cs, d', e1, e2, rfl, e3⟩ := rowsV_flat hrow h5 (List.getElem?_eq_some_iff.1 hd).1
      rw [e3] at hd
      obtain rfl : d' = d := by simpa using hd
      exact h7 i cs j d' e1 e2
    refine ⟨(some b, cap), (List.range (els.length * sz)).map fun c => vs.getD c undef, fun k => ∃ c, c < els.length * sz ∧ Ts c k, rfl, fun h => by simp at h, by simp, hrow, ⟨Ts, by simp [hfl], fun c d v hd hv => ?_, h9, fun k => by rw [hfl]⟩, fun k => by rw [h10 k]; simp [eq_comm], fun k hk => ?_, fun c x hc => ?_, fun m F => .arr hb h1 h2 (by rw [rowsV_len]; exact h3) h4 h5 (fun i cs hi => (rowsV_row hi).2.1) (fun i cs j d hi hj => ?_)⟩
    · have hlt := (List.getElem?_eq_some_iff.1 hd).1
      rw [hfl] at hlt
      rw [hV c hlt] at hv
      simp only [Option.some.injEq] at hv
      subst hv
      exact hT c d hd
    · simp only [Option.some.injEq] at hk
      subst hk
      rintro ⟨c, _, hc⟩
      exact h8 c hc
    · have hlt := (List.getElem?_eq_some_iff.1 hc).1
      rw [hfl] at hlt
      rw [hV c hlt]
      have := hT c _ hc
      generalize vs.getD c undef = u at this
      cases this; rfl
    · obtain ⟨hi1, _, hrw⟩ := rowsV_row hi
      obtain ⟨hj1, rfl⟩ := hrw j d hj
      have hlt := row_lt hi1 hj1
      rw [hV _ hlt, Option.getD_some]
      refine .val ?_
      have hlt' : i * sz + j < els.flatten.length := by rw [hfl]; exact hlt
      have hE := List.getElem?_eq_getElem hlt'
      generalize els.flatten[i * sz + j] = dd at hE
      have := hT _ _ hE
      generalize vs.getD (i * sz + j) undef = u at this
      cases this <;> first | assumption | trivial
/-- .. and back. -/
theorem TRep.whole {w : World} {m : Nat → Option (Option Nat × Nat)} {F S' : Nat → Prop} {e sz : Nat} {els : List (List DV)} {V : List Value} {p : Option Nat × Nat} (hp : p.1 = none → els.length = 0 ∧ p.2 = 0) (hrow : ∀ cs, cs ∈ els → cs.length = sz) (hL : TL w S' els.flatten V) (hS : ∀ k, p.1 = some k → ¬ S' k)
    (hC : CRep m F w p (.arr e sz (rowsV sz els.length V))) : TRep w (fun k => p.1 = some k ∨ S' k) (.view e sz els) (.slice (p.1.map fun b => ⟨b, 0, none⟩) els.length p.2) := by
  have hfl := flat_len hrow
  obtain ⟨Ts, g1, g2, g3, g4⟩ := hL
  generalize hE : rowsV sz els.length V = E at hC
  cases hC with
  | nil h =>
    have : els = [] := by
      have h2 := congrArg List.length hE
      rw [rowsV_len] at h2
      exact List.eq_nil_of_length_eq_zero h2
    subst this
    refine .nil fun k hk => ?_
    rcases hk with hk | hk
    · simp at hk
    · obtain ⟨i, hi, _⟩ := (g4 k).1 hk
      simp at hi
  | @arr b cap _ _ _ vs fz hb hf hsz hl hm h0' hrw hel =>
    subst hE
    rw [rowsV_len] at hl
    refine .view (fun c k => c < els.length * sz ∧ Ts c k) hb hf hsz hl hm h0' (fun i cs hi => hrow cs (List.mem_of_getElem? hi)) (fun i cs j d hi hj => ?_) (fun c hc => hS b rfl ((g4 b).2 ⟨c, by rw [hfl]; exact hc.1, hc.2⟩)) (fun c c' k h1 h2 => g3 c c' k h1.2 h2.2) (fun k => ?_)
    · have hi1 := (List.getElem?_eq_some_iff.1 hi).1
      have hj1 := (List.getElem?_eq_some_iff.1 hj).1
      rw [hrow cs (List.mem_of_getElem? hi)] at hj1
      have hlt := row_lt hi1 hj1
      have hx := hel i _ j (DV.val ((V[i * sz + j]?).getD undef)) (rowsV_get hi1) (by simp [hj1])
      have hfg := flat_get hrow hi hj
      have hv := List.getElem?_eq_getElem (show i * sz + j < V.length by omega)
      have := g2 _ _ _ hfg hv
      rw [hv, Option.getD_some] at hx
      generalize vs.getD (i * sz + j) undef = u at hx
      cases hx
      exact this.congr fun k => by simp [hlt]
    · rw [g4 k, hfl]
      constructor
      · rintro (h | ⟨c, hc, hk⟩)
        · simp only [Option.some.injEq] at h; exact .inl h.symm
        · exact .inr ⟨c, hc, hc, hk⟩
      · rintro (rfl | ⟨c, hc, _, hk⟩)
        · exact .inl rfl
        · exact .inr ⟨c, hc, hk⟩
end Go.Proofs.Ytkfpoagjlaldgaa

set_option linter.all false
set_option maxRecDepth 20000
namespace Go.Proofs.Ytkfpoagjlaldgaa
open Go.RowKit

section
variable {P : Program} [PT P] {s : ASt} {dst : Option Nat} {ty : Nat} {pos : String} {af : Array Edge} {gd : Option (Nat × Bool)} {x y : Operand} {f t : Nat}
theorem h_make {e n bt sz k : Nat} {zs : List ZK} {te : TS} {I : Int} (ht : PT.ty P t = some ⟨.slice e, n, bt, zs⟩) (he : PT.ty P e = some te) (hs : te.size = sz) (hz0 : te.zero.length = te.size) (h0 : Nat.beq sz 0 = false)
    (hx : s.ev x = aI I) (hy : s.ev y = aI I) (hI : I = (k : Int)) (hbytes : te.bytes * k ≤ 281474976710656) (hk : k ≤ 9223372036854775807) :
    NOp P [] s ⟨dst, .makeSlice t x y, ty, pos, af, gd⟩ f ⟨.own f k, [(f, some (.arr e sz (List.replicate k (te.zero.map fun z => DV.val z.val))))]⟩ := by
  refine NOp.value fun s' ha C U U' a w m hR hU hU' hd => ?_
  have hne : sz ≠ 0 := Nat.ne_of_beq_eq_false h0
  obtain ⟨i, d, z, hi, hd', hkd, h1, h2, h3, h4⟩ := PT.facts he
  have hvx := hR.ev x
  rw [ha.2.1 x (by simp [Op.operands]), hx] at hvx
  obtain ⟨ex, _⟩ := hvx.val_eq
  have hvy := hR.ev y
  rw [ha.2.1 y (by simp [Op.operands]), hy] at hvy
  obtain ⟨ey, _⟩ := hvy.val_eq
  subst hI
  have hb' : (i.bytes : Int) * (k : Int) ≤ 281474976710656 := by
    rw [h2]
    have : ((te.bytes * k : Nat) : Int) ≤ 281474976710656 := by omega
    rwa [Int.natCast_mul] at this
  have hrun := run_make (P := P) w t e i z (PT.slice ht) hi h3 .i64 .i64 (k : Int) (k : Int) (by omega) (Int.le_refl _) hb' (by omega)
  simp only [Int.toNat_natCast] at hrun
  have hzc : z.cells.size = sz := by rw [h4]; simp [hz0, hs]
  have hXs : (madeCells z.cells (k * i.size)).size = k * sz := by rw [size_madeCells, h1, hs]
  refine ⟨_, _, _, ?_, hR.newArr (n := k) (cap := k) (els := List.replicate k (te.zero.map fun z => DV.val z.val)) (vs := madeCells z.cells (k * i.size)) (fz := (0, 0)) (e := e) (sz := sz) hd (by simpa using hU 0 (by omega)) (fun j hj => by have := hU' j hj; exact ⟨this.1, by omega⟩) (by simp) hXs (by simp) (by simp only [maxLen]; omega) (by omega) (fun i' cs hc => ?_) (fun i' cs j dd hc hdd => ?_)⟩
  · simp only [execOp, Sem.run_bind, ex, ey, hrun]
    rfl
  · obtain ⟨h5, h6⟩ := List.getElem?_eq_some_iff.1 hc
    rw [List.getElem_replicate] at h6
    rw [← h6, List.length_map, hz0, hs]
  · obtain ⟨h5, h6⟩ := List.getElem?_eq_some_iff.1 hc
    rw [List.getElem_replicate] at h6
    rw [List.length_replicate] at h5
    subst h6
    rw [List.getElem?_map, Option.map_eq_some_iff] at hdd
    obtain ⟨zk, hzk, rfl⟩ := hdd
    have hj : j < sz := by have := (List.getElem?_eq_some_iff.1 hzk).1; omega
    have hin : i' * sz + j < k * i.size := by
      rw [h1, hs]
      have : (i' + 1) * sz ≤ k * sz := Nat.mul_le_mul_right _ h5
      rw [Nat.succ_mul] at this; omega
    have hmod : (i' * sz + j) % sz = j := by rw [Nat.mul_comm, Nat.mul_add_mod, Nat.mod_eq_of_lt hj]
    have hval : (madeCells z.cells (k * i.size)).getD (i' * sz + j) undef = zk.val := by
      unfold madeCells
      rw [Array.getD_eq_getD_getElem?, Array.getElem?_map, Array.getElem?_range, if_pos hin]
      show z.cells[(i' * sz + j) % z.cells.size]! = zk.val
      rw [hzc, hmod, h4]
      rw [getElem!_def]
      simp [hzk]
    rw [hval]
    exact .val zk.ok
end
end Go.Proofs.Ytkfpoagjlaldgaa

set_option linter.all false
set_option maxRecDepth 20000
namespace Go.Proofs.Ytkfpoagjlaldgaa
open Go.RowKit

/-- What the caller's own reads as, to one who may only read. -/
inductive BL1 (ids : List Nat) (s : ASt) : DV → AV → Prop
  | d {x : DV} : BL1 ids s x (.d x)
  | nil {e sz : Nat} : BL1 ids s (.view e sz []) (.d (.val (.slice none 0 0)))
  | own {id n e sz : Nat} {els els' : List (List DV)} : ids.contains id = true → s.chunk id = some (.arr e sz els) → n ≤ els.length → els.take n = els' → BL1 ids s (.view e sz els') (.own id n)
  | pred {id : Nat} {x : DV} {v : Value} {S : Nat → Prop} {K : World → Prop} : ids.contains id = true → s.chunk id = some (.pred S K) → (∀ w, K w → DRep S w x v) → BL1 ids s x (.d (.val v))
  | rows {id id2 n e sz : Nat} {els rws : List (List DV)} {S : Nat → Prop} {K : World → Prop} : ids.contains id = true → ids.contains id2 = true → s.chunk id = some (.arr e sz rws) → s.chunk id2 = some (.pred S K) → rws.length = n → els.length = n → (∀ (i : Nat) cs, els[i]? = some cs → cs.length = sz) →
      (∀ w, K w → ∀ (i j : Nat) cs d, els[i]? = some cs → cs[j]? = some d → ∃ ds u, rws[i]? = some ds ∧ ds[j]? = some (.val u) ∧ DRep S w d u) → BL1 ids s (.view e sz els) (.own id n)
inductive BLs (ids : List Nat) (s : ASt) : List DV → List AV → Prop
  | nil : BLs ids s [] []
  | cons {d : DV} {c : AV} {ds : List DV} {cs : List AV} : BL1 ids s d c → BLs ids s ds cs → BLs ids s (d :: ds) (c :: cs)
inductive BP (ids : List Nat) (s : ASt) : DV → AV → Prop
  | of {x : DV} {y : AV} : BL1 ids s x y → BP ids s x y
  | ptr {id t : Nat} {cs : List AV} {ds : List DV} : ids.contains id = true → s.chunk id = some (.cells t cs) → BLs ids s ds cs → BP ids s (.ref ds) (.ptr id 0)
inductive BPs (ids : List Nat) (s : ASt) : List DV → List AV → Prop
  | nil : BPs ids s [] []
  | cons {d : DV} {c : AV} {ds : List DV} {cs : List AV} : BP ids s d c → BPs ids s ds cs → BPs ids s (d :: ds) (c :: cs)
theorem BPs.get {ids : List Nat} {s : ASt} {ds : List DV} {cs : List AV} (h : BPs ids s ds cs) : ds.length = cs.length ∧ ∀ (i : Nat) c, cs[i]? = some c → ∃ d, ds[i]? = some d ∧ BP ids s d c := by
  induction h with
  | nil => exact ⟨rfl, fun i c h => by simp at h⟩
  | cons h _ ih =>
    refine ⟨by simp [ih.1], fun i c hc => ?_⟩
    cases i with
    | zero => simp at hc; subst hc; exact ⟨_, rfl, h⟩
    | succ i => simpa using ih.2 i c (by simpa using hc)
inductive BL (ids : List Nat) (s : ASt) : AV → AV → Prop
  | cloB {f : FuncId} {ds : List DV} {cs : List AV} : BPs ids s ds cs → BL ids s (.clo f (ds.map .d)) (.clo f cs)
  | of {x : DV} {y : AV} : BL1 ids s x y → BL ids s (.d x) y
  | clo {f : FuncId} {ds : List DV} : BL ids s (.clo f (ds.map .d)) (.clo f (ds.map .d))
  | agg {ds : List DV} : BL ids s (.agg (ds.map .d)) (.agg (ds.map .d))
  | ptr {id t : Nat} {cs : List AV} {ds : List DV} : ids.contains id = true → s.chunk id = some (.cells t cs) → BLs ids s ds cs → BL ids s (.d (.ref ds)) (.ptr id 0)
  | aggs {cs : List AV} {ds : List DV} : BLs ids s ds cs → BL ids s (.agg (ds.map .d)) (.agg cs)
inductive BAs (ids : List Nat) (s : ASt) : List AV → List AV → Prop
  | nil : BAs ids s [] []
  | cons {x y : AV} {xs ys : List AV} : BL ids s x y → BAs ids s xs ys → BAs ids s (x :: xs) (y :: ys)
theorem BLs.get {ids : List Nat} {s : ASt} {ds : List DV} {cs : List AV} (h : BLs ids s ds cs) : ds.length = cs.length ∧ ∀ (i : Nat) d, ds[i]? = some d → ∃ c, cs[i]? = some c ∧ BL1 ids s d c := by
  induction h with
  | nil => exact ⟨rfl, fun i d h => by simp at h⟩
  | cons h _ ih =>
    refine ⟨by simp [ih.1], fun i d hd => ?_⟩
    cases i with
    | zero => simp at hd; subst hd; exact ⟨_, rfl, h⟩
    | succ i => simpa using ih.2 i d (by simpa using hd)
theorem BAs.get {ids : List Nat} {s : ASt} {xs ys : List AV} (h : BAs ids s xs ys) : xs.length = ys.length ∧ ∀ (i : Nat) x, xs[i]? = some x → ∃ y, ys[i]? = some y ∧ BL ids s x y := by
  induction h with
  | nil => exact ⟨rfl, fun i d h => by simp at h⟩
  | cons h _ ih =>
    refine ⟨by simp [ih.1], fun i d hd => ?_⟩
    cases i with
    | zero => simp at hd; subst hd; exact ⟨_, rfl, h⟩
    | succ i => simpa using ih.2 i d (by simpa using hd)
mutual
/-- A reading without any block behind it. -/
def AV.flat : AV → Bool
  | .d (.val _) => true
  | .tup cs => AV.flatL cs
  | .agg cs => AV.flatL cs
  | _ => false
def AV.flatL : List AV → Bool
  | [] => true
  | c :: cs => c.flat && AV.flatL cs
end
theorem AV.flatL_get : ∀ {cs : List AV}, AV.flatL cs = true → ∀ (i : Nat) c, cs[i]? = some c → c.flat = true
  | [], _, i, c, h => by simp at h
  | c :: cs, hf, i, c', h => by
    simp only [AV.flatL, Bool.and_eq_true] at hf
    cases i with
    | zero => simp at h; subst h; exact hf.1
    | succ i => exact AV.flatL_get hf.2 i c' (by simpa using h)
theorem ARep.flat {m m' : Nat → Option (Option Nat × Nat)} {F F' : Nat → Prop} {w w' : World} {x : AV} {v : Value} (h : ARep m F w x v) : x.flat = true → ARep m' F' w' x v := by
  induction h with
  | d h => intro hf; rename_i x v; cases x with
    | val u => exact .d (h.flat trivial)
    | _ => simp [AV.flat] at hf
  | agg h1 _ h3 ih => intro hf; exact .agg h1 (fun i c hc => ih i c hc (AV.flatL_get (by simpa [AV.flat] using hf) i c hc)) h3
  | tup h1 _ ih => intro hf; exact .tup h1 (fun i c hc => ih i c hc (AV.flatL_get (by simpa [AV.flat] using hf) i c hc))
  | _ => intro hf; simp [AV.flat] at hf
section
variable {P : Program} [PT P]
variable {s : ASt} {dst : Option Nat} {ty : Nat} {pos : String} {af : Array Edge} {gd : Option (Nat × Bool)} {f : Nat}
theorem BL1.rep {C : Ctx} {U : Nat → Prop} {ids : List Nat} {s' : ASt} {a : Act} {w : World} {m : Nat → Option (Option Nat × Nat)} (hR : RelM C U s' a w m) (hch : ∀ id, id ∈ ids → s'.chunk id = s.chunk id) {F : Nat → Prop} (hF : ∀ k, k < w.heap.size → F k) {x : DV} {y : AV} {v : Value} (h : BL1 ids s x y) (hy : ARep m (Fz C m s' w) w y v) : DRep F w x v := by
  have hFz : ∀ q, Fz C m s' w q → F q := fun q hq => hF q hq.2.1
  cases h with
  | d => cases hy with | d h => exact h.mono hFz
  | nil => cases hy with | d h => cases h; exact .nil
  | @own id n e sz els els' hid hc hn he =>
    subst he
    have hc' : s'.chunk id = some (.arr e sz els) := by rw [hch id (by simpa using hid)]; exact hc
    obtain ⟨p, hp, hr, _⟩ := hR.ch id _ hc'
    exact own_view hy hp hr hn hFz (fun b hb => hF b (hr.lt (.inl hb)))
  | @pred id _ u S K hid hc hK =>
    have hc' : s'.chunk id = some (.pred S K) := by rw [hch id (by simpa using hid)]; exact hc
    obtain ⟨p, hp, hr, _⟩ := hR.ch id _ hc'
    have hv : v = u := by cases hy with | d h => cases h; rfl
    subst hv
    cases hr with
    | pred h1 h2 h3 => exact (hK w h1).mono fun k hk => hF k (h3 k hk)
  | @rows id id2 n e sz els rws S K hid hid2 hc hc2 hn hl hrow hK =>
    have hc' : s'.chunk id = some (.arr e sz rws) := by rw [hch id (by simpa using hid)]; exact hc
    have hc2' : s'.chunk id2 = some (.pred S K) := by rw [hch id2 (by simpa using hid2)]; exact hc2
    obtain ⟨p, hp, hr, _⟩ := hR.ch id _ hc'
    obtain ⟨p2, _, hr2, _⟩ := hR.ch id2 _ hc2'
    cases hr2 with
    | pred k1 k2 k3 =>
      cases hy with
      | own hp' h0 =>
        rename_i cap b
        rw [hp] at hp'
        simp only [Option.some.injEq] at hp'
        subst hp'
        cases hr with
        | nil h =>
          obtain rfl : n = 0 := by simpa using hn.symm
          obtain rfl : els = [] := List.length_eq_zero_iff.1 hl
          exact .nil
        | @arr b _ _ _ _ arr fz hb hf hsz hl' hm h0' hrow' hel =>
          have := DRep.view (F := F) (w := w) (e := e) (sz := sz) (els := els) (off := 0) (cap := cap) (hF b (lt_of_block hb)) hb (by omega) hm (by omega) hrow (fun i cs j d hi hj => by
            obtain ⟨ds, u, g1, g2, g3⟩ := hK w k1 i j cs d hi hj
            have hq := hel i ds j _ g1 g2
            rw [Nat.zero_add]
            generalize arr.getD (i * sz + j) undef = q at hq ⊢
            cases hq with
            | val _ => exact g3.mono fun k hk => hF k (k3 k hk))
          rw [hl] at this
          exact this
theorem BP.rep {C : Ctx} {U : Nat → Prop} {ids : List Nat} {s' : ASt} {a : Act} {w : World} {m : Nat → Option (Option Nat × Nat)} (hR : RelM C U s' a w m) (hch : ∀ id, id ∈ ids → s'.chunk id = s.chunk id) {F : Nat → Prop} (hF : ∀ k, k < w.heap.size → F k) {x : DV} {y : AV} {v : Value} (h : BP ids s x y) (hy : ARep m (Fz C m s' w) w y v) : DRep F w x v := by
  have hFz : ∀ q, Fz C m s' w q → F q := fun q hq => hF q hq.2.1
  cases h with
  | of h => exact h.rep hR hch hF hy
  | ptr hid hc hcs =>
    rename_i id t cs ds
    have hc' : s'.chunk id = some (.cells t cs) := by rw [hch id (by simpa using hid)]; exact hc
    cases hy with
    | ptr hp =>
      obtain ⟨hl, hg⟩ := hcs.get
      cases hR.chunkAt hc' hp with
      | cells hb hs hv h1 =>
        refine .ref (hF _ (lt_of_block hb)) hb (by omega) (fun j d hd => ?_)
        obtain ⟨c, hc, hdc⟩ := hg j d hd
        rw [Nat.zero_add]
        exact hdc.rep hR hch hF (hv j c hc)
theorem BL.rep {C : Ctx} {U : Nat → Prop} {ids : List Nat} {s' : ASt} {a : Act} {w : World} {m m0 : Nat → Option (Option Nat × Nat)} (hR : RelM C U s' a w m) (hch : ∀ id, id ∈ ids → s'.chunk id = s.chunk id) {F : Nat → Prop} (hF : ∀ k, k < w.heap.size → F k) {x y : AV} {v : Value} (h : BL ids s x y) (hy : ARep m (Fz C m s' w) w y v) : ARep m0 F w x v := by
  have hFz : ∀ q, Fz C m s' w q → F q := fun q hq => hF q hq.2.1
  have hds : ∀ (ds : List DV) (i : Nat) c v, (ds.map AV.d)[i]? = some c → ARep m (Fz C m s' w) w c v → ARep m0 F w c v := by
    intro ds i c v hc hv
    rw [List.getElem?_map, Option.map_eq_some_iff] at hc
    obtain ⟨d, _, rfl⟩ := hc
    cases hv with | d h => exact .d (h.mono hFz)
  cases h with
  | cloB hcs =>
    obtain ⟨hl, hg⟩ := hcs.get
    cases hy with
    | clo h1 h2 =>
      refine .clo (by rw [h1, List.length_map, hl]) (fun i c hc => ?_)
      rw [List.getElem?_map, Option.map_eq_some_iff] at hc
      obtain ⟨d, hd, rfl⟩ := hc
      have hi : i < _ := (List.getElem?_eq_some_iff.1 hd).1
      obtain ⟨d', hd', hb⟩ := hg i _ (List.getElem?_eq_getElem (by omega))
      rw [hd] at hd'
      cases hd'
      exact .d (hb.rep hR hch hF (h2 i _ (List.getElem?_eq_getElem (by omega))))
  | of h => exact .d (h.rep hR hch hF hy)
  | clo => cases hy with | clo h1 h2 => exact .clo h1 (fun i c hc => hds _ i c _ hc (h2 i c hc))
  | agg => cases hy with | agg h1 h2 h3 => exact .agg h1 (fun i c hc => hds _ i c _ hc (h2 i c hc)) h3
  | aggs hcs =>
    obtain ⟨hl, hg⟩ := hcs.get
    cases hy with
    | agg h1 h2 h3 =>
      refine .agg (by rw [h1, List.length_map, hl]) (fun i c hc => ?_) h3
      rw [List.getElem?_map, Option.map_eq_some_iff] at hc
      obtain ⟨d, hd, rfl⟩ := hc
      obtain ⟨c', hc', hdc⟩ := hg i d hd
      exact .d (hdc.rep hR hch hF (h2 i c' hc'))
  | ptr hid hc hcs =>
    rename_i id t cs ds
    have hc' : s'.chunk id = some (.cells t cs) := by rw [hch id (by simpa using hid)]; exact hc
    cases hy with
    | ptr hp =>
      obtain ⟨hl, hg⟩ := hcs.get
      cases hR.chunkAt hc' hp with
      | cells hb hs hv h1 =>
        refine .d (.ref (hF _ (lt_of_block hb)) hb (by omega) (fun j d hd => ?_))
        obtain ⟨c, hc, hdc⟩ := hg j d hd
        rw [Nat.zero_add]
        exact hdc.rep hR hch hF (hv j c hc)
/-- A call of a function that only reads: the caller's own blocks are lent to it. -/
theorem h_borrow (ids : List Nat) {g : FuncId} {caps ys ars : List AV} {fx : Operand} {xs : Array Operand} {ats : Array TypeId} {r : AV} (hen : Enters P g) (hf : s.ev fx = .clo g caps) (hys : xs.toList.map s.ev ++ caps = ys)
    (hspec : ASpec P g ars [] (Pure1 r)) (hlead : BAs ids s ars ys) (hr : r.flat = true) :
    NOp P ids s ⟨dst, .call { callee := .value fx, args := xs, argTypes := ats }, ty, pos, af, gd⟩ f ⟨r, []⟩ := by
  refine ⟨fun s' ha C U U' a w m hR hU hU' hd K Q hK => ?_⟩
  have hfx := hR.ev fx
  rw [ha.2.1 fx (by simp [Op.operands, Call.operands]), hf] at hfx
  generalize hfv : a.eval fx = fv at hfx
  cases hfx with
  | clo hc1 hc2 =>
    rename_i cv
    have hrun : (execOp a.eval ⟨dst, .call { callee := .value fx, args := xs, argTypes := ats }, ty, pos, af, gd⟩).run P w = .ok (.enter g (xs.map a.eval ++ cv)) w := by
      simp [execOp, resolve, hfv, Deferred.ofValue, invoke, hen (xs.map a.eval ++ cv) w]
    obtain ⟨hl1, hl2⟩ := hlead.get
    have harg : ∀ (i : Nat) y, ys[i]? = some y → ARep m (Fz C m s' w) w y ((xs.map a.eval ++ cv).getD i undef) := by
      intro i y hy
      rw [← hys] at hy
      by_cases hi : i < xs.size
      · rw [List.getElem?_append_left (by simpa using hi), List.getElem?_map, Option.map_eq_some_iff] at hy
        obtain ⟨x, hx, rfl⟩ := hy
        have hx' : xs[i]? = some x := by simpa using hx
        have := hR.ev x
        rw [ha.2.1 x (by simp only [Op.operands, Call.operands, Array.mem_append]; exact .inr (Array.mem_of_getElem? hx'))] at this
        have e : (xs.map a.eval ++ cv).getD i undef = a.eval x := by
          have hxi : xs[i] = x := (Array.getElem?_eq_some_iff.1 hx').2
          simp [Array.getD_eq_getD_getElem?, Array.getElem?_append, hi, hxi]
        rw [e]; exact this
      · rw [List.getElem?_append_right (by simpa using Nat.le_of_not_lt hi)] at hy
        have := hc2 _ y hy
        have e : (xs.map a.eval ++ cv).getD i undef = cv.getD (i - xs.size) undef := by
          simp [Array.getD_eq_getD_getElem?, Array.getElem?_append, hi]
        rw [e]; simpa using this
    have hcall := hspec w (fun _ => none) (fun k => k < w.heap.size) (xs.map a.eval ++ cv) (fun k hk => ⟨hk, fun id c p hc => by simp [getL] at hc⟩) ?_ ?_ (fun id c hc => by simp [getL] at hc) (fun id id' c c' p p' b hc => by simp [getL] at hc) (fun id _ => rfl)
    · unfold Oper.wp
      rw [hrun]
      simp only [Oper.upon]
      refine Calls.mono hcall ?_
      rintro e w' ⟨v, r', chs', m1, F1, rfl, ⟨rfl, rfl⟩, -, -, -, ⟨f1, f2, f3, f4, f5⟩, hv, -, -⟩
      have hold : ∀ k, k < w.heap.size → w'.heap[k]? = w.heap[k]? := fun k hk => f5 k hk (fun id c p hc => by simp [getL] at hc)
      refine hK _ _ m (hR.step hd (MLe.refl m) (fun j hj => hR.un j (hU' j hj).1) ?_ f4 (fun k hk => ⟨fun id c p hc => by simp [getL] at hc, hold k hk.2.1⟩) (fun id c p b h0 h1 h2 h3 => ?_) (fun F' hF hF2 => ⟨hv.flat hr, fun id c hc => by simp [getL] at hc⟩) (fun id id' c c' p p' b hc => by simp [getL] at hc))
      · refine ⟨f1.trans hR.fr.os, f2.trans hR.fr.tape, f3.trans hR.fr.output, Nat.le_trans hR.fr.size f4, fun k hk hn => ?_⟩
        rw [hold k (Nat.lt_of_lt_of_le hk hR.fr.size)]
        exact hR.fr.block k hk hn
      · refine hold b ?_
        obtain ⟨q, hq, hr', _⟩ := hR.ch id c h1
        rw [h2] at hq
        obtain rfl : p = q := by simpa using hq
        exact hr'.lt h3
    · have : ys.length = xs.size + caps.length := by rw [← hys]; simp
      simp only [Array.size_append, Array.size_map]
      omega
    · intro i x hx
      obtain ⟨y, hy, hxy⟩ := hl2 i x hx
      exact hxy.rep hR ha.2.2 (fun k hk => hk) (harg i y hy)
/-- A box of the call's own that holds plain data, given up to all. -/
theorem Weak.freezeRef {C : Ctx} (i : Nat) {id t : Nat} {ds : List DV} (hs : s.get i = .ptr id 0) (hc : s.chunk id = some (.cells t (ds.map .d))) : Weak C s { s with sl := (i, .d (.ref ds)) :: s.sl, ch := (id, none) :: s.ch } := by
  refine ⟨?_⟩
  rintro a w ⟨m, hR⟩
  have hch : ∀ j c, (getL j ((id, none) :: s.ch)).getD none = some c → j ≠ id ∧ s.chunk j = some c := by
    intro j c h
    rw [getL_cons] at h
    split at h
    · simp at h
    · rename_i e; exact ⟨e, h⟩
  have hF : ∀ q, Fz C m s w q → Fz C m { s with sl := (i, .d (.ref ds)) :: s.sl, ch := (id, none) :: s.ch } w q := fun q hq => ⟨hq.1, hq.2.1, fun j c p h1 h2 => hq.2.2 j c p (hch j c h1).2 h2⟩
  refine ⟨m, hR.fr, hR.fin, hR.sz, fun j => ?_, fun j c h1 => ?_, fun j j' c c' p p' h1 h2 hp hp' b hb hb' => hR.inj j j' c c' p p' (hch j c h1).2 (hch j' c' h2).2 hp hp' b hb hb', hR.un, hR.defers, hR.m0, hR.m0k⟩
  · show ARep _ _ _ ((getL j ((i, .d (.ref ds)) :: s.sl)).getD .dead) _
    rw [getL_cons]
    by_cases hj : j = i
    · subst hj
      rw [if_pos rfl]
      have hv := hR.sl j
      rw [hs] at hv
      generalize a.tmps.getD j undef = v at hv
      simp only [Option.getD_some]
      cases hv with
      | ptr hp =>
        rename_i b cap
        have hC := hR.chunkAt hc hp
        cases hC with
        | cells hb hsz hv h1 =>
          obtain ⟨q, hq, hr, hloc⟩ := hR.ch id _ hc
          rw [hp] at hq
          obtain rfl : (some b, cap) = q := by simpa using hq
          have hFb : Fz C m { s with sl := (j, .d (.ref ds)) :: s.sl, ch := (id, none) :: s.ch } w b := by
            refine ⟨.inr (hloc b (.inl rfl)), lt_of_block hb, fun j' c p h1 h2 h3 => ?_⟩
            obtain ⟨hne, h4⟩ := hch j' c h1
            exact hne (hR.inj j' id c _ p _ h4 hc h2 hp b h3 (.inl rfl))
          refine .d (.ref hFb hb (by simp at hsz; omega) (fun k d hd => ?_))
          have := hv k (.d d) (by simp [hd])
          rw [Nat.zero_add]
          cases this with | d h => exact h.mono hF
    · rw [if_neg hj]
      exact (hR.sl j).turn (MLe.refl m) (fun k hk _ => ⟨hF k hk, rfl⟩)
  · obtain ⟨_, h2⟩ := hch j c h1
    obtain ⟨p, hp, hr, hl⟩ := hR.ch j c h2
    exact ⟨p, hp, hr.turn (MLe.refl m) (fun k hk _ => ⟨hF k hk, rfl⟩) (fun _ _ => rfl), hl⟩
theorem RelM.freeze {C : Ctx} {U : Nat → Prop} {a : Act} {w : World} {m : Nat → Option (Option Nat × Nat)} (hR : RelM C U s a w m) {i id n e sz : Nat} {els els' : List (List DV)} (hs : s.get i = .own id n) (hc : s.chunk id = some (.arr e sz els)) (hn : n ≤ els.length) (he : els.take n = els') : RelM C U { s with sl := (i, .d (.view e sz els')) :: s.sl, ch := (id, none) :: s.ch } a w m := by
  subst he
  have hch : ∀ j c, (getL j ((id, none) :: s.ch)).getD none = some c → j ≠ id ∧ s.chunk j = some c := by
    intro j c h
    rw [getL_cons] at h
    split at h
    · simp at h
    · rename_i e; exact ⟨e, h⟩
  have hF : ∀ q, Fz C m s w q → Fz C m { s with sl := (i, .d (.view e sz (els.take n))) :: s.sl, ch := (id, none) :: s.ch } w q := fun q hq => ⟨hq.1, hq.2.1, fun j c p h1 h2 => hq.2.2 j c p (hch j c h1).2 h2⟩
  refine ⟨hR.fr, hR.fin, hR.sz, fun j => ?_, fun j c h1 => ?_, fun j j' c c' p p' h1 h2 hp hp' b hb hb' => hR.inj j j' c c' p p' (hch j c h1).2 (hch j' c' h2).2 hp hp' b hb hb', hR.un, hR.defers, hR.m0, hR.m0k⟩
  · show ARep _ _ _ ((getL j ((i, .d (.view e sz (els.take n))) :: s.sl)).getD .dead) _
    rw [getL_cons]
    by_cases hj : j = i
    · subst hj
      rw [if_pos rfl]
      have hv := hR.sl j
      rw [hs] at hv
      generalize a.tmps.getD j undef = v at hv
      simp only [Option.getD_some]
      cases hv with
      | own hp h0 =>
        rename_i cap b
        have hC := hR.chunkAt hc hp
        cases hC with
        | nil h =>
          have : n = 0 := by simpa using hn
          subst this
          exact .d .nil
        | arr hb hf hsz hl hm h0' hrow hel =>
          rename_i b arr fz
          have hlen : (els.take n).length = n := by simp; omega
          have hsub : ∀ (i : Nat) cs, (els.take n)[i]? = some cs → els[i]? = some cs := by
            intro i cs hi
            rw [List.getElem?_take] at hi
            split at hi
            · exact hi
            · cases hi
          obtain ⟨q, hq, hr, hloc⟩ := hR.ch id _ hc
          rw [hp] at hq
          obtain rfl : (some b, cap) = q := by simpa using hq
          have hFb : Fz C m { s with sl := (j, .d (.view e sz (els.take n))) :: s.sl, ch := (id, none) :: s.ch } w b := by
            refine ⟨.inr (hloc b (.inl rfl)), lt_of_block hb, fun j' c p h1 h2 h3 => ?_⟩
            obtain ⟨hne, h4⟩ := hch j' c h1
            exact hne (hR.inj j' id c _ p _ h4 hc h2 hp b h3 (.inl rfl))
          have := DRep.view (F := Fz C m { s with sl := (j, .d (.view e sz (els.take n))) :: s.sl, ch := (id, none) :: s.ch } w) (e := e) (sz := sz) (els := els.take n) (off := 0) (cap := cap) hFb hb (by omega) hm (by omega) (fun i cs hi => hrow i cs (hsub i cs hi)) (fun i cs j d hi hj => by rw [Nat.zero_add]; exact (hel i cs j d (hsub i cs hi) hj).mono hF)
          rw [hlen] at this
          exact .d this
    · rw [if_neg hj]
      exact (hR.sl j).turn (MLe.refl m) (fun k hk _ => ⟨hF k hk, rfl⟩)
  · obtain ⟨_, h2⟩ := hch j c h1
    obtain ⟨p, hp, hr, hl⟩ := hR.ch j c h2
    exact ⟨p, hp, hr.turn (MLe.refl m) (fun k hk _ => ⟨hF k hk, rfl⟩) (fun _ _ => rfl), hl⟩

end
end Go.Proofs.Ytkfpoagjlaldgaa

set_option linter.all false
set_option maxRecDepth 20000
namespace Go.Proofs.Ytkfpoagjlaldgaa
open Go.RowKit

mutual
/-- A reading that no one else's block stands behind. -/
def AV.solid : AV → Bool
  | .dead => true
  | .und => true
  | .d (.val _) => true
  | .own _ _ => true
  | .ptr _ _ => true
  | .tup cs => AV.solidL cs
  | .agg cs => AV.solidL cs
  | _ => false
def AV.solidL : List AV → Bool
  | [] => true
  | c :: cs => c.solid && AV.solidL cs
end
theorem AV.solidL_get : ∀ {cs : List AV}, AV.solidL cs = true → ∀ (i : Nat) c, cs[i]? = some c → c.solid = true
  | [], _, i, c, h => by simp at h
  | c :: cs, hf, i, c', h => by
    simp only [AV.solidL, Bool.and_eq_true] at hf
    cases i with
    | zero => simp at h; subst h; exact hf.1
    | succ i => exact AV.solidL_get hf.2 i c' (by simpa using h)
/-- .. nor behind a block. -/
def Chunk.solid : Chunk → Prop
  | .cells _ cs => AV.solidL cs = true
  | .arr _ _ els => ∀ cs, cs ∈ els → ∀ d, d ∈ cs → d.flat
  | _ => True
theorem ARep.solid {m : Nat → Option (Option Nat × Nat)} {F F' : Nat → Prop} {w : World} {x : AV} {v : Value} (h : ARep m F w x v) : x.solid = true → ARep m F' w x v := by
  induction h with
  | dead => intro _; exact .dead
  | und => intro _; exact .und
  | own h h0 => intro _; exact .own h h0
  | ptr h => intro _; exact .ptr h
  | d h => intro hf; rename_i x v; cases x with
    | val u => exact .d (h.flat trivial)
    | _ => simp [AV.solid] at hf
  | agg h1 _ h3 ih => intro hf; exact .agg h1 (fun i c hc => ih i c hc (AV.solidL_get (by simpa [AV.solid] using hf) i c hc)) h3
  | tup h1 _ ih => intro hf; exact .tup h1 (fun i c hc => ih i c hc (AV.solidL_get (by simpa [AV.solid] using hf) i c hc))
  | _ => intro hf; simp [AV.solid] at hf
theorem CRep.solid {m : Nat → Option (Option Nat × Nat)} {F F' : Nat → Prop} {w : World} {p : Option Nat × Nat} {c : Chunk} (h : CRep m F w p c) (hs : c.solid) : CRep m F' w p c := by
  cases h with
  | cells h1 h2 h3 h4 => exact .cells h1 h2 (fun i c hc => (h3 i c hc).solid (AV.solidL_get hs i c hc)) h4
  | arr h1 h2 h3 h4 h5 h6 h7 h8 => exact .arr h1 h2 h3 h4 h5 h6 h7 (fun i cs j d hi hj => (h8 i cs j d hi hj).flat (hs cs (List.mem_of_getElem? hi) d (List.mem_of_getElem? hj)))
  | nil h => exact .nil h
  | iter h => exact .iter h
  | map h => exact .map h
  | obj h => exact .obj h
  | pred h1 h2 h3 => exact .pred h1 h2 h3
  | lock h => exact .lock h

section
variable {P : Program} [PT P]
variable {s : ASt} {dst : Option Nat} {ty : Nat} {pos : String} {af : Array Edge} {gd : Option (Nat × Bool)} {f : Nat}
theorem h_borrowN (ids : List Nat) {g : FuncId} {caps ys ars : List AV} {fx : Operand} {xs : Array Operand} {ats : Array TypeId} {R : AV → List (Nat × Chunk) → Prop} (hen : Enters P g) (hf : s.ev fx = .clo g caps) (hys : xs.toList.map s.ev ++ caps = ys)
    (hspec : ASpec P g ars [] R) (hlead : BAs ids s ars ys) (hr : ∀ r chs, R r chs → r.solid = true ∧ ∀ id c, getL id chs = some c → c.solid) :
    NOpR P ids s ⟨dst, .call { callee := .value fx, args := xs, argTypes := ats }, ty, pos, af, gd⟩ f (fun u => ∃ r chs', R r chs' ∧ u = callU [] f r chs') := by
  refine ⟨fun s' ha C U U' a w m hR hU hU' hd K Q hK => ?_⟩
  have hfx := hR.ev fx
  rw [ha.2.1 fx (by simp [Op.operands, Call.operands]), hf] at hfx
  have hblk : ∀ j c p b, s'.chunk j = some c → m j = some p → occ p c b → b < w.heap.size := by
    intro j c p b h1 h2 h3
    obtain ⟨q, hq, hr, _⟩ := hR.ch j c h1
    rw [h2] at hq
    obtain rfl : p = q := by simpa using hq
    exact hr.lt h3
  generalize hfv : a.eval fx = fv at hfx
  cases hfx with
  | clo hc1 hc2 =>
    rename_i cv
    have hrun : (execOp a.eval ⟨dst, .call { callee := .value fx, args := xs, argTypes := ats }, ty, pos, af, gd⟩).run P w = .ok (.enter g (xs.map a.eval ++ cv)) w := by
      simp [execOp, resolve, hfv, Deferred.ofValue, invoke, hen (xs.map a.eval ++ cv) w]
    obtain ⟨hl1, hl2⟩ := hlead.get
    have harg : ∀ (i : Nat) y, ys[i]? = some y → ARep m (Fz C m s' w) w y ((xs.map a.eval ++ cv).getD i undef) := by
      intro i y hy
      rw [← hys] at hy
      by_cases hi : i < xs.size
      · rw [List.getElem?_append_left (by simpa using hi), List.getElem?_map, Option.map_eq_some_iff] at hy
        obtain ⟨x, hx, rfl⟩ := hy
        have hx' : xs[i]? = some x := by simpa using hx
        have := hR.ev x
        rw [ha.2.1 x (by simp only [Op.operands, Call.operands, Array.mem_append]; exact .inr (Array.mem_of_getElem? hx'))] at this
        have e : (xs.map a.eval ++ cv).getD i undef = a.eval x := by
          have hxi : xs[i] = x := (Array.getElem?_eq_some_iff.1 hx').2
          simp [Array.getD_eq_getD_getElem?, Array.getElem?_append, hi, hxi]
        rw [e]; exact this
      · rw [List.getElem?_append_right (by simpa using Nat.le_of_not_lt hi)] at hy
        have := hc2 _ y hy
        have e : (xs.map a.eval ++ cv).getD i undef = cv.getD (i - xs.size) undef := by
          simp [Array.getD_eq_getD_getElem?, Array.getElem?_append, hi]
        rw [e]; simpa using this
    have hcall := hspec w (fun _ => none) (fun k => k < w.heap.size) (xs.map a.eval ++ cv) (fun k hk => ⟨hk, fun id c p hc => by simp [getL] at hc⟩) ?_ ?_ (fun id c hc => by simp [getL] at hc) (fun id id' c c' p p' b hc => by simp [getL] at hc) (fun id _ => rfl)
    · unfold Oper.wp
      rw [hrun]
      simp only [Oper.upon]
      refine Calls.mono hcall ?_
      rintro e w' ⟨v, r, chs', m1, F1, rfl, hRr, -, hn1, hF1, ⟨f1, f2, f3, f4, f5⟩, hv, hc', hi'⟩
      obtain ⟨hrs, hcs⟩ := hr r chs' hRr
      have hold : ∀ k, k < w.heap.size → w'.heap[k]? = w.heap[k]? := fun k hk => f5 k hk (fun id c p hc => by simp [getL] at hc)
      have hmf : ∀ k, k < 8 → m (f + k) = none := fun k hk => hR.un _ (hU k hk)
      let m2 : Nat → Option (Option Nat × Nat) := fun j => if f ≤ j ∧ j < f + 8 then m1 (j - f) else m j
      have htau : ∀ i, tauC [] f i = f + i := fun i => by simp [tauC]
      have hle : MLe m m2 := by
        intro j p hp
        have : ¬ (f ≤ j ∧ j < f + 8) := fun h => by
          have := hmf (j - f) (by omega)
          rw [show f + (j - f) = j by omega, hp] at this
          cases this
        simp [m2, this, hp]
      have hm12 : ∀ id p, m1 id = some p → m2 (tauC [] f id) = some p := by
        intro id p hp
        have h8 : id < 8 := by
          rcases Nat.lt_or_ge id 8 with h | h
          · exact h
          · have := hn1 id (by simpa using h); rw [hp] at this; cases this
        rw [htau]
        have hin : f ≤ f + id ∧ f + id < f + 8 := by omega
        simp only [m2, hin, and_self, if_true]
        rw [show f + id - f = id by omega]
        exact hp
      have hm2 : ∀ i c0, getL i chs' = some c0 → ∀ p, m2 (tauC [] f i) = some p → m1 i = some p := by
        intro i c0 h1 p hp
        obtain ⟨q, hq, _⟩ := hc' i c0 h1
        have := hm12 i q hq
        rw [hp] at this
        rw [hq, this]
      have hgone : ∀ id c, getL id (callU [] f r chs').ch = some (some c) → ∃ i c0, getL i chs' = some c0 ∧ tauC [] f i = id ∧ c = c0.ren (tauC [] f) := by
        intro id c h
        simp only [callU, getL_append, noneC] at h
        cases hm : getL id (mapC [] f chs') with
        | some o =>
          rw [hm] at h
          simp only [Option.some_or, Option.some.injEq] at h
          subst h
          obtain ⟨i, c0, h1, h2, h3⟩ := getL_mapC hm
          exact ⟨i, c0, h1, h2, by simpa using h3⟩
        | none =>
          rw [hm] at h
          simp [getL] at h
      have hnewblk : ∀ i c0 p b, getL i chs' = some c0 → m1 i = some p → occ p c0 b → w.heap.size ≤ b := by
        intro i c0 p b h1 h2 h3
        obtain ⟨q, hq, _, hl⟩ := hc' i c0 h1
        rw [h2] at hq
        obtain rfl : p = q := by simpa using hq
        rcases hl b h3 with h | ⟨id0, c1, p0, g1, _⟩
        · exact h
        · simp [getL] at g1
      refine hK _ ⟨r, chs', hRr, rfl⟩ _ _ m2 (hR.step hd hle (fun j hj => ?_) ?_ f4 (fun k hk => ⟨fun id c p h1 h2 h3 => ?_, hold k hk.2.1⟩) (fun id c p b h0 h1 h2 h3 => hold b (hblk id c p b h1 h2 h3)) (fun F' hF hF2 => ?_) (fun id id' c c' p p' b h1 h2 hp hp' hb hb' => ?_))
      · have := hU' j hj
        have h2 : ¬ (f ≤ j ∧ j < f + 8) := by omega
        simp only [m2, h2, if_false]
        exact hR.un j this.1
      · refine ⟨f1.trans hR.fr.os, f2.trans hR.fr.tape, f3.trans hR.fr.output, Nat.le_trans hR.fr.size f4, fun k hk hn => ?_⟩
        rw [hold k (Nat.lt_of_lt_of_le hk hR.fr.size)]
        exact hR.fr.block k hk hn
      · obtain ⟨i, c0, g1, rfl, rfl⟩ := hgone id c h1
        have := hnewblk i c0 p k g1 (hm2 i c0 g1 p h2) (occ_ren.1 h3)
        have := hk.2.1; omega
      · refine ⟨(hv.solid (F' := fun _ => False) hrs).ren hm12 (fun _ h => h.elim), fun id c h => ?_⟩
        obtain ⟨i, c0, g1, rfl, rfl⟩ := hgone id c h
        obtain ⟨p, q1, q2, q3⟩ := hc' i c0 g1
        refine ⟨p, hm12 i p q1, (q2.solid (F' := fun _ => False) (hcs i c0 g1)).ren hm12 (fun _ h => h.elim), fun b hb => ?_⟩
        exact .inr (Nat.le_trans hR.fr.size (hnewblk i c0 p b g1 q1 (occ_ren.1 hb)))
      · obtain ⟨i, c0, g1, rfl, rfl⟩ := hgone id c h1
        have hp1' := hm2 i c0 g1 p hp
        rw [ASt.chunk_app] at h2
        cases hg : getL id' (callU [] f r chs').ch with
        | some o =>
          rw [hg] at h2
          simp only at h2
          subst h2
          obtain ⟨i', c0', g1', rfl, rfl⟩ := hgone id' c' hg
          have := hi' i i' c0 c0' p p' b g1 g1' hp1' (hm2 i' c0' g1' p' hp') (occ_ren.1 hb) (occ_ren.1 hb')
          rw [this]
        | none =>
          rw [hg] at h2
          simp only at h2
          obtain ⟨q, hq, _⟩ := hR.ch id' c' h2
          have := hle id' q hq
          rw [hp'] at this
          obtain rfl : p' = q := by simpa using this
          have hlt := hblk id' c' p' b h2 hq hb'
          have := hnewblk i c0 p b g1 hp1' (occ_ren.1 hb)
          omega
    · have : ys.length = xs.size + caps.length := by rw [← hys]; simp
      simp only [Array.size_append, Array.size_map]
      omega
    · intro i x hx
      obtain ⟨y, hy, hxy⟩ := hl2 i x hx
      exact hxy.rep hR ha.2.2 (fun k hk => hk) (harg i y hy)
/-- .. where the contract says one result. -/
theorem h_borrowF (ids : List Nat) {g : FuncId} {caps ys ars : List AV} {fx : Operand} {xs : Array Operand} {ats : Array TypeId} {r : AV} {chs' : List (Nat × Chunk)} (hen : Enters P g) (hf : s.ev fx = .clo g caps) (hys : xs.toList.map s.ev ++ caps = ys)
    (hspec : ASpec P g ars [] (Fun1 r chs')) (hlead : BAs ids s ars ys) (hr : r.solid = true) (hc : ∀ id c, getL id chs' = some c → c.solid) :
    NOp P ids s ⟨dst, .call { callee := .value fx, args := xs, argTypes := ats }, ty, pos, af, gd⟩ f (callU [] f r chs') :=
  (h_borrowN ids hen hf hys hspec hlead (fun r' c' h => by obtain ⟨rfl, rfl⟩ := h; exact ⟨hr, hc⟩)).one fun u hu => by
    obtain ⟨r', c', ⟨rfl, rfl⟩, h⟩ := hu; exact h
end
end Go.Proofs.Ytkfpoagjlaldgaa

set_option linter.all false
set_option maxRecDepth 20000
namespace Go.Proofs.Ytkfpoagjlaldgaa
open Go.RowKit

theorem TL.congr {w : World} {S S' : Nat → Prop} {L : List DV} {V : List Value} (h : TL w S L V) (he : ∀ k, S k ↔ S' k) : TL w S' L V := by
  have : S = S' := funext fun k => propext (he k)
  subst this; exact h
section
variable {P : Program} [PT P] {C : Ctx} {Q : Exit → ASt → Prop} {s : ASt} {ops : Array Oper}
theorem WeakR.okI (i : Nat) {k : IntKind} {x : Int} (hs : s.get i = .d (.val (.int k x))) : WeakR C s fun t => okV (.int k x) ∧ t = s := by
  refine ⟨fun a w hR => ?_⟩
  obtain ⟨m, hm⟩ := hR
  have := hm.sl i
  rw [hs] at this
  refine ⟨s, ⟨?_, rfl⟩, m, hm⟩
  generalize a.tmps.getD i undef = u at this
  cases this with | d h => cases h with | val h => exact h
theorem retX (ρ : List (Nat × Nat)) {fn : Func} {k : Nat} {R : AV → List (Nat × Chunk) → Prop} {x r : AV} {chs' : List (Nat × Chunk)} (hx : resAV P s fn.results.toList = some x) (hR : R r chs') (h : r.leads (sig k ρ) x) (hc : leadsC (sig k ρ) s (chL chs')) (ha : apartL (sig k ρ) (keysC (chL chs')) = true) (hρ : ρ.all (fun p => Nat.blt p.1 (k + 8)) = true) : RetQ P fn k R s := by
  obtain ⟨x', r', c', ρ', h1, ⟨rfl, rfl⟩, h3, h4, h5, h6⟩ := (retN ρ hx h hc ha hρ : RetQ P fn k (Fun1 r chs') s).out
  exact ⟨⟨x', _, _, ρ', h1, hR, h3, h4, h5, h6⟩⟩
theorem h_funR {dst : Option Nat} {ty : Nat} {pos : String} {af : Array Edge} {g : FuncId} {caps ys ars : List AV} {fx : Operand} {xs : Array Operand} {ats : Array TypeId} {chs : List (Nat × Chunk)} {R : AV → List (Nat × Chunk) → Prop} {cs : List Nat} {f : Nat} {gd : Option (Nat × Bool)} (hen : Enters P g) (hf : s.ev fx = .clo g caps) (hys : xs.toList.map s.ev ++ caps = ys)
    (hlead : AV.leadsL (sigC cs) ars ys) (hch : leadsC (sigC cs) s (chL chs)) (hspec : ASpec P g ars chs R) (hkeys : chs.map (·.1) = List.range cs.length) (hlen : chs.length = cs.length) (hnd : nodupB cs = true) :
    NOpR P cs s ⟨dst, .call { callee := .value fx, args := xs, argTypes := ats }, ty, pos, af, gd⟩ f (fun u => ∃ r chs', R r chs' ∧ u = callU cs f r chs') :=
  h_callR (cs := cs) hen hf hys hspec hlead hlen (fun id c h => by
    obtain ⟨⟨j, d, h1, h2, h3⟩, _⟩ := leadsC_get hch id c (by rw [getL_chL]; exact h)
    exact ⟨j, d, h1, h2, h3⟩) (fun id j h => by
    obtain ⟨c, hc⟩ := keys_range hkeys (i := id) (List.mem_range.2 (List.getElem?_eq_some_iff.1 h).1)
    obtain ⟨⟨j', d, h1, h2, _⟩, _⟩ := leadsC_get hch id c (by rw [getL_chL]; exact hc)
    have h1' : cs[id]? = some j' := h1
    rw [h] at h1'
    obtain rfl : j = j' := by simpa using h1'
    exact ⟨d, h2⟩) (fun i i' j => nodupB_inj hnd i i' j)
end
end Go.Proofs.Ytkfpoagjlaldgaa

set_option linter.all false
set_option maxRecDepth 20000
namespace Go.Proofs.Ytkfpoagjlaldgaa
open Go.RowKit

/-- A type's reading depends on the blocks of K alone. -/
def TyA {α : Type} (t : Ty α) : Prop := ∀ (K : Nat → Prop) (w w' : World) (cs : List Value) (x : α), (∀ k, K k → w'.heap[k]? = w.heap[k]?) → t.rep K w cs x → t.rep K w' cs x
theorem SL.agree {α : Type} {K : Nat → Prop} {e : TypeId} {t : Ty α} {w w' : World} {v : Value} {l : List α} (ht : TyA t) (hk : ∀ k, K k → w'.heap[k]? = w.heap[k]?) (h : SL K e t w v l) : SL K e t w' v l := by
  obtain ⟨a, cap, rfl, h1, h2, h3, h4⟩ := h
  refine ⟨a, cap, rfl, h1, h2, h3, fun p hp => ?_⟩
  obtain ⟨hn, hK, arr, fz, hh, hle, hel⟩ := h4 p hp
  exact ⟨hn, hK, arr, fz, (hk _ hK).trans hh, hle, fun i x hx => ht _ _ _ _ _ hk (hel i x hx)⟩
theorem getD_cut (arr : Array Value) (a n j : Nat) (hj : j < n) : ((arr.toList.drop a).take n).getD j undef = arr.getD (a + j) undef := by
  rw [List.getD_eq_getElem?_getD, List.getElem?_take, if_pos hj, List.getElem?_drop, Array.getElem?_toList, Array.getD_eq_getD_getElem?]
theorem SL.drep {α : Type} {K : Nat → Prop} {e : TypeId} {t : Ty α} {w : World} {v : Value} {l : List α} (D : α → List DV) (hD : ∀ x, (D x).length = t.size) (hr : ∀ cs x, x ∈ l → t.rep K w cs x → ∀ j d, (D x)[j]? = some d → DRep K w d (cs.getD j undef)) (h : SL K e t w v l) : DRep K w (.view e t.size (l.map D)) v := by
  obtain ⟨a, cap, rfl, h1, h2, h3, h4⟩ := h
  cases a with
  | none =>
    have h5 := h3 rfl
    subst h5
    obtain rfl : l = [] := List.eq_nil_of_length_eq_zero (by omega)
    exact .nil
  | some p =>
    obtain ⟨hn, hK, arr, fz, hh, hle, hel⟩ := h4 p rfl
    obtain ⟨b, off, sp⟩ := p
    simp only at hn hK hh hle hel
    subst hn
    have key : DRep K w (.view e t.size (l.map D)) (.slice (some ⟨b, off, none⟩) (l.map D).length cap) := by
      refine .view hK hh (by rw [List.length_map]; exact h1) h2 hle (fun i cs hc => ?_) (fun i cs j d hc hd => ?_)
      · rw [List.getElem?_map] at hc
        obtain ⟨x, _, rfl⟩ := Option.map_eq_some_iff.1 hc
        exact hD x
      · rw [List.getElem?_map] at hc
        obtain ⟨x, hx, rfl⟩ := Option.map_eq_some_iff.1 hc
        have hj : j < t.size := by rw [← hD x]; exact (List.getElem?_eq_some_iff.1 hd).1
        have := hr _ x (List.mem_of_getElem? hx) (hel i x hx) j d hd
        rwa [getD_cut _ _ _ _ hj] at this
    rw [List.length_map] at key
    exact key
/-- A call that hands back a fact's blocks. -/
theorem ASpec.newP {P : Program} {g : FuncId} {args : List AV} {vs0 : Array Value} {R : AV → List (Nat × Chunk) → Prop}
    (hargs : ∀ (m : Nat → Option (Option Nat × Nat)) (F : Nat → Prop) (w : World) (vs : Array Value), vs.size = args.length → (∀ (i : Nat) x, args[i]? = some x → ARep m F w x (vs.getD i undef)) → vs = vs0)
    (h : ∀ w, Calls P g vs0 w fun e w' => ∃ u r S K, e = .returned u ∧ R r [(0, .pred S K)] ∧ (∀ m F, ARep m F w' r u) ∧ K w' ∧ (∀ w w', (∀ k, S k → w'.heap[k]? = w.heap[k]?) → K w → K w') ∧ (∀ k, S k → w.heap.size ≤ k ∧ k < w'.heap.size) ∧ Fr [] w w') : ASpec P g args [] R := by
  intro w m Fin vs hfin hn ha hch hinj hm
  obtain rfl := hargs m Fin w vs hn ha
  refine (h w).mono ?_
  rintro e w' ⟨u, r, S, K, rfl, hR, hr, hK, hcl, hS, hf⟩
  refine ⟨u, r, _, fun id => if id = 0 then some (none, 0) else none, fun k => (Fin k ∨ (∃ id c p, getL id ([] : List (Nat × Chunk)) = some c ∧ m id = some p ∧ occ p c k) ∨ w.heap.size ≤ k) ∧ k < w'.heap.size ∧ ∀ id c p, getL id [(0, Chunk.pred S K)] = some c → (if id = 0 then some ((none : Option Nat), 0) else none) = some p → ¬ occ p c k, rfl, hR, fun id p h => absurd h (by simp), fun id h => if_neg (by simp at h; omega), fun k => Iff.rfl, ⟨hf.os, hf.tape, hf.output, hf.size, fun k hk _ => hf.block k hk (by simp)⟩, hr _ _, fun id c hc => ?_, fun id id' c c' p p' b h1 h2 _ _ _ _ => ?_⟩
  · obtain ⟨rfl, rfl⟩ := getL_one hc
    exact ⟨(none, 0), rfl, .pred hK hcl (fun k hk => (hS k hk).2), fun b hb => .inl ((hS b (hb.resolve_left (by simp))).1)⟩
  · rw [(getL_one h1).1, (getL_one h2).1]
theorem CRep.pred_of {m : Nat → Option (Option Nat × Nat)} {F : Nat → Prop} {w : World} {p : Option Nat × Nat} {S : Nat → Prop} {K : World → Prop} (h : CRep m F w p (.pred S K)) : p = (none, 0) ∧ K w ∧ (∀ w w', (∀ k, S k → w'.heap[k]? = w.heap[k]?) → K w → K w') ∧ ∀ k, S k → k < w.heap.size := by
  cases h with
  | pred h1 h2 h3 => exact ⟨rfl, h1, h2, h3⟩
/-- A call that reads a fact's blocks and hands back others. -/
theorem ASpec.mapP {P : Program} {g : FuncId} {v : Value} {S : Nat → Prop} {K : World → Prop} {R : AV → List (Nat × Chunk) → Prop}
    (h : ∀ w, K w → Calls P g #[v] w fun e w' => ∃ u S' K', e = .returned u ∧ okV u ∧ R (.d (.val u)) [(0, .pred S K), (1, .pred S' K')] ∧ K' w' ∧ (∀ w w', (∀ k, S' k → w'.heap[k]? = w.heap[k]?) → K' w → K' w') ∧ (∀ k, S' k → w.heap.size ≤ k ∧ k < w'.heap.size) ∧ Fr [] w w') : ASpec P g [.d (.val v)] [(0, .pred S K)] R := by
  intro w m Fin vs hfin hn ha hch hinj hm
  have h0 := (ha 0 _ rfl).val_eq.1
  obtain rfl : vs = #[v] := by
    apply Array.ext
    · rw [hn]; rfl
    · intro i hi1 hi2
      match i with
      | 0 => rw [Array.getD_eq_getD_getElem?, Array.getElem?_eq_getElem hi1] at h0; simpa using h0
      | i + 1 => simp at hi2
  obtain ⟨_, p0, hp0, hc0⟩ := hch 0 _ rfl
  obtain ⟨rfl, hKw, hcl, hSb⟩ := hc0.pred_of
  refine (h w hKw).mono ?_
  rintro e w' ⟨u, S', K', rfl, hu, hR, hK', hcl', hS', hf⟩
  have hold : ∀ k, k < w.heap.size → w'.heap[k]? = w.heap[k]? := fun k hk => hf.block k hk (by simp)
  refine ⟨u, _, _, fun id => if id = 0 then some (none, 0) else if id = 1 then some (none, 0) else none, fun k => (Fin k ∨ (∃ id c p, getL id [(0, Chunk.pred S K)] = some c ∧ m id = some p ∧ occ p c k) ∨ w.heap.size ≤ k) ∧ k < w'.heap.size ∧ ∀ id c p, getL id [(0, Chunk.pred S K), (1, Chunk.pred S' K')] = some c → (if id = 0 then some ((none : Option Nat), 0) else if id = 1 then some (none, 0) else none) = some p → ¬ occ p c k, rfl, hR, fun id p h1 h2 => ?_, fun id h => ?_, fun k => Iff.rfl, ⟨hf.os, hf.tape, hf.output, hf.size, fun k hk _ => hold k hk⟩, .d (.val hu), fun id c hc => ?_, fun id id' c c' p p' b h1 h2 q1 q2 o1 o2 => ?_⟩
  · obtain rfl : id = 0 := by simp at h1; omega
    rw [hp0] at h2
    simpa using h2
  · have : (1 : Nat) + 8 ≤ id := h
    show (if id = 0 then some ((none : Option Nat), 0) else if id = 1 then some (none, 0) else none) = none
    rw [if_neg (by omega), if_neg (by omega)]
  · rw [getL_cons] at hc
    split at hc
    · rename_i q
      obtain rfl : id = 0 := q
      obtain rfl := Option.some.inj hc
      refine ⟨(none, 0), rfl, .pred (hcl _ _ (fun k hk => hold k (hSb k hk)) hKw) hcl (fun k hk => Nat.lt_of_lt_of_le (hSb k hk) hf.size), fun b hb => .inr ⟨0, _, _, rfl, hp0, hb⟩⟩
    · obtain ⟨rfl, rfl⟩ := getL_one hc
      exact ⟨(none, 0), rfl, .pred hK' hcl' (fun k hk => (hS' k hk).2), fun b hb => .inl ((hS' b (hb.resolve_left (by simp))).1)⟩
  · have aux : ∀ id c p, getL id [(0, Chunk.pred S K), (1, Chunk.pred S' K')] = some c → (if id = 0 then some ((none : Option Nat), 0) else if id = 1 then some (none, 0) else none) = some p → occ p c b → (id = 0 ∧ b < w.heap.size) ∨ (id = 1 ∧ w.heap.size ≤ b) := fun id c p h1 q1 o1 => by
      rw [getL_cons] at h1
      split at h1
      · rename_i q
        obtain rfl : id = 0 := q
        obtain rfl := Option.some.inj h1
        obtain rfl : ((none : Option Nat), 0) = p := by simpa using q1
        exact .inl ⟨rfl, hSb b (o1.resolve_left (by simp))⟩
      · obtain ⟨rfl, rfl⟩ := getL_one h1
        obtain rfl : ((none : Option Nat), 0) = p := by simpa using q1
        exact .inr ⟨rfl, (hS' b (o1.resolve_left (by simp))).1⟩
    have a1 := aux id c p h1 q1 o1
    have a2 := aux id' c' p' h2 q2 o2
    omega
/-- A call that reads a fact's blocks and hands back data. -/
theorem ASpec.readP {P : Program} {g : FuncId} {v : Value} {S : Nat → Prop} {K : World → Prop} {x : DV}
    (h : ∀ w, K w → Calls P g #[v] w fun e w' => ∃ u, e = .returned u ∧ DRep (fun k => w.heap.size ≤ k) w' x u ∧ Fr [] w w') : ASpec P g [.d (.val v)] [(0, .pred S K)] (Fun1 (.d x) [(0, .pred S K)]) := by
  intro w m Fin vs hfin hn ha hch hinj hm
  have h0 := (ha 0 _ rfl).val_eq.1
  obtain rfl : vs = #[v] := by
    apply Array.ext
    · rw [hn]; rfl
    · intro i hi1 hi2
      match i with
      | 0 => rw [Array.getD_eq_getD_getElem?, Array.getElem?_eq_getElem hi1] at h0; simpa using h0
      | i + 1 => simp at hi2
  obtain ⟨_, p0, hp0, hc0⟩ := hch 0 _ rfl
  obtain ⟨rfl, hKw, hcl, hSb⟩ := hc0.pred_of
  refine (h w hKw).mono ?_
  rintro e w' ⟨u, rfl, hx, hf⟩
  have hold : ∀ k, k < w.heap.size → w'.heap[k]? = w.heap[k]? := fun k hk => hf.block k hk (by simp)
  refine ⟨u, _, _, fun id => if id = 0 then some (none, 0) else none, fun k => (Fin k ∨ (∃ id c p, getL id [(0, Chunk.pred S K)] = some c ∧ m id = some p ∧ occ p c k) ∨ w.heap.size ≤ k) ∧ k < w'.heap.size ∧ ∀ id c p, getL id [(0, Chunk.pred S K)] = some c → (if id = 0 then some ((none : Option Nat), 0) else none) = some p → ¬ occ p c k, rfl, ⟨rfl, rfl⟩, fun id p h1 h2 => ?_, fun id h => ?_, fun k => Iff.rfl, ⟨hf.os, hf.tape, hf.output, hf.size, fun k hk _ => hold k hk⟩, .d (hx.turn fun k hk hlt => ⟨⟨.inr (.inr hk), hlt, fun id c p h1 q1 o1 => ?_⟩, rfl⟩), fun id c hc => ?_, fun id id' c c' p p' b h1 h2 q1 q2 o1 o2 => ?_⟩
  · obtain rfl : id = 0 := by simp at h1; omega
    rw [hp0] at h2
    simpa using h2
  · have : (1 : Nat) + 8 ≤ id := h
    show (if id = 0 then some ((none : Option Nat), 0) else none) = none
    rw [if_neg (by omega)]
  · obtain ⟨rfl, rfl⟩ := getL_one h1
    obtain rfl : ((none : Option Nat), 0) = p := by simpa using q1
    have := hSb k (o1.resolve_left (by simp))
    omega
  · obtain ⟨rfl, rfl⟩ := getL_one hc
    exact ⟨(none, 0), rfl, .pred (hcl _ _ (fun k hk => hold k (hSb k hk)) hKw) hcl (fun k hk => Nat.lt_of_lt_of_le (hSb k hk) hf.size), fun b hb => .inr ⟨0, _, _, rfl, hp0, hb⟩⟩
  · rw [(getL_one h1).1, (getL_one h2).1]
end Go.Proofs.Ytkfpoagjlaldgaa

set_option linter.all false
namespace Go.Proofs.Ytkfpoagjlaldgaa
open Go.RowKit

def tyTab : List (Nat × TS) := [
  (1, ⟨.func, 1, 8, [.func]⟩),
  (2, ⟨.int .i64, 1, 8, [.int .i64]⟩),
  (3, ⟨.int .i64, 1, 8, [.int .i64]⟩),
  (4, ⟨.bool, 1, 1, [.bool]⟩),
  (5, ⟨.int .u8, 1, 1, [.int .u8]⟩),
  (6, ⟨.int .u8, 1, 1, [.int .u8]⟩),
  (7, ⟨.struct [(0, 1), (1, 1), (2, 1), (3, 1)], 4, 24, [.int .i64, .int .i64, .bool, .int .u8]⟩),
  (8, ⟨.struct [(0, 1), (1, 1), (2, 1), (3, 1)], 4, 24, [.int .i64, .int .i64, .bool, .int .u8]⟩),
  (9, ⟨.string, 1, 16, [.str]⟩),
  (10, ⟨.string, 1, 16, [.str]⟩),
  (11, ⟨.string, 1, 16, [.str]⟩),
  (12, ⟨.int .u64, 1, 8, [.int .u64]⟩),
  (13, ⟨.struct [(0, 1), (1, 1)], 2, 24, [.str, .int .u64]⟩),
  (14, ⟨.struct [(0, 1), (1, 1)], 2, 24, [.str, .int .u64]⟩),
  (15, ⟨.pointer 79, 1, 8, [.ptr]⟩),
  (16, ⟨.pointer 82, 1, 8, [.ptr]⟩),
  (17, ⟨.pointer 91, 1, 8, [.ptr]⟩),
  (18, ⟨.struct [(0, 1)], 1, 8, [.ptr]⟩),
  (19, ⟨.struct [(0, 1)], 1, 8, [.ptr]⟩),
  (20, ⟨.other, 1, 16, [.iface]⟩),
  (21, ⟨.int .i32, 1, 4, [.int .i32]⟩),
  (22, ⟨.slice 9, 1, 24, [.slice]⟩),
  (23, ⟨.func, 1, 8, [.func]⟩),
  (24, ⟨.slice 43, 1, 24, [.slice]⟩),
  (26, ⟨.func, 1, 8, [.func]⟩),
  (27, ⟨.func, 1, 8, [.func]⟩),
  (28, ⟨.func, 1, 8, [.func]⟩),
  (29, ⟨.func, 1, 8, [.func]⟩),
  (30, ⟨.func, 1, 8, [.func]⟩),
  (31, ⟨.func, 1, 8, [.func]⟩),
  (32, ⟨.slice 40, 1, 24, [.slice]⟩),
  (34, ⟨.func, 1, 8, [.func]⟩),
  (36, ⟨.func, 1, 8, [.func]⟩),
  (37, ⟨.func, 1, 8, [.func]⟩),
  (38, ⟨.slice 32, 1, 24, [.slice]⟩),
  (39, ⟨.struct [(0, 1), (1, 1), (2, 1)], 3, 48, [.str, .int .u8, .slice]⟩),
  (40, ⟨.struct [(0, 1), (1, 1), (2, 1)], 3, 48, [.str, .int .u8, .slice]⟩),
  (41, ⟨.func, 1, 8, [.func]⟩),
  (42, ⟨.struct [(0, 1), (1, 1)], 2, 24, [.str, .int .i64]⟩),
  (43, ⟨.struct [(0, 1), (1, 1)], 2, 24, [.str, .int .i64]⟩),
  (44, ⟨.func, 1, 8, [.func]⟩),
  (45, ⟨.func, 1, 8, [.func]⟩),
  (46, ⟨.func, 1, 8, [.func]⟩),
  (47, ⟨.pointer 51, 1, 8, [.ptr]⟩),
  (48, ⟨.func, 1, 8, [.func]⟩),
  (49, ⟨.slice 68, 1, 24, [.slice]⟩),
  (50, ⟨.struct [(0, 1), (1, 1), (2, 1), (3, 1), (4, 1), (5, 1)], 6, 72, [.str, .int .i64, .bool, .slice, .int .i64, .int .i64]⟩),
  (51, ⟨.struct [(0, 1), (1, 1), (2, 1), (3, 1), (4, 1), (5, 1)], 6, 72, [.str, .int .i64, .bool, .slice, .int .i64, .int .i64]⟩),
  (52, ⟨.func, 1, 8, [.func]⟩),
  (53, ⟨.func, 1, 8, [.func]⟩),
  (55, ⟨.func, 1, 8, [.func]⟩),
  (56, ⟨.pointer 58, 1, 8, [.ptr]⟩),
  (57, ⟨.struct [(0, 1), (1, 1), (2, 1)], 3, 32, [.str, .int .i64, .bool]⟩),
  (58, ⟨.struct [(0, 1), (1, 1), (2, 1)], 3, 32, [.str, .int .i64, .bool]⟩),
  (59, ⟨.func, 1, 8, [.func]⟩),
  (60, ⟨.func, 1, 8, [.func]⟩),
  (61, ⟨.func, 1, 8, [.func]⟩),
  (62, ⟨.func, 1, 8, [.func]⟩),
  (63, ⟨.slice 5, 1, 24, [.slice]⟩),
  (64, ⟨.func, 1, 8, [.func]⟩),
  (65, ⟨.func, 1, 8, [.func]⟩),
  (66, ⟨.slice 3, 1, 24, [.slice]⟩),
  (67, ⟨.struct [(0, 1), (1, 1), (2, 1)], 3, 48, [.str, .bool, .slice]⟩),
  (68, ⟨.struct [(0, 1), (1, 1), (2, 1)], 3, 48, [.str, .bool, .slice]⟩),
  (69, ⟨.func, 1, 8, [.func]⟩),
  (70, ⟨.func, 1, 8, [.func]⟩),
  (71, ⟨.func, 1, 8, [.func]⟩),
  (72, ⟨.func, 1, 8, [.func]⟩),
  (73, ⟨.func, 1, 8, [.func]⟩),
  (74, ⟨.func, 1, 8, [.func]⟩),
  (75, ⟨.func, 1, 8, [.func]⟩),
  (76, ⟨.func, 1, 8, [.func]⟩),
  (77, ⟨.func, 1, 8, [.func]⟩),
  (78, ⟨.struct [(0, 1), (1, 1), (2, 1), (3, 1)], 4, 40, [.ptr, .ptr, .ptr, .str]⟩),
  (79, ⟨.struct [(0, 1), (1, 1), (2, 1), (3, 1)], 4, 40, [.ptr, .ptr, .ptr, .str]⟩),
  (80, ⟨.row, 0, 0, []⟩),
  (83, ⟨.int .u32, 1, 4, [.int .u32]⟩),
  (84, ⟨.int .u8, 1, 1, [.int .u8]⟩),
  (85, ⟨.int .u8, 1, 1, [.int .u8]⟩),
  (86, ⟨.func, 1, 8, [.func]⟩),
  (87, ⟨.pointer 5, 1, 8, [.ptr]⟩),
  (88, ⟨.int .i32, 1, 4, [.int .i32]⟩),
  (89, ⟨.int .i32, 1, 4, [.int .i32]⟩),
  (90, ⟨.struct [(0, 1), (1, 1), (2, 1), (3, 1), (4, 1), (5, 1), (6, 1), (7, 1), (8, 1), (9, 1), (10, 1)], 11, 48, [.int .u64, .int .u64, .int .u32, .int .u8, .int .u8, .int .u8, .int .u8, .func, .ptr, .int .i32, .int .i32]⟩),
  (91, ⟨.struct [(0, 1), (1, 1), (2, 1), (3, 1), (4, 1), (5, 1), (6, 1), (7, 1), (8, 1), (9, 1), (10, 1)], 11, 48, [.int .u64, .int .u64, .int .u32, .int .u8, .int .u8, .int .u8, .int .u8, .func, .ptr, .int .i32, .int .i32]⟩)]

theorem tyTab_ok : tyTab.all (fun p => decide (tsOf Try.prog p.1 = some p.2)) = true := by kernel_rfl
instance : PT Try.prog := ⟨tyTab, tyTab_ok⟩
theorem mixed_ok : Try.prog.follows .mixedOrders = true := by kernel_rfl
end Go.Proofs.Ytkfpoagjlaldgaa

set_option linter.all false
set_option maxRecDepth 20000
namespace Go.Proofs.Ytkfpoagjlaldgaa
open Go.RowKit

structure Tn where
  pre : List Int
  post : List Int
  deriving DecidableEq
theorem leadsL_data (σ : Nat → Option Nat) : ∀ ds : List DV, AV.leadsL σ (ds.map .d) (ds.map .d)
  | [] => rfl
  | d :: ds => ⟨_, _, rfl, .same, leadsL_data σ ds⟩

def findI {α : Type} (p : α → Bool) (l : List α) : Int := if l.findIdx p < l.length then (l.findIdx p : Int) else -1
theorem findI_at {α : Type} {p : α → Bool} {l : List α} {k : Nat} (hk : k < l.length) (h : p l[k] = true) (hp : ∀ j (hj : j < k), p (l[j]'(by omega)) = false) : findI p l = (k : Int) := by
  have : l.findIdx p = k := (List.findIdx_eq hk).2 ⟨h, fun j hj => by simpa using hp j hj⟩
  rw [findI, this, if_pos hk]
theorem findI_none {α : Type} {p : α → Bool} {l : List α} (hp : ∀ j (hj : j < l.length), p l[j] = false) : findI p l = -1 := by
  have : l.findIdx p = l.length := List.findIdx_eq_length.2 (fun x hx => by obtain ⟨j, hj, rfl⟩ := List.getElem_of_mem hx; exact hp j hj)
  rw [findI, this, if_neg (Nat.lt_irrefl _)]
theorem findI_any {α : Type} (p : α → Bool) (l : List α) : decide (0 ≤ findI p l) = l.any p := by
  unfold findI
  by_cases h : l.findIdx p < l.length
  · rw [if_pos h, List.any_eq_true.2 (List.findIdx_lt_length.1 h)]; simp
  · rw [if_neg h]
    have : l.any p = false := by
      rw [List.any_eq_false]
      intro x hx hp
      exact h (List.findIdx_lt_length.2 ⟨x, hx, hp⟩)
    rw [this]; rfl

end Go.Proofs.Ytkfpoagjlaldgaa

set_option linter.all false
set_option maxRecDepth 20000
namespace Go.Proofs.Ytkfpoagjlaldgaa
open Go.RowKit

structure Net where
  places : Int
  ts : List Tn
  deriving DecidableEq
/-- Bounds under which nothing overflows. -/
structure NetB (n : Net) : Prop where
  p : -1000000 ≤ n.places ∧ n.places ≤ 1000000
  l : n.ts.length ≤ 1000000
  t : ∀ t, t ∈ n.ts → t.pre.length ≤ 1000000 ∧ t.post.length ≤ 1000000
/-- Bounds on lengths alone: any argument of a law has them. -/
structure NetL (n : Net) : Prop where
  p : -9223372036854775808 ≤ n.places ∧ n.places ≤ 9223372036854775807
  l : n.ts.length ≤ 2000000
  t : ∀ t, t ∈ n.ts → t.pre.length ≤ 2000000 ∧ t.post.length ≤ 2000000
theorem NetB.L {n : Net} (h : NetB n) : NetL n := ⟨by have := h.p; omega, by have := h.l; omega, fun t ht => by have := h.t t ht; omega⟩
end Go.Proofs.Ytkfpoagjlaldgaa

set_option linter.all false
set_option maxRecDepth 20000
namespace Go.Proofs.Ytkfpoagjlaldgaa
open Go.RowKit

/-- A cursor over bytes. -/
structure Cur where
  code : List UInt8
  pos : Nat
  seed : Int
def Cur.byte (c : Cur) : Int := if c.pos < c.code.length then ((c.code.getD c.pos 0).toNat : Int) else 0
def Cur.turn (c : Cur) : Int := IntKind.u64.wrap (IntKind.u64.wrap (IntKind.u64.wrap (c.seed * 6364136223846793005) + c.byte) + 1442695040888963407)
def drawn (seed : Int) : Int := IntKind.i64.wrap (IntKind.u64.wrap (BitVec.ofInt 64 (seed.fdiv (2 ^ (min (40 : Int).toNat 64))) &&& BitVec.ofInt 64 255).toNat)
def Cur.after (c : Cur) : Cur := ⟨c.code, c.pos + 1, c.turn⟩
def Cur.next (c : Cur) : Int := if c.pos + 1 ≤ c.code.length then c.byte else drawn c.turn
end Go.Proofs.Ytkfpoagjlaldgaa

set_option linter.all false
set_option maxRecDepth 20000
namespace Go.Proofs.Ytkfpoagjlaldgaa
open Go.RowKit

def Cur.pick (c : Cur) (n : Int) : Int × Cur :=
  if n ≤ 1 then (0, c) else if 200 < n then ((c.next * 256 + c.after.next).tmod n, c.after.after) else (c.next.tmod n, c.after)
end Go.Proofs.Ytkfpoagjlaldgaa

set_option linter.all false
set_option maxRecDepth 20000
namespace Go.Proofs.Ytkfpoagjlaldgaa
open Go.RowKit

structure Sig where
  name : List UInt8
  kind : Int
  deriving DecidableEq
structure Lab where
  sig : Int
  up : Bool
  deriving DecidableEq
structure Bur where
  from_ : Int
  inn : List Lab
  out : List Lab
  to_ : Int
  deriving DecidableEq
abbrev sigD (s : Sig) : List DV := [dS (bstr s.name), dI s.kind]
abbrev sigA (s : Sig) : AV := .agg [aS (bstr s.name), aI s.kind]
abbrev sigsL (l : List Sig) : List (List DV) := l.map sigD
abbrev vSigs (l : List Sig) : DV := .view 43 2 (sigsL l)
theorem sigsL_len (l : List Sig) : (sigsL l).length = l.length := List.length_map _
theorem sigsL_get {l : List Sig} {k : Nat} (h : k < l.length) : (sigsL l)[k]? = some (sigD l[k]) := by unfold sigsL; rw [List.getElem?_map, List.getElem?_eq_getElem h]; rfl
theorem bstr_iff {a b : List UInt8} : bstr a = bstr b ↔ a = b := ⟨bstr_inj, fun h => by rw [h]⟩
end Go.Proofs.Ytkfpoagjlaldgaa

set_option linter.all false
set_option maxRecDepth 20000
namespace Go.Proofs.Ytkfpoagjlaldgaa
open Go.RowKit

def bitLb (up : Bool) : UInt8 := bif up then 49 else 48
def turnL (code : List UInt8) : List Lab → Option (List UInt8)
  | [] => some code
  | x :: l => if code.getD x.sig.toNat 0 = bitLb (!x.up) then turnL (code.set x.sig.toNat (bitLb x.up)) l else none
def cAtL (cs : List (List UInt8)) (i : Int) : List UInt8 := cs.getD i.toNat []
def stepB (cs : List (List UInt8)) (b : Bur) : Option (List (List UInt8)) :=
  if cAtL cs b.from_ = [] then some cs else
    match turnL (cAtL cs b.from_) (b.inn ++ b.out) with
    | none => none
    | some nx => if cAtL cs b.to_ ≠ [] ∧ cAtL cs b.to_ ≠ nx then none else some (cs.set b.to_.toNat nx)
/-- A code of bits. -/
def BitC (n : Nat) (c : List UInt8) : Prop := c.length = n ∧ ∀ b, b ∈ c → b = 48 ∨ b = 49
theorem BitC.set {n : Nat} {c : List UInt8} (h : BitC n c) (i : Nat) (up : Bool) : BitC n (c.set i (bitLb up)) := by
  refine ⟨by rw [List.length_set]; exact h.1, fun b hb => ?_⟩
  rcases List.mem_or_eq_of_mem_set hb with h1 | rfl
  · exact h.2 b h1
  · cases up <;> simp [bitLb]
theorem turnL_bit {n : Nat} : ∀ {l : List Lab} {c c' : List UInt8}, BitC n c → turnL c l = some c' → BitC n c'
  | [], c, c', h, e => by simp only [turnL, Option.some.injEq] at e; subst e; exact h
  | x :: l, c, c', h, e => by
    simp only [turnL] at e
    split at e
    · exact turnL_bit (h.set _ _) e
    · cases e
/-- Codes of states: none yet, or one of bits. -/
structure CodesOk (n : Nat) (k : Nat) (cs : List (List UInt8)) : Prop where
  l : cs.length = k
  c : ∀ c, c ∈ cs → c = [] ∨ BitC n c
theorem CodesOk.at {n k : Nat} {cs : List (List UInt8)} (h : CodesOk n k cs) (i : Int) : cAtL cs i = [] ∨ BitC n (cAtL cs i) := by
  unfold cAtL
  rw [List.getD_eq_getElem?_getD]
  cases e : cs[i.toNat]? with
  | none => exact .inl rfl
  | some c => exact h.c c (List.mem_of_getElem? e)
theorem CodesOk.set {n k : Nat} {cs : List (List UInt8)} (h : CodesOk n k cs) (i : Nat) {c : List UInt8} (hc : BitC n c) : CodesOk n k (cs.set i c) := by
  refine ⟨by rw [List.length_set]; exact h.l, fun x hx => ?_⟩
  rcases List.mem_or_eq_of_mem_set hx with h1 | rfl
  · exact h.c x h1
  · exact .inr hc
theorem CodesOk.step {n k : Nat} {cs cs' : List (List UInt8)} {b : Bur} (h : CodesOk n k cs) (e : stepB cs b = some cs') : CodesOk n k cs' := by
  unfold stepB at e
  split at e
  · simp only [Option.some.injEq] at e; subst e; exact h
  · rename_i hne
    split at e
    · cases e
    · rename_i nx hnx
      split at e
      · cases e
      · simp only [Option.some.injEq] at e
        subst e
        have hb := (h.at b.from_).resolve_left hne
        exact h.set _ (turnL_bit hb hnx)
end Go.Proofs.Ytkfpoagjlaldgaa

set_option linter.all false
set_option maxRecDepth 20000
namespace Go.Proofs.Ytkfpoagjlaldgaa
open Go.RowKit

set_option maxHeartbeats 1000000 in
theorem indexSig_spec (l : List Sig) (hl : l.length ≤ 2000000) (g : FuncId) (ds : List DV) (hen : Enters Try.prog g) (p : Sig → Bool) (hp : ∀ t, t ∈ l → ASpec Try.prog g (sigA t :: ds.map .d) [] (Pure1 (aT (p t)))) : ASpec Try.prog 30 [.d (vSigs l), .clo g (ds.map .d)] [] (Pure1 (aI (findI p l))) := by
  refine ASpec.of Try.func30 rfl rfl fun C hC => ?_
  refine AC.seq ?_
  refine AC.region ?_
  refine AL.p (by first | exact as1 rfl | exact as2 rfl | exact as3 rfl | exact as4 rfl | exact as5 rfl | exact as6 rfl | exact as7 rfl | exact as8 rfl | exact as9 rfl | exact as10 rfl | exact as11 rfl) rfl ?_
  refine AL.nil ?_
  refine th_n ?_
  refine AC.seq ?_
  refine AC.seq ?_
  refine AC.region ?_
  refine AL.p (by first | exact mv1 rfl | exact mv2 rfl | exact mv3 rfl | exact mv4 rfl | exact mv5 rfl | exact mv6 rfl | exact mv7 rfl | exact mv8 rfl | exact mv9 rfl | exact mv10 rfl | exact mv11 rfl) rfl ?_
  refine AL.p (by first | exact g_len_view rfl rfl (by first | exact List.length_map _ | rfl) | exact g_len_str rfl rfl rfl | exact g_len_nil rfl rfl | exact g_len_own (sz := 1) (els := []) (e' := 0) rfl rfl (by simp only [maxLen]; omega) | exact g_len_tight rfl rfl (by first | exact List.length_map _ | rfl)) rfl ?_
  refine AL.p (by first | exact mv1 rfl | exact mv2 rfl | exact mv3 rfl | exact mv4 rfl | exact mv5 rfl | exact mv6 rfl | exact mv7 rfl | exact mv8 rfl | exact mv9 rfl | exact mv10 rfl | exact mv11 rfl) rfl ?_
  refine AL.nil ?_
  refine th_n ?_
  refine AC.block ?_
  refine AC.loop (ι := Nat) (fun k => ⟨19, 0, [(0, .d (vSigs l)), (1, .clo g (ds.map .d)), (6, .d (vSigs l)), (7, aI l.length), (8, aI k)], []⟩) (fun k => k ≤ l.length ∧ ∀ j (hj : j < l.length), j < k → p l[j] = false) (fun k => l.length - k) (0) ?_ (⟨Nat.zero_le _, fun j _ hj => by omega⟩) ?_
  · refine Weak.ren _ [] hC rfl ⟨.same, ⟨_, rfl, leadsL_data _ ds⟩, ?_⟩ trivial rfl rfl rfl; repeat (first | exact True.intro | refine And.intro ?_ ?_ | exact DLead.same | exact DLead.eqI (by omega) | exact DLead.eqI (by dsimp only; omega) | exact DLead.nil | exact rfl)
  · intro k ⟨hk, hall⟩
    refine AC.seq ?_
    refine AC.region ?_
    refine AL.p (by first | exact g_cmp rfl rfl rfl | exact g_scmp rfl rfl rfl | exact g_eqB rfl rfl rfl | exact g_neB rfl rfl rfl) rfl ?_
    refine AL.nil ?_
    refine th_n ?_
    refine AC.seq ?_
    first | refine AC.condD rfl (fun h0 => ?_) (fun h0 => ?_) | refine AC.condND rfl (fun h0 => ?_) (fun h0 => ?_) | refine AC.condB rfl (fun h0 => ?_) (fun h0 => ?_) | refine AC.condNB rfl (fun h0 => ?_) (fun h0 => ?_)
    · refine AC.skip ?_
      refine th_n ?_
      refine AC.seq ?_
      refine AC.block ?_
      refine AC.seq ?_
      have hk1 : k < l.length := by omega
      have hget := sigsL_get hk1
      refine AC.region ?_
      refine AL.p (by first | exact mv1 rfl | exact mv2 rfl | exact mv3 rfl | exact mv4 rfl | exact mv5 rfl | exact mv6 rfl | exact mv7 rfl | exact mv8 rfl | exact mv9 rfl | exact mv10 rfl | exact mv11 rfl) rfl ?_
      refine AL.p (by first | exact as1 rfl | exact as2 rfl | exact as3 rfl | exact as4 rfl | exact as5 rfl | exact as6 rfl | exact as7 rfl | exact as8 rfl | exact as9 rfl | exact as10 rfl | exact as11 rfl) rfl ?_
      refine AL.nil ?_
      refine th_n ?_
      refine AC.seq ?_
      refine AC.region ?_
      refine AL.p (by first | exact mv1 rfl | exact mv2 rfl | exact mv3 rfl | exact mv4 rfl | exact mv5 rfl | exact mv6 rfl | exact mv7 rfl | exact mv8 rfl | exact mv9 rfl | exact mv10 rfl | exact mv11 rfl) rfl ?_
      refine AL.p (by first | exact mv1 rfl | exact mv2 rfl | exact mv3 rfl | exact mv4 rfl | exact mv5 rfl | exact mv6 rfl | exact mv7 rfl | exact mv8 rfl | exact mv9 rfl | exact mv10 rfl | exact mv11 rfl) rfl ?_
      refine AL.p (by first | exact mv1 rfl | exact mv2 rfl | exact mv3 rfl | exact mv4 rfl | exact mv5 rfl | exact mv6 rfl | exact mv7 rfl | exact mv8 rfl | exact mv9 rfl | exact mv10 rfl | exact mv11 rfl) rfl ?_
      refine AL.p (by first | exact g_ia_view rfl rfl rfl rfl rfl (by first | rfl | assumption) (by first | assumption | rfl) | exact g_ia_own rfl rfl rfl rfl rfl (by first | rfl | assumption) (by omega) (by first | exact Nat.mul_one _ | rfl | omega)) rfl ?_
      refine AL.p (by first | exact g_load_ref rfl rfl rfl | exact g_load_ptr rfl rfl rfl rfl rfl | exact g_load_refN rfl rfl rfl rfl | exact g_load_ptrN rfl rfl rfl rfl rfl | exact g_load_arr1 rfl rfl rfl rfl (by assumption) | exact g_load_arr rfl rfl rfl rfl (by first | rfl | omega) (by first | assumption | rfl) (by first | assumption | rfl)) rfl ?_
      refine AL.q (by exact h_pure hen rfl rfl (by exact ⟨_, _, rfl, ⟨_, rfl, _, _, rfl, .same, _, _, rfl, .same, rfl⟩, leadsL_data _ ds⟩) (hp l[k] (List.getElem_mem hk1)) rfl) rfl ?_
      refine AL.nil ?_
      refine th_n ?_
      first | refine AC.condD rfl (fun h1 => ?_) (fun h1 => ?_) | refine AC.condND rfl (fun h1 => ?_) (fun h1 => ?_) | refine AC.condB rfl (fun h1 => ?_) (fun h1 => ?_) | refine AC.condNB rfl (fun h1 => ?_) (fun h1 => ?_)
      · refine AC.seq ?_
        refine AC.region ?_
        refine AL.p (by first | exact mv1 rfl | exact mv2 rfl | exact mv3 rfl | exact mv4 rfl | exact mv5 rfl | exact mv6 rfl | exact mv7 rfl | exact mv8 rfl | exact mv9 rfl | exact mv10 rfl | exact mv11 rfl) rfl ?_
        refine AL.p (by first | exact as1 rfl | exact as2 rfl | exact as3 rfl | exact as4 rfl | exact as5 rfl | exact as6 rfl | exact as7 rfl | exact as8 rfl | exact as9 rfl | exact as10 rfl | exact as11 rfl) rfl ?_
        refine AL.nil ?_
        refine th_n ?_
        refine AC.ret ?_
        refine ib_r ?_
        refine th_r ?_
        refine th_r ?_
        refine ib_r ?_
        refine th_r ?_
        refine bq_r ?_
        exact ret1 rfl (by rw [findI_at hk1 h1 (fun j hj => hall j (by omega) hj)])
      · refine AC.skip ?_
        refine ib_n ?_
        refine th_n ?_
        refine AC.region ?_
        refine AL.p (by first | exact g_arith rfl rfl rfl (by first | exact wrap_i64 (by omega) | exact wrap_u8 (by omega) | exact wrap_u64 (by omega) | rfl) | exact g_sadd rfl rfl (by first | assumption | omega | (simp only [ByteArray.size_append, bstr_size, List.length_take, List.length_drop, List.length_cons, List.length_nil]; omega))) rfl ?_
        refine AL.p (by first | exact mv1 rfl | exact mv2 rfl | exact mv3 rfl | exact mv4 rfl | exact mv5 rfl | exact mv6 rfl | exact mv7 rfl | exact mv8 rfl | exact mv9 rfl | exact mv10 rfl | exact mv11 rfl) rfl ?_
        refine AL.nil ?_
        refine th_n ?_
        exact ⟨k + 1, ⟨by omega, fun j hj hj2 => by rcases Nat.lt_succ_iff_lt_or_eq.1 hj2 with h | rfl; exact hall j hj h; exact h1⟩, by omega, Weak.ren _ [] hC rfl ⟨.same, ⟨_, rfl, leadsL_data _ ds⟩, by repeat (first | exact True.intro | refine And.intro ?_ ?_ | exact DLead.same | exact DLead.eqI (by omega) | exact DLead.eqI (by dsimp only; omega) | exact DLead.nil | exact rfl)⟩ trivial rfl rfl rfl⟩
    · refine AC.exit ?_
      refine th_e ?_
      refine th_e ?_
      refine ib_y ?_
      refine th_n ?_
      refine AC.seq ?_
      refine AC.region ?_
      refine AL.p (by first | exact as1 rfl | exact as2 rfl | exact as3 rfl | exact as4 rfl | exact as5 rfl | exact as6 rfl | exact as7 rfl | exact as8 rfl | exact as9 rfl | exact as10 rfl | exact as11 rfl) rfl ?_
      refine AL.nil ?_
      refine th_n ?_
      refine AC.ret ?_
      refine bq_r ?_
      exact ret1 rfl (by rw [findI_none (fun j hj => hall j hj (by omega))])
theorem en_indexSig : Enters Try.prog 30 := enters_of Try.func30 rfl rfl
end Go.Proofs.Ytkfpoagjlaldgaa

set_option linter.all false
set_option maxRecDepth 20000
namespace Go.Proofs.Ytkfpoagjlaldgaa
open Go.RowKit

abbrev strL (l : List (List UInt8)) : List (List DV) := l.map (fun s => [dS (bstr s)])
abbrev vStr (l : List (List UInt8)) : DV := .view 9 1 (strL l)
theorem strL_len (l : List (List UInt8)) : (strL l).length = l.length := List.length_map _
theorem strL_get {l : List (List UInt8)} {k : Nat} (h : k < l.length) : (strL l)[k]? = some [dS (bstr l[k])] := by rw [List.getElem?_map, List.getElem?_eq_getElem h]; rfl
set_option maxHeartbeats 1000000 in
theorem indexStr_spec (l : List (List UInt8)) (hl : l.length ≤ 2000000) (v : List UInt8) : ASpec Try.prog 32 [.d (vStr l), aS (bstr v)] [] (Pure1 (aI (findI (fun x => decide (v = x)) l))) := by
  refine ASpec.of Try.func32 rfl rfl fun C hC => ?_
  refine AC.seq ?_
  refine AC.region ?_
  refine AL.p (by first | exact as1 rfl | exact as2 rfl | exact as3 rfl | exact as4 rfl | exact as5 rfl | exact as6 rfl | exact as7 rfl | exact as8 rfl | exact as9 rfl | exact as10 rfl | exact as11 rfl) rfl ?_
  refine AL.nil ?_
  refine th_n ?_
  refine AC.seq ?_
  refine AC.seq ?_
  refine AC.region ?_
  refine AL.p (by first | exact mv1 rfl | exact mv2 rfl | exact mv3 rfl | exact mv4 rfl | exact mv5 rfl | exact mv6 rfl | exact mv7 rfl | exact mv8 rfl | exact mv9 rfl | exact mv10 rfl | exact mv11 rfl) rfl ?_
  refine AL.p (by first | exact g_len_view rfl rfl (by first | exact List.length_map _ | rfl) | exact g_len_str rfl rfl rfl | exact g_len_nil rfl rfl | exact g_len_own (sz := 1) (els := []) (e' := 0) rfl rfl (by simp only [maxLen]; omega) | exact g_len_tight rfl rfl (by first | exact List.length_map _ | rfl)) rfl ?_
  refine AL.p (by first | exact mv1 rfl | exact mv2 rfl | exact mv3 rfl | exact mv4 rfl | exact mv5 rfl | exact mv6 rfl | exact mv7 rfl | exact mv8 rfl | exact mv9 rfl | exact mv10 rfl | exact mv11 rfl) rfl ?_
  refine AL.nil ?_
  refine th_n ?_
  refine AC.block ?_
  refine AC.loop (ι := Nat) (fun k => ⟨19, 0, [(0, .d (vStr l)), (1, aS (bstr v)), (6, .d (vStr l)), (7, aI l.length), (8, aI k)], []⟩) (fun k => k ≤ l.length ∧ ∀ j (hj : j < l.length), j < k → (fun x => decide (v = x)) l[j] = false) (fun k => l.length - k) (0) ?_ (⟨Nat.zero_le _, fun j _ hj => by omega⟩) ?_
  · refine Weak.ren _ [] hC rfl ?_ ?_ rfl rfl rfl <;> repeat (first | exact True.intro | refine And.intro ?_ ?_ | exact DLead.same | exact DLead.eqI (by omega) | exact DLead.eqI (by dsimp only; omega) | exact DLead.nil | exact rfl)
  · intro k ⟨hk, hall⟩
    refine AC.seq ?_
    refine AC.region ?_
    refine AL.p (by first | exact g_cmp rfl rfl rfl | exact g_scmp rfl rfl rfl | exact g_eqB rfl rfl rfl | exact g_neB rfl rfl rfl) rfl ?_
    refine AL.nil ?_
    refine th_n ?_
    refine AC.seq ?_
    first | refine AC.condD rfl (fun h0 => ?_) (fun h0 => ?_) | refine AC.condND rfl (fun h0 => ?_) (fun h0 => ?_) | refine AC.condB rfl (fun h0 => ?_) (fun h0 => ?_) | refine AC.condNB rfl (fun h0 => ?_) (fun h0 => ?_)
    · refine AC.skip ?_
      refine th_n ?_
      refine AC.seq ?_
      refine AC.block ?_
      refine AC.seq ?_
      have hk1 : k < l.length := by omega
      have hget := strL_get hk1
      refine AC.region ?_
      refine AL.p (by first | exact mv1 rfl | exact mv2 rfl | exact mv3 rfl | exact mv4 rfl | exact mv5 rfl | exact mv6 rfl | exact mv7 rfl | exact mv8 rfl | exact mv9 rfl | exact mv10 rfl | exact mv11 rfl) rfl ?_
      refine AL.p (by first | exact as1 rfl | exact as2 rfl | exact as3 rfl | exact as4 rfl | exact as5 rfl | exact as6 rfl | exact as7 rfl | exact as8 rfl | exact as9 rfl | exact as10 rfl | exact as11 rfl) rfl ?_
      refine AL.nil ?_
      refine th_n ?_
      refine AC.seq ?_
      refine AC.region ?_
      refine AL.p (by first | exact mv1 rfl | exact mv2 rfl | exact mv3 rfl | exact mv4 rfl | exact mv5 rfl | exact mv6 rfl | exact mv7 rfl | exact mv8 rfl | exact mv9 rfl | exact mv10 rfl | exact mv11 rfl) rfl ?_
      refine AL.p (by first | exact mv1 rfl | exact mv2 rfl | exact mv3 rfl | exact mv4 rfl | exact mv5 rfl | exact mv6 rfl | exact mv7 rfl | exact mv8 rfl | exact mv9 rfl | exact mv10 rfl | exact mv11 rfl) rfl ?_
      refine AL.p (by first | exact mv1 rfl | exact mv2 rfl | exact mv3 rfl | exact mv4 rfl | exact mv5 rfl | exact mv6 rfl | exact mv7 rfl | exact mv8 rfl | exact mv9 rfl | exact mv10 rfl | exact mv11 rfl) rfl ?_
      refine AL.p (by first | exact g_ia_view rfl rfl rfl rfl rfl (by first | rfl | assumption) (by first | assumption | rfl) | exact g_ia_own rfl rfl rfl rfl rfl (by first | rfl | assumption) (by omega) (by first | exact Nat.mul_one _ | rfl | omega)) rfl ?_
      refine AL.p (by first | exact g_load_ref rfl rfl rfl | exact g_load_ptr rfl rfl rfl rfl rfl | exact g_load_refN rfl rfl rfl rfl | exact g_load_ptrN rfl rfl rfl rfl rfl | exact g_load_arr1 rfl rfl rfl rfl (by assumption) | exact g_load_arr rfl rfl rfl rfl (by first | rfl | omega) (by first | assumption | rfl) (by first | assumption | rfl)) rfl ?_
      refine AL.p (by first | exact g_cmp rfl rfl rfl | exact g_scmp rfl rfl rfl | exact g_eqB rfl rfl rfl | exact g_neB rfl rfl rfl) rfl ?_
      refine AL.nil ?_
      refine th_n ?_
      first | refine AC.condD rfl (fun h1 => ?_) (fun h1 => ?_) | refine AC.condND rfl (fun h1 => ?_) (fun h1 => ?_) | refine AC.condB rfl (fun h1 => ?_) (fun h1 => ?_) | refine AC.condNB rfl (fun h1 => ?_) (fun h1 => ?_)
      · refine AC.seq ?_
        refine AC.region ?_
        refine AL.p (by first | exact mv1 rfl | exact mv2 rfl | exact mv3 rfl | exact mv4 rfl | exact mv5 rfl | exact mv6 rfl | exact mv7 rfl | exact mv8 rfl | exact mv9 rfl | exact mv10 rfl | exact mv11 rfl) rfl ?_
        refine AL.p (by first | exact as1 rfl | exact as2 rfl | exact as3 rfl | exact as4 rfl | exact as5 rfl | exact as6 rfl | exact as7 rfl | exact as8 rfl | exact as9 rfl | exact as10 rfl | exact as11 rfl) rfl ?_
        refine AL.nil ?_
        refine th_n ?_
        refine AC.ret ?_
        refine ib_r ?_
        refine th_r ?_
        refine th_r ?_
        refine ib_r ?_
        refine th_r ?_
        refine bq_r ?_
        exact ret1 rfl (by rw [findI_at hk1 (p := fun x => decide (v = x)) (decide_eq_true (bstr_inj h1)) (fun j hj => hall j (by omega) hj)])
      · refine AC.skip ?_
        refine ib_n ?_
        refine th_n ?_
        refine AC.region ?_
        refine AL.p (by first | exact g_arith rfl rfl rfl (by first | exact wrap_i64 (by omega) | exact wrap_u8 (by omega) | exact wrap_u64 (by omega) | rfl) | exact g_sadd rfl rfl (by first | assumption | omega | (simp only [ByteArray.size_append, bstr_size, List.length_take, List.length_drop, List.length_cons, List.length_nil]; omega))) rfl ?_
        refine AL.p (by first | exact mv1 rfl | exact mv2 rfl | exact mv3 rfl | exact mv4 rfl | exact mv5 rfl | exact mv6 rfl | exact mv7 rfl | exact mv8 rfl | exact mv9 rfl | exact mv10 rfl | exact mv11 rfl) rfl ?_
        refine AL.nil ?_
        refine th_n ?_
        exact ⟨k + 1, ⟨by omega, fun j hj hj2 => by rcases Nat.lt_succ_iff_lt_or_eq.1 hj2 with h | rfl; exact hall j hj h; exact decide_eq_false (fun e => h1 (by rw [e]))⟩, by omega, Weak.ren _ [] hC rfl (by repeat (first | exact True.intro | refine And.intro ?_ ?_ | exact DLead.same | exact DLead.eqI (by omega) | exact DLead.eqI (by dsimp only; omega) | exact DLead.nil | exact rfl)) (by repeat (first | exact True.intro | refine And.intro ?_ ?_ | exact DLead.same | exact DLead.eqI (by omega) | exact DLead.eqI (by dsimp only; omega) | exact DLead.nil | exact rfl | refine ⟨_, _, rfl, rfl, ?_⟩ | refine ⟨_, rfl, ?_⟩ | refine ⟨_, _, rfl, ?_, ?_⟩)) rfl rfl rfl⟩
    · refine AC.exit ?_
      refine th_e ?_
      refine th_e ?_
      refine ib_y ?_
      refine th_n ?_
      refine AC.seq ?_
      refine AC.region ?_
      refine AL.p (by first | exact as1 rfl | exact as2 rfl | exact as3 rfl | exact as4 rfl | exact as5 rfl | exact as6 rfl | exact as7 rfl | exact as8 rfl | exact as9 rfl | exact as10 rfl | exact as11 rfl) rfl ?_
      refine AL.nil ?_
      refine th_n ?_
      refine AC.ret ?_
      refine bq_r ?_
      exact ret1 rfl (by rw [findI_none (fun j hj => hall j hj (by omega))])
theorem en_indexStr : Enters Try.prog 32 := enters_of Try.func32 rfl rfl
theorem containsStr_spec (l : List (List UInt8)) (hl : l.length ≤ 2000000) (v : List UInt8) : ASpec Try.prog 19 [.d (vStr l), aS (bstr v)] [] (Pure1 (aT (l.any (fun x => decide (v = x))))) := by
  have hI := indexStr_spec l hl v
  refine ASpec.of Try.func19 rfl rfl fun C hC => ?_
  refine AC.seq ?_
  refine AC.region ?_
  refine AL.p (by first | exact as1 rfl | exact as2 rfl | exact as3 rfl | exact as4 rfl | exact as5 rfl | exact as6 rfl | exact as7 rfl | exact as8 rfl | exact as9 rfl | exact as10 rfl | exact as11 rfl) rfl ?_
  refine AL.nil ?_
  refine th_n ?_
  refine AC.seq ?_
  refine AC.region ?_
  refine AL.p (by first | exact mv1 rfl | exact mv2 rfl | exact mv3 rfl | exact mv4 rfl | exact mv5 rfl | exact mv6 rfl | exact mv7 rfl | exact mv8 rfl | exact mv9 rfl | exact mv10 rfl | exact mv11 rfl) rfl ?_
  refine AL.p (by first | exact mv1 rfl | exact mv2 rfl | exact mv3 rfl | exact mv4 rfl | exact mv5 rfl | exact mv6 rfl | exact mv7 rfl | exact mv8 rfl | exact mv9 rfl | exact mv10 rfl | exact mv11 rfl) rfl ?_
  refine AL.q (by exact h_pure en_indexStr rfl rfl (by repeat (first | exact rfl | exact DLead.same | exact DLead.nil | refine ⟨_, _, rfl, ?_, ?_⟩ | refine ⟨_, rfl, ?_⟩)) hI rfl) rfl ?_
  refine AL.p (by first | exact g_cmp rfl rfl rfl | exact g_scmp rfl rfl rfl | exact g_eqB rfl rfl rfl | exact g_neB rfl rfl rfl) rfl ?_
  refine AL.p (by first | exact as1 rfl | exact as2 rfl | exact as3 rfl | exact as4 rfl | exact as5 rfl | exact as6 rfl | exact as7 rfl | exact as8 rfl | exact as9 rfl | exact as10 rfl | exact as11 rfl) rfl ?_
  refine AL.nil ?_
  refine th_n ?_
  refine AC.ret ?_
  refine bq_r ?_
  exact ret1 rfl (by rw [findI_any])
theorem en_containsStr : Enters Try.prog 19 := enters_of Try.func19 rfl rfl
set_option maxHeartbeats 1000000 in
theorem l1HasS_spec (l : List (List UInt8)) (hl : l.length ≤ 2000000) (v : List UInt8) : ASpec Try.prog 25 [.d (vStr l), aS (bstr v)] [] (Pure1 (aT (l.any (fun x => decide (x = v))))) := by
  refine ASpec.of Try.func25 rfl rfl fun C hC => ?_
  refine AC.seq ?_
  refine AC.region ?_
  refine AL.p (by first | exact as1 rfl | exact as2 rfl | exact as3 rfl | exact as4 rfl | exact as5 rfl | exact as6 rfl | exact as7 rfl | exact as8 rfl | exact as9 rfl | exact as10 rfl | exact as11 rfl) rfl ?_
  refine AL.nil ?_
  refine th_n ?_
  refine AC.seq ?_
  refine AC.seq ?_
  refine AC.region ?_
  refine AL.p (by first | exact mv1 rfl | exact mv2 rfl | exact mv3 rfl | exact mv4 rfl | exact mv5 rfl | exact mv6 rfl | exact mv7 rfl | exact mv8 rfl | exact mv9 rfl | exact mv10 rfl | exact mv11 rfl) rfl ?_
  refine AL.p (by first | exact g_len_view rfl rfl (by first | exact List.length_map _ | rfl) | exact g_len_str rfl rfl rfl | exact g_len_nil rfl rfl | exact g_len_own (sz := 1) (els := []) (e' := 0) rfl rfl (by simp only [maxLen]; omega) | exact g_len_tight rfl rfl (by first | exact List.length_map _ | rfl)) rfl ?_
  refine AL.p (by first | exact mv1 rfl | exact mv2 rfl | exact mv3 rfl | exact mv4 rfl | exact mv5 rfl | exact mv6 rfl | exact mv7 rfl | exact mv8 rfl | exact mv9 rfl | exact mv10 rfl | exact mv11 rfl) rfl ?_
  refine AL.nil ?_
  refine th_n ?_
  refine AC.block ?_
  refine AC.loop (ι := Nat) (fun k => ⟨17, 0, [(1, aS (bstr v)), (7, .d (vStr l)), (8, aI l.length), (9, aI k)], []⟩) (fun k => k ≤ l.length ∧ ∀ j (hj : j < l.length), j < k → (fun x => decide (x = v)) l[j] = false) (fun k => l.length - k) (0) ?_ (⟨Nat.zero_le _, fun j _ hj => by omega⟩) ?_
  · refine Weak.ren _ [] hC rfl ?_ ?_ rfl rfl rfl <;> repeat (first | exact True.intro | refine And.intro ?_ ?_ | exact DLead.same | exact DLead.eqI (by omega) | exact DLead.eqI (by dsimp only; omega) | exact DLead.nil | exact rfl)
  · intro k ⟨hk, hall⟩
    refine AC.seq ?_
    refine AC.region ?_
    refine AL.p (by first | exact g_cmp rfl rfl rfl | exact g_scmp rfl rfl rfl | exact g_eqB rfl rfl rfl | exact g_neB rfl rfl rfl) rfl ?_
    refine AL.nil ?_
    refine th_n ?_
    refine AC.seq ?_
    first | refine AC.condD rfl (fun h0 => ?_) (fun h0 => ?_) | refine AC.condND rfl (fun h0 => ?_) (fun h0 => ?_) | refine AC.condB rfl (fun h0 => ?_) (fun h0 => ?_) | refine AC.condNB rfl (fun h0 => ?_) (fun h0 => ?_)
    · refine AC.skip ?_
      refine th_n ?_
      refine AC.seq ?_
      refine AC.block ?_
      refine AC.seq ?_
      have hk1 : k < l.length := by omega
      have hget := strL_get hk1
      refine AC.region ?_
      refine AL.p (by first | exact g_ia_view rfl rfl rfl rfl rfl (by first | rfl | assumption) (by first | assumption | rfl) | exact g_ia_own rfl rfl rfl rfl rfl (by first | rfl | assumption) (by omega) (by first | exact Nat.mul_one _ | rfl | omega)) rfl ?_
      refine AL.p (by first | exact g_load_ref rfl rfl rfl | exact g_load_ptr rfl rfl rfl rfl rfl | exact g_load_refN rfl rfl rfl rfl | exact g_load_ptrN rfl rfl rfl rfl rfl | exact g_load_arr1 rfl rfl rfl rfl (by assumption) | exact g_load_arr rfl rfl rfl rfl (by first | rfl | omega) (by first | assumption | rfl) (by first | assumption | rfl)) rfl ?_
      refine AL.p (by first | exact as1 rfl | exact as2 rfl | exact as3 rfl | exact as4 rfl | exact as5 rfl | exact as6 rfl | exact as7 rfl | exact as8 rfl | exact as9 rfl | exact as10 rfl | exact as11 rfl) rfl ?_
      refine AL.nil ?_
      refine th_n ?_
      refine AC.seq ?_
      refine AC.region ?_
      refine AL.p (by first | exact mv1 rfl | exact mv2 rfl | exact mv3 rfl | exact mv4 rfl | exact mv5 rfl | exact mv6 rfl | exact mv7 rfl | exact mv8 rfl | exact mv9 rfl | exact mv10 rfl | exact mv11 rfl) rfl ?_
      refine AL.p (by first | exact mv1 rfl | exact mv2 rfl | exact mv3 rfl | exact mv4 rfl | exact mv5 rfl | exact mv6 rfl | exact mv7 rfl | exact mv8 rfl | exact mv9 rfl | exact mv10 rfl | exact mv11 rfl) rfl ?_
      refine AL.p (by first | exact g_cmp rfl rfl rfl | exact g_scmp rfl rfl rfl | exact g_eqB rfl rfl rfl | exact g_neB rfl rfl rfl) rfl ?_
      refine AL.nil ?_
      refine th_n ?_
      first | refine AC.condD rfl (fun h1 => ?_) (fun h1 => ?_) | refine AC.condND rfl (fun h1 => ?_) (fun h1 => ?_) | refine AC.condB rfl (fun h1 => ?_) (fun h1 => ?_) | refine AC.condNB rfl (fun h1 => ?_) (fun h1 => ?_)
      · refine AC.seq ?_
        refine AC.region ?_
        refine AL.p (by first | exact as1 rfl | exact as2 rfl | exact as3 rfl | exact as4 rfl | exact as5 rfl | exact as6 rfl | exact as7 rfl | exact as8 rfl | exact as9 rfl | exact as10 rfl | exact as11 rfl) rfl ?_
        refine AL.nil ?_
        refine th_n ?_
        refine AC.ret ?_
        refine ib_r ?_
        refine th_r ?_
        refine th_r ?_
        refine ib_r ?_
        refine th_r ?_
        refine bq_r ?_
        exact ret1 rfl (by rw [List.any_eq_true.2 ⟨_, List.getElem_mem hk1, decide_eq_true (bstr_inj h1)⟩])
      · refine AC.skip ?_
        refine ib_n ?_
        refine th_n ?_
        refine AC.region ?_
        refine AL.p (by first | exact g_arith rfl rfl rfl (by first | exact wrap_i64 (by omega) | exact wrap_u8 (by omega) | exact wrap_u64 (by omega) | rfl) | exact g_sadd rfl rfl (by first | assumption | omega | (simp only [ByteArray.size_append, bstr_size, List.length_take, List.length_drop, List.length_cons, List.length_nil]; omega))) rfl ?_
        refine AL.p (by first | exact mv1 rfl | exact mv2 rfl | exact mv3 rfl | exact mv4 rfl | exact mv5 rfl | exact mv6 rfl | exact mv7 rfl | exact mv8 rfl | exact mv9 rfl | exact mv10 rfl | exact mv11 rfl) rfl ?_
        refine AL.nil ?_
        refine th_n ?_
        exact ⟨k + 1, ⟨by omega, fun j hj hj2 => by rcases Nat.lt_succ_iff_lt_or_eq.1 hj2 with h | rfl; exact hall j hj h; exact decide_eq_false (fun e => h1 (by rw [e]))⟩, by omega, Weak.ren _ [] hC rfl (by repeat (first | exact True.intro | refine And.intro ?_ ?_ | exact DLead.same | exact DLead.eqI (by omega) | exact DLead.eqI (by dsimp only; omega) | exact DLead.nil | exact rfl)) (by repeat (first | exact True.intro | refine And.intro ?_ ?_ | exact DLead.same | exact DLead.eqI (by omega) | exact DLead.eqI (by dsimp only; omega) | exact DLead.nil | exact rfl | refine ⟨_, _, rfl, rfl, ?_⟩ | refine ⟨_, rfl, ?_⟩ | refine ⟨_, _, rfl, ?_, ?_⟩)) rfl rfl rfl⟩
    · refine AC.exit ?_
      refine th_e ?_
      refine th_e ?_
      refine ib_y ?_
      refine th_n ?_
      refine AC.seq ?_
      refine AC.region ?_
      refine AL.p (by first | exact as1 rfl | exact as2 rfl | exact as3 rfl | exact as4 rfl | exact as5 rfl | exact as6 rfl | exact as7 rfl | exact as8 rfl | exact as9 rfl | exact as10 rfl | exact as11 rfl) rfl ?_
      refine AL.nil ?_
      refine th_n ?_
      refine AC.ret ?_
      refine bq_r ?_
      exact ret1 rfl (by rw [List.any_eq_false.2 (fun x hx => by obtain ⟨j, hj, rfl⟩ := List.getElem_of_mem hx; have := hall j hj (by omega); simpa using this)])
theorem en_l1HasS : Enters Try.prog 25 := enters_of Try.func25 rfl rfl
end Go.Proofs.Ytkfpoagjlaldgaa

set_option linter.all false
set_option maxRecDepth 20000
namespace Go.Proofs.Ytkfpoagjlaldgaa
open Go.RowKit

theorem trTy_agree : ∀ d, TyA (trTy d)
  | 0 => fun _ _ _ _ _ _ h => h.elim
  | d + 1 => by
    intro K w w' cs t hk h
    cases t with
    | edge n m => exact h
    | par rows =>
      obtain ⟨v, rfl, h⟩ := h
      exact ⟨v, rfl, h.agree (fun K w w' cs x hk ⟨v, e, h⟩ => ⟨v, e, h.agree (trTy_agree d) hk⟩) hk⟩
theorem tr_agree : TyA tr := fun K w w' cs t => trTy_agree (dep t + 1) K w w' cs t
theorem SL.okV {α : Type} {K : Nat → Prop} {e : TypeId} {t : Ty α} {w : World} {v : Value} {l : List α} (h : SL K e t w v l) : okV v := by
  obtain ⟨a, cap, rfl, _⟩ := h.form
  exact trivial
theorem tup2_rep {m : Nat → Option (Option Nat × Nat)} {F : Nat → Prop} {w : World} {v : Value} (h : okV v) (b : Bool) : ARep m F w (.tup [.d (.val v), aT b]) (.tuple #[v, .bool b]) := by
  refine .tup rfl fun i c hc => ?_
  match i with
  | 0 => obtain rfl := Option.some.inj hc; exact .d (.val h)
  | 1 => obtain rfl := Option.some.inj hc; exact .d (.val trivial)
  | i + 2 => simp at hc
theorem args_str (s : ByteArray) (m : Nat → Option (Option Nat × Nat)) (F : Nat → Prop) (w : World) (vs : Array Value) (hn : vs.size = [aS s].length) (ha : ∀ (i : Nat) x, [aS s][i]? = some x → ARep m F w x (vs.getD i undef)) : vs = #[.string s] := by
  have h0 := (ha 0 _ rfl).val_eq.1
  apply Array.ext
  · rw [hn]; rfl
  · intro i hi1 hi2
    match i with
    | 0 => rw [Array.getD_eq_getD_getElem?, Array.getElem?_eq_getElem hi1] at h0; simpa using h0
    | i + 1 => simp at hi2
/-- The row of a process in blocks of its own, and whether there is one. -/
def RowT (o : Option (List Tr)) : AV → List (Nat × Chunk) → Prop := fun r chs => ∃ v S, r = .tup [.d (.val v), aT o.isSome] ∧ chs = [(0, .pred S fun w => SL S 40 tr w v (o.getD []))]
theorem rowOf_T (s : ByteArray) (hs : s.size ≤ 9223372036854775807) : ASpec Try.prog 14 [aS s] [] (RowT (procOf s)) := by
  refine ASpec.newP (args_str s) fun w => (rowOf_any s w hs).mono ?_
  rintro e w' ⟨v, hf, hm⟩
  cases hp : procOf s with
  | none =>
    rw [hp] at hm
    obtain ⟨rfl, rfl⟩ := hm
    exact ⟨_, _, fun _ => False, _, rfl, ⟨_, _, rfl, rfl⟩, fun m F => tup2_rep (v := .slice none 0 0) trivial false, SL.nil _ _ _ _, fun w w' _ _ => SL.nil _ _ _ _, fun k h => h.elim, hf⟩
  | some ts =>
    rw [hp] at hm
    obtain ⟨rfl, hL⟩ := hm
    exact ⟨_, _, _, _, rfl, ⟨_, _, rfl, rfl⟩, fun m F => tup2_rep hL.okV true, hL.bound, fun w w' hk h => h.agree tr_agree hk, fun k h => h, hf⟩
/-- A row in blocks of its own, the row that was lent beside it. -/
def ExpT (v : Value) (S : Nat → Prop) (ts us : List Tr) : AV → List (Nat × Chunk) → Prop := fun r chs => ∃ u S', r = .d (.val u) ∧ chs = [(0, .pred S fun w => SL S 40 tr w v ts), (1, .pred S' fun w => SL S' 40 tr w u us)]
theorem expanded_T (ts : List Tr) (h : okRow ts) (hc : cntRow ts ≤ 10000) (v : Value) (S : Nat → Prop) : ASpec Try.prog 17 [.d (.val v)] [(0, .pred S fun w => SL S 40 tr w v ts)] (ExpT v S ts (expandRow ts)) := by
  refine ASpec.mapP fun w hK => (expanded_any (depRow ts + 1) ts v w (by omega) h hc (hK.mono fun _ _ => trivial)).mono ?_
  rintro e w' ⟨u, rfl, hL, hf⟩
  exact ⟨u, _, _, rfl, hL.okV, ⟨_, _, rfl, rfl⟩, hL.bound, fun w w' hk h => h.agree tr_agree hk, fun k h => h, hf⟩
/-- Parts of a row: names and marks. -/
abbrev partD (x : List UInt8 × UInt8) : List DV := [dS (bstr x.1), .val (.int .u8 (x.2.toNat : Int)), .val (.slice none 0 0)]
abbrev partsL (l : List (List UInt8 × UInt8)) : List (List DV) := l.map partD
abbrev vParts (l : List (List UInt8 × UInt8)) : DV := .view 40 3 (partsL l)
theorem partsL_len (l : List (List UInt8 × UInt8)) : (partsL l).length = l.length := List.length_map _
theorem partsL_get {l : List (List UInt8 × UInt8)} {k : Nat} (h : k < l.length) : (partsL l)[k]? = some (partD l[k]) := by rw [List.getElem?_map, List.getElem?_eq_getElem h]; rfl
def partsP (ts : List Tr) : List (List UInt8 × UInt8) := (partsRow ts).map fun p => (p.1.data.toList, p.2)
theorem partsOf_T (ts : List Tr) (hl : (partsRow ts).length ≤ 100000) (hz : ∀ p, p ∈ partsRow ts → p.2 ≠ 0) (v : Value) (S : Nat → Prop) : ASpec Try.prog 16 [.d (.val v)] [(0, .pred S fun w => SL S 40 tr w v ts)] (Fun1 (.d (vParts (partsP ts))) [(0, .pred S fun w => SL S 40 tr w v ts)]) := by
  refine ASpec.readP fun w hK => (partsOf_any (depRow ts + 1) ts v w (by omega) hl hz (hK.mono fun _ _ => trivial)).mono ?_
  rintro e w' ⟨u, rfl, hL, hf⟩
  refine ⟨u, rfl, ?_, hf⟩
  have e : partsL (partsP ts) = (partsRow ts).map (fun p => [dS p.1, .val (.int .u8 (p.2.toNat : Int)), .val (.slice none 0 0)]) := by
    unfold partsP partsL
    rw [List.map_map]
    exact List.map_congr_left fun p _ => by show [dS (bstr p.1.data.toList), _, _] = _; rw [bstr_of]
  show DRep _ w' (.view 40 3 (partsL (partsP ts))) u
  rw [e]
  refine hL.drep (t := edgeT) _ (fun _ => rfl) fun cs x _ hr j d hd => ?_
  obtain ⟨rfl, hsz⟩ := hr
  match j with
  | 0 => obtain rfl := Option.some.inj hd; exact .val hsz
  | 1 => obtain rfl := Option.some.inj hd; exact .val (wrap_u8 (by have := x.2.toNat_lt; omega))
  | 2 => obtain rfl := Option.some.inj hd; exact .val trivial
  | j + 3 => simp at hd
/-- The table of the reference's reader. -/
abbrev ndD (x : Nd) : List DV := [dS x.word, dT x.row, .view 3 1 (x.kids.map fun i => [dI i])]
abbrev ndsL (l : List Nd) : List (List DV) := l.map ndD
abbrev vNds (l : List Nd) : DV := .view 68 3 (ndsL l)
theorem ndsL_len (l : List Nd) : (ndsL l).length = l.length := List.length_map _
theorem ndsL_get {l : List Nd} {k : Nat} (h : k < l.length) : (ndsL l)[k]? = some (ndD l[k]) := by rw [List.getElem?_map, List.getElem?_eq_getElem h]; rfl
def RdT (s : ByteArray) : AV → List (Nat × Chunk) → Prop := fun r chs => ∃ ns, (∀ ts, procOf s = some ts → ns = layRow 0 ts) ∧ r = .ptr 0 0 ∧ chs = [(0, .cells 51 [aS s, .dead, aT (procOf s).isNone, .d (vNds ns), .dead, .dead])]
theorem l25Read_T (s : ByteArray) (hs : s.size ≤ 9223372036854775807) : ASpec Try.prog 22 [aS s] [] (RdT s) := by
  intro w m Fin vs hfin hn ha hch hinj hm
  obtain rfl := args_str s m Fin w vs hn ha
  refine (read_any s w hs).mono ?_
  rintro e w' ⟨i, bad, ns, most, rfl, ⟨nv, hb, hN⟩, hf, hmm⟩
  have hbad : bad = (procOf s).isNone := by cases hp : procOf s with
    | none => rw [hp] at hmm; exact hmm
    | some ts => rw [hp] at hmm; exact hmm.1
  have hns : ∀ ts, procOf s = some ts → ns = layRow 0 ts := fun ts h => by rw [h] at hmm; exact hmm.2.1
  subst hbad
  have hD : DRep (fun k => w.heap.size < k) w' (vNds ns) nv := by
    refine (hN.sl.mono (K' := fun k => w.heap.size < k) fun k h => h.elim id id).drep (t := nodeT) _ (fun _ => rfl) fun cs x _ hr j d hd => ?_
    obtain ⟨v, rfl, hsz, hk⟩ := hr
    match j with
    | 0 => obtain rfl := Option.some.inj hd; exact .val hsz
    | 1 => obtain rfl := Option.some.inj hd; exact .val trivial
    | 2 =>
      obtain rfl := Option.some.inj hd
      refine hk.drep (t := Ty.int) _ (fun _ => rfl) fun cs x _ hr j d hd => ?_
      obtain ⟨rfl, hI⟩ := hr
      match j with
      | 0 => obtain rfl := Option.some.inj hd; exact .val (wrap_i64 hI)
      | j + 1 => simp at hd
    | j + 3 => simp at hd
  have hblk : w'.heap[w.heap.size]? = some (.cells #[.string s, .int .i64 i, .bool (procOf s).isNone, nv, .int .i64 ((0 : Nat) : Int), .int .i64 (most : Int)] 51 (0, 0)) := hb
  have hlt : w.heap.size < w'.heap.size := lt_of_block hblk
  have hold : ∀ k, k < w.heap.size → w'.heap[k]? = w.heap[k]? := fun k hk => hf.block k hk (by simp)
  obtain ⟨na, nc, rfl⟩ := hN.form
  refine ⟨_, .ptr 0 0, [(0, .cells 51 [aS s, .dead, aT (procOf s).isNone, .d (vNds ns), .dead, .dead])], fun id => if id = 0 then some (some w.heap.size, 0) else none, fun k => (Fin k ∨ (∃ id c p, getL id ([] : List (Nat × Chunk)) = some c ∧ m id = some p ∧ occ p c k) ∨ w.heap.size ≤ k) ∧ k < w'.heap.size ∧ ∀ id c p, getL id [(0, Chunk.cells 51 [aS s, .dead, aT (procOf s).isNone, .d (vNds ns), .dead, .dead])] = some c → (if id = 0 then some (some w.heap.size, 0) else none) = some p → ¬ occ p c k, rfl, ⟨ns, hns, rfl, rfl⟩, fun id p h => absurd h (by simp), fun id h => if_neg (by simp at h; omega), fun k => Iff.rfl, ⟨hf.os, hf.tape, hf.output, hf.size, fun k hk _ => hold k hk⟩, .ptr rfl, fun id c hc => ?_, fun id id' c c' p p' b h1 h2 _ _ _ _ => ?_⟩
  · obtain ⟨rfl, rfl⟩ := getL_one hc
    refine ⟨(some w.heap.size, 0), rfl, .cells hblk rfl (fun i c hc => ?_) (fun i hi => ?_), fun b hb => .inl ?_⟩
    · match i with
      | 0 => obtain rfl := Option.some.inj hc; exact .d (.val hs)
      | 1 => obtain rfl := Option.some.inj hc; exact .dead
      | 2 => obtain rfl := Option.some.inj hc; exact .d (.val trivial)
      | 3 =>
        obtain rfl := Option.some.inj hc
        refine .d (hD.turn fun k hk hlt => ⟨⟨.inr (.inr (Nat.le_of_lt hk)), hlt, fun id c p h1 q1 o1 => ?_⟩, rfl⟩)
        obtain ⟨rfl, rfl⟩ := getL_one h1
        obtain rfl : (some w.heap.size, 0) = p := by simpa using q1
        have := o1.one_cells
        simp only [Option.some.injEq] at this
        omega
      | 4 => obtain rfl := Option.some.inj hc; exact .dead
      | 5 => obtain rfl := Option.some.inj hc; exact .dead
      | i + 6 => simp at hc
    · match i with
      | 0 => rfl
      | 1 => rfl
      | 2 => rfl
      | 3 => rfl
      | 4 => rfl
      | 5 => rfl
      | i + 6 => simp at hi; omega
    · have := hb.one_cells
      simp only [Option.some.injEq] at this
      omega
  · rw [(getL_one h1).1, (getL_one h2).1]
end Go.Proofs.Ytkfpoagjlaldgaa

set_option linter.all false
set_option maxRecDepth 20000
namespace Go.Proofs.Ytkfpoagjlaldgaa
open Go.RowKit

section
variable {P : Program} [PT P]
variable {s : ASt} {dst : Option Nat} {ty : Nat} {pos : String} {af : Array Edge} {gd : Option (Nat × Bool)} {x y : Operand} {t : Nat}
theorem g_saddB {a b : List UInt8} {xt yt : Nat} (hx : s.ev x = aS (bstr a)) (hy : s.ev y = aS (bstr b)) (hl : a.length + b.length ≤ 4611686018427387904) : GOp P [] s ⟨dst, .binOp .add xt x y yt, ty, pos, af, gd⟩ (aS (bstr (a ++ b))) := by
  rw [← bstr_append]
  exact g_sadd hx hy (by rw [bstr_size, bstr_size]; omega)
end
end Go.Proofs.Ytkfpoagjlaldgaa

