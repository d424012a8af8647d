/- A statement whose operations may come in more than one order: all orders end alike. No program is named here. -/
import Derived.Test.YtochebmkfdfbhaaB7
set_option linter.all false
namespace Go.Proofs.Ytochebmkfdfbhaa
open Go.RowKit

def cntF (L : Nat → Bool) : Nat → Nat
  | 0 => 0
  | n + 1 => cntF L n + (if L n then 0 else 1)
theorem cntF_zero {L : Nat → Bool} : ∀ {n : Nat}, cntF L n = 0 → ∀ i, i < n → L i = true
  | n + 1, h, i, hi => by
    simp only [cntF] at h
    by_cases hin : i = n
    · subst hin; cases hL : L i <;> simp [hL] at h ⊢
    · exact cntF_zero (n := n) (by omega) i (by omega)
theorem cntF_set {L L' : Nat → Bool} {i : Nat} (hi0 : L i = false) (hi1 : L' i = true) (hne : ∀ j, j ≠ i → L' j = L j) : ∀ n, (i < n → cntF L' n + 1 = cntF L n) ∧ (n ≤ i → cntF L' n = cntF L n)
  | 0 => by simp [cntF]
  | n + 1 => by
    obtain ⟨h1, h2⟩ := cntF_set hi0 hi1 hne n
    simp only [cntF]
    refine ⟨fun h => ?_, fun h => ?_⟩
    · by_cases hin : n = i
      · subst hin; have := h2 (Nat.le_refl _); simp [hi0, hi1, this]
      · have := h1 (by omega); rw [hne n hin]; omega
    · have := h2 (by omega); rw [hne n (by omega)]; omega
theorem cntF_full (L : Nat → Bool) (h : ∀ i, L i = false) : ∀ n, cntF L n = n
  | 0 => rfl
  | n + 1 => by simp [cntF, cntF_full L h n, h]

theorem goS_cut {L : Nat → Bool} {i : Nat} (hL : ∀ k, L k = true → k < i) : ∀ (os : List Oper) (rs : List ORec) (k : Nat) (x : List (Nat × AV)), goS L k os (rs.take (i - k)) x = goS L k os rs x := by
  have hfalse : ∀ (os : List Oper) (rs : List ORec) (q : Nat) (x : List (Nat × AV)), i ≤ q → goS L q os rs x = x := by
    intro os
    induction os with
    | nil => intro rs q x _; simp [goS]
    | cons o os ih2 =>
      intro rs q x hq
      cases rs with
      | nil => simp [goS]
      | cons r rs =>
        have : L q = false := by cases hh : L q with
          | false => rfl
          | true => have := hL q hh; omega
        simp only [goS, this]
        exact ih2 rs (q + 1) x (by omega)
  intro os
  induction os with
  | nil => intro rs k x; simp [goS]
  | cons o os ih =>
    intro rs k x
    cases rs with
    | nil => simp
    | cons r rs =>
      by_cases hk : k < i
      · rw [show i - k = (i - (k + 1)) + 1 by omega, List.take_succ_cons]
        simp only [goS]
        exact ih rs (k + 1) _
      · have hki : i - k = 0 := by omega
        rw [hki, List.take_zero, hfalse _ (r :: rs) _ _ (by omega)]
        simp [goS]
theorem goC_cut {L : Nat → Bool} {i : Nat} (hL : ∀ k, L k = true → k < i) : ∀ (os : List Oper) (rs : List ORec) (k : Nat) (x : List (Nat × Option Chunk)), goC L k os (rs.take (i - k)) x = goC L k os rs x := by
  have hfalse : ∀ (os : List Oper) (rs : List ORec) (q : Nat) (x : List (Nat × Option Chunk)), i ≤ q → goC L q os rs x = x := by
    intro os
    induction os with
    | nil => intro rs q x _; simp [goC]
    | cons o os ih2 =>
      intro rs q x hq
      cases rs with
      | nil => simp [goC]
      | cons r rs =>
        have : L q = false := by cases hh : L q with
          | false => rfl
          | true => have := hL q hh; omega
        simp only [goC, this]
        exact ih2 rs (q + 1) x (by omega)
  intro os
  induction os with
  | nil => intro rs k x; simp [goC]
  | cons o os ih =>
    intro rs k x
    cases rs with
    | nil => simp
    | cons r rs =>
      by_cases hk : k < i
      · rw [show i - k = (i - (k + 1)) + 1 by omega, List.take_succ_cons]
        simp only [goC]
        exact ih rs (k + 1) _
      · have hki : i - k = 0 := by omega
        rw [hki, List.take_zero, hfalse _ (r :: rs) _ _ (by omega)]
        simp [goC]

section
variable {P : Program} {C : Ctx} {Q : Exit → ASt → Prop} {s : ASt} {ops : List Oper} {anc : List (List Nat)} {recs : List ORec}

theorem anc_lt (h : ancOk ops anc = true) {i j : Nat} (hi : i < ops.length) (hj : j ∈ ancAt anc i) : j < i := by
  simp only [ancOk, List.all_eq_true, List.mem_range] at h
  have := h i hi
  rw [List.getElem?_eq_getElem hi] at this
  simp only [Bool.and_eq_true, List.all_eq_true] at this
  have := (this.2 j hj).1
  simpa using this
theorem deps_lt (h : ancOk ops anc = true) {i d : Nat} {o : Oper} (ho : ops[i]? = some o) (hd : d ∈ deps o) : d < i := by
  have hi := (List.getElem?_eq_some_iff.1 ho).1
  simp only [ancOk, List.all_eq_true, List.mem_range] at h
  have := h i hi
  rw [ho] at this
  simp only [Bool.and_eq_true, List.all_eq_true] at this
  simpa using this.1 d hd
theorem anc_in (h : ancOk ops anc = true) {L : Nat → Bool} (hL : ∀ i o, ops[i]? = some o → L i = true → ∀ d, d ∈ deps o → L d = true) : ∀ n i o, i < n → ops[i]? = some o → (∀ d, d ∈ deps o → L d = true) → ∀ j, j ∈ ancAt anc i → L j = true := by
  intro n
  induction n with
  | zero => intro i o hi; omega
  | succ n ih =>
    intro i o hi ho hd j hj
    have hil := (List.getElem?_eq_some_iff.1 ho).1
    have h' := h
    simp only [ancOk, List.all_eq_true, List.mem_range] at h'
    have := h' i hil
    rw [ho] at this
    simp only [Bool.and_eq_true, List.all_eq_true, Bool.or_eq_true, List.any_eq_true] at this
    rcases (this.2 j hj).2 with h1 | ⟨k, h1, h2⟩
    · exact hd j (by simpa using h1)
    · have hk := deps_lt h ho h1
      have hkl : k < ops.length := by omega
      exact ih k ops[k] (by omega) (List.getElem?_eq_getElem hkl) (hL k _ (List.getElem?_eq_getElem hkl) (hd k h1)) j (by simpa using h2)

def UL (s : ASt) (n : Nat) (L : Nat → Bool) (j : Nat) : Prop := s.nx + 8 * n ≤ j ∨ ∃ i, i < n ∧ L i = false ∧ s.nx + 8 * i ≤ j ∧ j < s.nx + 8 * i + 8

theorem indep_of (h : indepOk ops anc recs = true) {i j : Nat} {oi oj : Oper} {ri rj : ORec} (hi : ops[i]? = some oi) (hj : ops[j]? = some oj) (hri : recs[i]? = some ri) (hrj : recs[j]? = some rj) (hne : i ≠ j) (h1 : j ∉ ancAt anc i) (h2 : i ∉ ancAt anc j) :
    (∀ d, oj.dst = some d → d ∉ looksT ops oi ∧ oi.dst ≠ some d) ∧ (∀ id, id ∈ keysU rj.1 → id ∉ ri.2 ∧ id ∉ keysU ri.1) := by
  simp only [indepOk, List.all_eq_true, List.mem_range] at h
  have := h i (List.getElem?_eq_some_iff.1 hi).1 j (List.getElem?_eq_some_iff.1 hj).1
  rw [hi, hj, hri, hrj] at this
  simp only [Bool.or_eq_true, beq_iff_eq, List.contains_eq_mem, decide_eq_true_eq] at this
  rcases this with ((h3 | h3) | h3) | h3
  · exact absurd h3 hne
  · exact absurd h3 h1
  · exact absurd h3 h2
  · simp only [Bool.and_eq_true, disj, List.all_eq_true, Bool.not_eq_true', List.contains_eq_mem, decide_eq_false_iff_not] at h3
    obtain ⟨⟨⟨a, b⟩, c⟩, d⟩ := h3
    refine ⟨fun x hx => ⟨a x (by simp [hx]), fun he => b x (by simp [hx]) (by simp [he])⟩, fun id hid => ⟨c id hid, d id hid⟩⟩
theorem keysU_none {u : Upd} {id : Nat} (h : id ∉ keysU u) : getL id u.ch = none := by
  unfold keysU at h
  generalize u.ch = l at h
  induction l with
  | nil => rfl
  | cons p l ih =>
    obtain ⟨j, x⟩ := p
    simp only [List.map_cons, List.mem_cons, not_or] at h
    rw [getL_cons, if_neg h.1]
    exact ih h.2
theorem keysU_of {u : Upd} {id : Nat} (h : getL id u.ch ≠ none) : id ∈ keysU u := by
  by_cases hm : id ∈ keysU u
  · exact hm
  · exact absurd (keysU_none hm) h

theorem dr_any (hanc : ancOk ops anc = true) (hlen : recs.length = ops.length) (hind : indepOk ops anc recs = true) (hfin : Q .normal (mkS s (fun _ => true) ops recs))
    (hstep : ∀ i o r, ops[i]? = some o → recs[i]? = some r → dstOk o.dst s.n = true ∧ StepOk P ops (mkS s (fun k => memL k (ancAt anc i)) ops (recs.take i)) o r.2 (s.nx + 8 * i) r.1) :
    ∀ (fuel : Nat) (listed : Array Bool) (a : Act) (w : World) (m : Nat → Option (Option Nat × Nat)), listed.size = ops.length → cntF (fun i => listed.getD i false) ops.length = fuel → (∀ i o, ops[i]? = some o → listed.getD i false = true → ∀ d, d ∈ deps o → listed.getD d false = true) →
      RelM C (UL s ops.length (fun i => listed.getD i false)) (mkS s (fun i => listed.getD i false) ops recs) a w m → wpAny P .any ops.toArray (Qc C Q) fuel listed a w := by
  have hready : ∀ (listed : Array Bool), listed.size = ops.length → ∀ i, i ∈ Region.ready .any ops.toArray listed ↔ ∃ o, ops[i]? = some o ∧ listed.getD i false = false ∧ ∀ d, d ∈ deps o → listed.getD d false = true := by
    intro listed hsz i
    rw [mem_ready]
    have hg : ∀ i, i < ops.length → listed.getD i true = listed.getD i false := fun i hi => by simp [Array.getD_eq_getD_getElem?, show i < listed.size by omega]
    constructor
    · rintro ⟨h0, o, ho, hall⟩
      have ho' : ops[i]? = some o := by simpa using ho
      refine ⟨o, ho', by rw [← hg i (List.getElem?_eq_some_iff.1 ho').1]; exact h0, fun d hd => ?_⟩
      simp only [deps, List.mem_map, List.mem_filter] at hd
      obtain ⟨e, ⟨he, hb⟩, rfl⟩ := hd
      exact hall e (by simpa using he) hb
    · rintro ⟨o, ho, h0, hall⟩
      refine ⟨by rw [hg i (List.getElem?_eq_some_iff.1 ho).1]; exact h0, o, by simpa using ho, fun e he hb => hall e.on ?_⟩
      simp only [deps, List.mem_map, List.mem_filter]
      exact ⟨e, ⟨by simpa using he, hb⟩, rfl⟩
  have hnone : ∀ (listed : Array Bool), listed.size = ops.length → Region.ready .any ops.toArray listed = [] → ∀ i, i < ops.length → listed.getD i false = true := by
    intro listed hsz hr i
    induction i using Nat.strongRecOn with
    | _ i ih =>
      intro hi
      cases hL : listed.getD i false with
      | true => rfl
      | false =>
        have ho := List.getElem?_eq_getElem hi
        have : i ∈ Region.ready .any ops.toArray listed := (hready listed hsz i).2 ⟨_, ho, hL, fun d hd => ih d (deps_lt hanc ho hd) (by have := deps_lt hanc ho hd; omega)⟩
        rw [hr] at this; cases this
  have hend : ∀ (listed : Array Bool) a w m, (∀ i, i < ops.length → listed.getD i false = true) → RelM C (UL s ops.length (fun i => listed.getD i false)) (mkS s (fun i => listed.getD i false) ops recs) a w m → Qc C Q .normal a w := by
    intro listed a w m hall hR
    refine ⟨mkS s (fun _ => true) ops recs, ⟨m, hR.weaken (s' := mkS s (fun _ => true) ops recs) rfl (fun t => .inr ?_) (fun id c hc => ?_) (fun j hj => .inl hj)⟩, hfin⟩
    · show (getL t (goS _ 0 ops recs s.sl)).getD .dead = (getL t (goS _ 0 ops recs s.sl)).getD .dead
      rw [goS_same (L := fun _ => true) (L' := fun i => listed.getD i false) ops recs 0 s.sl s.sl (fun i o hi _ => by simp only [Nat.zero_add]; exact (hall i (List.getElem?_eq_some_iff.1 hi).1).symm) rfl]
    · have : (mkS s (fun _ => true) ops recs).chunk id = (mkS s (fun i => listed.getD i false) ops recs).chunk id := by
        show (getL id (goC _ 0 ops recs s.ch)).getD none = (getL id (goC _ 0 ops recs s.ch)).getD none
        rw [goC_same (L := fun _ => true) (L' := fun i => listed.getD i false) ops recs 0 s.ch s.ch (fun i r hi _ => by simp only [Nat.zero_add]; exact (hall i (by have := (List.getElem?_eq_some_iff.1 hi).1; omega)).symm) rfl]
      rw [← this]; exact hc
  intro fuel
  induction fuel with
  | zero =>
    intro listed a w m hsz hcnt hcl hR
    have hall : ∀ i, i < ops.length → listed.getD i false = true := fun i hi => cntF_zero hcnt i hi
    refine ⟨?_, hend listed a w m hall hR⟩
    cases hr : Region.ready .any ops.toArray listed with
    | nil => rfl
    | cons i l =>
      obtain ⟨o, ho, h0, _⟩ := (hready listed hsz i).1 (by rw [hr]; simp)
      rw [hall i (List.getElem?_eq_some_iff.1 ho).1] at h0; cases h0
  | succ fuel ih =>
    intro listed a w m hsz hcnt hcl hR
    refine ⟨fun hr => hend listed a w m (hnone listed hsz hr) hR, fun i hi => ?_⟩
    obtain ⟨o, ho, h0, hd⟩ := (hready listed hsz i).1 hi
    have hil := (List.getElem?_eq_some_iff.1 ho).1
    obtain ⟨r, hr⟩ : ∃ r, recs[i]? = some r := ⟨_, List.getElem?_eq_getElem (by omega)⟩
    obtain ⟨hdst, hst⟩ := hstep i o r ho hr
    have hanci : ∀ j, j ∈ ancAt anc i → listed.getD j false = true := anc_in (L := fun i => listed.getD i false) hanc hcl (i + 1) i o (by omega) ho hd
    have hdesc : ∀ j, j < ops.length → i ∈ ancAt anc j → listed.getD j false = false := by
      intro j hj hij
      cases hL : listed.getD j false with
      | false => rfl
      | true =>
        have hoj := List.getElem?_eq_getElem hj
        have := anc_in (L := fun i => listed.getD i false) hanc hcl (j + 1) j _ (by omega) hoj (hcl j _ hoj hL) i hij
        rw [h0] at this; cases this
    have hL' : ∀ j, (listed.setIfInBounds i true).getD j false = (listed.getD j false || j == i) := by
      intro j
      by_cases hj : j = i
      · subst hj; simp [Array.getD_eq_getD_getElem?, show j < listed.size by omega]
      · simp [Array.getD_eq_getD_getElem?, Array.getElem?_setIfInBounds_ne (Ne.symm hj), hj]
    have hlt : ∀ k, memL k (ancAt anc i) = true → k < i := fun k hk => anc_lt hanc hil (memL_iff.1 hk)
    have hsame : ∀ k, k < ops.length → (k ∉ ancAt anc i → i ∉ ancAt anc k → k ≠ i → False) → listed.getD k false = memL k (ancAt anc i) := by
      intro k hkl hex
      by_cases hka : k ∈ ancAt anc i
      · rw [hanci k hka]; exact (memL_iff.2 hka).symm
      · have e1 : memL k (ancAt anc i) = false := memL_not.2 hka
        rw [e1]
        by_cases hki : k = i
        · subst hki; exact h0
        · by_cases hik : i ∈ ancAt anc k
          · exact hdesc k hkl hik
          · exact (hex hka hik hki).elim
    have hagr : AgrT ops r.2 o (mkS s (fun k => memL k (ancAt anc i)) ops (recs.take i)) (mkS s (fun i => listed.getD i false) ops recs) := by
      refine ⟨rfl, fun t ht => ?_, fun id hid => ?_⟩
      · show (getL t (goS _ 0 ops recs s.sl)).getD .dead = (getL t (goS _ 0 ops (recs.take i) s.sl)).getD .dead
        have := goS_cut hlt ops recs 0 s.sl
        rw [Nat.sub_zero] at this
        rw [this, goS_same (L := fun i => listed.getD i false) (L' := fun k => memL k (ancAt anc i)) ops recs 0 s.sl s.sl (fun k ok hk hdk => ?_) rfl]
        simp only [Nat.zero_add]
        have hkl := (List.getElem?_eq_some_iff.1 hk).1
        refine hsame k hkl (fun hka hik hki => ?_)
        obtain ⟨rk, hrk⟩ : ∃ rk, recs[k]? = some rk := ⟨_, List.getElem?_eq_getElem (by omega)⟩
        exact absurd ht ((indep_of hind ho hk hr hrk (Ne.symm hki) hka hik).1 t hdk).1
      · show (getL id (goC _ 0 ops recs s.ch)).getD none = (getL id (goC _ 0 ops (recs.take i) s.ch)).getD none
        have := goC_cut hlt ops recs 0 s.ch
        rw [Nat.sub_zero] at this
        rw [this, goC_same (L := fun i => listed.getD i false) (L' := fun k => memL k (ancAt anc i)) ops recs 0 s.ch s.ch (fun k rk hrk hdk => ?_) rfl]
        simp only [Nat.zero_add]
        have hkl : k < ops.length := by have := (List.getElem?_eq_some_iff.1 hrk).1; omega
        refine hsame k hkl (fun hka hik hki => ?_)
        exact absurd hid ((indep_of hind ho (List.getElem?_eq_getElem hkl) hr hrk (Ne.symm hki) hka hik).2 id (keysU_of hdk)).1
    have hnext : ∀ a' w' m', RelM C (UL s ops.length (fun j => (listed.setIfInBounds i true).getD j false)) ((mkS s (fun i => listed.getD i false) ops recs).app o.dst r.1) a' w' m' → wpAny P .any ops.toArray (Qc C Q) fuel (listed.setIfInBounds i true) a' w' := by
      intro a' w' m' hR'
      refine ih (listed.setIfInBounds i true) a' w' m' (by simpa using hsz) ?_ ?_ ?_
      · have := (cntF_set (L := fun i => listed.getD i false) (L' := fun j => (listed.setIfInBounds i true).getD j false) (i := i) h0 (by simp only [hL']; simp) (fun j hj => by simp only [hL']; simp [hj]) ops.length).1 hil
        omega
      · intro k ok hk hLk d hdd
        rw [hL'] at hLk ⊢
        simp only [Bool.or_eq_true, beq_iff_eq] at hLk ⊢
        rcases hLk with h | h
        · exact .inl (hcl k ok hk h d hdd)
        · subst h
          rw [ho] at hk
          obtain rfl : o = ok := by simpa using hk
          exact .inl (hd d hdd)
      · have e1 : (fun j => (listed.setIfInBounds i true).getD j false) = (fun j => (fun k => listed.getD k false) j || j == i) := funext hL'
        refine hR'.weaken (by rw [ASt.n_app]; rfl) (fun t => .inr ?_) (fun id c hc => ?_) (fun j hj => hj)
        · rw [ASt.get_app]
          show (getL t (goS (fun j => (listed.setIfInBounds i true).getD j false) 0 ops recs s.sl)).getD .dead = _
          rw [e1, goS_more (L := fun k => listed.getD k false) (i := i) (r0 := r) ops recs 0 s.sl o (Nat.zero_le _) (by simpa using ho) (by simpa using hr) (fun j oj hj hij hLj hdj hdi => ?_)]
          · by_cases hdt : o.dst = some t
            · rw [if_pos hdt, if_pos hdt]; rfl
            · rw [if_neg hdt, if_neg hdt]; rfl
          · rw [Nat.zero_add] at hij hLj
            have hjl := (List.getElem?_eq_some_iff.1 hj).1
            obtain ⟨rj, hrj⟩ : ∃ rj, recs[j]? = some rj := ⟨_, List.getElem?_eq_getElem (by omega)⟩
            by_cases hja : j ∈ ancAt anc i
            · have := anc_lt hanc hil hja; omega
            · by_cases hij2 : i ∈ ancAt anc j
              · rw [hdesc j hjl hij2] at hLj; cases hLj
              · exact ((indep_of hind ho hj hr hrj (by omega) hja hij2).1 t hdj).2 hdi
        · rw [ASt.chunk_app]
          have hc2 : (getL id (goC (fun j => (listed.setIfInBounds i true).getD j false) 0 ops recs s.ch)).getD none = some c := hc
          rw [e1, goC_more (t := id) (L := fun k => listed.getD k false) (i := i) (r0 := r) ops recs 0 s.ch hlen.symm (Nat.zero_le _) (by simpa using hr) (fun j rj hrj hij hLj hdj => ?_)] at hc2
          · cases hg : getL id r.1.ch with
            | some x => rw [hg] at hc2; simpa using hc2
            | none => rw [hg] at hc2; rw [Option.none_or] at hc2; exact hc2
          · rw [Nat.zero_add] at hij hLj
            have hjl : j < ops.length := by have := (List.getElem?_eq_some_iff.1 hrj).1; omega
            by_cases hja : j ∈ ancAt anc i
            · have := anc_lt hanc hil hja; omega
            · by_cases hij2 : i ∈ ancAt anc j
              · rw [hdesc j hjl hij2] at hLj; cases hLj
              · exact keysU_none ((indep_of hind ho (List.getElem?_eq_getElem hjl) hr hrj (by omega) hja hij2).2 id (keysU_of hdj)).2
    have hU1 : ∀ k, k < 8 → UL s ops.length (fun i => listed.getD i false) (s.nx + 8 * i + k) := fun k hk => .inr ⟨i, hil, h0, by omega, by omega⟩
    have hU2 : ∀ j, UL s ops.length (fun j => (listed.setIfInBounds i true).getD j false) j → UL s ops.length (fun i => listed.getD i false) j ∧ (j < s.nx + 8 * i ∨ s.nx + 8 * i + 8 ≤ j) := by
      rintro j (hj | ⟨k, hk, hLk, h1, h2⟩)
      · exact ⟨.inl hj, .inr (by omega)⟩
      · have hLk' : (listed.getD k false || k == i) = false := by rw [← hL']; exact hLk
        simp only [Bool.or_eq_false_iff, beq_eq_false_iff_ne] at hLk'
        exact ⟨.inr ⟨k, hk, hLk'.1, h1, h2⟩, by omega⟩
    have hoa : ops.toArray[i]? = some o := by simpa using ho
    have hrun : NOp P r.2 (mkS s (fun k => memL k (ancAt anc i)) ops (recs.take i)) o (s.nx + 8 * i) r.1 → o.wp P a w (wpAny P .any ops.toArray (Qc C Q) fuel (listed.setIfInBounds i true)) (Qc C Q) := fun hn =>
      hn.run _ hagr.agr C _ _ a w m hR hU1 hU2 hdst _ _ hnext
    have hyield : ∀ j t b, ((ops[j]?).bind (·.dst)) = some t → Nat.blt t s.n = true → (mkS s (fun i => listed.getD i false) ops recs).get t = aT b → yielded ops.toArray a.tmps j = some b := by
      intro j t b h1 h2 h3
      have := hR.sl t
      rw [h3] at this
      have hv := this.val_eq.1
      have hlt : t < a.tmps.size := by rw [hR.sz]; simpa [mkS] using h2
      have h4 : a.tmps[t]? = some (.bool b) := by
        rw [Array.getElem?_eq_getElem hlt]
        rw [Array.getD_eq_getD_getElem?, Array.getElem?_eq_getElem hlt] at hv
        simpa using hv
      simp [yielded, h1, h4]
    have hskip : r.1 = ⟨.und, []⟩ → wpAny P .any ops.toArray (Qc C Q) fuel (listed.setIfInBounds i true) (a.put o.dst undef) w := by
      intro hu
      refine hnext _ _ m ?_
      rw [hu]
      exact (hR.setSlot (x := .und) (v := undef) hdst .und).weaken rfl (fun _ => .inr rfl) (fun _ _ h => h) (fun j hj => (hU2 j hj).1)
    have hlook : ∀ j w t, o.guard = some (j, w) → ((ops[j]?).bind (·.dst)) = some t → t ∈ looksT ops o := by
      intro j w t h1 h2
      refine List.mem_append_right _ ?_
      rw [h1]; simp [h2]
    unfold wpOp
    rw [hoa]
    simp only
    cases hst with
    | free hg hn => rw [if_pos (by simp [Region.wanted, hg])]; exact .inl (hrun hn)
    | @yes j t b hg ht htn hs hn =>
      rw [if_pos (by simp [Region.wanted, hg, hyield j t b ht htn ((hagr.get t (hlook j b t hg ht)).trans hs)])]
      exact .inl (hrun hn)
    | @no j t b b' hg ht htn hs hb hu =>
      rw [if_neg (by simp [Region.wanted, hg, hyield j t b' ht htn ((hagr.get t (hlook j b t hg ht)).trans hs), hb])]
      exact hskip hu
    | @noU j t b hg ht hs hu =>
      have hux := hR.sl t
      rw [(hagr.get t (hlook j b t hg ht)).trans hs] at hux
      have hy : yielded ops.toArray a.tmps j = none := by
        generalize hv : a.tmps.getD t undef = v at hux
        cases hux
        have ht' : ((ops.toArray[j]?).bind (·.dst)) = some t := by simpa using ht
        unfold yielded
        rw [ht']
        rw [Array.getD_eq_getD_getElem?] at hv
        simp only [Option.bind_some]
        cases hq : a.tmps[t]? with
        | none => rfl
        | some v => rw [hq] at hv; simp only [Option.getD_some] at hv; subst hv; rfl
      rw [if_neg (by simp [Region.wanted, hg, hy])]
      exact hskip hu

/-- The statement as a whole. -/
theorem AC.drawn {id : Nat} (hm : P.follows .mixedOrders = true) (anc : List (List Nat)) (hanc : ancOk ops anc = true) (h : Dr P ops anc s Q []) : ACode P C (.region id ops.toArray true) Q s := by
  refine ⟨fun a w hR => ?_⟩
  obtain ⟨m, hR⟩ := hR
  obtain ⟨full, _, g2, g3, g4, g5⟩ := h.all
  refine wp_region_any hm ?_
  have hrep : ∀ i, (Array.replicate ops.toArray.size false).getD i false = false := fun i => by
    simp only [Array.getD_eq_getD_getElem?, Array.getElem?_replicate]
    split <;> rfl
  have e1 : (fun i => (Array.replicate ops.toArray.size false).getD i false) = (fun _ => false) := funext hrep
  refine dr_any (recs := full) (anc := anc) hanc g2 g3 g4 (fun i o r ho hr => g5 i o r (Nat.zero_le _) ho hr) ops.toArray.size _ a _ m (by simp) (by rw [e1, cntF_full _ (fun _ => rfl)]; simp) (fun i o _ h => by rw [hrep] at h; cases h) ?_
  rw [e1]
  have hS : ∀ (os : List Oper) (rs : List ORec) (k : Nat) (x : List (Nat × AV)), goS (fun _ => false) k os rs x = x := by
    intro os
    induction os with
    | nil => intro rs k x; simp [goS]
    | cons o os ih => intro rs k x; cases rs <;> simp [goS, ih]
  have hC : ∀ (os : List Oper) (rs : List ORec) (k : Nat) (x : List (Nat × Option Chunk)), goC (fun _ => false) k os rs x = x := by
    intro os
    induction os with
    | nil => intro rs k x; simp [goC]
    | cons o os ih => intro rs k x; cases rs <;> simp [goC, ih]
  have := hR.drewN 1
  refine RelM.weaken (s := s) (U := fun id => s.nx ≤ id) (w := { w with drawn := w.drawn + 1 }) this rfl (fun t => .inr ?_) (fun id c hc => ?_) (fun j hj => ?_)
  · show (getL t (goS _ 0 ops full s.sl)).getD .dead = _
    rw [hS]; rfl
  · have h2 : (getL id (goC (fun _ => false) 0 ops full s.ch)).getD none = some c := hc
    rw [hC] at h2; exact h2
  · rcases hj with h | ⟨i, _, _, h1, _⟩
    · show s.nx ≤ j; omega
    · show s.nx ≤ j; omega
end
end Go.Proofs.Ytochebmkfdfbhaa
