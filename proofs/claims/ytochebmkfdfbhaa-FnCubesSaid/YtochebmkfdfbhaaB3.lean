/- A function's body meets its contract; readings said in other words. No program is named here. -/
import Derived.Test.YtochebmkfdfbhaaB2
set_option linter.all false
namespace Go.Proofs.Ytochebmkfdfbhaa
open Go.RowKit

section
variable {P : Program} [PT P] {C : Ctx} {Q : Exit → ASt → Prop} {s : ASt} {ops : Array Oper}
variable {U : Nat → Prop} {a : Act} {w : World} {m : Nat → Option (Option Nat × Nat)}

def resRun (P : Program) (tmps : Array Value) : ResultVar → Sem Value
  | .tmp t => pure (tmps.getD t undef)
  | .cell a t => do loadVar t (← asAddr (tmps.getD a undef))
theorem resOne_run (hR : RelM C U s a w m) {r : ResultVar} {x : AV} (h : resOne P s r = some x) : ∃ v, (resRun P a.tmps r).run P w = .ok v w ∧ ARep m (Fz C m s w) w x v := by
  cases r with
  | tmp t =>
    simp only [resOne, Option.some.injEq] at h
    subst h
    exact ⟨_, rfl, hR.sl t⟩
  | cell t ty =>
    simp only [resOne] at h
    have hs := hR.sl t
    split at h
    · rename_i id hg
      rw [hg] at hs
      split at h
      · rename_i tt cs ts hc hty
        generalize hv : a.tmps.getD t undef = v at hs
        cases hs with
        | ptr hp =>
          have hC := hR.chunkAt hc hp
          cases hC with
          | cells hb hsz he h1 =>
            rename_i b cap arr
            cases hrow : ts.kind.isRow with
            | true =>
              rw [hrow] at h
              simp only [cond_true] at h
              cases hl : Nat.beq cs.length ts.size with
              | false => simp [hl] at h
              | true =>
                simp only [hl, cond_true, Option.some.injEq] at h
                subst h
                have hl' : cs.length = ts.size := by simpa using hl
                obtain ⟨d, hd, hdr⟩ := PT.row hty hrow
                have hrange : w.rangeAt b 0 arr.toList := fun j v hj => by
                  rw [Nat.zero_add]; simp only [Array.getElem?_toList] at hj; simp [World.cell?, hb, hj]
                have := run_loadVar_mid (P := P) w b 0 ty arr.toList d hrange hd hdr (by rw [PT.info hty]; simp [hsz, hl'])
                exact ⟨.agg arr, by simp only [resRun, hv, asAddr, Sem.run_bind, Sem.run_pure, Result.andThen_ok, this], .agg hsz he h1⟩
            | false =>
              rw [hrow] at h
              simp only [cond_false] at h
              cases cs with
              | nil => simp at h
              | cons c cs =>
                simp only [List.head?_cons, Option.some.injEq] at h
                subst h
                have hcell := cell_getD (i := 0) hb (by rw [hsz]; simp)
                refine ⟨arr.getD 0 undef, ?_, he 0 c rfl⟩
                simp [resRun, hv, asAddr, loadVar, PT.notRow hty hrow w, load, Sem.run, hcell]
      · cases h
    · cases h
theorem resL_run (hR : RelM C U s a w m) : ∀ {l : List ResultVar} {xs : List AV}, resL P s l = some xs → ∃ vs : List Value, (l.mapM (resRun P a.tmps)).run P w = .ok vs w ∧ vs.length = xs.length ∧ ∀ (i : Nat) x, xs[i]? = some x → ARep m (Fz C m s w) w x (vs.getD i undef)
  | [], xs, h => by
    simp only [resL, Option.some.injEq] at h
    subst h
    exact ⟨[], by simp, rfl, by simp⟩
  | r :: l, xs, h => by
    simp only [resL] at h
    cases h1 : resOne P s r with
    | none => simp [h1] at h
    | some x =>
      cases h2 : resL P s l with
      | none => simp [h1, h2] at h
      | some xs' =>
        simp only [h1, h2, Option.some.injEq] at h
        subst h
        obtain ⟨v, e1, e2⟩ := resOne_run hR h1
        obtain ⟨vs, e3, e4, e5⟩ := resL_run hR h2
        refine ⟨v :: vs, by simp [List.mapM_cons, e1, e3], by simp [e4], fun i y hy => ?_⟩
        cases i with
        | zero => simp at hy; subst hy; exact e2
        | succ i => simpa using e5 i y (by simpa using hy)
theorem results_run (hR : RelM C U s a w m) {fn : Func} {x : AV} (h : resAV P s fn.results.toList = some x) : ∃ v, (results fn a.tmps).run P w = .ok v w ∧ ARep m (Fz C m s w) w x v := by
  unfold resAV at h
  have key : ∀ xs, resL P s fn.results.toList = some xs → ∃ vs : Array Value, (fn.results.mapM (resRun P a.tmps)).run P w = .ok vs w ∧ vs.size = xs.length ∧ ∀ (i : Nat) x, xs[i]? = some x → ARep m (Fz C m s w) w x (vs.getD i undef) := by
    intro xs hx
    obtain ⟨vs, e1, e2, e3⟩ := resL_run hR hx
    refine ⟨vs.toArray, ?_, by simpa using e2, fun i x hx => ?_⟩
    · rw [Array.mapM_eq_mapM_toList]
      show Sem.run P (List.mapM (resRun P a.tmps) fn.results.toList >>= fun x => pure x.toArray) w = _
      simp [Sem.run_bind, e1]
    · have := e3 i x hx
      simpa [Array.getD_eq_getD_getElem?, List.getD] using this
  have hdef : (results fn a.tmps) = (fn.results.mapM (resRun P a.tmps)) >>= fun vs => pure (if h : vs.size = 1 then vs[0] else .tuple vs) := by
    have hfun : (resRun P a.tmps) = (fun r => match r with
        | .tmp t => pure (a.tmps.getD t undef)
        | .cell b t => do loadVar t (← asAddr (a.tmps.getD b undef))) := by funext r; cases r <;> rfl
    rw [hfun]
    rfl
  rw [hdef]
  split at h
  · rename_i y hy
    simp only [Option.some.injEq] at h
    subst h
    obtain ⟨vs, e1, e2, e3⟩ := key _ hy
    have hs : vs.size = 1 := by simpa using e2
    refine ⟨vs[0], by simp [Sem.run_bind, e1, hs], ?_⟩
    have := e3 0 y rfl
    simpa [Array.getD_eq_getD_getElem?, hs] using this
  · rename_i xs hne hy
    simp only [Option.some.injEq] at h
    subst h
    obtain ⟨vs, e1, e2, e3⟩ := key _ hy
    have hs : ¬ vs.size = 1 := by
      intro h1
      rw [e2] at h1
      match xs, h1 with
      | [y], _ => exact hne y rfl
    exact ⟨.tuple vs, by simp [Sem.run_bind, e1, hs], .tup e2 e3⟩
  · cases h

/-- A body that ends as its contract says. -/
theorem ASpec.of {f : FuncId} {fn : Func} {c : Code} {args : List AV} {chs : List (Nat × Chunk)} {R : AV → List (Nat × Chunk) → Prop} (hf : P.funcs[f]? = some fn) (hb : fn.body = some c) (hn : Nat.ble args.length fn.ntmps = true)
    (h : ∀ C : Ctx, C.k = chs.length → ACode P C c (BodyQ P fn chs.length R) (entry fn.ntmps args chs)) : ASpec P f args chs R := by
  intro w m Fin vs hFin hsz hargs hchs hinj hun
  have hn : args.length ≤ fn.ntmps := by simpa using hn
  have hkey : ∀ (l : List (Nat × Chunk)) id, (∃ c, (id, c) ∈ l) → ∃ c, getL id l = some c := by
    intro l id ⟨c, hc⟩
    induction l with
    | nil => cases hc
    | cons q l ih =>
      obtain ⟨j, d⟩ := q
      rw [getL_cons]
      by_cases hij : id = j
      · exact ⟨d, by rw [if_pos hij]⟩
      · rw [if_neg hij]
        rcases List.mem_cons.1 hc with h | h
        · simp only [Prod.mk.injEq] at h; exact absurd h.1 hij
        · exact ih h
  have hmem : ∀ (l : List (Nat × Chunk)) id c, getL id l = some c → (id, c) ∈ l := by
    intro l id c hc
    induction l with
    | nil => simp [getL] at hc
    | cons q l ih =>
      obtain ⟨j, d⟩ := q
      rw [getL_cons] at hc
      split at hc
      · rename_i e; simp only [Option.some.injEq] at hc; subst e; subst hc; simp
      · exact List.mem_cons_of_mem _ (ih hc)
  obtain ⟨S, hS⟩ : ∃ S : List Nat, ∀ b, b ∈ S ↔ ∃ id c p, getL id chs = some c ∧ m id = some p ∧ p.1 = some b := by
    refine ⟨chs.filterMap fun p => (m p.1).bind (·.1), fun b => ?_⟩
    simp only [List.mem_filterMap]
    constructor
    · rintro ⟨⟨id, c⟩, h1, h2⟩
      obtain ⟨c', hc'⟩ := hkey chs id ⟨c, h1⟩
      cases hm : m id with
      | none => simp [hm] at h2
      | some p => simp only [hm, Option.bind_some] at h2; exact ⟨id, c', p, hc', hm, h2⟩
    · rintro ⟨id, c, p, h1, h2, h3⟩
      exact ⟨(id, c), hmem _ _ _ h1, by simp [h2, h3]⟩
  have hchunk : ∀ id, (entry fn.ntmps args chs).chunk id = getL id chs := fun id => getL_chL id chs
  have hget : ∀ i, (entry fn.ntmps args chs).get i = (args[i]?).getD .dead := fun i => by
    show (getL i (slL 0 args)).getD .dead = _
    rw [getL_slL]; simp
  have hR0 : RelM ⟨w, Fin, S, m, chs.length⟩ (fun id => chs.length ≤ id) (entry fn.ntmps args chs) { tmps := vs ++ Array.replicate (fn.ntmps - vs.size) undef, defers := [] } w m := by
    have hF0 : ∀ k, Fin k → Fz ⟨w, Fin, S, m, chs.length⟩ m (entry fn.ntmps args chs) w k := fun k hk => ⟨.inl hk, (hFin k hk).1, fun id c p hc hp => (hFin k hk).2 id c p (by rw [← hchunk]; exact hc) hp⟩
    refine ⟨Fr.refl _ _, fun k hk => ⟨(hFin k hk).1, fun hkS => ?_⟩, ?_, fun i => ?_, fun id c hc => ?_, fun id id' c c' p p' h1 h2 hp hp' b hb hb' => ?_, hun, rfl, MLe.refl m, hun⟩
    · obtain ⟨id, c, p, h1, h2, h3⟩ := (hS k).1 hkS
      exact (hFin k hk).2 id c p h1 h2 h3
    · show (vs ++ Array.replicate (fn.ntmps - vs.size) undef).size = fn.ntmps
      simp; omega
    · rw [hget]
      cases hx : args[i]? with
      | none => exact .dead
      | some x =>
        have hi := (List.getElem?_eq_some_iff.1 hx).1
        have : (vs ++ Array.replicate (fn.ntmps - vs.size) undef).getD i undef = vs.getD i undef := by
          simp [Array.getD_eq_getD_getElem?, Array.getElem?_append, show i < vs.size by omega]
        show ARep _ _ _ x ((vs ++ Array.replicate (fn.ntmps - vs.size) undef).getD i undef)
        rw [this]
        exact (hargs i x hx).turn (MLe.refl m) (fun k hk _ => ⟨hF0 k hk, rfl⟩)
    · rw [hchunk] at hc
      obtain ⟨_, p, hp, hr⟩ := hchs id c hc
      exact ⟨p, hp, hr.turn (MLe.refl m) (fun k hk _ => ⟨hF0 k hk, rfl⟩) (fun _ _ => rfl), fun b hb => .inl ((hS b).2 ⟨id, c, p, hc, hp, hb⟩)⟩
    · rw [hchunk] at h1 h2
      exact hinj id id' c c' p p' b h1 h2 hp hp' hb hb'
  refine calls_of_wp hf hb (Go.wp_mono ((h ⟨w, Fin, S, m, chs.length⟩ rfl).run _ w ⟨m, hR0⟩) ?_)
  rintro e a w' ⟨s, ⟨mm, hR⟩, hq⟩
  have main : RetQ P fn chs.length R s → a.defers = [] ∧ ∃ v, (results fn a.tmps).run P w' = .ok v w' ∧ ∃ v1 r chs' m' F', Ending.returned v = .returned v1 ∧ R r chs' ∧
      (∀ id p, id < chs.length → m id = some p → m' id = some p) ∧ (∀ id, chs.length + 8 ≤ id → m' id = none) ∧
      (∀ k, F' k ↔ (Fin k ∨ (∃ id c p, getL id chs = some c ∧ m id = some p ∧ p.1 = some k) ∨ w.heap.size ≤ k) ∧ k < w'.heap.size ∧ ∀ id c p, getL id chs' = some c → m' id = some p → p.1 ≠ some k) ∧
      (w'.os = w.os ∧ w'.tape = w.tape ∧ w'.output = w.output ∧ w.heap.size ≤ w'.heap.size ∧ ∀ k, k < w.heap.size → (∀ id c p, getL id chs = some c → m id = some p → p.1 ≠ some k) → w'.heap[k]? = w.heap[k]?) ∧
      ARep m' F' w' r v1 ∧
      (∀ id c, getL id chs' = some c → ∃ p, m' id = some p ∧ CRep m' F' w' p c ∧ ∀ b, p.1 = some b → w.heap.size ≤ b ∨ ∃ id0 c0 p0, getL id0 chs = some c0 ∧ m id0 = some p0 ∧ p0.1 = some b) ∧
      (∀ id id' c c' p p' b, getL id chs' = some c → getL id' chs' = some c' → m' id = some p → m' id' = some p' → p.1 = some b → p'.1 = some b → id = id') := by
    rintro ⟨⟨x, r, chs', ρ, hx, hRr, hlead, hch', hsig, hsinj⟩⟩
    obtain ⟨v, hv, hvr⟩ := results_run hR hx
    refine ⟨hR.defers, v, hv, v, r, chs', fun id => (sig chs.length ρ id).bind mm, fun k => (Fin k ∨ (∃ id c p, getL id chs = some c ∧ m id = some p ∧ p.1 = some k) ∨ w.heap.size ≤ k) ∧ k < w'.heap.size ∧ ∀ id c p, getL id chs' = some c → (sig chs.length ρ id).bind mm = some p → p.1 ≠ some k, rfl, hRr, ?_, ?_, fun k => Iff.rfl, ?_, ?_, ?_, ?_⟩
    · intro id p hid hp
      have : sig chs.length ρ id = some id := by
        unfold sig
        have : Nat.blt id chs.length = true := by simpa using hid
        rw [this]; rfl
      simp only [this, Option.bind_some]
      exact hR.m0 id p hp
    · intro id hid
      simp only [hsig id hid, Option.bind_none]
    · refine ⟨hR.fr.os, hR.fr.tape, hR.fr.output, hR.fr.size, fun k hk hn => hR.fr.block k hk (fun hkS => ?_)⟩
      obtain ⟨id, c, p, h1, h2, h3⟩ := (hS k).1 hkS
      exact hn id c p h1 h2 h3
    all_goals
      have hm : ∀ id j p, sig chs.length ρ id = some j → mm j = some p → (fun id => (sig chs.length ρ id).bind mm) id = some p := fun id j p h1 h2 => by simp [h1, h2]
      have hF : ∀ k, Fz ⟨w, Fin, S, m, chs.length⟩ mm s w' k → ((Fin k ∨ (∃ id c p, getL id chs = some c ∧ m id = some p ∧ p.1 = some k) ∨ w.heap.size ≤ k) ∧ k < w'.heap.size ∧ ∀ id c p, getL id chs' = some c → (sig chs.length ρ id).bind mm = some p → p.1 ≠ some k) := by
        intro k hk
        refine ⟨hk.1.imp id (fun h => h.imp (fun h => (hS k).1 h) id), hk.2.1, fun id c p hc hp => ?_⟩
        obtain ⟨j, d, h1, h2, _⟩ := hch' id c hc
        simp only [h1, Option.bind_some] at hp
        exact hk.2.2 j d p h2 hp
    · exact hvr.lead hm hF r hlead
    · intro id c hc
      obtain ⟨j, d, h1, h2, h3⟩ := hch' id c hc
      obtain ⟨p, hp, hr, hl⟩ := hR.ch j d h2
      refine ⟨p, hm id j p h1 hp, hr.lead hm hF h3, fun b hb => ?_⟩
      rcases hl b hb with h | h
      · obtain ⟨id0, c0, p0, g1, g2, g3⟩ := (hS b).1 h
        exact .inr ⟨id0, c0, p0, g1, g2, g3⟩
      · exact .inl h
    · intro id id' c c' p p' b h1 h2 hp hp' hb hb'
      obtain ⟨j, d, g1, g2, _⟩ := hch' id c h1
      obtain ⟨j', d', g1', g2', _⟩ := hch' id' c' h2
      simp only [g1, g1', Option.bind_some] at hp hp'
      have := hR.inj j j' d d' p p' g2 g2' hp hp' b hb hb'
      subst this
      exact hsinj id id' j ⟨c, h1⟩ ⟨c', h2⟩ g1 g1'
  cases hq with
  | r hq => obtain ⟨h1, v, h2, h3⟩ := main hq; exact ⟨h1, v, h2, h3⟩
  | n hq => obtain ⟨h1, v, h2, h3⟩ := main hq; exact ⟨h1, v, h2, h3⟩
end
end Go.Proofs.Ytochebmkfdfbhaa
