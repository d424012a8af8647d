/- A slice that stands in a struct of the call's own, given up to all. No program is named here. -/
import Derived.Test.YtochebmkfdfbhaaC2
set_option linter.all false
namespace Go.Proofs.Ytochebmkfdfbhaa
open Go.RowKit

section
variable {P : Program} [PT P] {C : Ctx} {s : ASt}

/-- What a slice of the call's own stands for, once its block is nobody's. -/
theorem own_view {m : Nat → Option (Option Nat × Nat)} {F F' : Nat → Prop} {w : World} {id n e sz : Nat} {els : List (List DV)} {v : Value} {p : Option Nat × Nat} (hv : ARep m F w (.own id n) v) (hp : m id = some p) (hC : CRep m F w p (.arr e sz els)) (hn : n ≤ els.length) (hF : ∀ q, F q → F' q) (hFb : ∀ b, p.1 = some b → F' b) : DRep F' w (.view e sz (els.take n)) v := by
  cases hv with
  | own hp' h0 =>
    rename_i cap b
    rw [hp] at hp'
    simp only [Option.some.injEq] at hp'
    subst hp'
    cases hC with
    | nil h =>
      have : n = 0 := by simpa using hn
      subst this
      exact .nil
    | arr hb hf hsz hl hm h0' hrow hel =>
      rename_i b arr fz
      have hlen : (els.take n).length = n := by simp; omega
      have hsub : ∀ (i : Nat) cs, (els.take n)[i]? = some cs → els[i]? = some cs := by
        intro i cs hi
        rw [List.getElem?_take] at hi
        split at hi
        · exact hi
        · cases hi
      have := DRep.view (F := F') (w := w) (e := e) (sz := sz) (els := els.take n) (off := 0) (cap := cap) (hFb b rfl) hb (by omega) hm (by omega) (fun i cs hi => hrow i cs (hsub i cs hi)) (fun i cs j d hi hj => by rw [Nat.zero_add]; exact (hel i cs j d (hsub i cs hi) hj).mono hF)
      rw [hlen] at this
      exact this
theorem Weak.freezeC {id0 id k n e sz tt : Nat} {cs : List AV} {els els' : List (List DV)} (hc0 : s.chunk id0 = some (.cells tt cs)) (hk : cs[k]? = some (.own id n)) (hc : s.chunk id = some (.arr e sz els)) (hn : n ≤ els.length) (he : els.take n = els') (hne : id0 ≠ id) : Weak C s { n := s.n, nx := s.nx, sl := s.sl, ch := (id0, some (.cells tt (cs.set k (.d (.view e sz els'))))) :: (id, none) :: s.ch } := by
  subst he
  refine ⟨?_⟩
  rintro a w ⟨m, hR⟩
  have hch : ∀ j c, (getL j ((id0, some (.cells tt (cs.set k (.d (.view e sz (els.take n)))))) :: (id, none) :: s.ch)).getD none = some c → (j = id0 ∧ c = .cells tt (cs.set k (.d (.view e sz (els.take n))))) ∨ (j ≠ id0 ∧ j ≠ id ∧ s.chunk j = some c) := by
    intro j c h
    rw [getL_cons] at h
    split at h
    · rename_i e; simp at h; exact .inl ⟨e, h.symm⟩
    · rename_i e
      rw [getL_cons] at h
      split at h
      · simp at h
      · rename_i e'; exact .inr ⟨e, e', h⟩
  have hF : ∀ q, Fz C m s w q → Fz C m { n := s.n, nx := s.nx, sl := s.sl, ch := (id0, some (.cells tt (cs.set k (.d (.view e sz (els.take n)))))) :: (id, none) :: s.ch } w q := by
    intro q hq
    refine ⟨hq.1, hq.2.1, fun j c p h1 h2 h3 => ?_⟩
    rcases hch j c h1 with ⟨rfl, _⟩ | ⟨_, _, h⟩
    · exact hq.2.2 j _ p hc0 h2 h3
    · exact hq.2.2 j c p h h2 h3
  have old : ∀ j c, (getL j ((id0, some (.cells tt (cs.set k (.d (.view e sz (els.take n)))))) :: (id, none) :: s.ch)).getD none = some c → j ≠ id ∧ ∃ c0, s.chunk j = some c0 := by
    intro j c h
    rcases hch j c h with ⟨rfl, _⟩ | ⟨_, h1, h2⟩
    · exact ⟨hne, _, hc0⟩
    · exact ⟨h1, _, h2⟩
  obtain ⟨q, hq, hCq, hloc⟩ := hR.ch id _ hc
  have hFb : ∀ b, q.1 = some b → Fz C m { n := s.n, nx := s.nx, sl := s.sl, ch := (id0, some (.cells tt (cs.set k (.d (.view e sz (els.take n)))))) :: (id, none) :: s.ch } w b := by
    intro b hb
    refine ⟨.inr (hloc b hb), hCq.lt hb, fun j c p h1 h2 h3 => ?_⟩
    obtain ⟨hj, c0, h4⟩ := old j c h1
    exact hj (hR.inj j id c0 _ p q h4 hc h2 hq b h3 hb)
  refine ⟨m, hR.fr, hR.fin, hR.sz, fun j => (hR.sl j).turn (MLe.refl m) (fun k hk _ => ⟨hF k hk, rfl⟩), fun j c h1 => ?_, fun j j' c c' p p' h1 h2 hp hp' b hb hb' => ?_, hR.un, hR.defers, hR.m0, hR.m0k⟩
  · rcases hch j c h1 with ⟨rfl, rfl⟩ | ⟨_, _, h⟩
    · obtain ⟨p, hp, hr, hl⟩ := hR.ch j _ hc0
      refine ⟨p, hp, ?_, hl⟩
      cases hr with
      | cells g1 g2 g3 g4 =>
        refine .cells g1 (by simpa using g2) (fun i x hx => ?_) g4
        by_cases hik : k = i
        · subst hik
          rw [List.getElem?_set_self (List.getElem?_eq_some_iff.1 hk).1] at hx
          simp only [Option.some.injEq] at hx
          subst hx
          exact .d (own_view (g3 k _ hk) hq (hR.chunkAt hc hq) hn hF hFb)
        · rw [List.getElem?_set_ne hik] at hx
          exact (g3 i x hx).turn (MLe.refl m) (fun k hk _ => ⟨hF k hk, rfl⟩)
    · obtain ⟨p, hp, hr, hl⟩ := hR.ch j c h
      exact ⟨p, hp, hr.turn (MLe.refl m) (fun k hk _ => ⟨hF k hk, rfl⟩) (fun _ _ => rfl), hl⟩
  · obtain ⟨_, c0, g1⟩ := old j c h1
    obtain ⟨_, c0', g1'⟩ := old j' c' h2
    exact hR.inj j j' c0 c0' p p' g1 g1' hp hp' b hb hb'
/-- .. where a slot points to the struct. -/
theorem Weak.nilOwnP (i k : Nat) {id0 o e sz tt : Nat} {cs : List AV} (hp : s.get i = .ptr id0 o) (hc : s.chunk id0 = some (.cells tt cs)) (hk : cs[k]? = some (.d (.val (.slice none 0 0)))) (h0 : Nat.ble 1 sz = true) (hid0 : Nat.beq id0 s.nx = false) : Weak C s { n := s.n, nx := s.nx + 8, sl := s.sl, ch := (id0, some (.cells tt (cs.set k (.own s.nx 0)))) :: (s.nx, some (.arr e sz [])) :: s.ch } :=
  Weak.nilOwnC hc hk (Nat.le_of_ble_eq_true h0) (Nat.ne_of_beq_eq_false hid0)
theorem Weak.freezeP (i k : Nat) {id0 o id n e sz tt : Nat} {cs : List AV} {els els' : List (List DV)} (hp : s.get i = .ptr id0 o) (hc0 : s.chunk id0 = some (.cells tt cs)) (hk : cs[k]? = some (.own id n)) (hc : s.chunk id = some (.arr e sz els)) (hn : n ≤ els.length) (he : els.take n = els') (hne : Nat.beq id0 id = false) : Weak C s { n := s.n, nx := s.nx, sl := s.sl, ch := (id0, some (.cells tt (cs.set k (.d (.view e sz els'))))) :: (id, none) :: s.ch } :=
  Weak.freezeC hc0 hk hc hn he (Nat.ne_of_beq_eq_false hne)
end
end Go.Proofs.Ytochebmkfdfbhaa
