/- Contracts of the functions of the program and of the reference, each proved by a walk through its code. -/
import Derived.Test.YtkfpoagjlaldgaaGPskLp1
set_option linter.all false
set_option maxRecDepth 20000
namespace Go.Proofs.Ytkfpoagjlaldgaa
open Go.RowKit

set_option maxHeartbeats 1000000 in
theorem l2Name_any (s : ByteArray) (w : World) (hs : s.size ≤ 9223372036854775807) :
    Calls Try.prog 48 #[.string s] w (RetBool (nameOk s.data.toList) w) := by
  go_enter Try.func48, Try.ntmps48
  go_wp2
  go_loop [3, 4] (fun i _ => ∃ k : Nat, k ≤ s.size ∧ i = .int .i64 k ∧ ∀ j c, j < k → s.data.toList[j]? = some c → chName c = true ∧ (j = 0 → letterB c = true)) (fun i _ => s.size - (intOf i).toNat)
  case atStart => exact ⟨0, Nat.zero_le _, rfl, fun j c hj => by omega⟩
  case round =>
    obtain ⟨k, hk, rfl, hok⟩ := hrel
    have HOK := Lib.hid hok
    clear hok
    by_cases hlt : k < s.size
    · have hget : s.data.toList[k]? = some s[k] := by simp [hlt]; rfl
      have HG := Lib.hid hget
      clear hget
      have hsnoc : chName s[k] = true → (k = 0 → letterB s[k] = true) → ∀ j c, j < k + 1 → s.data.toList[j]? = some c → chName c = true ∧ (j = 0 → letterB c = true) := by
        intro h1 h2 j c hj hc
        by_cases he : j = k
        · subst he; rw [HG.out] at hc; cases hc; exact ⟨h1, h2⟩
        · exact HOK.out j c (by omega) hc
      have HS := Lib.hid hsnoc
      clear hsnoc
      have hx48 : decide ((s[k].toNat : Int) < 48) = !decide ((48 : Int) ≤ (s[k].toNat : Int)) := by
        by_cases h : (48 : Int) ≤ (s[k].toNat : Int) <;> simp [h] <;> omega
      have hx57 : decide ((57 : Int) < (s[k].toNat : Int)) = !decide ((s[k].toNat : Int) ≤ 57) := by
        by_cases h : (s[k].toNat : Int) ≤ 57 <;> simp [h] <;> omega
      rcases byte_sorts s[k] with ⟨h1, h2, h3, h4⟩ | ⟨h1, h2, h5, h3, h4⟩ | ⟨h1, h2, h5, h3, h4⟩ | ⟨h1, h6, h2, h5, h3, h4⟩ | ⟨h1, h6, h2, h5, h3, h4⟩
      all_goals (first | rw [h2] at hx48 | skip)
      all_goals (first | rw [h5] at hx57 | skip)
      · have E := Lib.hid (nameOk_false HG.out (.inl h3))
        clear h3 h4 hx57
        by_cases h0 : k = 0
        · subst h0
          go_wp2
          go_ret
          exact ⟨by rw [E.out]; rfl, rfl⟩
        · have hk0 : ((k : Int) == 0) = false := by simp; omega
          go_wp2
          go_ret
          exact ⟨by rw [E.out]; rfl, rfl⟩
      · by_cases h0 : k = 0
        · have E := Lib.hid (nameOk_false HG.out (.inr ⟨h0, h4⟩))
          subst h0
          clear h3 h4
          go_wp2
          go_ret
          exact ⟨by rw [E.out]; rfl, rfl⟩
        · have hk0 : ((k : Int) == 0) = false := by simp; omega
          have H := Lib.hid (HS.out h3 (fun h => absurd h h0))
          clear h3 h4 h0
          go_wp2
          go_round
          case rel => exact ⟨k + 1, by omega, by go_num, H.out⟩
          case measure => simp [intOf]; omega
      · have E := Lib.hid (nameOk_false HG.out (.inl h3))
        clear h3 h4
        by_cases h0 : k = 0
        · subst h0
          go_wp2
          go_ret
          exact ⟨by rw [E.out]; rfl, rfl⟩
        · have hk0 : ((k : Int) == 0) = false := by simp; omega
          go_wp2
          go_ret
          exact ⟨by rw [E.out]; rfl, rfl⟩
      · have H := Lib.hid (HS.out h3 (fun _ => h4))
        clear h3 h4
        go_wp2
        go_round
        case rel => exact ⟨k + 1, by omega, by go_num, H.out⟩
        case measure => simp [intOf]; omega
      · have E := Lib.hid (nameOk_false HG.out (.inl h3))
        clear h3 h4
        by_cases h0 : k = 0
        · subst h0
          go_wp2
          go_ret
          exact ⟨by rw [E.out]; rfl, rfl⟩
        · have hk0 : ((k : Int) == 0) = false := by simp; omega
          go_wp2
          go_ret
          exact ⟨by rw [E.out]; rfl, rfl⟩
    · obtain rfl : k = s.size := by omega
      have hE : nameOk s.data.toList = bIn s.size 1 6 := by
        rw [nameOk_true (fun i c hc => HOK.out i c (by have := (List.getElem?_eq_some_iff.1 hc).1; simpa using this) hc)]
        simp
      have E := Lib.hid hE
      clear hE
      go_wp2_with (go_at_call 51; refine (l1In_any _ _ _ _).mono ?_; rintro e w' ⟨rfl, rfl⟩)
      go_ret
      exact ⟨by rw [E.out]; rfl, rfl⟩

theorem LP.mono {w : World} {b : Nat} {K K' : Nat → Prop} {s : ByteArray} {i : Nat} {bad : Bool} {ns : List Nd} {deep most : Nat} (h : LP w b K s i bad ns deep most) (hk : ∀ k, K k → K' k) : LP w b K' s i bad ns deep most := by
  obtain ⟨v, hb, hO⟩ := h
  exact ⟨v, hb, hO.mono hk hk⟩
theorem LP.frame {w w' : World} {b : Nat} {K : Nat → Prop} {S : List Nat} {s : ByteArray} {i : Nat} {bad : Bool} {ns : List Nd} {deep most : Nat} (h : LP w b K s i bad ns deep most) (f : Fr S w w') (hb : b ∉ S) (hs : ∀ k, k ∈ S → ¬ K k) : LP w' b K s i bad ns deep most := by
  obtain ⟨v, hb', hO⟩ := h
  exact ⟨v, hb'.fr f hb, hO.frame f (fun g hg hm => hs g hm (hO.lt hg).1) (fun k hk hh => hs k hk hh.1)⟩
theorem Own.bound {α : Type} {G K : Nat → Prop} {e : TypeId} {t : Ty α} {w : World} {v : Value} {l : List α} (h : Own G K e t w v l) : Own (fun k => G k ∧ k < w.heap.size) (fun k => K k ∧ k < w.heap.size) e t w v l := by
  obtain ⟨xs, ho, hG, hel⟩ := h
  exact ⟨xs, ho, fun g hg => ⟨hG g hg, (ho.lt g hg).2⟩, fun i x hx => t.mono (t.bound (hel i x hx)) (fun k hk => ⟨⟨hk.1.1, hk.2⟩, hk.1.2⟩)⟩
theorem LP.bound {w : World} {b : Nat} {K : Nat → Prop} {s : ByteArray} {i : Nat} {bad : Bool} {ns : List Nd} {deep most : Nat} (h : LP w b K s i bad ns deep most) : LP w b (fun k => K k ∧ k < w.heap.size) s i bad ns deep most := by
  obtain ⟨v, hb, hO⟩ := h
  exact ⟨v, hb, hO.bound⟩
theorem LP.lt {w : World} {b : Nat} {K : Nat → Prop} {s : ByteArray} {i : Nat} {bad : Bool} {ns : List Nd} {deep most : Nat} (h : LP w b K s i bad ns deep most) : b < w.heap.size := by
  obtain ⟨v, hb, hO⟩ := h
  exact hb.lt

/-- A frame that lets block b and the blocks of K go. -/
def FrK (b : Nat) (K : Nat → Prop) (w w' : World) : Prop := ∃ L, Fr L w w' ∧ ∀ k, k ∈ L → k = b ∨ K k
theorem FrK.refl (b : Nat) (K : Nat → Prop) (w : World) : FrK b K w w := ⟨[], Fr.refl _ _, by simp⟩
theorem FrK.trans {b : Nat} {K : Nat → Prop} {w1 w2 w3 : World} (h : FrK b K w1 w2) (g : FrK b K w2 w3) : FrK b K w1 w3 := by
  obtain ⟨L, f, hL⟩ := h
  obtain ⟨M, g, hM⟩ := g
  exact ⟨L ++ M, (f.mono (fun k hk => List.mem_append_left _ hk)).trans (g.mono (fun k hk => List.mem_append_right _ hk)), fun k hk => by
    rcases List.mem_append.1 hk with hk | hk
    · exact hL k hk
    · exact hM k hk⟩
theorem FrK.mono {b : Nat} {K K' : Nat → Prop} {w1 w2 : World} (h : FrK b K w1 w2) (hk : ∀ k, K k → K' k) : FrK b K' w1 w2 := by
  obtain ⟨L, f, hL⟩ := h
  exact ⟨L, f, fun k hm => (hL k hm).imp id (hk k)⟩
theorem FrK.fr {b : Nat} {K : Nat → Prop} {w1 w2 w3 : World} {S : List Nat} (h : FrK b K w1 w2) (f : Fr S w2 w3) (hS : ∀ k, k ∈ S → k = b ∨ K k) : FrK b K w1 w3 := h.trans ⟨S, f, hS⟩
theorem FrK.size {b : Nat} {K : Nat → Prop} {w1 w2 : World} (h : FrK b K w1 w2) : w1.heap.size ≤ w2.heap.size := by obtain ⟨L, f, _⟩ := h; exact f.size
/-- An owned slice of flat elements outside the frame's blocks stays. -/
theorem Own.frK {α : Type} {b : Nat} {K G : Nat → Prop} {e : TypeId} {t : Ty α} {w w' : World} {v : Value} {l : List α} (h : Own G (fun _ => False) e t w v l) (f : FrK b K w w') (hv : ∀ g, v.ownBlock = some g → g ≠ b ∧ ¬ K g) : Own G (fun _ => False) e t w' v l := by
  obtain ⟨L, f, hL⟩ := f
  exact h.frame f (fun g hg hm => by
    obtain ⟨h1, h2⟩ := hv g hg
    rcases hL g hm with h | h
    · exact h1 h
    · exact h2 h) (fun k _ hh => hh.1)
theorem Blk.frK {b : Nat} {K : Nat → Prop} {w w' : World} {g : Nat} {t : TypeId} {cs : List Value} (h : Blk w g t cs) (f : FrK b K w w') (h1 : g ≠ b) (h2 : ¬ K g) : Blk w' g t cs := by
  obtain ⟨L, f, hL⟩ := f
  exact h.fr f (fun hm => by
    rcases hL g hm with h | h
    · exact h1 h
    · exact h2 h)
end Go.Proofs.Ytkfpoagjlaldgaa

