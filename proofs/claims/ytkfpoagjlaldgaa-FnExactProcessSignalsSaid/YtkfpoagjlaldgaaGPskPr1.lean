/- Contracts of the functions of the program and of the reference, each proved by a walk through its code. -/
import Derived.Test.YtkfpoagjlaldgaaRows
import Derived.Test.YtkfpoagjlaldgaaGPskKit
import Derived.Deep.QuietTactic
import Derived.BigQuiet
set_option linter.all false
set_option maxRecDepth 20000
namespace Go.Proofs.Ytkfpoagjlaldgaa
open Go.RowKit

/-- lo ≤ n ≤ hi, as a Bool. -/
def bIn (n lo hi : Int) : Bool := decide (lo ≤ n ∧ n ≤ hi)
def RetBool (b : Bool) (w : World) (e : Ending) (w' : World) : Prop := e = .returned (.bool b) ∧ w = w'

theorem within_any (n lo hi : Int) (w : World) :
    Calls Try.prog 49 #[.int .i64 n, .int .i64 lo, .int .i64 hi] w (RetBool (bIn n lo hi) w) := by
  by_cases h1 : lo ≤ n
  · by_cases h2 : n ≤ hi
    · have E := Lib.hid (show bIn n lo hi = true by simp [bIn, h1, h2])
      go_enter Try.func49, Try.ntmps49
      go_wp2
      go_ret
      exact ⟨by rw [E.out]; rfl, rfl⟩
    · have E := Lib.hid (show bIn n lo hi = false by simp [bIn, h2])
      go_enter Try.func49, Try.ntmps49
      go_wp2
      go_ret
      exact ⟨by rw [E.out]; rfl, rfl⟩
  · have E := Lib.hid (show bIn n lo hi = false by simp [bIn, h1])
    go_enter Try.func49, Try.ntmps49
    go_wp2
    go_ret
    exact ⟨by rw [E.out]; rfl, rfl⟩

/-- The process reader of the program lies at block b. -/
def PR (w : World) (b : Nat) (s : ByteArray) (i : Nat) (bad : Bool) : Prop := Blk w b 58 [.string s, .int .i64 i, .bool bad]

/-- The byte at a place, 0 behind the end. -/
def nx (s : ByteArray) (i : Nat) : UInt8 := s.data.getD i 0

theorem next_any (b : Nat) (s : ByteArray) (i : Nat) (bad : Bool) (w : World) (hp : PR w b s i bad) (hi : i ≤ s.size) (hs : s.size ≤ 1000) :
    Calls Try.prog 44 #[.pointer (some ⟨b, 0, none⟩)] w fun e w' => e = .returned (.int .u8 ((nx s i).toNat : Int)) ∧ ∃ n, w' = w.drewN n := by
  have h0 := hp.cell 0 rfl
  have h1 := hp.cell 1 rfl
  clear hp
  by_cases h : i < s.size
  · have hlt : ((i : Int) == (s.size : Int)) = false := by simp; omega
    have e : (nx s i) = s[i] := by unfold nx; rw [Array.getD_eq_getD_getElem?, Array.getElem?_eq_getElem (by simpa using h)]; rfl
    have E := Lib.hid e; clear e
    go_enter Try.func44, Try.ntmps44
    go_wp2
    go_quiet (fail)
    go_wp2
    go_quiet (fail)
    go_wp2
    go_ret
    exact ⟨by rw [E.out]; rfl, _, World.drewN_drewN _ _ _⟩
  · have hlt : ((i : Int) == (s.size : Int)) = true := by simp; omega
    have e : (nx s i) = 0 := by unfold nx; rw [Array.getD_eq_getD_getElem?, Array.getElem?_eq_none (by simpa using h)]; rfl
    have E := Lib.hid e; clear e
    go_enter Try.func44, Try.ntmps44
    go_wp2
    go_quiet (fail)
    go_wp2
    go_ret
    exact ⟨by rw [E.out]; rfl, _, rfl⟩

def bNx (s : ByteArray) (i : Nat) (c : UInt8) : Bool := decide (nx s i = c)
def TakePost (b : Nat) (s : ByteArray) (i : Nat) (bad : Bool) (c : UInt8) (w : World) (e : Ending) (w' : World) : Prop :=
  e = .returned (.bool (bNx s i c)) ∧ PR w' b s (if nx s i = c then i + 1 else i) bad ∧ Fr [b] w w'

theorem take_any (b : Nat) (s : ByteArray) (i : Nat) (bad : Bool) (c : UInt8) (k : Int) (hk : (c.toNat : Int) = k) (w : World) (hp : PR w b s i bad) (hi : i ≤ s.size) (hs : s.size ≤ 1000) :
    Calls Try.prog 38 #[.pointer (some ⟨b, 0, none⟩), .int .u8 k] w (TakePost b s i bad c w) := by
  subst hk
  have h1 := hp.cell 1 rfl
  have h2 := hp.free 1
  by_cases h : nx s i = c
  · have hb : (((nx s i).toNat : Int) != (c.toNat : Int)) = false := by simp [h]
    have E := Lib.hid (show bNx s i c = true by simp [bNx, h])
    have H := Lib.hid h
    clear h
    go_enter Try.func38, Try.ntmps38
    go_wp2_with (go_at_call 44; refine (next_any b s i bad _ hp hi hs).mono ?_; rintro e w' ⟨rfl, n, rfl⟩)
    go_ret
    refine ⟨by rw [E.out]; rfl, ?_, ?_⟩
    · rw [if_pos H.out]; exact (hp.drewN n).set 1 _
    · exact ((Fr.refl _ w).drewN n).setCell (by simp) _
  · have hb : (((nx s i).toNat : Int) != (c.toNat : Int)) = true := by simp; intro hc; exact h (UInt8.toNat_inj.1 (by omega))
    have E := Lib.hid (show bNx s i c = false by simp [bNx, h])
    have H := Lib.hid h
    clear h
    go_enter Try.func38, Try.ntmps38
    go_wp2_with (go_at_call 44; refine (next_any b s i bad _ hp hi hs).mono ?_; rintro e w' ⟨rfl, n, rfl⟩)
    go_ret
    refine ⟨by rw [E.out]; rfl, ?_, ?_⟩
    · rw [if_neg H.out]; exact hp.drewN n
    · exact (Fr.refl _ w).drewN n
end Go.Proofs.Ytkfpoagjlaldgaa

