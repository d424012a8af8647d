/- Contracts of the functions of the program and of the reference, each proved by a walk through its code. -/
import Derived.Test.YtkfpoagjlaldgaaGPskLay
import Derived.Test.YtkfpoagjlaldgaaGPskNames
import Derived.Deep.RegionHeld3
import Derived.Deep.RegionLaw
import Derived.Deep.DrawnRows
import Derived.Deep.DeepCutAuto
set_option linter.all false
set_option maxRecDepth 20000
namespace Go.Proofs.Ytkfpoagjlaldgaa
open Go.RowKit

theorem Try.inf_node : AppInfo Try.prog 49 68 3 48 := appInfo Try.underlying49 (z := .agg #[.string ByteArray.empty, .bool false, .slice none 0 0]) (by kernel_rfl) rfl (by omega)
theorem Try.inf_int : AppInfo Try.prog 66 3 1 8 := appInfo Try.underlying66 (z := .int .i64 0) (by kernel_rfl) rfl (by omega)

/-- The reader's block, the table's slice as it stands. -/
def LB (w : World) (b : Nat) (s : ByteArray) (i : Nat) (bad : Bool) (v : Value) (deep most : Nat) : Prop :=
  Blk w b 51 [.string s, .int .i64 i, .bool bad, v, .int .i64 (deep : Int), .int .i64 (most : Int)]
/-- The reader of the reference lies at block b; what its table leads to lies in K. -/
def LP (w : World) (b : Nat) (K : Nat → Prop) (s : ByteArray) (i : Nat) (bad : Bool) (ns : List Nd) (deep most : Nat) : Prop :=
  ∃ v, LB w b s i bad v deep most ∧ Own K K 68 nodeT w v ns

theorem least_any (a b : Int) (w : World) : Calls Try.prog 47 #[.int .i64 a, .int .i64 b] w fun e w' => e = .returned (.int .i64 (min a b)) ∧ w = w' := by
  by_cases h : a < b
  · have H := Lib.hid (show min a b = a by omega)
    go_enter Try.func47, Try.ntmps47
    go_wp2
    go_ret
    exact ⟨by rw [H.out]; rfl, rfl⟩
  · have H := Lib.hid (show min a b = b by omega)
    go_enter Try.func47, Try.ntmps47
    go_wp2
    go_ret
    exact ⟨by rw [H.out]; rfl, rfl⟩
theorem most_any (a b : Int) (w : World) : Calls Try.prog 50 #[.int .i64 a, .int .i64 b] w fun e w' => e = .returned (.int .i64 (max a b)) ∧ w = w' := by
  by_cases h : b < a
  · have H := Lib.hid (show max a b = a by omega)
    go_enter Try.func50, Try.ntmps50
    go_wp2
    go_ret
    exact ⟨by rw [H.out]; rfl, rfl⟩
  · have H := Lib.hid (show max a b = b by omega)
    go_enter Try.func50, Try.ntmps50
    go_wp2
    go_ret
    exact ⟨by rw [H.out]; rfl, rfl⟩
theorem l1In_any (n lo hi : Int) (w : World) : Calls Try.prog 51 #[.int .i64 n, .int .i64 lo, .int .i64 hi] w (RetBool (bIn n lo hi) w) := by
  by_cases h1 : lo ≤ n
  · by_cases h2 : n ≤ hi
    · have E := Lib.hid (show bIn n lo hi = true by simp [bIn, h1, h2])
      go_enter Try.func51, Try.ntmps51
      go_wp2
      go_ret
      exact ⟨by rw [E.out]; rfl, rfl⟩
    · have E := Lib.hid (show bIn n lo hi = false by simp [bIn, h2])
      go_enter Try.func51, Try.ntmps51
      go_wp2
      go_ret
      exact ⟨by rw [E.out]; rfl, rfl⟩
  · have E := Lib.hid (show bIn n lo hi = false by simp [bIn, h1])
    go_enter Try.func51, Try.ntmps51
    go_wp2
    go_ret
    exact ⟨by rw [E.out]; rfl, rfl⟩

theorem peek_any (b : Nat) (s : ByteArray) (i : Nat) (bad : Bool) (v : Value) (deep most : Nat) (w : World) (hp : LB w b s i bad v deep most) (hi : i ≤ 100000) (hs : s.size ≤ 1000) :
    Calls Try.prog 39 #[.pointer (some ⟨b, 0, none⟩)] w fun e w' => e = .returned (.int .u8 ((nx s i).toNat : Int)) ∧ ∃ n, w' = w.drewN n := by
  have h0 := hp.cell 0 rfl
  have h1 := hp.cell 1 rfl
  clear hp
  by_cases h : i < s.size
  · have e : (nx s i) = s[i] := by unfold nx; rw [Array.getD_eq_getD_getElem?, Array.getElem?_eq_getElem (by simpa using h)]; rfl
    have E := Lib.hid e; clear e
    go_enter Try.func39, Try.ntmps39
    go_wp2
    go_quiet (fail)
    go_wp2
    go_quiet (fail)
    go_wp2
    go_ret
    exact ⟨by rw [E.out]; rfl, _, World.drewN_drewN _ _ _⟩
  · have e : (nx s i) = 0 := by unfold nx; rw [Array.getD_eq_getD_getElem?, Array.getElem?_eq_none (by simpa using h)]; rfl
    have E := Lib.hid e; clear e
    go_enter Try.func39, Try.ntmps39
    go_wp2
    go_quiet (fail)
    go_wp2
    go_ret
    exact ⟨by rw [E.out]; rfl, _, rfl⟩

theorem nx_lt2 {s : ByteArray} {j : Nat} (h : nx s j ≠ 0) : j < s.size := by
  rcases Nat.lt_or_ge j s.size with h' | h'
  · exact h'
  · exfalso; apply h
    unfold nx
    rw [Array.getD_eq_getD_getElem?, Array.getElem?_eq_none (by simpa using h')]; rfl
theorem nx_ne {s : ByteArray} {i : Nat} {c : UInt8} {k : Int} (hk : (c.toNat : Int) = k) (h : nx s i ≠ c) : (((nx s i).toNat : Int) != k) = true ∧ (((nx s i).toNat : Int) == k) = false := by
  subst hk
  have : ((nx s i).toNat : Int) ≠ (c.toNat : Int) := fun hc => h (UInt8.toNat_inj.1 (by omega))
  exact ⟨by simpa using this, by simpa using this⟩
theorem nx_eq {s : ByteArray} {i : Nat} {c : UInt8} {k : Int} (hk : (c.toNat : Int) = k) (h : nx s i = c) : (((nx s i).toNat : Int) != k) = false ∧ (((nx s i).toNat : Int) == k) = true := by
  subst hk
  simp [h]
def LTakePost (b : Nat) (s : ByteArray) (i : Nat) (bad : Bool) (v : Value) (deep most : Nat) (c : UInt8) (w : World) (e : Ending) (w' : World) : Prop :=
  e = .returned (.tuple #[]) ∧ LB w' b s (i + 1) (bad || !bNx s i c) v deep most ∧ Fr [b] w w'
theorem ltake_any (b : Nat) (s : ByteArray) (i : Nat) (bad : Bool) (v : Value) (deep most : Nat) (c : UInt8) (k : Int) (hk : (c.toNat : Int) = k) (w : World) (hp : LB w b s i bad v deep most) (hi : i ≤ 100000) (hs : s.size ≤ 1000) :
    Calls Try.prog 33 #[.pointer (some ⟨b, 0, none⟩), .int .u8 k] w (LTakePost b s i bad v deep most c w) := by
  subst hk
  have h1 := hp.cell 1 rfl
  have h2 := hp.cell 2 rfl
  have f1 := hp.free 1
  have f2 := hp.free 2
  by_cases h : nx s i = c
  · have hb : (((nx s i).toNat : Int) != (c.toNat : Int)) = false := by simp [h]
    have E := Lib.hid (show (bad || !bNx s i c) = bad by simp [bNx, h])
    clear h
    go_enter Try.func33, Try.ntmps33
    go_wp2_with (go_at_call 39; refine (peek_any b s i bad v deep most _ hp hi hs).mono ?_; rintro e w' ⟨rfl, n, rfl⟩)
    go_end0
    exact ⟨rfl, by rw [E.out]; exact (hp.drewN n).set 1 _, ((Fr.refl _ w).setCell (by simp) _).drewN n⟩
  · have hb : (((nx s i).toNat : Int) != (c.toNat : Int)) = true := by simp; intro hc; exact h (UInt8.toNat_inj.1 (by omega))
    have E := Lib.hid (show (bad || !bNx s i c) = true by simp [bNx, h])
    clear h
    go_enter Try.func33, Try.ntmps33
    go_wp2_with (go_at_call 39; refine (peek_any b s i bad v deep most _ hp hi hs).mono ?_; rintro e w' ⟨rfl, n, rfl⟩)
    go_end0
    exact ⟨rfl, by rw [E.out]; exact ((hp.set 2 _).set 1 _).drewN n, (((Fr.refl _ w).setCell (by simp) _).setCell (by simp) _).drewN n⟩

theorem alloc2_new (w : World) (A B : Obj) : ((w.alloc A).alloc B).heap[w.heap.size + 1]? = some B := by
  have h := heap_alloc_new (w.alloc A) B
  simpa using h
/-- A slice of numbers does not lie in the block of an owned slice of another type. -/
theorem SL.int_apart {α : Type} {G K K' : Nat → Prop} {e e' : TypeId} {T : Ty α} {w : World} {v v' : Value} {l : List Int} {l' : List α} (h : SL K e Ty.int w v l) (ho : Own G K' e' T w v' l') (he : e ≠ e') :
    SL (fun k => K k ∧ v'.ownBlock ≠ some k) e Ty.int w v l := by
  obtain ⟨a, cap, rfl, h1, h2, h3, h4⟩ := h
  refine ⟨a, cap, rfl, h1, h2, h3, fun p hp => ?_⟩
  obtain ⟨hn, hK, arr, fz, hh, hle, hel⟩ := h4 p hp
  refine ⟨hn, ⟨hK, fun hv => ?_⟩, arr, fz, hh, hle, hel⟩
  obtain ⟨xs, hr, _, _⟩ := ho
  rcases hr.2 with ⟨rfl, _⟩ | ⟨g, cap', cur, rfl, _, hg, _⟩
  · simp [Value.ownBlock] at hv
  · simp only [Value.ownBlock, Option.some.injEq] at hv
    subst hv
    rw [hg] at hh
    simp only [Option.some.injEq, Obj.cells.injEq] at hh
    exact he hh.2.1.symm
def LNodePost (b : Nat) (K : Nat → Prop) (s : ByteArray) (i : Nat) (bad : Bool) (ns : List Nd) (deep most : Nat) (x : Nd) (w : World) (e : Ending) (w' : World) : Prop :=
  e = .returned (.int .i64 (ns.length : Int)) ∧ LP w' b K s i bad (ns ++ [x]) deep most ∧ ∃ L, Fr L w w' ∧ ∀ k, k ∈ L → k = b ∨ K k
set_option maxHeartbeats 1000000 in
theorem node_any (b : Nat) (K : Nat → Prop) (s : ByteArray) (i : Nat) (bad : Bool) (ns : List Nd) (deep most : Nat) (x : Nd) (kv : Value) (w : World) (hp : LP w b K s i bad ns deep most) (hK : ∀ k, w.heap.size ≤ k → K k) (hKb : ¬ K b)
    (hx : nodeT.rep K w [.string x.word, .bool x.row, kv] x) (hn : ns.length ≤ 1000000) :
    Calls Try.prog 41 #[.pointer (some ⟨b, 0, none⟩), .agg #[.string x.word, .bool x.row, kv]] w (LNodePost b K s i bad ns deep most x w) := by
  obtain ⟨v, hb, hO⟩ := hp
  obtain ⟨a0, cap0, rfl⟩ := hO.form
  obtain ⟨kv', hkv, hwd, hsl⟩ := hx
  obtain ⟨a1, cap1, rfl, _, _, hsl⟩ := hsl.form
  obtain ⟨word, row, kids⟩ := x
  simp only [List.cons.injEq, and_true, true_and] at hkv hwd hsl ⊢
  subst hkv
  go_enter Try.func41, Try.ntmps41
  go_wp2
  have hB := hb
  have hw3 := hb.cell 3 rfl
  have hf3 := hb.free 3
  have hbl := hb.lt
  have hA : Blk (w.alloc (.cells #[.string word, .bool row, .slice a1 kids.length cap1] 68)) w.heap.size 68 [.string word, .bool row, .slice a1 kids.length cap1] := Blk.new w _ _
  have q0 := hA.cell 0 rfl
  have q1 := hA.cell 1 rfl
  have q2 := hA.cell 2 rfl
  have q3 := (hb.alloc (.cells #[.string word, .bool row, .slice a1 kids.length cap1] 68)).cell 3 rfl
  have hsl' := hsl.int_apart hO (by decide)
  have hy : ∀ A B : Obj, nodeT.rep (fun k => K k ∧ (Value.slice a0 ns.length cap0).ownBlock ≠ some k) ((w.alloc A).alloc B).drew [.string word, .bool row, .slice a1 kids.length cap1] ⟨word, row, kids⟩ :=
    fun A B => nodeT.frame (S := []) ⟨_, rfl, hwd, hsl'⟩ (((Fr.refl [] w).alloc A).alloc B).drew (by simp)
  have hN : ∀ A B : Obj, K ((w.alloc A).alloc B).drew.heap.size := fun A B => hK _ (by simp; omega)
  have hm1 : ns.length + 1 ≤ maxLen := by simp only [maxLen]; omega
  have hm2 : (ns.length + 1) * 48 ≤ 140737488355328 := by omega
  have HY := Lib.hid hy
  have HN := Lib.hid hN
  have HM := Lib.hid hm1
  clear hy hN hm1
  go_upto_region 1 with fail
  go_cut [5] (fun _ wx => LP wx b K s i bad (ns ++ [⟨word, row, kids⟩]) deep most ∧ ∃ L, Fr L w wx ∧ ∀ k, k ∈ L → k = b ∨ K k)
  case first =>
    go_region_law
      ((refine step_append_Own (P := Try.prog) (by rfl) (.tmp 9) (.tmp 11) 49 (by rfl) (T := nodeT) (l := ns) (y := ⟨word, row, kids⟩) (v := .slice a0 ns.length cap0) (tb := w.heap.size + 1) (c := 1) (cs := [.string word, .bool row, .slice a1 kids.length cap1]) Try.inf_node (by rfl) (hO.frame (((Fr.refl [] w).alloc _).alloc _).drew (by simp) (by simp)) (by rfl) (by exact alloc2_new w _ _) (by exact HY.out _ _) (by exact HN.out _ _) HM.out hm2 ?_; intro p cap w6 hO6 hf6 hat; have hb6 : LB w6 b s i bad (.slice a0 ns.length cap0) deep most := Blk.fr (Blk.drew (Blk.alloc (Blk.alloc hb _) _)) hf6 (fun hm => hKb (hO.lt (g := b) (by simpa using hm)).1); have hw6 := hb6.cell 3 rfl; have hf6' := hb6.free 3; have hA6 := Blk.fr (Blk.drew (Blk.alloc hA _)) hf6 (fun hm => by have := (hO.lt (g := w.heap.size) (by simpa using hm)).2; omega); have r0 := hA6.cell 0 rfl; have r1 := hA6.cell 1 rfl; have r2 := hA6.cell 2 rfl))
    all_goals
      go_wp2_with fail
      go_meet
      refine ⟨⟨_, hb6.set 3 _, hO6.frame ((Fr.refl [b] w6).setCell (by simp) _) (fun g hg hm => hKb (by simp at hm; subst hm; exact (hO6.lt hg).1)) (fun k hk hh => hKb (by simp at hk; subst hk; exact hh.1))⟩, b :: (Value.slice a0 ns.length cap0).ownBlock.toList, ?_, ?_⟩
      · exact ((((((Fr.refl _ w).alloc _).alloc _).drew).trans_new hf6 (fun k hk => .inl (List.mem_cons_of_mem _ hk)))).setCell (by simp) _
      · intro k hk
        rcases List.mem_cons.1 hk with rfl | hk
        · exact .inl rfl
        · exact .inr (hO.lt (g := k) (by simpa using hk)).1
  case rest =>
    obtain ⟨⟨v, hb, hO⟩, hL⟩ := hcut
    obtain ⟨a2, cap2, rfl⟩ := hO.form
    have hw3 := hb.cell 3 rfl
    have HL := Lib.hid hL
    clear hL HY HN HM hw3
    simp only [List.length_append, List.length_cons, List.length_nil, Nat.zero_add] at hb hO
    have hw3 := hb.cell 3 rfl
    go_wp2
    go_ret
    exact ⟨rfl, ⟨_, hb, hO⟩, HL.out⟩
end Go.Proofs.Ytkfpoagjlaldgaa

