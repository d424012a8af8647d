/- Walks: draws for sequences of firings. -/
import Derived.Test.YthhfhpeeinohiaaW18
set_option linter.all false
namespace Go.Proofs.Ythhfhpeeinohiaa
open Go.RowKit

def nextM (N : Net) (m : List UInt8) (t : Int) : List UInt8 := if (fireT (N.ts.getD t.toNat ⟨[], []⟩) m).2 = true then (fireT (N.ts.getD t.toNat ⟨[], []⟩) m).1 else m
def seqN (N : Net) : Nat → Cur → List UInt8 → List Int → List Int × Cur
  | 0, c, m, l => (l, c)
  | j + 1, c, m, l =>
    if (goodN N && bitsB m N.places) = true then
      if (readyL N m N.ts.length).length = 0 then (l, c)
      else seqN N j (c.pick (readyL N m N.ts.length).length).2 (nextM N m ((readyL N m N.ts.length).getD (c.pick (readyL N m N.ts.length).length).1.toNat 0)) (l ++ [(readyL N m N.ts.length).getD (c.pick (readyL N m N.ts.length).length).1.toNat 0])
    else (l, c)
theorem seqN_len (N : Net) (hN : N.ts.length ≤ 4) : ∀ (j : Nat) (c : Cur) (m : List UInt8) (l : List Int), (seqN N j c m l).1.length ≤ l.length + j ∧ (seqN N j c m l).2.pos ≤ c.pos + 2 * j
  | 0, c, m, l => ⟨Nat.le_refl _, Nat.le_refl _⟩
  | j + 1, c, m, l => by
    simp only [seqN]
    split
    · split
      · exact ⟨by dsimp only; omega, by dsimp only; omega⟩
      · have h := seqN_len N hN j (c.pick (readyL N m N.ts.length).length).2 (nextM N m ((readyL N m N.ts.length).getD (c.pick (readyL N m N.ts.length).length).1.toNat 0)) (l ++ [(readyL N m N.ts.length).getD (c.pick (readyL N m N.ts.length).length).1.toNat 0])
        have h2 := c.pick_pos (readyL N m N.ts.length).length
        simp only [List.length_append, List.length_cons, List.length_nil] at h
        exact ⟨by omega, by omega⟩
    · exact ⟨by dsimp only; omega, by dsimp only; omega⟩
def seqL0 (N : Net) (m : List UInt8) (c : Cur) : List Int × Cur := seqN N (c.pick 6).1.toNat (c.pick 6).2 m []
def seqL (N : Net) (m : List UInt8) (c : Cur) : List Int := if ((seqL0 N m c).2.pick 5).1 = 0 then (seqL0 N m c).1 ++ [(((seqL0 N m c).2.pick 5).2.pick 5).1] else (seqL0 N m c).1
def drawL (code : List UInt8) : List Int := seqL (drawM code).1 (drawM code).2 (cur0 code)
theorem putAll_len : ∀ {l : List Int} {m m' : List UInt8}, putAll l m = some m' → m'.length = m.length
  | [], m, m', h => by rw [putAll] at h; cases h; rfl
  | p :: ps, m, m', h => by
    rw [putAll] at h
    split at h
    · cases h
    · rw [putAll_len h, List.length_set]
theorem clearAll_len : ∀ (l : List Int) (m : List UInt8), (clearAll l m).length = m.length
  | [], m => rfl
  | p :: ps, m => (clearAll_len ps (m.set p.toNat 48)).trans (List.length_set ..)
theorem fireT_len {t : Tn} {m : List UInt8} (h : (fireT t m).2 = true) : (fireT t m).1.length = m.length := by
  unfold fireT at h ⊢
  cases hp : putAll t.post (clearAll t.pre m) with
  | none => rw [hp] at h; cases h
  | some m' => exact (putAll_len hp).trans (clearAll_len _ _)
theorem readyL_mem {N : Net} {m : List UInt8} {k : Nat} {x : Int} (h : x ∈ readyL N m k) : ∃ q : Nat, ∃ hq : q < N.ts.length, x = q := by
  unfold readyL at h
  rw [List.mem_map] at h
  obtain ⟨q, hq, rfl⟩ := h
  rw [List.mem_filter] at hq
  have h2 := hq.2
  by_cases hl : q < N.ts.length
  · exact ⟨q, hl, rfl⟩
  · rw [List.getElem?_eq_none (by omega)] at h2; simp at h2
theorem getD_in {l : List Int} {k : Nat} (h : k < l.length) : l.getD k 0 ∈ l := by
  rw [List.getD_eq_getElem?_getD, List.getElem?_eq_getElem h]; exact List.getElem_mem h
theorem nextM_t {N : Net} {m : List UInt8} {q : Nat} (hq : q < N.ts.length) (h : (fireT N.ts[q] m).2 = true) : nextM N m (q : Int) = (fireT N.ts[q] m).1 := by
  unfold nextM
  rw [Int.toNat_natCast, List.getD_eq_getElem?_getD, List.getElem?_eq_getElem hq]
  exact if_pos h
theorem nextM_f {N : Net} {m : List UInt8} {q : Nat} (hq : q < N.ts.length) (h : (fireT N.ts[q] m).2 = false) : nextM N m (q : Int) = m := by
  unfold nextM
  rw [Int.toNat_natCast, List.getD_eq_getElem?_getD, List.getElem?_eq_getElem hq]
  exact if_neg (by rw [Option.getD_some, h]; exact Bool.false_ne_true)
theorem seqN_out {N : Net} {j : Nat} {c : Cur} {m : List UInt8} {l : List Int} (h : (goodN N && bitsB m N.places) = false) : seqN N j c m l = (l, c) := by
  cases j with
  | zero => rfl
  | succ j => simp only [seqN]; rw [if_neg (by rw [h]; exact Bool.false_ne_true)]
theorem seqN_dead {N : Net} {j : Nat} {c : Cur} {m : List UInt8} {l : List Int} (h : (readyL N m N.ts.length).length = 0) : seqN N j c m l = (l, c) := by
  cases j with
  | zero => rfl
  | succ j => simp only [seqN]; rw [if_pos h]; exact ite_self _
theorem seqN_on {N : Net} {j : Nat} {c : Cur} {m : List UInt8} {l : List Int} (hg : (goodN N && bitsB m N.places) = true) (h : ¬ (readyL N m N.ts.length).length = 0) {q : Nat} (hq : (readyL N m N.ts.length).getD (c.pick (readyL N m N.ts.length).length).1.toNat 0 = q) : seqN N (j + 1) c m l = seqN N j (c.pick (readyL N m N.ts.length).length).2 (nextM N m (q : Int)) (l ++ [(q : Int)]) := by
  rw [← hq]
  show (if _ then (if _ then _ else _) else _) = _
  rw [if_pos hg, if_neg h]
set_option maxHeartbeats 4000000 in
theorem sDrawSeq_gen (code : List UInt8) (N : Net) (m0 : List UInt8) (hD : ASpec Try.prog 28 [.d (vB code)] [] (Pure1 (.tup [netA N, aS (bstr m0)]))) (hd : small N ∧ m0.length ≤ 40) : ASpec Try.prog 14 [.d (vB code)] [] (Pure1 (.tup [netA N, aS (bstr m0), .d (vI (seqL N m0 (cur0 code)))])) := by
  have hpos0 : (cur0 code).pos = 0 := rfl
  have h1 := (cur0 code).pick_in 6 (by decide)
  have h2 := (cur0 code).pick_pos 6
  have hB := small_B hd.1
  have hsl := seqN_len N hd.1.2.2.1
  refine ASpec.of Try.func14 rfl rfl fun C hC => ?_
  refine AC.seq ?_
  refine AC.region ?_
  refine AL.q (by exact h_alloc rfl) rfl ?_
  refine AL.p (by first | exact g_assign (r := .d _) rfl | exact g_assign (r := .own _ _) rfl | exact g_assign (r := .ptr _ _) rfl | exact g_assign (r := .agg _) rfl | exact g_assign (r := .tup _) rfl | exact g_assign (r := .clo _ _) rfl | exact g_assign (r := .tight _ _ _) rfl | exact g_assign (r := .und) rfl | exact g_assign (r := .dead) rfl) rfl ?_
  refine AL.p (by first | exact g_assign (r := .d _) rfl | exact g_assign (r := .own _ _) rfl | exact g_assign (r := .ptr _ _) rfl | exact g_assign (r := .agg _) rfl | exact g_assign (r := .tup _) rfl | exact g_assign (r := .clo _ _) rfl | exact g_assign (r := .tight _ _ _) rfl | exact g_assign (r := .und) rfl | exact g_assign (r := .dead) rfl) rfl ?_
  refine AL.nil ?_
  refine th_n ?_
  refine AC.seq ?_
  refine AC.region ?_
  refine AL.p (by first | exact g_move (r := .d _) rfl | exact g_move (r := .own _ _) rfl | exact g_move (r := .ptr _ _) rfl | exact g_move (r := .agg _) rfl | exact g_move (r := .tup _) rfl | exact g_move (r := .clo _ _) rfl | exact g_move (r := .tight _ _ _) rfl | exact g_move (r := .und) rfl | exact g_move (r := .dead) rfl) rfl ?_
  refine AL.p (by exact g_build rfl rfl rfl) rfl ?_
  refine AL.q (by exact h_box rfl) rfl ?_
  refine AL.p (by first | exact g_assign (r := .d _) rfl | exact g_assign (r := .own _ _) rfl | exact g_assign (r := .ptr _ _) rfl | exact g_assign (r := .agg _) rfl | exact g_assign (r := .tup _) rfl | exact g_assign (r := .clo _ _) rfl | exact g_assign (r := .tight _ _ _) rfl | exact g_assign (r := .und) rfl | exact g_assign (r := .dead) rfl) rfl ?_
  refine AL.nil ?_
  refine th_n ?_
  refine AC.seq ?_
  refine AC.region ?_
  refine AL.p (by first | exact g_move (r := .d _) rfl | exact g_move (r := .own _ _) rfl | exact g_move (r := .ptr _ _) rfl | exact g_move (r := .agg _) rfl | exact g_move (r := .tup _) rfl | exact g_move (r := .clo _ _) rfl | exact g_move (r := .tight _ _ _) rfl | exact g_move (r := .und) rfl | exact g_move (r := .dead) rfl) rfl ?_
  refine AL.q (by exact h_pure en_sDrawMark rfl rfl (by repeat (first | exact rfl | exact DLead.same | exact DLead.nil | refine ⟨_, _, rfl, ?_, ?_⟩ | refine ⟨_, rfl, ?_⟩)) hD rfl) rfl ?_
  refine AL.p (by first | exact g_move (r := .d _) rfl | exact g_move (r := .own _ _) rfl | exact g_move (r := .ptr _ _) rfl | exact g_move (r := .agg _) rfl | exact g_move (r := .tup _) rfl | exact g_move (r := .clo _ _) rfl | exact g_move (r := .tight _ _ _) rfl | exact g_move (r := .und) rfl | exact g_move (r := .dead) rfl) rfl ?_
  refine AL.p (by first | exact g_extract (r := .d _) rfl rfl | exact g_extract (r := .own _ _) rfl rfl | exact g_extract (r := .agg _) rfl rfl) rfl ?_
  refine AL.p (by first | exact g_extract (r := .d _) rfl rfl | exact g_extract (r := .own _ _) rfl rfl | exact g_extract (r := .agg _) rfl rfl) rfl ?_
  refine AL.q (by exact h_alloc rfl) rfl ?_
  refine AL.q (by first | exact h_store rfl rfl rfl rfl rfl rfl | exact h_store_arr1 rfl rfl rfl rfl (by first | exact .same | exact .nil) (by assumption) | exact h_store_arr rfl rfl rfl rfl (by first | exact .same | exact .nil) (by first | rfl | omega) (by first | assumption | rfl) (by omega)) rfl ?_
  refine AL.p (by first | exact g_assign (r := .d _) rfl | exact g_assign (r := .own _ _) rfl | exact g_assign (r := .ptr _ _) rfl | exact g_assign (r := .agg _) rfl | exact g_assign (r := .tup _) rfl | exact g_assign (r := .clo _ _) rfl | exact g_assign (r := .tight _ _ _) rfl | exact g_assign (r := .und) rfl | exact g_assign (r := .dead) rfl) rfl ?_
  refine AL.nil ?_
  refine th_n ?_
  refine AC.seq ?_
  refine AC.region ?_
  refine AL.p (by first | exact g_assign (r := .d _) rfl | exact g_assign (r := .own _ _) rfl | exact g_assign (r := .ptr _ _) rfl | exact g_assign (r := .agg _) rfl | exact g_assign (r := .tup _) rfl | exact g_assign (r := .clo _ _) rfl | exact g_assign (r := .tight _ _ _) rfl | exact g_assign (r := .und) rfl | exact g_assign (r := .dead) rfl) rfl ?_
  refine AL.nil ?_
  refine th_n ?_
  refine AC.seq ?_
  refine AC.region ?_
  refine AL.p (by first | exact g_move (r := .d _) rfl | exact g_move (r := .own _ _) rfl | exact g_move (r := .ptr _ _) rfl | exact g_move (r := .agg _) rfl | exact g_move (r := .tup _) rfl | exact g_move (r := .clo _ _) rfl | exact g_move (r := .tight _ _ _) rfl | exact g_move (r := .und) rfl | exact g_move (r := .dead) rfl) rfl ?_
  refine AL.p (by first | exact g_assign (r := .d _) rfl | exact g_assign (r := .own _ _) rfl | exact g_assign (r := .ptr _ _) rfl | exact g_assign (r := .agg _) rfl | exact g_assign (r := .tup _) rfl | exact g_assign (r := .clo _ _) rfl | exact g_assign (r := .tight _ _ _) rfl | exact g_assign (r := .und) rfl | exact g_assign (r := .dead) rfl) rfl ?_
  refine AL.nil ?_
  refine th_n ?_
  refine AC.cut (fun (x : List Int × Cur) => ⟨75, 128, [(2, .ptr 102 0), (5, .ptr 101 0), (6, .ptr 103 0), (7, aS (bstr m0)), (8, .own 100 x.1.length)], [(100, some (.arr 3 1 (ints x.1))), (101, some (curC x.2)), (102, some (.cells 26 [aI 0, .d (.val (.slice none 0 0))])), (103, some (.cells 26 [aI N.places, .d (vTs N.ts)]))]⟩) (fun x => x = seqL0 N m0 (cur0 code) ∧ x.1.length ≤ 10 ∧ x.2.pos ≤ 100) ?_ ?_
  · refine AC.seq ?_
    refine AC.region ?_
    refine AL.p (by first | exact g_move (r := .d _) rfl | exact g_move (r := .own _ _) rfl | exact g_move (r := .ptr _ _) rfl | exact g_move (r := .agg _) rfl | exact g_move (r := .tup _) rfl | exact g_move (r := .clo _ _) rfl | exact g_move (r := .tight _ _ _) rfl | exact g_move (r := .und) rfl | exact g_move (r := .dead) rfl) rfl ?_
    refine AL.q (by exact h_fun (cs := [8]) en_pick rfl rfl (by repeat (first | exact rfl | exact DLead.same | exact DLead.nil | refine ⟨_, _, rfl, ?_, ?_⟩ | refine ⟨_, rfl, ?_⟩)) (by repeat (first | exact True.intro | refine And.intro ?_ ?_ | exact DLead.same | exact DLead.eqI (by omega) | exact DLead.nil | exact rfl | refine ⟨_, _, rfl, rfl, ?_⟩ | refine ⟨_, rfl, ?_⟩ | refine ⟨_, _, rfl, ?_, ?_⟩)) (pick_spec (cur0 code) 6 (by decide) (by omega)) rfl rfl rfl rfl) rfl ?_
    refine AL.p (by first | exact g_assign (r := .d _) rfl | exact g_assign (r := .own _ _) rfl | exact g_assign (r := .ptr _ _) rfl | exact g_assign (r := .agg _) rfl | exact g_assign (r := .tup _) rfl | exact g_assign (r := .clo _ _) rfl | exact g_assign (r := .tight _ _ _) rfl | exact g_assign (r := .und) rfl | exact g_assign (r := .dead) rfl) rfl ?_
    refine AL.nil ?_
    refine th_n ?_
    refine AC.block ?_
    refine AC.loop (ι := Nat × Cur × List UInt8 × List Int) (fun x => ⟨75, 128, [(2, .ptr 102 0), (5, .ptr 101 0), (6, .ptr 103 0), (7, aS (bstr m0)), (8, .own 100 x.2.2.2.length), (9, aS (bstr x.2.2.1)), (10, aI x.1)], [(100, some (.arr 3 1 (ints x.2.2.2))), (101, some (curC x.2.1)), (102, some (.cells 26 [aI 0, .d (.val (.slice none 0 0))])), (103, some (.cells 26 [aI N.places, .d (vTs N.ts)]))]⟩) (fun x => seqN N x.1 x.2.1 x.2.2.1 x.2.2.2 = seqL0 N m0 (cur0 code) ∧ x.2.2.2.length + x.1 ≤ 10 ∧ x.2.1.pos + 2 * x.1 ≤ 100 ∧ x.2.2.1.length ≤ 40) (fun x => x.1) ((((cur0 code).pick 6).1.toNat, ((cur0 code).pick 6).2, m0, [])) ?_ (⟨rfl, by show 0 + ((cur0 code).pick 6).1.toNat ≤ _; omega, by show ((cur0 code).pick 6).2.pos + 2 * ((cur0 code).pick 6).1.toNat ≤ _; omega, hd.2⟩) ?_
    · exact (Weak.nilOwn (i := 8) (e := 3) (sz := 1) rfl (by decide)).trans (Weak.ren _ [(100, _), (101, _), (102, _), (103, _)] hC rfl (by repeat (first | exact True.intro | refine And.intro ?_ ?_ | exact DLead.same | exact DLead.eqI (by omega) | exact DLead.nil | exact rfl | refine ⟨_, _, rfl, rfl, ?_⟩ | refine ⟨_, rfl, ?_⟩ | refine ⟨_, _, rfl, ?_, ?_⟩)) (by repeat (first | exact True.intro | refine And.intro ?_ ?_ | exact DLead.same | exact DLead.eqI (by omega) | exact DLead.nil | exact rfl | refine ⟨_, _, rfl, rfl, ?_⟩ | refine ⟨_, rfl, ?_⟩ | refine ⟨_, _, rfl, ?_, ?_⟩)) rfl rfl rfl)
    · rintro ⟨j, cc, mm, l⟩ ⟨hsub, hlen, hpos, hml⟩
      dsimp only at hsub hlen hpos hml ⊢
      refine AC.seq ?_
      refine AC.seq ?_
      refine AC.region ?_
      refine AL.p (by first | exact g_move (r := .d _) rfl | exact g_move (r := .own _ _) rfl | exact g_move (r := .ptr _ _) rfl | exact g_move (r := .agg _) rfl | exact g_move (r := .tup _) rfl | exact g_move (r := .clo _ _) rfl | exact g_move (r := .tight _ _ _) rfl | exact g_move (r := .und) rfl | exact g_move (r := .dead) rfl) rfl ?_
      refine AL.p (by first | exact g_cmp rfl rfl rfl | exact g_scmp rfl rfl rfl | exact g_eqB rfl rfl rfl | exact g_neB rfl rfl rfl) rfl ?_
      refine AL.p (by first | exact g_move (r := .d _) rfl | exact g_move (r := .own _ _) rfl | exact g_move (r := .ptr _ _) rfl | exact g_move (r := .agg _) rfl | exact g_move (r := .tup _) rfl | exact g_move (r := .clo _ _) rfl | exact g_move (r := .tight _ _ _) rfl | exact g_move (r := .und) rfl | exact g_move (r := .dead) rfl) rfl ?_
      first | refine AL.caseG rfl rfl (fun h0 => ?_) (fun h0 => ?_) | refine AL.caseGN rfl rfl (fun h0 => ?_) (fun h0 => ?_) | refine AL.caseGB rfl rfl (fun h0 => ?_) (fun h0 => ?_) | refine AL.caseGNB rfl rfl (fun h0 => ?_) (fun h0 => ?_)
      · refine AL.yes rfl rfl rfl ?_
        refine AL.p (by first | exact g_load_ref rfl rfl rfl | exact g_load_ptr rfl rfl rfl rfl rfl | exact g_load_refN rfl rfl rfl rfl | exact g_load_ptrN rfl rfl rfl rfl rfl | exact g_load_arr1 rfl rfl rfl rfl (by assumption) | exact g_load_arr rfl rfl rfl rfl (by first | rfl | omega) (by first | assumption | rfl) (by first | assumption | rfl)) rfl ?_
        refine AL.yes rfl rfl rfl ?_
        refine AL.q (by exact h_pure en_l1Good rfl rfl (by repeat (first | exact rfl | exact DLead.same | exact DLead.nil | refine ⟨_, _, rfl, ?_, ?_⟩ | refine ⟨_, rfl, ?_⟩ | exact ⟨_, rfl, rfl⟩)) (l1Good_spec _ (by assumption)) rfl) rfl ?_
        refine AL.p (by first | exact g_pickT (r := .d _) rfl rfl | exact g_pickF (r := .d _) rfl rfl) rfl ?_
        refine AL.p (by first | exact g_move (r := .d _) rfl | exact g_move (r := .own _ _) rfl | exact g_move (r := .ptr _ _) rfl | exact g_move (r := .agg _) rfl | exact g_move (r := .tup _) rfl | exact g_move (r := .clo _ _) rfl | exact g_move (r := .tight _ _ _) rfl | exact g_move (r := .und) rfl | exact g_move (r := .dead) rfl) rfl ?_
        first | refine AL.caseG rfl rfl (fun h1 => ?_) (fun h1 => ?_) | refine AL.caseGN rfl rfl (fun h1 => ?_) (fun h1 => ?_) | refine AL.caseGB rfl rfl (fun h1 => ?_) (fun h1 => ?_) | refine AL.caseGNB rfl rfl (fun h1 => ?_) (fun h1 => ?_)
        · refine AL.yes rfl rfl rfl ?_
          refine AL.p (by first | exact g_load_ref rfl rfl rfl | exact g_load_ptr rfl rfl rfl rfl rfl | exact g_load_refN rfl rfl rfl rfl | exact g_load_ptrN rfl rfl rfl rfl rfl | exact g_load_arr1 rfl rfl rfl rfl (by assumption) | exact g_load_arr rfl rfl rfl rfl (by first | rfl | omega) (by first | assumption | rfl) (by first | assumption | rfl)) rfl ?_
          refine AL.yes rfl rfl rfl ?_
          refine AL.p (by first | exact g_move (r := .d _) rfl | exact g_move (r := .own _ _) rfl | exact g_move (r := .ptr _ _) rfl | exact g_move (r := .agg _) rfl | exact g_move (r := .tup _) rfl | exact g_move (r := .clo _ _) rfl | exact g_move (r := .tight _ _ _) rfl | exact g_move (r := .und) rfl | exact g_move (r := .dead) rfl) rfl ?_
          refine AL.yes rfl rfl rfl ?_
          refine AL.q (by exact h_pure en_l1Mark rfl rfl (by repeat (first | exact rfl | exact DLead.same | exact DLead.nil | refine ⟨_, _, rfl, ?_, ?_⟩ | refine ⟨_, rfl, ?_⟩ | exact ⟨_, rfl, rfl⟩)) (l1Mark_spec _ _ (by first | assumption | omega)) rfl) rfl ?_
          refine AL.p (by first | exact g_pickT (r := .d _) rfl rfl | exact g_pickF (r := .d _) rfl rfl) rfl ?_
          refine AL.nil ?_
          refine th_n ?_
          first | refine AC.condD rfl (fun h2 => ?_) (fun h2 => ?_) | refine AC.condND rfl (fun h2 => ?_) (fun h2 => ?_) | refine AC.condB rfl (fun h2 => ?_) (fun h2 => ?_) | refine AC.condNB rfl (fun h2 => ?_) (fun h2 => ?_)
          · refine AC.skip ?_
            refine th_n ?_
            refine AC.seq ?_
            refine AC.block ?_
            refine AC.seq ?_
            obtain ⟨i, rfl⟩ : ∃ i, j = i + 1 := ⟨j - 1, by omega⟩
            have hM : NetM N mm := good_netM h1 h2
            have hrl := readyL_len N mm N.ts.length
            have hg : (goodN N && bitsB mm N.places) = true := by rw [h1, h2]; rfl
            refine AC.region ?_
            refine AL.p (by first | exact g_load_ref rfl rfl rfl | exact g_load_ptr rfl rfl rfl rfl rfl | exact g_load_refN rfl rfl rfl rfl | exact g_load_ptrN rfl rfl rfl rfl rfl | exact g_load_arr1 rfl rfl rfl rfl (by assumption) | exact g_load_arr rfl rfl rfl rfl (by first | rfl | omega) (by first | assumption | rfl) (by first | assumption | rfl)) rfl ?_
            refine AL.p (by first | exact g_move (r := .d _) rfl | exact g_move (r := .own _ _) rfl | exact g_move (r := .ptr _ _) rfl | exact g_move (r := .agg _) rfl | exact g_move (r := .tup _) rfl | exact g_move (r := .clo _ _) rfl | exact g_move (r := .tight _ _ _) rfl | exact g_move (r := .und) rfl | exact g_move (r := .dead) rfl) rfl ?_
            refine AL.q (by exact h_pure en_l1Enabled rfl rfl (by repeat (first | exact rfl | exact DLead.same | exact DLead.nil | refine ⟨_, _, rfl, ?_, ?_⟩ | refine ⟨_, rfl, ?_⟩ | exact ⟨_, rfl, rfl⟩)) (l1Enabled_spec _ _ (by assumption) (by assumption)) rfl) rfl ?_
            refine AL.p (by first | exact g_assign (r := .d _) rfl | exact g_assign (r := .own _ _) rfl | exact g_assign (r := .ptr _ _) rfl | exact g_assign (r := .agg _) rfl | exact g_assign (r := .tup _) rfl | exact g_assign (r := .clo _ _) rfl | exact g_assign (r := .tight _ _ _) rfl | exact g_assign (r := .und) rfl | exact g_assign (r := .dead) rfl) rfl ?_
            refine AL.nil ?_
            refine th_n ?_
            refine AC.seq ?_
            refine AC.seq ?_
            obtain ⟨L, hL⟩ : ∃ L, L = readyL N mm N.ts.length := ⟨_, rfl⟩
            rw [← hL] at hrl ⊢
            refine AC.region ?_
            refine AL.p (by first | exact g_move (r := .d _) rfl | exact g_move (r := .own _ _) rfl | exact g_move (r := .ptr _ _) rfl | exact g_move (r := .agg _) rfl | exact g_move (r := .tup _) rfl | exact g_move (r := .clo _ _) rfl | exact g_move (r := .tight _ _ _) rfl | exact g_move (r := .und) rfl | exact g_move (r := .dead) rfl) rfl ?_
            refine AL.p (by first | exact g_len_view rfl rfl (by first | exact List.length_map _ | rfl) | exact g_len_str rfl rfl rfl | exact g_len_nil rfl rfl | exact g_len_own (sz := 1) (els := []) (e' := 0) rfl rfl (by simp only [maxLen]; omega) | exact g_len_tight rfl rfl (by first | exact List.length_map _ | rfl)) rfl ?_
            refine AL.p (by first | exact g_cmp rfl rfl rfl | exact g_scmp rfl rfl rfl | exact g_eqB rfl rfl rfl | exact g_neB rfl rfl rfl) rfl ?_
            refine AL.nil ?_
            refine th_n ?_
            first | refine AC.condD rfl (fun h3 => ?_) (fun h3 => ?_) | refine AC.condND rfl (fun h3 => ?_) (fun h3 => ?_) | refine AC.condB rfl (fun h3 => ?_) (fun h3 => ?_) | refine AC.condNB rfl (fun h3 => ?_) (fun h3 => ?_)
            · refine AC.exit ?_
              refine th_e ?_
              refine ib_no rfl ?_
              refine th_e ?_
              refine th_e ?_
              refine ib_y ?_
              refine th_n ?_
              have e : (l, cc) = seqL0 N m0 (cur0 code) := (by first | (have hj : j = 0 := (by omega); subst hj; exact hsub) | exact (seqN_out (by rw [h1, h2]; rfl)).symm.trans hsub | exact (seqN_out (by rw [h1]; rfl)).symm.trans hsub | exact (seqN_dead (by rw [← hL]; omega)).symm.trans hsub)
              exact ⟨(l, cc), ⟨e, by dsimp only; omega, by dsimp only; omega⟩, Weak.ren _ [(100, _), (101, _), (102, _), (103, _)] hC rfl (by repeat (first | exact True.intro | refine And.intro ?_ ?_ | exact DLead.same | exact DLead.eqI (by omega) | exact DLead.nil | exact rfl | refine ⟨_, _, rfl, rfl, ?_⟩ | refine ⟨_, rfl, ?_⟩ | refine ⟨_, _, rfl, ?_, ?_⟩)) (by repeat (first | exact True.intro | refine And.intro ?_ ?_ | exact DLead.same | exact DLead.eqI (by omega) | exact DLead.nil | exact rfl | refine ⟨_, _, rfl, rfl, ?_⟩ | refine ⟨_, rfl, ?_⟩ | refine ⟨_, _, rfl, ?_, ?_⟩)) rfl rfl rfl⟩
            · refine AC.skip ?_
              refine th_n ?_
              refine AC.seq ?_
              have hne : ¬ L.length = 0 := by omega
              have hpk := cc.pick_in L.length (by omega)
              have hpp := cc.pick_pos L.length
              have hts4 := hd.1.2.2.1
              have hI : (cc.pick L.length).1 = (((cc.pick L.length).1.toNat : Nat) : Int) := by omega
              have hget := ints_get (l := L) (k := (cc.pick L.length).1.toNat) (by omega)
              have hmem : L.getD (cc.pick L.length).1.toNat 0 ∈ readyL N mm N.ts.length := by rw [← hL]; exact getD_in (by omega)
              obtain ⟨q, hq, hqe⟩ := readyL_mem hmem
              rw [hqe] at hget
              rw [seqN_on (q := q) hg (by rw [← hL]; exact hne) (by rw [← hL]; exact hqe), ← hL] at hsub
              have hl1 := (hB.t _ (List.getElem_mem hq)).1
              have hl2 := (hB.t _ (List.getElem_mem hq)).2
              have hp1 := (hM _ (List.getElem_mem hq)).1
              have hp2 := (hM _ (List.getElem_mem hq)).2
              refine AC.region ?_
              refine AL.p (by first | exact g_move (r := .d _) rfl | exact g_move (r := .own _ _) rfl | exact g_move (r := .ptr _ _) rfl | exact g_move (r := .agg _) rfl | exact g_move (r := .tup _) rfl | exact g_move (r := .clo _ _) rfl | exact g_move (r := .tight _ _ _) rfl | exact g_move (r := .und) rfl | exact g_move (r := .dead) rfl) rfl ?_
              refine AL.p (by first | exact g_move (r := .d _) rfl | exact g_move (r := .own _ _) rfl | exact g_move (r := .ptr _ _) rfl | exact g_move (r := .agg _) rfl | exact g_move (r := .tup _) rfl | exact g_move (r := .clo _ _) rfl | exact g_move (r := .tight _ _ _) rfl | exact g_move (r := .und) rfl | exact g_move (r := .dead) rfl) rfl ?_
              refine AL.p (by first | exact g_move (r := .d _) rfl | exact g_move (r := .own _ _) rfl | exact g_move (r := .ptr _ _) rfl | exact g_move (r := .agg _) rfl | exact g_move (r := .tup _) rfl | exact g_move (r := .clo _ _) rfl | exact g_move (r := .tight _ _ _) rfl | exact g_move (r := .und) rfl | exact g_move (r := .dead) rfl) rfl ?_
              refine AL.p (by first | exact g_len_view rfl rfl (by first | exact List.length_map _ | rfl) | exact g_len_str rfl rfl rfl | exact g_len_nil rfl rfl | exact g_len_own (sz := 1) (els := []) (e' := 0) rfl rfl (by simp only [maxLen]; omega) | exact g_len_tight rfl rfl (by first | exact List.length_map _ | rfl)) rfl ?_
              refine AL.q (by exact h_fun (cs := [101]) en_pick rfl rfl (by repeat (first | exact rfl | exact DLead.same | exact DLead.nil | refine ⟨_, _, rfl, ?_, ?_⟩ | refine ⟨_, rfl, ?_⟩)) (by repeat (first | exact True.intro | refine And.intro ?_ ?_ | exact DLead.same | exact DLead.eqI (by omega) | exact DLead.nil | exact rfl | refine ⟨_, _, rfl, rfl, ?_⟩ | refine ⟨_, rfl, ?_⟩ | refine ⟨_, _, rfl, ?_, ?_⟩)) (pick_spec cc L.length (by omega) (by omega)) rfl rfl rfl rfl) rfl ?_
              refine AL.p (by first | exact g_ia_view rfl rfl rfl rfl rfl (by first | rfl | assumption) (by first | assumption | rfl) | exact g_ia_own rfl rfl rfl rfl rfl (by first | rfl | assumption) (by omega) (by first | exact Nat.mul_one _ | rfl | omega)) rfl ?_
              refine AL.p (by first | exact g_load_ref rfl rfl rfl | exact g_load_ptr rfl rfl rfl rfl rfl | exact g_load_refN rfl rfl rfl rfl | exact g_load_ptrN rfl rfl rfl rfl rfl | exact g_load_arr1 rfl rfl rfl rfl (by assumption) | exact g_load_arr rfl rfl rfl rfl (by first | rfl | omega) (by first | assumption | rfl) (by first | assumption | rfl)) rfl ?_
              refine AL.p (by first | exact g_assign (r := .d _) rfl | exact g_assign (r := .own _ _) rfl | exact g_assign (r := .ptr _ _) rfl | exact g_assign (r := .agg _) rfl | exact g_assign (r := .tup _) rfl | exact g_assign (r := .clo _ _) rfl | exact g_assign (r := .tight _ _ _) rfl | exact g_assign (r := .und) rfl | exact g_assign (r := .dead) rfl) rfl ?_
              refine AL.nil ?_
              refine th_n ?_
              refine AC.seq ?_
              refine AC.region ?_
              refine AL.p (by first | exact g_move (r := .d _) rfl | exact g_move (r := .own _ _) rfl | exact g_move (r := .ptr _ _) rfl | exact g_move (r := .agg _) rfl | exact g_move (r := .tup _) rfl | exact g_move (r := .clo _ _) rfl | exact g_move (r := .tight _ _ _) rfl | exact g_move (r := .und) rfl | exact g_move (r := .dead) rfl) rfl ?_
              refine AL.p (by first | exact g_move (r := .d _) rfl | exact g_move (r := .own _ _) rfl | exact g_move (r := .ptr _ _) rfl | exact g_move (r := .agg _) rfl | exact g_move (r := .tup _) rfl | exact g_move (r := .clo _ _) rfl | exact g_move (r := .tight _ _ _) rfl | exact g_move (r := .und) rfl | exact g_move (r := .dead) rfl) rfl ?_
              refine AL.q (by exact h_litF rfl rfl rfl rfl rfl rfl rfl rfl) rfl ?_
              refine AL.q (by exact h_appendI l [(q : Int)] (.own rfl rfl (ints_len _).symm) (.view rfl) (by simp; omega) (by simp)) rfl ?_
              refine AL.p (by first | exact g_assign (r := .d _) rfl | exact g_assign (r := .own _ _) rfl | exact g_assign (r := .ptr _ _) rfl | exact g_assign (r := .agg _) rfl | exact g_assign (r := .tup _) rfl | exact g_assign (r := .clo _ _) rfl | exact g_assign (r := .tight _ _ _) rfl | exact g_assign (r := .und) rfl | exact g_assign (r := .dead) rfl) rfl ?_
              refine AL.nil ?_
              refine th_n ?_
              refine AC.seq ?_
              have hF := l1Fire_spec N mm q hq (by omega) hl1 hl2 hp1 hp2
              obtain ⟨F, hFe⟩ : ∃ F, fireT N.ts[q] mm = F := ⟨_, rfl⟩
              rw [hFe] at hF
              have hFl : F.2 = true → F.1.length = mm.length := (by rw [← hFe]; exact fireT_len)
              refine AC.region ?_
              refine AL.p (by first | exact g_load_ref rfl rfl rfl | exact g_load_ptr rfl rfl rfl rfl rfl | exact g_load_refN rfl rfl rfl rfl | exact g_load_ptrN rfl rfl rfl rfl rfl | exact g_load_arr1 rfl rfl rfl rfl (by assumption) | exact g_load_arr rfl rfl rfl rfl (by first | rfl | omega) (by first | assumption | rfl) (by first | assumption | rfl)) rfl ?_
              refine AL.p (by first | exact g_move (r := .d _) rfl | exact g_move (r := .own _ _) rfl | exact g_move (r := .ptr _ _) rfl | exact g_move (r := .agg _) rfl | exact g_move (r := .tup _) rfl | exact g_move (r := .clo _ _) rfl | exact g_move (r := .tight _ _ _) rfl | exact g_move (r := .und) rfl | exact g_move (r := .dead) rfl) rfl ?_
              refine AL.p (by first | exact g_move (r := .d _) rfl | exact g_move (r := .own _ _) rfl | exact g_move (r := .ptr _ _) rfl | exact g_move (r := .agg _) rfl | exact g_move (r := .tup _) rfl | exact g_move (r := .clo _ _) rfl | exact g_move (r := .tight _ _ _) rfl | exact g_move (r := .und) rfl | exact g_move (r := .dead) rfl) rfl ?_
              refine AL.q (by exact h_pure en_l1Fire rfl rfl (by repeat (first | exact rfl | exact DLead.same | exact DLead.nil | refine ⟨_, _, rfl, ?_, ?_⟩ | refine ⟨_, rfl, ?_⟩)) hF rfl) rfl ?_
              refine AL.p (by first | exact g_move (r := .d _) rfl | exact g_move (r := .own _ _) rfl | exact g_move (r := .ptr _ _) rfl | exact g_move (r := .agg _) rfl | exact g_move (r := .tup _) rfl | exact g_move (r := .clo _ _) rfl | exact g_move (r := .tight _ _ _) rfl | exact g_move (r := .und) rfl | exact g_move (r := .dead) rfl) rfl ?_
              refine AL.p (by first | exact g_extract (r := .d _) rfl rfl | exact g_extract (r := .own _ _) rfl rfl | exact g_extract (r := .agg _) rfl rfl) rfl ?_
              refine AL.p (by first | exact g_extract (r := .d _) rfl rfl | exact g_extract (r := .own _ _) rfl rfl | exact g_extract (r := .agg _) rfl rfl) rfl ?_
              refine AL.p (by first | exact g_assign (r := .d _) rfl | exact g_assign (r := .own _ _) rfl | exact g_assign (r := .ptr _ _) rfl | exact g_assign (r := .agg _) rfl | exact g_assign (r := .tup _) rfl | exact g_assign (r := .clo _ _) rfl | exact g_assign (r := .tight _ _ _) rfl | exact g_assign (r := .und) rfl | exact g_assign (r := .dead) rfl) rfl ?_
              refine AL.p (by first | exact g_assign (r := .d _) rfl | exact g_assign (r := .own _ _) rfl | exact g_assign (r := .ptr _ _) rfl | exact g_assign (r := .agg _) rfl | exact g_assign (r := .tup _) rfl | exact g_assign (r := .clo _ _) rfl | exact g_assign (r := .tight _ _ _) rfl | exact g_assign (r := .und) rfl | exact g_assign (r := .dead) rfl) rfl ?_
              refine AL.nil ?_
              refine th_n ?_
              refine AC.seq ?_
              refine AC.region ?_
              refine AL.p (by first | exact g_move (r := .d _) rfl | exact g_move (r := .own _ _) rfl | exact g_move (r := .ptr _ _) rfl | exact g_move (r := .agg _) rfl | exact g_move (r := .tup _) rfl | exact g_move (r := .clo _ _) rfl | exact g_move (r := .tight _ _ _) rfl | exact g_move (r := .und) rfl | exact g_move (r := .dead) rfl) rfl ?_
              refine AL.nil ?_
              refine th_n ?_
              first | refine AC.condD rfl (fun h4 => ?_) (fun h4 => ?_) | refine AC.condND rfl (fun h4 => ?_) (fun h4 => ?_) | refine AC.condB rfl (fun h4 => ?_) (fun h4 => ?_) | refine AC.condNB rfl (fun h4 => ?_) (fun h4 => ?_)
              · refine AC.region ?_
                refine AL.p (by first | exact g_move (r := .d _) rfl | exact g_move (r := .own _ _) rfl | exact g_move (r := .ptr _ _) rfl | exact g_move (r := .agg _) rfl | exact g_move (r := .tup _) rfl | exact g_move (r := .clo _ _) rfl | exact g_move (r := .tight _ _ _) rfl | exact g_move (r := .und) rfl | exact g_move (r := .dead) rfl) rfl ?_
                refine AL.p (by first | exact g_assign (r := .d _) rfl | exact g_assign (r := .own _ _) rfl | exact g_assign (r := .ptr _ _) rfl | exact g_assign (r := .agg _) rfl | exact g_assign (r := .tup _) rfl | exact g_assign (r := .clo _ _) rfl | exact g_assign (r := .tight _ _ _) rfl | exact g_assign (r := .und) rfl | exact g_assign (r := .dead) rfl) rfl ?_
                refine AL.nil ?_
                refine ib_n ?_
                refine th_n ?_
                refine AC.region ?_
                refine AL.p (by first | exact g_move (r := .d _) rfl | exact g_move (r := .own _ _) rfl | exact g_move (r := .ptr _ _) rfl | exact g_move (r := .agg _) rfl | exact g_move (r := .tup _) rfl | exact g_move (r := .clo _ _) rfl | exact g_move (r := .tight _ _ _) rfl | exact g_move (r := .und) rfl | exact g_move (r := .dead) rfl) rfl ?_
                refine AL.p (by exact g_arith rfl rfl rfl (by first | exact wrap_i64 (by omega) | exact wrap_u8 (by omega) | exact wrap_u64 (by omega) | rfl)) rfl ?_
                refine AL.p (by first | exact g_assign (r := .d _) rfl | exact g_assign (r := .own _ _) rfl | exact g_assign (r := .ptr _ _) rfl | exact g_assign (r := .agg _) rfl | exact g_assign (r := .tup _) rfl | exact g_assign (r := .clo _ _) rfl | exact g_assign (r := .tight _ _ _) rfl | exact g_assign (r := .und) rfl | exact g_assign (r := .dead) rfl) rfl ?_
                refine AL.nil ?_
                refine th_n ?_
                have en : nextM N mm (q : Int) = (if F.2 = true then F.1 else mm) := (by rw [← hFe]; first | exact (nextM_t hq (by rw [hFe]; exact h4)).trans (if_pos (by rw [hFe]; exact h4)).symm | exact (nextM_f hq (by rw [hFe]; exact h4)).trans (if_neg (by rw [hFe, h4]; exact Bool.false_ne_true)).symm)
                have hln : (nextM N mm (q : Int)).length ≤ 40 := (by rw [en]; split <;> first | exact hml | exact Nat.le_trans (Nat.le_of_eq (hFl (by assumption))) hml)
                rw [en] at hsub hln
                first | rw [if_pos h4] at hsub hln | rw [if_neg (by rw [h4]; exact Bool.false_ne_true)] at hsub hln
                refine ⟨(i, (cc.pick L.length).2, _, l ++ [(q : Int)]), ⟨hsub, by simp; omega, by dsimp only; omega, hln⟩, by dsimp only; omega, Weak.ren _ [(100, _), (101, _), (102, _), (103, _)] hC rfl (by repeat (first | exact True.intro | refine And.intro ?_ ?_ | exact DLead.same | exact DLead.eqI (by omega) | exact DLead.nil | exact rfl | refine ⟨_, _, rfl, rfl, ?_⟩ | refine ⟨_, rfl, ?_⟩ | refine ⟨_, _, rfl, ?_, ?_⟩)) (by repeat (first | exact True.intro | refine And.intro ?_ ?_ | exact DLead.same | exact DLead.eqI (by omega) | exact DLead.nil | exact rfl | refine ⟨_, _, rfl, rfl, ?_⟩ | refine ⟨_, rfl, ?_⟩ | refine ⟨_, _, rfl, ?_, ?_⟩)) rfl rfl rfl⟩
              · refine AC.skip ?_
                refine ib_n ?_
                refine th_n ?_
                refine AC.region ?_
                refine AL.p (by first | exact g_move (r := .d _) rfl | exact g_move (r := .own _ _) rfl | exact g_move (r := .ptr _ _) rfl | exact g_move (r := .agg _) rfl | exact g_move (r := .tup _) rfl | exact g_move (r := .clo _ _) rfl | exact g_move (r := .tight _ _ _) rfl | exact g_move (r := .und) rfl | exact g_move (r := .dead) rfl) rfl ?_
                refine AL.p (by exact g_arith rfl rfl rfl (by first | exact wrap_i64 (by omega) | exact wrap_u8 (by omega) | exact wrap_u64 (by omega) | rfl)) rfl ?_
                refine AL.p (by first | exact g_assign (r := .d _) rfl | exact g_assign (r := .own _ _) rfl | exact g_assign (r := .ptr _ _) rfl | exact g_assign (r := .agg _) rfl | exact g_assign (r := .tup _) rfl | exact g_assign (r := .clo _ _) rfl | exact g_assign (r := .tight _ _ _) rfl | exact g_assign (r := .und) rfl | exact g_assign (r := .dead) rfl) rfl ?_
                refine AL.nil ?_
                refine th_n ?_
                have en : nextM N mm (q : Int) = (if F.2 = true then F.1 else mm) := (by rw [← hFe]; first | exact (nextM_t hq (by rw [hFe]; exact h4)).trans (if_pos (by rw [hFe]; exact h4)).symm | exact (nextM_f hq (by rw [hFe]; exact h4)).trans (if_neg (by rw [hFe, h4]; exact Bool.false_ne_true)).symm)
                have hln : (nextM N mm (q : Int)).length ≤ 40 := (by rw [en]; split <;> first | exact hml | exact Nat.le_trans (Nat.le_of_eq (hFl (by assumption))) hml)
                rw [en] at hsub hln
                first | rw [if_pos h4] at hsub hln | rw [if_neg (by rw [h4]; exact Bool.false_ne_true)] at hsub hln
                refine ⟨(i, (cc.pick L.length).2, _, l ++ [(q : Int)]), ⟨hsub, by simp; omega, by dsimp only; omega, hln⟩, by dsimp only; omega, Weak.ren _ [(100, _), (101, _), (102, _), (103, _)] hC rfl (by repeat (first | exact True.intro | refine And.intro ?_ ?_ | exact DLead.same | exact DLead.eqI (by omega) | exact DLead.nil | exact rfl | refine ⟨_, _, rfl, rfl, ?_⟩ | refine ⟨_, rfl, ?_⟩ | refine ⟨_, _, rfl, ?_, ?_⟩)) (by repeat (first | exact True.intro | refine And.intro ?_ ?_ | exact DLead.same | exact DLead.eqI (by omega) | exact DLead.nil | exact rfl | refine ⟨_, _, rfl, rfl, ?_⟩ | refine ⟨_, rfl, ?_⟩ | refine ⟨_, _, rfl, ?_, ?_⟩)) rfl rfl rfl⟩
          · refine AC.exit ?_
            refine th_e ?_
            refine th_e ?_
            refine ib_y ?_
            refine th_n ?_
            have e : (l, cc) = seqL0 N m0 (cur0 code) := (by first | (have hj : j = 0 := (by omega); subst hj; exact hsub) | exact (seqN_out (by rw [h1, h2]; rfl)).symm.trans hsub | exact (seqN_out (by rw [h1]; rfl)).symm.trans hsub | exact (seqN_dead (by rw [← hL]; omega)).symm.trans hsub)
            exact ⟨(l, cc), ⟨e, by dsimp only; omega, by dsimp only; omega⟩, Weak.ren _ [(100, _), (101, _), (102, _), (103, _)] hC rfl (by repeat (first | exact True.intro | refine And.intro ?_ ?_ | exact DLead.same | exact DLead.eqI (by omega) | exact DLead.nil | exact rfl | refine ⟨_, _, rfl, rfl, ?_⟩ | refine ⟨_, rfl, ?_⟩ | refine ⟨_, _, rfl, ?_, ?_⟩)) (by repeat (first | exact True.intro | refine And.intro ?_ ?_ | exact DLead.same | exact DLead.eqI (by omega) | exact DLead.nil | exact rfl | refine ⟨_, _, rfl, rfl, ?_⟩ | refine ⟨_, rfl, ?_⟩ | refine ⟨_, _, rfl, ?_, ?_⟩)) rfl rfl rfl⟩
        · refine AL.not rfl rfl rfl rfl rfl ?_
          refine AL.not rfl rfl rfl rfl rfl ?_
          refine AL.not rfl rfl rfl rfl rfl ?_
          refine AL.p (by first | exact g_pickT (r := .d _) rfl rfl | exact g_pickF (r := .d _) rfl rfl) rfl ?_
          refine AL.nil ?_
          refine th_n ?_
          refine AC.condF rfl ?_
          refine AC.exit ?_
          refine th_e ?_
          refine th_e ?_
          refine ib_y ?_
          refine th_n ?_
          have e : (l, cc) = seqL0 N m0 (cur0 code) := (by first | (have hj : j = 0 := (by omega); subst hj; exact hsub) | exact (seqN_out (by rw [h1, h2]; rfl)).symm.trans hsub | exact (seqN_out (by rw [h1]; rfl)).symm.trans hsub | exact (seqN_dead (by rw [← hL]; omega)).symm.trans hsub)
          exact ⟨(l, cc), ⟨e, by dsimp only; omega, by dsimp only; omega⟩, Weak.ren _ [(100, _), (101, _), (102, _), (103, _)] hC rfl (by repeat (first | exact True.intro | refine And.intro ?_ ?_ | exact DLead.same | exact DLead.eqI (by omega) | exact DLead.nil | exact rfl | refine ⟨_, _, rfl, rfl, ?_⟩ | refine ⟨_, rfl, ?_⟩ | refine ⟨_, _, rfl, ?_, ?_⟩)) (by repeat (first | exact True.intro | refine And.intro ?_ ?_ | exact DLead.same | exact DLead.eqI (by omega) | exact DLead.nil | exact rfl | refine ⟨_, _, rfl, rfl, ?_⟩ | refine ⟨_, rfl, ?_⟩ | refine ⟨_, _, rfl, ?_, ?_⟩)) rfl rfl rfl⟩
      · refine AL.not rfl rfl rfl rfl rfl ?_
        refine AL.not rfl rfl rfl rfl rfl ?_
        refine AL.p (by first | exact g_pickT (r := .d _) rfl rfl | exact g_pickF (r := .d _) rfl rfl) rfl ?_
        refine AL.p (by first | exact g_move (r := .d _) rfl | exact g_move (r := .own _ _) rfl | exact g_move (r := .ptr _ _) rfl | exact g_move (r := .agg _) rfl | exact g_move (r := .tup _) rfl | exact g_move (r := .clo _ _) rfl | exact g_move (r := .tight _ _ _) rfl | exact g_move (r := .und) rfl | exact g_move (r := .dead) rfl) rfl ?_
        refine AL.not rfl rfl rfl rfl rfl ?_
        refine AL.not rfl rfl rfl rfl rfl ?_
        refine AL.not rfl rfl rfl rfl rfl ?_
        refine AL.p (by first | exact g_pickT (r := .d _) rfl rfl | exact g_pickF (r := .d _) rfl rfl) rfl ?_
        refine AL.nil ?_
        refine th_n ?_
        refine AC.condF rfl ?_
        refine AC.exit ?_
        refine th_e ?_
        refine th_e ?_
        refine ib_y ?_
        refine th_n ?_
        have e : (l, cc) = seqL0 N m0 (cur0 code) := (by first | (have hj : j = 0 := (by omega); subst hj; exact hsub) | exact (seqN_out (by rw [h1, h2]; rfl)).symm.trans hsub | exact (seqN_out (by rw [h1]; rfl)).symm.trans hsub | exact (seqN_dead (by rw [← hL]; omega)).symm.trans hsub)
        exact ⟨(l, cc), ⟨e, by dsimp only; omega, by dsimp only; omega⟩, Weak.ren _ [(100, _), (101, _), (102, _), (103, _)] hC rfl (by repeat (first | exact True.intro | refine And.intro ?_ ?_ | exact DLead.same | exact DLead.eqI (by omega) | exact DLead.nil | exact rfl | refine ⟨_, _, rfl, rfl, ?_⟩ | refine ⟨_, rfl, ?_⟩ | refine ⟨_, _, rfl, ?_, ?_⟩)) (by repeat (first | exact True.intro | refine And.intro ?_ ?_ | exact DLead.same | exact DLead.eqI (by omega) | exact DLead.nil | exact rfl | refine ⟨_, _, rfl, rfl, ?_⟩ | refine ⟨_, rfl, ?_⟩ | refine ⟨_, _, rfl, ?_, ?_⟩)) rfl rfl rfl⟩
  · rintro ⟨l, cc⟩ ⟨hsub, hlen, hpos⟩
    dsimp only at hsub hlen hpos ⊢
    have hp5 := cc.pick_pos 5
    refine AC.seq ?_
    refine AC.seq ?_
    refine AC.region ?_
    refine AL.p (by first | exact g_move (r := .d _) rfl | exact g_move (r := .own _ _) rfl | exact g_move (r := .ptr _ _) rfl | exact g_move (r := .agg _) rfl | exact g_move (r := .tup _) rfl | exact g_move (r := .clo _ _) rfl | exact g_move (r := .tight _ _ _) rfl | exact g_move (r := .und) rfl | exact g_move (r := .dead) rfl) rfl ?_
    refine AL.q (by exact h_fun (cs := [101]) en_one rfl rfl (by repeat (first | exact rfl | exact DLead.same | exact DLead.nil | refine ⟨_, _, rfl, ?_, ?_⟩ | refine ⟨_, rfl, ?_⟩ | exact ⟨_, rfl, rfl⟩)) (by repeat (first | exact True.intro | refine And.intro ?_ ?_ | exact DLead.same | exact DLead.eqI (by omega) | exact DLead.nil | exact rfl | refine ⟨_, _, rfl, rfl, ?_⟩ | refine ⟨_, rfl, ?_⟩ | refine ⟨_, _, rfl, ?_, ?_⟩)) (one_spec _ _ (by first | assumption | omega) (by first | assumption | omega)) rfl rfl rfl rfl) rfl ?_
    refine AL.nil ?_
    refine th_n ?_
    first | refine AC.condD rfl (fun h0 => ?_) (fun h0 => ?_) | refine AC.condND rfl (fun h0 => ?_) (fun h0 => ?_) | refine AC.condB rfl (fun h0 => ?_) (fun h0 => ?_) | refine AC.condNB rfl (fun h0 => ?_) (fun h0 => ?_)
    · refine AC.region ?_
      refine AL.p (by first | exact g_move (r := .d _) rfl | exact g_move (r := .own _ _) rfl | exact g_move (r := .ptr _ _) rfl | exact g_move (r := .agg _) rfl | exact g_move (r := .tup _) rfl | exact g_move (r := .clo _ _) rfl | exact g_move (r := .tight _ _ _) rfl | exact g_move (r := .und) rfl | exact g_move (r := .dead) rfl) rfl ?_
      refine AL.p (by first | exact g_move (r := .d _) rfl | exact g_move (r := .own _ _) rfl | exact g_move (r := .ptr _ _) rfl | exact g_move (r := .agg _) rfl | exact g_move (r := .tup _) rfl | exact g_move (r := .clo _ _) rfl | exact g_move (r := .tight _ _ _) rfl | exact g_move (r := .und) rfl | exact g_move (r := .dead) rfl) rfl ?_
      refine AL.q (by exact h_fun (cs := [101]) en_pick rfl rfl (by repeat (first | exact rfl | exact DLead.same | exact DLead.nil | refine ⟨_, _, rfl, ?_, ?_⟩ | refine ⟨_, rfl, ?_⟩ | exact ⟨_, rfl, rfl⟩)) (by repeat (first | exact True.intro | refine And.intro ?_ ?_ | exact DLead.same | exact DLead.eqI (by omega) | exact DLead.nil | exact rfl | refine ⟨_, _, rfl, rfl, ?_⟩ | refine ⟨_, rfl, ?_⟩ | refine ⟨_, _, rfl, ?_, ?_⟩)) (pick_spec _ _ (by first | assumption | omega) (by first | assumption | omega)) rfl rfl rfl rfl) rfl ?_
      refine AL.q (by exact h_litF rfl rfl rfl rfl rfl rfl rfl rfl) rfl ?_
      refine AL.q (by exact h_appendI l [((cc.pick 5).2.pick 5).1] (.own rfl rfl (ints_len _).symm) (.view rfl) (by simp; omega) (by simp)) rfl ?_
      refine AL.p (by first | exact g_assign (r := .d _) rfl | exact g_assign (r := .own _ _) rfl | exact g_assign (r := .ptr _ _) rfl | exact g_assign (r := .agg _) rfl | exact g_assign (r := .tup _) rfl | exact g_assign (r := .clo _ _) rfl | exact g_assign (r := .tight _ _ _) rfl | exact g_assign (r := .und) rfl | exact g_assign (r := .dead) rfl) rfl ?_
      refine AL.nil ?_
      refine th_n ?_
      refine AC.seq ?_
      refine AC.weak (Weak.freeze (i := 8) rfl rfl (Nat.le_of_eq (ints_len _).symm) (ints_all _)) ?_
      refine AC.region ?_
      refine AL.p (by first | exact g_load_ref rfl rfl rfl | exact g_load_ptr rfl rfl rfl rfl rfl | exact g_load_refN rfl rfl rfl rfl | exact g_load_ptrN rfl rfl rfl rfl rfl | exact g_load_arr1 rfl rfl rfl rfl (by assumption) | exact g_load_arr rfl rfl rfl rfl (by first | rfl | omega) (by first | assumption | rfl) (by first | assumption | rfl)) rfl ?_
      refine AL.p (by first | exact g_move (r := .d _) rfl | exact g_move (r := .own _ _) rfl | exact g_move (r := .ptr _ _) rfl | exact g_move (r := .agg _) rfl | exact g_move (r := .tup _) rfl | exact g_move (r := .clo _ _) rfl | exact g_move (r := .tight _ _ _) rfl | exact g_move (r := .und) rfl | exact g_move (r := .dead) rfl) rfl ?_
      refine AL.p (by first | exact g_move (r := .d _) rfl | exact g_move (r := .own _ _) rfl | exact g_move (r := .ptr _ _) rfl | exact g_move (r := .agg _) rfl | exact g_move (r := .tup _) rfl | exact g_move (r := .clo _ _) rfl | exact g_move (r := .tight _ _ _) rfl | exact g_move (r := .und) rfl | exact g_move (r := .dead) rfl) rfl ?_
      refine AL.q (by first | exact h_store rfl rfl rfl rfl rfl rfl | exact h_store_arr1 rfl rfl rfl rfl (by first | exact .same | exact .nil) (by assumption) | exact h_store_arr rfl rfl rfl rfl (by first | exact .same | exact .nil) (by first | rfl | omega) (by first | assumption | rfl) (by omega)) rfl ?_
      refine AL.p (by first | exact g_assign (r := .d _) rfl | exact g_assign (r := .own _ _) rfl | exact g_assign (r := .ptr _ _) rfl | exact g_assign (r := .agg _) rfl | exact g_assign (r := .tup _) rfl | exact g_assign (r := .clo _ _) rfl | exact g_assign (r := .tight _ _ _) rfl | exact g_assign (r := .und) rfl | exact g_assign (r := .dead) rfl) rfl ?_
      refine AL.p (by first | exact g_assign (r := .d _) rfl | exact g_assign (r := .own _ _) rfl | exact g_assign (r := .ptr _ _) rfl | exact g_assign (r := .agg _) rfl | exact g_assign (r := .tup _) rfl | exact g_assign (r := .clo _ _) rfl | exact g_assign (r := .tight _ _ _) rfl | exact g_assign (r := .und) rfl | exact g_assign (r := .dead) rfl) rfl ?_
      refine AL.nil ?_
      refine th_n ?_
      refine AC.ret ?_
      refine bq_r ?_
      first | exact ret0 rfl (by unfold seqL; rw [← hsub, if_pos h0]; repeat (first | exact rfl | exact DLead.same | exact DLead.nil | refine ⟨_, _, rfl, ?_, ?_⟩ | refine ⟨_, rfl, ?_⟩)) | exact ret0 rfl (by unfold seqL; rw [← hsub, if_neg h0]; repeat (first | exact rfl | exact DLead.same | exact DLead.nil | refine ⟨_, _, rfl, ?_, ?_⟩ | refine ⟨_, rfl, ?_⟩))
    · refine AC.skip ?_
      refine th_n ?_
      refine AC.seq ?_
      refine AC.weak (Weak.freeze (i := 8) rfl rfl (Nat.le_of_eq (ints_len _).symm) (ints_all _)) ?_
      refine AC.region ?_
      refine AL.p (by first | exact g_load_ref rfl rfl rfl | exact g_load_ptr rfl rfl rfl rfl rfl | exact g_load_refN rfl rfl rfl rfl | exact g_load_ptrN rfl rfl rfl rfl rfl | exact g_load_arr1 rfl rfl rfl rfl (by assumption) | exact g_load_arr rfl rfl rfl rfl (by first | rfl | omega) (by first | assumption | rfl) (by first | assumption | rfl)) rfl ?_
      refine AL.p (by first | exact g_move (r := .d _) rfl | exact g_move (r := .own _ _) rfl | exact g_move (r := .ptr _ _) rfl | exact g_move (r := .agg _) rfl | exact g_move (r := .tup _) rfl | exact g_move (r := .clo _ _) rfl | exact g_move (r := .tight _ _ _) rfl | exact g_move (r := .und) rfl | exact g_move (r := .dead) rfl) rfl ?_
      refine AL.p (by first | exact g_move (r := .d _) rfl | exact g_move (r := .own _ _) rfl | exact g_move (r := .ptr _ _) rfl | exact g_move (r := .agg _) rfl | exact g_move (r := .tup _) rfl | exact g_move (r := .clo _ _) rfl | exact g_move (r := .tight _ _ _) rfl | exact g_move (r := .und) rfl | exact g_move (r := .dead) rfl) rfl ?_
      refine AL.q (by first | exact h_store rfl rfl rfl rfl rfl rfl | exact h_store_arr1 rfl rfl rfl rfl (by first | exact .same | exact .nil) (by assumption) | exact h_store_arr rfl rfl rfl rfl (by first | exact .same | exact .nil) (by first | rfl | omega) (by first | assumption | rfl) (by omega)) rfl ?_
      refine AL.p (by first | exact g_assign (r := .d _) rfl | exact g_assign (r := .own _ _) rfl | exact g_assign (r := .ptr _ _) rfl | exact g_assign (r := .agg _) rfl | exact g_assign (r := .tup _) rfl | exact g_assign (r := .clo _ _) rfl | exact g_assign (r := .tight _ _ _) rfl | exact g_assign (r := .und) rfl | exact g_assign (r := .dead) rfl) rfl ?_
      refine AL.p (by first | exact g_assign (r := .d _) rfl | exact g_assign (r := .own _ _) rfl | exact g_assign (r := .ptr _ _) rfl | exact g_assign (r := .agg _) rfl | exact g_assign (r := .tup _) rfl | exact g_assign (r := .clo _ _) rfl | exact g_assign (r := .tight _ _ _) rfl | exact g_assign (r := .und) rfl | exact g_assign (r := .dead) rfl) rfl ?_
      refine AL.nil ?_
      refine th_n ?_
      refine AC.ret ?_
      refine bq_r ?_
      first | exact ret0 rfl (by unfold seqL; rw [← hsub, if_pos h0]; repeat (first | exact rfl | exact DLead.same | exact DLead.nil | refine ⟨_, _, rfl, ?_, ?_⟩ | refine ⟨_, rfl, ?_⟩)) | exact ret0 rfl (by unfold seqL; rw [← hsub, if_neg h0]; repeat (first | exact rfl | exact DLead.same | exact DLead.nil | refine ⟨_, _, rfl, ?_, ?_⟩ | refine ⟨_, rfl, ?_⟩))
theorem en_sDrawSeq : Enters Try.prog 14 := enters_of Try.func14 rfl rfl
theorem sDrawSeq_spec (code : List UInt8) : ASpec Try.prog 14 [.d (vB code)] [] (Pure1 (.tup [netA (drawM code).1, aS (bstr (drawM code).2), .d (vI (drawL code))])) := sDrawSeq_gen code _ _ (sDrawMark_spec code) (drawM_in code)
end Go.Proofs.Ythhfhpeeinohiaa
