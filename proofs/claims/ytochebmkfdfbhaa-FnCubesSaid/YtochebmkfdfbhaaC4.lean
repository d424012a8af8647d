/- Arguments of a law, read as this framework reads them: slices of bytes; and what a contract without blocks says of the world behind a call. -/
import Derived.Test.YtochebmkfdfbhaaC3
import Derived.ProofKit
import Derived.OpenShut
set_option linter.all false
namespace Go.Proofs.Ytochebmkfdfbhaa
open Go.ChangeShapes Go.WideShapes Go.ChangeAt Go.RowKit

theorem rowAt_le {p : Program} {fits : TypeId → Bool} {e : TypeId} {count off n : Nat} : ∀ {d : Nat}, rowAt p fits d e count off n = true → off ≤ count * p.cellsOf e
  | 0, h => by simp [rowAt] at h
  | d + 1, h => by
    unfold rowAt at h
    by_cases hs : p.cellsOf e = 0
    · simp [hs] at h
    · simp only [hs, if_false, Bool.or_eq_true, Bool.and_eq_true, beq_iff_eq, decide_eq_true_eq] at h
      have hp : 0 < p.cellsOf e := by omega
      have hd := Nat.div_add_mod off (p.cellsOf e)
      rcases h with ⟨⟨h1, h2⟩, _⟩ | ⟨h1, _⟩
      · have : p.cellsOf e * (off / p.cellsOf e) ≤ count * p.cellsOf e := by rw [Nat.mul_comm count]; exact Nat.mul_le_mul_left _ (by omega)
        omega
      · have h3 : p.cellsOf e * (off / p.cellsOf e + 1) ≤ count * p.cellsOf e := by rw [Nat.mul_comm count]; exact Nat.mul_le_mul_left _ (by omega)
        have := Nat.mod_lt off hp
        rw [Nat.mul_add, Nat.mul_one] at h3
        omega
theorem lies_le {p : Program} {e u : TypeId} {cells off n d : Nat} (hu : ∀ m u', p.underlying u ≠ some (.array m u')) (h : liesAt p d e (cells / p.cellsOf e) off u n = true) : off ≤ cells := by
  cases d with
  | zero => simp [liesAt] at h
  | succ d =>
    unfold liesAt at h
    rw [Bool.or_eq_true] at h
    rcases h with h | h
    · have := rowAt_le h
      exact Nat.le_trans this (Nat.div_mul_le_self _ _)
    · split at h
      · rename_i m u' e2; exact absurd e2 (hu m u')
      · cases h
theorem byte_of {n : Int} (h : (Lit.int .u8 n).wf = true) : n = (((UInt8.ofNat n.toNat).toNat : Nat) : Int) := by
  have := bounds_u8 h
  have e : (UInt8.ofNat n.toNat).toNat = n.toNat := by
    rw [UInt8.toNat_ofNat']
    exact Nat.mod_eq_of_lt (by omega)
  rw [e]; omega
theorem okWide_has {P : Program} {w : World} {r : Reach} {base : Nat} {t e : TypeId} {a : Addr} {len cap : Nat} (ht : P.underlying t = some (.slice e)) (h : Value.okWide P w r base t (.slice (some a) len cap)) : w.has P r base a e cap := by
  simp only [Value.okWide, ht, Cell.okWide, Cell.ok] at h
  exact h.2.2
/-- An argument of type []byte, nil or not, as the framework reads it. -/
theorem arg_bytes {H : Type} {enc : TypeId × Value → H} {P : Program} {W : World} {t e te base : Nat} {v : Value} {d : DataW H} {ps : List MemPlace} (ht : P.underlying t = some (.slice e)) (he : P.underlying e = some (.int .u8)) (hc : P.cellsOf e = 1)
    (hval : Value.okWide P W .any base t v) (h : DataW.Trod enc P W 0 (fun _ => true) true t v d ps) :
    ∃ xs : List UInt8, xs.length ≤ 9223372036854775807 ∧ DRep (fun k => k < W.heap.size) W (.view te 1 (xs.map fun b => [dB b])) v := by
  obtain ⟨a0, len, cap, rfl⟩ := okWide_slice ht hval
  obtain ⟨fuel, hf⟩ := h
  rcases open_ints ht he hc hf with ⟨hcs, hx⟩ | ⟨a, len', cap', zs, hcs, _, hl, hm, hz, hx, hcell, hwz⟩
  · simp [Value.cells] at hcs
    obtain ⟨rfl, rfl, rfl⟩ := hcs
    exact ⟨[], Nat.zero_le _, .nil⟩
  · simp [Value.cells] at hcs
    obtain ⟨rfl, rfl, rfl⟩ := hcs
    simp only [if_true] at hz
    obtain ⟨_, hspot, row, cells, hsh, hlies⟩ := okWide_has ht hval
    have hoff : a.off ≤ cells := lies_le (fun m u' hh => by rw [he] at hh; cases hh) hlies
    unfold World.shape? at hsh
    split at hsh
    · rename_i arr el fz hb
      simp only [Option.some.injEq, Prod.mk.injEq] at hsh
      obtain ⟨rfl, rfl⟩ := hsh
      obtain ⟨b, off, spot⟩ := a
      simp only at hspot hb hoff
      subst hspot
      have hat : ∀ i, i < zs.length → arr[off + i]? = some (.int .u8 (zs.getD i 0)) := by
        intro i hi
        have := hcell i hi
        rw [add_plain] at this
        unfold World.cell? at this
        simpa [hb] using this
      have hsz : off + cap ≤ arr.size := by
        by_cases hc0 : cap = 0
        · omega
        · have := hat (cap - 1) (by omega)
          have := (Array.getElem?_eq_some_iff.1 this).1
          omega
      refine ⟨(zs.take len).map fun n => UInt8.ofNat n.toNat, ?_, ?_⟩
      · rw [List.length_map, List.length_take]
        have : cap ≤ 9223372036854775807 := hm
        omega
      have hle : (((zs.take len).map fun n => UInt8.ofNat n.toNat).map fun b => [dB b]).length = len := by
        rw [List.length_map, List.length_map, List.length_take]; omega
      have hv := DRep.view (F := fun k => k < W.heap.size) (w := W) (e := te) (sz := 1) (els := ((zs.take len).map fun n => UInt8.ofNat n.toNat).map fun b => [dB b]) (b := b) (off := off) (cap := cap) (arr := arr) (lt_of_block hb) hb (by omega) hm (by omega) (fun i cs hi => ?_) (fun i cs j d hi hj => ?_)
      · rw [hle] at hv; exact hv
      · rw [List.getElem?_map] at hi
        cases hh : ((zs.take len).map fun n => UInt8.ofNat n.toNat)[i]? with
        | none => rw [hh] at hi; cases hi
        | some b => rw [hh] at hi; cases hi; rfl
      · rw [List.getElem?_map, List.getElem?_map] at hi
        cases hh : (zs.take len)[i]? with
        | none => rw [hh] at hi; cases hi
        | some n =>
          rw [hh] at hi
          cases hi
          obtain ⟨hi1, hi2⟩ := List.getElem?_eq_some_iff.1 hh
          rw [List.length_take] at hi1
          rw [List.getElem_take] at hi2
          have hw := hwz n (by rw [← hi2]; exact List.getElem_mem _)
          cases j with
          | succ j => simp at hj
          | zero =>
            simp only [List.getElem?_cons_zero, Option.some.injEq] at hj
            subst hj
            have hai := hat i (by omega)
            have hgd : zs.getD i 0 = n := by rw [List.getD_eq_getElem?_getD, List.getElem?_eq_getElem (by omega), hi2]; rfl
            rw [hgd] at hai
            have : arr.getD (off + i * 1 + 0) undef = .int .u8 n := by
              rw [Nat.mul_one, Nat.add_zero, Array.getD_eq_getD_getElem?, hai]; rfl
            rw [this]
            have hb8 := byte_of hw
            generalize (UInt8.ofNat n.toNat) = b8 at hb8
            subst hb8
            refine .val ?_
            show IntKind.u8.wrap _ = _
            rw [wrap_ok]
            have := UInt8.toNat_lt b8
            exact ⟨by show (0 : Int) ≤ _; omega, by show _ ≤ (255 : Int); omega⟩
    · cases hsh

/-- A contract without blocks whose result is true, as a law's call. -/
theorem ASpec.law {P : Program} {f : FuncId} {as : List AV} {W : World} {vs : Array Value} (h : ASpec P f as [] (Pure1 (aT true))) (hn : vs.size = as.length) (ha : ∀ (i : Nat) x, as[i]? = some x → ARep (fun _ => none) (fun k => k < W.heap.size) W x (vs.getD i undef)) :
    Calls P f vs W fun e W' => e = .returned (.bool true) ∧ Below W.heap.size W W' := by
  refine (h W (fun _ => none) (fun k => k < W.heap.size) vs (fun k hk => ⟨hk, fun id c p hc => by simp [getL] at hc⟩) hn ha (fun id c hc => by simp [getL] at hc) (fun id id' c c' p p' b hc => by simp [getL] at hc) (fun id _ => rfl)).mono ?_
  rintro e W' ⟨v, r, chs', m', F', rfl, ⟨rfl, rfl⟩, _, _, _, ⟨h1, h2, h3, h4, h5⟩, hv, _⟩
  refine ⟨?_, h1, h2, h3, h4, fun k hk => h5 k hk (fun id c p hc => by simp [getL] at hc)⟩
  cases hv with
  | d hd => cases hd; rfl
end Go.Proofs.Ytochebmkfdfbhaa
