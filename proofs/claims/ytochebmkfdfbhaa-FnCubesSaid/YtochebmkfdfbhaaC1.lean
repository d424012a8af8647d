/- Bytes and strings turned into each other. No program is named here. -/
import Derived.Test.YtochebmkfdfbhaaB9
import Derived.Laws.IdiomStrings
set_option linter.all false
namespace Go.Proofs.Ytochebmkfdfbhaa
open Go.RowKit

/-- A string of bytes. -/
def bstr (l : List UInt8) : ByteArray := ⟨l.toArray⟩
theorem bstr_data (l : List UInt8) : (bstr l).data.toList = l := rfl
theorem bstr_size (l : List UInt8) : (bstr l).size = l.length := by simp [bstr, ByteArray.size]
theorem bstr_of (s : ByteArray) : bstr s.data.toList = s := by cases s; rfl
theorem bstr_inj {a b : List UInt8} (h : bstr a = bstr b) : a = b := by have := congrArg (fun s => s.data.toList) h; simpa [bstr_data] using this
theorem bstr_append (a b : List UInt8) : bstr a ++ bstr b = bstr (a ++ b) := by
  rw [← bstr_of (bstr a ++ bstr b)]
  congr 1
abbrev byteEls (l : List UInt8) : List (List DV) := l.map fun b => [dB b]

section
variable {P : Program} [PT P]
variable {s : ASt} {dst : Option Nat} {ty : Nat} {pos : String} {af : Array Edge} {gd : Option (Nat × Bool)} {x : Operand} {t u f : Nat}

theorem bytesRow_getD (s : ByteArray) (cap j : Nat) (hj : j < s.size) : (bytesRow s cap).getD j undef = .int .u8 ((s.data.toList[j]'(by simpa using hj)).toNat : Int) := by
  have h : (bytesRow s cap)[j]? = some (.int .u8 ((s.data.toList[j]'(by simpa using hj)).toNat : Int)) := by
    unfold bytesRow
    rw [Array.getElem?_append_left (by simpa using hj)]
    simp only [Array.getElem?_map, Array.getElem?_eq_getElem (show j < s.data.size from hj), Option.map_some]
    rfl
  rw [Array.getD_eq_getD_getElem?, h]; rfl
theorem h_bytesOfStr {e n bt n2 bt2 bt3 : Nat} {zs zs2 zs3 : List ZK} {l : List UInt8} (ht : PT.ty P t = some ⟨.string, n, bt, zs⟩) (hu : PT.ty P u = some ⟨.slice e, n2, bt2, zs2⟩) (he : PT.ty P e = some ⟨.int .u8, 1, bt3, zs3⟩) (hx : s.ev x = aS (bstr l)) :
    NOp P [] s ⟨dst, .convert t u x, ty, pos, af, gd⟩ f ⟨.own f l.length, [(f, some (.arr e 1 (byteEls l)))]⟩ := by
  refine NOp.value fun s' ha C U U' a w m hR hU hU' hd => ?_
  have hv := hR.ev x
  rw [ha.2.1 x (by simp [Op.operands]), hx] at hv
  obtain ⟨e1, o1⟩ := hv.val_eq
  have hsz : (bstr l).size ≤ maxLen := o1
  have hrun := run_bytes_of_string (P := P) w t u e (bstr l) (PT.string ht) (PT.slice hu) (PT.int he)
  have hge := grownCap_ge w (bstr l).size 0 e
  have hbs : (bytesRow (bstr l) (grownCap w (bstr l).size 0 e)).size = grownCap w (bstr l).size 0 e := by
    simp only [bytesRow, Array.size_append, Array.size_map, Array.size_replicate]
    have : (bstr l).data.size = (bstr l).size := rfl
    omega
  have hR1 := hR.drewN 1
  have hn := RelM.newArr (i := dst) (n := l.length) (cap := grownCap w (bstr l).size 0 e) (e := e) (sz := 1) (els := byteEls l) (vs := bytesRow (bstr l) (grownCap w (bstr l).size 0 e)) (fz := ((bytesRow (bstr l) (grownCap w (bstr l).size 0 e)).size, (bytesRow (bstr l) (grownCap w (bstr l).size 0 e)).size + 1)) (U' := U') hR1 hd (id := f) (by simpa using hU 0 (by omega)) (fun j hj => by have := hU' j hj; exact ⟨this.1, by omega⟩) (fun i hi => by simp only; omega) (by rw [hbs, Nat.mul_one]) (by simp only [byteEls, List.length_map]; rw [bstr_size] at hge; exact hge) (grownCap_le_maxLen _ _ _ _ hsz) (by omega) (fun i cs hi => by
      simp only [byteEls, List.getElem?_map, Option.map_eq_some_iff] at hi
      obtain ⟨b, _, rfl⟩ := hi; rfl) (fun i cs j d hi hj => by
      simp only [byteEls, List.getElem?_map, Option.map_eq_some_iff] at hi
      obtain ⟨b, hb, rfl⟩ := hi
      cases j with
      | succ j => simp at hj
      | zero =>
        simp only [List.getElem?_cons_zero, Option.some.injEq] at hj
        subst hj
        have hi2 := (List.getElem?_eq_some_iff.1 hb).1
        rw [Nat.mul_one, Nat.add_zero, bytesRow_getD _ _ i (by rw [bstr_size]; exact hi2)]
        have : (bstr l).data.toList[i]'(by rw [bstr_data]; exact hi2) = b := by
          have := (List.getElem?_eq_some_iff.1 hb).2
          simpa [bstr_data] using this
        rw [this]
        exact .val (wrap_u8 (by have := b.toNat_lt; omega)))
  refine ⟨_, _, _, ?_, hn⟩
  simp only [execOp, Sem.run_bind, e1, hrun, Result.andThen_ok, Sem.run_pure, bstr_size]
  rfl

theorem g_strOfBytes {e id n1 bt n2 bt2 bt3 k : Nat} {zs zs2 zs3 : List ZK} {l : List UInt8} {els : List (List DV)} (ht : PT.ty P t = some ⟨.slice e, n1, bt, zs⟩) (hu : PT.ty P u = some ⟨.string, n2, bt2, zs2⟩) (he : PT.ty P e = some ⟨.int .u8, 1, bt3, zs3⟩) (hx : s.ev x = .own id k) (hc : s.chunk id = some (.arr e 1 els)) (hels : els = byteEls l) (hk : k = l.length) :
    GOp P [id] s ⟨dst, .convert t u x, ty, pos, af, gd⟩ (aS (bstr l)) := by
  subst hels; subst hk
  refine ⟨fun s' ha C U a w m hR => ?_⟩
  have hv := hR.ev x
  rw [ha.2.1 x (by simp [Op.operands]), hx] at hv
  have hc' : s'.chunk id = some (.arr e 1 (byteEls l)) := by rw [ha.2.2 id (by simp)]; exact hc
  generalize hvv : a.eval x = v at hv
  cases hv with
  | own hp h0 =>
    rename_i cap b
    have hC := hR.chunkAt hc' hp
    cases b with
    | none =>
      have hl0 : l.length = 0 := (h0 rfl).1
      have hl : l = [] := List.eq_nil_of_length_eq_zero hl0
      subst hl
      refine ⟨.string (bstr []), ?_, .d (.val (by show ByteArray.size _ ≤ _; rw [bstr_size]; simp [maxLen]))⟩
      have := run_convert_bytes_nil (P := P) w t e (PT.slice ht) (PT.int he) 0 cap u (PT.string hu)
      simp only [execOp, Sem.run_bind, hvv, Option.map_none, List.length_nil, this, Result.andThen_ok, Sem.run_pure]
      rfl
    | some b =>
      generalize hels2 : byteEls l = els at hC
      cases hC with
      | arr hb hf hs hl hm h1 hrow hel =>
        rename_i arr fz
        have hlen : els.length = l.length := by rw [← hels2]; simp
        have hcell : ∀ i, i < l.length → w.cell? ⟨b, 0 + i, none⟩ = some (.int .u8 ((l.map fun b => (b.toNat : Int)).getD i 0)) := by
          intro i hi
          have hi' : els[i]? = some [dB l[i]] := by rw [← hels2]; simp [List.getElem?_eq_getElem hi]
          have h2 := hel i [dB l[i]] 0 (dB l[i]) hi' rfl
          have h3 : i * 1 + 0 < arr.size := by omega
          rw [Nat.zero_add, show i = i * 1 + 0 by omega, cell_getD hb h3]
          have h4 : arr.getD (i * 1 + 0) undef = .int .u8 (l[i].toNat : Int) := by
            generalize arr.getD (i * 1 + 0) undef = v at h2
            cases h2 with | val h => rfl
          rw [h4]
          simp [hi]
        have hrun := run_convert_bytes_arg (P := P) w t e (PT.slice ht) (PT.int he) b 0 l.length cap (l.map fun b => (b.toNat : Int)) (by simp) hcell u (PT.string hu)
        have hst : strOfNums (l.map fun b => (b.toNat : Int)) = bstr l := by
          rw [← bstr_of (strOfNums _)]
          congr 1
          rw [strOfNums_data, List.map_map]
          conv => rhs; rw [← List.map_id l]
          apply List.map_congr_left
          intro b _
          simp
        refine ⟨.string (bstr l), ?_, .d (.val (by show ByteArray.size _ ≤ _; rw [bstr_size]; omega))⟩
        simp only [execOp, Sem.run_bind, hvv, Option.map_some, hrun, hst, Result.andThen_ok, Sem.run_pure]
end
end Go.Proofs.Ytochebmkfdfbhaa
