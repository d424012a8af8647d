/- Contracts of the functions of the program and of the reference, each proved by a walk through its code. -/
import Derived.WalkKit
import Derived.WalkSpells
import Derived.WalkLawsBesides
import Derived.Deep.Draws
import Derived.Lib.Hide
import Derived.Maps.AppendAt
import Derived.OwnWalk
import Derived.Deep.MidRow
import Derived.Laws.ResultCell
import Derived.Deep.Upon
import Derived.Great.FillDense
import Derived.Laws.Tables
import Derived.Laws.BytesArg
import Derived.Laws.MakeOwn
import Derived.Great.BuildSlice
import Derived.ArgAppend
import Derived.Deep.AppendSrc
import Derived.Test.YthafkkgmekgmoaaGreatProg
import Derived.KernelRfl
import Derived.Orders
import Derived.Laws.IdiomStrings
import Derived.Lib.AppendZerosOnto
import Derived.ProofKit
import Derived.OpenShut
import Derived.Lib.SliceRun
import Derived.Laws.StructEq
import Derived.ChangeKeysEq
import Derived.Sort.Grow
import Derived.Laws.RangeString
import Derived.Below
import Derived.Test.YthafkkgmekgmoaaGreatGWy3
set_option linter.all false
set_option maxRecDepth 20000
namespace Go.Proofs.YthafkkgmekgmoaaGreat
open Go.ChangeShapes Go.WideShapes Go.ChangeAt Go.RowKit
theorem rowAt_le {p : Program} {fits : TypeId → Bool} {e : TypeId} {count off n : Nat} : ∀ {d : Nat}, rowAt p fits d e count off n = true → off ≤ count * p.cellsOf e
 | 0, h => by simp [rowAt] at h
 | d + 1, h => by
  unfold rowAt at h
  by_cases hs : p.cellsOf e = 0
  ·simp [hs] at h
  ·simp only [hs, if_false, Bool.or_eq_true, Bool.and_eq_true, beq_iff_eq, decide_eq_true_eq] at h
   have hp : 0 < p.cellsOf e := by omega
   have hd := Nat.div_add_mod off (p.cellsOf e)
   rcases h with ⟨⟨h1, h2⟩, _⟩ | ⟨h1, _⟩
   ·have : p.cellsOf e * (off / p.cellsOf e) ≤ count * p.cellsOf e := by rw [Nat.mul_comm count]; exact Nat.mul_le_mul_left _ (by omega)
    omega
   ·have h3 : p.cellsOf e * (off / p.cellsOf e + 1) ≤ count * p.cellsOf e := by rw [Nat.mul_comm count]; exact Nat.mul_le_mul_left _ (by omega)
    have := Nat.mod_lt off hp
    rw [Nat.mul_add, Nat.mul_one] at h3
    omega
theorem lies_le {p : Program} {e u : TypeId} {cells off n d : Nat} (hu : ∀ m u', p.underlying u ≠ some (.array m u')) (h : liesAt p d e (cells / p.cellsOf e) off u n = true) : off ≤ cells := by
 cases d with
 | zero => simp [liesAt] at h
 | succ d =>
  unfold liesAt at h
  rw [Bool.or_eq_true] at h
  rcases h with h | h
  ·have := rowAt_le h
   exact Nat.le_trans this (Nat.div_mul_le_self _ _)
  ·split at h
   ·rename_i m u' e2; exact absurd e2 (hu m u')
   ·cases h
theorem byte_of {n : Int} (h : (Lit.int .u8 n).wf = true) : n = (((UInt8.ofNat n.toNat).toNat : Nat) : Int) := by
 have := bounds_u8 h
 have e : (UInt8.ofNat n.toNat).toNat = n.toNat := by
  rw [UInt8.toNat_ofNat']
  exact Nat.mod_eq_of_lt (by omega)
 rw [e]; omega
theorem okWide_has {P : Program} {w : World} {r : Reach} {base : Nat} {t e : TypeId} {a : Addr} {len cap : Nat} (ht : P.underlying t = some (.slice e)) (h : Value.okWide P w r base t (.slice (some a) len cap)) : w.has P r base a e cap := by
 simp only [Value.okWide, ht, Cell.okWide, Cell.ok] at h
 exact h.2.2
theorem arg_bytes {H : Type} {enc : TypeId × Value → H} {P : Program} {W : World} {t e te base : Nat} {v : Value} {d : DataW H} {ps : List MemPlace} (ht : P.underlying t = some (.slice e)) (he : P.underlying e = some (.int .u8)) (hc : P.cellsOf e = 1)
  (hval : Value.okWide P W .any base t v) (h : DataW.Trod enc P W 0 (fun _ => true) true t v d ps) :
  ∃ xs : List UInt8, xs.length ≤ 9223372036854775807 ∧ DRep (fun k => k < W.heap.size) W (.view te 1 (xs.map fun b => [dB b])) v := by
 obtain ⟨a0, len, cap, rfl⟩ := okWide_slice ht hval
 obtain ⟨fuel, hf⟩ := h
 rcases open_ints ht he hc hf with ⟨hcs, hx⟩ | ⟨a, len', cap', zs, hcs, _, hl, hm, hz, hx, hcell, hwz⟩
 ·simp [Value.cells] at hcs
  obtain ⟨rfl, rfl, rfl⟩ := hcs
  exact ⟨[], Nat.zero_le _, .nil⟩
 ·simp [Value.cells] at hcs
  obtain ⟨rfl, rfl, rfl⟩ := hcs
  simp only [if_true] at hz
  obtain ⟨_, hspot, row, cells, hsh, hlies⟩ := okWide_has ht hval
  have hoff : a.off ≤ cells := lies_le (fun m u' hh => by rw [he] at hh; cases hh) hlies
  unfold World.shape? at hsh
  split at hsh
  ·rename_i arr el fz hb
   simp only [Option.some.injEq, Prod.mk.injEq] at hsh
   obtain ⟨rfl, rfl⟩ := hsh
   obtain ⟨b, off, spot⟩ := a
   simp only at hspot hb hoff
   subst hspot
   have hat : ∀ i, i < zs.length → arr[off + i]? = some (.int .u8 (zs.getD i 0)) := by
    intro i hi
    have := hcell i hi
    rw [add_plain] at this
    unfold World.cell? at this
    simpa [hb] using this
   have hsz : off + cap ≤ arr.size := by
    by_cases hc0 : cap = 0
    ·omega
    ·have := hat (cap - 1) (by omega)
     have := (Array.getElem?_eq_some_iff.1 this).1
     omega
   refine ⟨(zs.take len).map fun n => UInt8.ofNat n.toNat, ?_, ?_⟩
   ·rw [List.length_map, List.length_take]
    have : cap ≤ 9223372036854775807 := hm
    omega
   have hle : (((zs.take len).map fun n => UInt8.ofNat n.toNat).map fun b => [dB b]).length = len := by
    rw [List.length_map, List.length_map, List.length_take]; omega
   have hv := DRep.view (F := fun k => k < W.heap.size) (w := W) (e := te) (sz := 1) (els := ((zs.take len).map fun n => UInt8.ofNat n.toNat).map fun b => [dB b]) (b := b) (off := off) (cap := cap) (arr := arr) (lt_of_block hb) hb (by omega) hm (by omega) (fun i cs hi => ?_) (fun i cs j d hi hj => ?_)
   ·rw [hle] at hv; exact hv
   ·rw [List.getElem?_map] at hi
    cases hh : ((zs.take len).map fun n => UInt8.ofNat n.toNat)[i]? with
    | none => rw [hh] at hi; cases hi
    | some b => rw [hh] at hi; cases hi; rfl
   ·rw [List.getElem?_map, List.getElem?_map] at hi
    cases hh : (zs.take len)[i]? with
    | none => rw [hh] at hi; cases hi
    | some n =>
     rw [hh] at hi
     cases hi
     obtain ⟨hi1, hi2⟩ := List.getElem?_eq_some_iff.1 hh
     rw [List.length_take] at hi1
     rw [List.getElem_take] at hi2
     have hw := hwz n (by rw [← hi2]; exact List.getElem_mem _)
     cases j with
     | succ j => simp at hj
     | zero =>
      simp only [List.getElem?_cons_zero, Option.some.injEq] at hj
      subst hj
      have hai := hat i (by omega)
      have hgd : zs.getD i 0 = n := by rw [List.getD_eq_getElem?_getD, List.getElem?_eq_getElem (by omega), hi2]; rfl
      rw [hgd] at hai
      have : arr.getD (off + i * 1 + 0) undef = .int .u8 n := by
       rw [Nat.mul_one, Nat.add_zero, Array.getD_eq_getD_getElem?, hai]; rfl
      rw [this]
      have hb8 := byte_of hw
      generalize (UInt8.ofNat n.toNat) = b8 at hb8
      subst hb8
      refine .val ?_
      show IntKind.u8.wrap _ = _
      rw [wrap_ok]
      have := UInt8.toNat_lt b8
      exact ⟨by show (0 : Int) ≤ _; omega, by show _ ≤ (255 : Int); omega⟩
  ·cases hsh
theorem ASpec.law {P : Program} {f : FuncId} {ars : List AV} {W : World} {vs : Array Value} (h : ASpec P f ars [] (Pure1 (aT true))) (hn : vs.size = ars.length) (ha : ∀ (i : Nat) x, ars[i]? = some x → ARep (fun _ => none) (fun k => k < W.heap.size) W x (vs.getD i undef)) :
  Calls P f vs W fun e W' => e = .returned (.bool true) ∧ Below W.heap.size W W' := by
 refine (h W (fun _ => none) (fun k => k < W.heap.size) vs (fun k hk => ⟨hk, fun id c p hc => by simp [getL] at hc⟩) hn ha (fun id c hc => by simp [getL] at hc) (fun id id' c c' p p' b hc => by simp [getL] at hc) (fun id _ => rfl)).mono ?_
 rintro e W' ⟨v, r, chs', m', F', rfl, ⟨rfl, rfl⟩, _, _, _, ⟨h1, h2, h3, h4, h5⟩, hv, _⟩
 refine ⟨?_, h1, h2, h3, h4, fun k hk => h5 k hk (fun id c p hc => by simp [getL] at hc)⟩
 cases hv with
 | d hd => cases hd; rfl
open Go.RowKit
theorem getD_at {l : List Int} {k : Nat} (h : k < l.length) : l.getD k 0 = l[k] := by rw [List.getD_eq_getElem?_getD, List.getElem?_eq_getElem h]; rfl
theorem same_of {a b : List Int} (hl : a.length = b.length) (h : ∀ j, j < a.length → a.getD j 0 = b.getD j 0) : a = b :=
 List.ext_getElem hl fun j ha hb => by have := h j ha; rwa [getD_at ha, getD_at hb] at this
theorem same_no {a b : List Int} {j : Nat} (h : a.getD j 0 ≠ b.getD j 0) : a ≠ b := fun e => h (by rw [e])
def mapI (l : List Int) (d : Int) : List Int := l.map (fun x => x + d)
theorem mapI_len (l : List Int) (d : Int) : (mapI l d).length = l.length := List.length_map _
theorem mapI_take {l : List Int} {d : Int} {k : Nat} (hk : k < l.length) : mapI (l.take (k + 1)) d = mapI (l.take k) d ++ [l[k] + d] := by
 unfold mapI
 rw [List.take_add_one, List.getElem?_eq_getElem hk, List.map_append]; rfl
theorem sameInts_spec (a b : List Int) (ha : a.length ≤ 1000000) (hb : b.length ≤ 1000000) : ASpec Tryz.prog 16 [.d (vI a), .d (vI b)] [] (Pure1 (aT (decide (a = b)))) := by
 refine ASpec.of Tryz.func16 rfl rfl fun C hC => ?_
 refine AC.seq (AC.region ?_)
 refine AL.p (by exact as1 rfl) rfl ?_
 refine AL.nil (th_n (AC.seq (AC.seq (AC.region ?_))))
 refine AL.p (by exact mv1 rfl) rfl ?_
 refine AL.p (by exact g_len_view rfl rfl (by exact List.length_map _)) rfl ?_
 refine AL.p (by exact mv1 rfl) rfl ?_
 refine AL.p (by exact g_len_view rfl rfl (by exact List.length_map _)) rfl ?_
 refine AL.p (by exact g_cmp rfl rfl rfl) rfl ?_
 refine AL.nil (th_n ?_)
 refine AC.condND rfl (fun h0 => ?_) (fun h0 => ?_)
 ·refine AC.seq (AC.region ?_)
  refine AL.p (by exact as1 rfl) rfl ?_
  refine AL.nil (th_n (AC.ret (th_r (bq_r ?_))))
  have hne : a ≠ b := fun e => h0 (by rw [e])
  exact ret1 rfl (by rw [decide_eq_false hne])
 ·refine AC.skip (th_n (AC.seq (AC.seq (AC.region ?_))))
  refine AL.p (by exact mv1 rfl) rfl ?_
  refine AL.p (by exact g_len_view rfl rfl (by exact List.length_map _)) rfl ?_
  refine AL.p (by exact mv1 rfl) rfl ?_
  refine AL.nil (th_n (AC.block ?_))
  refine AC.loop (ι := Nat) (fun k => ⟨26, 0, [(0, .d (vI a)), (1, .d (vI b)), (12, aI a.length), (13, aI k)], []⟩) (fun k => k ≤ a.length ∧ ∀ j, j < k → a.getD j 0 = b.getD j 0) (fun k => a.length - k) (0) ?_ (⟨Nat.zero_le _, fun j hj => by omega⟩) ?_
  ·refine Weak.ren _ [] hC rfl ?_ ?_ rfl rfl rfl <;> repeat (first | exact True.intro | refine And.intro ?_ ?_ | exact DLead.same)
  ·intro k ⟨hk, hall⟩
   refine AC.seq (AC.region ?_)
   refine AL.p (by exact g_cmp rfl rfl rfl) rfl ?_
   refine AL.nil (th_n (AC.seq ?_))
   refine AC.condD rfl (fun h1 => ?_) (fun h1 => ?_)
   ·refine AC.skip (th_n (AC.seq (AC.block (AC.seq ?_))))
    have hk1 : k < a.length := by omega
    have hl : a.length = b.length := by omega
    have hget : (ints a)[k]? = some [dI (a.getD k 0)] := ints_get hk1
    have hget2 : (ints b)[k]? = some [dI (b.getD k 0)] := ints_get (by omega)
    refine AC.region ?_
    refine AL.p (by exact mv1 rfl) rfl ?_
    refine AL.p (by exact as1 rfl) rfl ?_
    refine AL.nil (th_n (AC.seq ?_))
    refine AC.drawn' mixed_ok [[], [], [0,1], [0,1,2], [], [], [4,5], [4,5,6], [0,1,2,3,4,5,6,7]] (by decide) ?_
    refine DF.op 0 [] 9 rfl rfl rfl (.free rfl (NOp.of (by exact mv1 rfl))) rfl ?_
    refine DF.op 1 [] 9 rfl rfl rfl (.free rfl (NOp.of (by exact mv1 rfl))) rfl ?_
    refine DF.op 2 [0,1] 9 rfl rfl rfl (.free rfl (NOp.of (by exact g_ia_view rfl rfl rfl rfl rfl (by rfl) (by assumption)))) rfl ?_
    refine DF.op 3 [0,1,2] 9 rfl rfl rfl (.free rfl (NOp.of (by exact g_load_ref rfl rfl rfl))) rfl ?_
    refine DF.op 4 [] 9 rfl rfl rfl (.free rfl (NOp.of (by exact mv1 rfl))) rfl ?_
    refine DF.op 5 [] 9 rfl rfl rfl (.free rfl (NOp.of (by exact mv1 rfl))) rfl ?_
    refine DF.op 6 [4,5] 9 rfl rfl rfl (.free rfl (NOp.of (by exact g_ia_view rfl rfl rfl rfl rfl (by rfl) (by assumption)))) rfl ?_
    refine DF.op 7 [4,5,6] 9 rfl rfl rfl (.free rfl (NOp.of (by exact g_load_ref rfl rfl rfl))) rfl ?_
    refine DF.op 8 [0,1,2,3,4,5,6,7] 9 rfl rfl rfl (.free rfl (NOp.of (by exact g_cmp rfl rfl rfl))) rfl ?_
    refine DF.fin (ps := [(0,1),(0,4),(0,5),(0,6),(0,7),(1,0),(1,4),(1,5),(1,6),(1,7),(2,4),(2,5),(2,6),(2,7),(3,4),(3,5),(3,6),(3,7),(4,0),(4,1),(4,2),(4,3),(4,5),(5,0),(5,1),(5,2),(5,3),(5,4),(6,0),(6,1),(6,2),(6,3),(7,0),(7,1),(7,2),(7,3)]) 9 rfl (by decide +kernel) (by decide +kernel) (by rfl) ?_
    refine th_n ?_
    refine AC.condND rfl (fun h2 => ?_) (fun h2 => ?_)
    ·refine AC.seq (AC.region ?_)
     refine AL.p (by exact as1 rfl) rfl ?_
     refine AL.nil (th_n (AC.ret (ib_r (th_r (th_r (ib_r (th_r (bq_r ?_))))))))
     have hne : a ≠ b := same_no (by simpa using h2)
     exact ret1 rfl (by rw [decide_eq_false hne])
    ·refine AC.skip (ib_n (th_n (AC.region ?_)))
     refine AL.p (by exact g_arith rfl rfl rfl (by exact wrap_i64 (by omega))) rfl ?_
     refine AL.p (by exact mv1 rfl) rfl ?_
     refine AL.nil (th_n ?_)
     exact ⟨k + 1, ⟨by omega, fun j hj => by rcases Nat.lt_succ_iff_lt_or_eq.1 hj with h | rfl; exact hall j h; simpa using h2⟩, by omega, Weak.ren _ [] hC rfl (by repeat (first | exact True.intro | refine And.intro ?_ ?_ | exact DLead.same)) (by repeat (exact True.intro)) rfl rfl rfl⟩
   ·refine AC.exit (th_e (th_e (ib_y (th_n (AC.seq (AC.region ?_))))))
    refine AL.p (by exact as1 rfl) rfl ?_
    refine AL.nil (th_n (AC.ret (bq_r ?_)))
    have he : a = b := same_of (by omega) (fun j hj => hall j (by omega))
    exact ret1 rfl (by rw [decide_eq_true he])
theorem en_sameInts : Enters Tryz.prog 16 := enters_of Tryz.func16 rfl rfl
theorem l1Own_spec (l : List Int) (hl : l.length ≤ 1000000) : ASpec Tryz.prog 264 [.d (vI l)] [] (Pure1 (.d (vI l))) := by
 refine ASpec.of Tryz.func264 rfl rfl fun C hC => ?_
 refine AC.seq (AC.region ?_)
 refine AL.p (by exact as1 rfl) rfl ?_
 refine AL.nil (th_n (AC.seq (AC.region ?_)))
 refine AL.q (by exact h_lit rfl rfl rfl rfl rfl rfl rfl rfl) rfl ?_
 refine AL.p (by exact mv1 rfl) rfl ?_
 refine AL.q (by exact h_appendI [] l (.own rfl rfl rfl) (.view rfl) (by simp; omega) (by simp)) rfl ?_
 refine AL.weak (Weak.freeze (i := 5) rfl rfl (Nat.le_of_eq (ints_len _).symm) (ints_all _)) ?_
 refine AL.p (by exact as1 rfl) rfl ?_
 refine AL.nil (th_n (AC.ret (bq_r ?_)))
 exact ret1 rfl rfl
theorem en_l1Own : Enters Tryz.prog 264 := enters_of Tryz.func264 rfl rfl
set_option maxHeartbeats 1000000 in
theorem l1Shift_spec (l : List Int) (d : Int) (hl : l.length ≤ 1000000) (hr : ∀ x, x ∈ l → -1000000 ≤ x ∧ x ≤ 1000000) (hd : -1000000 ≤ d ∧ d ≤ 1000000) : ASpec Tryz.prog 263 [.d (vI l), aI d] [] (Pure1 (.d (vI (mapI l d)))) := by
 refine ASpec.of Tryz.func263 rfl rfl fun C hC => ?_
 refine AC.seq (AC.region ?_)
 refine AL.p (by exact as1 rfl) rfl ?_
 refine AL.nil (th_n (AC.seq (AC.region ?_)))
 refine AL.p (by exact as1 rfl) rfl ?_
 refine AL.nil (th_n (AC.seq (AC.seq (AC.region ?_))))
 refine AL.p (by exact mv1 rfl) rfl ?_
 refine AL.p (by exact g_len_view rfl rfl (by exact List.length_map _)) rfl ?_
 refine AL.p (by exact mv1 rfl) rfl ?_
 refine AL.nil (th_n (AC.block ?_))
 refine AC.loop (ι := Nat) (fun k => ⟨22, 108, [(1, aI d), (5, .own 100 k), (8, .d (vI l)), (9, aI l.length), (10, aI k)], [(100, some (.arr 3 1 (ints (mapI (l.take k) d))))]⟩) (fun k => k ≤ l.length) (fun k => l.length - k) (0) ?_ (Nat.zero_le _) ?_
 ·exact (Weak.nilOwn (i := 5) (e := 3) (sz := 1) rfl (by decide)).trans (Weak.ren _ [(100, _)] hC rfl (by repeat (first | exact True.intro | refine And.intro ?_ ?_ | exact DLead.same | exact rfl | refine ⟨_, rfl, ?_⟩)) (by repeat (first | exact True.intro | refine And.intro ?_ ?_ | exact rfl | refine ⟨_, _, rfl, rfl, ?_⟩)) rfl rfl rfl)
 ·intro k hk
  refine AC.seq (AC.region ?_)
  refine AL.p (by exact g_cmp rfl rfl rfl) rfl ?_
  refine AL.nil (th_n (AC.seq ?_))
  refine AC.condD rfl (fun h0 => ?_) (fun h0 => ?_)
  ·refine AC.skip (th_n (AC.seq (AC.block (AC.seq ?_))))
   have hk1 : k < l.length := by omega
   have hget := ints_at hk1
   have hx := hr _ (List.getElem_mem hk1)
   have hml : (mapI (l.take k) d).length = k := by rw [mapI_len, List.length_take]; omega
   refine AC.region ?_
   refine AL.p (by exact g_ia_view rfl rfl rfl rfl rfl (by rfl) (by assumption)) rfl ?_
   refine AL.p (by exact g_load_ref rfl rfl rfl) rfl ?_
   refine AL.p (by exact as1 rfl) rfl ?_
   refine AL.nil (th_n (AC.region ?_))
   refine AL.p (by exact mv2 rfl) rfl ?_
   refine AL.p (by exact mv1 rfl) rfl ?_
   refine AL.p (by exact mv1 rfl) rfl ?_
   refine AL.p (by exact g_arith rfl rfl rfl (by exact wrap_i64 (by omega))) rfl ?_
   refine AL.q (by exact h_litF rfl rfl rfl rfl rfl rfl rfl rfl) rfl ?_
   refine AL.q (by exact h_appendI (mapI (l.take k) d) [l[k] + d] (.own rfl rfl (by rw [ints_len, hml])) (.view rfl) (by simp; omega) (by simp)) rfl ?_
   refine AL.p (by exact as2 rfl) rfl ?_
   refine AL.nil (ib_n (th_n (AC.region ?_)))
   refine AL.p (by exact g_arith rfl rfl rfl (by exact wrap_i64 (by omega))) rfl ?_
   refine AL.p (by exact mv1 rfl) rfl ?_
   refine AL.nil (th_n ?_)
   have hl2 : (mapI (l.take k) d ++ [l[k] + d]).length = k + 1 := by rw [List.length_append, hml]; rfl
   exact ⟨k + 1, by omega, by omega, Weak.ren _ [(100, _)] hC rfl (by rw [← hl2]; repeat (first | exact True.intro | refine And.intro ?_ ?_ | exact DLead.same | exact DLead.eqI (by omega) | exact rfl | refine ⟨_, rfl, ?_⟩)) (by rw [mapI_take hk1]; repeat (first | exact True.intro | refine And.intro ?_ ?_ | exact rfl | refine ⟨_, _, rfl, rfl, ?_⟩)) rfl rfl rfl⟩
  ·refine AC.exit (th_e (th_e (ib_y (th_n (AC.seq ?_)))))
   have hkk : k = l.length := by omega
   subst hkk
   refine AC.weak (Weak.freeze (els' := ints (mapI l d)) (i := 5) rfl rfl (by rw [ints_len, mapI_len]; simp) (by rw [List.take_length, List.take_of_length_le (by rw [ints_len, mapI_len]; exact Nat.le_refl _)])) ?_
   refine AC.region ?_
   refine AL.p (by exact mv1 rfl) rfl ?_
   refine AL.p (by exact as1 rfl) rfl ?_
   refine AL.nil (th_n (AC.ret (bq_r ?_)))
   exact ret1 rfl rfl
theorem en_l1Shift : Enters Tryz.prog 263 := enters_of Tryz.func263 rfl rfl
section
variable {P : Program} [PT P] {s : ASt} {dst : Option Nat} {ty : Nat} {pos : String} {af : Array Edge} {gd : Option (Nat × Bool)} {x y : Operand} {f t : Nat}
theorem h_make {e n bt sz k : Nat} {zs : List ZK} {te : TS} {I : Int} (ht : PT.ty P t = some ⟨.slice e, n, bt, zs⟩) (he : PT.ty P e = some te) (hs : te.size = sz) (hz0 : te.zero.length = te.size) (h0 : Nat.beq sz 0 = false)
  (hx : s.ev x = aI I) (hy : s.ev y = aI I) (hI : I = (k : Int)) (hbytes : te.bytes * k ≤ 281474976710656) (hk : k ≤ 9223372036854775807) :
  NOp P [] s ⟨dst, .makeSlice t x y, ty, pos, af, gd⟩ f ⟨.own f k, [(f, some (.arr e sz (List.replicate k (te.zero.map fun z => DV.val z.val))))]⟩ := by
 refine NOp.value fun s' ha C U U' a w m hR hU hU' hd => ?_
 have hne : sz ≠ 0 := Nat.ne_of_beq_eq_false h0
 obtain ⟨i, d, z, hi, hd', hkd, h1, h2, h3, h4⟩ := PT.facts he
 have hvx := hR.ev x
 rw [ha.2.1 x (by simp [Op.operands]), hx] at hvx
 obtain ⟨ex, _⟩ := hvx.val_eq
 have hvy := hR.ev y
 rw [ha.2.1 y (by simp [Op.operands]), hy] at hvy
 obtain ⟨ey, _⟩ := hvy.val_eq
 subst hI
 have hb' : (i.bytes : Int) * (k : Int) ≤ 281474976710656 := by
  rw [h2]
  have : ((te.bytes * k : Nat) : Int) ≤ 281474976710656 := by omega
  rwa [Int.natCast_mul] at this
 have hrun := run_make (P := P) w t e i z (PT.slice ht) hi h3 .i64 .i64 (k : Int) (k : Int) (by omega) (Int.le_refl _) hb' (by omega)
 simp only [Int.toNat_natCast] at hrun
 have hzc : z.cells.size = sz := by rw [h4]; simp [hz0, hs]
 have hXs : (madeCells z.cells (k * i.size)).size = k * sz := by rw [size_madeCells, h1, hs]
 refine ⟨_, _, _, ?_, hR.newArr (n := k) (cap := k) (els := List.replicate k (te.zero.map fun z => DV.val z.val)) (vs := madeCells z.cells (k * i.size)) (fz := (0, 0)) (e := e) (sz := sz) hd (by simpa using hU 0 (by omega)) (fun j hj => by have := hU' j hj; exact ⟨this.1, by omega⟩) (by simp) hXs (by simp) (by simp only [maxLen]; omega) (by omega) (fun i' cs hc => ?_) (fun i' cs j dd hc hdd => ?_)⟩
 ·simp only [execOp, Sem.run_bind, ex, ey, hrun]
  rfl
 ·obtain ⟨h5, h6⟩ := List.getElem?_eq_some_iff.1 hc
  rw [List.getElem_replicate] at h6
  rw [← h6, List.length_map, hz0, hs]
 ·obtain ⟨h5, h6⟩ := List.getElem?_eq_some_iff.1 hc
  rw [List.getElem_replicate] at h6
  rw [List.length_replicate] at h5
  subst h6
  rw [List.getElem?_map, Option.map_eq_some_iff] at hdd
  obtain ⟨zk, hzk, rfl⟩ := hdd
  have hj : j < sz := by have := (List.getElem?_eq_some_iff.1 hzk).1; omega
  have hin : i' * sz + j < k * i.size := by
   rw [h1, hs]
   have : (i' + 1) * sz ≤ k * sz := Nat.mul_le_mul_right _ h5
   rw [Nat.succ_mul] at this; omega
  have hmod : (i' * sz + j) % sz = j := by rw [Nat.mul_comm, Nat.mul_add_mod, Nat.mod_eq_of_lt hj]
  have hval : (madeCells z.cells (k * i.size)).getD (i' * sz + j) undef = zk.val := by
   unfold madeCells
   rw [Array.getD_eq_getD_getElem?, Array.getElem?_map, Array.getElem?_range, if_pos hin]
   show z.cells[(i' * sz + j) % z.cells.size]! = zk.val
   rw [hzc, hmod, h4]
   rw [getElem!_def]
   simp [hzk]
  rw [hval]
  exact .val zk.ok
end
def eqOf (op : BinOp) (b : Bool) : Option Bool :=
 match op with
 | .eql => some b
 | .neq => some (!b)
 | _ => none
section
variable {P : Program} [PT P]
variable {s : ASt} {dst : Option Nat} {ty : Nat} {pos : String} {af : Array Edge} {gd : Option (Nat × Bool)} {x y : Operand} {xt yt : Nat}
end
inductive BL1 (ids : List Nat) (s : ASt) : DV → AV → Prop
 | d {x : DV} : BL1 ids s x (.d x)
 | nil {e sz : Nat} : BL1 ids s (.view e sz []) (.d (.val (.slice none 0 0)))
 | own {id n e sz : Nat} {els els' : List (List DV)} : ids.contains id = true → s.chunk id = some (.arr e sz els) → n ≤ els.length → els.take n = els' → BL1 ids s (.view e sz els') (.own id n)
 | pred {id : Nat} {x : DV} {v : Value} {S : Nat → Prop} {K : World → Prop} : ids.contains id = true → s.chunk id = some (.pred S K) → (∀ w, K w → DRep S w x v) → BL1 ids s x (.d (.val v))
inductive BLs (ids : List Nat) (s : ASt) : List DV → List AV → Prop
 | nil : BLs ids s [] []
 | cons {d : DV} {c : AV} {ds : List DV} {cs : List AV} : BL1 ids s d c → BLs ids s ds cs → BLs ids s (d :: ds) (c :: cs)
inductive BP (ids : List Nat) (s : ASt) : DV → AV → Prop
 | of {x : DV} {y : AV} : BL1 ids s x y → BP ids s x y
 | ptr {id t : Nat} {cs : List AV} {ds : List DV} : ids.contains id = true → s.chunk id = some (.cells t cs) → BLs ids s ds cs → BP ids s (.ref ds) (.ptr id 0)
inductive BPs (ids : List Nat) (s : ASt) : List DV → List AV → Prop
 | nil : BPs ids s [] []
 | cons {d : DV} {c : AV} {ds : List DV} {cs : List AV} : BP ids s d c → BPs ids s ds cs → BPs ids s (d :: ds) (c :: cs)
theorem BPs.get {ids : List Nat} {s : ASt} {ds : List DV} {cs : List AV} (h : BPs ids s ds cs) : ds.length = cs.length ∧ ∀ (i : Nat) c, cs[i]? = some c → ∃ d, ds[i]? = some d ∧ BP ids s d c := by
 induction h with
 | nil => exact ⟨rfl, fun i c h => by simp at h⟩
 | cons h _ ih =>
  refine ⟨by simp [ih.1], fun i c hc => ?_⟩
  cases i with
  | zero => simp at hc; subst hc; exact ⟨_, rfl, h⟩
  | succ i => simpa using ih.2 i c (by simpa using hc)
inductive BL (ids : List Nat) (s : ASt) : AV → AV → Prop
 | cloB {f : FuncId} {ds : List DV} {cs : List AV} : BPs ids s ds cs → BL ids s (.clo f (ds.map .d)) (.clo f cs)
 | of {x : DV} {y : AV} : BL1 ids s x y → BL ids s (.d x) y
 | clo {f : FuncId} {ds : List DV} : BL ids s (.clo f (ds.map .d)) (.clo f (ds.map .d))
 | agg {ds : List DV} : BL ids s (.agg (ds.map .d)) (.agg (ds.map .d))
 | ptr {id t : Nat} {cs : List AV} {ds : List DV} : ids.contains id = true → s.chunk id = some (.cells t cs) → BLs ids s ds cs → BL ids s (.d (.ref ds)) (.ptr id 0)
 | aggs {cs : List AV} {ds : List DV} : BLs ids s ds cs → BL ids s (.agg (ds.map .d)) (.agg cs)
inductive BAs (ids : List Nat) (s : ASt) : List AV → List AV → Prop
 | nil : BAs ids s [] []
 | cons {x y : AV} {xs ys : List AV} : BL ids s x y → BAs ids s xs ys → BAs ids s (x :: xs) (y :: ys)
theorem BLs.get {ids : List Nat} {s : ASt} {ds : List DV} {cs : List AV} (h : BLs ids s ds cs) : ds.length = cs.length ∧ ∀ (i : Nat) d, ds[i]? = some d → ∃ c, cs[i]? = some c ∧ BL1 ids s d c := by
 induction h with
 | nil => exact ⟨rfl, fun i d h => by simp at h⟩
 | cons h _ ih =>
  refine ⟨by simp [ih.1], fun i d hd => ?_⟩
  cases i with
  | zero => simp at hd; subst hd; exact ⟨_, rfl, h⟩
  | succ i => simpa using ih.2 i d (by simpa using hd)
theorem BAs.get {ids : List Nat} {s : ASt} {xs ys : List AV} (h : BAs ids s xs ys) : xs.length = ys.length ∧ ∀ (i : Nat) x, xs[i]? = some x → ∃ y, ys[i]? = some y ∧ BL ids s x y := by
 induction h with
 | nil => exact ⟨rfl, fun i d h => by simp at h⟩
 | cons h _ ih =>
  refine ⟨by simp [ih.1], fun i d hd => ?_⟩
  cases i with
  | zero => simp at hd; subst hd; exact ⟨_, rfl, h⟩
  | succ i => simpa using ih.2 i d (by simpa using hd)
mutual
def AV.flat : AV → Bool
 | .d (.val _) => true
 | .tup cs => AV.flatL cs
 | .agg cs => AV.flatL cs
 | _ => false
def AV.flatL : List AV → Bool
 | [] => true
 | c :: cs => c.flat && AV.flatL cs
end
theorem AV.flatL_get : ∀ {cs : List AV}, AV.flatL cs = true → ∀ (i : Nat) c, cs[i]? = some c → c.flat = true
 | [], _, i, c, h => by simp at h
 | c :: cs, hf, i, c', h => by
  simp only [AV.flatL, Bool.and_eq_true] at hf
  cases i with
  | zero => simp at h; subst h; exact hf.1
  | succ i => exact AV.flatL_get hf.2 i c' (by simpa using h)
theorem ARep.flat {m m' : Nat → Option (Option Nat × Nat)} {F F' : Nat → Prop} {w w' : World} {x : AV} {v : Value} (h : ARep m F w x v) : x.flat = true → ARep m' F' w' x v := by
 induction h with
 | d h => intro hf; rename_i x v; cases x with
  | val u => exact .d (h.flat trivial)
  | _ => simp [AV.flat] at hf
 | agg h1 _ h3 ih => intro hf; exact .agg h1 (fun i c hc => ih i c hc (AV.flatL_get (by simpa [AV.flat] using hf) i c hc)) h3
 | tup h1 _ ih => intro hf; exact .tup h1 (fun i c hc => ih i c hc (AV.flatL_get (by simpa [AV.flat] using hf) i c hc))
 | _ => intro hf; simp [AV.flat] at hf
section
variable {P : Program} [PT P]
variable {s : ASt} {dst : Option Nat} {ty : Nat} {pos : String} {af : Array Edge} {gd : Option (Nat × Bool)} {f : Nat}
theorem BL1.rep {C : Ctx} {U : Nat → Prop} {ids : List Nat} {s' : ASt} {a : Act} {w : World} {m : Nat → Option (Option Nat × Nat)} (hR : RelM C U s' a w m) (hch : ∀ id, id ∈ ids → s'.chunk id = s.chunk id) {F : Nat → Prop} (hF : ∀ k, k < w.heap.size → F k) {x : DV} {y : AV} {v : Value} (h : BL1 ids s x y) (hy : ARep m (Fz C m s' w) w y v) : DRep F w x v := by
 have hFz : ∀ q, Fz C m s' w q → F q := fun q hq => hF q hq.2.1
 cases h with
 | d => cases hy with | d h => exact h.mono hFz
 | nil => cases hy with | d h => cases h; exact .nil
 | @own id n e sz els els' hid hc hn he =>
  subst he
  have hc' : s'.chunk id = some (.arr e sz els) := by rw [hch id (by simpa using hid)]; exact hc
  obtain ⟨p, hp, hr, _⟩ := hR.ch id _ hc'
  exact own_view hy hp hr hn hFz (fun b hb => hF b (hr.lt (.inl hb)))
 | @pred id _ u S K hid hc hK =>
  have hc' : s'.chunk id = some (.pred S K) := by rw [hch id (by simpa using hid)]; exact hc
  obtain ⟨p, hp, hr, _⟩ := hR.ch id _ hc'
  have hv : v = u := by cases hy with | d h => cases h; rfl
  subst hv
  cases hr with
  | pred h1 h2 h3 => exact (hK w h1).mono fun k hk => hF k (h3 k hk)
theorem BP.rep {C : Ctx} {U : Nat → Prop} {ids : List Nat} {s' : ASt} {a : Act} {w : World} {m : Nat → Option (Option Nat × Nat)} (hR : RelM C U s' a w m) (hch : ∀ id, id ∈ ids → s'.chunk id = s.chunk id) {F : Nat → Prop} (hF : ∀ k, k < w.heap.size → F k) {x : DV} {y : AV} {v : Value} (h : BP ids s x y) (hy : ARep m (Fz C m s' w) w y v) : DRep F w x v := by
 have hFz : ∀ q, Fz C m s' w q → F q := fun q hq => hF q hq.2.1
 cases h with
 | of h => exact h.rep hR hch hF hy
 | ptr hid hc hcs =>
  rename_i id t cs ds
  have hc' : s'.chunk id = some (.cells t cs) := by rw [hch id (by simpa using hid)]; exact hc
  cases hy with
  | ptr hp =>
   obtain ⟨hl, hg⟩ := hcs.get
   cases hR.chunkAt hc' hp with
   | cells hb hs hv h1 =>
    refine .ref (hF _ (lt_of_block hb)) hb (by omega) (fun j d hd => ?_)
    obtain ⟨c, hc, hdc⟩ := hg j d hd
    rw [Nat.zero_add]
    exact hdc.rep hR hch hF (hv j c hc)
theorem BL.rep {C : Ctx} {U : Nat → Prop} {ids : List Nat} {s' : ASt} {a : Act} {w : World} {m m0 : Nat → Option (Option Nat × Nat)} (hR : RelM C U s' a w m) (hch : ∀ id, id ∈ ids → s'.chunk id = s.chunk id) {F : Nat → Prop} (hF : ∀ k, k < w.heap.size → F k) {x y : AV} {v : Value} (h : BL ids s x y) (hy : ARep m (Fz C m s' w) w y v) : ARep m0 F w x v := by
 have hFz : ∀ q, Fz C m s' w q → F q := fun q hq => hF q hq.2.1
 have hds : ∀ (ds : List DV) (i : Nat) c v, (ds.map AV.d)[i]? = some c → ARep m (Fz C m s' w) w c v → ARep m0 F w c v := by
  intro ds i c v hc hv
  rw [List.getElem?_map, Option.map_eq_some_iff] at hc
  obtain ⟨d, _, rfl⟩ := hc
  cases hv with | d h => exact .d (h.mono hFz)
 cases h with
 | cloB hcs =>
  obtain ⟨hl, hg⟩ := hcs.get
  cases hy with
  | clo h1 h2 =>
   refine .clo (by rw [h1, List.length_map, hl]) (fun i c hc => ?_)
   rw [List.getElem?_map, Option.map_eq_some_iff] at hc
   obtain ⟨d, hd, rfl⟩ := hc
   have hi : i < _ := (List.getElem?_eq_some_iff.1 hd).1
   obtain ⟨d', hd', hb⟩ := hg i _ (List.getElem?_eq_getElem (by omega))
   rw [hd] at hd'
   cases hd'
   exact .d (hb.rep hR hch hF (h2 i _ (List.getElem?_eq_getElem (by omega))))
 | of h => exact .d (h.rep hR hch hF hy)
 | clo => cases hy with | clo h1 h2 => exact .clo h1 (fun i c hc => hds _ i c _ hc (h2 i c hc))
 | agg => cases hy with | agg h1 h2 h3 => exact .agg h1 (fun i c hc => hds _ i c _ hc (h2 i c hc)) h3
 | aggs hcs =>
  obtain ⟨hl, hg⟩ := hcs.get
  cases hy with
  | agg h1 h2 h3 =>
   refine .agg (by rw [h1, List.length_map, hl]) (fun i c hc => ?_) h3
   rw [List.getElem?_map, Option.map_eq_some_iff] at hc
   obtain ⟨d, hd, rfl⟩ := hc
   obtain ⟨c', hc', hdc⟩ := hg i d hd
   exact .d (hdc.rep hR hch hF (h2 i c' hc'))
 | ptr hid hc hcs =>
  rename_i id t cs ds
  have hc' : s'.chunk id = some (.cells t cs) := by rw [hch id (by simpa using hid)]; exact hc
  cases hy with
  | ptr hp =>
   obtain ⟨hl, hg⟩ := hcs.get
   cases hR.chunkAt hc' hp with
   | cells hb hs hv h1 =>
    refine .d (.ref (hF _ (lt_of_block hb)) hb (by omega) (fun j d hd => ?_))
    obtain ⟨c, hc, hdc⟩ := hg j d hd
    rw [Nat.zero_add]
    exact hdc.rep hR hch hF (hv j c hc)
theorem h_borrow (ids : List Nat) {g : FuncId} {caps ys ars : List AV} {fx : Operand} {xs : Array Operand} {ats : Array TypeId} {r : AV} (hen : Enters P g) (hf : s.ev fx = .clo g caps) (hys : xs.toList.map s.ev ++ caps = ys)
  (hspec : ASpec P g ars [] (Pure1 r)) (hlead : BAs ids s ars ys) (hr : r.flat = true) :
  NOp P ids s ⟨dst, .call { callee := .value fx, args := xs, argTypes := ats }, ty, pos, af, gd⟩ f ⟨r, []⟩ := by
 refine ⟨fun s' ha C U U' a w m hR hU hU' hd K Q hK => ?_⟩
 have hfx := hR.ev fx
 rw [ha.2.1 fx (by simp [Op.operands, Call.operands]), hf] at hfx
 generalize hfv : a.eval fx = fv at hfx
 cases hfx with
 | clo hc1 hc2 =>
  rename_i cv
  have hrun : (execOp a.eval ⟨dst, .call { callee := .value fx, args := xs, argTypes := ats }, ty, pos, af, gd⟩).run P w = .ok (.enter g (xs.map a.eval ++ cv)) w := by
   simp [execOp, resolve, hfv, Deferred.ofValue, invoke, hen (xs.map a.eval ++ cv) w]
  obtain ⟨hl1, hl2⟩ := hlead.get
  have harg : ∀ (i : Nat) y, ys[i]? = some y → ARep m (Fz C m s' w) w y ((xs.map a.eval ++ cv).getD i undef) := by
   intro i y hy
   rw [← hys] at hy
   by_cases hi : i < xs.size
   ·rw [List.getElem?_append_left (by simpa using hi), List.getElem?_map, Option.map_eq_some_iff] at hy
    obtain ⟨x, hx, rfl⟩ := hy
    have hx' : xs[i]? = some x := by simpa using hx
    have := hR.ev x
    rw [ha.2.1 x (by simp only [Op.operands, Call.operands, Array.mem_append]; exact .inr (Array.mem_of_getElem? hx'))] at this
    have e : (xs.map a.eval ++ cv).getD i undef = a.eval x := by
     have hxi : xs[i] = x := (Array.getElem?_eq_some_iff.1 hx').2
     simp [Array.getD_eq_getD_getElem?, Array.getElem?_append, hi, hxi]
    rw [e]; exact this
   ·rw [List.getElem?_append_right (by simpa using Nat.le_of_not_lt hi)] at hy
    have := hc2 _ y hy
    have e : (xs.map a.eval ++ cv).getD i undef = cv.getD (i - xs.size) undef := by
     simp [Array.getD_eq_getD_getElem?, Array.getElem?_append, hi]
    rw [e]; simpa using this
  have hcall := hspec w (fun _ => none) (fun k => k < w.heap.size) (xs.map a.eval ++ cv) (fun k hk => ⟨hk, fun id c p hc => by simp [getL] at hc⟩) ?_ ?_ (fun id c hc => by simp [getL] at hc) (fun id id' c c' p p' b hc => by simp [getL] at hc) (fun id _ => rfl)
  ·unfold Oper.wp
   rw [hrun]
   simp only [Oper.upon]
   refine Calls.mono hcall ?_
   rintro e w' ⟨v, r', chs', m1, F1, rfl, ⟨rfl, rfl⟩, -, -, -, ⟨f1, f2, f3, f4, f5⟩, hv, -, -⟩
   have hold : ∀ k, k < w.heap.size → w'.heap[k]? = w.heap[k]? := fun k hk => f5 k hk (fun id c p hc => by simp [getL] at hc)
   refine hK _ _ m (hR.step hd (MLe.refl m) (fun j hj => hR.un j (hU' j hj).1) ?_ f4 (fun k hk => ⟨fun id c p hc => by simp [getL] at hc, hold k hk.2.1⟩) (fun id c p b h0 h1 h2 h3 => ?_) (fun F' hF hF2 => ⟨hv.flat hr, fun id c hc => by simp [getL] at hc⟩) (fun id id' c c' p p' b hc => by simp [getL] at hc))
   ·refine ⟨f1.trans hR.fr.os, f2.trans hR.fr.tape, f3.trans hR.fr.output, Nat.le_trans hR.fr.size f4, fun k hk hn => ?_⟩
    rw [hold k (Nat.lt_of_lt_of_le hk hR.fr.size)]
    exact hR.fr.block k hk hn
   ·refine hold b ?_
    obtain ⟨q, hq, hr', _⟩ := hR.ch id c h1
    rw [h2] at hq
    obtain rfl : p = q := by simpa using hq
    exact hr'.lt h3
  ·have : ys.length = xs.size + caps.length := by rw [← hys]; simp
   simp only [Array.size_append, Array.size_map]
   omega
  ·intro i x hx
   obtain ⟨y, hy, hxy⟩ := hl2 i x hx
   exact hxy.rep hR ha.2.2 (fun k hk => hk) (harg i y hy)
theorem Weak.freezeRef {C : Ctx} (i : Nat) {id t : Nat} {ds : List DV} (hs : s.get i = .ptr id 0) (hc : s.chunk id = some (.cells t (ds.map .d))) : Weak C s { s with sl := (i, .d (.ref ds)) :: s.sl, ch := (id, none) :: s.ch } := by
 refine ⟨?_⟩
 rintro a w ⟨m, hR⟩
 have hch : ∀ j c, (getL j ((id, none) :: s.ch)).getD none = some c → j ≠ id ∧ s.chunk j = some c := by
  intro j c h
  rw [getL_cons] at h
  split at h
  ·simp at h
  ·rename_i e; exact ⟨e, h⟩
 have hF : ∀ q, Fz C m s w q → Fz C m { s with sl := (i, .d (.ref ds)) :: s.sl, ch := (id, none) :: s.ch } w q := fun q hq => ⟨hq.1, hq.2.1, fun j c p h1 h2 => hq.2.2 j c p (hch j c h1).2 h2⟩
 refine ⟨m, hR.fr, hR.fin, hR.sz, fun j => ?_, fun j c h1 => ?_, fun j j' c c' p p' h1 h2 hp hp' b hb hb' => hR.inj j j' c c' p p' (hch j c h1).2 (hch j' c' h2).2 hp hp' b hb hb', hR.un, hR.defers, hR.m0, hR.m0k⟩
 ·show ARep _ _ _ ((getL j ((i, .d (.ref ds)) :: s.sl)).getD .dead) _
  rw [getL_cons]
  by_cases hj : j = i
  ·subst hj
   rw [if_pos rfl]
   have hv := hR.sl j
   rw [hs] at hv
   generalize a.tmps.getD j undef = v at hv
   simp only [Option.getD_some]
   cases hv with
   | ptr hp =>
    rename_i b cap
    have hC := hR.chunkAt hc hp
    cases hC with
    | cells hb hsz hv h1 =>
     obtain ⟨q, hq, hr, hloc⟩ := hR.ch id _ hc
     rw [hp] at hq
     obtain rfl : (some b, cap) = q := by simpa using hq
     have hFb : Fz C m { s with sl := (j, .d (.ref ds)) :: s.sl, ch := (id, none) :: s.ch } w b := by
      refine ⟨.inr (hloc b (.inl rfl)), lt_of_block hb, fun j' c p h1 h2 h3 => ?_⟩
      obtain ⟨hne, h4⟩ := hch j' c h1
      exact hne (hR.inj j' id c _ p _ h4 hc h2 hp b h3 (.inl rfl))
     refine .d (.ref hFb hb (by simp at hsz; omega) (fun k d hd => ?_))
     have := hv k (.d d) (by simp [hd])
     rw [Nat.zero_add]
     cases this with | d h => exact h.mono hF
  ·rw [if_neg hj]
   exact (hR.sl j).turn (MLe.refl m) (fun k hk _ => ⟨hF k hk, rfl⟩)
 ·obtain ⟨_, h2⟩ := hch j c h1
  obtain ⟨p, hp, hr, hl⟩ := hR.ch j c h2
  exact ⟨p, hp, hr.turn (MLe.refl m) (fun k hk _ => ⟨hF k hk, rfl⟩) (fun _ _ => rfl), hl⟩
theorem RelM.freeze {C : Ctx} {U : Nat → Prop} {a : Act} {w : World} {m : Nat → Option (Option Nat × Nat)} (hR : RelM C U s a w m) {i id n e sz : Nat} {els els' : List (List DV)} (hs : s.get i = .own id n) (hc : s.chunk id = some (.arr e sz els)) (hn : n ≤ els.length) (he : els.take n = els') : RelM C U { s with sl := (i, .d (.view e sz els')) :: s.sl, ch := (id, none) :: s.ch } a w m := by
 subst he
 have hch : ∀ j c, (getL j ((id, none) :: s.ch)).getD none = some c → j ≠ id ∧ s.chunk j = some c := by
  intro j c h
  rw [getL_cons] at h
  split at h
  ·simp at h
  ·rename_i e; exact ⟨e, h⟩
 have hF : ∀ q, Fz C m s w q → Fz C m { s with sl := (i, .d (.view e sz (els.take n))) :: s.sl, ch := (id, none) :: s.ch } w q := fun q hq => ⟨hq.1, hq.2.1, fun j c p h1 h2 => hq.2.2 j c p (hch j c h1).2 h2⟩
 refine ⟨hR.fr, hR.fin, hR.sz, fun j => ?_, fun j c h1 => ?_, fun j j' c c' p p' h1 h2 hp hp' b hb hb' => hR.inj j j' c c' p p' (hch j c h1).2 (hch j' c' h2).2 hp hp' b hb hb', hR.un, hR.defers, hR.m0, hR.m0k⟩
 ·show ARep _ _ _ ((getL j ((i, .d (.view e sz (els.take n))) :: s.sl)).getD .dead) _
  rw [getL_cons]
  by_cases hj : j = i
  ·subst hj
   rw [if_pos rfl]
   have hv := hR.sl j
   rw [hs] at hv
   generalize a.tmps.getD j undef = v at hv
   simp only [Option.getD_some]
   cases hv with
   | own hp h0 =>
    rename_i cap b
    have hC := hR.chunkAt hc hp
    cases hC with
    | nil h =>
     have : n = 0 := by simpa using hn
     subst this
     exact .d .nil
    | arr hb hf hsz hl hm h0' hrow hel =>
     rename_i b arr fz
     have hlen : (els.take n).length = n := by simp; omega
     have hsub : ∀ (i : Nat) cs, (els.take n)[i]? = some cs → els[i]? = some cs := by
      intro i cs hi
      rw [List.getElem?_take] at hi
      split at hi
      ·exact hi
      ·cases hi
     obtain ⟨q, hq, hr, hloc⟩ := hR.ch id _ hc
     rw [hp] at hq
     obtain rfl : (some b, cap) = q := by simpa using hq
     have hFb : Fz C m { s with sl := (j, .d (.view e sz (els.take n))) :: s.sl, ch := (id, none) :: s.ch } w b := by
      refine ⟨.inr (hloc b (.inl rfl)), lt_of_block hb, fun j' c p h1 h2 h3 => ?_⟩
      obtain ⟨hne, h4⟩ := hch j' c h1
      exact hne (hR.inj j' id c _ p _ h4 hc h2 hp b h3 (.inl rfl))
     have := DRep.view (F := Fz C m { s with sl := (j, .d (.view e sz (els.take n))) :: s.sl, ch := (id, none) :: s.ch } w) (e := e) (sz := sz) (els := els.take n) (off := 0) (cap := cap) hFb hb (by omega) hm (by omega) (fun i cs hi => hrow i cs (hsub i cs hi)) (fun i cs j d hi hj => by rw [Nat.zero_add]; exact (hel i cs j d (hsub i cs hi) hj).mono hF)
     rw [hlen] at this
     exact .d this
  ·rw [if_neg hj]
   exact (hR.sl j).turn (MLe.refl m) (fun k hk _ => ⟨hF k hk, rfl⟩)
 ·obtain ⟨_, h2⟩ := hch j c h1
  obtain ⟨p, hp, hr, hl⟩ := hR.ch j c h2
  exact ⟨p, hp, hr.turn (MLe.refl m) (fun k hk _ => ⟨hF k hk, rfl⟩) (fun _ _ => rfl), hl⟩
end
structure Sig where
 name : List UInt8
 kind : Int
 deriving DecidableEq
structure Lab where
 sig : Int
 up : Bool
 deriving DecidableEq
structure Bur where
 from_ : Int
 inn : List Lab
 out : List Lab
 to_ : Int
 deriving DecidableEq
abbrev sigD (s : Sig) : List DV := [dS (bstr s.name), dI s.kind]
abbrev sigA (s : Sig) : AV := .agg [aS (bstr s.name), aI s.kind]
abbrev labD (l : Lab) : List DV := [dI l.sig, dT l.up]
abbrev labA (l : Lab) : AV := .agg [aI l.sig, aT l.up]
abbrev sigsL (l : List Sig) : List (List DV) := l.map sigD
abbrev labsL (l : List Lab) : List (List DV) := l.map labD
abbrev vSigs (l : List Sig) : DV := .view 149 2 (sigsL l)
abbrev vLabs (l : List Lab) : DV := .view 156 2 (labsL l)
theorem sigsL_len (l : List Sig) : (sigsL l).length = l.length := List.length_map _
theorem sigsL_get {l : List Sig} {k : Nat} (h : k < l.length) : (sigsL l)[k]? = some (sigD l[k]) := by unfold sigsL; rw [List.getElem?_map, List.getElem?_eq_getElem h]; rfl
theorem labsL_len (l : List Lab) : (labsL l).length = l.length := List.length_map _
theorem labsL_get {l : List Lab} {k : Nat} (h : k < l.length) : (labsL l)[k]? = some (labD l[k]) := by unfold labsL; rw [List.getElem?_map, List.getElem?_eq_getElem h]; rfl
theorem bstr_iff {a b : List UInt8} : bstr a = bstr b ↔ a = b := ⟨bstr_inj, fun h => by rw [h]⟩
def allK (f : Nat → Bool) (n : Nat) : Bool := (List.range n).all f
theorem allK_iff {f : Nat → Bool} {n : Nat} : allK f n = true ↔ ∀ i, i < n → f i = true := by simp [allK]
theorem allK_yes {f : Nat → Bool} {n : Nat} (h : ∀ i, i < n → f i = true) : allK f n = true := allK_iff.2 h
theorem allK_no {f : Nat → Bool} {n i : Nat} (hi : i < n) (h : f i = false) : allK f n = false := by
 cases e : allK f n with
 | false => rfl
 | true => have := allK_iff.1 e i hi; rw [h] at this; cases this
def inI (n lo hi : Int) : Bool := decide (lo ≤ n) && decide (n ≤ hi)
theorem inI_iff {n lo hi : Int} : inI n lo hi = true ↔ lo ≤ n ∧ n ≤ hi := by simp [inI]
def isLow (b : UInt8) : Bool := decide (97 ≤ (b.toNat : Int)) && decide ((b.toNat : Int) ≤ 122)
def isDig (b : UInt8) : Bool := decide (48 ≤ (b.toNat : Int)) && decide ((b.toNat : Int) ≤ 57)
def nameC (i : Nat) (b : UInt8) : Bool := isLow b || (isDig b && !decide (i = 0))
def nameB (m : List UInt8) : Bool := allK (fun i => nameC i (m.getD i 0)) m.length && inI m.length 1 6
theorem nameC_iff {i : Nat} {b : UInt8} : nameC i b = true ↔ (97 ≤ (b.toNat : Int) ∧ (b.toNat : Int) ≤ 122) ∨ ((48 ≤ (b.toNat : Int) ∧ (b.toNat : Int) ≤ 57) ∧ i ≠ 0) := by simp [nameC, isLow, isDig]
theorem nameC_no {i : Nat} {b : UInt8} (h : ¬ ((97 ≤ (b.toNat : Int) ∧ (b.toNat : Int) ≤ 122) ∨ ((48 ≤ (b.toNat : Int) ∧ (b.toNat : Int) ≤ 57) ∧ i ≠ 0))) : nameC i b = false := by
 cases e : nameC i b with
 | false => rfl
 | true => exact absurd (nameC_iff.1 e) h
theorem nameB_no {m : List UInt8} {k : Nat} (hk : k < m.length) (h : nameC k (m.getD k 0) = false) : nameB m = false := by unfold nameB; rw [allK_no hk h, Bool.false_and]
theorem nameB_yes {m : List UInt8} (h : ∀ j, j < m.length → nameC j (m.getD j 0) = true) : nameB m = inI m.length 1 6 := by unfold nameB; rw [allK_yes h, Bool.true_and]
def sAt (l : List Sig) (k : Nat) : Sig := l.getD k ⟨[], 0⟩
theorem sAt_nat {l : List Sig} {k : Nat} (h : k < l.length) : sAt l k = l[k] := by unfold sAt; rw [List.getD_eq_getElem?_getD, List.getElem?_eq_getElem h]; rfl
def sigK (l : List Sig) (k : Nat) : Bool := nameB (sAt l k).name && (inI (sAt l k).kind 1 3 && !(l.take k).any (fun y => decide (y.name = (sAt l k).name)))
def sigsB (l : List Sig) : Bool := allK (sigK l) l.length && inI l.length 1 8
theorem sigsB_no {l : List Sig} {k : Nat} (hk : k < l.length) (h : sigK l k = false) : sigsB l = false := by unfold sigsB; rw [allK_no hk h, Bool.false_and]
theorem sigsB_yes {l : List Sig} (h : ∀ j, j < l.length → sigK l j = true) : sigsB l = inI l.length 1 8 := by unfold sigsB; rw [allK_yes h, Bool.true_and]
def bitLb (up : Bool) : UInt8 := bif up then 49 else 48
def turnL (code : List UInt8) : List Lab → Option (List UInt8)
 | [] => some code
 | x :: l => if code.getD x.sig.toNat 0 = bitLb (!x.up) then turnL (code.set x.sig.toNat (bitLb x.up)) l else none
def cAtL (cs : List (List UInt8)) (i : Int) : List UInt8 := cs.getD i.toNat []
def stepB (cs : List (List UInt8)) (b : Bur) : Option (List (List UInt8)) :=
 if cAtL cs b.from_ = [] then some cs else
  match turnL (cAtL cs b.from_) (b.inn ++ b.out) with
  | none => none
  | some nx => if cAtL cs b.to_ ≠ [] ∧ cAtL cs b.to_ ≠ nx then none else some (cs.set b.to_.toNat nx)
def BitC (n : Nat) (c : List UInt8) : Prop := c.length = n ∧ ∀ b, b ∈ c → b = 48 ∨ b = 49
theorem BitC.set {n : Nat} {c : List UInt8} (h : BitC n c) (i : Nat) (up : Bool) : BitC n (c.set i (bitLb up)) := by
 refine ⟨by rw [List.length_set]; exact h.1, fun b hb => ?_⟩
 rcases List.mem_or_eq_of_mem_set hb with h1 | rfl
 ·exact h.2 b h1
 ·cases up <;> simp [bitLb]
theorem turnL_bit {n : Nat} : ∀ {l : List Lab} {c c' : List UInt8}, BitC n c → turnL c l = some c' → BitC n c'
 | [], c, c', h, e => by simp only [turnL, Option.some.injEq] at e; subst e; exact h
 | x :: l, c, c', h, e => by
  simp only [turnL] at e
  split at e
  ·exact turnL_bit (h.set _ _) e
  ·cases e
structure CodesOk (n : Nat) (k : Nat) (cs : List (List UInt8)) : Prop where
 l : cs.length = k
 c : ∀ c, c ∈ cs → c = [] ∨ BitC n c
theorem CodesOk.at {n k : Nat} {cs : List (List UInt8)} (h : CodesOk n k cs) (i : Int) : cAtL cs i = [] ∨ BitC n (cAtL cs i) := by
 unfold cAtL
 rw [List.getD_eq_getElem?_getD]
 cases e : cs[i.toNat]? with
 | none => exact .inl rfl
 | some c => exact h.c c (List.mem_of_getElem? e)
theorem CodesOk.set {n k : Nat} {cs : List (List UInt8)} (h : CodesOk n k cs) (i : Nat) {c : List UInt8} (hc : BitC n c) : CodesOk n k (cs.set i c) := by
 refine ⟨by rw [List.length_set]; exact h.l, fun x hx => ?_⟩
 rcases List.mem_or_eq_of_mem_set hx with h1 | rfl
 ·exact h.c x h1
 ·exact .inr hc
theorem CodesOk.step {n k : Nat} {cs cs' : List (List UInt8)} {b : Bur} (h : CodesOk n k cs) (e : stepB cs b = some cs') : CodesOk n k cs' := by
 unfold stepB at e
 split at e
 ·simp only [Option.some.injEq] at e; subst e; exact h
 ·rename_i hne
  split at e
  ·cases e
  ·rename_i nx hnx
   split at e
   ·cases e
   ·simp only [Option.some.injEq] at e
    subst e
    have hb := (h.at b.from_).resolve_left hne
    exact h.set _ (turnL_bit hb hnx)
set_option maxHeartbeats 1000000 in
theorem l2Name_spec (m : List UInt8) (hm : m.length ≤ 2000000) : ASpec Tryz.prog 234 [aS (bstr m)] [] (Pure1 (aT (nameB m))) := by
 have hsz := bstr_size m
 refine ASpec.of Tryz.func234 rfl rfl fun C hC => ?_
 refine AC.seq (AC.region ?_)
 refine AL.p (by exact as1 rfl) rfl ?_
 refine AL.nil (th_n (AC.seq (AC.seq (AC.region ?_))))
 refine AL.p (by exact as1 rfl) rfl ?_
 refine AL.nil (th_n (AC.block ?_))
 refine AC.loop (ι := Nat) (fun k => ⟨42, 0, [(0, aS (bstr m)), (3, aI k)], []⟩) (fun k => k ≤ m.length ∧ ∀ j (hj : j < m.length), j < k → nameC j m[j] = true) (fun k => m.length - k) (0) ?_ (⟨Nat.zero_le _, fun j _ hj => by omega⟩) ?_
 ·refine Weak.ren _ [] hC rfl ?_ ?_ rfl rfl rfl <;> repeat (first | exact True.intro | refine And.intro ?_ ?_ | exact DLead.same)
 ·intro k ⟨hk, hall⟩
  refine AC.seq (AC.seq (AC.region ?_))
  refine AL.p (by exact mv1 rfl) rfl ?_
  refine AL.p (by exact mv1 rfl) rfl ?_
  refine AL.p (by exact g_len_str rfl rfl rfl) rfl ?_
  refine AL.p (by exact g_cmp rfl rfl rfl) rfl ?_
  refine AL.nil (th_n ?_)
  refine AC.condD rfl (fun h0 => ?_) (fun h0 => ?_)
  ·refine AC.skip (th_n (AC.seq (AC.block (AC.seq ?_))))
   have hk1 : k < m.length := by omega
   have hget := bstr_at hk1
   have hlt := m[k].toNat_lt
   refine AC.region ?_
   refine AL.p (by exact mv1 rfl) rfl ?_
   refine AL.p (by exact mv1 rfl) rfl ?_
   refine AL.p (by exact g_index rfl rfl rfl (by rfl) (by assumption)) rfl ?_
   refine AL.p (by exact g_cmp rfl rfl rfl) rfl ?_
   refine AL.p (by exact mv1 rfl) rfl ?_
   refine AL.caseG rfl rfl (fun h1 => ?_) (fun h1 => ?_)
   ·refine AL.yes rfl rfl rfl ?_
    refine AL.p (by exact mv1 rfl) rfl ?_
    refine AL.yes rfl rfl rfl ?_
    refine AL.p (by exact mv1 rfl) rfl ?_
    refine AL.yes rfl rfl rfl ?_
    refine AL.p (by exact g_index rfl rfl rfl (by rfl) (by assumption)) rfl ?_
    refine AL.yes rfl rfl rfl ?_
    refine AL.p (by exact g_cmp rfl rfl rfl) rfl ?_
    refine AL.p (by exact g_pickT (r := .d _) rfl rfl) rfl ?_
    refine AL.p (by exact as1 rfl) rfl ?_
    refine AL.nil (th_n (AC.seq (AC.region ?_)))
    refine AL.p (by exact mv1 rfl) rfl ?_
    refine AL.p (by exact g_not rfl) rfl ?_
    refine AL.p (by exact mv1 rfl) rfl ?_
    refine AL.caseGN rfl rfl (fun h2 => ?_) (fun h2 => ?_)
    ·refine AL.yes rfl rfl rfl ?_
     refine AL.p (by exact mv1 rfl) rfl ?_
     refine AL.yes rfl rfl rfl ?_
     refine AL.p (by exact g_cmp rfl rfl rfl) rfl ?_
     refine AL.yes rfl rfl rfl ?_
     refine AL.p (by exact mv1 rfl) rfl ?_
     refine AL.caseG rfl rfl (fun h3 => ?_) (fun h3 => ?_)
     ·refine AL.not rfl rfl rfl rfl rfl ?_
      refine AL.not rfl rfl rfl rfl rfl ?_
      refine AL.not rfl rfl rfl rfl rfl ?_
      refine AL.not rfl rfl rfl rfl rfl ?_
      refine AL.yes rfl rfl rfl ?_
      refine AL.p (by exact g_pickT (r := .d _) rfl rfl) rfl ?_
      refine AL.yes rfl rfl rfl ?_
      refine AL.p (by exact mv1 rfl) rfl ?_
      refine AL.not rfl rfl rfl rfl rfl ?_
      refine AL.not rfl rfl rfl rfl rfl ?_
      refine AL.not rfl rfl rfl rfl rfl ?_
      refine AL.not rfl rfl rfl rfl rfl ?_
      refine AL.yes rfl rfl rfl ?_
      refine AL.p (by exact g_pickT (r := .d _) rfl rfl) rfl ?_
      refine AL.p (by exact g_pickT (r := .d _) rfl rfl) rfl ?_
      refine AL.nil (th_n ?_)
      refine AC.condT rfl ?_
      refine AC.seq (AC.region ?_)
      refine AL.p (by exact as1 rfl) rfl ?_
      refine AL.nil (th_n (AC.ret (ib_r (th_r (th_r (ib_r (th_r (bq_r ?_))))))))
      have hb : nameC k m[k] = false := nameC_no (by simp_all <;> omega)
      exact ret1 rfl (by rw [nameB_no hk1 (by rw [List.getD_eq_getElem?_getD, List.getElem?_eq_getElem hk1]; exact hb)])
     ·refine AL.yes rfl rfl rfl ?_
      refine AL.p (by exact mv1 rfl) rfl ?_
      refine AL.yes rfl rfl rfl ?_
      refine AL.p (by exact mv1 rfl) rfl ?_
      refine AL.yes rfl rfl rfl ?_
      refine AL.p (by exact g_index rfl rfl rfl (by rfl) (by assumption)) rfl ?_
      refine AL.yes rfl rfl rfl ?_
      refine AL.p (by exact g_cmp rfl rfl rfl) rfl ?_
      refine AL.yes rfl rfl rfl ?_
      refine AL.p (by exact g_pickF (r := .d _) rfl rfl) rfl ?_
      refine AL.yes rfl rfl rfl ?_
      refine AL.p (by exact mv1 rfl) rfl ?_
      refine AL.caseG rfl rfl (fun h4 => ?_) (fun h4 => ?_)
      ·refine AL.not rfl rfl rfl rfl rfl ?_
       refine AL.not rfl rfl rfl rfl rfl ?_
       refine AL.not rfl rfl rfl rfl rfl ?_
       refine AL.not rfl rfl rfl rfl rfl ?_
       refine AL.yes rfl rfl rfl ?_
       refine AL.p (by exact g_pickT (r := .d _) rfl rfl) rfl ?_
       refine AL.p (by exact g_pickT (r := .d _) rfl rfl) rfl ?_
       refine AL.nil (th_n ?_)
       refine AC.condT rfl ?_
       refine AC.seq (AC.region ?_)
       refine AL.p (by exact as1 rfl) rfl ?_
       refine AL.nil (th_n (AC.ret (ib_r (th_r (th_r (ib_r (th_r (bq_r ?_))))))))
       have hb : nameC k m[k] = false := nameC_no (by simp_all <;> omega)
       exact ret1 rfl (by rw [nameB_no hk1 (by rw [List.getD_eq_getElem?_getD, List.getElem?_eq_getElem hk1]; exact hb)])
      ·refine AL.yes rfl rfl rfl ?_
       refine AL.p (by exact mv1 rfl) rfl ?_
       refine AL.yes rfl rfl rfl ?_
       refine AL.p (by exact mv1 rfl) rfl ?_
       refine AL.yes rfl rfl rfl ?_
       refine AL.p (by exact g_index rfl rfl rfl (by rfl) (by assumption)) rfl ?_
       refine AL.yes rfl rfl rfl ?_
       refine AL.p (by exact g_cmp rfl rfl rfl) rfl ?_
       refine AL.yes rfl rfl rfl ?_
       refine AL.p (by exact g_pickF (r := .d _) rfl rfl) rfl ?_
       refine AL.p (by exact g_pickT (r := .d _) rfl rfl) rfl ?_
       refine AL.nil (th_n ?_)
       refine AC.condD rfl (fun h5 => ?_) (fun h5 => ?_)
       ·refine AC.seq (AC.region ?_)
        refine AL.p (by exact as1 rfl) rfl ?_
        refine AL.nil (th_n (AC.ret (ib_r (th_r (th_r (ib_r (th_r (bq_r ?_))))))))
        have hb : nameC k m[k] = false := nameC_no (by simp_all <;> omega)
        exact ret1 rfl (by rw [nameB_no hk1 (by rw [List.getD_eq_getElem?_getD, List.getElem?_eq_getElem hk1]; exact hb)])
       ·refine AC.skip (ib_n (th_n (AC.region ?_)))
        refine AL.p (by exact mv1 rfl) rfl ?_
        refine AL.p (by exact g_arith rfl rfl rfl (by exact wrap_i64 (by omega))) rfl ?_
        refine AL.p (by exact as1 rfl) rfl ?_
        refine AL.nil (th_n ?_)
        have hb : nameC k m[k] = true := nameC_iff.2 (by simp_all <;> omega)
        exact ⟨k + 1, ⟨by omega, fun j hj hj2 => by rcases Nat.lt_succ_iff_lt_or_eq.1 hj2 with h | rfl; exact hall j hj h; exact hb⟩, by omega, Weak.ren _ [] hC rfl (by repeat (first | exact True.intro | refine And.intro ?_ ?_ | exact DLead.same)) (by repeat (exact True.intro)) rfl rfl rfl⟩
    ·refine AL.not rfl rfl rfl rfl rfl ?_
     refine AL.not rfl rfl rfl rfl rfl ?_
     refine AL.not rfl rfl rfl rfl rfl ?_
     refine AL.notU rfl rfl rfl ?_
     refine AL.notU rfl rfl rfl ?_
     refine AL.notU rfl rfl rfl ?_
     refine AL.notU rfl rfl rfl ?_
     refine AL.not rfl rfl rfl rfl rfl ?_
     refine AL.not rfl rfl rfl rfl rfl ?_
     refine AL.notU rfl rfl rfl ?_
     refine AL.notU rfl rfl rfl ?_
     refine AL.notU rfl rfl rfl ?_
     refine AL.notU rfl rfl rfl ?_
     refine AL.not rfl rfl rfl rfl rfl ?_
     refine AL.p (by exact g_pickF (r := .d _) rfl rfl) rfl ?_
     refine AL.nil (th_n ?_)
     refine AC.condF rfl ?_
     refine AC.skip (ib_n (th_n (AC.region ?_)))
     refine AL.p (by exact mv1 rfl) rfl ?_
     refine AL.p (by exact g_arith rfl rfl rfl (by exact wrap_i64 (by omega))) rfl ?_
     refine AL.p (by exact as1 rfl) rfl ?_
     refine AL.nil (th_n ?_)
     have hb : nameC k m[k] = true := nameC_iff.2 (by simp_all <;> omega)
     exact ⟨k + 1, ⟨by omega, fun j hj hj2 => by rcases Nat.lt_succ_iff_lt_or_eq.1 hj2 with h | rfl; exact hall j hj h; exact hb⟩, by omega, Weak.ren _ [] hC rfl (by repeat (first | exact True.intro | refine And.intro ?_ ?_ | exact DLead.same)) (by repeat (exact True.intro)) rfl rfl rfl⟩
   ·refine AL.not rfl rfl rfl rfl rfl ?_
    refine AL.not rfl rfl rfl rfl rfl ?_
    refine AL.not rfl rfl rfl rfl rfl ?_
    refine AL.not rfl rfl rfl rfl rfl ?_
    refine AL.p (by exact g_pickF (r := .d _) rfl rfl) rfl ?_
    refine AL.p (by exact as1 rfl) rfl ?_
    refine AL.nil (th_n (AC.seq (AC.region ?_)))
    refine AL.p (by exact mv1 rfl) rfl ?_
    refine AL.p (by exact g_not rfl) rfl ?_
    refine AL.p (by exact mv1 rfl) rfl ?_
    refine AL.yes rfl rfl rfl ?_
    refine AL.p (by exact mv1 rfl) rfl ?_
    refine AL.yes rfl rfl rfl ?_
    refine AL.p (by exact g_cmp rfl rfl rfl) rfl ?_
    refine AL.yes rfl rfl rfl ?_
    refine AL.p (by exact mv1 rfl) rfl ?_
    refine AL.caseG rfl rfl (fun h2 => ?_) (fun h2 => ?_)
    ·refine AL.not rfl rfl rfl rfl rfl ?_
     refine AL.not rfl rfl rfl rfl rfl ?_
     refine AL.not rfl rfl rfl rfl rfl ?_
     refine AL.not rfl rfl rfl rfl rfl ?_
     refine AL.yes rfl rfl rfl ?_
     refine AL.p (by exact g_pickT (r := .d _) rfl rfl) rfl ?_
     refine AL.yes rfl rfl rfl ?_
     refine AL.p (by exact mv1 rfl) rfl ?_
     refine AL.not rfl rfl rfl rfl rfl ?_
     refine AL.not rfl rfl rfl rfl rfl ?_
     refine AL.not rfl rfl rfl rfl rfl ?_
     refine AL.not rfl rfl rfl rfl rfl ?_
     refine AL.yes rfl rfl rfl ?_
     refine AL.p (by exact g_pickT (r := .d _) rfl rfl) rfl ?_
     refine AL.p (by exact g_pickT (r := .d _) rfl rfl) rfl ?_
     refine AL.nil (th_n ?_)
     refine AC.condT rfl ?_
     refine AC.seq (AC.region ?_)
     refine AL.p (by exact as1 rfl) rfl ?_
     refine AL.nil (th_n (AC.ret (ib_r (th_r (th_r (ib_r (th_r (bq_r ?_))))))))
     have hb : nameC k m[k] = false := nameC_no (by simp_all <;> omega)
     exact ret1 rfl (by rw [nameB_no hk1 (by rw [List.getD_eq_getElem?_getD, List.getElem?_eq_getElem hk1]; exact hb)])
    ·refine AL.yes rfl rfl rfl ?_
     refine AL.p (by exact mv1 rfl) rfl ?_
     refine AL.yes rfl rfl rfl ?_
     refine AL.p (by exact mv1 rfl) rfl ?_
     refine AL.yes rfl rfl rfl ?_
     refine AL.p (by exact g_index rfl rfl rfl (by rfl) (by assumption)) rfl ?_
     refine AL.yes rfl rfl rfl ?_
     refine AL.p (by exact g_cmp rfl rfl rfl) rfl ?_
     refine AL.yes rfl rfl rfl ?_
     refine AL.p (by exact g_pickF (r := .d _) rfl rfl) rfl ?_
     refine AL.yes rfl rfl rfl ?_
     refine AL.p (by exact mv1 rfl) rfl ?_
     refine AL.caseG rfl rfl (fun h3 => ?_) (fun h3 => ?_)
     ·refine AL.not rfl rfl rfl rfl rfl ?_
      refine AL.not rfl rfl rfl rfl rfl ?_
      refine AL.not rfl rfl rfl rfl rfl ?_
      refine AL.not rfl rfl rfl rfl rfl ?_
      refine AL.yes rfl rfl rfl ?_
      refine AL.p (by exact g_pickT (r := .d _) rfl rfl) rfl ?_
      refine AL.p (by exact g_pickT (r := .d _) rfl rfl) rfl ?_
      refine AL.nil (th_n ?_)
      refine AC.condT rfl ?_
      refine AC.seq (AC.region ?_)
      refine AL.p (by exact as1 rfl) rfl ?_
      refine AL.nil (th_n (AC.ret (ib_r (th_r (th_r (ib_r (th_r (bq_r ?_))))))))
      have hb : nameC k m[k] = false := nameC_no (by simp_all <;> omega)
      exact ret1 rfl (by rw [nameB_no hk1 (by rw [List.getD_eq_getElem?_getD, List.getElem?_eq_getElem hk1]; exact hb)])
     ·refine AL.yes rfl rfl rfl ?_
      refine AL.p (by exact mv1 rfl) rfl ?_
      refine AL.yes rfl rfl rfl ?_
      refine AL.p (by exact mv1 rfl) rfl ?_
      refine AL.yes rfl rfl rfl ?_
      refine AL.p (by exact g_index rfl rfl rfl (by rfl) (by assumption)) rfl ?_
      refine AL.yes rfl rfl rfl ?_
      refine AL.p (by exact g_cmp rfl rfl rfl) rfl ?_
      refine AL.yes rfl rfl rfl ?_
      refine AL.p (by exact g_pickF (r := .d _) rfl rfl) rfl ?_
      refine AL.p (by exact g_pickT (r := .d _) rfl rfl) rfl ?_
      refine AL.nil (th_n ?_)
      refine AC.condD rfl (fun h4 => ?_) (fun h4 => ?_)
      ·refine AC.seq (AC.region ?_)
       refine AL.p (by exact as1 rfl) rfl ?_
       refine AL.nil (th_n (AC.ret (ib_r (th_r (th_r (ib_r (th_r (bq_r ?_))))))))
       have hb : nameC k m[k] = false := nameC_no (by simp_all <;> omega)
       exact ret1 rfl (by rw [nameB_no hk1 (by rw [List.getD_eq_getElem?_getD, List.getElem?_eq_getElem hk1]; exact hb)])
      ·refine AC.skip (ib_n (th_n (AC.region ?_)))
       refine AL.p (by exact mv1 rfl) rfl ?_
       refine AL.p (by exact g_arith rfl rfl rfl (by exact wrap_i64 (by omega))) rfl ?_
       refine AL.p (by exact as1 rfl) rfl ?_
       refine AL.nil (th_n ?_)
       have hb : nameC k m[k] = true := nameC_iff.2 (by simp_all <;> omega)
       exact ⟨k + 1, ⟨by omega, fun j hj hj2 => by rcases Nat.lt_succ_iff_lt_or_eq.1 hj2 with h | rfl; exact hall j hj h; exact hb⟩, by omega, Weak.ren _ [] hC rfl (by repeat (first | exact True.intro | refine And.intro ?_ ?_ | exact DLead.same)) (by repeat (exact True.intro)) rfl rfl rfl⟩
  ·refine AC.exit (th_e (th_e (ib_y (th_n (AC.seq (AC.region ?_))))))
   refine AL.p (by exact mv1 rfl) rfl ?_
   refine AL.p (by exact g_len_str rfl rfl rfl) rfl ?_
   refine AL.q (by exact h_pure en_l1In rfl rfl (by repeat (first | exact rfl | exact DLead.same | refine ⟨_, _, rfl, ?_, ?_⟩)) (l1In_spec _ _ _) rfl) rfl ?_
   refine AL.p (by exact as1 rfl) rfl ?_
   refine AL.nil (th_n (AC.ret (bq_r ?_)))
   exact ret1 rfl (by rw [nameB_yes (fun j hj => by rw [List.getD_eq_getElem?_getD, List.getElem?_eq_getElem hj]; exact hall j hj (by omega)), hsz]; rfl)
theorem en_l2Name : Enters Tryz.prog 234 := enters_of Tryz.func234 rfl rfl
set_option maxHeartbeats 2000000 in
theorem isName_spec (m : List UInt8) (hm : m.length ≤ 2000000) : ASpec Tryz.prog 199 [aS (bstr m)] [] (Pure1 (aT (nameB m))) := by
 have hsz := bstr_size m
 refine ASpec.of Tryz.func199 rfl rfl fun C hC => ?_
 refine AC.seq (AC.region ?_)
 refine AL.p (by exact as1 rfl) rfl ?_
 refine AL.nil (th_n (AC.seq (AC.seq (AC.region ?_))))
 refine AL.p (by exact as1 rfl) rfl ?_
 refine AL.nil (th_n (AC.block ?_))
 refine AC.loop (ι := Nat) (fun k => ⟨45, 0, [(0, aS (bstr m)), (3, aI k)], []⟩) (fun k => k ≤ m.length ∧ ∀ j (hj : j < m.length), j < k → nameC j m[j] = true) (fun k => m.length - k) (0) ?_ (⟨Nat.zero_le _, fun j _ hj => by omega⟩) ?_
 ·refine Weak.ren _ [] hC rfl ?_ ?_ rfl rfl rfl <;> repeat (first | exact True.intro | refine And.intro ?_ ?_ | exact DLead.same)
 ·intro k ⟨hk, hall⟩
  refine AC.seq (AC.seq (AC.region ?_))
  refine AL.p (by exact mv1 rfl) rfl ?_
  refine AL.p (by exact mv1 rfl) rfl ?_
  refine AL.p (by exact g_len_str rfl rfl rfl) rfl ?_
  refine AL.p (by exact g_cmp rfl rfl rfl) rfl ?_
  refine AL.nil (th_n ?_)
  refine AC.condD rfl (fun h0 => ?_) (fun h0 => ?_)
  ·refine AC.skip (th_n (AC.seq (AC.block (AC.seq ?_))))
   have hk1 : k < m.length := by omega
   have hget := bstr_at hk1
   have hlt := m[k].toNat_lt
   refine AC.drawn' mixed_ok [[], [], [0,1], [0,1,2], [0,1,2,3], [0,1,2,3,4], [0,1,2,3,4], [0,1,2,3,4,5,6], [0,1,2,3,4,5,6,7], [0,1,2,3,4,5,6,7,8], [], [], [10,11], [10,11,12], [0,1,2,3,4,10,11,12,13], [0,1,2,3,4,10,11,12,13,14], [0,1,2,3,4,10,11,12,13,14], [0,1,2,3,4,10,11,12,13,14,15,16], [0,1,2,3,4,10,11,12,13,14,15,16,17], [0,1,2,3,4,10,11,12,13,14,15,16,17,18], [0,1,2,3,4,5,6,7,8,9,10,11,12,13,14], [0,1,2,3,4,5,6,7,8,9,10,11,12,13,14,15,16,17,18,19,20]] (by decide) ?_
   refine DF.op 0 [] 22 rfl rfl rfl (.free rfl (NOp.of (by exact mv1 rfl))) rfl ?_
   refine DF.op 1 [] 22 rfl rfl rfl (.free rfl (NOp.of (by exact mv1 rfl))) rfl ?_
   refine DF.op 2 [0,1] 22 rfl rfl rfl (.free rfl (NOp.of (by exact g_index rfl rfl rfl (by rfl) (by assumption)))) rfl ?_
   refine DF.op 3 [0,1,2] 22 rfl rfl rfl (.free rfl (NOp.of (by exact g_cmp rfl rfl rfl))) rfl ?_
   refine DF.op 4 [0,1,2,3] 22 rfl rfl rfl (.free rfl (NOp.of (by exact mv1 rfl))) rfl ?_
   refine DF.caseD 4 rfl (fun h1 => ?_) (fun h1 => ?_)
   ·refine DF.op 5 [0,1,2,3,4] 22 rfl rfl rfl (.yes rfl rfl rfl rfl (NOp.of (by exact mv1 rfl))) rfl ?_
    refine DF.op 6 [0,1,2,3,4] 22 rfl rfl rfl (.yes rfl rfl rfl rfl (NOp.of (by exact mv1 rfl))) rfl ?_
    refine DF.op 7 [0,1,2,3,4,5,6] 22 rfl rfl rfl (.yes rfl rfl rfl rfl (NOp.of (by exact g_index rfl rfl rfl (by rfl) (by assumption)))) rfl ?_
    refine DF.op 8 [0,1,2,3,4,5,6,7] 22 rfl rfl rfl (.yes rfl rfl rfl rfl (NOp.of (by exact g_cmp rfl rfl rfl))) rfl ?_
    refine DF.op 9 (List.range 9) 22 rfl rfl rfl (.free rfl (NOp.of (by exact g_pickT (r := .d _) rfl rfl))) rfl ?_
    refine DF.op 10 [] 22 rfl rfl rfl (.free rfl (NOp.of (by exact mv1 rfl))) rfl ?_
    refine DF.op 11 [] 22 rfl rfl rfl (.free rfl (NOp.of (by exact mv1 rfl))) rfl ?_
    refine DF.op 12 [10,11] 22 rfl rfl rfl (.free rfl (NOp.of (by exact g_index rfl rfl rfl (by rfl) (by assumption)))) rfl ?_
    refine DF.op 13 [10,11,12] 22 rfl rfl rfl (.free rfl (NOp.of (by exact g_cmp rfl rfl rfl))) rfl ?_
    refine DF.op 14 [0,1,2,3,4,10,11,12,13] 22 rfl rfl rfl (.free rfl (NOp.of (by exact mv1 rfl))) rfl ?_
    refine DF.caseD 14 rfl (fun h2 => ?_) (fun h2 => ?_)
    ·refine DF.op 15 [0,1,2,3,4,10,11,12,13,14] 22 rfl rfl rfl (.yes rfl rfl rfl rfl (NOp.of (by exact mv1 rfl))) rfl ?_
     refine DF.op 16 [0,1,2,3,4,10,11,12,13,14] 22 rfl rfl rfl (.yes rfl rfl rfl rfl (NOp.of (by exact mv1 rfl))) rfl ?_
     refine DF.op 17 [0,1,2,3,4,10,11,12,13,14,15,16] 22 rfl rfl rfl (.yes rfl rfl rfl rfl (NOp.of (by exact g_index rfl rfl rfl (by rfl) (by assumption)))) rfl ?_
     refine DF.op 18 [0,1,2,3,4,10,11,12,13,14,15,16,17] 22 rfl rfl rfl (.yes rfl rfl rfl rfl (NOp.of (by exact g_cmp rfl rfl rfl))) rfl ?_
     refine DF.op 19 [0,1,2,3,4,10,11,12,13,14,15,16,17,18] 22 rfl rfl rfl (.free rfl (NOp.of (by exact g_pickT (r := .d _) rfl rfl))) rfl ?_
     refine DF.op 20 (List.range 15) 22 rfl rfl rfl (.free rfl (NOp.of (by exact as1 rfl))) rfl ?_
     refine DF.op 21 (List.range 21) 22 rfl rfl rfl (.free rfl (NOp.of (by exact as1 rfl))) rfl ?_
     refine DF.fin (ps := [(0,1),(0,10),(0,11),(0,12),(0,13),(1,0),(1,10),(1,11),(1,12),(1,13),(2,10),(2,11),(2,12),(2,13),(3,10),(3,11),(3,12),(3,13),(4,10),(4,11),(4,12),(4,13),(5,6),(5,10),(5,11),(5,12),(5,13),(5,14),(5,15),(5,16),(5,17),(5,18),(5,19),(6,5),(6,10),(6,11),(6,12),(6,13),(6,14),(6,15),(6,16),(6,17),(6,18),(6,19),(7,10),(7,11),(7,12),(7,13),(7,14),(7,15),(7,16),(7,17),(7,18),(7,19),(8,10),(8,11),(8,12),(8,13),(8,14),(8,15),(8,16),(8,17),(8,18),(8,19),(9,10),(9,11),(9,12),(9,13),(9,14),(9,15),(9,16),(9,17),(9,18),(9,19),(10,0),(10,1),(10,2),(10,3),(10,4),(10,5),(10,6),(10,7),(10,8),(10,9),(10,11),(11,0),(11,1),(11,2),(11,3),(11,4),(11,5),(11,6),(11,7),(11,8),(11,9),(11,10),(12,0),(12,1),(12,2),(12,3),(12,4),(12,5),(12,6),(12,7),(12,8),(12,9),(13,0),(13,1),(13,2),(13,3),(13,4),(13,5),(13,6),(13,7),(13,8),(13,9),(14,5),(14,6),(14,7),(14,8),(14,9),(15,5),(15,6),(15,7),(15,8),(15,9),(15,16),(15,20),(16,5),(16,6),(16,7),(16,8),(16,9),(16,15),(16,20),(17,5),(17,6),(17,7),(17,8),(17,9),(17,20),(18,5),(18,6),(18,7),(18,8),(18,9),(18,20),(19,5),(19,6),(19,7),(19,8),(19,9),(19,20),(20,15),(20,16),(20,17),(20,18),(20,19)]) 22 rfl (by decide +kernel) (by decide +kernel) (by rfl) ?_
     refine th_n (AC.seq (AC.region ?_))
     refine AL.p (by exact mv1 rfl) rfl ?_
     refine AL.p (by exact g_not rfl) rfl ?_
     refine AL.p (by exact mv1 rfl) rfl ?_
     refine AL.caseGN rfl rfl (fun h3 => ?_) (fun h3 => ?_)
     ·refine AL.yes rfl rfl rfl ?_
      refine AL.p (by exact mv1 rfl) rfl ?_
      refine AL.yes rfl rfl rfl ?_
      refine AL.p (by exact g_not rfl) rfl ?_
      refine AL.yes rfl rfl rfl ?_
      refine AL.p (by exact mv1 rfl) rfl ?_
      refine AL.caseGN rfl rfl (fun h4 => ?_) (fun h4 => ?_)
      ·refine AL.not rfl rfl rfl rfl rfl ?_
       refine AL.not rfl rfl rfl rfl rfl ?_
       refine AL.yes rfl rfl rfl ?_
       refine AL.p (by exact g_pickT (r := .d _) rfl rfl) rfl ?_
       refine AL.p (by exact g_pickT (r := .d _) rfl rfl) rfl ?_
       refine AL.nil (th_n ?_)
       refine AC.condT rfl ?_
       refine AC.seq (AC.region ?_)
       refine AL.p (by exact as1 rfl) rfl ?_
       refine AL.nil (th_n (AC.ret (ib_r (th_r (th_r (ib_r (th_r (bq_r ?_))))))))
       have hb : nameC k m[k] = false := nameC_no (by simp_all <;> omega)
       exact ret1 rfl (by rw [nameB_no hk1 (by rw [List.getD_eq_getElem?_getD, List.getElem?_eq_getElem hk1]; exact hb)])
      ·refine AL.yes rfl rfl rfl ?_
       refine AL.p (by exact mv1 rfl) rfl ?_
       refine AL.yes rfl rfl rfl ?_
       refine AL.p (by exact g_cmp rfl rfl rfl) rfl ?_
       refine AL.yes rfl rfl rfl ?_
       refine AL.p (by exact g_pickF (r := .d _) rfl rfl) rfl ?_
       refine AL.p (by exact g_pickT (r := .d _) rfl rfl) rfl ?_
       refine AL.nil (th_n ?_)
       refine AC.condD rfl (fun h5 => ?_) (fun h5 => ?_)
       ·refine AC.seq (AC.region ?_)
        refine AL.p (by exact as1 rfl) rfl ?_
        refine AL.nil (th_n (AC.ret (ib_r (th_r (th_r (ib_r (th_r (bq_r ?_))))))))
        have hb : nameC k m[k] = false := nameC_no (by simp_all <;> omega)
        exact ret1 rfl (by rw [nameB_no hk1 (by rw [List.getD_eq_getElem?_getD, List.getElem?_eq_getElem hk1]; exact hb)])
       ·refine AC.skip (ib_n (th_n (AC.region ?_)))
        refine AL.p (by exact mv1 rfl) rfl ?_
        refine AL.p (by exact g_arith rfl rfl rfl (by exact wrap_i64 (by omega))) rfl ?_
        refine AL.p (by exact as1 rfl) rfl ?_
        refine AL.nil (th_n ?_)
        have hb : nameC k m[k] = true := nameC_iff.2 (by simp_all <;> omega)
        exact ⟨k + 1, ⟨by omega, fun j hj hj2 => by rcases Nat.lt_succ_iff_lt_or_eq.1 hj2 with h | rfl; exact hall j hj h; exact hb⟩, by omega, Weak.ren _ [] hC rfl (by repeat (first | exact True.intro | refine And.intro ?_ ?_ | exact DLead.same)) (by repeat (exact True.intro)) rfl rfl rfl⟩
     ·refine AL.not rfl rfl rfl rfl rfl ?_
      refine AL.not rfl rfl rfl rfl rfl ?_
      refine AL.not rfl rfl rfl rfl rfl ?_
      refine AL.notU rfl rfl rfl ?_
      refine AL.notU rfl rfl rfl ?_
      refine AL.not rfl rfl rfl rfl rfl ?_
      refine AL.p (by exact g_pickF (r := .d _) rfl rfl) rfl ?_
      refine AL.nil (th_n ?_)
      refine AC.condF rfl ?_
      refine AC.skip (ib_n (th_n (AC.region ?_)))
      refine AL.p (by exact mv1 rfl) rfl ?_
      refine AL.p (by exact g_arith rfl rfl rfl (by exact wrap_i64 (by omega))) rfl ?_
      refine AL.p (by exact as1 rfl) rfl ?_
      refine AL.nil (th_n ?_)
      have hb : nameC k m[k] = true := nameC_iff.2 (by simp_all <;> omega)
      exact ⟨k + 1, ⟨by omega, fun j hj hj2 => by rcases Nat.lt_succ_iff_lt_or_eq.1 hj2 with h | rfl; exact hall j hj h; exact hb⟩, by omega, Weak.ren _ [] hC rfl (by repeat (first | exact True.intro | refine And.intro ?_ ?_ | exact DLead.same)) (by repeat (exact True.intro)) rfl rfl rfl⟩
    ·refine DF.op (ids := []) 15 [0,1,2,3,4,10,11,12,13,14] 22 rfl rfl rfl (.no rfl rfl rfl rfl rfl rfl) rfl ?_
     refine DF.op (ids := []) 16 [0,1,2,3,4,10,11,12,13,14] 22 rfl rfl rfl (.no rfl rfl rfl rfl rfl rfl) rfl ?_
     refine DF.op (ids := []) 17 [0,1,2,3,4,10,11,12,13,14,15,16] 22 rfl rfl rfl (.no rfl rfl rfl rfl rfl rfl) rfl ?_
     refine DF.op (ids := []) 18 [0,1,2,3,4,10,11,12,13,14,15,16,17] 22 rfl rfl rfl (.no rfl rfl rfl rfl rfl rfl) rfl ?_
     refine DF.op 19 [0,1,2,3,4,10,11,12,13,14,15,16,17,18] 22 rfl rfl rfl (.free rfl (NOp.of (by exact g_pickF (r := .d _) rfl rfl))) rfl ?_
     refine DF.op 20 (List.range 15) 22 rfl rfl rfl (.free rfl (NOp.of (by exact as1 rfl))) rfl ?_
     refine DF.op 21 (List.range 21) 22 rfl rfl rfl (.free rfl (NOp.of (by exact as1 rfl))) rfl ?_
     refine DF.fin (ps := [(0,1),(0,10),(0,11),(0,12),(0,13),(1,0),(1,10),(1,11),(1,12),(1,13),(2,10),(2,11),(2,12),(2,13),(3,10),(3,11),(3,12),(3,13),(4,10),(4,11),(4,12),(4,13),(5,6),(5,10),(5,11),(5,12),(5,13),(5,14),(5,15),(5,16),(5,17),(5,18),(5,19),(6,5),(6,10),(6,11),(6,12),(6,13),(6,14),(6,15),(6,16),(6,17),(6,18),(6,19),(7,10),(7,11),(7,12),(7,13),(7,14),(7,15),(7,16),(7,17),(7,18),(7,19),(8,10),(8,11),(8,12),(8,13),(8,14),(8,15),(8,16),(8,17),(8,18),(8,19),(9,10),(9,11),(9,12),(9,13),(9,14),(9,15),(9,16),(9,17),(9,18),(9,19),(10,0),(10,1),(10,2),(10,3),(10,4),(10,5),(10,6),(10,7),(10,8),(10,9),(10,11),(11,0),(11,1),(11,2),(11,3),(11,4),(11,5),(11,6),(11,7),(11,8),(11,9),(11,10),(12,0),(12,1),(12,2),(12,3),(12,4),(12,5),(12,6),(12,7),(12,8),(12,9),(13,0),(13,1),(13,2),(13,3),(13,4),(13,5),(13,6),(13,7),(13,8),(13,9),(14,5),(14,6),(14,7),(14,8),(14,9),(15,5),(15,6),(15,7),(15,8),(15,9),(15,16),(15,20),(16,5),(16,6),(16,7),(16,8),(16,9),(16,15),(16,20),(17,5),(17,6),(17,7),(17,8),(17,9),(17,20),(18,5),(18,6),(18,7),(18,8),(18,9),(18,20),(19,5),(19,6),(19,7),(19,8),(19,9),(19,20),(20,15),(20,16),(20,17),(20,18),(20,19)]) 22 rfl (by decide +kernel) (by decide +kernel) (by rfl) ?_
     refine th_n (AC.seq (AC.region ?_))
     refine AL.p (by exact mv1 rfl) rfl ?_
     refine AL.p (by exact g_not rfl) rfl ?_
     refine AL.p (by exact mv1 rfl) rfl ?_
     refine AL.caseGN rfl rfl (fun h3 => ?_) (fun h3 => ?_)
     ·refine AL.yes rfl rfl rfl ?_
      refine AL.p (by exact mv1 rfl) rfl ?_
      refine AL.yes rfl rfl rfl ?_
      refine AL.p (by exact g_not rfl) rfl ?_
      refine AL.yes rfl rfl rfl ?_
      refine AL.p (by exact mv1 rfl) rfl ?_
      refine AL.not rfl rfl rfl rfl rfl ?_
      refine AL.not rfl rfl rfl rfl rfl ?_
      refine AL.yes rfl rfl rfl ?_
      refine AL.p (by exact g_pickT (r := .d _) rfl rfl) rfl ?_
      refine AL.p (by exact g_pickT (r := .d _) rfl rfl) rfl ?_
      refine AL.nil (th_n ?_)
      refine AC.condT rfl ?_
      refine AC.seq (AC.region ?_)
      refine AL.p (by exact as1 rfl) rfl ?_
      refine AL.nil (th_n (AC.ret (ib_r (th_r (th_r (ib_r (th_r (bq_r ?_))))))))
      have hb : nameC k m[k] = false := nameC_no (by simp_all <;> omega)
      exact ret1 rfl (by rw [nameB_no hk1 (by rw [List.getD_eq_getElem?_getD, List.getElem?_eq_getElem hk1]; exact hb)])
     ·refine AL.not rfl rfl rfl rfl rfl ?_
      refine AL.not rfl rfl rfl rfl rfl ?_
      refine AL.not rfl rfl rfl rfl rfl ?_
      refine AL.notU rfl rfl rfl ?_
      refine AL.notU rfl rfl rfl ?_
      refine AL.not rfl rfl rfl rfl rfl ?_
      refine AL.p (by exact g_pickF (r := .d _) rfl rfl) rfl ?_
      refine AL.nil (th_n ?_)
      refine AC.condF rfl ?_
      refine AC.skip (ib_n (th_n (AC.region ?_)))
      refine AL.p (by exact mv1 rfl) rfl ?_
      refine AL.p (by exact g_arith rfl rfl rfl (by exact wrap_i64 (by omega))) rfl ?_
      refine AL.p (by exact as1 rfl) rfl ?_
      refine AL.nil (th_n ?_)
      have hb : nameC k m[k] = true := nameC_iff.2 (by simp_all <;> omega)
      exact ⟨k + 1, ⟨by omega, fun j hj hj2 => by rcases Nat.lt_succ_iff_lt_or_eq.1 hj2 with h | rfl; exact hall j hj h; exact hb⟩, by omega, Weak.ren _ [] hC rfl (by repeat (first | exact True.intro | refine And.intro ?_ ?_ | exact DLead.same)) (by repeat (exact True.intro)) rfl rfl rfl⟩
   ·refine DF.op (ids := []) 5 [0,1,2,3,4] 22 rfl rfl rfl (.no rfl rfl rfl rfl rfl rfl) rfl ?_
    refine DF.op (ids := []) 6 [0,1,2,3,4] 22 rfl rfl rfl (.no rfl rfl rfl rfl rfl rfl) rfl ?_
    refine DF.op (ids := []) 7 [0,1,2,3,4,5,6] 22 rfl rfl rfl (.no rfl rfl rfl rfl rfl rfl) rfl ?_
    refine DF.op (ids := []) 8 [0,1,2,3,4,5,6,7] 22 rfl rfl rfl (.no rfl rfl rfl rfl rfl rfl) rfl ?_
    refine DF.op 9 (List.range 9) 22 rfl rfl rfl (.free rfl (NOp.of (by exact g_pickF (r := .d _) rfl rfl))) rfl ?_
    refine DF.op 10 [] 22 rfl rfl rfl (.free rfl (NOp.of (by exact mv1 rfl))) rfl ?_
    refine DF.op 11 [] 22 rfl rfl rfl (.free rfl (NOp.of (by exact mv1 rfl))) rfl ?_
    refine DF.op 12 [10,11] 22 rfl rfl rfl (.free rfl (NOp.of (by exact g_index rfl rfl rfl (by rfl) (by assumption)))) rfl ?_
    refine DF.op 13 [10,11,12] 22 rfl rfl rfl (.free rfl (NOp.of (by exact g_cmp rfl rfl rfl))) rfl ?_
    refine DF.op 14 [0,1,2,3,4,10,11,12,13] 22 rfl rfl rfl (.free rfl (NOp.of (by exact mv1 rfl))) rfl ?_
    refine DF.caseD 14 rfl (fun h2 => ?_) (fun h2 => ?_)
    ·refine DF.op 15 [0,1,2,3,4,10,11,12,13,14] 22 rfl rfl rfl (.yes rfl rfl rfl rfl (NOp.of (by exact mv1 rfl))) rfl ?_
     refine DF.op 16 [0,1,2,3,4,10,11,12,13,14] 22 rfl rfl rfl (.yes rfl rfl rfl rfl (NOp.of (by exact mv1 rfl))) rfl ?_
     refine DF.op 17 [0,1,2,3,4,10,11,12,13,14,15,16] 22 rfl rfl rfl (.yes rfl rfl rfl rfl (NOp.of (by exact g_index rfl rfl rfl (by rfl) (by assumption)))) rfl ?_
     refine DF.op 18 [0,1,2,3,4,10,11,12,13,14,15,16,17] 22 rfl rfl rfl (.yes rfl rfl rfl rfl (NOp.of (by exact g_cmp rfl rfl rfl))) rfl ?_
     refine DF.op 19 [0,1,2,3,4,10,11,12,13,14,15,16,17,18] 22 rfl rfl rfl (.free rfl (NOp.of (by exact g_pickT (r := .d _) rfl rfl))) rfl ?_
     refine DF.op 20 (List.range 15) 22 rfl rfl rfl (.free rfl (NOp.of (by exact as1 rfl))) rfl ?_
     refine DF.op 21 (List.range 21) 22 rfl rfl rfl (.free rfl (NOp.of (by exact as1 rfl))) rfl ?_
     refine DF.fin (ps := [(0,1),(0,10),(0,11),(0,12),(0,13),(1,0),(1,10),(1,11),(1,12),(1,13),(2,10),(2,11),(2,12),(2,13),(3,10),(3,11),(3,12),(3,13),(4,10),(4,11),(4,12),(4,13),(5,6),(5,10),(5,11),(5,12),(5,13),(5,14),(5,15),(5,16),(5,17),(5,18),(5,19),(6,5),(6,10),(6,11),(6,12),(6,13),(6,14),(6,15),(6,16),(6,17),(6,18),(6,19),(7,10),(7,11),(7,12),(7,13),(7,14),(7,15),(7,16),(7,17),(7,18),(7,19),(8,10),(8,11),(8,12),(8,13),(8,14),(8,15),(8,16),(8,17),(8,18),(8,19),(9,10),(9,11),(9,12),(9,13),(9,14),(9,15),(9,16),(9,17),(9,18),(9,19),(10,0),(10,1),(10,2),(10,3),(10,4),(10,5),(10,6),(10,7),(10,8),(10,9),(10,11),(11,0),(11,1),(11,2),(11,3),(11,4),(11,5),(11,6),(11,7),(11,8),(11,9),(11,10),(12,0),(12,1),(12,2),(12,3),(12,4),(12,5),(12,6),(12,7),(12,8),(12,9),(13,0),(13,1),(13,2),(13,3),(13,4),(13,5),(13,6),(13,7),(13,8),(13,9),(14,5),(14,6),(14,7),(14,8),(14,9),(15,5),(15,6),(15,7),(15,8),(15,9),(15,16),(15,20),(16,5),(16,6),(16,7),(16,8),(16,9),(16,15),(16,20),(17,5),(17,6),(17,7),(17,8),(17,9),(17,20),(18,5),(18,6),(18,7),(18,8),(18,9),(18,20),(19,5),(19,6),(19,7),(19,8),(19,9),(19,20),(20,15),(20,16),(20,17),(20,18),(20,19)]) 22 rfl (by decide +kernel) (by decide +kernel) (by rfl) ?_
     refine th_n (AC.seq (AC.region ?_))
     refine AL.p (by exact mv1 rfl) rfl ?_
     refine AL.p (by exact g_not rfl) rfl ?_
     refine AL.p (by exact mv1 rfl) rfl ?_
     refine AL.yes rfl rfl rfl ?_
     refine AL.p (by exact mv1 rfl) rfl ?_
     refine AL.yes rfl rfl rfl ?_
     refine AL.p (by exact g_not rfl) rfl ?_
     refine AL.yes rfl rfl rfl ?_
     refine AL.p (by exact mv1 rfl) rfl ?_
     refine AL.caseGN rfl rfl (fun h3 => ?_) (fun h3 => ?_)
     ·refine AL.not rfl rfl rfl rfl rfl ?_
      refine AL.not rfl rfl rfl rfl rfl ?_
      refine AL.yes rfl rfl rfl ?_
      refine AL.p (by exact g_pickT (r := .d _) rfl rfl) rfl ?_
      refine AL.p (by exact g_pickT (r := .d _) rfl rfl) rfl ?_
      refine AL.nil (th_n ?_)
      refine AC.condT rfl ?_
      refine AC.seq (AC.region ?_)
      refine AL.p (by exact as1 rfl) rfl ?_
      refine AL.nil (th_n (AC.ret (ib_r (th_r (th_r (ib_r (th_r (bq_r ?_))))))))
      have hb : nameC k m[k] = false := nameC_no (by simp_all <;> omega)
      exact ret1 rfl (by rw [nameB_no hk1 (by rw [List.getD_eq_getElem?_getD, List.getElem?_eq_getElem hk1]; exact hb)])
     ·refine AL.yes rfl rfl rfl ?_
      refine AL.p (by exact mv1 rfl) rfl ?_
      refine AL.yes rfl rfl rfl ?_
      refine AL.p (by exact g_cmp rfl rfl rfl) rfl ?_
      refine AL.yes rfl rfl rfl ?_
      refine AL.p (by exact g_pickF (r := .d _) rfl rfl) rfl ?_
      refine AL.p (by exact g_pickT (r := .d _) rfl rfl) rfl ?_
      refine AL.nil (th_n ?_)
      refine AC.condD rfl (fun h4 => ?_) (fun h4 => ?_)
      ·refine AC.seq (AC.region ?_)
       refine AL.p (by exact as1 rfl) rfl ?_
       refine AL.nil (th_n (AC.ret (ib_r (th_r (th_r (ib_r (th_r (bq_r ?_))))))))
       have hb : nameC k m[k] = false := nameC_no (by simp_all <;> omega)
       exact ret1 rfl (by rw [nameB_no hk1 (by rw [List.getD_eq_getElem?_getD, List.getElem?_eq_getElem hk1]; exact hb)])
      ·refine AC.skip (ib_n (th_n (AC.region ?_)))
       refine AL.p (by exact mv1 rfl) rfl ?_
       refine AL.p (by exact g_arith rfl rfl rfl (by exact wrap_i64 (by omega))) rfl ?_
       refine AL.p (by exact as1 rfl) rfl ?_
       refine AL.nil (th_n ?_)
       have hb : nameC k m[k] = true := nameC_iff.2 (by simp_all <;> omega)
       exact ⟨k + 1, ⟨by omega, fun j hj hj2 => by rcases Nat.lt_succ_iff_lt_or_eq.1 hj2 with h | rfl; exact hall j hj h; exact hb⟩, by omega, Weak.ren _ [] hC rfl (by repeat (first | exact True.intro | refine And.intro ?_ ?_ | exact DLead.same)) (by repeat (exact True.intro)) rfl rfl rfl⟩
    ·refine DF.op (ids := []) 15 [0,1,2,3,4,10,11,12,13,14] 22 rfl rfl rfl (.no rfl rfl rfl rfl rfl rfl) rfl ?_
     refine DF.op (ids := []) 16 [0,1,2,3,4,10,11,12,13,14] 22 rfl rfl rfl (.no rfl rfl rfl rfl rfl rfl) rfl ?_
     refine DF.op (ids := []) 17 [0,1,2,3,4,10,11,12,13,14,15,16] 22 rfl rfl rfl (.no rfl rfl rfl rfl rfl rfl) rfl ?_
     refine DF.op (ids := []) 18 [0,1,2,3,4,10,11,12,13,14,15,16,17] 22 rfl rfl rfl (.no rfl rfl rfl rfl rfl rfl) rfl ?_
     refine DF.op 19 [0,1,2,3,4,10,11,12,13,14,15,16,17,18] 22 rfl rfl rfl (.free rfl (NOp.of (by exact g_pickF (r := .d _) rfl rfl))) rfl ?_
     refine DF.op 20 (List.range 15) 22 rfl rfl rfl (.free rfl (NOp.of (by exact as1 rfl))) rfl ?_
     refine DF.op 21 (List.range 21) 22 rfl rfl rfl (.free rfl (NOp.of (by exact as1 rfl))) rfl ?_
     refine DF.fin (ps := [(0,1),(0,10),(0,11),(0,12),(0,13),(1,0),(1,10),(1,11),(1,12),(1,13),(2,10),(2,11),(2,12),(2,13),(3,10),(3,11),(3,12),(3,13),(4,10),(4,11),(4,12),(4,13),(5,6),(5,10),(5,11),(5,12),(5,13),(5,14),(5,15),(5,16),(5,17),(5,18),(5,19),(6,5),(6,10),(6,11),(6,12),(6,13),(6,14),(6,15),(6,16),(6,17),(6,18),(6,19),(7,10),(7,11),(7,12),(7,13),(7,14),(7,15),(7,16),(7,17),(7,18),(7,19),(8,10),(8,11),(8,12),(8,13),(8,14),(8,15),(8,16),(8,17),(8,18),(8,19),(9,10),(9,11),(9,12),(9,13),(9,14),(9,15),(9,16),(9,17),(9,18),(9,19),(10,0),(10,1),(10,2),(10,3),(10,4),(10,5),(10,6),(10,7),(10,8),(10,9),(10,11),(11,0),(11,1),(11,2),(11,3),(11,4),(11,5),(11,6),(11,7),(11,8),(11,9),(11,10),(12,0),(12,1),(12,2),(12,3),(12,4),(12,5),(12,6),(12,7),(12,8),(12,9),(13,0),(13,1),(13,2),(13,3),(13,4),(13,5),(13,6),(13,7),(13,8),(13,9),(14,5),(14,6),(14,7),(14,8),(14,9),(15,5),(15,6),(15,7),(15,8),(15,9),(15,16),(15,20),(16,5),(16,6),(16,7),(16,8),(16,9),(16,15),(16,20),(17,5),(17,6),(17,7),(17,8),(17,9),(17,20),(18,5),(18,6),(18,7),(18,8),(18,9),(18,20),(19,5),(19,6),(19,7),(19,8),(19,9),(19,20),(20,15),(20,16),(20,17),(20,18),(20,19)]) 22 rfl (by decide +kernel) (by decide +kernel) (by rfl) ?_
     refine th_n (AC.seq (AC.region ?_))
     refine AL.p (by exact mv1 rfl) rfl ?_
     refine AL.p (by exact g_not rfl) rfl ?_
     refine AL.p (by exact mv1 rfl) rfl ?_
     refine AL.yes rfl rfl rfl ?_
     refine AL.p (by exact mv1 rfl) rfl ?_
     refine AL.yes rfl rfl rfl ?_
     refine AL.p (by exact g_not rfl) rfl ?_
     refine AL.yes rfl rfl rfl ?_
     refine AL.p (by exact mv1 rfl) rfl ?_
     refine AL.not rfl rfl rfl rfl rfl ?_
     refine AL.not rfl rfl rfl rfl rfl ?_
     refine AL.yes rfl rfl rfl ?_
     refine AL.p (by exact g_pickT (r := .d _) rfl rfl) rfl ?_
     refine AL.p (by exact g_pickT (r := .d _) rfl rfl) rfl ?_
     refine AL.nil (th_n ?_)
     refine AC.condT rfl ?_
     refine AC.seq (AC.region ?_)
     refine AL.p (by exact as1 rfl) rfl ?_
     refine AL.nil (th_n (AC.ret (ib_r (th_r (th_r (ib_r (th_r (bq_r ?_))))))))
     have hb : nameC k m[k] = false := nameC_no (by simp_all <;> omega)
     exact ret1 rfl (by rw [nameB_no hk1 (by rw [List.getD_eq_getElem?_getD, List.getElem?_eq_getElem hk1]; exact hb)])
  ·refine AC.exit (th_e (th_e (ib_y (th_n (AC.seq (AC.region ?_))))))
   refine AL.p (by exact mv1 rfl) rfl ?_
   refine AL.p (by exact g_len_str rfl rfl rfl) rfl ?_
   refine AL.q (by exact h_pure en_within rfl rfl (by repeat (first | exact rfl | exact DLead.same | refine ⟨_, _, rfl, ?_, ?_⟩)) (within_spec _ _ _) rfl) rfl ?_
   refine AL.p (by exact as1 rfl) rfl ?_
   refine AL.nil (th_n (AC.ret (bq_r ?_)))
   exact ret1 rfl (by rw [nameB_yes (fun j hj => by rw [List.getD_eq_getElem?_getD, List.getElem?_eq_getElem hj]; exact hall j hj (by omega)), hsz]; rfl)
theorem en_isName : Enters Tryz.prog 199 := enters_of Tryz.func199 rfl rfl
set_option maxHeartbeats 1000000 in
theorem indexSig_spec (l : List Sig) (hl : l.length ≤ 2000000) (g : FuncId) (ds : List DV) (hen : Enters Tryz.prog g) (p : Sig → Bool) (hp : ∀ t, t ∈ l → ASpec Tryz.prog g (sigA t :: ds.map .d) [] (Pure1 (aT (p t)))) : ASpec Tryz.prog 243 [.d (vSigs l), .clo g (ds.map .d)] [] (Pure1 (aI (findI p l))) := by
 refine ASpec.of Tryz.func243 rfl rfl fun C hC => ?_
 refine AC.seq (AC.region ?_)
 refine AL.p (by exact as1 rfl) rfl ?_
 refine AL.nil (th_n (AC.seq (AC.seq (AC.region ?_))))
 refine AL.p (by exact mv1 rfl) rfl ?_
 refine AL.p (by exact g_len_view rfl rfl (by exact List.length_map _)) rfl ?_
 refine AL.p (by exact mv1 rfl) rfl ?_
 refine AL.nil (th_n (AC.block ?_))
 refine AC.loop (ι := Nat) (fun k => ⟨19, 0, [(0, .d (vSigs l)), (1, .clo g (ds.map .d)), (6, .d (vSigs l)), (7, aI l.length), (8, aI k)], []⟩) (fun k => k ≤ l.length ∧ ∀ j (hj : j < l.length), j < k → p l[j] = false) (fun k => l.length - k) (0) ?_ (⟨Nat.zero_le _, fun j _ hj => by omega⟩) ?_
 ·refine Weak.ren _ [] hC rfl ⟨.same, ⟨_, rfl, leadsL_data _ ds⟩, ?_⟩ trivial rfl rfl rfl; repeat (first | exact True.intro | refine And.intro ?_ ?_ | exact DLead.same)
 ·intro k ⟨hk, hall⟩
  refine AC.seq (AC.region ?_)
  refine AL.p (by exact g_cmp rfl rfl rfl) rfl ?_
  refine AL.nil (th_n (AC.seq ?_))
  refine AC.condD rfl (fun h0 => ?_) (fun h0 => ?_)
  ·refine AC.skip (th_n (AC.seq (AC.block (AC.seq ?_))))
   have hk1 : k < l.length := by omega
   have hget := sigsL_get hk1
   refine AC.region ?_
   refine AL.p (by exact mv1 rfl) rfl ?_
   refine AL.p (by exact as1 rfl) rfl ?_
   refine AL.nil (th_n (AC.seq (AC.region ?_)))
   refine AL.p (by exact mv6 rfl) rfl ?_
   refine AL.p (by exact mv1 rfl) rfl ?_
   refine AL.p (by exact mv1 rfl) rfl ?_
   refine AL.p (by exact g_ia_view rfl rfl rfl rfl rfl (by rfl) (by assumption)) rfl ?_
   refine AL.p (by exact g_load_refN rfl rfl rfl rfl) rfl ?_
   refine AL.q (by exact h_pure hen rfl rfl (by exact ⟨_, _, rfl, ⟨_, rfl, _, _, rfl, .same, _, _, rfl, .same, rfl⟩, leadsL_data _ ds⟩) (hp l[k] (List.getElem_mem hk1)) rfl) rfl ?_
   refine AL.nil (th_n ?_)
   refine AC.condB rfl (fun h1 => ?_) (fun h1 => ?_)
   ·refine AC.seq (AC.region ?_)
    refine AL.p (by exact mv1 rfl) rfl ?_
    refine AL.p (by exact as1 rfl) rfl ?_
    refine AL.nil (th_n (AC.ret (ib_r (th_r (th_r (ib_r (th_r (bq_r ?_))))))))
    exact ret1 rfl (by rw [findI_at hk1 h1 (fun j hj => hall j (by omega) hj)])
   ·refine AC.skip (ib_n (th_n (AC.region ?_)))
    refine AL.p (by exact g_arith rfl rfl rfl (by exact wrap_i64 (by omega))) rfl ?_
    refine AL.p (by exact mv1 rfl) rfl ?_
    refine AL.nil (th_n ?_)
    exact ⟨k + 1, ⟨by omega, fun j hj hj2 => by rcases Nat.lt_succ_iff_lt_or_eq.1 hj2 with h | rfl; exact hall j hj h; exact h1⟩, by omega, Weak.ren _ [] hC rfl ⟨.same, ⟨_, rfl, leadsL_data _ ds⟩, by repeat (first | exact True.intro | refine And.intro ?_ ?_ | exact DLead.same)⟩ trivial rfl rfl rfl⟩
  ·refine AC.exit (th_e (th_e (ib_y (th_n (AC.seq (AC.region ?_))))))
   refine AL.p (by exact as1 rfl) rfl ?_
   refine AL.nil (th_n (AC.ret (bq_r ?_)))
   exact ret1 rfl (by rw [findI_none (fun j hj => hall j hj (by omega))])
theorem en_indexSig : Enters Tryz.prog 243 := enters_of Tryz.func243 rfl rfl
set_option maxHeartbeats 1000000 in
theorem containsSig_spec (l : List Sig) (hl : l.length ≤ 2000000) (g : FuncId) (ds : List DV) (hen : Enters Tryz.prog g) (p : Sig → Bool) (hp : ∀ t, t ∈ l → ASpec Tryz.prog g (sigA t :: ds.map .d) [] (Pure1 (aT (p t)))) : ASpec Tryz.prog 200 [.d (vSigs l), .clo g (ds.map .d)] [] (Pure1 (aT (l.any p))) := by
 refine ASpec.of Tryz.func200 rfl rfl fun C hC => ?_
 refine AC.seq (AC.region ?_)
 refine AL.p (by exact as1 rfl) rfl ?_
 refine AL.nil (th_n (AC.seq (AC.region ?_)))
 refine AL.p (by exact mv1 rfl) rfl ?_
 refine AL.p (by exact mv6 rfl) rfl ?_
 refine AL.q (by exact h_pure en_indexSig rfl rfl (by exact ⟨_, _, rfl, .same, _, _, rfl, ⟨_, rfl, leadsL_data _ ds⟩, rfl⟩) (indexSig_spec l hl g ds hen p hp) rfl) rfl ?_
 refine AL.p (by exact g_cmp rfl rfl rfl) rfl ?_
 refine AL.p (by exact as1 rfl) rfl ?_
 refine AL.nil (th_n (AC.ret (bq_r ?_)))
 exact ret1 rfl (by rw [findI_any])
theorem en_containsSig : Enters Tryz.prog 200 := enters_of Tryz.func200 rfl rfl
theorem areSignals1_spec (x s : Sig) : ASpec Tryz.prog 201 [sigA x, .d (.ref (sigD s))] [] (Pure1 (aT (decide (x.name = s.name)))) := by
 refine ASpec.of Tryz.func201 rfl rfl fun C hC => ?_
 refine AC.seq (AC.region ?_)
 refine AL.q (by exact h_boxF rfl rfl) rfl ?_
 refine AL.p (by exact as1 rfl) rfl ?_
 refine AL.nil (th_n (AC.seq (AC.region ?_)))
 refine AL.p (by exact g_fa_ref rfl rfl rfl rfl rfl rfl) rfl ?_
 refine AL.p (by exact g_load_ref rfl rfl rfl) rfl ?_
 refine AL.p (by exact g_fa_ref rfl rfl rfl rfl rfl rfl) rfl ?_
 refine AL.p (by exact g_load_ref rfl rfl rfl) rfl ?_
 refine AL.p (by exact g_scmp rfl rfl rfl) rfl ?_
 refine AL.p (by exact as1 rfl) rfl ?_
 refine AL.nil (th_n (AC.ret (bq_r ?_)))
 exact ret1 rfl (by simp only [bstr_iff])
theorem en_areSignals1 : Enters Tryz.prog 201 := enters_of Tryz.func201 rfl rfl
set_option maxHeartbeats 1000000 in
theorem areSignals_spec (l : List Sig) (hl : l.length ≤ 1048576) (hn : ∀ t, t ∈ l → t.name.length ≤ 1048576) : ASpec Tryz.prog 138 [.d (vSigs l)] [] (Pure1 (aT (sigsB l))) := by
 refine ASpec.of Tryz.func138 rfl rfl fun C hC => ?_
 refine AC.seq (AC.region ?_)
 refine AL.p (by exact as1 rfl) rfl ?_
 refine AL.nil (th_n (AC.seq (AC.seq (AC.region ?_))))
 refine AL.p (by exact mv1 rfl) rfl ?_
 refine AL.p (by exact g_len_view rfl rfl (by exact List.length_map _)) rfl ?_
 refine AL.p (by exact mv1 rfl) rfl ?_
 refine AL.nil (th_n (AC.block ?_))
 refine AC.loop (ι := Nat) (fun k => ⟨33, 0, [(0, .d (vSigs l)), (5, .d (vSigs l)), (6, aI l.length), (7, aI k)], []⟩) (fun k => k ≤ l.length ∧ ∀ j (hj : j < l.length), j < k → sigK l j = true) (fun k => l.length - k) (0) ?_ (⟨Nat.zero_le _, fun j _ hj => by omega⟩) ?_
 ·refine Weak.ren _ [] hC rfl ?_ ?_ rfl rfl rfl <;> repeat (first | exact True.intro | refine And.intro ?_ ?_ | exact DLead.same)
 ·intro k ⟨hk, hall⟩
  refine AC.seq (AC.region ?_)
  refine AL.p (by exact g_cmp rfl rfl rfl) rfl ?_
  refine AL.nil (th_n (AC.seq ?_))
  refine AC.condD rfl (fun h0 => ?_) (fun h0 => ?_)
  ·refine AC.skip (th_n (AC.seq (AC.block (AC.seq ?_))))
   have hk1 : k < l.length := by omega
   have hget := sigsL_get hk1
   have hnk := hn _ (List.getElem_mem hk1)
   refine AC.region ?_
   refine AL.p (by exact mv1 rfl) rfl ?_
   refine AL.p (by exact g_ia_view rfl rfl rfl rfl rfl (by rfl) (by assumption)) rfl ?_
   refine AL.p (by exact g_load_refN rfl rfl rfl rfl) rfl ?_
   refine AL.q (by exact h_alloc rfl) rfl ?_
   refine AL.p (by exact as1 rfl) rfl ?_
   refine AL.q (by exact h_store rfl rfl rfl rfl rfl rfl) rfl ?_
   refine AL.nil (th_n (AC.seq ?_))
   refine AC.weak (Weak.freezeRef (ds := sigD l[k]) 4 rfl rfl) ?_
   have hkl : k ≤ (sigsL l).length := by rw [sigsL_len]; exact hk
   have htk : ((sigsL l).take k).drop 0 = sigsL (l.take k) := by simp [List.map_take]
   have hN := isName_spec l[k].name (by omega)
   have hW := within_spec l[k].kind 1 3
   have hS := containsSig_spec (l.take k) (by rw [List.length_take]; omega) 201 [.ref (sigD l[k])] en_areSignals1 (fun y => decide (y.name = l[k].name)) (fun t _ => areSignals1_spec t l[k])
   have hK : sigK l k = (nameB l[k].name && ((decide ((1 : Int) ≤ l[k].kind) && decide (l[k].kind ≤ 3)) && !(l.take k).any (fun y => decide (y.name = l[k].name)))) := by rw [sigK, sAt_nat hk1]; rfl
   obtain ⟨b1, hb1⟩ : ∃ b, b = nameB l[k].name := ⟨_, rfl⟩
   obtain ⟨b2, hb2⟩ : ∃ b, b = (decide ((1 : Int) ≤ l[k].kind) && decide (l[k].kind ≤ 3)) := ⟨_, rfl⟩
   obtain ⟨b3, hb3⟩ : ∃ b, b = (l.take k).any (fun y => decide (y.name = l[k].name)) := ⟨_, rfl⟩
   rw [← hb1] at hN hK
   rw [← hb2] at hW hK
   rw [← hb3] at hS hK
   clear hb1 hb2 hb3
   refine AC.region ?_
   refine AL.p (by exact g_fa_ref rfl rfl rfl rfl rfl rfl) rfl ?_
   refine AL.p (by exact g_load_ref rfl rfl rfl) rfl ?_
   refine AL.q (by exact h_pure en_isName rfl rfl (by repeat (first | exact rfl | exact DLead.same | refine ⟨_, _, rfl, ?_, ?_⟩)) hN rfl) rfl ?_
   refine AL.p (by exact g_not rfl) rfl ?_
   refine AL.p (by exact mv1 rfl) rfl ?_
   refine AL.caseGB rfl rfl (fun h1 => ?_) (fun h1 => ?_)
   ·refine AL.not rfl rfl rfl rfl rfl ?_
    refine AL.not rfl rfl rfl rfl rfl ?_
    refine AL.not rfl rfl rfl rfl rfl ?_
    refine AL.not rfl rfl rfl rfl rfl ?_
    refine AL.p (by exact g_pickT (r := .d _) rfl rfl) rfl ?_
    refine AL.p (by exact mv1 rfl) rfl ?_
    refine AL.not rfl rfl rfl rfl rfl ?_
    refine AL.not rfl rfl rfl rfl rfl ?_
    refine AL.not rfl rfl rfl rfl rfl ?_
    refine AL.not rfl rfl rfl rfl rfl ?_
    refine AL.not rfl rfl rfl rfl rfl ?_
    refine AL.p (by exact g_pickT (r := .d _) rfl rfl) rfl ?_
    refine AL.nil (th_n ?_)
    refine AC.condT rfl ?_
    refine AC.seq (AC.region ?_)
    refine AL.p (by exact as1 rfl) rfl ?_
    refine AL.nil (th_n (AC.ret (ib_r (th_r (th_r (ib_r (th_r (bq_r ?_))))))))
    exact ret1 rfl (by rw [sigsB_no hk1 (by rw [hK]; simp_all)])
   ·refine AL.yes rfl rfl rfl ?_
    refine AL.p (by exact g_fa_ref rfl rfl rfl rfl rfl rfl) rfl ?_
    refine AL.yes rfl rfl rfl ?_
    refine AL.p (by exact g_load_ref rfl rfl rfl) rfl ?_
    refine AL.yes rfl rfl rfl ?_
    refine AL.q (by exact h_pure en_within rfl rfl (by repeat (first | exact rfl | exact DLead.same | refine ⟨_, _, rfl, ?_, ?_⟩)) hW rfl) rfl ?_
    refine AL.yes rfl rfl rfl ?_
    refine AL.p (by exact g_not rfl) rfl ?_
    refine AL.p (by exact g_pickF (r := .d _) rfl rfl) rfl ?_
    refine AL.p (by exact mv1 rfl) rfl ?_
    refine AL.caseGB rfl rfl (fun h2 => ?_) (fun h2 => ?_)
    ·refine AL.not rfl rfl rfl rfl rfl ?_
     refine AL.not rfl rfl rfl rfl rfl ?_
     refine AL.not rfl rfl rfl rfl rfl ?_
     refine AL.not rfl rfl rfl rfl rfl ?_
     refine AL.not rfl rfl rfl rfl rfl ?_
     refine AL.p (by exact g_pickT (r := .d _) rfl rfl) rfl ?_
     refine AL.nil (th_n ?_)
     refine AC.condT rfl ?_
     refine AC.seq (AC.region ?_)
     refine AL.p (by exact as1 rfl) rfl ?_
     refine AL.nil (th_n (AC.ret (ib_r (th_r (th_r (ib_r (th_r (bq_r ?_))))))))
     exact ret1 rfl (by rw [sigsB_no hk1 (by rw [hK]; simp_all)])
    ·refine AL.yes rfl rfl rfl ?_
     refine AL.p (by exact mv1 rfl) rfl ?_
     refine AL.yes rfl rfl rfl ?_
     refine AL.p (by exact mv1 rfl) rfl ?_
     refine AL.yes rfl rfl rfl ?_
     refine AL.p (by exact g_slice_view (r := sigsL (l.take k)) (l := 0) (h := k) rfl rfl rfl rfl .none (.some rfl rfl) (Nat.zero_le _) hkl htk) rfl ?_
     refine AL.yes rfl rfl rfl ?_
     refine AL.p (by exact g_fn rfl) rfl ?_
     refine AL.yes rfl rfl rfl ?_
     refine AL.q (by exact h_pure en_containsSig rfl rfl (by exact ⟨_, _, rfl, .same, _, _, rfl, ⟨_, rfl, leadsL_data _ _⟩, rfl⟩) hS rfl) rfl ?_
     refine AL.p (by exact g_pickF (r := .d _) rfl rfl) rfl ?_
     refine AL.nil (th_n ?_)
     refine AC.condB rfl (fun h3 => ?_) (fun h3 => ?_)
     ·refine AC.seq (AC.region ?_)
      refine AL.p (by exact as1 rfl) rfl ?_
      refine AL.nil (th_n (AC.ret (ib_r (th_r (th_r (ib_r (th_r (bq_r ?_))))))))
      exact ret1 rfl (by rw [sigsB_no hk1 (by rw [hK]; simp_all)])
     ·refine AC.skip (ib_n (th_n (AC.region ?_)))
      refine AL.p (by exact g_arith rfl rfl rfl (by exact wrap_i64 (by omega))) rfl ?_
      refine AL.p (by exact mv1 rfl) rfl ?_
      refine AL.nil (th_n ?_)
      exact ⟨k + 1, ⟨by omega, fun j hj hj2 => by rcases Nat.lt_succ_iff_lt_or_eq.1 hj2 with h | rfl; exact hall j hj h; rw [hK]; simp_all⟩, by omega, Weak.ren _ [] hC rfl (by repeat (first | exact True.intro | refine And.intro ?_ ?_ | exact DLead.same)) (by repeat (exact True.intro)) rfl rfl rfl⟩
  ·refine AC.exit (th_e (th_e (ib_y (th_n (AC.seq (AC.region ?_))))))
   refine AL.p (by exact mv1 rfl) rfl ?_
   refine AL.p (by exact g_len_view rfl rfl (by exact List.length_map _)) rfl ?_
   refine AL.q (by exact h_pure en_within rfl rfl (by repeat (first | exact rfl | exact DLead.same | refine ⟨_, _, rfl, ?_, ?_⟩)) (within_spec _ _ _) rfl) rfl ?_
   refine AL.p (by exact as1 rfl) rfl ?_
   refine AL.nil (th_n (AC.ret (bq_r ?_)))
   exact ret1 rfl (by rw [sigsB_yes (fun j hj => hall j hj (by omega))]; rfl)
theorem en_areSignals : Enters Tryz.prog 138 := enters_of Tryz.func138 rfl rfl
theorem any_take_step {α : Type} {p : α → Bool} {l : List α} {k : Nat} (hk : k < l.length) (h : ∀ j (hj : j < l.length), j < k → p l[j] = false) : (l.take k).any p = false := by
 rw [List.any_eq_false]
 intro x hx
 obtain ⟨j, hj, rfl⟩ := List.getElem_of_mem hx
 rw [List.length_take] at hj
 rw [List.getElem_take, h j (by omega) (by omega)]
 simp
theorem any_take_at {α : Type} {p : α → Bool} {l : List α} {k j : Nat} (hk : k ≤ l.length) (hj : j < k) (h : p (l[j]'(by omega)) = true) : (l.take k).any p = true := by
 rw [List.any_eq_true]
 exact ⟨l[j]'(by omega), List.mem_take_iff_getElem.2 ⟨j, by omega, rfl⟩, h⟩
set_option maxHeartbeats 1000000 in
theorem l2Signals_spec (l : List Sig) (hl : l.length ≤ 1048576) (hn : ∀ t, t ∈ l → t.name.length ≤ 1048576) : ASpec Tryz.prog 183 [.d (vSigs l)] [] (Pure1 (aT (sigsB l))) := by
 refine ASpec.of Tryz.func183 rfl rfl fun C hC => ?_
 refine AC.seq (AC.region ?_)
 refine AL.p (by exact as1 rfl) rfl ?_
 refine AL.nil (th_n (AC.seq (AC.seq (AC.region ?_))))
 refine AL.p (by exact mv1 rfl) rfl ?_
 refine AL.p (by exact g_len_view rfl rfl (by exact List.length_map _)) rfl ?_
 refine AL.p (by exact mv1 rfl) rfl ?_
 refine AL.nil (th_n (AC.block ?_))
 refine AC.loop (ι := Nat) (fun k => ⟨42, 0, [(0, .d (vSigs l)), (7, .d (vSigs l)), (8, aI l.length), (9, aI k)], []⟩) (fun k => k ≤ l.length ∧ ∀ j (hj : j < l.length), j < k → sigK l j = true) (fun k => l.length - k) (0) ?_ (⟨Nat.zero_le _, fun j _ hj => by omega⟩) ?_
 ·refine Weak.ren _ [] hC rfl ?_ ?_ rfl rfl rfl <;> repeat (first | exact True.intro | refine And.intro ?_ ?_ | exact DLead.same)
 ·intro k ⟨hk, hall⟩
  refine AC.seq (AC.region ?_)
  refine AL.p (by exact g_cmp rfl rfl rfl) rfl ?_
  refine AL.nil (th_n (AC.seq ?_))
  refine AC.condD rfl (fun h0 => ?_) (fun h0 => ?_)
  ·refine AC.skip (th_n (AC.seq (AC.block (AC.seq ?_))))
   have hk1 : k < l.length := by omega
   have hget := sigsL_get hk1
   have hnk := hn _ (List.getElem_mem hk1)
   refine AC.region ?_
   refine AL.p (by exact mv1 rfl) rfl ?_
   refine AL.p (by exact g_ia_view rfl rfl rfl rfl rfl (by rfl) (by assumption)) rfl ?_
   refine AL.p (by exact g_load_refN rfl rfl rfl rfl) rfl ?_
   refine AL.q (by exact h_alloc rfl) rfl ?_
   refine AL.p (by exact as1 rfl) rfl ?_
   refine AL.q (by exact h_store rfl rfl rfl rfl rfl rfl) rfl ?_
   refine AL.nil (th_n (AC.seq (AC.seq ?_)))
   refine AC.weak (Weak.freezeRef (ds := sigD l[k]) 4 rfl rfl) ?_
   have hkl : k ≤ (sigsL l).length := by rw [sigsL_len]; exact hk
   have htk : ((sigsL l).take k).drop 0 = sigsL (l.take k) := by simp [List.map_take]
   have hN := l2Name_spec l[k].name (by omega)
   have hW := l1In_spec l[k].kind 1 3
   have hK : sigK l k = (nameB l[k].name && ((decide ((1 : Int) ≤ l[k].kind) && decide (l[k].kind ≤ 3)) && !(l.take k).any (fun y => decide (y.name = l[k].name)))) := by rw [sigK, sAt_nat hk1]; rfl
   obtain ⟨b1, hb1⟩ : ∃ b, b = nameB l[k].name := ⟨_, rfl⟩
   obtain ⟨b2, hb2⟩ : ∃ b, b = (decide ((1 : Int) ≤ l[k].kind) && decide (l[k].kind ≤ 3)) := ⟨_, rfl⟩
   rw [← hb1] at hN hK
   rw [← hb2] at hW hK
   clear hb1 hb2
   refine AC.region ?_
   refine AL.p (by exact g_fa_ref rfl rfl rfl rfl rfl rfl) rfl ?_
   refine AL.p (by exact g_load_ref rfl rfl rfl) rfl ?_
   refine AL.q (by exact h_pure en_l2Name rfl rfl (by repeat (first | exact rfl | exact DLead.same | refine ⟨_, _, rfl, ?_, ?_⟩)) hN rfl) rfl ?_
   refine AL.p (by exact g_not rfl) rfl ?_
   refine AL.p (by exact mv1 rfl) rfl ?_
   refine AL.caseGB rfl rfl (fun h1 => ?_) (fun h1 => ?_)
   ·refine AL.not rfl rfl rfl rfl rfl ?_
    refine AL.not rfl rfl rfl rfl rfl ?_
    refine AL.not rfl rfl rfl rfl rfl ?_
    refine AL.not rfl rfl rfl rfl rfl ?_
    refine AL.p (by exact g_pickT (r := .d _) rfl rfl) rfl ?_
    refine AL.nil (th_n ?_)
    refine AC.condT rfl ?_
    refine AC.seq (AC.region ?_)
    refine AL.p (by exact as1 rfl) rfl ?_
    refine AL.nil (th_n (AC.ret (th_r (ib_r (th_r (th_r (ib_r (th_r (bq_r ?_)))))))))
    exact ret1 rfl (by rw [sigsB_no hk1 (by rw [hK]; simp_all)])
   ·refine AL.yes rfl rfl rfl ?_
    refine AL.p (by exact g_fa_ref rfl rfl rfl rfl rfl rfl) rfl ?_
    refine AL.yes rfl rfl rfl ?_
    refine AL.p (by exact g_load_ref rfl rfl rfl) rfl ?_
    refine AL.yes rfl rfl rfl ?_
    refine AL.q (by exact h_pure en_l1In rfl rfl (by repeat (first | exact rfl | exact DLead.same | refine ⟨_, _, rfl, ?_, ?_⟩)) hW rfl) rfl ?_
    refine AL.yes rfl rfl rfl ?_
    refine AL.p (by exact g_not rfl) rfl ?_
    refine AL.p (by exact g_pickF (r := .d _) rfl rfl) rfl ?_
    refine AL.nil (th_n ?_)
    refine AC.condB rfl (fun h2 => ?_) (fun h2 => ?_)
    ·refine AC.seq (AC.region ?_)
     refine AL.p (by exact as1 rfl) rfl ?_
     refine AL.nil (th_n (AC.ret (th_r (ib_r (th_r (th_r (ib_r (th_r (bq_r ?_)))))))))
     exact ret1 rfl (by rw [sigsB_no hk1 (by rw [hK]; simp_all)])
    ·refine AC.skip (th_n (AC.seq (AC.region ?_)))
     refine AL.p (by exact mv1 rfl) rfl ?_
     refine AL.p (by exact mv1 rfl) rfl ?_
     refine AL.p (by exact g_slice_view (r := sigsL (l.take k)) (l := 0) (h := k) rfl rfl rfl rfl .none (.some rfl rfl) (Nat.zero_le _) hkl htk) rfl ?_
     refine AL.p (by exact g_len_view (els := sigsL (l.take k)) (k := k) rfl rfl (by rw [sigsL_len, List.length_take]; omega)) rfl ?_
     refine AL.p (by exact mv1 rfl) rfl ?_
     refine AL.nil (th_n (AC.block ?_))
     refine AC.loop (ι := Nat) (fun q => ⟨42, 0, [(0, .d (vSigs l)), (7, .d (vSigs l)), (8, aI l.length), (9, aI k), (4, .d (.ref (sigD l[k]))), (26, .d (vSigs (l.take k))), (27, aI k), (28, aI q)], []⟩) (fun q => q ≤ k ∧ ∀ j (hj : j < l.length), j < q → (fun y : Sig => decide (y.name = l[k].name)) l[j] = false) (fun q => k - q) (0) ?_ (⟨Nat.zero_le _, fun j _ hj => by omega⟩) ?_
     ·refine Weak.ren _ [] hC rfl ?_ ?_ rfl rfl rfl <;> repeat (first | exact True.intro | refine And.intro ?_ ?_ | exact DLead.same)
     ·intro q ⟨hq, hno⟩
      refine AC.seq (AC.region ?_)
      refine AL.p (by exact g_cmp rfl rfl rfl) rfl ?_
      refine AL.nil (th_n (AC.seq ?_))
      refine AC.condD rfl (fun h3 => ?_) (fun h3 => ?_)
      ·refine AC.skip (th_n (AC.seq (AC.block (AC.seq ?_))))
       have hq1 : q < k := by omega
       have hget2 : (sigsL (l.take k))[q]? = some (sigD (l[q]'(by omega))) := by rw [sigsL_get (by rw [List.length_take]; omega)]; simp
       refine AC.region ?_
       refine AL.p (by exact g_ia_view rfl rfl rfl rfl rfl (by rfl) (by assumption)) rfl ?_
       refine AL.p (by exact g_load_refN rfl rfl rfl rfl) rfl ?_
       refine AL.q (by exact h_alloc rfl) rfl ?_
       refine AL.q (by exact h_store rfl rfl rfl rfl rfl rfl) rfl ?_
       refine AL.nil (th_n (AC.seq (AC.region ?_)))
       refine AL.p (by exact g_fa_ref rfl rfl rfl rfl rfl rfl) rfl ?_
       refine AL.p (by exact g_load_ref rfl rfl rfl) rfl ?_
       refine AL.p (by exact g_fa_ptr rfl rfl rfl rfl rfl) rfl ?_
       refine AL.p (by exact g_load_ptr rfl rfl rfl rfl rfl) rfl ?_
       refine AL.p (by exact g_scmp rfl rfl rfl) rfl ?_
       refine AL.nil (th_n ?_)
       refine AC.condD rfl (fun h4 => ?_) (fun h4 => ?_)
       ·refine AC.seq (AC.region ?_)
        refine AL.p (by exact as1 rfl) rfl ?_
        refine AL.nil (th_n (AC.ret (ib_r (th_r (th_r (ib_r (ib_r (th_r (th_r (ib_r (th_r (bq_r ?_))))))))))))
        have hne : (l.take k).any (fun y => decide (y.name = l[k].name)) = true := any_take_at (by omega) hq1 (by have := bstr_inj h4; simp [this])
        exact ret1 rfl (by rw [sigsB_no hk1 (by rw [hK, hne]; simp)])
       ·refine AC.skip (ib_n (th_n (AC.region ?_)))
        refine AL.p (by exact g_arith rfl rfl rfl (by exact wrap_i64 (by omega))) rfl ?_
        refine AL.p (by exact mv1 rfl) rfl ?_
        refine AL.nil (th_n ?_)
        exact ⟨q + 1, ⟨by omega, fun j hj hj2 => by rcases Nat.lt_succ_iff_lt_or_eq.1 hj2 with h | rfl; exact hno j hj h; exact decide_eq_false (fun e => h4 (by rw [e]))⟩, by omega, Weak.ren _ [] hC rfl (by repeat (first | exact True.intro | refine And.intro ?_ ?_ | exact DLead.same)) (by repeat (exact True.intro)) rfl rfl rfl⟩
      ·refine AC.exit (th_e (th_e (ib_y (ib_n (th_n (AC.region ?_))))))
       refine AL.p (by exact g_arith rfl rfl rfl (by exact wrap_i64 (by omega))) rfl ?_
       refine AL.p (by exact mv1 rfl) rfl ?_
       refine AL.nil (th_n ?_)
       exact ⟨k + 1, ⟨by omega, fun j hj hj2 => by rcases Nat.lt_succ_iff_lt_or_eq.1 hj2 with h | rfl; exact hall j hj h; rw [hK, any_take_step hk1 (fun j hj hjk => hno j hj (by omega))]; simp_all⟩, by omega, Weak.ren _ [] hC rfl (by repeat (first | exact True.intro | refine And.intro ?_ ?_ | exact DLead.same)) (by repeat (exact True.intro)) rfl rfl rfl⟩
  ·refine AC.exit (th_e (th_e (ib_y (th_n (AC.seq (AC.region ?_))))))
   refine AL.p (by exact mv1 rfl) rfl ?_
   refine AL.p (by exact g_len_view rfl rfl (by exact List.length_map _)) rfl ?_
   refine AL.q (by exact h_pure en_l1In rfl rfl (by repeat (first | exact rfl | exact DLead.same | refine ⟨_, _, rfl, ?_, ?_⟩)) (l1In_spec _ _ _) rfl) rfl ?_
   refine AL.p (by exact as1 rfl) rfl ?_
   refine AL.nil (th_n (AC.ret (bq_r ?_)))
   exact ret1 rfl (by rw [sigsB_yes (fun j hj => hall j hj (by omega))]; rfl)
theorem en_l2Signals : Enters Tryz.prog 183 := enters_of Tryz.func183 rfl rfl
def intBool (P : Program) (t : Nat) : Bool :=
 match P.underlying t with
 | some (.struct fs) =>
  !P.stoodInHeld t && !P.eqGuardType P.depth t &&
   match fs.toList with
   | [f, g] => f.name != "_" && g.name != "_" && f.offset == 0 && g.offset == 1 &&
    (match P.underlying f.type with | some (.int _) => true | _ => false) && (match P.underlying g.type with | some .bool => true | _ => false) && P.plainKey f.type && P.plainKey g.type
   | _ => false
 | _ => false
section
variable {P : Program} [PT P]
variable {s : ASt} {dst : Option Nat} {ty : Nat} {pos : String} {af : Array Edge} {gd : Option (Nat × Bool)} {x y : Operand} {xt yt : Nat}
theorem equalIB {t : Nat} {a c : Int} {b d : Bool} (h : intBool P t = true) (w : World) : (Op.equalIn 10000 t (.agg #[.int .i64 a, .bool b]) (.agg #[.int .i64 c, .bool d])).run P w = .ok (decide (a = c ∧ b = d)) w ∧ P.eqGuardType P.depth t = false := by
 unfold intBool at h
 split at h
 ·rename_i fs hu
  simp only [Bool.and_eq_true, Bool.not_eq_true'] at h
  obtain ⟨⟨h1, h2⟩, h3⟩ := h
  refine ⟨?_, h2⟩
  have hF : P.fieldsOf t = fs := by unfold Program.fieldsOf; rw [hu]
  rw [run_equalIn_agg w 9999 t _ _ (by rw [hF]; exact hu) h1, hF]
  split at h3
  ·rename_i f g he
   rw [he]
   simp only [Bool.and_eq_true, bne_iff_ne, ne_eq, beq_iff_eq] at h3
   obtain ⟨⟨⟨⟨⟨⟨⟨n1, n2⟩, o1⟩, o2⟩, u1⟩, u2⟩, p1⟩, p2⟩ := h3
   split at u1
   ·rename_i k1 hu1
    split at u2
    ·rename_i hu2
     simp only [Op.eqFields, ne_eq, n1, n2, not_false_eq_true, if_true, o1, o2, Sem.run_bind]
     rw [run_part_plain (w := w) p1 (v := .int .i64 a) rfl]
     simp only [Result.andThen_ok, Sem.run_bind]
     rw [run_part_plain (w := w) p1 (v := .int .i64 c) rfl]
     simp only [Result.andThen_ok, Sem.run_bind]
     rw [run_equalIn_int w _ _ _ _ _ _ hu1]
     simp only [Result.andThen_ok, Sem.run_ite]
     by_cases e1 : a = c
     ·subst e1
      rw [if_neg (by simp)]
      simp only [Sem.run_bind]
      rw [run_part_plain (w := w) p2 (v := .bool b) rfl]
      simp only [Result.andThen_ok, Sem.run_bind]
      rw [run_part_plain (w := w) p2 (v := .bool d) rfl]
      simp only [Result.andThen_ok, Sem.run_bind]
      rw [run_equalIn_bool' w _ _ _ _ hu2]
      simp only [Result.andThen_ok, Sem.run_ite, Sem.run_pure]
      by_cases e2 : b = d
      ·subst e2; simp
      ·simp [e2]
     ·rw [if_pos (by simp [e1])]
      simp [e1]
    ·exact absurd u2 (by decide)
   ·exact absurd u1 (by decide)
  ·exact absurd h3 (by decide)
 ·exact absurd h (by decide)
theorem ib_agg {m : Nat → Option (Option Nat × Nat)} {F : Nat → Prop} {w : World} {a : Int} {b : Bool} {v : Value} (h : ARep m F w (.agg [aI a, aT b]) v) : v = .agg #[.int .i64 a, .bool b] := by
 cases h with
 | agg h1 h2 h3 =>
  rename_i vs
  have e0 := h2 0 _ rfl
  have e1 := h2 1 _ rfl
  obtain ⟨e0, -⟩ := e0.val_eq
  obtain ⟨e1, -⟩ := e1.val_eq
  have hsz : vs.size = 2 := h1
  congr 1
  apply Array.ext
  ·exact hsz
  ·intro i hi hi2
   match i, hi, hi2 with
   | 0, hi, hi2 => rw [Array.getD_eq_getD_getElem?, Array.getElem?_eq_getElem hi] at e0; exact e0
   | 1, hi, hi2 => rw [Array.getD_eq_getD_getElem?, Array.getElem?_eq_getElem hi] at e1; exact e1
   | n + 2, hi, hi2 => omega
theorem g_eqIB {a c : Int} {b d : Bool} {op : BinOp} {r : Bool} (ht : intBool P xt = true) (hx : s.ev x = .agg [aI a, aT b]) (hy : s.ev y = .agg [aI c, aT d]) (hop : eqOf op (decide (a = c ∧ b = d)) = some r) :
  GOp P [] s ⟨dst, .binOp op xt x y yt, ty, pos, af, gd⟩ (aT r) := by
 refine ⟨fun s' ha C U a' w m hR => ?_⟩
 have h1 := hR.ev x
 have h2 := hR.ev y
 rw [ha.2.1 x (by simp [Op.operands]), hx] at h1
 rw [ha.2.1 y (by simp [Op.operands]), hy] at h2
 have e1 := ib_agg h1
 have e2 := ib_agg h2
 obtain ⟨q1, q2⟩ := equalIB (a := a) (b := b) (c := c) (d := d) ht w
 refine ⟨.bool r, ?_, .d (.val trivial)⟩
 simp only [execOp, e1, e2, Sem.run_bind, run_eqGuard_agg w op xt x y _ _ q2, Result.andThen_ok]
 cases op <;> simp only [eqOf, Option.some.injEq, reduceCtorEq] at hop
 ·subst hop; rw [run_eql_struct, q1]; rfl
 ·subst hop; rw [run_neq_struct, q1]; rfl
end
set_option maxHeartbeats 1000000 in
theorem indexLabF_spec (l : List Lab) (hl : l.length ≤ 2000000) (g : FuncId) (ds : List DV) (hen : Enters Tryz.prog g) (p : Lab → Bool) (hp : ∀ t, t ∈ l → ASpec Tryz.prog g (labA t :: ds.map .d) [] (Pure1 (aT (p t)))) : ASpec Tryz.prog 232 [.d (vLabs l), .clo g (ds.map .d)] [] (Pure1 (aI (findI p l))) := by
 refine ASpec.of Tryz.func232 rfl rfl fun C hC => ?_
 refine AC.seq (AC.region ?_)
 refine AL.p (by exact as1 rfl) rfl ?_
 refine AL.nil (th_n (AC.seq (AC.seq (AC.region ?_))))
 refine AL.p (by exact mv1 rfl) rfl ?_
 refine AL.p (by exact g_len_view rfl rfl (by exact List.length_map _)) rfl ?_
 refine AL.p (by exact mv1 rfl) rfl ?_
 refine AL.nil (th_n (AC.block ?_))
 refine AC.loop (ι := Nat) (fun k => ⟨19, 0, [(0, .d (vLabs l)), (1, .clo g (ds.map .d)), (6, .d (vLabs l)), (7, aI l.length), (8, aI k)], []⟩) (fun k => k ≤ l.length ∧ ∀ j (hj : j < l.length), j < k → p l[j] = false) (fun k => l.length - k) (0) ?_ (⟨Nat.zero_le _, fun j _ hj => by omega⟩) ?_
 ·refine Weak.ren _ [] hC rfl ⟨.same, ⟨_, rfl, leadsL_data _ ds⟩, ?_⟩ trivial rfl rfl rfl; repeat (first | exact True.intro | refine And.intro ?_ ?_ | exact DLead.same)
 ·intro k ⟨hk, hall⟩
  refine AC.seq (AC.region ?_)
  refine AL.p (by exact g_cmp rfl rfl rfl) rfl ?_
  refine AL.nil (th_n (AC.seq ?_))
  refine AC.condD rfl (fun h0 => ?_) (fun h0 => ?_)
  ·refine AC.skip (th_n (AC.seq (AC.block (AC.seq ?_))))
   have hk1 : k < l.length := by omega
   have hget := labsL_get hk1
   refine AC.region ?_
   refine AL.p (by exact mv1 rfl) rfl ?_
   refine AL.p (by exact as1 rfl) rfl ?_
   refine AL.nil (th_n (AC.seq (AC.region ?_)))
   refine AL.p (by exact mv6 rfl) rfl ?_
   refine AL.p (by exact mv1 rfl) rfl ?_
   refine AL.p (by exact mv1 rfl) rfl ?_
   refine AL.p (by exact g_ia_view rfl rfl rfl rfl rfl (by rfl) (by assumption)) rfl ?_
   refine AL.p (by exact g_load_refN rfl rfl rfl rfl) rfl ?_
   refine AL.q (by exact h_pure hen rfl rfl (by exact ⟨_, _, rfl, ⟨_, rfl, _, _, rfl, .same, _, _, rfl, .same, rfl⟩, leadsL_data _ ds⟩) (hp l[k] (List.getElem_mem hk1)) rfl) rfl ?_
   refine AL.nil (th_n ?_)
   refine AC.condB rfl (fun h1 => ?_) (fun h1 => ?_)
   ·refine AC.seq (AC.region ?_)
    refine AL.p (by exact mv1 rfl) rfl ?_
    refine AL.p (by exact as1 rfl) rfl ?_
    refine AL.nil (th_n (AC.ret (ib_r (th_r (th_r (ib_r (th_r (bq_r ?_))))))))
    exact ret1 rfl (by rw [findI_at hk1 h1 (fun j hj => hall j (by omega) hj)])
   ·refine AC.skip (ib_n (th_n (AC.region ?_)))
    refine AL.p (by exact g_arith rfl rfl rfl (by exact wrap_i64 (by omega))) rfl ?_
    refine AL.p (by exact mv1 rfl) rfl ?_
    refine AL.nil (th_n ?_)
    exact ⟨k + 1, ⟨by omega, fun j hj hj2 => by rcases Nat.lt_succ_iff_lt_or_eq.1 hj2 with h | rfl; exact hall j hj h; exact h1⟩, by omega, Weak.ren _ [] hC rfl ⟨.same, ⟨_, rfl, leadsL_data _ ds⟩, by repeat (first | exact True.intro | refine And.intro ?_ ?_ | exact DLead.same)⟩ trivial rfl rfl rfl⟩
  ·refine AC.exit (th_e (th_e (ib_y (th_n (AC.seq (AC.region ?_))))))
   refine AL.p (by exact as1 rfl) rfl ?_
   refine AL.nil (th_n (AC.ret (bq_r ?_)))
   exact ret1 rfl (by rw [findI_none (fun j hj => hall j hj (by omega))])
theorem en_indexLabF : Enters Tryz.prog 232 := enters_of Tryz.func232 rfl rfl
set_option maxHeartbeats 1000000 in
theorem containsLabF_spec (l : List Lab) (hl : l.length ≤ 2000000) (g : FuncId) (ds : List DV) (hen : Enters Tryz.prog g) (p : Lab → Bool) (hp : ∀ t, t ∈ l → ASpec Tryz.prog g (labA t :: ds.map .d) [] (Pure1 (aT (p t)))) : ASpec Tryz.prog 179 [.d (vLabs l), .clo g (ds.map .d)] [] (Pure1 (aT (l.any p))) := by
 refine ASpec.of Tryz.func179 rfl rfl fun C hC => ?_
 refine AC.seq (AC.region ?_)
 refine AL.p (by exact as1 rfl) rfl ?_
 refine AL.nil (th_n (AC.seq (AC.region ?_)))
 refine AL.p (by exact mv1 rfl) rfl ?_
 refine AL.p (by exact mv6 rfl) rfl ?_
 refine AL.q (by exact h_pure en_indexLabF rfl rfl (by exact ⟨_, _, rfl, .same, _, _, rfl, ⟨_, rfl, leadsL_data _ ds⟩, rfl⟩) (indexLabF_spec l hl g ds hen p hp) rfl) rfl ?_
 refine AL.p (by exact g_cmp rfl rfl rfl) rfl ?_
 refine AL.p (by exact as1 rfl) rfl ?_
 refine AL.nil (th_n (AC.ret (bq_r ?_)))
 exact ret1 rfl (by rw [findI_any])
theorem en_containsLabF : Enters Tryz.prog 179 := enters_of Tryz.func179 rfl rfl
structure Stg where
 net : Net
 sigs : List Sig
 labs : List Lab
 start : List UInt8
abbrev stgD (s : Stg) : List DV := [dI s.net.places, vTs s.net.ts, vSigs s.sigs, vLabs s.labs, dS (bstr s.start)]
abbrev stgA (s : Stg) : AV := .agg [aI s.net.places, .d (vTs s.net.ts), .d (vSigs s.sigs), .d (vLabs s.labs), aS (bstr s.start)]
def labOk (x : Lab) (n : Int) : Bool := (decide (0 ≤ x.sig) && decide (x.sig ≤ n - 1)) || (decide (x.sig = -1) && !x.up)
def goodS (s : Stg) : Bool := (goodN s.net && bitsB s.start s.net.places) && (sigsB s.sigs && (decide ((s.labs.length : Int) = s.net.ts.length) && s.labs.all (fun x => labOk x s.sigs.length)))
structure StgL (s : Stg) : Prop where
 n : NetL s.net
 sg : s.sigs.length ≤ 1048576
 sn : ∀ t, t ∈ s.sigs → t.name.length ≤ 1048576
 l : s.labs.length ≤ 1048576
 st : s.start.length ≤ 2000000
theorem l2Label_spec (x : Lab) (n : Nat) (hn : n ≤ 1048576) : ASpec Tryz.prog 181 [labA x, aI n] [] (Pure1 (aT (labOk x n))) := by
 have hX := l1In_spec x.sig 0 ((n : Int) - 1)
 have hk : labOk x n = ((decide (0 ≤ x.sig) && decide (x.sig ≤ (n : Int) - 1)) || (decide (x.sig = -1) && !x.up)) := rfl
 obtain ⟨b, hb⟩ : ∃ b, b = (decide (0 ≤ x.sig) && decide (x.sig ≤ (n : Int) - 1)) := ⟨_, rfl⟩
 rw [← hb] at hX hk
 clear hb
 refine ASpec.of Tryz.func181 rfl rfl fun C hC => ?_
 refine AC.seq (AC.region ?_)
 refine AL.q (by exact h_boxF rfl rfl) rfl ?_
 refine AL.p (by exact as1 rfl) rfl ?_
 refine AL.nil (th_n (AC.seq (AC.region ?_)))
 refine AL.p (by exact g_fa_ref rfl rfl rfl rfl rfl rfl) rfl ?_
 refine AL.p (by exact g_load_ref rfl rfl rfl) rfl ?_
 refine AL.p (by exact mv1 rfl) rfl ?_
 refine AL.p (by exact g_arith rfl rfl rfl (by exact wrap_i64 (by omega))) rfl ?_
 refine AL.q (by exact h_pure en_l1In rfl rfl (by repeat (first | exact rfl | exact DLead.same | refine ⟨_, _, rfl, ?_, ?_⟩)) hX rfl) rfl ?_
 refine AL.p (by exact mv1 rfl) rfl ?_
 refine AL.caseGB rfl rfl (fun h0 => ?_) (fun h0 => ?_)
 ·refine AL.not rfl rfl rfl rfl rfl ?_
  refine AL.not rfl rfl rfl rfl rfl ?_
  refine AL.not rfl rfl rfl rfl rfl ?_
  refine AL.not rfl rfl rfl rfl rfl ?_
  refine AL.notU rfl rfl rfl ?_
  refine AL.notU rfl rfl rfl ?_
  refine AL.notU rfl rfl rfl ?_
  refine AL.not rfl rfl rfl rfl rfl ?_
  refine AL.p (by exact g_pickT (r := .d _) rfl rfl) rfl ?_
  refine AL.p (by exact as1 rfl) rfl ?_
  refine AL.nil (th_n (AC.ret (bq_r ?_)))
  exact ret1 rfl (by rw [hk]; simp_all)
 ·refine AL.yes rfl rfl rfl ?_
  refine AL.p (by exact g_fa_ref rfl rfl rfl rfl rfl rfl) rfl ?_
  refine AL.yes rfl rfl rfl ?_
  refine AL.p (by exact g_load_ref rfl rfl rfl) rfl ?_
  refine AL.yes rfl rfl rfl ?_
  refine AL.p (by exact g_cmp rfl rfl rfl) rfl ?_
  refine AL.yes rfl rfl rfl ?_
  refine AL.p (by exact mv1 rfl) rfl ?_
  refine AL.caseG rfl rfl (fun h1 => ?_) (fun h1 => ?_)
  ·refine AL.yes rfl rfl rfl ?_
   refine AL.p (by exact g_fa_ref rfl rfl rfl rfl rfl rfl) rfl ?_
   refine AL.yes rfl rfl rfl ?_
   refine AL.p (by exact g_load_ref rfl rfl rfl) rfl ?_
   refine AL.yes rfl rfl rfl ?_
   refine AL.p (by exact g_not rfl) rfl ?_
   refine AL.yes rfl rfl rfl ?_
   refine AL.p (by exact g_pickT (r := .d _) rfl rfl) rfl ?_
   refine AL.p (by exact g_pickF (r := .d _) rfl rfl) rfl ?_
   refine AL.p (by exact as1 rfl) rfl ?_
   refine AL.nil (th_n (AC.ret (bq_r ?_)))
   exact ret1 rfl (by rw [hk]; simp_all)
  ·refine AL.not rfl rfl rfl rfl rfl ?_
   refine AL.not rfl rfl rfl rfl rfl ?_
   refine AL.not rfl rfl rfl rfl rfl ?_
   refine AL.yes rfl rfl rfl ?_
   refine AL.p (by exact g_pickF (r := .d _) rfl rfl) rfl ?_
   refine AL.p (by exact g_pickF (r := .d _) rfl rfl) rfl ?_
   refine AL.p (by exact as1 rfl) rfl ?_
   refine AL.nil (th_n (AC.ret (bq_r ?_)))
   exact ret1 rfl (by rw [hk]; simp_all)
theorem en_l2Label : Enters Tryz.prog 181 := enters_of Tryz.func181 rfl rfl
theorem isEdge_spec (x : Lab) (n : Nat) (hn : n ≤ 1048576) : ASpec Tryz.prog 140 [labA x, aI n] [] (Pure1 (aT (labOk x n))) := by
 have hX := within_spec x.sig 0 ((n : Int) - 1)
 have hk : labOk x n = ((decide (0 ≤ x.sig) && decide (x.sig ≤ (n : Int) - 1)) || decide (x.sig = -1 ∧ x.up = false)) := by
  unfold labOk
  congr 1
  cases x.up <;> by_cases h : x.sig = -1 <;> simp [h]
 obtain ⟨b, hb⟩ : ∃ b, b = (decide (0 ≤ x.sig) && decide (x.sig ≤ (n : Int) - 1)) := ⟨_, rfl⟩
 rw [← hb] at hX hk
 clear hb
 refine ASpec.of Tryz.func140 rfl rfl fun C hC => ?_
 refine AC.seq (AC.region ?_)
 refine AL.q (by exact h_boxF rfl rfl) rfl ?_
 refine AL.p (by exact as1 rfl) rfl ?_
 refine AL.nil (th_n (AC.seq (AC.region ?_)))
 refine AL.p (by exact g_fa_ref rfl rfl rfl rfl rfl rfl) rfl ?_
 refine AL.p (by exact g_load_ref rfl rfl rfl) rfl ?_
 refine AL.p (by exact mv1 rfl) rfl ?_
 refine AL.p (by exact g_arith rfl rfl rfl (by exact wrap_i64 (by omega))) rfl ?_
 refine AL.q (by exact h_pure en_within rfl rfl (by repeat (first | exact rfl | exact DLead.same | refine ⟨_, _, rfl, ?_, ?_⟩)) hX rfl) rfl ?_
 refine AL.p (by exact mv1 rfl) rfl ?_
 refine AL.caseGB rfl rfl (fun h0 => ?_) (fun h0 => ?_)
 ·refine AL.not rfl rfl rfl rfl rfl ?_
  refine AL.not rfl rfl rfl rfl rfl ?_
  refine AL.not rfl rfl rfl rfl rfl ?_
  refine AL.p (by exact g_pickT (r := .d _) rfl rfl) rfl ?_
  refine AL.p (by exact as1 rfl) rfl ?_
  refine AL.nil (th_n (AC.ret (bq_r ?_)))
  exact ret1 rfl (by rw [hk, h0]; rfl)
 ·refine AL.yes rfl rfl rfl ?_
  refine AL.p (by exact g_load_refN rfl rfl rfl rfl) rfl ?_
  refine AL.yes rfl rfl rfl ?_
  refine AL.p (by exact g_build rfl rfl rfl) rfl ?_
  refine AL.yes rfl rfl rfl ?_
  refine AL.p (by exact g_eqIB (a := x.sig) (b := x.up) (c := -1) (d := false) (by decide +kernel) rfl rfl rfl) rfl ?_
  refine AL.p (by exact g_pickF (r := .d _) rfl rfl) rfl ?_
  refine AL.p (by exact as1 rfl) rfl ?_
  refine AL.nil (th_n (AC.ret (bq_r ?_)))
  exact ret1 rfl (by rw [hk, h0]; rfl)
theorem en_isEdge : Enters Tryz.prog 140 := enters_of Tryz.func140 rfl rfl
theorem iIsValidSTG1_spec (x : Lab) (s : Stg) (hs : s.sigs.length ≤ 1048576) : ASpec Tryz.prog 180 [labA x, .d (.ref (stgD s))] [] (Pure1 (aT (!labOk x s.sigs.length))) := by
 have hE := isEdge_spec x s.sigs.length hs
 refine ASpec.of Tryz.func180 rfl rfl fun C hC => ?_
 refine AC.seq (AC.region ?_)
 refine AL.q (by exact h_boxF rfl rfl) rfl ?_
 refine AL.p (by exact as1 rfl) rfl ?_
 refine AL.nil (th_n (AC.seq (AC.region ?_)))
 refine AL.p (by exact g_load_refN rfl rfl rfl rfl) rfl ?_
 refine AL.p (by exact g_fa_ref rfl rfl rfl rfl rfl rfl) rfl ?_
 refine AL.p (by exact g_load_ref rfl rfl rfl) rfl ?_
 refine AL.p (by exact g_len_view rfl rfl (by exact List.length_map _)) rfl ?_
 refine AL.q (by exact h_pure en_isEdge rfl rfl (by repeat (first | exact rfl | exact DLead.same | refine ⟨_, _, rfl, ?_, ?_⟩ | refine ⟨_, rfl, ?_⟩)) hE rfl) rfl ?_
 refine AL.p (by exact g_not rfl) rfl ?_
 refine AL.p (by exact as1 rfl) rfl ?_
 refine AL.nil (th_n (AC.ret (bq_r ?_)))
 exact ret1 rfl rfl
theorem en_iIsValidSTG1 : Enters Tryz.prog 180 := enters_of Tryz.func180 rfl rfl
theorem all_not_any {α : Type} (p : α → Bool) (l : List α) : l.all p = !l.any (fun x => !p x) := by
 induction l with
 | nil => rfl
 | cons x l ih => simp only [List.all_cons, List.any_cons, ih]; cases p x <;> simp
set_option maxHeartbeats 2000000 in
theorem iIsValidSTG_spec (s : Stg) (h : StgL s) : ASpec Tryz.prog 96 [stgA s] [] (Pure1 (aT (goodS s))) := by
 have hM := IsValidMarking_gen s.net s.start h.n h.st
 have hS := areSignals_spec s.sigs h.sg h.sn
 have hCt := containsLabF_spec s.labs (by have := h.l; omega) 180 [.ref (stgD s)] en_iIsValidSTG1 (fun x => !labOk x s.sigs.length) (fun t _ => iIsValidSTG1_spec t s h.sg)
 have hg : goodS s = ((goodN s.net && bitsB s.start s.net.places) && (sigsB s.sigs && (decide ((s.labs.length : Int) = s.net.ts.length) && !s.labs.any (fun x => !labOk x s.sigs.length)))) := by unfold goodS; rw [all_not_any]
 have hll := h.l
 have htl := h.n.l
 obtain ⟨b1, hb1⟩ : ∃ b, b = (goodN s.net && bitsB s.start s.net.places) := ⟨_, rfl⟩
 obtain ⟨b2, hb2⟩ : ∃ b, b = sigsB s.sigs := ⟨_, rfl⟩
 obtain ⟨b3, hb3⟩ : ∃ b, b = s.labs.any (fun x => !labOk x s.sigs.length) := ⟨_, rfl⟩
 rw [← hb1] at hM hg
 rw [← hb2] at hS hg
 rw [← hb3] at hCt hg
 clear hb1 hb2 hb3
 refine ASpec.of Tryz.func96 rfl rfl fun C hC => ?_
 refine AC.seq (AC.region ?_)
 refine AL.q (by exact h_boxF rfl rfl) rfl ?_
 refine AL.p (by exact as1 rfl) rfl ?_
 refine AL.nil (th_n (AC.seq (AC.region ?_)))
 refine AL.p (by exact g_fa_ref rfl rfl rfl rfl rfl rfl) rfl ?_
 refine AL.p (by exact g_load_refN rfl rfl rfl rfl) rfl ?_
 refine AL.p (by exact g_fa_ref rfl rfl rfl rfl rfl rfl) rfl ?_
 refine AL.p (by exact g_load_ref rfl rfl rfl) rfl ?_
 refine AL.q (by exact h_pure en_IsValidMarking rfl rfl (by repeat (first | exact rfl | exact DLead.same | refine ⟨_, _, rfl, ?_, ?_⟩ | refine ⟨_, rfl, ?_⟩)) hM rfl) rfl ?_
 refine AL.p (by exact mv1 rfl) rfl ?_
 refine AL.caseGB rfl rfl (fun h0 => ?_) (fun h0 => ?_)
 ·refine AL.yes rfl rfl rfl ?_
  refine AL.p (by exact g_fa_ref rfl rfl rfl rfl rfl rfl) rfl ?_
  refine AL.yes rfl rfl rfl ?_
  refine AL.p (by exact g_load_ref rfl rfl rfl) rfl ?_
  refine AL.yes rfl rfl rfl ?_
  refine AL.q (by exact h_pure en_areSignals rfl rfl (by repeat (first | exact rfl | exact DLead.same | refine ⟨_, _, rfl, ?_, ?_⟩)) hS rfl) rfl ?_
  refine AL.p (by exact g_pickT (r := .d _) rfl rfl) rfl ?_
  refine AL.p (by exact mv1 rfl) rfl ?_
  refine AL.caseGB rfl rfl (fun h1 => ?_) (fun h1 => ?_)
  ·refine AL.yes rfl rfl rfl ?_
   refine AL.p (by exact g_fa_ref rfl rfl rfl rfl rfl rfl) rfl ?_
   refine AL.yes rfl rfl rfl ?_
   refine AL.p (by exact g_load_ref rfl rfl rfl) rfl ?_
   refine AL.yes rfl rfl rfl ?_
   refine AL.p (by exact g_len_view rfl rfl (by exact List.length_map _)) rfl ?_
   refine AL.yes rfl rfl rfl ?_
   refine AL.p (by exact g_fa_ref rfl rfl rfl rfl rfl rfl) rfl ?_
   refine AL.yes rfl rfl rfl ?_
   refine AL.p (by exact g_fa_ref rfl rfl rfl rfl rfl rfl) rfl ?_
   refine AL.yes rfl rfl rfl ?_
   refine AL.p (by exact g_load_ref rfl rfl rfl) rfl ?_
   refine AL.yes rfl rfl rfl ?_
   refine AL.p (by exact g_len_view rfl rfl (by exact List.length_map _)) rfl ?_
   refine AL.yes rfl rfl rfl ?_
   refine AL.p (by exact g_cmp rfl rfl rfl) rfl ?_
   refine AL.p (by exact g_pickT (r := .d _) rfl rfl) rfl ?_
   refine AL.p (by exact mv1 rfl) rfl ?_
   refine AL.caseG rfl rfl (fun h2 => ?_) (fun h2 => ?_)
   ·refine AL.yes rfl rfl rfl ?_
    refine AL.p (by exact g_fa_ref rfl rfl rfl rfl rfl rfl) rfl ?_
    refine AL.yes rfl rfl rfl ?_
    refine AL.p (by exact g_load_ref rfl rfl rfl) rfl ?_
    refine AL.yes rfl rfl rfl ?_
    refine AL.p (by exact g_fn rfl) rfl ?_
    refine AL.yes rfl rfl rfl ?_
    refine AL.q (by exact h_pure en_containsLabF rfl rfl (by exact ⟨_, _, rfl, .same, _, _, rfl, ⟨_, rfl, leadsL_data _ _⟩, rfl⟩) hCt rfl) rfl ?_
    refine AL.yes rfl rfl rfl ?_
    refine AL.p (by exact g_not rfl) rfl ?_
    refine AL.p (by exact g_pickT (r := .d _) rfl rfl) rfl ?_
    refine AL.p (by exact as1 rfl) rfl ?_
    refine AL.nil (th_n (AC.ret (bq_r ?_)))
    exact ret1 rfl (by clear hM hS hCt; rw [hg]; simp_all)
   ·refine AL.not rfl rfl rfl rfl rfl ?_
    refine AL.not rfl rfl rfl rfl rfl ?_
    refine AL.not rfl rfl rfl rfl rfl ?_
    refine AL.not rfl rfl rfl rfl rfl ?_
    refine AL.not rfl rfl rfl rfl rfl ?_
    refine AL.p (by exact g_pickF (r := .d _) rfl rfl) rfl ?_
    refine AL.p (by exact as1 rfl) rfl ?_
    refine AL.nil (th_n (AC.ret (bq_r ?_)))
    exact ret1 rfl (by clear hM hS hCt; rw [hg]; simp_all)
  ·refine AL.not rfl rfl rfl rfl rfl ?_
   refine AL.not rfl rfl rfl rfl rfl ?_
   refine AL.not rfl rfl rfl rfl rfl ?_
   refine AL.not rfl rfl rfl rfl rfl ?_
   refine AL.not rfl rfl rfl rfl rfl ?_
   refine AL.not rfl rfl rfl rfl rfl ?_
   refine AL.not rfl rfl rfl rfl rfl ?_
   refine AL.not rfl rfl rfl rfl rfl ?_
   refine AL.p (by exact g_pickF (r := .d _) rfl rfl) rfl ?_
   refine AL.p (by exact mv1 rfl) rfl ?_
   refine AL.not rfl rfl rfl rfl rfl ?_
   refine AL.not rfl rfl rfl rfl rfl ?_
   refine AL.not rfl rfl rfl rfl rfl ?_
   refine AL.not rfl rfl rfl rfl rfl ?_
   refine AL.not rfl rfl rfl rfl rfl ?_
   refine AL.p (by exact g_pickF (r := .d _) rfl rfl) rfl ?_
   refine AL.p (by exact as1 rfl) rfl ?_
   refine AL.nil (th_n (AC.ret (bq_r ?_)))
   exact ret1 rfl (by clear hM hS hCt; rw [hg]; simp_all)
 ·refine AL.not rfl rfl rfl rfl rfl ?_
  refine AL.not rfl rfl rfl rfl rfl ?_
  refine AL.not rfl rfl rfl rfl rfl ?_
  refine AL.p (by exact g_pickF (r := .d _) rfl rfl) rfl ?_
  refine AL.p (by exact mv1 rfl) rfl ?_
  refine AL.not rfl rfl rfl rfl rfl ?_
  refine AL.not rfl rfl rfl rfl rfl ?_
  refine AL.not rfl rfl rfl rfl rfl ?_
  refine AL.not rfl rfl rfl rfl rfl ?_
  refine AL.not rfl rfl rfl rfl rfl ?_
  refine AL.not rfl rfl rfl rfl rfl ?_
  refine AL.not rfl rfl rfl rfl rfl ?_
  refine AL.not rfl rfl rfl rfl rfl ?_
  refine AL.p (by exact g_pickF (r := .d _) rfl rfl) rfl ?_
  refine AL.p (by exact mv1 rfl) rfl ?_
  refine AL.not rfl rfl rfl rfl rfl ?_
  refine AL.not rfl rfl rfl rfl rfl ?_
  refine AL.not rfl rfl rfl rfl rfl ?_
  refine AL.not rfl rfl rfl rfl rfl ?_
  refine AL.not rfl rfl rfl rfl rfl ?_
  refine AL.p (by exact g_pickF (r := .d _) rfl rfl) rfl ?_
  refine AL.p (by exact as1 rfl) rfl ?_
  refine AL.nil (th_n (AC.ret (bq_r ?_)))
  exact ret1 rfl (by clear hM hS hCt; rw [hg]; simp_all)
theorem en_iIsValidSTG : Enters Tryz.prog 96 := enters_of Tryz.func96 rfl rfl
set_option maxHeartbeats 2000000 in
theorem l2Good_spec (s : Stg) (h : StgL s) : ASpec Tryz.prog 98 [stgA s] [] (Pure1 (aT (goodS s))) := by
 have hM := l1Mark_spec s.net s.start h.st
 have hN := l1Good_gen s.net h.n
 have hS := l2Signals_spec s.sigs h.sg h.sn
 have hll := h.l
 have htl := h.n.l
 have hg : goodS s = ((goodN s.net && bitsB s.start s.net.places) && (sigsB s.sigs && (decide ((s.labs.length : Int) = s.net.ts.length) && s.labs.all (fun x => labOk x s.sigs.length)))) := rfl
 obtain ⟨b1, hb1⟩ : ∃ b, b = goodN s.net := ⟨_, rfl⟩
 obtain ⟨b2, hb2⟩ : ∃ b, b = sigsB s.sigs := ⟨_, rfl⟩
 obtain ⟨b3, hb3⟩ : ∃ b, b = bitsB s.start s.net.places := ⟨_, rfl⟩
 rw [← hb1] at hN hg
 rw [← hb2] at hS hg
 rw [← hb3] at hM hg
 clear hb1 hb2 hb3
 refine ASpec.of Tryz.func98 rfl rfl fun C hC => ?_
 refine AC.seq (AC.region ?_)
 refine AL.q (by exact h_boxF rfl rfl) rfl ?_
 refine AL.p (by exact as1 rfl) rfl ?_
 refine AL.nil (th_n (AC.seq (AC.seq (AC.region ?_))))
 refine AL.p (by exact g_fa_ref rfl rfl rfl rfl rfl rfl) rfl ?_
 refine AL.p (by exact g_load_ref rfl rfl rfl) rfl ?_
 refine AL.p (by exact g_len_view rfl rfl (by exact List.length_map _)) rfl ?_
 refine AL.p (by exact mv1 rfl) rfl ?_
 refine AL.nil (th_n (AC.block ?_))
 refine AC.loop (ι := Nat) (fun k => ⟨44, 0, [(1, .d (.ref (stgD s))), (6, .d (vLabs s.labs)), (7, aI s.labs.length), (8, aI k)], []⟩) (fun k => k ≤ s.labs.length ∧ ∀ j (hj : j < s.labs.length), j < k → labOk s.labs[j] s.sigs.length = true) (fun k => s.labs.length - k) (0) ?_ (⟨Nat.zero_le _, fun j _ hj => by omega⟩) ?_
 ·refine Weak.ren _ [] hC rfl ?_ ?_ rfl rfl rfl <;> repeat (first | exact True.intro | refine And.intro ?_ ?_ | exact DLead.same)
 ·intro k ⟨hk, hall⟩
  refine AC.seq (AC.region ?_)
  refine AL.p (by exact g_cmp rfl rfl rfl) rfl ?_
  refine AL.nil (th_n (AC.seq ?_))
  refine AC.condD rfl (fun h0 => ?_) (fun h0 => ?_)
  ·refine AC.skip (th_n (AC.seq (AC.block (AC.seq ?_))))
   have hk1 : k < s.labs.length := by omega
   have hget := labsL_get hk1
   have hL := l2Label_spec s.labs[k] s.sigs.length h.sg
   obtain ⟨c, hc⟩ : ∃ c, c = labOk s.labs[k] s.sigs.length := ⟨_, rfl⟩
   rw [← hc] at hL
   refine AC.region ?_
   refine AL.p (by exact g_ia_view rfl rfl rfl rfl rfl (by rfl) (by assumption)) rfl ?_
   refine AL.p (by exact g_load_refN rfl rfl rfl rfl) rfl ?_
   refine AL.q (by exact h_alloc rfl) rfl ?_
   refine AL.q (by exact h_store rfl rfl rfl rfl rfl rfl) rfl ?_
   refine AL.nil (th_n (AC.seq ?_))
   refine AC.weak (Weak.freezeRef (ds := labD s.labs[k]) 4 rfl rfl) ?_
   refine AC.region ?_
   refine AL.p (by exact g_load_refN rfl rfl rfl rfl) rfl ?_
   refine AL.p (by exact g_fa_ref rfl rfl rfl rfl rfl rfl) rfl ?_
   refine AL.p (by exact g_load_ref rfl rfl rfl) rfl ?_
   refine AL.p (by exact g_len_view rfl rfl (by exact List.length_map _)) rfl ?_
   refine AL.q (by exact h_pure en_l2Label rfl rfl (by repeat (first | exact rfl | exact DLead.same | refine ⟨_, _, rfl, ?_, ?_⟩ | refine ⟨_, rfl, ?_⟩)) hL rfl) rfl ?_
   refine AL.p (by exact g_not rfl) rfl ?_
   refine AL.nil (th_n ?_)
   refine AC.condB rfl (fun h1 => ?_) (fun h1 => ?_)
   ·refine AC.seq (AC.region ?_)
    refine AL.p (by exact as1 rfl) rfl ?_
    refine AL.nil (th_n (AC.ret (ib_r (th_r (th_r (ib_r (th_r (bq_r ?_))))))))
    have hbad : s.labs.all (fun x => labOk x s.sigs.length) = false := List.all_eq_false.2 ⟨_, List.getElem_mem hk1, by rw [← hc]; simpa using h1⟩
    exact ret1 rfl (by rw [hg, hbad]; simp)
   ·refine AC.skip (ib_n (th_n (AC.region ?_)))
    refine AL.p (by exact g_arith rfl rfl rfl (by exact wrap_i64 (by omega))) rfl ?_
    refine AL.p (by exact mv1 rfl) rfl ?_
    refine AL.nil (th_n ?_)
    exact ⟨k + 1, ⟨by omega, fun j hj hj2 => by rcases Nat.lt_succ_iff_lt_or_eq.1 hj2 with h | rfl; exact hall j hj h; exact hc.symm.trans (by simpa using h1)⟩, by omega, Weak.ren _ [] hC rfl (by repeat (first | exact True.intro | refine And.intro ?_ ?_ | exact DLead.same)) (by repeat (exact True.intro)) rfl rfl rfl⟩
  ·refine AC.exit (th_e (th_e (ib_y (th_n (AC.seq ?_)))))
   have hA : s.labs.all (fun x => labOk x s.sigs.length) = true := List.all_eq_true.2 (fun x hx => by obtain ⟨j, hj, rfl⟩ := List.getElem_of_mem hx; exact hall j hj (by omega))
   rw [hA, Bool.and_true] at hg
   refine AC.region ?_
   refine AL.p (by exact g_fa_ref rfl rfl rfl rfl rfl rfl) rfl ?_
   refine AL.p (by exact g_load_refN rfl rfl rfl rfl) rfl ?_
   refine AL.q (by exact h_pure en_l1Good rfl rfl (by repeat (first | exact rfl | exact DLead.same | refine ⟨_, _, rfl, ?_, ?_⟩ | refine ⟨_, rfl, ?_⟩)) hN rfl) rfl ?_
   refine AL.p (by exact mv1 rfl) rfl ?_
   refine AL.caseGB rfl rfl (fun h1 => ?_) (fun h1 => ?_)
   ·refine AL.yes rfl rfl rfl ?_
    refine AL.p (by exact g_fa_ref rfl rfl rfl rfl rfl rfl) rfl ?_
    refine AL.yes rfl rfl rfl ?_
    refine AL.p (by exact g_load_ref rfl rfl rfl) rfl ?_
    refine AL.yes rfl rfl rfl ?_
    refine AL.q (by exact h_pure en_l2Signals rfl rfl (by repeat (first | exact rfl | exact DLead.same | refine ⟨_, _, rfl, ?_, ?_⟩)) hS rfl) rfl ?_
    refine AL.p (by exact g_pickT (r := .d _) rfl rfl) rfl ?_
    refine AL.p (by exact mv1 rfl) rfl ?_
    refine AL.caseGB rfl rfl (fun h2 => ?_) (fun h2 => ?_)
    ·refine AL.yes rfl rfl rfl ?_
     refine AL.p (by exact g_fa_ref rfl rfl rfl rfl rfl rfl) rfl ?_
     refine AL.yes rfl rfl rfl ?_
     refine AL.p (by exact g_load_ref rfl rfl rfl) rfl ?_
     refine AL.yes rfl rfl rfl ?_
     refine AL.p (by exact g_len_view rfl rfl (by exact List.length_map _)) rfl ?_
     refine AL.yes rfl rfl rfl ?_
     refine AL.p (by exact g_fa_ref rfl rfl rfl rfl rfl rfl) rfl ?_
     refine AL.yes rfl rfl rfl ?_
     refine AL.p (by exact g_fa_ref rfl rfl rfl rfl rfl rfl) rfl ?_
     refine AL.yes rfl rfl rfl ?_
     refine AL.p (by exact g_load_ref rfl rfl rfl) rfl ?_
     refine AL.yes rfl rfl rfl ?_
     refine AL.p (by exact g_len_view rfl rfl (by exact List.length_map _)) rfl ?_
     refine AL.yes rfl rfl rfl ?_
     refine AL.p (by exact g_cmp rfl rfl rfl) rfl ?_
     refine AL.p (by exact g_pickT (r := .d _) rfl rfl) rfl ?_
     refine AL.p (by exact mv1 rfl) rfl ?_
     refine AL.caseG rfl rfl (fun h3 => ?_) (fun h3 => ?_)
     ·refine AL.yes rfl rfl rfl ?_
      refine AL.p (by exact g_fa_ref rfl rfl rfl rfl rfl rfl) rfl ?_
      refine AL.yes rfl rfl rfl ?_
      refine AL.p (by exact g_load_refN rfl rfl rfl rfl) rfl ?_
      refine AL.yes rfl rfl rfl ?_
      refine AL.p (by exact g_fa_ref rfl rfl rfl rfl rfl rfl) rfl ?_
      refine AL.yes rfl rfl rfl ?_
      refine AL.p (by exact g_load_ref rfl rfl rfl) rfl ?_
      refine AL.yes rfl rfl rfl ?_
      refine AL.q (by exact h_pure en_l1Mark rfl rfl (by repeat (first | exact rfl | exact DLead.same | refine ⟨_, _, rfl, ?_, ?_⟩ | refine ⟨_, rfl, ?_⟩)) hM rfl) rfl ?_
      refine AL.p (by exact g_pickT (r := .d _) rfl rfl) rfl ?_
      refine AL.p (by exact as1 rfl) rfl ?_
      refine AL.nil (th_n (AC.ret (bq_r ?_)))
      exact ret1 rfl (by clear hM hN hS hall; rw [hg]; simp_all)
     ·refine AL.not rfl rfl rfl rfl rfl ?_
      refine AL.not rfl rfl rfl rfl rfl ?_
      refine AL.not rfl rfl rfl rfl rfl ?_
      refine AL.not rfl rfl rfl rfl rfl ?_
      refine AL.not rfl rfl rfl rfl rfl ?_
      refine AL.p (by exact g_pickF (r := .d _) rfl rfl) rfl ?_
      refine AL.p (by exact as1 rfl) rfl ?_
      refine AL.nil (th_n (AC.ret (bq_r ?_)))
      exact ret1 rfl (by clear hM hN hS hall; rw [hg]; simp_all)
    ·refine AL.not rfl rfl rfl rfl rfl ?_
     refine AL.not rfl rfl rfl rfl rfl ?_
     refine AL.not rfl rfl rfl rfl rfl ?_
     refine AL.not rfl rfl rfl rfl rfl ?_
     refine AL.not rfl rfl rfl rfl rfl ?_
     refine AL.not rfl rfl rfl rfl rfl ?_
     refine AL.not rfl rfl rfl rfl rfl ?_
     refine AL.not rfl rfl rfl rfl rfl ?_
     refine AL.p (by exact g_pickF (r := .d _) rfl rfl) rfl ?_
     refine AL.p (by exact mv1 rfl) rfl ?_
     refine AL.not rfl rfl rfl rfl rfl ?_
     refine AL.not rfl rfl rfl rfl rfl ?_
     refine AL.not rfl rfl rfl rfl rfl ?_
     refine AL.not rfl rfl rfl rfl rfl ?_
     refine AL.not rfl rfl rfl rfl rfl ?_
     refine AL.p (by exact g_pickF (r := .d _) rfl rfl) rfl ?_
     refine AL.p (by exact as1 rfl) rfl ?_
     refine AL.nil (th_n (AC.ret (bq_r ?_)))
     exact ret1 rfl (by clear hM hN hS hall; rw [hg]; simp_all)
   ·refine AL.not rfl rfl rfl rfl rfl ?_
    refine AL.not rfl rfl rfl rfl rfl ?_
    refine AL.not rfl rfl rfl rfl rfl ?_
    refine AL.p (by exact g_pickF (r := .d _) rfl rfl) rfl ?_
    refine AL.p (by exact mv1 rfl) rfl ?_
    refine AL.not rfl rfl rfl rfl rfl ?_
    refine AL.not rfl rfl rfl rfl rfl ?_
    refine AL.not rfl rfl rfl rfl rfl ?_
    refine AL.not rfl rfl rfl rfl rfl ?_
    refine AL.not rfl rfl rfl rfl rfl ?_
    refine AL.not rfl rfl rfl rfl rfl ?_
    refine AL.not rfl rfl rfl rfl rfl ?_
    refine AL.not rfl rfl rfl rfl rfl ?_
    refine AL.p (by exact g_pickF (r := .d _) rfl rfl) rfl ?_
    refine AL.p (by exact mv1 rfl) rfl ?_
    refine AL.not rfl rfl rfl rfl rfl ?_
    refine AL.not rfl rfl rfl rfl rfl ?_
    refine AL.not rfl rfl rfl rfl rfl ?_
    refine AL.not rfl rfl rfl rfl rfl ?_
    refine AL.not rfl rfl rfl rfl rfl ?_
    refine AL.p (by exact g_pickF (r := .d _) rfl rfl) rfl ?_
    refine AL.p (by exact as1 rfl) rfl ?_
    refine AL.nil (th_n (AC.ret (bq_r ?_)))
    exact ret1 rfl (by clear hM hN hS hall; rw [hg]; simp_all)
theorem en_l2Good : Enters Tryz.prog 98 := enters_of Tryz.func98 rfl rfl
section
variable {P : Program} [PT P] {s : ASt} {dst : Option Nat} {ty : Nat} {pos : String} {af : Array Edge} {gd : Option (Nat × Bool)} {x : Operand} {f t : Nat}
theorem fr_iter (w : World) (b : Nat) (o : Obj) : Fr [b] w { w with heap := w.heap.setIfInBounds b o } :=
 ⟨rfl, rfl, rfl, by simp, fun k hk hn => by
  show (w.heap.setIfInBounds b o)[k]? = _
  rw [Array.getElem?_setIfInBounds_ne (by simpa [eq_comm] using hn)]⟩
end
section
variable {P : Program} [PT P]
variable {s : ASt} {dst : Option Nat} {ty : Nat} {pos : String} {af : Array Edge} {gd : Option (Nat × Bool)} {x y : Operand} {t : Nat}
theorem g_saddB {a b : List UInt8} {xt yt : Nat} (hx : s.ev x = aS (bstr a)) (hy : s.ev y = aS (bstr b)) (hl : a.length + b.length ≤ 4611686018427387904) : GOp P [] s ⟨dst, .binOp .add xt x y yt, ty, pos, af, gd⟩ (aS (bstr (a ++ b))) := by
 rw [← bstr_append]
 exact g_sadd hx hy (by rw [bstr_size, bstr_size]; omega)
end
end Go.Proofs.YthafkkgmekgmoaaGreat
