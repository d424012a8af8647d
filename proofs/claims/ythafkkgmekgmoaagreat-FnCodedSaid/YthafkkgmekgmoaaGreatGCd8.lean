/- Contracts of the functions of the program and of the reference, each proved by a walk through its code. -/
import Derived.WalkKit
import Derived.WalkSpells
import Derived.WalkLawsBesides
import Derived.Deep.Draws
import Derived.Lib.Hide
import Derived.Maps.AppendAt
import Derived.OwnWalk
import Derived.Deep.MidRow
import Derived.Laws.ResultCell
import Derived.Deep.Upon
import Derived.Great.FillDense
import Derived.Laws.Tables
import Derived.Laws.BytesArg
import Derived.Laws.MakeOwn
import Derived.Great.BuildSlice
import Derived.ArgAppend
import Derived.Deep.AppendSrc
import Derived.Test.YthafkkgmekgmoaaGreatProg
import Derived.KernelRfl
import Derived.Orders
import Derived.Laws.IdiomStrings
import Derived.Lib.AppendZerosOnto
import Derived.ProofKit
import Derived.OpenShut
import Derived.Lib.SliceRun
import Derived.Laws.StructEq
import Derived.ChangeKeysEq
import Derived.Sort.Grow
import Derived.Laws.RangeString
import Derived.Below
import Derived.Laws.Small
import Derived.MapKept
import Derived.WideMake
import Derived.Laws.IdiomCopy
import Derived.Shelf.Bits.Mul64
import Derived.Test.YthafkkgmekgmoaaGreatRows
import Derived.Test.YthafkkgmekgmoaaGreatGCd7
set_option linter.all false
set_option maxRecDepth 20000
namespace Go.Proofs.YthafkkgmekgmoaaGreat
open Go.RowKit
theorem iBit_spec (up : Bool) : ASpec Tryz.prog 196 [aT up] [] (Pure1 (.d (dB (bitLb up)))) := by
 refine ASpec.of Tryz.func196 rfl rfl fun C hC => ?_
 refine AC.seq (AC.region ?_)
 refine za ?_
 refine AL.nil (th_n (AC.seq (AC.seq (AC.region ?_))))
 refine zm ?_
 refine AL.nil (th_n ?_)
 refine AC.condB rfl (fun h0 => ?_) (fun h0 => ?_)
 ·refine AC.seq (AC.region ?_)
  refine za ?_
  refine AL.nil (th_n (AC.ret (th_r (bq_r ?_))))
  exact ret1 rfl (by rw [h0]; rfl)
 ·refine AC.skip (th_n (AC.seq (AC.region ?_)))
  refine za ?_
  refine AL.nil (th_n (AC.ret (bq_r ?_)))
  exact ret1 rfl (by rw [h0]; rfl)
theorem en_iBit : Enters Tryz.prog 196 := enters_of Tryz.func196 rfl rfl
theorem l5Bit_spec (up : Bool) : ASpec Tryz.prog 198 [aT up] [] (Pure1 (aS (bstr [bitLb up]))) := by
 refine ASpec.of Tryz.func198 rfl rfl fun C hC => ?_
 refine AC.seq (AC.region ?_)
 refine za ?_
 refine AL.nil (th_n (AC.seq (AC.seq (AC.region ?_))))
 refine zm ?_
 refine AL.nil (th_n ?_)
 refine AC.condB rfl (fun h0 => ?_) (fun h0 => ?_)
 ·refine AC.seq (AC.region ?_)
  refine za ?_
  refine AL.nil (th_n (AC.ret (th_r (bq_r ?_))))
  exact ret1 rfl (by rw [h0]; rfl)
 ·refine AC.skip (th_n (AC.seq (AC.region ?_)))
  refine za ?_
  refine AL.nil (th_n (AC.ret (bq_r ?_)))
  exact ret1 rfl (by rw [h0]; rfl)
theorem en_l5Bit : Enters Tryz.prog 198 := enters_of Tryz.func198 rfl rfl
theorem set_parts {c : List UInt8} {i : Nat} {b : UInt8} (h : i < c.length) : bstr (c.take i) ++ bstr [b] ++ bstr (c.drop (i + 1)) = bstr (c.set i b) := by
 rw [bstr_append, bstr_append, List.set_eq_take_append_cons_drop, if_pos h]; simp
set_option maxHeartbeats 1000000 in
theorem l5Set_spec (c : List UInt8) (i : Nat) (b : UInt8) (hc : c.length ≤ 2000000) (hi : i < c.length) : ASpec Tryz.prog 247 [aS (bstr c), aI i, aS (bstr [b])] [] (Pure1 (aS (bstr (c.set i b)))) := by
 have hsz := bstr_size c
 have hx1 : (bstr c).extract 0 i = bstr (c.take i) := by rw [bstr_cut c (Nat.zero_le _) (by omega)]; simp
 have hx2 : (bstr c).extract (i + 1) (bstr c).size = bstr (c.drop (i + 1)) := by rw [hsz, bstr_cut c (by omega) (Nat.le_refl _), List.take_length]
 have hs1 : (bstr (c.take i)).size = i := by rw [bstr_size, List.length_take]; omega
 have hs2 : (bstr [b]).size = 1 := rfl
 have hs3 : (bstr (c.drop (i + 1))).size = c.length - (i + 1) := by rw [bstr_size, List.length_drop]
 have hst := set_parts (b := b) hi
 refine ASpec.of Tryz.func247 rfl rfl fun C hC => ?_
 refine AC.seq (AC.region ?_)
 refine za ?_
 refine AL.nil (th_n (AC.seq ?_))
 refine AC.drawn' mixed_ok [[], [], [0,1], [], [0,1,2,3], [], [], [6], [5,6,7], [0,1,2,3,4,5,6,7,8], [0,1,2,3,4,5,6,7,8,9]] (by decide) ?_
 refine DF.op 0 [] 11 rfl rfl rfl (.free rfl (NOp.of (by exact mv1 rfl))) rfl ?_
 refine DF.op 1 [] 11 rfl rfl rfl (.free rfl (NOp.of (by exact mv1 rfl))) rfl ?_
 refine DF.op 2 [0,1] 11 rfl rfl rfl (.free rfl (NOp.of (by exact g_slice_str (h := i) rfl rfl .none (.some rfl rfl) (Nat.zero_le _) (by omega) hx1))) rfl ?_
 refine DF.op 3 [] 11 rfl rfl rfl (.free rfl (NOp.of (by exact mv1 rfl))) rfl ?_
 refine DF.op 4 [0,1,2,3] 11 rfl rfl rfl (.free rfl (NOp.of (by exact g_sadd rfl rfl (by omega)))) rfl ?_
 refine DF.op 5 [] 11 rfl rfl rfl (.free rfl (NOp.of (by exact mv1 rfl))) rfl ?_
 refine DF.op 6 [] 11 rfl rfl rfl (.free rfl (NOp.of (by exact mv1 rfl))) rfl ?_
 refine DF.op 7 [6] 11 rfl rfl rfl (.free rfl (NOp.of (by exact g_arith rfl rfl rfl (by exact wrap_i64 (by omega))))) rfl ?_
 refine DF.op 8 [5,6,7] 11 rfl rfl rfl (.free rfl (NOp.of (by exact g_slice_str (l := i + 1) rfl rfl (.some rfl rfl) .none (by omega) (Nat.le_refl _) hx2))) rfl ?_
 refine DF.op 9 (List.range 9) 11 rfl rfl rfl (.free rfl (NOp.of (by exact g_sadd rfl rfl (by rw [ByteArray.size_append]; omega)))) rfl ?_
 refine DF.op 10 (List.range 10) 11 rfl rfl rfl (.free rfl (NOp.of (by exact as1 rfl))) rfl ?_
 refine DF.fin (ps := [(0,1),(0,3),(0,5),(0,6),(0,7),(0,8),(1,0),(1,3),(1,5),(1,6),(1,7),(1,8),(2,3),(2,5),(2,6),(2,7),(2,8),(3,0),(3,1),(3,2),(3,5),(3,6),(3,7),(3,8),(4,5),(4,6),(4,7),(4,8),(5,0),(5,1),(5,2),(5,3),(5,4),(5,6),(5,7),(6,0),(6,1),(6,2),(6,3),(6,4),(6,5),(7,0),(7,1),(7,2),(7,3),(7,4),(7,5),(8,0),(8,1),(8,2),(8,3),(8,4)]) 11 rfl (by decide +kernel) (by decide +kernel) (by rfl) ?_
 refine th_n (AC.ret (bq_r ?_))
 exact ret1 rfl (by rw [hst])
theorem en_l5Set : Enters Tryz.prog 247 := enters_of Tryz.func247 rfl rfl
abbrev arD (a : Ar) : List DV := [dI a.from_, dI a.sig, dT a.up, dI a.to_]
abbrev arA (a : Ar) : AV := .agg [aI a.from_, aI a.sig, aT a.up, aI a.to_]
abbrev arL (l : List Ar) : List (List DV) := l.map arD
abbrev vArs (l : List Ar) : DV := .view 75 4 (arL l)
theorem arL_len (l : List Ar) : (arL l).length = l.length := List.length_map _
theorem arL_get {l : List Ar} {k : Nat} (h : k < l.length) : (arL l)[k]? = some [dI l[k].from_, dI l[k].sig, dT l[k].up, dI l[k].to_] := by rw [List.getElem?_map, List.getElem?_eq_getElem h]; rfl
theorem h_appendAr (acc new : List Ar) {s : ASt} {dst : Option Nat} {ty : Nat} {pos : String} {af : Array Edge} {gd : Option (Nat × Bool)} {x y : Operand} {f : Nat} {ids ids2 : List Nat} {gone : List (Nat × Option Chunk)}
  (hto : AppTo s x 75 4 (arL acc) ids gone) (harg : AppArg s y 4 (arL new) ids2) (h : (acc ++ new).length ≤ 100000000) (hnew : gone = [] → 0 < new.length) :
  NOp Tryz.prog (ids ++ ids2) s ⟨dst, .call { callee := .builtin .append, args := #[x, y], argTypes := #[66, 66] }, ty, pos, af, gd⟩ f ⟨.own f (acc ++ new).length, (f, some (.arr 75 4 (arL (acc ++ new)))) :: gone⟩ := by
 have := h_append (P := Tryz.prog) (s := s) (dst := dst) (ty := ty) (pos := pos) (af := af) (gd := gd) (x := x) (y := y) (f := f) (t := 66) (tx := 66) (k := (acc ++ new).length) rfl rfl rfl rfl rfl rfl hto harg (by simp) (by omega) (by show (acc ++ new).length * 32 ≤ _; omega) (fun h => by rw [arL_len]; exact hnew h)
 rwa [← List.map_append] at this
def arcOf (labs : List Lab) (v : Mv) : Ar := ⟨v.from_, (lAt labs v.by_.toNat).sig, (lAt labs v.by_.toNat).up, v.to_⟩
def arcsOf (s : Stg) (x : Ex) : List Ar := x.moves.map (arcOf s.labs)
theorem arcsOf_len (s : Stg) (x : Ex) : (arcsOf s x).length = x.moves.length := List.length_map _
theorem arcsOf_take {s : Stg} {x : Ex} {j : Nat} (h : j < x.moves.length) : (arcsOf s x).take (j + 1) = (arcsOf s x).take j ++ [arcOf s.labs x.moves[j]] := by
 unfold arcsOf
 rw [← List.map_take, List.take_add_one, List.getElem?_eq_getElem h, List.map_append, List.map_take]; rfl
set_option maxHeartbeats 4000000 in
theorem labArcs_spec (s : Stg) (x : Ex) (h2l : x.moves.length ≤ 1000000) (hb : ∀ v, v ∈ x.moves → 0 ≤ v.by_ ∧ v.by_ < s.labs.length) : ASpec Tryz.prog 134 [stgA s, rgA x] [] (Pure1 (.d (vArs (arcsOf s x)))) := by
 have hal := arcsOf_len s x
 have hat := fun j (hj : j < x.moves.length) => arcsOf_take (s := s) hj
 obtain ⟨A, hA⟩ : ∃ A, A = arcsOf s x := ⟨_, rfl⟩
 simp only [← hA] at hal hat ⊢
 clear hA
 refine ASpec.of Tryz.func134 rfl rfl fun C hC => ?_
 refine AC.seq (AC.region ?_)
 refine AL.q (by exact h_boxF rfl rfl) rfl ?_
 refine AL.q (by exact h_boxF rfl rfl) rfl ?_
 refine za ?_
 refine AL.nil (th_n (AC.seq (AC.region ?_)))
 refine AL.q (by exact h_lit rfl rfl rfl rfl rfl rfl rfl rfl) rfl ?_
 refine AL.p (by exact as2 rfl) rfl ?_
 refine AL.nil (th_n (AC.seq (AC.seq (AC.region ?_))))
 refine zf ?_
 refine zr ?_
 refine AL.p (by exact g_len_view (k := x.moves.length) rfl rfl (mvL_len _)) rfl ?_
 refine zm ?_
 refine AL.nil (th_n (AC.block ?_))
 refine AC.loop (ι := Nat) (fun j => ⟨37, 300, [(2, .d (.ref (stgD s))), (3, .d (.ref (rgD x))), (5, .own 100 j), (11, .d (vMvs x.moves)), (12, aI x.moves.length), (13, aI j)], [(100, some (.arr 75 4 (arL (A.take j))))]⟩) (fun j => j ≤ x.moves.length) (fun j => x.moves.length - j) (0) ?_ (Nat.zero_le _) ?_
 ·exact zw [(100, _)] hC
 ·intro j hj
  refine AC.seq (AC.region ?_)
  refine zc ?_
  refine AL.nil (th_n (AC.seq ?_))
  refine AC.condD rfl (fun h0 => ?_) (fun h0 => ?_)
  ·refine AC.skip (th_n (AC.seq (AC.block (AC.seq ?_))))
   have hj1 : j < x.moves.length := by omega
   have hget := mvL_get hj1
   have hbv := hb _ (List.getElem_mem hj1)
   have hst := hat j hj1
   have htl : (A.take j).length = j := by rw [List.length_take]; omega
   obtain ⟨v, hv⟩ : ∃ v, v = x.moves[j] := ⟨_, rfl⟩
   rw [← hv] at hget hbv hst
   clear hv
   obtain ⟨t, ht⟩ : ∃ t, t = v.by_.toNat := ⟨_, rfl⟩
   have e1 : v.by_ = (t : Int) := by omega
   unfold arcOf at hst
   rw [← ht] at hst
   rw [e1] at hget
   have hlt : t < s.labs.length := by omega
   have hgl : (labsL s.labs)[t]? = some [dI (lAt s.labs t).sig, dT (lAt s.labs t).up] := by rw [lAt_nat hlt, List.getElem?_map, List.getElem?_eq_getElem hlt]; rfl
   obtain ⟨l, hl⟩ : ∃ l, l = lAt s.labs t := ⟨_, rfl⟩
   rw [← hl] at hst hgl
   clear hl
   refine AC.region ?_
   refine AL.p (by exact g_ia_view rfl rfl rfl rfl rfl (by rfl) (by assumption)) rfl ?_
   refine AL.p (by exact g_load_refN rfl rfl rfl rfl) rfl ?_
   refine AL.q (by exact h_alloc rfl) rfl ?_
   refine zs ?_
   refine AL.nil (th_n (AC.seq (AC.region ?_)))
   refine zf ?_
   refine zr ?_
   refine zF ?_
   refine zl ?_
   refine AL.p (by exact g_ia_view (i := t) rfl rfl rfl rfl rfl rfl hgl) rfl ?_
   refine AL.p (by exact g_load_refN rfl rfl rfl rfl) rfl ?_
   refine AL.q (by exact h_alloc rfl) rfl ?_
   refine zs ?_
   refine AL.nil (th_n (AC.region ?_))
   refine AL.p (by exact mv2 rfl) rfl ?_
   refine zF ?_
   refine zl ?_
   refine zF ?_
   refine zl ?_
   refine zF ?_
   refine zl ?_
   refine zF ?_
   refine zl ?_
   refine AL.p (by exact g_build rfl rfl rfl) rfl ?_
   refine AL.q (by exact h_litF rfl rfl rfl rfl rfl rfl rfl rfl) rfl ?_
   refine AL.q (by exact h_appendAr (A.take j) [⟨v.from_, l.sig, l.up, v.to_⟩] (.own rfl rfl (by rw [arL_len, htl])) (.view rfl) (by rw [List.length_append, htl]; simp only [List.length_cons, List.length_nil]; omega) (by simp)) rfl ?_
   refine AL.p (by exact as2 rfl) rfl ?_
   refine AL.nil (ib_n (th_n (AC.region ?_)))
   refine zA ?_
   refine zm ?_
   refine AL.nil (th_n ?_)
   exact ⟨j + 1, by omega, by omega, zw [(100, _)] hC (by rw [List.length_append, htl]; repeat (first | exact True.intro | refine And.intro ?_ ?_ | exact DLead.same | exact rfl | refine ⟨_, rfl, ?_⟩)) (by rw [hst]; repeat (first | exact True.intro | refine And.intro ?_ ?_ | exact rfl | refine ⟨_, _, rfl, rfl, ?_⟩))⟩
  ·refine AC.exit (th_e (th_e (ib_y (th_n (AC.seq ?_)))))
   have hjj : j = x.moves.length := by omega
   rw [hjj, ← hal, List.take_length]
   refine AC.weak (Weak.freeze (i := 5) rfl rfl (Nat.le_of_eq (arL_len _).symm) (List.take_of_length_le (Nat.le_of_eq (arL_len _)))) ?_
   refine AC.region ?_
   refine zm ?_
   refine za ?_
   refine AL.nil (th_n (AC.ret (bq_r ?_)))
   exact ret1 rfl rfl
theorem en_labArcs : Enters Tryz.prog 134 := enters_of Tryz.func134 rfl rfl
def agB (a b : UInt8) : UInt8 × UInt8 × Bool × Bool := if a.toNat = b.toNat then (a, b, true, false) else if a.toNat = 0 then (b, b, true, true) else if b.toNat = 0 then (a, a, true, true) else (a, b, false, false)
theorem set_getD {m : List UInt8} {i : Nat} (h : i < m.length) : m.set i (m.getD i 0) = m := by rw [List.getD_eq_getElem?_getD, List.getElem?_eq_getElem h]; exact List.set_getElem_self ..
set_option maxHeartbeats 2000000 in
theorem agreedA_spec (m : List UInt8) (i : Nat) (b : UInt8) (hi : i < m.length) : ASpec Tryz.prog 197 [.ptr 0 i, .ptr 1 0] [(0, .arr 5 1 (byteEls m)), (1, .cells 5 [.d (dB b)])] (Fun1 (.tup [aT (agB (m.getD i 0) b).2.2.1, aT (agB (m.getD i 0) b).2.2.2]) [(0, .arr 5 1 (byteEls (m.set i (agB (m.getD i 0) b).1))), (1, .cells 5 [.d (dB (agB (m.getD i 0) b).2.1)])]) := by
 have hget := byteEls_get hi
 have hsg := set_getD hi
 obtain ⟨a, ha⟩ : ∃ a, a = m.getD i 0 := ⟨_, rfl⟩
 rw [← ha] at hget hsg ⊢
 clear ha
 have hag : agB a b = if a.toNat = b.toNat then (a, b, true, false) else if a.toNat = 0 then (b, b, true, true) else if b.toNat = 0 then (a, a, true, true) else (a, b, false, false) := rfl
 obtain ⟨r, hr⟩ : ∃ r, r = agB a b := ⟨_, rfl⟩
 rw [← hr] at hag ⊢
 clear hr
 refine ASpec.of Tryz.func197 rfl rfl fun C hC => ?_
 refine AC.seq (AC.region ?_)
 refine za ?_
 refine za ?_
 refine AL.nil (th_n (AC.seq (AC.block (AC.seq ?_))))
 refine AC.drawn' mixed_ok [[], [0], [0,1], [], [3], [3,4], [0,1,2,3,4,5], [0,1,2,3,4,5,6]] (by decide) ?_
 refine DF.op 0 [] 8 rfl rfl rfl (.free rfl (NOp.of (by exact mv3 rfl))) rfl ?_
 refine DF.op 1 [0] 8 rfl rfl rfl (.free rfl (NOp.of (by exact g_nilP rfl))) rfl ?_
 refine DF.op 2 [0,1] 8 rfl rfl rfl (.free rfl (NOp.of (by exact g_load_arr1 rfl rfl rfl rfl hget))) rfl ?_
 refine DF.op 3 [] 8 rfl rfl rfl (.free rfl (NOp.of (by exact mv3 rfl))) rfl ?_
 refine DF.op 4 [3] 8 rfl rfl rfl (.free rfl (NOp.of (by exact g_nilP rfl))) rfl ?_
 refine DF.op 5 [3,4] 8 rfl rfl rfl (.free rfl (NOp.of (by exact g_load_ptr rfl rfl rfl rfl rfl))) rfl ?_
 refine DF.op 6 [0,1,2,3,4,5] 8 rfl rfl rfl (.free rfl (NOp.of (by exact g_cmp rfl rfl rfl))) rfl ?_
 refine DF.op 7 [0,1,2,3,4,5,6] 8 rfl rfl rfl (.free rfl (NOp.of (by exact as1 rfl))) rfl ?_
 refine DF.fin (ps := [(0,3),(0,4),(0,5),(1,3),(1,4),(1,5),(2,3),(2,4),(2,5),(3,0),(3,1),(3,2),(4,0),(4,1),(4,2),(5,0),(5,1),(5,2)]) 8 rfl (by decide +kernel) (by decide +kernel) (by rfl) ?_
 refine th_n ?_
 refine AC.condD rfl (fun h0 => ?_) (fun h0 => ?_)
 ·refine AC.seq (AC.region ?_)
  refine za ?_
  refine za ?_
  refine AL.nil (th_n (AC.ret (ib_r (th_r (bq_r ?_)))))
  have e := hag.trans (if_pos (by omega))
  exact retN [] rfl (by rw [e]; show AV.leads _ (.tup [aT true, aT false]) _; repeat (first | exact DLead.same | exact rfl | refine ⟨_, rfl, ?_⟩ | refine ⟨_, _, rfl, ?_, ?_⟩)) (by rw [e]; dsimp only; rw [hsg]; repeat (first | exact True.intro | refine And.intro ?_ ?_ | exact DLead.same | exact rfl | refine ⟨_, _, rfl, rfl, ?_⟩ | refine ⟨_, rfl, ?_⟩ | refine ⟨_, _, rfl, ?_, ?_⟩)) rfl rfl
 ·refine AC.seq (AC.region ?_)
  refine AL.p (by exact mv3 rfl) rfl ?_
  refine AL.p (by exact g_nilP rfl) rfl ?_
  refine AL.p (by exact g_load_arr1 rfl rfl rfl rfl hget) rfl ?_
  refine zc ?_
  refine za ?_
  refine AL.nil (th_n ?_)
  refine AC.condD rfl (fun h1 => ?_) (fun h1 => ?_)
  ·refine AC.seq (AC.region ?_)
   refine AL.p (by exact mv3 rfl) rfl ?_
   refine AL.p (by exact mv3 rfl) rfl ?_
   refine AL.p (by exact g_nilP rfl) rfl ?_
   refine zl ?_
   refine AL.p (by exact g_nilP rfl) rfl ?_
   refine AL.q (by exact h_store_arr1 (d := dB b) rfl rfl rfl rfl .same hget) rfl ?_
   refine AL.nil (th_n (AC.seq (AC.region ?_)))
   refine za ?_
   refine za ?_
   refine AL.nil (th_n (AC.ret (ib_r (th_r (bq_r ?_)))))
   have e := hag.trans ((if_neg (by omega)).trans (if_pos (by omega)))
   exact retN [] rfl (by rw [e]; show AV.leads _ (.tup [aT true, aT true]) _; repeat (first | exact DLead.same | exact rfl | refine ⟨_, rfl, ?_⟩ | refine ⟨_, _, rfl, ?_, ?_⟩)) (by rw [e]; dsimp only; rw [← byteEls_set]; repeat (first | exact True.intro | refine And.intro ?_ ?_ | exact DLead.same | exact rfl | refine ⟨_, _, rfl, rfl, ?_⟩ | refine ⟨_, rfl, ?_⟩ | refine ⟨_, _, rfl, ?_, ?_⟩)) rfl rfl
  ·refine AC.seq (AC.region ?_)
   refine AL.p (by exact mv3 rfl) rfl ?_
   refine AL.p (by exact g_nilP rfl) rfl ?_
   refine zl ?_
   refine zc ?_
   refine za ?_
   refine AL.nil (th_n ?_)
   refine AC.condD rfl (fun h2 => ?_) (fun h2 => ?_)
   ·refine AC.seq (AC.region ?_)
    refine AL.p (by exact mv3 rfl) rfl ?_
    refine AL.p (by exact mv3 rfl) rfl ?_
    refine AL.p (by exact g_nilP rfl) rfl ?_
    refine AL.p (by exact g_load_arr1 rfl rfl rfl rfl hget) rfl ?_
    refine AL.p (by exact g_nilP rfl) rfl ?_
    refine zs ?_
    refine AL.nil (th_n (AC.seq (AC.region ?_)))
    refine za ?_
    refine za ?_
    refine AL.nil (th_n (AC.ret (ib_r (th_r (bq_r ?_)))))
    have e := hag.trans ((if_neg (by omega)).trans ((if_neg (by omega)).trans (if_pos (by omega))))
    exact retN [] rfl (by rw [e]; show AV.leads _ (.tup [aT true, aT true]) _; repeat (first | exact DLead.same | exact rfl | refine ⟨_, rfl, ?_⟩ | refine ⟨_, _, rfl, ?_, ?_⟩)) (by rw [e]; dsimp only; rw [hsg]; repeat (first | exact True.intro | refine And.intro ?_ ?_ | exact DLead.same | exact rfl | refine ⟨_, _, rfl, rfl, ?_⟩ | refine ⟨_, rfl, ?_⟩ | refine ⟨_, _, rfl, ?_, ?_⟩)) rfl rfl
   ·refine AC.skip (ib_n (th_n (AC.seq (AC.region ?_))))
    refine za ?_
    refine za ?_
    refine AL.nil (th_n (AC.ret (bq_r ?_)))
    have e := hag.trans ((if_neg (by omega)).trans ((if_neg (by omega)).trans (if_neg (by omega))))
    exact retN [] rfl (by rw [e]; show AV.leads _ (.tup [aT false, aT false]) _; repeat (first | exact DLead.same | exact rfl | refine ⟨_, rfl, ?_⟩ | refine ⟨_, _, rfl, ?_, ?_⟩)) (by rw [e]; dsimp only; rw [hsg]; repeat (first | exact True.intro | refine And.intro ?_ ?_ | exact DLead.same | exact rfl | refine ⟨_, _, rfl, rfl, ?_⟩ | refine ⟨_, rfl, ?_⟩ | refine ⟨_, _, rfl, ?_, ?_⟩)) rfl rfl
set_option maxHeartbeats 2000000 in
theorem agreedB_spec (m : List UInt8) (i j : Nat) (hi : i < m.length) (hj : j < m.length) : ASpec Tryz.prog 197 [.ptr 0 i, .ptr 0 j] [(0, .arr 5 1 (byteEls m))] (Fun1 (.tup [aT (agB (m.getD i 0) (m.getD j 0)).2.2.1, aT (agB (m.getD i 0) (m.getD j 0)).2.2.2]) [(0, .arr 5 1 (byteEls ((m.set i (agB (m.getD i 0) (m.getD j 0)).1).set j (agB (m.getD i 0) (m.getD j 0)).2.1)))]) := by
 have hget := byteEls_get hi
 have hgetj := byteEls_get hj
 have hsg := set_getD hi
 have hsgj := set_getD hj
 have hs2 : ∀ x : UInt8, (m.set i x).set j (m.getD j 0) = m.set i x ∨ i = j := fun x => by
  by_cases e : i = j
  ·exact .inr e
  ·left
   have : (m.set i x).getD j 0 = m.getD j 0 := by rw [List.getD_eq_getElem?_getD, List.getD_eq_getElem?_getD, List.getElem?_set_ne e]
   rw [← this]; exact set_getD (by simpa using hj)
 have hij : i = j → m.getD i 0 = m.getD j 0 := fun e => by rw [e]
 obtain ⟨a, ha⟩ : ∃ a, a = m.getD i 0 := ⟨_, rfl⟩
 rw [← ha] at hget hsg hij ⊢
 obtain ⟨b, hb⟩ : ∃ b, b = m.getD j 0 := ⟨_, rfl⟩
 rw [← hb] at hgetj hsgj hij ⊢
 simp only [← hb] at hs2
 clear ha hb
 have hag : agB a b = if a.toNat = b.toNat then (a, b, true, false) else if a.toNat = 0 then (b, b, true, true) else if b.toNat = 0 then (a, a, true, true) else (a, b, false, false) := rfl
 obtain ⟨r, hr⟩ : ∃ r, r = agB a b := ⟨_, rfl⟩
 rw [← hr] at hag ⊢
 clear hr
 refine ASpec.of Tryz.func197 rfl rfl fun C hC => ?_
 refine AC.seq (AC.region ?_)
 refine za ?_
 refine za ?_
 refine AL.nil (th_n (AC.seq (AC.block (AC.seq ?_))))
 refine AC.drawn' mixed_ok [[], [0], [0,1], [], [3], [3,4], [0,1,2,3,4,5], [0,1,2,3,4,5,6]] (by decide) ?_
 refine DF.op 0 [] 8 rfl rfl rfl (.free rfl (NOp.of (by exact mv3 rfl))) rfl ?_
 refine DF.op 1 [0] 8 rfl rfl rfl (.free rfl (NOp.of (by exact g_nilP rfl))) rfl ?_
 refine DF.op 2 [0,1] 8 rfl rfl rfl (.free rfl (NOp.of (by exact g_load_arr1 rfl rfl rfl rfl hget))) rfl ?_
 refine DF.op 3 [] 8 rfl rfl rfl (.free rfl (NOp.of (by exact mv3 rfl))) rfl ?_
 refine DF.op 4 [3] 8 rfl rfl rfl (.free rfl (NOp.of (by exact g_nilP rfl))) rfl ?_
 refine DF.op 5 [3,4] 8 rfl rfl rfl (.free rfl (NOp.of (by exact g_load_arr1 rfl rfl rfl rfl hgetj))) rfl ?_
 refine DF.op 6 [0,1,2,3,4,5] 8 rfl rfl rfl (.free rfl (NOp.of (by exact g_cmp rfl rfl rfl))) rfl ?_
 refine DF.op 7 [0,1,2,3,4,5,6] 8 rfl rfl rfl (.free rfl (NOp.of (by exact as1 rfl))) rfl ?_
 refine DF.fin (ps := [(0,3),(0,4),(0,5),(1,3),(1,4),(1,5),(2,3),(2,4),(2,5),(3,0),(3,1),(3,2),(4,0),(4,1),(4,2),(5,0),(5,1),(5,2)]) 8 rfl (by decide +kernel) (by decide +kernel) (by rfl) ?_
 refine th_n ?_
 refine AC.condD rfl (fun h0 => ?_) (fun h0 => ?_)
 ·refine AC.seq (AC.region ?_)
  refine za ?_
  refine za ?_
  refine AL.nil (th_n (AC.ret (ib_r (th_r (bq_r ?_)))))
  have e := hag.trans (if_pos (by omega))
  exact retN [] rfl (by rw [e]; show AV.leads _ (.tup [aT true, aT false]) _; repeat (first | exact DLead.same | exact rfl | refine ⟨_, rfl, ?_⟩ | refine ⟨_, _, rfl, ?_, ?_⟩)) (by rw [e]; dsimp only; rw [hsg, hsgj]; repeat (first | exact True.intro | refine And.intro ?_ ?_ | exact rfl | refine ⟨_, _, rfl, rfl, ?_⟩)) rfl rfl
 ·refine AC.seq (AC.region ?_)
  refine AL.p (by exact mv3 rfl) rfl ?_
  refine AL.p (by exact g_nilP rfl) rfl ?_
  refine AL.p (by exact g_load_arr1 rfl rfl rfl rfl hget) rfl ?_
  refine zc ?_
  refine za ?_
  refine AL.nil (th_n ?_)
  refine AC.condD rfl (fun h1 => ?_) (fun h1 => ?_)
  ·refine AC.seq (AC.region ?_)
   refine AL.p (by exact mv3 rfl) rfl ?_
   refine AL.p (by exact mv3 rfl) rfl ?_
   refine AL.p (by exact g_nilP rfl) rfl ?_
   refine AL.p (by exact g_load_arr1 rfl rfl rfl rfl hgetj) rfl ?_
   refine AL.p (by exact g_nilP rfl) rfl ?_
   refine AL.q (by exact h_store_arr1 (d := dB b) rfl rfl rfl rfl .same hget) rfl ?_
   refine AL.nil (th_n (AC.seq (AC.region ?_)))
   refine za ?_
   refine za ?_
   refine AL.nil (th_n (AC.ret (ib_r (th_r (bq_r ?_)))))
   have hne : i ≠ j := fun q => by have := hij q; subst this; omega
   have e := hag.trans ((if_neg (by omega)).trans (if_pos (by omega)))
   exact retN [] rfl (by rw [e]; show AV.leads _ (.tup [aT true, aT true]) _; repeat (first | exact DLead.same | exact rfl | refine ⟨_, rfl, ?_⟩ | refine ⟨_, _, rfl, ?_, ?_⟩)) (by rw [e]; dsimp only; rw [(hs2 b).resolve_right hne, ← byteEls_set]; repeat (first | exact True.intro | refine And.intro ?_ ?_ | exact rfl | refine ⟨_, _, rfl, rfl, ?_⟩)) rfl rfl
  ·refine AC.seq (AC.region ?_)
   refine AL.p (by exact mv3 rfl) rfl ?_
   refine AL.p (by exact g_nilP rfl) rfl ?_
   refine AL.p (by exact g_load_arr1 rfl rfl rfl rfl hgetj) rfl ?_
   refine zc ?_
   refine za ?_
   refine AL.nil (th_n ?_)
   refine AC.condD rfl (fun h2 => ?_) (fun h2 => ?_)
   ·refine AC.seq (AC.region ?_)
    refine AL.p (by exact mv3 rfl) rfl ?_
    refine AL.p (by exact mv3 rfl) rfl ?_
    refine AL.p (by exact g_nilP rfl) rfl ?_
    refine AL.p (by exact g_load_arr1 rfl rfl rfl rfl hget) rfl ?_
    refine AL.p (by exact g_nilP rfl) rfl ?_
    refine AL.q (by exact h_store_arr1 (d := dB a) rfl rfl rfl rfl .same hgetj) rfl ?_
    refine AL.nil (th_n (AC.seq (AC.region ?_)))
    refine za ?_
    refine za ?_
    refine AL.nil (th_n (AC.ret (ib_r (th_r (bq_r ?_)))))
    have e := hag.trans ((if_neg (by omega)).trans ((if_neg (by omega)).trans (if_pos (by omega))))
    exact retN [] rfl (by rw [e]; show AV.leads _ (.tup [aT true, aT true]) _; repeat (first | exact DLead.same | exact rfl | refine ⟨_, rfl, ?_⟩ | refine ⟨_, _, rfl, ?_, ?_⟩)) (by rw [e]; dsimp only; rw [hsg, ← byteEls_set]; repeat (first | exact True.intro | refine And.intro ?_ ?_ | exact rfl | refine ⟨_, _, rfl, rfl, ?_⟩)) rfl rfl
   ·refine AC.skip (ib_n (th_n (AC.seq (AC.region ?_))))
    refine za ?_
    refine za ?_
    refine AL.nil (th_n (AC.ret (bq_r ?_)))
    have e := hag.trans ((if_neg (by omega)).trans ((if_neg (by omega)).trans (if_neg (by omega))))
    exact retN [] rfl (by rw [e]; show AV.leads _ (.tup [aT false, aT false]) _; repeat (first | exact DLead.same | exact rfl | refine ⟨_, rfl, ?_⟩ | refine ⟨_, _, rfl, ?_, ?_⟩)) (by rw [e]; dsimp only; rw [hsg, hsgj]; repeat (first | exact True.intro | refine And.intro ?_ ?_ | exact rfl | refine ⟨_, _, rfl, rfl, ?_⟩)) rfl rfl
theorem en_agreed : Enters Tryz.prog 197 := enters_of Tryz.func197 rfl rfl
def encI : Option Bool → UInt8 | none => 0 | some b => bitLb b
def encV (V : List (Option Bool)) : List UInt8 := V.map encI
def chB : Option Bool → UInt8 | none => 48 | some b => bitLb b
theorem encV_len (V : List (Option Bool)) : (encV V).length = V.length := List.length_map _
theorem encV_get {V : List (Option Bool)} {i : Nat} (h : i < V.length) : (encV V).getD i 0 = encI (vAt V i) := by
 unfold encV
 rw [List.getD_eq_getElem?_getD, List.getElem?_map, List.getElem?_eq_getElem h, vAt_get h]; rfl
theorem encV_set (V : List (Option Bool)) (i : Nat) (x : Option Bool) : encV (V.set i x) = (encV V).set i (encI x) := by unfold encV; rw [List.map_set]
theorem agB_0 (b : Bool) : agB 0 (bitLb b) = (bitLb b, bitLb b, true, true) := by cases b <;> rfl
theorem agB_1 (b : Bool) : agB (bitLb b) 0 = (bitLb b, bitLb b, true, true) := by cases b <;> rfl
theorem agB_s (b : UInt8) : agB b b = (b, b, true, false) := by unfold agB; rw [if_pos rfl]
theorem agB_n (b : Bool) : agB (bitLb (!b)) (bitLb b) = (bitLb (!b), bitLb b, false, false) := by cases b <;> rfl
theorem put_ag {V : List (Option Bool)} {i : Nat} {b : Bool} (hi : i < V.length) :
  ((agB ((encV V).getD i 0) (bitLb b)).2.2.1 = true → ∃ W, putV V i b = some W ∧ (encV V).set i (agB ((encV V).getD i 0) (bitLb b)).1 = encV W ∧ Ups V W ∧ ((agB ((encV V).getD i 0) (bitLb b)).2.2.2 = true → cnN W < cnN V) ∧ ((agB ((encV V).getD i 0) (bitLb b)).2.2.2 = false → W = V)) ∧
  ((agB ((encV V).getD i 0) (bitLb b)).2.2.1 = false → putV V i b = none) := by
 have hset := encV_set V i
 rw [encV_get hi]
 unfold putV
 cases e : vAt V i with
 | none =>
  rw [show encI none = 0 from rfl, agB_0]
  refine ⟨fun _ => ⟨_, rfl, by rw [hset]; rfl, Ups.set hi e b, fun _ => by have := cnN_set (b := b) hi e; omega, fun h => (by cases h)⟩, fun h => (by cases h)⟩
 | some x =>
  by_cases q : x = b
  ·subst q
   rw [show encI (some x) = bitLb x from rfl, agB_s]
   refine ⟨fun _ => ⟨V, by simp, ?_, Ups.refl V, fun h => (by cases h), fun _ => rfl⟩, fun h => (by cases h)⟩
   have := hset (some x)
   rw [set_same hi e] at this
   exact this.symm
  ·have q2 := nb_ne _ q
   subst q2
   rw [show encI (some (!b)) = bitLb (!b) from rfl, agB_n]
   exact ⟨fun h => (by cases h), fun _ => (by simp)⟩
theorem join_ag {V : List (Option Bool)} {i j : Nat} (hi : i < V.length) (hj : j < V.length) :
  ((agB ((encV V).getD i 0) ((encV V).getD j 0)).2.2.1 = true → ∃ W, joinV V i j = some W ∧ ((encV V).set i (agB ((encV V).getD i 0) ((encV V).getD j 0)).1).set j (agB ((encV V).getD i 0) ((encV V).getD j 0)).2.1 = encV W ∧ Ups V W ∧ ((agB ((encV V).getD i 0) ((encV V).getD j 0)).2.2.2 = true → cnN W < cnN V) ∧ ((agB ((encV V).getD i 0) ((encV V).getD j 0)).2.2.2 = false → W = V)) ∧
  ((agB ((encV V).getD i 0) ((encV V).getD j 0)).2.2.1 = false → joinV V i j = none) := by
 have hsi := encV_set V i
 have hsj := encV_set V j
 have hss : ∀ x y, (V.set i x).set j y = (V.set i x).set j y := fun _ _ => rfl
 rw [encV_get hi, encV_get hj]
 unfold joinV
 cases e1 : vAt V i with
 | none =>
  cases e2 : vAt V j with
  | none =>
   rw [show encI none = 0 from rfl, agB_s]
   refine ⟨fun _ => ⟨V, rfl, ?_, Ups.refl V, fun h => (by cases h), fun _ => rfl⟩, fun h => (by cases h)⟩
   have h1 := hsi none
   rw [set_same hi e1] at h1
   have h2 := hsj none
   rw [set_same hj e2] at h2
   rw [show (0 : UInt8) = encI none from rfl, ← h1, ← h2]
  | some y =>
   rw [show encI none = 0 from rfl, show encI (some y) = bitLb y from rfl, agB_0]
   refine ⟨fun _ => ⟨_, rfl, ?_, Ups.set hi e1 y, fun _ => by have := cnN_set (b := y) hi e1; omega, fun h => (by cases h)⟩, fun h => (by cases h)⟩
   have hij : j ≠ i := fun q => by rw [q, e1] at e2; cases e2
   have h1 := encV_set (V.set i (some y)) j (some y)
   rw [set_same (by simpa using hj) (by rw [vAt_set, if_neg (fun q => hij q.1)]; exact e2), hsi] at h1
   rw [hsi]
   exact h1.symm
 | some x =>
  cases e2 : vAt V j with
  | none =>
   rw [show encI none = 0 from rfl, show encI (some x) = bitLb x from rfl, agB_1]
   refine ⟨fun _ => ⟨_, rfl, ?_, Ups.set hj e2 x, fun _ => by have := cnN_set (b := x) hj e2; omega, fun h => (by cases h)⟩, fun h => (by cases h)⟩
   have h1 := hsi (some x)
   rw [set_same hi e1] at h1
   rw [hsj]
   show ((encV V).set i (encI (some x))).set j _ = _
   rw [← h1]; rfl
  | some y =>
   by_cases q : x = y
   ·subst q
    rw [agB_s]
    refine ⟨fun _ => ⟨V, by simp, ?_, Ups.refl V, fun h => (by cases h), fun _ => rfl⟩, fun h => (by cases h)⟩
    have h1 := hsi (some x)
    rw [set_same hi e1] at h1
    have h2 := hsj (some x)
    rw [set_same hj e2] at h2
    rw [← h1, ← h2]
   ·have q2 := nb_ne _ q
    subst q2
    rw [show encI (some (!y)) = bitLb (!y) from rfl, show encI (some y) = bitLb y from rfl, agB_n]
    exact ⟨fun h => (by cases h), fun _ => (by simp)⟩
def valB (sg : Int) (L : List Ar) (n : Nat) : List UInt8 × Bool := match valF sg L n with | some V => (V.map chB, true) | none => ([], false)
def mixQ (V : List (Option Bool)) (i : Nat) : List UInt8 := (V.take i).map chB ++ (V.drop i).map encI
theorem mixQ_zero (V : List (Option Bool)) : mixQ V 0 = encV V := by unfold mixQ encV; simp
theorem mixQ_all (V : List (Option Bool)) : mixQ V V.length = V.map chB := by unfold mixQ; simp
theorem mixQ_len (V : List (Option Bool)) (i : Nat) : (mixQ V i).length = V.length := by unfold mixQ; simp; omega
theorem mixQ_get {V : List (Option Bool)} {i : Nat} (h : i < V.length) : (mixQ V i).getD i 0 = encI (vAt V i) := by
 unfold mixQ
 rw [List.getD_eq_getElem?_getD, List.getElem?_append_right (by simp; omega), List.length_map, List.length_take, Nat.min_eq_left (by omega), Nat.sub_self, List.getElem?_map, List.getElem?_drop, Nat.add_zero, List.getElem?_eq_getElem h, vAt_get h]; rfl
theorem mixQ_set {V : List (Option Bool)} {i : Nat} (h : i < V.length) : (mixQ V i).set i (chB (vAt V i)) = mixQ V (i + 1) := by
 unfold mixQ
 rw [List.drop_eq_getElem_cons h, List.take_add_one, List.getElem?_eq_getElem h, List.map_cons, List.set_append_right _ _ (by simp; omega), List.length_map, List.length_take, Nat.min_eq_left (by omega), Nat.sub_self, List.set_cons_zero, List.map_append, List.append_assoc, vAt_get h]; rfl
theorem byteEls_rep (n : Nat) : List.replicate n (([ZK.int .u8] : List ZK).map fun z => DV.val z.val) = byteEls (encV (List.replicate n none)) := by unfold encV byteEls; rw [List.map_replicate, List.map_replicate]; rfl
set_option maxHeartbeats 32000000 in
theorem valuesOf_spec (sg : Int) (L : List Ar) (n : Nat) (hn : n ≤ 100000) (hLl : L.length ≤ 1000000) (hL : ∀ a, a ∈ L → ArIn n a) : ASpec Tryz.prog 135 [aI n, .d (vArs L), aI sg] [] (Pure1 (.tup [.d (.view 5 1 (byteEls (valB sg L n).1)), aT (valB sg L n).2])) := by
 have hF : valF sg L n = iterV sg L (n + 1) (List.replicate n none) := rfl
 have hcn0 : cnN (List.replicate n (none : Option Bool)) ≤ n := by unfold cnN; exact Nat.le_trans List.countP_le_length (by simp)
 have hR : valB sg L n = match valF sg L n with | some V => (V.map chB, true) | none => ([], false) := rfl
 obtain ⟨F, hFF⟩ : ∃ F, F = valF sg L n := ⟨_, rfl⟩
 rw [← hFF] at hF hR
 obtain ⟨R, hRR⟩ : ∃ R, R = valB sg L n := ⟨_, rfl⟩
 rw [← hRR] at hR ⊢
 have hRn : F = none → R = ([], false) := fun q => by rw [hR, q]
 have hRs : ∀ V, F = some V → R = (V.map chB, true) := fun V q => by rw [hR, q]
 clear hFF hRR hR
 refine ASpec.of Tryz.func135 rfl rfl fun C hC => ?_
 refine AC.seq (AC.region ?_)
 refine za ?_
 refine za ?_
 refine AL.nil (th_n (AC.seq (AC.region ?_)))
 refine zm ?_
 refine AL.q (by exact h_make (k := n) rfl rfl rfl rfl rfl rfl rfl rfl (by show 1 * n ≤ _; omega) (by omega)) rfl ?_
 rw [show (List.replicate n (([ZK.int .u8] : List ZK).map fun z => DV.val z.val)) = byteEls (encV (List.replicate n none)) from byteEls_rep n]
 refine AL.p (by exact as2 rfl) rfl ?_
 refine AL.nil (th_n (AC.seq (AC.seq (AC.region ?_))))
 refine za ?_
 refine AL.nil (th_n (AC.block ?_))
 refine AC.loop (ι := List (Option Bool) × Bool × Nat) (fun y => ⟨102, 600, [(1, .d (vArs L)), (2, aI sg), (8, .own 100 n), (9, aT y.2.1)], [(100, some (.arr 5 1 (byteEls (encV y.1))))]⟩) (fun y => y.1.length = n ∧ iterV sg L y.2.2 y.1 = F ∧ (y.2.1 = true → cnN y.1 + 1 ≤ y.2.2) ∧ (y.2.1 = false → passV sg L y.1 = some y.1)) (fun y => 2 * cnN y.1 + (if y.2.1 = true then 1 else 0)) ((List.replicate n none, true, n + 1)) ?_ (⟨by simp, hF.symm, fun _ => by dsimp only; omega, fun h => (by cases h)⟩) ?_
 ·exact zw [(100, _)] hC
 ·rintro ⟨V, ch, r⟩ ⟨hVl, hit, hc1, hc0⟩
  dsimp only at hVl hit hc1 hc0 ⊢
  refine AC.seq (AC.seq (AC.region ?_))
  refine zm ?_
  refine AL.nil (th_n ?_)
  refine AC.condB rfl (fun h0 => ?_) (fun h0 => ?_)
  ·refine AC.skip (th_n (AC.block (AC.seq ?_)))
   have hch : ch = true := ‹ch = true›
   have hr := hc1 hch
   subst hch
   refine AC.region ?_
   refine za ?_
   refine AL.nil (th_n (AC.seq (AC.region ?_)))
   refine zm ?_
   refine AL.p (by exact g_len_view (k := L.length) rfl rfl (arL_len _)) rfl ?_
   refine zm ?_
   refine AL.nil (th_n (AC.block ?_))
   refine AC.loop (ι := Nat × List (Option Bool) × Bool) (fun y => ⟨102, 900, [(1, .d (vArs L)), (2, aI sg), (8, .own 100 n), (9, aT y.2.2), (27, .d (vArs L)), (28, aI L.length), (29, aI y.1)], [(100, some (.arr 5 1 (byteEls (encV y.2.1))))]⟩) (fun y => y.1 ≤ L.length ∧ y.2.1.length = n ∧ passV sg (L.drop y.1) y.2.1 = passV sg L V ∧ ((y.2.2 = false ∧ y.2.1 = V) ∨ (y.2.2 = true ∧ cnN y.2.1 < cnN V))) (fun y => L.length - y.1) ((0, V, false)) ?_ (⟨Nat.zero_le _, hVl, rfl, .inl ⟨rfl, rfl⟩⟩) ?_
   ·exact zw [(100, 100)] hC
   ·rintro ⟨j, W, c2⟩ ⟨hj, hWl, hps, hcc⟩
    dsimp only at hj hWl hps hcc ⊢
    refine AC.seq (AC.region ?_)
    refine zc ?_
    refine AL.nil (th_n (AC.seq ?_))
    refine AC.condD rfl (fun h1 => ?_) (fun h1 => ?_)
    ·refine AC.skip (th_n (AC.seq (AC.block (AC.seq ?_))))
     have hj1 : j < L.length := by omega
     have hget := arL_get hj1
     have haI := hL _ (List.getElem_mem hj1)
     rw [List.drop_eq_getElem_cons hj1, passV] at hps
     obtain ⟨a, ha⟩ : ∃ a, a = L[j] := ⟨_, rfl⟩
     rw [← ha] at hget haI hps
     clear ha
     obtain ⟨hf1, ht1⟩ := haI
     obtain ⟨f, hf⟩ : ∃ f, f = a.from_.toNat := ⟨_, rfl⟩
     obtain ⟨t, ht⟩ : ∃ t, t = a.to_.toNat := ⟨_, rfl⟩
     have e1 : a.from_ = (f : Int) := by omega
     have e2 : a.to_ = (t : Int) := by omega
     have hfn : f < n := by omega
     have htn : t < n := by omega
     rw [e1, e2] at hget
     have hst : stepV sg a W = if a.sig = sg then (putV W f (!a.up)).bind (fun Z => putV Z t a.up) else joinV W f t := by unfold stepV; rw [hf, ht]
     have hel := encV_len W
     refine AC.region ?_
     refine AL.p (by exact g_ia_view rfl rfl rfl rfl rfl (by rfl) (by assumption)) rfl ?_
     refine AL.p (by exact g_load_refN rfl rfl rfl rfl) rfl ?_
     refine AL.q (by exact h_alloc rfl) rfl ?_
     refine zs ?_
     refine AL.nil (th_n (AC.seq ?_))
     refine AC.drawn' mixed_ok [[], [], [1], [0,1,2], [], [], [5], [4,5,6], [0,1,2,3], [0,1,2,3,4,5,6,7,8]] (by decide) ?_
     refine DF.op 0 [] 10 rfl rfl rfl (.free rfl (NOp.of (by exact mv2 rfl))) rfl ?_
     refine DF.op 1 [] 10 rfl rfl rfl (.free rfl (NOp.of (by exact g_fa_ptr rfl rfl rfl rfl rfl))) rfl ?_
     refine DF.op 2 [1] 10 rfl rfl rfl (.free rfl (NOp.of (by exact g_load_ptr rfl rfl rfl rfl rfl))) rfl ?_
     refine DF.op 3 [0,1,2] 10 rfl rfl rfl (.free rfl (NOp.of (by exact g_ia_own (i := f) (l := n) (k := f) rfl rfl rfl rfl rfl rfl hfn (Nat.mul_one f)))) rfl ?_
     refine DF.op 4 [] 10 rfl rfl rfl (.free rfl (NOp.of (by exact mv2 rfl))) rfl ?_
     refine DF.op 5 [] 10 rfl rfl rfl (.free rfl (NOp.of (by exact g_fa_ptr rfl rfl rfl rfl rfl))) rfl ?_
     refine DF.op 6 [5] 10 rfl rfl rfl (.free rfl (NOp.of (by exact g_load_ptr rfl rfl rfl rfl rfl))) rfl ?_
     refine DF.op 7 [4,5,6] 10 rfl rfl rfl (.free rfl (NOp.of (by exact g_ia_own (i := t) (l := n) (k := t) rfl rfl rfl rfl rfl rfl htn (Nat.mul_one t)))) rfl ?_
     refine DF.op 8 [0,1,2,3] 10 rfl rfl rfl (.free rfl (NOp.of (by exact as3 rfl))) rfl ?_
     refine DF.op 9 (List.range 9) 10 rfl rfl rfl (.free rfl (NOp.of (by exact as3 rfl))) rfl ?_
     refine DF.fin (ps := [(0,1),(0,2),(0,4),(0,5),(0,6),(0,7),(1,0),(1,4),(1,5),(1,6),(1,7),(2,0),(2,4),(2,5),(2,6),(2,7),(3,4),(3,5),(3,6),(3,7),(4,0),(4,1),(4,2),(4,3),(4,5),(4,6),(4,8),(5,0),(5,1),(5,2),(5,3),(5,4),(5,8),(6,0),(6,1),(6,2),(6,3),(6,4),(6,8),(7,0),(7,1),(7,2),(7,3),(7,8),(8,4),(8,5),(8,6),(8,7)]) 10 rfl (by decide +kernel) (by decide +kernel) (by rfl) ?_
     refine th_n (AC.seq (AC.seq (AC.region ?_)))
     refine zF ?_
     refine zl ?_
     refine zm ?_
     refine zc ?_
     refine AL.nil (th_n ?_)
     refine AC.condD rfl (fun h2 => ?_) (fun h2 => ?_)
     ·refine AC.seq ?_
      have hsig : a.sig = sg := ‹a.sig = sg›
      rw [if_pos hsig] at hst
      refine AC.drawn' mixed_ok [[], [0], [0,1], [0,1,2], [], [4], [0,1,2,3,4,5], [], [], [0,1,2,3,4,5,6,7,8], [0,1,2,3,4,5,6,7,8,9]] (by decide) ?_
      refine DF.op 0 [] 11 rfl rfl rfl (.free rfl (NOp.of (by exact g_fa_ptr rfl rfl rfl rfl rfl))) rfl ?_
      refine DF.op 1 [0] 11 rfl rfl rfl (.free rfl (NOp.of (by exact g_load_ptr rfl rfl rfl rfl rfl))) rfl ?_
      refine DF.op 2 [0,1] 11 rfl rfl rfl (.free rfl (NOp.of (by exact g_not rfl))) rfl ?_
      refine DF.op 3 [0,1,2] 11 rfl rfl rfl (.free rfl (by exact h_pure en_iBit rfl rfl (by repeat (first | exact rfl | exact DLead.same | refine ⟨_, _, rfl, ?_, ?_⟩)) (iBit_spec (!a.up)) rfl)) rfl ?_
      refine DF.op 4 [] 11 rfl rfl rfl (.free rfl (NOp.of (by exact g_fa_ptr rfl rfl rfl rfl rfl))) rfl ?_
      refine DF.op 5 [4] 11 rfl rfl rfl (.free rfl (NOp.of (by exact g_load_ptr rfl rfl rfl rfl rfl))) rfl ?_
      refine DF.op 6 [0,1,2,3,4,5] 11 rfl rfl rfl (.free rfl (by exact h_pure en_iBit rfl rfl (by repeat (first | exact rfl | exact DLead.same | refine ⟨_, _, rfl, ?_, ?_⟩)) (iBit_spec a.up) rfl)) rfl ?_
      refine DF.op 7 [] 11 rfl rfl rfl (.free rfl (by exact h_alloc rfl)) rfl ?_
      refine DF.op 8 [] 11 rfl rfl rfl (.free rfl (by exact h_alloc rfl)) rfl ?_
      refine DF.op 9 (List.range 9) 11 rfl rfl rfl (.free rfl (by exact h_store rfl rfl rfl rfl rfl rfl)) rfl ?_
      refine DF.op 10 (List.range 10) 11 rfl rfl rfl (.free rfl (by exact h_store rfl rfl rfl rfl rfl rfl)) rfl ?_
      refine DF.fin (ps := [(0,4),(0,5),(0,7),(0,8),(1,4),(1,5),(1,7),(1,8),(2,4),(2,5),(2,7),(2,8),(3,4),(3,5),(3,7),(3,8),(4,0),(4,1),(4,2),(4,3),(4,7),(4,8),(5,0),(5,1),(5,2),(5,3),(5,7),(5,8),(6,7),(6,8),(7,0),(7,1),(7,2),(7,3),(7,4),(7,5),(7,6),(7,8),(8,0),(8,1),(8,2),(8,3),(8,4),(8,5),(8,6),(8,7)]) 11 rfl (by decide +kernel) (by decide +kernel) (by rfl) ?_
      refine th_n (AC.seq ?_)
      refine AC.weak (t := ⟨102, 1200, [(1, .d (vArs L)), (2, aI sg), (8, .own 100 n), (9, aT c2), (12, .ptr 100 f), (13, .ptr 100 t), (14, .ptr 201 0), (15, .ptr 202 0), (27, .d (vArs L)), (28, aI L.length), (29, aI j)], [(100, some (.arr 5 1 (byteEls (encV W)))), (201, some (.cells 5 [.d (dB (bitLb (!a.up)))])), (202, some (.cells 5 [.d (dB (bitLb a.up))]))]⟩) (zw [(100, 100), (201, _), (202, _)] hC) ?_
      have hA1 := agreedA_spec (encV W) f (bitLb (!a.up)) (by omega)
      obtain ⟨hp1, hp2⟩ := put_ag (V := W) (i := f) (b := !a.up) (by omega)
      obtain ⟨r1, hr1⟩ : ∃ r1, r1 = agB ((encV W).getD f 0) (bitLb (!a.up)) := ⟨_, rfl⟩
      rw [← hr1] at hA1 hp1 hp2
      clear hr1
      obtain ⟨m1, hm1⟩ : ∃ m1, m1 = (encV W).set f r1.1 := ⟨_, rfl⟩
      have hm1l : m1.length = n := by rw [hm1, List.length_set, hel, hWl]
      rw [← hm1] at hA1 hp1
      have hA2 := agreedA_spec m1 t (bitLb a.up) (by omega)
      have hq := fun (Z : List (Option Bool)) (hZ : m1 = encV Z) (hZl : Z.length = n) => put_ag (V := Z) (i := t) (b := a.up) (by omega)
      obtain ⟨r2, hr2⟩ : ∃ r2, r2 = agB (m1.getD t 0) (bitLb a.up) := ⟨_, rfl⟩
      rw [← hr2] at hA2
      have hq2 : ∀ Z, m1 = encV Z → Z.length = n → (r2.2.2.1 = true → ∃ Y, putV Z t a.up = some Y ∧ m1.set t r2.1 = encV Y ∧ Ups Z Y ∧ (r2.2.2.2 = true → cnN Y < cnN Z) ∧ (r2.2.2.2 = false → Y = Z)) ∧ (r2.2.2.1 = false → putV Z t a.up = none) := fun Z hZ hZl => by have h := hq Z hZ hZl; rw [← hZ, ← hr2] at h; exact h
      clear hr2 hm1 hq
      refine AC.region ?_
      refine AL.p (by exact mv3 rfl) rfl ?_
      refine AL.q (by exact h_fun (cs := [100, 201]) en_agreed rfl rfl (by repeat (first | exact rfl | refine ⟨_, _, rfl, ?_, ?_⟩ | refine ⟨_, rfl, ?_⟩)) (by repeat (first | exact True.intro | refine And.intro ?_ ?_ | exact DLead.same | exact rfl | refine ⟨_, _, rfl, rfl, ?_⟩ | refine ⟨_, rfl, ?_⟩ | refine ⟨_, _, rfl, ?_, ?_⟩)) hA1 rfl rfl rfl rfl) rfl ?_
      refine AL.p (by exact mv5 rfl) rfl ?_
      refine AL.p (by exact g_extract (r := .d _) rfl rfl) rfl ?_
      refine AL.p (by exact g_extract (r := .d _) rfl rfl) rfl ?_
      refine za ?_
      refine za ?_
      refine AL.nil (th_n (AC.seq (AC.region ?_)))
      refine AL.p (by exact mv3 rfl) rfl ?_
      refine AL.q (by exact h_fun (cs := [100, 202]) en_agreed rfl rfl (by repeat (first | exact rfl | refine ⟨_, _, rfl, ?_, ?_⟩ | refine ⟨_, rfl, ?_⟩)) (by repeat (first | exact True.intro | refine And.intro ?_ ?_ | exact DLead.same | exact rfl | refine ⟨_, _, rfl, rfl, ?_⟩ | refine ⟨_, rfl, ?_⟩ | refine ⟨_, _, rfl, ?_, ?_⟩)) hA2 rfl rfl rfl rfl) rfl ?_
      refine AL.p (by exact mv5 rfl) rfl ?_
      refine AL.p (by exact g_extract (r := .d _) rfl rfl) rfl ?_
      refine AL.p (by exact g_extract (r := .d _) rfl rfl) rfl ?_
      refine za ?_
      refine za ?_
      refine AL.nil (th_n (AC.seq (AC.seq (AC.region ?_))))
      refine zm ?_
      refine AL.p (by exact g_not rfl) rfl ?_
      refine zm ?_
      refine AL.caseGB rfl rfl (fun h3 => ?_) (fun h3 => ?_)
      ·refine zn ?_
       refine zn ?_
       refine zQ ?_
       refine AL.nil (th_n ?_)
       refine AC.condT rfl ?_
       refine AC.seq (AC.region ?_)
       refine za ?_
       refine za ?_
       refine AL.nil (th_n (AC.ret (th_r (th_r (ib_r (th_r (th_r (ib_r (ib_r (th_r (ib_r (th_r (bq_r ?_)))))))))))))
       have hsn : stepV sg a W = none := by rw [hst]; cases hb1 : r1.2.2.1 with | false => rw [hp2 hb1]; rfl | true => obtain ⟨Z, hZ1, hZ2, hZ3, _⟩ := hp1 hb1; rw [hZ1, Option.bind_some]; exact (hq2 Z hZ2 (hZ3.1.trans hWl)).2 (by (exfalso; have q := ‹(!r1.2.2.1) = true›; rw [hb1] at q; cases q))
       have hpn : passV sg L V = none := by rw [← hps, hsn]; rfl
       have e := hRn (by rw [← hit]; exact iterV_fail hpn (by omega))
       exact ret0 rfl (by rw [e]; show AV.leads _ (.tup [.d (.view 5 1 []), aT false]) _; repeat (first | exact DLead.same | exact DLead.nil | exact rfl | refine ⟨_, rfl, ?_⟩ | refine ⟨_, _, rfl, ?_, ?_⟩))
      ·refine zy ?_
       refine zm ?_
       refine zy ?_
       refine AL.p (by exact g_not rfl) rfl ?_
       refine zP ?_
       refine AL.nil (th_n ?_)
       refine AC.condB rfl (fun h4 => ?_) (fun h4 => ?_)
       ·refine AC.seq (AC.region ?_)
        refine za ?_
        refine za ?_
        refine AL.nil (th_n (AC.ret (th_r (th_r (ib_r (th_r (th_r (ib_r (ib_r (th_r (ib_r (th_r (bq_r ?_)))))))))))))
        have hsn : stepV sg a W = none := by rw [hst]; cases hb1 : r1.2.2.1 with | false => rw [hp2 hb1]; rfl | true => obtain ⟨Z, hZ1, hZ2, hZ3, _⟩ := hp1 hb1; rw [hZ1, Option.bind_some]; exact (hq2 Z hZ2 (hZ3.1.trans hWl)).2 (by (have q := ‹(!r2.2.2.1) = true›; simpa using q))
        have hpn : passV sg L V = none := by rw [← hps, hsn]; rfl
        have e := hRn (by rw [← hit]; exact iterV_fail hpn (by omega))
        exact ret0 rfl (by rw [e]; show AV.leads _ (.tup [.d (.view 5 1 []), aT false]) _; repeat (first | exact DLead.same | exact DLead.nil | exact rfl | refine ⟨_, rfl, ?_⟩ | refine ⟨_, _, rfl, ?_, ?_⟩))
       ·refine AC.skip (th_n (AC.seq ?_))
        have ho1 : r1.2.2.1 = true := by simpa using ‹(!r1.2.2.1) = false›
        have ho2 : r2.2.2.1 = true := by simpa using ‹(!r2.2.2.1) = false›
        obtain ⟨Z, hZ1, hZ2, hZ3, hZ4, hZ5⟩ := hp1 ho1
        obtain ⟨Y, hY1, hY2, hY3, hY4, hY5⟩ := (hq2 Z hZ2 (hZ3.1.trans hWl)).1 ho2
        have hss : stepV sg a W = some Y := by rw [hst, hZ1, Option.bind_some, hY1]
        have hYl : Y.length = n := hY3.1.trans (hZ3.1.trans hWl)
        have hUps := hZ3.trans hY3
        have hle : cnN Y ≤ cnN W := by rcases hUps.2.2 with q | q; (rw [q]; exact Nat.le_refl _); omega
        have hleZ : cnN Y ≤ cnN Z := by rcases hY3.2.2 with q | q; (rw [q]; exact Nat.le_refl _); omega
        have hleW : cnN Z ≤ cnN W := by rcases hZ3.2.2 with q | q; (rw [q]; exact Nat.le_refl _); omega
        rw [hss, Option.bind_some] at hps
        refine AC.region ?_
        refine zm ?_
        refine zm ?_
        refine AL.caseGB rfl rfl (fun h5 => ?_) (fun h5 => ?_)
        ·refine zn ?_
         refine zQ ?_
         refine zm ?_
         refine zn ?_
         refine zQ ?_
         refine za ?_
         refine AL.nil (th_n (AC.exit (th_e (ib_y (th_n (AC.region ?_))))))
         refine zA ?_
         refine zm ?_
         refine AL.nil (th_n ?_)
         (have k1 := ‹c2 = true›; exact ⟨(j + 1, Y, true), ⟨by dsimp only; omega, hYl, hps, .inr ⟨rfl, by rcases hcc with q | q; (rw [k1] at q; exact absurd q.1 (by decide)); dsimp only; omega⟩⟩, by dsimp only; omega, zw [(100, 100)] hC (b := by rw [← hY2]; repeat (first | exact True.intro | refine And.intro ?_ ?_ | exact rfl | refine ⟨_, _, rfl, rfl, ?_⟩))⟩)
        ·refine zy ?_
         refine zm ?_
         refine zP ?_
         refine zm ?_
         refine AL.caseGB rfl rfl (fun h6 => ?_) (fun h6 => ?_)
         ·refine zn ?_
          refine zQ ?_
          refine za ?_
          refine AL.nil (th_n (AC.exit (th_e (ib_y (th_n (AC.region ?_))))))
          refine zA ?_
          refine zm ?_
          refine AL.nil (th_n ?_)
          (have k1 := ‹c2 = false›; have k2 := ‹r1.2.2.2 = true›; have k3 := hZ4 k2; exact ⟨(j + 1, Y, true), ⟨by dsimp only; omega, hYl, hps, .inr ⟨rfl, by rcases hcc with q | q; (rw [← q.2]; dsimp only; omega); dsimp only; omega⟩⟩, by dsimp only; omega, zw [(100, 100)] hC (b := by rw [← hY2]; repeat (first | exact True.intro | refine And.intro ?_ ?_ | exact rfl | refine ⟨_, _, rfl, rfl, ?_⟩))⟩)
         ·refine zy ?_
          refine zm ?_
          refine zP ?_
          refine za ?_
          refine AL.nil (th_n (AC.exit (th_e (ib_y (th_n (AC.region ?_))))))
          refine zA ?_
          refine zm ?_
          refine AL.nil (th_n ?_)
          (have k1 := ‹c2 = false›; have k2 := ‹r1.2.2.2 = false›; have k3 := hZ5 k2; have hWV : W = V := (by rcases hcc with q | q; exact q.2; (rw [k1] at q; exact absurd q.1 (by decide))); exact ⟨(j + 1, Y, r2.2.2.2), ⟨by dsimp only; omega, hYl, hps, by cases hb : r2.2.2.2 with | true => exact .inr ⟨rfl, by have := hY4 hb; dsimp only; rw [← hWV, ← k3]; exact this⟩ | false => exact .inl ⟨rfl, by dsimp only; rw [hY5 hb, k3, hWV]⟩⟩, by dsimp only; omega, zw [(100, 100)] hC (b := by rw [← hY2]; repeat (first | exact True.intro | refine And.intro ?_ ?_ | exact rfl | refine ⟨_, _, rfl, rfl, ?_⟩))⟩)
     ·refine AC.skip (th_n (AC.seq ?_))
      have hsig : ¬ a.sig = sg := ‹¬ a.sig = sg›
      rw [if_neg hsig] at hst
      have hB1 := agreedB_spec (encV W) f t (by omega) (by omega)
      obtain ⟨hp1, hp2⟩ := join_ag (V := W) (i := f) (j := t) (by omega) (by omega)
      obtain ⟨r3, hr3⟩ : ∃ r3, r3 = agB ((encV W).getD f 0) ((encV W).getD t 0) := ⟨_, rfl⟩
      rw [← hr3] at hB1 hp1 hp2
      clear hr3
      refine AC.region ?_
      refine AL.p (by exact mv3 rfl) rfl ?_
      refine AL.p (by exact mv3 rfl) rfl ?_
      refine AL.q (by exact h_fun (cs := [100]) en_agreed rfl rfl (by repeat (first | exact rfl | refine ⟨_, _, rfl, ?_, ?_⟩ | refine ⟨_, rfl, ?_⟩)) (by repeat (first | exact True.intro | refine And.intro ?_ ?_ | exact rfl | refine ⟨_, _, rfl, rfl, ?_⟩)) hB1 rfl rfl rfl rfl) rfl ?_
      refine AL.p (by exact mv5 rfl) rfl ?_
      refine AL.p (by exact g_extract (r := .d _) rfl rfl) rfl ?_
      refine AL.p (by exact g_extract (r := .d _) rfl rfl) rfl ?_
      refine za ?_
      refine za ?_
      refine AL.nil (th_n (AC.seq (AC.seq (AC.region ?_))))
      refine zm ?_
      refine AL.p (by exact g_not rfl) rfl ?_
      refine AL.nil (th_n ?_)
      refine AC.condB rfl (fun h3 => ?_) (fun h3 => ?_)
      ·refine AC.seq (AC.region ?_)
       refine za ?_
       refine za ?_
       refine AL.nil (th_n (AC.ret (th_r (ib_r (th_r (th_r (ib_r (ib_r (th_r (ib_r (th_r (bq_r ?_))))))))))))
       have hsn : stepV sg a W = none := by rw [hst]; exact hp2 (by simpa using ‹(!r3.2.2.1) = true›)
       have hpn : passV sg L V = none := by rw [← hps, hsn]; rfl
       have e := hRn (by rw [← hit]; exact iterV_fail hpn (by omega))
       exact ret0 rfl (by rw [e]; show AV.leads _ (.tup [.d (.view 5 1 []), aT false]) _; repeat (first | exact DLead.same | exact DLead.nil | exact rfl | refine ⟨_, rfl, ?_⟩ | refine ⟨_, _, rfl, ?_, ?_⟩))
      ·refine AC.skip (th_n ?_)
       have ho1 : r3.2.2.1 = true := by simpa using ‹(!r3.2.2.1) = false›
       obtain ⟨Y, hY1, hY2, hUps, hY4, hY5⟩ := hp1 ho1
       have hss : stepV sg a W = some Y := by rw [hst, hY1]
       have hYl : Y.length = n := hUps.1.trans hWl
       have hle : cnN Y ≤ cnN W := by rcases hUps.2.2 with q | q; (rw [q]; exact Nat.le_refl _); omega
       rw [hss, Option.bind_some] at hps
       refine AC.region ?_
       refine zm ?_
       refine zm ?_
       refine AL.caseGB rfl rfl (fun h4 => ?_) (fun h4 => ?_)
       ·refine zn ?_
        refine zQ ?_
        refine za ?_
        refine AL.nil (ib_n (th_n (AC.region ?_)))
        refine zA ?_
        refine zm ?_
        refine AL.nil (th_n ?_)
        (have k1 := ‹c2 = true›; exact ⟨(j + 1, Y, true), ⟨by dsimp only; omega, hYl, hps, .inr ⟨rfl, by rcases hcc with q | q; (rw [k1] at q; exact absurd q.1 (by decide)); dsimp only; omega⟩⟩, by dsimp only; omega, zw [(100, 100)] hC (b := by rw [← hY2]; repeat (first | exact True.intro | refine And.intro ?_ ?_ | exact rfl | refine ⟨_, _, rfl, rfl, ?_⟩))⟩)
       ·refine zy ?_
        refine zm ?_
        refine zP ?_
        refine za ?_
        refine AL.nil (ib_n (th_n (AC.region ?_)))
        refine zA ?_
        refine zm ?_
        refine AL.nil (th_n ?_)
        (have k1 := ‹c2 = false›; have hWV : W = V := (by rcases hcc with q | q; exact q.2; (rw [k1] at q; exact absurd q.1 (by decide))); exact ⟨(j + 1, Y, r3.2.2.2), ⟨by dsimp only; omega, hYl, hps, by cases hb : r3.2.2.2 with | true => exact .inr ⟨rfl, by have := hY4 hb; dsimp only; rw [← hWV]; exact this⟩ | false => exact .inl ⟨rfl, by dsimp only; rw [hY5 hb, hWV]⟩⟩, by dsimp only; omega, zw [(100, 100)] hC (b := by rw [← hY2]; repeat (first | exact True.intro | refine And.intro ?_ ?_ | exact rfl | refine ⟨_, _, rfl, rfl, ?_⟩))⟩)
    ·refine AC.exit (th_e (th_e (ib_y (ib_n (th_n ?_)))))
     have hjj : j = L.length := by omega
     rw [hjj, List.drop_length, passV] at hps
     obtain ⟨r', rfl⟩ : ∃ r', r = r' + 1 := ⟨r - 1, by omega⟩
     rw [iterV, ← hps, Option.bind_some] at hit
     exact ⟨(W, c2, r'), ⟨hWl, hit, fun (q : c2 = true) => (by rcases hcc with g | g; (rw [q] at g; exact absurd g.1 (by decide)); dsimp only; omega), fun (q : c2 = false) => (by rcases hcc with g | g; (have g2 := g.2; subst g2; exact hps.symm); (rw [q] at g; exact absurd g.1 (by decide)))⟩, by rcases hcc with g | g; (rw [g.1, g.2]; simp); (rw [g.1]; simp only [if_true]; omega), zw [(100, 100)] hC⟩
  ·refine AC.exit (th_e (th_e (ib_y (th_n (AC.seq (AC.seq ?_))))))
   have hch : ch = false := by simpa using ‹ch = false›
   have hFs : F = some V := by rw [← hit]; exact iterV_stable (hc0 hch) _
   have e := hRs V hFs
   refine AC.region ?_
   refine AL.p (by exact mv2 rfl) rfl ?_
   refine AL.p (by exact g_len_own (sz := 1) (els := []) (e' := 0) rfl rfl (by simp only [maxLen]; omega)) rfl ?_
   refine zm ?_
   refine AL.nil (th_n (AC.block ?_))
   refine AC.loop (ι := Nat) (fun i => ⟨102, 1500, [(8, .own 100 n), (88, .own 100 n), (89, aI n), (90, aI i)], [(100, some (.arr 5 1 (byteEls (mixQ V i))))]⟩) (fun i => i ≤ n) (fun i => n - i) (0) ?_ (Nat.zero_le _) ?_
   ·exact zw [(100, 100)] hC (b := by rw [mixQ_zero]; repeat (first | exact True.intro | refine And.intro ?_ ?_ | exact rfl | refine ⟨_, _, rfl, rfl, ?_⟩))
   ·intro i hi
    refine AC.seq (AC.region ?_)
    refine zc ?_
    refine AL.nil (th_n (AC.seq ?_))
    refine AC.condD rfl (fun h1 => ?_) (fun h1 => ?_)
    ·refine AC.skip (th_n (AC.seq (AC.block (AC.seq ?_))))
     have hi1 : i < n := by omega
     have hml := mixQ_len V i
     have hgi := byteEls_get (m := mixQ V i) (k := i) (by omega)
     have hgv := mixQ_get (V := V) (i := i) (by omega)
     have hsv := mixQ_set (V := V) (i := i) (by omega)
     rw [hgv] at hgi
     refine AC.region ?_
     refine zm ?_
     refine AL.p (by exact g_ia_own (i := i) (l := n) rfl rfl rfl rfl rfl rfl hi1 rfl) rfl ?_
     refine AL.p (by exact g_load_arr1 rfl rfl rfl rfl (by rw [Nat.mul_one]; exact hgi)) rfl ?_
     refine za ?_
     refine za ?_
     refine AL.nil (th_n (AC.seq (AC.region ?_)))
     refine zm ?_
     refine zc ?_
     refine AL.nil (th_n ?_)
     refine AC.condD rfl (fun h2 => ?_) (fun h2 => ?_)
     ·refine AC.region ?_
      refine AL.p (by exact mv2 rfl) rfl ?_
      refine zm ?_
      refine AL.p (by exact g_ia_own (i := i) (l := n) rfl rfl rfl rfl rfl rfl hi1 rfl) rfl ?_
      refine AL.q (by exact h_store_arr (i := i) (j := 0) (d := dB 48) rfl rfl rfl rfl .same rfl hgi (by decide)) rfl ?_
      refine AL.nil (ib_n (th_n (AC.region ?_)))
      refine zA ?_
      refine zm ?_
      refine AL.nil (th_n ?_)
      (have k1 := ‹((encI (vAt V i)).toNat : Int) = 0›; have hv0 : vAt V i = none := (by cases hv : vAt V i with | none => rfl | some x => rw [hv] at k1; cases x <;> exact absurd k1 (by decide)); rw [hv0] at hsv; exact ⟨i + 1, by omega, by omega, zw [(100, 100)] hC (b := by rw [← hsv, ← byteEls_set]; repeat (first | exact True.intro | refine And.intro ?_ ?_ | exact rfl | refine ⟨_, _, rfl, rfl, ?_⟩))⟩)
     ·refine AC.skip (ib_n (th_n (AC.region ?_)))
      refine zA ?_
      refine zm ?_
      refine AL.nil (th_n ?_)
      (have k1 := ‹¬ ((encI (vAt V i)).toNat : Int) = 0›; have hv0 : chB (vAt V i) = encI (vAt V i) := (by cases hv : vAt V i with | none => rw [hv] at k1; exact absurd rfl k1 | some x => rfl); rw [hv0, ← hgv, set_getD (by omega)] at hsv; exact ⟨i + 1, by omega, by omega, zw [(100, 100)] hC (b := by rw [← hsv]; repeat (first | exact True.intro | refine And.intro ?_ ?_ | exact rfl | refine ⟨_, _, rfl, rfl, ?_⟩))⟩)
    ·refine AC.exit (th_e (th_e (ib_y (th_n (AC.seq ?_)))))
     have hii : i = V.length := by omega
     rw [hii, mixQ_all]
     have hVc : (V.map chB).length = n := by rw [List.length_map, hVl]
     refine AC.weak (Weak.freeze (i := 8) (els' := byteEls (V.map chB)) rfl rfl (by unfold byteEls; rw [List.length_map, hVc]; exact Nat.le_refl _) (List.take_of_length_le (by unfold byteEls; rw [List.length_map, hVc]; exact Nat.le_refl _))) ?_
     refine AC.region ?_
     refine zm ?_
     refine za ?_
     refine za ?_
     refine AL.nil (th_n (AC.ret (bq_r ?_)))
     exact ret0 rfl (by rw [e]; show AV.leads _ (.tup [.d (.view 5 1 (byteEls (V.map chB))), aT true]) _; repeat (first | exact DLead.same | exact rfl | refine ⟨_, rfl, ?_⟩ | refine ⟨_, _, rfl, ?_, ?_⟩))
theorem en_valuesOf : Enters Tryz.prog 135 := enters_of Tryz.func135 rfl rfl
def encR : Option Bool → UInt8 | none => 63 | some b => bitLb b
def encS (V : List (Option Bool)) : List UInt8 := V.map encR
theorem encS_len (V : List (Option Bool)) : (encS V).length = V.length := List.length_map _
theorem encS_get {V : List (Option Bool)} {i : Nat} (h : i < V.length) : (byteEls (encS V))[i]? = some [dB (encR (vAt V i))] := by
 unfold byteEls encS
 rw [List.getElem?_map, List.getElem?_map, List.getElem?_eq_getElem h, vAt_get h]; rfl
theorem encS_set (V : List (Option Bool)) (i : Nat) (x : Option Bool) : encS (V.set i x) = (encS V).set i (encR x) := by unfold encS; rw [List.map_set]
theorem encS_same {V : List (Option Bool)} {i : Nat} (h : i < V.length) : (encS V).set i (encR (vAt V i)) = encS V := by rw [← encS_set, set_same h rfl]
theorem encR_none {x : Option Bool} : ((encR x).toNat : Int) = 63 ↔ x = none := by cases x with | none => simp [encR] | some b => cases b <;> simp [encR, bitLb]
theorem encR_bit {x : Option Bool} {b : Bool} : ((encR x).toNat : Int) = ((bitLb b).toNat : Int) ↔ x = some b := by cases x with | none => cases b <;> simp [encR, bitLb] | some c => cases b <;> cases c <;> simp [encR, bitLb]
theorem encR_inj {x y : Option Bool} : ((encR x).toNat : Int) = ((encR y).toNat : Int) ↔ x = y := by cases x with
 | none => cases y with | none => simp | some c => cases c <;> simp [encR, bitLb]
 | some b => cases y with | none => cases b <;> simp [encR, bitLb] | some c => cases b <;> cases c <;> simp [encR, bitLb]
theorem joinR_ok {W : List (Option Bool)} {f t : Nat} (hf : f < W.length) (ht : t < W.length) {x : Option Bool} (hx : (vAt W f = none ∧ x = vAt W t) ∨ (vAt W f ≠ none ∧ x = vAt W f)) (h : ¬ (x ≠ none ∧ vAt W t ≠ none ∧ vAt W t ≠ x)) : ∃ Y, joinV W f t = some Y ∧ ((encS W).set f (encR x)).set t (encR x) = encS Y := by
 unfold joinV
 cases e1 : vAt W f with
 | none =>
  rcases hx with ⟨_, hx⟩ | ⟨q, _⟩
  ·cases e2 : vAt W t with
   | none =>
    rw [e2] at hx; subst hx
    refine ⟨W, rfl, ?_⟩
    have h1 := encS_same hf
    have h2 := encS_same ht
    rw [e1] at h1
    rw [e2] at h2
    rw [h1, h2]
   | some y =>
    rw [e2] at hx; subst hx
    refine ⟨_, rfl, ?_⟩
    rw [← encS_set, ← encS_set, set_same (by simpa using ht)]
    rw [vAt_set]
    split
    ·rfl
    ·exact e2
  ·exact absurd e1 q
 | some a =>
  rcases hx with ⟨q, _⟩ | ⟨_, hx⟩
  ·rw [e1] at q; cases q
  ·rw [e1] at hx; subst hx
   have h1 := encS_same hf
   rw [e1] at h1
   cases e2 : vAt W t with
   | none => exact ⟨_, rfl, by rw [h1, ← encS_set]⟩
   | some y =>
    have hay : a = y := by
     refine Classical.byContradiction fun q => h ⟨by simp, by rw [e2]; simp, ?_⟩
     rw [e2]
     intro g; exact q (Option.some.inj g).symm
    subst hay
    have h2 := encS_same ht
    rw [e2] at h2
    exact ⟨W, by simp, by rw [h1, h2]⟩
theorem joinR_no {W : List (Option Bool)} {f t : Nat} {x : Option Bool} (hx : (vAt W f = none ∧ x = vAt W t) ∨ (vAt W f ≠ none ∧ x = vAt W f)) (h : x ≠ none ∧ vAt W t ≠ none ∧ vAt W t ≠ x) : joinV W f t = none := by
 rcases hx with ⟨_, q⟩ | ⟨_, q⟩
 ·exact absurd q.symm h.2.2
 ·subst q
  unfold joinV
  cases e1 : vAt W f with
  | none => exact absurd e1 h.1
  | some a =>
   cases e2 : vAt W t with
   | none => exact absurd e2 h.2.1
   | some b => exact if_neg fun q => h.2.2 (by rw [e1, e2, q])
def valS (sg : Int) (L : List Ar) (n : Nat) : List UInt8 × Bool := match valF sg L n with | some V => (encS V, true) | none => ([], false)
def askZ (n k : Nat) : List UInt8 := List.replicate k 63 ++ List.replicate (n - k) 0
theorem askZ_get {n k : Nat} (h : k < n) : (byteEls (askZ n k))[k]? = some [dB 0] := by
 unfold askZ byteEls
 rw [List.getElem?_map, List.getElem?_append_right (by simp), List.length_replicate, Nat.sub_self, List.getElem?_replicate, if_pos (by omega)]; rfl
theorem askZ_set {n k : Nat} (h : k < n) : (byteEls (askZ n k)).set k [dB 63] = byteEls (askZ n (k + 1)) := by
 rw [byteEls_set]
 congr 1
 unfold askZ
 obtain ⟨q, hq⟩ : ∃ q, n - k = q + 1 := ⟨n - k - 1, by omega⟩
 rw [hq, show n - (k + 1) = q by omega, List.replicate_succ, List.set_append_right _ _ (by simp), List.length_replicate, Nat.sub_self, List.set_cons_zero, List.replicate_succ', List.append_assoc]; rfl
theorem askZ_zero (n : Nat) : byteEls (askZ n 0) = List.replicate n (([ZK.int .u8] : List ZK).map fun z => DV.val z.val) := by unfold askZ byteEls; simp; exact .inr rfl
theorem askZ_all (n : Nat) : askZ n n = encS (List.replicate n none) := by unfold askZ encS; simp; exact .inr rfl
theorem enc_ne {x : Option Bool} {b : Bool} (k1 : ¬ ((encR x).toNat : Int) = 63) (k2 : ¬ ((encR x).toNat : Int) = ((bitLb b).toNat : Int)) : x = some (!b) := by
 cases x with
 | none => exact absurd (encR_none.2 rfl) k1
 | some c => exact congrArg some (nb_ne b fun g => k2 (encR_bit.2 (congrArg some g)))
theorem enc_no {x : Option Bool} {b : Bool} (q : x = some (!b)) : ¬ ((encR x).toNat : Int) = 63 ∧ ¬ ((encR x).toNat : Int) = ((bitLb b).toNat : Int) := by
 subst q
 exact ⟨fun g => (by have := encR_none.1 g; cases this), fun g => (by have := Option.some.inj (encR_bit.1 g); cases b <;> cases this)⟩
theorem bstr1_get (b : UInt8) : (bstr [b]).data.toList[0]? = some b := rfl
set_option maxHeartbeats 32000000 in
theorem l5Values_spec (s : Stg) (x : Ex) (sg : Int) (hn1 : 1 ≤ x.marks.length) (hn : x.marks.length ≤ 100000) (h2l : x.moves.length ≤ 1000000) (hb : ∀ v, v ∈ x.moves → 0 ≤ v.by_ ∧ v.by_ < s.labs.length) (hL : ∀ a, a ∈ arcsOf s x → ArIn x.marks.length a) : ASpec Tryz.prog 137 [stgA s, rgA x, aI sg] [] (Pure1 (.tup [aS (bstr (valS sg (arcsOf s x) x.marks.length).1), aT (valS sg (arcsOf s x) x.marks.length).2])) := by
 have hVe := valR_eq (sg := sg) hn1 hL
 have hal := arcsOf_len s x
 have hag : ∀ j (hj : j < x.moves.length), (arcsOf s x)[j]? = some (arcOf s.labs x.moves[j]) := fun j hj => by unfold arcsOf; rw [List.getElem?_map, List.getElem?_eq_getElem hj]; rfl
 obtain ⟨n, hnn⟩ : ∃ n, n = x.marks.length := ⟨_, rfl⟩
 rw [← hnn] at hn1 hn hVe hL ⊢
 obtain ⟨A, hA⟩ : ∃ A, A = arcsOf s x := ⟨_, rfl⟩
 simp only [← hA] at hVe hal hag hL ⊢
 clear hA
 have hR : valS sg A n = match valF sg A n with | some V => (encS V, true) | none => ([], false) := rfl
 obtain ⟨F, hFF⟩ : ∃ F, F = valF sg A n := ⟨_, rfl⟩
 rw [← hFF] at hVe hR
 obtain ⟨R, hRR⟩ : ∃ R, R = valS sg A n := ⟨_, rfl⟩
 rw [← hRR] at hR ⊢
 have hRn : F = none → R = ([], false) := fun q => by rw [hR, q]
 have hRs : ∀ V, F = some V → R = (encS V, true) := fun V q => by rw [hR, q]
 clear hFF hRR hR
 refine ASpec.of Tryz.func137 rfl rfl fun C hC => ?_
 refine AC.seq (AC.region ?_)
 refine AL.q (by exact h_boxF rfl rfl) rfl ?_
 refine AL.q (by exact h_boxF rfl rfl) rfl ?_
 refine za ?_
 refine za ?_
 refine AL.nil (th_n (AC.seq (AC.region ?_)))
 refine zf ?_
 refine zr ?_
 refine AL.p (by exact g_len_view (k := n) rfl rfl (by rw [hnn]; exact tsX_len _)) rfl ?_
 refine AL.q (by exact h_make (k := n) rfl rfl rfl rfl rfl rfl rfl rfl (by show 1 * n ≤ _; omega) (by omega)) rfl ?_
 rw [show (List.replicate n (([ZK.int .u8] : List ZK).map fun z => DV.val z.val)) = byteEls (askZ n 0) from (askZ_zero n).symm]
 refine AL.p (by exact as2 rfl) rfl ?_
 refine AL.nil (th_n (AC.seq (AC.seq (AC.region ?_))))
 refine AL.p (by exact mv2 rfl) rfl ?_
 refine AL.p (by exact g_len_own (sz := 1) (els := []) (e' := 0) rfl rfl (by simp only [maxLen]; omega)) rfl ?_
 refine zm ?_
 refine AL.nil (th_n (AC.block ?_))
 refine AC.loop (ι := Nat) (fun k => ⟨149, 300, [(2, aI sg), (3, .d (.ref (stgD s))), (4, .d (.ref (rgD x))), (8, .own 100 n), (22, aI n), (23, aI k)], [(100, some (.arr 5 1 (byteEls (askZ n k))))]⟩) (fun k => k ≤ n) (fun k => n - k) (0) ?_ (Nat.zero_le _) ?_
 ·exact zw [(100, _)] hC
 ·intro k hk
  refine AC.seq (AC.region ?_)
  refine zc ?_
  refine AL.nil (th_n (AC.seq ?_))
  refine AC.condD rfl (fun h0 => ?_) (fun h0 => ?_)
  ·refine AC.skip (th_n (AC.seq (AC.block (AC.seq ?_))))
   have hk1 : k < n := by omega
   have hgz := askZ_get hk1
   have hsz := askZ_set hk1
   refine AC.region ?_
   refine zm ?_
   refine za ?_
   refine AL.nil (th_n (AC.region ?_))
   refine AL.p (by exact mv2 rfl) rfl ?_
   refine zm ?_
   refine AL.p (by exact g_ia_own (i := k) (l := n) rfl rfl rfl rfl rfl rfl hk1 rfl) rfl ?_
   refine AL.q (by exact h_store_arr (i := k) (j := 0) (d := dB 63) rfl rfl rfl rfl .same rfl hgz (by decide)) rfl ?_
   refine AL.nil (ib_n (th_n (AC.region ?_)))
   refine zA ?_
   refine zm ?_
   refine AL.nil (th_n ?_)
   exact ⟨k + 1, by omega, by omega, zw [(100, 100)] hC (b := by rw [← hsz]; repeat (first | exact True.intro | refine And.intro ?_ ?_ | exact rfl | refine ⟨_, _, rfl, rfl, ?_⟩))⟩
  ·refine AC.exit (th_e (th_e (ib_y (th_n (AC.seq (AC.seq ?_))))))
   have hkn : k = n := by omega
   rw [hkn, askZ_all]
   refine AC.region ?_
   refine za ?_
   refine AL.nil (th_n (AC.block ?_))
   refine AC.loop (ι := Nat × List (Option Bool)) (fun y => ⟨149, 600, [(2, aI sg), (3, .d (.ref (stgD s))), (4, .d (.ref (rgD x))), (8, .own 100 n), (10, aI y.1)], [(100, some (.arr 5 1 (byteEls (encS y.2))))]⟩) (fun y => y.1 ≤ n + 1 ∧ y.2.length = n ∧ iterR sg A (n + 1 - y.1) y.2 = F) (fun y => n + 1 - y.1) ((0, List.replicate n none)) ?_ (⟨Nat.zero_le _, by simp, hVe⟩) ?_
   ·exact zw [(100, 100)] hC
   ·rintro ⟨p, V⟩ ⟨hp, hVl, hit⟩
    dsimp only at hp hVl hit ⊢
    refine AC.seq (AC.seq (AC.region ?_))
    refine zm ?_
    refine zf ?_
    refine zr ?_
    refine AL.p (by exact g_len_view (k := n) rfl rfl (by rw [hnn]; exact tsX_len _)) rfl ?_
    refine zc ?_
    refine AL.nil (th_n ?_)
    refine AC.condD rfl (fun h1 => ?_) (fun h1 => ?_)
    ·refine AC.skip (th_n (AC.seq (AC.block (AC.seq ?_))))
     obtain ⟨q, hq⟩ : ∃ q, n + 1 - p = q + 1 := ⟨n - p, by omega⟩
     rw [hq, iterR] at hit
     refine AC.region ?_
     refine zf ?_
     refine zr ?_
     refine AL.p (by exact g_len_view (k := x.moves.length) rfl rfl (mvL_len _)) rfl ?_
     refine zm ?_
     refine AL.nil (th_n (AC.block ?_))
     refine AC.loop (ι := Nat × List (Option Bool)) (fun y => ⟨149, 900, [(2, aI sg), (3, .d (.ref (stgD s))), (4, .d (.ref (rgD x))), (8, .own 100 n), (10, aI p), (38, .d (vMvs x.moves)), (39, aI x.moves.length), (40, aI y.1)], [(100, some (.arr 5 1 (byteEls (encS y.2))))]⟩) (fun y => y.1 ≤ x.moves.length ∧ y.2.length = n ∧ passR sg (A.drop y.1) y.2 = passR sg A V) (fun y => x.moves.length - y.1) ((0, V)) ?_ (⟨Nat.zero_le _, hVl, rfl⟩) ?_
     ·exact zw [(100, 100)] hC
     ·rintro ⟨j, W⟩ ⟨hj, hWl, hps⟩
      dsimp only at hj hWl hps ⊢
      refine AC.seq (AC.region ?_)
      refine zc ?_
      refine AL.nil (th_n (AC.seq ?_))
      refine AC.condD rfl (fun h2 => ?_) (fun h2 => ?_)
      ·refine AC.skip (th_n (AC.seq (AC.block (AC.seq ?_))))
       have hj1 : j < x.moves.length := by omega
       have hget := mvL_get hj1
       have hbv := hb _ (List.getElem_mem hj1)
       have hga := hag j hj1
       have hjA : j < A.length := by omega
       have haI := hL _ (List.getElem_mem hjA)
       rw [List.drop_eq_getElem_cons hjA, passR] at hps
       rw [List.getElem?_eq_getElem hjA] at hga
       rw [Option.some.inj hga] at haI hps
       obtain ⟨v, hv⟩ : ∃ v, v = x.moves[j] := ⟨_, rfl⟩
       rw [← hv] at hget hbv haI hps
       clear hv hga
       obtain ⟨b, hb2⟩ : ∃ b, b = v.by_.toNat := ⟨_, rfl⟩
       have e0 : v.by_ = (b : Int) := by omega
       unfold arcOf at haI hps
       rw [← hb2] at haI hps
       have hlb : b < s.labs.length := by omega
       have hgl : (labsL s.labs)[b]? = some [dI (lAt s.labs b).sig, dT (lAt s.labs b).up] := by rw [lAt_nat hlb, List.getElem?_map, List.getElem?_eq_getElem hlb]; rfl
       obtain ⟨l, hl⟩ : ∃ l, l = lAt s.labs b := ⟨_, rfl⟩
       rw [← hl] at hgl haI hps
       clear hl
       obtain ⟨hf1, ht1⟩ := haI
       dsimp only at hf1 ht1
       obtain ⟨f, hf⟩ : ∃ f, f = v.from_.toNat := ⟨_, rfl⟩
       obtain ⟨t, ht⟩ : ∃ t, t = v.to_.toNat := ⟨_, rfl⟩
       have e1 : v.from_ = (f : Int) := by omega
       have e2 : v.to_ = (t : Int) := by omega
       have hfn : f < n := by omega
       have htn : t < n := by omega
       rw [e0, e1, e2] at hget
       have hst : stepR sg ⟨v.from_, l.sig, l.up, v.to_⟩ W = if l.sig = sg then (if (vAt W f = some l.up ∨ vAt W t = some (!l.up)) then none else some ((W.set f (some (!l.up))).set t (some l.up))) else joinV W f t := by unfold stepR; dsimp only; rw [hf, ht]
       obtain ⟨S, hS⟩ : ∃ S, S = stepR sg ⟨v.from_, l.sig, l.up, v.to_⟩ W := ⟨_, rfl⟩
       rw [← hS] at hps hst
       clear hS
       have hgf := encS_get (V := W) (i := f) (by omega)
       have hgt := encS_get (V := W) (i := t) (by omega)
       have hel := encS_len W
       refine AC.region ?_
       refine AL.p (by exact g_ia_view rfl rfl rfl rfl rfl (by rfl) (by assumption)) rfl ?_
       refine AL.p (by exact g_load_refN rfl rfl rfl rfl) rfl ?_
       refine AL.q (by exact h_alloc rfl) rfl ?_
       refine zs ?_
       refine AL.nil (th_n (AC.seq (AC.region ?_)))
       refine zf ?_
       refine zr ?_
       refine zF ?_
       refine zl ?_
       refine AL.p (by exact g_ia_view (i := b) rfl rfl rfl rfl rfl rfl hgl) rfl ?_
       refine AL.p (by exact g_load_refN rfl rfl rfl rfl) rfl ?_
       refine AL.q (by exact h_alloc rfl) rfl ?_
       refine zs ?_
       refine AL.nil (th_n (AC.seq (AC.seq (AC.region ?_))))
       refine zF ?_
       refine zl ?_
       refine zm ?_
       refine zc ?_
       refine AL.nil (th_n ?_)
       refine AC.condND rfl (fun h3 => ?_) (fun h3 => ?_)
       ·refine AC.seq ?_
        have hsig : ¬ l.sig = sg := ‹¬ l.sig = sg›
        rw [if_neg hsig] at hst
        refine AC.region ?_
        refine AL.p (by exact mv2 rfl) rfl ?_
        refine zF ?_
        refine zl ?_
        refine AL.p (by exact g_ia_own (i := f) (l := n) rfl rfl rfl rfl rfl rfl hfn rfl) rfl ?_
        refine AL.p (by exact g_load_arr1 rfl rfl rfl rfl (by rw [Nat.mul_one]; exact hgf)) rfl ?_
        refine za ?_
        refine AL.nil (th_n ?_)
        refine AC.cut (fun (z : Option Bool) => ⟨149, 1200, [(2, aI sg), (3, .d (.ref (stgD s))), (4, .d (.ref (rgD x))), (8, .own 100 n), (10, aI p), (12, .ptr 201 0), (14, .d (dB (encR z))), (38, .d (vMvs x.moves)), (39, aI x.moves.length), (40, aI j)], [(100, some (.arr 5 1 (byteEls (encS W)))), (201, some (.cells 52 [aI f, aI b, aI t]))]⟩) (fun z => (vAt W f = none ∧ z = vAt W t) ∨ (vAt W f ≠ none ∧ z = vAt W f)) ?_ ?_
        ·refine AC.seq (AC.region ?_)
         refine zm ?_
         refine zc ?_
         refine AL.nil (th_n ?_)
         refine AC.condD rfl (fun h4 => ?_) (fun h4 => ?_)
         ·refine AC.region ?_
          refine AL.p (by exact mv2 rfl) rfl ?_
          refine zF ?_
          refine zl ?_
          refine AL.p (by exact g_ia_own (i := t) (l := n) rfl rfl rfl rfl rfl rfl htn rfl) rfl ?_
          refine AL.p (by exact g_load_arr1 rfl rfl rfl rfl (by rw [Nat.mul_one]; exact hgt)) rfl ?_
          refine za ?_
          refine AL.nil (th_n ?_)
          (have k1 := ‹((encR (vAt W f)).toNat : Int) = 63›; exact ⟨vAt W t, .inl ⟨encR_none.1 k1, rfl⟩, zw [(100, 100), (201, _)] hC⟩)
         ·refine AC.skip (th_n ?_)
          (have k1 := ‹¬ ((encR (vAt W f)).toNat : Int) = 63›; exact ⟨vAt W f, .inr ⟨fun q => k1 (encR_none.2 q), rfl⟩, zw [(100, 100), (201, _)] hC⟩)
        ·intro z hz
         refine AC.seq (AC.seq (AC.region ?_))
         refine zm ?_
         refine zc ?_
         refine zm ?_
         refine AL.caseGN rfl rfl (fun h4 => ?_) (fun h4 => ?_)
         ·refine zy ?_
          refine AL.p (by exact mv2 rfl) rfl ?_
          refine zy ?_
          refine zF ?_
          refine zy ?_
          refine zl ?_
          refine zy ?_
          refine AL.p (by exact g_ia_own (i := t) (l := n) rfl rfl rfl rfl rfl rfl htn rfl) rfl ?_
          refine zy ?_
          refine AL.p (by exact g_load_arr1 rfl rfl rfl rfl (by rw [Nat.mul_one]; exact hgt)) rfl ?_
          refine zy ?_
          refine zc ?_
          refine zQ ?_
          refine zm ?_
          refine AL.caseGN rfl rfl (fun h5 => ?_) (fun h5 => ?_)
          ·refine zy ?_
           refine AL.p (by exact mv2 rfl) rfl ?_
           refine zy ?_
           refine zF ?_
           refine zy ?_
           refine zl ?_
           refine zy ?_
           refine AL.p (by exact g_ia_own (i := t) (l := n) rfl rfl rfl rfl rfl rfl htn rfl) rfl ?_
           refine zy ?_
           refine AL.p (by exact g_load_arr1 rfl rfl rfl rfl (by rw [Nat.mul_one]; exact hgt)) rfl ?_
           refine zy ?_
           refine zm ?_
           refine zy ?_
           refine zc ?_
           refine zQ ?_
           refine AL.nil (th_n ?_)
           refine AC.condND rfl (fun h6 => ?_) (fun h6 => ?_)
           ·refine AC.seq (AC.region ?_)
            refine za ?_
            refine za ?_
            refine AL.nil (th_n (AC.ret (th_r (th_r (ib_r (th_r (th_r (ib_r (ib_r (th_r (th_r (ib_r (th_r (bq_r ?_))))))))))))))
            have k1 : z ≠ none := fun q => ‹¬ ((encR z).toNat : Int) = 63› (encR_none.2 q)
            have k2 : vAt W t ≠ none := fun q => ‹¬ ((encR (vAt W t)).toNat : Int) = 63› (encR_none.2 q)
            have k3 : vAt W t ≠ z := fun q => ‹¬ ((encR (vAt W t)).toNat : Int) = ((encR z).toNat : Int)› (encR_inj.2 q)
            have hpn : passR sg A V = none := by rw [← hps, hst, joinR_no hz ⟨k1, k2, k3⟩]; rfl
            have e := hRn (by rw [← hit, hpn]; rfl)
            exact ret2 rfl (by rw [e]; rfl) (by rw [e])
           ·refine AC.skip (th_n (AC.seq ?_))
            have hno : ¬ (z ≠ none ∧ vAt W t ≠ none ∧ vAt W t ≠ z) := by rintro ⟨q1, q2, q3⟩; exact q3 (encR_inj.1 (by assumption))
            obtain ⟨Y, hY1, hY2⟩ := joinR_ok (by omega) (by omega) hz hno
            rw [hst, hY1, Option.bind_some] at hps
            have hYl : Y.length = n := by have := congrArg List.length hY2; rw [List.length_set, List.length_set, encS_len, encS_len] at this; omega
            have hgt2 : ∃ c, (byteEls ((encS W).set f (encR z)))[t]? = some [dB c] := ⟨_, byteEls_get (by rw [List.length_set]; omega)⟩
            obtain ⟨c, hgc⟩ := hgt2
            refine AC.region ?_
            refine AL.p (by exact mv2 rfl) rfl ?_
            refine zF ?_
            refine zl ?_
            refine zm ?_
            refine AL.p (by exact g_ia_own (i := f) (l := n) rfl rfl rfl rfl rfl rfl hfn rfl) rfl ?_
            refine AL.q (by exact h_store_arr (i := f) (j := 0) (d := dB (encR z)) rfl rfl rfl rfl .same rfl hgf (by decide)) rfl ?_
            refine AL.nil (th_n (AC.seq (AC.region ?_)))
            refine AL.p (by exact mv2 rfl) rfl ?_
            refine zF ?_
            refine zl ?_
            refine zm ?_
            refine AL.p (by exact g_ia_own (i := t) (l := n) rfl rfl rfl rfl rfl rfl htn rfl) rfl ?_
            refine AL.q (by exact h_store_arr (i := t) (j := 0) (d := dB (encR z)) rfl rfl rfl rfl .same rfl (by rw [show [dB (encR (vAt W f))].set 0 (dB (encR z)) = [dB (encR z)] from rfl, byteEls_set]; exact hgc) (by decide)) rfl ?_
            refine AL.nil (th_n (AC.exit (th_e (ib_y (th_n (AC.region ?_))))))
            refine zA ?_
            refine zm ?_
            refine AL.nil (th_n ?_)
            exact ⟨(j + 1, Y), ⟨by dsimp only; omega, hYl, hps⟩, by dsimp only; omega, zw [(100, 100)] hC (b := by rw [← hY2, ← byteEls_set, ← byteEls_set]; repeat (first | exact True.intro | refine And.intro ?_ ?_ | exact rfl | refine ⟨_, _, rfl, rfl, ?_⟩))⟩
          ·refine zn ?_
           refine zn ?_
           refine zn ?_
           refine zn ?_
           refine zn ?_
           refine zn ?_
           refine zn ?_
           refine zP ?_
           refine AL.nil (th_n ?_)
           refine AC.condF rfl ?_
           refine AC.skip (th_n (AC.seq ?_))
           have hno : ¬ (z ≠ none ∧ vAt W t ≠ none ∧ vAt W t ≠ z) := by rintro ⟨q1, q2, q3⟩; exact q2 (encR_none.1 (by assumption))
           obtain ⟨Y, hY1, hY2⟩ := joinR_ok (by omega) (by omega) hz hno
           rw [hst, hY1, Option.bind_some] at hps
           have hYl : Y.length = n := by have := congrArg List.length hY2; rw [List.length_set, List.length_set, encS_len, encS_len] at this; omega
           have hgt2 : ∃ c, (byteEls ((encS W).set f (encR z)))[t]? = some [dB c] := ⟨_, byteEls_get (by rw [List.length_set]; omega)⟩
           obtain ⟨c, hgc⟩ := hgt2
           refine AC.region ?_
           refine AL.p (by exact mv2 rfl) rfl ?_
           refine zF ?_
           refine zl ?_
           refine zm ?_
           refine AL.p (by exact g_ia_own (i := f) (l := n) rfl rfl rfl rfl rfl rfl hfn rfl) rfl ?_
           refine AL.q (by exact h_store_arr (i := f) (j := 0) (d := dB (encR z)) rfl rfl rfl rfl .same rfl hgf (by decide)) rfl ?_
           refine AL.nil (th_n (AC.seq (AC.region ?_)))
           refine AL.p (by exact mv2 rfl) rfl ?_
           refine zF ?_
           refine zl ?_
           refine zm ?_
           refine AL.p (by exact g_ia_own (i := t) (l := n) rfl rfl rfl rfl rfl rfl htn rfl) rfl ?_
           refine AL.q (by exact h_store_arr (i := t) (j := 0) (d := dB (encR z)) rfl rfl rfl rfl .same rfl (by rw [show [dB (encR (vAt W f))].set 0 (dB (encR z)) = [dB (encR z)] from rfl, byteEls_set]; exact hgc) (by decide)) rfl ?_
           refine AL.nil (th_n (AC.exit (th_e (ib_y (th_n (AC.region ?_))))))
           refine zA ?_
           refine zm ?_
           refine AL.nil (th_n ?_)
           exact ⟨(j + 1, Y), ⟨by dsimp only; omega, hYl, hps⟩, by dsimp only; omega, zw [(100, 100)] hC (b := by rw [← hY2, ← byteEls_set, ← byteEls_set]; repeat (first | exact True.intro | refine And.intro ?_ ?_ | exact rfl | refine ⟨_, _, rfl, rfl, ?_⟩))⟩
         ·refine zn ?_
          refine zn ?_
          refine zn ?_
          refine zn ?_
          refine zn ?_
          refine zn ?_
          refine zP ?_
          refine zm ?_
          refine zn ?_
          refine zn ?_
          refine zn ?_
          refine zn ?_
          refine zn ?_
          refine zn ?_
          refine zn ?_
          refine zP ?_
          refine AL.nil (th_n ?_)
          refine AC.condF rfl ?_
          refine AC.skip (th_n (AC.seq ?_))
          have hno : ¬ (z ≠ none ∧ vAt W t ≠ none ∧ vAt W t ≠ z) := by rintro ⟨q1, q2, q3⟩; exact q1 (encR_none.1 (by assumption))
          obtain ⟨Y, hY1, hY2⟩ := joinR_ok (by omega) (by omega) hz hno
          rw [hst, hY1, Option.bind_some] at hps
          have hYl : Y.length = n := by have := congrArg List.length hY2; rw [List.length_set, List.length_set, encS_len, encS_len] at this; omega
          have hgt2 : ∃ c, (byteEls ((encS W).set f (encR z)))[t]? = some [dB c] := ⟨_, byteEls_get (by rw [List.length_set]; omega)⟩
          obtain ⟨c, hgc⟩ := hgt2
          refine AC.region ?_
          refine AL.p (by exact mv2 rfl) rfl ?_
          refine zF ?_
          refine zl ?_
          refine zm ?_
          refine AL.p (by exact g_ia_own (i := f) (l := n) rfl rfl rfl rfl rfl rfl hfn rfl) rfl ?_
          refine AL.q (by exact h_store_arr (i := f) (j := 0) (d := dB (encR z)) rfl rfl rfl rfl .same rfl hgf (by decide)) rfl ?_
          refine AL.nil (th_n (AC.seq (AC.region ?_)))
          refine AL.p (by exact mv2 rfl) rfl ?_
          refine zF ?_
          refine zl ?_
          refine zm ?_
          refine AL.p (by exact g_ia_own (i := t) (l := n) rfl rfl rfl rfl rfl rfl htn rfl) rfl ?_
          refine AL.q (by exact h_store_arr (i := t) (j := 0) (d := dB (encR z)) rfl rfl rfl rfl .same rfl (by rw [show [dB (encR (vAt W f))].set 0 (dB (encR z)) = [dB (encR z)] from rfl, byteEls_set]; exact hgc) (by decide)) rfl ?_
          refine AL.nil (th_n (AC.exit (th_e (ib_y (th_n (AC.region ?_))))))
          refine zA ?_
          refine zm ?_
          refine AL.nil (th_n ?_)
          exact ⟨(j + 1, Y), ⟨by dsimp only; omega, hYl, hps⟩, by dsimp only; omega, zw [(100, 100)] hC (b := by rw [← hY2, ← byteEls_set, ← byteEls_set]; repeat (first | exact True.intro | refine And.intro ?_ ?_ | exact rfl | refine ⟨_, _, rfl, rfl, ?_⟩))⟩
       ·refine AC.skip (th_n (AC.seq ?_))
        have hsig : l.sig = sg := ‹l.sig = sg›
        rw [if_pos hsig] at hst
        refine AC.drawn' mixed_ok [[], [0], [0,1], [0,1,2], [0,1,2,3], [], [5], [0,1,2,3,5,6], [0,1,2,3,5,6,7], [0,1,2,3,4,5,6,7], [0,1,2,3,4,5,6,7,8,9]] (by decide) ?_
        refine DF.op 0 [] 11 rfl rfl rfl (.free rfl (NOp.of (by exact g_fa_ptr rfl rfl rfl rfl rfl))) rfl ?_
        refine DF.op 1 [0] 11 rfl rfl rfl (.free rfl (NOp.of (by exact g_load_ptr rfl rfl rfl rfl rfl))) rfl ?_
        refine DF.op 2 [0,1] 11 rfl rfl rfl (.free rfl (NOp.of (by exact g_not rfl))) rfl ?_
        refine DF.op 3 [0,1,2] 11 rfl rfl rfl (.free rfl (by exact h_pure en_l5Bit rfl rfl (by repeat (first | exact rfl | exact DLead.same | refine ⟨_, _, rfl, ?_, ?_⟩)) (l5Bit_spec (!l.up)) rfl)) rfl ?_
        refine DF.op 4 [0,1,2,3] 11 rfl rfl rfl (.free rfl (NOp.of (by exact g_index (i := 0) rfl rfl rfl rfl (bstr1_get _)))) rfl ?_
        refine DF.op 5 [] 11 rfl rfl rfl (.free rfl (NOp.of (by exact g_fa_ptr rfl rfl rfl rfl rfl))) rfl ?_
        refine DF.op 6 [5] 11 rfl rfl rfl (.free rfl (NOp.of (by exact g_load_ptr rfl rfl rfl rfl rfl))) rfl ?_
        refine DF.op 7 [0,1,2,3,5,6] 11 rfl rfl rfl (.free rfl (by exact h_pure en_l5Bit rfl rfl (by repeat (first | exact rfl | exact DLead.same | refine ⟨_, _, rfl, ?_, ?_⟩)) (l5Bit_spec l.up) rfl)) rfl ?_
        refine DF.op 8 [0,1,2,3,5,6,7] 11 rfl rfl rfl (.free rfl (NOp.of (by exact g_index (i := 0) rfl rfl rfl rfl (bstr1_get _)))) rfl ?_
        refine DF.op 9 [0,1,2,3,4,5,6,7] 11 rfl rfl rfl (.free rfl (NOp.of (by exact as1 rfl))) rfl ?_
        refine DF.op 10 (List.range 10) 11 rfl rfl rfl (.free rfl (NOp.of (by exact as1 rfl))) rfl ?_
        refine DF.fin (ps := [(0,5),(0,6),(1,5),(1,6),(2,5),(2,6),(3,5),(3,6),(4,5),(4,6),(4,7),(4,8),(5,0),(5,1),(5,2),(5,3),(5,4),(6,0),(6,1),(6,2),(6,3),(6,4),(7,4),(8,4),(8,9),(9,8)]) 11 rfl (by decide +kernel) (by decide +kernel) (by rfl) ?_
        refine th_n (AC.seq (AC.seq ?_))
        refine AC.weak (t := ⟨149, 1500, [(2, aI sg), (3, .d (.ref (stgD s))), (4, .d (.ref (rgD x))), (8, .own 100 n), (10, aI p), (12, .ptr 201 0), (15, .d (dB (bitLb (!l.up)))), (16, .d (dB (bitLb l.up))), (38, .d (vMvs x.moves)), (39, aI x.moves.length), (40, aI j)], [(100, some (.arr 5 1 (byteEls (encS W)))), (201, some (.cells 52 [aI f, aI b, aI t]))]⟩) (zw [(100, 100), (201, _)] hC) ?_
        refine AC.region ?_
        refine AL.p (by exact mv2 rfl) rfl ?_
        refine zF ?_
        refine zl ?_
        refine AL.p (by exact g_ia_own (i := f) (l := n) rfl rfl rfl rfl rfl rfl hfn rfl) rfl ?_
        refine AL.p (by exact g_load_arr1 rfl rfl rfl rfl (by rw [Nat.mul_one]; exact hgf)) rfl ?_
        refine zc ?_
        refine zm ?_
        refine AL.caseGN rfl rfl (fun h4 => ?_) (fun h4 => ?_)
        ·refine zy ?_
         refine AL.p (by exact mv2 rfl) rfl ?_
         refine zy ?_
         refine zF ?_
         refine zy ?_
         refine zl ?_
         refine zy ?_
         refine AL.p (by exact g_ia_own (i := f) (l := n) rfl rfl rfl rfl rfl rfl hfn rfl) rfl ?_
         refine zy ?_
         refine AL.p (by exact g_load_arr1 rfl rfl rfl rfl (by rw [Nat.mul_one]; exact hgf)) rfl ?_
         refine zy ?_
         refine zm ?_
         refine zy ?_
         refine zc ?_
         refine zQ ?_
         refine zm ?_
         refine AL.caseGN rfl rfl (fun h5 => ?_) (fun h5 => ?_)
         ·refine zn ?_
          refine zn ?_
          refine zn ?_
          refine zn ?_
          refine zn ?_
          refine zn ?_
          refine zn ?_
          refine AL.notU rfl rfl rfl ?_
          refine AL.notU rfl rfl rfl ?_
          refine AL.notU rfl rfl rfl ?_
          refine AL.notU rfl rfl rfl ?_
          refine AL.notU rfl rfl rfl ?_
          refine AL.notU rfl rfl rfl ?_
          refine AL.notU rfl rfl rfl ?_
          refine zn ?_
          refine zQ ?_
          refine AL.nil (th_n ?_)
          refine AC.condT rfl ?_
          refine AC.seq (AC.region ?_)
          refine za ?_
          refine za ?_
          refine AL.nil (th_n (AC.ret (th_r (ib_r (th_r (th_r (ib_r (ib_r (th_r (th_r (ib_r (th_r (bq_r ?_)))))))))))))
          have hsn : S = none := by rw [hst]; refine if_pos ?_; (have q1 := enc_ne ‹¬ ((encR (vAt W f)).toNat : Int) = 63› ‹¬ ((encR (vAt W f)).toNat : Int) = ((bitLb (!l.up)).toNat : Int)›; rw [Bool.not_not] at q1; exact .inl q1)
          have hpn : passR sg A V = none := by rw [← hps, hsn]; rfl
          have e := hRn (by rw [← hit, hpn]; rfl)
          exact ret2 rfl (by rw [e]; rfl) (by rw [e])
         ·refine zy ?_
          refine AL.p (by exact mv2 rfl) rfl ?_
          refine zy ?_
          refine zF ?_
          refine zy ?_
          refine zl ?_
          refine zy ?_
          refine AL.p (by exact g_ia_own (i := t) (l := n) rfl rfl rfl rfl rfl rfl htn rfl) rfl ?_
          refine zy ?_
          refine AL.p (by exact g_load_arr1 rfl rfl rfl rfl (by rw [Nat.mul_one]; exact hgt)) rfl ?_
          refine zy ?_
          refine zc ?_
          refine zy ?_
          refine zm ?_
          refine AL.caseGN rfl rfl (fun h6 => ?_) (fun h6 => ?_)
          ·refine zy ?_
           refine AL.p (by exact mv2 rfl) rfl ?_
           refine zy ?_
           refine zF ?_
           refine zy ?_
           refine zl ?_
           refine zy ?_
           refine AL.p (by exact g_ia_own (i := t) (l := n) rfl rfl rfl rfl rfl rfl htn rfl) rfl ?_
           refine zy ?_
           refine AL.p (by exact g_load_arr1 rfl rfl rfl rfl (by rw [Nat.mul_one]; exact hgt)) rfl ?_
           refine zy ?_
           refine zm ?_
           refine zy ?_
           refine zc ?_
           refine zy ?_
           refine zQ ?_
           refine zP ?_
           refine AL.nil (th_n ?_)
           refine AC.condND rfl (fun h7 => ?_) (fun h7 => ?_)
           ·refine AC.seq (AC.region ?_)
            refine za ?_
            refine za ?_
            refine AL.nil (th_n (AC.ret (th_r (ib_r (th_r (th_r (ib_r (ib_r (th_r (th_r (ib_r (th_r (bq_r ?_)))))))))))))
            have hsn : S = none := by rw [hst]; refine if_pos ?_; exact .inr (enc_ne ‹¬ ((encR (vAt W t)).toNat : Int) = 63› ‹¬ ((encR (vAt W t)).toNat : Int) = ((bitLb l.up).toNat : Int)›)
            have hpn : passR sg A V = none := by rw [← hps, hsn]; rfl
            have e := hRn (by rw [← hit, hpn]; rfl)
            exact ret2 rfl (by rw [e]; rfl) (by rw [e])
           ·refine AC.skip (th_n (AC.seq ?_))
            have hnf : ¬ vAt W f = some l.up := fun q => by rw [← Bool.not_not l.up] at q; exact (enc_no q).2 (by assumption)
            have hnt : ¬ vAt W t = some (!l.up) := fun q => by exact (enc_no q).2 (by assumption)
            rw [if_neg (by rintro (q | q); exact hnf q; exact hnt q)] at hst
            rw [hst, Option.bind_some] at hps
            have hgt2 : ∃ c, (byteEls ((encS W).set f (bitLb (!l.up))))[t]? = some [dB c] := ⟨_, byteEls_get (by rw [List.length_set]; omega)⟩
            obtain ⟨c, hgc⟩ := hgt2
            refine AC.region ?_
            refine AL.p (by exact mv2 rfl) rfl ?_
            refine zF ?_
            refine zl ?_
            refine zm ?_
            refine AL.p (by exact g_ia_own (i := f) (l := n) rfl rfl rfl rfl rfl rfl hfn rfl) rfl ?_
            refine AL.q (by exact h_store_arr (i := f) (j := 0) (d := dB (bitLb (!l.up))) rfl rfl rfl rfl .same rfl hgf (by decide)) rfl ?_
            refine AL.nil (th_n (AC.region ?_))
            refine AL.p (by exact mv2 rfl) rfl ?_
            refine zF ?_
            refine zl ?_
            refine zm ?_
            refine AL.p (by exact g_ia_own (i := t) (l := n) rfl rfl rfl rfl rfl rfl htn rfl) rfl ?_
            refine AL.q (by exact h_store_arr (i := t) (j := 0) (d := dB (bitLb l.up)) rfl rfl rfl rfl .same rfl (by rw [show [dB (encR (vAt W f))].set 0 (dB (bitLb (!l.up))) = [dB (bitLb (!l.up))] from rfl, byteEls_set]; exact hgc) (by decide)) rfl ?_
            refine AL.nil (ib_n (th_n (AC.region ?_)))
            refine zA ?_
            refine zm ?_
            refine AL.nil (th_n ?_)
            exact ⟨(j + 1, (W.set f (some (!l.up))).set t (some l.up)), ⟨by dsimp only; omega, by dsimp only; rw [List.length_set, List.length_set]; exact hWl, hps⟩, by dsimp only; omega, zw [(100, 100)] hC (b := by rw [encS_set, encS_set, ← byteEls_set, ← byteEls_set]; repeat (first | exact True.intro | refine And.intro ?_ ?_ | exact rfl | refine ⟨_, _, rfl, rfl, ?_⟩))⟩
          ·refine zn ?_
           refine zn ?_
           refine zn ?_
           refine zn ?_
           refine zn ?_
           refine zn ?_
           refine zn ?_
           refine zy ?_
           refine zP ?_
           refine zP ?_
           refine AL.nil (th_n ?_)
           refine AC.condF rfl ?_
           refine AC.skip (th_n (AC.seq ?_))
           have hnf : ¬ vAt W f = some l.up := fun q => by rw [← Bool.not_not l.up] at q; exact (enc_no q).2 (by assumption)
           have hnt : ¬ vAt W t = some (!l.up) := fun q => by exact (enc_no q).1 (by assumption)
           rw [if_neg (by rintro (q | q); exact hnf q; exact hnt q)] at hst
           rw [hst, Option.bind_some] at hps
           have hgt2 : ∃ c, (byteEls ((encS W).set f (bitLb (!l.up))))[t]? = some [dB c] := ⟨_, byteEls_get (by rw [List.length_set]; omega)⟩
           obtain ⟨c, hgc⟩ := hgt2
           refine AC.region ?_
           refine AL.p (by exact mv2 rfl) rfl ?_
           refine zF ?_
           refine zl ?_
           refine zm ?_
           refine AL.p (by exact g_ia_own (i := f) (l := n) rfl rfl rfl rfl rfl rfl hfn rfl) rfl ?_
           refine AL.q (by exact h_store_arr (i := f) (j := 0) (d := dB (bitLb (!l.up))) rfl rfl rfl rfl .same rfl hgf (by decide)) rfl ?_
           refine AL.nil (th_n (AC.region ?_))
           refine AL.p (by exact mv2 rfl) rfl ?_
           refine zF ?_
           refine zl ?_
           refine zm ?_
           refine AL.p (by exact g_ia_own (i := t) (l := n) rfl rfl rfl rfl rfl rfl htn rfl) rfl ?_
           refine AL.q (by exact h_store_arr (i := t) (j := 0) (d := dB (bitLb l.up)) rfl rfl rfl rfl .same rfl (by rw [show [dB (encR (vAt W f))].set 0 (dB (bitLb (!l.up))) = [dB (bitLb (!l.up))] from rfl, byteEls_set]; exact hgc) (by decide)) rfl ?_
           refine AL.nil (ib_n (th_n (AC.region ?_)))
           refine zA ?_
           refine zm ?_
           refine AL.nil (th_n ?_)
           exact ⟨(j + 1, (W.set f (some (!l.up))).set t (some l.up)), ⟨by dsimp only; omega, by dsimp only; rw [List.length_set, List.length_set]; exact hWl, hps⟩, by dsimp only; omega, zw [(100, 100)] hC (b := by rw [encS_set, encS_set, ← byteEls_set, ← byteEls_set]; repeat (first | exact True.intro | refine And.intro ?_ ?_ | exact rfl | refine ⟨_, _, rfl, rfl, ?_⟩))⟩
        ·refine zn ?_
         refine zn ?_
         refine zn ?_
         refine zn ?_
         refine zn ?_
         refine zn ?_
         refine zn ?_
         refine zP ?_
         refine zm ?_
         refine zy ?_
         refine AL.p (by exact mv2 rfl) rfl ?_
         refine zy ?_
         refine zF ?_
         refine zy ?_
         refine zl ?_
         refine zy ?_
         refine AL.p (by exact g_ia_own (i := t) (l := n) rfl rfl rfl rfl rfl rfl htn rfl) rfl ?_
         refine zy ?_
         refine AL.p (by exact g_load_arr1 rfl rfl rfl rfl (by rw [Nat.mul_one]; exact hgt)) rfl ?_
         refine zy ?_
         refine zc ?_
         refine zy ?_
         refine zm ?_
         refine AL.caseGN rfl rfl (fun h5 => ?_) (fun h5 => ?_)
         ·refine zy ?_
          refine AL.p (by exact mv2 rfl) rfl ?_
          refine zy ?_
          refine zF ?_
          refine zy ?_
          refine zl ?_
          refine zy ?_
          refine AL.p (by exact g_ia_own (i := t) (l := n) rfl rfl rfl rfl rfl rfl htn rfl) rfl ?_
          refine zy ?_
          refine AL.p (by exact g_load_arr1 rfl rfl rfl rfl (by rw [Nat.mul_one]; exact hgt)) rfl ?_
          refine zy ?_
          refine zm ?_
          refine zy ?_
          refine zc ?_
          refine zy ?_
          refine zQ ?_
          refine zP ?_
          refine AL.nil (th_n ?_)
          refine AC.condND rfl (fun h6 => ?_) (fun h6 => ?_)
          ·refine AC.seq (AC.region ?_)
           refine za ?_
           refine za ?_
           refine AL.nil (th_n (AC.ret (th_r (ib_r (th_r (th_r (ib_r (ib_r (th_r (th_r (ib_r (th_r (bq_r ?_)))))))))))))
           have hsn : S = none := by rw [hst]; refine if_pos ?_; exact .inr (enc_ne ‹¬ ((encR (vAt W t)).toNat : Int) = 63› ‹¬ ((encR (vAt W t)).toNat : Int) = ((bitLb l.up).toNat : Int)›)
           have hpn : passR sg A V = none := by rw [← hps, hsn]; rfl
           have e := hRn (by rw [← hit, hpn]; rfl)
           exact ret2 rfl (by rw [e]; rfl) (by rw [e])
          ·refine AC.skip (th_n (AC.seq ?_))
           have hnf : ¬ vAt W f = some l.up := fun q => by rw [← Bool.not_not l.up] at q; exact (enc_no q).1 (by assumption)
           have hnt : ¬ vAt W t = some (!l.up) := fun q => by exact (enc_no q).2 (by assumption)
           rw [if_neg (by rintro (q | q); exact hnf q; exact hnt q)] at hst
           rw [hst, Option.bind_some] at hps
           have hgt2 : ∃ c, (byteEls ((encS W).set f (bitLb (!l.up))))[t]? = some [dB c] := ⟨_, byteEls_get (by rw [List.length_set]; omega)⟩
           obtain ⟨c, hgc⟩ := hgt2
           refine AC.region ?_
           refine AL.p (by exact mv2 rfl) rfl ?_
           refine zF ?_
           refine zl ?_
           refine zm ?_
           refine AL.p (by exact g_ia_own (i := f) (l := n) rfl rfl rfl rfl rfl rfl hfn rfl) rfl ?_
           refine AL.q (by exact h_store_arr (i := f) (j := 0) (d := dB (bitLb (!l.up))) rfl rfl rfl rfl .same rfl hgf (by decide)) rfl ?_
           refine AL.nil (th_n (AC.region ?_))
           refine AL.p (by exact mv2 rfl) rfl ?_
           refine zF ?_
           refine zl ?_
           refine zm ?_
           refine AL.p (by exact g_ia_own (i := t) (l := n) rfl rfl rfl rfl rfl rfl htn rfl) rfl ?_
           refine AL.q (by exact h_store_arr (i := t) (j := 0) (d := dB (bitLb l.up)) rfl rfl rfl rfl .same rfl (by rw [show [dB (encR (vAt W f))].set 0 (dB (bitLb (!l.up))) = [dB (bitLb (!l.up))] from rfl, byteEls_set]; exact hgc) (by decide)) rfl ?_
           refine AL.nil (ib_n (th_n (AC.region ?_)))
           refine zA ?_
           refine zm ?_
           refine AL.nil (th_n ?_)
           exact ⟨(j + 1, (W.set f (some (!l.up))).set t (some l.up)), ⟨by dsimp only; omega, by dsimp only; rw [List.length_set, List.length_set]; exact hWl, hps⟩, by dsimp only; omega, zw [(100, 100)] hC (b := by rw [encS_set, encS_set, ← byteEls_set, ← byteEls_set]; repeat (first | exact True.intro | refine And.intro ?_ ?_ | exact rfl | refine ⟨_, _, rfl, rfl, ?_⟩))⟩
         ·refine zn ?_
          refine zn ?_
          refine zn ?_
          refine zn ?_
          refine zn ?_
          refine zn ?_
          refine zn ?_
          refine zy ?_
          refine zP ?_
          refine zP ?_
          refine AL.nil (th_n ?_)
          refine AC.condF rfl ?_
          refine AC.skip (th_n (AC.seq ?_))
          have hnf : ¬ vAt W f = some l.up := fun q => by rw [← Bool.not_not l.up] at q; exact (enc_no q).1 (by assumption)
          have hnt : ¬ vAt W t = some (!l.up) := fun q => by exact (enc_no q).1 (by assumption)
          rw [if_neg (by rintro (q | q); exact hnf q; exact hnt q)] at hst
          rw [hst, Option.bind_some] at hps
          have hgt2 : ∃ c, (byteEls ((encS W).set f (bitLb (!l.up))))[t]? = some [dB c] := ⟨_, byteEls_get (by rw [List.length_set]; omega)⟩
          obtain ⟨c, hgc⟩ := hgt2
          refine AC.region ?_
          refine AL.p (by exact mv2 rfl) rfl ?_
          refine zF ?_
          refine zl ?_
          refine zm ?_
          refine AL.p (by exact g_ia_own (i := f) (l := n) rfl rfl rfl rfl rfl rfl hfn rfl) rfl ?_
          refine AL.q (by exact h_store_arr (i := f) (j := 0) (d := dB (bitLb (!l.up))) rfl rfl rfl rfl .same rfl hgf (by decide)) rfl ?_
          refine AL.nil (th_n (AC.region ?_))
          refine AL.p (by exact mv2 rfl) rfl ?_
          refine zF ?_
          refine zl ?_
          refine zm ?_
          refine AL.p (by exact g_ia_own (i := t) (l := n) rfl rfl rfl rfl rfl rfl htn rfl) rfl ?_
          refine AL.q (by exact h_store_arr (i := t) (j := 0) (d := dB (bitLb l.up)) rfl rfl rfl rfl .same rfl (by rw [show [dB (encR (vAt W f))].set 0 (dB (bitLb (!l.up))) = [dB (bitLb (!l.up))] from rfl, byteEls_set]; exact hgc) (by decide)) rfl ?_
          refine AL.nil (ib_n (th_n (AC.region ?_)))
          refine zA ?_
          refine zm ?_
          refine AL.nil (th_n ?_)
          exact ⟨(j + 1, (W.set f (some (!l.up))).set t (some l.up)), ⟨by dsimp only; omega, by dsimp only; rw [List.length_set, List.length_set]; exact hWl, hps⟩, by dsimp only; omega, zw [(100, 100)] hC (b := by rw [encS_set, encS_set, ← byteEls_set, ← byteEls_set]; repeat (first | exact True.intro | refine And.intro ?_ ?_ | exact rfl | refine ⟨_, _, rfl, rfl, ?_⟩))⟩
      ·refine AC.exit (th_e (th_e (ib_y (ib_n (th_n (AC.region ?_))))))
       refine zm ?_
       refine zA ?_
       refine za ?_
       refine AL.nil (th_n ?_)
       have hjj : j = A.length := by omega
       rw [hjj, List.drop_length, passR] at hps
       rw [← hps, Option.bind_some] at hit
       exact ⟨(p + 1, W), ⟨by dsimp only; omega, hWl, by rw [show n + 1 - (p + 1) = q by omega]; exact hit⟩, by dsimp only; omega, zw [(100, 100)] hC⟩
    ·refine AC.exit (th_e (th_e (ib_y (th_n (AC.seq ?_)))))
     have hz : n + 1 - p = 0 := by omega
     rw [hz, iterR] at hit
     have e := hRs V hit.symm
     have hel := encS_len V
     refine AC.region ?_
     refine AL.p (by exact mv2 rfl) rfl ?_
     refine AL.p (by exact g_strOfBytes (l := encS V) rfl rfl rfl rfl rfl rfl (by rw [hel, hVl])) rfl ?_
     refine za ?_
     refine za ?_
     refine AL.nil (th_n (AC.ret (bq_r ?_)))
     exact ret2 rfl (by rw [e]) (by rw [e])
theorem en_l5Values : Enters Tryz.prog 137 := enters_of Tryz.func137 rfl rfl
end Go.Proofs.YthafkkgmekgmoaaGreat
