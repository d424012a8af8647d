/- Contracts of the functions of the program and of the reference, each proved by a walk through its code. -/
import Derived.WalkKit
import Derived.WalkSpells
import Derived.WalkLawsBesides
import Derived.Deep.Draws
import Derived.Lib.Hide
import Derived.Maps.AppendAt
import Derived.OwnWalk
import Derived.Deep.MidRow
import Derived.Laws.ResultCell
import Derived.Deep.Upon
import Derived.Great.FillDense
import Derived.Laws.Tables
import Derived.Laws.BytesArg
import Derived.Laws.MakeOwn
import Derived.Great.BuildSlice
import Derived.ArgAppend
import Derived.Deep.AppendSrc
import Derived.Test.YtjejbpeedblclaaProg
import Derived.KernelRfl
import Derived.Orders
import Derived.Laws.IdiomStrings
import Derived.Lib.AppendZerosOnto
import Derived.ProofKit
import Derived.OpenShut
import Derived.Lib.SliceRun
import Derived.Laws.StructEq
import Derived.ChangeKeysEq
import Derived.Sort.Grow
import Derived.Laws.RangeString
import Derived.Below
import Derived.Laws.Small
import Derived.Laws.IdiomCopy
import Derived.MapKept
import Derived.Test.YtjejbpeedblclaaGMi7
set_option linter.all false
set_option maxRecDepth 20000
namespace Go.Proofs.Ytjejbpeedblclaa
open Go.RowKit
set_option maxHeartbeats 1000000 in
theorem growSig_spec (n : Nat) (h0' : 0 < n) (hn : n ≤ 100000000) : ASpec Try.prog 66 [nilA, aI n] [] (Fun1 (.own 0 0) [(0, .arr 58 2 [])]) := by
 refine ASpec.of Try.func66 rfl rfl fun C hC => ?_
 refine AC.seq (AC.region ?_)
 refine AL.p (by exact as1 rfl) rfl ?_
 refine AL.nil (th_n (AC.seq (AC.seq (AC.region ?_))))
 refine AL.p (by exact mv1 rfl) rfl ?_
 refine AL.p (by exact g_cmp rfl rfl rfl) rfl ?_
 refine AL.nil (th_n ?_)
 refine AC.condD rfl (fun h0 => ?_) (fun h0 => ?_)
 ·exact absurd h0 (by omega)
 ·refine AC.skip (th_n (AC.seq (AC.seq (AC.region ?_))))
  refine AL.p (by exact mv1 rfl) rfl ?_
  refine AL.p (by exact mv1 rfl) rfl ?_
  refine AL.p (by exact g_cap_nil rfl rfl) rfl ?_
  refine AL.p (by exact mv1 rfl) rfl ?_
  refine AL.p (by exact g_len_nil rfl rfl) rfl ?_
  refine AL.p (by exact g_arith rfl rfl rfl (by exact wrap_i64 (by omega))) rfl ?_
  refine AL.p (by exact g_arith rfl rfl rfl (by exact wrap_i64 (by omega))) rfl ?_
  refine AL.p (by exact as1 rfl) rfl ?_
  refine AL.nil (th_n (AC.seq (AC.region ?_)))
  refine AL.p (by exact mv1 rfl) rfl ?_
  refine AL.p (by exact g_cmp rfl rfl rfl) rfl ?_
  refine AL.nil (th_n ?_)
  refine AC.condD rfl (fun h1 => ?_) (fun h1 => ?_)
  ·refine AC.region ?_
   refine AL.p (by exact mv1 rfl) rfl ?_
   refine AL.p (by exact mv1 rfl) rfl ?_
   refine AL.p (by exact g_cap_nil rfl rfl) rfl ?_
   refine AL.p (by exact g_slice_nil rfl rfl rfl (by exact .some rfl rfl)) rfl ?_
   refine AL.p (by exact mv1 rfl) rfl ?_
   refine AL.q (by exact h_growZ (k := n) rfl rfl rfl rfl rfl rfl rfl rfl (by omega) h0' (by omega) (by show n * 24 ≤ _; omega)) rfl ?_
   refine AL.p (by exact mv1 rfl) rfl ?_
   refine AL.p (by exact g_len_nil rfl rfl) rfl ?_
   refine AL.p (by exact g_slice_own rfl rfl rfl rfl (by exact .some rfl (by rfl)) (by exact Nat.zero_le _)) rfl ?_
   refine AL.p (by exact as2 rfl) rfl ?_
   refine AL.nil (th_n (AC.seq (AC.region ?_)))
   refine AL.p (by exact mv2 rfl) rfl ?_
   refine AL.p (by exact as2 rfl) rfl ?_
   refine AL.nil (th_n (AC.ret (bq_r ?_)))
   exact retN [(0, _)] rfl (by repeat (first | exact rfl | refine ⟨_, rfl, ?_⟩)) (by repeat (first | exact True.intro | refine And.intro ?_ ?_ | exact rfl | refine ⟨_, _, rfl, rfl, ?_⟩)) rfl rfl
  ·refine AC.skip (th_n (AC.seq (AC.region ?_)))
   refine AL.p (by exact mv1 rfl) rfl ?_
   refine AL.p (by exact as1 rfl) rfl ?_
   refine AL.nil (th_n (AC.ret (bq_r ?_)))
   exact absurd h0' (by omega)
theorem en_growSig : Enters Try.prog 66 := enters_of Try.func66 rfl rfl
abbrev vSS (L : List (List Sig)) : DV := .view 27 1 (L.map fun l => [vSigs l])
theorem vSS_get {L : List (List Sig)} {k : Nat} (h : k < L.length) : (L.map fun l => [vSigs l])[k]? = some [vSigs L[k]] := by simp [List.getElem?_map, List.getElem?_eq_getElem h]
theorem take_flatS {L : List (List Sig)} {k : Nat} (hk : k < L.length) : (L.take (k + 1)).flatten = (L.take k).flatten ++ L[k] := by
 rw [List.take_add_one, List.getElem?_eq_getElem hk, List.flatten_append]; simp
theorem take_flatS_le (L : List (List Sig)) (k : Nat) : (L.take k).flatten.length ≤ L.flatten.length := by
 conv => rhs; rw [← List.take_append_drop k L, List.flatten_append, List.length_append]
 omega
set_option maxHeartbeats 2000000 in
theorem concatSig_spec (L : List (List Sig)) (hL : L.length ≤ 1000) (h0' : 0 < L.flatten.length) (hn : L.flatten.length ≤ 10000000) : ASpec Try.prog 36 [.d (vSS L)] [] (Pure1 (.d (vSigs L.flatten))) := by
 have hG := growSig_spec L.flatten.length h0' (by omega)
 refine ASpec.of Try.func36 rfl rfl fun C hC => ?_
 refine AC.seq (AC.region ?_)
 refine AL.p (by exact as1 rfl) rfl ?_
 refine AL.nil (th_n (AC.seq (AC.region ?_)))
 refine AL.p (by exact as1 rfl) rfl ?_
 refine AL.nil (th_n (AC.seq (AC.seq (AC.region ?_))))
 refine AL.p (by exact mv1 rfl) rfl ?_
 refine AL.p (by exact g_len_view (k := L.length) rfl rfl (List.length_map _)) rfl ?_
 refine AL.p (by exact mv1 rfl) rfl ?_
 refine AL.nil (th_n (AC.block ?_))
 refine AC.loop (ι := Nat) (fun k => ⟨36, 0, [(0, .d (vSS L)), (3, aI (L.take k).flatten.length), (9, .d (vSS L)), (10, aI L.length), (11, aI k)], []⟩) (fun k => k ≤ L.length) (fun k => L.length - k) (0) ?_ (Nat.zero_le _) ?_
 ·refine Weak.ren _ [] hC rfl ?_ ?_ rfl rfl rfl <;> repeat (first | exact True.intro | refine And.intro ?_ ?_ | exact DLead.same)
 ·intro k hk
  refine AC.seq (AC.region ?_)
  refine AL.p (by exact g_cmp rfl rfl rfl) rfl ?_
  refine AL.nil (th_n (AC.seq ?_))
  refine AC.condD rfl (fun h0 => ?_) (fun h0 => ?_)
  ·refine AC.skip (th_n (AC.seq (AC.block (AC.seq ?_))))
   have hk1 : k < L.length := by omega
   have hget := vSS_get hk1
   have hb := take_flatS_le L k
   have hb2 := take_flatS_le L (k + 1)
   have hfl := take_flatS hk1
   have hln : (L.take (k + 1)).flatten.length = (L.take k).flatten.length + L[k].length := by rw [hfl, List.length_append]
   refine AC.region ?_
   refine AL.p (by exact g_ia_view rfl rfl rfl rfl rfl (by rfl) (by assumption)) rfl ?_
   refine AL.p (by exact g_load_ref rfl rfl rfl) rfl ?_
   refine AL.p (by exact as1 rfl) rfl ?_
   refine AL.nil (th_n (AC.seq (AC.region ?_)))
   refine AL.p (by exact mv1 rfl) rfl ?_
   refine AL.p (by exact mv1 rfl) rfl ?_
   refine AL.p (by exact g_len_view (k := L[k].length) rfl rfl (sigsL_len _)) rfl ?_
   refine AL.p (by exact g_arith rfl rfl rfl (by exact wrap_i64 (by omega))) rfl ?_
   refine AL.p (by exact as1 rfl) rfl ?_
   refine AL.nil (th_n (AC.seq (AC.region ?_)))
   refine AL.p (by exact mv1 rfl) rfl ?_
   refine AL.p (by exact g_cmp rfl rfl rfl) rfl ?_
   refine AL.nil (th_n ?_)
   refine AC.condD rfl (fun h1 => ?_) (fun h1 => ?_)
   ·exact absurd h1 (by omega)
   ·refine AC.skip (ib_n (th_n (AC.region ?_)))
    refine AL.p (by exact g_arith rfl rfl rfl (by exact wrap_i64 (by omega))) rfl ?_
    refine AL.p (by exact mv1 rfl) rfl ?_
    refine AL.nil (th_n ?_)
    exact ⟨k + 1, by omega, by omega, Weak.ren _ [] hC rfl (by repeat (first | exact True.intro | refine And.intro ?_ ?_ | exact DLead.same | exact DLead.eqI (by omega))) (by repeat (exact True.intro)) rfl rfl rfl⟩
  ·refine AC.exit (th_e (th_e (ib_y (th_n (AC.seq ?_)))))
   have hkk : k = L.length := by omega
   subst hkk
   have htl : L.take L.length = L := List.take_length
   rw [htl]
   refine AC.region ?_
   refine AL.p (by exact mv1 rfl) rfl ?_
   refine AL.q (by exact h_fun (cs := []) en_growSig rfl rfl (by repeat (first | exact rfl | exact DLead.same | refine ⟨_, _, rfl, ?_, ?_⟩)) (by repeat (exact True.intro)) hG rfl rfl rfl rfl) rfl ?_
   refine AL.p (by exact as2 rfl) rfl ?_
   refine AL.nil (th_n (AC.seq (AC.seq (AC.region ?_))))
   refine AL.p (by exact mv1 rfl) rfl ?_
   refine AL.p (by exact g_len_view (k := L.length) rfl rfl (List.length_map _)) rfl ?_
   refine AL.p (by exact mv1 rfl) rfl ?_
   refine AL.nil (th_n (AC.block ?_))
   refine AC.loop (ι := Nat) (fun k => ⟨36, 108, [(0, .d (vSS L)), (6, .own 100 (L.take k).flatten.length), (25, .d (vSS L)), (26, aI L.length), (27, aI k)], [(100, some (.arr 58 2 (sigsL (L.take k).flatten)))]⟩) (fun k => k ≤ L.length) (fun k => L.length - k) (0) ?_ (Nat.zero_le _) ?_
   ·exact Weak.ren _ [(100, _)] hC rfl (by repeat (first | exact True.intro | refine And.intro ?_ ?_ | exact DLead.same | exact rfl | refine ⟨_, rfl, ?_⟩)) (by repeat (first | exact True.intro | refine And.intro ?_ ?_ | exact rfl | refine ⟨_, _, rfl, rfl, ?_⟩)) rfl rfl rfl
   ·intro k hk
    refine AC.seq (AC.region ?_)
    refine AL.p (by exact g_cmp rfl rfl rfl) rfl ?_
    refine AL.nil (th_n (AC.seq ?_))
    refine AC.condD rfl (fun h1 => ?_) (fun h1 => ?_)
    ·refine AC.skip (th_n (AC.seq (AC.block (AC.seq ?_))))
     have hk1 : k < L.length := by omega
     have hget := vSS_get hk1
     have hb2 := take_flatS_le L (k + 1)
     have hfl := take_flatS hk1
     refine AC.region ?_
     refine AL.p (by exact g_ia_view rfl rfl rfl rfl rfl (by rfl) (by assumption)) rfl ?_
     refine AL.p (by exact g_load_ref rfl rfl rfl) rfl ?_
     refine AL.p (by exact as1 rfl) rfl ?_
     refine AL.nil (th_n (AC.region ?_))
     refine AL.p (by exact mv2 rfl) rfl ?_
     refine AL.p (by exact mv1 rfl) rfl ?_
     refine AL.q (by exact h_appendSg (L.take k).flatten L[k] (.own rfl rfl (sigsL_len _).symm) (.view rfl) (by rw [← hfl]; omega) (by simp)) rfl ?_
     refine AL.p (by exact as2 rfl) rfl ?_
     refine AL.nil (ib_n (th_n (AC.region ?_)))
     refine AL.p (by exact g_arith rfl rfl rfl (by exact wrap_i64 (by omega))) rfl ?_
     refine AL.p (by exact mv1 rfl) rfl ?_
     refine AL.nil (th_n ?_)
     exact ⟨k + 1, by omega, by omega, Weak.ren _ [(100, _)] hC rfl (by rw [hfl]; repeat (first | exact True.intro | refine And.intro ?_ ?_ | exact DLead.same | exact rfl | refine ⟨_, rfl, ?_⟩)) (by rw [hfl]; repeat (first | exact True.intro | refine And.intro ?_ ?_ | exact rfl | refine ⟨_, _, rfl, rfl, ?_⟩)) rfl rfl rfl⟩
    ·refine AC.exit (th_e (th_e (ib_y (th_n (AC.seq ?_)))))
     have hkk : k = L.length := by omega
     subst hkk
     rw [List.take_length]
     refine AC.weak (Weak.freeze (i := 6) rfl rfl (Nat.le_of_eq (sigsL_len _).symm) (List.take_of_length_le (by rw [sigsL_len]; exact Nat.le_refl _))) ?_
     refine AC.region ?_
     refine AL.p (by exact mv1 rfl) rfl ?_
     refine AL.p (by exact as1 rfl) rfl ?_
     refine AL.nil (th_n (AC.ret (bq_r ?_)))
     exact ret1 rfl rfl
theorem en_concatSig : Enters Try.prog 36 := enters_of Try.func36 rfl rfl
theorem cloneLab_spec (l : List Lab) (hl : l.length ≤ 1000000) : ASpec Try.prog 37 [.d (vLabs l)] [] (Fun1 (.own 0 l.length) [(0, .arr 54 2 (labsL l))]) := by
 refine ASpec.of Try.func37 rfl rfl fun C hC => ?_
 refine AC.seq (AC.region ?_)
 refine AL.p (by exact as1 rfl) rfl ?_
 refine AL.nil (th_n (AC.seq (AC.seq (AC.region ?_))))
 refine AL.p (by exact mv1 rfl) rfl ?_
 refine AL.eqNil (ht := rfl) (hx := rfl) rfl (fun b hb => ?_)
 refine AL.nil (th_n ?_)
 refine AC.condB rfl (fun h0 => ?_) (fun h0 => ?_)
 ·refine AC.seq (AC.region ?_)
  refine AL.p (by exact as1 rfl) rfl ?_
  refine AL.nil (th_n ?_)
  have e : l = [] := by have := hb h0; simpa [labsL] using this
  subst e
  refine AC.weak (Weak.nilOwn (i := 2) (e := 54) (sz := 2) rfl (by decide)) ?_
  refine AC.ret (th_r (bq_r ?_))
  exact retN [(0, _)] rfl (by repeat (first | exact rfl | refine ⟨_, rfl, ?_⟩)) (by repeat (first | exact True.intro | refine And.intro ?_ ?_ | exact rfl | refine ⟨_, _, rfl, rfl, ?_⟩)) rfl rfl
 ·refine AC.skip (th_n (AC.seq (AC.region ?_)))
  refine AL.q (by exact h_lit rfl rfl rfl rfl rfl rfl rfl rfl) rfl ?_
  refine AL.p (by exact mv1 rfl) rfl ?_
  refine AL.q (by exact h_appendLx [] l (.own rfl rfl rfl) (.view rfl) (by simp; omega) (by simp)) rfl ?_
  refine AL.p (by exact as2 rfl) rfl ?_
  refine AL.nil (th_n (AC.ret (bq_r ?_)))
  exact retN [(0, _)] rfl (by repeat (first | exact rfl | refine ⟨_, rfl, ?_⟩)) (by repeat (first | exact True.intro | refine And.intro ?_ ?_ | exact rfl | refine ⟨_, _, rfl, rfl, ?_⟩)) rfl rfl
theorem en_cloneLab : Enters Try.prog 37 := enters_of Try.func37 rfl rfl
theorem stgIf_spec (s : Stg) (h : StgL s) : ASpec Try.prog 38 [stgA s] [] (Pure1 (.tup [stgA (if goodS s = true then s else zS), aT (goodS s)])) := by
 have hV := iIsValidSTG_spec s h
 obtain ⟨b, hb⟩ : ∃ b, b = goodS s := ⟨_, rfl⟩
 rw [← hb] at hV ⊢
 refine ASpec.of Try.func38 rfl rfl fun C hC => ?_
 refine AC.seq (AC.region ?_)
 refine AL.q (by exact h_boxF rfl rfl) rfl ?_
 refine AL.q (by exact h_alloc rfl) rfl ?_
 refine AL.p (by exact as1 rfl) rfl ?_
 refine AL.nil (th_n (AC.seq (AC.seq (AC.region ?_))))
 refine AL.p (by exact g_load_refN rfl rfl rfl rfl) rfl ?_
 refine AL.q (by exact h_pure en_iIsValidSTG rfl rfl (by repeat (first | exact rfl | exact DLead.same | refine ⟨_, _, rfl, ?_, ?_⟩ | refine ⟨_, rfl, ?_⟩)) hV rfl) rfl ?_
 refine AL.p (by exact g_not rfl) rfl ?_
 refine AL.nil (th_n ?_)
 refine AC.condB rfl (fun h0 => ?_) (fun h0 => ?_)
 ·refine AC.seq (AC.region ?_)
  refine AL.p (by exact g_build rfl rfl rfl) rfl ?_
  refine AL.q (by exact h_store rfl rfl rfl rfl rfl rfl) rfl ?_
  refine AL.p (by exact as1 rfl) rfl ?_
  refine AL.nil (th_n (AC.ret (th_r (bq_r ?_))))
  have e : b = false := by simpa using h0
  exact ret0 rfl (by rw [e]; show AV.leads _ (.tup [stgA zS, aT false]) _; repeat (first | exact DLead.same | exact DLead.nil | exact rfl | refine ⟨_, rfl, ?_⟩ | refine ⟨_, _, rfl, ?_, ?_⟩))
 ·refine AC.skip (th_n (AC.seq (AC.region ?_)))
  refine AL.p (by exact g_load_refN rfl rfl rfl rfl) rfl ?_
  refine AL.q (by exact h_store rfl rfl rfl rfl rfl rfl) rfl ?_
  refine AL.p (by exact as1 rfl) rfl ?_
  refine AL.nil (th_n (AC.ret (bq_r ?_)))
  have e : b = true := by simpa using h0
  exact ret0 rfl (by rw [e]; show AV.leads _ (.tup [stgA s, aT true]) _; repeat (first | exact DLead.same | exact rfl | refine ⟨_, rfl, ?_⟩ | refine ⟨_, _, rfl, ?_, ?_⟩))
theorem en_stgIf : Enters Try.prog 38 := enters_of Try.func38 rfl rfl
def unionT' (a b : Stg) : Stg := ⟨unionN a.net b.net, a.sigs ++ b.sigs, a.labs ++ b.labs.map (shLab a.sigs.length), a.start ++ b.start⟩
theorem unionS_impl {a b : Stg} (ha : goodS a = true) (hb : goodS b = true) : unionS a b = (if goodS (unionT' a b) = true then unionT' a b else zS, goodS (unionT' a b)) := by
 have g1 := (goodS_sigs ha).2.2.1
 have g2 := (goodS_sigs hb).2.2.1
 have e : unionR a.net b.net = (netOf (unionN a.net b.net), goodN (unionN a.net b.net)) := by unfold unionR; rw [if_pos (by rw [g1, g2]; rfl)]
 unfold unionS unionT
 rw [e, ha, hb]
 dsimp only
 cases hg : goodN (unionN a.net b.net) with
 | true =>
  have en : netOf (unionN a.net b.net) = unionN a.net b.net := by unfold netOf; rw [if_pos hg]
  rw [en]
  show (if (true && (true && true) && goodS (unionT' a b)) = true then (unionT' a b, true) else (zS, false)) = _
  cases goodS (unionT' a b) <;> rfl
 | false =>
  have e2 : goodS (unionT' a b) = false := by
   unfold goodS unionT'
   dsimp only
   rw [hg]; rfl
  rw [e2]; rfl
theorem unionS_no {a b : Stg} (h : goodS a = false ∨ goodS b = false) : unionS a b = (zS, false) := by
 unfold unionS
 rw [if_neg]
 rcases h with h | h <;> rw [h] <;> simp
set_option maxHeartbeats 8000000 in
theorem iUnionS_spec (a b : Stg) (ha : StgB a) (hb : StgB b) : ASpec Try.prog 13 [stgA a, stgA b] [] (Pure1 (.tup [stgA (unionS a b).1, aT (unionS a b).2])) := by
 have hGa := iIsValidSTG_spec a ha.L
 have hGb := iIsValidSTG_spec b hb.L
 have hno := unionS_no (a := a) (b := b)
 have hyes := unionS_impl (a := a) (b := b)
 have hU0 : goodS a = true → goodS b = true → _ := fun q1 q2 => unionNets_spec a.net b.net ha.n hb.n (goodS_sigs q1).2.2.1 (goodS_sigs q2).2.2.1
 have hs0 : goodS a = true → _ := fun q => (goodS_sigs q).1
 have hs1 : goodS b = true → _ := fun q => (goodS_sigs q).1
 have hf : goodS a = true → goodS b = true → NetL (unionN a.net b.net) := fun q1 q2 => by
  have h1 := good_places (goodS_sigs q1).2.2.1
  have h2 := good_places (goodS_sigs q2).2.2.1
  refine ⟨by show _ ≤ a.net.places + b.net.places ∧ a.net.places + b.net.places ≤ _; omega, by show (a.net.ts ++ b.net.ts.map _).length ≤ _; rw [List.length_append, List.length_map]; omega, fun t ht => ?_⟩
  rcases List.mem_append.1 ht with h | h
  ·have := ha.n.t t h; omega
  ·obtain ⟨u, hu, rfl⟩ := List.mem_map.1 h
   have := hb.n.t u hu
   simp only [shT, mapI, List.length_map]; omega
 have hsa := ha.sg
 have hsb := hb.sg
 have hla := ha.l
 have hlb := hb.l
 have hta := ha.st
 have htb := hb.st
 have hI : goodS a = true → goodS b = true → _ := fun q1 q2 => stgIf_spec (unionT' a b) ⟨hf q1 q2, by show (a.sigs ++ b.sigs).length ≤ _; rw [List.length_append]; omega, (fun t ht => by
  rcases List.mem_append.1 ht with h | h
  ·have := ha.sn t h; omega
  ·have := hb.sn t h; omega), by show (a.labs ++ b.labs.map _).length ≤ _; rw [List.length_append, List.length_map]; omega, by show (a.start ++ b.start).length ≤ _; rw [List.length_append]; omega⟩
 obtain ⟨b1, hb1⟩ : ∃ q, q = goodS a := ⟨_, rfl⟩
 obtain ⟨b2, hb2⟩ : ∃ q, q = goodS b := ⟨_, rfl⟩
 rw [← hb1] at hGa hno hyes hU0 hs0 hI hf
 rw [← hb2] at hGb hno hyes hU0 hs1 hI hf
 obtain ⟨G, hG⟩ : ∃ G, G = unionS a b := ⟨_, rfl⟩
 rw [← hG] at hno hyes ⊢
 clear hG hb1 hb2
 refine ASpec.of Try.func13 rfl rfl fun C hC => ?_
 refine AC.seq (AC.region ?_)
 refine AL.q (by exact h_boxF rfl rfl) rfl ?_
 refine AL.q (by exact h_boxF rfl rfl) rfl ?_
 refine AL.q (by exact h_alloc rfl) rfl ?_
 refine AL.p (by exact as1 rfl) rfl ?_
 refine AL.nil (th_n (AC.seq (AC.seq (AC.region ?_))))
 refine AL.p (by exact g_load_refN rfl rfl rfl rfl) rfl ?_
 refine AL.q (by exact h_pure en_iIsValidSTG rfl rfl (by repeat (first | exact rfl | exact DLead.same | refine ⟨_, _, rfl, ?_, ?_⟩ | refine ⟨_, rfl, ?_⟩)) hGa rfl) rfl ?_
 refine AL.p (by exact g_not rfl) rfl ?_
 refine AL.p (by exact mv1 rfl) rfl ?_
 refine AL.caseGB rfl rfl (fun h0 => ?_) (fun h0 => ?_)
 ·refine AL.not rfl rfl rfl rfl rfl ?_
  refine AL.not rfl rfl rfl rfl rfl ?_
  refine AL.not rfl rfl rfl rfl rfl ?_
  refine AL.p (by exact g_pickT (r := .d _) rfl rfl) rfl ?_
  refine AL.nil (th_n ?_)
  refine AC.condT rfl ?_
  refine AC.seq (AC.region ?_)
  refine AL.p (by exact g_build rfl rfl rfl) rfl ?_
  refine AL.q (by exact h_store rfl rfl rfl rfl rfl rfl) rfl ?_
  refine AL.p (by exact as1 rfl) rfl ?_
  refine AL.nil (th_n (AC.ret (th_r (bq_r ?_))))
  have e : G = (zS, false) := by exact hno (.inl (by simpa using h0))
  exact ret0 rfl (by rw [e]; show AV.leads _ (.tup [stgA zS, aT false]) _; repeat (first | exact DLead.same | exact DLead.nil | exact rfl | refine ⟨_, rfl, ?_⟩ | refine ⟨_, _, rfl, ?_, ?_⟩))
 ·refine AL.yes rfl rfl rfl ?_
  refine AL.p (by exact g_load_refN rfl rfl rfl rfl) rfl ?_
  refine AL.yes rfl rfl rfl ?_
  refine AL.q (by exact h_pure en_iIsValidSTG rfl rfl (by repeat (first | exact rfl | exact DLead.same | refine ⟨_, _, rfl, ?_, ?_⟩ | refine ⟨_, rfl, ?_⟩)) hGb rfl) rfl ?_
  refine AL.yes rfl rfl rfl ?_
  refine AL.p (by exact g_not rfl) rfl ?_
  refine AL.p (by exact g_pickF (r := .d _) rfl rfl) rfl ?_
  refine AL.nil (th_n ?_)
  refine AC.condB rfl (fun h1 => ?_) (fun h1 => ?_)
  ·refine AC.seq (AC.region ?_)
   refine AL.p (by exact g_build rfl rfl rfl) rfl ?_
   refine AL.q (by exact h_store rfl rfl rfl rfl rfl rfl) rfl ?_
   refine AL.p (by exact as1 rfl) rfl ?_
   refine AL.nil (th_n (AC.ret (th_r (bq_r ?_))))
   have e : G = (zS, false) := by exact hno (.inr (by simpa using h1))
   exact ret0 rfl (by rw [e]; show AV.leads _ (.tup [stgA zS, aT false]) _; repeat (first | exact DLead.same | exact DLead.nil | exact rfl | refine ⟨_, rfl, ?_⟩ | refine ⟨_, _, rfl, ?_, ?_⟩))
  ·refine AC.skip (th_n (AC.seq ?_))
   have q1 : b1 = true := by simpa using h0
   have q2 : b2 = true := by simpa using h1
   have hU := hU0 q1 q2
   have hI2 := hI q1 q2
   have hn1 := hs0 q1
   have hn2 := hs1 q2
   have hye := hyes q1 q2
   have hcl := cloneLab_spec a.labs (by omega)
   have hcc := concatSig_spec [a.sigs, b.sigs] (by show 2 ≤ 1000; decide) (by simp only [List.flatten_cons, List.flatten_nil, List.append_nil, List.length_append]; omega) (by simp only [List.flatten_cons, List.flatten_nil, List.append_nil, List.length_append]; omega)
   rw [show [a.sigs, b.sigs].flatten = a.sigs ++ b.sigs by simp] at hcc
   obtain ⟨U, hUU⟩ : ∃ U, U = unionN a.net b.net := ⟨_, rfl⟩
   have hT1 : unionT' a b = ⟨U, a.sigs ++ b.sigs, a.labs ++ b.labs.map (shLab a.sigs.length), a.start ++ b.start⟩ := by rw [hUU]; rfl
   rw [← hUU] at hU
   rw [hT1] at hI2
   clear hUU hyes hno hU0 hI hf hs0 hs1
   refine AC.drawn' mixed_ok [[], [0], [], [2], [0,1,2,3], [], [5], [], [7], [5,6,7,8], [0,1,2,3,4,5,6,7,8,9], [], [11], [0,1,2,3,4,5,6,7,8,9,10,11,12], [], [14], [], [16], [14,15,16,17], [0,1,2,3,4,5,6,7,8,9,10,11,12,13,14,15,16,17,18], [], [0,1,2,3,4,5,6,7,8,9,10,11,12,13,14,15,16,17,18,19,20]] (by decide) ?_
   refine DF.op 0 [] 22 rfl rfl rfl (.free rfl (NOp.of (by exact g_fa_ref rfl rfl rfl rfl rfl rfl))) rfl ?_
   refine DF.op 1 [0] 22 rfl rfl rfl (.free rfl (NOp.of (by exact g_load_refN rfl rfl rfl rfl))) rfl ?_
   refine DF.op 2 [] 22 rfl rfl rfl (.free rfl (NOp.of (by exact g_fa_ref rfl rfl rfl rfl rfl rfl))) rfl ?_
   refine DF.op 3 [2] 22 rfl rfl rfl (.free rfl (NOp.of (by exact g_load_refN rfl rfl rfl rfl))) rfl ?_
   refine DF.op 4 [0,1,2,3] 22 rfl rfl rfl (.free rfl (by exact h_pure en_unionNets rfl rfl (by repeat (first | exact rfl | exact DLead.same | refine ⟨_, _, rfl, ?_, ?_⟩ | refine ⟨_, rfl, ?_⟩)) hU rfl)) rfl ?_
   refine DF.op 5 [] 22 rfl rfl rfl (.free rfl (NOp.of (by exact g_fa_ref rfl rfl rfl rfl rfl rfl))) rfl ?_
   refine DF.op 6 [5] 22 rfl rfl rfl (.free rfl (NOp.of (by exact g_load_ref rfl rfl rfl))) rfl ?_
   refine DF.op 7 [] 22 rfl rfl rfl (.free rfl (NOp.of (by exact g_fa_ref rfl rfl rfl rfl rfl rfl))) rfl ?_
   refine DF.op 8 [7] 22 rfl rfl rfl (.free rfl (NOp.of (by exact g_load_ref rfl rfl rfl))) rfl ?_
   refine DF.op 9 [5,6,7,8] 22 rfl rfl rfl (.free rfl (by exact h_litF rfl rfl rfl rfl rfl rfl rfl rfl)) rfl ?_
   refine DF.op 10 (List.range 10) 22 rfl rfl rfl (.free rfl (by exact h_pure en_concatSig rfl rfl (by repeat (first | exact rfl | exact DLead.same | refine ⟨_, _, rfl, ?_, ?_⟩)) hcc rfl)) rfl ?_
   refine DF.op 11 [] 22 rfl rfl rfl (.free rfl (NOp.of (by exact g_fa_ref rfl rfl rfl rfl rfl rfl))) rfl ?_
   refine DF.op 12 [11] 22 rfl rfl rfl (.free rfl (NOp.of (by exact g_load_ref rfl rfl rfl))) rfl ?_
   refine DF.op 13 (List.range 13) 22 rfl rfl rfl (.free rfl (by exact h_fun (cs := []) en_cloneLab rfl rfl (by repeat (first | exact rfl | exact DLead.same | refine ⟨_, _, rfl, ?_, ?_⟩)) (by repeat (exact True.intro)) hcl rfl rfl rfl rfl)) rfl ?_
   refine DF.op 14 [] 22 rfl rfl rfl (.free rfl (NOp.of (by exact g_fa_ref rfl rfl rfl rfl rfl rfl))) rfl ?_
   refine DF.op 15 [14] 22 rfl rfl rfl (.free rfl (NOp.of (by exact g_load_ref rfl rfl rfl))) rfl ?_
   refine DF.op 16 [] 22 rfl rfl rfl (.free rfl (NOp.of (by exact g_fa_ref rfl rfl rfl rfl rfl rfl))) rfl ?_
   refine DF.op 17 [16] 22 rfl rfl rfl (.free rfl (NOp.of (by exact g_load_ref rfl rfl rfl))) rfl ?_
   refine DF.op 18 [14,15,16,17] 22 rfl rfl rfl (.free rfl (NOp.of (by exact g_saddB (a := a.start) (b := b.start) rfl rfl (by omega)))) rfl ?_
   refine DF.op 19 (List.range 19) 22 rfl rfl rfl (.free rfl (NOp.of (by exact g_build rfl rfl rfl))) rfl ?_
   refine DF.op 20 [] 22 rfl rfl rfl (.free rfl (by exact h_alloc rfl)) rfl ?_
   refine DF.op 21 (List.range 21) 22 rfl rfl rfl (.free rfl (by exact h_store rfl rfl rfl rfl rfl rfl)) rfl ?_
   refine DF.fin (ps := [(0,2),(0,3),(0,5),(0,6),(0,7),(0,8),(0,9),(0,11),(0,12),(0,14),(0,15),(0,16),(0,17),(0,18),(0,20),(1,2),(1,3),(1,5),(1,6),(1,7),(1,8),(1,9),(1,11),(1,12),(1,14),(1,15),(1,16),(1,17),(1,18),(1,20),(2,0),(2,1),(2,5),(2,6),(2,7),(2,8),(2,9),(2,11),(2,12),(2,14),(2,15),(2,16),(2,17),(2,18),(2,20),(3,0),(3,1),(3,5),(3,6),(3,7),(3,8),(3,9),(3,11),(3,12),(3,14),(3,15),(3,16),(3,17),(3,18),(3,20),(4,5),(4,6),(4,7),(4,8),(4,9),(4,11),(4,12),(4,14),(4,15),(4,16),(4,17),(4,18),(4,20),(5,0),(5,1),(5,2),(5,3),(5,4),(5,7),(5,8),(5,11),(5,12),(5,14),(5,15),(5,16),(5,17),(5,18),(5,20),(6,0),(6,1),(6,2),(6,3),(6,4),(6,7),(6,8),(6,11),(6,12),(6,14),(6,15),(6,16),(6,17),(6,18),(6,20),(7,0),(7,1),(7,2),(7,3),(7,4),(7,5),(7,6),(7,11),(7,12),(7,14),(7,15),(7,16),(7,17),(7,18),(7,20),(8,0),(8,1),(8,2),(8,3),(8,4),(8,5),(8,6),(8,11),(8,12),(8,14),(8,15),(8,16),(8,17),(8,18),(8,20),(9,0),(9,1),(9,2),(9,3),(9,4),(9,11),(9,12),(9,14),(9,15),(9,16),(9,17),(9,18),(9,20),(10,11),(10,12),(10,14),(10,15),(10,16),(10,17),(10,18),(10,20),(11,0),(11,1),(11,2),(11,3),(11,4),(11,5),(11,6),(11,7),(11,8),(11,9),(11,10),(11,14),(11,15),(11,16),(11,17),(11,18),(11,20),(12,0),(12,1),(12,2),(12,3),(12,4),(12,5),(12,6),(12,7),(12,8),(12,9),(12,10),(12,14),(12,15),(12,16),(12,17),(12,18),(12,20),(13,14),(13,15),(13,16),(13,17),(13,18),(13,20),(14,0),(14,1),(14,2),(14,3),(14,4),(14,5),(14,6),(14,7),(14,8),(14,9),(14,10),(14,11),(14,12),(14,13),(14,16),(14,17),(14,20),(15,0),(15,1),(15,2),(15,3),(15,4),(15,5),(15,6),(15,7),(15,8),(15,9),(15,10),(15,11),(15,12),(15,13),(15,16),(15,17),(15,20),(16,0),(16,1),(16,2),(16,3),(16,4),(16,5),(16,6),(16,7),(16,8),(16,9),(16,10),(16,11),(16,12),(16,13),(16,14),(16,15),(16,20),(17,0),(17,1),(17,2),(17,3),(17,4),(17,5),(17,6),(17,7),(17,8),(17,9),(17,10),(17,11),(17,12),(17,13),(17,14),(17,15),(17,20),(18,0),(18,1),(18,2),(18,3),(18,4),(18,5),(18,6),(18,7),(18,8),(18,9),(18,10),(18,11),(18,12),(18,13),(18,20),(19,20),(20,0),(20,1),(20,2),(20,3),(20,4),(20,5),(20,6),(20,7),(20,8),(20,9),(20,10),(20,11),(20,12),(20,13),(20,14),(20,15),(20,16),(20,17),(20,18),(20,19)]) 22 rfl (by decide +kernel) (by decide +kernel) (by rfl) ?_
   refine th_n (AC.seq (AC.seq (AC.region ?_)))
   refine AL.p (by exact g_fa_ref rfl rfl rfl rfl rfl rfl) rfl ?_
   refine AL.p (by exact g_load_ref rfl rfl rfl) rfl ?_
   refine AL.p (by exact g_len_view (k := b.labs.length) rfl rfl (labsL_len _)) rfl ?_
   refine AL.p (by exact mv1 rfl) rfl ?_
   refine AL.nil (th_n (AC.block ?_))
   refine AC.loop (ι := Nat) (fun k => ⟨66, 400, [(2, .d (.ref (stgD a))), (4, .ptr 201 0), (6, .ptr 200 0), (39, .d (vLabs b.labs)), (40, aI b.labs.length), (41, aI k)], [(200, some (.cells 30 [aI U.places, .d (vTs U.ts), .d (vSigs (a.sigs ++ b.sigs)), .own 102 (a.labs ++ (b.labs.take k).map (shLab a.sigs.length)).length, aS (bstr (a.start ++ b.start))])), (102, some (.arr 54 2 (labsL (a.labs ++ (b.labs.take k).map (shLab a.sigs.length))))), (201, some (.cells 30 zStg))]⟩) (fun k => k ≤ b.labs.length) (fun k => b.labs.length - k) (0) ?_ (Nat.zero_le _) ?_
   ·exact Weak.ren _ [(200, _), (102, _), (201, _)] hC rfl (by repeat (first | exact True.intro | refine And.intro ?_ ?_ | exact DLead.same | exact rfl | refine ⟨_, rfl, ?_⟩)) (by rw [List.take_zero, List.map_nil, List.append_nil a.labs]; repeat (first | exact True.intro | refine And.intro ?_ ?_ | exact DLead.same | exact rfl | refine ⟨_, _, rfl, rfl, ?_⟩ | refine ⟨_, rfl, ?_⟩ | refine ⟨_, _, rfl, ?_, ?_⟩)) rfl rfl rfl
   ·intro k hk
    refine AC.seq (AC.region ?_)
    refine AL.p (by exact g_cmp rfl rfl rfl) rfl ?_
    refine AL.nil (th_n (AC.seq ?_))
    refine AC.condD rfl (fun h2 => ?_) (fun h2 => ?_)
    ·refine AC.skip (th_n (AC.seq (AC.block (AC.seq ?_))))
     have hk1 : k < b.labs.length := by omega
     have hget := labsL_get hk1
     have htk := takeLab (f := shLab a.sigs.length) hk1
     have hbd := hb.lb _ (List.getElem_mem hk1)
     have hacc : (a.labs ++ (b.labs.take k).map (shLab a.sigs.length)).length ≤ 300000 := by rw [List.length_append, List.length_map, List.length_take]; omega
     obtain ⟨acc, hac⟩ : ∃ acc, acc = a.labs ++ (b.labs.take k).map (shLab a.sigs.length) := ⟨_, rfl⟩
     have hnext : a.labs ++ (b.labs.take (k + 1)).map (shLab a.sigs.length) = acc ++ [shLab a.sigs.length b.labs[k]] := by rw [htk, ← List.append_assoc, ← hac]
     rw [← hac] at hacc ⊢
     have hsh : shLab a.sigs.length b.labs[k] = if 0 ≤ b.labs[k].sig then ⟨b.labs[k].sig + a.sigs.length, b.labs[k].up⟩ else b.labs[k] := rfl
     obtain ⟨x, hx⟩ : ∃ x, x = b.labs[k] := ⟨_, rfl⟩
     rw [← hx] at hget hbd hsh hnext
     refine AC.region ?_
     refine AL.p (by exact g_ia_view rfl rfl rfl rfl rfl (by rfl) (by assumption)) rfl ?_
     refine AL.p (by exact g_load_refN rfl rfl rfl rfl) rfl ?_
     refine AL.q (by exact h_alloc rfl) rfl ?_
     refine AL.q (by exact h_store rfl rfl rfl rfl rfl rfl) rfl ?_
     refine AL.nil (th_n ?_)
     refine AC.cut (fun (_ : Unit) => ⟨66, 600, [(2, .d (.ref (stgD a))), (4, .ptr 201 0), (6, .ptr 200 0), (8, .ptr 202 0), (39, .d (vLabs b.labs)), (40, aI b.labs.length), (41, aI k)], [(200, some (.cells 30 [aI U.places, .d (vTs U.ts), .d (vSigs (a.sigs ++ b.sigs)), .own 102 acc.length, aS (bstr (a.start ++ b.start))])), (102, some (.arr 54 2 (labsL acc))), (201, some (.cells 30 zStg)), (202, some (.cells 54 [aI (shLab a.sigs.length x).sig, aT (shLab a.sigs.length x).up]))]⟩) (fun _ => True) ?_ ?_
     ·refine AC.seq (AC.region ?_)
      refine AL.p (by exact g_fa_ptr rfl rfl rfl rfl rfl) rfl ?_
      refine AL.p (by exact g_load_ptr rfl rfl rfl rfl rfl) rfl ?_
      refine AL.p (by exact g_cmp rfl rfl rfl) rfl ?_
      refine AL.nil (th_n ?_)
      refine AC.condD rfl (fun h3 => ?_) (fun h3 => ?_)
      ·refine AC.region ?_
       refine AL.p (by exact g_fa_ptr rfl rfl rfl rfl rfl) rfl ?_
       refine AL.p (by exact g_load_ptr rfl rfl rfl rfl rfl) rfl ?_
       refine AL.p (by exact g_fa_ref rfl rfl rfl rfl rfl rfl) rfl ?_
       refine AL.p (by exact g_load_ref rfl rfl rfl) rfl ?_
       refine AL.p (by exact g_len_view (k := a.sigs.length) rfl rfl (sigsL_len _)) rfl ?_
       refine AL.p (by exact g_arith rfl rfl rfl (by exact wrap_i64 (by omega))) rfl ?_
       refine AL.p (by exact g_fa_ptr rfl rfl rfl rfl rfl) rfl ?_
       refine AL.q (by exact h_store rfl rfl rfl rfl rfl rfl) rfl ?_
       refine AL.nil (th_n ?_)
       have e := hsh.trans (if_pos h3)
       exact ⟨(), trivial, Weak.ren _ [(200, 200), (102, 102), (201, 201), (202, 400)] hC rfl (by repeat (first | exact True.intro | refine And.intro ?_ ?_ | exact DLead.same | exact rfl | refine ⟨_, rfl, ?_⟩)) (by rw [e]; repeat (first | exact True.intro | refine And.intro ?_ ?_ | exact DLead.same | exact rfl | refine ⟨_, _, rfl, rfl, ?_⟩ | refine ⟨_, rfl, ?_⟩ | refine ⟨_, _, rfl, ?_, ?_⟩)) rfl rfl rfl⟩
      ·refine AC.skip (th_n ?_)
       have e := hsh.trans (if_neg h3)
       exact ⟨(), trivial, Weak.ren _ [(200, 200), (102, 102), (201, 201), (202, 400)] hC rfl (by repeat (first | exact True.intro | refine And.intro ?_ ?_ | exact DLead.same | exact rfl | refine ⟨_, rfl, ?_⟩)) (by rw [e]; repeat (first | exact True.intro | refine And.intro ?_ ?_ | exact DLead.same | exact rfl | refine ⟨_, _, rfl, rfl, ?_⟩ | refine ⟨_, rfl, ?_⟩ | refine ⟨_, _, rfl, ?_, ?_⟩)) rfl rfl rfl⟩
     ·intro _ _
      refine AC.region ?_
      refine AL.p (by exact g_fa_ptr rfl rfl rfl rfl rfl) rfl ?_
      refine AL.p (by exact g_load_ptr rfl rfl rfl rfl rfl) rfl ?_
      refine AL.p (by exact g_load_ptrN rfl rfl rfl rfl rfl) rfl ?_
      refine AL.q (by exact h_litF rfl rfl rfl rfl rfl rfl rfl rfl) rfl ?_
      refine AL.q (by exact h_appendLx acc [shLab a.sigs.length x] (.own rfl rfl (labsL_len _).symm) (.view rfl) (by rw [List.length_append]; simp only [List.length_cons, List.length_nil]; omega) (by simp)) rfl ?_
      refine AL.p (by exact g_fa_ptr rfl rfl rfl rfl rfl) rfl ?_
      refine AL.q (by exact h_store rfl rfl rfl rfl rfl rfl) rfl ?_
      refine AL.nil (ib_n (th_n (AC.region ?_)))
      refine AL.p (by exact g_arith rfl rfl rfl (by exact wrap_i64 (by omega))) rfl ?_
      refine AL.p (by exact mv1 rfl) rfl ?_
      refine AL.nil (th_n ?_)
      exact ⟨k + 1, by omega, by omega, Weak.ren _ [(200, 200), (102, _), (201, 201)] hC rfl (by repeat (first | exact True.intro | refine And.intro ?_ ?_ | exact DLead.same | exact rfl | refine ⟨_, rfl, ?_⟩)) (by rw [hnext]; repeat (first | exact True.intro | refine And.intro ?_ ?_ | exact DLead.same | exact rfl | refine ⟨_, _, rfl, rfl, ?_⟩ | refine ⟨_, rfl, ?_⟩ | refine ⟨_, _, rfl, ?_, ?_⟩)) rfl rfl rfl⟩
    ·refine AC.exit (th_e (th_e (ib_y (th_n (AC.seq ?_)))))
     have hkk : k = b.labs.length := by omega
     subst hkk
     rw [List.take_length]
     refine AC.weak (Weak.freezeP (els' := labsL (a.labs ++ b.labs.map (shLab a.sigs.length))) 6 3 rfl rfl rfl rfl (by rw [labsL_len]; exact Nat.le_refl _) (List.take_of_length_le (by rw [labsL_len]; exact Nat.le_refl _)) rfl) ?_
     refine AC.region ?_
     refine AL.p (by exact g_load_ptrN rfl rfl rfl rfl rfl) rfl ?_
     refine AL.q (by exact h_pure en_stgIf rfl rfl (by repeat (first | exact rfl | exact DLead.same | refine ⟨_, _, rfl, ?_, ?_⟩ | refine ⟨_, rfl, ?_⟩)) hI2 rfl) rfl ?_
     refine AL.p (by exact g_extract (r := .agg _) rfl rfl) rfl ?_
     refine AL.p (by exact g_extract (r := .d _) rfl rfl) rfl ?_
     refine AL.q (by exact h_store rfl rfl rfl rfl rfl rfl) rfl ?_
     refine AL.p (by exact as1 rfl) rfl ?_
     refine AL.nil (th_n (AC.ret (bq_r ?_)))
     exact ret0 rfl (by rw [hye, hT1]; repeat (first | exact DLead.same | exact rfl | refine ⟨_, rfl, ?_⟩ | refine ⟨_, _, rfl, ?_, ?_⟩))
theorem en_iUnionS : Enters Try.prog 13 := enters_of Try.func13 rfl rfl
set_option maxHeartbeats 8000000 in
theorem sUnionSTGs_spec (a b : Stg) (ha : StgB a) (hb : StgB b) (hT : NetL (unionR a.net b.net).1) : ASpec Try.prog 14 [stgA a, stgA b] [] (Pure1 (.tup [stgA (unionS a b).1, aT (unionS a b).2])) := by
 have hU := sUnion_spec a.net b.net ha.n hb.n
 have hGa := l2Good_spec a ha.L
 have hGb := l2Good_spec b hb.L
 have hsa := ha.sg
 have hsb := hb.sg
 have hla := ha.l
 have hlb := hb.l
 have hta := ha.st
 have htb := hb.st
 have hGt := l2Good_spec (unionT a b) ⟨hT, by show (a.sigs ++ b.sigs).length ≤ _; rw [List.length_append]; omega, (fun t ht => by
  rcases List.mem_append.1 ht with h | h
  ·have := ha.sn t h; omega
  ·have := hb.sn t h; omega), by show (a.labs ++ b.labs.map _).length ≤ _; rw [List.length_append, List.length_map]; omega, by show (a.start ++ b.start).length ≤ _; rw [List.length_append]; omega⟩
 have hR : unionS a b = if (((unionR a.net b.net).2 && (goodS a && goodS b)) && goodS (unionT a b)) = true then (unionT a b, true) else (zS, false) := rfl
 have hU1 : unionT a b = ⟨(unionR a.net b.net).1, a.sigs ++ b.sigs, a.labs ++ b.labs.map (shLab a.sigs.length), a.start ++ b.start⟩ := rfl
 obtain ⟨U, hUU⟩ : ∃ U, U = (unionR a.net b.net).1 := ⟨_, rfl⟩
 obtain ⟨c1, hc1⟩ : ∃ q, q = (unionR a.net b.net).2 := ⟨_, rfl⟩
 rw [← hUU, ← hc1] at hU
 rw [← hUU] at hU1
 rw [← hc1] at hR
 obtain ⟨c2, hc2⟩ : ∃ q, q = goodS a := ⟨_, rfl⟩
 obtain ⟨c3, hc3⟩ : ∃ q, q = goodS b := ⟨_, rfl⟩
 obtain ⟨T, hTT⟩ : ∃ T, T = unionT a b := ⟨_, rfl⟩
 rw [← hTT] at hGt hU1 hR
 obtain ⟨c4, hc4⟩ : ∃ q, q = goodS T := ⟨_, rfl⟩
 rw [← hc2] at hGa hR
 rw [← hc3] at hGb hR
 rw [← hc4] at hGt hR
 obtain ⟨G, hG⟩ : ∃ G, G = unionS a b := ⟨_, rfl⟩
 rw [← hG] at hR ⊢
 have hN1 : c1 = false → G = (zS, false) := fun q => hR.trans (if_neg (by rw [q]; simp))
 have hN2 : c2 = false → G = (zS, false) := fun q => hR.trans (if_neg (by rw [q]; simp))
 have hN3 : c3 = false → G = (zS, false) := fun q => hR.trans (if_neg (by rw [q]; simp))
 have hN4 : c4 = false → G = (zS, false) := fun q => hR.trans (if_neg (by rw [q]; simp))
 clear hTT hUU hT hG hc1 hc2 hc3 hc4
 refine ASpec.of Try.func14 rfl rfl fun C hC => ?_
 refine AC.seq (AC.region ?_)
 refine AL.q (by exact h_boxF rfl rfl) rfl ?_
 refine AL.q (by exact h_boxF rfl rfl) rfl ?_
 refine AL.q (by exact h_alloc rfl) rfl ?_
 refine AL.p (by exact as1 rfl) rfl ?_
 refine AL.nil (th_n (AC.seq (AC.region ?_)))
 refine AL.p (by exact g_fa_ref rfl rfl rfl rfl rfl rfl) rfl ?_
 refine AL.p (by exact g_load_refN rfl rfl rfl rfl) rfl ?_
 refine AL.p (by exact g_fa_ref rfl rfl rfl rfl rfl rfl) rfl ?_
 refine AL.p (by exact g_load_refN rfl rfl rfl rfl) rfl ?_
 refine AL.q (by exact h_pure en_sUnion rfl rfl (by repeat (first | exact rfl | exact DLead.same | refine ⟨_, _, rfl, ?_, ?_⟩ | refine ⟨_, rfl, ?_⟩)) hU rfl) rfl ?_
 refine AL.p (by exact mv5 rfl) rfl ?_
 refine AL.p (by exact g_extract (r := .agg _) rfl rfl) rfl ?_
 refine AL.p (by exact g_extract (r := .d _) rfl rfl) rfl ?_
 refine AL.q (by exact h_alloc rfl) rfl ?_
 refine AL.q (by exact h_store rfl rfl rfl rfl rfl rfl) rfl ?_
 refine AL.p (by exact as1 rfl) rfl ?_
 refine AL.nil (th_n (AC.seq (AC.seq (AC.region ?_))))
 refine AL.p (by exact mv1 rfl) rfl ?_
 refine AL.p (by exact g_not rfl) rfl ?_
 refine AL.p (by exact mv1 rfl) rfl ?_
 refine AL.caseGB rfl rfl (fun h0 => ?_) (fun h0 => ?_)
 ·refine AL.not rfl rfl rfl rfl rfl ?_
  refine AL.not rfl rfl rfl rfl rfl ?_
  refine AL.not rfl rfl rfl rfl rfl ?_
  refine AL.p (by exact g_pickT (r := .d _) rfl rfl) rfl ?_
  refine AL.p (by exact mv1 rfl) rfl ?_
  refine AL.not rfl rfl rfl rfl rfl ?_
  refine AL.not rfl rfl rfl rfl rfl ?_
  refine AL.not rfl rfl rfl rfl rfl ?_
  refine AL.p (by exact g_pickT (r := .d _) rfl rfl) rfl ?_
  refine AL.nil (th_n ?_)
  refine AC.condT rfl ?_
  refine AC.seq (AC.region ?_)
  refine AL.p (by exact g_build rfl rfl rfl) rfl ?_
  refine AL.q (by exact h_store rfl rfl rfl rfl rfl rfl) rfl ?_
  refine AL.p (by exact as1 rfl) rfl ?_
  refine AL.nil (th_n (AC.ret (th_r (bq_r ?_))))
  have e : G = (zS, false) := by exact hN1 (by simpa using h0)
  exact ret0 rfl (by rw [e]; show AV.leads _ (.tup [stgA zS, aT false]) _; repeat (first | exact DLead.same | exact DLead.nil | exact rfl | refine ⟨_, rfl, ?_⟩ | refine ⟨_, _, rfl, ?_, ?_⟩))
 ·refine AL.yes rfl rfl rfl ?_
  refine AL.p (by exact g_load_refN rfl rfl rfl rfl) rfl ?_
  refine AL.yes rfl rfl rfl ?_
  refine AL.q (by exact h_pure en_l2Good rfl rfl (by repeat (first | exact rfl | exact DLead.same | refine ⟨_, _, rfl, ?_, ?_⟩ | refine ⟨_, rfl, ?_⟩)) hGa rfl) rfl ?_
  refine AL.yes rfl rfl rfl ?_
  refine AL.p (by exact g_not rfl) rfl ?_
  refine AL.p (by exact g_pickF (r := .d _) rfl rfl) rfl ?_
  refine AL.p (by exact mv1 rfl) rfl ?_
  refine AL.caseGB rfl rfl (fun h1 => ?_) (fun h1 => ?_)
  ·refine AL.not rfl rfl rfl rfl rfl ?_
   refine AL.not rfl rfl rfl rfl rfl ?_
   refine AL.not rfl rfl rfl rfl rfl ?_
   refine AL.p (by exact g_pickT (r := .d _) rfl rfl) rfl ?_
   refine AL.nil (th_n ?_)
   refine AC.condT rfl ?_
   refine AC.seq (AC.region ?_)
   refine AL.p (by exact g_build rfl rfl rfl) rfl ?_
   refine AL.q (by exact h_store rfl rfl rfl rfl rfl rfl) rfl ?_
   refine AL.p (by exact as1 rfl) rfl ?_
   refine AL.nil (th_n (AC.ret (th_r (bq_r ?_))))
   have e : G = (zS, false) := by exact hN2 (by simpa using h1)
   exact ret0 rfl (by rw [e]; show AV.leads _ (.tup [stgA zS, aT false]) _; repeat (first | exact DLead.same | exact DLead.nil | exact rfl | refine ⟨_, rfl, ?_⟩ | refine ⟨_, _, rfl, ?_, ?_⟩))
  ·refine AL.yes rfl rfl rfl ?_
   refine AL.p (by exact g_load_refN rfl rfl rfl rfl) rfl ?_
   refine AL.yes rfl rfl rfl ?_
   refine AL.q (by exact h_pure en_l2Good rfl rfl (by repeat (first | exact rfl | exact DLead.same | refine ⟨_, _, rfl, ?_, ?_⟩ | refine ⟨_, rfl, ?_⟩)) hGb rfl) rfl ?_
   refine AL.yes rfl rfl rfl ?_
   refine AL.p (by exact g_not rfl) rfl ?_
   refine AL.p (by exact g_pickF (r := .d _) rfl rfl) rfl ?_
   refine AL.nil (th_n ?_)
   refine AC.condB rfl (fun h2 => ?_) (fun h2 => ?_)
   ·refine AC.seq (AC.region ?_)
    refine AL.p (by exact g_build rfl rfl rfl) rfl ?_
    refine AL.q (by exact h_store rfl rfl rfl rfl rfl rfl) rfl ?_
    refine AL.p (by exact as1 rfl) rfl ?_
    refine AL.nil (th_n (AC.ret (th_r (bq_r ?_))))
    have e : G = (zS, false) := by exact hN3 (by simpa using h2)
    exact ret0 rfl (by rw [e]; show AV.leads _ (.tup [stgA zS, aT false]) _; repeat (first | exact DLead.same | exact DLead.nil | exact rfl | refine ⟨_, rfl, ?_⟩ | refine ⟨_, _, rfl, ?_, ?_⟩))
   ·refine AC.skip (th_n (AC.seq ?_))
    have q1 : c1 = true := by simpa using h0
    have q2 : c2 = true := by simpa using h1
    have q3 : c3 = true := by simpa using h2
    refine AC.drawn' mixed_ok [[], [], [], [2], [1,2,3], [], [5], [1,2,3,4,5,6], [], [], [9], [1,2,3,4,5,6,7,8,9,10], [], [12], [], [14], [12,13,14,15], [0,1,2,3,4,5,6,7,8,9,10,11,12,13,14,15,16], [], [0,1,2,3,4,5,6,7,8,9,10,11,12,13,14,15,16,17,18]] (by decide) ?_
    refine DF.op 0 [] 20 rfl rfl rfl (.free rfl (NOp.of (by exact g_load_ptrN rfl rfl rfl rfl rfl))) rfl ?_
    refine DF.op 1 [] 20 rfl rfl rfl (.free rfl (by exact h_lit rfl rfl rfl rfl rfl rfl rfl rfl)) rfl ?_
    refine DF.op 2 [] 20 rfl rfl rfl (.free rfl (NOp.of (by exact g_fa_ref rfl rfl rfl rfl rfl rfl))) rfl ?_
    refine DF.op 3 [2] 20 rfl rfl rfl (.free rfl (NOp.of (by exact g_load_ref rfl rfl rfl))) rfl ?_
    refine DF.op 4 [1,2,3] 20 rfl rfl rfl (.free rfl (by exact h_appendSg [] a.sigs (.own rfl rfl rfl) (.view rfl) (by rw [List.nil_append]; omega) (by simp))) rfl ?_
    refine DF.op 5 [] 20 rfl rfl rfl (.free rfl (NOp.of (by exact g_fa_ref rfl rfl rfl rfl rfl rfl))) rfl ?_
    refine DF.op 6 [5] 20 rfl rfl rfl (.free rfl (NOp.of (by exact g_load_ref rfl rfl rfl))) rfl ?_
    refine DF.op 7 [1,2,3,4,5,6] 20 rfl rfl rfl (.free rfl (by exact h_appendSg a.sigs b.sigs (.own rfl rfl (sigsL_len _).symm) (.view rfl) (by rw [List.length_append]; omega) (by simp))) rfl ?_
    refine DF.op 8 [] 20 rfl rfl rfl (.free rfl (by exact h_lit rfl rfl rfl rfl rfl rfl rfl rfl)) rfl ?_
    refine DF.op 9 [] 20 rfl rfl rfl (.free rfl (NOp.of (by exact g_fa_ref rfl rfl rfl rfl rfl rfl))) rfl ?_
    refine DF.op 10 [9] 20 rfl rfl rfl (.free rfl (NOp.of (by exact g_load_ref rfl rfl rfl))) rfl ?_
    refine DF.op 11 [1,2,3,4,5,6,7,8,9,10] 20 rfl rfl rfl (.free rfl (by exact h_appendLx [] a.labs (.own rfl rfl rfl) (.view rfl) (by rw [List.nil_append]; omega) (by simp))) rfl ?_
    refine DF.op 12 [] 20 rfl rfl rfl (.free rfl (NOp.of (by exact g_fa_ref rfl rfl rfl rfl rfl rfl))) rfl ?_
    refine DF.op 13 [12] 20 rfl rfl rfl (.free rfl (NOp.of (by exact g_load_ref rfl rfl rfl))) rfl ?_
    refine DF.op 14 [] 20 rfl rfl rfl (.free rfl (NOp.of (by exact g_fa_ref rfl rfl rfl rfl rfl rfl))) rfl ?_
    refine DF.op 15 [14] 20 rfl rfl rfl (.free rfl (NOp.of (by exact g_load_ref rfl rfl rfl))) rfl ?_
    refine DF.op 16 [12,13,14,15] 20 rfl rfl rfl (.free rfl (NOp.of (by exact g_saddB (a := a.start) (b := b.start) rfl rfl (by omega)))) rfl ?_
    refine DF.op 17 (List.range 17) 20 rfl rfl rfl (.free rfl (NOp.of (by exact g_build rfl rfl rfl))) rfl ?_
    refine DF.op 18 [] 20 rfl rfl rfl (.free rfl (by exact h_alloc rfl)) rfl ?_
    refine DF.op 19 (List.range 19) 20 rfl rfl rfl (.free rfl (by exact h_store rfl rfl rfl rfl rfl rfl)) rfl ?_
    refine DF.fin (ps := [(0,1),(0,2),(0,3),(0,4),(0,5),(0,6),(0,7),(0,8),(0,9),(0,10),(0,11),(0,12),(0,13),(0,14),(0,15),(0,16),(0,18),(1,0),(1,2),(1,3),(1,5),(1,6),(1,8),(1,9),(1,10),(1,12),(1,13),(1,14),(1,15),(1,16),(1,18),(2,0),(2,1),(2,5),(2,6),(2,8),(2,9),(2,10),(2,12),(2,13),(2,14),(2,15),(2,16),(2,18),(3,0),(3,1),(3,5),(3,6),(3,8),(3,9),(3,10),(3,12),(3,13),(3,14),(3,15),(3,16),(3,18),(4,0),(4,5),(4,6),(4,8),(4,9),(4,10),(4,12),(4,13),(4,14),(4,15),(4,16),(4,18),(5,0),(5,1),(5,2),(5,3),(5,4),(5,8),(5,9),(5,10),(5,12),(5,13),(5,14),(5,15),(5,16),(5,18),(6,0),(6,1),(6,2),(6,3),(6,4),(6,8),(6,9),(6,10),(6,12),(6,13),(6,14),(6,15),(6,16),(6,18),(7,0),(7,8),(7,9),(7,10),(7,12),(7,13),(7,14),(7,15),(7,16),(7,18),(8,0),(8,1),(8,2),(8,3),(8,4),(8,5),(8,6),(8,7),(8,9),(8,10),(8,12),(8,13),(8,14),(8,15),(8,16),(8,18),(9,0),(9,1),(9,2),(9,3),(9,4),(9,5),(9,6),(9,7),(9,8),(9,12),(9,13),(9,14),(9,15),(9,16),(9,18),(10,0),(10,1),(10,2),(10,3),(10,4),(10,5),(10,6),(10,7),(10,8),(10,12),(10,13),(10,14),(10,15),(10,16),(10,18),(11,0),(11,12),(11,13),(11,14),(11,15),(11,16),(11,18),(12,0),(12,1),(12,2),(12,3),(12,4),(12,5),(12,6),(12,7),(12,8),(12,9),(12,10),(12,11),(12,14),(12,15),(12,18),(13,0),(13,1),(13,2),(13,3),(13,4),(13,5),(13,6),(13,7),(13,8),(13,9),(13,10),(13,11),(13,14),(13,15),(13,18),(14,0),(14,1),(14,2),(14,3),(14,4),(14,5),(14,6),(14,7),(14,8),(14,9),(14,10),(14,11),(14,12),(14,13),(14,18),(15,0),(15,1),(15,2),(15,3),(15,4),(15,5),(15,6),(15,7),(15,8),(15,9),(15,10),(15,11),(15,12),(15,13),(15,18),(16,0),(16,1),(16,2),(16,3),(16,4),(16,5),(16,6),(16,7),(16,8),(16,9),(16,10),(16,11),(16,18),(17,18),(18,0),(18,1),(18,2),(18,3),(18,4),(18,5),(18,6),(18,7),(18,8),(18,9),(18,10),(18,11),(18,12),(18,13),(18,14),(18,15),(18,16),(18,17)]) 20 rfl (by decide +kernel) (by decide +kernel) (by rfl) ?_
    refine th_n (AC.seq (AC.seq (AC.region ?_)))
    refine AL.p (by exact g_fa_ref rfl rfl rfl rfl rfl rfl) rfl ?_
    refine AL.p (by exact g_load_ref rfl rfl rfl) rfl ?_
    refine AL.p (by exact g_len_view rfl rfl (by exact List.length_map _)) rfl ?_
    refine AL.p (by exact mv1 rfl) rfl ?_
    refine AL.nil (th_n (AC.block ?_))
    refine AC.loop (ι := Nat) (fun k => ⟨79, 400, [(2, .d (.ref (stgD a))), (4, .ptr 201 0), (8, .ptr 200 0), (51, .d (vLabs b.labs)), (52, aI b.labs.length), (53, aI k)], [(200, some (.cells 30 [aI U.places, .d (vTs U.ts), .own 101 (a.sigs ++ b.sigs).length, .own 102 (a.labs ++ (b.labs.take k).map (shLab a.sigs.length)).length, aS (bstr (a.start ++ b.start))])), (101, some (.arr 58 2 (sigsL (a.sigs ++ b.sigs)))), (102, some (.arr 54 2 (labsL (a.labs ++ (b.labs.take k).map (shLab a.sigs.length))))), (201, some (.cells 30 zStg))]⟩) (fun k => k ≤ b.labs.length) (fun k => b.labs.length - k) (0) ?_ (Nat.zero_le _) ?_
    ·exact Weak.ren _ [(200, _), (101, _), (102, _), (201, _)] hC rfl (by repeat (first | exact True.intro | refine And.intro ?_ ?_ | exact DLead.same | exact rfl | refine ⟨_, rfl, ?_⟩)) (by rw [List.take_zero, List.map_nil, List.append_nil a.labs]; repeat (first | exact True.intro | refine And.intro ?_ ?_ | exact DLead.same | exact rfl | refine ⟨_, _, rfl, rfl, ?_⟩ | refine ⟨_, rfl, ?_⟩ | refine ⟨_, _, rfl, ?_, ?_⟩)) rfl rfl rfl
    ·intro k hk
     refine AC.seq (AC.region ?_)
     refine AL.p (by exact g_cmp rfl rfl rfl) rfl ?_
     refine AL.nil (th_n (AC.seq ?_))
     refine AC.condD rfl (fun h3 => ?_) (fun h3 => ?_)
     ·refine AC.skip (th_n (AC.seq (AC.block (AC.seq ?_))))
      have hk1 : k < b.labs.length := by omega
      have hget := labsL_get hk1
      have htk := takeLab (f := shLab a.sigs.length) hk1
      have hbd := hb.lb _ (List.getElem_mem hk1)
      have hacc : (a.labs ++ (b.labs.take k).map (shLab a.sigs.length)).length ≤ 300000 := by rw [List.length_append, List.length_map, List.length_take]; omega
      obtain ⟨acc, hac⟩ : ∃ acc, acc = a.labs ++ (b.labs.take k).map (shLab a.sigs.length) := ⟨_, rfl⟩
      have hnext : a.labs ++ (b.labs.take (k + 1)).map (shLab a.sigs.length) = acc ++ [shLab a.sigs.length b.labs[k]] := by rw [htk, ← List.append_assoc, ← hac]
      rw [← hac] at hacc ⊢
      have hsh : shLab a.sigs.length b.labs[k] = if 0 ≤ b.labs[k].sig then ⟨b.labs[k].sig + a.sigs.length, b.labs[k].up⟩ else b.labs[k] := rfl
      obtain ⟨x, hx⟩ : ∃ x, x = b.labs[k] := ⟨_, rfl⟩
      rw [← hx] at hget hbd hsh hnext
      refine AC.region ?_
      refine AL.p (by exact g_ia_view rfl rfl rfl rfl rfl (by rfl) (by assumption)) rfl ?_
      refine AL.p (by exact g_load_refN rfl rfl rfl rfl) rfl ?_
      refine AL.q (by exact h_alloc rfl) rfl ?_
      refine AL.q (by exact h_store rfl rfl rfl rfl rfl rfl) rfl ?_
      refine AL.nil (th_n ?_)
      refine AC.cut (fun (_ : Unit) => ⟨79, 600, [(2, .d (.ref (stgD a))), (4, .ptr 201 0), (8, .ptr 200 0), (10, .ptr 202 0), (51, .d (vLabs b.labs)), (52, aI b.labs.length), (53, aI k)], [(200, some (.cells 30 [aI U.places, .d (vTs U.ts), .own 101 (a.sigs ++ b.sigs).length, .own 102 acc.length, aS (bstr (a.start ++ b.start))])), (101, some (.arr 58 2 (sigsL (a.sigs ++ b.sigs)))), (102, some (.arr 54 2 (labsL acc))), (201, some (.cells 30 zStg)), (202, some (.cells 54 [aI (shLab a.sigs.length x).sig, aT (shLab a.sigs.length x).up]))]⟩) (fun _ => True) ?_ ?_
      ·refine AC.seq (AC.region ?_)
       refine AL.p (by exact g_fa_ptr rfl rfl rfl rfl rfl) rfl ?_
       refine AL.p (by exact g_load_ptr rfl rfl rfl rfl rfl) rfl ?_
       refine AL.p (by exact g_cmp rfl rfl rfl) rfl ?_
       refine AL.nil (th_n ?_)
       refine AC.condD rfl (fun h4 => ?_) (fun h4 => ?_)
       ·refine AC.region ?_
        refine AL.p (by exact g_fa_ptr rfl rfl rfl rfl rfl) rfl ?_
        refine AL.p (by exact g_load_ptr rfl rfl rfl rfl rfl) rfl ?_
        refine AL.p (by exact g_fa_ref rfl rfl rfl rfl rfl rfl) rfl ?_
        refine AL.p (by exact g_load_ref rfl rfl rfl) rfl ?_
        refine AL.p (by exact g_len_view (k := a.sigs.length) rfl rfl (sigsL_len _)) rfl ?_
        refine AL.p (by exact g_arith rfl rfl rfl (by exact wrap_i64 (by omega))) rfl ?_
        refine AL.p (by exact g_fa_ptr rfl rfl rfl rfl rfl) rfl ?_
        refine AL.q (by exact h_store rfl rfl rfl rfl rfl rfl) rfl ?_
        refine AL.nil (th_n ?_)
        have e := hsh.trans (if_pos h4)
        exact ⟨(), trivial, Weak.ren _ [(200, 200), (101, 101), (102, 102), (201, 201), (202, 400)] hC rfl (by repeat (first | exact True.intro | refine And.intro ?_ ?_ | exact DLead.same | exact rfl | refine ⟨_, rfl, ?_⟩)) (by rw [e]; repeat (first | exact True.intro | refine And.intro ?_ ?_ | exact DLead.same | exact rfl | refine ⟨_, _, rfl, rfl, ?_⟩ | refine ⟨_, rfl, ?_⟩ | refine ⟨_, _, rfl, ?_, ?_⟩)) rfl rfl rfl⟩
       ·refine AC.skip (th_n ?_)
        have e := hsh.trans (if_neg h4)
        exact ⟨(), trivial, Weak.ren _ [(200, 200), (101, 101), (102, 102), (201, 201), (202, 400)] hC rfl (by repeat (first | exact True.intro | refine And.intro ?_ ?_ | exact DLead.same | exact rfl | refine ⟨_, rfl, ?_⟩)) (by rw [e]; repeat (first | exact True.intro | refine And.intro ?_ ?_ | exact DLead.same | exact rfl | refine ⟨_, _, rfl, rfl, ?_⟩ | refine ⟨_, rfl, ?_⟩ | refine ⟨_, _, rfl, ?_, ?_⟩)) rfl rfl rfl⟩
      ·intro _ _
       refine AC.region ?_
       refine AL.p (by exact g_fa_ptr rfl rfl rfl rfl rfl) rfl ?_
       refine AL.p (by exact g_load_ptr rfl rfl rfl rfl rfl) rfl ?_
       refine AL.p (by exact g_load_ptrN rfl rfl rfl rfl rfl) rfl ?_
       refine AL.q (by exact h_litF rfl rfl rfl rfl rfl rfl rfl rfl) rfl ?_
       refine AL.q (by exact h_appendLx acc [shLab a.sigs.length x] (.own rfl rfl (labsL_len _).symm) (.view rfl) (by rw [List.length_append]; simp only [List.length_cons, List.length_nil]; omega) (by simp)) rfl ?_
       refine AL.p (by exact g_fa_ptr rfl rfl rfl rfl rfl) rfl ?_
       refine AL.q (by exact h_store rfl rfl rfl rfl rfl rfl) rfl ?_
       refine AL.nil (ib_n (th_n (AC.region ?_)))
       refine AL.p (by exact g_arith rfl rfl rfl (by exact wrap_i64 (by omega))) rfl ?_
       refine AL.p (by exact mv1 rfl) rfl ?_
       refine AL.nil (th_n ?_)
       exact ⟨k + 1, by omega, by omega, Weak.ren _ [(200, 200), (101, 101), (102, _), (201, 201)] hC rfl (by repeat (first | exact True.intro | refine And.intro ?_ ?_ | exact DLead.same | exact rfl | refine ⟨_, rfl, ?_⟩)) (by rw [hnext]; repeat (first | exact True.intro | refine And.intro ?_ ?_ | exact DLead.same | exact rfl | refine ⟨_, _, rfl, rfl, ?_⟩ | refine ⟨_, rfl, ?_⟩ | refine ⟨_, _, rfl, ?_, ?_⟩)) rfl rfl rfl⟩
     ·refine AC.exit (th_e (th_e (ib_y (th_n (AC.seq (AC.seq ?_))))))
      have hkk : k = b.labs.length := by omega
      subst hkk
      rw [List.take_length]
      obtain ⟨t1, t2, t3, t4⟩ : T.net = U ∧ T.sigs = a.sigs ++ b.sigs ∧ T.labs = a.labs ++ b.labs.map (shLab a.sigs.length) ∧ T.start = a.start ++ b.start := by rw [hU1]; exact ⟨rfl, rfl, rfl, rfl⟩
      rw [← t1, ← t2, ← t3, ← t4]
      refine AC.region ?_
      refine AL.p (by exact g_load_ptrN rfl rfl rfl rfl rfl) rfl ?_
      refine AL.q (by exact h_borrow [101, 102] en_l2Good rfl rfl hGt (.cons (.aggs (ds := stgD T) (.cons .d (.cons .d (.cons (.own (id := 101) rfl rfl (ownl _ _) (ownt _ _)) (.cons (.own (id := 102) rfl rfl (ownl _ _) (ownt _ _)) (.cons .d .nil)))))) .nil) rfl) rfl ?_
      refine AL.p (by exact g_not rfl) rfl ?_
      refine AL.nil (th_n ?_)
      refine AC.condB rfl (fun h4 => ?_) (fun h4 => ?_)
      ·refine AC.seq (AC.region ?_)
       refine AL.p (by exact g_build rfl rfl rfl) rfl ?_
       refine AL.q (by exact h_store rfl rfl rfl rfl rfl rfl) rfl ?_
       refine AL.p (by exact as1 rfl) rfl ?_
       refine AL.nil (th_n (AC.ret (th_r (bq_r ?_))))
       have e : G = (zS, false) := hN4 (by simpa using ‹(!c4) = true›)
       exact ret0 rfl (by rw [e]; show AV.leads _ (.tup [stgA zS, aT false]) _; repeat (first | exact DLead.same | exact DLead.nil | exact rfl | refine ⟨_, rfl, ?_⟩ | refine ⟨_, _, rfl, ?_, ?_⟩))
      ·refine AC.skip (th_n (AC.seq ?_))
       have q4 : c4 = true := by simpa using ‹(!c4) = false›
       have e : G = (T, true) := hR.trans (if_pos (by rw [q1, q2, q3, q4]; rfl))
       refine AC.weak (Weak.freezeP (els' := sigsL T.sigs) 8 2 rfl rfl rfl rfl (by rw [sigsL_len]; exact Nat.le_refl _) (List.take_of_length_le (by rw [sigsL_len]; exact Nat.le_refl _)) rfl) ?_
       refine AC.weak (Weak.freezeP (els' := labsL T.labs) 8 3 rfl rfl rfl rfl (by rw [labsL_len]; exact Nat.le_refl _) (List.take_of_length_le (by rw [labsL_len]; exact Nat.le_refl _)) rfl) ?_
       refine AC.region ?_
       refine AL.p (by exact g_load_ptrN rfl rfl rfl rfl rfl) rfl ?_
       refine AL.q (by exact h_store rfl rfl rfl rfl rfl rfl) rfl ?_
       refine AL.p (by exact as1 rfl) rfl ?_
       refine AL.nil (th_n (AC.ret (bq_r ?_)))
       exact ret0 rfl (by rw [e]; show AV.leads _ (.tup [stgA T, aT true]) _; repeat (first | exact DLead.same | exact rfl | refine ⟨_, rfl, ?_⟩ | refine ⟨_, _, rfl, ?_, ?_⟩))
def txtInt (P : Program) (t : Nat) : Bool :=
 match P.underlying t with
 | some (.struct fs) =>
  !P.stoodInHeld t && !P.eqGuardType P.depth t &&
   match fs.toList with
   | [f, g] => f.name != "_" && g.name != "_" && f.offset == 0 && g.offset == 1 &&
    (match P.underlying f.type with | some .string => true | _ => false) && (match P.underlying g.type with | some (.int _) => true | _ => false) && P.plainKey f.type && P.plainKey g.type
   | _ => false
 | _ => false
section
variable {P : Program} [PT P]
variable {s : ASt} {dst : Option Nat} {ty : Nat} {pos : String} {af : Array Edge} {gd : Option (Nat × Bool)} {x y : Operand} {xt yt : Nat}
theorem run_equalIn_str {P : Program} (w : World) (d : Nat) (t : TypeId) (a b : ByteArray) (h : P.underlying t = some .string) : (Op.equalIn (d + 1) t (.string a) (.string b)).run P w = .ok (a == b) w := by
 simp [Op.equalIn, run_underlying h]
theorem equalSI {t : Nat} {a c : ByteArray} {b d : Int} (h : txtInt P t = true) (w : World) : (Op.equalIn 10000 t (.agg #[.string a, .int .i64 b]) (.agg #[.string c, .int .i64 d])).run P w = .ok (decide (a = c ∧ b = d)) w ∧ P.eqGuardType P.depth t = false := by
 unfold txtInt at h
 split at h
 ·rename_i fs hu
  simp only [Bool.and_eq_true, Bool.not_eq_true'] at h
  obtain ⟨⟨h1, h2⟩, h3⟩ := h
  refine ⟨?_, h2⟩
  have hF : P.fieldsOf t = fs := by unfold Program.fieldsOf; rw [hu]
  rw [run_equalIn_agg w 9999 t _ _ (by rw [hF]; exact hu) h1, hF]
  split at h3
  ·rename_i f g he
   rw [he]
   simp only [Bool.and_eq_true, bne_iff_ne, ne_eq, beq_iff_eq] at h3
   obtain ⟨⟨⟨⟨⟨⟨⟨n1, n2⟩, o1⟩, o2⟩, u1⟩, u2⟩, p1⟩, p2⟩ := h3
   split at u1
   ·rename_i hu1
    split at u2
    ·rename_i k2 hu2
     simp only [Op.eqFields, ne_eq, n1, n2, not_false_eq_true, if_true, o1, o2, Sem.run_bind]
     rw [run_part_plain (w := w) p1 (v := .string a) rfl]
     simp only [Result.andThen_ok, Sem.run_bind]
     rw [run_part_plain (w := w) p1 (v := .string c) rfl]
     simp only [Result.andThen_ok, Sem.run_bind]
     rw [run_equalIn_str w _ _ _ _ hu1]
     simp only [Result.andThen_ok, Sem.run_ite]
     by_cases e1 : a = c
     ·subst e1
      rw [if_neg (by simp [(MapKept.bytes_beq a a).2 rfl])]
      simp only [Sem.run_bind]
      rw [run_part_plain (w := w) p2 (v := .int .i64 b) rfl]
      simp only [Result.andThen_ok, Sem.run_bind]
      rw [run_part_plain (w := w) p2 (v := .int .i64 d) rfl]
      simp only [Result.andThen_ok, Sem.run_bind]
      rw [run_equalIn_int w _ _ _ _ _ _ hu2]
      simp only [Result.andThen_ok, Sem.run_ite, Sem.run_pure]
      by_cases e2 : b = d
      ·subst e2; simp
      ·simp [e2]
     ·rw [if_pos (by simp [Bool.eq_false_iff.2 fun q => e1 ((MapKept.bytes_beq a c).1 q)])]
      simp [e1]
    ·exact absurd u2 (by decide)
   ·exact absurd u1 (by decide)
  ·exact absurd h3 (by decide)
 ·exact absurd h (by decide)
theorem si_agg {m : Nat → Option (Option Nat × Nat)} {F : Nat → Prop} {w : World} {a : ByteArray} {b : Int} {v : Value} (h : ARep m F w (.agg [aS a, aI b]) v) : v = .agg #[.string a, .int .i64 b] := by
 cases h with
 | agg h1 h2 h3 =>
  rename_i vs
  have e0 := h2 0 _ rfl
  have e1 := h2 1 _ rfl
  obtain ⟨e0, -⟩ := e0.val_eq
  obtain ⟨e1, -⟩ := e1.val_eq
  have hsz : vs.size = 2 := h1
  congr 1
  apply Array.ext
  ·exact hsz
  ·intro i hi hi2
   match i, hi, hi2 with
   | 0, hi, hi2 => rw [Array.getD_eq_getD_getElem?, Array.getElem?_eq_getElem hi] at e0; exact e0
   | 1, hi, hi2 => rw [Array.getD_eq_getD_getElem?, Array.getElem?_eq_getElem hi] at e1; exact e1
   | n + 2, hi, hi2 => omega
theorem g_eqSI {a c : ByteArray} {b d : Int} {op : BinOp} {r : Bool} (ht : txtInt P xt = true) (hx : s.ev x = .agg [aS a, aI b]) (hy : s.ev y = .agg [aS c, aI d]) (hop : eqOf op (decide (a = c ∧ b = d)) = some r) :
  GOp P [] s ⟨dst, .binOp op xt x y yt, ty, pos, af, gd⟩ (aT r) := by
 refine ⟨fun s' ha C U a' w m hR => ?_⟩
 have h1 := hR.ev x
 have h2 := hR.ev y
 rw [ha.2.1 x (by simp [Op.operands]), hx] at h1
 rw [ha.2.1 y (by simp [Op.operands]), hy] at h2
 have e1 := si_agg h1
 have e2 := si_agg h2
 obtain ⟨q1, q2⟩ := equalSI (a := a) (b := b) (c := c) (d := d) ht w
 refine ⟨.bool r, ?_, .d (.val trivial)⟩
 simp only [execOp, e1, e2, Sem.run_bind, run_eqGuard_agg w op xt x y _ _ q2, Result.andThen_ok]
 cases op <;> simp only [eqOf, Option.some.injEq, reduceCtorEq] at hop
 ·subst hop; rw [run_eql_struct, q1]; rfl
 ·subst hop; rw [run_neq_struct, q1]; rfl
end
def threeInts (P : Program) (t : Nat) : Bool :=
 match P.underlying t with
 | some (.struct fs) =>
  !P.stoodInHeld t && !P.eqGuardType P.depth t &&
   match fs.toList with
   | [f, g, h] => f.name != "_" && g.name != "_" && h.name != "_" && f.offset == 0 && g.offset == 1 && h.offset == 2 &&
    (match P.underlying f.type with | some (.int _) => true | _ => false) && (match P.underlying g.type with | some (.int _) => true | _ => false) && (match P.underlying h.type with | some (.int _) => true | _ => false) && P.plainKey f.type && P.plainKey g.type && P.plainKey h.type
   | _ => false
 | _ => false
section
variable {P : Program} [PT P]
variable {s : ASt} {dst : Option Nat} {ty : Nat} {pos : String} {af : Array Edge} {gd : Option (Nat × Bool)} {x y : Operand} {xt yt : Nat}
theorem equal3 {t : Nat} {a b c a' b' c' : Int} (h : threeInts P t = true) (w : World) : (Op.equalIn 10000 t (.agg #[.int .i64 a, .int .i64 b, .int .i64 c]) (.agg #[.int .i64 a', .int .i64 b', .int .i64 c'])).run P w = .ok (decide (a = a' ∧ b = b' ∧ c = c')) w ∧ P.eqGuardType P.depth t = false := by
 unfold threeInts at h
 split at h
 ·rename_i fs hu
  simp only [Bool.and_eq_true, Bool.not_eq_true'] at h
  obtain ⟨⟨h1, h2⟩, h3⟩ := h
  refine ⟨?_, h2⟩
  have hF : P.fieldsOf t = fs := by unfold Program.fieldsOf; rw [hu]
  rw [run_equalIn_agg w 9999 t _ _ (by rw [hF]; exact hu) h1, hF]
  split at h3
  ·rename_i f g k he
   rw [he]
   simp only [Bool.and_eq_true, bne_iff_ne, ne_eq, beq_iff_eq] at h3
   obtain ⟨⟨⟨⟨⟨⟨⟨⟨⟨⟨⟨n1, n2⟩, n3⟩, o1⟩, o2⟩, o3⟩, u1⟩, u2⟩, u3⟩, p1⟩, p2⟩, p3⟩ := h3
   split at u1
   ·rename_i k1 hu1
    split at u2
    ·rename_i k2 hu2
     split at u3
     ·rename_i k3 hu3
      simp only [Op.eqFields, ne_eq, n1, n2, n3, not_false_eq_true, if_true, o1, o2, o3, Sem.run_bind]
      rw [run_part_plain (w := w) p1 (v := .int .i64 a) rfl]
      simp only [Result.andThen_ok, Sem.run_bind]
      rw [run_part_plain (w := w) p1 (v := .int .i64 a') rfl]
      simp only [Result.andThen_ok, Sem.run_bind]
      rw [run_equalIn_int w _ _ _ _ _ _ hu1]
      simp only [Result.andThen_ok, Sem.run_ite]
      by_cases e1 : a = a'
      ·subst e1
       rw [if_neg (by simp)]
       simp only [Sem.run_bind]
       rw [run_part_plain (w := w) p2 (v := .int .i64 b) rfl]
       simp only [Result.andThen_ok, Sem.run_bind]
       rw [run_part_plain (w := w) p2 (v := .int .i64 b') rfl]
       simp only [Result.andThen_ok, Sem.run_bind]
       rw [run_equalIn_int w _ _ _ _ _ _ hu2]
       simp only [Result.andThen_ok, Sem.run_ite]
       by_cases e2 : b = b'
       ·subst e2
        rw [if_neg (by simp)]
        simp only [Sem.run_bind]
        rw [run_part_plain (w := w) p3 (v := .int .i64 c) rfl]
        simp only [Result.andThen_ok, Sem.run_bind]
        rw [run_part_plain (w := w) p3 (v := .int .i64 c') rfl]
        simp only [Result.andThen_ok, Sem.run_bind]
        rw [run_equalIn_int w _ _ _ _ _ _ hu3]
        simp only [Result.andThen_ok, Sem.run_ite, Sem.run_pure]
        by_cases e3 : c = c'
        ·subst e3; simp
        ·simp [e3]
       ·rw [if_pos (by simp [e2])]
        simp [e2]
      ·rw [if_pos (by simp [e1])]
       simp [e1]
     ·exact absurd u3 (by decide)
    ·exact absurd u2 (by decide)
   ·exact absurd u1 (by decide)
  ·exact absurd h3 (by decide)
 ·exact absurd h (by decide)
theorem three_agg {m : Nat → Option (Option Nat × Nat)} {F : Nat → Prop} {w : World} {a b c : Int} {v : Value} (h : ARep m F w (.agg [aI a, aI b, aI c]) v) : v = .agg #[.int .i64 a, .int .i64 b, .int .i64 c] := by
 cases h with
 | agg h1 h2 h3 =>
  rename_i vs
  have e0 := h2 0 _ rfl
  have e1 := h2 1 _ rfl
  have e2 := h2 2 _ rfl
  obtain ⟨e0, -⟩ := e0.val_eq
  obtain ⟨e1, -⟩ := e1.val_eq
  obtain ⟨e2, -⟩ := e2.val_eq
  have hsz : vs.size = 3 := h1
  congr 1
  apply Array.ext
  ·exact hsz
  ·intro i hi hi2
   match i, hi, hi2 with
   | 0, hi, hi2 => rw [Array.getD_eq_getD_getElem?, Array.getElem?_eq_getElem hi] at e0; exact e0
   | 1, hi, hi2 => rw [Array.getD_eq_getD_getElem?, Array.getElem?_eq_getElem hi] at e1; exact e1
   | 2, hi, hi2 => rw [Array.getD_eq_getD_getElem?, Array.getElem?_eq_getElem hi] at e2; exact e2
   | n + 3, hi, hi2 => omega
theorem g_eq3 {a b c a' b' c' : Int} {op : BinOp} {r : Bool} (ht : threeInts P xt = true) (hx : s.ev x = .agg [aI a, aI b, aI c]) (hy : s.ev y = .agg [aI a', aI b', aI c']) (hop : eqOf op (decide (a = a' ∧ b = b' ∧ c = c')) = some r) :
  GOp P [] s ⟨dst, .binOp op xt x y yt, ty, pos, af, gd⟩ (aT r) := by
 refine ⟨fun s' ha C U a2 w m hR => ?_⟩
 have h1 := hR.ev x
 have h2 := hR.ev y
 rw [ha.2.1 x (by simp [Op.operands]), hx] at h1
 rw [ha.2.1 y (by simp [Op.operands]), hy] at h2
 have e1 := three_agg h1
 have e2 := three_agg h2
 obtain ⟨q1, q2⟩ := equal3 (a := a) (b := b) (c := c) (a' := a') (b' := b') (c' := c') ht w
 refine ⟨.bool r, ?_, .d (.val trivial)⟩
 simp only [execOp, e1, e2, Sem.run_bind, run_eqGuard_agg w op xt x y _ _ q2, Result.andThen_ok]
 cases op <;> simp only [eqOf, Option.some.injEq, reduceCtorEq] at hop
 ·subst hop; rw [run_eql_struct, q1]; rfl
 ·subst hop; rw [run_neq_struct, q1]; rfl
end
def eqL {α : Type} (f : α → α → Bool) : List α → List α → Bool
 | [], [] => true
 | x :: xs, y :: ys => f x y && eqL f xs ys
 | _, _ => false
theorem eqL_len {α : Type} {f : α → α → Bool} : ∀ {a b : List α}, a.length ≠ b.length → eqL f a b = false
 | [], [], h => absurd rfl h
 | [], _ :: _, _ => rfl
 | _ :: _, [], _ => rfl
 | x :: xs, y :: ys, h => by rw [eqL, eqL_len (by simpa using h), Bool.and_false]
theorem eqL_no {α : Type} {f : α → α → Bool} : ∀ {a b : List α} {k : Nat} (ha : k < a.length) (hb : k < b.length), f a[k] b[k] = false → eqL f a b = false
 | x :: xs, y :: ys, 0, _, _, h => by rw [eqL, show f x y = false from h, Bool.false_and]
 | x :: xs, y :: ys, k + 1, ha, hb, h => by rw [eqL, eqL_no (k := k) (by simpa using ha) (by simpa using hb) (by simpa using h), Bool.and_false]
theorem eqL_yes {α : Type} {f : α → α → Bool} : ∀ {a b : List α}, a.length = b.length → (∀ k (ha : k < a.length) (hb : k < b.length), f a[k] b[k] = true) → eqL f a b = true
 | [], [], _, _ => rfl
 | [], _ :: _, h, _ => by simp at h
 | _ :: _, [], h, _ => by simp at h
 | x :: xs, y :: ys, h, hh => by
  have h0 := hh 0 (by simp) (by simp)
  rw [eqL, show f x y = true from h0, eqL_yes (by simpa using h) (fun k ha hb => hh (k + 1) (Nat.succ_lt_succ ha) (Nat.succ_lt_succ hb))]; rfl
theorem eqL_self {α : Type} {f : α → α → Bool} (hf : ∀ x, f x x = true) (a : List α) : eqL f a a = true := eqL_yes rfl fun k _ _ => hf _
def eqTnB (x y : Tn) : Bool := decide (x.pre = y.pre) && decide (x.post = y.post)
def eqSigB (x y : Sig) : Bool := decide (bstr x.name = bstr y.name ∧ x.kind = y.kind)
def eqLabB (x y : Lab) : Bool := decide (x.sig = y.sig ∧ x.up = y.up)
def sameS (a b : Stg) : Bool := decide (a.net.places = b.net.places) && (eqL eqTnB a.net.ts b.net.ts && (eqL eqSigB a.sigs b.sigs && (eqL eqLabB a.labs b.labs && decide (bstr a.start = bstr b.start))))
theorem sameS_self (a : Stg) : sameS a a = true := by
 unfold sameS
 rw [eqL_self (fun x => by simp [eqTnB]), eqL_self (fun x => by simp [eqSigB]), eqL_self (fun x => by simp [eqLabB])]
 simp
theorem equalTns_spec (x y : Tn) (h1 : x.pre.length ≤ 1000000 ∧ x.post.length ≤ 1000000) (h2 : y.pre.length ≤ 1000000 ∧ y.post.length ≤ 1000000) : ASpec Try.prog 44 [tnA x, tnA y] [] (Pure1 (aT (eqTnB x y))) := by
 have hA := slEqual_spec x.pre y.pre h1.1 h2.1
 have hB := slEqual_spec x.post y.post h1.2 h2.2
 have hR : eqTnB x y = (decide (x.pre = y.pre) && decide (x.post = y.post)) := rfl
 obtain ⟨b1, hb1⟩ : ∃ b, b = decide (x.pre = y.pre) := ⟨_, rfl⟩
 obtain ⟨b2, hb2⟩ : ∃ b, b = decide (x.post = y.post) := ⟨_, rfl⟩
 rw [← hb1] at hA hR
 rw [← hb2] at hB hR
 clear hb1 hb2
 refine ASpec.of Try.func44 rfl rfl fun C hC => ?_
 refine AC.seq (AC.region ?_)
 refine AL.q (by exact h_boxF rfl rfl) rfl ?_
 refine AL.q (by exact h_boxF rfl rfl) rfl ?_
 refine AL.p (by exact as1 rfl) rfl ?_
 refine AL.nil (th_n (AC.seq (AC.region ?_)))
 refine AL.p (by exact g_fa_ref rfl rfl rfl rfl rfl rfl) rfl ?_
 refine AL.p (by exact g_load_ref rfl rfl rfl) rfl ?_
 refine AL.p (by exact g_fa_ref rfl rfl rfl rfl rfl rfl) rfl ?_
 refine AL.p (by exact g_load_ref rfl rfl rfl) rfl ?_
 refine AL.q (by exact h_pure en_slEqual rfl rfl (by repeat (first | exact rfl | exact DLead.same | refine ⟨_, _, rfl, ?_, ?_⟩)) hA rfl) rfl ?_
 refine AL.p (by exact mv1 rfl) rfl ?_
 refine AL.caseGB rfl rfl (fun h0 => ?_) (fun h0 => ?_)
 ·refine AL.yes rfl rfl rfl ?_
  refine AL.p (by exact g_fa_ref rfl rfl rfl rfl rfl rfl) rfl ?_
  refine AL.yes rfl rfl rfl ?_
  refine AL.p (by exact g_load_ref rfl rfl rfl) rfl ?_
  refine AL.yes rfl rfl rfl ?_
  refine AL.p (by exact g_fa_ref rfl rfl rfl rfl rfl rfl) rfl ?_
  refine AL.yes rfl rfl rfl ?_
  refine AL.p (by exact g_load_ref rfl rfl rfl) rfl ?_
  refine AL.yes rfl rfl rfl ?_
  refine AL.q (by exact h_pure en_slEqual rfl rfl (by repeat (first | exact rfl | exact DLead.same | refine ⟨_, _, rfl, ?_, ?_⟩)) hB rfl) rfl ?_
  refine AL.p (by exact g_pickT (r := .d _) rfl rfl) rfl ?_
  refine AL.p (by exact as1 rfl) rfl ?_
  refine AL.nil (th_n (AC.ret (bq_r ?_)))
  exact ret1 rfl (by rw [hR]; simp_all)
 ·refine AL.not rfl rfl rfl rfl rfl ?_
  refine AL.not rfl rfl rfl rfl rfl ?_
  refine AL.not rfl rfl rfl rfl rfl ?_
  refine AL.not rfl rfl rfl rfl rfl ?_
  refine AL.not rfl rfl rfl rfl rfl ?_
  refine AL.p (by exact g_pickF (r := .d _) rfl rfl) rfl ?_
  refine AL.p (by exact as1 rfl) rfl ?_
  refine AL.nil (th_n (AC.ret (bq_r ?_)))
  exact ret1 rfl (by rw [hR]; simp_all)
theorem en_equalTns : Enters Try.prog 44 := enters_of Try.func44 rfl rfl
set_option maxHeartbeats 2000000 in
theorem eqFuncTn_spec (a b : List Tn) (ha : a.length ≤ 1000000) (hb : b.length ≤ 1000000) (hA1 : ∀ t, t ∈ a → t.pre.length ≤ 1000000 ∧ t.post.length ≤ 1000000) (hA2 : ∀ t, t ∈ b → t.pre.length ≤ 1000000 ∧ t.post.length ≤ 1000000) : ASpec Try.prog 43 [.d (vTs a), .d (vTs b), .clo 44 []] [] (Pure1 (aT (eqL eqTnB a b))) := by
 have hL := eqL_len (f := eqTnB) (a := a) (b := b)
 have hNo := fun k => eqL_no (f := eqTnB) (a := a) (b := b) (k := k)
 have hYes := eqL_yes (f := eqTnB) (a := a) (b := b)
 obtain ⟨G, hG⟩ : ∃ G, G = eqL eqTnB a b := ⟨_, rfl⟩
 rw [← hG] at hL hNo hYes ⊢
 clear hG
 refine ASpec.of Try.func43 rfl rfl fun C hC => ?_
 refine AC.seq (AC.region ?_)
 refine AL.p (by exact as1 rfl) rfl ?_
 refine AL.nil (th_n (AC.seq (AC.seq (AC.region ?_))))
 refine AL.p (by exact mv1 rfl) rfl ?_
 refine AL.p (by exact g_len_view (k := a.length) rfl rfl (tsL_len _)) rfl ?_
 refine AL.p (by exact mv1 rfl) rfl ?_
 refine AL.p (by exact g_len_view (k := b.length) rfl rfl (tsL_len _)) rfl ?_
 refine AL.p (by exact g_cmp rfl rfl rfl) rfl ?_
 refine AL.nil (th_n ?_)
 refine AC.condND rfl (fun h0 => ?_) (fun h0 => ?_)
 ·refine AC.seq (AC.region ?_)
  refine AL.p (by exact as1 rfl) rfl ?_
  refine AL.nil (th_n (AC.ret (th_r (bq_r ?_))))
  have e := hL (by omega)
  exact ret1 rfl (by rw [e])
 ·refine AC.skip (th_n (AC.seq (AC.seq ?_)))
  have hl : a.length = b.length := by omega
  refine AC.region ?_
  refine AL.p (by exact mv1 rfl) rfl ?_
  refine AL.p (by exact g_len_view (k := a.length) rfl rfl (tsL_len _)) rfl ?_
  refine AL.p (by exact mv1 rfl) rfl ?_
  refine AL.nil (th_n (AC.block ?_))
  refine AC.loop (ι := Nat) (fun k => ⟨32, 100, [(0, .d (vTs a)), (1, .d (vTs b)), (2, .clo 44 []), (15, .d (vTs a)), (16, aI a.length), (17, aI k)], []⟩) (fun k => k ≤ a.length ∧ ∀ j (hj : j < a.length) (hj2 : j < b.length), j < k → eqTnB a[j] b[j] = true) (fun k => a.length - k) (0) ?_ (⟨Nat.zero_le _, fun j _ _ hj => by omega⟩) ?_
  ·exact Weak.ren _ [] hC rfl (by repeat (first | exact True.intro | refine And.intro ?_ ?_ | exact DLead.same | exact rfl | refine ⟨_, rfl, ?_⟩)) (by repeat (exact True.intro)) rfl rfl rfl
  ·intro k ⟨hk, hall⟩
   refine AC.seq (AC.region ?_)
   refine AL.p (by exact g_cmp rfl rfl rfl) rfl ?_
   refine AL.nil (th_n (AC.seq ?_))
   refine AC.condD rfl (fun h1 => ?_) (fun h1 => ?_)
   ·refine AC.skip (th_n (AC.seq (AC.block (AC.seq ?_))))
    have hk1 : k < a.length := by omega
    have hk2 : k < b.length := by omega
    have hget := tsL_get hk1
    have hget2 := tsL_get hk2
    have hE := equalTns_spec a[k] b[k] (hA1 _ (List.getElem_mem hk1)) (hA2 _ (List.getElem_mem hk2))
    have hNk := hNo k hk1 hk2
    have hall2 : eqTnB a[k] b[k] = true → ∀ j (hj : j < a.length) (hj2 : j < b.length), j < k + 1 → eqTnB a[j] b[j] = true := fun h j hj hj2 hj3 => by rcases Nat.lt_succ_iff_lt_or_eq.1 hj3 with q | rfl; exact hall j hj hj2 q; exact h
    obtain ⟨c, hc⟩ : ∃ c, c = eqTnB a[k] b[k] := ⟨_, rfl⟩
    rw [← hc] at hE hNk hall2
    refine AC.region ?_
    refine AL.p (by exact mv1 rfl) rfl ?_
    refine AL.p (by exact g_ia_view rfl rfl rfl rfl rfl (by rfl) (by assumption)) rfl ?_
    refine AL.p (by exact g_load_refN rfl rfl rfl rfl) rfl ?_
    refine AL.q (by exact h_alloc rfl) rfl ?_
    refine AL.p (by exact as1 rfl) rfl ?_
    refine AL.q (by exact h_store rfl rfl rfl rfl rfl rfl) rfl ?_
    refine AL.nil (th_n (AC.seq (AC.region ?_)))
    refine AL.p (by exact mv1 rfl) rfl ?_
    refine AL.p (by exact mv1 rfl) rfl ?_
    refine AL.p (by exact g_ia_view rfl rfl rfl rfl rfl (by rfl) (by assumption)) rfl ?_
    refine AL.p (by exact g_load_refN rfl rfl rfl rfl) rfl ?_
    refine AL.q (by exact h_alloc rfl) rfl ?_
    refine AL.q (by exact h_store rfl rfl rfl rfl rfl rfl) rfl ?_
    refine AL.nil (th_n (AC.seq (AC.region ?_)))
    refine AL.p (by exact mv6 rfl) rfl ?_
    refine AL.p (by exact g_load_ptrN rfl rfl rfl rfl rfl) rfl ?_
    refine AL.p (by exact g_load_ptrN rfl rfl rfl rfl rfl) rfl ?_
    refine AL.q (by exact h_pure en_equalTns rfl rfl (by repeat (first | exact rfl | exact DLead.same | refine ⟨_, _, rfl, ?_, ?_⟩ | refine ⟨_, rfl, ?_⟩)) hE rfl) rfl ?_
    refine AL.p (by exact g_not rfl) rfl ?_
    refine AL.nil (th_n ?_)
    refine AC.condB rfl (fun h2 => ?_) (fun h2 => ?_)
    ·refine AC.seq (AC.region ?_)
     refine AL.p (by exact as1 rfl) rfl ?_
     refine AL.nil (th_n (AC.ret (ib_r (th_r (th_r (ib_r (th_r (bq_r ?_))))))))
     have e := hNk (by simpa using ‹(!c) = true›)
     exact ret1 rfl (by rw [e])
    ·refine AC.skip (ib_n (th_n (AC.region ?_)))
     refine AL.p (by exact g_arith rfl rfl rfl (by exact wrap_i64 (by omega))) rfl ?_
     refine AL.p (by exact mv1 rfl) rfl ?_
     refine AL.nil (th_n ?_)
     exact ⟨k + 1, ⟨by omega, hall2 (by simpa using ‹(!c) = false›)⟩, by omega, Weak.ren _ [] hC rfl (by repeat (first | exact True.intro | refine And.intro ?_ ?_ | exact DLead.same | exact rfl | refine ⟨_, rfl, ?_⟩)) (by repeat (exact True.intro)) rfl rfl rfl⟩
   ·refine AC.exit (th_e (th_e (ib_y (th_n (AC.seq (AC.region ?_))))))
    refine AL.p (by exact as1 rfl) rfl ?_
    refine AL.nil (th_n (AC.ret (bq_r ?_)))
    have e := hYes hl (fun j hj hj2 => hall j hj hj2 (by omega))
    exact ret1 rfl (by rw [e])
theorem en_eqFuncTn : Enters Try.prog 43 := enters_of Try.func43 rfl rfl
set_option maxHeartbeats 2000000 in
theorem eqSigs_spec (a b : List Sig) (ha : a.length ≤ 1000000) (hb : b.length ≤ 1000000) : ASpec Try.prog 45 [.d (vSigs a), .d (vSigs b)] [] (Pure1 (aT (eqL eqSigB a b))) := by
 have hL := eqL_len (f := eqSigB) (a := a) (b := b)
 have hNo := fun k => eqL_no (f := eqSigB) (a := a) (b := b) (k := k)
 have hYes := eqL_yes (f := eqSigB) (a := a) (b := b)
 obtain ⟨G, hG⟩ : ∃ G, G = eqL eqSigB a b := ⟨_, rfl⟩
 rw [← hG] at hL hNo hYes ⊢
 clear hG
 refine ASpec.of Try.func45 rfl rfl fun C hC => ?_
 refine AC.seq (AC.region ?_)
 refine AL.p (by exact as1 rfl) rfl ?_
 refine AL.nil (th_n (AC.seq (AC.seq (AC.region ?_))))
 refine AL.p (by exact mv1 rfl) rfl ?_
 refine AL.p (by exact g_len_view (k := a.length) rfl rfl (sigsL_len _)) rfl ?_
 refine AL.p (by exact mv1 rfl) rfl ?_
 refine AL.p (by exact g_len_view (k := b.length) rfl rfl (sigsL_len _)) rfl ?_
 refine AL.p (by exact g_cmp rfl rfl rfl) rfl ?_
 refine AL.nil (th_n ?_)
 refine AC.condND rfl (fun h0 => ?_) (fun h0 => ?_)
 ·refine AC.seq (AC.region ?_)
  refine AL.p (by exact as1 rfl) rfl ?_
  refine AL.nil (th_n (AC.ret (th_r (bq_r ?_))))
  have e := hL (by omega)
  exact ret1 rfl (by rw [e])
 ·refine AC.skip (th_n (AC.seq (AC.seq ?_)))
  have hl : a.length = b.length := by omega
  refine AC.region ?_
  refine AL.p (by exact mv1 rfl) rfl ?_
  refine AL.p (by exact g_len_view (k := a.length) rfl rfl (sigsL_len _)) rfl ?_
  refine AL.p (by exact mv1 rfl) rfl ?_
  refine AL.nil (th_n (AC.block ?_))
  refine AC.loop (ι := Nat) (fun k => ⟨26, 100, [(0, .d (vSigs a)), (1, .d (vSigs b)), (12, aI a.length), (13, aI k)], []⟩) (fun k => k ≤ a.length ∧ ∀ j (hj : j < a.length) (hj2 : j < b.length), j < k → eqSigB a[j] b[j] = true) (fun k => a.length - k) (0) ?_ (⟨Nat.zero_le _, fun j _ _ hj => by omega⟩) ?_
  ·refine Weak.ren _ [] hC rfl ?_ ?_ rfl rfl rfl <;> repeat (first | exact True.intro | refine And.intro ?_ ?_ | exact DLead.same)
  ·intro k ⟨hk, hall⟩
   refine AC.seq (AC.region ?_)
   refine AL.p (by exact g_cmp rfl rfl rfl) rfl ?_
   refine AL.nil (th_n (AC.seq ?_))
   refine AC.condD rfl (fun h1 => ?_) (fun h1 => ?_)
   ·refine AC.skip (th_n (AC.seq (AC.block (AC.seq ?_))))
    have hk1 : k < a.length := by omega
    have hk2 : k < b.length := by omega
    have hget := sigsL_get hk1
    have hget2 := sigsL_get hk2
    have hNk := hNo k hk1 hk2
    have hall2 : eqSigB a[k] b[k] = true → ∀ j (hj : j < a.length) (hj2 : j < b.length), j < k + 1 → eqSigB a[j] b[j] = true := fun h j hj hj2 hj3 => by rcases Nat.lt_succ_iff_lt_or_eq.1 hj3 with q | rfl; exact hall j hj hj2 q; exact h
    obtain ⟨x, hx⟩ : ∃ x, x = a[k] := ⟨_, rfl⟩
    obtain ⟨y, hy⟩ : ∃ y, y = b[k] := ⟨_, rfl⟩
    rw [← hx, ← hy] at hNk hall2
    rw [← hx] at hget
    rw [← hy] at hget2
    refine AC.region ?_
    refine AL.p (by exact mv1 rfl) rfl ?_
    refine AL.p (by exact as1 rfl) rfl ?_
    refine AL.nil (th_n (AC.seq ?_))
    refine AC.drawn' mixed_ok [[], [], [0,1], [0,1,2], [], [], [4,5], [4,5,6], [0,1,2,3,4,5,6,7]] (by decide) ?_
    refine DF.op 0 [] 9 rfl rfl rfl (.free rfl (NOp.of (by exact mv1 rfl))) rfl ?_
    refine DF.op 1 [] 9 rfl rfl rfl (.free rfl (NOp.of (by exact mv1 rfl))) rfl ?_
    refine DF.op 2 [0,1] 9 rfl rfl rfl (.free rfl (NOp.of (by exact g_ia_view (i := k) rfl rfl rfl rfl rfl rfl hget))) rfl ?_
    refine DF.op 3 [0,1,2] 9 rfl rfl rfl (.free rfl (NOp.of (by exact g_load_refN rfl rfl rfl rfl))) rfl ?_
    refine DF.op 4 [] 9 rfl rfl rfl (.free rfl (NOp.of (by exact mv1 rfl))) rfl ?_
    refine DF.op 5 [] 9 rfl rfl rfl (.free rfl (NOp.of (by exact mv1 rfl))) rfl ?_
    refine DF.op 6 [4,5] 9 rfl rfl rfl (.free rfl (NOp.of (by exact g_ia_view (i := k) rfl rfl rfl rfl rfl rfl hget2))) rfl ?_
    refine DF.op 7 [4,5,6] 9 rfl rfl rfl (.free rfl (NOp.of (by exact g_load_refN rfl rfl rfl rfl))) rfl ?_
    refine DF.op 8 [0,1,2,3,4,5,6,7] 9 rfl rfl rfl (.free rfl (NOp.of (by exact g_eqSI (r := !decide (bstr x.name = bstr y.name ∧ x.kind = y.kind)) (by decide +kernel) rfl rfl rfl))) rfl ?_
    refine DF.fin (ps := [(0,1),(0,4),(0,5),(0,6),(0,7),(1,0),(1,4),(1,5),(1,6),(1,7),(2,4),(2,5),(2,6),(2,7),(3,4),(3,5),(3,6),(3,7),(4,0),(4,1),(4,2),(4,3),(4,5),(5,0),(5,1),(5,2),(5,3),(5,4),(6,0),(6,1),(6,2),(6,3),(7,0),(7,1),(7,2),(7,3)]) 9 rfl (by decide +kernel) (by decide +kernel) (by rfl) ?_
    refine th_n ?_
    refine AC.condND rfl (fun h2 => ?_) (fun h2 => ?_)
    ·refine AC.seq (AC.region ?_)
     refine AL.p (by exact as1 rfl) rfl ?_
     refine AL.nil (th_n (AC.ret (ib_r (th_r (th_r (ib_r (th_r (bq_r ?_))))))))
     have e := hNk (by show decide _ = false; exact decide_eq_false h2)
     exact ret1 rfl (by rw [e])
    ·refine AC.skip (ib_n (th_n (AC.region ?_)))
     refine AL.p (by exact g_arith rfl rfl rfl (by exact wrap_i64 (by omega))) rfl ?_
     refine AL.p (by exact mv1 rfl) rfl ?_
     refine AL.nil (th_n ?_)
     exact ⟨k + 1, ⟨by omega, hall2 (by show decide _ = true; exact decide_eq_true h2)⟩, by omega, Weak.ren _ [] hC rfl (by repeat (first | exact True.intro | refine And.intro ?_ ?_ | exact DLead.same)) (by repeat (exact True.intro)) rfl rfl rfl⟩
   ·refine AC.exit (th_e (th_e (ib_y (th_n (AC.seq (AC.region ?_))))))
    refine AL.p (by exact as1 rfl) rfl ?_
    refine AL.nil (th_n (AC.ret (bq_r ?_)))
    have e := hYes hl (fun j hj hj2 => hall j hj hj2 (by omega))
    exact ret1 rfl (by rw [e])
theorem en_eqSigs : Enters Try.prog 45 := enters_of Try.func45 rfl rfl
set_option maxHeartbeats 2000000 in
theorem eqLabs_spec (a b : List Lab) (ha : a.length ≤ 1000000) (hb : b.length ≤ 1000000) : ASpec Try.prog 46 [.d (vLabs a), .d (vLabs b)] [] (Pure1 (aT (eqL eqLabB a b))) := by
 have hL := eqL_len (f := eqLabB) (a := a) (b := b)
 have hNo := fun k => eqL_no (f := eqLabB) (a := a) (b := b) (k := k)
 have hYes := eqL_yes (f := eqLabB) (a := a) (b := b)
 obtain ⟨G, hG⟩ : ∃ G, G = eqL eqLabB a b := ⟨_, rfl⟩
 rw [← hG] at hL hNo hYes ⊢
 clear hG
 refine ASpec.of Try.func46 rfl rfl fun C hC => ?_
 refine AC.seq (AC.region ?_)
 refine AL.p (by exact as1 rfl) rfl ?_
 refine AL.nil (th_n (AC.seq (AC.seq (AC.region ?_))))
 refine AL.p (by exact mv1 rfl) rfl ?_
 refine AL.p (by exact g_len_view (k := a.length) rfl rfl (labsL_len _)) rfl ?_
 refine AL.p (by exact mv1 rfl) rfl ?_
 refine AL.p (by exact g_len_view (k := b.length) rfl rfl (labsL_len _)) rfl ?_
 refine AL.p (by exact g_cmp rfl rfl rfl) rfl ?_
 refine AL.nil (th_n ?_)
 refine AC.condND rfl (fun h0 => ?_) (fun h0 => ?_)
 ·refine AC.seq (AC.region ?_)
  refine AL.p (by exact as1 rfl) rfl ?_
  refine AL.nil (th_n (AC.ret (th_r (bq_r ?_))))
  have e := hL (by omega)
  exact ret1 rfl (by rw [e])
 ·refine AC.skip (th_n (AC.seq (AC.seq ?_)))
  have hl : a.length = b.length := by omega
  refine AC.region ?_
  refine AL.p (by exact mv1 rfl) rfl ?_
  refine AL.p (by exact g_len_view (k := a.length) rfl rfl (labsL_len _)) rfl ?_
  refine AL.p (by exact mv1 rfl) rfl ?_
  refine AL.nil (th_n (AC.block ?_))
  refine AC.loop (ι := Nat) (fun k => ⟨26, 100, [(0, .d (vLabs a)), (1, .d (vLabs b)), (12, aI a.length), (13, aI k)], []⟩) (fun k => k ≤ a.length ∧ ∀ j (hj : j < a.length) (hj2 : j < b.length), j < k → eqLabB a[j] b[j] = true) (fun k => a.length - k) (0) ?_ (⟨Nat.zero_le _, fun j _ _ hj => by omega⟩) ?_
  ·refine Weak.ren _ [] hC rfl ?_ ?_ rfl rfl rfl <;> repeat (first | exact True.intro | refine And.intro ?_ ?_ | exact DLead.same)
  ·intro k ⟨hk, hall⟩
   refine AC.seq (AC.region ?_)
   refine AL.p (by exact g_cmp rfl rfl rfl) rfl ?_
   refine AL.nil (th_n (AC.seq ?_))
   refine AC.condD rfl (fun h1 => ?_) (fun h1 => ?_)
   ·refine AC.skip (th_n (AC.seq (AC.block (AC.seq ?_))))
    have hk1 : k < a.length := by omega
    have hk2 : k < b.length := by omega
    have hget := labsL_get hk1
    have hget2 := labsL_get hk2
    have hNk := hNo k hk1 hk2
    have hall2 : eqLabB a[k] b[k] = true → ∀ j (hj : j < a.length) (hj2 : j < b.length), j < k + 1 → eqLabB a[j] b[j] = true := fun h j hj hj2 hj3 => by rcases Nat.lt_succ_iff_lt_or_eq.1 hj3 with q | rfl; exact hall j hj hj2 q; exact h
    obtain ⟨x, hx⟩ : ∃ x, x = a[k] := ⟨_, rfl⟩
    obtain ⟨y, hy⟩ : ∃ y, y = b[k] := ⟨_, rfl⟩
    rw [← hx, ← hy] at hNk hall2
    rw [← hx] at hget
    rw [← hy] at hget2
    refine AC.region ?_
    refine AL.p (by exact mv1 rfl) rfl ?_
    refine AL.p (by exact as1 rfl) rfl ?_
    refine AL.nil (th_n (AC.seq ?_))
    refine AC.drawn' mixed_ok [[], [], [0,1], [0,1,2], [], [], [4,5], [4,5,6], [0,1,2,3,4,5,6,7]] (by decide) ?_
    refine DF.op 0 [] 9 rfl rfl rfl (.free rfl (NOp.of (by exact mv1 rfl))) rfl ?_
    refine DF.op 1 [] 9 rfl rfl rfl (.free rfl (NOp.of (by exact mv1 rfl))) rfl ?_
    refine DF.op 2 [0,1] 9 rfl rfl rfl (.free rfl (NOp.of (by exact g_ia_view (i := k) rfl rfl rfl rfl rfl rfl hget))) rfl ?_
    refine DF.op 3 [0,1,2] 9 rfl rfl rfl (.free rfl (NOp.of (by exact g_load_refN rfl rfl rfl rfl))) rfl ?_
    refine DF.op 4 [] 9 rfl rfl rfl (.free rfl (NOp.of (by exact mv1 rfl))) rfl ?_
    refine DF.op 5 [] 9 rfl rfl rfl (.free rfl (NOp.of (by exact mv1 rfl))) rfl ?_
    refine DF.op 6 [4,5] 9 rfl rfl rfl (.free rfl (NOp.of (by exact g_ia_view (i := k) rfl rfl rfl rfl rfl rfl hget2))) rfl ?_
    refine DF.op 7 [4,5,6] 9 rfl rfl rfl (.free rfl (NOp.of (by exact g_load_refN rfl rfl rfl rfl))) rfl ?_
    refine DF.op 8 [0,1,2,3,4,5,6,7] 9 rfl rfl rfl (.free rfl (NOp.of (by exact g_eqIB (r := !decide (x.sig = y.sig ∧ x.up = y.up)) (by decide +kernel) rfl rfl rfl))) rfl ?_
    refine DF.fin (ps := [(0,1),(0,4),(0,5),(0,6),(0,7),(1,0),(1,4),(1,5),(1,6),(1,7),(2,4),(2,5),(2,6),(2,7),(3,4),(3,5),(3,6),(3,7),(4,0),(4,1),(4,2),(4,3),(4,5),(5,0),(5,1),(5,2),(5,3),(5,4),(6,0),(6,1),(6,2),(6,3),(7,0),(7,1),(7,2),(7,3)]) 9 rfl (by decide +kernel) (by decide +kernel) (by rfl) ?_
    refine th_n ?_
    refine AC.condND rfl (fun h2 => ?_) (fun h2 => ?_)
    ·refine AC.seq (AC.region ?_)
     refine AL.p (by exact as1 rfl) rfl ?_
     refine AL.nil (th_n (AC.ret (ib_r (th_r (th_r (ib_r (th_r (bq_r ?_))))))))
     have e := hNk (by show decide _ = false; exact decide_eq_false h2)
     exact ret1 rfl (by rw [e])
    ·refine AC.skip (ib_n (th_n (AC.region ?_)))
     refine AL.p (by exact g_arith rfl rfl rfl (by exact wrap_i64 (by omega))) rfl ?_
     refine AL.p (by exact mv1 rfl) rfl ?_
     refine AL.nil (th_n ?_)
     exact ⟨k + 1, ⟨by omega, hall2 (by show decide _ = true; exact decide_eq_true h2)⟩, by omega, Weak.ren _ [] hC rfl (by repeat (first | exact True.intro | refine And.intro ?_ ?_ | exact DLead.same)) (by repeat (exact True.intro)) rfl rfl rfl⟩
   ·refine AC.exit (th_e (th_e (ib_y (th_n (AC.seq (AC.region ?_))))))
    refine AL.p (by exact as1 rfl) rfl ?_
    refine AL.nil (th_n (AC.ret (bq_r ?_)))
    have e := hYes hl (fun j hj hj2 => hall j hj hj2 (by omega))
    exact ret1 rfl (by rw [e])
theorem en_eqLabs : Enters Try.prog 46 := enters_of Try.func46 rfl rfl
set_option maxHeartbeats 2000000 in
theorem l2SameSigs_spec (a b : List Sig) (ha : a.length ≤ 1000000) (hb : b.length ≤ 1000000) : ASpec Try.prog 48 [.d (vSigs a), .d (vSigs b)] [] (Pure1 (aT (eqL eqSigB a b))) := by
 have hL := eqL_len (f := eqSigB) (a := a) (b := b)
 have hNo := fun k => eqL_no (f := eqSigB) (a := a) (b := b) (k := k)
 have hYes := eqL_yes (f := eqSigB) (a := a) (b := b)
 obtain ⟨G, hG⟩ : ∃ G, G = eqL eqSigB a b := ⟨_, rfl⟩
 rw [← hG] at hL hNo hYes ⊢
 clear hG
 refine ASpec.of Try.func48 rfl rfl fun C hC => ?_
 refine AC.seq (AC.region ?_)
 refine AL.p (by exact as1 rfl) rfl ?_
 refine AL.nil (th_n (AC.seq (AC.seq (AC.region ?_))))
 refine AL.p (by exact mv1 rfl) rfl ?_
 refine AL.p (by exact g_len_view (k := a.length) rfl rfl (sigsL_len _)) rfl ?_
 refine AL.p (by exact mv1 rfl) rfl ?_
 refine AL.p (by exact g_len_view (k := b.length) rfl rfl (sigsL_len _)) rfl ?_
 refine AL.p (by exact g_cmp rfl rfl rfl) rfl ?_
 refine AL.nil (th_n ?_)
 refine AC.condND rfl (fun h0 => ?_) (fun h0 => ?_)
 ·refine AC.seq (AC.region ?_)
  refine AL.p (by exact as1 rfl) rfl ?_
  refine AL.nil (th_n (AC.ret (th_r (bq_r ?_))))
  have e := hL (by omega)
  exact ret1 rfl (by rw [e])
 ·refine AC.skip (th_n (AC.seq (AC.seq ?_)))
  have hl : a.length = b.length := by omega
  refine AC.region ?_
  refine AL.p (by exact mv1 rfl) rfl ?_
  refine AL.p (by exact g_len_view (k := a.length) rfl rfl (sigsL_len _)) rfl ?_
  refine AL.p (by exact mv1 rfl) rfl ?_
  refine AL.nil (th_n (AC.block ?_))
  refine AC.loop (ι := Nat) (fun k => ⟨26, 100, [(0, .d (vSigs a)), (1, .d (vSigs b)), (12, aI a.length), (13, aI k)], []⟩) (fun k => k ≤ a.length ∧ ∀ j (hj : j < a.length) (hj2 : j < b.length), j < k → eqSigB a[j] b[j] = true) (fun k => a.length - k) (0) ?_ (⟨Nat.zero_le _, fun j _ _ hj => by omega⟩) ?_
  ·refine Weak.ren _ [] hC rfl ?_ ?_ rfl rfl rfl <;> repeat (first | exact True.intro | refine And.intro ?_ ?_ | exact DLead.same)
  ·intro k ⟨hk, hall⟩
   refine AC.seq (AC.region ?_)
   refine AL.p (by exact g_cmp rfl rfl rfl) rfl ?_
   refine AL.nil (th_n (AC.seq ?_))
   refine AC.condD rfl (fun h1 => ?_) (fun h1 => ?_)
   ·refine AC.skip (th_n (AC.seq (AC.block (AC.seq ?_))))
    have hk1 : k < a.length := by omega
    have hk2 : k < b.length := by omega
    have hget := sigsL_get hk1
    have hget2 := sigsL_get hk2
    have hNk := hNo k hk1 hk2
    have hall2 : eqSigB a[k] b[k] = true → ∀ j (hj : j < a.length) (hj2 : j < b.length), j < k + 1 → eqSigB a[j] b[j] = true := fun h j hj hj2 hj3 => by rcases Nat.lt_succ_iff_lt_or_eq.1 hj3 with q | rfl; exact hall j hj hj2 q; exact h
    obtain ⟨x, hx⟩ : ∃ x, x = a[k] := ⟨_, rfl⟩
    obtain ⟨y, hy⟩ : ∃ y, y = b[k] := ⟨_, rfl⟩
    rw [← hx, ← hy] at hNk hall2
    rw [← hx] at hget
    rw [← hy] at hget2
    refine AC.region ?_
    refine AL.p (by exact mv1 rfl) rfl ?_
    refine AL.p (by exact as1 rfl) rfl ?_
    refine AL.nil (th_n (AC.seq ?_))
    refine AC.drawn' mixed_ok [[], [], [0,1], [0,1,2], [], [], [4,5], [4,5,6], [0,1,2,3,4,5,6,7]] (by decide) ?_
    refine DF.op 0 [] 9 rfl rfl rfl (.free rfl (NOp.of (by exact mv1 rfl))) rfl ?_
    refine DF.op 1 [] 9 rfl rfl rfl (.free rfl (NOp.of (by exact mv1 rfl))) rfl ?_
    refine DF.op 2 [0,1] 9 rfl rfl rfl (.free rfl (NOp.of (by exact g_ia_view (i := k) rfl rfl rfl rfl rfl rfl hget))) rfl ?_
    refine DF.op 3 [0,1,2] 9 rfl rfl rfl (.free rfl (NOp.of (by exact g_load_refN rfl rfl rfl rfl))) rfl ?_
    refine DF.op 4 [] 9 rfl rfl rfl (.free rfl (NOp.of (by exact mv1 rfl))) rfl ?_
    refine DF.op 5 [] 9 rfl rfl rfl (.free rfl (NOp.of (by exact mv1 rfl))) rfl ?_
    refine DF.op 6 [4,5] 9 rfl rfl rfl (.free rfl (NOp.of (by exact g_ia_view (i := k) rfl rfl rfl rfl rfl rfl hget2))) rfl ?_
    refine DF.op 7 [4,5,6] 9 rfl rfl rfl (.free rfl (NOp.of (by exact g_load_refN rfl rfl rfl rfl))) rfl ?_
    refine DF.op 8 [0,1,2,3,4,5,6,7] 9 rfl rfl rfl (.free rfl (NOp.of (by exact g_eqSI (r := !decide (bstr x.name = bstr y.name ∧ x.kind = y.kind)) (by decide +kernel) rfl rfl rfl))) rfl ?_
    refine DF.fin (ps := [(0,1),(0,4),(0,5),(0,6),(0,7),(1,0),(1,4),(1,5),(1,6),(1,7),(2,4),(2,5),(2,6),(2,7),(3,4),(3,5),(3,6),(3,7),(4,0),(4,1),(4,2),(4,3),(4,5),(5,0),(5,1),(5,2),(5,3),(5,4),(6,0),(6,1),(6,2),(6,3),(7,0),(7,1),(7,2),(7,3)]) 9 rfl (by decide +kernel) (by decide +kernel) (by rfl) ?_
    refine th_n ?_
    refine AC.condND rfl (fun h2 => ?_) (fun h2 => ?_)
    ·refine AC.seq (AC.region ?_)
     refine AL.p (by exact as1 rfl) rfl ?_
     refine AL.nil (th_n (AC.ret (ib_r (th_r (th_r (ib_r (th_r (bq_r ?_))))))))
     have e := hNk (by show decide _ = false; exact decide_eq_false h2)
     exact ret1 rfl (by rw [e])
    ·refine AC.skip (ib_n (th_n (AC.region ?_)))
     refine AL.p (by exact g_arith rfl rfl rfl (by exact wrap_i64 (by omega))) rfl ?_
     refine AL.p (by exact mv1 rfl) rfl ?_
     refine AL.nil (th_n ?_)
     exact ⟨k + 1, ⟨by omega, hall2 (by show decide _ = true; exact decide_eq_true h2)⟩, by omega, Weak.ren _ [] hC rfl (by repeat (first | exact True.intro | refine And.intro ?_ ?_ | exact DLead.same)) (by repeat (exact True.intro)) rfl rfl rfl⟩
   ·refine AC.exit (th_e (th_e (ib_y (th_n (AC.seq (AC.region ?_))))))
    refine AL.p (by exact as1 rfl) rfl ?_
    refine AL.nil (th_n (AC.ret (bq_r ?_)))
    have e := hYes hl (fun j hj hj2 => hall j hj hj2 (by omega))
    exact ret1 rfl (by rw [e])
theorem en_l2SameSigs : Enters Try.prog 48 := enters_of Try.func48 rfl rfl
set_option maxHeartbeats 2000000 in
theorem iEqSTG_spec (a b : Stg) (ha : StgB a) (hb : StgB b) : ASpec Try.prog 21 [stgA a, stgA b] [] (Pure1 (aT (sameS a b))) := by
 have hT := eqFuncTn_spec a.net.ts b.net.ts ha.n.l hb.n.l ha.n.t hb.n.t
 have hS := eqSigs_spec a.sigs b.sigs (by have := ha.sg; omega) (by have := hb.sg; omega)
 have hL := eqLabs_spec a.labs b.labs (by have := ha.l; omega) (by have := hb.l; omega)
 have hR : sameS a b = (decide (a.net.places = b.net.places) && (eqL eqTnB a.net.ts b.net.ts && (eqL eqSigB a.sigs b.sigs && (eqL eqLabB a.labs b.labs && decide (bstr a.start = bstr b.start))))) := rfl
 obtain ⟨b1, hb1⟩ : ∃ q, q = eqL eqTnB a.net.ts b.net.ts := ⟨_, rfl⟩
 obtain ⟨b2, hb2⟩ : ∃ q, q = eqL eqSigB a.sigs b.sigs := ⟨_, rfl⟩
 obtain ⟨b3, hb3⟩ : ∃ q, q = eqL eqLabB a.labs b.labs := ⟨_, rfl⟩
 rw [← hb1] at hT hR
 rw [← hb2] at hS hR
 rw [← hb3] at hL hR
 obtain ⟨G, hG⟩ : ∃ G, G = sameS a b := ⟨_, rfl⟩
 rw [← hG] at hR ⊢
 clear hb1 hb2 hb3 hG
 refine ASpec.of Try.func21 rfl rfl fun C hC => ?_
 refine AC.seq (AC.region ?_)
 refine AL.q (by exact h_boxF rfl rfl) rfl ?_
 refine AL.q (by exact h_boxF rfl rfl) rfl ?_
 refine AL.p (by exact as1 rfl) rfl ?_
 refine AL.nil (th_n (AC.seq (AC.region ?_)))
 refine AL.p (by exact g_fa_ref rfl rfl rfl rfl rfl rfl) rfl ?_
 refine AL.p (by exact g_fa_ref rfl rfl rfl rfl rfl rfl) rfl ?_
 refine AL.p (by exact g_load_ref rfl rfl rfl) rfl ?_
 refine AL.p (by exact g_fa_ref rfl rfl rfl rfl rfl rfl) rfl ?_
 refine AL.p (by exact g_fa_ref rfl rfl rfl rfl rfl rfl) rfl ?_
 refine AL.p (by exact g_load_ref rfl rfl rfl) rfl ?_
 refine AL.p (by exact g_cmp rfl rfl rfl) rfl ?_
 refine AL.p (by exact mv1 rfl) rfl ?_
 refine AL.caseG rfl rfl (fun h0 => ?_) (fun h0 => ?_)
 ·refine AL.yes rfl rfl rfl ?_
  refine AL.p (by exact g_fa_ref rfl rfl rfl rfl rfl rfl) rfl ?_
  refine AL.yes rfl rfl rfl ?_
  refine AL.p (by exact g_fa_ref rfl rfl rfl rfl rfl rfl) rfl ?_
  refine AL.yes rfl rfl rfl ?_
  refine AL.p (by exact g_load_ref rfl rfl rfl) rfl ?_
  refine AL.yes rfl rfl rfl ?_
  refine AL.p (by exact g_fa_ref rfl rfl rfl rfl rfl rfl) rfl ?_
  refine AL.yes rfl rfl rfl ?_
  refine AL.p (by exact g_fa_ref rfl rfl rfl rfl rfl rfl) rfl ?_
  refine AL.yes rfl rfl rfl ?_
  refine AL.p (by exact g_load_ref rfl rfl rfl) rfl ?_
  refine AL.yes rfl rfl rfl ?_
  refine AL.q (by exact h_pure en_eqFuncTn rfl rfl (by repeat (first | exact rfl | exact DLead.same | refine ⟨_, _, rfl, ?_, ?_⟩ | refine ⟨_, rfl, ?_⟩)) hT rfl) rfl ?_
  refine AL.p (by exact g_pickT (r := .d _) rfl rfl) rfl ?_
  refine AL.p (by exact mv1 rfl) rfl ?_
  refine AL.caseGB rfl rfl (fun h1 => ?_) (fun h1 => ?_)
  ·refine AL.yes rfl rfl rfl ?_
   refine AL.p (by exact g_fa_ref rfl rfl rfl rfl rfl rfl) rfl ?_
   refine AL.yes rfl rfl rfl ?_
   refine AL.p (by exact g_load_ref rfl rfl rfl) rfl ?_
   refine AL.yes rfl rfl rfl ?_
   refine AL.p (by exact g_fa_ref rfl rfl rfl rfl rfl rfl) rfl ?_
   refine AL.yes rfl rfl rfl ?_
   refine AL.p (by exact g_load_ref rfl rfl rfl) rfl ?_
   refine AL.yes rfl rfl rfl ?_
   refine AL.q (by exact h_pure en_eqSigs rfl rfl (by repeat (first | exact rfl | exact DLead.same | refine ⟨_, _, rfl, ?_, ?_⟩)) hS rfl) rfl ?_
   refine AL.p (by exact g_pickT (r := .d _) rfl rfl) rfl ?_
   refine AL.p (by exact mv1 rfl) rfl ?_
   refine AL.caseGB rfl rfl (fun h2 => ?_) (fun h2 => ?_)
   ·refine AL.yes rfl rfl rfl ?_
    refine AL.p (by exact g_fa_ref rfl rfl rfl rfl rfl rfl) rfl ?_
    refine AL.yes rfl rfl rfl ?_
    refine AL.p (by exact g_load_ref rfl rfl rfl) rfl ?_
    refine AL.yes rfl rfl rfl ?_
    refine AL.p (by exact g_fa_ref rfl rfl rfl rfl rfl rfl) rfl ?_
    refine AL.yes rfl rfl rfl ?_
    refine AL.p (by exact g_load_ref rfl rfl rfl) rfl ?_
    refine AL.yes rfl rfl rfl ?_
    refine AL.q (by exact h_pure en_eqLabs rfl rfl (by repeat (first | exact rfl | exact DLead.same | refine ⟨_, _, rfl, ?_, ?_⟩)) hL rfl) rfl ?_
    refine AL.p (by exact g_pickT (r := .d _) rfl rfl) rfl ?_
    refine AL.p (by exact mv1 rfl) rfl ?_
    refine AL.caseGB rfl rfl (fun h3 => ?_) (fun h3 => ?_)
    ·refine AL.yes rfl rfl rfl ?_
     refine AL.p (by exact g_fa_ref rfl rfl rfl rfl rfl rfl) rfl ?_
     refine AL.yes rfl rfl rfl ?_
     refine AL.p (by exact g_load_ref rfl rfl rfl) rfl ?_
     refine AL.yes rfl rfl rfl ?_
     refine AL.p (by exact g_fa_ref rfl rfl rfl rfl rfl rfl) rfl ?_
     refine AL.yes rfl rfl rfl ?_
     refine AL.p (by exact g_load_ref rfl rfl rfl) rfl ?_
     refine AL.yes rfl rfl rfl ?_
     refine AL.p (by exact g_scmp rfl rfl rfl) rfl ?_
     refine AL.p (by exact g_pickT (r := .d _) rfl rfl) rfl ?_
     refine AL.p (by exact as1 rfl) rfl ?_
     refine AL.nil (th_n (AC.ret (bq_r ?_)))
     exact ret1 rfl (by clear hT hS hL hC; rw [hR]; simp_all)
    ·refine AL.not rfl rfl rfl rfl rfl ?_
     refine AL.not rfl rfl rfl rfl rfl ?_
     refine AL.not rfl rfl rfl rfl rfl ?_
     refine AL.not rfl rfl rfl rfl rfl ?_
     refine AL.not rfl rfl rfl rfl rfl ?_
     refine AL.p (by exact g_pickF (r := .d _) rfl rfl) rfl ?_
     refine AL.p (by exact as1 rfl) rfl ?_
     refine AL.nil (th_n (AC.ret (bq_r ?_)))
     exact ret1 rfl (by clear hT hS hL hC; rw [hR]; simp_all)
   ·refine AL.not rfl rfl rfl rfl rfl ?_
    refine AL.not rfl rfl rfl rfl rfl ?_
    refine AL.not rfl rfl rfl rfl rfl ?_
    refine AL.not rfl rfl rfl rfl rfl ?_
    refine AL.not rfl rfl rfl rfl rfl ?_
    refine AL.p (by exact g_pickF (r := .d _) rfl rfl) rfl ?_
    refine AL.p (by exact mv1 rfl) rfl ?_
    refine AL.not rfl rfl rfl rfl rfl ?_
    refine AL.not rfl rfl rfl rfl rfl ?_
    refine AL.not rfl rfl rfl rfl rfl ?_
    refine AL.not rfl rfl rfl rfl rfl ?_
    refine AL.not rfl rfl rfl rfl rfl ?_
    refine AL.p (by exact g_pickF (r := .d _) rfl rfl) rfl ?_
    refine AL.p (by exact as1 rfl) rfl ?_
    refine AL.nil (th_n (AC.ret (bq_r ?_)))
    exact ret1 rfl (by clear hT hS hL hC; rw [hR]; simp_all)
  ·refine AL.not rfl rfl rfl rfl rfl ?_
   refine AL.not rfl rfl rfl rfl rfl ?_
   refine AL.not rfl rfl rfl rfl rfl ?_
   refine AL.not rfl rfl rfl rfl rfl ?_
   refine AL.not rfl rfl rfl rfl rfl ?_
   refine AL.p (by exact g_pickF (r := .d _) rfl rfl) rfl ?_
   refine AL.p (by exact mv1 rfl) rfl ?_
   refine AL.not rfl rfl rfl rfl rfl ?_
   refine AL.not rfl rfl rfl rfl rfl ?_
   refine AL.not rfl rfl rfl rfl rfl ?_
   refine AL.not rfl rfl rfl rfl rfl ?_
   refine AL.not rfl rfl rfl rfl rfl ?_
   refine AL.p (by exact g_pickF (r := .d _) rfl rfl) rfl ?_
   refine AL.p (by exact mv1 rfl) rfl ?_
   refine AL.not rfl rfl rfl rfl rfl ?_
   refine AL.not rfl rfl rfl rfl rfl ?_
   refine AL.not rfl rfl rfl rfl rfl ?_
   refine AL.not rfl rfl rfl rfl rfl ?_
   refine AL.not rfl rfl rfl rfl rfl ?_
   refine AL.p (by exact g_pickF (r := .d _) rfl rfl) rfl ?_
   refine AL.p (by exact as1 rfl) rfl ?_
   refine AL.nil (th_n (AC.ret (bq_r ?_)))
   exact ret1 rfl (by clear hT hS hL hC; rw [hR]; simp_all)
 ·refine AL.not rfl rfl rfl rfl rfl ?_
  refine AL.not rfl rfl rfl rfl rfl ?_
  refine AL.not rfl rfl rfl rfl rfl ?_
  refine AL.not rfl rfl rfl rfl rfl ?_
  refine AL.not rfl rfl rfl rfl rfl ?_
  refine AL.not rfl rfl rfl rfl rfl ?_
  refine AL.not rfl rfl rfl rfl rfl ?_
  refine AL.p (by exact g_pickF (r := .d _) rfl rfl) rfl ?_
  refine AL.p (by exact mv1 rfl) rfl ?_
  refine AL.not rfl rfl rfl rfl rfl ?_
  refine AL.not rfl rfl rfl rfl rfl ?_
  refine AL.not rfl rfl rfl rfl rfl ?_
  refine AL.not rfl rfl rfl rfl rfl ?_
  refine AL.not rfl rfl rfl rfl rfl ?_
  refine AL.p (by exact g_pickF (r := .d _) rfl rfl) rfl ?_
  refine AL.p (by exact mv1 rfl) rfl ?_
  refine AL.not rfl rfl rfl rfl rfl ?_
  refine AL.not rfl rfl rfl rfl rfl ?_
  refine AL.not rfl rfl rfl rfl rfl ?_
  refine AL.not rfl rfl rfl rfl rfl ?_
  refine AL.not rfl rfl rfl rfl rfl ?_
  refine AL.p (by exact g_pickF (r := .d _) rfl rfl) rfl ?_
  refine AL.p (by exact mv1 rfl) rfl ?_
  refine AL.not rfl rfl rfl rfl rfl ?_
  refine AL.not rfl rfl rfl rfl rfl ?_
  refine AL.not rfl rfl rfl rfl rfl ?_
  refine AL.not rfl rfl rfl rfl rfl ?_
  refine AL.not rfl rfl rfl rfl rfl ?_
  refine AL.p (by exact g_pickF (r := .d _) rfl rfl) rfl ?_
  refine AL.p (by exact as1 rfl) rfl ?_
  refine AL.nil (th_n (AC.ret (bq_r ?_)))
  exact ret1 rfl (by clear hT hS hL hC; rw [hR]; simp_all)
theorem en_iEqSTG : Enters Try.prog 21 := enters_of Try.func21 rfl rfl
set_option maxHeartbeats 2000000 in
theorem l2SameNet_spec (a b : Net) (ha : NetB a) (hb : NetB b) : ASpec Try.prog 47 [netA a, netA b] [] (Pure1 (aT (decide (a.places = b.places) && eqL eqTnB a.ts b.ts))) := by
 have hL := eqL_len (f := eqTnB) (a := a.ts) (b := b.ts)
 have hNo := fun k => eqL_no (f := eqTnB) (a := a.ts) (b := b.ts) (k := k)
 have hYes := eqL_yes (f := eqTnB) (a := a.ts) (b := b.ts)
 have h1 := ha.l
 have h2 := hb.l
 obtain ⟨G, hG⟩ : ∃ G, G = eqL eqTnB a.ts b.ts := ⟨_, rfl⟩
 rw [← hG] at hL hNo hYes ⊢
 clear hG
 refine ASpec.of Try.func47 rfl rfl fun C hC => ?_
 refine AC.seq (AC.region ?_)
 refine AL.q (by exact h_boxF rfl rfl) rfl ?_
 refine AL.q (by exact h_boxF rfl rfl) rfl ?_
 refine AL.p (by exact as1 rfl) rfl ?_
 refine AL.nil (th_n (AC.seq (AC.seq (AC.region ?_))))
 refine AL.p (by exact g_fa_ref rfl rfl rfl rfl rfl rfl) rfl ?_
 refine AL.p (by exact g_load_ref rfl rfl rfl) rfl ?_
 refine AL.p (by exact g_fa_ref rfl rfl rfl rfl rfl rfl) rfl ?_
 refine AL.p (by exact g_load_ref rfl rfl rfl) rfl ?_
 refine AL.p (by exact g_cmp rfl rfl rfl) rfl ?_
 refine AL.p (by exact mv1 rfl) rfl ?_
 refine AL.caseGN rfl rfl (fun h0 => ?_) (fun h0 => ?_)
 ·refine AL.not rfl rfl rfl rfl rfl ?_
  refine AL.not rfl rfl rfl rfl rfl ?_
  refine AL.not rfl rfl rfl rfl rfl ?_
  refine AL.not rfl rfl rfl rfl rfl ?_
  refine AL.not rfl rfl rfl rfl rfl ?_
  refine AL.not rfl rfl rfl rfl rfl ?_
  refine AL.not rfl rfl rfl rfl rfl ?_
  refine AL.p (by exact g_pickT (r := .d _) rfl rfl) rfl ?_
  refine AL.nil (th_n ?_)
  refine AC.condT rfl ?_
  refine AC.seq (AC.region ?_)
  refine AL.p (by exact as1 rfl) rfl ?_
  refine AL.nil (th_n (AC.ret (th_r (bq_r ?_))))
  (have e : decide (a.places = b.places) = false := decide_eq_false h0; exact ret1 rfl (by rw [e, Bool.false_and]))
 ·refine AL.yes rfl rfl rfl ?_
  refine AL.p (by exact g_fa_ref rfl rfl rfl rfl rfl rfl) rfl ?_
  refine AL.yes rfl rfl rfl ?_
  refine AL.p (by exact g_load_ref rfl rfl rfl) rfl ?_
  refine AL.yes rfl rfl rfl ?_
  refine AL.p (by exact g_len_view (k := a.ts.length) rfl rfl (tsL_len _)) rfl ?_
  refine AL.yes rfl rfl rfl ?_
  refine AL.p (by exact g_fa_ref rfl rfl rfl rfl rfl rfl) rfl ?_
  refine AL.yes rfl rfl rfl ?_
  refine AL.p (by exact g_load_ref rfl rfl rfl) rfl ?_
  refine AL.yes rfl rfl rfl ?_
  refine AL.p (by exact g_len_view (k := b.ts.length) rfl rfl (tsL_len _)) rfl ?_
  refine AL.yes rfl rfl rfl ?_
  refine AL.p (by exact g_cmp rfl rfl rfl) rfl ?_
  refine AL.p (by exact g_pickF (r := .d _) rfl rfl) rfl ?_
  refine AL.nil (th_n ?_)
  refine AC.condND rfl (fun h1 => ?_) (fun h1 => ?_)
  ·refine AC.seq (AC.region ?_)
   refine AL.p (by exact as1 rfl) rfl ?_
   refine AL.nil (th_n (AC.ret (th_r (bq_r ?_))))
   (have e := hL (by omega); exact ret1 rfl (by rw [e, Bool.and_false]))
  ·refine AC.skip (th_n (AC.seq (AC.seq ?_)))
   have hp : a.places = b.places := by omega
   have hl : a.ts.length = b.ts.length := by omega
   refine AC.region ?_
   refine AL.p (by exact g_fa_ref rfl rfl rfl rfl rfl rfl) rfl ?_
   refine AL.p (by exact g_load_ref rfl rfl rfl) rfl ?_
   refine AL.p (by exact g_len_view (k := a.ts.length) rfl rfl (tsL_len _)) rfl ?_
   refine AL.p (by exact mv1 rfl) rfl ?_
   refine AL.nil (th_n (AC.block ?_))
   refine AC.loop (ι := Nat) (fun k => ⟨57, 100, [(2, .d (.ref (netD a))), (3, .d (.ref (netD b))), (22, aI a.ts.length), (23, aI k)], []⟩) (fun k => k ≤ a.ts.length ∧ ∀ j (hj : j < a.ts.length) (hj2 : j < b.ts.length), j < k → eqTnB a.ts[j] b.ts[j] = true) (fun k => a.ts.length - k) (0) ?_ (⟨Nat.zero_le _, fun j _ _ hj => by omega⟩) ?_
   ·refine Weak.ren _ [] hC rfl ?_ ?_ rfl rfl rfl <;> repeat (first | exact True.intro | refine And.intro ?_ ?_ | exact DLead.same)
   ·intro k ⟨hk, hall⟩
    refine AC.seq (AC.region ?_)
    refine AL.p (by exact g_cmp rfl rfl rfl) rfl ?_
    refine AL.nil (th_n (AC.seq ?_))
    refine AC.condD rfl (fun h2 => ?_) (fun h2 => ?_)
    ·refine AC.skip (th_n (AC.seq (AC.block (AC.seq ?_))))
     have hk1 : k < a.ts.length := by omega
     have hk2 : k < b.ts.length := by omega
     have hget := tsL_get hk1
     have hget2 := tsL_get hk2
     have hNk := hNo k hk1 hk2
     have hx1 := ha.t _ (List.getElem_mem hk1)
     have hy1 := hb.t _ (List.getElem_mem hk2)
     have hall2 : eqTnB a.ts[k] b.ts[k] = true → ∀ j (hj : j < a.ts.length) (hj2 : j < b.ts.length), j < k + 1 → eqTnB a.ts[j] b.ts[j] = true := fun h j hj hj2 hj3 => by rcases Nat.lt_succ_iff_lt_or_eq.1 hj3 with q | rfl; exact hall j hj hj2 q; exact h
     obtain ⟨x, hx⟩ : ∃ x, x = a.ts[k] := ⟨_, rfl⟩
     obtain ⟨y, hy⟩ : ∃ y, y = b.ts[k] := ⟨_, rfl⟩
     rw [← hx, ← hy] at hNk hall2
     rw [← hx] at hget hx1
     rw [← hy] at hget2 hy1
     have hA := l1Same_spec x.pre y.pre hx1.1 hy1.1
     have hB := l1Same_spec x.post y.post hx1.2 hy1.2
     have hE : eqTnB x y = (decide (x.pre = y.pre) && decide (x.post = y.post)) := rfl
     obtain ⟨c1, hc1⟩ : ∃ q, q = decide (x.pre = y.pre) := ⟨_, rfl⟩
     obtain ⟨c2, hc2⟩ : ∃ q, q = decide (x.post = y.post) := ⟨_, rfl⟩
     rw [← hc1] at hA hE
     rw [← hc2] at hB hE
     clear hc1 hc2 hx hy
     refine AC.region ?_
     refine AL.p (by exact mv1 rfl) rfl ?_
     refine AL.p (by exact as1 rfl) rfl ?_
     refine AL.nil (th_n (AC.seq ?_))
     refine AC.drawn' mixed_ok [[], [0], [], [0,1,2], [0,1,2,3], [0,1,2,3,4], [], [6], [], [6,7,8], [6,7,8,9], [6,7,8,9,10], [0,1,2,3,4,5,6,7,8,9,10,11], [0,1,2,3,4,5,6,7,8,9,10,11,12], [0,1,2,3,4,5,6,7,8,9,10,11,12,13], [0,1,2,3,4,5,6,7,8,9,10,11,12,13,14], [0,1,2,3,4,5,6,7,8,9,10,11,12,13,14,15], [0,1,2,3,4,5,6,7,8,9,10,11,12,13,14], [0,1,2,3,4,5,6,7,8,9,10,11,12,13,14,15,16,17], [0,1,2,3,4,5,6,7,8,9,10,11,12,13,14,15,16,17,18], [0,1,2,3,4,5,6,7,8,9,10,11,12,13,14,15,16,17,18,19], [0,1,2,3,4,5,6,7,8,9,10,11,12,13,14], [0,1,2,3,4,5,6,7,8,9,10,11,12,13,14,21], [0,1,2,3,4,5,6,7,8,9,10,11,12,13,14], [0,1,2,3,4,5,6,7,8,9,10,11,12,13,14,21,22,23], [0,1,2,3,4,5,6,7,8,9,10,11,12,13,14,21,22,23,24], [0,1,2,3,4,5,6,7,8,9,10,11,12,13,14,21,22,23,24,25], [0,1,2,3,4,5,6,7,8,9,10,11,12,13,14,15,16,17,18,19,20,21,22,23,24,25,26], [0,1,2,3,4,5,6,7,8,9,10,11,12,13,14,15,16,17,18,19,20,21,22,23,24,25,26,27], [0,1,2,3,4,5,6,7,8,9,10,11,12,13,14,15,16,17,18,19,20,21,22,23,24,25,26,27,28]] (by decide) ?_
     refine DF.op 0 [] 30 rfl rfl rfl (.free rfl (NOp.of (by exact g_fa_ref rfl rfl rfl rfl rfl rfl))) rfl ?_
     refine DF.op 1 [0] 30 rfl rfl rfl (.free rfl (NOp.of (by exact g_load_ref rfl rfl rfl))) rfl ?_
     refine DF.op 2 [] 30 rfl rfl rfl (.free rfl (NOp.of (by exact mv1 rfl))) rfl ?_
     refine DF.op 3 [0,1,2] 30 rfl rfl rfl (.free rfl (NOp.of (by exact g_ia_view (i := k) rfl rfl rfl rfl rfl rfl hget))) rfl ?_
     refine DF.op 4 [0,1,2,3] 30 rfl rfl rfl (.free rfl (NOp.of (by exact g_fa_ref rfl rfl rfl rfl rfl rfl))) rfl ?_
     refine DF.op 5 [0,1,2,3,4] 30 rfl rfl rfl (.free rfl (NOp.of (by exact g_load_ref rfl rfl rfl))) rfl ?_
     refine DF.op 6 [] 30 rfl rfl rfl (.free rfl (NOp.of (by exact g_fa_ref rfl rfl rfl rfl rfl rfl))) rfl ?_
     refine DF.op 7 [6] 30 rfl rfl rfl (.free rfl (NOp.of (by exact g_load_ref rfl rfl rfl))) rfl ?_
     refine DF.op 8 [] 30 rfl rfl rfl (.free rfl (NOp.of (by exact mv1 rfl))) rfl ?_
     refine DF.op 9 [6,7,8] 30 rfl rfl rfl (.free rfl (NOp.of (by exact g_ia_view (i := k) rfl rfl rfl rfl rfl rfl hget2))) rfl ?_
     refine DF.op 10 [6,7,8,9] 30 rfl rfl rfl (.free rfl (NOp.of (by exact g_fa_ref rfl rfl rfl rfl rfl rfl))) rfl ?_
     refine DF.op 11 [6,7,8,9,10] 30 rfl rfl rfl (.free rfl (NOp.of (by exact g_load_ref rfl rfl rfl))) rfl ?_
     refine DF.op 12 (List.range 12) 30 rfl rfl rfl (.free rfl (by exact h_pure en_l1Same rfl rfl (by repeat (first | exact rfl | exact DLead.same | refine ⟨_, _, rfl, ?_, ?_⟩)) hA rfl)) rfl ?_
     refine DF.op 13 (List.range 13) 30 rfl rfl rfl (.free rfl (NOp.of (by exact g_not rfl))) rfl ?_
     refine DF.op 14 (List.range 14) 30 rfl rfl rfl (.free rfl (NOp.of (by exact mv1 rfl))) rfl ?_
     refine DF.caseB 14 rfl (fun h3 => ?_) (fun h3 => ?_)
     ·refine DF.op (ids := []) 15 (List.range 15) 30 rfl rfl rfl (.no rfl rfl rfl rfl rfl rfl) rfl ?_
      refine DF.op (ids := []) 16 (List.range 16) 30 rfl rfl rfl (.no rfl rfl rfl rfl rfl rfl) rfl ?_
      refine DF.op (ids := []) 17 (List.range 15) 30 rfl rfl rfl (.no rfl rfl rfl rfl rfl rfl) rfl ?_
      refine DF.op (ids := []) 18 (List.range 18) 30 rfl rfl rfl (.no rfl rfl rfl rfl rfl rfl) rfl ?_
      refine DF.op (ids := []) 19 (List.range 19) 30 rfl rfl rfl (.no rfl rfl rfl rfl rfl rfl) rfl ?_
      refine DF.op (ids := []) 20 (List.range 20) 30 rfl rfl rfl (.no rfl rfl rfl rfl rfl rfl) rfl ?_
      refine DF.op (ids := []) 21 (List.range 15) 30 rfl rfl rfl (.no rfl rfl rfl rfl rfl rfl) rfl ?_
      refine DF.op (ids := []) 22 [0,1,2,3,4,5,6,7,8,9,10,11,12,13,14,21] 30 rfl rfl rfl (.no rfl rfl rfl rfl rfl rfl) rfl ?_
      refine DF.op (ids := []) 23 (List.range 15) 30 rfl rfl rfl (.no rfl rfl rfl rfl rfl rfl) rfl ?_
      refine DF.op (ids := []) 24 [0,1,2,3,4,5,6,7,8,9,10,11,12,13,14,21,22,23] 30 rfl rfl rfl (.no rfl rfl rfl rfl rfl rfl) rfl ?_
      refine DF.op (ids := []) 25 [0,1,2,3,4,5,6,7,8,9,10,11,12,13,14,21,22,23,24] 30 rfl rfl rfl (.no rfl rfl rfl rfl rfl rfl) rfl ?_
      refine DF.op (ids := []) 26 [0,1,2,3,4,5,6,7,8,9,10,11,12,13,14,21,22,23,24,25] 30 rfl rfl rfl (.no rfl rfl rfl rfl rfl rfl) rfl ?_
      refine DF.op (ids := []) 27 (List.range 27) 30 rfl rfl rfl (.no rfl rfl rfl rfl rfl rfl) rfl ?_
      refine DF.op (ids := []) 28 (List.range 28) 30 rfl rfl rfl (.no rfl rfl rfl rfl rfl rfl) rfl ?_
      refine DF.op 29 (List.range 29) 30 rfl rfl rfl (.free rfl (NOp.of (by exact g_pickT (r := .d _) rfl rfl))) rfl ?_
      refine DF.fin (ps := [(0,2),(0,6),(0,7),(0,8),(0,9),(0,10),(0,11),(1,2),(1,6),(1,7),(1,8),(1,9),(1,10),(1,11),(2,0),(2,1),(2,6),(2,7),(2,8),(2,9),(2,10),(2,11),(3,6),(3,7),(3,8),(3,9),(3,10),(3,11),(4,6),(4,7),(4,8),(4,9),(4,10),(4,11),(5,6),(5,7),(5,8),(5,9),(5,10),(5,11),(6,0),(6,1),(6,2),(6,3),(6,4),(6,5),(6,8),(7,0),(7,1),(7,2),(7,3),(7,4),(7,5),(7,8),(8,0),(8,1),(8,2),(8,3),(8,4),(8,5),(8,6),(8,7),(9,0),(9,1),(9,2),(9,3),(9,4),(9,5),(10,0),(10,1),(10,2),(10,3),(10,4),(10,5),(11,0),(11,1),(11,2),(11,3),(11,4),(11,5),(15,17),(15,21),(15,22),(15,23),(15,24),(15,25),(15,26),(16,17),(16,21),(16,22),(16,23),(16,24),(16,25),(16,26),(17,15),(17,16),(17,21),(17,22),(17,23),(17,24),(17,25),(17,26),(18,21),(18,22),(18,23),(18,24),(18,25),(18,26),(19,21),(19,22),(19,23),(19,24),(19,25),(19,26),(20,21),(20,22),(20,23),(20,24),(20,25),(20,26),(21,15),(21,16),(21,17),(21,18),(21,19),(21,20),(21,23),(22,15),(22,16),(22,17),(22,18),(22,19),(22,20),(22,23),(23,15),(23,16),(23,17),(23,18),(23,19),(23,20),(23,21),(23,22),(24,15),(24,16),(24,17),(24,18),(24,19),(24,20),(25,15),(25,16),(25,17),(25,18),(25,19),(25,20),(26,15),(26,16),(26,17),(26,18),(26,19),(26,20)]) 30 rfl (by decide +kernel) (by decide +kernel) (by rfl) ?_
      refine th_n ?_
      refine AC.condT rfl ?_
      refine AC.seq (AC.region ?_)
      refine AL.p (by exact as1 rfl) rfl ?_
      refine AL.nil (th_n (AC.ret (ib_r (th_r (th_r (ib_r (th_r (bq_r ?_))))))))
      have e := hNk (by rw [hE]; rw [show c1 = false by simpa using ‹(!c1) = true›]; rfl)
      exact ret1 rfl (by rw [e, Bool.and_false])
     ·refine DF.op 15 (List.range 15) 30 rfl rfl rfl (.yes rfl rfl rfl rfl (NOp.of (by exact g_fa_ref rfl rfl rfl rfl rfl rfl))) rfl ?_
      refine DF.op 16 (List.range 16) 30 rfl rfl rfl (.yes rfl rfl rfl rfl (NOp.of (by exact g_load_ref rfl rfl rfl))) rfl ?_
      refine DF.op 17 (List.range 15) 30 rfl rfl rfl (.yes rfl rfl rfl rfl (NOp.of (by exact mv1 rfl))) rfl ?_
      refine DF.op 18 (List.range 18) 30 rfl rfl rfl (.yes rfl rfl rfl rfl (NOp.of (by exact g_ia_view (i := k) rfl rfl rfl rfl rfl rfl hget))) rfl ?_
      refine DF.op 19 (List.range 19) 30 rfl rfl rfl (.yes rfl rfl rfl rfl (NOp.of (by exact g_fa_ref rfl rfl rfl rfl rfl rfl))) rfl ?_
      refine DF.op 20 (List.range 20) 30 rfl rfl rfl (.yes rfl rfl rfl rfl (NOp.of (by exact g_load_ref rfl rfl rfl))) rfl ?_
      refine DF.op 21 (List.range 15) 30 rfl rfl rfl (.yes rfl rfl rfl rfl (NOp.of (by exact g_fa_ref rfl rfl rfl rfl rfl rfl))) rfl ?_
      refine DF.op 22 [0,1,2,3,4,5,6,7,8,9,10,11,12,13,14,21] 30 rfl rfl rfl (.yes rfl rfl rfl rfl (NOp.of (by exact g_load_ref rfl rfl rfl))) rfl ?_
      refine DF.op 23 (List.range 15) 30 rfl rfl rfl (.yes rfl rfl rfl rfl (NOp.of (by exact mv1 rfl))) rfl ?_
      refine DF.op 24 [0,1,2,3,4,5,6,7,8,9,10,11,12,13,14,21,22,23] 30 rfl rfl rfl (.yes rfl rfl rfl rfl (NOp.of (by exact g_ia_view (i := k) rfl rfl rfl rfl rfl rfl hget2))) rfl ?_
      refine DF.op 25 [0,1,2,3,4,5,6,7,8,9,10,11,12,13,14,21,22,23,24] 30 rfl rfl rfl (.yes rfl rfl rfl rfl (NOp.of (by exact g_fa_ref rfl rfl rfl rfl rfl rfl))) rfl ?_
      refine DF.op 26 [0,1,2,3,4,5,6,7,8,9,10,11,12,13,14,21,22,23,24,25] 30 rfl rfl rfl (.yes rfl rfl rfl rfl (NOp.of (by exact g_load_ref rfl rfl rfl))) rfl ?_
      refine DF.op 27 (List.range 27) 30 rfl rfl rfl (.yes rfl rfl rfl rfl (by exact h_pure en_l1Same rfl rfl (by repeat (first | exact rfl | exact DLead.same | refine ⟨_, _, rfl, ?_, ?_⟩)) hB rfl)) rfl ?_
      refine DF.op 28 (List.range 28) 30 rfl rfl rfl (.yes rfl rfl rfl rfl (NOp.of (by exact g_not rfl))) rfl ?_
      refine DF.op 29 (List.range 29) 30 rfl rfl rfl (.free rfl (NOp.of (by exact g_pickF (r := .d _) rfl rfl))) rfl ?_
      refine DF.fin (ps := [(0,2),(0,6),(0,7),(0,8),(0,9),(0,10),(0,11),(1,2),(1,6),(1,7),(1,8),(1,9),(1,10),(1,11),(2,0),(2,1),(2,6),(2,7),(2,8),(2,9),(2,10),(2,11),(3,6),(3,7),(3,8),(3,9),(3,10),(3,11),(4,6),(4,7),(4,8),(4,9),(4,10),(4,11),(5,6),(5,7),(5,8),(5,9),(5,10),(5,11),(6,0),(6,1),(6,2),(6,3),(6,4),(6,5),(6,8),(7,0),(7,1),(7,2),(7,3),(7,4),(7,5),(7,8),(8,0),(8,1),(8,2),(8,3),(8,4),(8,5),(8,6),(8,7),(9,0),(9,1),(9,2),(9,3),(9,4),(9,5),(10,0),(10,1),(10,2),(10,3),(10,4),(10,5),(11,0),(11,1),(11,2),(11,3),(11,4),(11,5),(15,17),(15,21),(15,22),(15,23),(15,24),(15,25),(15,26),(16,17),(16,21),(16,22),(16,23),(16,24),(16,25),(16,26),(17,15),(17,16),(17,21),(17,22),(17,23),(17,24),(17,25),(17,26),(18,21),(18,22),(18,23),(18,24),(18,25),(18,26),(19,21),(19,22),(19,23),(19,24),(19,25),(19,26),(20,21),(20,22),(20,23),(20,24),(20,25),(20,26),(21,15),(21,16),(21,17),(21,18),(21,19),(21,20),(21,23),(22,15),(22,16),(22,17),(22,18),(22,19),(22,20),(22,23),(23,15),(23,16),(23,17),(23,18),(23,19),(23,20),(23,21),(23,22),(24,15),(24,16),(24,17),(24,18),(24,19),(24,20),(25,15),(25,16),(25,17),(25,18),(25,19),(25,20),(26,15),(26,16),(26,17),(26,18),(26,19),(26,20)]) 30 rfl (by decide +kernel) (by decide +kernel) (by rfl) ?_
      refine th_n ?_
      refine AC.condB rfl (fun h4 => ?_) (fun h4 => ?_)
      ·refine AC.seq (AC.region ?_)
       refine AL.p (by exact as1 rfl) rfl ?_
       refine AL.nil (th_n (AC.ret (ib_r (th_r (th_r (ib_r (th_r (bq_r ?_))))))))
       have e := hNk (by rw [hE]; rw [show c2 = false by simpa using ‹(!c2) = true›, Bool.and_false])
       exact ret1 rfl (by rw [e, Bool.and_false])
      ·refine AC.skip (ib_n (th_n (AC.region ?_)))
       refine AL.p (by exact g_arith rfl rfl rfl (by exact wrap_i64 (by omega))) rfl ?_
       refine AL.p (by exact mv1 rfl) rfl ?_
       refine AL.nil (th_n ?_)
       have e := hall2 (by rw [hE, show c1 = true by simpa using ‹(!c1) = false›, show c2 = true by simpa using ‹(!c2) = false›]; rfl)
       exact ⟨k + 1, ⟨by omega, e⟩, by omega, Weak.ren _ [] hC rfl (by repeat (first | exact True.intro | refine And.intro ?_ ?_ | exact DLead.same)) (by repeat (exact True.intro)) rfl rfl rfl⟩
    ·refine AC.exit (th_e (th_e (ib_y (th_n (AC.seq (AC.region ?_))))))
     refine AL.p (by exact as1 rfl) rfl ?_
     refine AL.nil (th_n (AC.ret (bq_r ?_)))
     have e := hYes hl (fun j hj hj2 => hall j hj hj2 (by omega))
     exact ret1 rfl (by rw [e, decide_eq_true hp]; rfl)
theorem en_l2SameNet : Enters Try.prog 47 := enters_of Try.func47 rfl rfl
set_option maxHeartbeats 4000000 in
theorem sEqSTG_spec (a b : Stg) (ha : StgB a) (hb : StgB b) : ASpec Try.prog 22 [stgA a, stgA b] [] (Pure1 (aT (sameS a b))) := by
 have hT := l2SameNet_spec a.net b.net ha.n hb.n
 have hS := l2SameSigs_spec a.sigs b.sigs (by have := ha.sg; omega) (by have := hb.sg; omega)
 have hL := eqL_len (f := eqLabB) (a := a.labs) (b := b.labs)
 have hNo := fun k => eqL_no (f := eqLabB) (a := a.labs) (b := b.labs) (k := k)
 have hYes := eqL_yes (f := eqLabB) (a := a.labs) (b := b.labs)
 have hR : sameS a b = ((decide (a.net.places = b.net.places) && eqL eqTnB a.net.ts b.net.ts) && (eqL eqSigB a.sigs b.sigs && (eqL eqLabB a.labs b.labs && decide (bstr a.start = bstr b.start)))) := by unfold sameS; rw [Bool.and_assoc]
 have h1l := ha.l
 have h2l := hb.l
 obtain ⟨b1, hb1⟩ : ∃ q, q = (decide (a.net.places = b.net.places) && eqL eqTnB a.net.ts b.net.ts) := ⟨_, rfl⟩
 obtain ⟨b2, hb2⟩ : ∃ q, q = eqL eqSigB a.sigs b.sigs := ⟨_, rfl⟩
 obtain ⟨b3, hb3⟩ : ∃ q, q = eqL eqLabB a.labs b.labs := ⟨_, rfl⟩
 rw [← hb1] at hT hR
 rw [← hb2] at hS hR
 rw [← hb3] at hL hNo hYes hR
 obtain ⟨G, hG⟩ : ∃ G, G = sameS a b := ⟨_, rfl⟩
 rw [← hG] at hR ⊢
 clear hb1 hb2 hb3 hG
 refine ASpec.of Try.func22 rfl rfl fun C hC => ?_
 refine AC.seq (AC.region ?_)
 refine AL.q (by exact h_boxF rfl rfl) rfl ?_
 refine AL.q (by exact h_boxF rfl rfl) rfl ?_
 refine AL.p (by exact as1 rfl) rfl ?_
 refine AL.nil (th_n (AC.seq (AC.seq (AC.region ?_))))
 refine AL.p (by exact g_fa_ref rfl rfl rfl rfl rfl rfl) rfl ?_
 refine AL.p (by exact g_load_refN rfl rfl rfl rfl) rfl ?_
 refine AL.p (by exact g_fa_ref rfl rfl rfl rfl rfl rfl) rfl ?_
 refine AL.p (by exact g_load_refN rfl rfl rfl rfl) rfl ?_
 refine AL.q (by exact h_pure en_l2SameNet rfl rfl (by repeat (first | exact rfl | exact DLead.same | refine ⟨_, _, rfl, ?_, ?_⟩ | refine ⟨_, rfl, ?_⟩)) hT rfl) rfl ?_
 refine AL.p (by exact g_not rfl) rfl ?_
 refine AL.p (by exact mv1 rfl) rfl ?_
 refine AL.caseGB rfl rfl (fun h0 => ?_) (fun h0 => ?_)
 ·refine AL.not rfl rfl rfl rfl rfl ?_
  refine AL.not rfl rfl rfl rfl rfl ?_
  refine AL.not rfl rfl rfl rfl rfl ?_
  refine AL.not rfl rfl rfl rfl rfl ?_
  refine AL.not rfl rfl rfl rfl rfl ?_
  refine AL.not rfl rfl rfl rfl rfl ?_
  refine AL.p (by exact g_pickT (r := .d _) rfl rfl) rfl ?_
  refine AL.p (by exact mv1 rfl) rfl ?_
  refine AL.not rfl rfl rfl rfl rfl ?_
  refine AL.not rfl rfl rfl rfl rfl ?_
  refine AL.not rfl rfl rfl rfl rfl ?_
  refine AL.not rfl rfl rfl rfl rfl ?_
  refine AL.not rfl rfl rfl rfl rfl ?_
  refine AL.not rfl rfl rfl rfl rfl ?_
  refine AL.not rfl rfl rfl rfl rfl ?_
  refine AL.p (by exact g_pickT (r := .d _) rfl rfl) rfl ?_
  refine AL.p (by exact mv1 rfl) rfl ?_
  refine AL.not rfl rfl rfl rfl rfl ?_
  refine AL.not rfl rfl rfl rfl rfl ?_
  refine AL.not rfl rfl rfl rfl rfl ?_
  refine AL.not rfl rfl rfl rfl rfl ?_
  refine AL.not rfl rfl rfl rfl rfl ?_
  refine AL.p (by exact g_pickT (r := .d _) rfl rfl) rfl ?_
  refine AL.nil (th_n ?_)
  refine AC.condT rfl ?_
  refine AC.seq (AC.region ?_)
  refine AL.p (by exact as1 rfl) rfl ?_
  refine AL.nil (th_n (AC.ret (th_r (bq_r ?_))))
  (have e : b1 = false := (by simpa using h0); exact ret1 rfl (by rw [hR, e, Bool.false_and]))
 ·refine AL.yes rfl rfl rfl ?_
  refine AL.p (by exact g_fa_ref rfl rfl rfl rfl rfl rfl) rfl ?_
  refine AL.yes rfl rfl rfl ?_
  refine AL.p (by exact g_load_ref rfl rfl rfl) rfl ?_
  refine AL.yes rfl rfl rfl ?_
  refine AL.p (by exact g_fa_ref rfl rfl rfl rfl rfl rfl) rfl ?_
  refine AL.yes rfl rfl rfl ?_
  refine AL.p (by exact g_load_ref rfl rfl rfl) rfl ?_
  refine AL.yes rfl rfl rfl ?_
  refine AL.q (by exact h_pure en_l2SameSigs rfl rfl (by repeat (first | exact rfl | exact DLead.same | refine ⟨_, _, rfl, ?_, ?_⟩)) hS rfl) rfl ?_
  refine AL.yes rfl rfl rfl ?_
  refine AL.p (by exact g_not rfl) rfl ?_
  refine AL.p (by exact g_pickF (r := .d _) rfl rfl) rfl ?_
  refine AL.p (by exact mv1 rfl) rfl ?_
  refine AL.caseGB rfl rfl (fun h1 => ?_) (fun h1 => ?_)
  ·refine AL.not rfl rfl rfl rfl rfl ?_
   refine AL.not rfl rfl rfl rfl rfl ?_
   refine AL.not rfl rfl rfl rfl rfl ?_
   refine AL.not rfl rfl rfl rfl rfl ?_
   refine AL.not rfl rfl rfl rfl rfl ?_
   refine AL.not rfl rfl rfl rfl rfl ?_
   refine AL.not rfl rfl rfl rfl rfl ?_
   refine AL.p (by exact g_pickT (r := .d _) rfl rfl) rfl ?_
   refine AL.p (by exact mv1 rfl) rfl ?_
   refine AL.not rfl rfl rfl rfl rfl ?_
   refine AL.not rfl rfl rfl rfl rfl ?_
   refine AL.not rfl rfl rfl rfl rfl ?_
   refine AL.not rfl rfl rfl rfl rfl ?_
   refine AL.not rfl rfl rfl rfl rfl ?_
   refine AL.p (by exact g_pickT (r := .d _) rfl rfl) rfl ?_
   refine AL.nil (th_n ?_)
   refine AC.condT rfl ?_
   refine AC.seq (AC.region ?_)
   refine AL.p (by exact as1 rfl) rfl ?_
   refine AL.nil (th_n (AC.ret (th_r (bq_r ?_))))
   (have e : b2 = false := (by simpa using h1); exact ret1 rfl (by rw [hR, e, Bool.false_and, Bool.and_false]))
  ·refine AL.yes rfl rfl rfl ?_
   refine AL.p (by exact g_fa_ref rfl rfl rfl rfl rfl rfl) rfl ?_
   refine AL.yes rfl rfl rfl ?_
   refine AL.p (by exact g_load_ref rfl rfl rfl) rfl ?_
   refine AL.yes rfl rfl rfl ?_
   refine AL.p (by exact g_len_view (k := a.labs.length) rfl rfl (labsL_len _)) rfl ?_
   refine AL.yes rfl rfl rfl ?_
   refine AL.p (by exact g_fa_ref rfl rfl rfl rfl rfl rfl) rfl ?_
   refine AL.yes rfl rfl rfl ?_
   refine AL.p (by exact g_load_ref rfl rfl rfl) rfl ?_
   refine AL.yes rfl rfl rfl ?_
   refine AL.p (by exact g_len_view (k := b.labs.length) rfl rfl (labsL_len _)) rfl ?_
   refine AL.yes rfl rfl rfl ?_
   refine AL.p (by exact g_cmp rfl rfl rfl) rfl ?_
   refine AL.p (by exact g_pickF (r := .d _) rfl rfl) rfl ?_
   refine AL.p (by exact mv1 rfl) rfl ?_
   refine AL.caseGN rfl rfl (fun h2 => ?_) (fun h2 => ?_)
   ·refine AL.not rfl rfl rfl rfl rfl ?_
    refine AL.not rfl rfl rfl rfl rfl ?_
    refine AL.not rfl rfl rfl rfl rfl ?_
    refine AL.not rfl rfl rfl rfl rfl ?_
    refine AL.not rfl rfl rfl rfl rfl ?_
    refine AL.p (by exact g_pickT (r := .d _) rfl rfl) rfl ?_
    refine AL.nil (th_n ?_)
    refine AC.condT rfl ?_
    refine AC.seq (AC.region ?_)
    refine AL.p (by exact as1 rfl) rfl ?_
    refine AL.nil (th_n (AC.ret (th_r (bq_r ?_))))
    (have e := hL (by omega); exact ret1 rfl (by rw [hR, e, Bool.false_and, Bool.and_false, Bool.and_false]))
   ·refine AL.yes rfl rfl rfl ?_
    refine AL.p (by exact g_fa_ref rfl rfl rfl rfl rfl rfl) rfl ?_
    refine AL.yes rfl rfl rfl ?_
    refine AL.p (by exact g_load_ref rfl rfl rfl) rfl ?_
    refine AL.yes rfl rfl rfl ?_
    refine AL.p (by exact g_fa_ref rfl rfl rfl rfl rfl rfl) rfl ?_
    refine AL.yes rfl rfl rfl ?_
    refine AL.p (by exact g_load_ref rfl rfl rfl) rfl ?_
    refine AL.yes rfl rfl rfl ?_
    refine AL.p (by exact g_scmp rfl rfl rfl) rfl ?_
    refine AL.p (by exact g_pickF (r := .d _) rfl rfl) rfl ?_
    refine AL.nil (th_n ?_)
    refine AC.condND rfl (fun h3 => ?_) (fun h3 => ?_)
    ·refine AC.seq (AC.region ?_)
     refine AL.p (by exact as1 rfl) rfl ?_
     refine AL.nil (th_n (AC.ret (th_r (bq_r ?_))))
     (have e : decide (bstr a.start = bstr b.start) = false := decide_eq_false h3; exact ret1 rfl (by rw [hR, e, Bool.and_false, Bool.and_false, Bool.and_false]))
    ·refine AC.skip (th_n (AC.seq (AC.seq ?_)))
     have q1 : b1 = true := by simpa using h0
     have q2 : b2 = true := by simpa using h1
     have hl : a.labs.length = b.labs.length := by omega
     have hst : bstr a.start = bstr b.start := h3
     rw [q1, q2, decide_eq_true hst] at hR
     refine AC.region ?_
     refine AL.p (by exact g_fa_ref rfl rfl rfl rfl rfl rfl) rfl ?_
     refine AL.p (by exact g_load_ref rfl rfl rfl) rfl ?_
     refine AL.p (by exact g_len_view (k := a.labs.length) rfl rfl (labsL_len _)) rfl ?_
     refine AL.p (by exact mv1 rfl) rfl ?_
     refine AL.nil (th_n (AC.block ?_))
     refine AC.loop (ι := Nat) (fun k => ⟨54, 100, [(2, .d (.ref (stgD a))), (3, .d (.ref (stgD b))), (38, aI a.labs.length), (39, aI k)], []⟩) (fun k => k ≤ a.labs.length ∧ ∀ j (hj : j < a.labs.length) (hj2 : j < b.labs.length), j < k → eqLabB a.labs[j] b.labs[j] = true) (fun k => a.labs.length - k) (0) ?_ (⟨Nat.zero_le _, fun j _ _ hj => by omega⟩) ?_
     ·refine Weak.ren _ [] hC rfl ?_ ?_ rfl rfl rfl <;> repeat (first | exact True.intro | refine And.intro ?_ ?_ | exact DLead.same)
     ·intro k ⟨hk, hall⟩
      refine AC.seq (AC.region ?_)
      refine AL.p (by exact g_cmp rfl rfl rfl) rfl ?_
      refine AL.nil (th_n (AC.seq ?_))
      refine AC.condD rfl (fun h4 => ?_) (fun h4 => ?_)
      ·refine AC.skip (th_n (AC.seq (AC.block (AC.seq ?_))))
       have hk1 : k < a.labs.length := by omega
       have hk2 : k < b.labs.length := by omega
       have hget := labsL_get hk1
       have hget2 := labsL_get hk2
       have hNk := hNo k hk1 hk2
       have hall2 : eqLabB a.labs[k] b.labs[k] = true → ∀ j (hj : j < a.labs.length) (hj2 : j < b.labs.length), j < k + 1 → eqLabB a.labs[j] b.labs[j] = true := fun h j hj hj2 hj3 => by rcases Nat.lt_succ_iff_lt_or_eq.1 hj3 with q | rfl; exact hall j hj hj2 q; exact h
       obtain ⟨x, hx⟩ : ∃ x, x = a.labs[k] := ⟨_, rfl⟩
       obtain ⟨y, hy⟩ : ∃ y, y = b.labs[k] := ⟨_, rfl⟩
       rw [← hx, ← hy] at hNk hall2
       rw [← hx] at hget
       rw [← hy] at hget2
       refine AC.region ?_
       refine AL.p (by exact mv1 rfl) rfl ?_
       refine AL.p (by exact as1 rfl) rfl ?_
       refine AL.nil (th_n (AC.seq ?_))
       refine AC.drawn' mixed_ok [[], [0], [], [0,1,2], [0,1,2,3], [], [5], [], [5,6,7], [5,6,7,8], [0,1,2,3,4,5,6,7,8,9]] (by decide) ?_
       refine DF.op 0 [] 11 rfl rfl rfl (.free rfl (NOp.of (by exact g_fa_ref rfl rfl rfl rfl rfl rfl))) rfl ?_
       refine DF.op 1 [0] 11 rfl rfl rfl (.free rfl (NOp.of (by exact g_load_ref rfl rfl rfl))) rfl ?_
       refine DF.op 2 [] 11 rfl rfl rfl (.free rfl (NOp.of (by exact mv1 rfl))) rfl ?_
       refine DF.op 3 [0,1,2] 11 rfl rfl rfl (.free rfl (NOp.of (by exact g_ia_view (i := k) rfl rfl rfl rfl rfl rfl hget))) rfl ?_
       refine DF.op 4 [0,1,2,3] 11 rfl rfl rfl (.free rfl (NOp.of (by exact g_load_refN rfl rfl rfl rfl))) rfl ?_
       refine DF.op 5 [] 11 rfl rfl rfl (.free rfl (NOp.of (by exact g_fa_ref rfl rfl rfl rfl rfl rfl))) rfl ?_
       refine DF.op 6 [5] 11 rfl rfl rfl (.free rfl (NOp.of (by exact g_load_ref rfl rfl rfl))) rfl ?_
       refine DF.op 7 [] 11 rfl rfl rfl (.free rfl (NOp.of (by exact mv1 rfl))) rfl ?_
       refine DF.op 8 [5,6,7] 11 rfl rfl rfl (.free rfl (NOp.of (by exact g_ia_view (i := k) rfl rfl rfl rfl rfl rfl hget2))) rfl ?_
       refine DF.op 9 [5,6,7,8] 11 rfl rfl rfl (.free rfl (NOp.of (by exact g_load_refN rfl rfl rfl rfl))) rfl ?_
       refine DF.op 10 (List.range 10) 11 rfl rfl rfl (.free rfl (NOp.of (by exact g_eqIB (r := !decide (x.sig = y.sig ∧ x.up = y.up)) (by decide +kernel) rfl rfl rfl))) rfl ?_
       refine DF.fin (ps := [(0,2),(0,5),(0,6),(0,7),(0,8),(0,9),(1,2),(1,5),(1,6),(1,7),(1,8),(1,9),(2,0),(2,1),(2,5),(2,6),(2,7),(2,8),(2,9),(3,5),(3,6),(3,7),(3,8),(3,9),(4,5),(4,6),(4,7),(4,8),(4,9),(5,0),(5,1),(5,2),(5,3),(5,4),(5,7),(6,0),(6,1),(6,2),(6,3),(6,4),(6,7),(7,0),(7,1),(7,2),(7,3),(7,4),(7,5),(7,6),(8,0),(8,1),(8,2),(8,3),(8,4),(9,0),(9,1),(9,2),(9,3),(9,4)]) 11 rfl (by decide +kernel) (by decide +kernel) (by rfl) ?_
       refine th_n ?_
       refine AC.condND rfl (fun h5 => ?_) (fun h5 => ?_)
       ·refine AC.seq (AC.region ?_)
        refine AL.p (by exact as1 rfl) rfl ?_
        refine AL.nil (th_n (AC.ret (ib_r (th_r (th_r (ib_r (th_r (bq_r ?_))))))))
        have e := hNk (by show decide _ = false; exact decide_eq_false h5)
        exact ret1 rfl (by rw [hR, e]; rfl)
       ·refine AC.skip (ib_n (th_n (AC.region ?_)))
        refine AL.p (by exact g_arith rfl rfl rfl (by exact wrap_i64 (by omega))) rfl ?_
        refine AL.p (by exact mv1 rfl) rfl ?_
        refine AL.nil (th_n ?_)
        exact ⟨k + 1, ⟨by omega, hall2 (by show decide _ = true; exact decide_eq_true h5)⟩, by omega, Weak.ren _ [] hC rfl (by repeat (first | exact True.intro | refine And.intro ?_ ?_ | exact DLead.same)) (by repeat (exact True.intro)) rfl rfl rfl⟩
      ·refine AC.exit (th_e (th_e (ib_y (th_n (AC.seq (AC.region ?_))))))
       refine AL.p (by exact as1 rfl) rfl ?_
       refine AL.nil (th_n (AC.ret (bq_r ?_)))
       have e := hYes hl (fun j hj hj2 => hall j hj hj2 (by omega))
       exact ret1 rfl (by rw [hR, e]; rfl)
theorem en_sEqSTG : Enters Try.prog 22 := enters_of Try.func22 rfl rfl
end Go.Proofs.Ytjejbpeedblclaa
