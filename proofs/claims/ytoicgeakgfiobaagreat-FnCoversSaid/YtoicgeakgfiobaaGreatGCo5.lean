/- Contracts of the functions of the program and of the reference, each proved by a walk through its code. -/
import Derived.WalkKit
import Derived.WalkSpells
import Derived.WalkLawsBesides
import Derived.Deep.Draws
import Derived.Lib.Hide
import Derived.Maps.AppendAt
import Derived.OwnWalk
import Derived.Deep.MidRow
import Derived.Laws.ResultCell
import Derived.Deep.Upon
import Derived.Great.FillDense
import Derived.Laws.Tables
import Derived.Laws.BytesArg
import Derived.Laws.MakeOwn
import Derived.Great.BuildSlice
import Derived.ArgAppend
import Derived.Deep.AppendSrc
import Derived.Test.YtoicgeakgfiobaaGreatProg
import Derived.KernelRfl
import Derived.Orders
import Derived.Laws.IdiomStrings
import Derived.Lib.AppendZerosOnto
import Derived.ProofKit
import Derived.OpenShut
import Derived.Lib.SliceRun
import Derived.Laws.RangeString
import Derived.Shelf.Strings.Builder1
import Derived.Shelf.Strings.Builder2
import Derived.Shelf.Strings.OnBuilder
import Derived.Shelf.Strings.Search1
import Derived.Shelf.Strings.Search2
import Derived.Shelf.Strings.Search3
import Derived.Shelf.LaysM
import Derived.Shelf.Strings.Shaped
import Derived.Test.YtoicgeakgfiobaaGreatRows
import Derived.Lib.IndexAny
import Derived.Laws.StructEq
import Derived.ChangeKeysEq
import Derived.Sort.Grow
import Derived.Below
import Derived.Laws.Small
import Derived.Laws.IdiomCopy
import Derived.Test.YtoicgeakgfiobaaGreatGCo4
set_option linter.all false
set_option maxRecDepth 20000
namespace Go.Proofs.YtoicgeakgfiobaaGreat
open Go.RowKit
theorem iBit_spec (up : Bool) : ASpec Tryz.prog 35 [aT up] [] (Pure1 (.d (dB (bitLb up)))) := by
 refine ASpec.of Tryz.func35 rfl rfl fun C hC => ?_
 refine AC.seq (AC.region ?_)
 refine AL.p (by exact as1 rfl) rfl ?_
 refine AL.nil (th_n (AC.seq (AC.seq (AC.region ?_))))
 refine AL.p (by exact mv1 rfl) rfl ?_
 refine AL.nil (th_n ?_)
 refine AC.condB rfl (fun h0 => ?_) (fun h0 => ?_)
 ·refine AC.seq (AC.region ?_)
  refine AL.p (by exact as1 rfl) rfl ?_
  refine AL.nil (th_n (AC.ret (th_r (bq_r ?_))))
  exact ret1 rfl (by rw [h0]; rfl)
 ·refine AC.skip (th_n (AC.seq (AC.region ?_)))
  refine AL.p (by exact as1 rfl) rfl ?_
  refine AL.nil (th_n (AC.ret (bq_r ?_)))
  exact ret1 rfl (by rw [h0]; rfl)
theorem en_iBit : Enters Tryz.prog 35 := enters_of Tryz.func35 rfl rfl
theorem l5Bit_spec (up : Bool) : ASpec Tryz.prog 42 [aT up] [] (Pure1 (aS (bstr [bitLb up]))) := by
 refine ASpec.of Tryz.func42 rfl rfl fun C hC => ?_
 refine AC.seq (AC.region ?_)
 refine AL.p (by exact as1 rfl) rfl ?_
 refine AL.nil (th_n (AC.seq (AC.seq (AC.region ?_))))
 refine AL.p (by exact mv1 rfl) rfl ?_
 refine AL.nil (th_n ?_)
 refine AC.condB rfl (fun h0 => ?_) (fun h0 => ?_)
 ·refine AC.seq (AC.region ?_)
  refine AL.p (by exact as1 rfl) rfl ?_
  refine AL.nil (th_n (AC.ret (th_r (bq_r ?_))))
  exact ret1 rfl (by rw [h0]; rfl)
 ·refine AC.skip (th_n (AC.seq (AC.region ?_)))
  refine AL.p (by exact as1 rfl) rfl ?_
  refine AL.nil (th_n (AC.ret (bq_r ?_)))
  exact ret1 rfl (by rw [h0]; rfl)
theorem en_l5Bit : Enters Tryz.prog 42 := enters_of Tryz.func42 rfl rfl
theorem set_parts {c : List UInt8} {i : Nat} {b : UInt8} (h : i < c.length) : bstr (c.take i) ++ bstr [b] ++ bstr (c.drop (i + 1)) = bstr (c.set i b) := by
 rw [bstr_append, bstr_append, List.set_eq_take_append_cons_drop, if_pos h]; simp
set_option maxHeartbeats 1000000 in
theorem l5Set_spec (c : List UInt8) (i : Nat) (b : UInt8) (hc : c.length ≤ 2000000) (hi : i < c.length) : ASpec Tryz.prog 43 [aS (bstr c), aI i, aS (bstr [b])] [] (Pure1 (aS (bstr (c.set i b)))) := by
 have hsz := bstr_size c
 have hx1 : (bstr c).extract 0 i = bstr (c.take i) := by rw [bstr_cut c (Nat.zero_le _) (by omega)]; simp
 have hx2 : (bstr c).extract (i + 1) (bstr c).size = bstr (c.drop (i + 1)) := by rw [hsz, bstr_cut c (by omega) (Nat.le_refl _), List.take_length]
 have hs1 : (bstr (c.take i)).size = i := by rw [bstr_size, List.length_take]; omega
 have hs2 : (bstr [b]).size = 1 := rfl
 have hs3 : (bstr (c.drop (i + 1))).size = c.length - (i + 1) := by rw [bstr_size, List.length_drop]
 have hst := set_parts (b := b) hi
 refine ASpec.of Tryz.func43 rfl rfl fun C hC => ?_
 refine AC.seq (AC.region ?_)
 refine AL.p (by exact as1 rfl) rfl ?_
 refine AL.nil (th_n (AC.seq ?_))
 refine AC.drawn' mixed_ok [[], [], [0,1], [], [0,1,2,3], [], [], [6], [5,6,7], [0,1,2,3,4,5,6,7,8], [0,1,2,3,4,5,6,7,8,9]] (by decide) ?_
 refine DF.op 0 [] 11 rfl rfl rfl (.free rfl (NOp.of (by exact mv1 rfl))) rfl ?_
 refine DF.op 1 [] 11 rfl rfl rfl (.free rfl (NOp.of (by exact mv1 rfl))) rfl ?_
 refine DF.op 2 [0,1] 11 rfl rfl rfl (.free rfl (NOp.of (by exact g_slice_str (h := i) rfl rfl .none (.some rfl rfl) (Nat.zero_le _) (by omega) hx1))) rfl ?_
 refine DF.op 3 [] 11 rfl rfl rfl (.free rfl (NOp.of (by exact mv1 rfl))) rfl ?_
 refine DF.op 4 [0,1,2,3] 11 rfl rfl rfl (.free rfl (NOp.of (by exact g_sadd rfl rfl (by omega)))) rfl ?_
 refine DF.op 5 [] 11 rfl rfl rfl (.free rfl (NOp.of (by exact mv1 rfl))) rfl ?_
 refine DF.op 6 [] 11 rfl rfl rfl (.free rfl (NOp.of (by exact mv1 rfl))) rfl ?_
 refine DF.op 7 [6] 11 rfl rfl rfl (.free rfl (NOp.of (by exact g_arith rfl rfl rfl (by exact wrap_i64 (by omega))))) rfl ?_
 refine DF.op 8 [5,6,7] 11 rfl rfl rfl (.free rfl (NOp.of (by exact g_slice_str (l := i + 1) rfl rfl (.some rfl rfl) .none (by omega) (Nat.le_refl _) hx2))) rfl ?_
 refine DF.op 9 (List.range 9) 11 rfl rfl rfl (.free rfl (NOp.of (by exact g_sadd rfl rfl (by rw [ByteArray.size_append]; omega)))) rfl ?_
 refine DF.op 10 (List.range 10) 11 rfl rfl rfl (.free rfl (NOp.of (by exact as1 rfl))) rfl ?_
 refine DF.fin (ps := [(0,1),(0,3),(0,5),(0,6),(0,7),(0,8),(1,0),(1,3),(1,5),(1,6),(1,7),(1,8),(2,3),(2,5),(2,6),(2,7),(2,8),(3,0),(3,1),(3,2),(3,5),(3,6),(3,7),(3,8),(4,5),(4,6),(4,7),(4,8),(5,0),(5,1),(5,2),(5,3),(5,4),(5,6),(5,7),(6,0),(6,1),(6,2),(6,3),(6,4),(6,5),(7,0),(7,1),(7,2),(7,3),(7,4),(7,5),(8,0),(8,1),(8,2),(8,3),(8,4)]) 11 rfl (by decide +kernel) (by decide +kernel) (by rfl) ?_
 refine th_n (AC.ret (bq_r ?_))
 exact ret1 rfl (by rw [hst])
theorem en_l5Set : Enters Tryz.prog 43 := enters_of Tryz.func43 rfl rfl
theorem u8_iff {a b : UInt8} : ((a.toNat : Int) = (b.toNat : Int)) ↔ a = b := ⟨fun h => UInt8.toNat_inj.1 (by omega), fun h => by rw [h]⟩
theorem one_cut {c : List UInt8} {i : Nat} (h : i < c.length) : (bstr c).extract i (i + 1) = bstr [c.getD i 0] := by
 rw [bstr_cut c (by omega) (by omega), List.take_add_one, List.getElem?_eq_getElem h, List.drop_append_of_le_length (by rw [List.length_take]; omega), List.drop_of_length_le (by rw [List.length_take]; omega)]
 simp [List.getD_eq_getElem?_getD, List.getElem?_eq_getElem h]
def cofL (l : List (List UInt8)) (s : Nat) (up : Bool) (k : Nat) : List (List UInt8) := ((l.take k).filter fun c => decide (c.getD s 0 ≠ bitLb (!up))).map fun c => c.set s 45
def cofR (l : List (List UInt8)) (sig : Int) (up : Bool) : List (List UInt8) × Bool := if 0 < l.length ∧ cvB (fst0 l).length l = true ∧ 0 ≤ sig ∧ sig ≤ (fst0 l).length - 1 then (cofL l sig.toNat up l.length, true) else ([], false)
theorem cofR_no {l : List (List UInt8)} {sig : Int} {up : Bool} (h : l.length = 0 ∨ cvB (fst0 l).length l = false ∨ ¬ (0 ≤ sig ∧ sig ≤ (fst0 l).length - 1)) : cofR l sig up = ([], false) := by
 unfold cofR
 refine if_neg ?_
 rintro ⟨h1, h2, h3⟩
 rcases h with h | h | h
 ·omega
 ·rw [h] at h2; cases h2
 ·exact h h3
theorem cofR_yes {l : List (List UInt8)} {sig : Int} {up : Bool} (h1 : 0 < l.length) (h2 : cvB (fst0 l).length l = true) (h3 : 0 ≤ sig ∧ sig ≤ (fst0 l).length - 1) : cofR l sig up = (cofL l sig.toNat up l.length, true) := if_pos ⟨h1, h2, h3⟩
theorem cofL_len (l : List (List UInt8)) (s : Nat) (up : Bool) (k : Nat) : (cofL l s up k).length ≤ k := by
 unfold cofL
 rw [List.length_map]
 exact Nat.le_trans (List.length_filter_le _ _) (by rw [List.length_take]; omega)
theorem cofL_yes {l : List (List UInt8)} {s : Nat} {up : Bool} {k : Nat} (hk : k < l.length) (h : ¬ l[k].getD s 0 = bitLb (!up)) : cofL l s up (k + 1) = cofL l s up k ++ [l[k].set s 45] := by
 unfold cofL
 rw [List.take_add_one, List.getElem?_eq_getElem hk, List.filter_append, List.map_append]
 congr 1
 rw [Option.toList_some, List.filter_cons_of_pos (by simpa using h)]; rfl
theorem cofL_no {l : List (List UInt8)} {s : Nat} {up : Bool} {k : Nat} (hk : k < l.length) (h : l[k].getD s 0 = bitLb (!up)) : cofL l s up (k + 1) = cofL l s up k := by
 unfold cofL
 rw [List.take_add_one, List.getElem?_eq_getElem hk, List.filter_append, List.map_append, Option.toList_some, List.filter_cons_of_neg (by simpa using h)]
 simp
def covR (l : List (List UInt8)) (x : List UInt8) : Bool × Bool := if cvB x.length l = true ∧ bitsB x x.length = true then (covB l x, true) else (false, false)
theorem covR_no {l : List (List UInt8)} {x : List UInt8} (h : cvB x.length l = false ∨ bitsB x x.length = false) : covR l x = (false, false) := by
 refine if_neg ?_
 rintro ⟨h1, h2⟩
 rcases h with h | h
 ·rw [h] at h1; cases h1
 ·rw [h] at h2; cases h2
theorem notIn {a b : Prop} [Decidable a] [Decidable b] (h : (!(decide a && decide b)) = true) : ¬ (a ∧ b) := by rintro ⟨ha, hb⟩; rw [decide_eq_true ha, decide_eq_true hb] at h; cases h
theorem covR_yes {l : List (List UInt8)} {x : List UInt8} (h1 : cvB x.length l = true) (h2 : bitsB x x.length = true) : covR l x = (covB l x, true) := if_pos ⟨h1, h2⟩
theorem cvB_code {l : List (List UInt8)} {x : List UInt8} (h : cvB x.length l = true) : codeB x x.length = bitsB x x.length := by
 have h1 := (cvB_in h).1
 rw [codeB_eq, decide_eq_true h1.1, decide_eq_true h1.2, Bool.and_true, Bool.and_true]
set_option maxHeartbeats 4000000 in
theorem iCofac_spec (l : List (List UInt8)) (sig : Int) (up : Bool) (hl : l.length ≤ 1000000) (hb : ∀ c, c ∈ l → c.length ≤ 2000000) : ASpec Tryz.prog 14 [.d (vSs l), aI sig, aT up] [] (Pure1 (.tup [.d (vSs (cofR l sig up).1), aT (cofR l sig up).2])) := by
 have hsz := bstr_size (fst0 l)
 have hf0 : 0 < l.length → (fst0 l).length ≤ 2000000 := fun h => hb _ (fst0_mem h)
 have hV := iCov_spec (fst0 l).length l hl hb
 have hW := within_spec sig 0 ((fst0 l).length - 1)
 have hR1 := cofR_no (l := l) (sig := sig) (up := up)
 have hR2 := fun a b c => cofR_yes (l := l) (sig := sig) (up := up) a b c
 have hin := cvB_n (n := (fst0 l).length) (l := l)
 obtain ⟨G, hG⟩ : ∃ G, G = cofR l sig up := ⟨_, rfl⟩
 rw [← hG] at hR1 hR2 ⊢
 obtain ⟨bV, hbV⟩ : ∃ b, b = cvB (fst0 l).length l := ⟨_, rfl⟩
 rw [← hbV] at hV hR1 hR2 hin
 clear hG hbV
 refine ASpec.of Tryz.func14 rfl rfl fun C hC => ?_
 refine AC.seq (AC.region ?_)
 refine AL.p (by exact as1 rfl) rfl ?_
 refine AL.p (by exact as1 rfl) rfl ?_
 refine AL.nil (th_n (AC.seq (AC.seq (AC.region ?_))))
 refine AL.p (by exact mv1 rfl) rfl ?_
 refine AL.p (by exact g_len_view rfl rfl (by exact List.length_map _)) rfl ?_
 refine AL.p (by exact g_cmp rfl rfl rfl) rfl ?_
 refine AL.p (by exact mv1 rfl) rfl ?_
 refine AL.caseG rfl rfl (fun h0 => ?_) (fun h0 => ?_)
 ·refine AL.not rfl rfl rfl rfl rfl ?_
  refine AL.not rfl rfl rfl rfl rfl ?_
  refine AL.not rfl rfl rfl rfl rfl ?_
  refine AL.not rfl rfl rfl rfl rfl ?_
  refine AL.not rfl rfl rfl rfl rfl ?_
  refine AL.not rfl rfl rfl rfl rfl ?_
  refine AL.not rfl rfl rfl rfl rfl ?_
  refine AL.p (by exact g_pickT (r := .d _) rfl rfl) rfl ?_
  refine AL.p (by exact mv1 rfl) rfl ?_
  refine AL.not rfl rfl rfl rfl rfl ?_
  refine AL.not rfl rfl rfl rfl rfl ?_
  refine AL.not rfl rfl rfl rfl rfl ?_
  refine AL.not rfl rfl rfl rfl rfl ?_
  refine AL.not rfl rfl rfl rfl rfl ?_
  refine AL.not rfl rfl rfl rfl rfl ?_
  refine AL.not rfl rfl rfl rfl rfl ?_
  refine AL.not rfl rfl rfl rfl rfl ?_
  refine AL.p (by exact g_pickT (r := .d _) rfl rfl) rfl ?_
  refine AL.nil (th_n ?_)
  refine AC.condT rfl ?_
  refine AC.seq (AC.region ?_)
  refine AL.p (by exact as1 rfl) rfl ?_
  refine AL.p (by exact as1 rfl) rfl ?_
  refine AL.nil (th_n (AC.ret (th_r (bq_r ?_))))
  (have e := hR1 (.inl (by have := h0; simp at this; omega)); exact ret0 rfl (by rw [e]; repeat (first | exact DLead.same | exact DLead.nil | exact rfl | refine ⟨_, rfl, ?_⟩ | refine ⟨_, _, rfl, ?_, ?_⟩)))
 ·refine AL.yes rfl rfl rfl ?_
  have h00 : 0 < l.length := by have := h0; simp at this; omega
  have hget0 := fst0_at h00
  have hf1 := hf0 h00
  refine AL.p (by exact mv1 rfl) rfl ?_
  refine AL.yes rfl rfl rfl ?_
  refine AL.p (by exact g_ia_view (i := 0) rfl rfl rfl rfl rfl rfl hget0) rfl ?_
  refine AL.yes rfl rfl rfl ?_
  refine AL.p (by exact g_load_ref rfl rfl rfl) rfl ?_
  refine AL.yes rfl rfl rfl ?_
  refine AL.p (by exact g_len_str (k := (fst0 l).length) rfl rfl hsz) rfl ?_
  refine AL.yes rfl rfl rfl ?_
  refine AL.p (by exact mv1 rfl) rfl ?_
  refine AL.yes rfl rfl rfl ?_
  refine AL.q (by exact h_pure en_iCov rfl rfl (by repeat (first | exact rfl | exact DLead.same | refine ⟨_, _, rfl, ?_, ?_⟩)) hV rfl) rfl ?_
  refine AL.yes rfl rfl rfl ?_
  refine AL.p (by exact g_not rfl) rfl ?_
  refine AL.p (by exact g_pickF (r := .d _) rfl rfl) rfl ?_
  refine AL.p (by exact mv1 rfl) rfl ?_
  refine AL.caseGB rfl rfl (fun h1 => ?_) (fun h1 => ?_)
  ·refine AL.not rfl rfl rfl rfl rfl ?_
   refine AL.not rfl rfl rfl rfl rfl ?_
   refine AL.not rfl rfl rfl rfl rfl ?_
   refine AL.not rfl rfl rfl rfl rfl ?_
   refine AL.not rfl rfl rfl rfl rfl ?_
   refine AL.not rfl rfl rfl rfl rfl ?_
   refine AL.not rfl rfl rfl rfl rfl ?_
   refine AL.not rfl rfl rfl rfl rfl ?_
   refine AL.p (by exact g_pickT (r := .d _) rfl rfl) rfl ?_
   refine AL.nil (th_n ?_)
   refine AC.condT rfl ?_
   refine AC.seq (AC.region ?_)
   refine AL.p (by exact as1 rfl) rfl ?_
   refine AL.p (by exact as1 rfl) rfl ?_
   refine AL.nil (th_n (AC.ret (th_r (bq_r ?_))))
   (have e := hR1 (.inr (.inl ((Bool.not_eq_true' _).mp h1))); exact ret0 rfl (by rw [e]; repeat (first | exact DLead.same | exact DLead.nil | exact rfl | refine ⟨_, rfl, ?_⟩ | refine ⟨_, _, rfl, ?_, ?_⟩)))
  ·refine AL.yes rfl rfl rfl ?_
   refine AL.p (by exact mv1 rfl) rfl ?_
   refine AL.yes rfl rfl rfl ?_
   refine AL.p (by exact mv1 rfl) rfl ?_
   refine AL.yes rfl rfl rfl ?_
   refine AL.p (by exact g_ia_view (i := 0) rfl rfl rfl rfl rfl rfl hget0) rfl ?_
   refine AL.yes rfl rfl rfl ?_
   refine AL.p (by exact g_load_ref rfl rfl rfl) rfl ?_
   refine AL.yes rfl rfl rfl ?_
   refine AL.p (by exact g_len_str (k := (fst0 l).length) rfl rfl hsz) rfl ?_
   refine AL.yes rfl rfl rfl ?_
   refine AL.p (by exact g_arith rfl rfl rfl (by exact wrap_i64 (by omega))) rfl ?_
   refine AL.yes rfl rfl rfl ?_
   refine AL.q (by exact h_pure en_within rfl rfl (by repeat (first | exact rfl | exact DLead.same | refine ⟨_, _, rfl, ?_, ?_⟩)) hW rfl) rfl ?_
   refine AL.yes rfl rfl rfl ?_
   refine AL.p (by exact g_not rfl) rfl ?_
   refine AL.p (by exact g_pickF (r := .d _) rfl rfl) rfl ?_
   refine AL.nil (th_n ?_)
   refine AC.condB rfl (fun h2 => ?_) (fun h2 => ?_)
   ·refine AC.seq (AC.region ?_)
    refine AL.p (by exact as1 rfl) rfl ?_
    refine AL.p (by exact as1 rfl) rfl ?_
    refine AL.nil (th_n (AC.ret (th_r (bq_r ?_))))
    (have e := hR1 (.inr (.inr (notIn h2))); exact ret0 rfl (by rw [e]; repeat (first | exact DLead.same | exact DLead.nil | exact rfl | refine ⟨_, rfl, ?_⟩ | refine ⟨_, _, rfl, ?_, ?_⟩)))
   ·refine AC.skip (th_n (AC.seq ?_))
    have q1 : bV = true := by simpa using h1
    have q2 : 0 ≤ sig ∧ sig ≤ (fst0 l).length - 1 := by have := (Bool.not_eq_false' _).mp h2; simpa using this
    obtain ⟨m, hm, hm1, hm2, hml⟩ := hin q1
    obtain ⟨s, rfl⟩ : ∃ s : Nat, sig = s := ⟨sig.toNat, by omega⟩
    have hsm : s < m := by omega
    have e := hR2 h00 q1 q2
    clear hR1 hR2 hV hW hin
    rw [Int.toNat_natCast] at e
    refine AC.region ?_
    refine AL.q (by exact h_lit rfl rfl rfl rfl rfl rfl rfl rfl) rfl ?_
    refine AL.p (by exact as2 rfl) rfl ?_
    refine AL.nil (th_n (AC.seq (AC.seq (AC.region ?_))))
    refine AL.p (by exact mv1 rfl) rfl ?_
    refine AL.p (by exact g_len_view rfl rfl (by exact List.length_map _)) rfl ?_
    refine AL.p (by exact mv1 rfl) rfl ?_
    refine AL.nil (th_n (AC.block ?_))
    refine AC.loop (ι := Nat) (fun k => ⟨61, 300, [(0, .d (vSs l)), (1, aI s), (2, aT up), (8, .own 100 (cofL l s up k).length), (34, .d (vSs l)), (35, aI l.length), (36, aI k)], [(100, some (.arr 9 1 (strsL (cofL l s up k))))]⟩) (fun k => k ≤ l.length) (fun k => l.length - k) (0) ?_ (Nat.zero_le _) ?_
    ·exact Weak.ren _ [(100, _)] hC rfl (by repeat (first | exact True.intro | refine And.intro ?_ ?_ | exact DLead.same | exact rfl | refine ⟨_, rfl, ?_⟩)) (by repeat (first | exact True.intro | refine And.intro ?_ ?_ | exact rfl | refine ⟨_, _, rfl, rfl, ?_⟩)) rfl rfl rfl
    ·intro k hk
     have hfl := cofL_len l s up k
     refine AC.seq (AC.region ?_)
     refine AL.p (by exact g_cmp rfl rfl rfl) rfl ?_
     refine AL.nil (th_n (AC.seq ?_))
     refine AC.condD rfl (fun h3 => ?_) (fun h3 => ?_)
     ·refine AC.skip (th_n (AC.seq (AC.block (AC.seq ?_))))
      have hk1 : k < l.length := by omega
      have hget := strs_at hk1
      have hcl := hml _ (List.getElem_mem hk1)
      have hfy := fun h => (cofL_yes (l := l) (s := s) (up := up) hk1 h)
      have hfn := fun h => (cofL_no (l := l) (s := s) (up := up) hk1 h)
      obtain ⟨c, hc⟩ : ∃ c, c = l[k] := ⟨_, rfl⟩
      rw [← hc] at hget hcl hfy hfn
      have hgm : (bstr c).data.toList[s]? = some (c.getD s 0) := bstr_getD (by omega)
      have hex : (bstr c).extract s (s + 1) = bstr [c.getD s 0] := one_cut (by omega)
      have hx1 : (bstr c).extract 0 s = bstr (c.take s) := by rw [bstr_cut c (Nat.zero_le _) (by omega)]; simp
      have hx2 : (bstr c).extract (s + 1) (bstr c).size = bstr (c.drop (s + 1)) := by rw [bstr_size, bstr_cut c (by omega) (Nat.le_refl _), List.take_length]
      have hset : c.set s 45 = c.take s ++ [45] ++ c.drop (s + 1) := by rw [List.set_eq_take_append_cons_drop, if_pos (by omega)]; simp
      have hS := l5Set_spec c s 45 (by omega) (by omega)
      obtain ⟨X, hX⟩ : ∃ X, X = c.getD s 0 := ⟨_, rfl⟩
      rw [hset] at hfy
      refine AC.region ?_
      refine AL.p (by exact g_ia_view rfl rfl rfl rfl rfl (by rfl) (by assumption)) rfl ?_
      refine AL.p (by exact g_load_ref rfl rfl rfl) rfl ?_
      refine AL.p (by exact as1 rfl) rfl ?_
      refine AL.nil (th_n (AC.seq ?_))
      refine AC.drawn' mixed_ok [[], [], [0,1], [], [3], [3,4], [0,1,2,3,4,5]] (by decide) ?_
      refine DF.op 0 [] 7 rfl rfl rfl (.free rfl (NOp.of (by exact mv1 rfl))) rfl ?_
      refine DF.op 1 [] 7 rfl rfl rfl (.free rfl (NOp.of (by exact mv1 rfl))) rfl ?_
      refine DF.op 2 [0,1] 7 rfl rfl rfl (.free rfl (NOp.of (by exact g_index (i := s) rfl rfl rfl rfl hgm))) rfl ?_
      refine DF.op 3 [] 7 rfl rfl rfl (.free rfl (NOp.of (by exact mv1 rfl))) rfl ?_
      refine DF.op 4 [3] 7 rfl rfl rfl (.free rfl (NOp.of (by exact g_not rfl))) rfl ?_
      refine DF.op 5 [3,4] 7 rfl rfl rfl (.free rfl (by exact h_pure en_iBit rfl rfl (by repeat (first | exact rfl | exact DLead.same | refine ⟨_, _, rfl, ?_, ?_⟩)) (iBit_spec (!up)) rfl)) rfl ?_
      refine DF.op 6 [0,1,2,3,4,5] 7 rfl rfl rfl (.free rfl (NOp.of (by exact g_cmp rfl rfl rfl))) rfl ?_
      refine DF.fin (ps := [(0,1),(0,3),(0,4),(0,5),(1,0),(1,3),(1,4),(1,5),(2,3),(2,4),(2,5),(3,0),(3,1),(3,2),(4,0),(4,1),(4,2),(5,0),(5,1),(5,2)]) 7 rfl (by decide +kernel) (by decide +kernel) (by rfl) ?_
      refine th_n ?_
      refine AC.condND rfl (fun h4 => ?_) (fun h4 => ?_)
      ·refine AC.drawn' mixed_ok [[], [], [], [1,2], [1,2,3], [], [], [6], [5,6,7], [1,2,3,4,5,6,7,8], [1,2,3,4,5,6,7,8,9], [0,1,2,3,4,5,6,7,8,9,10], [0,1,2,3,4,5,6,7,8,9,10,11]] (by decide) ?_
       refine DF.op 0 [] 13 rfl rfl rfl (.free rfl (NOp.of (by exact mv2 rfl))) rfl ?_
       refine DF.op 1 [] 13 rfl rfl rfl (.free rfl (NOp.of (by exact mv1 rfl))) rfl ?_
       refine DF.op 2 [] 13 rfl rfl rfl (.free rfl (NOp.of (by exact mv1 rfl))) rfl ?_
       refine DF.op 3 [1,2] 13 rfl rfl rfl (.free rfl (NOp.of (by exact g_slice_str (h := s) rfl rfl .none (.some rfl rfl) (Nat.zero_le _) (by rw [bstr_size]; omega) hx1))) rfl ?_
       refine DF.op 4 [1,2,3] 13 rfl rfl rfl (.free rfl (NOp.of (by exact g_saddB (a := c.take s) (b := [45]) rfl rfl (by rw [List.length_take]; simp only [List.length_cons, List.length_nil]; omega)))) rfl ?_
       refine DF.op 5 [] 13 rfl rfl rfl (.free rfl (NOp.of (by exact mv1 rfl))) rfl ?_
       refine DF.op 6 [] 13 rfl rfl rfl (.free rfl (NOp.of (by exact mv1 rfl))) rfl ?_
       refine DF.op 7 [6] 13 rfl rfl rfl (.free rfl (NOp.of (by exact g_arith rfl rfl rfl (by exact wrap_i64 (by omega))))) rfl ?_
       refine DF.op 8 [5,6,7] 13 rfl rfl rfl (.free rfl (NOp.of (by exact g_slice_str (l := s + 1) rfl rfl (.some rfl rfl) .none (by rw [bstr_size]; omega) (Nat.le_refl _) hx2))) rfl ?_
       refine DF.op 9 [1,2,3,4,5,6,7,8] 13 rfl rfl rfl (.free rfl (NOp.of (by exact g_saddB (a := c.take s ++ [45]) (b := c.drop (s + 1)) rfl rfl (by rw [List.length_append, List.length_take, List.length_drop]; simp only [List.length_cons, List.length_nil]; omega)))) rfl ?_
       refine DF.op 10 [1,2,3,4,5,6,7,8,9] 13 rfl rfl rfl (.free rfl (by exact h_litF rfl rfl rfl rfl rfl rfl rfl rfl)) rfl ?_
       refine DF.op 11 (List.range 11) 13 rfl rfl rfl (.free rfl (by exact h_appendSt (cofL l s up k) [c.take s ++ [45] ++ c.drop (s + 1)] (.own rfl rfl (strsL_len _).symm) (.view rfl) (by rw [List.length_append]; simp only [List.length_cons, List.length_nil]; omega) (by simp))) rfl ?_
       refine DF.op 12 (List.range 12) 13 rfl rfl rfl (.free rfl (NOp.of (by exact as2 rfl))) rfl ?_
       refine DF.fin (ps := [(0,1),(0,2),(0,3),(0,4),(0,5),(0,6),(0,7),(0,8),(0,9),(0,10),(1,0),(1,2),(1,5),(1,6),(1,7),(1,8),(2,0),(2,1),(2,5),(2,6),(2,7),(2,8),(3,0),(3,5),(3,6),(3,7),(3,8),(4,0),(4,5),(4,6),(4,7),(4,8),(5,0),(5,1),(5,2),(5,3),(5,4),(5,6),(5,7),(6,0),(6,1),(6,2),(6,3),(6,4),(6,5),(7,0),(7,1),(7,2),(7,3),(7,4),(7,5),(8,0),(8,1),(8,2),(8,3),(8,4),(9,0),(10,0)]) 13 rfl (by decide +kernel) (by decide +kernel) (by rfl) ?_
       refine ib_n (th_n (AC.region ?_))
       refine AL.p (by exact g_arith rfl rfl rfl (by exact wrap_i64 (by omega))) rfl ?_
       refine AL.p (by exact mv1 rfl) rfl ?_
       refine AL.nil (th_n ?_)
       (have e2 := hfy (by simpa [u8_iff, bstr_iff] using h4); exact ⟨k + 1, by omega, by omega, Weak.ren _ [(100, _)] hC rfl (by rw [e2]; repeat (first | exact True.intro | refine And.intro ?_ ?_ | exact DLead.same | exact rfl | refine ⟨_, rfl, ?_⟩)) (by rw [e2]; repeat (first | exact True.intro | refine And.intro ?_ ?_ | exact rfl | refine ⟨_, _, rfl, rfl, ?_⟩)) rfl rfl rfl⟩)
      ·refine AC.skip (ib_n (th_n (AC.region ?_)))
       refine AL.p (by exact g_arith rfl rfl rfl (by exact wrap_i64 (by omega))) rfl ?_
       refine AL.p (by exact mv1 rfl) rfl ?_
       refine AL.nil (th_n ?_)
       (have e2 := hfn (by simpa [u8_iff, bstr_iff] using h4); exact ⟨k + 1, by omega, by omega, Weak.ren _ [(100, _)] hC rfl (by rw [e2]; repeat (first | exact True.intro | refine And.intro ?_ ?_ | exact DLead.same | exact rfl | refine ⟨_, rfl, ?_⟩)) (by rw [e2]; repeat (first | exact True.intro | refine And.intro ?_ ?_ | exact rfl | refine ⟨_, _, rfl, rfl, ?_⟩)) rfl rfl rfl⟩)
     ·refine AC.exit (th_e (th_e (ib_y (th_n (AC.seq ?_)))))
      have hkk : k = l.length := by omega
      subst hkk
      refine AC.weak (Weak.freeze (i := 8) rfl rfl (ownl _ _) (ownt _ _)) ?_
      refine AC.region ?_
      refine AL.p (by exact mv1 rfl) rfl ?_
      refine AL.p (by exact as1 rfl) rfl ?_
      refine AL.p (by exact as1 rfl) rfl ?_
      refine AL.nil (th_n (AC.ret (bq_r ?_)))
      exact ret0 rfl (by rw [e]; repeat (first | exact DLead.same | exact rfl | refine ⟨_, rfl, ?_⟩ | refine ⟨_, _, rfl, ?_, ?_⟩))
theorem en_iCofac : Enters Tryz.prog 14 := enters_of Tryz.func14 rfl rfl
set_option maxHeartbeats 4000000 in
theorem sCofac_spec (l : List (List UInt8)) (sig : Int) (up : Bool) (hl : l.length ≤ 1000000) (hb : ∀ c, c ∈ l → c.length ≤ 2000000) : ASpec Tryz.prog 18 [.d (vSs l), aI sig, aT up] [] (Pure1 (.tup [.d (vSs (cofR l sig up).1), aT (cofR l sig up).2])) := by
 have hsz := bstr_size (fst0 l)
 have hf0 : 0 < l.length → (fst0 l).length ≤ 2000000 := fun h => hb _ (fst0_mem h)
 have hV := l13Good_spec (fst0 l).length l hl hb
 have hW := l1In_spec sig 0 ((fst0 l).length - 1)
 have hR1 := cofR_no (l := l) (sig := sig) (up := up)
 have hR2 := fun a b c => cofR_yes (l := l) (sig := sig) (up := up) a b c
 have hin := cvB_n (n := (fst0 l).length) (l := l)
 obtain ⟨G, hG⟩ : ∃ G, G = cofR l sig up := ⟨_, rfl⟩
 rw [← hG] at hR1 hR2 ⊢
 obtain ⟨bV, hbV⟩ : ∃ b, b = cvB (fst0 l).length l := ⟨_, rfl⟩
 rw [← hbV] at hV hR1 hR2 hin
 clear hG hbV
 refine ASpec.of Tryz.func18 rfl rfl fun C hC => ?_
 refine AC.seq (AC.region ?_)
 refine AL.p (by exact as1 rfl) rfl ?_
 refine AL.p (by exact as1 rfl) rfl ?_
 refine AL.nil (th_n (AC.seq (AC.seq (AC.region ?_))))
 refine AL.p (by exact mv1 rfl) rfl ?_
 refine AL.p (by exact g_len_view rfl rfl (by exact List.length_map _)) rfl ?_
 refine AL.p (by exact g_cmp rfl rfl rfl) rfl ?_
 refine AL.p (by exact mv1 rfl) rfl ?_
 refine AL.caseG rfl rfl (fun h0 => ?_) (fun h0 => ?_)
 ·refine AL.not rfl rfl rfl rfl rfl ?_
  refine AL.not rfl rfl rfl rfl rfl ?_
  refine AL.not rfl rfl rfl rfl rfl ?_
  refine AL.not rfl rfl rfl rfl rfl ?_
  refine AL.not rfl rfl rfl rfl rfl ?_
  refine AL.not rfl rfl rfl rfl rfl ?_
  refine AL.not rfl rfl rfl rfl rfl ?_
  refine AL.p (by exact g_pickT (r := .d _) rfl rfl) rfl ?_
  refine AL.p (by exact mv1 rfl) rfl ?_
  refine AL.not rfl rfl rfl rfl rfl ?_
  refine AL.not rfl rfl rfl rfl rfl ?_
  refine AL.not rfl rfl rfl rfl rfl ?_
  refine AL.not rfl rfl rfl rfl rfl ?_
  refine AL.not rfl rfl rfl rfl rfl ?_
  refine AL.not rfl rfl rfl rfl rfl ?_
  refine AL.not rfl rfl rfl rfl rfl ?_
  refine AL.not rfl rfl rfl rfl rfl ?_
  refine AL.p (by exact g_pickT (r := .d _) rfl rfl) rfl ?_
  refine AL.nil (th_n ?_)
  refine AC.condT rfl ?_
  refine AC.seq (AC.region ?_)
  refine AL.p (by exact as1 rfl) rfl ?_
  refine AL.p (by exact as1 rfl) rfl ?_
  refine AL.nil (th_n (AC.ret (th_r (bq_r ?_))))
  (have e := hR1 (.inl (by have := h0; simp at this; omega)); exact ret0 rfl (by rw [e]; repeat (first | exact DLead.same | exact DLead.nil | exact rfl | refine ⟨_, rfl, ?_⟩ | refine ⟨_, _, rfl, ?_, ?_⟩)))
 ·refine AL.yes rfl rfl rfl ?_
  have h00 : 0 < l.length := by have := h0; simp at this; omega
  have hget0 := fst0_at h00
  have hf1 := hf0 h00
  refine AL.p (by exact mv1 rfl) rfl ?_
  refine AL.yes rfl rfl rfl ?_
  refine AL.p (by exact g_ia_view (i := 0) rfl rfl rfl rfl rfl rfl hget0) rfl ?_
  refine AL.yes rfl rfl rfl ?_
  refine AL.p (by exact g_load_ref rfl rfl rfl) rfl ?_
  refine AL.yes rfl rfl rfl ?_
  refine AL.p (by exact g_len_str (k := (fst0 l).length) rfl rfl hsz) rfl ?_
  refine AL.yes rfl rfl rfl ?_
  refine AL.p (by exact mv1 rfl) rfl ?_
  refine AL.yes rfl rfl rfl ?_
  refine AL.q (by exact h_pure en_l13Good rfl rfl (by repeat (first | exact rfl | exact DLead.same | refine ⟨_, _, rfl, ?_, ?_⟩)) hV rfl) rfl ?_
  refine AL.yes rfl rfl rfl ?_
  refine AL.p (by exact g_not rfl) rfl ?_
  refine AL.p (by exact g_pickF (r := .d _) rfl rfl) rfl ?_
  refine AL.p (by exact mv1 rfl) rfl ?_
  refine AL.caseGB rfl rfl (fun h1 => ?_) (fun h1 => ?_)
  ·refine AL.not rfl rfl rfl rfl rfl ?_
   refine AL.not rfl rfl rfl rfl rfl ?_
   refine AL.not rfl rfl rfl rfl rfl ?_
   refine AL.not rfl rfl rfl rfl rfl ?_
   refine AL.not rfl rfl rfl rfl rfl ?_
   refine AL.not rfl rfl rfl rfl rfl ?_
   refine AL.not rfl rfl rfl rfl rfl ?_
   refine AL.not rfl rfl rfl rfl rfl ?_
   refine AL.p (by exact g_pickT (r := .d _) rfl rfl) rfl ?_
   refine AL.nil (th_n ?_)
   refine AC.condT rfl ?_
   refine AC.seq (AC.region ?_)
   refine AL.p (by exact as1 rfl) rfl ?_
   refine AL.p (by exact as1 rfl) rfl ?_
   refine AL.nil (th_n (AC.ret (th_r (bq_r ?_))))
   (have e := hR1 (.inr (.inl ((Bool.not_eq_true' _).mp h1))); exact ret0 rfl (by rw [e]; repeat (first | exact DLead.same | exact DLead.nil | exact rfl | refine ⟨_, rfl, ?_⟩ | refine ⟨_, _, rfl, ?_, ?_⟩)))
  ·refine AL.yes rfl rfl rfl ?_
   refine AL.p (by exact mv1 rfl) rfl ?_
   refine AL.yes rfl rfl rfl ?_
   refine AL.p (by exact mv1 rfl) rfl ?_
   refine AL.yes rfl rfl rfl ?_
   refine AL.p (by exact g_ia_view (i := 0) rfl rfl rfl rfl rfl rfl hget0) rfl ?_
   refine AL.yes rfl rfl rfl ?_
   refine AL.p (by exact g_load_ref rfl rfl rfl) rfl ?_
   refine AL.yes rfl rfl rfl ?_
   refine AL.p (by exact g_len_str (k := (fst0 l).length) rfl rfl hsz) rfl ?_
   refine AL.yes rfl rfl rfl ?_
   refine AL.p (by exact g_arith rfl rfl rfl (by exact wrap_i64 (by omega))) rfl ?_
   refine AL.yes rfl rfl rfl ?_
   refine AL.q (by exact h_pure en_l1In rfl rfl (by repeat (first | exact rfl | exact DLead.same | refine ⟨_, _, rfl, ?_, ?_⟩)) hW rfl) rfl ?_
   refine AL.yes rfl rfl rfl ?_
   refine AL.p (by exact g_not rfl) rfl ?_
   refine AL.p (by exact g_pickF (r := .d _) rfl rfl) rfl ?_
   refine AL.nil (th_n ?_)
   refine AC.condB rfl (fun h2 => ?_) (fun h2 => ?_)
   ·refine AC.seq (AC.region ?_)
    refine AL.p (by exact as1 rfl) rfl ?_
    refine AL.p (by exact as1 rfl) rfl ?_
    refine AL.nil (th_n (AC.ret (th_r (bq_r ?_))))
    (have e := hR1 (.inr (.inr (notIn h2))); exact ret0 rfl (by rw [e]; repeat (first | exact DLead.same | exact DLead.nil | exact rfl | refine ⟨_, rfl, ?_⟩ | refine ⟨_, _, rfl, ?_, ?_⟩)))
   ·refine AC.skip (th_n (AC.seq ?_))
    have q1 : bV = true := by simpa using h1
    have q2 : 0 ≤ sig ∧ sig ≤ (fst0 l).length - 1 := by have := (Bool.not_eq_false' _).mp h2; simpa using this
    obtain ⟨m, hm, hm1, hm2, hml⟩ := hin q1
    obtain ⟨s, rfl⟩ : ∃ s : Nat, sig = s := ⟨sig.toNat, by omega⟩
    have hsm : s < m := by omega
    have e := hR2 h00 q1 q2
    clear hR1 hR2 hV hW hin
    rw [Int.toNat_natCast] at e
    refine AC.region ?_
    refine AL.p (by exact as1 rfl) rfl ?_
    refine AL.nil (th_n (AC.seq (AC.seq (AC.region ?_))))
    refine AL.p (by exact mv1 rfl) rfl ?_
    refine AL.p (by exact g_len_view rfl rfl (by exact List.length_map _)) rfl ?_
    refine AL.p (by exact mv1 rfl) rfl ?_
    refine AL.nil (th_n (AC.block ?_))
    refine AC.loop (ι := Nat) (fun k => ⟨56, 300, [(0, .d (vSs l)), (1, aI s), (2, aT up), (8, .own 100 (cofL l s up k).length), (33, .d (vSs l)), (34, aI l.length), (35, aI k)], [(100, some (.arr 9 1 (strsL (cofL l s up k))))]⟩) (fun k => k ≤ l.length) (fun k => l.length - k) (0) ?_ (Nat.zero_le _) ?_
    ·exact (Weak.nilOwn (i := 8) (e := 9) (sz := 1) rfl (by decide)).trans (Weak.ren _ [(100, _)] hC rfl (by repeat (first | exact True.intro | refine And.intro ?_ ?_ | exact DLead.same | exact rfl | refine ⟨_, rfl, ?_⟩)) (by repeat (first | exact True.intro | refine And.intro ?_ ?_ | exact rfl | refine ⟨_, _, rfl, rfl, ?_⟩)) rfl rfl rfl)
    ·intro k hk
     have hfl := cofL_len l s up k
     refine AC.seq (AC.region ?_)
     refine AL.p (by exact g_cmp rfl rfl rfl) rfl ?_
     refine AL.nil (th_n (AC.seq ?_))
     refine AC.condD rfl (fun h3 => ?_) (fun h3 => ?_)
     ·refine AC.skip (th_n (AC.seq (AC.block (AC.seq ?_))))
      have hk1 : k < l.length := by omega
      have hget := strs_at hk1
      have hcl := hml _ (List.getElem_mem hk1)
      have hfy := fun h => (cofL_yes (l := l) (s := s) (up := up) hk1 h)
      have hfn := fun h => (cofL_no (l := l) (s := s) (up := up) hk1 h)
      obtain ⟨c, hc⟩ : ∃ c, c = l[k] := ⟨_, rfl⟩
      rw [← hc] at hget hcl hfy hfn
      have hgm : (bstr c).data.toList[s]? = some (c.getD s 0) := bstr_getD (by omega)
      have hex : (bstr c).extract s (s + 1) = bstr [c.getD s 0] := one_cut (by omega)
      have hx1 : (bstr c).extract 0 s = bstr (c.take s) := by rw [bstr_cut c (Nat.zero_le _) (by omega)]; simp
      have hx2 : (bstr c).extract (s + 1) (bstr c).size = bstr (c.drop (s + 1)) := by rw [bstr_size, bstr_cut c (by omega) (Nat.le_refl _), List.take_length]
      have hset : c.set s 45 = c.take s ++ [45] ++ c.drop (s + 1) := by rw [List.set_eq_take_append_cons_drop, if_pos (by omega)]; simp
      have hS := l5Set_spec c s 45 (by omega) (by omega)
      obtain ⟨X, hX⟩ : ∃ X, X = c.getD s 0 := ⟨_, rfl⟩
      refine AC.region ?_
      refine AL.p (by exact g_ia_view rfl rfl rfl rfl rfl (by rfl) (by assumption)) rfl ?_
      refine AL.p (by exact g_load_ref rfl rfl rfl) rfl ?_
      refine AL.p (by exact as1 rfl) rfl ?_
      refine AL.nil (th_n (AC.seq ?_))
      refine AC.drawn' mixed_ok [[], [], [], [2], [0,1,2,3], [], [5], [5,6], [0,1,2,3,4,5,6,7]] (by decide) ?_
      refine DF.op 0 [] 9 rfl rfl rfl (.free rfl (NOp.of (by exact mv1 rfl))) rfl ?_
      refine DF.op 1 [] 9 rfl rfl rfl (.free rfl (NOp.of (by exact mv1 rfl))) rfl ?_
      refine DF.op 2 [] 9 rfl rfl rfl (.free rfl (NOp.of (by exact mv1 rfl))) rfl ?_
      refine DF.op 3 [2] 9 rfl rfl rfl (.free rfl (NOp.of (by exact g_arith rfl rfl rfl (by exact wrap_i64 (by omega))))) rfl ?_
      refine DF.op 4 [0,1,2,3] 9 rfl rfl rfl (.free rfl (NOp.of (by exact g_slice_str (l := s) (h := s + 1) rfl rfl (.some rfl rfl) (.some rfl rfl) (by omega) (by rw [bstr_size]; omega) hex))) rfl ?_
      refine DF.op 5 [] 9 rfl rfl rfl (.free rfl (NOp.of (by exact mv1 rfl))) rfl ?_
      refine DF.op 6 [5] 9 rfl rfl rfl (.free rfl (NOp.of (by exact g_not rfl))) rfl ?_
      refine DF.op 7 [5,6] 9 rfl rfl rfl (.free rfl (by exact h_pure en_l5Bit rfl rfl (by repeat (first | exact rfl | exact DLead.same | refine ⟨_, _, rfl, ?_, ?_⟩)) (l5Bit_spec (!up)) rfl)) rfl ?_
      refine DF.op 8 [0,1,2,3,4,5,6,7] 9 rfl rfl rfl (.free rfl (NOp.of (by exact g_scmp rfl rfl rfl))) rfl ?_
      refine DF.fin (ps := [(0,1),(0,2),(0,3),(0,5),(0,6),(0,7),(1,0),(1,2),(1,3),(1,5),(1,6),(1,7),(2,0),(2,1),(2,5),(2,6),(2,7),(3,0),(3,1),(3,5),(3,6),(3,7),(4,5),(4,6),(4,7),(5,0),(5,1),(5,2),(5,3),(5,4),(6,0),(6,1),(6,2),(6,3),(6,4),(7,0),(7,1),(7,2),(7,3),(7,4)]) 9 rfl (by decide +kernel) (by decide +kernel) (by rfl) ?_
      refine th_n ?_
      refine AC.condND rfl (fun h4 => ?_) (fun h4 => ?_)
      ·refine AC.region ?_
       refine AL.p (by exact mv2 rfl) rfl ?_
       refine AL.p (by exact mv1 rfl) rfl ?_
       refine AL.p (by exact mv1 rfl) rfl ?_
       refine AL.q (by exact h_pure en_l5Set rfl rfl (by repeat (first | exact rfl | exact DLead.same | refine ⟨_, _, rfl, ?_, ?_⟩)) hS rfl) rfl ?_
       refine AL.q (by exact h_litF rfl rfl rfl rfl rfl rfl rfl rfl) rfl ?_
       refine AL.q (by exact h_appendSt (cofL l s up k) [c.set s 45] (.own rfl rfl (strsL_len _).symm) (.view rfl) (by rw [List.length_append]; simp only [List.length_cons, List.length_nil]; omega) (by simp)) rfl ?_
       refine AL.p (by exact as2 rfl) rfl ?_
       refine AL.nil (ib_n (th_n (AC.region ?_)))
       refine AL.p (by exact g_arith rfl rfl rfl (by exact wrap_i64 (by omega))) rfl ?_
       refine AL.p (by exact mv1 rfl) rfl ?_
       refine AL.nil (th_n ?_)
       (have e2 := hfy (by simpa [u8_iff, bstr_iff] using h4); exact ⟨k + 1, by omega, by omega, Weak.ren _ [(100, _)] hC rfl (by rw [e2]; repeat (first | exact True.intro | refine And.intro ?_ ?_ | exact DLead.same | exact rfl | refine ⟨_, rfl, ?_⟩)) (by rw [e2]; repeat (first | exact True.intro | refine And.intro ?_ ?_ | exact rfl | refine ⟨_, _, rfl, rfl, ?_⟩)) rfl rfl rfl⟩)
      ·refine AC.skip (ib_n (th_n (AC.region ?_)))
       refine AL.p (by exact g_arith rfl rfl rfl (by exact wrap_i64 (by omega))) rfl ?_
       refine AL.p (by exact mv1 rfl) rfl ?_
       refine AL.nil (th_n ?_)
       (have e2 := hfn (by simpa [u8_iff, bstr_iff] using h4); exact ⟨k + 1, by omega, by omega, Weak.ren _ [(100, _)] hC rfl (by rw [e2]; repeat (first | exact True.intro | refine And.intro ?_ ?_ | exact DLead.same | exact rfl | refine ⟨_, rfl, ?_⟩)) (by rw [e2]; repeat (first | exact True.intro | refine And.intro ?_ ?_ | exact rfl | refine ⟨_, _, rfl, rfl, ?_⟩)) rfl rfl rfl⟩)
     ·refine AC.exit (th_e (th_e (ib_y (th_n (AC.seq ?_)))))
      have hkk : k = l.length := by omega
      subst hkk
      refine AC.weak (Weak.freeze (i := 8) rfl rfl (ownl _ _) (ownt _ _)) ?_
      refine AC.region ?_
      refine AL.p (by exact mv1 rfl) rfl ?_
      refine AL.p (by exact as1 rfl) rfl ?_
      refine AL.p (by exact as1 rfl) rfl ?_
      refine AL.nil (th_n (AC.ret (bq_r ?_)))
      exact ret0 rfl (by rw [e]; repeat (first | exact DLead.same | exact rfl | refine ⟨_, rfl, ?_⟩ | refine ⟨_, _, rfl, ?_, ?_⟩))
theorem en_sCofac : Enters Tryz.prog 18 := enters_of Tryz.func18 rfl rfl
set_option maxHeartbeats 1000000 in
theorem iCovHas_spec (l : List (List UInt8)) (x : List UInt8) (hl : l.length ≤ 1000000) (hx : x.length ≤ 2000000) (hb : ∀ c, c ∈ l → c.length ≤ 2000000) : ASpec Tryz.prog 15 [.d (vSs l), aS (bstr x)] [] (Pure1 (.tup [aT (covR l x).1, aT (covR l x).2])) := by
 have hsz := bstr_size x
 have hV := iCov_spec x.length l hl hb
 have hI := isCode_spec x x.length hx
 have hR1 := covR_no (l := l) (x := x)
 have hR2 := fun a b => covR_yes (l := l) (x := x) a b
 have hcb := fun h => cvB_code (l := l) (x := x) h
 have hin := cvB_n (n := x.length) (l := l)
 have hK := coversI_spec l x hl hx
 obtain ⟨G, hG⟩ : ∃ G, G = covR l x := ⟨_, rfl⟩
 rw [← hG] at hR1 hR2 ⊢
 obtain ⟨bV, hbV⟩ : ∃ b, b = cvB x.length l := ⟨_, rfl⟩
 rw [← hbV] at hV hR1 hR2 hin hcb
 obtain ⟨bI, hbI⟩ : ∃ b, b = codeB x x.length := ⟨_, rfl⟩
 rw [← hbI] at hI hcb
 clear hG hbV hbI
 refine ASpec.of Tryz.func15 rfl rfl fun C hC => ?_
 refine AC.seq (AC.region ?_)
 refine AL.p (by exact as1 rfl) rfl ?_
 refine AL.p (by exact as1 rfl) rfl ?_
 refine AL.nil (th_n (AC.seq (AC.seq (AC.region ?_))))
 refine AL.p (by exact mv1 rfl) rfl ?_
 refine AL.p (by exact g_len_str (k := x.length) rfl rfl hsz) rfl ?_
 refine AL.p (by exact mv1 rfl) rfl ?_
 refine AL.q (by exact h_pure en_iCov rfl rfl (by repeat (first | exact rfl | exact DLead.same | refine ⟨_, _, rfl, ?_, ?_⟩)) hV rfl) rfl ?_
 refine AL.p (by exact g_not rfl) rfl ?_
 refine AL.p (by exact mv1 rfl) rfl ?_
 refine AL.caseGB rfl rfl (fun h0 => ?_) (fun h0 => ?_)
 ·refine AL.not rfl rfl rfl rfl rfl ?_
  refine AL.not rfl rfl rfl rfl rfl ?_
  refine AL.not rfl rfl rfl rfl rfl ?_
  refine AL.not rfl rfl rfl rfl rfl ?_
  refine AL.not rfl rfl rfl rfl rfl ?_
  refine AL.p (by exact g_pickT (r := .d _) rfl rfl) rfl ?_
  refine AL.nil (th_n ?_)
  refine AC.condT rfl ?_
  refine AC.seq (AC.region ?_)
  refine AL.p (by exact as1 rfl) rfl ?_
  refine AL.p (by exact as1 rfl) rfl ?_
  refine AL.nil (th_n (AC.ret (th_r (bq_r ?_))))
  (have e := hR1 (.inl ((Bool.not_eq_true' _).mp h0)); exact ret2 rfl (by rw [e]) (by rw [e]))
 ·refine AL.yes rfl rfl rfl ?_
  refine AL.p (by exact mv1 rfl) rfl ?_
  refine AL.yes rfl rfl rfl ?_
  refine AL.p (by exact mv1 rfl) rfl ?_
  refine AL.yes rfl rfl rfl ?_
  refine AL.p (by exact g_len_str (k := x.length) rfl rfl hsz) rfl ?_
  refine AL.yes rfl rfl rfl ?_
  refine AL.q (by exact h_pure en_isCode rfl rfl (by repeat (first | exact rfl | exact DLead.same | refine ⟨_, _, rfl, ?_, ?_⟩)) hI rfl) rfl ?_
  refine AL.yes rfl rfl rfl ?_
  refine AL.p (by exact g_not rfl) rfl ?_
  refine AL.p (by exact g_pickF (r := .d _) rfl rfl) rfl ?_
  refine AL.nil (th_n ?_)
  refine AC.condB rfl (fun h1 => ?_) (fun h1 => ?_)
  ·refine AC.seq (AC.region ?_)
   refine AL.p (by exact as1 rfl) rfl ?_
   refine AL.p (by exact as1 rfl) rfl ?_
   refine AL.nil (th_n (AC.ret (th_r (bq_r ?_))))
   (have e := hR1 (.inr ((hcb ((Bool.not_eq_false' _).mp h0)).symm.trans ((Bool.not_eq_true' _).mp h1))); exact ret2 rfl (by rw [e]) (by rw [e]))
  ·refine AC.skip (th_n (AC.seq ?_))
   have q1 : bV = true := by simpa using h0
   have q2 : bI = true := by simpa using h1
   obtain ⟨m, hm, hm1, hm2, hml⟩ := hin q1
   have hKK := hK (fun c hc => by have := hml c hc; omega)
   have e := hR2 q1 ((hcb q1).symm.trans q2)
   refine AC.region ?_
   refine AL.p (by exact mv1 rfl) rfl ?_
   refine AL.p (by exact mv1 rfl) rfl ?_
   refine AL.q (by exact h_pure en_coversI rfl rfl (by repeat (first | exact rfl | exact DLead.same | refine ⟨_, _, rfl, ?_, ?_⟩)) hKK rfl) rfl ?_
   refine AL.p (by exact as1 rfl) rfl ?_
   refine AL.p (by exact as1 rfl) rfl ?_
   refine AL.nil (th_n (AC.ret (bq_r ?_)))
   exact ret2 rfl (by rw [e]) (by rw [e])
theorem en_iCovHas : Enters Tryz.prog 15 := enters_of Tryz.func15 rfl rfl
set_option maxHeartbeats 1000000 in
theorem sCovHas_spec (l : List (List UInt8)) (x : List UInt8) (hl : l.length ≤ 1000000) (hx : x.length ≤ 2000000) (hb : ∀ c, c ∈ l → c.length ≤ 2000000) : ASpec Tryz.prog 20 [.d (vSs l), aS (bstr x)] [] (Pure1 (.tup [aT (covR l x).1, aT (covR l x).2])) := by
 have hsz := bstr_size x
 have hV := l13Good_spec x.length l hl hb
 have hI := l5Code_spec x x.length hx
 have hR1 := covR_no (l := l) (x := x)
 have hR2 := fun a b => covR_yes (l := l) (x := x) a b
 have hin := cvB_n (n := x.length) (l := l)
 have hK := l13In_spec l x hl hx
 obtain ⟨G, hG⟩ : ∃ G, G = covR l x := ⟨_, rfl⟩
 rw [← hG] at hR1 hR2 ⊢
 obtain ⟨bV, hbV⟩ : ∃ b, b = cvB x.length l := ⟨_, rfl⟩
 rw [← hbV] at hV hR1 hR2 hin
 obtain ⟨bI, hbI⟩ : ∃ b, b = bitsB x x.length := ⟨_, rfl⟩
 rw [← hbI] at hI hR1 hR2
 clear hG hbV hbI
 refine ASpec.of Tryz.func20 rfl rfl fun C hC => ?_
 refine AC.seq (AC.region ?_)
 refine AL.p (by exact as1 rfl) rfl ?_
 refine AL.p (by exact as1 rfl) rfl ?_
 refine AL.nil (th_n (AC.seq (AC.seq (AC.region ?_))))
 refine AL.p (by exact mv1 rfl) rfl ?_
 refine AL.p (by exact g_len_str (k := x.length) rfl rfl hsz) rfl ?_
 refine AL.p (by exact mv1 rfl) rfl ?_
 refine AL.q (by exact h_pure en_l13Good rfl rfl (by repeat (first | exact rfl | exact DLead.same | refine ⟨_, _, rfl, ?_, ?_⟩)) hV rfl) rfl ?_
 refine AL.p (by exact g_not rfl) rfl ?_
 refine AL.p (by exact mv1 rfl) rfl ?_
 refine AL.caseGB rfl rfl (fun h0 => ?_) (fun h0 => ?_)
 ·refine AL.not rfl rfl rfl rfl rfl ?_
  refine AL.not rfl rfl rfl rfl rfl ?_
  refine AL.not rfl rfl rfl rfl rfl ?_
  refine AL.not rfl rfl rfl rfl rfl ?_
  refine AL.not rfl rfl rfl rfl rfl ?_
  refine AL.p (by exact g_pickT (r := .d _) rfl rfl) rfl ?_
  refine AL.nil (th_n ?_)
  refine AC.condT rfl ?_
  refine AC.seq (AC.region ?_)
  refine AL.p (by exact as1 rfl) rfl ?_
  refine AL.p (by exact as1 rfl) rfl ?_
  refine AL.nil (th_n (AC.ret (th_r (bq_r ?_))))
  (have e := hR1 (.inl ((Bool.not_eq_true' _).mp h0)); exact ret2 rfl (by rw [e]) (by rw [e]))
 ·refine AL.yes rfl rfl rfl ?_
  refine AL.p (by exact mv1 rfl) rfl ?_
  refine AL.yes rfl rfl rfl ?_
  refine AL.p (by exact mv1 rfl) rfl ?_
  refine AL.yes rfl rfl rfl ?_
  refine AL.p (by exact g_len_str (k := x.length) rfl rfl hsz) rfl ?_
  refine AL.yes rfl rfl rfl ?_
  refine AL.q (by exact h_pure en_l5Code rfl rfl (by repeat (first | exact rfl | exact DLead.same | refine ⟨_, _, rfl, ?_, ?_⟩)) hI rfl) rfl ?_
  refine AL.yes rfl rfl rfl ?_
  refine AL.p (by exact g_not rfl) rfl ?_
  refine AL.p (by exact g_pickF (r := .d _) rfl rfl) rfl ?_
  refine AL.nil (th_n ?_)
  refine AC.condB rfl (fun h1 => ?_) (fun h1 => ?_)
  ·refine AC.seq (AC.region ?_)
   refine AL.p (by exact as1 rfl) rfl ?_
   refine AL.p (by exact as1 rfl) rfl ?_
   refine AL.nil (th_n (AC.ret (th_r (bq_r ?_))))
   (have e := hR1 (.inr ((Bool.not_eq_true' _).mp h1)); exact ret2 rfl (by rw [e]) (by rw [e]))
  ·refine AC.skip (th_n (AC.seq ?_))
   have q1 : bV = true := by simpa using h0
   have q2 : bI = true := by simpa using h1
   obtain ⟨m, hm, hm1, hm2, hml⟩ := hin q1
   have hKK := hK (fun c hc => by have := hml c hc; omega)
   have e := hR2 q1 q2
   refine AC.region ?_
   refine AL.p (by exact mv1 rfl) rfl ?_
   refine AL.p (by exact mv1 rfl) rfl ?_
   refine AL.q (by exact h_pure en_l13In rfl rfl (by repeat (first | exact rfl | exact DLead.same | refine ⟨_, _, rfl, ?_, ?_⟩)) hKK rfl) rfl ?_
   refine AL.p (by exact as1 rfl) rfl ?_
   refine AL.p (by exact as1 rfl) rfl ?_
   refine AL.nil (th_n (AC.ret (bq_r ?_)))
   exact ret2 rfl (by rw [e]) (by rw [e])
theorem en_sCovHas : Enters Tryz.prog 20 := enters_of Tryz.func20 rfl rfl
theorem eqT_no {a b : List (List UInt8)} {k : Nat} (hk : k < a.length) (hk2 : k < b.length) (h : ¬ a[k] = b[k]) : decide (a = b) = false := decide_eq_false fun e => h (by subst e; rfl)
theorem eqT_yes {a b : List (List UInt8)} (hl : a.length = b.length) (h : ∀ j (hj : j < a.length) (hj2 : j < b.length), a[j] = b[j]) : decide (a = b) = true := decide_eq_true (List.ext_getElem hl h)
def eqvR (n : Int) (a b : List (List UInt8)) : Bool × Bool := if cvB n a = true ∧ cvB n b = true then (decide (mintL n.toNat a = mintL n.toNat b), true) else (false, false)
theorem eqvR_no {n : Int} {a b : List (List UInt8)} (h : cvB n a = false ∨ cvB n b = false) : eqvR n a b = (false, false) := by
 refine if_neg ?_
 rintro ⟨h1, h2⟩
 rcases h with h | h
 ·rw [h] at h1; cases h1
 ·rw [h] at h2; cases h2
theorem eqvR_yes {n : Int} {a b : List (List UInt8)} (h1 : cvB n a = true) (h2 : cvB n b = true) : eqvR n a b = (decide (mintL n.toNat a = mintL n.toNat b), true) := if_pos ⟨h1, h2⟩
set_option maxHeartbeats 2000000 in
theorem eqStrs_spec (a b : List (List UInt8)) (ha : a.length ≤ 1000000) (hb : b.length ≤ 1000000) : ASpec Tryz.prog 38 [.d (vSs a), .d (vSs b)] [] (Pure1 (aT (decide (a = b)))) := by
 have hL : ¬ a.length = b.length → decide (a = b) = false := fun h => decide_eq_false fun e => h (by rw [e])
 have hNo := fun k => eqT_no (a := a) (b := b) (k := k)
 have hYes := eqT_yes (a := a) (b := b)
 obtain ⟨G, hG⟩ : ∃ G, G = decide (a = b) := ⟨_, rfl⟩
 rw [← hG] at hL hNo hYes ⊢
 clear hG
 refine ASpec.of Tryz.func38 rfl rfl fun C hC => ?_
 refine AC.seq (AC.region ?_)
 refine AL.p (by exact as1 rfl) rfl ?_
 refine AL.nil (th_n (AC.seq (AC.seq (AC.region ?_))))
 refine AL.p (by exact mv1 rfl) rfl ?_
 refine AL.p (by exact g_len_view (k := a.length) rfl rfl (strsL_len _)) rfl ?_
 refine AL.p (by exact mv1 rfl) rfl ?_
 refine AL.p (by exact g_len_view (k := b.length) rfl rfl (strsL_len _)) rfl ?_
 refine AL.p (by exact g_cmp rfl rfl rfl) rfl ?_
 refine AL.nil (th_n ?_)
 refine AC.condND rfl (fun h0 => ?_) (fun h0 => ?_)
 ·refine AC.seq (AC.region ?_)
  refine AL.p (by exact as1 rfl) rfl ?_
  refine AL.nil (th_n (AC.ret (th_r (bq_r ?_))))
  have e := hL (by omega)
  exact ret1 rfl (by rw [e])
 ·refine AC.skip (th_n (AC.seq (AC.seq ?_)))
  have hl : a.length = b.length := by omega
  refine AC.region ?_
  refine AL.p (by exact mv1 rfl) rfl ?_
  refine AL.p (by exact g_len_view (k := a.length) rfl rfl (strsL_len _)) rfl ?_
  refine AL.p (by exact mv1 rfl) rfl ?_
  refine AL.nil (th_n (AC.block ?_))
  refine AC.loop (ι := Nat) (fun k => ⟨26, 100, [(0, .d (vSs a)), (1, .d (vSs b)), (12, aI a.length), (13, aI k)], []⟩) (fun k => k ≤ a.length ∧ ∀ j (hj : j < a.length) (hj2 : j < b.length), j < k → a[j] = b[j]) (fun k => a.length - k) (0) ?_ (⟨Nat.zero_le _, fun j _ _ hj => by omega⟩) ?_
  ·refine Weak.ren _ [] hC rfl ?_ ?_ rfl rfl rfl <;> repeat (first | exact True.intro | refine And.intro ?_ ?_ | exact DLead.same)
  ·intro k ⟨hk, hall⟩
   refine AC.seq (AC.region ?_)
   refine AL.p (by exact g_cmp rfl rfl rfl) rfl ?_
   refine AL.nil (th_n (AC.seq ?_))
   refine AC.condD rfl (fun h1 => ?_) (fun h1 => ?_)
   ·refine AC.skip (th_n (AC.seq (AC.block (AC.seq ?_))))
    have hk1 : k < a.length := by omega
    have hk2 : k < b.length := by omega
    have hget := strs_at hk1
    have hget2 := strs_at hk2
    have hNk := hNo k hk1 hk2
    have hall2 : a[k] = b[k] → ∀ j (hj : j < a.length) (hj2 : j < b.length), j < k + 1 → a[j] = b[j] := fun h j hj hj2 hj3 => by rcases Nat.lt_succ_iff_lt_or_eq.1 hj3 with q | rfl; exact hall j hj hj2 q; exact h
    obtain ⟨x, hx⟩ : ∃ x, x = a[k] := ⟨_, rfl⟩
    obtain ⟨y, hy⟩ : ∃ y, y = b[k] := ⟨_, rfl⟩
    rw [← hx, ← hy] at hNk hall2
    rw [← hx] at hget
    rw [← hy] at hget2
    refine AC.region ?_
    refine AL.p (by exact mv1 rfl) rfl ?_
    refine AL.p (by exact as1 rfl) rfl ?_
    refine AL.nil (th_n (AC.seq ?_))
    refine AC.drawn' mixed_ok [[], [], [0,1], [0,1,2], [], [], [4,5], [4,5,6], [0,1,2,3,4,5,6,7]] (by decide) ?_
    refine DF.op 0 [] 9 rfl rfl rfl (.free rfl (NOp.of (by exact mv1 rfl))) rfl ?_
    refine DF.op 1 [] 9 rfl rfl rfl (.free rfl (NOp.of (by exact mv1 rfl))) rfl ?_
    refine DF.op 2 [0,1] 9 rfl rfl rfl (.free rfl (NOp.of (by exact g_ia_view (i := k) rfl rfl rfl rfl rfl rfl hget))) rfl ?_
    refine DF.op 3 [0,1,2] 9 rfl rfl rfl (.free rfl (NOp.of (by exact g_load_ref rfl rfl rfl))) rfl ?_
    refine DF.op 4 [] 9 rfl rfl rfl (.free rfl (NOp.of (by exact mv1 rfl))) rfl ?_
    refine DF.op 5 [] 9 rfl rfl rfl (.free rfl (NOp.of (by exact mv1 rfl))) rfl ?_
    refine DF.op 6 [4,5] 9 rfl rfl rfl (.free rfl (NOp.of (by exact g_ia_view (i := k) rfl rfl rfl rfl rfl rfl hget2))) rfl ?_
    refine DF.op 7 [4,5,6] 9 rfl rfl rfl (.free rfl (NOp.of (by exact g_load_ref rfl rfl rfl))) rfl ?_
    refine DF.op 8 [0,1,2,3,4,5,6,7] 9 rfl rfl rfl (.free rfl (NOp.of (by exact g_scmp rfl rfl rfl))) rfl ?_
    refine DF.fin (ps := [(0,1),(0,4),(0,5),(0,6),(0,7),(1,0),(1,4),(1,5),(1,6),(1,7),(2,4),(2,5),(2,6),(2,7),(3,4),(3,5),(3,6),(3,7),(4,0),(4,1),(4,2),(4,3),(4,5),(5,0),(5,1),(5,2),(5,3),(5,4),(6,0),(6,1),(6,2),(6,3),(7,0),(7,1),(7,2),(7,3)]) 9 rfl (by decide +kernel) (by decide +kernel) (by rfl) ?_
    refine th_n ?_
    refine AC.condND rfl (fun h2 => ?_) (fun h2 => ?_)
    ·refine AC.seq (AC.region ?_)
     refine AL.p (by exact as1 rfl) rfl ?_
     refine AL.nil (th_n (AC.ret (ib_r (th_r (th_r (ib_r (th_r (bq_r ?_))))))))
     have e := hNk (fun q => h2 (by rw [q]))
     exact ret1 rfl (by rw [e])
    ·refine AC.skip (ib_n (th_n (AC.region ?_)))
     refine AL.p (by exact g_arith rfl rfl rfl (by exact wrap_i64 (by omega))) rfl ?_
     refine AL.p (by exact mv1 rfl) rfl ?_
     refine AL.nil (th_n ?_)
     exact ⟨k + 1, ⟨by omega, hall2 (bstr_inj (by simpa using h2))⟩, by omega, Weak.ren _ [] hC rfl (by repeat (first | exact True.intro | refine And.intro ?_ ?_ | exact DLead.same)) (by repeat (exact True.intro)) rfl rfl rfl⟩
   ·refine AC.exit (th_e (th_e (ib_y (th_n (AC.seq (AC.region ?_))))))
    refine AL.p (by exact as1 rfl) rfl ?_
    refine AL.nil (th_n (AC.ret (bq_r ?_)))
    have e := hYes hl (fun j hj hj2 => hall j hj hj2 (by omega))
    exact ret1 rfl (by rw [e])
theorem en_eqStrs : Enters Tryz.prog 38 := enters_of Tryz.func38 rfl rfl
set_option maxHeartbeats 2000000 in
theorem l1SameS_spec (a b : List (List UInt8)) (ha : a.length ≤ 1000000) (hb : b.length ≤ 1000000) : ASpec Tryz.prog 48 [.d (vSs a), .d (vSs b)] [] (Pure1 (aT (decide (a = b)))) := by
 have hL : ¬ a.length = b.length → decide (a = b) = false := fun h => decide_eq_false fun e => h (by rw [e])
 have hNo := fun k => eqT_no (a := a) (b := b) (k := k)
 have hYes := eqT_yes (a := a) (b := b)
 obtain ⟨G, hG⟩ : ∃ G, G = decide (a = b) := ⟨_, rfl⟩
 rw [← hG] at hL hNo hYes ⊢
 clear hG
 refine ASpec.of Tryz.func48 rfl rfl fun C hC => ?_
 refine AC.seq (AC.region ?_)
 refine AL.p (by exact as1 rfl) rfl ?_
 refine AL.nil (th_n (AC.seq (AC.seq (AC.region ?_))))
 refine AL.p (by exact mv1 rfl) rfl ?_
 refine AL.p (by exact g_len_view (k := a.length) rfl rfl (strsL_len _)) rfl ?_
 refine AL.p (by exact mv1 rfl) rfl ?_
 refine AL.p (by exact g_len_view (k := b.length) rfl rfl (strsL_len _)) rfl ?_
 refine AL.p (by exact g_cmp rfl rfl rfl) rfl ?_
 refine AL.nil (th_n ?_)
 refine AC.condND rfl (fun h0 => ?_) (fun h0 => ?_)
 ·refine AC.seq (AC.region ?_)
  refine AL.p (by exact as1 rfl) rfl ?_
  refine AL.nil (th_n (AC.ret (th_r (bq_r ?_))))
  have e := hL (by omega)
  exact ret1 rfl (by rw [e])
 ·refine AC.skip (th_n (AC.seq (AC.seq ?_)))
  have hl : a.length = b.length := by omega
  refine AC.region ?_
  refine AL.p (by exact mv1 rfl) rfl ?_
  refine AL.p (by exact g_len_view (k := a.length) rfl rfl (strsL_len _)) rfl ?_
  refine AL.p (by exact mv1 rfl) rfl ?_
  refine AL.nil (th_n (AC.block ?_))
  refine AC.loop (ι := Nat) (fun k => ⟨26, 100, [(0, .d (vSs a)), (1, .d (vSs b)), (12, aI a.length), (13, aI k)], []⟩) (fun k => k ≤ a.length ∧ ∀ j (hj : j < a.length) (hj2 : j < b.length), j < k → a[j] = b[j]) (fun k => a.length - k) (0) ?_ (⟨Nat.zero_le _, fun j _ _ hj => by omega⟩) ?_
  ·refine Weak.ren _ [] hC rfl ?_ ?_ rfl rfl rfl <;> repeat (first | exact True.intro | refine And.intro ?_ ?_ | exact DLead.same)
  ·intro k ⟨hk, hall⟩
   refine AC.seq (AC.region ?_)
   refine AL.p (by exact g_cmp rfl rfl rfl) rfl ?_
   refine AL.nil (th_n (AC.seq ?_))
   refine AC.condD rfl (fun h1 => ?_) (fun h1 => ?_)
   ·refine AC.skip (th_n (AC.seq (AC.block (AC.seq ?_))))
    have hk1 : k < a.length := by omega
    have hk2 : k < b.length := by omega
    have hget := strs_at hk1
    have hget2 := strs_at hk2
    have hNk := hNo k hk1 hk2
    have hall2 : a[k] = b[k] → ∀ j (hj : j < a.length) (hj2 : j < b.length), j < k + 1 → a[j] = b[j] := fun h j hj hj2 hj3 => by rcases Nat.lt_succ_iff_lt_or_eq.1 hj3 with q | rfl; exact hall j hj hj2 q; exact h
    obtain ⟨x, hx⟩ : ∃ x, x = a[k] := ⟨_, rfl⟩
    obtain ⟨y, hy⟩ : ∃ y, y = b[k] := ⟨_, rfl⟩
    rw [← hx, ← hy] at hNk hall2
    rw [← hx] at hget
    rw [← hy] at hget2
    refine AC.region ?_
    refine AL.p (by exact mv1 rfl) rfl ?_
    refine AL.p (by exact as1 rfl) rfl ?_
    refine AL.nil (th_n (AC.seq ?_))
    refine AC.drawn' mixed_ok [[], [], [0,1], [0,1,2], [], [], [4,5], [4,5,6], [0,1,2,3,4,5,6,7]] (by decide) ?_
    refine DF.op 0 [] 9 rfl rfl rfl (.free rfl (NOp.of (by exact mv1 rfl))) rfl ?_
    refine DF.op 1 [] 9 rfl rfl rfl (.free rfl (NOp.of (by exact mv1 rfl))) rfl ?_
    refine DF.op 2 [0,1] 9 rfl rfl rfl (.free rfl (NOp.of (by exact g_ia_view (i := k) rfl rfl rfl rfl rfl rfl hget))) rfl ?_
    refine DF.op 3 [0,1,2] 9 rfl rfl rfl (.free rfl (NOp.of (by exact g_load_ref rfl rfl rfl))) rfl ?_
    refine DF.op 4 [] 9 rfl rfl rfl (.free rfl (NOp.of (by exact mv1 rfl))) rfl ?_
    refine DF.op 5 [] 9 rfl rfl rfl (.free rfl (NOp.of (by exact mv1 rfl))) rfl ?_
    refine DF.op 6 [4,5] 9 rfl rfl rfl (.free rfl (NOp.of (by exact g_ia_view (i := k) rfl rfl rfl rfl rfl rfl hget2))) rfl ?_
    refine DF.op 7 [4,5,6] 9 rfl rfl rfl (.free rfl (NOp.of (by exact g_load_ref rfl rfl rfl))) rfl ?_
    refine DF.op 8 [0,1,2,3,4,5,6,7] 9 rfl rfl rfl (.free rfl (NOp.of (by exact g_scmp rfl rfl rfl))) rfl ?_
    refine DF.fin (ps := [(0,1),(0,4),(0,5),(0,6),(0,7),(1,0),(1,4),(1,5),(1,6),(1,7),(2,4),(2,5),(2,6),(2,7),(3,4),(3,5),(3,6),(3,7),(4,0),(4,1),(4,2),(4,3),(4,5),(5,0),(5,1),(5,2),(5,3),(5,4),(6,0),(6,1),(6,2),(6,3),(7,0),(7,1),(7,2),(7,3)]) 9 rfl (by decide +kernel) (by decide +kernel) (by rfl) ?_
    refine th_n ?_
    refine AC.condND rfl (fun h2 => ?_) (fun h2 => ?_)
    ·refine AC.seq (AC.region ?_)
     refine AL.p (by exact as1 rfl) rfl ?_
     refine AL.nil (th_n (AC.ret (ib_r (th_r (th_r (ib_r (th_r (bq_r ?_))))))))
     have e := hNk (fun q => h2 (by rw [q]))
     exact ret1 rfl (by rw [e])
    ·refine AC.skip (ib_n (th_n (AC.region ?_)))
     refine AL.p (by exact g_arith rfl rfl rfl (by exact wrap_i64 (by omega))) rfl ?_
     refine AL.p (by exact mv1 rfl) rfl ?_
     refine AL.nil (th_n ?_)
     exact ⟨k + 1, ⟨by omega, hall2 (bstr_inj (by simpa using h2))⟩, by omega, Weak.ren _ [] hC rfl (by repeat (first | exact True.intro | refine And.intro ?_ ?_ | exact DLead.same)) (by repeat (exact True.intro)) rfl rfl rfl⟩
   ·refine AC.exit (th_e (th_e (ib_y (th_n (AC.seq (AC.region ?_))))))
    refine AL.p (by exact as1 rfl) rfl ?_
    refine AL.nil (th_n (AC.ret (bq_r ?_)))
    have e := hYes hl (fun j hj hj2 => hall j hj hj2 (by omega))
    exact ret1 rfl (by rw [e])
theorem en_l1SameS : Enters Tryz.prog 48 := enters_of Tryz.func48 rfl rfl
set_option maxHeartbeats 2000000 in
theorem iEquiv_spec (n : Int) (a b : List (List UInt8)) (hla : a.length ≤ 1000000) (hba : ∀ c, c ∈ a → c.length ≤ 2000000) (hlb : b.length ≤ 1000000) (hbb : ∀ c, c ∈ b → c.length ≤ 2000000) : ASpec Tryz.prog 16 [aI n, .d (vSs a), .d (vSs b)] [] (Pure1 (.tup [aT (eqvR n a b).1, aT (eqvR n a b).2])) := by
 have hV1 := iCov_spec n a hla hba
 have hV2 := iCov_spec n b hlb hbb
 have hR1 := eqvR_no (n := n) (a := a) (b := b)
 have hR2 := fun p q => eqvR_yes (n := n) (a := a) (b := b) p q
 have hin1 := cvB_n (n := n) (l := a)
 have hin2 := cvB_n (n := n) (l := b)
 obtain ⟨G, hG⟩ : ∃ G, G = eqvR n a b := ⟨_, rfl⟩
 rw [← hG] at hR1 hR2 ⊢
 obtain ⟨b1, hb1⟩ : ∃ b, b = cvB n a := ⟨_, rfl⟩
 rw [← hb1] at hV1 hR1 hR2 hin1
 obtain ⟨b2, hb2⟩ : ∃ b', b' = cvB n b := ⟨_, rfl⟩
 rw [← hb2] at hV2 hR1 hR2 hin2
 clear hG hb1 hb2
 refine ASpec.of Tryz.func16 rfl rfl fun C hC => ?_
 refine AC.seq (AC.region ?_)
 refine AL.p (by exact as1 rfl) rfl ?_
 refine AL.p (by exact as1 rfl) rfl ?_
 refine AL.nil (th_n (AC.seq (AC.seq (AC.region ?_))))
 refine AL.p (by exact mv1 rfl) rfl ?_
 refine AL.p (by exact mv1 rfl) rfl ?_
 refine AL.q (by exact h_pure en_iCov rfl rfl (by repeat (first | exact rfl | exact DLead.same | refine ⟨_, _, rfl, ?_, ?_⟩)) hV1 rfl) rfl ?_
 refine AL.p (by exact g_not rfl) rfl ?_
 refine AL.p (by exact mv1 rfl) rfl ?_
 refine AL.caseGB rfl rfl (fun h0 => ?_) (fun h0 => ?_)
 ·refine AL.not rfl rfl rfl rfl rfl ?_
  refine AL.not rfl rfl rfl rfl rfl ?_
  refine AL.not rfl rfl rfl rfl rfl ?_
  refine AL.not rfl rfl rfl rfl rfl ?_
  refine AL.p (by exact g_pickT (r := .d _) rfl rfl) rfl ?_
  refine AL.nil (th_n ?_)
  refine AC.condT rfl ?_
  refine AC.seq (AC.region ?_)
  refine AL.p (by exact as1 rfl) rfl ?_
  refine AL.p (by exact as1 rfl) rfl ?_
  refine AL.nil (th_n (AC.ret (th_r (bq_r ?_))))
  (have e := hR1 (.inl ((Bool.not_eq_true' _).mp h0)); exact ret2 rfl (by rw [e]) (by rw [e]))
 ·refine AL.yes rfl rfl rfl ?_
  refine AL.p (by exact mv1 rfl) rfl ?_
  refine AL.yes rfl rfl rfl ?_
  refine AL.p (by exact mv1 rfl) rfl ?_
  refine AL.yes rfl rfl rfl ?_
  refine AL.q (by exact h_pure en_iCov rfl rfl (by repeat (first | exact rfl | exact DLead.same | refine ⟨_, _, rfl, ?_, ?_⟩)) hV2 rfl) rfl ?_
  refine AL.yes rfl rfl rfl ?_
  refine AL.p (by exact g_not rfl) rfl ?_
  refine AL.p (by exact g_pickF (r := .d _) rfl rfl) rfl ?_
  refine AL.nil (th_n ?_)
  refine AC.condB rfl (fun h1 => ?_) (fun h1 => ?_)
  ·refine AC.seq (AC.region ?_)
   refine AL.p (by exact as1 rfl) rfl ?_
   refine AL.p (by exact as1 rfl) rfl ?_
   refine AL.nil (th_n (AC.ret (th_r (bq_r ?_))))
   (have e := hR1 (.inr ((Bool.not_eq_true' _).mp h1)); exact ret2 rfl (by rw [e]) (by rw [e]))
  ·refine AC.skip (th_n (AC.seq ?_))
   have q1 : b1 = true := by simpa using h0
   have q2 : b2 = true := by simpa using h1
   obtain ⟨m, hm, hm1, hm2, hml1⟩ := hin1 q1
   obtain ⟨m', hm', hm1', hm2', hml2⟩ := hin2 q2
   obtain rfl : m' = m := by omega
   subst hm
   have hM1 := minterms_spec m' a hm2 hla hml1
   have hM2 := minterms_spec m' b hm2 hlb hml2
   have e := hR2 q1 q2
   rw [Int.toNat_natCast] at e
   have hl1 := mintL_len m' a
   have hl2 := mintL_len m' b
   have hp := pow_le256 (Nat.le_refl m') hm2
   have hE := eqStrs_spec (mintL m' a) (mintL m' b) (by omega) (by omega)
   obtain ⟨A, hA⟩ : ∃ A, A = mintL m' a := ⟨_, rfl⟩
   obtain ⟨B, hB⟩ : ∃ B, B = mintL m' b := ⟨_, rfl⟩
   rw [← hA] at hM1 hE e
   rw [← hB] at hM2 hE e
   refine AC.region ?_
   refine AL.p (by exact mv1 rfl) rfl ?_
   refine AL.p (by exact mv1 rfl) rfl ?_
   refine AL.q (by exact h_pure en_minterms rfl rfl (by repeat (first | exact rfl | exact DLead.same | refine ⟨_, _, rfl, ?_, ?_⟩)) hM1 rfl) rfl ?_
   refine AL.p (by exact mv1 rfl) rfl ?_
   refine AL.p (by exact mv1 rfl) rfl ?_
   refine AL.q (by exact h_pure en_minterms rfl rfl (by repeat (first | exact rfl | exact DLead.same | refine ⟨_, _, rfl, ?_, ?_⟩)) hM2 rfl) rfl ?_
   refine AL.q (by exact h_pure en_eqStrs rfl rfl (by repeat (first | exact rfl | exact DLead.same | refine ⟨_, _, rfl, ?_, ?_⟩)) hE rfl) rfl ?_
   refine AL.p (by exact as1 rfl) rfl ?_
   refine AL.p (by exact as1 rfl) rfl ?_
   refine AL.nil (th_n (AC.ret (bq_r ?_)))
   exact ret2 rfl (by rw [e]) (by rw [e])
theorem en_iEquiv : Enters Tryz.prog 16 := enters_of Tryz.func16 rfl rfl
set_option maxHeartbeats 2000000 in
theorem sEquiv_spec (n : Int) (a b : List (List UInt8)) (hla : a.length ≤ 1000000) (hba : ∀ c, c ∈ a → c.length ≤ 2000000) (hlb : b.length ≤ 1000000) (hbb : ∀ c, c ∈ b → c.length ≤ 2000000) : ASpec Tryz.prog 22 [aI n, .d (vSs a), .d (vSs b)] [] (Pure1 (.tup [aT (eqvR n a b).1, aT (eqvR n a b).2])) := by
 have hV1 := l13Good_spec n a hla hba
 have hV2 := l13Good_spec n b hlb hbb
 have hR1 := eqvR_no (n := n) (a := a) (b := b)
 have hR2 := fun p q => eqvR_yes (n := n) (a := a) (b := b) p q
 have hin1 := cvB_n (n := n) (l := a)
 have hin2 := cvB_n (n := n) (l := b)
 obtain ⟨G, hG⟩ : ∃ G, G = eqvR n a b := ⟨_, rfl⟩
 rw [← hG] at hR1 hR2 ⊢
 obtain ⟨b1, hb1⟩ : ∃ b, b = cvB n a := ⟨_, rfl⟩
 rw [← hb1] at hV1 hR1 hR2 hin1
 obtain ⟨b2, hb2⟩ : ∃ b', b' = cvB n b := ⟨_, rfl⟩
 rw [← hb2] at hV2 hR1 hR2 hin2
 clear hG hb1 hb2
 refine ASpec.of Tryz.func22 rfl rfl fun C hC => ?_
 refine AC.seq (AC.region ?_)
 refine AL.p (by exact as1 rfl) rfl ?_
 refine AL.p (by exact as1 rfl) rfl ?_
 refine AL.nil (th_n (AC.seq (AC.seq (AC.region ?_))))
 refine AL.p (by exact mv1 rfl) rfl ?_
 refine AL.p (by exact mv1 rfl) rfl ?_
 refine AL.q (by exact h_pure en_l13Good rfl rfl (by repeat (first | exact rfl | exact DLead.same | refine ⟨_, _, rfl, ?_, ?_⟩)) hV1 rfl) rfl ?_
 refine AL.p (by exact g_not rfl) rfl ?_
 refine AL.p (by exact mv1 rfl) rfl ?_
 refine AL.caseGB rfl rfl (fun h0 => ?_) (fun h0 => ?_)
 ·refine AL.not rfl rfl rfl rfl rfl ?_
  refine AL.not rfl rfl rfl rfl rfl ?_
  refine AL.not rfl rfl rfl rfl rfl ?_
  refine AL.not rfl rfl rfl rfl rfl ?_
  refine AL.p (by exact g_pickT (r := .d _) rfl rfl) rfl ?_
  refine AL.nil (th_n ?_)
  refine AC.condT rfl ?_
  refine AC.seq (AC.region ?_)
  refine AL.p (by exact as1 rfl) rfl ?_
  refine AL.p (by exact as1 rfl) rfl ?_
  refine AL.nil (th_n (AC.ret (th_r (bq_r ?_))))
  (have e := hR1 (.inl ((Bool.not_eq_true' _).mp h0)); exact ret2 rfl (by rw [e]) (by rw [e]))
 ·refine AL.yes rfl rfl rfl ?_
  refine AL.p (by exact mv1 rfl) rfl ?_
  refine AL.yes rfl rfl rfl ?_
  refine AL.p (by exact mv1 rfl) rfl ?_
  refine AL.yes rfl rfl rfl ?_
  refine AL.q (by exact h_pure en_l13Good rfl rfl (by repeat (first | exact rfl | exact DLead.same | refine ⟨_, _, rfl, ?_, ?_⟩)) hV2 rfl) rfl ?_
  refine AL.yes rfl rfl rfl ?_
  refine AL.p (by exact g_not rfl) rfl ?_
  refine AL.p (by exact g_pickF (r := .d _) rfl rfl) rfl ?_
  refine AL.nil (th_n ?_)
  refine AC.condB rfl (fun h1 => ?_) (fun h1 => ?_)
  ·refine AC.seq (AC.region ?_)
   refine AL.p (by exact as1 rfl) rfl ?_
   refine AL.p (by exact as1 rfl) rfl ?_
   refine AL.nil (th_n (AC.ret (th_r (bq_r ?_))))
   (have e := hR1 (.inr ((Bool.not_eq_true' _).mp h1)); exact ret2 rfl (by rw [e]) (by rw [e]))
  ·refine AC.skip (th_n (AC.seq ?_))
   have q1 : b1 = true := by simpa using h0
   have q2 : b2 = true := by simpa using h1
   obtain ⟨m, hm, hm1, hm2, hml1⟩ := hin1 q1
   obtain ⟨m', hm', hm1', hm2', hml2⟩ := hin2 q2
   obtain rfl : m' = m := by omega
   subst hm
   have hM1 := l13CodesIn_spec m' a hm2 hla hml1
   have hM2 := l13CodesIn_spec m' b hm2 hlb hml2
   have e := hR2 q1 q2
   rw [Int.toNat_natCast] at e
   have hl1 := mintL_len m' a
   have hl2 := mintL_len m' b
   have hp := pow_le256 (Nat.le_refl m') hm2
   have hE := l1SameS_spec (mintL m' a) (mintL m' b) (by omega) (by omega)
   obtain ⟨A, hA⟩ : ∃ A, A = mintL m' a := ⟨_, rfl⟩
   obtain ⟨B, hB⟩ : ∃ B, B = mintL m' b := ⟨_, rfl⟩
   rw [← hA] at hM1 hE e
   rw [← hB] at hM2 hE e
   refine AC.region ?_
   refine AL.p (by exact mv1 rfl) rfl ?_
   refine AL.p (by exact mv1 rfl) rfl ?_
   refine AL.q (by exact h_pure en_l13CodesIn rfl rfl (by repeat (first | exact rfl | exact DLead.same | refine ⟨_, _, rfl, ?_, ?_⟩)) hM1 rfl) rfl ?_
   refine AL.p (by exact mv1 rfl) rfl ?_
   refine AL.p (by exact mv1 rfl) rfl ?_
   refine AL.q (by exact h_pure en_l13CodesIn rfl rfl (by repeat (first | exact rfl | exact DLead.same | refine ⟨_, _, rfl, ?_, ?_⟩)) hM2 rfl) rfl ?_
   refine AL.q (by exact h_pure en_l1SameS rfl rfl (by repeat (first | exact rfl | exact DLead.same | refine ⟨_, _, rfl, ?_, ?_⟩)) hE rfl) rfl ?_
   refine AL.p (by exact as1 rfl) rfl ?_
   refine AL.p (by exact as1 rfl) rfl ?_
   refine AL.nil (th_n (AC.ret (bq_r ?_)))
   exact ret2 rfl (by rw [e]) (by rw [e])
theorem en_sEquiv : Enters Tryz.prog 22 := enters_of Tryz.func22 rfl rfl
def nofF (l : List UInt8) (k : Nat) : Nat := (l.take k).foldl (fun v b => (31 * v + b.toNat) % 1000003) 0
theorem nofF_succ {l : List UInt8} {k : Nat} (h : k < l.length) : nofF l (k + 1) = (31 * nofF l k + l[k].toNat) % 1000003 := by
 unfold nofF
 rw [List.take_add_one, List.getElem?_eq_getElem h, List.foldl_append]
 rfl
theorem nofF_lt (l : List UInt8) : ∀ k, k ≤ l.length → nofF l k < 1000003
 | 0, _ => by show (0 : Nat) < _; omega
 | k + 1, h => by rw [nofF_succ (by omega)]; omega
set_option maxHeartbeats 1000000 in
theorem numberOf_spec (code : List UInt8) (hc : code.length ≤ 2000000) : ASpec Tryz.prog 13 [.d (vB code)] [] (Pure1 (aI (nofF code code.length))) := by
 refine ASpec.of Tryz.func13 rfl rfl fun C hC => ?_
 refine AC.seq (AC.region ?_)
 refine AL.p (by exact as1 rfl) rfl ?_
 refine AL.nil (th_n (AC.seq (AC.region ?_)))
 refine AL.p (by exact as1 rfl) rfl ?_
 refine AL.nil (th_n (AC.seq (AC.seq (AC.region ?_))))
 refine AL.p (by exact mv1 rfl) rfl ?_
 refine AL.p (by exact g_len_view (k := code.length) rfl rfl (List.length_map _)) rfl ?_
 refine AL.p (by exact mv1 rfl) rfl ?_
 refine AL.nil (th_n (AC.block ?_))
 refine AC.loop (ι := Nat) (fun k => ⟨20, 100, [(3, aI (nofF code k)), (6, .d (vB code)), (7, aI code.length), (8, aI k)], []⟩) (fun k => k ≤ code.length) (fun k => code.length - k) (0) ?_ (Nat.zero_le _) ?_
 ·refine Weak.ren _ [] hC rfl ?_ ?_ rfl rfl rfl <;> repeat (first | exact True.intro | refine And.intro ?_ ?_ | exact DLead.same)
 ·intro k hk
  have hlt := nofF_lt code k hk
  refine AC.seq (AC.region ?_)
  refine AL.p (by exact g_cmp rfl rfl rfl) rfl ?_
  refine AL.nil (th_n (AC.seq ?_))
  refine AC.condD rfl (fun h0 => ?_) (fun h0 => ?_)
  ·refine AC.skip (th_n (AC.seq (AC.block (AC.seq ?_))))
   have hk1 : k < code.length := by omega
   have hget : (byteEls code)[k]? = some [dB code[k]] := by have := byteEls_get (m := code) (k := k) hk1; rwa [List.getD_eq_getElem?_getD, List.getElem?_eq_getElem hk1] at this
   have hsu := nofF_succ hk1
   have hb := code[k].toNat_lt
   have hm : ((31 * (nofF code k : Int) + (code[k].toNat : Int)).tmod 1000003) = ((nofF code (k + 1) : Nat) : Int) := by rw [hsu, Int.tmod_eq_emod_of_nonneg (by omega)]; omega
   refine AC.region ?_
   refine AL.p (by exact g_ia_view rfl rfl rfl rfl rfl (by rfl) (by assumption)) rfl ?_
   refine AL.p (by exact g_load_ref rfl rfl rfl) rfl ?_
   refine AL.p (by exact as1 rfl) rfl ?_
   refine AL.nil (th_n (AC.region ?_))
   refine AL.p (by exact mv1 rfl) rfl ?_
   refine AL.p (by exact g_arith rfl rfl rfl (by exact wrap_i64 (by omega))) rfl ?_
   refine AL.p (by exact mv1 rfl) rfl ?_
   refine AL.p (by exact g_convI rfl rfl rfl (by exact wrap_i64 (by omega))) rfl ?_
   refine AL.p (by exact g_arith rfl rfl rfl (by exact wrap_i64 (by omega))) rfl ?_
   refine AL.p (by exact g_rem rfl rfl (by decide) rfl) rfl ?_
   refine AL.p (by exact as1 rfl) rfl ?_
   refine AL.nil (ib_n (th_n (AC.region ?_)))
   refine AL.p (by exact g_arith rfl rfl rfl (by exact wrap_i64 (by omega))) rfl ?_
   refine AL.p (by exact mv1 rfl) rfl ?_
   refine AL.nil (th_n ?_)
   exact ⟨k + 1, by omega, by omega, Weak.ren _ [] hC rfl (by repeat (first | exact True.intro | refine And.intro ?_ ?_ | exact DLead.same | exact DLead.eqI (by omega))) (by repeat (exact True.intro)) rfl rfl rfl⟩
  ·refine AC.exit (th_e (th_e (ib_y (th_n (AC.seq (AC.region ?_))))))
   refine AL.p (by exact mv1 rfl) rfl ?_
   refine AL.p (by exact as1 rfl) rfl ?_
   refine AL.nil (th_n (AC.ret (bq_r ?_)))
   have hkk : k = code.length := by omega
   subst hkk
   exact ret1 rfl rfl
theorem en_numberOf : Enters Tryz.prog 13 := enters_of Tryz.func13 rfl rfl
def ASpecI (I : World → Prop) (P : Program) (f : FuncId) (args : List AV) (chs : List (Nat × Chunk)) (R : AV → List (Nat × Chunk) → Prop) : Prop :=
 ∀ (w : World) (m : Nat → Option (Option Nat × Nat)) (Fin : Nat → Prop) (vs : Array Value), I w →
  (∀ k, Fin k → k < w.heap.size ∧ ∀ id c p, getL id chs = some c → m id = some p → ¬ occ p c k) →
  vs.size = args.length → (∀ (i : Nat) x, args[i]? = some x → ARep m Fin w x (vs.getD i undef)) →
  (∀ id c, getL id chs = some c → id < chs.length ∧ ∃ p, m id = some p ∧ CRep m Fin w p c) →
  (∀ id id' c c' p p' b, getL id chs = some c → getL id' chs = some c' → m id = some p → m id' = some p' → occ p c b → occ p' c' b → id = id') →
  (∀ id, chs.length ≤ id → m id = none) →
  Calls P f vs w fun e w' => ∃ v r chs' m' F', e = .returned v ∧ R r chs' ∧
   (∀ id p, id < chs.length → m id = some p → m' id = some p) ∧ (∀ id, chs.length + 8 ≤ id → m' id = none) ∧
   (∀ k, F' k ↔ (Fin k ∨ (∃ id c p, getL id chs = some c ∧ m id = some p ∧ occ p c k) ∨ w.heap.size ≤ k) ∧ k < w'.heap.size ∧ ∀ id c p, getL id chs' = some c → m' id = some p → ¬ occ p c k) ∧
   (w'.os = w.os ∧ w'.tape = w.tape ∧ w'.output = w.output ∧ w.heap.size ≤ w'.heap.size ∧ ∀ k, k < w.heap.size → (∀ id c p, getL id chs = some c → m id = some p → ¬ occ p c k) → w'.heap[k]? = w.heap[k]?) ∧
   ARep m' F' w' r v ∧
   (∀ id c, getL id chs' = some c → ∃ p, m' id = some p ∧ CRep m' F' w' p c ∧ ∀ b, occ p c b → w.heap.size ≤ b ∨ ∃ id0 c0 p0, getL id0 chs = some c0 ∧ m id0 = some p0 ∧ occ p0 c0 b) ∧
   (∀ id id' c c' p p' b, getL id chs' = some c → getL id' chs' = some c' → m' id = some p → m' id' = some p' → occ p c b → occ p' c' b → id = id')
section
variable {P : Program} [PT P]
set_option maxHeartbeats 1000000 in
theorem ASpecI.of {I : World → Prop} {f : FuncId} {fn : Func} {c : Code} {args : List AV} {chs : List (Nat × Chunk)} {R : AV → List (Nat × Chunk) → Prop} (hf : P.funcs[f]? = some fn) (hb : fn.body = some c) (hn : Nat.ble args.length fn.ntmps = true)
  (hcl : ∀ w w', I w → (∀ k, k < w.heap.size → w'.heap[k]? = w.heap[k]?) → I w') (h : ∀ C : Ctx, C.k = chs.length → (chs = [] → ∀ w', Fr C.S C.w w' → I w') → ACode P C c (BodyQ P fn chs.length R) (entry fn.ntmps args chs)) : ASpecI I P f args chs R := by
 intro w m Fin vs hIw hFin hsz hargs hchs hinj hun
 have hn : args.length ≤ fn.ntmps := by simpa using hn
 have hkey : ∀ (l : List (Nat × Chunk)) id, (∃ c, (id, c) ∈ l) → ∃ c, getL id l = some c := by
  intro l id ⟨c, hc⟩
  induction l with
  | nil => cases hc
  | cons q l ih =>
   obtain ⟨j, d⟩ := q
   rw [getL_cons]
   by_cases hij : id = j
   ·exact ⟨d, by rw [if_pos hij]⟩
   ·rw [if_neg hij]
    rcases List.mem_cons.1 hc with h | h
    ·simp only [Prod.mk.injEq] at h; exact absurd h.1 hij
    ·exact ih h
 have hmem : ∀ (l : List (Nat × Chunk)) id c, getL id l = some c → (id, c) ∈ l := by
  intro l id c hc
  induction l with
  | nil => simp [getL] at hc
  | cons q l ih =>
   obtain ⟨j, d⟩ := q
   rw [getL_cons] at hc
   split at hc
   ·rename_i e; simp only [Option.some.injEq] at hc; subst e; subst hc; simp
   ·exact List.mem_cons_of_mem _ (ih hc)
 obtain ⟨S, hS⟩ : ∃ S : List Nat, ∀ b, b ∈ S ↔ ∃ id c p, getL id chs = some c ∧ m id = some p ∧ occ p c b := by
  classical
  refine ⟨(List.range w.heap.size).filter fun b => decide (∃ id c p, getL id chs = some c ∧ m id = some p ∧ occ p c b), fun b => ?_⟩
  rw [List.mem_filter, decide_eq_true_eq, List.mem_range]
  refine ⟨fun h => h.2, fun h => ⟨?_, h⟩⟩
  obtain ⟨id, c, p, h1, h2, h3⟩ := h
  obtain ⟨_, q, hq, hr⟩ := hchs id c h1
  rw [h2] at hq
  obtain rfl : p = q := by simpa using hq
  exact hr.lt h3
 have hchunk : ∀ id, (entry fn.ntmps args chs).chunk id = getL id chs := fun id => getL_chL id chs
 have hget : ∀ i, (entry fn.ntmps args chs).get i = (args[i]?).getD .dead := fun i => by
  show (getL i (slL 0 args)).getD .dead = _
  rw [getL_slL]; simp
 have hR0 : RelM ⟨w, Fin, S, m, chs.length⟩ (fun id => chs.length ≤ id) (entry fn.ntmps args chs) { tmps := vs ++ Array.replicate (fn.ntmps - vs.size) undef, defers := [] } w m := by
  have hF0 : ∀ k, Fin k → Fz ⟨w, Fin, S, m, chs.length⟩ m (entry fn.ntmps args chs) w k := fun k hk => ⟨.inl hk, (hFin k hk).1, fun id c p hc hp => (hFin k hk).2 id c p (by rw [← hchunk]; exact hc) hp⟩
  refine ⟨Fr.refl _ _, fun k hk => ⟨(hFin k hk).1, fun hkS => ?_⟩, ?_, fun i => ?_, fun id c hc => ?_, fun id id' c c' p p' h1 h2 hp hp' b hb hb' => ?_, hun, rfl, MLe.refl m, hun⟩
  ·obtain ⟨id, c, p, h1, h2, h3⟩ := (hS k).1 hkS
   exact (hFin k hk).2 id c p h1 h2 h3
  ·show (vs ++ Array.replicate (fn.ntmps - vs.size) undef).size = fn.ntmps
   simp; omega
  ·rw [hget]
   cases hx : args[i]? with
   | none => exact .dead
   | some x =>
    have hi := (List.getElem?_eq_some_iff.1 hx).1
    have : (vs ++ Array.replicate (fn.ntmps - vs.size) undef).getD i undef = vs.getD i undef := by
     simp [Array.getD_eq_getD_getElem?, Array.getElem?_append, show i < vs.size by omega]
    show ARep _ _ _ x ((vs ++ Array.replicate (fn.ntmps - vs.size) undef).getD i undef)
    rw [this]
    exact (hargs i x hx).turn (MLe.refl m) (fun k hk _ => ⟨hF0 k hk, rfl⟩)
  ·rw [hchunk] at hc
   obtain ⟨_, p, hp, hr⟩ := hchs id c hc
   exact ⟨p, hp, hr.turn (MLe.refl m) (fun k hk _ => ⟨hF0 k hk, rfl⟩) (fun _ _ => rfl), fun b hb => .inl ((hS b).2 ⟨id, c, p, hc, hp, hb⟩)⟩
  ·rw [hchunk] at h1 h2
   exact hinj id id' c c' p p' b h1 h2 hp hp' hb hb'
 refine calls_of_wp hf hb (Go.wp_mono ((h ⟨w, Fin, S, m, chs.length⟩ rfl (fun h0 w1 hfr => hcl w w1 hIw fun k hk => hfr.block k hk (fun hkS => by obtain ⟨id, c, p, h1, _⟩ := (hS k).1 hkS; rw [h0] at h1; simp [getL] at h1))).run _ w ⟨m, hR0⟩) ?_)
 rintro e a w' ⟨s, ⟨mm, hR⟩, hq⟩
 have main : RetQ P fn chs.length R s → a.defers = [] ∧ ∃ v, (results fn a.tmps).run P w' = .ok v w' ∧ ∃ v1 r chs' m' F', Ending.returned v = .returned v1 ∧ R r chs' ∧
   (∀ id p, id < chs.length → m id = some p → m' id = some p) ∧ (∀ id, chs.length + 8 ≤ id → m' id = none) ∧
   (∀ k, F' k ↔ (Fin k ∨ (∃ id c p, getL id chs = some c ∧ m id = some p ∧ occ p c k) ∨ w.heap.size ≤ k) ∧ k < w'.heap.size ∧ ∀ id c p, getL id chs' = some c → m' id = some p → ¬ occ p c k) ∧
   (w'.os = w.os ∧ w'.tape = w.tape ∧ w'.output = w.output ∧ w.heap.size ≤ w'.heap.size ∧ ∀ k, k < w.heap.size → (∀ id c p, getL id chs = some c → m id = some p → ¬ occ p c k) → w'.heap[k]? = w.heap[k]?) ∧
   ARep m' F' w' r v1 ∧
   (∀ id c, getL id chs' = some c → ∃ p, m' id = some p ∧ CRep m' F' w' p c ∧ ∀ b, occ p c b → w.heap.size ≤ b ∨ ∃ id0 c0 p0, getL id0 chs = some c0 ∧ m id0 = some p0 ∧ occ p0 c0 b) ∧
   (∀ id id' c c' p p' b, getL id chs' = some c → getL id' chs' = some c' → m' id = some p → m' id' = some p' → occ p c b → occ p' c' b → id = id') := by
  rintro ⟨⟨x, r, chs', ρ, hx, hRr, hlead, hch', hsig, hsinj⟩⟩
  obtain ⟨v, hv, hvr⟩ := results_run hR hx
  refine ⟨hR.defers, v, hv, v, r, chs', fun id => (sig chs.length ρ id).bind mm, fun k => (Fin k ∨ (∃ id c p, getL id chs = some c ∧ m id = some p ∧ occ p c k) ∨ w.heap.size ≤ k) ∧ k < w'.heap.size ∧ ∀ id c p, getL id chs' = some c → (sig chs.length ρ id).bind mm = some p → ¬ occ p c k, rfl, hRr, ?_, ?_, fun k => Iff.rfl, ?_, ?_, ?_, ?_⟩
  ·intro id p hid hp
   have : sig chs.length ρ id = some id := by
    unfold sig
    have : Nat.blt id chs.length = true := by simpa using hid
    rw [this]; rfl
   simp only [this, Option.bind_some]
   exact hR.m0 id p hp
  ·intro id hid
   simp only [hsig id hid, Option.bind_none]
  ·refine ⟨hR.fr.os, hR.fr.tape, hR.fr.output, hR.fr.size, fun k hk hn => hR.fr.block k hk (fun hkS => ?_)⟩
   obtain ⟨id, c, p, h1, h2, h3⟩ := (hS k).1 hkS
   exact hn id c p h1 h2 h3
  all_goals
   have hm : ∀ id j p, sig chs.length ρ id = some j → mm j = some p → (fun id => (sig chs.length ρ id).bind mm) id = some p := fun id j p h1 h2 => by simp [h1, h2]
   have hF : ∀ k, Fz ⟨w, Fin, S, m, chs.length⟩ mm s w' k → ((Fin k ∨ (∃ id c p, getL id chs = some c ∧ m id = some p ∧ occ p c k) ∨ w.heap.size ≤ k) ∧ k < w'.heap.size ∧ ∀ id c p, getL id chs' = some c → (sig chs.length ρ id).bind mm = some p → ¬ occ p c k) := by
    intro k hk
    refine ⟨hk.1.imp id (fun h => h.imp (fun h => (hS k).1 h) id), hk.2.1, fun id c p hc hp => ?_⟩
    obtain ⟨j, d, h1, h2, h3⟩ := hch' id c hc
    simp only [h1, Option.bind_some] at hp
    exact fun ho => hk.2.2 j d p h2 hp (h3.occ.2 ho)
  ·exact hvr.lead hm hF r hlead
  ·intro id c hc
   obtain ⟨j, d, h1, h2, h3⟩ := hch' id c hc
   obtain ⟨p, hp, hr, hl⟩ := hR.ch j d h2
   refine ⟨p, hm id j p h1 hp, hr.lead hm hF h3, fun b hb => ?_⟩
   rcases hl b (h3.occ.2 hb) with h | h
   ·obtain ⟨id0, c0, p0, g1, g2, g3⟩ := (hS b).1 h
    exact .inr ⟨id0, c0, p0, g1, g2, g3⟩
   ·exact .inl h
  ·intro id id' c c' p p' b h1 h2 hp hp' hb hb'
   obtain ⟨j, d, g1, g2, g3⟩ := hch' id c h1
   obtain ⟨j', d', g1', g2', g3'⟩ := hch' id' c' h2
   simp only [g1, g1', Option.bind_some] at hp hp'
   have := hR.inj j j' d d' p p' g2 g2' hp hp' b (g3.occ.2 hb) (g3'.occ.2 hb')
   subst this
   exact hsinj id id' j ⟨c, h1⟩ ⟨c', h2⟩ g1 g1'
 cases hq with
 | r hq => obtain ⟨h1, v, h2, h3⟩ := main hq; exact ⟨h1, v, h2, h3⟩
 | n hq => obtain ⟨h1, v, h2, h3⟩ := main hq; exact ⟨h1, v, h2, h3⟩
end
section
variable {P : Program} [PT P]
variable {s : ASt} {dst : Option Nat} {ty : Nat} {pos : String} {af : Array Edge} {gd : Option (Nat × Bool)} {f : Nat}
end
section
variable {P : Program} [PT P] {C : Ctx} {Q : Exit → ASt → Prop} {s : ASt} {ops : Array Oper}
end
theorem ASpecI.law {I : World → Prop} {P : Program} {f : FuncId} {ars : List AV} {W : World} {vs : Array Value} (h : ASpecI I P f ars [] (Pure1 (aT true))) (hIW : I W) (hn : vs.size = ars.length) (ha : ∀ (i : Nat) x, ars[i]? = some x → ARep (fun _ => none) (fun k => k < W.heap.size) W x (vs.getD i undef)) :
  Calls P f vs W fun e W' => e = .returned (.bool true) ∧ Below W.heap.size W W' := by
 refine (h W (fun _ => none) (fun k => k < W.heap.size) vs hIW (fun k hk => ⟨hk, fun id c p hc => by simp [getL] at hc⟩) hn ha (fun id c hc => by simp [getL] at hc) (fun id id' c c' p p' b hc => by simp [getL] at hc) (fun id _ => rfl)).mono ?_
 rintro e W' ⟨v, r, chs', m', F', rfl, ⟨rfl, rfl⟩, _, _, _, ⟨h1, h2, h3, h4, h5⟩, hv, _⟩
 refine ⟨?_, h1, h2, h3, h4, fun k hk => h5 k hk (fun id c p hc => by simp [getL] at hc)⟩
 cases hv with
 | d hd => cases hd; rfl
theorem en_sJoin : Enters Tryz.prog 73 := enters_of Tryz.func73 rfl rfl
theorem sJoinL_spec (l : List (List UInt8)) (sep : List UInt8) (h0 : l ≠ []) (hl : l.length ≤ 1000000) (hb : (Lib.join l sep).length ≤ 70368744177664) : ASpec Tryz.prog 73 [.d (.view 9 1 (l.map fun x => [dS (bstr x)])), aS (bstr sep)] [] (Pure1 (aS (bstr (Lib.join l sep)))) := by
 have e1 : (l.map fun x => [dS (bstr x)]) = (l.map bstr).map fun x => [dS x] := by simp
 have e2 : ((l.map bstr).map (·.data.toList)) = l := by { rw [List.map_map]; have : ((fun x : ByteArray => x.data.toList) ∘ bstr) = id := funext fun x => rfl; rw [this, List.map_id] }
 rw [e1]
 refine ASpec.ofJoin (by cases l with | nil => exact absurd rfl h0 | cons _ _ => simp) (by simp; omega) (by rw [bstr_size]; exact hb) fun bk o c w hc hb2 hN hcap => ?_
 have := Tryz.strings_Join bk o c (l.map bstr) (bstr sep) w hc hb2 hN hcap (by rw [e2]; show (Lib.join l sep).length ≤ _; omega)
 rw [e2] at this
 exact this
theorem sJoin0_spec (sep : List UInt8) : ASpec Tryz.prog 73 [.d (.view 9 1 []), aS (bstr sep)] [] (Pure1 (aS (bstr []))) := by
 intro w m Fin vs hfin hn ha hch hinj hm
 have hv0 := ha 0 _ rfl
 have hv1 := ha 1 _ rfl
 have hv : vs = #[vs.getD 0 undef, .string (bstr sep)] := by
  apply Array.ext
  ·rw [hn]; rfl
  ·intro i hi1 hi2
   match i with
   | 0 => simp [Array.getD_eq_getD_getElem?, Array.getElem?_eq_getElem hi1]
   | 1 => have := hv1.val_eq.1; rw [Array.getD_eq_getD_getElem?, Array.getElem?_eq_getElem hi1] at this; simpa using this
   | i + 2 => simp at hi2; omega
 generalize vs.getD 0 undef = v0 at hv0 hv
 subst hv
 have hs : ∃ a c, v0 = .slice a 0 c := by
  cases hv0 with
  | d hd => cases hd with
   | nil => exact ⟨_, _, rfl⟩
   | empty => exact ⟨_, _, rfl⟩
   | view => exact ⟨_, _, rfl⟩
 obtain ⟨a, c, rfl⟩ := hs
 refine (Tryz.strings_Join_none a c (bstr sep) w).mono ?_
 rintro e w' ⟨rfl, rfl⟩
 refine ⟨_, _, [], m, Fin, rfl, ⟨rfl, rfl⟩, fun _ _ _ h => h, fun id hid => hm id (by simp only [List.length_nil] at hid ⊢; omega), fun k => ?_, ⟨rfl, rfl, rfl, Nat.le_refl _, fun _ _ _ => rfl⟩, .d (.val (by show (0 : Nat) ≤ maxLen; simp only [maxLen]; omega)), fun id c hc => by simp [getL] at hc, fun id id' c c' p p' b hc => by simp [getL] at hc⟩
 constructor
 ·intro hk
  exact ⟨.inl hk, (hfin k hk).1, fun id c p hc => by simp [getL] at hc⟩
 ·rintro ⟨h | ⟨id, c, p, hc, _⟩ | h, hlt, _⟩
  ·exact h
  ·simp [getL] at hc
  ·omega
theorem sJoinA_spec (l : List (List UInt8)) (sep : List UInt8) (hl : l.length ≤ 1000000) (hb : (Lib.join l sep).length ≤ 70368744177664) : ASpec Tryz.prog 73 [.d (.view 9 1 (l.map fun x => [dS (bstr x)])), aS (bstr sep)] [] (Pure1 (aS (bstr (Lib.join l sep)))) := by
 cases l with
 | nil => exact sJoin0_spec sep
 | cons x l => exact sJoinL_spec _ sep (by simp) hl hb
theorem join_succ {l : List (List UInt8)} {sep : List UInt8} {k : Nat} (hk : k < l.length) : Lib.join (l.take (k + 1)) sep = Lib.join (l.take k) sep ++ (if 0 < k then sep else []) ++ l[k] := by
 cases l with
 | nil => simp at hk
 | cons x r =>
  rcases Nat.eq_zero_or_pos k with rfl | h0
  ·simp [Lib.join_one, Lib.join_nil]
  ·obtain ⟨q, rfl⟩ : ∃ q, k = q + 1 := ⟨k - 1, by omega⟩
   have hq : q < r.length := by simpa using hk
   rw [if_pos h0, List.take_succ_cons, List.take_succ_cons, Lib.join_cons, Lib.join_cons, Lib.joinTail_take_succ _ _ _ _ (List.getElem?_eq_getElem hq)]
   simp [List.append_assoc]
theorem join_snoc (l : List (List UInt8)) (x sep : List UInt8) : Lib.join (l ++ [x]) sep = Lib.join l sep ++ (if l = [] then [] else sep) ++ x := by
 have h := join_succ (l := l ++ [x]) (sep := sep) (k := l.length) (by simp)
 rw [List.take_of_length_le (by simp), List.take_left, List.getElem_concat_length rfl] at h
 rw [h]
 congr 2
 cases l with
 | nil => simp
 | cons y l => simp
theorem join_ne {l : List (List UInt8)} {sep : List UInt8} (h : ∀ x, x ∈ l → 1 ≤ x.length) : Lib.join l sep = [] ↔ l = [] := by
 cases l with
 | nil => simp [Lib.join_nil]
 | cons x l =>
  have hx := h x (by simp)
  rw [Lib.join_cons]
  constructor
  ·intro e
   have := congrArg List.length e
   simp only [List.length_append, List.length_nil] at this
   omega
  ·intro e; cases e
theorem join_len3 {sep : List UInt8} {c : Nat} (hs : sep.length ≤ 3) : ∀ {l : List (List UInt8)} (_ : ∀ x, x ∈ l → x.length ≤ c) (k : Nat), k ≤ l.length → (Lib.join (l.take k) sep).length ≤ (c + 3) * k
 | l, h, 0, _ => by simp [Lib.join_nil]
 | l, h, k + 1, hk => by
  have ih := join_len3 hs h k (by omega)
  have hx := h _ (List.getElem_mem (show k < l.length by omega))
  rw [join_succ (by omega), List.length_append, List.length_append, Nat.mul_succ]
  have : (if 0 < k then sep else []).length ≤ 3 := by { split; exact hs; simp }
  omega
theorem sJoinV_spec (l : List (List UInt8)) (sep : List UInt8) (hl : l.length ≤ 1000000) (hb : (Lib.join l sep).length ≤ 70368744177664) : ASpec Tryz.prog 73 [.d (vSs l), aS (bstr sep)] [] (Pure1 (aS (bstr (Lib.join l sep)))) := sJoinA_spec l sep hl hb
theorem bstr_nil {l : List UInt8} : bstr l = ⟨#[]⟩ ↔ l = [] := ⟨fun h => bstr_inj (show bstr l = bstr [] from h), fun h => by rw [h]; rfl⟩
structure SigOk (s : List Sig) : Prop where
 l : 1 ≤ s.length ∧ s.length ≤ 8
 n : ∀ x, x ∈ s → 1 ≤ x.name.length ∧ x.name.length ≤ 6
theorem SigOk.of {s : List Sig} (h : sigsB s = true) : SigOk s := by
 unfold sigsB at h
 rw [Bool.and_eq_true] at h
 have hl := inI_iff.1 h.2
 refine ⟨by omega, fun x hx => ?_⟩
 obtain ⟨j, hj, rfl⟩ := List.getElem_of_mem hx
 have := allK_iff.1 h.1 j hj
 unfold sigK at this
 rw [sAt_nat hj, Bool.and_eq_true] at this
 have h1 := this.1
 unfold nameB at h1
 rw [Bool.and_eq_true] at h1
 have := inI_iff.1 h1.2
 omega
def litW (nm : List UInt8) (b : UInt8) : List UInt8 := if b = 48 then nm ++ [39] else nm
def prodK (s : List Sig) (c : List UInt8) (k : Nat) : List (List UInt8) := ((List.range k).filter fun i => decide (c.getD i 0 ≠ 45)).map fun i => litW (sAt s i).name (c.getD i 0)
theorem prodK_yes {s : List Sig} {c : List UInt8} {k : Nat} (h : ¬ c.getD k 0 = 45) : prodK s c (k + 1) = prodK s c k ++ [litW (sAt s k).name (c.getD k 0)] := by
 unfold prodK
 rw [List.range_succ, List.filter_append, List.map_append, List.filter_cons_of_pos (by simpa using h)]
 simp
theorem prodK_no {s : List Sig} {c : List UInt8} {k : Nat} (h : c.getD k 0 = 45) : prodK s c (k + 1) = prodK s c k := by
 unfold prodK
 rw [List.range_succ, List.filter_append, List.map_append, List.filter_cons_of_neg (by simpa using h)]
 simp
theorem prodK_len (s : List Sig) (c : List UInt8) (k : Nat) : (prodK s c k).length ≤ k := by
 unfold prodK
 rw [List.length_map]
 exact Nat.le_trans (List.length_filter_le _ _) (by rw [List.length_range]; exact Nat.le_refl _)
theorem prodK_in {s : List Sig} (hs : SigOk s) (c : List UInt8) {k : Nat} (hk : k ≤ s.length) : ∀ x, x ∈ prodK s c k → 1 ≤ x.length ∧ x.length ≤ 7 := by
 intro x hx
 obtain ⟨i, hi, rfl⟩ := List.mem_map.1 hx
 have hi2 := List.mem_range.1 (List.mem_filter.1 hi).1
 have hn := hs.n _ (List.getElem_mem (show i < s.length by omega))
 rw [sAt_nat (by omega)]
 unfold litW
 split
 ·rw [List.length_append]; simp only [List.length_cons, List.length_nil]; omega
 ·omega
theorem prodJ_len {s : List Sig} (hs : SigOk s) (c : List UInt8) {k : Nat} (hk : k ≤ s.length) : (Lib.join (prodK s c k) [32]).length ≤ 80 := by
 have h := join_len3 (sep := [32]) (c := 7) (by decide) (l := prodK s c k) (fun x hx => (prodK_in hs c hk x hx).2) _ (Nat.le_refl _)
 rw [List.take_length] at h
 have := prodK_len s c k
 have := hs.l
 omega
def prodT (s : List Sig) (c : List UInt8) : List UInt8 := if prodK s c s.length = [] then [49] else Lib.join (prodK s c s.length) [32]
theorem prodT_len {s : List Sig} (hs : SigOk s) (c : List UInt8) : 1 ≤ (prodT s c).length ∧ (prodT s c).length ≤ 80 := by
 unfold prodT
 split
 ·simp
 ·rename_i h
  refine ⟨?_, prodJ_len hs c (Nat.le_refl _)⟩
  have := mt (join_ne (sep := [32]) (fun x hx => (prodK_in hs c (Nat.le_refl _) x hx).1)).1 h
  exact List.length_pos_iff.2 this
theorem lit3_in {b : UInt8} (h : lit3 b = true) : (b.toNat : Int) = 48 ∨ (b.toNat : Int) = 49 ∨ (b.toNat : Int) = 45 := by simpa [lit3, or_assoc] using h
theorem cubeB_lit {c : List UInt8} {n : Int} {k : Nat} (h : cubeB c n = true) (hk : k < c.length) : lit3 (c.getD k 0) = true := by
 simp only [cubeB, Bool.and_eq_true, List.all_eq_true] at h
 rw [List.getD_eq_getElem?_getD, List.getElem?_eq_getElem hk]
 exact h.1 _ (List.getElem_mem hk)
set_option maxHeartbeats 4000000 in
theorem cubeText_spec (s : List Sig) (c : List UInt8) (hs : SigOk s) (hc : cubeB c s.length = true) : ASpec Tryz.prog 72 [.d (vSigs s), aS (bstr c)] [] (Pure1 (aS (bstr (prodT s c)))) := by
 have hcl := (cubeB_in3 hc).1
 have hsl := hs.l
 have hR1 : prodK s c s.length = [] → prodT s c = [49] := fun h => if_pos h
 have hR2 : ¬ prodK s c s.length = [] → prodT s c = Lib.join (prodK s c s.length) [32] := fun h => if_neg h
 obtain ⟨G, hG⟩ : ∃ G, G = prodT s c := ⟨_, rfl⟩
 rw [← hG] at hR1 hR2 ⊢
 clear hG
 refine ASpec.of Tryz.func72 rfl rfl fun C hC => ?_
 refine AC.seq (AC.region ?_)
 refine AL.p (by exact as1 rfl) rfl ?_
 refine AL.nil (th_n (AC.seq (AC.region ?_)))
 refine AL.q (by exact h_lit rfl rfl rfl rfl rfl rfl rfl rfl) rfl ?_
 refine AL.p (by exact as2 rfl) rfl ?_
 refine AL.nil (th_n (AC.seq (AC.seq (AC.region ?_))))
 refine AL.p (by exact mv1 rfl) rfl ?_
 refine AL.p (by exact g_len_view rfl rfl (by exact List.length_map _)) rfl ?_
 refine AL.p (by exact mv1 rfl) rfl ?_
 refine AL.nil (th_n (AC.block ?_))
 refine AC.loop (ι := Nat) (fun k => ⟨40, 300, [(0, .d (vSigs s)), (1, aS (bstr c)), (5, .own 100 (prodK s c k).length), (9, .d (vSigs s)), (10, aI s.length), (11, aI k)], [(100, some (.arr 9 1 (strsL (prodK s c k))))]⟩) (fun k => k ≤ s.length) (fun k => s.length - k) (0) ?_ (Nat.zero_le _) ?_
 ·exact Weak.ren _ [(100, _)] hC rfl (by repeat (first | exact True.intro | refine And.intro ?_ ?_ | exact DLead.same | exact rfl | refine ⟨_, rfl, ?_⟩)) (by repeat (first | exact True.intro | refine And.intro ?_ ?_ | exact rfl | refine ⟨_, _, rfl, rfl, ?_⟩)) rfl rfl rfl
 ·intro k hk
  have hpl := prodK_len s c k
  refine AC.seq (AC.region ?_)
  refine AL.p (by exact g_cmp rfl rfl rfl) rfl ?_
  refine AL.nil (th_n (AC.seq ?_))
  refine AC.condD rfl (fun h0 => ?_) (fun h0 => ?_)
  ·refine AC.skip (th_n (AC.seq (AC.block (AC.seq ?_))))
   have hk1 : k < s.length := by omega
   have hget := sigsL_get hk1
   have hgm : (bstr c).data.toList[k]? = some (c.getD k 0) := bstr_getD (by omega)
   have hl3 := lit3_in (cubeB_lit hc (k := k) (by omega))
   have hpy := fun h => prodK_yes (s := s) (c := c) (k := k) h
   have hpn := fun h => prodK_no (s := s) (c := c) (k := k) h
   have hnl := hs.n _ (List.getElem_mem hk1)
   rw [sAt_nat hk1] at hpy
   obtain ⟨X, hX⟩ : ∃ X, X = c.getD k 0 := ⟨_, rfl⟩
   rw [← hX] at hgm hl3 hpy hpn
   obtain ⟨x, hx⟩ : ∃ x, x = s[k] := ⟨_, rfl⟩
   rw [← hx] at hget hpy hnl
   have e49 : (X.toNat : Int) = 49 → prodK s c (k + 1) = prodK s c k ++ [x.name] := fun h => by rw [hpy (fun q => by rw [q] at h; exact absurd h (by decide)), litW, if_neg (fun q => by rw [q] at h; exact absurd h (by decide))]
   have e48 : (X.toNat : Int) = 48 → prodK s c (k + 1) = prodK s c k ++ [x.name ++ [39]] := fun h => by rw [hpy (fun q => by rw [q] at h; exact absurd h (by decide)), litW, if_pos (UInt8.toNat_inj.1 (by show X.toNat = 48; omega))]
   have e45 : ¬ (X.toNat : Int) = 49 → ¬ (X.toNat : Int) = 48 → prodK s c (k + 1) = prodK s c k := fun h h' => hpn (UInt8.toNat_inj.1 (by show X.toNat = 45; omega))
   clear hpy hpn
   refine AC.region ?_
   refine AL.p (by exact mv1 rfl) rfl ?_
   refine AL.p (by exact g_ia_view rfl rfl rfl rfl rfl (by rfl) (by assumption)) rfl ?_
   refine AL.p (by exact g_load_refN rfl rfl rfl rfl) rfl ?_
   refine AL.q (by exact h_alloc rfl) rfl ?_
   refine AL.p (by exact as1 rfl) rfl ?_
   refine AL.q (by exact h_store rfl rfl rfl rfl rfl rfl) rfl ?_
   refine AL.nil (th_n (AC.seq ?_))
   refine AC.weak (Weak.freezeRef (ds := sigD x) 7 rfl rfl) ?_
   refine AC.region ?_
   refine AL.p (by exact mv1 rfl) rfl ?_
   refine AL.p (by exact mv1 rfl) rfl ?_
   refine AL.p (by exact g_index rfl rfl rfl (by rfl) (by assumption)) rfl ?_
   refine AL.nil (th_n (AC.block (AC.seq (AC.region ?_))))
   refine AL.p (by exact g_cmp rfl rfl rfl) rfl ?_
   refine AL.p (by exact as1 rfl) rfl ?_
   refine AL.nil (th_n ?_)
   refine AC.condD rfl (fun h1 => ?_) (fun h1 => ?_)
   ·refine AC.region ?_
    refine AL.p (by exact mv2 rfl) rfl ?_
    refine AL.p (by exact g_fa_ref rfl rfl rfl rfl rfl rfl) rfl ?_
    refine AL.p (by exact g_load_ref rfl rfl rfl) rfl ?_
    refine AL.q (by exact h_litF rfl rfl rfl rfl rfl rfl rfl rfl) rfl ?_
    refine AL.q (by exact h_appendSt (prodK s c k) [x.name] (.own rfl rfl (strsL_len _).symm) (.view rfl) (by rw [List.length_append]; simp only [List.length_cons, List.length_nil]; omega) (by simp)) rfl ?_
    refine AL.p (by exact as2 rfl) rfl ?_
    refine AL.nil (ib_n (ib_n (th_n (AC.region ?_))))
    refine AL.p (by exact g_arith rfl rfl rfl (by exact wrap_i64 (by omega))) rfl ?_
    refine AL.p (by exact mv1 rfl) rfl ?_
    refine AL.nil (th_n ?_)
    (have e := e49 h1; exact ⟨k + 1, by omega, by omega, Weak.ren _ [(100, _)] hC rfl (by rw [e]; repeat (first | exact True.intro | refine And.intro ?_ ?_ | exact DLead.same | exact rfl | refine ⟨_, rfl, ?_⟩)) (by rw [e]; repeat (first | exact True.intro | refine And.intro ?_ ?_ | exact rfl | refine ⟨_, _, rfl, rfl, ?_⟩)) rfl rfl rfl⟩)
   ·refine AC.seq (AC.region ?_)
    refine AL.p (by exact g_cmp rfl rfl rfl) rfl ?_
    refine AL.p (by exact as1 rfl) rfl ?_
    refine AL.nil (th_n ?_)
    refine AC.condD rfl (fun h2 => ?_) (fun h2 => ?_)
    ·refine AC.region ?_
     refine AL.p (by exact mv2 rfl) rfl ?_
     refine AL.p (by exact g_fa_ref rfl rfl rfl rfl rfl rfl) rfl ?_
     refine AL.p (by exact g_load_ref rfl rfl rfl) rfl ?_
     refine AL.p (by exact g_saddB (a := x.name) (b := [39]) rfl rfl (by simp only [List.length_cons, List.length_nil]; omega)) rfl ?_
     refine AL.q (by exact h_litF rfl rfl rfl rfl rfl rfl rfl rfl) rfl ?_
     refine AL.q (by exact h_appendSt (prodK s c k) [x.name ++ [39]] (.own rfl rfl (strsL_len _).symm) (.view rfl) (by rw [List.length_append]; simp only [List.length_cons, List.length_nil]; omega) (by simp)) rfl ?_
     refine AL.p (by exact as2 rfl) rfl ?_
     refine AL.nil (ib_n (ib_n (th_n (AC.region ?_))))
     refine AL.p (by exact g_arith rfl rfl rfl (by exact wrap_i64 (by omega))) rfl ?_
     refine AL.p (by exact mv1 rfl) rfl ?_
     refine AL.nil (th_n ?_)
     (have e := e48 h2; exact ⟨k + 1, by omega, by omega, Weak.ren _ [(100, _)] hC rfl (by rw [e]; repeat (first | exact True.intro | refine And.intro ?_ ?_ | exact DLead.same | exact rfl | refine ⟨_, rfl, ?_⟩)) (by rw [e]; repeat (first | exact True.intro | refine And.intro ?_ ?_ | exact rfl | refine ⟨_, _, rfl, rfl, ?_⟩)) rfl rfl rfl⟩)
    ·refine AC.skip (ib_n (ib_n (th_n (AC.region ?_))))
     refine AL.p (by exact g_arith rfl rfl rfl (by exact wrap_i64 (by omega))) rfl ?_
     refine AL.p (by exact mv1 rfl) rfl ?_
     refine AL.nil (th_n ?_)
     (have e := e45 h1 h2; exact ⟨k + 1, by omega, by omega, Weak.ren _ [(100, _)] hC rfl (by rw [e]; repeat (first | exact True.intro | refine And.intro ?_ ?_ | exact DLead.same | exact rfl | refine ⟨_, rfl, ?_⟩)) (by rw [e]; repeat (first | exact True.intro | refine And.intro ?_ ?_ | exact rfl | refine ⟨_, _, rfl, rfl, ?_⟩)) rfl rfl rfl⟩)
  ·refine AC.exit (th_e (th_e (ib_y (th_n (AC.seq (AC.seq ?_))))))
   have hkk : k = s.length := by omega
   subst hkk
   have hjl := prodJ_len hs c (Nat.le_refl _)
   have hJ := sJoinV_spec (prodK s c s.length) [32] (by omega) (by omega)
   refine AC.region ?_
   refine AL.p (by exact mv2 rfl) rfl ?_
   refine AL.p (by exact g_len_own (sz := 1) (els := []) (e' := 0) rfl rfl (by simp only [maxLen]; omega)) rfl ?_
   refine AL.p (by exact g_cmp rfl rfl rfl) rfl ?_
   refine AL.nil (th_n ?_)
   refine AC.condD rfl (fun h1 => ?_) (fun h1 => ?_)
   ·refine AC.seq (AC.region ?_)
    refine AL.p (by exact as1 rfl) rfl ?_
    refine AL.nil (th_n (AC.ret (th_r (bq_r ?_))))
    have e := hR1 (List.length_eq_zero_iff.1 (by omega))
    exact ret1 rfl (by rw [e]; rfl)
   ·refine AC.skip (th_n (AC.seq ?_))
    have e := hR2 (fun q => by have := congrArg List.length q; simp only [List.length_nil] at this; omega)
    refine AC.weak (Weak.freeze (i := 5) rfl rfl (ownl _ _) (ownt _ _)) ?_
    refine AC.region ?_
    refine AL.p (by exact mv1 rfl) rfl ?_
    refine AL.q (by exact h_pure en_sJoin rfl rfl (by repeat (first | exact rfl | exact DLead.same | refine ⟨_, _, rfl, ?_, ?_⟩)) hJ rfl) rfl ?_
    refine AL.p (by exact as1 rfl) rfl ?_
    refine AL.nil (th_n (AC.ret (bq_r ?_)))
    exact ret1 rfl (by rw [e])
theorem en_cubeText : Enters Tryz.prog 72 := enters_of Tryz.func72 rfl rfl
set_option maxHeartbeats 4000000 in
theorem l13Product_spec (s : List Sig) (c : List UInt8) (hs : SigOk s) (hc : cubeB c s.length = true) : ASpec Tryz.prog 75 [.d (vSigs s), aS (bstr c)] [] (Pure1 (aS (bstr (prodT s c)))) := by
 have hcl := (cubeB_in3 hc).1
 have hsl := hs.l
 have hsz := bstr_size c
 have hR1 : prodK s c s.length = [] → prodT s c = [49] := fun h => if_pos h
 have hR2 : ¬ prodK s c s.length = [] → prodT s c = Lib.join (prodK s c s.length) [32] := fun h => if_neg h
 obtain ⟨G, hG⟩ : ∃ G, G = prodT s c := ⟨_, rfl⟩
 rw [← hG] at hR1 hR2 ⊢
 clear hG
 refine ASpec.of Tryz.func75 rfl rfl fun C hC => ?_
 refine AC.seq (AC.region ?_)
 refine AL.p (by exact as1 rfl) rfl ?_
 refine AL.nil (th_n (AC.seq (AC.region ?_)))
 refine AL.p (by exact as1 rfl) rfl ?_
 refine AL.nil (th_n (AC.seq (AC.seq (AC.region ?_))))
 refine AL.p (by exact as1 rfl) rfl ?_
 refine AL.nil (th_n (AC.block ?_))
 refine AC.loop (ι := Nat) (fun k => ⟨37, 300, [(0, .d (vSigs s)), (1, aS (bstr c)), (5, aS (bstr (Lib.join (prodK s c k) [32]))), (6, aI k)], []⟩) (fun k => k ≤ s.length) (fun k => s.length - k) (0) ?_ (Nat.zero_le _) ?_
 ·refine Weak.ren _ [] hC rfl ?_ ?_ rfl rfl rfl <;> repeat (first | exact True.intro | refine And.intro ?_ ?_ | exact DLead.same)
 ·intro k hk
  refine AC.seq (AC.seq (AC.region ?_))
  refine AL.p (by exact mv1 rfl) rfl ?_
  refine AL.p (by exact mv1 rfl) rfl ?_
  refine AL.p (by exact g_len_str (k := c.length) rfl rfl hsz) rfl ?_
  refine AL.p (by exact g_cmp rfl rfl rfl) rfl ?_
  refine AL.nil (th_n ?_)
  refine AC.condD rfl (fun h0 => ?_) (fun h0 => ?_)
  ·refine AC.skip (th_n (AC.seq (AC.block (AC.seq (AC.seq ?_)))))
   have hk1 : k < s.length := by omega
   have hget := sigsL_get hk1
   have hgm : (bstr c).data.toList[k]? = some (c.getD k 0) := bstr_getD (by omega)
   have hpy := fun h => prodK_yes (s := s) (c := c) (k := k) h
   have hpn := fun h => prodK_no (s := s) (c := c) (k := k) h
   have hnl := hs.n _ (List.getElem_mem hk1)
   have hjl := prodJ_len hs c hk
   have hje := join_ne (sep := [32]) (fun x hx => (prodK_in hs c hk x hx).1)
   rw [sAt_nat hk1] at hpy
   obtain ⟨X, hX⟩ : ∃ X, X = c.getD k 0 := ⟨_, rfl⟩
   rw [← hX] at hgm hpy hpn
   obtain ⟨x, hx⟩ : ∃ x, x = s[k] := ⟨_, rfl⟩
   rw [← hx] at hget hpy hnl
   have hsn := fun y => join_snoc (prodK s c k) y [32]
   have e45 : (X.toNat : Int) = 45 → prodK s c (k + 1) = prodK s c k := fun h => hpn (UInt8.toNat_inj.1 (by show X.toNat = 45; omega))
   have e48 : (X.toNat : Int) = 48 → Lib.join (prodK s c (k + 1)) [32] = Lib.join (prodK s c k) [32] ++ (if prodK s c k = [] then [] else [32]) ++ x.name ++ [39] := fun h => by rw [hpy (fun q => by rw [q] at h; exact absurd h (by decide)), litW, if_pos (UInt8.toNat_inj.1 (by show X.toNat = 48; omega)), hsn, List.append_assoc _ x.name]
   have e49 : ¬ (X.toNat : Int) = 45 → ¬ (X.toNat : Int) = 48 → Lib.join (prodK s c (k + 1)) [32] = Lib.join (prodK s c k) [32] ++ (if prodK s c k = [] then [] else [32]) ++ x.name := fun h h' => by rw [hpy (fun q => by rw [q] at h; exact h (by decide)), litW, if_neg (fun q => by rw [q] at h'; exact h' (by decide)), hsn]
   clear hpy hpn hsn
   obtain ⟨J, hJ⟩ : ∃ J, J = prodK s c k := ⟨_, rfl⟩
   rw [← hJ] at e45 e48 e49 hjl hje ⊢
   refine AC.region ?_
   refine AL.p (by exact mv1 rfl) rfl ?_
   refine AL.p (by exact mv1 rfl) rfl ?_
   refine AL.p (by exact g_index rfl rfl rfl (by rfl) (by assumption)) rfl ?_
   refine AL.p (by exact g_cmp rfl rfl rfl) rfl ?_
   refine AL.nil (th_n ?_)
   refine AC.condD rfl (fun h1 => ?_) (fun h1 => ?_)
   ·refine AC.exit (th_e (ib_y (th_n (AC.region ?_))))
    refine AL.p (by exact mv1 rfl) rfl ?_
    refine AL.p (by exact g_arith rfl rfl rfl (by exact wrap_i64 (by omega))) rfl ?_
    refine AL.p (by exact as1 rfl) rfl ?_
    refine AL.nil (th_n ?_)
    (have e := e45 h1; exact ⟨k + 1, by omega, by omega, Weak.ren _ [] hC rfl (by rw [e]; repeat (first | exact True.intro | refine And.intro ?_ ?_ | exact DLead.same)) (by repeat (exact True.intro)) rfl rfl rfl⟩)
   ·refine AC.skip (th_n ?_)
    refine AC.cut (fun (_ : Unit) => ⟨37, 400, [(0, .d (vSigs s)), (1, aS (bstr c)), (5, aS (bstr (Lib.join J [32] ++ (if J = [] then [] else [32])))), (6, aI k)], []⟩) (fun _ => True) ?_ ?_
    ·refine AC.seq (AC.region ?_)
     refine AL.p (by exact mv1 rfl) rfl ?_
     refine AL.p (by exact g_scmp rfl rfl rfl) rfl ?_
     refine AL.nil (th_n ?_)
     refine AC.condND rfl (fun h2 => ?_) (fun h2 => ?_)
     ·refine AC.region ?_
      refine AL.p (by exact mv1 rfl) rfl ?_
      refine AL.p (by exact g_saddB (a := Lib.join J [32]) (b := [32]) rfl rfl (by simp only [List.length_cons, List.length_nil]; omega)) rfl ?_
      refine AL.p (by exact as1 rfl) rfl ?_
      refine AL.nil (th_n ?_)
      (have e := mt hje.2 (mt bstr_nil.2 h2); exact ⟨(), trivial, Weak.ren _ [] hC rfl (by rw [if_neg e]; repeat (first | exact True.intro | refine And.intro ?_ ?_ | exact DLead.same)) (by repeat (exact True.intro)) rfl rfl rfl⟩)
     ·refine AC.skip (th_n ?_)
      (have e := hje.1 (bstr_nil.1 h2); exact ⟨(), trivial, Weak.ren _ [] hC rfl (by rw [if_pos e, List.append_nil]; repeat (first | exact True.intro | refine And.intro ?_ ?_ | exact DLead.same)) (by repeat (exact True.intro)) rfl rfl rfl⟩)
    ·intro _ _
     have hil : (if J = [] then ([] : List UInt8) else [32]).length ≤ 1 := by split <;> simp
     refine AC.seq (AC.region ?_)
     refine AL.p (by exact mv1 rfl) rfl ?_
     refine AL.p (by exact mv1 rfl) rfl ?_
     refine AL.p (by exact mv1 rfl) rfl ?_
     refine AL.p (by exact g_ia_view (i := k) rfl rfl rfl rfl rfl rfl hget) rfl ?_
     refine AL.p (by exact g_fa_ref rfl rfl rfl rfl rfl rfl) rfl ?_
     refine AL.p (by exact g_load_ref rfl rfl rfl) rfl ?_
     refine AL.p (by exact g_saddB (a := Lib.join J [32] ++ (if J = [] then [] else [32])) (b := x.name) rfl rfl (by simp only [List.length_append]; omega)) rfl ?_
     refine AL.p (by exact as1 rfl) rfl ?_
     refine AL.nil (th_n (AC.seq (AC.region ?_)))
     refine AL.p (by exact mv1 rfl) rfl ?_
     refine AL.p (by exact mv1 rfl) rfl ?_
     refine AL.p (by exact g_index rfl rfl rfl (by rfl) (by assumption)) rfl ?_
     refine AL.p (by exact g_cmp rfl rfl rfl) rfl ?_
     refine AL.nil (th_n ?_)
     refine AC.condD rfl (fun h2 => ?_) (fun h2 => ?_)
     ·refine AC.region ?_
      refine AL.p (by exact mv1 rfl) rfl ?_
      refine AL.p (by exact g_saddB (a := Lib.join J [32] ++ (if J = [] then [] else [32]) ++ x.name) (b := [39]) rfl rfl (by simp only [List.length_append, List.length_cons, List.length_nil]; omega)) rfl ?_
      refine AL.p (by exact as1 rfl) rfl ?_
      refine AL.nil (ib_n (th_n (AC.region ?_)))
      refine AL.p (by exact mv1 rfl) rfl ?_
      refine AL.p (by exact g_arith rfl rfl rfl (by exact wrap_i64 (by omega))) rfl ?_
      refine AL.p (by exact as1 rfl) rfl ?_
      refine AL.nil (th_n ?_)
      (have e := e48 ‹(X.toNat : Int) = 48›; exact ⟨k + 1, by omega, by omega, Weak.ren _ [] hC rfl (by rw [e]; repeat (first | exact True.intro | refine And.intro ?_ ?_ | exact DLead.same)) (by repeat (exact True.intro)) rfl rfl rfl⟩)
     ·refine AC.skip (ib_n (th_n (AC.region ?_)))
      refine AL.p (by exact mv1 rfl) rfl ?_
      refine AL.p (by exact g_arith rfl rfl rfl (by exact wrap_i64 (by omega))) rfl ?_
      refine AL.p (by exact as1 rfl) rfl ?_
      refine AL.nil (th_n ?_)
      (have e := e49 h1 ‹¬ (X.toNat : Int) = 48›; exact ⟨k + 1, by omega, by omega, Weak.ren _ [] hC rfl (by rw [e]; repeat (first | exact True.intro | refine And.intro ?_ ?_ | exact DLead.same)) (by repeat (exact True.intro)) rfl rfl rfl⟩)
  ·refine AC.exit (th_e (th_e (ib_y (th_n (AC.seq (AC.seq ?_))))))
   have hkk : k = s.length := by omega
   subst hkk
   have hje := join_ne (sep := [32]) (fun x hx => (prodK_in hs c (Nat.le_refl s.length) x hx).1)
   refine AC.region ?_
   refine AL.p (by exact mv1 rfl) rfl ?_
   refine AL.p (by exact g_scmp rfl rfl rfl) rfl ?_
   refine AL.nil (th_n ?_)
   refine AC.condD rfl (fun h1 => ?_) (fun h1 => ?_)
   ·refine AC.seq (AC.region ?_)
    refine AL.p (by exact as1 rfl) rfl ?_
    refine AL.nil (th_n (AC.ret (th_r (bq_r ?_))))
    have e := hR1 (hje.1 (bstr_nil.1 h1))
    exact ret1 rfl (by rw [e]; rfl)
   ·refine AC.skip (th_n (AC.seq (AC.region ?_)))
    refine AL.p (by exact mv1 rfl) rfl ?_
    refine AL.p (by exact as1 rfl) rfl ?_
    refine AL.nil (th_n (AC.ret (bq_r ?_)))
    have e := hR2 (mt hje.2 (mt bstr_nil.2 h1))
    exact ret1 rfl (by rw [e])
theorem en_l13Product : Enters Tryz.prog 75 := enters_of Tryz.func75 rfl rfl
def covT (s : List Sig) (l : List (List UInt8)) : List UInt8 := if l = [] then [48] else Lib.join (l.map (prodT s)) [32, 43, 32]
theorem covJ_len {s : List Sig} (hs : SigOk s) {l : List (List UInt8)} (hl : l.length ≤ 60) {k : Nat} (hk : k ≤ l.length) : (Lib.join ((l.map (prodT s)).take k) [32, 43, 32]).length ≤ 5000 := by
 have h := join_len3 (sep := [32, 43, 32]) (c := 80) (by decide) (l := l.map (prodT s)) (fun x hx => by obtain ⟨c, _, rfl⟩ := List.mem_map.1 hx; exact (prodT_len hs c).2) k (by rw [List.length_map]; exact hk)
 omega
set_option maxHeartbeats 4000000 in
theorem coverText_spec (s : List Sig) (l : List (List UInt8)) (hs : SigOk s) (hc : cvB s.length l = true) : ASpec Tryz.prog 51 [.d (vSigs s), .d (vSs l)] [] (Pure1 (aS (bstr (covT s l)))) := by
 obtain ⟨hn, hl, hcu⟩ := cvB_in hc
 have hR1 : l = [] → covT s l = [48] := fun h => if_pos h
 have hR2 : ¬ l = [] → covT s l = Lib.join (l.map (prodT s)) [32, 43, 32] := fun h => if_neg h
 obtain ⟨G, hG⟩ : ∃ G, G = covT s l := ⟨_, rfl⟩
 rw [← hG] at hR1 hR2 ⊢
 clear hG
 refine ASpec.of Tryz.func51 rfl rfl fun C hC => ?_
 refine AC.seq (AC.region ?_)
 refine AL.p (by exact as1 rfl) rfl ?_
 refine AL.nil (th_n (AC.seq (AC.region ?_)))
 refine AL.q (by exact h_lit rfl rfl rfl rfl rfl rfl rfl rfl) rfl ?_
 refine AL.p (by exact as2 rfl) rfl ?_
 refine AL.nil (th_n (AC.seq (AC.seq (AC.region ?_))))
 refine AL.p (by exact mv1 rfl) rfl ?_
 refine AL.p (by exact g_len_view (k := l.length) rfl rfl (strsL_len _)) rfl ?_
 refine AL.p (by exact mv1 rfl) rfl ?_
 refine AL.nil (th_n (AC.block ?_))
 refine AC.loop (ι := Nat) (fun k => ⟨27, 300, [(0, .d (vSigs s)), (1, .d (vSs l)), (5, .own 100 ((l.take k).map (prodT s)).length), (9, .d (vSs l)), (10, aI l.length), (11, aI k)], [(100, some (.arr 9 1 (strsL ((l.take k).map (prodT s)))))]⟩) (fun k => k ≤ l.length) (fun k => l.length - k) (0) ?_ (Nat.zero_le _) ?_
 ·exact Weak.ren _ [(100, _)] hC rfl (by repeat (first | exact True.intro | refine And.intro ?_ ?_ | exact DLead.same | exact rfl | refine ⟨_, rfl, ?_⟩)) (by repeat (first | exact True.intro | refine And.intro ?_ ?_ | exact rfl | refine ⟨_, _, rfl, rfl, ?_⟩)) rfl rfl rfl
 ·intro k hk
  have hpl : ((l.take k).map (prodT s)).length = k := by rw [List.length_map, List.length_take]; omega
  refine AC.seq (AC.region ?_)
  refine AL.p (by exact g_cmp rfl rfl rfl) rfl ?_
  refine AL.nil (th_n (AC.seq ?_))
  refine AC.condD rfl (fun h0 => ?_) (fun h0 => ?_)
  ·refine AC.skip (th_n (AC.seq (AC.block (AC.seq ?_))))
   have hk1 : k < l.length := by omega
   have hget := strs_at hk1
   have hT := cubeText_spec s l[k] hs (hcu _ (List.getElem_mem hk1))
   have hsu : (l.take (k + 1)).map (prodT s) = (l.take k).map (prodT s) ++ [prodT s l[k]] := by rw [List.take_add_one, List.getElem?_eq_getElem hk1, List.map_append]; rfl
   obtain ⟨c, hc'⟩ : ∃ c, c = l[k] := ⟨_, rfl⟩
   rw [← hc'] at hget hT hsu
   obtain ⟨T, hTT⟩ : ∃ T, T = prodT s c := ⟨_, rfl⟩
   rw [← hTT] at hT hsu
   obtain ⟨A, hA⟩ : ∃ A, A = (l.take k).map (prodT s) := ⟨_, rfl⟩
   rw [← hA] at hsu hpl ⊢
   refine AC.region ?_
   refine AL.p (by exact g_ia_view rfl rfl rfl rfl rfl (by rfl) (by assumption)) rfl ?_
   refine AL.p (by exact g_load_ref rfl rfl rfl) rfl ?_
   refine AL.p (by exact as1 rfl) rfl ?_
   refine AL.nil (th_n (AC.region ?_))
   refine AL.p (by exact mv2 rfl) rfl ?_
   refine AL.p (by exact mv1 rfl) rfl ?_
   refine AL.p (by exact mv1 rfl) rfl ?_
   refine AL.q (by exact h_pure en_cubeText rfl rfl (by repeat (first | exact rfl | exact DLead.same | refine ⟨_, _, rfl, ?_, ?_⟩)) hT rfl) rfl ?_
   refine AL.q (by exact h_litF rfl rfl rfl rfl rfl rfl rfl rfl) rfl ?_
   refine AL.q (by exact h_appendSt A [T] (.own rfl rfl (strsL_len _).symm) (.view rfl) (by rw [List.length_append]; simp only [List.length_cons, List.length_nil]; omega) (by simp)) rfl ?_
   refine AL.p (by exact as2 rfl) rfl ?_
   refine AL.nil (ib_n (th_n (AC.region ?_)))
   refine AL.p (by exact g_arith rfl rfl rfl (by exact wrap_i64 (by omega))) rfl ?_
   refine AL.p (by exact mv1 rfl) rfl ?_
   refine AL.nil (th_n ?_)
   exact ⟨k + 1, by omega, by omega, Weak.ren _ [(100, _)] hC rfl (by rw [hsu]; repeat (first | exact True.intro | refine And.intro ?_ ?_ | exact DLead.same | exact rfl | refine ⟨_, rfl, ?_⟩)) (by rw [hsu]; repeat (first | exact True.intro | refine And.intro ?_ ?_ | exact rfl | refine ⟨_, _, rfl, rfl, ?_⟩)) rfl rfl rfl⟩
  ·refine AC.exit (th_e (th_e (ib_y (th_n (AC.seq (AC.seq ?_))))))
   have hkk : k = l.length := by omega
   subst hkk
   rw [List.take_length] at hpl ⊢
   have hjl := covJ_len hs hl (Nat.le_refl _)
   rw [List.take_of_length_le (by rw [List.length_map]; exact Nat.le_refl _)] at hjl
   have hJ := sJoinV_spec (l.map (prodT s)) [32, 43, 32] (by omega) (by omega)
   refine AC.region ?_
   refine AL.p (by exact mv2 rfl) rfl ?_
   refine AL.p (by exact g_len_own (sz := 1) (els := []) (e' := 0) rfl rfl (by simp only [maxLen]; omega)) rfl ?_
   refine AL.p (by exact g_cmp rfl rfl rfl) rfl ?_
   refine AL.nil (th_n ?_)
   refine AC.condD rfl (fun h1 => ?_) (fun h1 => ?_)
   ·refine AC.seq (AC.region ?_)
    refine AL.p (by exact as1 rfl) rfl ?_
    refine AL.nil (th_n (AC.ret (th_r (bq_r ?_))))
    have e := hR1 (List.length_eq_zero_iff.1 (by omega))
    exact ret1 rfl (by rw [e]; rfl)
   ·refine AC.skip (th_n (AC.seq ?_))
    have e := hR2 (fun q => by have := congrArg List.length q; simp only [List.length_nil] at this; omega)
    refine AC.weak (Weak.freeze (i := 5) rfl rfl (ownl _ _) (ownt _ _)) ?_
    refine AC.region ?_
    refine AL.p (by exact mv1 rfl) rfl ?_
    refine AL.q (by exact h_pure en_sJoin rfl rfl (by repeat (first | exact rfl | exact DLead.same | refine ⟨_, _, rfl, ?_, ?_⟩)) hJ rfl) rfl ?_
    refine AL.p (by exact as1 rfl) rfl ?_
    refine AL.nil (th_n (AC.ret (bq_r ?_)))
    exact ret1 rfl (by rw [e])
theorem en_coverText : Enters Tryz.prog 51 := enters_of Tryz.func51 rfl rfl
set_option maxHeartbeats 4000000 in
theorem l13Text_spec (s : List Sig) (l : List (List UInt8)) (hs : SigOk s) (hc : cvB s.length l = true) : ASpec Tryz.prog 53 [.d (vSigs s), .d (vSs l)] [] (Pure1 (aS (bstr (covT s l)))) := by
 obtain ⟨hn, hl, hcu⟩ := cvB_in hc
 have hR1 : l = [] → covT s l = [48] := fun h => if_pos h
 have hR2 : ¬ l = [] → covT s l = Lib.join (l.map (prodT s)) [32, 43, 32] := fun h => if_neg h
 obtain ⟨G, hG⟩ : ∃ G, G = covT s l := ⟨_, rfl⟩
 rw [← hG] at hR1 hR2 ⊢
 clear hG
 refine ASpec.of Tryz.func53 rfl rfl fun C hC => ?_
 refine AC.seq (AC.region ?_)
 refine AL.p (by exact as1 rfl) rfl ?_
 refine AL.nil (th_n (AC.seq (AC.region ?_)))
 refine AL.p (by exact as1 rfl) rfl ?_
 refine AL.nil (th_n (AC.seq (AC.seq (AC.region ?_))))
 refine AL.p (by exact mv1 rfl) rfl ?_
 refine AL.p (by exact g_len_view (k := l.length) rfl rfl (strsL_len _)) rfl ?_
 refine AL.p (by exact mv1 rfl) rfl ?_
 refine AL.nil (th_n (AC.block ?_))
 refine AC.loop (ι := Nat) (fun k => ⟨28, 300, [(0, .d (vSigs s)), (1, .d (vSs l)), (5, aS (bstr (Lib.join ((l.map (prodT s)).take k) [32, 43, 32]))), (8, .d (vSs l)), (9, aI l.length), (10, aI k)], []⟩) (fun k => k ≤ l.length) (fun k => l.length - k) (0) ?_ (Nat.zero_le _) ?_
 ·refine Weak.ren _ [] hC rfl ?_ ?_ rfl rfl rfl <;> repeat (first | exact True.intro | refine And.intro ?_ ?_ | exact DLead.same)
 ·intro k hk
  have hjl := covJ_len hs hl hk
  refine AC.seq (AC.region ?_)
  refine AL.p (by exact g_cmp rfl rfl rfl) rfl ?_
  refine AL.nil (th_n (AC.seq ?_))
  refine AC.condD rfl (fun h0 => ?_) (fun h0 => ?_)
  ·refine AC.skip (th_n (AC.seq (AC.block (AC.seq ?_))))
   have hk1 : k < l.length := by omega
   have hget := strs_at hk1
   have hT := l13Product_spec s l[k] hs (hcu _ (List.getElem_mem hk1))
   have htl := prodT_len hs l[k]
   have hsu := join_succ (l := l.map (prodT s)) (sep := [32, 43, 32]) (k := k) (by rw [List.length_map]; exact hk1)
   rw [List.getElem_map] at hsu
   obtain ⟨c, hc'⟩ : ∃ c, c = l[k] := ⟨_, rfl⟩
   rw [← hc'] at hget hT hsu htl
   obtain ⟨T, hTT⟩ : ∃ T, T = prodT s c := ⟨_, rfl⟩
   rw [← hTT] at hT hsu htl
   obtain ⟨J, hJ⟩ : ∃ J, J = Lib.join ((l.map (prodT s)).take k) [32, 43, 32] := ⟨_, rfl⟩
   rw [← hJ] at hsu hjl ⊢
   have hkp : ((0 : Int) < (k : Int)) → 0 < k := by omega
   have hkn : ¬ ((0 : Int) < (k : Int)) → ¬ 0 < k := by omega
   refine AC.region ?_
   refine AL.p (by exact mv1 rfl) rfl ?_
   refine AL.p (by exact g_ia_view rfl rfl rfl rfl rfl (by rfl) (by assumption)) rfl ?_
   refine AL.p (by exact g_load_ref rfl rfl rfl) rfl ?_
   refine AL.p (by exact as1 rfl) rfl ?_
   refine AL.p (by exact as1 rfl) rfl ?_
   refine AL.nil (th_n ?_)
   refine AC.cut (fun (_ : Unit) => ⟨28, 400, [(0, .d (vSigs s)), (1, .d (vSs l)), (5, aS (bstr (J ++ (if 0 < k then [32, 43, 32] else [])))), (7, aS (bstr c)), (8, .d (vSs l)), (9, aI l.length), (10, aI k)], []⟩) (fun _ => True) ?_ ?_
   ·refine AC.seq (AC.region ?_)
    refine AL.p (by exact mv1 rfl) rfl ?_
    refine AL.p (by exact g_cmp rfl rfl rfl) rfl ?_
    refine AL.nil (th_n ?_)
    refine AC.condD rfl (fun h1 => ?_) (fun h1 => ?_)
    ·refine AC.region ?_
     refine AL.p (by exact mv1 rfl) rfl ?_
     refine AL.p (by exact g_saddB (a := J) (b := [32, 43, 32]) rfl rfl (by simp only [List.length_cons, List.length_nil]; omega)) rfl ?_
     refine AL.p (by exact as1 rfl) rfl ?_
     refine AL.nil (th_n ?_)
     (have e := hkp h1; exact ⟨(), trivial, Weak.ren _ [] hC rfl (by rw [if_pos e]; repeat (first | exact True.intro | refine And.intro ?_ ?_ | exact DLead.same)) (by repeat (exact True.intro)) rfl rfl rfl⟩)
    ·refine AC.skip (th_n ?_)
     (have e := hkn h1; exact ⟨(), trivial, Weak.ren _ [] hC rfl (by rw [if_neg e, List.append_nil]; repeat (first | exact True.intro | refine And.intro ?_ ?_ | exact DLead.same)) (by repeat (exact True.intro)) rfl rfl rfl⟩)
   ·intro _ _
    have hil : (if 0 < k then [32, 43, 32] else ([] : List UInt8)).length ≤ 3 := by split <;> simp
    refine AC.region ?_
    refine AL.p (by exact mv1 rfl) rfl ?_
    refine AL.p (by exact mv1 rfl) rfl ?_
    refine AL.p (by exact mv1 rfl) rfl ?_
    refine AL.q (by exact h_pure en_l13Product rfl rfl (by repeat (first | exact rfl | exact DLead.same | refine ⟨_, _, rfl, ?_, ?_⟩)) hT rfl) rfl ?_
    refine AL.p (by exact g_saddB (a := J ++ (if 0 < k then [32, 43, 32] else [])) (b := T) rfl rfl (by simp only [List.length_append]; omega)) rfl ?_
    refine AL.p (by exact as1 rfl) rfl ?_
    refine AL.nil (ib_n (th_n (AC.region ?_)))
    refine AL.p (by exact g_arith rfl rfl rfl (by exact wrap_i64 (by omega))) rfl ?_
    refine AL.p (by exact mv1 rfl) rfl ?_
    refine AL.nil (th_n ?_)
    exact ⟨k + 1, by omega, by omega, Weak.ren _ [] hC rfl (by rw [hsu]; repeat (first | exact True.intro | refine And.intro ?_ ?_ | exact DLead.same)) (by repeat (exact True.intro)) rfl rfl rfl⟩
  ·refine AC.exit (th_e (th_e (ib_y (th_n (AC.seq (AC.seq ?_))))))
   have hkk : k = l.length := by omega
   subst hkk
   have hje := join_ne (l := l.map (prodT s)) (sep := [32, 43, 32]) (fun x hx => by obtain ⟨c, _, rfl⟩ := List.mem_map.1 hx; exact (prodT_len hs c).1)
   rw [List.take_of_length_le (by rw [List.length_map]; exact Nat.le_refl _)]
   rw [List.map_eq_nil_iff] at hje
   refine AC.region ?_
   refine AL.p (by exact mv1 rfl) rfl ?_
   refine AL.p (by exact g_scmp rfl rfl rfl) rfl ?_
   refine AL.nil (th_n ?_)
   refine AC.condD rfl (fun h1 => ?_) (fun h1 => ?_)
   ·refine AC.seq (AC.region ?_)
    refine AL.p (by exact as1 rfl) rfl ?_
    refine AL.nil (th_n (AC.ret (th_r (bq_r ?_))))
    have e := hR1 (hje.1 (bstr_nil.1 h1))
    exact ret1 rfl (by rw [e]; rfl)
   ·refine AC.skip (th_n (AC.seq (AC.region ?_)))
    refine AL.p (by exact mv1 rfl) rfl ?_
    refine AL.p (by exact as1 rfl) rfl ?_
    refine AL.nil (th_n (AC.ret (bq_r ?_)))
    have e := hR2 (mt hje.2 (mt bstr_nil.2 h1))
    exact ret1 rfl (by rw [e])
theorem en_l13Text : Enters Tryz.prog 53 := enters_of Tryz.func53 rfl rfl
def fmtCR (s : List Sig) (l : List (List UInt8)) : List UInt8 × Bool := if sigsB s = true ∧ cvB s.length l = true then (covT s l, true) else ([], false)
theorem fmtCR_no {s : List Sig} {l : List (List UInt8)} (h : sigsB s = false ∨ cvB s.length l = false) : fmtCR s l = ([], false) := by
 refine if_neg ?_
 rintro ⟨h1, h2⟩
 rcases h with h | h
 ·rw [h] at h1; cases h1
 ·rw [h] at h2; cases h2
theorem fmtCR_yes {s : List Sig} {l : List (List UInt8)} (h1 : sigsB s = true) (h2 : cvB s.length l = true) : fmtCR s l = (covT s l, true) := if_pos ⟨h1, h2⟩
set_option maxHeartbeats 2000000 in
theorem iFmtCov_spec (s : List Sig) (l : List (List UInt8)) (hsl : s.length ≤ 1000000) (hsn : ∀ t, t ∈ s → t.name.length ≤ 1000000) (hl : l.length ≤ 1000000) (hb : ∀ c, c ∈ l → c.length ≤ 2000000) : ASpec Tryz.prog 24 [.d (vSigs s), .d (vSs l)] [] (Pure1 (.tup [aS (bstr (fmtCR s l).1), aT (fmtCR s l).2])) := by
 have hV1 := areSignals_spec s (by omega) (fun t ht => by have := hsn t ht; omega)
 have hV2 := iCov_spec s.length l hl hb
 have hR1 := fmtCR_no (s := s) (l := l)
 have hR2 := fun p q => fmtCR_yes (s := s) (l := l) p q
 have hT := fun p q => coverText_spec s l (SigOk.of p) q
 obtain ⟨G, hG⟩ : ∃ G, G = fmtCR s l := ⟨_, rfl⟩
 rw [← hG] at hR1 hR2 ⊢
 obtain ⟨b1, hb1⟩ : ∃ b, b = sigsB s := ⟨_, rfl⟩
 rw [← hb1] at hV1 hR1 hR2 hT
 obtain ⟨b2, hb2⟩ : ∃ b', b' = cvB s.length l := ⟨_, rfl⟩
 rw [← hb2] at hV2 hR1 hR2 hT
 clear hG hb1 hb2
 refine ASpec.of Tryz.func24 rfl rfl fun C hC => ?_
 refine AC.seq (AC.region ?_)
 refine AL.p (by exact as1 rfl) rfl ?_
 refine AL.p (by exact as1 rfl) rfl ?_
 refine AL.nil (th_n (AC.seq (AC.seq (AC.region ?_))))
 refine AL.p (by exact mv1 rfl) rfl ?_
 refine AL.q (by exact h_pure en_areSignals rfl rfl (by repeat (first | exact rfl | exact DLead.same | refine ⟨_, _, rfl, ?_, ?_⟩)) hV1 rfl) rfl ?_
 refine AL.p (by exact g_not rfl) rfl ?_
 refine AL.p (by exact mv1 rfl) rfl ?_
 refine AL.caseGB rfl rfl (fun h0 => ?_) (fun h0 => ?_)
 ·refine AL.not rfl rfl rfl rfl rfl ?_
  refine AL.not rfl rfl rfl rfl rfl ?_
  refine AL.not rfl rfl rfl rfl rfl ?_
  refine AL.not rfl rfl rfl rfl rfl ?_
  refine AL.not rfl rfl rfl rfl rfl ?_
  refine AL.p (by exact g_pickT (r := .d _) rfl rfl) rfl ?_
  refine AL.nil (th_n ?_)
  refine AC.condT rfl ?_
  refine AC.seq (AC.region ?_)
  refine AL.p (by exact as1 rfl) rfl ?_
  refine AL.p (by exact as1 rfl) rfl ?_
  refine AL.nil (th_n (AC.ret (th_r (bq_r ?_))))
  (have e := hR1 (.inl ((Bool.not_eq_true' _).mp h0)); exact ret2 rfl (by rw [e]; rfl) (by rw [e]))
 ·refine AL.yes rfl rfl rfl ?_
  refine AL.p (by exact mv1 rfl) rfl ?_
  refine AL.yes rfl rfl rfl ?_
  refine AL.p (by exact g_len_view (k := s.length) rfl rfl (sigsL_len _)) rfl ?_
  refine AL.yes rfl rfl rfl ?_
  refine AL.p (by exact mv1 rfl) rfl ?_
  refine AL.yes rfl rfl rfl ?_
  refine AL.q (by exact h_pure en_iCov rfl rfl (by repeat (first | exact rfl | exact DLead.same | refine ⟨_, _, rfl, ?_, ?_⟩)) hV2 rfl) rfl ?_
  refine AL.yes rfl rfl rfl ?_
  refine AL.p (by exact g_not rfl) rfl ?_
  refine AL.p (by exact g_pickF (r := .d _) rfl rfl) rfl ?_
  refine AL.nil (th_n ?_)
  refine AC.condB rfl (fun h1 => ?_) (fun h1 => ?_)
  ·refine AC.seq (AC.region ?_)
   refine AL.p (by exact as1 rfl) rfl ?_
   refine AL.p (by exact as1 rfl) rfl ?_
   refine AL.nil (th_n (AC.ret (th_r (bq_r ?_))))
   (have e := hR1 (.inr ((Bool.not_eq_true' _).mp h1)); exact ret2 rfl (by rw [e]; rfl) (by rw [e]))
  ·refine AC.skip (th_n (AC.seq ?_))
   have q1 : b1 = true := by simpa using h0
   have q2 : b2 = true := by simpa using h1
   have e := hR2 q1 q2
   have hTT := hT q1 q2
   refine AC.region ?_
   refine AL.p (by exact mv1 rfl) rfl ?_
   refine AL.p (by exact mv1 rfl) rfl ?_
   refine AL.q (by exact h_pure en_coverText rfl rfl (by repeat (first | exact rfl | exact DLead.same | refine ⟨_, _, rfl, ?_, ?_⟩)) hTT rfl) rfl ?_
   refine AL.p (by exact as1 rfl) rfl ?_
   refine AL.p (by exact as1 rfl) rfl ?_
   refine AL.nil (th_n (AC.ret (bq_r ?_)))
   exact ret2 rfl (by rw [e]) (by rw [e])
theorem en_iFmtCov : Enters Tryz.prog 24 := enters_of Tryz.func24 rfl rfl
set_option maxHeartbeats 2000000 in
theorem sFmtCov_spec (s : List Sig) (l : List (List UInt8)) (hsl : s.length ≤ 1000000) (hsn : ∀ t, t ∈ s → t.name.length ≤ 1000000) (hl : l.length ≤ 1000000) (hb : ∀ c, c ∈ l → c.length ≤ 2000000) : ASpec Tryz.prog 25 [.d (vSigs s), .d (vSs l)] [] (Pure1 (.tup [aS (bstr (fmtCR s l).1), aT (fmtCR s l).2])) := by
 have hV1 := l2Signals_spec s (by omega) (fun t ht => by have := hsn t ht; omega)
 have hV2 := l13Good_spec s.length l hl hb
 have hR1 := fmtCR_no (s := s) (l := l)
 have hR2 := fun p q => fmtCR_yes (s := s) (l := l) p q
 have hT := fun p q => l13Text_spec s l (SigOk.of p) q
 obtain ⟨G, hG⟩ : ∃ G, G = fmtCR s l := ⟨_, rfl⟩
 rw [← hG] at hR1 hR2 ⊢
 obtain ⟨b1, hb1⟩ : ∃ b, b = sigsB s := ⟨_, rfl⟩
 rw [← hb1] at hV1 hR1 hR2 hT
 obtain ⟨b2, hb2⟩ : ∃ b', b' = cvB s.length l := ⟨_, rfl⟩
 rw [← hb2] at hV2 hR1 hR2 hT
 clear hG hb1 hb2
 refine ASpec.of Tryz.func25 rfl rfl fun C hC => ?_
 refine AC.seq (AC.region ?_)
 refine AL.p (by exact as1 rfl) rfl ?_
 refine AL.p (by exact as1 rfl) rfl ?_
 refine AL.nil (th_n (AC.seq (AC.seq (AC.region ?_))))
 refine AL.p (by exact mv1 rfl) rfl ?_
 refine AL.q (by exact h_pure en_l2Signals rfl rfl (by repeat (first | exact rfl | exact DLead.same | refine ⟨_, _, rfl, ?_, ?_⟩)) hV1 rfl) rfl ?_
 refine AL.p (by exact g_not rfl) rfl ?_
 refine AL.p (by exact mv1 rfl) rfl ?_
 refine AL.caseGB rfl rfl (fun h0 => ?_) (fun h0 => ?_)
 ·refine AL.not rfl rfl rfl rfl rfl ?_
  refine AL.not rfl rfl rfl rfl rfl ?_
  refine AL.not rfl rfl rfl rfl rfl ?_
  refine AL.not rfl rfl rfl rfl rfl ?_
  refine AL.not rfl rfl rfl rfl rfl ?_
  refine AL.p (by exact g_pickT (r := .d _) rfl rfl) rfl ?_
  refine AL.nil (th_n ?_)
  refine AC.condT rfl ?_
  refine AC.seq (AC.region ?_)
  refine AL.p (by exact as1 rfl) rfl ?_
  refine AL.p (by exact as1 rfl) rfl ?_
  refine AL.nil (th_n (AC.ret (th_r (bq_r ?_))))
  (have e := hR1 (.inl ((Bool.not_eq_true' _).mp h0)); exact ret2 rfl (by rw [e]; rfl) (by rw [e]))
 ·refine AL.yes rfl rfl rfl ?_
  refine AL.p (by exact mv1 rfl) rfl ?_
  refine AL.yes rfl rfl rfl ?_
  refine AL.p (by exact g_len_view (k := s.length) rfl rfl (sigsL_len _)) rfl ?_
  refine AL.yes rfl rfl rfl ?_
  refine AL.p (by exact mv1 rfl) rfl ?_
  refine AL.yes rfl rfl rfl ?_
  refine AL.q (by exact h_pure en_l13Good rfl rfl (by repeat (first | exact rfl | exact DLead.same | refine ⟨_, _, rfl, ?_, ?_⟩)) hV2 rfl) rfl ?_
  refine AL.yes rfl rfl rfl ?_
  refine AL.p (by exact g_not rfl) rfl ?_
  refine AL.p (by exact g_pickF (r := .d _) rfl rfl) rfl ?_
  refine AL.nil (th_n ?_)
  refine AC.condB rfl (fun h1 => ?_) (fun h1 => ?_)
  ·refine AC.seq (AC.region ?_)
   refine AL.p (by exact as1 rfl) rfl ?_
   refine AL.p (by exact as1 rfl) rfl ?_
   refine AL.nil (th_n (AC.ret (th_r (bq_r ?_))))
   (have e := hR1 (.inr ((Bool.not_eq_true' _).mp h1)); exact ret2 rfl (by rw [e]; rfl) (by rw [e]))
  ·refine AC.skip (th_n (AC.seq ?_))
   have q1 : b1 = true := by simpa using h0
   have q2 : b2 = true := by simpa using h1
   have e := hR2 q1 q2
   have hTT := hT q1 q2
   refine AC.region ?_
   refine AL.p (by exact mv1 rfl) rfl ?_
   refine AL.p (by exact mv1 rfl) rfl ?_
   refine AL.q (by exact h_pure en_l13Text rfl rfl (by repeat (first | exact rfl | exact DLead.same | refine ⟨_, _, rfl, ?_, ?_⟩)) hTT rfl) rfl ?_
   refine AL.p (by exact as1 rfl) rfl ?_
   refine AL.p (by exact as1 rfl) rfl ?_
   refine AL.nil (th_n (AC.ret (bq_r ?_)))
   exact ret2 rfl (by rw [e]) (by rw [e])
theorem en_sFmtCov : Enters Tryz.prog 25 := enters_of Tryz.func25 rfl rfl
end Go.Proofs.YtoicgeakgfiobaaGreat
