/- Contracts of the functions of the program and of the reference, each proved by a walk through its code. -/
import Derived.Maps.AppendAt
import Derived.OwnWalk
import Derived.Deep.MidRow
import Derived.Laws.ResultCell
import Derived.Deep.Upon
import Derived.Great.FillDense
import Derived.Laws.Tables
import Derived.Laws.BytesArg
import Derived.Laws.MakeOwn
import Derived.Great.BuildSlice
import Derived.ArgAppend
import Derived.Deep.AppendSrc
import Derived.Orders
import Derived.Laws.IdiomStrings
import Derived.Lib.AppendZerosOnto
import Derived.ProofKit
import Derived.OpenShut
import Derived.Lib.SliceRun
import Derived.Laws.Small
import Derived.Laws.StructEq
import Derived.ChangeKeysEq
import Derived.Test.YtkfpoagjlaldgaaProg
import Derived.KernelRfl
import Derived.Sort.Grow
import Derived.Laws.RangeString
import Derived.Below
import Derived.Test.YtkfpoagjlaldgaaGPskKit
import Derived.Test.YtkfpoagjlaldgaaGPskRep
import Derived.Test.YtkfpoagjlaldgaaGPskEdges2
import Derived.Test.YtkfpoagjlaldgaaGPs2
set_option linter.all false
set_option maxRecDepth 20000
namespace Go.Proofs.Ytkfpoagjlaldgaa
open Go.RowKit

theorem en_partsOf : Enters Try.prog 16 := enters_of Try.func16 rfl rfl
theorem en_expanded : Enters Try.prog 17 := enters_of Try.func17 rfl rfl
theorem en_rowOf : Enters Try.prog 14 := enters_of Try.func14 rfl rfl
theorem en_l25Read : Enters Try.prog 22 := enters_of Try.func22 rfl rfl
theorem h_appendStr (acc new : List (List UInt8)) {s : ASt} {dst : Option Nat} {ty : Nat} {pos : String} {af : Array Edge} {gd : Option (Nat × Bool)} {x y : Operand} {f : Nat} {ids ids2 : List Nat} {gone : List (Nat × Option Chunk)}
    (hto : AppTo s x 9 1 (strL acc) ids gone) (harg : AppArg s y 1 (strL new) ids2) (h : (acc ++ new).length ≤ 100000000) (hnew : gone = [] → 0 < new.length) :
    NOp Try.prog (ids ++ ids2) s ⟨dst, .call { callee := .builtin .append, args := #[x, y], argTypes := #[22, 22] }, ty, pos, af, gd⟩ f ⟨.own f (acc ++ new).length, (f, some (.arr 9 1 (strL (acc ++ new)))) :: gone⟩ := by
  have := h_append (P := Try.prog) (s := s) (dst := dst) (ty := ty) (pos := pos) (af := af) (gd := gd) (x := x) (y := y) (f := f) (t := 22) (tx := 22) (k := (acc ++ new).length) rfl rfl rfl rfl rfl rfl hto harg (by simp) (by omega) (by show (acc ++ new).length * 16 ≤ _; omega) (fun h => by rw [strL_len]; exact hnew h)
  rw [show strL acc ++ strL new = strL (acc ++ new) by simp] at this
  exact this
theorem sownl (l : List (List UInt8)) : l.length ≤ (strL l).length := Nat.le_of_eq (List.length_map _).symm
theorem sownt (l : List (List UInt8)) : (strL l).take l.length = strL l := List.take_of_length_le (Nat.le_of_eq (List.length_map _))
/-- A part that a handshake makes an input, an output. -/
def insG (p : List UInt8 × UInt8) : List (List UInt8) := if p.2 = 33 then [p.1 ++ [97]] else if p.2 = 63 then [p.1 ++ [114]] else []
def outG (p : List UInt8 × UInt8) : List (List UInt8) := if p.2 = 33 then [p.1 ++ [114]] else if p.2 = 63 then [p.1 ++ [97]] else []
theorem fm_take {α β : Type} {l : List α} (g : α → List β) {k : Nat} (hk : k < l.length) : (l.take (k + 1)).flatMap g = (l.take k).flatMap g ++ g l[k] := by
  rw [List.take_add_one, List.getElem?_eq_getElem hk, List.flatMap_append]; simp
theorem insG_len (p : List UInt8 × UInt8) : (insG p).length ≤ 1 := by unfold insG; split <;> (try split) <;> simp
theorem outG_len (p : List UInt8 × UInt8) : (outG p).length ≤ 1 := by unfold outG; split <;> (try split) <;> simp
theorem fm_len {α β : Type} (g : α → List β) (hg : ∀ x, (g x).length ≤ 1) : ∀ l : List α, (l.flatMap g).length ≤ l.length
  | [] => Nat.zero_le _
  | x :: l => by
    have h1 := fm_len g hg l
    have h2 := hg x
    simp only [List.flatMap_cons, List.length_append, List.length_cons]
    omega
theorem u8_33 {a : UInt8} : (a.toNat : Int) = 33 ↔ a = 33 := ⟨fun h => UInt8.toNat_inj.1 (by show a.toNat = 33; omega), fun h => by subst h; rfl⟩
theorem u8_63 {a : UInt8} : (a.toNat : Int) = 63 ↔ a = 63 := ⟨fun h => UInt8.toNat_inj.1 (by show a.toNat = 63; omega), fun h => by subst h; rfl⟩
theorem ends33 {nm : List UInt8} {mk : UInt8} (h : (mk.toNat : Int) = 33) : insG (nm, mk) = [nm ++ [97]] ∧ outG (nm, mk) = [nm ++ [114]] := by
  obtain rfl := u8_33.1 h
  exact ⟨rfl, rfl⟩
theorem ends63 {nm : List UInt8} {mk : UInt8} (h : (mk.toNat : Int) = 63) : insG (nm, mk) = [nm ++ [114]] ∧ outG (nm, mk) = [nm ++ [97]] := by
  obtain rfl := u8_63.1 h
  exact ⟨rfl, rfl⟩
theorem ends0 {nm : List UInt8} {mk : UInt8} (h : ¬ (mk.toNat : Int) = 33) (h2 : ¬ (mk.toNat : Int) = 63) : insG (nm, mk) = [] ∧ outG (nm, mk) = [] := by
  have h1 : ¬ mk = 33 := fun e => h (u8_33.2 e)
  have h2 : ¬ mk = 63 := fun e => h2 (u8_63.2 e)
  unfold insG outG
  exact ⟨by rw [if_neg h1, if_neg h2], by rw [if_neg h1, if_neg h2]⟩
set_option maxHeartbeats 4000000 in
theorem handEnds_spec (ts : List Tr) (hl : (partsRow ts).length ≤ 100000) (hz : ∀ p, p ∈ partsRow ts → p.2 ≠ 0) (hn : ∀ p, p ∈ partsP ts → p.1.length ≤ 1000) (v : Value) (S : Nat → Prop) : ASpec Try.prog 15 [.d (.val v)] [(0, .pred S fun w => SL S 40 tr w v ts)] (Fun1 (.tup [.d (vStr ((partsP ts).flatMap insG)), .d (vStr ((partsP ts).flatMap outG))]) [(0, .pred S fun w => SL S 40 tr w v ts)]) := by
  have hP := partsOf_T ts hl hz v S
  have hPl : (partsP ts).length ≤ 100000 := by unfold partsP; rw [List.length_map]; exact hl
  obtain ⟨K, hK⟩ : ∃ K : World → Prop, K = fun w => SL S 40 tr w v ts := ⟨_, rfl⟩
  rw [← hK] at hP ⊢
  obtain ⟨P, hPP⟩ : ∃ P, P = partsP ts := ⟨_, rfl⟩
  rw [← hPP] at hP hPl hn ⊢
  clear hK hPP hl hz
  refine ASpec.of Try.func15 rfl rfl fun C hC => ?_
  refine AC.seq ?_
  refine AC.region ?_
  refine AL.p (by first | exact as1 rfl | exact as2 rfl | exact as3 rfl | exact as4 rfl | exact as5 rfl | exact as6 rfl | exact as7 rfl | exact as8 rfl | exact as9 rfl | exact as10 rfl | exact as11 rfl) rfl ?_
  refine AL.p (by first | exact as1 rfl | exact as2 rfl | exact as3 rfl | exact as4 rfl | exact as5 rfl | exact as6 rfl | exact as7 rfl | exact as8 rfl | exact as9 rfl | exact as10 rfl | exact as11 rfl) rfl ?_
  refine AL.nil ?_
  refine th_n ?_
  refine AC.seq ?_
  refine AC.region ?_
  refine AL.q (by exact h_lit rfl rfl rfl rfl rfl rfl rfl rfl) rfl ?_
  refine AL.q (by exact h_lit rfl rfl rfl rfl rfl rfl rfl rfl) rfl ?_
  refine AL.p (by first | exact as1 rfl | exact as2 rfl | exact as3 rfl | exact as4 rfl | exact as5 rfl | exact as6 rfl | exact as7 rfl | exact as8 rfl | exact as9 rfl | exact as10 rfl | exact as11 rfl) rfl ?_
  refine AL.p (by first | exact as1 rfl | exact as2 rfl | exact as3 rfl | exact as4 rfl | exact as5 rfl | exact as6 rfl | exact as7 rfl | exact as8 rfl | exact as9 rfl | exact as10 rfl | exact as11 rfl) rfl ?_
  refine AL.nil ?_
  refine th_n ?_
  refine AC.seq ?_
  refine AC.seq ?_
  refine AC.region ?_
  refine AL.p (by first | exact mv1 rfl | exact mv2 rfl | exact mv3 rfl | exact mv4 rfl | exact mv5 rfl | exact mv6 rfl | exact mv7 rfl | exact mv8 rfl | exact mv9 rfl | exact mv10 rfl | exact mv11 rfl) rfl ?_
  refine AL.q (by exact h_fun (cs := [0]) en_partsOf rfl rfl (by repeat (first | exact rfl | exact DLead.same | exact DLead.nil | refine ⟨_, _, rfl, ?_, ?_⟩ | refine ⟨_, rfl, ?_⟩)) (by repeat (first | exact True.intro | refine And.intro ?_ ?_ | exact DLead.same | exact DLead.eqI (by omega) | exact DLead.eqI (by dsimp only; omega) | exact DLead.nil | exact rfl | refine ⟨_, _, rfl, rfl, ?_⟩ | refine ⟨_, rfl, ?_⟩ | refine ⟨_, _, rfl, ?_, ?_⟩)) hP rfl rfl rfl rfl) rfl ?_
  refine AL.p (by exact g_len_view (k := P.length) rfl rfl (partsL_len _)) rfl ?_
  refine AL.p (by first | exact mv1 rfl | exact mv2 rfl | exact mv3 rfl | exact mv4 rfl | exact mv5 rfl | exact mv6 rfl | exact mv7 rfl | exact mv8 rfl | exact mv9 rfl | exact mv10 rfl | exact mv11 rfl) rfl ?_
  refine AL.nil ?_
  refine th_n ?_
  refine AC.block ?_
  refine AC.loop (ι := Nat) (fun k => ⟨50, 208, [(4, .own 100 ((P.take k).flatMap insG).length), (5, .own 101 ((P.take k).flatMap outG).length), (11, .d (vParts P)), (12, aI P.length), (13, aI k)], [(100, some (.arr 9 1 (strL ((P.take k).flatMap insG)))), (101, some (.arr 9 1 (strL ((P.take k).flatMap outG)))), (0, some (.pred S K))]⟩) (fun k => k ≤ P.length) (fun k => P.length - k) (0) ?_ (Nat.zero_le _) ?_
  · exact Weak.ren _ [(100, _), (101, _)] hC rfl (by repeat (first | exact True.intro | refine And.intro ?_ ?_ | exact DLead.same | exact DLead.eqI (by omega) | exact DLead.eqI (by dsimp only; omega) | exact DLead.nil | exact rfl | refine ⟨_, _, rfl, rfl, ?_⟩ | refine ⟨_, rfl, ?_⟩ | refine ⟨_, _, rfl, ?_, ?_⟩)) (by repeat (first | exact True.intro | refine And.intro ?_ ?_ | exact DLead.same | exact DLead.eqI (by omega) | exact DLead.eqI (by dsimp only; omega) | exact DLead.nil | exact rfl | refine ⟨_, _, rfl, rfl, ?_⟩ | refine ⟨_, rfl, ?_⟩ | refine ⟨_, _, rfl, ?_, ?_⟩)) rfl rfl rfl
  · intro k hk
    refine AC.seq ?_
    refine AC.region ?_
    refine AL.p (by first | exact g_cmp rfl rfl rfl | exact g_scmp rfl rfl rfl | exact g_eqB rfl rfl rfl | exact g_neB rfl rfl rfl) rfl ?_
    refine AL.nil ?_
    refine th_n ?_
    refine AC.seq ?_
    first | refine AC.condD rfl (fun h0 => ?_) (fun h0 => ?_) | refine AC.condND rfl (fun h0 => ?_) (fun h0 => ?_) | refine AC.condB rfl (fun h0 => ?_) (fun h0 => ?_) | refine AC.condNB rfl (fun h0 => ?_) (fun h0 => ?_)
    · refine AC.skip ?_
      refine th_n ?_
      refine AC.seq ?_
      refine AC.block ?_
      refine AC.seq ?_
      have hk1 : k < P.length := by omega
      have hget := partsL_get hk1
      have hin := fm_take insG hk1
      have hout := fm_take outG hk1
      have hnk := hn _ (List.getElem_mem hk1)
      have hl1 := fm_len insG insG_len (P.take k)
      have hl2 := fm_len outG outG_len (P.take k)
      have hlt : (P.take k).length ≤ P.length := by rw [List.length_take]; omega
      obtain ⟨A, hA⟩ : ∃ A, A = (P.take k).flatMap insG := ⟨_, rfl⟩
      obtain ⟨B, hB⟩ : ∃ B, B = (P.take k).flatMap outG := ⟨_, rfl⟩
      rw [← hA] at hin hl1 ⊢
      rw [← hB] at hout hl2 ⊢
      obtain ⟨⟨nm, mk⟩, hx⟩ : ∃ x, x = P[k] := ⟨_, rfl⟩
      rw [← hx] at hget hin hout hnk
      dsimp only at hget hin hout hnk
      refine AC.region ?_
      refine AL.p (by first | exact g_ia_view rfl rfl rfl rfl rfl (by first | rfl | assumption) (by first | assumption | rfl) | exact g_ia_own rfl rfl rfl rfl rfl (by first | rfl | assumption) (by omega) (by first | exact Nat.mul_one _ | rfl | omega)) rfl ?_
      refine AL.p (by first | exact g_load_ref rfl rfl rfl | exact g_load_ptr rfl rfl rfl rfl rfl | exact g_load_refN rfl rfl rfl rfl | exact g_load_ptrN rfl rfl rfl rfl rfl | exact g_load_arr1 rfl rfl rfl rfl (by assumption) | exact g_load_arr rfl rfl rfl rfl (by first | rfl | omega) (by first | assumption | rfl) (by first | assumption | rfl)) rfl ?_
      refine AL.q (by exact h_alloc rfl) rfl ?_
      refine AL.q (by first | exact h_store rfl rfl rfl rfl rfl rfl | exact h_store_arr1 rfl rfl rfl rfl (by first | exact .same | exact .nil) (by assumption) | exact h_store_arr rfl rfl rfl rfl (by first | exact .same | exact .nil) (by first | rfl | omega) (by first | assumption | rfl) (by omega)) rfl ?_
      refine AL.nil ?_
      refine th_n ?_
      refine AC.seq ?_
      refine AC.region ?_
      refine AL.p (by first | exact g_fa_ref rfl rfl rfl rfl rfl rfl | exact g_fa_ptr rfl rfl rfl rfl rfl) rfl ?_
      refine AL.p (by first | exact g_load_ref rfl rfl rfl | exact g_load_ptr rfl rfl rfl rfl rfl | exact g_load_refN rfl rfl rfl rfl | exact g_load_ptrN rfl rfl rfl rfl rfl | exact g_load_arr1 rfl rfl rfl rfl (by assumption) | exact g_load_arr rfl rfl rfl rfl (by first | rfl | omega) (by first | assumption | rfl) (by first | assumption | rfl)) rfl ?_
      refine AL.nil ?_
      refine th_n ?_
      refine AC.block ?_
      refine AC.seq ?_
      refine AC.region ?_
      refine AL.p (by first | exact g_cmp rfl rfl rfl | exact g_scmp rfl rfl rfl | exact g_eqB rfl rfl rfl | exact g_neB rfl rfl rfl) rfl ?_
      refine AL.p (by first | exact as1 rfl | exact as2 rfl | exact as3 rfl | exact as4 rfl | exact as5 rfl | exact as6 rfl | exact as7 rfl | exact as8 rfl | exact as9 rfl | exact as10 rfl | exact as11 rfl) rfl ?_
      refine AL.nil ?_
      refine th_n ?_
      first | refine AC.condD rfl (fun h1 => ?_) (fun h1 => ?_) | refine AC.condND rfl (fun h1 => ?_) (fun h1 => ?_) | refine AC.condB rfl (fun h1 => ?_) (fun h1 => ?_) | refine AC.condNB rfl (fun h1 => ?_) (fun h1 => ?_)
      · refine AC.drawn' mixed_ok [[], [], [1], [1,2], [1,2,3], [0,1,2,3,4], [], [], [7], [7,8], [7,8,9], [0,1,2,3,4,5,6,7,8,9,10], [0,1,2,3,4,5,6,7,8,9,10,11], [0,1,2,3,4,5,6,7,8,9,10,11,12]] (by decide) ?_
        refine DF.op 0 [] 14 rfl rfl rfl (.free rfl (NOp.of (by first | exact mv1 rfl | exact mv2 rfl | exact mv3 rfl | exact mv4 rfl | exact mv5 rfl | exact mv6 rfl | exact mv7 rfl | exact mv8 rfl | exact mv9 rfl | exact mv10 rfl | exact mv11 rfl))) rfl ?_
        refine DF.op 1 [] 14 rfl rfl rfl (.free rfl (NOp.of (by first | exact g_fa_ref rfl rfl rfl rfl rfl rfl | exact g_fa_ptr rfl rfl rfl rfl rfl))) rfl ?_
        refine DF.op 2 [1] 14 rfl rfl rfl (.free rfl (NOp.of (by first | exact g_load_ref rfl rfl rfl | exact g_load_ptr rfl rfl rfl rfl rfl | exact g_load_refN rfl rfl rfl rfl | exact g_load_ptrN rfl rfl rfl rfl rfl | exact g_load_arr1 rfl rfl rfl rfl (by assumption) | exact g_load_arr rfl rfl rfl rfl (by first | rfl | omega) (by first | assumption | rfl) (by first | assumption | rfl)))) rfl ?_
        refine DF.op 3 [1,2] 14 rfl rfl rfl (.free rfl (NOp.of (by exact g_saddB (a := nm) (b := [97]) rfl rfl (by simp only [List.length_cons, List.length_nil]; omega)))) rfl ?_
        refine DF.op 4 [1,2,3] 14 rfl rfl rfl (.free rfl (by exact h_litF rfl rfl rfl rfl rfl rfl rfl rfl)) rfl ?_
        refine DF.op 5 [0,1,2,3,4] 14 rfl rfl rfl (.free rfl (by exact h_appendStr A [nm ++ [97]] (.own rfl rfl (strL_len _).symm) (.view rfl) (by rw [List.length_append]; simp only [List.length_cons, List.length_nil]; omega) (by simp))) rfl ?_
        refine DF.op 6 [] 14 rfl rfl rfl (.free rfl (NOp.of (by first | exact mv1 rfl | exact mv2 rfl | exact mv3 rfl | exact mv4 rfl | exact mv5 rfl | exact mv6 rfl | exact mv7 rfl | exact mv8 rfl | exact mv9 rfl | exact mv10 rfl | exact mv11 rfl))) rfl ?_
        refine DF.op 7 [] 14 rfl rfl rfl (.free rfl (NOp.of (by first | exact g_fa_ref rfl rfl rfl rfl rfl rfl | exact g_fa_ptr rfl rfl rfl rfl rfl))) rfl ?_
        refine DF.op 8 [7] 14 rfl rfl rfl (.free rfl (NOp.of (by first | exact g_load_ref rfl rfl rfl | exact g_load_ptr rfl rfl rfl rfl rfl | exact g_load_refN rfl rfl rfl rfl | exact g_load_ptrN rfl rfl rfl rfl rfl | exact g_load_arr1 rfl rfl rfl rfl (by assumption) | exact g_load_arr rfl rfl rfl rfl (by first | rfl | omega) (by first | assumption | rfl) (by first | assumption | rfl)))) rfl ?_
        refine DF.op 9 [7,8] 14 rfl rfl rfl (.free rfl (NOp.of (by exact g_saddB (a := nm) (b := [114]) rfl rfl (by simp only [List.length_cons, List.length_nil]; omega)))) rfl ?_
        refine DF.op 10 [7,8,9] 14 rfl rfl rfl (.free rfl (by exact h_litF rfl rfl rfl rfl rfl rfl rfl rfl)) rfl ?_
        refine DF.op 11 [0,1,2,3,4,5,6,7,8,9,10] 14 rfl rfl rfl (.free rfl (by exact h_appendStr B [nm ++ [114]] (.own rfl rfl (strL_len _).symm) (.view rfl) (by rw [List.length_append]; simp only [List.length_cons, List.length_nil]; omega) (by simp))) rfl ?_
        refine DF.op 12 [0,1,2,3,4,5,6,7,8,9,10,11] 14 rfl rfl rfl (.free rfl (NOp.of (by first | exact as1 rfl | exact as2 rfl | exact as3 rfl | exact as4 rfl | exact as5 rfl | exact as6 rfl | exact as7 rfl | exact as8 rfl | exact as9 rfl | exact as10 rfl | exact as11 rfl))) rfl ?_
        refine DF.op 13 [0,1,2,3,4,5,6,7,8,9,10,11,12] 14 rfl rfl rfl (.free rfl (NOp.of (by first | exact as1 rfl | exact as2 rfl | exact as3 rfl | exact as4 rfl | exact as5 rfl | exact as6 rfl | exact as7 rfl | exact as8 rfl | exact as9 rfl | exact as10 rfl | exact as11 rfl))) rfl ?_
        refine DF.fin (ps := [(0, 1), (0, 2), (0, 3), (0, 4), (0, 6), (0, 7), (0, 8), (0, 9), (0, 10), (1, 0), (1, 6), (1, 7), (1, 8), (1, 9), (1, 10), (2, 0), (2, 6), (2, 7), (2, 8), (2, 9), (2, 10), (3, 0), (3, 6), (3, 7), (3, 8), (3, 9), (3, 10), (4, 0), (4, 6), (4, 7), (4, 8), (4, 9), (4, 10), (5, 6), (5, 7), (5, 8), (5, 9), (5, 10), (6, 0), (6, 1), (6, 2), (6, 3), (6, 4), (6, 5), (6, 7), (6, 8), (6, 9), (6, 10), (7, 0), (7, 1), (7, 2), (7, 3), (7, 4), (7, 5), (7, 6), (8, 0), (8, 1), (8, 2), (8, 3), (8, 4), (8, 5), (8, 6), (9, 0), (9, 1), (9, 2), (9, 3), (9, 4), (9, 5), (9, 6), (10, 0), (10, 1), (10, 2), (10, 3), (10, 4), (10, 5), (10, 6)]) 14 rfl (by decide +kernel) (by decide +kernel) (by rfl) ?_
        refine ib_n ?_
        refine ib_n ?_
        refine th_n ?_
        refine AC.region ?_
        refine AL.p (by first | exact g_arith rfl rfl rfl (by first | exact wrap_i64 (by omega) | exact wrap_u8 (by omega) | exact wrap_u64 (by omega) | rfl) | exact g_sadd rfl rfl (by first | assumption | omega | (simp only [ByteArray.size_append, bstr_size, List.length_take, List.length_drop, List.length_cons, List.length_nil]; omega))) rfl ?_
        refine AL.p (by first | exact mv1 rfl | exact mv2 rfl | exact mv3 rfl | exact mv4 rfl | exact mv5 rfl | exact mv6 rfl | exact mv7 rfl | exact mv8 rfl | exact mv9 rfl | exact mv10 rfl | exact mv11 rfl) rfl ?_
        refine AL.nil ?_
        refine th_n ?_
        first | (have w := ends33 (nm := nm) h1; rw [w.1] at hin; rw [w.2] at hout; exact ⟨k + 1, hk1, by omega, by dsimp only; rw [hin, hout]; exact Weak.ren _ [(100, _), (101, _)] hC rfl (by repeat (first | exact True.intro | refine And.intro ?_ ?_ | exact DLead.same | exact DLead.eqI (by omega) | exact DLead.eqI (by dsimp only; omega) | exact DLead.nil | exact rfl | refine ⟨_, _, rfl, rfl, ?_⟩ | refine ⟨_, rfl, ?_⟩ | refine ⟨_, _, rfl, ?_, ?_⟩)) (by repeat (first | exact True.intro | refine And.intro ?_ ?_ | exact DLead.same | exact DLead.eqI (by omega) | exact DLead.eqI (by dsimp only; omega) | exact DLead.nil | exact rfl | refine ⟨_, _, rfl, rfl, ?_⟩ | refine ⟨_, rfl, ?_⟩ | refine ⟨_, _, rfl, ?_, ?_⟩)) rfl rfl rfl⟩) | (have w := ends63 (nm := nm) h2; rw [w.1] at hin; rw [w.2] at hout; exact ⟨k + 1, hk1, by omega, by dsimp only; rw [hin, hout]; exact Weak.ren _ [(100, _), (101, _)] hC rfl (by repeat (first | exact True.intro | refine And.intro ?_ ?_ | exact DLead.same | exact DLead.eqI (by omega) | exact DLead.eqI (by dsimp only; omega) | exact DLead.nil | exact rfl | refine ⟨_, _, rfl, rfl, ?_⟩ | refine ⟨_, rfl, ?_⟩ | refine ⟨_, _, rfl, ?_, ?_⟩)) (by repeat (first | exact True.intro | refine And.intro ?_ ?_ | exact DLead.same | exact DLead.eqI (by omega) | exact DLead.eqI (by dsimp only; omega) | exact DLead.nil | exact rfl | refine ⟨_, _, rfl, rfl, ?_⟩ | refine ⟨_, rfl, ?_⟩ | refine ⟨_, _, rfl, ?_, ?_⟩)) rfl rfl rfl⟩) | (have w := ends0 (nm := nm) h1 h2; rw [w.1, List.append_nil] at hin; rw [w.2, List.append_nil] at hout; exact ⟨k + 1, hk1, by omega, by dsimp only; rw [hin, hout]; exact Weak.ren _ [(100, _), (101, _)] hC rfl (by repeat (first | exact True.intro | refine And.intro ?_ ?_ | exact DLead.same | exact DLead.eqI (by omega) | exact DLead.eqI (by dsimp only; omega) | exact DLead.nil | exact rfl | refine ⟨_, _, rfl, rfl, ?_⟩ | refine ⟨_, rfl, ?_⟩ | refine ⟨_, _, rfl, ?_, ?_⟩)) (by repeat (first | exact True.intro | refine And.intro ?_ ?_ | exact DLead.same | exact DLead.eqI (by omega) | exact DLead.eqI (by dsimp only; omega) | exact DLead.nil | exact rfl | refine ⟨_, _, rfl, rfl, ?_⟩ | refine ⟨_, rfl, ?_⟩ | refine ⟨_, _, rfl, ?_, ?_⟩)) rfl rfl rfl⟩)
      · refine AC.seq ?_
        refine AC.region ?_
        refine AL.p (by first | exact g_cmp rfl rfl rfl | exact g_scmp rfl rfl rfl | exact g_eqB rfl rfl rfl | exact g_neB rfl rfl rfl) rfl ?_
        refine AL.p (by first | exact as1 rfl | exact as2 rfl | exact as3 rfl | exact as4 rfl | exact as5 rfl | exact as6 rfl | exact as7 rfl | exact as8 rfl | exact as9 rfl | exact as10 rfl | exact as11 rfl) rfl ?_
        refine AL.nil ?_
        refine th_n ?_
        first | refine AC.condD rfl (fun h2 => ?_) (fun h2 => ?_) | refine AC.condND rfl (fun h2 => ?_) (fun h2 => ?_) | refine AC.condB rfl (fun h2 => ?_) (fun h2 => ?_) | refine AC.condNB rfl (fun h2 => ?_) (fun h2 => ?_)
        · refine AC.drawn' mixed_ok [[], [], [1], [1,2], [1,2,3], [0,1,2,3,4], [], [], [7], [7,8], [7,8,9], [0,1,2,3,4,5,6,7,8,9,10], [0,1,2,3,4,5,6,7,8,9,10,11], [0,1,2,3,4,5,6,7,8,9,10,11,12]] (by decide) ?_
          refine DF.op 0 [] 14 rfl rfl rfl (.free rfl (NOp.of (by first | exact mv1 rfl | exact mv2 rfl | exact mv3 rfl | exact mv4 rfl | exact mv5 rfl | exact mv6 rfl | exact mv7 rfl | exact mv8 rfl | exact mv9 rfl | exact mv10 rfl | exact mv11 rfl))) rfl ?_
          refine DF.op 1 [] 14 rfl rfl rfl (.free rfl (NOp.of (by first | exact g_fa_ref rfl rfl rfl rfl rfl rfl | exact g_fa_ptr rfl rfl rfl rfl rfl))) rfl ?_
          refine DF.op 2 [1] 14 rfl rfl rfl (.free rfl (NOp.of (by first | exact g_load_ref rfl rfl rfl | exact g_load_ptr rfl rfl rfl rfl rfl | exact g_load_refN rfl rfl rfl rfl | exact g_load_ptrN rfl rfl rfl rfl rfl | exact g_load_arr1 rfl rfl rfl rfl (by assumption) | exact g_load_arr rfl rfl rfl rfl (by first | rfl | omega) (by first | assumption | rfl) (by first | assumption | rfl)))) rfl ?_
          refine DF.op 3 [1,2] 14 rfl rfl rfl (.free rfl (NOp.of (by exact g_saddB (a := nm) (b := [114]) rfl rfl (by simp only [List.length_cons, List.length_nil]; omega)))) rfl ?_
          refine DF.op 4 [1,2,3] 14 rfl rfl rfl (.free rfl (by exact h_litF rfl rfl rfl rfl rfl rfl rfl rfl)) rfl ?_
          refine DF.op 5 [0,1,2,3,4] 14 rfl rfl rfl (.free rfl (by exact h_appendStr A [nm ++ [114]] (.own rfl rfl (strL_len _).symm) (.view rfl) (by rw [List.length_append]; simp only [List.length_cons, List.length_nil]; omega) (by simp))) rfl ?_
          refine DF.op 6 [] 14 rfl rfl rfl (.free rfl (NOp.of (by first | exact mv1 rfl | exact mv2 rfl | exact mv3 rfl | exact mv4 rfl | exact mv5 rfl | exact mv6 rfl | exact mv7 rfl | exact mv8 rfl | exact mv9 rfl | exact mv10 rfl | exact mv11 rfl))) rfl ?_
          refine DF.op 7 [] 14 rfl rfl rfl (.free rfl (NOp.of (by first | exact g_fa_ref rfl rfl rfl rfl rfl rfl | exact g_fa_ptr rfl rfl rfl rfl rfl))) rfl ?_
          refine DF.op 8 [7] 14 rfl rfl rfl (.free rfl (NOp.of (by first | exact g_load_ref rfl rfl rfl | exact g_load_ptr rfl rfl rfl rfl rfl | exact g_load_refN rfl rfl rfl rfl | exact g_load_ptrN rfl rfl rfl rfl rfl | exact g_load_arr1 rfl rfl rfl rfl (by assumption) | exact g_load_arr rfl rfl rfl rfl (by first | rfl | omega) (by first | assumption | rfl) (by first | assumption | rfl)))) rfl ?_
          refine DF.op 9 [7,8] 14 rfl rfl rfl (.free rfl (NOp.of (by exact g_saddB (a := nm) (b := [97]) rfl rfl (by simp only [List.length_cons, List.length_nil]; omega)))) rfl ?_
          refine DF.op 10 [7,8,9] 14 rfl rfl rfl (.free rfl (by exact h_litF rfl rfl rfl rfl rfl rfl rfl rfl)) rfl ?_
          refine DF.op 11 [0,1,2,3,4,5,6,7,8,9,10] 14 rfl rfl rfl (.free rfl (by exact h_appendStr B [nm ++ [97]] (.own rfl rfl (strL_len _).symm) (.view rfl) (by rw [List.length_append]; simp only [List.length_cons, List.length_nil]; omega) (by simp))) rfl ?_
          refine DF.op 12 [0,1,2,3,4,5,6,7,8,9,10,11] 14 rfl rfl rfl (.free rfl (NOp.of (by first | exact as1 rfl | exact as2 rfl | exact as3 rfl | exact as4 rfl | exact as5 rfl | exact as6 rfl | exact as7 rfl | exact as8 rfl | exact as9 rfl | exact as10 rfl | exact as11 rfl))) rfl ?_
          refine DF.op 13 [0,1,2,3,4,5,6,7,8,9,10,11,12] 14 rfl rfl rfl (.free rfl (NOp.of (by first | exact as1 rfl | exact as2 rfl | exact as3 rfl | exact as4 rfl | exact as5 rfl | exact as6 rfl | exact as7 rfl | exact as8 rfl | exact as9 rfl | exact as10 rfl | exact as11 rfl))) rfl ?_
          refine DF.fin (ps := [(0, 1), (0, 2), (0, 3), (0, 4), (0, 6), (0, 7), (0, 8), (0, 9), (0, 10), (1, 0), (1, 6), (1, 7), (1, 8), (1, 9), (1, 10), (2, 0), (2, 6), (2, 7), (2, 8), (2, 9), (2, 10), (3, 0), (3, 6), (3, 7), (3, 8), (3, 9), (3, 10), (4, 0), (4, 6), (4, 7), (4, 8), (4, 9), (4, 10), (5, 6), (5, 7), (5, 8), (5, 9), (5, 10), (6, 0), (6, 1), (6, 2), (6, 3), (6, 4), (6, 5), (6, 7), (6, 8), (6, 9), (6, 10), (7, 0), (7, 1), (7, 2), (7, 3), (7, 4), (7, 5), (7, 6), (8, 0), (8, 1), (8, 2), (8, 3), (8, 4), (8, 5), (8, 6), (9, 0), (9, 1), (9, 2), (9, 3), (9, 4), (9, 5), (9, 6), (10, 0), (10, 1), (10, 2), (10, 3), (10, 4), (10, 5), (10, 6)]) 14 rfl (by decide +kernel) (by decide +kernel) (by rfl) ?_
          refine ib_n ?_
          refine ib_n ?_
          refine th_n ?_
          refine AC.region ?_
          refine AL.p (by first | exact g_arith rfl rfl rfl (by first | exact wrap_i64 (by omega) | exact wrap_u8 (by omega) | exact wrap_u64 (by omega) | rfl) | exact g_sadd rfl rfl (by first | assumption | omega | (simp only [ByteArray.size_append, bstr_size, List.length_take, List.length_drop, List.length_cons, List.length_nil]; omega))) rfl ?_
          refine AL.p (by first | exact mv1 rfl | exact mv2 rfl | exact mv3 rfl | exact mv4 rfl | exact mv5 rfl | exact mv6 rfl | exact mv7 rfl | exact mv8 rfl | exact mv9 rfl | exact mv10 rfl | exact mv11 rfl) rfl ?_
          refine AL.nil ?_
          refine th_n ?_
          first | (have w := ends33 (nm := nm) h1; rw [w.1] at hin; rw [w.2] at hout; exact ⟨k + 1, hk1, by omega, by dsimp only; rw [hin, hout]; exact Weak.ren _ [(100, _), (101, _)] hC rfl (by repeat (first | exact True.intro | refine And.intro ?_ ?_ | exact DLead.same | exact DLead.eqI (by omega) | exact DLead.eqI (by dsimp only; omega) | exact DLead.nil | exact rfl | refine ⟨_, _, rfl, rfl, ?_⟩ | refine ⟨_, rfl, ?_⟩ | refine ⟨_, _, rfl, ?_, ?_⟩)) (by repeat (first | exact True.intro | refine And.intro ?_ ?_ | exact DLead.same | exact DLead.eqI (by omega) | exact DLead.eqI (by dsimp only; omega) | exact DLead.nil | exact rfl | refine ⟨_, _, rfl, rfl, ?_⟩ | refine ⟨_, rfl, ?_⟩ | refine ⟨_, _, rfl, ?_, ?_⟩)) rfl rfl rfl⟩) | (have w := ends63 (nm := nm) h2; rw [w.1] at hin; rw [w.2] at hout; exact ⟨k + 1, hk1, by omega, by dsimp only; rw [hin, hout]; exact Weak.ren _ [(100, _), (101, _)] hC rfl (by repeat (first | exact True.intro | refine And.intro ?_ ?_ | exact DLead.same | exact DLead.eqI (by omega) | exact DLead.eqI (by dsimp only; omega) | exact DLead.nil | exact rfl | refine ⟨_, _, rfl, rfl, ?_⟩ | refine ⟨_, rfl, ?_⟩ | refine ⟨_, _, rfl, ?_, ?_⟩)) (by repeat (first | exact True.intro | refine And.intro ?_ ?_ | exact DLead.same | exact DLead.eqI (by omega) | exact DLead.eqI (by dsimp only; omega) | exact DLead.nil | exact rfl | refine ⟨_, _, rfl, rfl, ?_⟩ | refine ⟨_, rfl, ?_⟩ | refine ⟨_, _, rfl, ?_, ?_⟩)) rfl rfl rfl⟩) | (have w := ends0 (nm := nm) h1 h2; rw [w.1, List.append_nil] at hin; rw [w.2, List.append_nil] at hout; exact ⟨k + 1, hk1, by omega, by dsimp only; rw [hin, hout]; exact Weak.ren _ [(100, _), (101, _)] hC rfl (by repeat (first | exact True.intro | refine And.intro ?_ ?_ | exact DLead.same | exact DLead.eqI (by omega) | exact DLead.eqI (by dsimp only; omega) | exact DLead.nil | exact rfl | refine ⟨_, _, rfl, rfl, ?_⟩ | refine ⟨_, rfl, ?_⟩ | refine ⟨_, _, rfl, ?_, ?_⟩)) (by repeat (first | exact True.intro | refine And.intro ?_ ?_ | exact DLead.same | exact DLead.eqI (by omega) | exact DLead.eqI (by dsimp only; omega) | exact DLead.nil | exact rfl | refine ⟨_, _, rfl, rfl, ?_⟩ | refine ⟨_, rfl, ?_⟩ | refine ⟨_, _, rfl, ?_, ?_⟩)) rfl rfl rfl⟩)
        · refine AC.skip ?_
          refine ib_n ?_
          refine ib_n ?_
          refine th_n ?_
          refine AC.region ?_
          refine AL.p (by first | exact g_arith rfl rfl rfl (by first | exact wrap_i64 (by omega) | exact wrap_u8 (by omega) | exact wrap_u64 (by omega) | rfl) | exact g_sadd rfl rfl (by first | assumption | omega | (simp only [ByteArray.size_append, bstr_size, List.length_take, List.length_drop, List.length_cons, List.length_nil]; omega))) rfl ?_
          refine AL.p (by first | exact mv1 rfl | exact mv2 rfl | exact mv3 rfl | exact mv4 rfl | exact mv5 rfl | exact mv6 rfl | exact mv7 rfl | exact mv8 rfl | exact mv9 rfl | exact mv10 rfl | exact mv11 rfl) rfl ?_
          refine AL.nil ?_
          refine th_n ?_
          first | (have w := ends33 (nm := nm) h1; rw [w.1] at hin; rw [w.2] at hout; exact ⟨k + 1, hk1, by omega, by dsimp only; rw [hin, hout]; exact Weak.ren _ [(100, _), (101, _)] hC rfl (by repeat (first | exact True.intro | refine And.intro ?_ ?_ | exact DLead.same | exact DLead.eqI (by omega) | exact DLead.eqI (by dsimp only; omega) | exact DLead.nil | exact rfl | refine ⟨_, _, rfl, rfl, ?_⟩ | refine ⟨_, rfl, ?_⟩ | refine ⟨_, _, rfl, ?_, ?_⟩)) (by repeat (first | exact True.intro | refine And.intro ?_ ?_ | exact DLead.same | exact DLead.eqI (by omega) | exact DLead.eqI (by dsimp only; omega) | exact DLead.nil | exact rfl | refine ⟨_, _, rfl, rfl, ?_⟩ | refine ⟨_, rfl, ?_⟩ | refine ⟨_, _, rfl, ?_, ?_⟩)) rfl rfl rfl⟩) | (have w := ends63 (nm := nm) h2; rw [w.1] at hin; rw [w.2] at hout; exact ⟨k + 1, hk1, by omega, by dsimp only; rw [hin, hout]; exact Weak.ren _ [(100, _), (101, _)] hC rfl (by repeat (first | exact True.intro | refine And.intro ?_ ?_ | exact DLead.same | exact DLead.eqI (by omega) | exact DLead.eqI (by dsimp only; omega) | exact DLead.nil | exact rfl | refine ⟨_, _, rfl, rfl, ?_⟩ | refine ⟨_, rfl, ?_⟩ | refine ⟨_, _, rfl, ?_, ?_⟩)) (by repeat (first | exact True.intro | refine And.intro ?_ ?_ | exact DLead.same | exact DLead.eqI (by omega) | exact DLead.eqI (by dsimp only; omega) | exact DLead.nil | exact rfl | refine ⟨_, _, rfl, rfl, ?_⟩ | refine ⟨_, rfl, ?_⟩ | refine ⟨_, _, rfl, ?_, ?_⟩)) rfl rfl rfl⟩) | (have w := ends0 (nm := nm) h1 h2; rw [w.1, List.append_nil] at hin; rw [w.2, List.append_nil] at hout; exact ⟨k + 1, hk1, by omega, by dsimp only; rw [hin, hout]; exact Weak.ren _ [(100, _), (101, _)] hC rfl (by repeat (first | exact True.intro | refine And.intro ?_ ?_ | exact DLead.same | exact DLead.eqI (by omega) | exact DLead.eqI (by dsimp only; omega) | exact DLead.nil | exact rfl | refine ⟨_, _, rfl, rfl, ?_⟩ | refine ⟨_, rfl, ?_⟩ | refine ⟨_, _, rfl, ?_, ?_⟩)) (by repeat (first | exact True.intro | refine And.intro ?_ ?_ | exact DLead.same | exact DLead.eqI (by omega) | exact DLead.eqI (by dsimp only; omega) | exact DLead.nil | exact rfl | refine ⟨_, _, rfl, rfl, ?_⟩ | refine ⟨_, rfl, ?_⟩ | refine ⟨_, _, rfl, ?_, ?_⟩)) rfl rfl rfl⟩)
    · refine AC.exit ?_
      refine th_e ?_
      refine th_e ?_
      refine ib_y ?_
      refine th_n ?_
      refine AC.seq ?_
      obtain rfl : k = P.length := by omega
      rw [List.take_length]
      refine AC.weak (Weak.freeze (i := 4) rfl rfl (sownl _) (sownt _)) ?_
      refine AC.weak (Weak.freeze (i := 5) rfl rfl (sownl _) (sownt _)) ?_
      refine AC.region ?_
      refine AL.p (by first | exact mv1 rfl | exact mv2 rfl | exact mv3 rfl | exact mv4 rfl | exact mv5 rfl | exact mv6 rfl | exact mv7 rfl | exact mv8 rfl | exact mv9 rfl | exact mv10 rfl | exact mv11 rfl) rfl ?_
      refine AL.p (by first | exact mv1 rfl | exact mv2 rfl | exact mv3 rfl | exact mv4 rfl | exact mv5 rfl | exact mv6 rfl | exact mv7 rfl | exact mv8 rfl | exact mv9 rfl | exact mv10 rfl | exact mv11 rfl) rfl ?_
      refine AL.p (by first | exact as1 rfl | exact as2 rfl | exact as3 rfl | exact as4 rfl | exact as5 rfl | exact as6 rfl | exact as7 rfl | exact as8 rfl | exact as9 rfl | exact as10 rfl | exact as11 rfl) rfl ?_
      refine AL.p (by first | exact as1 rfl | exact as2 rfl | exact as3 rfl | exact as4 rfl | exact as5 rfl | exact as6 rfl | exact as7 rfl | exact as8 rfl | exact as9 rfl | exact as10 rfl | exact as11 rfl) rfl ?_
      refine AL.nil ?_
      refine th_n ?_
      refine AC.ret ?_
      refine bq_r ?_
      exact retX [] rfl ⟨rfl, rfl⟩ (by repeat (first | exact rfl | exact DLead.same | exact DLead.nil | refine ⟨_, _, rfl, ?_, ?_⟩ | refine ⟨_, rfl, ?_⟩)) (by repeat (first | exact True.intro | refine And.intro ?_ ?_ | exact DLead.same | exact DLead.eqI (by omega) | exact DLead.eqI (by dsimp only; omega) | exact DLead.nil | exact rfl | refine ⟨_, _, rfl, rfl, ?_⟩ | refine ⟨_, rfl, ?_⟩ | refine ⟨_, _, rfl, ?_, ?_⟩)) rfl rfl
theorem en_handEnds : Enters Try.prog 15 := enters_of Try.func15 rfl rfl
/-- The words of the table's leaves. -/
def wordsL (ns : List Nd) : List (List UInt8) := (leafWords ns).map fun b => b.data.toList
theorem wordsL_take {ns : List Nd} {k : Nat} (hk : k < ns.length) : wordsL (ns.take (k + 1)) = wordsL (ns.take k) ++ (if (ns[k].kids.length : Int) = 0 then [ns[k].word.data.toList] else []) := by
  unfold wordsL
  rw [leafWords_take (List.getElem?_eq_getElem hk), List.map_append]
  congr 1
  unfold leafWords
  by_cases h : ns[k].kids = []
  · rw [if_pos (by rw [h]; rfl)]
    simp [h]
  · rw [if_neg (fun e => h (List.eq_nil_of_length_eq_zero (by omega)))]
    simp [h]
theorem wordsL_len (ns : List Nd) : (wordsL ns).length ≤ ns.length := by unfold wordsL; rw [List.length_map]; exact leafWords_len ns
set_option maxHeartbeats 4000000 in
theorem lpWords_spec (s : ByteArray) (b : Bool) (ns : List Nd) (hn : ns.length ≤ 100000) : ASpec Try.prog 24 [.ptr 0 0] [(0, .cells 51 [aS s, .dead, aT b, .d (vNds ns), .dead, .dead])] (Fun1 (.d (vStr (wordsL ns))) [(0, .cells 51 [aS s, .dead, aT b, .d (vNds ns), .dead, .dead])]) := by
  refine ASpec.of Try.func24 rfl rfl fun C hC => ?_
  refine AC.seq ?_
  refine AC.region ?_
  refine AL.p (by first | exact as1 rfl | exact as2 rfl | exact as3 rfl | exact as4 rfl | exact as5 rfl | exact as6 rfl | exact as7 rfl | exact as8 rfl | exact as9 rfl | exact as10 rfl | exact as11 rfl) rfl ?_
  refine AL.nil ?_
  refine th_n ?_
  refine AC.seq ?_
  refine AC.region ?_
  refine AL.p (by first | exact as1 rfl | exact as2 rfl | exact as3 rfl | exact as4 rfl | exact as5 rfl | exact as6 rfl | exact as7 rfl | exact as8 rfl | exact as9 rfl | exact as10 rfl | exact as11 rfl) rfl ?_
  refine AL.nil ?_
  refine th_n ?_
  refine AC.seq ?_
  refine AC.seq ?_
  refine AC.region ?_
  refine AL.p (by first | exact mv1 rfl | exact mv2 rfl | exact mv3 rfl | exact mv4 rfl | exact mv5 rfl | exact mv6 rfl | exact mv7 rfl | exact mv8 rfl | exact mv9 rfl | exact mv10 rfl | exact mv11 rfl) rfl ?_
  refine AL.p (by first | exact g_nilP rfl | exact g_nilR rfl) rfl ?_
  refine AL.p (by first | exact g_fa_ref rfl rfl rfl rfl rfl rfl | exact g_fa_ptr rfl rfl rfl rfl rfl) rfl ?_
  refine AL.p (by first | exact g_load_ref rfl rfl rfl | exact g_load_ptr rfl rfl rfl rfl rfl | exact g_load_refN rfl rfl rfl rfl | exact g_load_ptrN rfl rfl rfl rfl rfl | exact g_load_arr1 rfl rfl rfl rfl (by assumption) | exact g_load_arr rfl rfl rfl rfl (by first | rfl | omega) (by first | assumption | rfl) (by first | assumption | rfl)) rfl ?_
  refine AL.p (by exact g_len_view (k := ns.length) rfl rfl (ndsL_len _)) rfl ?_
  refine AL.p (by first | exact mv1 rfl | exact mv2 rfl | exact mv3 rfl | exact mv4 rfl | exact mv5 rfl | exact mv6 rfl | exact mv7 rfl | exact mv8 rfl | exact mv9 rfl | exact mv10 rfl | exact mv11 rfl) rfl ?_
  refine AL.nil ?_
  refine th_n ?_
  refine AC.block ?_
  refine AC.loop (ι := Nat) (fun k => ⟨26, 208, [(3, .own 100 (wordsL (ns.take k)).length), (9, .d (vNds ns)), (10, aI ns.length), (11, aI k)], [(100, some (.arr 9 1 (strL (wordsL (ns.take k))))), (0, some (.cells 51 [aS s, .dead, aT b, .d (vNds ns), .dead, .dead]))]⟩) (fun k => k ≤ ns.length) (fun k => ns.length - k) (0) ?_ (Nat.zero_le _) ?_
  · exact (Weak.nilOwn (i := 3) (e := 9) (sz := 1) rfl (by decide)).trans (Weak.ren _ [(100, _)] hC rfl (by repeat (first | exact True.intro | refine And.intro ?_ ?_ | exact DLead.same | exact DLead.eqI (by omega) | exact DLead.eqI (by dsimp only; omega) | exact DLead.nil | exact rfl | refine ⟨_, _, rfl, rfl, ?_⟩ | refine ⟨_, rfl, ?_⟩ | refine ⟨_, _, rfl, ?_, ?_⟩)) (by repeat (first | exact True.intro | refine And.intro ?_ ?_ | exact DLead.same | exact DLead.eqI (by omega) | exact DLead.eqI (by dsimp only; omega) | exact DLead.nil | exact rfl | refine ⟨_, _, rfl, rfl, ?_⟩ | refine ⟨_, rfl, ?_⟩ | refine ⟨_, _, rfl, ?_, ?_⟩)) rfl rfl rfl)
  · intro k hk
    refine AC.seq ?_
    refine AC.region ?_
    refine AL.p (by first | exact g_cmp rfl rfl rfl | exact g_scmp rfl rfl rfl | exact g_eqB rfl rfl rfl | exact g_neB rfl rfl rfl) rfl ?_
    refine AL.nil ?_
    refine th_n ?_
    refine AC.seq ?_
    first | refine AC.condD rfl (fun h0 => ?_) (fun h0 => ?_) | refine AC.condND rfl (fun h0 => ?_) (fun h0 => ?_) | refine AC.condB rfl (fun h0 => ?_) (fun h0 => ?_) | refine AC.condNB rfl (fun h0 => ?_) (fun h0 => ?_)
    · refine AC.skip ?_
      refine th_n ?_
      refine AC.seq ?_
      refine AC.block ?_
      refine AC.seq ?_
      have hk1 : k < ns.length := by omega
      have hget := ndsL_get hk1
      have hst := wordsL_take hk1
      have hl1 := wordsL_len (ns.take k)
      have hlt : (ns.take k).length ≤ ns.length := by rw [List.length_take]; omega
      obtain ⟨A, hA⟩ : ∃ A, A = wordsL (ns.take k) := ⟨_, rfl⟩
      rw [← hA] at hst hl1 ⊢
      obtain ⟨⟨wd, rw_, kd⟩, hx⟩ : ∃ x, x = ns[k] := ⟨_, rfl⟩
      rw [← hx] at hget hst
      dsimp only at hget hst
      obtain ⟨wl, hwl⟩ : ∃ l, wd = bstr l := ⟨_, (bstr_of wd).symm⟩
      subst hwl
      rw [bstr_data] at hst
      refine AC.region ?_
      refine AL.p (by first | exact g_ia_view rfl rfl rfl rfl rfl (by first | rfl | assumption) (by first | assumption | rfl) | exact g_ia_own rfl rfl rfl rfl rfl (by first | rfl | assumption) (by omega) (by first | exact Nat.mul_one _ | rfl | omega)) rfl ?_
      refine AL.p (by first | exact g_load_ref rfl rfl rfl | exact g_load_ptr rfl rfl rfl rfl rfl | exact g_load_refN rfl rfl rfl rfl | exact g_load_ptrN rfl rfl rfl rfl rfl | exact g_load_arr1 rfl rfl rfl rfl (by assumption) | exact g_load_arr rfl rfl rfl rfl (by first | rfl | omega) (by first | assumption | rfl) (by first | assumption | rfl)) rfl ?_
      refine AL.q (by exact h_alloc rfl) rfl ?_
      refine AL.q (by first | exact h_store rfl rfl rfl rfl rfl rfl | exact h_store_arr1 rfl rfl rfl rfl (by first | exact .same | exact .nil) (by assumption) | exact h_store_arr rfl rfl rfl rfl (by first | exact .same | exact .nil) (by first | rfl | omega) (by first | assumption | rfl) (by omega)) rfl ?_
      refine AL.nil ?_
      refine th_n ?_
      refine AC.seq ?_
      refine AC.region ?_
      refine AL.p (by first | exact g_fa_ref rfl rfl rfl rfl rfl rfl | exact g_fa_ptr rfl rfl rfl rfl rfl) rfl ?_
      refine AL.p (by first | exact g_load_ref rfl rfl rfl | exact g_load_ptr rfl rfl rfl rfl rfl | exact g_load_refN rfl rfl rfl rfl | exact g_load_ptrN rfl rfl rfl rfl rfl | exact g_load_arr1 rfl rfl rfl rfl (by assumption) | exact g_load_arr rfl rfl rfl rfl (by first | rfl | omega) (by first | assumption | rfl) (by first | assumption | rfl)) rfl ?_
      refine AL.p (by exact g_len_view (k := kd.length) rfl rfl (List.length_map _)) rfl ?_
      refine AL.p (by first | exact g_cmp rfl rfl rfl | exact g_scmp rfl rfl rfl | exact g_eqB rfl rfl rfl | exact g_neB rfl rfl rfl) rfl ?_
      refine AL.nil ?_
      refine th_n ?_
      first | refine AC.condD rfl (fun h1 => ?_) (fun h1 => ?_) | refine AC.condND rfl (fun h1 => ?_) (fun h1 => ?_) | refine AC.condB rfl (fun h1 => ?_) (fun h1 => ?_) | refine AC.condNB rfl (fun h1 => ?_) (fun h1 => ?_)
      · refine AC.region ?_
        refine AL.p (by first | exact mv1 rfl | exact mv2 rfl | exact mv3 rfl | exact mv4 rfl | exact mv5 rfl | exact mv6 rfl | exact mv7 rfl | exact mv8 rfl | exact mv9 rfl | exact mv10 rfl | exact mv11 rfl) rfl ?_
        refine AL.p (by first | exact g_fa_ref rfl rfl rfl rfl rfl rfl | exact g_fa_ptr rfl rfl rfl rfl rfl) rfl ?_
        refine AL.p (by first | exact g_load_ref rfl rfl rfl | exact g_load_ptr rfl rfl rfl rfl rfl | exact g_load_refN rfl rfl rfl rfl | exact g_load_ptrN rfl rfl rfl rfl rfl | exact g_load_arr1 rfl rfl rfl rfl (by assumption) | exact g_load_arr rfl rfl rfl rfl (by first | rfl | omega) (by first | assumption | rfl) (by first | assumption | rfl)) rfl ?_
        refine AL.q (by exact h_litF rfl rfl rfl rfl rfl rfl rfl rfl) rfl ?_
        refine AL.q (by exact h_appendStr A [wl] (.own rfl rfl (strL_len _).symm) (.view rfl) (by rw [List.length_append]; simp only [List.length_cons, List.length_nil]; omega) (by simp)) rfl ?_
        refine AL.p (by first | exact as1 rfl | exact as2 rfl | exact as3 rfl | exact as4 rfl | exact as5 rfl | exact as6 rfl | exact as7 rfl | exact as8 rfl | exact as9 rfl | exact as10 rfl | exact as11 rfl) rfl ?_
        refine AL.nil ?_
        refine ib_n ?_
        refine th_n ?_
        refine AC.region ?_
        refine AL.p (by first | exact g_arith rfl rfl rfl (by first | exact wrap_i64 (by omega) | exact wrap_u8 (by omega) | exact wrap_u64 (by omega) | rfl) | exact g_sadd rfl rfl (by first | assumption | omega | (simp only [ByteArray.size_append, bstr_size, List.length_take, List.length_drop, List.length_cons, List.length_nil]; omega))) rfl ?_
        refine AL.p (by first | exact mv1 rfl | exact mv2 rfl | exact mv3 rfl | exact mv4 rfl | exact mv5 rfl | exact mv6 rfl | exact mv7 rfl | exact mv8 rfl | exact mv9 rfl | exact mv10 rfl | exact mv11 rfl) rfl ?_
        refine AL.nil ?_
        refine th_n ?_
        first | (have w := h1; rw [if_pos w] at hst; exact ⟨k + 1, hk1, by omega, by dsimp only; rw [hst]; exact Weak.ren _ [(100, _)] hC rfl (by repeat (first | exact True.intro | refine And.intro ?_ ?_ | exact DLead.same | exact DLead.eqI (by omega) | exact DLead.eqI (by dsimp only; omega) | exact DLead.nil | exact rfl | refine ⟨_, _, rfl, rfl, ?_⟩ | refine ⟨_, rfl, ?_⟩ | refine ⟨_, _, rfl, ?_, ?_⟩)) (by repeat (first | exact True.intro | refine And.intro ?_ ?_ | exact DLead.same | exact DLead.eqI (by omega) | exact DLead.eqI (by dsimp only; omega) | exact DLead.nil | exact rfl | refine ⟨_, _, rfl, rfl, ?_⟩ | refine ⟨_, rfl, ?_⟩ | refine ⟨_, _, rfl, ?_, ?_⟩)) rfl rfl rfl⟩) | (rw [if_neg h1, List.append_nil] at hst; exact ⟨k + 1, hk1, by omega, by dsimp only; rw [hst]; exact Weak.ren _ [(100, _)] hC rfl (by repeat (first | exact True.intro | refine And.intro ?_ ?_ | exact DLead.same | exact DLead.eqI (by omega) | exact DLead.eqI (by dsimp only; omega) | exact DLead.nil | exact rfl | refine ⟨_, _, rfl, rfl, ?_⟩ | refine ⟨_, rfl, ?_⟩ | refine ⟨_, _, rfl, ?_, ?_⟩)) (by repeat (first | exact True.intro | refine And.intro ?_ ?_ | exact DLead.same | exact DLead.eqI (by omega) | exact DLead.eqI (by dsimp only; omega) | exact DLead.nil | exact rfl | refine ⟨_, _, rfl, rfl, ?_⟩ | refine ⟨_, rfl, ?_⟩ | refine ⟨_, _, rfl, ?_, ?_⟩)) rfl rfl rfl⟩)
      · refine AC.skip ?_
        refine ib_n ?_
        refine th_n ?_
        refine AC.region ?_
        refine AL.p (by first | exact g_arith rfl rfl rfl (by first | exact wrap_i64 (by omega) | exact wrap_u8 (by omega) | exact wrap_u64 (by omega) | rfl) | exact g_sadd rfl rfl (by first | assumption | omega | (simp only [ByteArray.size_append, bstr_size, List.length_take, List.length_drop, List.length_cons, List.length_nil]; omega))) rfl ?_
        refine AL.p (by first | exact mv1 rfl | exact mv2 rfl | exact mv3 rfl | exact mv4 rfl | exact mv5 rfl | exact mv6 rfl | exact mv7 rfl | exact mv8 rfl | exact mv9 rfl | exact mv10 rfl | exact mv11 rfl) rfl ?_
        refine AL.nil ?_
        refine th_n ?_
        first | (have w := h1; rw [if_pos w] at hst; exact ⟨k + 1, hk1, by omega, by dsimp only; rw [hst]; exact Weak.ren _ [(100, _)] hC rfl (by repeat (first | exact True.intro | refine And.intro ?_ ?_ | exact DLead.same | exact DLead.eqI (by omega) | exact DLead.eqI (by dsimp only; omega) | exact DLead.nil | exact rfl | refine ⟨_, _, rfl, rfl, ?_⟩ | refine ⟨_, rfl, ?_⟩ | refine ⟨_, _, rfl, ?_, ?_⟩)) (by repeat (first | exact True.intro | refine And.intro ?_ ?_ | exact DLead.same | exact DLead.eqI (by omega) | exact DLead.eqI (by dsimp only; omega) | exact DLead.nil | exact rfl | refine ⟨_, _, rfl, rfl, ?_⟩ | refine ⟨_, rfl, ?_⟩ | refine ⟨_, _, rfl, ?_, ?_⟩)) rfl rfl rfl⟩) | (rw [if_neg h1, List.append_nil] at hst; exact ⟨k + 1, hk1, by omega, by dsimp only; rw [hst]; exact Weak.ren _ [(100, _)] hC rfl (by repeat (first | exact True.intro | refine And.intro ?_ ?_ | exact DLead.same | exact DLead.eqI (by omega) | exact DLead.eqI (by dsimp only; omega) | exact DLead.nil | exact rfl | refine ⟨_, _, rfl, rfl, ?_⟩ | refine ⟨_, rfl, ?_⟩ | refine ⟨_, _, rfl, ?_, ?_⟩)) (by repeat (first | exact True.intro | refine And.intro ?_ ?_ | exact DLead.same | exact DLead.eqI (by omega) | exact DLead.eqI (by dsimp only; omega) | exact DLead.nil | exact rfl | refine ⟨_, _, rfl, rfl, ?_⟩ | refine ⟨_, rfl, ?_⟩ | refine ⟨_, _, rfl, ?_, ?_⟩)) rfl rfl rfl⟩)
    · refine AC.exit ?_
      refine th_e ?_
      refine th_e ?_
      refine ib_y ?_
      refine th_n ?_
      refine AC.seq ?_
      obtain rfl : k = ns.length := by omega
      rw [List.take_length]
      refine AC.weak (Weak.freeze (i := 3) rfl rfl (sownl _) (sownt _)) ?_
      refine AC.region ?_
      refine AL.p (by first | exact mv1 rfl | exact mv2 rfl | exact mv3 rfl | exact mv4 rfl | exact mv5 rfl | exact mv6 rfl | exact mv7 rfl | exact mv8 rfl | exact mv9 rfl | exact mv10 rfl | exact mv11 rfl) rfl ?_
      refine AL.p (by first | exact as1 rfl | exact as2 rfl | exact as3 rfl | exact as4 rfl | exact as5 rfl | exact as6 rfl | exact as7 rfl | exact as8 rfl | exact as9 rfl | exact as10 rfl | exact as11 rfl) rfl ?_
      refine AL.nil ?_
      refine th_n ?_
      refine AC.ret ?_
      refine bq_r ?_
      exact retX [] rfl ⟨rfl, rfl⟩ (by repeat (first | exact rfl | exact DLead.same | exact DLead.nil | refine ⟨_, _, rfl, ?_, ?_⟩ | refine ⟨_, rfl, ?_⟩)) (by repeat (first | exact True.intro | refine And.intro ?_ ?_ | exact DLead.same | exact DLead.eqI (by omega) | exact DLead.eqI (by dsimp only; omega) | exact DLead.nil | exact rfl | refine ⟨_, _, rfl, rfl, ?_⟩ | refine ⟨_, rfl, ?_⟩ | refine ⟨_, _, rfl, ?_, ?_⟩)) rfl rfl
theorem en_lpWords : Enters Try.prog 24 := enters_of Try.func24 rfl rfl
/-- Where the name that stands before a place begins, and the marks met with their names. -/
def frL (m : List UInt8) : Nat → Nat
  | 0 => 0
  | k + 1 => if chName (m.getD k 0) then frL m k else k + 1
def evL (m : List UInt8) : Nat → List (List UInt8 × UInt8)
  | 0 => []
  | k + 1 => if chName (m.getD k 0) then evL m k else evL m k ++ [((m.take k).drop (frL m k), m.getD k 0)]
theorem frL_le (m : List UInt8) : ∀ k, frL m k ≤ k
  | 0 => Nat.le_refl _
  | k + 1 => by
    have := frL_le m k
    unfold frL
    split <;> omega
theorem evL_len (m : List UInt8) : ∀ k, (evL m k).length ≤ k
  | 0 => Nat.le_refl _
  | k + 1 => by
    have := evL_len m k
    unfold evL
    split
    · omega
    · rw [List.length_append]; simp only [List.length_cons, List.length_nil]; omega
theorem chName_iff {c : UInt8} : chName c = true ↔ ((97 ≤ (c.toNat : Int) ∧ (c.toNat : Int) ≤ 122) ∨ (48 ≤ (c.toNat : Int) ∧ (c.toNat : Int) ≤ 57)) := by
  simp only [chName, Bool.or_eq_true, Bool.and_eq_true, decide_eq_true_eq, UInt8.le_iff_toNat_le, show (97 : UInt8).toNat = 97 from rfl, show (122 : UInt8).toNat = 122 from rfl, show (48 : UInt8).toNat = 48 from rfl, show (57 : UInt8).toNat = 57 from rfl]
  omega
theorem chName_no {c : UInt8} (h : ¬ ((97 ≤ (c.toNat : Int) ∧ (c.toNat : Int) ≤ 122) ∨ (48 ≤ (c.toNat : Int) ∧ (c.toNat : Int) ≤ 57))) : chName c = false := by
  cases e : chName c with
  | false => rfl
  | true => exact absurd (chName_iff.1 e) h
theorem byte_cut (s : List UInt8) {l h : Nat} (hl : l ≤ h) (hh : h ≤ s.length) : (bstr s).extract l h = bstr ((s.take h).drop l) := by
  have : ((bstr s).extract l h).data.toList = (s.take h).drop l := by
    simp [bstr, ByteArray.data_extract, List.extract_eq_drop_take, List.drop_take]
  rw [← bstr_of ((bstr s).extract l h), this]
set_option maxHeartbeats 8000000 in
theorem l25Kinds_spec (m : List UInt8) (hm : m.length ≤ 1048576) : ASpec Try.prog 23 [aS (bstr m)] [] (Pure1 (.tup [.d (vStr ((evL m m.length).flatMap insG)), .d (vStr ((evL m m.length).flatMap outG))])) := by
  have hsz := bstr_size m
  refine ASpec.of Try.func23 rfl rfl fun C hC => ?_
  refine AC.seq ?_
  refine AC.region ?_
  refine AL.p (by first | exact as1 rfl | exact as2 rfl | exact as3 rfl | exact as4 rfl | exact as5 rfl | exact as6 rfl | exact as7 rfl | exact as8 rfl | exact as9 rfl | exact as10 rfl | exact as11 rfl) rfl ?_
  refine AL.p (by first | exact as1 rfl | exact as2 rfl | exact as3 rfl | exact as4 rfl | exact as5 rfl | exact as6 rfl | exact as7 rfl | exact as8 rfl | exact as9 rfl | exact as10 rfl | exact as11 rfl) rfl ?_
  refine AL.nil ?_
  refine th_n ?_
  refine AC.seq ?_
  refine AC.region ?_
  refine AL.p (by first | exact as1 rfl | exact as2 rfl | exact as3 rfl | exact as4 rfl | exact as5 rfl | exact as6 rfl | exact as7 rfl | exact as8 rfl | exact as9 rfl | exact as10 rfl | exact as11 rfl) rfl ?_
  refine AL.p (by first | exact as1 rfl | exact as2 rfl | exact as3 rfl | exact as4 rfl | exact as5 rfl | exact as6 rfl | exact as7 rfl | exact as8 rfl | exact as9 rfl | exact as10 rfl | exact as11 rfl) rfl ?_
  refine AL.nil ?_
  refine th_n ?_
  refine AC.seq ?_
  refine AC.region ?_
  refine AL.p (by first | exact as1 rfl | exact as2 rfl | exact as3 rfl | exact as4 rfl | exact as5 rfl | exact as6 rfl | exact as7 rfl | exact as8 rfl | exact as9 rfl | exact as10 rfl | exact as11 rfl) rfl ?_
  refine AL.nil ?_
  refine th_n ?_
  refine AC.seq ?_
  refine AC.seq ?_
  refine AC.region ?_
  refine AL.p (by first | exact as1 rfl | exact as2 rfl | exact as3 rfl | exact as4 rfl | exact as5 rfl | exact as6 rfl | exact as7 rfl | exact as8 rfl | exact as9 rfl | exact as10 rfl | exact as11 rfl) rfl ?_
  refine AL.nil ?_
  refine th_n ?_
  refine AC.block ?_
  refine AC.loop (ι := Nat) (fun k => ⟨66, 208, [(0, aS (bstr m)), (4, .own 100 ((evL m k).flatMap insG).length), (5, .own 101 ((evL m k).flatMap outG).length), (6, aI (frL m k)), (7, aI k)], [(100, some (.arr 9 1 (strL ((evL m k).flatMap insG)))), (101, some (.arr 9 1 (strL ((evL m k).flatMap outG))))]⟩) (fun k => k ≤ m.length) (fun k => m.length - k) (0) ?_ (Nat.zero_le _) ?_
  · exact (Weak.nilOwn (i := 4) (e := 9) (sz := 1) rfl (by decide)).trans ((Weak.nilOwn (i := 5) (e := 9) (sz := 1) rfl (by decide)).trans (Weak.ren _ [(100, _), (101, _)] hC rfl (by repeat (first | exact True.intro | refine And.intro ?_ ?_ | exact DLead.same | exact DLead.eqI (by omega) | exact DLead.eqI (by dsimp only; omega) | exact DLead.nil | exact rfl | refine ⟨_, _, rfl, rfl, ?_⟩ | refine ⟨_, rfl, ?_⟩ | refine ⟨_, _, rfl, ?_, ?_⟩)) (by repeat (first | exact True.intro | refine And.intro ?_ ?_ | exact DLead.same | exact DLead.eqI (by omega) | exact DLead.eqI (by dsimp only; omega) | exact DLead.nil | exact rfl | refine ⟨_, _, rfl, rfl, ?_⟩ | refine ⟨_, rfl, ?_⟩ | refine ⟨_, _, rfl, ?_, ?_⟩)) rfl rfl rfl))
  · intro k hk
    refine AC.seq ?_
    refine AC.seq ?_
    refine AC.region ?_
    refine AL.p (by first | exact mv1 rfl | exact mv2 rfl | exact mv3 rfl | exact mv4 rfl | exact mv5 rfl | exact mv6 rfl | exact mv7 rfl | exact mv8 rfl | exact mv9 rfl | exact mv10 rfl | exact mv11 rfl) rfl ?_
    refine AL.p (by first | exact mv1 rfl | exact mv2 rfl | exact mv3 rfl | exact mv4 rfl | exact mv5 rfl | exact mv6 rfl | exact mv7 rfl | exact mv8 rfl | exact mv9 rfl | exact mv10 rfl | exact mv11 rfl) rfl ?_
    refine AL.p (by first | exact g_len_view rfl rfl (by first | exact List.length_map _ | rfl) | exact g_len_str rfl rfl rfl | exact g_len_nil rfl rfl | exact g_len_own (sz := 1) (els := []) (e' := 0) rfl rfl (by simp only [maxLen]; omega) | exact g_len_tight rfl rfl (by first | exact List.length_map _ | rfl)) rfl ?_
    refine AL.p (by first | exact g_cmp rfl rfl rfl | exact g_scmp rfl rfl rfl | exact g_eqB rfl rfl rfl | exact g_neB rfl rfl rfl) rfl ?_
    refine AL.nil ?_
    refine th_n ?_
    first | refine AC.condD rfl (fun h0 => ?_) (fun h0 => ?_) | refine AC.condND rfl (fun h0 => ?_) (fun h0 => ?_) | refine AC.condB rfl (fun h0 => ?_) (fun h0 => ?_) | refine AC.condNB rfl (fun h0 => ?_) (fun h0 => ?_)
    · refine AC.skip ?_
      refine th_n ?_
      refine AC.seq ?_
      refine AC.block ?_
      refine AC.seq ?_
      have hk1 : k < m.length := by omega
      have hget : (bstr m).data.toList[k]? = some (m.getD k 0) := by rw [bstr_data, List.getElem?_eq_getElem hk1, List.getD_eq_getElem?_getD, List.getElem?_eq_getElem hk1]; rfl
      have hfr := frL_le m k
      have hl0 := evL_len m k
      have hl1 := fm_len insG insG_len (evL m k)
      have hl2 := fm_len outG outG_len (evL m k)
      have hex : (bstr m).extract (frL m k) k = bstr ((m.take k).drop (frL m k)) := byte_cut m hfr (by omega)
      have hnl : ((m.take k).drop (frL m k)).length ≤ m.length := by rw [List.length_drop, List.length_take]; omega
      have hy : chName (m.getD k 0) = true → frL m (k + 1) = frL m k ∧ evL m (k + 1) = evL m k := fun h => by rw [frL, evL, if_pos h, if_pos h]; exact ⟨rfl, rfl⟩
      have hno : chName (m.getD k 0) = false → frL m (k + 1) = k + 1 ∧ evL m (k + 1) = evL m k ++ [((m.take k).drop (frL m k), m.getD k 0)] := fun h => by rw [frL, evL, if_neg (by rw [h]; exact Bool.false_ne_true), if_neg (by rw [h]; exact Bool.false_ne_true)]; exact ⟨rfl, rfl⟩
      obtain ⟨E, hE⟩ : ∃ E, E = evL m k := ⟨_, rfl⟩
      obtain ⟨F, hF⟩ : ∃ F, F = frL m k := ⟨_, rfl⟩
      rw [← hE] at hl0 hl1 hl2 hy hno ⊢
      rw [← hF] at hfr hex hnl hy hno ⊢
      obtain ⟨nm, hnm⟩ : ∃ nm, nm = (m.take k).drop F := ⟨_, rfl⟩
      rw [← hnm] at hex hnl hno
      obtain ⟨c, hc⟩ : ∃ c, c = m.getD k 0 := ⟨_, rfl⟩
      rw [← hc] at hget hy hno
      obtain ⟨A, hA⟩ : ∃ A, A = E.flatMap insG := ⟨_, rfl⟩
      obtain ⟨B, hB⟩ : ∃ B, B = E.flatMap outG := ⟨_, rfl⟩
      rw [← hA] at hl1 ⊢
      rw [← hB] at hl2 ⊢
      refine AC.region ?_
      refine AL.p (by first | exact mv1 rfl | exact mv2 rfl | exact mv3 rfl | exact mv4 rfl | exact mv5 rfl | exact mv6 rfl | exact mv7 rfl | exact mv8 rfl | exact mv9 rfl | exact mv10 rfl | exact mv11 rfl) rfl ?_
      refine AL.p (by first | exact mv1 rfl | exact mv2 rfl | exact mv3 rfl | exact mv4 rfl | exact mv5 rfl | exact mv6 rfl | exact mv7 rfl | exact mv8 rfl | exact mv9 rfl | exact mv10 rfl | exact mv11 rfl) rfl ?_
      refine AL.p (by exact g_index rfl rfl rfl (by first | rfl | assumption) (by assumption)) rfl ?_
      refine AL.p (by first | exact as1 rfl | exact as2 rfl | exact as3 rfl | exact as4 rfl | exact as5 rfl | exact as6 rfl | exact as7 rfl | exact as8 rfl | exact as9 rfl | exact as10 rfl | exact as11 rfl) rfl ?_
      refine AL.nil ?_
      refine th_n ?_
      refine AC.cut (fun (_ : Unit) => ⟨66, 208, [(0, aS (bstr m)), (4, .own 100 A.length), (5, .own 101 B.length), (6, aI F), (7, aI k), (8, .d (.val (.int .u8 (c.toNat : Int))))], [(100, some (.arr 9 1 (strL A))), (101, some (.arr 9 1 (strL B)))]⟩) (fun _ => chName c = false) ?_ ?_
      · refine AC.seq ?_
        refine AC.region ?_
        refine AL.p (by first | exact mv1 rfl | exact mv2 rfl | exact mv3 rfl | exact mv4 rfl | exact mv5 rfl | exact mv6 rfl | exact mv7 rfl | exact mv8 rfl | exact mv9 rfl | exact mv10 rfl | exact mv11 rfl) rfl ?_
        refine AL.p (by first | exact g_cmp rfl rfl rfl | exact g_scmp rfl rfl rfl | exact g_eqB rfl rfl rfl | exact g_neB rfl rfl rfl) rfl ?_
        refine AL.p (by first | exact mv1 rfl | exact mv2 rfl | exact mv3 rfl | exact mv4 rfl | exact mv5 rfl | exact mv6 rfl | exact mv7 rfl | exact mv8 rfl | exact mv9 rfl | exact mv10 rfl | exact mv11 rfl) rfl ?_
        first | refine AL.caseG rfl rfl (fun h1 => ?_) (fun h1 => ?_) | refine AL.caseGN rfl rfl (fun h1 => ?_) (fun h1 => ?_) | refine AL.caseGB rfl rfl (fun h1 => ?_) (fun h1 => ?_) | refine AL.caseGNB rfl rfl (fun h1 => ?_) (fun h1 => ?_)
        · refine AL.yes rfl rfl rfl ?_
          refine AL.p (by first | exact mv1 rfl | exact mv2 rfl | exact mv3 rfl | exact mv4 rfl | exact mv5 rfl | exact mv6 rfl | exact mv7 rfl | exact mv8 rfl | exact mv9 rfl | exact mv10 rfl | exact mv11 rfl) rfl ?_
          refine AL.yes rfl rfl rfl ?_
          refine AL.p (by first | exact g_cmp rfl rfl rfl | exact g_scmp rfl rfl rfl | exact g_eqB rfl rfl rfl | exact g_neB rfl rfl rfl) rfl ?_
          refine AL.p (by first | exact g_pickT (r := .d _) rfl rfl | exact g_pickF (r := .d _) rfl rfl) rfl ?_
          refine AL.p (by first | exact mv1 rfl | exact mv2 rfl | exact mv3 rfl | exact mv4 rfl | exact mv5 rfl | exact mv6 rfl | exact mv7 rfl | exact mv8 rfl | exact mv9 rfl | exact mv10 rfl | exact mv11 rfl) rfl ?_
          first | refine AL.caseG rfl rfl (fun h2 => ?_) (fun h2 => ?_) | refine AL.caseGN rfl rfl (fun h2 => ?_) (fun h2 => ?_) | refine AL.caseGB rfl rfl (fun h2 => ?_) (fun h2 => ?_) | refine AL.caseGNB rfl rfl (fun h2 => ?_) (fun h2 => ?_)
          · refine AL.not rfl rfl rfl rfl rfl ?_
            refine AL.not rfl rfl rfl rfl rfl ?_
            refine AL.not rfl rfl rfl rfl rfl ?_
            refine AL.notU rfl rfl rfl ?_
            refine AL.notU rfl rfl rfl ?_
            refine AL.not rfl rfl rfl rfl rfl ?_
            refine AL.p (by first | exact g_pickT (r := .d _) rfl rfl | exact g_pickF (r := .d _) rfl rfl) rfl ?_
            refine AL.nil ?_
            refine th_n ?_
            refine AC.condT rfl ?_
            refine AC.exit ?_
            refine th_e ?_
            refine ib_y ?_
            refine th_n ?_
            refine AC.region ?_
            refine AL.p (by first | exact mv1 rfl | exact mv2 rfl | exact mv3 rfl | exact mv4 rfl | exact mv5 rfl | exact mv6 rfl | exact mv7 rfl | exact mv8 rfl | exact mv9 rfl | exact mv10 rfl | exact mv11 rfl) rfl ?_
            refine AL.p (by first | exact g_arith rfl rfl rfl (by first | exact wrap_i64 (by omega) | exact wrap_u8 (by omega) | exact wrap_u64 (by omega) | rfl) | exact g_sadd rfl rfl (by first | assumption | omega | (simp only [ByteArray.size_append, bstr_size, List.length_take, List.length_drop, List.length_cons, List.length_nil]; omega))) rfl ?_
            refine AL.p (by first | exact as1 rfl | exact as2 rfl | exact as3 rfl | exact as4 rfl | exact as5 rfl | exact as6 rfl | exact as7 rfl | exact as8 rfl | exact as9 rfl | exact as10 rfl | exact as11 rfl) rfl ?_
            refine AL.nil ?_
            refine th_n ?_
            first | (have w := ends33 (nm := nm) (mk := c) ‹(c.toNat : Int) = 33›; have q := hno hch; exact ⟨k + 1, hk1, by omega, by (try dsimp only); rw [q.1, q.2, List.flatMap_append, List.flatMap_append, List.flatMap_singleton, List.flatMap_singleton, w.1, w.2, ← hA, ← hB]; exact Weak.ren _ [(100, _), (101, _)] hC rfl (by repeat (first | exact True.intro | refine And.intro ?_ ?_ | exact DLead.same | exact DLead.eqI (by omega) | exact DLead.eqI (by dsimp only; omega) | exact DLead.nil | exact rfl | refine ⟨_, _, rfl, rfl, ?_⟩ | refine ⟨_, rfl, ?_⟩ | refine ⟨_, _, rfl, ?_, ?_⟩)) (by repeat (first | exact True.intro | refine And.intro ?_ ?_ | exact DLead.same | exact DLead.eqI (by omega) | exact DLead.eqI (by dsimp only; omega) | exact DLead.nil | exact rfl | refine ⟨_, _, rfl, rfl, ?_⟩ | refine ⟨_, rfl, ?_⟩ | refine ⟨_, _, rfl, ?_, ?_⟩)) rfl rfl rfl⟩) | (have w := ends63 (nm := nm) (mk := c) ‹(c.toNat : Int) = 63›; have q := hno hch; exact ⟨k + 1, hk1, by omega, by (try dsimp only); rw [q.1, q.2, List.flatMap_append, List.flatMap_append, List.flatMap_singleton, List.flatMap_singleton, w.1, w.2, ← hA, ← hB]; exact Weak.ren _ [(100, _), (101, _)] hC rfl (by repeat (first | exact True.intro | refine And.intro ?_ ?_ | exact DLead.same | exact DLead.eqI (by omega) | exact DLead.eqI (by dsimp only; omega) | exact DLead.nil | exact rfl | refine ⟨_, _, rfl, rfl, ?_⟩ | refine ⟨_, rfl, ?_⟩ | refine ⟨_, _, rfl, ?_, ?_⟩)) (by repeat (first | exact True.intro | refine And.intro ?_ ?_ | exact DLead.same | exact DLead.eqI (by omega) | exact DLead.eqI (by dsimp only; omega) | exact DLead.nil | exact rfl | refine ⟨_, _, rfl, rfl, ?_⟩ | refine ⟨_, rfl, ?_⟩ | refine ⟨_, _, rfl, ?_, ?_⟩)) rfl rfl rfl⟩) | (have w := ends0 (nm := nm) (mk := c) ‹¬ (c.toNat : Int) = 33› ‹¬ (c.toNat : Int) = 63›; have q := hno hch; exact ⟨k + 1, hk1, by omega, by (try dsimp only); rw [q.1, q.2, List.flatMap_append, List.flatMap_append, List.flatMap_singleton, List.flatMap_singleton, w.1, w.2, ← hA, ← hB, List.append_nil, List.append_nil]; exact Weak.ren _ [(100, _), (101, _)] hC rfl (by repeat (first | exact True.intro | refine And.intro ?_ ?_ | exact DLead.same | exact DLead.eqI (by omega) | exact DLead.eqI (by dsimp only; omega) | exact DLead.nil | exact rfl | refine ⟨_, _, rfl, rfl, ?_⟩ | refine ⟨_, rfl, ?_⟩ | refine ⟨_, _, rfl, ?_, ?_⟩)) (by repeat (first | exact True.intro | refine And.intro ?_ ?_ | exact DLead.same | exact DLead.eqI (by omega) | exact DLead.eqI (by dsimp only; omega) | exact DLead.nil | exact rfl | refine ⟨_, _, rfl, rfl, ?_⟩ | refine ⟨_, rfl, ?_⟩ | refine ⟨_, _, rfl, ?_, ?_⟩)) rfl rfl rfl⟩) | (have w := hy (chName_iff.2 (by simp_all <;> omega)); exact ⟨k + 1, hk1, by omega, by (try dsimp only); rw [w.1, w.2, ← hA, ← hB]; exact Weak.ren _ [(100, _), (101, _)] hC rfl (by repeat (first | exact True.intro | refine And.intro ?_ ?_ | exact DLead.same | exact DLead.eqI (by omega) | exact DLead.eqI (by dsimp only; omega) | exact DLead.nil | exact rfl | refine ⟨_, _, rfl, rfl, ?_⟩ | refine ⟨_, rfl, ?_⟩ | refine ⟨_, _, rfl, ?_, ?_⟩)) (by repeat (first | exact True.intro | refine And.intro ?_ ?_ | exact DLead.same | exact DLead.eqI (by omega) | exact DLead.eqI (by dsimp only; omega) | exact DLead.nil | exact rfl | refine ⟨_, _, rfl, rfl, ?_⟩ | refine ⟨_, rfl, ?_⟩ | refine ⟨_, _, rfl, ?_, ?_⟩)) rfl rfl rfl⟩)
          · refine AL.yes rfl rfl rfl ?_
            refine AL.p (by first | exact mv1 rfl | exact mv2 rfl | exact mv3 rfl | exact mv4 rfl | exact mv5 rfl | exact mv6 rfl | exact mv7 rfl | exact mv8 rfl | exact mv9 rfl | exact mv10 rfl | exact mv11 rfl) rfl ?_
            refine AL.yes rfl rfl rfl ?_
            refine AL.p (by first | exact g_cmp rfl rfl rfl | exact g_scmp rfl rfl rfl | exact g_eqB rfl rfl rfl | exact g_neB rfl rfl rfl) rfl ?_
            refine AL.yes rfl rfl rfl ?_
            refine AL.p (by first | exact mv1 rfl | exact mv2 rfl | exact mv3 rfl | exact mv4 rfl | exact mv5 rfl | exact mv6 rfl | exact mv7 rfl | exact mv8 rfl | exact mv9 rfl | exact mv10 rfl | exact mv11 rfl) rfl ?_
            first | refine AL.caseG rfl rfl (fun h3 => ?_) (fun h3 => ?_) | refine AL.caseGN rfl rfl (fun h3 => ?_) (fun h3 => ?_) | refine AL.caseGB rfl rfl (fun h3 => ?_) (fun h3 => ?_) | refine AL.caseGNB rfl rfl (fun h3 => ?_) (fun h3 => ?_)
            · refine AL.yes rfl rfl rfl ?_
              refine AL.p (by first | exact mv1 rfl | exact mv2 rfl | exact mv3 rfl | exact mv4 rfl | exact mv5 rfl | exact mv6 rfl | exact mv7 rfl | exact mv8 rfl | exact mv9 rfl | exact mv10 rfl | exact mv11 rfl) rfl ?_
              refine AL.yes rfl rfl rfl ?_
              refine AL.p (by first | exact g_cmp rfl rfl rfl | exact g_scmp rfl rfl rfl | exact g_eqB rfl rfl rfl | exact g_neB rfl rfl rfl) rfl ?_
              refine AL.yes rfl rfl rfl ?_
              refine AL.p (by first | exact g_pickT (r := .d _) rfl rfl | exact g_pickF (r := .d _) rfl rfl) rfl ?_
              refine AL.p (by first | exact g_pickT (r := .d _) rfl rfl | exact g_pickF (r := .d _) rfl rfl) rfl ?_
              refine AL.nil ?_
              refine th_n ?_
              first | refine AC.condD rfl (fun h4 => ?_) (fun h4 => ?_) | refine AC.condND rfl (fun h4 => ?_) (fun h4 => ?_) | refine AC.condB rfl (fun h4 => ?_) (fun h4 => ?_) | refine AC.condNB rfl (fun h4 => ?_) (fun h4 => ?_)
              · refine AC.exit ?_
                refine th_e ?_
                refine ib_y ?_
                refine th_n ?_
                refine AC.region ?_
                refine AL.p (by first | exact mv1 rfl | exact mv2 rfl | exact mv3 rfl | exact mv4 rfl | exact mv5 rfl | exact mv6 rfl | exact mv7 rfl | exact mv8 rfl | exact mv9 rfl | exact mv10 rfl | exact mv11 rfl) rfl ?_
                refine AL.p (by first | exact g_arith rfl rfl rfl (by first | exact wrap_i64 (by omega) | exact wrap_u8 (by omega) | exact wrap_u64 (by omega) | rfl) | exact g_sadd rfl rfl (by first | assumption | omega | (simp only [ByteArray.size_append, bstr_size, List.length_take, List.length_drop, List.length_cons, List.length_nil]; omega))) rfl ?_
                refine AL.p (by first | exact as1 rfl | exact as2 rfl | exact as3 rfl | exact as4 rfl | exact as5 rfl | exact as6 rfl | exact as7 rfl | exact as8 rfl | exact as9 rfl | exact as10 rfl | exact as11 rfl) rfl ?_
                refine AL.nil ?_
                refine th_n ?_
                first | (have w := ends33 (nm := nm) (mk := c) ‹(c.toNat : Int) = 33›; have q := hno hch; exact ⟨k + 1, hk1, by omega, by (try dsimp only); rw [q.1, q.2, List.flatMap_append, List.flatMap_append, List.flatMap_singleton, List.flatMap_singleton, w.1, w.2, ← hA, ← hB]; exact Weak.ren _ [(100, _), (101, _)] hC rfl (by repeat (first | exact True.intro | refine And.intro ?_ ?_ | exact DLead.same | exact DLead.eqI (by omega) | exact DLead.eqI (by dsimp only; omega) | exact DLead.nil | exact rfl | refine ⟨_, _, rfl, rfl, ?_⟩ | refine ⟨_, rfl, ?_⟩ | refine ⟨_, _, rfl, ?_, ?_⟩)) (by repeat (first | exact True.intro | refine And.intro ?_ ?_ | exact DLead.same | exact DLead.eqI (by omega) | exact DLead.eqI (by dsimp only; omega) | exact DLead.nil | exact rfl | refine ⟨_, _, rfl, rfl, ?_⟩ | refine ⟨_, rfl, ?_⟩ | refine ⟨_, _, rfl, ?_, ?_⟩)) rfl rfl rfl⟩) | (have w := ends63 (nm := nm) (mk := c) ‹(c.toNat : Int) = 63›; have q := hno hch; exact ⟨k + 1, hk1, by omega, by (try dsimp only); rw [q.1, q.2, List.flatMap_append, List.flatMap_append, List.flatMap_singleton, List.flatMap_singleton, w.1, w.2, ← hA, ← hB]; exact Weak.ren _ [(100, _), (101, _)] hC rfl (by repeat (first | exact True.intro | refine And.intro ?_ ?_ | exact DLead.same | exact DLead.eqI (by omega) | exact DLead.eqI (by dsimp only; omega) | exact DLead.nil | exact rfl | refine ⟨_, _, rfl, rfl, ?_⟩ | refine ⟨_, rfl, ?_⟩ | refine ⟨_, _, rfl, ?_, ?_⟩)) (by repeat (first | exact True.intro | refine And.intro ?_ ?_ | exact DLead.same | exact DLead.eqI (by omega) | exact DLead.eqI (by dsimp only; omega) | exact DLead.nil | exact rfl | refine ⟨_, _, rfl, rfl, ?_⟩ | refine ⟨_, rfl, ?_⟩ | refine ⟨_, _, rfl, ?_, ?_⟩)) rfl rfl rfl⟩) | (have w := ends0 (nm := nm) (mk := c) ‹¬ (c.toNat : Int) = 33› ‹¬ (c.toNat : Int) = 63›; have q := hno hch; exact ⟨k + 1, hk1, by omega, by (try dsimp only); rw [q.1, q.2, List.flatMap_append, List.flatMap_append, List.flatMap_singleton, List.flatMap_singleton, w.1, w.2, ← hA, ← hB, List.append_nil, List.append_nil]; exact Weak.ren _ [(100, _), (101, _)] hC rfl (by repeat (first | exact True.intro | refine And.intro ?_ ?_ | exact DLead.same | exact DLead.eqI (by omega) | exact DLead.eqI (by dsimp only; omega) | exact DLead.nil | exact rfl | refine ⟨_, _, rfl, rfl, ?_⟩ | refine ⟨_, rfl, ?_⟩ | refine ⟨_, _, rfl, ?_, ?_⟩)) (by repeat (first | exact True.intro | refine And.intro ?_ ?_ | exact DLead.same | exact DLead.eqI (by omega) | exact DLead.eqI (by dsimp only; omega) | exact DLead.nil | exact rfl | refine ⟨_, _, rfl, rfl, ?_⟩ | refine ⟨_, rfl, ?_⟩ | refine ⟨_, _, rfl, ?_, ?_⟩)) rfl rfl rfl⟩) | (have w := hy (chName_iff.2 (by simp_all <;> omega)); exact ⟨k + 1, hk1, by omega, by (try dsimp only); rw [w.1, w.2, ← hA, ← hB]; exact Weak.ren _ [(100, _), (101, _)] hC rfl (by repeat (first | exact True.intro | refine And.intro ?_ ?_ | exact DLead.same | exact DLead.eqI (by omega) | exact DLead.eqI (by dsimp only; omega) | exact DLead.nil | exact rfl | refine ⟨_, _, rfl, rfl, ?_⟩ | refine ⟨_, rfl, ?_⟩ | refine ⟨_, _, rfl, ?_, ?_⟩)) (by repeat (first | exact True.intro | refine And.intro ?_ ?_ | exact DLead.same | exact DLead.eqI (by omega) | exact DLead.eqI (by dsimp only; omega) | exact DLead.nil | exact rfl | refine ⟨_, _, rfl, rfl, ?_⟩ | refine ⟨_, rfl, ?_⟩ | refine ⟨_, _, rfl, ?_, ?_⟩)) rfl rfl rfl⟩)
              · refine AC.skip ?_
                refine th_n ?_
                exact ⟨(), chName_no (by simp_all <;> omega), Weak.ren _ [(100, _), (101, _)] hC rfl (by repeat (first | exact True.intro | refine And.intro ?_ ?_ | exact DLead.same | exact DLead.eqI (by omega) | exact DLead.eqI (by dsimp only; omega) | exact DLead.nil | exact rfl | refine ⟨_, _, rfl, rfl, ?_⟩ | refine ⟨_, rfl, ?_⟩ | refine ⟨_, _, rfl, ?_, ?_⟩)) (by repeat (first | exact True.intro | refine And.intro ?_ ?_ | exact DLead.same | exact DLead.eqI (by omega) | exact DLead.eqI (by dsimp only; omega) | exact DLead.nil | exact rfl | refine ⟨_, _, rfl, rfl, ?_⟩ | refine ⟨_, rfl, ?_⟩ | refine ⟨_, _, rfl, ?_, ?_⟩)) rfl rfl rfl⟩
            · refine AL.not rfl rfl rfl rfl rfl ?_
              refine AL.not rfl rfl rfl rfl rfl ?_
              refine AL.yes rfl rfl rfl ?_
              refine AL.p (by first | exact g_pickT (r := .d _) rfl rfl | exact g_pickF (r := .d _) rfl rfl) rfl ?_
              refine AL.p (by first | exact g_pickT (r := .d _) rfl rfl | exact g_pickF (r := .d _) rfl rfl) rfl ?_
              refine AL.nil ?_
              refine th_n ?_
              refine AC.condF rfl ?_
              refine AC.skip ?_
              refine th_n ?_
              exact ⟨(), chName_no (by simp_all <;> omega), Weak.ren _ [(100, _), (101, _)] hC rfl (by repeat (first | exact True.intro | refine And.intro ?_ ?_ | exact DLead.same | exact DLead.eqI (by omega) | exact DLead.eqI (by dsimp only; omega) | exact DLead.nil | exact rfl | refine ⟨_, _, rfl, rfl, ?_⟩ | refine ⟨_, rfl, ?_⟩ | refine ⟨_, _, rfl, ?_, ?_⟩)) (by repeat (first | exact True.intro | refine And.intro ?_ ?_ | exact DLead.same | exact DLead.eqI (by omega) | exact DLead.eqI (by dsimp only; omega) | exact DLead.nil | exact rfl | refine ⟨_, _, rfl, rfl, ?_⟩ | refine ⟨_, rfl, ?_⟩ | refine ⟨_, _, rfl, ?_, ?_⟩)) rfl rfl rfl⟩
        · refine AL.not rfl rfl rfl rfl rfl ?_
          refine AL.not rfl rfl rfl rfl rfl ?_
          refine AL.p (by first | exact g_pickT (r := .d _) rfl rfl | exact g_pickF (r := .d _) rfl rfl) rfl ?_
          refine AL.p (by first | exact mv1 rfl | exact mv2 rfl | exact mv3 rfl | exact mv4 rfl | exact mv5 rfl | exact mv6 rfl | exact mv7 rfl | exact mv8 rfl | exact mv9 rfl | exact mv10 rfl | exact mv11 rfl) rfl ?_
          refine AL.yes rfl rfl rfl ?_
          refine AL.p (by first | exact mv1 rfl | exact mv2 rfl | exact mv3 rfl | exact mv4 rfl | exact mv5 rfl | exact mv6 rfl | exact mv7 rfl | exact mv8 rfl | exact mv9 rfl | exact mv10 rfl | exact mv11 rfl) rfl ?_
          refine AL.yes rfl rfl rfl ?_
          refine AL.p (by first | exact g_cmp rfl rfl rfl | exact g_scmp rfl rfl rfl | exact g_eqB rfl rfl rfl | exact g_neB rfl rfl rfl) rfl ?_
          refine AL.yes rfl rfl rfl ?_
          refine AL.p (by first | exact mv1 rfl | exact mv2 rfl | exact mv3 rfl | exact mv4 rfl | exact mv5 rfl | exact mv6 rfl | exact mv7 rfl | exact mv8 rfl | exact mv9 rfl | exact mv10 rfl | exact mv11 rfl) rfl ?_
          first | refine AL.caseG rfl rfl (fun h2 => ?_) (fun h2 => ?_) | refine AL.caseGN rfl rfl (fun h2 => ?_) (fun h2 => ?_) | refine AL.caseGB rfl rfl (fun h2 => ?_) (fun h2 => ?_) | refine AL.caseGNB rfl rfl (fun h2 => ?_) (fun h2 => ?_)
          · refine AL.yes rfl rfl rfl ?_
            refine AL.p (by first | exact mv1 rfl | exact mv2 rfl | exact mv3 rfl | exact mv4 rfl | exact mv5 rfl | exact mv6 rfl | exact mv7 rfl | exact mv8 rfl | exact mv9 rfl | exact mv10 rfl | exact mv11 rfl) rfl ?_
            refine AL.yes rfl rfl rfl ?_
            refine AL.p (by first | exact g_cmp rfl rfl rfl | exact g_scmp rfl rfl rfl | exact g_eqB rfl rfl rfl | exact g_neB rfl rfl rfl) rfl ?_
            refine AL.yes rfl rfl rfl ?_
            refine AL.p (by first | exact g_pickT (r := .d _) rfl rfl | exact g_pickF (r := .d _) rfl rfl) rfl ?_
            refine AL.p (by first | exact g_pickT (r := .d _) rfl rfl | exact g_pickF (r := .d _) rfl rfl) rfl ?_
            refine AL.nil ?_
            refine th_n ?_
            first | refine AC.condD rfl (fun h3 => ?_) (fun h3 => ?_) | refine AC.condND rfl (fun h3 => ?_) (fun h3 => ?_) | refine AC.condB rfl (fun h3 => ?_) (fun h3 => ?_) | refine AC.condNB rfl (fun h3 => ?_) (fun h3 => ?_)
            · refine AC.exit ?_
              refine th_e ?_
              refine ib_y ?_
              refine th_n ?_
              refine AC.region ?_
              refine AL.p (by first | exact mv1 rfl | exact mv2 rfl | exact mv3 rfl | exact mv4 rfl | exact mv5 rfl | exact mv6 rfl | exact mv7 rfl | exact mv8 rfl | exact mv9 rfl | exact mv10 rfl | exact mv11 rfl) rfl ?_
              refine AL.p (by first | exact g_arith rfl rfl rfl (by first | exact wrap_i64 (by omega) | exact wrap_u8 (by omega) | exact wrap_u64 (by omega) | rfl) | exact g_sadd rfl rfl (by first | assumption | omega | (simp only [ByteArray.size_append, bstr_size, List.length_take, List.length_drop, List.length_cons, List.length_nil]; omega))) rfl ?_
              refine AL.p (by first | exact as1 rfl | exact as2 rfl | exact as3 rfl | exact as4 rfl | exact as5 rfl | exact as6 rfl | exact as7 rfl | exact as8 rfl | exact as9 rfl | exact as10 rfl | exact as11 rfl) rfl ?_
              refine AL.nil ?_
              refine th_n ?_
              first | (have w := ends33 (nm := nm) (mk := c) ‹(c.toNat : Int) = 33›; have q := hno hch; exact ⟨k + 1, hk1, by omega, by (try dsimp only); rw [q.1, q.2, List.flatMap_append, List.flatMap_append, List.flatMap_singleton, List.flatMap_singleton, w.1, w.2, ← hA, ← hB]; exact Weak.ren _ [(100, _), (101, _)] hC rfl (by repeat (first | exact True.intro | refine And.intro ?_ ?_ | exact DLead.same | exact DLead.eqI (by omega) | exact DLead.eqI (by dsimp only; omega) | exact DLead.nil | exact rfl | refine ⟨_, _, rfl, rfl, ?_⟩ | refine ⟨_, rfl, ?_⟩ | refine ⟨_, _, rfl, ?_, ?_⟩)) (by repeat (first | exact True.intro | refine And.intro ?_ ?_ | exact DLead.same | exact DLead.eqI (by omega) | exact DLead.eqI (by dsimp only; omega) | exact DLead.nil | exact rfl | refine ⟨_, _, rfl, rfl, ?_⟩ | refine ⟨_, rfl, ?_⟩ | refine ⟨_, _, rfl, ?_, ?_⟩)) rfl rfl rfl⟩) | (have w := ends63 (nm := nm) (mk := c) ‹(c.toNat : Int) = 63›; have q := hno hch; exact ⟨k + 1, hk1, by omega, by (try dsimp only); rw [q.1, q.2, List.flatMap_append, List.flatMap_append, List.flatMap_singleton, List.flatMap_singleton, w.1, w.2, ← hA, ← hB]; exact Weak.ren _ [(100, _), (101, _)] hC rfl (by repeat (first | exact True.intro | refine And.intro ?_ ?_ | exact DLead.same | exact DLead.eqI (by omega) | exact DLead.eqI (by dsimp only; omega) | exact DLead.nil | exact rfl | refine ⟨_, _, rfl, rfl, ?_⟩ | refine ⟨_, rfl, ?_⟩ | refine ⟨_, _, rfl, ?_, ?_⟩)) (by repeat (first | exact True.intro | refine And.intro ?_ ?_ | exact DLead.same | exact DLead.eqI (by omega) | exact DLead.eqI (by dsimp only; omega) | exact DLead.nil | exact rfl | refine ⟨_, _, rfl, rfl, ?_⟩ | refine ⟨_, rfl, ?_⟩ | refine ⟨_, _, rfl, ?_, ?_⟩)) rfl rfl rfl⟩) | (have w := ends0 (nm := nm) (mk := c) ‹¬ (c.toNat : Int) = 33› ‹¬ (c.toNat : Int) = 63›; have q := hno hch; exact ⟨k + 1, hk1, by omega, by (try dsimp only); rw [q.1, q.2, List.flatMap_append, List.flatMap_append, List.flatMap_singleton, List.flatMap_singleton, w.1, w.2, ← hA, ← hB, List.append_nil, List.append_nil]; exact Weak.ren _ [(100, _), (101, _)] hC rfl (by repeat (first | exact True.intro | refine And.intro ?_ ?_ | exact DLead.same | exact DLead.eqI (by omega) | exact DLead.eqI (by dsimp only; omega) | exact DLead.nil | exact rfl | refine ⟨_, _, rfl, rfl, ?_⟩ | refine ⟨_, rfl, ?_⟩ | refine ⟨_, _, rfl, ?_, ?_⟩)) (by repeat (first | exact True.intro | refine And.intro ?_ ?_ | exact DLead.same | exact DLead.eqI (by omega) | exact DLead.eqI (by dsimp only; omega) | exact DLead.nil | exact rfl | refine ⟨_, _, rfl, rfl, ?_⟩ | refine ⟨_, rfl, ?_⟩ | refine ⟨_, _, rfl, ?_, ?_⟩)) rfl rfl rfl⟩) | (have w := hy (chName_iff.2 (by simp_all <;> omega)); exact ⟨k + 1, hk1, by omega, by (try dsimp only); rw [w.1, w.2, ← hA, ← hB]; exact Weak.ren _ [(100, _), (101, _)] hC rfl (by repeat (first | exact True.intro | refine And.intro ?_ ?_ | exact DLead.same | exact DLead.eqI (by omega) | exact DLead.eqI (by dsimp only; omega) | exact DLead.nil | exact rfl | refine ⟨_, _, rfl, rfl, ?_⟩ | refine ⟨_, rfl, ?_⟩ | refine ⟨_, _, rfl, ?_, ?_⟩)) (by repeat (first | exact True.intro | refine And.intro ?_ ?_ | exact DLead.same | exact DLead.eqI (by omega) | exact DLead.eqI (by dsimp only; omega) | exact DLead.nil | exact rfl | refine ⟨_, _, rfl, rfl, ?_⟩ | refine ⟨_, rfl, ?_⟩ | refine ⟨_, _, rfl, ?_, ?_⟩)) rfl rfl rfl⟩)
            · refine AC.skip ?_
              refine th_n ?_
              exact ⟨(), chName_no (by simp_all <;> omega), Weak.ren _ [(100, _), (101, _)] hC rfl (by repeat (first | exact True.intro | refine And.intro ?_ ?_ | exact DLead.same | exact DLead.eqI (by omega) | exact DLead.eqI (by dsimp only; omega) | exact DLead.nil | exact rfl | refine ⟨_, _, rfl, rfl, ?_⟩ | refine ⟨_, rfl, ?_⟩ | refine ⟨_, _, rfl, ?_, ?_⟩)) (by repeat (first | exact True.intro | refine And.intro ?_ ?_ | exact DLead.same | exact DLead.eqI (by omega) | exact DLead.eqI (by dsimp only; omega) | exact DLead.nil | exact rfl | refine ⟨_, _, rfl, rfl, ?_⟩ | refine ⟨_, rfl, ?_⟩ | refine ⟨_, _, rfl, ?_, ?_⟩)) rfl rfl rfl⟩
          · refine AL.not rfl rfl rfl rfl rfl ?_
            refine AL.not rfl rfl rfl rfl rfl ?_
            refine AL.yes rfl rfl rfl ?_
            refine AL.p (by first | exact g_pickT (r := .d _) rfl rfl | exact g_pickF (r := .d _) rfl rfl) rfl ?_
            refine AL.p (by first | exact g_pickT (r := .d _) rfl rfl | exact g_pickF (r := .d _) rfl rfl) rfl ?_
            refine AL.nil ?_
            refine th_n ?_
            refine AC.condF rfl ?_
            refine AC.skip ?_
            refine th_n ?_
            exact ⟨(), chName_no (by simp_all <;> omega), Weak.ren _ [(100, _), (101, _)] hC rfl (by repeat (first | exact True.intro | refine And.intro ?_ ?_ | exact DLead.same | exact DLead.eqI (by omega) | exact DLead.eqI (by dsimp only; omega) | exact DLead.nil | exact rfl | refine ⟨_, _, rfl, rfl, ?_⟩ | refine ⟨_, rfl, ?_⟩ | refine ⟨_, _, rfl, ?_, ?_⟩)) (by repeat (first | exact True.intro | refine And.intro ?_ ?_ | exact DLead.same | exact DLead.eqI (by omega) | exact DLead.eqI (by dsimp only; omega) | exact DLead.nil | exact rfl | refine ⟨_, _, rfl, rfl, ?_⟩ | refine ⟨_, rfl, ?_⟩ | refine ⟨_, _, rfl, ?_, ?_⟩)) rfl rfl rfl⟩
      · intro _ hch
        refine AC.seq ?_
        refine AC.region ?_
        refine AL.p (by first | exact mv1 rfl | exact mv2 rfl | exact mv3 rfl | exact mv4 rfl | exact mv5 rfl | exact mv6 rfl | exact mv7 rfl | exact mv8 rfl | exact mv9 rfl | exact mv10 rfl | exact mv11 rfl) rfl ?_
        refine AL.p (by first | exact mv1 rfl | exact mv2 rfl | exact mv3 rfl | exact mv4 rfl | exact mv5 rfl | exact mv6 rfl | exact mv7 rfl | exact mv8 rfl | exact mv9 rfl | exact mv10 rfl | exact mv11 rfl) rfl ?_
        refine AL.p (by first | exact mv1 rfl | exact mv2 rfl | exact mv3 rfl | exact mv4 rfl | exact mv5 rfl | exact mv6 rfl | exact mv7 rfl | exact mv8 rfl | exact mv9 rfl | exact mv10 rfl | exact mv11 rfl) rfl ?_
        refine AL.p (by exact g_slice_str (l := F) (h := k) rfl rfl (.some rfl rfl) (.some rfl rfl) hfr (by omega) hex) rfl ?_
        refine AL.p (by first | exact as1 rfl | exact as2 rfl | exact as3 rfl | exact as4 rfl | exact as5 rfl | exact as6 rfl | exact as7 rfl | exact as8 rfl | exact as9 rfl | exact as10 rfl | exact as11 rfl) rfl ?_
        refine AL.nil ?_
        refine th_n ?_
        refine AC.seq ?_
        refine AC.region ?_
        refine AL.p (by first | exact mv1 rfl | exact mv2 rfl | exact mv3 rfl | exact mv4 rfl | exact mv5 rfl | exact mv6 rfl | exact mv7 rfl | exact mv8 rfl | exact mv9 rfl | exact mv10 rfl | exact mv11 rfl) rfl ?_
        refine AL.p (by first | exact g_arith rfl rfl rfl (by first | exact wrap_i64 (by omega) | exact wrap_u8 (by omega) | exact wrap_u64 (by omega) | rfl) | exact g_sadd rfl rfl (by first | assumption | omega | (simp only [ByteArray.size_append, bstr_size, List.length_take, List.length_drop, List.length_cons, List.length_nil]; omega))) rfl ?_
        refine AL.p (by first | exact as1 rfl | exact as2 rfl | exact as3 rfl | exact as4 rfl | exact as5 rfl | exact as6 rfl | exact as7 rfl | exact as8 rfl | exact as9 rfl | exact as10 rfl | exact as11 rfl) rfl ?_
        refine AL.nil ?_
        refine th_n ?_
        refine AC.seq ?_
        refine AC.region ?_
        refine AL.p (by first | exact mv1 rfl | exact mv2 rfl | exact mv3 rfl | exact mv4 rfl | exact mv5 rfl | exact mv6 rfl | exact mv7 rfl | exact mv8 rfl | exact mv9 rfl | exact mv10 rfl | exact mv11 rfl) rfl ?_
        refine AL.nil ?_
        refine th_n ?_
        refine AC.block ?_
        refine AC.seq ?_
        refine AC.region ?_
        refine AL.p (by first | exact g_cmp rfl rfl rfl | exact g_scmp rfl rfl rfl | exact g_eqB rfl rfl rfl | exact g_neB rfl rfl rfl) rfl ?_
        refine AL.p (by first | exact as1 rfl | exact as2 rfl | exact as3 rfl | exact as4 rfl | exact as5 rfl | exact as6 rfl | exact as7 rfl | exact as8 rfl | exact as9 rfl | exact as10 rfl | exact as11 rfl) rfl ?_
        refine AL.nil ?_
        refine th_n ?_
        first | refine AC.condD rfl (fun h1 => ?_) (fun h1 => ?_) | refine AC.condND rfl (fun h1 => ?_) (fun h1 => ?_) | refine AC.condB rfl (fun h1 => ?_) (fun h1 => ?_) | refine AC.condNB rfl (fun h1 => ?_) (fun h1 => ?_)
        · refine AC.seq ?_
          refine AC.region ?_
          refine AL.p (by first | exact mv1 rfl | exact mv2 rfl | exact mv3 rfl | exact mv4 rfl | exact mv5 rfl | exact mv6 rfl | exact mv7 rfl | exact mv8 rfl | exact mv9 rfl | exact mv10 rfl | exact mv11 rfl) rfl ?_
          refine AL.p (by first | exact mv1 rfl | exact mv2 rfl | exact mv3 rfl | exact mv4 rfl | exact mv5 rfl | exact mv6 rfl | exact mv7 rfl | exact mv8 rfl | exact mv9 rfl | exact mv10 rfl | exact mv11 rfl) rfl ?_
          refine AL.p (by exact g_saddB (a := nm) (b := [114]) rfl rfl (by simp only [List.length_cons, List.length_nil]; omega)) rfl ?_
          refine AL.q (by exact h_litF rfl rfl rfl rfl rfl rfl rfl rfl) rfl ?_
          refine AL.q (by exact h_appendStr B [nm ++ [114]] (.own rfl rfl (strL_len _).symm) (.view rfl) (by rw [List.length_append]; simp only [List.length_cons, List.length_nil]; omega) (by simp)) rfl ?_
          refine AL.p (by first | exact as1 rfl | exact as2 rfl | exact as3 rfl | exact as4 rfl | exact as5 rfl | exact as6 rfl | exact as7 rfl | exact as8 rfl | exact as9 rfl | exact as10 rfl | exact as11 rfl) rfl ?_
          refine AL.nil ?_
          refine th_n ?_
          refine AC.region ?_
          refine AL.p (by first | exact mv1 rfl | exact mv2 rfl | exact mv3 rfl | exact mv4 rfl | exact mv5 rfl | exact mv6 rfl | exact mv7 rfl | exact mv8 rfl | exact mv9 rfl | exact mv10 rfl | exact mv11 rfl) rfl ?_
          refine AL.p (by first | exact mv1 rfl | exact mv2 rfl | exact mv3 rfl | exact mv4 rfl | exact mv5 rfl | exact mv6 rfl | exact mv7 rfl | exact mv8 rfl | exact mv9 rfl | exact mv10 rfl | exact mv11 rfl) rfl ?_
          refine AL.p (by exact g_saddB (a := nm) (b := [97]) rfl rfl (by simp only [List.length_cons, List.length_nil]; omega)) rfl ?_
          refine AL.q (by exact h_litF rfl rfl rfl rfl rfl rfl rfl rfl) rfl ?_
          refine AL.q (by exact h_appendStr A [nm ++ [97]] (.own rfl rfl (strL_len _).symm) (.view rfl) (by rw [List.length_append]; simp only [List.length_cons, List.length_nil]; omega) (by simp)) rfl ?_
          refine AL.p (by first | exact as1 rfl | exact as2 rfl | exact as3 rfl | exact as4 rfl | exact as5 rfl | exact as6 rfl | exact as7 rfl | exact as8 rfl | exact as9 rfl | exact as10 rfl | exact as11 rfl) rfl ?_
          refine AL.nil ?_
          refine ib_n ?_
          refine ib_n ?_
          refine th_n ?_
          refine AC.region ?_
          refine AL.p (by first | exact mv1 rfl | exact mv2 rfl | exact mv3 rfl | exact mv4 rfl | exact mv5 rfl | exact mv6 rfl | exact mv7 rfl | exact mv8 rfl | exact mv9 rfl | exact mv10 rfl | exact mv11 rfl) rfl ?_
          refine AL.p (by first | exact g_arith rfl rfl rfl (by first | exact wrap_i64 (by omega) | exact wrap_u8 (by omega) | exact wrap_u64 (by omega) | rfl) | exact g_sadd rfl rfl (by first | assumption | omega | (simp only [ByteArray.size_append, bstr_size, List.length_take, List.length_drop, List.length_cons, List.length_nil]; omega))) rfl ?_
          refine AL.p (by first | exact as1 rfl | exact as2 rfl | exact as3 rfl | exact as4 rfl | exact as5 rfl | exact as6 rfl | exact as7 rfl | exact as8 rfl | exact as9 rfl | exact as10 rfl | exact as11 rfl) rfl ?_
          refine AL.nil ?_
          refine th_n ?_
          first | (have w := ends33 (nm := nm) (mk := c) ‹(c.toNat : Int) = 33›; have q := hno hch; exact ⟨k + 1, hk1, by omega, by (try dsimp only); rw [q.1, q.2, List.flatMap_append, List.flatMap_append, List.flatMap_singleton, List.flatMap_singleton, w.1, w.2, ← hA, ← hB]; exact Weak.ren _ [(100, _), (101, _)] hC rfl (by repeat (first | exact True.intro | refine And.intro ?_ ?_ | exact DLead.same | exact DLead.eqI (by omega) | exact DLead.eqI (by dsimp only; omega) | exact DLead.nil | exact rfl | refine ⟨_, _, rfl, rfl, ?_⟩ | refine ⟨_, rfl, ?_⟩ | refine ⟨_, _, rfl, ?_, ?_⟩)) (by repeat (first | exact True.intro | refine And.intro ?_ ?_ | exact DLead.same | exact DLead.eqI (by omega) | exact DLead.eqI (by dsimp only; omega) | exact DLead.nil | exact rfl | refine ⟨_, _, rfl, rfl, ?_⟩ | refine ⟨_, rfl, ?_⟩ | refine ⟨_, _, rfl, ?_, ?_⟩)) rfl rfl rfl⟩) | (have w := ends63 (nm := nm) (mk := c) ‹(c.toNat : Int) = 63›; have q := hno hch; exact ⟨k + 1, hk1, by omega, by (try dsimp only); rw [q.1, q.2, List.flatMap_append, List.flatMap_append, List.flatMap_singleton, List.flatMap_singleton, w.1, w.2, ← hA, ← hB]; exact Weak.ren _ [(100, _), (101, _)] hC rfl (by repeat (first | exact True.intro | refine And.intro ?_ ?_ | exact DLead.same | exact DLead.eqI (by omega) | exact DLead.eqI (by dsimp only; omega) | exact DLead.nil | exact rfl | refine ⟨_, _, rfl, rfl, ?_⟩ | refine ⟨_, rfl, ?_⟩ | refine ⟨_, _, rfl, ?_, ?_⟩)) (by repeat (first | exact True.intro | refine And.intro ?_ ?_ | exact DLead.same | exact DLead.eqI (by omega) | exact DLead.eqI (by dsimp only; omega) | exact DLead.nil | exact rfl | refine ⟨_, _, rfl, rfl, ?_⟩ | refine ⟨_, rfl, ?_⟩ | refine ⟨_, _, rfl, ?_, ?_⟩)) rfl rfl rfl⟩) | (have w := ends0 (nm := nm) (mk := c) ‹¬ (c.toNat : Int) = 33› ‹¬ (c.toNat : Int) = 63›; have q := hno hch; exact ⟨k + 1, hk1, by omega, by (try dsimp only); rw [q.1, q.2, List.flatMap_append, List.flatMap_append, List.flatMap_singleton, List.flatMap_singleton, w.1, w.2, ← hA, ← hB, List.append_nil, List.append_nil]; exact Weak.ren _ [(100, _), (101, _)] hC rfl (by repeat (first | exact True.intro | refine And.intro ?_ ?_ | exact DLead.same | exact DLead.eqI (by omega) | exact DLead.eqI (by dsimp only; omega) | exact DLead.nil | exact rfl | refine ⟨_, _, rfl, rfl, ?_⟩ | refine ⟨_, rfl, ?_⟩ | refine ⟨_, _, rfl, ?_, ?_⟩)) (by repeat (first | exact True.intro | refine And.intro ?_ ?_ | exact DLead.same | exact DLead.eqI (by omega) | exact DLead.eqI (by dsimp only; omega) | exact DLead.nil | exact rfl | refine ⟨_, _, rfl, rfl, ?_⟩ | refine ⟨_, rfl, ?_⟩ | refine ⟨_, _, rfl, ?_, ?_⟩)) rfl rfl rfl⟩) | (have w := hy (chName_iff.2 (by simp_all <;> omega)); exact ⟨k + 1, hk1, by omega, by (try dsimp only); rw [w.1, w.2, ← hA, ← hB]; exact Weak.ren _ [(100, _), (101, _)] hC rfl (by repeat (first | exact True.intro | refine And.intro ?_ ?_ | exact DLead.same | exact DLead.eqI (by omega) | exact DLead.eqI (by dsimp only; omega) | exact DLead.nil | exact rfl | refine ⟨_, _, rfl, rfl, ?_⟩ | refine ⟨_, rfl, ?_⟩ | refine ⟨_, _, rfl, ?_, ?_⟩)) (by repeat (first | exact True.intro | refine And.intro ?_ ?_ | exact DLead.same | exact DLead.eqI (by omega) | exact DLead.eqI (by dsimp only; omega) | exact DLead.nil | exact rfl | refine ⟨_, _, rfl, rfl, ?_⟩ | refine ⟨_, rfl, ?_⟩ | refine ⟨_, _, rfl, ?_, ?_⟩)) rfl rfl rfl⟩)
        · refine AC.seq ?_
          refine AC.region ?_
          refine AL.p (by first | exact g_cmp rfl rfl rfl | exact g_scmp rfl rfl rfl | exact g_eqB rfl rfl rfl | exact g_neB rfl rfl rfl) rfl ?_
          refine AL.p (by first | exact as1 rfl | exact as2 rfl | exact as3 rfl | exact as4 rfl | exact as5 rfl | exact as6 rfl | exact as7 rfl | exact as8 rfl | exact as9 rfl | exact as10 rfl | exact as11 rfl) rfl ?_
          refine AL.nil ?_
          refine th_n ?_
          first | refine AC.condD rfl (fun h2 => ?_) (fun h2 => ?_) | refine AC.condND rfl (fun h2 => ?_) (fun h2 => ?_) | refine AC.condB rfl (fun h2 => ?_) (fun h2 => ?_) | refine AC.condNB rfl (fun h2 => ?_) (fun h2 => ?_)
          · refine AC.seq ?_
            refine AC.region ?_
            refine AL.p (by first | exact mv1 rfl | exact mv2 rfl | exact mv3 rfl | exact mv4 rfl | exact mv5 rfl | exact mv6 rfl | exact mv7 rfl | exact mv8 rfl | exact mv9 rfl | exact mv10 rfl | exact mv11 rfl) rfl ?_
            refine AL.p (by first | exact mv1 rfl | exact mv2 rfl | exact mv3 rfl | exact mv4 rfl | exact mv5 rfl | exact mv6 rfl | exact mv7 rfl | exact mv8 rfl | exact mv9 rfl | exact mv10 rfl | exact mv11 rfl) rfl ?_
            refine AL.p (by exact g_saddB (a := nm) (b := [114]) rfl rfl (by simp only [List.length_cons, List.length_nil]; omega)) rfl ?_
            refine AL.q (by exact h_litF rfl rfl rfl rfl rfl rfl rfl rfl) rfl ?_
            refine AL.q (by exact h_appendStr A [nm ++ [114]] (.own rfl rfl (strL_len _).symm) (.view rfl) (by rw [List.length_append]; simp only [List.length_cons, List.length_nil]; omega) (by simp)) rfl ?_
            refine AL.p (by first | exact as1 rfl | exact as2 rfl | exact as3 rfl | exact as4 rfl | exact as5 rfl | exact as6 rfl | exact as7 rfl | exact as8 rfl | exact as9 rfl | exact as10 rfl | exact as11 rfl) rfl ?_
            refine AL.nil ?_
            refine th_n ?_
            refine AC.region ?_
            refine AL.p (by first | exact mv1 rfl | exact mv2 rfl | exact mv3 rfl | exact mv4 rfl | exact mv5 rfl | exact mv6 rfl | exact mv7 rfl | exact mv8 rfl | exact mv9 rfl | exact mv10 rfl | exact mv11 rfl) rfl ?_
            refine AL.p (by first | exact mv1 rfl | exact mv2 rfl | exact mv3 rfl | exact mv4 rfl | exact mv5 rfl | exact mv6 rfl | exact mv7 rfl | exact mv8 rfl | exact mv9 rfl | exact mv10 rfl | exact mv11 rfl) rfl ?_
            refine AL.p (by exact g_saddB (a := nm) (b := [97]) rfl rfl (by simp only [List.length_cons, List.length_nil]; omega)) rfl ?_
            refine AL.q (by exact h_litF rfl rfl rfl rfl rfl rfl rfl rfl) rfl ?_
            refine AL.q (by exact h_appendStr B [nm ++ [97]] (.own rfl rfl (strL_len _).symm) (.view rfl) (by rw [List.length_append]; simp only [List.length_cons, List.length_nil]; omega) (by simp)) rfl ?_
            refine AL.p (by first | exact as1 rfl | exact as2 rfl | exact as3 rfl | exact as4 rfl | exact as5 rfl | exact as6 rfl | exact as7 rfl | exact as8 rfl | exact as9 rfl | exact as10 rfl | exact as11 rfl) rfl ?_
            refine AL.nil ?_
            refine ib_n ?_
            refine ib_n ?_
            refine th_n ?_
            refine AC.region ?_
            refine AL.p (by first | exact mv1 rfl | exact mv2 rfl | exact mv3 rfl | exact mv4 rfl | exact mv5 rfl | exact mv6 rfl | exact mv7 rfl | exact mv8 rfl | exact mv9 rfl | exact mv10 rfl | exact mv11 rfl) rfl ?_
            refine AL.p (by first | exact g_arith rfl rfl rfl (by first | exact wrap_i64 (by omega) | exact wrap_u8 (by omega) | exact wrap_u64 (by omega) | rfl) | exact g_sadd rfl rfl (by first | assumption | omega | (simp only [ByteArray.size_append, bstr_size, List.length_take, List.length_drop, List.length_cons, List.length_nil]; omega))) rfl ?_
            refine AL.p (by first | exact as1 rfl | exact as2 rfl | exact as3 rfl | exact as4 rfl | exact as5 rfl | exact as6 rfl | exact as7 rfl | exact as8 rfl | exact as9 rfl | exact as10 rfl | exact as11 rfl) rfl ?_
            refine AL.nil ?_
            refine th_n ?_
            first | (have w := ends33 (nm := nm) (mk := c) ‹(c.toNat : Int) = 33›; have q := hno hch; exact ⟨k + 1, hk1, by omega, by (try dsimp only); rw [q.1, q.2, List.flatMap_append, List.flatMap_append, List.flatMap_singleton, List.flatMap_singleton, w.1, w.2, ← hA, ← hB]; exact Weak.ren _ [(100, _), (101, _)] hC rfl (by repeat (first | exact True.intro | refine And.intro ?_ ?_ | exact DLead.same | exact DLead.eqI (by omega) | exact DLead.eqI (by dsimp only; omega) | exact DLead.nil | exact rfl | refine ⟨_, _, rfl, rfl, ?_⟩ | refine ⟨_, rfl, ?_⟩ | refine ⟨_, _, rfl, ?_, ?_⟩)) (by repeat (first | exact True.intro | refine And.intro ?_ ?_ | exact DLead.same | exact DLead.eqI (by omega) | exact DLead.eqI (by dsimp only; omega) | exact DLead.nil | exact rfl | refine ⟨_, _, rfl, rfl, ?_⟩ | refine ⟨_, rfl, ?_⟩ | refine ⟨_, _, rfl, ?_, ?_⟩)) rfl rfl rfl⟩) | (have w := ends63 (nm := nm) (mk := c) ‹(c.toNat : Int) = 63›; have q := hno hch; exact ⟨k + 1, hk1, by omega, by (try dsimp only); rw [q.1, q.2, List.flatMap_append, List.flatMap_append, List.flatMap_singleton, List.flatMap_singleton, w.1, w.2, ← hA, ← hB]; exact Weak.ren _ [(100, _), (101, _)] hC rfl (by repeat (first | exact True.intro | refine And.intro ?_ ?_ | exact DLead.same | exact DLead.eqI (by omega) | exact DLead.eqI (by dsimp only; omega) | exact DLead.nil | exact rfl | refine ⟨_, _, rfl, rfl, ?_⟩ | refine ⟨_, rfl, ?_⟩ | refine ⟨_, _, rfl, ?_, ?_⟩)) (by repeat (first | exact True.intro | refine And.intro ?_ ?_ | exact DLead.same | exact DLead.eqI (by omega) | exact DLead.eqI (by dsimp only; omega) | exact DLead.nil | exact rfl | refine ⟨_, _, rfl, rfl, ?_⟩ | refine ⟨_, rfl, ?_⟩ | refine ⟨_, _, rfl, ?_, ?_⟩)) rfl rfl rfl⟩) | (have w := ends0 (nm := nm) (mk := c) ‹¬ (c.toNat : Int) = 33› ‹¬ (c.toNat : Int) = 63›; have q := hno hch; exact ⟨k + 1, hk1, by omega, by (try dsimp only); rw [q.1, q.2, List.flatMap_append, List.flatMap_append, List.flatMap_singleton, List.flatMap_singleton, w.1, w.2, ← hA, ← hB, List.append_nil, List.append_nil]; exact Weak.ren _ [(100, _), (101, _)] hC rfl (by repeat (first | exact True.intro | refine And.intro ?_ ?_ | exact DLead.same | exact DLead.eqI (by omega) | exact DLead.eqI (by dsimp only; omega) | exact DLead.nil | exact rfl | refine ⟨_, _, rfl, rfl, ?_⟩ | refine ⟨_, rfl, ?_⟩ | refine ⟨_, _, rfl, ?_, ?_⟩)) (by repeat (first | exact True.intro | refine And.intro ?_ ?_ | exact DLead.same | exact DLead.eqI (by omega) | exact DLead.eqI (by dsimp only; omega) | exact DLead.nil | exact rfl | refine ⟨_, _, rfl, rfl, ?_⟩ | refine ⟨_, rfl, ?_⟩ | refine ⟨_, _, rfl, ?_, ?_⟩)) rfl rfl rfl⟩) | (have w := hy (chName_iff.2 (by simp_all <;> omega)); exact ⟨k + 1, hk1, by omega, by (try dsimp only); rw [w.1, w.2, ← hA, ← hB]; exact Weak.ren _ [(100, _), (101, _)] hC rfl (by repeat (first | exact True.intro | refine And.intro ?_ ?_ | exact DLead.same | exact DLead.eqI (by omega) | exact DLead.eqI (by dsimp only; omega) | exact DLead.nil | exact rfl | refine ⟨_, _, rfl, rfl, ?_⟩ | refine ⟨_, rfl, ?_⟩ | refine ⟨_, _, rfl, ?_, ?_⟩)) (by repeat (first | exact True.intro | refine And.intro ?_ ?_ | exact DLead.same | exact DLead.eqI (by omega) | exact DLead.eqI (by dsimp only; omega) | exact DLead.nil | exact rfl | refine ⟨_, _, rfl, rfl, ?_⟩ | refine ⟨_, rfl, ?_⟩ | refine ⟨_, _, rfl, ?_, ?_⟩)) rfl rfl rfl⟩)
          · refine AC.skip ?_
            refine ib_n ?_
            refine ib_n ?_
            refine th_n ?_
            refine AC.region ?_
            refine AL.p (by first | exact mv1 rfl | exact mv2 rfl | exact mv3 rfl | exact mv4 rfl | exact mv5 rfl | exact mv6 rfl | exact mv7 rfl | exact mv8 rfl | exact mv9 rfl | exact mv10 rfl | exact mv11 rfl) rfl ?_
            refine AL.p (by first | exact g_arith rfl rfl rfl (by first | exact wrap_i64 (by omega) | exact wrap_u8 (by omega) | exact wrap_u64 (by omega) | rfl) | exact g_sadd rfl rfl (by first | assumption | omega | (simp only [ByteArray.size_append, bstr_size, List.length_take, List.length_drop, List.length_cons, List.length_nil]; omega))) rfl ?_
            refine AL.p (by first | exact as1 rfl | exact as2 rfl | exact as3 rfl | exact as4 rfl | exact as5 rfl | exact as6 rfl | exact as7 rfl | exact as8 rfl | exact as9 rfl | exact as10 rfl | exact as11 rfl) rfl ?_
            refine AL.nil ?_
            refine th_n ?_
            first | (have w := ends33 (nm := nm) (mk := c) ‹(c.toNat : Int) = 33›; have q := hno hch; exact ⟨k + 1, hk1, by omega, by (try dsimp only); rw [q.1, q.2, List.flatMap_append, List.flatMap_append, List.flatMap_singleton, List.flatMap_singleton, w.1, w.2, ← hA, ← hB]; exact Weak.ren _ [(100, _), (101, _)] hC rfl (by repeat (first | exact True.intro | refine And.intro ?_ ?_ | exact DLead.same | exact DLead.eqI (by omega) | exact DLead.eqI (by dsimp only; omega) | exact DLead.nil | exact rfl | refine ⟨_, _, rfl, rfl, ?_⟩ | refine ⟨_, rfl, ?_⟩ | refine ⟨_, _, rfl, ?_, ?_⟩)) (by repeat (first | exact True.intro | refine And.intro ?_ ?_ | exact DLead.same | exact DLead.eqI (by omega) | exact DLead.eqI (by dsimp only; omega) | exact DLead.nil | exact rfl | refine ⟨_, _, rfl, rfl, ?_⟩ | refine ⟨_, rfl, ?_⟩ | refine ⟨_, _, rfl, ?_, ?_⟩)) rfl rfl rfl⟩) | (have w := ends63 (nm := nm) (mk := c) ‹(c.toNat : Int) = 63›; have q := hno hch; exact ⟨k + 1, hk1, by omega, by (try dsimp only); rw [q.1, q.2, List.flatMap_append, List.flatMap_append, List.flatMap_singleton, List.flatMap_singleton, w.1, w.2, ← hA, ← hB]; exact Weak.ren _ [(100, _), (101, _)] hC rfl (by repeat (first | exact True.intro | refine And.intro ?_ ?_ | exact DLead.same | exact DLead.eqI (by omega) | exact DLead.eqI (by dsimp only; omega) | exact DLead.nil | exact rfl | refine ⟨_, _, rfl, rfl, ?_⟩ | refine ⟨_, rfl, ?_⟩ | refine ⟨_, _, rfl, ?_, ?_⟩)) (by repeat (first | exact True.intro | refine And.intro ?_ ?_ | exact DLead.same | exact DLead.eqI (by omega) | exact DLead.eqI (by dsimp only; omega) | exact DLead.nil | exact rfl | refine ⟨_, _, rfl, rfl, ?_⟩ | refine ⟨_, rfl, ?_⟩ | refine ⟨_, _, rfl, ?_, ?_⟩)) rfl rfl rfl⟩) | (have w := ends0 (nm := nm) (mk := c) ‹¬ (c.toNat : Int) = 33› ‹¬ (c.toNat : Int) = 63›; have q := hno hch; exact ⟨k + 1, hk1, by omega, by (try dsimp only); rw [q.1, q.2, List.flatMap_append, List.flatMap_append, List.flatMap_singleton, List.flatMap_singleton, w.1, w.2, ← hA, ← hB, List.append_nil, List.append_nil]; exact Weak.ren _ [(100, _), (101, _)] hC rfl (by repeat (first | exact True.intro | refine And.intro ?_ ?_ | exact DLead.same | exact DLead.eqI (by omega) | exact DLead.eqI (by dsimp only; omega) | exact DLead.nil | exact rfl | refine ⟨_, _, rfl, rfl, ?_⟩ | refine ⟨_, rfl, ?_⟩ | refine ⟨_, _, rfl, ?_, ?_⟩)) (by repeat (first | exact True.intro | refine And.intro ?_ ?_ | exact DLead.same | exact DLead.eqI (by omega) | exact DLead.eqI (by dsimp only; omega) | exact DLead.nil | exact rfl | refine ⟨_, _, rfl, rfl, ?_⟩ | refine ⟨_, rfl, ?_⟩ | refine ⟨_, _, rfl, ?_, ?_⟩)) rfl rfl rfl⟩) | (have w := hy (chName_iff.2 (by simp_all <;> omega)); exact ⟨k + 1, hk1, by omega, by (try dsimp only); rw [w.1, w.2, ← hA, ← hB]; exact Weak.ren _ [(100, _), (101, _)] hC rfl (by repeat (first | exact True.intro | refine And.intro ?_ ?_ | exact DLead.same | exact DLead.eqI (by omega) | exact DLead.eqI (by dsimp only; omega) | exact DLead.nil | exact rfl | refine ⟨_, _, rfl, rfl, ?_⟩ | refine ⟨_, rfl, ?_⟩ | refine ⟨_, _, rfl, ?_, ?_⟩)) (by repeat (first | exact True.intro | refine And.intro ?_ ?_ | exact DLead.same | exact DLead.eqI (by omega) | exact DLead.eqI (by dsimp only; omega) | exact DLead.nil | exact rfl | refine ⟨_, _, rfl, rfl, ?_⟩ | refine ⟨_, rfl, ?_⟩ | refine ⟨_, _, rfl, ?_, ?_⟩)) rfl rfl rfl⟩)
    · refine AC.exit ?_
      refine th_e ?_
      refine th_e ?_
      refine ib_y ?_
      refine th_n ?_
      refine AC.seq ?_
      obtain rfl : k = m.length := by omega
      refine AC.weak (Weak.freeze (i := 4) rfl rfl (sownl _) (sownt _)) ?_
      refine AC.weak (Weak.freeze (i := 5) rfl rfl (sownl _) (sownt _)) ?_
      refine AC.region ?_
      refine AL.p (by first | exact mv1 rfl | exact mv2 rfl | exact mv3 rfl | exact mv4 rfl | exact mv5 rfl | exact mv6 rfl | exact mv7 rfl | exact mv8 rfl | exact mv9 rfl | exact mv10 rfl | exact mv11 rfl) rfl ?_
      refine AL.p (by first | exact mv1 rfl | exact mv2 rfl | exact mv3 rfl | exact mv4 rfl | exact mv5 rfl | exact mv6 rfl | exact mv7 rfl | exact mv8 rfl | exact mv9 rfl | exact mv10 rfl | exact mv11 rfl) rfl ?_
      refine AL.p (by first | exact as1 rfl | exact as2 rfl | exact as3 rfl | exact as4 rfl | exact as5 rfl | exact as6 rfl | exact as7 rfl | exact as8 rfl | exact as9 rfl | exact as10 rfl | exact as11 rfl) rfl ?_
      refine AL.p (by first | exact as1 rfl | exact as2 rfl | exact as3 rfl | exact as4 rfl | exact as5 rfl | exact as6 rfl | exact as7 rfl | exact as8 rfl | exact as9 rfl | exact as10 rfl | exact as11 rfl) rfl ?_
      refine AL.nil ?_
      refine th_n ?_
      refine AC.ret ?_
      refine bq_r ?_
      exact ret0 rfl (by repeat (first | exact rfl | exact DLead.same | exact DLead.nil | refine ⟨_, _, rfl, ?_, ?_⟩ | refine ⟨_, rfl, ?_⟩))
theorem en_l25Kinds : Enters Try.prog 23 := enters_of Try.func23 rfl rfl
end Go.Proofs.Ytkfpoagjlaldgaa

set_option linter.all false
set_option maxRecDepth 20000
namespace Go.Proofs.Ytkfpoagjlaldgaa
open Go.RowKit

theorem nx_bstr (m : List UInt8) : nx (bstr m) = fun i => m.getD i 0 := by
  funext i
  show m.toArray.getD i 0 = m.getD i 0
  rw [Array.getD_eq_getD_getElem?, List.getD_eq_getElem?_getD]
  simp
theorem cut_bstr {m : List UInt8} {i j : Nat} (hj : j ≤ m.length) : (cut (fun i => m.getD i 0) i j).data.toList = (m.take j).drop i := by
  show (List.range' i (j - i)).map (fun i => m.getD i 0) = _
  refine List.ext_getElem (by simp; omega) fun k h1 h2 => ?_
  simp only [List.length_map, List.length_range'] at h1
  rw [List.getElem_map, List.getElem_range', List.getElem_drop, List.getElem_take, List.getD_eq_getElem?_getD, List.getElem?_eq_getElem (by omega)]
  simp
theorem scanN_in (c : Nat → UInt8) : ∀ n i, i ≤ scanN c n i ∧ ∀ k, i ≤ k → k < scanN c n i → chName (c k) = true
  | 0, i => ⟨Nat.le_refl _, fun k h1 h2 => by simp only [scanN] at h2; omega⟩
  | n + 1, i => by
    unfold scanN
    split
    · rename_i h
      obtain ⟨h1, h2⟩ := scanN_in c n (i + 1)
      refine ⟨by omega, fun k q1 q2 => ?_⟩
      by_cases e : k = i
      · subst e; exact h
      · exact h2 k (by omega) q2
    · exact ⟨Nat.le_refl _, fun k q1 q2 => by omega⟩
theorem run_names (m : List UInt8) {i : Nat} : ∀ j, i ≤ j → (∀ k, i ≤ k → k < j → chName (m.getD k 0) = true) → frL m j = frL m i ∧ evL m j = evL m i
  | 0, h, _ => by obtain rfl : i = 0 := by omega
                  exact ⟨rfl, rfl⟩
  | j + 1, h, hn => by
    by_cases e : i = j + 1
    · subst e; exact ⟨rfl, rfl⟩
    · have hj := hn j (by omega) (by omega)
      obtain ⟨h1, h2⟩ := run_names m j (by omega) (fun k q1 q2 => hn k q1 (by omega))
      rw [frL, evL, if_pos hj, if_pos hj]
      exact ⟨h1, h2⟩
section
variable {m : List UInt8} {g : List UInt8 × UInt8 → List (List UInt8)}
theorem ev_step {k : Nat} (h : chName (m.getD k 0) = false) : frL m (k + 1) = k + 1 ∧ (evL m (k + 1)).flatMap g = (evL m k).flatMap g ++ g ((m.take k).drop (frL m k), m.getD k 0) := by
  rw [frL, evL, if_neg (by rw [h]; exact Bool.false_ne_true), if_neg (by rw [h]; exact Bool.false_ne_true), List.flatMap_append, List.flatMap_singleton]
  exact ⟨rfl, rfl⟩
theorem ev_sep (hg : ∀ n k, k ≠ 33 → k ≠ 63 → g (n, k) = []) {k : Nat} {x : UInt8} (h : m.getD k 0 = x) (hc : chName x = false) (h1 : x ≠ 33) (h2 : x ≠ 63) : frL m (k + 1) = k + 1 ∧ (evL m (k + 1)).flatMap g = (evL m k).flatMap g := by
  obtain ⟨a, b⟩ := ev_step (m := m) (g := g) (k := k) (by rw [h]; exact hc)
  rw [h, hg _ _ h1 h2, List.append_nil] at b
  exact ⟨a, b⟩
abbrev nmP (p : ByteArray × UInt8) : List UInt8 × UInt8 := (p.1.data.toList, p.2)
theorem scan_all (hg : ∀ n k, k ≠ 33 → k ≠ 63 → g (n, k) = []) : ∀ f i,
    (∀ t j, parsePart (fun i => m.getD i 0) f i = some (t, j) → frL m i = i → frL m j = j ∧ (evL m j).flatMap g = (evL m i).flatMap g ++ ((partsT t).map nmP).flatMap g) ∧
    (∀ t j, parseRow (fun i => m.getD i 0) f i = some (t, j) → frL m i = i → frL m j = j ∧ (evL m j).flatMap g = (evL m i).flatMap g ++ ((partsRow t).map nmP).flatMap g) ∧
    (∀ t j, parseTail (fun i => m.getD i 0) f i = some (t, j) → frL m i = i → frL m j = j ∧ (evL m j).flatMap g = (evL m i).flatMap g ++ ((partsRow t).map nmP).flatMap g) ∧
    (∀ t j, parseMore (fun i => m.getD i 0) f i = some (t, j) → frL m i = i → frL m j = j ∧ (evL m j).flatMap g = (evL m i).flatMap g ++ ((partsRows t).map nmP).flatMap g) := by
  intro f
  induction f with
  | zero => intro i; simp [parsePart, parseRow, parseTail, parseMore]
  | succ f ih =>
    intro i
    refine ⟨fun t j h hf => ?_, fun t j h hf => ?_, fun t j h hf => ?_, fun t j h hf => ?_⟩
    · rw [parsePart] at h
      split at h
      · rename_i h40
        have s1 := ev_sep hg (k := i) h40 (by decide) (by decide) (by decide)
        cases hr : parseRow (fun i => m.getD i 0) f (i + 1) with
        | none => rw [hr] at h; cases h
        | some y =>
          obtain ⟨r, j1⟩ := y
          rw [hr] at h
          simp only at h
          obtain ⟨a1, a2⟩ := (ih (i + 1)).2.1 _ _ hr s1.1
          cases hm : parseMore (fun i => m.getD i 0) f j1 with
          | none => rw [hm] at h; cases h
          | some z =>
            obtain ⟨rs, k⟩ := z
            rw [hm] at h
            simp only at h
            obtain ⟨b1, b2⟩ := (ih j1).2.2.2 _ _ hm a1
            split at h
            · cases h
            · split at h
              · rename_i h41
                cases h
                have s2 := ev_sep hg (k := k) h41 (by decide) (by decide) (by decide)
                refine ⟨s2.1, ?_⟩
                rw [s2.2, b2, a2, s1.2]
                simp only [partsT, partsRows, List.map_append, List.flatMap_append, List.append_assoc]
              · cases h
      · simp only at h
        split at h
        · rename_i hl
          cases h
          obtain ⟨hle, hnm⟩ := scanN_in (fun i => m.getD i 0) 1001 i
          obtain ⟨n1, n2⟩ := run_names m _ hle hnm
          have hmk : chName (m.getD (scanN (fun i => m.getD i 0) 1001 i) 0) = false ∧ m.getD (scanN (fun i => m.getD i 0) 1001 i) 0 ≠ 0 := by
            rcases leafOk_marks hl with ⟨h1, _⟩ | ⟨_, h2⟩
            · rw [Bool.or_eq_true, beq_iff_eq, beq_iff_eq] at h1
              rcases h1 with h1 | h1 <;> (rw [h1]; decide)
            · rw [Bool.or_eq_true, beq_iff_eq, beq_iff_eq] at h2
              rcases h2 with h1 | h1 <;> (rw [h1]; decide)
          have hlt : scanN (fun i => m.getD i 0) 1001 i < m.length := by
            refine Nat.lt_of_not_le fun hle => hmk.2 ?_
            rw [List.getD_eq_getElem?_getD, List.getElem?_eq_none hle]
            rfl
          obtain ⟨a, b⟩ := ev_step (m := m) (g := g) hmk.1
          refine ⟨a, ?_⟩
          rw [b, n2, n1, hf]
          simp only [partsT, List.map_cons, List.map_nil, List.flatMap_cons, List.flatMap_nil, List.append_nil]
          rw [← cut_bstr (Nat.le_of_lt hlt)]
        · cases h
    · rw [parseRow] at h
      cases hp : parsePart (fun i => m.getD i 0) f i with
      | none => rw [hp] at h; cases h
      | some y =>
        obtain ⟨t1, j1⟩ := y
        rw [hp] at h
        simp only at h
        obtain ⟨a1, a2⟩ := (ih i).1 _ _ hp hf
        cases hm : parseTail (fun i => m.getD i 0) f j1 with
        | none => rw [hm] at h; cases h
        | some z =>
          obtain ⟨rs, k⟩ := z
          rw [hm] at h
          cases h
          obtain ⟨b1, b2⟩ := (ih j1).2.2.1 _ _ hm a1
          refine ⟨b1, ?_⟩
          rw [b2, a2]
          simp only [partsRow, List.map_append, List.flatMap_append, List.append_assoc]
    · rw [parseTail] at h
      split at h
      · rename_i h59
        have s1 := ev_sep hg (k := i) h59 (by decide) (by decide) (by decide)
        cases hp : parsePart (fun i => m.getD i 0) f (i + 1) with
        | none => rw [hp] at h; cases h
        | some y =>
          obtain ⟨t1, j1⟩ := y
          rw [hp] at h
          simp only at h
          obtain ⟨a1, a2⟩ := (ih (i + 1)).1 _ _ hp s1.1
          cases hm : parseTail (fun i => m.getD i 0) f j1 with
          | none => rw [hm] at h; cases h
          | some z =>
            obtain ⟨rs, k⟩ := z
            rw [hm] at h
            cases h
            obtain ⟨b1, b2⟩ := (ih j1).2.2.1 _ _ hm a1
            refine ⟨b1, ?_⟩
            rw [b2, a2, s1.2]
            simp only [partsRow, List.map_append, List.flatMap_append, List.append_assoc]
      · cases h
        exact ⟨hf, by simp [partsRow]⟩
    · rw [parseMore] at h
      split at h
      · rename_i h124
        have s1 := ev_sep hg (k := i) h124 (by decide) (by decide) (by decide)
        cases hp : parseRow (fun i => m.getD i 0) f (i + 1) with
        | none => rw [hp] at h; cases h
        | some y =>
          obtain ⟨t1, j1⟩ := y
          rw [hp] at h
          simp only at h
          obtain ⟨a1, a2⟩ := (ih (i + 1)).2.1 _ _ hp s1.1
          cases hm : parseMore (fun i => m.getD i 0) f j1 with
          | none => rw [hm] at h; cases h
          | some z =>
            obtain ⟨rs, k⟩ := z
            rw [hm] at h
            cases h
            obtain ⟨b1, b2⟩ := (ih j1).2.2.2 _ _ hm a1
            refine ⟨b1, ?_⟩
            rw [b2, a2, s1.2]
            simp only [partsRows, List.map_append, List.flatMap_append, List.append_assoc]
      · cases h
        exact ⟨hf, by simp [partsRows]⟩
/-- What the marks of a process's text name is what its parts name. -/
theorem ev_parts (hg : ∀ n k, k ≠ 33 → k ≠ 63 → g (n, k) = []) {ts : List Tr} (h : procOf (bstr m) = some ts) : (evL m m.length).flatMap g = (partsP ts).flatMap g := by
  unfold procOf at h
  rw [nx_bstr] at h
  split at h
  · rename_i h0
    cases hp : parseRow (fun i => m.getD i 0) 1000 2 with
    | none => rw [hp] at h; cases h
    | some y =>
      obtain ⟨r, k⟩ := y
      rw [hp] at h
      simp only at h
      split at h
      · rename_i h1
        cases h
        have s1 := ev_sep (m := m) hg (k := 0) h0.2.1 (by decide) (by decide) (by decide)
        have s2 := ev_sep (m := m) hg (k := 1) h0.2.2 (by decide) (by decide) (by decide)
        obtain ⟨a1, a2⟩ := (scan_all (m := m) hg 1000 2).2.1 _ _ hp s2.1
        have s3 := ev_sep (m := m) hg (k := k) h1.1 (by decide) (by decide) (by decide)
        have hlen : m.length = k + 1 := by rw [← bstr_size m]; exact h1.2.symm
        rw [hlen, s3.2, a2, s2.2, s1.2]
        simp [evL, partsP]
      · cases h
  · cases h
end
theorem insG_no (n : List UInt8) (k : UInt8) (h1 : k ≠ 33) (h2 : k ≠ 63) : insG (n, k) = [] := by unfold insG; rw [if_neg h1, if_neg h2]
theorem outG_no (n : List UInt8) (k : UInt8) (h1 : k ≠ 33) (h2 : k ≠ 63) : outG (n, k) = [] := by unfold outG; rw [if_neg h1, if_neg h2]
/-- A text among texts. -/
def hasS (l : List (List UInt8)) (v : List UInt8) : Bool := l.any fun x => decide (x = v)
theorem hasS_turn (l : List (List UInt8)) (v : List UInt8) : (l.any fun x => decide (v = x)) = hasS l v := by
  unfold hasS
  congr 1
  funext x
  exact decide_eq_decide.2 ⟨Eq.symm, Eq.symm⟩
def inS (X A : List (List UInt8)) (n : List UInt8) : Bool := hasS X n || hasS A n
/-- One name more. -/
def sgStep (X A B : List (List UInt8)) (acc : Option (List Sig)) (n : List UInt8) : Option (List Sig) :=
  match acc with
  | none => none
  | some l => if (inS X A n && hasS B n) = true then none else if (l.any fun x => decide (x.name = n)) = true then some l else some (l ++ [⟨n, if inS X A n = true then 1 else 2⟩])
def sgL (X A B : List (List UInt8)) (N : List (List UInt8)) : Option (List Sig) := N.foldl (sgStep X A B) (some [])
theorem sg_none (X A B : List (List UInt8)) : ∀ N : List (List UInt8), N.foldl (sgStep X A B) none = none
  | [] => rfl
  | n :: N => sg_none X A B N
theorem sgL_take {X A B N : List (List UInt8)} {k : Nat} (hk : k < N.length) : sgL X A B (N.take (k + 1)) = sgStep X A B (sgL X A B (N.take k)) N[k] := by
  unfold sgL
  rw [List.take_add_one, List.getElem?_eq_getElem hk, List.foldl_append]
  rfl
theorem sgL_no {X A B N : List (List UInt8)} {k : Nat} (h : sgL X A B (N.take k) = none) : sgL X A B N = none := by
  rw [← List.take_append_drop k N]
  unfold sgL at h ⊢
  rw [List.foldl_append, h, sg_none]
theorem sg_good {X A B : List (List UInt8)} : ∀ (N : List (List UInt8)) (a0 l : List Sig), (∀ x, x ∈ a0 → (inS X A x.name && hasS B x.name) = false) → N.foldl (sgStep X A B) (some a0) = some l → (∀ x, x ∈ l → (inS X A x.name && hasS B x.name) = false) ∧ l.length ≤ a0.length + N.length
  | [], a0, l, h0, h => by
    obtain rfl := Option.some.inj h
    exact ⟨h0, by simp⟩
  | n :: N, a0, l, h0, h => by
    have hst : sgStep X A B (some a0) n = if (inS X A n && hasS B n) = true then none else if (a0.any fun x => decide (x.name = n)) = true then some a0 else some (a0 ++ [⟨n, if inS X A n = true then 1 else 2⟩]) := rfl
    rw [List.foldl_cons, hst] at h
    split at h
    · rw [sg_none] at h; cases h
    · rename_i hb
      split at h
      · have := sg_good N a0 l h0 h
        exact ⟨this.1, by have := this.2; simp only [List.length_cons]; omega⟩
      · have := sg_good N _ l (fun x hx => by
          rcases List.mem_append.1 hx with hx | hx
          · exact h0 x hx
          · rw [List.mem_singleton] at hx; subst hx; simpa using hb) h
        exact ⟨this.1, by have := this.2; simp only [List.length_append, List.length_cons, List.length_nil] at this ⊢; omega⟩
/-- The signals of a process, and whether there are such. -/
def namesP (ts : List Tr) : List (List UInt8) := (partsP (expandRow ts)).map (·.1)
def psFin : Option (List Sig) → List Sig × Bool
  | none => ([], false)
  | some l => if l.length > 8 then ([], false) else (l, true)
def psR (m : List UInt8) (X : List (List UInt8)) : List Sig × Bool :=
  match procOf (bstr m) with
  | none => ([], false)
  | some ts => if X.length > 8 then ([], false) else psFin (sgL X ((partsP ts).flatMap insG) ((partsP ts).flatMap outG) (namesP ts))
theorem words_names {ts : List Tr} (h1 : ts ≠ []) (h2 : okRow ts) : wordsL (layRow 0 ts) = (partsP (expandRow ts)).map fun p => p.1 ++ [p.2] := by
  unfold wordsL partsP
  rw [layRow_words h1 h2 0, List.map_map, List.map_map]
  refine List.map_congr_left fun p _ => ?_
  show (word p).data.toList = _
  unfold word
  simp [bs]
end Go.Proofs.Ytkfpoagjlaldgaa

set_option linter.all false
set_option maxRecDepth 20000
namespace Go.Proofs.Ytkfpoagjlaldgaa
open Go.RowKit

theorem h_appendSigs (acc new : List Sig) {s : ASt} {dst : Option Nat} {ty : Nat} {pos : String} {af : Array Edge} {gd : Option (Nat × Bool)} {x y : Operand} {f : Nat} {ids ids2 : List Nat} {gone : List (Nat × Option Chunk)}
    (hto : AppTo s x 43 2 (sigsL acc) ids gone) (harg : AppArg s y 2 (sigsL new) ids2) (h : (acc ++ new).length ≤ 100000000) (hnew : gone = [] → 0 < new.length) :
    NOp Try.prog (ids ++ ids2) s ⟨dst, .call { callee := .builtin .append, args := #[x, y], argTypes := #[24, 24] }, ty, pos, af, gd⟩ f ⟨.own f (acc ++ new).length, (f, some (.arr 43 2 (sigsL (acc ++ new)))) :: gone⟩ := by
  have := h_append (P := Try.prog) (s := s) (dst := dst) (ty := ty) (pos := pos) (af := af) (gd := gd) (x := x) (y := y) (f := f) (t := 24) (tx := 24) (k := (acc ++ new).length) rfl rfl rfl rfl rfl rfl hto harg (by simp) (by omega) (by show (acc ++ new).length * 24 ≤ _; omega) (fun h => by rw [sigsL_len]; exact hnew h)
  rw [show sigsL acc ++ sigsL new = sigsL (acc ++ new) by simp] at this
  exact this
theorem gownl (l : List Sig) : l.length ≤ (sigsL l).length := Nat.le_of_eq (List.length_map _).symm
theorem gownt (l : List Sig) : (sigsL l).take l.length = sigsL l := List.take_of_length_le (Nat.le_of_eq (List.length_map _))
set_option maxHeartbeats 1000000 in
theorem l2SigOf_spec (l : List Sig) (hl : l.length ≤ 2000000) (nm : List UInt8) : ASpec Try.prog 26 [.d (vSigs l), aS (bstr nm)] [] (Pure1 (aI (findI (fun x => decide (x.name = nm)) l))) := by
  refine ASpec.of Try.func26 rfl rfl fun C hC => ?_
  refine AC.seq ?_
  refine AC.region ?_
  refine AL.p (by first | exact as1 rfl | exact as2 rfl | exact as3 rfl | exact as4 rfl | exact as5 rfl | exact as6 rfl | exact as7 rfl | exact as8 rfl | exact as9 rfl | exact as10 rfl | exact as11 rfl) rfl ?_
  refine AL.nil ?_
  refine th_n ?_
  refine AC.seq ?_
  refine AC.seq ?_
  refine AC.region ?_
  refine AL.p (by first | exact mv1 rfl | exact mv2 rfl | exact mv3 rfl | exact mv4 rfl | exact mv5 rfl | exact mv6 rfl | exact mv7 rfl | exact mv8 rfl | exact mv9 rfl | exact mv10 rfl | exact mv11 rfl) rfl ?_
  refine AL.p (by first | exact g_len_view rfl rfl (by first | exact List.length_map _ | rfl) | exact g_len_str rfl rfl rfl | exact g_len_nil rfl rfl | exact g_len_own (sz := 1) (els := []) (e' := 0) rfl rfl (by simp only [maxLen]; omega) | exact g_len_tight rfl rfl (by first | exact List.length_map _ | rfl)) rfl ?_
  refine AL.p (by first | exact mv1 rfl | exact mv2 rfl | exact mv3 rfl | exact mv4 rfl | exact mv5 rfl | exact mv6 rfl | exact mv7 rfl | exact mv8 rfl | exact mv9 rfl | exact mv10 rfl | exact mv11 rfl) rfl ?_
  refine AL.nil ?_
  refine th_n ?_
  refine AC.block ?_
  refine AC.loop (ι := Nat) (fun k => ⟨20, 0, [(1, aS (bstr nm)), (7, .d (vSigs l)), (8, aI l.length), (9, aI k)], []⟩) (fun k => k ≤ l.length ∧ ∀ j (hj : j < l.length), j < k → (fun x : Sig => decide (x.name = nm)) l[j] = false) (fun k => l.length - k) (0) ?_ (⟨Nat.zero_le _, fun j _ hj => by omega⟩) ?_
  · refine Weak.ren _ [] hC rfl ?_ ?_ rfl rfl rfl <;> repeat (first | exact True.intro | refine And.intro ?_ ?_ | exact DLead.same | exact DLead.eqI (by omega) | exact DLead.eqI (by dsimp only; omega) | exact DLead.nil | exact rfl)
  · intro k ⟨hk, hall⟩
    refine AC.seq ?_
    refine AC.region ?_
    refine AL.p (by first | exact g_cmp rfl rfl rfl | exact g_scmp rfl rfl rfl | exact g_eqB rfl rfl rfl | exact g_neB rfl rfl rfl) rfl ?_
    refine AL.nil ?_
    refine th_n ?_
    refine AC.seq ?_
    first | refine AC.condD rfl (fun h0 => ?_) (fun h0 => ?_) | refine AC.condND rfl (fun h0 => ?_) (fun h0 => ?_) | refine AC.condB rfl (fun h0 => ?_) (fun h0 => ?_) | refine AC.condNB rfl (fun h0 => ?_) (fun h0 => ?_)
    · refine AC.skip ?_
      refine th_n ?_
      refine AC.seq ?_
      refine AC.block ?_
      refine AC.seq ?_
      have hk1 : k < l.length := by omega
      have hget := sigsL_get hk1
      refine AC.region ?_
      refine AL.p (by first | exact mv1 rfl | exact mv2 rfl | exact mv3 rfl | exact mv4 rfl | exact mv5 rfl | exact mv6 rfl | exact mv7 rfl | exact mv8 rfl | exact mv9 rfl | exact mv10 rfl | exact mv11 rfl) rfl ?_
      refine AL.p (by first | exact g_ia_view rfl rfl rfl rfl rfl (by first | rfl | assumption) (by first | assumption | rfl) | exact g_ia_own rfl rfl rfl rfl rfl (by first | rfl | assumption) (by omega) (by first | exact Nat.mul_one _ | rfl | omega)) rfl ?_
      refine AL.p (by first | exact g_load_ref rfl rfl rfl | exact g_load_ptr rfl rfl rfl rfl rfl | exact g_load_refN rfl rfl rfl rfl | exact g_load_ptrN rfl rfl rfl rfl rfl | exact g_load_arr1 rfl rfl rfl rfl (by assumption) | exact g_load_arr rfl rfl rfl rfl (by first | rfl | omega) (by first | assumption | rfl) (by first | assumption | rfl)) rfl ?_
      refine AL.q (by exact h_alloc rfl) rfl ?_
      refine AL.p (by first | exact as1 rfl | exact as2 rfl | exact as3 rfl | exact as4 rfl | exact as5 rfl | exact as6 rfl | exact as7 rfl | exact as8 rfl | exact as9 rfl | exact as10 rfl | exact as11 rfl) rfl ?_
      refine AL.q (by first | exact h_store rfl rfl rfl rfl rfl rfl | exact h_store_arr1 rfl rfl rfl rfl (by first | exact .same | exact .nil) (by assumption) | exact h_store_arr rfl rfl rfl rfl (by first | exact .same | exact .nil) (by first | rfl | omega) (by first | assumption | rfl) (by omega)) rfl ?_
      refine AL.nil ?_
      refine th_n ?_
      refine AC.seq ?_
      refine AC.weak (Weak.freezeRef (ds := sigD l[k]) 6 rfl rfl) ?_
      refine AC.region ?_
      refine AL.p (by first | exact g_fa_ref rfl rfl rfl rfl rfl rfl | exact g_fa_ptr rfl rfl rfl rfl rfl) rfl ?_
      refine AL.p (by first | exact g_load_ref rfl rfl rfl | exact g_load_ptr rfl rfl rfl rfl rfl | exact g_load_refN rfl rfl rfl rfl | exact g_load_ptrN rfl rfl rfl rfl rfl | exact g_load_arr1 rfl rfl rfl rfl (by assumption) | exact g_load_arr rfl rfl rfl rfl (by first | rfl | omega) (by first | assumption | rfl) (by first | assumption | rfl)) rfl ?_
      refine AL.p (by first | exact mv1 rfl | exact mv2 rfl | exact mv3 rfl | exact mv4 rfl | exact mv5 rfl | exact mv6 rfl | exact mv7 rfl | exact mv8 rfl | exact mv9 rfl | exact mv10 rfl | exact mv11 rfl) rfl ?_
      refine AL.p (by first | exact g_cmp rfl rfl rfl | exact g_scmp rfl rfl rfl | exact g_eqB rfl rfl rfl | exact g_neB rfl rfl rfl) rfl ?_
      refine AL.nil ?_
      refine th_n ?_
      first | refine AC.condD rfl (fun h1 => ?_) (fun h1 => ?_) | refine AC.condND rfl (fun h1 => ?_) (fun h1 => ?_) | refine AC.condB rfl (fun h1 => ?_) (fun h1 => ?_) | refine AC.condNB rfl (fun h1 => ?_) (fun h1 => ?_)
      · refine AC.seq ?_
        refine AC.region ?_
        refine AL.p (by first | exact mv1 rfl | exact mv2 rfl | exact mv3 rfl | exact mv4 rfl | exact mv5 rfl | exact mv6 rfl | exact mv7 rfl | exact mv8 rfl | exact mv9 rfl | exact mv10 rfl | exact mv11 rfl) rfl ?_
        refine AL.p (by first | exact as1 rfl | exact as2 rfl | exact as3 rfl | exact as4 rfl | exact as5 rfl | exact as6 rfl | exact as7 rfl | exact as8 rfl | exact as9 rfl | exact as10 rfl | exact as11 rfl) rfl ?_
        refine AL.nil ?_
        refine th_n ?_
        refine AC.ret ?_
        refine ib_r ?_
        refine th_r ?_
        refine th_r ?_
        refine ib_r ?_
        refine th_r ?_
        refine bq_r ?_
        exact ret1 rfl (by rw [findI_at hk1 (p := fun x : Sig => decide (x.name = nm)) (decide_eq_true (bstr_inj h1)) (fun j hj => hall j (by omega) hj)])
      · refine AC.skip ?_
        refine ib_n ?_
        refine th_n ?_
        refine AC.region ?_
        refine AL.p (by first | exact g_arith rfl rfl rfl (by first | exact wrap_i64 (by omega) | exact wrap_u8 (by omega) | exact wrap_u64 (by omega) | rfl) | exact g_sadd rfl rfl (by first | assumption | omega | (simp only [ByteArray.size_append, bstr_size, List.length_take, List.length_drop, List.length_cons, List.length_nil]; omega))) rfl ?_
        refine AL.p (by first | exact mv1 rfl | exact mv2 rfl | exact mv3 rfl | exact mv4 rfl | exact mv5 rfl | exact mv6 rfl | exact mv7 rfl | exact mv8 rfl | exact mv9 rfl | exact mv10 rfl | exact mv11 rfl) rfl ?_
        refine AL.nil ?_
        refine th_n ?_
        exact ⟨k + 1, ⟨by omega, fun j hj hj2 => by rcases Nat.lt_succ_iff_lt_or_eq.1 hj2 with h | rfl; exact hall j hj h; exact decide_eq_false (fun e => h1 (by rw [e]))⟩, by omega, Weak.ren _ [] hC rfl (by repeat (first | exact True.intro | refine And.intro ?_ ?_ | exact DLead.same | exact DLead.eqI (by omega) | exact DLead.eqI (by dsimp only; omega) | exact DLead.nil | exact rfl)) (by repeat (first | exact True.intro | refine And.intro ?_ ?_ | exact DLead.same | exact DLead.eqI (by omega) | exact DLead.eqI (by dsimp only; omega) | exact DLead.nil | exact rfl | refine ⟨_, _, rfl, rfl, ?_⟩ | refine ⟨_, rfl, ?_⟩ | refine ⟨_, _, rfl, ?_, ?_⟩)) rfl rfl rfl⟩
    · refine AC.exit ?_
      refine th_e ?_
      refine th_e ?_
      refine ib_y ?_
      refine th_n ?_
      refine AC.seq ?_
      refine AC.region ?_
      refine AL.p (by first | exact as1 rfl | exact as2 rfl | exact as3 rfl | exact as4 rfl | exact as5 rfl | exact as6 rfl | exact as7 rfl | exact as8 rfl | exact as9 rfl | exact as10 rfl | exact as11 rfl) rfl ?_
      refine AL.nil ?_
      refine th_n ?_
      refine AC.ret ?_
      refine bq_r ?_
      exact ret1 rfl (by rw [findI_none (fun j hj => hall j hj (by omega))])
theorem en_l2Signal : Enters Try.prog 26 := enters_of Try.func26 rfl rfl
theorem psR_none {m : List UInt8} {X : List (List UInt8)} (h : (procOf (bstr m)).isNone = true) : psR m X = ([], false) := by
  unfold psR
  cases hp : procOf (bstr m) with
  | none => rfl
  | some ts => rw [hp] at h; cases h
theorem psR_long {m : List UInt8} {X : List (List UInt8)} (h : (X.length : Int) > 8) : psR m X = ([], false) := by
  unfold psR
  cases hp : procOf (bstr m) with
  | none => rfl
  | some ts => simp only; rw [if_pos (by omega)]
theorem psR_some {m : List UInt8} {X : List (List UInt8)} {ts : List Tr} (hp : procOf (bstr m) = some ts) (h : ¬ (X.length : Int) > 8) : psR m X = psFin (sgL X ((partsP ts).flatMap insG) ((partsP ts).flatMap outG) (namesP ts)) := by
  unfold psR
  rw [hp]
  simp only
  rw [if_neg (by omega)]
/-- Facts of one name more. -/
structure SgF (X A B N : List (List UInt8)) (k : Nat) (acc : List Sig) (nm : List UInt8) (i b : Bool) (fi : Int) : Prop where
  no : i = true → b = true → sgL X A B N = none
  same : (i && b) = false → ¬ fi < 0 → sgL X A B (N.take (k + 1)) = some acc
  one : i = true → b = false → fi < 0 → sgL X A B (N.take (k + 1)) = some (acc ++ [⟨nm, 1⟩])
  two : i = false → fi < 0 → sgL X A B (N.take (k + 1)) = some (acc ++ [⟨nm, 2⟩])
theorem sgF_of {X A B N : List (List UInt8)} {k : Nat} {acc : List Sig} (hk : k < N.length) (h : sgL X A B (N.take k) = some acc) : SgF X A B N k acc N[k] (hasS X N[k] || hasS A N[k]) (hasS B N[k]) (findI (fun x => decide (x.name = N[k])) acc) := by
  have ht := sgL_take (X := X) (A := A) (B := B) hk
  rw [h] at ht
  have hst : sgStep X A B (some acc) N[k] = if ((hasS X N[k] || hasS A N[k]) && hasS B N[k]) = true then none else if (acc.any fun x => decide (x.name = N[k])) = true then some acc else some (acc ++ [⟨N[k], if (hasS X N[k] || hasS A N[k]) = true then 1 else 2⟩]) := rfl
  rw [hst] at ht
  have hf := findI_any (fun x : Sig => decide (x.name = N[k])) acc
  refine ⟨fun h1 h2 => ?_, fun h1 h2 => ?_, fun h1 h2 h3 => ?_, fun h1 h3 => ?_⟩
  · rw [h1, h2, if_pos rfl] at ht
    exact sgL_no ht
  · rw [h1, if_neg Bool.false_ne_true, if_pos (by rw [← hf]; exact decide_eq_true (by omega))] at ht
    exact ht
  · rw [h1, h2, if_neg (by decide), if_neg (by rw [← hf, decide_eq_false (by omega)]; exact Bool.false_ne_true), if_pos rfl] at ht
    exact ht
  · rw [h1, if_neg (by simp), if_neg (by rw [← hf, decide_eq_false (by omega)]; exact Bool.false_ne_true), if_neg Bool.false_ne_true] at ht
    exact ht
theorem sgL_len {X A B N : List (List UInt8)} {k : Nat} {acc : List Sig} (h : sgL X A B (N.take k) = some acc) : acc.length ≤ k := by
  have := (sg_good (N.take k) [] acc (fun x hx => absurd hx List.not_mem_nil) h).2
  rw [List.length_take] at this
  simp only [List.length_nil] at this
  omega
theorem word_cut (nm : List UInt8) (c : UInt8) : (bstr (nm ++ [c])).extract 0 nm.length = bstr nm := by
  rw [byte_cut (nm ++ [c]) (Nat.zero_le _) (by simp)]
  simp
/-- The facts of a process that is one. -/
structure PrcF (m : List UInt8) (ts : List Tr) : Prop where
  ins : (evL m m.length).flatMap insG = (partsP ts).flatMap insG
  out : (evL m m.length).flatMap outG = (partsP ts).flatMap outG
  nl : (namesP ts).length ≤ 800
  nb : ∀ n, n ∈ namesP ts → n.length ≤ 7
  nw : wordsL (layRow 0 ts) = (partsP (expandRow ts)).map fun p => p.1 ++ [p.2]
  ll : (layRow 0 ts).length ≤ 100000
  il : ((partsP ts).flatMap insG).length ≤ 2000000
  ol : ((partsP ts).flatMap outG).length ≤ 2000000
mutual
theorem partsT_raw (t : Tr) (h : okT t) : (partsT t).length ≤ cntT t ∧ ∀ p, p ∈ partsT t → p.2 ≠ 0 ∧ p.1.size ≤ 6 := by
  cases t with
  | edge n m =>
    refine ⟨by simp [partsT, cntT], fun p hp => ?_⟩
    simp only [partsT, List.mem_singleton] at hp
    subst hp
    refine ⟨?_, leafOk_size h⟩
    rcases leafOk_marks h with ⟨h1, _⟩ | ⟨_, h2⟩
    · rw [Bool.or_eq_true, beq_iff_eq, beq_iff_eq] at h1
      rcases h1 with h1 | h1 <;> (show m ≠ 0; rw [h1]; decide)
    · rw [Bool.or_eq_true, beq_iff_eq, beq_iff_eq] at h2
      rcases h2 with h1 | h1 <;> (show m ≠ 0; rw [h1]; decide)
  | par rows =>
    have := partsRows_raw rows h.2
    simpa only [partsT, cntT] using this
theorem partsRow_raw (r : List Tr) (h : okRow r) : (partsRow r).length ≤ cntRow r ∧ ∀ p, p ∈ partsRow r → p.2 ≠ 0 ∧ p.1.size ≤ 6 := by
  cases r with
  | nil => simp [partsRow]
  | cons t ts =>
    have h1 := partsT_raw t h.1
    have h2 := partsRow_raw ts h.2
    simp only [partsRow, cntRow, List.length_append, List.mem_append]
    refine ⟨by omega, fun p hp => hp.elim (h1.2 p) (h2.2 p)⟩
theorem partsRows_raw (rs : List (List Tr)) (h : okRows rs) : (partsRows rs).length ≤ cntRows rs ∧ ∀ p, p ∈ partsRows rs → p.2 ≠ 0 ∧ p.1.size ≤ 6 := by
  cases rs with
  | nil => simp [partsRows]
  | cons r rs =>
    have h1 := partsRow_raw r h.1.2
    have h2 := partsRows_raw rs h.2
    simp only [partsRows, cntRows, List.length_append, List.mem_append]
    refine ⟨by omega, fun p hp => hp.elim (h1.2 p) (h2.2 p)⟩
end
theorem prcF_of {m : List UInt8} {ts : List Tr} (h : procOf (bstr m) = some ts) : PrcF m ts := by
  obtain ⟨h1, h2, h3⟩ := procOf_ok h
  have hr := partsRow_raw ts h2
  have hg := partsRow_good ts h2
  have hP : (partsP ts).length ≤ 200 := by unfold partsP; rw [List.length_map]; omega
  have hi := fm_len insG insG_len (partsP ts)
  have ho := fm_len outG outG_len (partsP ts)
  refine ⟨ev_parts insG_no h, ev_parts outG_no h, ?_, fun n hn => ?_, words_names h1 h2, ?_, by omega, by omega⟩
  · unfold namesP partsP
    rw [List.length_map, List.length_map]
    omega
  · unfold namesP partsP at hn
    rw [List.map_map] at hn
    obtain ⟨p, hp, rfl⟩ := List.mem_map.1 hn
    exact (hg.2 p hp).2
  · have := layRow_len ts h2 0
    omega
/-- What the reference's inner function returns. -/
def SgR (m : List UInt8) (X : List (List UInt8)) : AV → List (Nat × Chunk) → Prop := fun r chs => ∃ l b, (b = true → l = (psR m X).1) ∧ b = (psR m X).2 ∧ r = .tup [.d (vSigs l), aT b] ∧ chs = []
theorem sgR_no {m : List UInt8} {X : List (List UInt8)} (h : psR m X = ([], false)) : SgR m X (.tup [.d (vSigs []), aT false]) [] := ⟨[], false, (fun q => absurd q Bool.false_ne_true), (by rw [h]), rfl, rfl⟩
theorem sgR_fin {m : List UInt8} {X : List (List UInt8)} {acc : List Sig} (h : psR m X = psFin (some acc)) : SgR m X (.tup [.d (vSigs acc), aT (decide ((acc.length : Int) ≤ 8))]) [] := by
  have e : psFin (some acc) = if acc.length > 8 then ([], false) else (acc, true) := rfl
  rw [e] at h
  by_cases q : acc.length > 8
  · rw [if_pos q] at h
    rw [decide_eq_false (by omega)]
    exact ⟨acc, false, (fun q => absurd q Bool.false_ne_true), (by rw [h]), rfl, rfl⟩
  · rw [if_neg q] at h
    rw [decide_eq_true (by omega)]
    exact ⟨acc, true, (fun _ => by rw [h]), (by rw [h]), rfl, rfl⟩
set_option maxHeartbeats 8000000 in
theorem l25Signals_spec (m : List UInt8) (X : List (List UInt8)) (hm : m.length ≤ 1048576) (hX : X.length ≤ 1048576) : ASpec Try.prog 13 [aS (bstr m), .d (vStr X)] [] (SgR m X) := by
  have hsz := bstr_size m
  have hRd := l25Read_T (bstr m) (by omega)
  have hKi := l25Kinds_spec m hm
  have hbn : (procOf (bstr m)).isNone = true → psR m X = ([], false) := psR_none
  have hbl : (X.length : Int) > 8 → psR m X = ([], false) := psR_long
  have hbs : (procOf (bstr m)).isNone = false → ∃ ts, procOf (bstr m) = some ts := fun h => by
    cases hp : procOf (bstr m) with
    | none => rw [hp] at h; cases h
    | some ts => exact ⟨ts, rfl⟩
  refine ASpec.of Try.func13 rfl rfl fun C hC => ?_
  refine AC.seq ?_
  refine AC.region ?_
  refine AL.p (by first | exact as1 rfl | exact as2 rfl | exact as3 rfl | exact as4 rfl | exact as5 rfl | exact as6 rfl | exact as7 rfl | exact as8 rfl | exact as9 rfl | exact as10 rfl | exact as11 rfl) rfl ?_
  refine AL.p (by first | exact as1 rfl | exact as2 rfl | exact as3 rfl | exact as4 rfl | exact as5 rfl | exact as6 rfl | exact as7 rfl | exact as8 rfl | exact as9 rfl | exact as10 rfl | exact as11 rfl) rfl ?_
  refine AL.nil ?_
  refine th_n ?_
  refine AC.seq ?_
  refine AC.region ?_
  refine AL.p (by first | exact mv1 rfl | exact mv2 rfl | exact mv3 rfl | exact mv4 rfl | exact mv5 rfl | exact mv6 rfl | exact mv7 rfl | exact mv8 rfl | exact mv9 rfl | exact mv10 rfl | exact mv11 rfl) rfl ?_
  refine AL.r (by exact h_funR (cs := []) en_l25Read rfl rfl (by repeat (first | exact rfl | exact DLead.same | exact DLead.nil | refine ⟨_, _, rfl, ?_, ?_⟩ | refine ⟨_, rfl, ?_⟩)) (by repeat (first | exact True.intro | refine And.intro ?_ ?_ | exact DLead.same | exact DLead.eqI (by omega) | exact DLead.eqI (by dsimp only; omega) | exact DLead.nil | exact rfl | refine ⟨_, _, rfl, rfl, ?_⟩ | refine ⟨_, rfl, ?_⟩ | refine ⟨_, _, rfl, ?_, ?_⟩)) hRd rfl rfl rfl) rfl ?_
  rintro _ ⟨_, _, ⟨ns, hns, rfl, rfl⟩, rfl⟩
  obtain ⟨bad, hbad⟩ : ∃ b, b = (procOf (bstr m)).isNone := ⟨_, rfl⟩
  rw [← hbad] at hbn hbs ⊢
  refine AL.p (by first | exact as1 rfl | exact as2 rfl | exact as3 rfl | exact as4 rfl | exact as5 rfl | exact as6 rfl | exact as7 rfl | exact as8 rfl | exact as9 rfl | exact as10 rfl | exact as11 rfl) rfl ?_
  refine AL.nil ?_
  refine th_n ?_
  refine AC.seq ?_
  refine AC.seq ?_
  refine AC.region ?_
  refine AL.p (by first | exact mv1 rfl | exact mv2 rfl | exact mv3 rfl | exact mv4 rfl | exact mv5 rfl | exact mv6 rfl | exact mv7 rfl | exact mv8 rfl | exact mv9 rfl | exact mv10 rfl | exact mv11 rfl) rfl ?_
  refine AL.p (by first | exact g_nilP rfl | exact g_nilR rfl) rfl ?_
  refine AL.p (by first | exact g_fa_ref rfl rfl rfl rfl rfl rfl | exact g_fa_ptr rfl rfl rfl rfl rfl) rfl ?_
  refine AL.p (by first | exact g_load_ref rfl rfl rfl | exact g_load_ptr rfl rfl rfl rfl rfl | exact g_load_refN rfl rfl rfl rfl | exact g_load_ptrN rfl rfl rfl rfl rfl | exact g_load_arr1 rfl rfl rfl rfl (by assumption) | exact g_load_arr rfl rfl rfl rfl (by first | rfl | omega) (by first | assumption | rfl) (by first | assumption | rfl)) rfl ?_
  refine AL.p (by first | exact mv1 rfl | exact mv2 rfl | exact mv3 rfl | exact mv4 rfl | exact mv5 rfl | exact mv6 rfl | exact mv7 rfl | exact mv8 rfl | exact mv9 rfl | exact mv10 rfl | exact mv11 rfl) rfl ?_
  first | refine AL.caseG rfl rfl (fun h0 => ?_) (fun h0 => ?_) | refine AL.caseGN rfl rfl (fun h0 => ?_) (fun h0 => ?_) | refine AL.caseGB rfl rfl (fun h0 => ?_) (fun h0 => ?_) | refine AL.caseGNB rfl rfl (fun h0 => ?_) (fun h0 => ?_)
  · refine AL.not rfl rfl rfl rfl rfl ?_
    refine AL.not rfl rfl rfl rfl rfl ?_
    refine AL.not rfl rfl rfl rfl rfl ?_
    refine AL.p (by first | exact g_pickT (r := .d _) rfl rfl | exact g_pickF (r := .d _) rfl rfl) rfl ?_
    refine AL.nil ?_
    refine th_n ?_
    refine AC.condT rfl ?_
    refine AC.seq ?_
    refine AC.region ?_
    refine AL.p (by first | exact as1 rfl | exact as2 rfl | exact as3 rfl | exact as4 rfl | exact as5 rfl | exact as6 rfl | exact as7 rfl | exact as8 rfl | exact as9 rfl | exact as10 rfl | exact as11 rfl) rfl ?_
    refine AL.p (by first | exact as1 rfl | exact as2 rfl | exact as3 rfl | exact as4 rfl | exact as5 rfl | exact as6 rfl | exact as7 rfl | exact as8 rfl | exact as9 rfl | exact as10 rfl | exact as11 rfl) rfl ?_
    refine AL.nil ?_
    refine th_n ?_
    refine AC.ret ?_
    refine th_r ?_
    refine bq_r ?_
    first | (have w := hbn ‹bad = true›; exact retX [] rfl (sgR_no w) (by repeat (first | exact rfl | exact DLead.same | exact DLead.nil | refine ⟨_, _, rfl, ?_, ?_⟩ | refine ⟨_, rfl, ?_⟩)) (by repeat (first | exact True.intro | refine And.intro ?_ ?_ | exact DLead.same | exact DLead.eqI (by omega) | exact DLead.eqI (by dsimp only; omega) | exact DLead.nil | exact rfl | refine ⟨_, _, rfl, rfl, ?_⟩ | refine ⟨_, rfl, ?_⟩ | refine ⟨_, _, rfl, ?_, ?_⟩)) rfl rfl) | (have w := hbl ‹(X.length : Int) > 8›; exact retX [] rfl (sgR_no w) (by repeat (first | exact rfl | exact DLead.same | exact DLead.nil | refine ⟨_, _, rfl, ?_, ?_⟩ | refine ⟨_, rfl, ?_⟩)) (by repeat (first | exact True.intro | refine And.intro ?_ ?_ | exact DLead.same | exact DLead.eqI (by omega) | exact DLead.eqI (by dsimp only; omega) | exact DLead.nil | exact rfl | refine ⟨_, _, rfl, rfl, ?_⟩ | refine ⟨_, rfl, ?_⟩ | refine ⟨_, _, rfl, ?_, ?_⟩)) rfl rfl)
  · refine AL.yes rfl rfl rfl ?_
    refine AL.p (by first | exact mv1 rfl | exact mv2 rfl | exact mv3 rfl | exact mv4 rfl | exact mv5 rfl | exact mv6 rfl | exact mv7 rfl | exact mv8 rfl | exact mv9 rfl | exact mv10 rfl | exact mv11 rfl) rfl ?_
    refine AL.yes rfl rfl rfl ?_
    refine AL.p (by exact g_len_view (k := X.length) rfl rfl (strL_len _)) rfl ?_
    refine AL.yes rfl rfl rfl ?_
    refine AL.p (by first | exact g_cmp rfl rfl rfl | exact g_scmp rfl rfl rfl | exact g_eqB rfl rfl rfl | exact g_neB rfl rfl rfl) rfl ?_
    refine AL.p (by first | exact g_pickT (r := .d _) rfl rfl | exact g_pickF (r := .d _) rfl rfl) rfl ?_
    refine AL.nil ?_
    refine th_n ?_
    first | refine AC.condD rfl (fun h1 => ?_) (fun h1 => ?_) | refine AC.condND rfl (fun h1 => ?_) (fun h1 => ?_) | refine AC.condB rfl (fun h1 => ?_) (fun h1 => ?_) | refine AC.condNB rfl (fun h1 => ?_) (fun h1 => ?_)
    · refine AC.seq ?_
      refine AC.region ?_
      refine AL.p (by first | exact as1 rfl | exact as2 rfl | exact as3 rfl | exact as4 rfl | exact as5 rfl | exact as6 rfl | exact as7 rfl | exact as8 rfl | exact as9 rfl | exact as10 rfl | exact as11 rfl) rfl ?_
      refine AL.p (by first | exact as1 rfl | exact as2 rfl | exact as3 rfl | exact as4 rfl | exact as5 rfl | exact as6 rfl | exact as7 rfl | exact as8 rfl | exact as9 rfl | exact as10 rfl | exact as11 rfl) rfl ?_
      refine AL.nil ?_
      refine th_n ?_
      refine AC.ret ?_
      refine th_r ?_
      refine bq_r ?_
      first | (have w := hbn ‹bad = true›; exact retX [] rfl (sgR_no w) (by repeat (first | exact rfl | exact DLead.same | exact DLead.nil | refine ⟨_, _, rfl, ?_, ?_⟩ | refine ⟨_, rfl, ?_⟩)) (by repeat (first | exact True.intro | refine And.intro ?_ ?_ | exact DLead.same | exact DLead.eqI (by omega) | exact DLead.eqI (by dsimp only; omega) | exact DLead.nil | exact rfl | refine ⟨_, _, rfl, rfl, ?_⟩ | refine ⟨_, rfl, ?_⟩ | refine ⟨_, _, rfl, ?_, ?_⟩)) rfl rfl) | (have w := hbl ‹(X.length : Int) > 8›; exact retX [] rfl (sgR_no w) (by repeat (first | exact rfl | exact DLead.same | exact DLead.nil | refine ⟨_, _, rfl, ?_, ?_⟩ | refine ⟨_, rfl, ?_⟩)) (by repeat (first | exact True.intro | refine And.intro ?_ ?_ | exact DLead.same | exact DLead.eqI (by omega) | exact DLead.eqI (by dsimp only; omega) | exact DLead.nil | exact rfl | refine ⟨_, _, rfl, rfl, ?_⟩ | refine ⟨_, rfl, ?_⟩ | refine ⟨_, _, rfl, ?_, ?_⟩)) rfl rfl)
    · refine AC.skip ?_
      refine th_n ?_
      refine AC.seq ?_
      obtain ⟨ts, hts⟩ := hbs ‹bad = false›
      obtain rfl := hns ts hts
      have hF := prcF_of hts
      have hR := psR_some hts ‹¬ (X.length : Int) > 8›
      rw [hF.ins, hF.out] at hKi
      have hWo := lpWords_spec (bstr m) bad (layRow 0 ts) hF.ll
      rw [hF.nw] at hWo
      have hA := hF.il
      have hB := hF.ol
      have hN := hF.nl
      have hNb := hF.nb
      have hWl : ((partsP (expandRow ts)).map fun p => p.1 ++ [p.2]).length = (namesP ts).length := by unfold namesP; rw [List.length_map, List.length_map]
      have hWn : ∀ k (h : k < (namesP ts).length) (h2 : k < ((partsP (expandRow ts)).map fun p => p.1 ++ [p.2]).length), ∃ c, ((partsP (expandRow ts)).map fun p => p.1 ++ [p.2])[k] = (namesP ts)[k] ++ [c] := fun k h h2 => ⟨((partsP (expandRow ts))[k]'(by rw [List.length_map] at h2; exact h2)).2, by simp only [namesP, List.getElem_map]⟩
      obtain ⟨W, hW⟩ : ∃ W, W = (partsP (expandRow ts)).map fun p => p.1 ++ [p.2] := ⟨_, rfl⟩
      obtain ⟨A, hAA⟩ : ∃ A, A = (partsP ts).flatMap insG := ⟨_, rfl⟩
      obtain ⟨B, hBB⟩ : ∃ B, B = (partsP ts).flatMap outG := ⟨_, rfl⟩
      obtain ⟨N, hNN⟩ : ∃ N, N = namesP ts := ⟨_, rfl⟩
      obtain ⟨D, hD⟩ : ∃ D, D = vNds (layRow 0 ts) := ⟨_, rfl⟩
      rw [← hW, ← hD] at hWo
      rw [← hW] at hWl hWn
      rw [← hAA] at hKi hR hA
      rw [← hBB] at hKi hR hB
      rw [← hNN] at hR hN hNb hWl hWn
      rw [← hD]
      clear hF hAA hBB hNN hD hW hbs hns hts
      refine AC.region ?_
      refine AL.p (by first | exact mv1 rfl | exact mv2 rfl | exact mv3 rfl | exact mv4 rfl | exact mv5 rfl | exact mv6 rfl | exact mv7 rfl | exact mv8 rfl | exact mv9 rfl | exact mv10 rfl | exact mv11 rfl) rfl ?_
      refine AL.q (by exact h_pure en_l25Kinds rfl rfl (by repeat (first | exact rfl | exact DLead.same | exact DLead.nil | refine ⟨_, _, rfl, ?_, ?_⟩ | refine ⟨_, rfl, ?_⟩)) hKi rfl) rfl ?_
      refine AL.p (by first | exact mv1 rfl | exact mv2 rfl | exact mv3 rfl | exact mv4 rfl | exact mv5 rfl | exact mv6 rfl | exact mv7 rfl | exact mv8 rfl | exact mv9 rfl | exact mv10 rfl | exact mv11 rfl) rfl ?_
      refine AL.p (by first | exact g_extract (r := .d _) rfl rfl | exact g_extract (r := .own _ _) rfl rfl | exact g_extract (r := .agg _) rfl rfl | exact g_extract (r := .ptr _ _) rfl rfl | exact g_extract (r := .dead) rfl rfl) rfl ?_
      refine AL.p (by first | exact g_extract (r := .d _) rfl rfl | exact g_extract (r := .own _ _) rfl rfl | exact g_extract (r := .agg _) rfl rfl | exact g_extract (r := .ptr _ _) rfl rfl | exact g_extract (r := .dead) rfl rfl) rfl ?_
      refine AL.p (by first | exact as1 rfl | exact as2 rfl | exact as3 rfl | exact as4 rfl | exact as5 rfl | exact as6 rfl | exact as7 rfl | exact as8 rfl | exact as9 rfl | exact as10 rfl | exact as11 rfl) rfl ?_
      refine AL.p (by first | exact as1 rfl | exact as2 rfl | exact as3 rfl | exact as4 rfl | exact as5 rfl | exact as6 rfl | exact as7 rfl | exact as8 rfl | exact as9 rfl | exact as10 rfl | exact as11 rfl) rfl ?_
      refine AL.nil ?_
      refine th_n ?_
      refine AC.seq ?_
      refine AC.region ?_
      refine AL.p (by first | exact as1 rfl | exact as2 rfl | exact as3 rfl | exact as4 rfl | exact as5 rfl | exact as6 rfl | exact as7 rfl | exact as8 rfl | exact as9 rfl | exact as10 rfl | exact as11 rfl) rfl ?_
      refine AL.nil ?_
      refine th_n ?_
      refine AC.seq ?_
      refine AC.seq ?_
      refine AC.region ?_
      refine AL.p (by first | exact mv1 rfl | exact mv2 rfl | exact mv3 rfl | exact mv4 rfl | exact mv5 rfl | exact mv6 rfl | exact mv7 rfl | exact mv8 rfl | exact mv9 rfl | exact mv10 rfl | exact mv11 rfl) rfl ?_
      refine AL.q (by exact h_fun (cs := [0]) en_lpWords rfl rfl (by repeat (first | exact rfl | exact DLead.same | exact DLead.nil | refine ⟨_, _, rfl, ?_, ?_⟩ | refine ⟨_, rfl, ?_⟩)) (by repeat (first | exact True.intro | refine And.intro ?_ ?_ | exact DLead.same | exact DLead.eqI (by omega) | exact DLead.eqI (by dsimp only; omega) | exact DLead.nil | exact rfl | refine ⟨_, _, rfl, rfl, ?_⟩ | refine ⟨_, rfl, ?_⟩ | refine ⟨_, _, rfl, ?_, ?_⟩)) hWo rfl rfl rfl rfl) rfl ?_
      refine AL.p (by exact g_len_view (k := W.length) rfl rfl (strL_len _)) rfl ?_
      refine AL.p (by first | exact mv1 rfl | exact mv2 rfl | exact mv3 rfl | exact mv4 rfl | exact mv5 rfl | exact mv6 rfl | exact mv7 rfl | exact mv8 rfl | exact mv9 rfl | exact mv10 rfl | exact mv11 rfl) rfl ?_
      refine AL.nil ?_
      refine th_n ?_
      refine AC.block ?_
      refine AC.loop (ι := Nat × List Sig) (fun ⟨k, acc⟩ => ⟨73, 208, [(1, .d (vStr X)), (7, .d (vStr A)), (8, .d (vStr B)), (9, .own 100 acc.length), (32, .d (vStr W)), (33, aI W.length), (34, aI k)], [(100, some (.arr 43 2 (sigsL acc)))]⟩) (fun x => x.1 ≤ W.length ∧ sgL X A B (N.take x.1) = some x.2) (fun x => W.length - x.1) ((0, [])) ?_ (⟨Nat.zero_le _, rfl⟩) ?_
      · exact (Weak.nilOwn (i := 9) (e := 43) (sz := 2) rfl (by decide)).trans (Weak.ren _ [(100, _)] hC rfl (by dsimp only; repeat (first | exact True.intro | refine And.intro ?_ ?_ | exact DLead.same | exact DLead.eqI (by omega) | exact DLead.eqI (by dsimp only; omega) | exact DLead.nil | exact rfl | refine ⟨_, _, rfl, rfl, ?_⟩ | refine ⟨_, rfl, ?_⟩ | refine ⟨_, _, rfl, ?_, ?_⟩)) (by dsimp only; repeat (first | exact True.intro | refine And.intro ?_ ?_ | exact DLead.same | exact DLead.eqI (by omega) | exact DLead.eqI (by dsimp only; omega) | exact DLead.nil | exact rfl | refine ⟨_, _, rfl, rfl, ?_⟩ | refine ⟨_, rfl, ?_⟩ | refine ⟨_, _, rfl, ?_, ?_⟩)) rfl rfl rfl)
      · rintro ⟨k, acc⟩ ⟨hk, hacc⟩
        refine AC.seq ?_
        refine AC.region ?_
        refine AL.p (by first | exact g_cmp rfl rfl rfl | exact g_scmp rfl rfl rfl | exact g_eqB rfl rfl rfl | exact g_neB rfl rfl rfl) rfl ?_
        refine AL.nil ?_
        refine th_n ?_
        refine AC.seq ?_
        first | refine AC.condD rfl (fun h2 => ?_) (fun h2 => ?_) | refine AC.condND rfl (fun h2 => ?_) (fun h2 => ?_) | refine AC.condB rfl (fun h2 => ?_) (fun h2 => ?_) | refine AC.condNB rfl (fun h2 => ?_) (fun h2 => ?_)
        · refine AC.skip ?_
          refine th_n ?_
          refine AC.seq ?_
          refine AC.block ?_
          refine AC.seq ?_
          dsimp only at hk hacc
          have hk1 : k < W.length := by omega
          have hget := strL_get hk1
          have hkN : k < N.length := by omega
          obtain ⟨c, hc⟩ := hWn k hkN hk1
          rw [hc] at hget
          have hal := sgL_len hacc
          have hS := sgF_of hkN hacc
          have hnb := hNb _ (List.getElem_mem hkN)
          have hC1 := fun (l : List (List UInt8)) (h : l.length ≤ 2000000) => l1HasS_spec l h N[k]
          have hS2 := l2SigOf_spec acc (by omega) N[k]
          obtain ⟨nm, hnm⟩ : ∃ nm, nm = N[k] := ⟨_, rfl⟩
          rw [← hnm] at hget hS hC1 hS2 hnb
          have hX1 : ASpec Try.prog 25 [.d (vStr X), aS (bstr nm)] [] (Pure1 (aT (hasS X nm))) := hC1 X (by omega)
          have hA1 : ASpec Try.prog 25 [.d (vStr A), aS (bstr nm)] [] (Pure1 (aT (hasS A nm))) := hC1 A hA
          have hB1 : ASpec Try.prog 25 [.d (vStr B), aS (bstr nm)] [] (Pure1 (aT (hasS B nm))) := hC1 B hB
          obtain ⟨bx, hbx⟩ : ∃ b, b = hasS X nm := ⟨_, rfl⟩
          obtain ⟨ba, hba⟩ : ∃ b, b = hasS A nm := ⟨_, rfl⟩
          obtain ⟨bb, hbb⟩ : ∃ b, b = hasS B nm := ⟨_, rfl⟩
          obtain ⟨fi, hfi⟩ : ∃ b, b = findI (fun x : Sig => decide (x.name = nm)) acc := ⟨_, rfl⟩
          rw [← hbx] at hX1 hS
          rw [← hba] at hA1 hS
          rw [← hbb] at hB1 hS
          rw [← hfi] at hS2 hS
          have hszw : (((bstr (nm ++ [c])).size : Nat) : Int) - 1 = (nm.length : Int) := by rw [bstr_size]; simp
          have hwl : ((bstr (nm ++ [c])).size : Nat) = nm.length + 1 := by rw [bstr_size]; simp
          refine AC.region ?_
          refine AL.p (by first | exact g_ia_view rfl rfl rfl rfl rfl (by first | rfl | assumption) (by first | assumption | rfl) | exact g_ia_own rfl rfl rfl rfl rfl (by first | rfl | assumption) (by omega) (by first | exact Nat.mul_one _ | rfl | omega)) rfl ?_
          refine AL.p (by first | exact g_load_ref rfl rfl rfl | exact g_load_ptr rfl rfl rfl rfl rfl | exact g_load_refN rfl rfl rfl rfl | exact g_load_ptrN rfl rfl rfl rfl rfl | exact g_load_arr1 rfl rfl rfl rfl (by assumption) | exact g_load_arr rfl rfl rfl rfl (by first | rfl | omega) (by first | assumption | rfl) (by first | assumption | rfl)) rfl ?_
          refine AL.p (by first | exact as1 rfl | exact as2 rfl | exact as3 rfl | exact as4 rfl | exact as5 rfl | exact as6 rfl | exact as7 rfl | exact as8 rfl | exact as9 rfl | exact as10 rfl | exact as11 rfl) rfl ?_
          refine AL.nil ?_
          refine th_n ?_
          refine AC.seq ?_
          refine AC.region ?_
          refine AL.p (by first | exact mv1 rfl | exact mv2 rfl | exact mv3 rfl | exact mv4 rfl | exact mv5 rfl | exact mv6 rfl | exact mv7 rfl | exact mv8 rfl | exact mv9 rfl | exact mv10 rfl | exact mv11 rfl) rfl ?_
          refine AL.p (by first | exact mv1 rfl | exact mv2 rfl | exact mv3 rfl | exact mv4 rfl | exact mv5 rfl | exact mv6 rfl | exact mv7 rfl | exact mv8 rfl | exact mv9 rfl | exact mv10 rfl | exact mv11 rfl) rfl ?_
          refine AL.p (by first | exact g_len_view rfl rfl (by first | exact List.length_map _ | rfl) | exact g_len_str rfl rfl rfl | exact g_len_nil rfl rfl | exact g_len_own (sz := 1) (els := []) (e' := 0) rfl rfl (by simp only [maxLen]; omega) | exact g_len_tight rfl rfl (by first | exact List.length_map _ | rfl)) rfl ?_
          refine AL.p (by exact g_arith (e := (nm.length : Int)) rfl rfl rfl (by rw [hszw]; exact wrap_i64 (by omega))) rfl ?_
          refine AL.p (by exact g_slice_str (l := 0) (h := nm.length) rfl rfl .none (.some rfl rfl) (Nat.zero_le _) (by omega) (word_cut nm c)) rfl ?_
          refine AL.p (by first | exact as1 rfl | exact as2 rfl | exact as3 rfl | exact as4 rfl | exact as5 rfl | exact as6 rfl | exact as7 rfl | exact as8 rfl | exact as9 rfl | exact as10 rfl | exact as11 rfl) rfl ?_
          refine AL.nil ?_
          refine th_n ?_
          refine AC.cut (fun (i : Bool) => ⟨73, 208, [(1, .d (vStr X)), (7, .d (vStr A)), (8, .d (vStr B)), (9, .own 100 acc.length), (32, .d (vStr W)), (33, aI W.length), (34, aI k), (12, aS (bstr nm)), (13, aT i)], [(100, some (.arr 43 2 (sigsL acc)))]⟩) (fun i => i = (bx || ba)) ?_ ?_
          · refine AC.region ?_
            refine AL.p (by first | exact mv1 rfl | exact mv2 rfl | exact mv3 rfl | exact mv4 rfl | exact mv5 rfl | exact mv6 rfl | exact mv7 rfl | exact mv8 rfl | exact mv9 rfl | exact mv10 rfl | exact mv11 rfl) rfl ?_
            refine AL.p (by first | exact mv1 rfl | exact mv2 rfl | exact mv3 rfl | exact mv4 rfl | exact mv5 rfl | exact mv6 rfl | exact mv7 rfl | exact mv8 rfl | exact mv9 rfl | exact mv10 rfl | exact mv11 rfl) rfl ?_
            refine AL.q (by exact h_pure en_l1HasS rfl rfl (by repeat (first | exact rfl | exact DLead.same | exact DLead.nil | refine ⟨_, _, rfl, ?_, ?_⟩ | refine ⟨_, rfl, ?_⟩)) hX1 rfl) rfl ?_
            refine AL.p (by first | exact mv1 rfl | exact mv2 rfl | exact mv3 rfl | exact mv4 rfl | exact mv5 rfl | exact mv6 rfl | exact mv7 rfl | exact mv8 rfl | exact mv9 rfl | exact mv10 rfl | exact mv11 rfl) rfl ?_
            first | refine AL.caseG rfl rfl (fun h3 => ?_) (fun h3 => ?_) | refine AL.caseGN rfl rfl (fun h3 => ?_) (fun h3 => ?_) | refine AL.caseGB rfl rfl (fun h3 => ?_) (fun h3 => ?_) | refine AL.caseGNB rfl rfl (fun h3 => ?_) (fun h3 => ?_)
            · refine AL.not rfl rfl rfl rfl rfl ?_
              refine AL.not rfl rfl rfl rfl rfl ?_
              refine AL.not rfl rfl rfl rfl rfl ?_
              refine AL.p (by first | exact g_pickT (r := .d _) rfl rfl | exact g_pickF (r := .d _) rfl rfl) rfl ?_
              refine AL.p (by first | exact as1 rfl | exact as2 rfl | exact as3 rfl | exact as4 rfl | exact as5 rfl | exact as6 rfl | exact as7 rfl | exact as8 rfl | exact as9 rfl | exact as10 rfl | exact as11 rfl) rfl ?_
              refine AL.nil ?_
              refine th_n ?_
              first | (have w := ‹bx = true›; exact ⟨true, by rw [w]; rfl, Weak.ren _ [(100, _)] hC rfl (by repeat (first | exact True.intro | refine And.intro ?_ ?_ | exact DLead.same | exact DLead.eqI (by omega) | exact DLead.eqI (by dsimp only; omega) | exact DLead.nil | exact rfl | refine ⟨_, _, rfl, rfl, ?_⟩ | refine ⟨_, rfl, ?_⟩ | refine ⟨_, _, rfl, ?_, ?_⟩)) (by repeat (first | exact True.intro | refine And.intro ?_ ?_ | exact DLead.same | exact DLead.eqI (by omega) | exact DLead.eqI (by dsimp only; omega) | exact DLead.nil | exact rfl | refine ⟨_, _, rfl, rfl, ?_⟩ | refine ⟨_, rfl, ?_⟩ | refine ⟨_, _, rfl, ?_, ?_⟩)) rfl rfl rfl⟩) | (have w := ‹bx = false›; exact ⟨ba, by rw [w]; rfl, Weak.ren _ [(100, _)] hC rfl (by repeat (first | exact True.intro | refine And.intro ?_ ?_ | exact DLead.same | exact DLead.eqI (by omega) | exact DLead.eqI (by dsimp only; omega) | exact DLead.nil | exact rfl | refine ⟨_, _, rfl, rfl, ?_⟩ | refine ⟨_, rfl, ?_⟩ | refine ⟨_, _, rfl, ?_, ?_⟩)) (by repeat (first | exact True.intro | refine And.intro ?_ ?_ | exact DLead.same | exact DLead.eqI (by omega) | exact DLead.eqI (by dsimp only; omega) | exact DLead.nil | exact rfl | refine ⟨_, _, rfl, rfl, ?_⟩ | refine ⟨_, rfl, ?_⟩ | refine ⟨_, _, rfl, ?_, ?_⟩)) rfl rfl rfl⟩)
            · refine AL.yes rfl rfl rfl ?_
              refine AL.p (by first | exact mv1 rfl | exact mv2 rfl | exact mv3 rfl | exact mv4 rfl | exact mv5 rfl | exact mv6 rfl | exact mv7 rfl | exact mv8 rfl | exact mv9 rfl | exact mv10 rfl | exact mv11 rfl) rfl ?_
              refine AL.yes rfl rfl rfl ?_
              refine AL.p (by first | exact mv1 rfl | exact mv2 rfl | exact mv3 rfl | exact mv4 rfl | exact mv5 rfl | exact mv6 rfl | exact mv7 rfl | exact mv8 rfl | exact mv9 rfl | exact mv10 rfl | exact mv11 rfl) rfl ?_
              refine AL.yes rfl rfl rfl ?_
              refine AL.q (by exact h_pure en_l1HasS rfl rfl (by repeat (first | exact rfl | exact DLead.same | exact DLead.nil | refine ⟨_, _, rfl, ?_, ?_⟩ | refine ⟨_, rfl, ?_⟩)) hA1 rfl) rfl ?_
              refine AL.p (by first | exact g_pickT (r := .d _) rfl rfl | exact g_pickF (r := .d _) rfl rfl) rfl ?_
              refine AL.p (by first | exact as1 rfl | exact as2 rfl | exact as3 rfl | exact as4 rfl | exact as5 rfl | exact as6 rfl | exact as7 rfl | exact as8 rfl | exact as9 rfl | exact as10 rfl | exact as11 rfl) rfl ?_
              refine AL.nil ?_
              refine th_n ?_
              first | (have w := ‹bx = true›; exact ⟨true, by rw [w]; rfl, Weak.ren _ [(100, _)] hC rfl (by repeat (first | exact True.intro | refine And.intro ?_ ?_ | exact DLead.same | exact DLead.eqI (by omega) | exact DLead.eqI (by dsimp only; omega) | exact DLead.nil | exact rfl | refine ⟨_, _, rfl, rfl, ?_⟩ | refine ⟨_, rfl, ?_⟩ | refine ⟨_, _, rfl, ?_, ?_⟩)) (by repeat (first | exact True.intro | refine And.intro ?_ ?_ | exact DLead.same | exact DLead.eqI (by omega) | exact DLead.eqI (by dsimp only; omega) | exact DLead.nil | exact rfl | refine ⟨_, _, rfl, rfl, ?_⟩ | refine ⟨_, rfl, ?_⟩ | refine ⟨_, _, rfl, ?_, ?_⟩)) rfl rfl rfl⟩) | (have w := ‹bx = false›; exact ⟨ba, by rw [w]; rfl, Weak.ren _ [(100, _)] hC rfl (by repeat (first | exact True.intro | refine And.intro ?_ ?_ | exact DLead.same | exact DLead.eqI (by omega) | exact DLead.eqI (by dsimp only; omega) | exact DLead.nil | exact rfl | refine ⟨_, _, rfl, rfl, ?_⟩ | refine ⟨_, rfl, ?_⟩ | refine ⟨_, _, rfl, ?_, ?_⟩)) (by repeat (first | exact True.intro | refine And.intro ?_ ?_ | exact DLead.same | exact DLead.eqI (by omega) | exact DLead.eqI (by dsimp only; omega) | exact DLead.nil | exact rfl | refine ⟨_, _, rfl, rfl, ?_⟩ | refine ⟨_, rfl, ?_⟩ | refine ⟨_, _, rfl, ?_, ?_⟩)) rfl rfl rfl⟩)
          · intro i hi
            rw [← hi] at hS
            clear hi
            refine AC.seq ?_
            refine AC.seq ?_
            refine AC.region ?_
            refine AL.p (by first | exact mv1 rfl | exact mv2 rfl | exact mv3 rfl | exact mv4 rfl | exact mv5 rfl | exact mv6 rfl | exact mv7 rfl | exact mv8 rfl | exact mv9 rfl | exact mv10 rfl | exact mv11 rfl) rfl ?_
            refine AL.p (by first | exact mv1 rfl | exact mv2 rfl | exact mv3 rfl | exact mv4 rfl | exact mv5 rfl | exact mv6 rfl | exact mv7 rfl | exact mv8 rfl | exact mv9 rfl | exact mv10 rfl | exact mv11 rfl) rfl ?_
            first | refine AL.caseG rfl rfl (fun h3 => ?_) (fun h3 => ?_) | refine AL.caseGN rfl rfl (fun h3 => ?_) (fun h3 => ?_) | refine AL.caseGB rfl rfl (fun h3 => ?_) (fun h3 => ?_) | refine AL.caseGNB rfl rfl (fun h3 => ?_) (fun h3 => ?_)
            · refine AL.yes rfl rfl rfl ?_
              refine AL.p (by first | exact mv1 rfl | exact mv2 rfl | exact mv3 rfl | exact mv4 rfl | exact mv5 rfl | exact mv6 rfl | exact mv7 rfl | exact mv8 rfl | exact mv9 rfl | exact mv10 rfl | exact mv11 rfl) rfl ?_
              refine AL.yes rfl rfl rfl ?_
              refine AL.p (by first | exact mv1 rfl | exact mv2 rfl | exact mv3 rfl | exact mv4 rfl | exact mv5 rfl | exact mv6 rfl | exact mv7 rfl | exact mv8 rfl | exact mv9 rfl | exact mv10 rfl | exact mv11 rfl) rfl ?_
              refine AL.yes rfl rfl rfl ?_
              refine AL.q (by exact h_pure en_l1HasS rfl rfl (by repeat (first | exact rfl | exact DLead.same | exact DLead.nil | refine ⟨_, _, rfl, ?_, ?_⟩ | refine ⟨_, rfl, ?_⟩)) hB1 rfl) rfl ?_
              refine AL.p (by first | exact g_pickT (r := .d _) rfl rfl | exact g_pickF (r := .d _) rfl rfl) rfl ?_
              refine AL.nil ?_
              refine th_n ?_
              first | refine AC.condD rfl (fun h4 => ?_) (fun h4 => ?_) | refine AC.condND rfl (fun h4 => ?_) (fun h4 => ?_) | refine AC.condB rfl (fun h4 => ?_) (fun h4 => ?_) | refine AC.condNB rfl (fun h4 => ?_) (fun h4 => ?_)
              · refine AC.seq ?_
                refine AC.region ?_
                refine AL.p (by first | exact as1 rfl | exact as2 rfl | exact as3 rfl | exact as4 rfl | exact as5 rfl | exact as6 rfl | exact as7 rfl | exact as8 rfl | exact as9 rfl | exact as10 rfl | exact as11 rfl) rfl ?_
                refine AL.p (by first | exact as1 rfl | exact as2 rfl | exact as3 rfl | exact as4 rfl | exact as5 rfl | exact as6 rfl | exact as7 rfl | exact as8 rfl | exact as9 rfl | exact as10 rfl | exact as11 rfl) rfl ?_
                refine AL.nil ?_
                refine th_n ?_
                refine AC.ret ?_
                refine th_r ?_
                refine ib_r ?_
                refine th_r ?_
                refine th_r ?_
                refine ib_r ?_
                refine th_r ?_
                refine bq_r ?_
                have w := hS.no ‹i = true› ‹bb = true›
                exact retX [] rfl (sgR_no (by rw [hR, w]; rfl)) (by repeat (first | exact rfl | exact DLead.same | exact DLead.nil | refine ⟨_, _, rfl, ?_, ?_⟩ | refine ⟨_, rfl, ?_⟩)) (by repeat (first | exact True.intro | refine And.intro ?_ ?_ | exact DLead.same | exact DLead.eqI (by omega) | exact DLead.eqI (by dsimp only; omega) | exact DLead.nil | exact rfl | refine ⟨_, _, rfl, rfl, ?_⟩ | refine ⟨_, rfl, ?_⟩ | refine ⟨_, _, rfl, ?_, ?_⟩)) rfl rfl
              · refine AC.skip ?_
                refine th_n ?_
                refine AC.seq ?_
                refine AC.region ?_
                refine AL.p (by first | exact as1 rfl | exact as2 rfl | exact as3 rfl | exact as4 rfl | exact as5 rfl | exact as6 rfl | exact as7 rfl | exact as8 rfl | exact as9 rfl | exact as10 rfl | exact as11 rfl) rfl ?_
                refine AL.nil ?_
                refine th_n ?_
                refine AC.seq ?_
                refine AC.seq ?_
                refine AC.region ?_
                refine AL.p (by first | exact mv1 rfl | exact mv2 rfl | exact mv3 rfl | exact mv4 rfl | exact mv5 rfl | exact mv6 rfl | exact mv7 rfl | exact mv8 rfl | exact mv9 rfl | exact mv10 rfl | exact mv11 rfl) rfl ?_
                refine AL.nil ?_
                refine th_n ?_
                first | refine AC.condD rfl (fun h5 => ?_) (fun h5 => ?_) | refine AC.condND rfl (fun h5 => ?_) (fun h5 => ?_) | refine AC.condB rfl (fun h5 => ?_) (fun h5 => ?_) | refine AC.condNB rfl (fun h5 => ?_) (fun h5 => ?_)
                · refine AC.region ?_
                  refine AL.p (by first | exact as1 rfl | exact as2 rfl | exact as3 rfl | exact as4 rfl | exact as5 rfl | exact as6 rfl | exact as7 rfl | exact as8 rfl | exact as9 rfl | exact as10 rfl | exact as11 rfl) rfl ?_
                  refine AL.nil ?_
                  refine th_n ?_
                  refine AC.seq ?_
                  refine AC.region ?_
                  refine AL.p (by first | exact mv1 rfl | exact mv2 rfl | exact mv3 rfl | exact mv4 rfl | exact mv5 rfl | exact mv6 rfl | exact mv7 rfl | exact mv8 rfl | exact mv9 rfl | exact mv10 rfl | exact mv11 rfl) rfl ?_
                  refine AL.p (by first | exact mv1 rfl | exact mv2 rfl | exact mv3 rfl | exact mv4 rfl | exact mv5 rfl | exact mv6 rfl | exact mv7 rfl | exact mv8 rfl | exact mv9 rfl | exact mv10 rfl | exact mv11 rfl) rfl ?_
                  refine AL.q (by exact h_borrow [100] en_l2Signal rfl rfl hS2 (.cons (.of (.own rfl rfl (gownl _) (gownt _))) (.cons (.of .d) .nil)) rfl) rfl ?_
                  refine AL.p (by first | exact g_cmp rfl rfl rfl | exact g_scmp rfl rfl rfl | exact g_eqB rfl rfl rfl | exact g_neB rfl rfl rfl) rfl ?_
                  refine AL.nil ?_
                  refine th_n ?_
                  first | refine AC.condD rfl (fun h6 => ?_) (fun h6 => ?_) | refine AC.condND rfl (fun h6 => ?_) (fun h6 => ?_) | refine AC.condB rfl (fun h6 => ?_) (fun h6 => ?_) | refine AC.condNB rfl (fun h6 => ?_) (fun h6 => ?_)
                  · refine AC.region ?_
                    refine AL.p (by first | exact mv1 rfl | exact mv2 rfl | exact mv3 rfl | exact mv4 rfl | exact mv5 rfl | exact mv6 rfl | exact mv7 rfl | exact mv8 rfl | exact mv9 rfl | exact mv10 rfl | exact mv11 rfl) rfl ?_
                    refine AL.p (by first | exact mv1 rfl | exact mv2 rfl | exact mv3 rfl | exact mv4 rfl | exact mv5 rfl | exact mv6 rfl | exact mv7 rfl | exact mv8 rfl | exact mv9 rfl | exact mv10 rfl | exact mv11 rfl) rfl ?_
                    refine AL.p (by first | exact mv1 rfl | exact mv2 rfl | exact mv3 rfl | exact mv4 rfl | exact mv5 rfl | exact mv6 rfl | exact mv7 rfl | exact mv8 rfl | exact mv9 rfl | exact mv10 rfl | exact mv11 rfl) rfl ?_
                    refine AL.p (by exact g_build rfl rfl rfl) rfl ?_
                    refine AL.q (by exact h_litF rfl rfl rfl rfl rfl rfl rfl rfl) rfl ?_
                    refine AL.q (by first | exact h_appendSigs acc [⟨nm, 1⟩] (.own rfl rfl (sigsL_len _).symm) (.view rfl) (by rw [List.length_append]; simp only [List.length_cons, List.length_nil]; omega) (by simp) | exact h_appendSigs acc [⟨nm, 2⟩] (.own rfl rfl (sigsL_len _).symm) (.view rfl) (by rw [List.length_append]; simp only [List.length_cons, List.length_nil]; omega) (by simp)) rfl ?_
                    refine AL.p (by first | exact as1 rfl | exact as2 rfl | exact as3 rfl | exact as4 rfl | exact as5 rfl | exact as6 rfl | exact as7 rfl | exact as8 rfl | exact as9 rfl | exact as10 rfl | exact as11 rfl) rfl ?_
                    refine AL.nil ?_
                    refine ib_n ?_
                    refine th_n ?_
                    refine AC.region ?_
                    refine AL.p (by first | exact g_arith rfl rfl rfl (by first | exact wrap_i64 (by omega) | exact wrap_u8 (by omega) | exact wrap_u64 (by omega) | rfl) | exact g_sadd rfl rfl (by first | assumption | omega | (simp only [ByteArray.size_append, bstr_size, List.length_take, List.length_drop, List.length_cons, List.length_nil]; omega))) rfl ?_
                    refine AL.p (by first | exact mv1 rfl | exact mv2 rfl | exact mv3 rfl | exact mv4 rfl | exact mv5 rfl | exact mv6 rfl | exact mv7 rfl | exact mv8 rfl | exact mv9 rfl | exact mv10 rfl | exact mv11 rfl) rfl ?_
                    refine AL.nil ?_
                    refine th_n ?_
                    first | (exfalso; have w := ‹i = true›; have w2 := ‹i = false›; rw [w] at w2; cases w2; done) | (have w := hS.one ‹i = true› ‹bb = false› ‹fi < 0›; exact ⟨(k + 1, acc ++ [⟨nm, 1⟩]), ⟨hk1, w⟩, by dsimp only; omega, Weak.ren _ [(100, _)] hC rfl (by dsimp only; repeat (first | exact True.intro | refine And.intro ?_ ?_ | exact DLead.same | exact DLead.eqI (by omega) | exact DLead.eqI (by dsimp only; omega) | exact DLead.nil | exact rfl | refine ⟨_, _, rfl, rfl, ?_⟩ | refine ⟨_, rfl, ?_⟩ | refine ⟨_, _, rfl, ?_, ?_⟩)) (by dsimp only; repeat (first | exact True.intro | refine And.intro ?_ ?_ | exact DLead.same | exact DLead.eqI (by omega) | exact DLead.eqI (by dsimp only; omega) | exact DLead.nil | exact rfl | refine ⟨_, _, rfl, rfl, ?_⟩ | refine ⟨_, rfl, ?_⟩ | refine ⟨_, _, rfl, ?_, ?_⟩)) rfl rfl rfl⟩) | (have w := hS.two ‹i = false› ‹fi < 0›; exact ⟨(k + 1, acc ++ [⟨nm, 2⟩]), ⟨hk1, w⟩, by dsimp only; omega, Weak.ren _ [(100, _)] hC rfl (by dsimp only; repeat (first | exact True.intro | refine And.intro ?_ ?_ | exact DLead.same | exact DLead.eqI (by omega) | exact DLead.eqI (by dsimp only; omega) | exact DLead.nil | exact rfl | refine ⟨_, _, rfl, rfl, ?_⟩ | refine ⟨_, rfl, ?_⟩ | refine ⟨_, _, rfl, ?_, ?_⟩)) (by dsimp only; repeat (first | exact True.intro | refine And.intro ?_ ?_ | exact DLead.same | exact DLead.eqI (by omega) | exact DLead.eqI (by dsimp only; omega) | exact DLead.nil | exact rfl | refine ⟨_, _, rfl, rfl, ?_⟩ | refine ⟨_, rfl, ?_⟩ | refine ⟨_, _, rfl, ?_, ?_⟩)) rfl rfl rfl⟩) | (have w0 := ‹i = false›; have w := hS.same (by rw [w0]; rfl) ‹¬ fi < 0›; exact ⟨(k + 1, acc), ⟨hk1, w⟩, by dsimp only; omega, Weak.ren _ [(100, _)] hC rfl (by dsimp only; repeat (first | exact True.intro | refine And.intro ?_ ?_ | exact DLead.same | exact DLead.eqI (by omega) | exact DLead.eqI (by dsimp only; omega) | exact DLead.nil | exact rfl | refine ⟨_, _, rfl, rfl, ?_⟩ | refine ⟨_, rfl, ?_⟩ | refine ⟨_, _, rfl, ?_, ?_⟩)) (by dsimp only; repeat (first | exact True.intro | refine And.intro ?_ ?_ | exact DLead.same | exact DLead.eqI (by omega) | exact DLead.eqI (by dsimp only; omega) | exact DLead.nil | exact rfl | refine ⟨_, _, rfl, rfl, ?_⟩ | refine ⟨_, rfl, ?_⟩ | refine ⟨_, _, rfl, ?_, ?_⟩)) rfl rfl rfl⟩) | (have w0 := ‹bb = false›; have w := hS.same (by rw [w0, Bool.and_false]) ‹¬ fi < 0›; exact ⟨(k + 1, acc), ⟨hk1, w⟩, by dsimp only; omega, Weak.ren _ [(100, _)] hC rfl (by dsimp only; repeat (first | exact True.intro | refine And.intro ?_ ?_ | exact DLead.same | exact DLead.eqI (by omega) | exact DLead.eqI (by dsimp only; omega) | exact DLead.nil | exact rfl | refine ⟨_, _, rfl, rfl, ?_⟩ | refine ⟨_, rfl, ?_⟩ | refine ⟨_, _, rfl, ?_, ?_⟩)) (by dsimp only; repeat (first | exact True.intro | refine And.intro ?_ ?_ | exact DLead.same | exact DLead.eqI (by omega) | exact DLead.eqI (by dsimp only; omega) | exact DLead.nil | exact rfl | refine ⟨_, _, rfl, rfl, ?_⟩ | refine ⟨_, rfl, ?_⟩ | refine ⟨_, _, rfl, ?_, ?_⟩)) rfl rfl rfl⟩)
                  · refine AC.skip ?_
                    refine ib_n ?_
                    refine th_n ?_
                    refine AC.region ?_
                    refine AL.p (by first | exact g_arith rfl rfl rfl (by first | exact wrap_i64 (by omega) | exact wrap_u8 (by omega) | exact wrap_u64 (by omega) | rfl) | exact g_sadd rfl rfl (by first | assumption | omega | (simp only [ByteArray.size_append, bstr_size, List.length_take, List.length_drop, List.length_cons, List.length_nil]; omega))) rfl ?_
                    refine AL.p (by first | exact mv1 rfl | exact mv2 rfl | exact mv3 rfl | exact mv4 rfl | exact mv5 rfl | exact mv6 rfl | exact mv7 rfl | exact mv8 rfl | exact mv9 rfl | exact mv10 rfl | exact mv11 rfl) rfl ?_
                    refine AL.nil ?_
                    refine th_n ?_
                    first | (exfalso; have w := ‹i = true›; have w2 := ‹i = false›; rw [w] at w2; cases w2; done) | (have w := hS.one ‹i = true› ‹bb = false› ‹fi < 0›; exact ⟨(k + 1, acc ++ [⟨nm, 1⟩]), ⟨hk1, w⟩, by dsimp only; omega, Weak.ren _ [(100, _)] hC rfl (by dsimp only; repeat (first | exact True.intro | refine And.intro ?_ ?_ | exact DLead.same | exact DLead.eqI (by omega) | exact DLead.eqI (by dsimp only; omega) | exact DLead.nil | exact rfl | refine ⟨_, _, rfl, rfl, ?_⟩ | refine ⟨_, rfl, ?_⟩ | refine ⟨_, _, rfl, ?_, ?_⟩)) (by dsimp only; repeat (first | exact True.intro | refine And.intro ?_ ?_ | exact DLead.same | exact DLead.eqI (by omega) | exact DLead.eqI (by dsimp only; omega) | exact DLead.nil | exact rfl | refine ⟨_, _, rfl, rfl, ?_⟩ | refine ⟨_, rfl, ?_⟩ | refine ⟨_, _, rfl, ?_, ?_⟩)) rfl rfl rfl⟩) | (have w := hS.two ‹i = false› ‹fi < 0›; exact ⟨(k + 1, acc ++ [⟨nm, 2⟩]), ⟨hk1, w⟩, by dsimp only; omega, Weak.ren _ [(100, _)] hC rfl (by dsimp only; repeat (first | exact True.intro | refine And.intro ?_ ?_ | exact DLead.same | exact DLead.eqI (by omega) | exact DLead.eqI (by dsimp only; omega) | exact DLead.nil | exact rfl | refine ⟨_, _, rfl, rfl, ?_⟩ | refine ⟨_, rfl, ?_⟩ | refine ⟨_, _, rfl, ?_, ?_⟩)) (by dsimp only; repeat (first | exact True.intro | refine And.intro ?_ ?_ | exact DLead.same | exact DLead.eqI (by omega) | exact DLead.eqI (by dsimp only; omega) | exact DLead.nil | exact rfl | refine ⟨_, _, rfl, rfl, ?_⟩ | refine ⟨_, rfl, ?_⟩ | refine ⟨_, _, rfl, ?_, ?_⟩)) rfl rfl rfl⟩) | (have w0 := ‹i = false›; have w := hS.same (by rw [w0]; rfl) ‹¬ fi < 0›; exact ⟨(k + 1, acc), ⟨hk1, w⟩, by dsimp only; omega, Weak.ren _ [(100, _)] hC rfl (by dsimp only; repeat (first | exact True.intro | refine And.intro ?_ ?_ | exact DLead.same | exact DLead.eqI (by omega) | exact DLead.eqI (by dsimp only; omega) | exact DLead.nil | exact rfl | refine ⟨_, _, rfl, rfl, ?_⟩ | refine ⟨_, rfl, ?_⟩ | refine ⟨_, _, rfl, ?_, ?_⟩)) (by dsimp only; repeat (first | exact True.intro | refine And.intro ?_ ?_ | exact DLead.same | exact DLead.eqI (by omega) | exact DLead.eqI (by dsimp only; omega) | exact DLead.nil | exact rfl | refine ⟨_, _, rfl, rfl, ?_⟩ | refine ⟨_, rfl, ?_⟩ | refine ⟨_, _, rfl, ?_, ?_⟩)) rfl rfl rfl⟩) | (have w0 := ‹bb = false›; have w := hS.same (by rw [w0, Bool.and_false]) ‹¬ fi < 0›; exact ⟨(k + 1, acc), ⟨hk1, w⟩, by dsimp only; omega, Weak.ren _ [(100, _)] hC rfl (by dsimp only; repeat (first | exact True.intro | refine And.intro ?_ ?_ | exact DLead.same | exact DLead.eqI (by omega) | exact DLead.eqI (by dsimp only; omega) | exact DLead.nil | exact rfl | refine ⟨_, _, rfl, rfl, ?_⟩ | refine ⟨_, rfl, ?_⟩ | refine ⟨_, _, rfl, ?_, ?_⟩)) (by dsimp only; repeat (first | exact True.intro | refine And.intro ?_ ?_ | exact DLead.same | exact DLead.eqI (by omega) | exact DLead.eqI (by dsimp only; omega) | exact DLead.nil | exact rfl | refine ⟨_, _, rfl, rfl, ?_⟩ | refine ⟨_, rfl, ?_⟩ | refine ⟨_, _, rfl, ?_, ?_⟩)) rfl rfl rfl⟩)
                · refine AC.skip ?_
                  refine th_n ?_
                  refine AC.seq ?_
                  refine AC.region ?_
                  refine AL.p (by first | exact mv1 rfl | exact mv2 rfl | exact mv3 rfl | exact mv4 rfl | exact mv5 rfl | exact mv6 rfl | exact mv7 rfl | exact mv8 rfl | exact mv9 rfl | exact mv10 rfl | exact mv11 rfl) rfl ?_
                  refine AL.p (by first | exact mv1 rfl | exact mv2 rfl | exact mv3 rfl | exact mv4 rfl | exact mv5 rfl | exact mv6 rfl | exact mv7 rfl | exact mv8 rfl | exact mv9 rfl | exact mv10 rfl | exact mv11 rfl) rfl ?_
                  refine AL.q (by exact h_borrow [100] en_l2Signal rfl rfl hS2 (.cons (.of (.own rfl rfl (gownl _) (gownt _))) (.cons (.of .d) .nil)) rfl) rfl ?_
                  refine AL.p (by first | exact g_cmp rfl rfl rfl | exact g_scmp rfl rfl rfl | exact g_eqB rfl rfl rfl | exact g_neB rfl rfl rfl) rfl ?_
                  refine AL.nil ?_
                  refine th_n ?_
                  first | refine AC.condD rfl (fun h6 => ?_) (fun h6 => ?_) | refine AC.condND rfl (fun h6 => ?_) (fun h6 => ?_) | refine AC.condB rfl (fun h6 => ?_) (fun h6 => ?_) | refine AC.condNB rfl (fun h6 => ?_) (fun h6 => ?_)
                  · refine AC.region ?_
                    refine AL.p (by first | exact mv1 rfl | exact mv2 rfl | exact mv3 rfl | exact mv4 rfl | exact mv5 rfl | exact mv6 rfl | exact mv7 rfl | exact mv8 rfl | exact mv9 rfl | exact mv10 rfl | exact mv11 rfl) rfl ?_
                    refine AL.p (by first | exact mv1 rfl | exact mv2 rfl | exact mv3 rfl | exact mv4 rfl | exact mv5 rfl | exact mv6 rfl | exact mv7 rfl | exact mv8 rfl | exact mv9 rfl | exact mv10 rfl | exact mv11 rfl) rfl ?_
                    refine AL.p (by first | exact mv1 rfl | exact mv2 rfl | exact mv3 rfl | exact mv4 rfl | exact mv5 rfl | exact mv6 rfl | exact mv7 rfl | exact mv8 rfl | exact mv9 rfl | exact mv10 rfl | exact mv11 rfl) rfl ?_
                    refine AL.p (by exact g_build rfl rfl rfl) rfl ?_
                    refine AL.q (by exact h_litF rfl rfl rfl rfl rfl rfl rfl rfl) rfl ?_
                    refine AL.q (by first | exact h_appendSigs acc [⟨nm, 1⟩] (.own rfl rfl (sigsL_len _).symm) (.view rfl) (by rw [List.length_append]; simp only [List.length_cons, List.length_nil]; omega) (by simp) | exact h_appendSigs acc [⟨nm, 2⟩] (.own rfl rfl (sigsL_len _).symm) (.view rfl) (by rw [List.length_append]; simp only [List.length_cons, List.length_nil]; omega) (by simp)) rfl ?_
                    refine AL.p (by first | exact as1 rfl | exact as2 rfl | exact as3 rfl | exact as4 rfl | exact as5 rfl | exact as6 rfl | exact as7 rfl | exact as8 rfl | exact as9 rfl | exact as10 rfl | exact as11 rfl) rfl ?_
                    refine AL.nil ?_
                    refine ib_n ?_
                    refine th_n ?_
                    refine AC.region ?_
                    refine AL.p (by first | exact g_arith rfl rfl rfl (by first | exact wrap_i64 (by omega) | exact wrap_u8 (by omega) | exact wrap_u64 (by omega) | rfl) | exact g_sadd rfl rfl (by first | assumption | omega | (simp only [ByteArray.size_append, bstr_size, List.length_take, List.length_drop, List.length_cons, List.length_nil]; omega))) rfl ?_
                    refine AL.p (by first | exact mv1 rfl | exact mv2 rfl | exact mv3 rfl | exact mv4 rfl | exact mv5 rfl | exact mv6 rfl | exact mv7 rfl | exact mv8 rfl | exact mv9 rfl | exact mv10 rfl | exact mv11 rfl) rfl ?_
                    refine AL.nil ?_
                    refine th_n ?_
                    first | (exfalso; have w := ‹i = true›; have w2 := ‹i = false›; rw [w] at w2; cases w2; done) | (have w := hS.one ‹i = true› ‹bb = false› ‹fi < 0›; exact ⟨(k + 1, acc ++ [⟨nm, 1⟩]), ⟨hk1, w⟩, by dsimp only; omega, Weak.ren _ [(100, _)] hC rfl (by dsimp only; repeat (first | exact True.intro | refine And.intro ?_ ?_ | exact DLead.same | exact DLead.eqI (by omega) | exact DLead.eqI (by dsimp only; omega) | exact DLead.nil | exact rfl | refine ⟨_, _, rfl, rfl, ?_⟩ | refine ⟨_, rfl, ?_⟩ | refine ⟨_, _, rfl, ?_, ?_⟩)) (by dsimp only; repeat (first | exact True.intro | refine And.intro ?_ ?_ | exact DLead.same | exact DLead.eqI (by omega) | exact DLead.eqI (by dsimp only; omega) | exact DLead.nil | exact rfl | refine ⟨_, _, rfl, rfl, ?_⟩ | refine ⟨_, rfl, ?_⟩ | refine ⟨_, _, rfl, ?_, ?_⟩)) rfl rfl rfl⟩) | (have w := hS.two ‹i = false› ‹fi < 0›; exact ⟨(k + 1, acc ++ [⟨nm, 2⟩]), ⟨hk1, w⟩, by dsimp only; omega, Weak.ren _ [(100, _)] hC rfl (by dsimp only; repeat (first | exact True.intro | refine And.intro ?_ ?_ | exact DLead.same | exact DLead.eqI (by omega) | exact DLead.eqI (by dsimp only; omega) | exact DLead.nil | exact rfl | refine ⟨_, _, rfl, rfl, ?_⟩ | refine ⟨_, rfl, ?_⟩ | refine ⟨_, _, rfl, ?_, ?_⟩)) (by dsimp only; repeat (first | exact True.intro | refine And.intro ?_ ?_ | exact DLead.same | exact DLead.eqI (by omega) | exact DLead.eqI (by dsimp only; omega) | exact DLead.nil | exact rfl | refine ⟨_, _, rfl, rfl, ?_⟩ | refine ⟨_, rfl, ?_⟩ | refine ⟨_, _, rfl, ?_, ?_⟩)) rfl rfl rfl⟩) | (have w0 := ‹i = false›; have w := hS.same (by rw [w0]; rfl) ‹¬ fi < 0›; exact ⟨(k + 1, acc), ⟨hk1, w⟩, by dsimp only; omega, Weak.ren _ [(100, _)] hC rfl (by dsimp only; repeat (first | exact True.intro | refine And.intro ?_ ?_ | exact DLead.same | exact DLead.eqI (by omega) | exact DLead.eqI (by dsimp only; omega) | exact DLead.nil | exact rfl | refine ⟨_, _, rfl, rfl, ?_⟩ | refine ⟨_, rfl, ?_⟩ | refine ⟨_, _, rfl, ?_, ?_⟩)) (by dsimp only; repeat (first | exact True.intro | refine And.intro ?_ ?_ | exact DLead.same | exact DLead.eqI (by omega) | exact DLead.eqI (by dsimp only; omega) | exact DLead.nil | exact rfl | refine ⟨_, _, rfl, rfl, ?_⟩ | refine ⟨_, rfl, ?_⟩ | refine ⟨_, _, rfl, ?_, ?_⟩)) rfl rfl rfl⟩) | (have w0 := ‹bb = false›; have w := hS.same (by rw [w0, Bool.and_false]) ‹¬ fi < 0›; exact ⟨(k + 1, acc), ⟨hk1, w⟩, by dsimp only; omega, Weak.ren _ [(100, _)] hC rfl (by dsimp only; repeat (first | exact True.intro | refine And.intro ?_ ?_ | exact DLead.same | exact DLead.eqI (by omega) | exact DLead.eqI (by dsimp only; omega) | exact DLead.nil | exact rfl | refine ⟨_, _, rfl, rfl, ?_⟩ | refine ⟨_, rfl, ?_⟩ | refine ⟨_, _, rfl, ?_, ?_⟩)) (by dsimp only; repeat (first | exact True.intro | refine And.intro ?_ ?_ | exact DLead.same | exact DLead.eqI (by omega) | exact DLead.eqI (by dsimp only; omega) | exact DLead.nil | exact rfl | refine ⟨_, _, rfl, rfl, ?_⟩ | refine ⟨_, rfl, ?_⟩ | refine ⟨_, _, rfl, ?_, ?_⟩)) rfl rfl rfl⟩)
                  · refine AC.skip ?_
                    refine ib_n ?_
                    refine th_n ?_
                    refine AC.region ?_
                    refine AL.p (by first | exact g_arith rfl rfl rfl (by first | exact wrap_i64 (by omega) | exact wrap_u8 (by omega) | exact wrap_u64 (by omega) | rfl) | exact g_sadd rfl rfl (by first | assumption | omega | (simp only [ByteArray.size_append, bstr_size, List.length_take, List.length_drop, List.length_cons, List.length_nil]; omega))) rfl ?_
                    refine AL.p (by first | exact mv1 rfl | exact mv2 rfl | exact mv3 rfl | exact mv4 rfl | exact mv5 rfl | exact mv6 rfl | exact mv7 rfl | exact mv8 rfl | exact mv9 rfl | exact mv10 rfl | exact mv11 rfl) rfl ?_
                    refine AL.nil ?_
                    refine th_n ?_
                    first | (exfalso; have w := ‹i = true›; have w2 := ‹i = false›; rw [w] at w2; cases w2; done) | (have w := hS.one ‹i = true› ‹bb = false› ‹fi < 0›; exact ⟨(k + 1, acc ++ [⟨nm, 1⟩]), ⟨hk1, w⟩, by dsimp only; omega, Weak.ren _ [(100, _)] hC rfl (by dsimp only; repeat (first | exact True.intro | refine And.intro ?_ ?_ | exact DLead.same | exact DLead.eqI (by omega) | exact DLead.eqI (by dsimp only; omega) | exact DLead.nil | exact rfl | refine ⟨_, _, rfl, rfl, ?_⟩ | refine ⟨_, rfl, ?_⟩ | refine ⟨_, _, rfl, ?_, ?_⟩)) (by dsimp only; repeat (first | exact True.intro | refine And.intro ?_ ?_ | exact DLead.same | exact DLead.eqI (by omega) | exact DLead.eqI (by dsimp only; omega) | exact DLead.nil | exact rfl | refine ⟨_, _, rfl, rfl, ?_⟩ | refine ⟨_, rfl, ?_⟩ | refine ⟨_, _, rfl, ?_, ?_⟩)) rfl rfl rfl⟩) | (have w := hS.two ‹i = false› ‹fi < 0›; exact ⟨(k + 1, acc ++ [⟨nm, 2⟩]), ⟨hk1, w⟩, by dsimp only; omega, Weak.ren _ [(100, _)] hC rfl (by dsimp only; repeat (first | exact True.intro | refine And.intro ?_ ?_ | exact DLead.same | exact DLead.eqI (by omega) | exact DLead.eqI (by dsimp only; omega) | exact DLead.nil | exact rfl | refine ⟨_, _, rfl, rfl, ?_⟩ | refine ⟨_, rfl, ?_⟩ | refine ⟨_, _, rfl, ?_, ?_⟩)) (by dsimp only; repeat (first | exact True.intro | refine And.intro ?_ ?_ | exact DLead.same | exact DLead.eqI (by omega) | exact DLead.eqI (by dsimp only; omega) | exact DLead.nil | exact rfl | refine ⟨_, _, rfl, rfl, ?_⟩ | refine ⟨_, rfl, ?_⟩ | refine ⟨_, _, rfl, ?_, ?_⟩)) rfl rfl rfl⟩) | (have w0 := ‹i = false›; have w := hS.same (by rw [w0]; rfl) ‹¬ fi < 0›; exact ⟨(k + 1, acc), ⟨hk1, w⟩, by dsimp only; omega, Weak.ren _ [(100, _)] hC rfl (by dsimp only; repeat (first | exact True.intro | refine And.intro ?_ ?_ | exact DLead.same | exact DLead.eqI (by omega) | exact DLead.eqI (by dsimp only; omega) | exact DLead.nil | exact rfl | refine ⟨_, _, rfl, rfl, ?_⟩ | refine ⟨_, rfl, ?_⟩ | refine ⟨_, _, rfl, ?_, ?_⟩)) (by dsimp only; repeat (first | exact True.intro | refine And.intro ?_ ?_ | exact DLead.same | exact DLead.eqI (by omega) | exact DLead.eqI (by dsimp only; omega) | exact DLead.nil | exact rfl | refine ⟨_, _, rfl, rfl, ?_⟩ | refine ⟨_, rfl, ?_⟩ | refine ⟨_, _, rfl, ?_, ?_⟩)) rfl rfl rfl⟩) | (have w0 := ‹bb = false›; have w := hS.same (by rw [w0, Bool.and_false]) ‹¬ fi < 0›; exact ⟨(k + 1, acc), ⟨hk1, w⟩, by dsimp only; omega, Weak.ren _ [(100, _)] hC rfl (by dsimp only; repeat (first | exact True.intro | refine And.intro ?_ ?_ | exact DLead.same | exact DLead.eqI (by omega) | exact DLead.eqI (by dsimp only; omega) | exact DLead.nil | exact rfl | refine ⟨_, _, rfl, rfl, ?_⟩ | refine ⟨_, rfl, ?_⟩ | refine ⟨_, _, rfl, ?_, ?_⟩)) (by dsimp only; repeat (first | exact True.intro | refine And.intro ?_ ?_ | exact DLead.same | exact DLead.eqI (by omega) | exact DLead.eqI (by dsimp only; omega) | exact DLead.nil | exact rfl | refine ⟨_, _, rfl, rfl, ?_⟩ | refine ⟨_, rfl, ?_⟩ | refine ⟨_, _, rfl, ?_, ?_⟩)) rfl rfl rfl⟩)
            · refine AL.not rfl rfl rfl rfl rfl ?_
              refine AL.not rfl rfl rfl rfl rfl ?_
              refine AL.not rfl rfl rfl rfl rfl ?_
              refine AL.p (by first | exact g_pickT (r := .d _) rfl rfl | exact g_pickF (r := .d _) rfl rfl) rfl ?_
              refine AL.nil ?_
              refine th_n ?_
              refine AC.condF rfl ?_
              refine AC.skip ?_
              refine th_n ?_
              refine AC.seq ?_
              refine AC.region ?_
              refine AL.p (by first | exact as1 rfl | exact as2 rfl | exact as3 rfl | exact as4 rfl | exact as5 rfl | exact as6 rfl | exact as7 rfl | exact as8 rfl | exact as9 rfl | exact as10 rfl | exact as11 rfl) rfl ?_
              refine AL.nil ?_
              refine th_n ?_
              refine AC.seq ?_
              refine AC.seq ?_
              refine AC.region ?_
              refine AL.p (by first | exact mv1 rfl | exact mv2 rfl | exact mv3 rfl | exact mv4 rfl | exact mv5 rfl | exact mv6 rfl | exact mv7 rfl | exact mv8 rfl | exact mv9 rfl | exact mv10 rfl | exact mv11 rfl) rfl ?_
              refine AL.nil ?_
              refine th_n ?_
              first | refine AC.condD rfl (fun h4 => ?_) (fun h4 => ?_) | refine AC.condND rfl (fun h4 => ?_) (fun h4 => ?_) | refine AC.condB rfl (fun h4 => ?_) (fun h4 => ?_) | refine AC.condNB rfl (fun h4 => ?_) (fun h4 => ?_)
              · refine AC.region ?_
                refine AL.p (by first | exact as1 rfl | exact as2 rfl | exact as3 rfl | exact as4 rfl | exact as5 rfl | exact as6 rfl | exact as7 rfl | exact as8 rfl | exact as9 rfl | exact as10 rfl | exact as11 rfl) rfl ?_
                refine AL.nil ?_
                refine th_n ?_
                refine AC.seq ?_
                refine AC.region ?_
                refine AL.p (by first | exact mv1 rfl | exact mv2 rfl | exact mv3 rfl | exact mv4 rfl | exact mv5 rfl | exact mv6 rfl | exact mv7 rfl | exact mv8 rfl | exact mv9 rfl | exact mv10 rfl | exact mv11 rfl) rfl ?_
                refine AL.p (by first | exact mv1 rfl | exact mv2 rfl | exact mv3 rfl | exact mv4 rfl | exact mv5 rfl | exact mv6 rfl | exact mv7 rfl | exact mv8 rfl | exact mv9 rfl | exact mv10 rfl | exact mv11 rfl) rfl ?_
                refine AL.q (by exact h_borrow [100] en_l2Signal rfl rfl hS2 (.cons (.of (.own rfl rfl (gownl _) (gownt _))) (.cons (.of .d) .nil)) rfl) rfl ?_
                refine AL.p (by first | exact g_cmp rfl rfl rfl | exact g_scmp rfl rfl rfl | exact g_eqB rfl rfl rfl | exact g_neB rfl rfl rfl) rfl ?_
                refine AL.nil ?_
                refine th_n ?_
                first | refine AC.condD rfl (fun h5 => ?_) (fun h5 => ?_) | refine AC.condND rfl (fun h5 => ?_) (fun h5 => ?_) | refine AC.condB rfl (fun h5 => ?_) (fun h5 => ?_) | refine AC.condNB rfl (fun h5 => ?_) (fun h5 => ?_)
                · refine AC.region ?_
                  refine AL.p (by first | exact mv1 rfl | exact mv2 rfl | exact mv3 rfl | exact mv4 rfl | exact mv5 rfl | exact mv6 rfl | exact mv7 rfl | exact mv8 rfl | exact mv9 rfl | exact mv10 rfl | exact mv11 rfl) rfl ?_
                  refine AL.p (by first | exact mv1 rfl | exact mv2 rfl | exact mv3 rfl | exact mv4 rfl | exact mv5 rfl | exact mv6 rfl | exact mv7 rfl | exact mv8 rfl | exact mv9 rfl | exact mv10 rfl | exact mv11 rfl) rfl ?_
                  refine AL.p (by first | exact mv1 rfl | exact mv2 rfl | exact mv3 rfl | exact mv4 rfl | exact mv5 rfl | exact mv6 rfl | exact mv7 rfl | exact mv8 rfl | exact mv9 rfl | exact mv10 rfl | exact mv11 rfl) rfl ?_
                  refine AL.p (by exact g_build rfl rfl rfl) rfl ?_
                  refine AL.q (by exact h_litF rfl rfl rfl rfl rfl rfl rfl rfl) rfl ?_
                  refine AL.q (by first | exact h_appendSigs acc [⟨nm, 1⟩] (.own rfl rfl (sigsL_len _).symm) (.view rfl) (by rw [List.length_append]; simp only [List.length_cons, List.length_nil]; omega) (by simp) | exact h_appendSigs acc [⟨nm, 2⟩] (.own rfl rfl (sigsL_len _).symm) (.view rfl) (by rw [List.length_append]; simp only [List.length_cons, List.length_nil]; omega) (by simp)) rfl ?_
                  refine AL.p (by first | exact as1 rfl | exact as2 rfl | exact as3 rfl | exact as4 rfl | exact as5 rfl | exact as6 rfl | exact as7 rfl | exact as8 rfl | exact as9 rfl | exact as10 rfl | exact as11 rfl) rfl ?_
                  refine AL.nil ?_
                  refine ib_n ?_
                  refine th_n ?_
                  refine AC.region ?_
                  refine AL.p (by first | exact g_arith rfl rfl rfl (by first | exact wrap_i64 (by omega) | exact wrap_u8 (by omega) | exact wrap_u64 (by omega) | rfl) | exact g_sadd rfl rfl (by first | assumption | omega | (simp only [ByteArray.size_append, bstr_size, List.length_take, List.length_drop, List.length_cons, List.length_nil]; omega))) rfl ?_
                  refine AL.p (by first | exact mv1 rfl | exact mv2 rfl | exact mv3 rfl | exact mv4 rfl | exact mv5 rfl | exact mv6 rfl | exact mv7 rfl | exact mv8 rfl | exact mv9 rfl | exact mv10 rfl | exact mv11 rfl) rfl ?_
                  refine AL.nil ?_
                  refine th_n ?_
                  first | (exfalso; have w := ‹i = true›; have w2 := ‹i = false›; rw [w] at w2; cases w2; done) | (have w := hS.one ‹i = true› ‹bb = false› ‹fi < 0›; exact ⟨(k + 1, acc ++ [⟨nm, 1⟩]), ⟨hk1, w⟩, by dsimp only; omega, Weak.ren _ [(100, _)] hC rfl (by dsimp only; repeat (first | exact True.intro | refine And.intro ?_ ?_ | exact DLead.same | exact DLead.eqI (by omega) | exact DLead.eqI (by dsimp only; omega) | exact DLead.nil | exact rfl | refine ⟨_, _, rfl, rfl, ?_⟩ | refine ⟨_, rfl, ?_⟩ | refine ⟨_, _, rfl, ?_, ?_⟩)) (by dsimp only; repeat (first | exact True.intro | refine And.intro ?_ ?_ | exact DLead.same | exact DLead.eqI (by omega) | exact DLead.eqI (by dsimp only; omega) | exact DLead.nil | exact rfl | refine ⟨_, _, rfl, rfl, ?_⟩ | refine ⟨_, rfl, ?_⟩ | refine ⟨_, _, rfl, ?_, ?_⟩)) rfl rfl rfl⟩) | (have w := hS.two ‹i = false› ‹fi < 0›; exact ⟨(k + 1, acc ++ [⟨nm, 2⟩]), ⟨hk1, w⟩, by dsimp only; omega, Weak.ren _ [(100, _)] hC rfl (by dsimp only; repeat (first | exact True.intro | refine And.intro ?_ ?_ | exact DLead.same | exact DLead.eqI (by omega) | exact DLead.eqI (by dsimp only; omega) | exact DLead.nil | exact rfl | refine ⟨_, _, rfl, rfl, ?_⟩ | refine ⟨_, rfl, ?_⟩ | refine ⟨_, _, rfl, ?_, ?_⟩)) (by dsimp only; repeat (first | exact True.intro | refine And.intro ?_ ?_ | exact DLead.same | exact DLead.eqI (by omega) | exact DLead.eqI (by dsimp only; omega) | exact DLead.nil | exact rfl | refine ⟨_, _, rfl, rfl, ?_⟩ | refine ⟨_, rfl, ?_⟩ | refine ⟨_, _, rfl, ?_, ?_⟩)) rfl rfl rfl⟩) | (have w0 := ‹i = false›; have w := hS.same (by rw [w0]; rfl) ‹¬ fi < 0›; exact ⟨(k + 1, acc), ⟨hk1, w⟩, by dsimp only; omega, Weak.ren _ [(100, _)] hC rfl (by dsimp only; repeat (first | exact True.intro | refine And.intro ?_ ?_ | exact DLead.same | exact DLead.eqI (by omega) | exact DLead.eqI (by dsimp only; omega) | exact DLead.nil | exact rfl | refine ⟨_, _, rfl, rfl, ?_⟩ | refine ⟨_, rfl, ?_⟩ | refine ⟨_, _, rfl, ?_, ?_⟩)) (by dsimp only; repeat (first | exact True.intro | refine And.intro ?_ ?_ | exact DLead.same | exact DLead.eqI (by omega) | exact DLead.eqI (by dsimp only; omega) | exact DLead.nil | exact rfl | refine ⟨_, _, rfl, rfl, ?_⟩ | refine ⟨_, rfl, ?_⟩ | refine ⟨_, _, rfl, ?_, ?_⟩)) rfl rfl rfl⟩) | (have w0 := ‹bb = false›; have w := hS.same (by rw [w0, Bool.and_false]) ‹¬ fi < 0›; exact ⟨(k + 1, acc), ⟨hk1, w⟩, by dsimp only; omega, Weak.ren _ [(100, _)] hC rfl (by dsimp only; repeat (first | exact True.intro | refine And.intro ?_ ?_ | exact DLead.same | exact DLead.eqI (by omega) | exact DLead.eqI (by dsimp only; omega) | exact DLead.nil | exact rfl | refine ⟨_, _, rfl, rfl, ?_⟩ | refine ⟨_, rfl, ?_⟩ | refine ⟨_, _, rfl, ?_, ?_⟩)) (by dsimp only; repeat (first | exact True.intro | refine And.intro ?_ ?_ | exact DLead.same | exact DLead.eqI (by omega) | exact DLead.eqI (by dsimp only; omega) | exact DLead.nil | exact rfl | refine ⟨_, _, rfl, rfl, ?_⟩ | refine ⟨_, rfl, ?_⟩ | refine ⟨_, _, rfl, ?_, ?_⟩)) rfl rfl rfl⟩)
                · refine AC.skip ?_
                  refine ib_n ?_
                  refine th_n ?_
                  refine AC.region ?_
                  refine AL.p (by first | exact g_arith rfl rfl rfl (by first | exact wrap_i64 (by omega) | exact wrap_u8 (by omega) | exact wrap_u64 (by omega) | rfl) | exact g_sadd rfl rfl (by first | assumption | omega | (simp only [ByteArray.size_append, bstr_size, List.length_take, List.length_drop, List.length_cons, List.length_nil]; omega))) rfl ?_
                  refine AL.p (by first | exact mv1 rfl | exact mv2 rfl | exact mv3 rfl | exact mv4 rfl | exact mv5 rfl | exact mv6 rfl | exact mv7 rfl | exact mv8 rfl | exact mv9 rfl | exact mv10 rfl | exact mv11 rfl) rfl ?_
                  refine AL.nil ?_
                  refine th_n ?_
                  first | (exfalso; have w := ‹i = true›; have w2 := ‹i = false›; rw [w] at w2; cases w2; done) | (have w := hS.one ‹i = true› ‹bb = false› ‹fi < 0›; exact ⟨(k + 1, acc ++ [⟨nm, 1⟩]), ⟨hk1, w⟩, by dsimp only; omega, Weak.ren _ [(100, _)] hC rfl (by dsimp only; repeat (first | exact True.intro | refine And.intro ?_ ?_ | exact DLead.same | exact DLead.eqI (by omega) | exact DLead.eqI (by dsimp only; omega) | exact DLead.nil | exact rfl | refine ⟨_, _, rfl, rfl, ?_⟩ | refine ⟨_, rfl, ?_⟩ | refine ⟨_, _, rfl, ?_, ?_⟩)) (by dsimp only; repeat (first | exact True.intro | refine And.intro ?_ ?_ | exact DLead.same | exact DLead.eqI (by omega) | exact DLead.eqI (by dsimp only; omega) | exact DLead.nil | exact rfl | refine ⟨_, _, rfl, rfl, ?_⟩ | refine ⟨_, rfl, ?_⟩ | refine ⟨_, _, rfl, ?_, ?_⟩)) rfl rfl rfl⟩) | (have w := hS.two ‹i = false› ‹fi < 0›; exact ⟨(k + 1, acc ++ [⟨nm, 2⟩]), ⟨hk1, w⟩, by dsimp only; omega, Weak.ren _ [(100, _)] hC rfl (by dsimp only; repeat (first | exact True.intro | refine And.intro ?_ ?_ | exact DLead.same | exact DLead.eqI (by omega) | exact DLead.eqI (by dsimp only; omega) | exact DLead.nil | exact rfl | refine ⟨_, _, rfl, rfl, ?_⟩ | refine ⟨_, rfl, ?_⟩ | refine ⟨_, _, rfl, ?_, ?_⟩)) (by dsimp only; repeat (first | exact True.intro | refine And.intro ?_ ?_ | exact DLead.same | exact DLead.eqI (by omega) | exact DLead.eqI (by dsimp only; omega) | exact DLead.nil | exact rfl | refine ⟨_, _, rfl, rfl, ?_⟩ | refine ⟨_, rfl, ?_⟩ | refine ⟨_, _, rfl, ?_, ?_⟩)) rfl rfl rfl⟩) | (have w0 := ‹i = false›; have w := hS.same (by rw [w0]; rfl) ‹¬ fi < 0›; exact ⟨(k + 1, acc), ⟨hk1, w⟩, by dsimp only; omega, Weak.ren _ [(100, _)] hC rfl (by dsimp only; repeat (first | exact True.intro | refine And.intro ?_ ?_ | exact DLead.same | exact DLead.eqI (by omega) | exact DLead.eqI (by dsimp only; omega) | exact DLead.nil | exact rfl | refine ⟨_, _, rfl, rfl, ?_⟩ | refine ⟨_, rfl, ?_⟩ | refine ⟨_, _, rfl, ?_, ?_⟩)) (by dsimp only; repeat (first | exact True.intro | refine And.intro ?_ ?_ | exact DLead.same | exact DLead.eqI (by omega) | exact DLead.eqI (by dsimp only; omega) | exact DLead.nil | exact rfl | refine ⟨_, _, rfl, rfl, ?_⟩ | refine ⟨_, rfl, ?_⟩ | refine ⟨_, _, rfl, ?_, ?_⟩)) rfl rfl rfl⟩) | (have w0 := ‹bb = false›; have w := hS.same (by rw [w0, Bool.and_false]) ‹¬ fi < 0›; exact ⟨(k + 1, acc), ⟨hk1, w⟩, by dsimp only; omega, Weak.ren _ [(100, _)] hC rfl (by dsimp only; repeat (first | exact True.intro | refine And.intro ?_ ?_ | exact DLead.same | exact DLead.eqI (by omega) | exact DLead.eqI (by dsimp only; omega) | exact DLead.nil | exact rfl | refine ⟨_, _, rfl, rfl, ?_⟩ | refine ⟨_, rfl, ?_⟩ | refine ⟨_, _, rfl, ?_, ?_⟩)) (by dsimp only; repeat (first | exact True.intro | refine And.intro ?_ ?_ | exact DLead.same | exact DLead.eqI (by omega) | exact DLead.eqI (by dsimp only; omega) | exact DLead.nil | exact rfl | refine ⟨_, _, rfl, rfl, ?_⟩ | refine ⟨_, rfl, ?_⟩ | refine ⟨_, _, rfl, ?_, ?_⟩)) rfl rfl rfl⟩)
              · refine AC.skip ?_
                refine th_n ?_
                refine AC.seq ?_
                refine AC.region ?_
                refine AL.p (by first | exact mv1 rfl | exact mv2 rfl | exact mv3 rfl | exact mv4 rfl | exact mv5 rfl | exact mv6 rfl | exact mv7 rfl | exact mv8 rfl | exact mv9 rfl | exact mv10 rfl | exact mv11 rfl) rfl ?_
                refine AL.p (by first | exact mv1 rfl | exact mv2 rfl | exact mv3 rfl | exact mv4 rfl | exact mv5 rfl | exact mv6 rfl | exact mv7 rfl | exact mv8 rfl | exact mv9 rfl | exact mv10 rfl | exact mv11 rfl) rfl ?_
                refine AL.q (by exact h_borrow [100] en_l2Signal rfl rfl hS2 (.cons (.of (.own rfl rfl (gownl _) (gownt _))) (.cons (.of .d) .nil)) rfl) rfl ?_
                refine AL.p (by first | exact g_cmp rfl rfl rfl | exact g_scmp rfl rfl rfl | exact g_eqB rfl rfl rfl | exact g_neB rfl rfl rfl) rfl ?_
                refine AL.nil ?_
                refine th_n ?_
                first | refine AC.condD rfl (fun h5 => ?_) (fun h5 => ?_) | refine AC.condND rfl (fun h5 => ?_) (fun h5 => ?_) | refine AC.condB rfl (fun h5 => ?_) (fun h5 => ?_) | refine AC.condNB rfl (fun h5 => ?_) (fun h5 => ?_)
                · refine AC.region ?_
                  refine AL.p (by first | exact mv1 rfl | exact mv2 rfl | exact mv3 rfl | exact mv4 rfl | exact mv5 rfl | exact mv6 rfl | exact mv7 rfl | exact mv8 rfl | exact mv9 rfl | exact mv10 rfl | exact mv11 rfl) rfl ?_
                  refine AL.p (by first | exact mv1 rfl | exact mv2 rfl | exact mv3 rfl | exact mv4 rfl | exact mv5 rfl | exact mv6 rfl | exact mv7 rfl | exact mv8 rfl | exact mv9 rfl | exact mv10 rfl | exact mv11 rfl) rfl ?_
                  refine AL.p (by first | exact mv1 rfl | exact mv2 rfl | exact mv3 rfl | exact mv4 rfl | exact mv5 rfl | exact mv6 rfl | exact mv7 rfl | exact mv8 rfl | exact mv9 rfl | exact mv10 rfl | exact mv11 rfl) rfl ?_
                  refine AL.p (by exact g_build rfl rfl rfl) rfl ?_
                  refine AL.q (by exact h_litF rfl rfl rfl rfl rfl rfl rfl rfl) rfl ?_
                  refine AL.q (by first | exact h_appendSigs acc [⟨nm, 1⟩] (.own rfl rfl (sigsL_len _).symm) (.view rfl) (by rw [List.length_append]; simp only [List.length_cons, List.length_nil]; omega) (by simp) | exact h_appendSigs acc [⟨nm, 2⟩] (.own rfl rfl (sigsL_len _).symm) (.view rfl) (by rw [List.length_append]; simp only [List.length_cons, List.length_nil]; omega) (by simp)) rfl ?_
                  refine AL.p (by first | exact as1 rfl | exact as2 rfl | exact as3 rfl | exact as4 rfl | exact as5 rfl | exact as6 rfl | exact as7 rfl | exact as8 rfl | exact as9 rfl | exact as10 rfl | exact as11 rfl) rfl ?_
                  refine AL.nil ?_
                  refine ib_n ?_
                  refine th_n ?_
                  refine AC.region ?_
                  refine AL.p (by first | exact g_arith rfl rfl rfl (by first | exact wrap_i64 (by omega) | exact wrap_u8 (by omega) | exact wrap_u64 (by omega) | rfl) | exact g_sadd rfl rfl (by first | assumption | omega | (simp only [ByteArray.size_append, bstr_size, List.length_take, List.length_drop, List.length_cons, List.length_nil]; omega))) rfl ?_
                  refine AL.p (by first | exact mv1 rfl | exact mv2 rfl | exact mv3 rfl | exact mv4 rfl | exact mv5 rfl | exact mv6 rfl | exact mv7 rfl | exact mv8 rfl | exact mv9 rfl | exact mv10 rfl | exact mv11 rfl) rfl ?_
                  refine AL.nil ?_
                  refine th_n ?_
                  first | (exfalso; have w := ‹i = true›; have w2 := ‹i = false›; rw [w] at w2; cases w2; done) | (have w := hS.one ‹i = true› ‹bb = false› ‹fi < 0›; exact ⟨(k + 1, acc ++ [⟨nm, 1⟩]), ⟨hk1, w⟩, by dsimp only; omega, Weak.ren _ [(100, _)] hC rfl (by dsimp only; repeat (first | exact True.intro | refine And.intro ?_ ?_ | exact DLead.same | exact DLead.eqI (by omega) | exact DLead.eqI (by dsimp only; omega) | exact DLead.nil | exact rfl | refine ⟨_, _, rfl, rfl, ?_⟩ | refine ⟨_, rfl, ?_⟩ | refine ⟨_, _, rfl, ?_, ?_⟩)) (by dsimp only; repeat (first | exact True.intro | refine And.intro ?_ ?_ | exact DLead.same | exact DLead.eqI (by omega) | exact DLead.eqI (by dsimp only; omega) | exact DLead.nil | exact rfl | refine ⟨_, _, rfl, rfl, ?_⟩ | refine ⟨_, rfl, ?_⟩ | refine ⟨_, _, rfl, ?_, ?_⟩)) rfl rfl rfl⟩) | (have w := hS.two ‹i = false› ‹fi < 0›; exact ⟨(k + 1, acc ++ [⟨nm, 2⟩]), ⟨hk1, w⟩, by dsimp only; omega, Weak.ren _ [(100, _)] hC rfl (by dsimp only; repeat (first | exact True.intro | refine And.intro ?_ ?_ | exact DLead.same | exact DLead.eqI (by omega) | exact DLead.eqI (by dsimp only; omega) | exact DLead.nil | exact rfl | refine ⟨_, _, rfl, rfl, ?_⟩ | refine ⟨_, rfl, ?_⟩ | refine ⟨_, _, rfl, ?_, ?_⟩)) (by dsimp only; repeat (first | exact True.intro | refine And.intro ?_ ?_ | exact DLead.same | exact DLead.eqI (by omega) | exact DLead.eqI (by dsimp only; omega) | exact DLead.nil | exact rfl | refine ⟨_, _, rfl, rfl, ?_⟩ | refine ⟨_, rfl, ?_⟩ | refine ⟨_, _, rfl, ?_, ?_⟩)) rfl rfl rfl⟩) | (have w0 := ‹i = false›; have w := hS.same (by rw [w0]; rfl) ‹¬ fi < 0›; exact ⟨(k + 1, acc), ⟨hk1, w⟩, by dsimp only; omega, Weak.ren _ [(100, _)] hC rfl (by dsimp only; repeat (first | exact True.intro | refine And.intro ?_ ?_ | exact DLead.same | exact DLead.eqI (by omega) | exact DLead.eqI (by dsimp only; omega) | exact DLead.nil | exact rfl | refine ⟨_, _, rfl, rfl, ?_⟩ | refine ⟨_, rfl, ?_⟩ | refine ⟨_, _, rfl, ?_, ?_⟩)) (by dsimp only; repeat (first | exact True.intro | refine And.intro ?_ ?_ | exact DLead.same | exact DLead.eqI (by omega) | exact DLead.eqI (by dsimp only; omega) | exact DLead.nil | exact rfl | refine ⟨_, _, rfl, rfl, ?_⟩ | refine ⟨_, rfl, ?_⟩ | refine ⟨_, _, rfl, ?_, ?_⟩)) rfl rfl rfl⟩) | (have w0 := ‹bb = false›; have w := hS.same (by rw [w0, Bool.and_false]) ‹¬ fi < 0›; exact ⟨(k + 1, acc), ⟨hk1, w⟩, by dsimp only; omega, Weak.ren _ [(100, _)] hC rfl (by dsimp only; repeat (first | exact True.intro | refine And.intro ?_ ?_ | exact DLead.same | exact DLead.eqI (by omega) | exact DLead.eqI (by dsimp only; omega) | exact DLead.nil | exact rfl | refine ⟨_, _, rfl, rfl, ?_⟩ | refine ⟨_, rfl, ?_⟩ | refine ⟨_, _, rfl, ?_, ?_⟩)) (by dsimp only; repeat (first | exact True.intro | refine And.intro ?_ ?_ | exact DLead.same | exact DLead.eqI (by omega) | exact DLead.eqI (by dsimp only; omega) | exact DLead.nil | exact rfl | refine ⟨_, _, rfl, rfl, ?_⟩ | refine ⟨_, rfl, ?_⟩ | refine ⟨_, _, rfl, ?_, ?_⟩)) rfl rfl rfl⟩)
                · refine AC.skip ?_
                  refine ib_n ?_
                  refine th_n ?_
                  refine AC.region ?_
                  refine AL.p (by first | exact g_arith rfl rfl rfl (by first | exact wrap_i64 (by omega) | exact wrap_u8 (by omega) | exact wrap_u64 (by omega) | rfl) | exact g_sadd rfl rfl (by first | assumption | omega | (simp only [ByteArray.size_append, bstr_size, List.length_take, List.length_drop, List.length_cons, List.length_nil]; omega))) rfl ?_
                  refine AL.p (by first | exact mv1 rfl | exact mv2 rfl | exact mv3 rfl | exact mv4 rfl | exact mv5 rfl | exact mv6 rfl | exact mv7 rfl | exact mv8 rfl | exact mv9 rfl | exact mv10 rfl | exact mv11 rfl) rfl ?_
                  refine AL.nil ?_
                  refine th_n ?_
                  first | (exfalso; have w := ‹i = true›; have w2 := ‹i = false›; rw [w] at w2; cases w2; done) | (have w := hS.one ‹i = true› ‹bb = false› ‹fi < 0›; exact ⟨(k + 1, acc ++ [⟨nm, 1⟩]), ⟨hk1, w⟩, by dsimp only; omega, Weak.ren _ [(100, _)] hC rfl (by dsimp only; repeat (first | exact True.intro | refine And.intro ?_ ?_ | exact DLead.same | exact DLead.eqI (by omega) | exact DLead.eqI (by dsimp only; omega) | exact DLead.nil | exact rfl | refine ⟨_, _, rfl, rfl, ?_⟩ | refine ⟨_, rfl, ?_⟩ | refine ⟨_, _, rfl, ?_, ?_⟩)) (by dsimp only; repeat (first | exact True.intro | refine And.intro ?_ ?_ | exact DLead.same | exact DLead.eqI (by omega) | exact DLead.eqI (by dsimp only; omega) | exact DLead.nil | exact rfl | refine ⟨_, _, rfl, rfl, ?_⟩ | refine ⟨_, rfl, ?_⟩ | refine ⟨_, _, rfl, ?_, ?_⟩)) rfl rfl rfl⟩) | (have w := hS.two ‹i = false› ‹fi < 0›; exact ⟨(k + 1, acc ++ [⟨nm, 2⟩]), ⟨hk1, w⟩, by dsimp only; omega, Weak.ren _ [(100, _)] hC rfl (by dsimp only; repeat (first | exact True.intro | refine And.intro ?_ ?_ | exact DLead.same | exact DLead.eqI (by omega) | exact DLead.eqI (by dsimp only; omega) | exact DLead.nil | exact rfl | refine ⟨_, _, rfl, rfl, ?_⟩ | refine ⟨_, rfl, ?_⟩ | refine ⟨_, _, rfl, ?_, ?_⟩)) (by dsimp only; repeat (first | exact True.intro | refine And.intro ?_ ?_ | exact DLead.same | exact DLead.eqI (by omega) | exact DLead.eqI (by dsimp only; omega) | exact DLead.nil | exact rfl | refine ⟨_, _, rfl, rfl, ?_⟩ | refine ⟨_, rfl, ?_⟩ | refine ⟨_, _, rfl, ?_, ?_⟩)) rfl rfl rfl⟩) | (have w0 := ‹i = false›; have w := hS.same (by rw [w0]; rfl) ‹¬ fi < 0›; exact ⟨(k + 1, acc), ⟨hk1, w⟩, by dsimp only; omega, Weak.ren _ [(100, _)] hC rfl (by dsimp only; repeat (first | exact True.intro | refine And.intro ?_ ?_ | exact DLead.same | exact DLead.eqI (by omega) | exact DLead.eqI (by dsimp only; omega) | exact DLead.nil | exact rfl | refine ⟨_, _, rfl, rfl, ?_⟩ | refine ⟨_, rfl, ?_⟩ | refine ⟨_, _, rfl, ?_, ?_⟩)) (by dsimp only; repeat (first | exact True.intro | refine And.intro ?_ ?_ | exact DLead.same | exact DLead.eqI (by omega) | exact DLead.eqI (by dsimp only; omega) | exact DLead.nil | exact rfl | refine ⟨_, _, rfl, rfl, ?_⟩ | refine ⟨_, rfl, ?_⟩ | refine ⟨_, _, rfl, ?_, ?_⟩)) rfl rfl rfl⟩) | (have w0 := ‹bb = false›; have w := hS.same (by rw [w0, Bool.and_false]) ‹¬ fi < 0›; exact ⟨(k + 1, acc), ⟨hk1, w⟩, by dsimp only; omega, Weak.ren _ [(100, _)] hC rfl (by dsimp only; repeat (first | exact True.intro | refine And.intro ?_ ?_ | exact DLead.same | exact DLead.eqI (by omega) | exact DLead.eqI (by dsimp only; omega) | exact DLead.nil | exact rfl | refine ⟨_, _, rfl, rfl, ?_⟩ | refine ⟨_, rfl, ?_⟩ | refine ⟨_, _, rfl, ?_, ?_⟩)) (by dsimp only; repeat (first | exact True.intro | refine And.intro ?_ ?_ | exact DLead.same | exact DLead.eqI (by omega) | exact DLead.eqI (by dsimp only; omega) | exact DLead.nil | exact rfl | refine ⟨_, _, rfl, rfl, ?_⟩ | refine ⟨_, rfl, ?_⟩ | refine ⟨_, _, rfl, ?_, ?_⟩)) rfl rfl rfl⟩)
        · refine AC.exit ?_
          refine th_e ?_
          refine th_e ?_
          refine ib_y ?_
          refine th_n ?_
          refine AC.seq ?_
          dsimp only at hk hacc
          obtain rfl : k = W.length := by omega
          rw [hWl, List.take_length] at hacc
          have hR2 : psR m X = psFin (some acc) := by rw [hR, hacc]
          refine AC.weak (Weak.freeze (i := 9) rfl rfl (gownl _) (gownt _)) ?_
          refine AC.region ?_
          refine AL.p (by first | exact mv1 rfl | exact mv2 rfl | exact mv3 rfl | exact mv4 rfl | exact mv5 rfl | exact mv6 rfl | exact mv7 rfl | exact mv8 rfl | exact mv9 rfl | exact mv10 rfl | exact mv11 rfl) rfl ?_
          refine AL.p (by first | exact mv1 rfl | exact mv2 rfl | exact mv3 rfl | exact mv4 rfl | exact mv5 rfl | exact mv6 rfl | exact mv7 rfl | exact mv8 rfl | exact mv9 rfl | exact mv10 rfl | exact mv11 rfl) rfl ?_
          refine AL.p (by exact g_len_view (k := acc.length) rfl rfl (sigsL_len _)) rfl ?_
          refine AL.p (by first | exact g_cmp rfl rfl rfl | exact g_scmp rfl rfl rfl | exact g_eqB rfl rfl rfl | exact g_neB rfl rfl rfl) rfl ?_
          refine AL.p (by first | exact as1 rfl | exact as2 rfl | exact as3 rfl | exact as4 rfl | exact as5 rfl | exact as6 rfl | exact as7 rfl | exact as8 rfl | exact as9 rfl | exact as10 rfl | exact as11 rfl) rfl ?_
          refine AL.p (by first | exact as1 rfl | exact as2 rfl | exact as3 rfl | exact as4 rfl | exact as5 rfl | exact as6 rfl | exact as7 rfl | exact as8 rfl | exact as9 rfl | exact as10 rfl | exact as11 rfl) rfl ?_
          refine AL.nil ?_
          refine th_n ?_
          refine AC.ret ?_
          refine bq_r ?_
          exact retX [] rfl (sgR_fin hR2) (by repeat (first | exact rfl | exact DLead.same | exact DLead.nil | refine ⟨_, _, rfl, ?_, ?_⟩ | refine ⟨_, rfl, ?_⟩)) (by repeat (first | exact True.intro | refine And.intro ?_ ?_ | exact DLead.same | exact DLead.eqI (by omega) | exact DLead.eqI (by dsimp only; omega) | exact DLead.nil | exact rfl | refine ⟨_, _, rfl, rfl, ?_⟩ | refine ⟨_, rfl, ?_⟩ | refine ⟨_, _, rfl, ?_, ?_⟩)) rfl rfl
theorem en_l25Signals : Enters Try.prog 13 := enters_of Try.func13 rfl rfl
end Go.Proofs.Ytkfpoagjlaldgaa

