/- Contracts of the functions of the program and of the reference, each proved by a walk through its code. -/
import Derived.WalkKit
import Derived.WalkSpells
import Derived.WalkLawsBesides
import Derived.Deep.Draws
import Derived.Lib.Hide
import Derived.Maps.AppendAt
import Derived.OwnWalk
import Derived.Deep.MidRow
import Derived.Laws.ResultCell
import Derived.Deep.Upon
import Derived.Great.FillDense
import Derived.Laws.Tables
import Derived.Laws.BytesArg
import Derived.Laws.MakeOwn
import Derived.Great.BuildSlice
import Derived.ArgAppend
import Derived.Deep.AppendSrc
import Derived.Test.YthafkkgmekgmoaaGreatProg
import Derived.KernelRfl
import Derived.Orders
import Derived.Laws.IdiomStrings
import Derived.Lib.AppendZerosOnto
import Derived.ProofKit
import Derived.OpenShut
import Derived.Lib.SliceRun
import Derived.Laws.StructEq
import Derived.ChangeKeysEq
import Derived.Sort.Grow
import Derived.Laws.RangeString
import Derived.Below
import Derived.Laws.Small
import Derived.MapKept
import Derived.WideMake
import Derived.Laws.IdiomCopy
import Derived.Shelf.Bits.Mul64
import Derived.Test.YthafkkgmekgmoaaGreatRows
import Derived.Test.YthafkkgmekgmoaaGreatGCd6
set_option linter.all false
set_option maxRecDepth 20000
namespace Go.Proofs.YthafkkgmekgmoaaGreat
open Go.RowKit
theorem bitsMul_one (n : Nat) (hn : n ≤ 1000000) : ASpec Tryz.prog 242 [.d (.val (.int .u64 ((1 : Nat) : Int))), .d (.val (.int .u64 (n : Int)))] [] (Pure1 (.tup [.d (.val (.int .u64 0)), .d (.val (.int .u64 (n : Int)))])) := by
 refine ASpec.ofLibT (show IntKind.u64.wrap 0 = 0 from rfl) (wrap_u64 (by omega)) fun w => ?_
 have := Tryz.bits_Mul 1 n (by decide) (by omega) w
 rw [show 1 * n / 18446744073709551616 = 0 by omega, show 1 * n % 18446744073709551616 = n by omega] at this
 exact this
theorem en_bitsMul : Enters Tryz.prog 242 := enters_of Tryz.func242 rfl rfl
theorem rep_zero (k : Nat) : List.replicate k (([ZK.int .i64] : List ZK).map fun z => DV.val z.val) = ints (List.replicate k 0) := by
 rw [ints, List.map_replicate]; rfl
def fillR (a : Int) (n k : Nat) : List Int := List.replicate k a ++ List.replicate (n - k) 0
theorem fillR_len {a : Int} {n k : Nat} (h : k ≤ n) : (fillR a n k).length = n := by simp [fillR]; omega
theorem fillR_copy {a : Int} {n i k q : Nat} (hi : i ≤ n) (hk : k ≤ n) (hq : i + q ≤ n) (hqk : q ≤ k) : (ints (fillR a n i)).take i ++ (((ints (fillR a n i)).take i).take q) ++ (ints (fillR a n i)).drop (i + q) = ints (fillR a n (i + q)) ∨ i < q := by
 rcases Nat.lt_or_ge i q with h | h
 ·exact .inr h
 ·left
  have e1 : (fillR a n i).take i = List.replicate i a := by unfold fillR; rw [List.take_append_of_le_length (by simp)]; simp
  have e2 : (fillR a n i).drop (i + q) = List.replicate (n - i - q) 0 := by
   unfold fillR
   rw [List.drop_append]
   simp
  unfold ints
  rw [← List.map_take, ← List.map_take, ← List.map_drop, e1, e2, List.take_replicate, Nat.min_eq_left h, ← List.map_append, ← List.map_append]
  congr 1
  unfold fillR
  rw [List.replicate_append_replicate, show n - (i + q) = n - i - q by omega]
set_option maxHeartbeats 4000000 in
theorem repeat_spec (a : Int) (n : Nat) (hn : n ≤ 100000) : ASpec Tryz.prog 194 [.d (vI [a]), aI n] [] (Fun1 (.own 0 n) [(0, .arr 3 1 (ints (List.replicate n a)))]) := by
 have hM := bitsMul_one n (by omega)
 have hfl : ∀ k, k ≤ n → (ints (fillR a n k)).length = n := fun k hk => by rw [ints_len, fillR_len hk]
 refine ASpec.of Tryz.func194 rfl rfl fun C hC => ?_
 refine AC.seq (AC.region ?_)
 refine za ?_
 refine AL.nil (th_n (AC.seq (AC.seq (AC.region ?_))))
 refine zm ?_
 refine zc ?_
 refine AL.nil (th_n ?_)
 refine AC.condD rfl (fun h0 => ?_) (fun h0 => ?_)
 ·exfalso; omega
 ·refine AC.skip (th_n (AC.seq (AC.region ?_)))
  refine zm ?_
  refine AL.p (by exact g_len_view (k := 1) rfl rfl rfl) rfl ?_
  refine AL.p (by exact g_convI (c := ((1 : Nat) : Int)) rfl rfl rfl (wrap_u64 (by omega))) rfl ?_
  refine zm ?_
  refine AL.p (by exact g_convI (c := (n : Int)) rfl rfl rfl (wrap_u64 (by omega))) rfl ?_
  refine AL.q (by exact h_pure en_bitsMul rfl rfl (by repeat (first | exact rfl | exact DLead.same | refine ⟨_, _, rfl, ?_, ?_⟩)) hM rfl) rfl ?_
  refine AL.p (by exact mv5 rfl) rfl ?_
  refine AL.p (by exact g_extract (r := .d _) rfl rfl) rfl ?_
  refine AL.p (by exact g_extract (r := .d _) rfl rfl) rfl ?_
  refine za ?_
  refine za ?_
  refine AL.nil (th_n (AC.seq (AC.seq (AC.region ?_))))
  refine zm ?_
  refine zc ?_
  refine zm ?_
  refine AL.caseG rfl rfl (fun h1 => ?_) (fun h1 => ?_)
  ·refine zn ?_
   refine zn ?_
   refine zQ ?_
   refine AL.nil (th_n ?_)
   refine AC.condT rfl ?_
   exfalso; omega
  ·refine zy ?_
   refine zm ?_
   refine zy ?_
   refine zc ?_
   refine zP ?_
   refine AL.nil (th_n ?_)
   refine AC.condD rfl (fun h2 => ?_) (fun h2 => ?_)
   ·exfalso; omega
   ·refine AC.skip (th_n (AC.seq (AC.region ?_)))
    refine zm ?_
    refine AL.p (by exact g_convI (c := (n : Int)) rfl rfl rfl (wrap_i64 (by omega))) rfl ?_
    refine AL.q (by exact h_make (k := n) rfl rfl rfl rfl rfl rfl rfl rfl (by show 8 * n ≤ _; omega) (by omega)) rfl ?_
    rw [show (List.replicate n (([ZK.int .i64] : List ZK).map fun z => DV.val z.val)) = ints (fillR a n 0) from (rep_zero n).trans (by simp [fillR])]
    refine AL.p (by exact as2 rfl) rfl ?_
    refine AL.nil (th_n (AC.seq (AC.region ?_)))
    refine AL.p (by exact mv2 rfl) rfl ?_
    refine zm ?_
    refine AL.q (by exact h_copy (e' := 3) (i := 0) (k := n) (q := min 1 n) (new := ints [a]) rfl rfl rfl (.own rfl rfl) rfl (.view rfl) (by rw [hfl 0 (by omega)]; omega) (by simp only [maxLen]; omega) rfl) rfl ?_
    refine za ?_
    refine AL.nil (th_n (AC.seq (AC.block ?_)))
    refine AC.loop (ι := Nat) (fun k => ⟨48, 300, [(7, .own 100 n), (8, aI k)], [(100, some (.arr 3 1 (ints (fillR a n k))))]⟩) (fun k => k ≤ n ∧ (0 < n → 0 < k)) (fun k => n - k) ((min 1 n)) ?_ ((by omega)) ?_
    ·have e : (ints (fillR a n 0)).take 0 ++ (ints [a]).take (min 1 n) ++ (ints (fillR a n 0)).drop (0 + min 1 n) = ints (fillR a n (min 1 n)) := by rcases Nat.eq_zero_or_pos n with h | h; (subst h; rfl); (rw [Nat.min_eq_left h]; unfold ints; rw [← List.map_take, ← List.map_take, ← List.map_drop, ← List.map_append, ← List.map_append]; congr 1; simp [fillR])
     exact Weak.ren _ [(100, _)] hC rfl (by repeat (first | exact True.intro | refine And.intro ?_ ?_ | exact DLead.same | exact rfl | refine ⟨_, rfl, ?_⟩)) ⟨⟨_, _, rfl, rfl, (congrArg (Chunk.arr 3 1) e : _)⟩, trivial⟩ rfl rfl rfl
    ·intro k ⟨hk, hk0⟩
     refine AC.seq (AC.seq (AC.region ?_))
     refine zm ?_
     refine AL.p (by exact mv2 rfl) rfl ?_
     refine AL.p (by exact g_len_own (sz := 1) (els := []) (e' := 0) rfl rfl (by simp only [maxLen]; omega)) rfl ?_
     refine zc ?_
     refine AL.nil (th_n ?_)
     refine AC.condD rfl (fun h3 => ?_) (fun h3 => ?_)
     ·refine AC.skip (th_n (AC.block ?_))
      refine AC.drawn' mixed_ok [[], [], [], [1,2], [], [], [4,5], [1,2,3,4,5,6], [0,1,2,3,4,5,6,7], [0,1,2,3,4,5,6,7,8]] (by decide) ?_
      refine DF.op 0 [] 10 rfl rfl rfl (.free rfl (NOp.of (by exact mv1 rfl))) rfl ?_
      refine DF.op 1 [] 10 rfl rfl rfl (.free rfl (NOp.of (by exact mv2 rfl))) rfl ?_
      refine DF.op 2 [] 10 rfl rfl rfl (.free rfl (NOp.of (by exact mv1 rfl))) rfl ?_
      refine DF.op 3 [1,2] 10 rfl rfl rfl (.free rfl (NOp.of (by exact g_slice_part (e' := 3) (k := n) (l := k) (h := n) (o := k) (q := n - k) (els := ints (fillR a n k)) rfl rfl rfl rfl rfl (.some rfl rfl) .none hk (by rw [hfl k hk]; exact Nat.le_refl _) (Nat.mul_one _) rfl))) rfl ?_
      refine DF.op 4 [] 10 rfl rfl rfl (.free rfl (NOp.of (by exact mv2 rfl))) rfl ?_
      refine DF.op 5 [] 10 rfl rfl rfl (.free rfl (NOp.of (by exact mv1 rfl))) rfl ?_
      refine DF.op 6 [4,5] 10 rfl rfl rfl (.free rfl (NOp.of (by exact g_slice_own (els := ints (fillR a n k)) (e' := 3) (sz := 1) rfl rfl rfl rfl (.some rfl rfl) (by rw [hfl k hk]; exact hk)))) rfl ?_
      refine DF.op 7 [1,2,3,4,5,6] 10 rfl rfl rfl (.free rfl (by exact h_copy (e' := 3) (i := k) (k := n - k) (q := min k (n - k)) (new := (ints (fillR a n k)).take k) (els := ints (fillR a n k)) rfl rfl rfl (.part rfl (Nat.mul_one _).symm) rfl (.own rfl rfl (by rw [hfl k hk]; exact hk) rfl) (by rw [hfl k hk]; omega) (by simp only [maxLen]; omega) (by rw [List.length_take, hfl k hk, Nat.min_eq_left hk]))) rfl ?_
      refine DF.op 8 [0,1,2,3,4,5,6,7] 10 rfl rfl rfl (.free rfl (NOp.of (by exact g_arith rfl rfl rfl (by exact wrap_i64 (by omega))))) rfl ?_
      refine DF.op 9 (List.range 9) 10 rfl rfl rfl (.free rfl (NOp.of (by exact as1 rfl))) rfl ?_
      refine DF.fin (ps := [(0,1),(0,2),(0,3),(0,4),(0,5),(0,6),(0,7),(1,0),(1,2),(1,4),(1,5),(1,6),(2,0),(2,1),(2,4),(2,5),(2,6),(3,0),(3,4),(3,5),(3,6),(4,0),(4,1),(4,2),(4,3),(4,5),(5,0),(5,1),(5,2),(5,3),(5,4),(6,0),(6,1),(6,2),(6,3),(7,0)]) 10 rfl (by decide +kernel) (by decide +kernel) (by rfl) ?_
      refine ib_n (th_n ?_)
      have hq : min k (n - k) ≤ k := Nat.min_le_left ..
      have hq2 : min k (n - k) ≤ n - k := Nat.min_le_right ..
      have hq3 : 0 < min k (n - k) := by omega
      have e := (fillR_copy (a := a) (n := n) (i := k) (k := k) (q := min k (n - k)) hk hk (by omega) hq).resolve_right (by omega)
      exact ⟨k + min k (n - k), ⟨by omega, fun _ => by omega⟩, by omega, Weak.ren _ [(100, 100)] hC rfl (by repeat (first | exact True.intro | refine And.intro ?_ ?_ | exact DLead.same | exact rfl | refine ⟨_, rfl, ?_⟩)) ⟨⟨_, _, rfl, rfl, (congrArg (Chunk.arr 3 1) e : _)⟩, trivial⟩ rfl rfl rfl⟩
     ·refine AC.exit (th_e (th_e (ib_y (th_n (AC.seq ?_)))))
      have hkn : k = n := by omega
      subst hkn
      refine AC.region ?_
      refine AL.p (by exact mv2 rfl) rfl ?_
      refine AL.p (by exact as2 rfl) rfl ?_
      refine AL.nil (th_n (AC.ret (bq_r ?_)))
      have e : fillR a k k = List.replicate k a := by simp [fillR]
      exact retN [(0, 100)] rfl (by repeat (first | exact rfl | refine ⟨_, rfl, ?_⟩)) (by rw [← e]; repeat (first | exact True.intro | refine And.intro ?_ ?_ | exact rfl | refine ⟨_, _, rfl, rfl, ?_⟩)) rfl rfl
theorem en_Repeat : Enters Tryz.prog 194 := enters_of Tryz.func194 rfl rfl
def rowsV (sz n : Nat) (V : List Value) : List (List DV) := (List.range n).map fun i => (List.range sz).map fun j => DV.val ((V[i * sz + j]?).getD undef)
theorem rowsV_len (sz n : Nat) (V : List Value) : (rowsV sz n V).length = n := by simp [rowsV]
theorem rowsV_get {sz n : Nat} {V : List Value} {i : Nat} (h : i < n) : (rowsV sz n V)[i]? = some ((List.range sz).map fun j => DV.val ((V[i * sz + j]?).getD undef)) := by simp [rowsV, h]
theorem rowsV_row {sz n : Nat} {V : List Value} {i : Nat} {cs : List DV} (h : (rowsV sz n V)[i]? = some cs) : i < n ∧ cs.length = sz ∧ ∀ (j : Nat) d, cs[j]? = some d → j < sz ∧ d = .val ((V[i * sz + j]?).getD undef) := by
 have hi := (List.getElem?_eq_some_iff.1 h).1
 rw [rowsV_len] at hi
 rw [rowsV_get hi] at h
 simp only [Option.some.injEq] at h
 subst h
 refine ⟨hi, by simp, fun j d hd => ?_⟩
 rw [List.getElem?_map, Option.map_eq_some_iff] at hd
 obtain ⟨q, hq, rfl⟩ := hd
 have := (List.getElem?_eq_some_iff.1 hq).1
 have h2 : q = j := by
  have := (List.getElem?_eq_some_iff.1 hq).2
  simpa using this.symm
 subst h2
 exact ⟨by simpa using this, rfl⟩
theorem row_lt {i j n sz : Nat} (hi : i < n) (hj : j < sz) : i * sz + j < n * sz := by
 have h := Nat.mul_le_mul_right sz hi
 rw [Nat.succ_mul] at h
 omega
theorem flat_len : ∀ {els : List (List DV)} {sz : Nat}, (∀ cs, cs ∈ els → cs.length = sz) → els.flatten.length = els.length * sz
 | [], sz, _ => by simp
 | c :: els, sz, h => by
  rw [List.flatten_cons, List.length_append, flat_len (els := els) (fun cs hc => h cs (List.mem_cons_of_mem _ hc)), h c (by simp), List.length_cons, Nat.succ_mul]; omega
theorem flat_get : ∀ {els : List (List DV)} {sz : Nat} (_ : ∀ cs, cs ∈ els → cs.length = sz) {i j : Nat} {cs : List DV} {d : DV}, els[i]? = some cs → cs[j]? = some d → els.flatten[i * sz + j]? = some d
 | [], sz, _, i, j, cs, d, hi, _ => by simp at hi
 | c :: els, sz, h, i, j, cs, d, hi, hj => by
  have hc := h c (by simp)
  have hlt := (List.getElem?_eq_some_iff.1 hj).1
  cases i with
  | zero =>
   simp at hi; subst hi
   rw [List.flatten_cons, Nat.zero_mul, Nat.zero_add, List.getElem?_append_left hlt]; exact hj
  | succ i =>
   rw [List.getElem?_cons_succ] at hi
   rw [List.flatten_cons, List.getElem?_append_right (by rw [hc, Nat.succ_mul]; omega), hc, show (i + 1) * sz + j - sz = i * sz + j by rw [Nat.succ_mul]; omega]
   exact flat_get (fun cs hc => h cs (List.mem_cons_of_mem _ hc)) hi hj
theorem rowsV_flat {els : List (List DV)} {sz : Nat} (h : ∀ cs, cs ∈ els → cs.length = sz) (hz : 0 < sz) {c : Nat} (hc : c < els.flatten.length) : ∃ i j cs d, els[i]? = some cs ∧ cs[j]? = some d ∧ c = i * sz + j ∧ els.flatten[c]? = some d := by
 rw [flat_len h] at hc
 have h1 : c / sz < els.length := Nat.div_lt_of_lt_mul (by rw [Nat.mul_comm]; exact hc)
 have h2 : c % sz < sz := Nat.mod_lt _ hz
 have e1 := List.getElem?_eq_getElem h1
 have h3 := h _ (List.mem_of_getElem? e1)
 have e2 : c = c / sz * sz + c % sz := (Nat.div_add_mod' c sz).symm
 have e3 := List.getElem?_eq_getElem (show c % sz < (els[c / sz]).length by omega)
 refine ⟨_, _, _, _, e1, e3, e2, ?_⟩
 have := flat_get h e1 e3
 rwa [← e2] at this
theorem TRep.parts {w : World} {S : Nat → Prop} {e sz : Nat} {els : List (List DV)} {v : Value} (h : TRep w S (.view e sz els) v) (hz : 0 < sz) : ∃ (p : Option Nat × Nat) (V : List Value) (S' : Nat → Prop),
  v = .slice (p.1.map fun b => ⟨b, 0, none⟩) els.length p.2 ∧ (p.1 = none → els.length = 0 ∧ p.2 = 0) ∧ V.length = els.length * sz ∧ (∀ cs, cs ∈ els → cs.length = sz) ∧ TL w S' els.flatten V ∧ (∀ k, S k ↔ p.1 = some k ∨ S' k) ∧ (∀ k, p.1 = some k → ¬ S' k) ∧
  (∀ (c : Nat) x, els.flatten[c]? = some (.val x) → V[c]? = some x) ∧ ∀ m F, CRep m F w p (.arr e sz (rowsV sz els.length V)) := by
 cases h with
 | nil h => exact ⟨(none, 0), [], S, rfl, fun _ => ⟨rfl, rfl⟩, by simp, fun cs hc => by simp at hc, ⟨fun _ _ => False, rfl, fun i d v h => by simp at h, fun _ _ _ h => h.elim, fun k => ⟨fun h' => absurd h' (h k), fun ⟨_, h, _⟩ => by simp at h⟩⟩, fun k => by simp, fun k h => by simp at h, fun c x hc => by simp at hc, fun m F => .nil hz⟩
 | @view _ _ _ _ b cap vs fz Ts hb h1 h2 h3 h4 h5 h6 h7 h8 h9 h10 =>
  have hrow : ∀ cs, cs ∈ els → cs.length = sz := fun cs hc => by
   obtain ⟨i, hi⟩ := List.mem_iff_getElem?.1 hc
   exact h6 i cs hi
  have hfl := flat_len hrow
  have hcap := Nat.mul_le_mul_right sz h3
  have hV : ∀ c, c < els.length * sz → ((List.range (els.length * sz)).map fun c => vs.getD c undef)[c]? = some (vs.getD c undef) := fun c hc => by simp [hc]
  have hT : ∀ c d, els.flatten[c]? = some d → TRep w (Ts c) d (vs.getD c undef) := by
   intro c d hd
   obtain ⟨i, j, cs, d', e1, e2, rfl, e3⟩ := rowsV_flat hrow h5 (List.getElem?_eq_some_iff.1 hd).1
   rw [e3] at hd
   obtain rfl : d' = d := by simpa using hd
   exact h7 i cs j d' e1 e2
  refine ⟨(some b, cap), (List.range (els.length * sz)).map fun c => vs.getD c undef, fun k => ∃ c, c < els.length * sz ∧ Ts c k, rfl, fun h => by simp at h, by simp, hrow, ⟨Ts, by simp [hfl], fun c d v hd hv => ?_, h9, fun k => by rw [hfl]⟩, fun k => by rw [h10 k]; simp [eq_comm], fun k hk => ?_, fun c x hc => ?_, fun m F => .arr hb h1 h2 (by rw [rowsV_len]; exact h3) h4 h5 (fun i cs hi => (rowsV_row hi).2.1) (fun i cs j d hi hj => ?_)⟩
  ·have hlt := (List.getElem?_eq_some_iff.1 hd).1
   rw [hfl] at hlt
   rw [hV c hlt] at hv
   simp only [Option.some.injEq] at hv
   subst hv
   exact hT c d hd
  ·simp only [Option.some.injEq] at hk
   subst hk
   rintro ⟨c, _, hc⟩
   exact h8 c hc
  ·have hlt := (List.getElem?_eq_some_iff.1 hc).1
   rw [hfl] at hlt
   rw [hV c hlt]
   have := hT c _ hc
   generalize vs.getD c undef = u at this
   cases this; rfl
  ·obtain ⟨hi1, _, hrw⟩ := rowsV_row hi
   obtain ⟨hj1, rfl⟩ := hrw j d hj
   have hlt := row_lt hi1 hj1
   rw [hV _ hlt, Option.getD_some]
   refine .val ?_
   have hlt' : i * sz + j < els.flatten.length := by rw [hfl]; exact hlt
   have hE := List.getElem?_eq_getElem hlt'
   generalize els.flatten[i * sz + j] = dd at hE
   have := hT _ _ hE
   generalize vs.getD (i * sz + j) undef = u at this
   cases this <;> first | assumption | trivial
theorem TRep.whole {w : World} {m : Nat → Option (Option Nat × Nat)} {F S' : Nat → Prop} {e sz : Nat} {els : List (List DV)} {V : List Value} {p : Option Nat × Nat} (hp : p.1 = none → els.length = 0 ∧ p.2 = 0) (hrow : ∀ cs, cs ∈ els → cs.length = sz) (hL : TL w S' els.flatten V) (hS : ∀ k, p.1 = some k → ¬ S' k)
  (hC : CRep m F w p (.arr e sz (rowsV sz els.length V))) : TRep w (fun k => p.1 = some k ∨ S' k) (.view e sz els) (.slice (p.1.map fun b => ⟨b, 0, none⟩) els.length p.2) := by
 have hfl := flat_len hrow
 obtain ⟨Ts, g1, g2, g3, g4⟩ := hL
 generalize hE : rowsV sz els.length V = E at hC
 cases hC with
 | nil h =>
  have : els = [] := by
   have h2 := congrArg List.length hE
   rw [rowsV_len] at h2
   exact List.eq_nil_of_length_eq_zero h2
  subst this
  refine .nil fun k hk => ?_
  rcases hk with hk | hk
  ·simp at hk
  ·obtain ⟨i, hi, _⟩ := (g4 k).1 hk
   simp at hi
 | @arr b cap _ _ _ vs fz hb hf hsz hl hm h0' hrw hel =>
  subst hE
  rw [rowsV_len] at hl
  refine .view (fun c k => c < els.length * sz ∧ Ts c k) hb hf hsz hl hm h0' (fun i cs hi => hrow cs (List.mem_of_getElem? hi)) (fun i cs j d hi hj => ?_) (fun c hc => hS b rfl ((g4 b).2 ⟨c, by rw [hfl]; exact hc.1, hc.2⟩)) (fun c c' k h1 h2 => g3 c c' k h1.2 h2.2) (fun k => ?_)
  ·have hi1 := (List.getElem?_eq_some_iff.1 hi).1
   have hj1 := (List.getElem?_eq_some_iff.1 hj).1
   rw [hrow cs (List.mem_of_getElem? hi)] at hj1
   have hlt := row_lt hi1 hj1
   have hx := hel i _ j (DV.val ((V[i * sz + j]?).getD undef)) (rowsV_get hi1) (by simp [hj1])
   have hfg := flat_get hrow hi hj
   have hv := List.getElem?_eq_getElem (show i * sz + j < V.length by omega)
   have := g2 _ _ _ hfg hv
   rw [hv, Option.getD_some] at hx
   generalize vs.getD (i * sz + j) undef = u at hx
   cases hx
   exact this.congr fun k => by simp [hlt]
  ·rw [g4 k, hfl]
   constructor
   ·rintro (h | ⟨c, hc, hk⟩)
    ·simp only [Option.some.injEq] at h; exact .inl h.symm
    ·exact .inr ⟨c, hc, hc, hk⟩
   ·rintro (rfl | ⟨c, hc, _, hk⟩)
    ·exact .inl rfl
    ·exact .inr ⟨c, hc, hk⟩
section
variable {P : Program} [PT P] {C : Ctx} {Q : Exit → ASt → Prop} {s : ASt} {ops : Array Oper} {U U' : Nat → Prop} {a : Act} {w : World} {m : Nat → Option (Option Nat × Nat)}
theorem occ_lock {id : Nat} {q : Option Nat × Nat} {k : Nat} (h : occ (none, 0) (.lock id q) k) : False := by
 rcases h with h | h
 ·cases h
 ·exact h
end
section
variable {P : Program} [PT P] {C : Ctx} {Q : Exit → ASt → Prop} {s : ASt} {ops : Array Oper} {U U' : Nat → Prop} {a : Act} {w : World} {m : Nat → Option (Option Nat × Nat)}
theorem Weak.emptyT : Weak C s { n := s.n, nx := s.nx + 8, sl := s.sl, ch := (s.nx, some (.pred (fun _ => False) fun w => TL w (fun _ => False) [] [])) :: s.ch } := by
 refine ⟨?_⟩
 rintro a w ⟨m, hR⟩
 refine ⟨_, hR.repack (U' := fun i => s.nx + 8 ≤ i) [(s.nx, .pred (fun _ => False) fun w => TL w (fun _ => False) [] [])] (fun _ => (none, 0)) [] rfl (fun i c h => ?_) (fun i c h => .inl ?_) (fun i hi => ⟨by omega, ?_⟩) (fun i c b h hb => ?_) (fun i i' c c' b h h' _ _ => ?_) (fun F' _ i c h => ?_) (fun hle F' hF i => (hR.sl i).turn hle (fun k hk _ => ⟨hF k hk, rfl⟩))⟩
 ·change (getL i (_ :: _)).getD none = _ at h
  rw [getL_cons] at h
  rw [getL_cons]
  split at h
  ·rename_i ei; rw [if_pos ei]; exact .inl (by simpa using h)
  ·rename_i ei
   rw [if_neg ei]
   exact .inr ⟨rfl, by simp, h⟩
 ·obtain ⟨rfl, _⟩ := getL_one h; exact Nat.le_refl _
 ·rw [getL_cons, if_neg (by omega)]; rfl
 ·obtain ⟨rfl, rfl⟩ := getL_one h
  exact (occ_pred' hb).elim
 ·rw [(getL_one h).1, (getL_one h').1]
 ·obtain ⟨rfl, rfl⟩ := getL_one h
  exact .pred (TL.nil w) (fun w w' hk h => h.turn hk) (fun k hk => hk.elim)
theorem WeakR.splitT (id c : Nat) {L : List DV} {V : List Value} {d : DV} {v : Value} {S : Nat → Prop} {K : World → Prop} (hc : s.chunk id = some (.pred S K)) (hK : ∀ w, K w → TL w S L V) (hd : L[c]? = some d) (hv : V[c]? = some v) (hid : Nat.blt id s.nx = true) :
  WeakR C s fun t => ∃ S1 S2, (∀ k, S k ↔ S2 k ∨ S1 k) ∧ t = { n := s.n, nx := s.nx + 8, sl := s.sl, ch := (s.nx, some (.pred S1 fun w => TRep w S1 d v)) :: (id, some (.pred S2 fun w => TX w S2 c L V)) :: s.ch } := by
 refine ⟨?_⟩
 rintro a w ⟨m, hR⟩
 have hid : id < s.nx := by simpa using hid
 obtain ⟨q0, q1, c1, l1⟩ := hR.ch id _ hc
 obtain ⟨rfl, k1, cl1, lt1⟩ := c1.predAt
 obtain ⟨S1, S2, hT, hX, hdj, hS⟩ := (hK w k1).split hd hv
 have hnew : ∀ i c0, getL i [(s.nx, Chunk.pred S1 fun w => TRep w S1 d v), (id, .pred S2 fun w => TX w S2 c L V)] = some c0 → (i = s.nx ∧ c0 = .pred S1 fun w => TRep w S1 d v) ∨ (i = id ∧ c0 = .pred S2 fun w => TX w S2 c L V) := by
  intro i c0 h
  simp only [getL_cons] at h
  split at h
  ·rename_i ei; exact .inl ⟨ei, by simpa using h.symm⟩
  ·split at h
   ·rename_i ei; exact .inr ⟨ei, by simpa using h.symm⟩
   ·simp [getL] at h
 refine ⟨_, ⟨S1, S2, fun k => by rw [hS k, Or.comm], rfl⟩, _, hR.repack (U' := fun i => s.nx + 8 ≤ i) [(s.nx, .pred S1 fun w => TRep w S1 d v), (id, .pred S2 fun w => TX w S2 c L V)] (fun _ => (none, 0)) [id] rfl (fun i c h => ?_) (fun i c h => ?_) (fun i hi => ⟨by omega, ?_⟩) (fun i c b h hb => ?_) (fun i i' c c' b h h' hb hb' => ?_) (fun F' _ i c h => ?_) (fun hle F' hF i => (hR.sl i).turn hle (fun k hk _ => ⟨hF k hk, rfl⟩))⟩
 ·change (getL i (_ :: _ :: _)).getD none = _ at h
  simp only [getL_cons] at h
  simp only [getL_cons]
  split at h
  ·rename_i ei; rw [if_pos ei]; exact .inl (by simpa using h)
  ·rename_i ei
   rw [if_neg ei]
   split at h
   ·rename_i ei; rw [if_pos ei]; exact .inl (by simpa using h)
   ·rename_i ei
    rw [if_neg ei]
    exact .inr ⟨rfl, by simpa using ei, h⟩
 ·rcases hnew i c h with ⟨rfl, _⟩ | ⟨rfl, _⟩
  ·exact .inl (Nat.le_refl _)
  ·exact .inr q1
 ·simp only [getL_cons]
  rw [if_neg (by omega), if_neg (by omega)]; rfl
 ·rcases hnew i c h with ⟨rfl, rfl⟩ | ⟨rfl, rfl⟩
  ·exact ⟨id, _, _, by simp, hc, q1, .inr ((hS b).2 (.inl (occ_pred' hb)))⟩
  ·exact ⟨i, _, _, by simp, hc, q1, .inr ((hS b).2 (.inr (occ_pred' hb)))⟩
 ·rcases hnew i c h with ⟨rfl, rfl⟩ | ⟨rfl, rfl⟩ <;> rcases hnew i' c' h' with ⟨rfl, rfl⟩ | ⟨rfl, rfl⟩
  ·rfl
  ·exact absurd (occ_pred' hb') (hdj b (occ_pred' hb))
  ·exact absurd (occ_pred' hb) (hdj b (occ_pred' hb'))
  ·rfl
 ·rcases hnew i c h with ⟨rfl, rfl⟩ | ⟨rfl, rfl⟩
  ·exact .pred hT (fun w w' hk h => h.turn hk) hT.lt
  ·exact .pred hX (fun w w' hk h => h.turn hk) (fun k hk => lt1 k ((hS k).2 (.inr hk)))
theorem Weak.joinT (id i1 c : Nat) {L : List DV} {V : List Value} {d : DV} {v : Value} {S S1 S2 : Nat → Prop} {K1 : World → Prop} (h2 : s.chunk id = some (.pred S2 fun w => TX w S2 c L V)) (h1 : s.chunk i1 = some (.pred S1 K1)) (hK : ∀ w, K1 w → TRep w S1 d v) (hS : ∀ k, S k ↔ S2 k ∨ S1 k) (hc : c < L.length) (hv : V[c]? = some v) (hne : Nat.beq id i1 = false) :
  Weak C s { n := s.n, nx := s.nx, sl := s.sl, ch := (id, some (.pred S fun w => TL w S (L.set c d) V)) :: (i1, none) :: s.ch } := by
 obtain rfl : S = fun k => S2 k ∨ S1 k := funext fun k => propext (hS k)
 refine Weak.join id i1 _ h2 h1 hne (fun w hX k1 hd => ?_) (fun w w' hk h => h.turn hk)
 have := hX.join (hK w k1) hc hv (fun k g1 g2 => hd k g2 g1)
 have e : (fun k => S1 k ∨ S2 k) = fun k => S2 k ∨ S1 k := funext fun k => propext Or.comm
 rw [e] at this
 exact this
theorem WeakR.closeN (j id ia : Nat) {e sz n : Nat} {els : List (List DV)} {rows : List (List DV)} {V : List Value} {S' : Nat → Prop} {K : World → Prop} (hs : s.get j = .own ia n) (hn : n = els.length) (hc : s.chunk id = some (.pred S' K)) (hK : ∀ w, K w → TL w S' els.flatten V) (ha : s.chunk ia = some (.arr e sz rows)) (hr : rows = rowsV sz els.length V)
  (hrow : ∀ cs, cs ∈ els → cs.length = sz) (h12 : Nat.beq id ia = false) :
  WeakR C s fun t => ∃ v S, t = { n := s.n, nx := s.nx, sl := (j, .d (.val v)) :: s.sl, ch := (id, some (.pred S fun w => TRep w S (.view e sz els) v)) :: (ia, none) :: s.ch } := by
 subst hn; subst hr
 refine ⟨?_⟩
 rintro a w ⟨m, hR⟩
 obtain ⟨q0, q1, c1, l1⟩ := hR.ch id _ hc
 obtain ⟨rfl, k1, cl1, lt1⟩ := c1.predAt
 obtain ⟨pa, qa, ca, la⟩ := hR.ch ia _ ha
 have h12 : id ≠ ia := Nat.ne_of_beq_eq_false h12
 have hd : ∀ k, pa.1 = some k → ¬ S' k := fun k g1 g2 => h12 (hR.inj id ia _ _ _ _ hc ha q1 qa k (.inr g2) (.inl g1))
 have hsl := hR.sl j
 rw [hs] at hsl
 obtain ⟨hv, hp⟩ : a.tmps.getD j undef = .slice (pa.1.map fun b => ⟨b, 0, none⟩) els.length pa.2 ∧ (pa.1 = none → els.length = 0 ∧ pa.2 = 0) := by
  generalize a.tmps.getD j undef = u at hsl
  cases hsl with
  | own h1 h2 =>
   rw [qa] at h1
   simp only [Option.some.injEq] at h1
   subst h1
   exact ⟨rfl, h2⟩
 have hT : TRep w (fun k => pa.1 = some k ∨ S' k) (.view e sz els) (a.tmps.getD j undef) := by
  rw [hv]
  exact TRep.whole hp hrow (hK w k1) hd ca
 refine ⟨_, ⟨a.tmps.getD j undef, (fun k => pa.1 = some k ∨ S' k), rfl⟩, _, hR.repack (U' := fun i => s.nx ≤ i) [(id, .pred (fun k => pa.1 = some k ∨ S' k) fun w => TRep w (fun k => pa.1 = some k ∨ S' k) (.view e sz els) (a.tmps.getD j undef))] (fun _ => (none, 0)) [id, ia] rfl (fun i c h => ?_) (fun i c h => .inr ?_) (fun i hi => ⟨hi, ?_⟩) (fun i c b h hb => ?_) (fun i i' c c' b h h' _ _ => ?_) (fun F' _ i c h => ?_) (fun hle F' hF i => ?_)⟩
 ·change (getL i (_ :: _ :: _)).getD none = _ at h
  simp only [getL_cons] at h
  rw [getL_cons]
  split at h
  ·rename_i ei; rw [if_pos ei]; exact .inl (by simpa using h)
  ·rename_i e1
   rw [if_neg e1]
   split at h
   ·cases h
   ·rename_i e2
    exact .inr ⟨rfl, by simp [e1, e2], h⟩
 ·obtain ⟨rfl, _⟩ := getL_one h; exact q1
 ·rw [getL_cons]
  split
  ·rename_i ei; subst ei; have := hR.un i hi; rw [q1] at this; cases this
  ·rfl
 ·obtain ⟨rfl, rfl⟩ := getL_one h
  rcases occ_pred' hb with g | g
  ·exact ⟨ia, _, _, by simp, ha, qa, .inl g⟩
  ·exact ⟨i, _, _, by simp, hc, q1, .inr g⟩
 ·rw [(getL_one h).1, (getL_one h').1]
 ·obtain ⟨rfl, rfl⟩ := getL_one h
  exact .pred hT (fun w w' hk h => h.turn hk) hT.lt
 ·change ARep _ _ _ ((getL i (_ :: _)).getD .dead) _
  rw [getL_cons]
  by_cases hij : i = j
  ·subst hij
   rw [if_pos rfl]
   rw [hv]
   exact .d (.val trivial)
  ·rw [if_neg hij]; exact (hR.sl i).turn hle (fun k hk _ => ⟨hF k hk, rfl⟩)
end
theorem TL.congr {w : World} {S S' : Nat → Prop} {L : List DV} {V : List Value} (h : TL w S L V) (he : ∀ k, S k ↔ S' k) : TL w S' L V := by
 have : S = S' := funext fun k => propext (he k)
 subst this; exact h
section
variable {P : Program} [PT P] {C : Ctx} {Q : Exit → ASt → Prop} {s : ASt} {ops : Array Oper}
theorem WeakR.okI (i : Nat) {k : IntKind} {x : Int} (hs : s.get i = .d (.val (.int k x))) : WeakR C s fun t => okV (.int k x) ∧ t = s := by
 refine ⟨fun a w hR => ?_⟩
 obtain ⟨m, hm⟩ := hR
 have := hm.sl i
 rw [hs] at this
 refine ⟨s, ⟨?_, rfl⟩, m, hm⟩
 generalize a.tmps.getD i undef = u at this
 cases this with | d h => cases h with | val h => exact h
theorem retX (ρ : List (Nat × Nat)) {fn : Func} {k : Nat} {R : AV → List (Nat × Chunk) → Prop} {x r : AV} {chs' : List (Nat × Chunk)} (hx : resAV P s fn.results.toList = some x) (hR : R r chs') (h : r.leads (sig k ρ) x) (hc : leadsC (sig k ρ) s (chL chs')) (ha : apartL (sig k ρ) (keysC (chL chs')) = true) (hρ : ρ.all (fun p => Nat.blt p.1 (k + 8)) = true) : RetQ P fn k R s := by
 obtain ⟨x', r', c', ρ', h1, ⟨rfl, rfl⟩, h3, h4, h5, h6⟩ := (retN ρ hx h hc ha hρ : RetQ P fn k (Fun1 r chs') s).out
 exact ⟨⟨x', _, _, ρ', h1, hR, h3, h4, h5, h6⟩⟩
theorem h_funR {dst : Option Nat} {ty : Nat} {pos : String} {af : Array Edge} {g : FuncId} {caps ys ars : List AV} {fx : Operand} {xs : Array Operand} {ats : Array TypeId} {chs : List (Nat × Chunk)} {R : AV → List (Nat × Chunk) → Prop} {cs : List Nat} {f : Nat} {gd : Option (Nat × Bool)} (hen : Enters P g) (hf : s.ev fx = .clo g caps) (hys : xs.toList.map s.ev ++ caps = ys)
  (hlead : AV.leadsL (sigC cs) ars ys) (hch : leadsC (sigC cs) s (chL chs)) (hspec : ASpec P g ars chs R) (hkeys : chs.map (·.1) = List.range cs.length) (hlen : chs.length = cs.length) (hnd : nodupB cs = true) :
  NOpR P cs s ⟨dst, .call { callee := .value fx, args := xs, argTypes := ats }, ty, pos, af, gd⟩ f (fun u => ∃ r chs', R r chs' ∧ u = callU cs f r chs') :=
 h_callR (cs := cs) hen hf hys hspec hlead hlen (fun id c h => by
  obtain ⟨⟨j, d, h1, h2, h3⟩, _⟩ := leadsC_get hch id c (by rw [getL_chL]; exact h)
  exact ⟨j, d, h1, h2, h3⟩) (fun id j h => by
  obtain ⟨c, hc⟩ := keys_range hkeys (i := id) (List.mem_range.2 (List.getElem?_eq_some_iff.1 h).1)
  obtain ⟨⟨j', d, h1, h2, _⟩, _⟩ := leadsC_get hch id c (by rw [getL_chL]; exact hc)
  have h1' : cs[id]? = some j' := h1
  rw [h] at h1'
  obtain rfl : j = j' := by simpa using h1'
  exact ⟨d, h2⟩) (fun i i' j => nodupB_inj hnd i i' j)
end
section
variable {P : Program} [PT P] {C : Ctx} {Q : Exit → ASt → Prop} {s : ASt} {ops : Array Oper}
theorem WeakR.fact (id : Nat) {S : Nat → Prop} {K : World → Prop} {p : Prop} (hc : s.chunk id = some (.pred S K)) (hp : ∀ w, K w → p) : WeakR C s fun t => p ∧ t = s := by
 refine ⟨fun a w hR => ?_⟩
 obtain ⟨m, hm⟩ := hR
 obtain ⟨q0, q1, c1, l1⟩ := hm.ch id _ hc
 obtain ⟨rfl, k1, _, _⟩ := c1.predAt
 exact ⟨s, ⟨hp w k1, rfl⟩, m, hm⟩
theorem TX.gone {w : World} {S : Nat → Prop} {c : Nat} {L : List DV} {V : List Value} {v : Value} (h : TX w S c L V) (hc : c < L.length) (hv : V[c]? = some v) (hok : okV v) : TL w S (L.set c (.val v)) V := by
 have := h.join (S1 := fun _ => False) (.val (fun _ h => h) hok) hc hv (fun _ h => h.elim)
 exact this.congr fun k => by simp
end
section
variable {P : Program} [PT P] {C : Ctx} {Q : Exit → ASt → Prop} {s : ASt} {ops : Array Oper}
theorem Weak.thaw (j id : Nat) {x : DV} {v : Value} {S : Nat → Prop} {K : World → Prop} (hs : s.get j = .d (.val v)) (hc : s.chunk id = some (.pred S K)) (hK : ∀ w, K w → TRep w S x v) : Weak C s { s with sl := (j, .d x) :: s.sl, ch := (id, none) :: s.ch } := by
 refine ⟨?_⟩
 rintro a w ⟨m, hR⟩
 have hch : ∀ j c, (getL j ((id, none) :: s.ch)).getD none = some c → j ≠ id ∧ s.chunk j = some c := by
  intro j c h
  rw [getL_cons] at h
  split at h
  ·simp at h
  ·rename_i e; exact ⟨e, h⟩
 have hF : ∀ q, Fz C m s w q → Fz C m { s with sl := (j, .d x) :: s.sl, ch := (id, none) :: s.ch } w q := fun q hq => ⟨hq.1, hq.2.1, fun j c p h1 h2 => hq.2.2 j c p (hch j c h1).2 h2⟩
 refine ⟨m, hR.fr, hR.fin, hR.sz, fun i => ?_, fun i c h1 => ?_, fun j j' c c' p p' h1 h2 hp hp' b hb hb' => hR.inj j j' c c' p p' (hch j c h1).2 (hch j' c' h2).2 hp hp' b hb hb', hR.un, hR.defers, hR.m0, hR.m0k⟩
 ·show ARep _ _ _ ((getL i ((j, .d x) :: s.sl)).getD .dead) _
  rw [getL_cons]
  by_cases hj : i = j
  ·subst hj
   rw [if_pos rfl]
   have hv := hR.sl i
   rw [hs] at hv
   obtain ⟨q0, q1, c1, l1⟩ := hR.ch id _ hc
   obtain ⟨rfl, k1, cl1, lt1⟩ := c1.predAt
   have hD : DRep (Fz C m { s with sl := (i, .d x) :: s.sl, ch := (id, none) :: s.ch } w) w x v := by
    refine (hK w k1).data.mono fun k hk => ⟨.inr (l1 k (.inr hk)), lt1 k hk, fun j' c p h1 h2 h3 => ?_⟩
    obtain ⟨hne, h4⟩ := hch j' c h1
    exact hne (hR.inj j' id c _ p _ h4 hc h2 q1 k h3 (.inr hk))
   generalize a.tmps.getD i undef = u at hv
   cases hv with
   | d h => cases h; exact .d hD
  ·rw [if_neg hj]
   exact (hR.sl i).turn (MLe.refl m) (fun k hk _ => ⟨hF k hk, rfl⟩)
 ·obtain ⟨_, h2⟩ := hch i c h1
  obtain ⟨p, hp, hr, hl⟩ := hR.ch i c h2
  exact ⟨p, hp, hr.turn (MLe.refl m) (fun k hk _ => ⟨hF k hk, rfl⟩) (fun _ _ => rfl), hl⟩
theorem TL.nils (w : World) (e sz n : Nat) : TL w (fun _ => False) (List.replicate n (.view e sz [])) (List.replicate n (.slice none 0 0)) := by
 refine ⟨fun _ _ => False, by simp, fun i d v hd hv => ?_, fun _ _ _ h => h.elim, fun k => ⟨fun h => h.elim, fun ⟨_, _, h⟩ => h⟩⟩
 obtain rfl := (List.eq_of_mem_replicate (List.mem_of_getElem? hd))
 obtain rfl := (List.eq_of_mem_replicate (List.mem_of_getElem? hv))
 exact .nil fun _ h => h
theorem Weak.nilsT (e sz n : Nat) : Weak C s { n := s.n, nx := s.nx + 8, sl := s.sl, ch := (s.nx, some (.pred (fun _ => False) fun w => TL w (fun _ => False) (List.replicate n (.view e sz [])) (List.replicate n (.slice none 0 0)))) :: s.ch } := by
 have h1 : Weak C s _ := Weak.emptyT
 refine h1.trans ?_
 have h2 := Weak.cons (C := C) (s := { n := s.n, nx := s.nx + 8, sl := s.sl, ch := (s.nx, some (.pred (fun _ => False) fun w => TL w (fun _ => False) [] [])) :: s.ch }) s.nx (fun w => TL w (fun _ => False) (List.replicate n (.view e sz [])) (List.replicate n (.slice none 0 0))) (S := fun _ => False) (K := fun w => TL w (fun _ => False) [] []) (by simp [ASt.chunk, getL_cons]) (fun w _ => TL.nils w e sz n) (fun w w' hk h => h.turn hk)
 refine h2.trans ⟨fun a w ⟨m, hR⟩ => ⟨m, ?_⟩⟩
 have hg : ∀ i, getL i ((s.nx, some (Chunk.pred (fun _ => False) fun w => TL w (fun _ => False) (List.replicate n (.view e sz [])) (List.replicate n (.slice none 0 0)))) :: (s.nx, some (Chunk.pred (fun _ => False) fun w => TL w (fun _ => False) [] [])) :: s.ch) = getL i ((s.nx, some (Chunk.pred (fun _ => False) fun w => TL w (fun _ => False) (List.replicate n (.view e sz [])) (List.replicate n (.slice none 0 0)))) :: s.ch) := by
  intro i
  simp only [getL_cons]
  split <;> rfl
 exact hR.weaken rfl (fun i => .inr rfl) (fun i c h => by
  have h : (getL i ((s.nx, some (Chunk.pred (fun _ => False) fun w => TL w (fun _ => False) (List.replicate n (.view e sz [])) (List.replicate n (.slice none 0 0)))) :: s.ch)).getD none = some c := h
  rw [← hg i] at h
  exact h) fun _ h => h
theorem TX.setV {w : World} {S : Nat → Prop} {c : Nat} {L : List DV} {V : List Value} (h : TX w S c L V) (v : Value) : TX w S c L (V.set c v) := by
 obtain ⟨Ts, h1, h2, h3⟩ := h
 exact ⟨Ts, by simpa using h1, fun i d u hi hd hv => h2 i d u hi hd (by rwa [List.getElem?_set_ne (fun e => hi e.symm)] at hv), h3⟩
end
section
variable {P : Program} [PT P] {C : Ctx} {Q : Exit → ASt → Prop} {s : ASt}
theorem WeakR.openC (id : Nat) {e sz : Nat} {els : List (List DV)} {v : Value} {S : Nat → Prop} {K : World → Prop} (hc : s.chunk id = some (.pred S K)) (hK : ∀ w, K w → TRep w S (.view e sz els) v) (h0 : Nat.ble 1 sz = true) (hid : Nat.blt id s.nx = true) :
  WeakR C s fun t => ∃ p V S', (v = .slice (p.1.map fun b => ⟨b, 0, none⟩) els.length p.2 ∧ (p.1 = none → els.length = 0 ∧ p.2 = 0) ∧ V.length = els.length * sz ∧ (∀ cs, cs ∈ els → cs.length = sz) ∧ (∀ k, S k ↔ p.1 = some k ∨ S' k) ∧ (∀ (c : Nat) x, els.flatten[c]? = some (.val x) → V[c]? = some x)) ∧
   t = { n := s.n, nx := s.nx + 8, sl := s.sl, ch := (s.nx, some (.arr e sz (rowsV sz els.length V))) :: (s.nx + 1, some (.lock s.nx p)) :: (id, some (.pred S' fun w => TL w S' els.flatten V)) :: s.ch } := by
 refine ⟨?_⟩
 rintro a w ⟨m, hR⟩
 have hid : id < s.nx := by simpa using hid
 obtain ⟨q0, q1, c1, l1⟩ := hR.ch id _ hc
 obtain ⟨rfl, k1, cl1, lt1⟩ := c1.predAt
 obtain ⟨p, V, S', hv, hp, hV, hrow, hL, hS, hd, hx, hC⟩ := (hK w k1).parts (Nat.le_of_ble_eq_true h0)
 let new : List (Nat × Chunk) := [(s.nx, .arr e sz (rowsV sz els.length V)), (s.nx + 1, .lock s.nx p), (id, .pred S' fun w => TL w S' els.flatten V)]
 let pm : Nat → Option Nat × Nat := fun i => if i = s.nx then p else (none, 0)
 have hnew : ∀ i c, getL i new = some c → (i = s.nx ∧ c = .arr e sz (rowsV sz els.length V)) ∨ (i = s.nx + 1 ∧ c = .lock s.nx p) ∨ (i = id ∧ c = .pred S' fun w => TL w S' els.flatten V) := by
  intro i c h
  simp only [new, getL_cons] at h
  split at h
  ·rename_i ei; exact .inl ⟨ei, by simpa using h.symm⟩
  ·split at h
   ·rename_i ei; exact .inr (.inl ⟨ei, by simpa using h.symm⟩)
   ·split at h
    ·rename_i ei; exact .inr (.inr ⟨ei, by simpa using h.symm⟩)
    ·simp [getL] at h
 have hpm1 : pm s.nx = p := by simp [pm]
 have hpm2 : pm (s.nx + 1) = (none, 0) := by simp [pm]
 have hpm3 : pm id = (none, 0) := by simp [pm, Nat.ne_of_lt hid]
 refine ⟨_, ⟨p, V, S', ⟨hv, hp, hV, hrow, hS, hx⟩, rfl⟩, _, hR.repack (U' := fun i => s.nx + 8 ≤ i) new pm [id] rfl (fun i c h => ?_) (fun i c h => ?_) (fun i hi => ⟨by omega, ?_⟩) (fun i c b h hb => ?_) (fun i i' c c' b h h' hb hb' => ?_) (fun F' _ i c h => ?_) (fun hle F' hF i => ?_)⟩
 ·change (getL i (_ :: _ :: _ :: _)).getD none = _ at h
  simp only [getL_cons] at h
  simp only [new, getL_cons]
  split at h
  ·rename_i ei; rw [if_pos ei]; exact .inl (by simpa using h)
  ·rename_i ei
   rw [if_neg ei]
   split at h
   ·rename_i ei; rw [if_pos ei]; exact .inl (by simpa using h)
   ·rename_i ei
    rw [if_neg ei]
    split at h
    ·rename_i ei; rw [if_pos ei]; exact .inl (by simpa using h)
    ·rename_i ei
     rw [if_neg ei]
     exact .inr ⟨rfl, by simpa using ei, h⟩
 ·rcases hnew i c h with ⟨rfl, _⟩ | ⟨rfl, _⟩ | ⟨rfl, _⟩
  ·exact .inl (Nat.le_refl _)
  ·exact .inl (Nat.le_succ _)
  ·exact .inr (by rw [hpm3]; exact q1)
 ·simp only [new, getL_cons]
  rw [if_neg (by omega), if_neg (by omega), if_neg (by omega)]; rfl
 ·rcases hnew i c h with ⟨rfl, rfl⟩ | ⟨rfl, rfl⟩ | ⟨rfl, rfl⟩
  ·rw [hpm1] at hb
   exact ⟨id, _, _, by simp, hc, q1, .inr ((hS b).2 (.inl hb.one_arr))⟩
  ·rw [hpm2] at hb
   exact (occ_lock hb).elim
  ·rw [hpm3] at hb
   exact ⟨i, _, _, by simp, hc, q1, .inr ((hS b).2 (.inr (occ_pred' hb)))⟩
 ·rcases hnew i c h with ⟨rfl, rfl⟩ | ⟨rfl, rfl⟩ | ⟨rfl, rfl⟩ <;> rcases hnew i' c' h' with ⟨rfl, rfl⟩ | ⟨rfl, rfl⟩ | ⟨rfl, rfl⟩
  all_goals first | rfl | skip
  ·rw [hpm2] at hb'; exact (occ_lock hb').elim
  ·rw [hpm1] at hb; rw [hpm3] at hb'; exact absurd (occ_pred' hb') (hd b hb.one_arr)
  ·rw [hpm2] at hb; exact (occ_lock hb).elim
  ·rw [hpm2] at hb; exact (occ_lock hb).elim
  ·rw [hpm1] at hb'; rw [hpm3] at hb; exact absurd (occ_pred' hb) (hd b hb'.one_arr)
  ·rw [hpm2] at hb'; exact (occ_lock hb').elim
 ·rcases hnew i c h with ⟨rfl, rfl⟩ | ⟨rfl, rfl⟩ | ⟨rfl, rfl⟩
  ·rw [hpm1]; exact hC _ _
  ·rw [hpm2]
   refine .lock ?_
   rw [mNew_some (c := .arr e sz (rowsV sz els.length V)) (by simp [new, getL_cons]), hpm1]
  ·rw [hpm3]
   exact .pred hL (fun w w' hk h => h.turn hk) hL.lt
 ·exact (hR.sl i).turn hle (fun k hk _ => ⟨hF k hk, rfl⟩)
end
section
variable {P : Program} [PT P] {s : ASt} {dst : Option Nat} {ty : Nat} {pos : String} {af : Array Edge} {gd : Option (Nat × Bool)} {x y : Operand} {f t : Nat} {ts : TS}
theorem g_load_lock {id k e sz i j ia il n : Nat} {els : List (List DV)} {cs : List DV} {v : Value} {p : Option Nat × Nat} (ht : PT.ty P t = some ts) (hr : ts.kind.isRow = false) (h : s.ev x = .ptr id k) (hc : s.chunk id = some (.arr e sz els)) (hk : k = i * sz + j) (hi : els[i]? = some cs) (hj : cs[j]? = some (.val v))
  (hl : s.chunk il = some (.lock ia p)) (hv : v = .slice (p.1.map fun b => ⟨b, 0, none⟩) n p.2) (hp : p.1 = none → n = 0 ∧ p.2 = 0) : GOp P [id, il] s ⟨dst, .load t x, ty, pos, af, gd⟩ (.own ia n) := by
 have h0 := g_load_arr (P := P) (dst := dst) (ty := ty) (pos := pos) (af := af) (gd := gd) ht hr h hc hk hi hj
 refine ⟨fun s' ha C U a w m hR => ?_⟩
 obtain ⟨u, hrun, hu⟩ := h0.run s' ⟨ha.1, ha.2.1, fun id' hid => ha.2.2 id' (by rw [List.mem_singleton.1 hid]; simp)⟩ C U a w m hR
 refine ⟨u, hrun, ?_⟩
 have hl' : s'.chunk il = some (.lock ia p) := by rw [ha.2.2 il (by simp)]; exact hl
 obtain ⟨q, hq, hC, _⟩ := hR.ch il _ hl'
 obtain rfl : u = v := hu.val_eq.1
 rw [hv]
 cases hC with
 | lock hm => exact .own (m := m) (id := ia) (b := p.1) (cap := p.2) hm hp
theorem store_arr_core {id k e sz i j : Nat} {els : List (List DV)} {cs : List DV} {d : DV} {s' : ASt} {C : Ctx} {U U' : Nat → Prop} {a : Act} {w : World} {m : Nat → Option (Option Nat × Nat)} {K : Act → World → Prop} {Q : Exit → Act → World → Prop} (ht : PT.ty P t = some ts) (h1s : ts.size = 1) (hR : RelM C U s' a w m)
  (hxr : ARep m (Fz C m s' w) w (.ptr id k) (a.eval x)) (hc' : s'.chunk id = some (.arr e sz els)) (hyd : DRep (Fz C m s' w) w d (a.eval y)) (hk : k = i * sz + j) (hi : els[i]? = some cs) (hj : j < sz) (hU' : ∀ j, U' j → U j)
  (hK : ∀ a' w' m', RelM C U' (s'.app none ⟨.dead, [(id, some (.arr e sz (els.set i (cs.set j d))))]⟩) a' w' m' → K a' w') : Oper.wp P ⟨none, .store t x y, ty, pos, af, gd⟩ a w K Q := by
 have hd : dstOk none s'.n = true := rfl
 have hone := hyd.one
 have hcells : (a.eval y).cells = #[a.eval y] := by
  generalize a.eval y = v at hone
  cases v <;> first | rfl | cases hone
 generalize hxv : a.eval x = xv at hxr
 cases hxr with
 | ptr hp =>
  rename_i b cap
  have hC := hR.chunkAt hc' hp
  cases hC with
  | arr hb hf hs hl hm h0 hsz he =>
   rename_i arr fz
   have hlt := (List.getElem?_eq_some_iff.1 hi).1
   have hcs := hsz i cs hi
   have hin : i * sz + j < arr.size := by
    have : (i + 1) * sz ≤ cap * sz := Nat.mul_le_mul_right _ (by omega)
    rw [Nat.succ_mul] at this
    omega
   have hrun := run_storeAt (P := P) (o := k) ht hb hf (v := a.eval y) (by rw [hcells, h1s]; rfl) (by omega) (fun i hi => by rw [hcells] at hi ⊢; simp at hi; subst hi; exact hone)
   have hg : ∀ q, (setSeg arr k (a.eval y).cells.toList).getD q undef = if q = k then a.eval y else arr.getD q undef := by
    intro q
    rw [setSeg_get _ _ _ (by rw [hcells]; simp; omega) q, hcells]
    by_cases hq : q = k
    ·subst hq; simp
    ·rw [if_neg (by simp; omega), if_neg hq]
   have hR' := hR.turned (i := none) (r := .dead) (v := undef) (w' := w.setCells b k (a.eval y).cells.toList) (c' := .arr e sz (els.set i (cs.set j d))) hd hc' hp (fr_setCells _ w k) (fun F' hF => ⟨.dead, .arr (heap_setCells_at _ w _ k hb) (by rw [setSeg_size]; exact hf) (by rw [setSeg_size]; exact hs) (by simpa using hl) hm h0 (fun i' cs' hi' => ?_) (fun i' cs' j' d' hi' hj' => ?_)⟩)
   ·unfold Oper.wp
    simp only [execOp, Sem.run_bind, hxv, hrun, Result.andThen_ok, Sem.run_pure, Oper.upon]
    exact hK _ _ m (hR'.weaken rfl (fun _ => .inr rfl) (fun _ _ h => h) hU')
   ·by_cases hii : i = i'
    ·subst hii
     rw [List.getElem?_set_self hlt] at hi'
     simp only [Option.some.injEq] at hi'
     subst hi'; simpa using hcs
    ·rw [List.getElem?_set_ne hii] at hi'
     exact hsz i' cs' hi'
   ·rw [hg]
    by_cases hii : i = i'
    ·subst hii
     rw [List.getElem?_set_self hlt] at hi'
     simp only [Option.some.injEq] at hi'
     subst hi'
     by_cases hjj : j = j'
     ·subst hjj
      rw [if_pos hk.symm]
      rw [List.getElem?_set_self (by omega)] at hj'
      simp only [Option.some.injEq] at hj'
      subst hj'
      exact hyd.turn (fun k hk _ => hF k hk)
     ·rw [if_neg (by omega)]
      rw [List.getElem?_set_ne hjj] at hj'
      exact (he i cs j' d' hi hj').turn (fun k hk _ => hF k hk)
    ·have hj2 : j' < sz := by
      rw [List.getElem?_set_ne hii] at hi'
      have := hsz i' cs' hi'
      have := (List.getElem?_eq_some_iff.1 hj').1
      simpa [‹cs'.length = sz›] using this
     rw [List.getElem?_set_ne hii] at hi'
     rw [if_neg]
     ·exact (he i' cs' j' d' hi' hj').turn (fun k hk _ => hF k hk)
     ·rw [hk]
      intro heq
      rcases Nat.lt_or_gt_of_ne hii with h | h
      ·have : (i + 1) * sz ≤ i' * sz := Nat.mul_le_mul_right _ h
       rw [Nat.succ_mul] at this
       omega
      ·have : (i' + 1) * sz ≤ i * sz := Nat.mul_le_mul_right _ h
       rw [Nat.succ_mul] at this
       omega
theorem h_storeRaw {id k e sz i j ia n e2 z2 : Nat} {els els2 els2' : List (List DV)} {cs : List DV} (ht : PT.ty P t = some ts) (h1s : ts.size = 1) (hx : s.ev x = .ptr id k) (hc : s.chunk id = some (.arr e sz els)) (hy : s.ev y = .own ia n) (hca : s.chunk ia = some (.arr e2 z2 els2)) (hn : n ≤ els2.length) (he : els2.take n = els2') (hfl : ∀ cs, cs ∈ els2 → ∀ d, d ∈ cs → d.flat)
  (hk : k = i * sz + j) (hi : els[i]? = some cs) (hj : j < sz) (hne : Nat.beq id ia = false) :
  NOpR P [id, ia] s ⟨none, .store t x y, ty, pos, af, gd⟩ f (fun u => ∃ z : Value × (Nat → Prop), u = ⟨.dead, [(id, some (.arr e sz (els.set i (cs.set j (.val z.1))))), (f, some (.pred z.2 fun w => TRep w z.2 (.view e2 z2 els2') z.1)), (ia, none)]⟩) := by
 subst he
 refine ⟨fun s' ha C U U' a w m hR hU hU' hd K Q hK => ?_⟩
 have hne : id ≠ ia := Nat.ne_of_beq_eq_false hne
 have hxr := hR.ev x
 rw [ha.2.1 x (by simp [Op.operands]), hx] at hxr
 have hv := hR.ev y
 rw [ha.2.1 y (by simp [Op.operands]), hy] at hv
 have hc' : s'.chunk id = some (.arr e sz els) := by rw [ha.2.2 id (by simp)]; exact hc
 have hca' : s'.chunk ia = some (.arr e2 z2 els2) := by rw [ha.2.2 ia (by simp)]; exact hca
 obtain ⟨p, hp, hC, hloc⟩ := hR.ch ia _ hca'
 have key : ∃ S, (∀ b, S b → occ p (.arr e2 z2 els2) b) ∧ TRep w S (.view e2 z2 (els2.take n)) (a.eval y) ∧ okV (a.eval y) := by
  generalize a.eval y = v at hv
  cases hv with
  | own hq h0 =>
   rename_i cap b
   rw [hp] at hq
   obtain rfl : p = (b, cap) := by simpa using hq
   cases hC with
   | nil h =>
    obtain rfl : n = 0 := by simpa using hn
    exact ⟨fun _ => False, fun b hb => hb.elim, .nil (fun _ h => h), trivial⟩
   | arr hb hf hsz hl hm h0' hrow hel =>
    rename_i b arr fz
    have hlen : (els2.take n).length = n := by simp; omega
    have hsub : ∀ (i : Nat) cs, (els2.take n)[i]? = some cs → els2[i]? = some cs := by
     intro i cs hi
     rw [List.getElem?_take] at hi
     split at hi
     ·exact hi
     ·cases hi
    have := TRep.view (w := w) (S := fun k => k = b) (e := e2) (sz := z2) (els := els2.take n) (b := b) (cap := cap) (fun _ _ => False) hb hf hsz (by omega) hm h0' (fun i cs hi => hrow i cs (hsub i cs hi)) (fun i cs q d hi hj => ?_) (fun _ h => h) (fun _ _ _ h => h.elim) (fun k => ⟨fun h => .inl h, fun h => h.elim (fun h => h) fun ⟨_, _, h⟩ => h.elim⟩)
    ·rw [hlen] at this
     exact ⟨_, fun k hk => by subst hk; exact .inl rfl, this, trivial⟩
    ·have h1 := hel i cs q d (hsub i cs hi) hj
     have h2 := hfl cs (List.mem_of_getElem? (hsub i cs hi)) d (List.mem_of_getElem? hj)
     cases d with
     | val u =>
      generalize arr.getD (i * z2 + q) undef = u' at h1 ⊢
      cases h1 with
      | val h3 => exact .val (fun _ h => h) h3
     | _ => exact h2.elim
 obtain ⟨S, hS, hT, hok⟩ := key
 have hUf : U f := by simpa using hU 0 (by omega)
 have hmf := hR.un f hUf
 have hidf : id ≠ f := by rintro rfl; obtain ⟨q, hq, _⟩ := hR.ch id _ hc'; rw [hmf] at hq; cases hq
 have hiaf : ia ≠ f := by rintro rfl; rw [hmf] at hp; cases hp
 have hR1 : RelM C (fun i => U i ∧ i ≠ f) { s' with ch := (f, some (.pred S fun w => TRep w S (.view e2 z2 (els2.take n)) (a.eval y))) :: (ia, none) :: s'.ch } a w _ := hR.repack [(f, .pred S fun w => TRep w S (.view e2 z2 (els2.take n)) (a.eval y))] (fun _ => (none, 0)) [ia] rfl (fun i c h => by
   change (getL i (_ :: _ :: _)).getD none = _ at h
   rw [getL_cons] at h
   rw [getL_cons]
   split at h
   ·rename_i ei; rw [if_pos ei]; exact .inl (by simpa using h)
   ·rename_i ei
    rw [if_neg ei]
    rw [getL_cons] at h
    split at h
    ·cases h
    ·rename_i ei'; exact .inr ⟨rfl, by simpa using ei', h⟩) (fun i c h => .inl (by obtain ⟨rfl, _⟩ := getL_one h; exact hUf)) (fun i hi => ⟨hi.1, by rw [getL_cons, if_neg hi.2]; rfl⟩) (fun i c b h hb => by
   obtain ⟨rfl, rfl⟩ := getL_one h
   exact ⟨ia, _, p, by simp, hca', hp, hS b (occ_pred' hb)⟩) (fun i i' c c' b h h' _ _ => by rw [(getL_one h).1, (getL_one h').1]) (fun F' _ i c h => by
   obtain ⟨rfl, rfl⟩ := getL_one h
   exact .pred hT (fun w w' hk h => h.turn hk) hT.lt) (fun hle F' hF i => (hR.sl i).turn hle (fun k hk _ => ⟨hF k hk, rfl⟩))
 have hx1 := hR1.ev x
 rw [show ({ s' with ch := (f, some (.pred S fun w => TRep w S (.view e2 z2 (els2.take n)) (a.eval y))) :: (ia, none) :: s'.ch } : ASt).ev x = s'.ev x by rfl, ha.2.1 x (by simp [Op.operands]), hx] at hx1
 refine store_arr_core (i := i) (j := j) (d := .val (a.eval y)) ht h1s hR1 hx1 (by
  show (getL id (_ :: _ :: _)).getD none = _
  rw [getL_cons, if_neg hidf, getL_cons, if_neg hne]; exact hc') (.val hok) hk hi hj (U' := U') (fun j hj => ⟨(hU' j hj).1, by have := (hU' j hj).2; omega⟩) (fun a' w' m' hR' => ?_)
 exact hK _ ⟨(a.eval y, S), rfl⟩ a' w' m' hR'
end
theorem goS_agree {L : Nat → Bool} : ∀ (os : List Oper) (rs rs' : List ORec) (k : Nat) (a : List (Nat × AV)), rs.length = rs'.length → (∀ i, i < os.length → L (k + i) = true → rs[i]? = rs'[i]?) → goS L k os rs a = goS L k os rs' a
 | [], rs, rs', k, a, _, _ => by cases rs <;> cases rs' <;> simp [goS]
 | o :: os, [], [], k, a, _, _ => rfl
 | o :: os, [], _ :: _, k, a, h, _ => by simp at h
 | o :: os, _ :: _, [], k, a, h, _ => by simp at h
 | o :: os, r :: rs, r' :: rs', k, a, hl, h => by
  simp only [goS]
  have ih := fun a => goS_agree os rs rs' (k + 1) a (by simpa using hl) (fun i hi hL => by have := h (i + 1) (by simpa using hi) (by rw [show k + (i + 1) = k + 1 + i by omega]; exact hL); simpa using this)
  cases hL : L k with
  | false => cases o.dst <;> exact ih _
  | true =>
   have e := h 0 (by simp) (by rwa [Nat.add_zero])
   simp only [List.getElem?_cons_zero, Option.some.injEq] at e
   subst e
   cases o.dst <;> exact ih _
theorem goC_agree {L : Nat → Bool} : ∀ (os : List Oper) (rs rs' : List ORec) (k : Nat) (a : List (Nat × Option Chunk)), rs.length = rs'.length → (∀ i, i < os.length → L (k + i) = true → rs[i]? = rs'[i]?) → goC L k os rs a = goC L k os rs' a
 | [], rs, rs', k, a, _, _ => by cases rs <;> cases rs' <;> simp [goC]
 | o :: os, [], [], k, a, _, _ => rfl
 | o :: os, [], _ :: _, k, a, h, _ => by simp at h
 | o :: os, _ :: _, [], k, a, h, _ => by simp at h
 | o :: os, r :: rs, r' :: rs', k, a, hl, h => by
  simp only [goC]
  have ih := fun a => goC_agree os rs rs' (k + 1) a (by simpa using hl) (fun i hi hL => by have := h (i + 1) (by simpa using hi) (by rw [show k + (i + 1) = k + 1 + i by omega]; exact hL); simpa using this)
  cases hL : L k with
  | false => exact ih _
  | true =>
   have e := h 0 (by simp) (by rwa [Nat.add_zero])
   simp only [List.getElem?_cons_zero, Option.some.injEq] at e
   subst e
   exact ih _
section
variable {P : Program} {C : Ctx} {Q : Exit → ASt → Prop} {s : ASt} {ops : List Oper} {anc : List (List Nat)}
def StepX (P : Program) (ops : List Oper) (anc : List (List Nat)) (s : ASt) (F : List ORec → Prop) (R : List ORec) (i : Nat) (o : Oper) (r : ORec) : Prop :=
 StepOk P ops (mkS s (fun k => memL k (ancAt anc i)) ops (R.take i)) o r.2 (s.nx + 8 * i) r.1 ∨
 (o.guard = none ∧ ∃ T : Upd → Prop, NOpR P r.2 (mkS s (fun k => memL k (ancAt anc i)) ops (R.take i)) o (s.nx + 8 * i) T ∧ ∀ u, T u → ∃ R', F R' ∧ R'[i]? = some (u, r.2) ∧ ∀ j, j ≠ i → i ∉ ancAt anc j → R'[j]? = R[j]?)
set_option maxHeartbeats 1000000 in
theorem dr_anyX {F : List ORec → Prop} (hanc : ancOk ops anc = true) (hF : ∀ R, F R → R.length = ops.length ∧ indepOk ops anc R = true ∧ Q .normal (mkS s (fun _ => true) ops R))
  (hstep : ∀ R, F R → ∀ i o r, ops[i]? = some o → R[i]? = some r → dstOk o.dst s.n = true ∧ StepX P ops anc s F R i o r) :
  ∀ (fuel : Nat) (listed : Array Bool) (recs : List ORec), F recs → ∀ (a : Act) (w : World) (m : Nat → Option (Option Nat × Nat)), listed.size = ops.length → cntF (fun i => listed.getD i false) ops.length = fuel → (∀ i o, ops[i]? = some o → listed.getD i false = true → ∀ d, d ∈ deps o → listed.getD d false = true) →
   RelM C (UL s ops.length (fun i => listed.getD i false)) (mkS s (fun i => listed.getD i false) ops recs) a w m → wpAny P .any ops.toArray (Qc C Q) fuel listed a w := by
 have hready : ∀ (listed : Array Bool), listed.size = ops.length → ∀ i, i ∈ Region.ready .any ops.toArray listed ↔ ∃ o, ops[i]? = some o ∧ listed.getD i false = false ∧ ∀ d, d ∈ deps o → listed.getD d false = true := by
  intro listed hsz i
  rw [mem_ready]
  have hg : ∀ i, i < ops.length → listed.getD i true = listed.getD i false := fun i hi => by simp [Array.getD_eq_getD_getElem?, show i < listed.size by omega]
  constructor
  ·rintro ⟨h0, o, ho, hall⟩
   have ho' : ops[i]? = some o := by simpa using ho
   refine ⟨o, ho', by rw [← hg i (List.getElem?_eq_some_iff.1 ho').1]; exact h0, fun d hd => ?_⟩
   simp only [deps, List.mem_map, List.mem_filter] at hd
   obtain ⟨e, ⟨he, hb⟩, rfl⟩ := hd
   exact hall e (by simpa using he) hb
  ·rintro ⟨o, ho, h0, hall⟩
   refine ⟨by rw [hg i (List.getElem?_eq_some_iff.1 ho).1]; exact h0, o, by simpa using ho, fun e he hb => hall e.on ?_⟩
   simp only [deps, List.mem_map, List.mem_filter]
   exact ⟨e, ⟨by simpa using he, hb⟩, rfl⟩
 have hnone : ∀ (listed : Array Bool), listed.size = ops.length → Region.ready .any ops.toArray listed = [] → ∀ i, i < ops.length → listed.getD i false = true := by
  intro listed hsz hr i
  induction i using Nat.strongRecOn with
  | _ i ih =>
   intro hi
   cases hL : listed.getD i false with
   | true => rfl
   | false =>
    have ho := List.getElem?_eq_getElem hi
    have : i ∈ Region.ready .any ops.toArray listed := (hready listed hsz i).2 ⟨_, ho, hL, fun d hd => ih d (deps_lt hanc ho hd) (by have := deps_lt hanc ho hd; omega)⟩
    rw [hr] at this; cases this
 have hend : ∀ (recs : List ORec), F recs → ∀ (listed : Array Bool) a w m, (∀ i, i < ops.length → listed.getD i false = true) → RelM C (UL s ops.length (fun i => listed.getD i false)) (mkS s (fun i => listed.getD i false) ops recs) a w m → Qc C Q .normal a w := by
  intro recs hFr listed a w m hall hR
  obtain ⟨hlen, hind, hfin⟩ := hF recs hFr
  refine ⟨mkS s (fun _ => true) ops recs, ⟨m, hR.weaken (s' := mkS s (fun _ => true) ops recs) rfl (fun t => .inr ?_) (fun id c hc => ?_) (fun j hj => .inl hj)⟩, hfin⟩
  ·show (getL t (goS _ 0 ops recs s.sl)).getD .dead = (getL t (goS _ 0 ops recs s.sl)).getD .dead
   rw [goS_same (L := fun _ => true) (L' := fun i => listed.getD i false) ops recs 0 s.sl s.sl (fun i o hi _ => by simp only [Nat.zero_add]; exact (hall i (List.getElem?_eq_some_iff.1 hi).1).symm) rfl]
  ·have : (mkS s (fun _ => true) ops recs).chunk id = (mkS s (fun i => listed.getD i false) ops recs).chunk id := by
    show (getL id (goC _ 0 ops recs s.ch)).getD none = (getL id (goC _ 0 ops recs s.ch)).getD none
    rw [goC_same (L := fun _ => true) (L' := fun i => listed.getD i false) ops recs 0 s.ch s.ch (fun i r hi _ => by simp only [Nat.zero_add]; exact (hall i (by have := (List.getElem?_eq_some_iff.1 hi).1; omega)).symm) rfl]
   rw [← this]; exact hc
 intro fuel
 induction fuel with
 | zero =>
  intro listed recs hFr a w m hsz hcnt hcl hR
  have hall : ∀ i, i < ops.length → listed.getD i false = true := fun i hi => cntF_zero hcnt i hi
  refine ⟨?_, hend recs hFr listed a w m hall hR⟩
  cases hr : Region.ready .any ops.toArray listed with
  | nil => rfl
  | cons i l =>
   obtain ⟨o, ho, h0, _⟩ := (hready listed hsz i).1 (by rw [hr]; simp)
   rw [hall i (List.getElem?_eq_some_iff.1 ho).1] at h0; cases h0
 | succ fuel ih =>
  intro listed recs hFr a w m hsz hcnt hcl hR
  obtain ⟨hlen, hind, hfin⟩ := hF recs hFr
  refine ⟨fun hr => hend recs hFr listed a w m (hnone listed hsz hr) hR, fun i hi => ?_⟩
  obtain ⟨o, ho, h0, hd⟩ := (hready listed hsz i).1 hi
  have hil := (List.getElem?_eq_some_iff.1 ho).1
  obtain ⟨r, hr⟩ : ∃ r, recs[i]? = some r := ⟨_, List.getElem?_eq_getElem (by omega)⟩
  obtain ⟨hdst, hst⟩ := hstep recs hFr i o r ho hr
  have hanci : ∀ j, j ∈ ancAt anc i → listed.getD j false = true := anc_in (L := fun i => listed.getD i false) hanc hcl (i + 1) i o (by omega) ho hd
  have hdesc : ∀ j, j < ops.length → i ∈ ancAt anc j → listed.getD j false = false := by
   intro j hj hij
   cases hL : listed.getD j false with
   | false => rfl
   | true =>
    have hoj := List.getElem?_eq_getElem hj
    have := anc_in (L := fun i => listed.getD i false) hanc hcl (j + 1) j _ (by omega) hoj (hcl j _ hoj hL) i hij
    rw [h0] at this; cases this
  have hL' : ∀ j, (listed.setIfInBounds i true).getD j false = (listed.getD j false || j == i) := by
   intro j
   by_cases hj : j = i
   ·subst hj; simp [Array.getD_eq_getD_getElem?, show j < listed.size by omega]
   ·simp [Array.getD_eq_getD_getElem?, Array.getElem?_setIfInBounds_ne (Ne.symm hj), hj]
  have hlt : ∀ k, memL k (ancAt anc i) = true → k < i := fun k hk => anc_lt hanc hil (memL_iff.1 hk)
  have hsame : ∀ k, k < ops.length → (k ∉ ancAt anc i → i ∉ ancAt anc k → k ≠ i → False) → listed.getD k false = memL k (ancAt anc i) := by
   intro k hkl hex
   by_cases hka : k ∈ ancAt anc i
   ·rw [hanci k hka]; exact (memL_iff.2 hka).symm
   ·have e1 : memL k (ancAt anc i) = false := memL_not.2 hka
    rw [e1]
    by_cases hki : k = i
    ·subst hki; exact h0
    ·by_cases hik : i ∈ ancAt anc k
     ·exact hdesc k hkl hik
     ·exact (hex hka hik hki).elim
  have hagr : AgrT ops r.2 o (mkS s (fun k => memL k (ancAt anc i)) ops (recs.take i)) (mkS s (fun i => listed.getD i false) ops recs) := by
   refine ⟨rfl, fun t ht => ?_, fun id hid => ?_⟩
   ·show (getL t (goS _ 0 ops recs s.sl)).getD .dead = (getL t (goS _ 0 ops (recs.take i) s.sl)).getD .dead
    have := goS_cut hlt ops recs 0 s.sl
    rw [Nat.sub_zero] at this
    rw [this, goS_same (L := fun i => listed.getD i false) (L' := fun k => memL k (ancAt anc i)) ops recs 0 s.sl s.sl (fun k ok hk hdk => ?_) rfl]
    simp only [Nat.zero_add]
    have hkl := (List.getElem?_eq_some_iff.1 hk).1
    refine hsame k hkl (fun hka hik hki => ?_)
    obtain ⟨rk, hrk⟩ : ∃ rk, recs[k]? = some rk := ⟨_, List.getElem?_eq_getElem (by omega)⟩
    exact absurd ht ((indep_of hind ho hk hr hrk (Ne.symm hki) hka hik).1 t hdk).1
   ·show (getL id (goC _ 0 ops recs s.ch)).getD none = (getL id (goC _ 0 ops (recs.take i) s.ch)).getD none
    have := goC_cut hlt ops recs 0 s.ch
    rw [Nat.sub_zero] at this
    rw [this, goC_same (L := fun i => listed.getD i false) (L' := fun k => memL k (ancAt anc i)) ops recs 0 s.ch s.ch (fun k rk hrk hdk => ?_) rfl]
    simp only [Nat.zero_add]
    have hkl : k < ops.length := by have := (List.getElem?_eq_some_iff.1 hrk).1; omega
    refine hsame k hkl (fun hka hik hki => ?_)
    exact absurd hid ((indep_of hind ho (List.getElem?_eq_getElem hkl) hr hrk (Ne.symm hki) hka hik).2 id (keysU_of hdk)).1
  have hnext0 : ∀ recs, F recs → ∀ r, recs[i]? = some r → ∀ a' w' m', RelM C (UL s ops.length (fun j => (listed.setIfInBounds i true).getD j false)) ((mkS s (fun i => listed.getD i false) ops recs).app o.dst r.1) a' w' m' → wpAny P .any ops.toArray (Qc C Q) fuel (listed.setIfInBounds i true) a' w' := by
   intro recs hFr r hr a' w' m' hR'
   obtain ⟨hlen, hind, hfin⟩ := hF recs hFr
   refine ih (listed.setIfInBounds i true) recs hFr a' w' m' (by simpa using hsz) ?_ ?_ ?_
   ·have := (cntF_set (L := fun i => listed.getD i false) (L' := fun j => (listed.setIfInBounds i true).getD j false) (i := i) h0 (by simp only [hL']; simp) (fun j hj => by simp only [hL']; simp [hj]) ops.length).1 hil
    omega
   ·intro k ok hk hLk d hdd
    rw [hL'] at hLk ⊢
    simp only [Bool.or_eq_true, beq_iff_eq] at hLk ⊢
    rcases hLk with h | h
    ·exact .inl (hcl k ok hk h d hdd)
    ·subst h
     rw [ho] at hk
     obtain rfl : o = ok := by simpa using hk
     exact .inl (hd d hdd)
   ·have e1 : (fun j => (listed.setIfInBounds i true).getD j false) = (fun j => (fun k => listed.getD k false) j || j == i) := funext hL'
    refine hR'.weaken (by rw [ASt.n_app]; rfl) (fun t => .inr ?_) (fun id c hc => ?_) (fun j hj => hj)
    ·rw [ASt.get_app]
     show (getL t (goS (fun j => (listed.setIfInBounds i true).getD j false) 0 ops recs s.sl)).getD .dead = _
     rw [e1, goS_more (L := fun k => listed.getD k false) (i := i) (r0 := r) ops recs 0 s.sl o (Nat.zero_le _) (by simpa using ho) (by simpa using hr) (fun j oj hj hij hLj hdj hdi => ?_)]
     ·by_cases hdt : o.dst = some t
      ·rw [if_pos hdt, if_pos hdt]; rfl
      ·rw [if_neg hdt, if_neg hdt]; rfl
     ·rw [Nat.zero_add] at hij hLj
      have hjl := (List.getElem?_eq_some_iff.1 hj).1
      obtain ⟨rj, hrj⟩ : ∃ rj, recs[j]? = some rj := ⟨_, List.getElem?_eq_getElem (by omega)⟩
      by_cases hja : j ∈ ancAt anc i
      ·have := anc_lt hanc hil hja; omega
      ·by_cases hij2 : i ∈ ancAt anc j
       ·rw [hdesc j hjl hij2] at hLj; cases hLj
       ·exact ((indep_of hind ho hj hr hrj (by omega) hja hij2).1 t hdj).2 hdi
    ·rw [ASt.chunk_app]
     have hc2 : (getL id (goC (fun j => (listed.setIfInBounds i true).getD j false) 0 ops recs s.ch)).getD none = some c := hc
     rw [e1, goC_more (t := id) (L := fun k => listed.getD k false) (i := i) (r0 := r) ops recs 0 s.ch hlen.symm (Nat.zero_le _) (by simpa using hr) (fun j rj hrj hij hLj hdj => ?_)] at hc2
     ·cases hg : getL id r.1.ch with
      | some x => rw [hg] at hc2; simpa using hc2
      | none => rw [hg] at hc2; rw [Option.none_or] at hc2; exact hc2
     ·rw [Nat.zero_add] at hij hLj
      have hjl : j < ops.length := by have := (List.getElem?_eq_some_iff.1 hrj).1; omega
      by_cases hja : j ∈ ancAt anc i
      ·have := anc_lt hanc hil hja; omega
      ·by_cases hij2 : i ∈ ancAt anc j
       ·rw [hdesc j hjl hij2] at hLj; cases hLj
       ·exact keysU_none ((indep_of hind ho (List.getElem?_eq_getElem hjl) hr hrj (by omega) hja hij2).2 id (keysU_of hdj)).2
  have hnext := hnext0 recs hFr r hr
  have hU1 : ∀ k, k < 8 → UL s ops.length (fun i => listed.getD i false) (s.nx + 8 * i + k) := fun k hk => .inr ⟨i, hil, h0, by omega, by omega⟩
  have hU2 : ∀ j, UL s ops.length (fun j => (listed.setIfInBounds i true).getD j false) j → UL s ops.length (fun i => listed.getD i false) j ∧ (j < s.nx + 8 * i ∨ s.nx + 8 * i + 8 ≤ j) := by
   rintro j (hj | ⟨k, hk, hLk, h1, h2⟩)
   ·exact ⟨.inl hj, .inr (by omega)⟩
   ·have hLk' : (listed.getD k false || k == i) = false := by rw [← hL']; exact hLk
    simp only [Bool.or_eq_false_iff, beq_eq_false_iff_ne] at hLk'
    exact ⟨.inr ⟨k, hk, hLk'.1, h1, h2⟩, by omega⟩
  have hoa : ops.toArray[i]? = some o := by simpa using ho
  have hrun : NOp P r.2 (mkS s (fun k => memL k (ancAt anc i)) ops (recs.take i)) o (s.nx + 8 * i) r.1 → o.wp P a w (wpAny P .any ops.toArray (Qc C Q) fuel (listed.setIfInBounds i true)) (Qc C Q) := fun hn =>
   hn.run _ hagr.agr C _ _ a w m hR hU1 hU2 hdst _ _ hnext
  have hyield : ∀ j t b, ((ops[j]?).bind (·.dst)) = some t → Nat.blt t s.n = true → (mkS s (fun i => listed.getD i false) ops recs).get t = aT b → yielded ops.toArray a.tmps j = some b := by
   intro j t b h1 h2 h3
   have := hR.sl t
   rw [h3] at this
   have hv := this.val_eq.1
   have hlt : t < a.tmps.size := by rw [hR.sz]; simpa [mkS] using h2
   have h4 : a.tmps[t]? = some (.bool b) := by
    rw [Array.getElem?_eq_getElem hlt]
    rw [Array.getD_eq_getD_getElem?, Array.getElem?_eq_getElem hlt] at hv
    simpa using hv
   simp [yielded, h1, h4]
  have hskip : r.1 = ⟨.und, []⟩ → wpAny P .any ops.toArray (Qc C Q) fuel (listed.setIfInBounds i true) (a.put o.dst undef) w := by
   intro hu
   refine hnext _ _ m ?_
   rw [hu]
   exact (hR.setSlot (x := .und) (v := undef) hdst .und).weaken rfl (fun _ => .inr rfl) (fun _ _ h => h) (fun j hj => (hU2 j hj).1)
  have hlook : ∀ j w t, o.guard = some (j, w) → ((ops[j]?).bind (·.dst)) = some t → t ∈ looksT ops o := by
   intro j w t h1 h2
   refine List.mem_append_right _ ?_
   rw [h1]; simp [h2]
  unfold wpOp
  rw [hoa]
  simp only
  rcases hst with hst | ⟨hg, T, hn, hT⟩
  rotate_left
  ·rw [if_pos (by simp [Region.wanted, hg])]
   refine .inl (hn.run _ hagr.agr C _ _ a w m hR hU1 hU2 hdst _ _ (fun u hu a' w' m' hR' => ?_))
   obtain ⟨R', hFR, hRi, hag⟩ := hT u hu
   have he : mkS s (fun i => listed.getD i false) ops recs = mkS s (fun i => listed.getD i false) ops R' := by
    have hlR := (hF R' hFR).1
    have key : ∀ j, j < ops.length → listed.getD j false = true → recs[j]? = R'[j]? := fun j hj hL => (hag j (fun e => by rw [e, h0] at hL; cases hL) (fun hij => by rw [hdesc j hj hij] at hL; cases hL)).symm
    unfold mkS
    rw [goS_agree ops recs R' 0 s.sl (by omega) (fun j hj hL => key j hj (by rwa [Nat.zero_add] at hL)), goC_agree ops recs R' 0 s.ch (by omega) (fun j hj hL => key j hj (by rwa [Nat.zero_add] at hL))]
   rw [he] at hR'
   exact hnext0 R' hFR _ hRi a' w' m' hR'
  cases hst with
  | free hg hn => rw [if_pos (by simp [Region.wanted, hg])]; exact .inl (hrun hn)
  | @yes j t b hg ht htn hs hn =>
   rw [if_pos (by simp [Region.wanted, hg, hyield j t b ht htn ((hagr.get t (hlook j b t hg ht)).trans hs)])]
   exact .inl (hrun hn)
  | @no j t b b' hg ht htn hs hb hu =>
   rw [if_neg (by simp [Region.wanted, hg, hyield j t b' ht htn ((hagr.get t (hlook j b t hg ht)).trans hs), hb])]
   exact hskip hu
  | @noU j t b hg ht hs hu =>
   have hux := hR.sl t
   rw [(hagr.get t (hlook j b t hg ht)).trans hs] at hux
   have hy : yielded ops.toArray a.tmps j = none := by
    generalize hv : a.tmps.getD t undef = v at hux
    cases hux
    have ht' : ((ops.toArray[j]?).bind (·.dst)) = some t := by simpa using ht
    unfold yielded
    rw [ht']
    rw [Array.getD_eq_getD_getElem?] at hv
    simp only [Option.bind_some]
    cases hq : a.tmps[t]? with
    | none => rfl
    | some v => rw [hq] at hv; simp only [Option.getD_some] at hv; subst hv; rfl
   rw [if_neg (by simp [Region.wanted, hg, hy])]
   exact hskip hu
inductive DX (P : Program) (ops : List Oper) (anc : List (List Nat)) (s : ASt) (Q : Exit → ASt → Prop) : List FRec → (List ORec → Prop) → Prop
 | fin {l : List FRec} {ps : List (Nat × Nat)} : Nat.beq l.length ops.length = true → coverOk ops.length anc ps = true → slotOk ops ps = true → idsF l ps = true → Q .normal (mkAll s ops.length l) → DX P ops anc s Q l (fun R => R = fwd l)
 | op {l : List FRec} {o : Oper} {ids : List Nat} {u : Upd} {F : List ORec → Prop} : ops[l.length]? = some o → StepOk P ops (mkF s ops.length (ancAt anc l.length) l) o ids (s.nx + 8 * l.length) u → dstOk o.dst s.n = true → DX P ops anc s Q ((l.length, o.dst, u, ids) :: l) F → DX P ops anc s Q l F
 | opX {l : List FRec} {o : Oper} {ids : List Nat} {ι : Type} {us : ι → Upd} {F : ι → List ORec → Prop} (x₀ : ι) : ops[l.length]? = some o → o.guard = none → NOpR P ids (mkF s ops.length (ancAt anc l.length) l) o (s.nx + 8 * l.length) (fun u => ∃ x, u = us x) → dstOk o.dst s.n = true → (∀ x, DX P ops anc s Q ((l.length, o.dst, us x, ids) :: l) (F x)) →
   (∀ x y R R', F x R → F y R' → ∀ j, l.length < j → l.length ∉ ancAt anc j → R'[j]? = R[j]?) → DX P ops anc s Q l (fun R => ∃ x, F x R)
theorem DX.ex {l : List FRec} {F : List ORec → Prop} (h : DX P ops anc s Q l F) : ∃ R, F R := by
 induction h with
 | fin => exact ⟨_, rfl⟩
 | op _ _ _ _ ih => exact ih
 | opX x₀ _ _ _ _ _ _ ih => obtain ⟨R, hR⟩ := ih x₀; exact ⟨R, x₀, hR⟩
theorem FOk.pre {ops : List Oper} {i : Nat} {d : Option Nat} {u : Upd} {ids : List Nat} {l : List FRec} : fwd l <+: fwd ((i, d, u, ids) :: l) := by rw [fwd_cons]; exact List.prefix_append _ _
theorem DX.facts {l : List FRec} {F : List ORec → Prop} (h : DX P ops anc s Q l F) : FOk ops l → ∀ R, F R → fwd l <+: R ∧ (R.length = ops.length ∧ indepOk ops anc R = true ∧ Q .normal (mkS s (fun _ => true) ops R)) ∧ ∀ i o r, l.length ≤ i → ops[i]? = some o → R[i]? = some r → dstOk o.dst s.n = true ∧ StepX P ops anc s F R i o r := by
 induction h with
 | @fin l ps h1 h2 h3 h4 h5 =>
  rintro hf R rfl
  have hlen : l.length = ops.length := by simpa using h1
  refine ⟨List.prefix_rfl, ⟨by rw [fwd_len, hlen], indep_parts h2 h3 (idsF_ok hf hlen h3 h4), ?_⟩, fun i o r hi ho => by have := (List.getElem?_eq_some_iff.1 ho).1; omega⟩
  have : mkS s (fun _ => true) ops (fwd l) = mkAll s ops.length l := by simp [mkS, mkAll, goS_A hf, goC_A hf]
  rw [this]; exact h5
 | @op l o ids u F h1 h2 h3 _ ih =>
  intro hf R hR
  obtain ⟨g1, g2, g3⟩ := ih ⟨rfl, ⟨o, h1, rfl⟩, hf⟩ R hR
  have hpre : fwd l <+: R := (FOk.pre (ops := ops)).trans g1
  refine ⟨hpre, g2, fun i o' r hi ho hr => ?_⟩
  by_cases hi2 : l.length + 1 ≤ i
  ·exact g3 i o' r (by simpa using hi2) ho hr
  ·have : i = l.length := by omega
   subst this
   rw [h1] at ho
   obtain rfl : o = o' := by simpa using ho
   have hr2 : R[l.length]? = some (u, ids) := by
    obtain ⟨tl, rfl⟩ := g1
    rw [fwd_cons, List.append_assoc, List.getElem?_append_right (by rw [fwd_len]; exact Nat.le_refl _), fwd_len]; simp
   rw [hr2] at hr
   obtain rfl : (u, ids) = r := by simpa using hr
   refine ⟨h3, .inl ?_⟩
   have : R.take l.length = fwd l := by
    obtain ⟨tl, rfl⟩ := hpre
    rw [List.take_append_of_le_length (by rw [fwd_len]; exact Nat.le_refl _), List.take_of_length_le (by rw [fwd_len]; exact Nat.le_refl _)]
   rw [this, show mkS s (fun k => memL k (ancAt anc l.length)) ops (fwd l) = mkF s ops.length (ancAt anc l.length) l by simp [mkS, mkF, goS_F _ hf, goC_F _ hf]]
   exact h2
 | @opX l o ids ι us F x₀ h1 h2 h3 h4 h5 h6 ih =>
  rintro hf R ⟨x, hR⟩
  obtain ⟨g1, g2, g3⟩ := ih x ⟨rfl, ⟨o, h1, rfl⟩, hf⟩ R hR
  have hpre : fwd l <+: R := (FOk.pre (ops := ops)).trans g1
  refine ⟨hpre, g2, fun i o' r hi ho hr => ?_⟩
  by_cases hi2 : l.length + 1 ≤ i
  ·obtain ⟨q1, q2⟩ := g3 i o' r (by simpa using hi2) ho hr
   refine ⟨q1, ?_⟩
   rcases q2 with q2 | ⟨q3, T, q4, q5⟩
   ·exact .inl q2
   ·exact .inr ⟨q3, T, q4, fun u hu => by obtain ⟨R', k1, k2⟩ := q5 u hu; exact ⟨R', ⟨x, k1⟩, k2⟩⟩
  ·have : i = l.length := by omega
   subst this
   rw [h1] at ho
   obtain rfl : o = o' := by simpa using ho
   have hat : ∀ y R', F y R' → R'[l.length]? = some (us y, ids) := by
    intro y R' hy
    obtain ⟨q1, _⟩ := ih y ⟨rfl, ⟨o, h1, rfl⟩, hf⟩ R' hy
    obtain ⟨tl, rfl⟩ := q1
    rw [fwd_cons, List.append_assoc, List.getElem?_append_right (by rw [fwd_len]; exact Nat.le_refl _), fwd_len]; simp
   rw [hat x R hR] at hr
   obtain rfl : (us x, ids) = r := by simpa using hr
   refine ⟨h4, .inr ⟨h2, (fun u => ∃ y, u = us y), ?_, ?_⟩⟩
   ·have : R.take l.length = fwd l := by
     obtain ⟨tl, rfl⟩ := hpre
     rw [List.take_append_of_le_length (by rw [fwd_len]; exact Nat.le_refl _), List.take_of_length_le (by rw [fwd_len]; exact Nat.le_refl _)]
    rw [this, show mkS s (fun k => memL k (ancAt anc l.length)) ops (fwd l) = mkF s ops.length (ancAt anc l.length) l by simp [mkS, mkF, goS_F _ hf, goC_F _ hf]]
    exact h3
   ·rintro _ ⟨y, rfl⟩
    obtain ⟨R', hR'⟩ := (h5 y).ex
    refine ⟨R', ⟨y, hR'⟩, hat y R' hR', fun j hj hnj => ?_⟩
    rcases Nat.lt_trichotomy j l.length with hlt | heq | hgt
    ·have p1 := (ih y ⟨rfl, ⟨o, h1, rfl⟩, hf⟩ R' hR').1
     have p2 : fwd l <+: R' := (FOk.pre (ops := ops)).trans p1
     obtain ⟨t1, rfl⟩ := hpre
     obtain ⟨t2, rfl⟩ := p2
     rw [List.getElem?_append_left (by rw [fwd_len]; exact hlt), List.getElem?_append_left (by rw [fwd_len]; exact hlt)]
    ·exact absurd heq hj
    ·exact h6 x y R R' hR hR' j hgt hnj
theorem AC.drawnX {id : Nat} (hm : P.follows .mixedOrders = true) (anc : List (List Nat)) (hanc : ancOk ops anc = true) {F : List ORec → Prop} (h : DX P ops anc s Q [] F) : ACode P C (.region id ops.toArray true) Q s := by
 refine ⟨fun a w hR => ?_⟩
 obtain ⟨m, hR⟩ := hR
 obtain ⟨full, hfull⟩ := h.ex
 have hfacts := h.facts trivial
 refine wp_region_any hm ?_
 have hrep : ∀ i, (Array.replicate ops.toArray.size false).getD i false = false := fun i => by
  simp only [Array.getD_eq_getD_getElem?, Array.getElem?_replicate]
  split <;> rfl
 have e1 : (fun i => (Array.replicate ops.toArray.size false).getD i false) = (fun _ => false) := funext hrep
 refine dr_anyX (F := F) (anc := anc) hanc (fun R hR => (hfacts R hR).2.1) (fun R hR i o r ho hr => (hfacts R hR).2.2 i o r (Nat.zero_le _) ho hr) ops.toArray.size _ full hfull a _ m (by simp) (by rw [e1, cntF_full _ (fun _ => rfl)]; simp) (fun i o _ h => by rw [hrep] at h; cases h) ?_
 rw [e1]
 have hS : ∀ (os : List Oper) (rs : List ORec) (k : Nat) (x : List (Nat × AV)), goS (fun _ => false) k os rs x = x := by
  intro os
  induction os with
  | nil => intro rs k x; simp [goS]
  | cons o os ih => intro rs k x; cases rs <;> simp [goS, ih]
 have hC : ∀ (os : List Oper) (rs : List ORec) (k : Nat) (x : List (Nat × Option Chunk)), goC (fun _ => false) k os rs x = x := by
  intro os
  induction os with
  | nil => intro rs k x; simp [goC]
  | cons o os ih => intro rs k x; cases rs <;> simp [goC, ih]
 have := hR.drewN 1
 refine RelM.weaken (s := s) (U := fun id => s.nx ≤ id) (w := { w with drawn := w.drawn + 1 }) this rfl (fun t => .inr ?_) (fun id c hc => ?_) (fun j hj => ?_)
 ·show (getL t (goS _ 0 ops full s.sl)).getD .dead = _
  rw [hS]; rfl
 ·have h2 : (getL id (goC (fun _ => false) 0 ops full s.ch)).getD none = some c := hc
  rw [hC] at h2; exact h2
 ·rcases hj with h | ⟨i, _, _, h1, _⟩
  ·show s.nx ≤ j; omega
  ·show s.nx ≤ j; omega
structure DG (P : Program) (ops : List Oper) (anc : List (List Nat)) (s : ASt) (Q : Exit → ASt → Prop) (rest : List Oper) (l : List FRec) (F : List ORec → Prop) : Prop where
 dx : ops.drop l.length = rest → DX P ops anc s Q l F
theorem drop_hd {rest : List Oper} {o : Oper} {k : Nat} (hr : ops.drop k = o :: rest) : ops[k]? = some o ∧ ops.drop (k + 1) = rest := by
 constructor
 ·have := congrArg (fun x => x[0]?) hr
  simpa using this
 ·have := congrArg List.tail hr
  simpa using this
theorem DG.fin {l : List FRec} {ps : List (Nat × Nat)} (n : Nat) (hn : Nat.beq ops.length n = true) (hl : Nat.beq l.length n = true) (h1 : coverOk n anc ps = true) (h2 : slotOk ops ps = true) (h3 : idsF l ps = true) (h : Q .normal (mkAll s n l)) : DG P ops anc s Q [] l (fun R => R = fwd l) := by
 refine ⟨fun _ => ?_⟩
 have hn : ops.length = n := by simpa using hn
 subst hn
 exact .fin hl h1 h2 h3 h
theorem DG.op {l : List FRec} {rest : List Oper} {o : Oper} {F : List ORec → Prop} (i : Nat) (row : List Nat) {ids : List Nat} {u : Upd} (n : Nat) (hi : Nat.beq l.length i = true) (hn : Nat.beq ops.length n = true) (hrow : ancAt anc i = row) (hst : StepOk P ops (mkF s n row l) o ids (s.nx + 8 * i) u) (hd : dstOk o.dst s.n = true) (h : DG P ops anc s Q rest ((i, o.dst, u, ids) :: l) F) : DG P ops anc s Q (o :: rest) l F := by
 refine ⟨fun hr => ?_⟩
 have hi : l.length = i := by simpa using hi
 have hn : ops.length = n := by simpa using hn
 subst hi; subst hn; subst hrow
 obtain ⟨h1, h2⟩ := drop_hd hr
 exact .op h1 hst hd (h.dx h2)
theorem DG.opX {l : List FRec} {rest : List Oper} {o : Oper} {ι : Type} {us : ι → Upd} {F : ι → List ORec → Prop} (i : Nat) (row : List Nat) {ids : List Nat} (n : Nat) (x₀ : ι) (hi : Nat.beq l.length i = true) (hn : Nat.beq ops.length n = true) (hrow : ancAt anc i = row) (hg : o.guard = none) (hst : NOpR P ids (mkF s n row l) o (s.nx + 8 * i) (fun u => ∃ x, u = us x)) (hd : dstOk o.dst s.n = true)
  (h : ∀ x, DG P ops anc s Q rest ((i, o.dst, us x, ids) :: l) (F x)) (hs : ∀ x y R R', F x R → F y R' → ∀ j, i < j → i ∉ ancAt anc j → R'[j]? = R[j]?) : DG P ops anc s Q (o :: rest) l (fun R => ∃ x, F x R) := by
 refine ⟨fun hr => ?_⟩
 have hi : l.length = i := by simpa using hi
 have hn : ops.length = n := by simpa using hn
 subst hi; subst hn; subst hrow
 obtain ⟨h1, h2⟩ := drop_hd hr
 exact .opX x₀ h1 hg hst hd (fun x => (h x).dx h2) hs
theorem DG.caseD {l : List FRec} {rest : List Oper} {F : List ORec → Prop} (j : Nat) {p : Prop} [Decidable p] (h : getF j l = some (aT (decide p))) (hp : p) (hT : DG P ops anc s Q rest (setF j (aT true) l) F) : DG P ops anc s Q rest l F := by
 rwa [setF_same (by rw [h]; simp [hp])] at hT
theorem AC.drawnG {id : Nat} (hm : P.follows .mixedOrders = true) (anc : List (List Nat)) (hanc : ancOk ops anc = true) {F : List ORec → Prop} (h : DG P ops anc s Q ops [] F) : ACode P C (.region id ops.toArray true) Q s := AC.drawnX hm anc hanc (h.dx rfl)
def behindAll (anc : List (List Nat)) (i n : Nat) : Bool := (List.range n).all fun j => Nat.ble j i || memL i (ancAt anc j)
theorem behind_same {ι : Type} {F : ι → List ORec → Prop} {n i : Nat} (hlen : ∀ x R, F x R → R.length = n) (h : behindAll anc i n = true) : ∀ x y R R', F x R → F y R' → ∀ j, i < j → i ∉ ancAt anc j → R'[j]? = R[j]? := by
 intro x y R R' h1 h2 j hj hnj
 rcases Nat.lt_or_ge j n with hlt | hge
 ·simp only [behindAll, List.all_eq_true, List.mem_range, Bool.or_eq_true] at h
  rcases h j hlt with g | g
  ·have : j ≤ i := by simpa using g
   omega
  ·exact absurd (memL_iff.1 g) hnj
 ·rw [List.getElem?_eq_none (by rw [hlen y R' h2]; exact hge), List.getElem?_eq_none (by rw [hlen x R h1]; exact hge)]
end
section
variable {P : Program} [PT P] {C : Ctx} {Q : Exit → ASt → Prop} {s : ASt} {ops : List Oper} {anc : List (List Nat)}
def DE (P : Program) (ops : List Oper) (anc : List (List Nat)) (s : ASt) (Q : Exit → ASt → Prop) (rest : List Oper) (l : List FRec) : Prop := ∃ F : List ORec → Prop, DG P ops anc s Q rest l F ∧ ∀ R, F R → R.length = ops.length
theorem DE.fin {l : List FRec} {ps : List (Nat × Nat)} (n : Nat) (hn : Nat.beq ops.length n = true) (hl : Nat.beq l.length n = true) (h1 : coverOk n anc ps = true) (h2 : slotOk ops ps = true) (h3 : idsF l ps = true) (h : Q .normal (mkAll s n l)) : DE P ops anc s Q [] l :=
 ⟨_, DG.fin n hn hl h1 h2 h3 h, fun R e => by
  subst e
  rw [fwd_len]
  have h1 : ops.length = n := by simpa using hn
  have h2 : l.length = n := by simpa using hl
  omega⟩
theorem DE.op {l : List FRec} {rest : List Oper} {o : Oper} (i : Nat) (row : List Nat) {ids : List Nat} {u : Upd} (n : Nat) (hi : Nat.beq l.length i = true) (hn : Nat.beq ops.length n = true) (hrow : ancAt anc i = row) (hst : StepOk P ops (mkF s n row l) o ids (s.nx + 8 * i) u) (hd : dstOk o.dst s.n = true) (h : DE P ops anc s Q rest ((i, o.dst, u, ids) :: l)) : DE P ops anc s Q (o :: rest) l := by
 obtain ⟨F, h1, h2⟩ := h
 exact ⟨F, DG.op i row n hi hn hrow hst hd h1, h2⟩
theorem DE.opX {l : List FRec} {rest : List Oper} {o : Oper} {ι : Type} {us : ι → Upd} (i : Nat) (row : List Nat) {ids : List Nat} (n : Nat) (x₀ : ι) (hi : Nat.beq l.length i = true) (hn : Nat.beq ops.length n = true) (hrow : ancAt anc i = row) (hg : o.guard = none) (hst : NOpR P ids (mkF s n row l) o (s.nx + 8 * i) (fun u => ∃ x, u = us x)) (hd : dstOk o.dst s.n = true) (hb : behindAll anc i n = true)
  (h : ∀ x, DE P ops anc s Q rest ((i, o.dst, us x, ids) :: l)) : DE P ops anc s Q (o :: rest) l := by
 have hn' : ops.length = n := by simpa using hn
 refine ⟨fun R => ∃ x, Classical.choose (h x) R, DG.opX i row n x₀ hi hn hrow hg hst hd (fun x => (Classical.choose_spec (h x)).1) (behind_same (fun x R hR => by rw [← hn']; exact (Classical.choose_spec (h x)).2 R hR) hb), fun R ⟨x, hR⟩ => (Classical.choose_spec (h x)).2 R hR⟩
theorem AC.drawnE {id : Nat} (hm : P.follows .mixedOrders = true) (anc : List (List Nat)) (hanc : ancOk ops anc = true) (h : DE P ops anc s Q ops []) : ACode P C (.region id ops.toArray true) Q s := by
 obtain ⟨F, h1, _⟩ := h
 exact AC.drawnG hm anc hanc h1
end
abbrev nI (l : List Nat) : List Int := l.map fun t => ((t : Nat) : Int)
theorem nI_len (l : List Nat) : (nI l).length = l.length := List.length_map _
theorem nI_get {l : List Nat} {k : Nat} (h : k < l.length) : (ints (nI l))[k]? = some [dI ((l[k] : Nat) : Int)] := by rw [List.getElem?_map, List.getElem?_map, List.getElem?_eq_getElem h]; rfl
theorem nI_at {q : List Nat} {a c : Nat} (ha : a < q.length) (hc : q.getD a 0 = c) : (ints (nI q))[a]? = some [dI (c : Int)] := by
 rw [nI_get ha, ← hc, List.getD_eq_getElem?_getD, List.getElem?_eq_getElem ha]; rfl
theorem oa_rep (n v : Nat) : oa (List.replicate n (-1)) v = -1 := by
 unfold oa
 rw [List.getD_eq_getElem?_getD, List.getElem?_replicate]
 split <;> rfl
theorem oa_start {n s : Nat} (hs : s < n) (v : Nat) : oa ((List.replicate n (-1)).set s 0) v ≤ 0 := by
 by_cases e : v = s
 ·rw [e, oa_set_self (by simpa using hs)]; decide
 ·rw [oa_set_ne e, oa_rep]; decide
theorem ints_oa {o : List Int} {v : Nat} (h : v < o.length) : (ints o)[v]? = some [dI (oa o v)] := by rw [oa_get h]; exact ints_at h
abbrev nxtD (E : List (Nat × Nat)) (n : Nat) : List DV := (List.range n).map fun i => vI (nI (nextL E i))
abbrev nxtR (E : List (Nat × Nat)) (n : Nat) : List (List DV) := (List.range n).map fun i => [vI (nI (nextL E i))]
theorem nxtR_flat (E : List (Nat × Nat)) (n : Nat) : (nxtR E n).flatten = nxtD E n := by
 unfold nxtR nxtD
 induction n with
 | zero => rfl
 | succ n ih => rw [List.range_succ, List.map_append, List.map_append, List.flatten_append, ih]; rfl
theorem nxtR_row (E : List (Nat × Nat)) (n : Nat) : ∀ cs, cs ∈ nxtR E n → cs.length = 1 := by
 intro cs hc
 obtain ⟨i, _, rfl⟩ := List.mem_map.1 hc
 rfl
theorem nxtR_get {E : List (Nat × Nat)} {n i : Nat} (h : i < n) : (nxtR E n)[i]? = some [vI (nI (nextL E i))] := by rw [List.getElem?_map, List.getElem?_range h]; rfl
theorem nxtD_get {E : List (Nat × Nat)} {n i : Nat} (h : i < n) : (nxtD E n)[i]? = some (vI (nI (nextL E i))) := by rw [List.getElem?_map, List.getElem?_range h]; rfl
theorem nxtD_len (E : List (Nat × Nat)) (n : Nat) : (nxtD E n).length = n := by simp
theorem nxtD_nil (n : Nat) : nxtD [] n = List.replicate n (vI []) := by
 refine List.ext_getElem? fun i => ?_
 rcases Nat.lt_or_ge i n with h | h
 ·rw [nxtD_get h, List.getElem?_replicate, if_pos h]; rfl
 ·rw [List.getElem?_eq_none (by simpa using h), List.getElem?_eq_none (by simpa using h)]
theorem nextL_len (E : List (Nat × Nat)) (f : Nat) : (nextL E f).length ≤ E.length := by unfold nextL; rw [List.length_map]; exact List.length_filter_le ..
theorem nextL_snoc (E : List (Nat × Nat)) (f t i : Nat) : nextL (E ++ [(f, t)]) i = nextL E i ++ (if f = i then [t] else []) := by
 unfold nextL
 rw [List.filter_append, List.map_append]
 congr 1
 by_cases h : f = i <;> simp [h]
theorem nxtD_snoc {E : List (Nat × Nat)} {n f t : Nat} : nxtD (E ++ [(f, t)]) n = (nxtD E n).set f (vI (nI (nextL E f) ++ [(t : Int)])) := by
 refine List.ext_getElem? fun i => ?_
 rcases Nat.lt_or_ge i n with h | h
 ·rw [nxtD_get h, nextL_snoc, List.getElem?_set]
  by_cases e : f = i
  ·subst e
   rw [if_pos rfl, if_pos rfl, if_pos (by simpa using h)]
   simp
  ·rw [if_neg e, if_neg e, nxtD_get h, List.append_nil]
 ·rw [List.getElem?_eq_none (by simpa using h), List.getElem?_eq_none (by simpa using h)]
theorem rows1_get {n i : Nat} {V : List Value} {v : Value} (h : i < n) (hv : V[i]? = some v) : (rowsV 1 n V)[i]? = some [.val v] := by
 rw [rowsV_get h]
 simp [hv]
theorem rows1_set {n i : Nat} {V : List Value} {v : Value} (hn : V.length = n) (h : i < n) : (rowsV 1 n V).set i [.val v] = rowsV 1 n (V.set i v) := by
 refine List.ext_getElem? fun k => ?_
 rcases Nat.lt_or_ge k n with g | g
 ·rw [List.getElem?_set, rowsV_len]
  by_cases e : i = k
  ·subst e
   rw [if_pos rfl, if_pos h, rows1_get h (v := v) (by rw [List.getElem?_set_self (by omega)])]
  ·obtain ⟨u, hu⟩ : ∃ u, V[k]? = some u := ⟨_, List.getElem?_eq_getElem (by omega)⟩
   rw [if_neg e, rows1_get g hu, rows1_get g (v := u) (by rw [List.getElem?_set_ne e]; exact hu)]
 ·rw [List.getElem?_eq_none (by rw [List.length_set, rowsV_len]; exact g), List.getElem?_eq_none (by rw [rowsV_len]; exact g)]
theorem rows1_rep (n : Nat) (v : Value) : rowsV 1 n (List.replicate n v) = List.replicate n [.val v] := by
 refine List.ext_getElem? fun k => ?_
 rcases Nat.lt_or_ge k n with g | g
 ·rw [rows1_get g (v := v) (by rw [List.getElem?_replicate, if_pos g]), List.getElem?_replicate, if_pos g]
 ·rw [List.getElem?_eq_none (by rw [rowsV_len]; exact g), List.getElem?_eq_none (by simpa using g)]
theorem ints_fl2 : ∀ (l : List Int), (ints l).flatten = l.map fun x => dI x
 | [] => rfl
 | a :: l => by
  have ih := ints_fl2 l
  unfold ints at ih ⊢
  rw [List.map_cons, List.flatten_cons, List.map_cons, ih]; rfl
theorem ints_fl (l : List Int) : ∀ cs, cs ∈ ints l → ∀ d, d ∈ cs → d.flat := by
 intro cs hc d hd
 obtain ⟨x, _, rfl⟩ := List.mem_map.1 hc
 obtain rfl := List.mem_singleton.1 hd
 exact trivial
theorem rows1_ints {l : List Int} {V : List Value} (hV : V.length = (ints l).length * 1) (h : ∀ (c : Nat) x, (ints l).flatten[c]? = some (.val x) → V[c]? = some x) : rowsV 1 (ints l).length V = ints l := by
 have hf := ints_fl2 l
 refine List.ext_getElem? fun k => ?_
 rcases Nat.lt_or_ge k l.length with g | g
 ·have := h k (.int .i64 l[k]) (by rw [hf, List.getElem?_map, List.getElem?_eq_getElem g]; rfl)
  rw [rows1_get (by rw [ints_len]; exact g) this, ints_at g]
 ·rw [List.getElem?_eq_none (by rw [rowsV_len, ints_len]; exact g), List.getElem?_eq_none (by rw [ints_len]; exact g)]
theorem rep_ints (n : Nat) (a : Int) : ints (List.replicate n a) = List.replicate n [dI a] := by unfold ints; rw [List.map_replicate]
theorem repN_set (n s : Nat) : ints ((List.replicate n (-1)).set s 0) = (ints (List.replicate n (-1))).set s [dI 0] := ints_set _ _ _
set_option maxHeartbeats 16000000 in
theorem distances_spec (E : List (Nat × Nat)) (n s : Nat) (hs : s < n) (hn : n ≤ 100000) (hEl : E.length ≤ 1000000) (hE : ∀ f t, (f, t) ∈ E → f < n ∧ t < n) : ASpec Tryz.prog 122 [aI n, .d (vSteps E), aI s] [] (Pure1 (.d (vI (distF E n s)))) := by
 have hRp := repeat_spec (-1) n hn
 have hB0 := BfsI.start hs hE
 refine ASpec.of Tryz.func122 rfl rfl fun C hC => ?_
 refine AC.seq (AC.region ?_)
 refine za ?_
 refine AL.nil (th_n (AC.seq ?_))
 refine AC.drawn' mixed_ok [[], [], [0,1], [], [3], [0,1,2], [0,1,2,3,4,5]] (by decide) ?_
 refine DF.op 0 [] 7 rfl rfl rfl (.free rfl (by exact h_litF rfl rfl rfl rfl rfl rfl rfl rfl)) rfl ?_
 refine DF.op 1 [] 7 rfl rfl rfl (.free rfl (NOp.of (by exact mv1 rfl))) rfl ?_
 refine DF.op 2 [0,1] 7 rfl rfl rfl (.free rfl (by exact h_fun (cs := []) en_Repeat rfl rfl (by repeat (first | exact rfl | exact DLead.same | refine ⟨_, _, rfl, ?_, ?_⟩)) (by repeat (exact True.intro)) hRp rfl rfl rfl rfl)) rfl ?_
 refine DF.op 3 [] 7 rfl rfl rfl (.free rfl (NOp.of (by exact mv1 rfl))) rfl ?_
 refine DF.op 4 [3] 7 rfl rfl rfl (.free rfl (by exact h_make (k := n) rfl rfl rfl rfl rfl rfl rfl rfl (by show 24 * n ≤ _; omega) (by omega))) rfl ?_
 refine DF.op 5 [0,1,2] 7 rfl rfl rfl (.free rfl (NOp.of (by exact as2 rfl))) rfl ?_
 refine DF.op 6 [0,1,2,3,4,5] 7 rfl rfl rfl (.free rfl (NOp.of (by exact as2 rfl))) rfl ?_
 refine DF.fin (ps := [(0,1),(0,3),(0,4),(1,0),(1,3),(1,4),(2,3),(2,4),(3,0),(3,1),(3,2),(3,5),(4,0),(4,1),(4,2),(4,5),(5,3),(5,4)]) 7 rfl (by decide +kernel) (by decide +kernel) (by rfl) ?_
 refine th_n (AC.seq (AC.seq (AC.region ?_)))
 refine zm ?_
 refine AL.p (by exact g_len_view (k := E.length) rfl rfl (stepL_len _)) rfl ?_
 refine zm ?_
 refine AL.nil (th_n (AC.block ?_))
 refine AC.loop (ι := Nat × List Value × (Nat → Prop)) (fun x => ⟨85, 600, [(2, aI s), (7, .own 100 n), (8, .own 101 n), (20, .d (vSteps E)), (21, aI E.length), (22, aI x.1)], [(100, some (.arr 3 1 (ints (List.replicate n (-1))))), (101, some (.arr 39 1 (rowsV 1 n x.2.1))), (102, some (.pred x.2.2 fun w => TL w x.2.2 (nxtD (E.take x.1) n) x.2.1))]⟩) (fun x => x.1 ≤ E.length ∧ x.2.1.length = n) (fun x => E.length - x.1) ((0, List.replicate n (.slice none 0 0), fun _ => False)) ?_ (⟨Nat.zero_le _, by simp⟩) ?_
 ·exact (Weak.nilsT 3 1 n).trans (zw [(100, 16), (101, 32), (102, 56)] hC (b := by dsimp only; rw [rows1_rep, List.take_zero, nxtD_nil]; repeat (first | exact True.intro | refine And.intro ?_ ?_ | exact rfl | refine ⟨_, _, rfl, rfl, ?_⟩)))
 ·rintro ⟨j, V, S⟩ ⟨hj, hV⟩
  dsimp only at hj hV ⊢
  refine AC.seq (AC.region ?_)
  refine zc ?_
  refine AL.nil (th_n (AC.seq ?_))
  refine AC.condD rfl (fun h0 => ?_) (fun h0 => ?_)
  ·refine AC.skip (th_n (AC.seq (AC.block (AC.seq ?_))))
   have hj1 : j < E.length := by omega
   have hget := stepL_get hj1
   have hin := hE E[j].1 E[j].2 (List.getElem_mem hj1)
   have htk : E.take (j + 1) = E.take j ++ [(E[j].1, E[j].2)] := by rw [List.take_add_one, List.getElem?_eq_getElem hj1]; rfl
   obtain ⟨f, hf⟩ : ∃ f, f = E[j].1 := ⟨_, rfl⟩
   obtain ⟨t, ht⟩ : ∃ t, t = E[j].2 := ⟨_, rfl⟩
   rw [← hf, ← ht] at hget hin htk
   clear hf ht
   refine AC.region ?_
   refine AL.p (by exact g_ia_view rfl rfl rfl rfl rfl (by rfl) (by assumption)) rfl ?_
   refine AL.p (by exact g_load_refN rfl rfl rfl rfl) rfl ?_
   refine AL.q (by exact h_alloc rfl) rfl ?_
   refine zs ?_
   refine AL.nil (th_n ?_)
   refine AC.weak (t := ⟨85, 700, [(2, aI s), (7, .own 100 n), (8, .own 101 n), (10, .ptr 103 0), (20, .d (vSteps E)), (21, aI E.length), (22, aI j)], [(100, some (.arr 3 1 (ints (List.replicate n (-1))))), (101, some (.arr 39 1 (rowsV 1 n V))), (102, some (.pred S fun w => TL w S (nxtD (E.take j) n) V)), (103, some (.cells 138 [aI f, aI t]))]⟩) (zw [(100, 100), (101, 101), (102, 102), (103, _)] hC) ?_
   obtain ⟨v, hv⟩ : ∃ v, V[f]? = some v := ⟨_, List.getElem?_eq_getElem (by omega)⟩
   have hrow0 := rows1_get hin.1 hv
   refine AC.weakR (WeakR.splitT 102 f (L := nxtD (E.take j) n) (V := V) (d := vI (nI (nextL (E.take j) f))) (v := v) rfl (fun w h => h) (nxtD_get hin.1) hv rfl) ?_
   rintro _ ⟨S1, S2, hS, rfl⟩
   refine AC.weakR (WeakR.openC 700 (e := 3) (sz := 1) (els := ints (nI (nextL (E.take j) f))) (v := v) rfl (fun w h => h) rfl rfl) ?_
   rintro _ ⟨p, V', S', ⟨hv', hp, hVl, hrow, hSS, hx⟩, rfl⟩
   rw [rows1_ints hVl hx]
   have hll := nextL_len (E.take j) f
   rw [List.length_take] at hll
   rw [ints_len] at hv' hp
   have hDs := nxtD_snoc (E := E.take j) (n := n) (f := f) (t := t)
   rw [← htk] at hDs
   have hDl := nxtD_len (E.take j) n
   obtain ⟨l, hl⟩ : ∃ l, l = nI (nextL (E.take j) f) := ⟨_, rfl⟩
   have hnl : l.length ≤ j := by rw [hl, nI_len]; omega
   rw [← hl] at hv' hp hDs ⊢
   clear hl hVl hrow hx hSS
   refine AC.drawnE mixed_ok [[], [], [1], [], [], [4], [3,4,5], [3,4,5,6], [], [8], [8,9], [3,4,5,6,7,8,9,10], [0,1,2,3,4,5,6,7,8,9,10,11], [0,1,2,3,4,5,6,7,8,9,10,11,12]] (by decide) ?_
   refine DE.op 0 [] 14 rfl rfl rfl (.free rfl (NOp.of (by exact mv2 rfl))) rfl ?_
   refine DE.op 1 [] 14 rfl rfl rfl (.free rfl (NOp.of (by exact g_fa_ptr rfl rfl rfl rfl rfl))) rfl ?_
   refine DE.op 2 [1] 14 rfl rfl rfl (.free rfl (NOp.of (by exact g_load_ptr rfl rfl rfl rfl rfl))) rfl ?_
   refine DE.op 3 [] 14 rfl rfl rfl (.free rfl (NOp.of (by exact mv2 rfl))) rfl ?_
   refine DE.op 4 [] 14 rfl rfl rfl (.free rfl (NOp.of (by exact g_fa_ptr rfl rfl rfl rfl rfl))) rfl ?_
   refine DE.op 5 [4] 14 rfl rfl rfl (.free rfl (NOp.of (by exact g_load_ptr rfl rfl rfl rfl rfl))) rfl ?_
   refine DE.op 6 [3,4,5] 14 rfl rfl rfl (.free rfl (NOp.of (by exact g_ia_own (i := f) (l := n) rfl rfl rfl rfl rfl rfl hin.1 rfl))) rfl ?_
   refine DE.op 7 [3,4,5,6] 14 rfl rfl rfl (.free rfl (NOp.of (by exact g_load_lock (il := 709) (ia := 708) (p := p) (i := f) (j := 0) rfl rfl rfl rfl rfl hrow0 rfl rfl hv' hp))) rfl ?_
   refine DE.op 8 [] 14 rfl rfl rfl (.free rfl (NOp.of (by exact g_fa_ptr rfl rfl rfl rfl rfl))) rfl ?_
   refine DE.op 9 [8] 14 rfl rfl rfl (.free rfl (NOp.of (by exact g_load_ptr rfl rfl rfl rfl rfl))) rfl ?_
   refine DE.op 10 [8,9] 14 rfl rfl rfl (.free rfl (by exact h_litF rfl rfl rfl rfl rfl rfl rfl rfl)) rfl ?_
   refine DE.op 11 [3,4,5,6,7,8,9,10] 14 rfl rfl rfl (.free rfl (by exact h_appendI l [(t : Int)] (.own rfl rfl (ints_len _).symm) (.view rfl) (by rw [List.length_append]; simp only [List.length_cons, List.length_nil]; omega) (by simp))) rfl ?_
   refine DE.op 12 [0,1,2,3,4,5,6,7,8,9,10,11] 14 rfl rfl rfl (.free rfl (NOp.of (by exact g_ia_own (i := f) (l := n) rfl rfl rfl rfl rfl rfl hin.1 rfl))) rfl ?_
   refine DE.opX 13 [0,1,2,3,4,5,6,7,8,9,10,11,12] 14 ((Value.int .i64 0, fun _ => False)) rfl rfl rfl rfl (h_storeRaw (i := f) (j := 0) rfl rfl rfl rfl rfl rfl (Nat.le_of_eq (ints_len _).symm) (List.take_of_length_le (Nat.le_of_eq (ints_len _))) (ints_fl _) rfl hrow0 (by decide) rfl) rfl (by decide) ?_
   rintro ⟨v2, S3⟩
   refine DE.fin (ps := [(0,1),(0,2),(0,3),(0,4),(0,5),(0,6),(0,7),(0,8),(0,9),(0,10),(0,11),(1,0),(1,3),(1,4),(1,5),(1,6),(1,7),(1,8),(1,9),(1,10),(1,11),(2,0),(2,3),(2,4),(2,5),(2,6),(2,7),(2,8),(2,9),(2,10),(2,11),(3,0),(3,1),(3,2),(3,4),(3,5),(3,8),(3,9),(3,10),(4,0),(4,1),(4,2),(4,3),(4,8),(4,9),(4,10),(5,0),(5,1),(5,2),(5,3),(5,8),(5,9),(5,10),(6,0),(6,1),(6,2),(6,8),(6,9),(6,10),(7,0),(7,1),(7,2),(7,8),(7,9),(7,10),(8,0),(8,1),(8,2),(8,3),(8,4),(8,5),(8,6),(8,7),(9,0),(9,1),(9,2),(9,3),(9,4),(9,5),(9,6),(9,7),(10,0),(10,1),(10,2),(10,3),(10,4),(10,5),(10,6),(10,7),(11,0),(11,1),(11,2)]) 14 rfl rfl (by decide +kernel) (by decide +kernel) (by rfl) ?_
   refine ib_n (th_n (AC.region ?_))
   refine zA ?_
   refine zm ?_
   refine AL.nil (th_n ?_)
   have hsv := rows1_set (v := v2) hV hin.1
   exact ⟨(j + 1, V.set f v2, fun k => S2 k ∨ S3 k), ⟨hj1, by rw [List.length_set]; exact hV⟩, by dsimp only; omega, (Weak.cons 102 (fun w => TX w S2 f (nxtD (E.take j) n) (V.set f v2)) rfl (fun w h => h.setV v2) (fun w w' hk h => h.turn hk)).trans ((Weak.joinT 102 820 f (S := fun k => S2 k ∨ S3 k) rfl rfl (fun w h => h) (fun k => Iff.rfl) (by rw [hDl]; exact hin.1) (by rw [List.getElem?_set_self (by omega)]) rfl).trans (zw [(100, 100), (101, 101), (102, 102)] hC (b := by rw [hDs, ← hsv]; repeat (first | exact True.intro | refine And.intro ?_ ?_ | exact rfl | refine ⟨_, _, rfl, rfl, ?_⟩))))⟩
  ·refine AC.exit (th_e (th_e (ib_y (th_n (AC.seq ?_)))))
   have hjj : j = E.length := by omega
   rw [hjj, List.take_length]
   refine AC.weakR (WeakR.closeN (els := nxtR E n) (V := V) 8 102 101 rfl (by simp) rfl (fun w h => by rw [nxtR_flat]; exact h) rfl (by simp) (nxtR_row E n) rfl) ?_
   rintro _ ⟨v0, S0, rfl⟩
   refine AC.weak (Weak.thaw 8 102 (x := .view 39 1 (nxtR E n)) rfl rfl (fun w h => h)) ?_
   refine AC.weak (t := ⟨85, 900, [(2, aI s), (7, .own 100 n), (8, .d (.view 39 1 (nxtR E n)))], [(100, some (.arr 3 1 (ints (List.replicate n (-1)))))]⟩) (zw [(100, 100)] hC) ?_
   have hr0 : (ints (List.replicate n (-1)))[s]? = some [dI (-1)] := by rw [rep_ints, List.getElem?_replicate, if_pos hs]
   refine AC.region ?_
   refine AL.p (by exact mv2 rfl) rfl ?_
   refine zm ?_
   refine AL.p (by exact g_ia_own (i := s) (l := n) rfl rfl rfl rfl rfl rfl hs rfl) rfl ?_
   refine AL.q (by exact h_store_arr (i := s) (j := 0) (d := dI 0) rfl rfl rfl rfl .same rfl hr0 (by decide)) rfl ?_
   refine AL.nil (th_n (AC.seq (AC.region ?_)))
   refine zm ?_
   refine AL.q (by exact h_lit rfl rfl rfl rfl rfl rfl rfl rfl) rfl ?_
   refine AL.p (by exact as2 rfl) rfl ?_
   refine AL.nil (th_n (AC.seq (AC.seq (AC.region ?_))))
   refine za ?_
   refine AL.nil (th_n (AC.block ?_))
   refine AC.loop (ι := List Int × List Nat × Nat) (fun x => ⟨85, 1200, [(7, .own 100 n), (8, .d (.view 39 1 (nxtR E n))), (11, .own 101 x.2.1.length), (12, aI x.2.2)], [(100, some (.arr 3 1 (ints x.1))), (101, some (.arr 3 1 (ints (nI x.2.1))))]⟩) (fun x => BfsI E n s x.1 x.2.1 x.2.2 0 ∧ ∀ v, oa x.1 v ≤ x.2.2) (fun x => n - x.2.2) (((List.replicate n (-1)).set s 0, [s], 0)) ?_ (⟨hB0, fun v => oa_start hs v⟩) ?_
   ·exact zw [(100, 100), (101, _)] hC (b := by rw [repN_set]; repeat (first | exact True.intro | refine And.intro ?_ ?_ | exact rfl | refine ⟨_, _, rfl, rfl, ?_⟩))
   ·rintro ⟨o, q, a⟩ ⟨hB, hbd⟩
    dsimp only at hB hbd ⊢
    have hql : q.length ≤ n := by have := hB.cnt; omega
    have hal := hB.al
    refine AC.seq (AC.seq (AC.region ?_))
    refine zm ?_
    refine AL.p (by exact mv2 rfl) rfl ?_
    refine AL.p (by exact g_len_own (sz := 1) (els := []) (e' := 0) rfl rfl (by simp only [maxLen]; omega)) rfl ?_
    refine zc ?_
    refine AL.nil (th_n ?_)
    refine AC.condD rfl (fun h1 => ?_) (fun h1 => ?_)
    ·refine AC.skip (th_n (AC.seq (AC.block (AC.seq ?_))))
     have ha : a < q.length := by omega
     have hqa := nI_get ha
     have hca : q.getD a 0 = q[a] := by rw [List.getD_eq_getElem?_getD, List.getElem?_eq_getElem ha]; rfl
     rw [← hca] at hqa
     obtain ⟨c, hc⟩ : ∃ c, c = q.getD a 0 := ⟨_, rfl⟩
     rw [← hc] at hqa
     have hc0 : 0 ≤ oa o c := by rw [hc, hca]; exact (hB.mem _).1 (List.getElem_mem ha)
     have hcn : c < n := by have := oa_lt hc0; rw [hB.len] at this; exact this
     have hnr := nxtR_get (E := E) hcn
     refine AC.region ?_
     refine zm ?_
     refine AL.p (by exact mv2 rfl) rfl ?_
     refine zm ?_
     refine AL.p (by exact g_ia_own (i := a) (l := q.length) rfl rfl rfl rfl rfl rfl ha rfl) rfl ?_
     refine AL.p (by exact g_load_arr1 rfl rfl rfl rfl (by rw [Nat.mul_one]; exact hqa)) rfl ?_
     refine AL.p (by exact g_ia_view (i := c) rfl rfl rfl rfl rfl rfl hnr) rfl ?_
     refine zr ?_
     refine AL.p (by exact g_len_view (k := (nextL E c).length) rfl rfl (by rw [ints_len, nI_len])) rfl ?_
     refine zm ?_
     refine AL.nil (th_n (AC.block ?_))
     refine AC.loop (ι := List Int × List Nat × Nat) (fun x => ⟨85, 1500, [(7, .own 100 n), (8, .d (.view 39 1 (nxtR E n))), (11, .own 101 x.2.1.length), (12, aI a), (57, .d (vI (nI (nextL E c)))), (58, aI (nextL E c).length), (59, aI x.2.2)], [(100, some (.arr 3 1 (ints x.1))), (101, some (.arr 3 1 (ints (nI x.2.1))))]⟩) (fun x => BfsI E n s x.1 x.2.1 a x.2.2 ∧ a < x.2.1.length ∧ x.2.1.getD a 0 = c ∧ (∀ v, oa x.1 v ≤ a + 1) ∧ oa x.1 c ≤ a ∧ 0 ≤ oa x.1 c ∧ x.2.2 ≤ (nextL E c).length) (fun x => (nextL E c).length - x.2.2) ((o, q, 0)) ?_ (⟨hB, ha, hc.symm, fun v => by have := hbd v; dsimp only; omega, hbd c, hc0, Nat.zero_le _⟩) ?_
     ·exact zw [(100, 100), (101, 101)] hC
     ·rintro ⟨o, q, j⟩ ⟨hB, ha, hqc, hbd, hbc, hc0, hj⟩
      dsimp only at hB ha hqc hbd hbc hc0 hj ⊢
      have hol := hB.len
      have hql : q.length ≤ n := by have := hB.cnt; omega
      refine AC.seq (AC.region ?_)
      refine zc ?_
      refine AL.nil (th_n (AC.seq ?_))
      refine AC.condD rfl (fun h2 => ?_) (fun h2 => ?_)
      ·refine AC.skip (th_n (AC.seq (AC.block (AC.seq ?_))))
       have hj1 : j < (nextL E c).length := by omega
       have hnl := nextL_len E c
       have hget := nI_get hj1
       have hno := hB.no ha (j := j)
       have hye := hB.yes ha (j := j)
       rw [hqc] at hno hye
       have hno := hno hj1
       have hye := hye hj1
       have htn : (nextL E c)[j] < n := (hE _ _ (nextL_mem.1 (List.getElem_mem hj1))).2
       obtain ⟨t, ht⟩ : ∃ t, t = (nextL E c)[j] := ⟨_, rfl⟩
       rw [← ht] at hget hno hye htn
       clear ht
       have hot := ints_oa (o := o) (v := t) (by omega)
       have hoc := ints_oa (o := o) (v := c) (by omega)
       have hqa := nI_at ha hqc
       refine AC.region ?_
       refine AL.p (by exact g_ia_view rfl rfl rfl rfl rfl (by rfl) (by assumption)) rfl ?_
       refine zr ?_
       refine za ?_
       refine AL.nil (th_n (AC.seq (AC.region ?_)))
       refine AL.p (by exact mv2 rfl) rfl ?_
       refine zm ?_
       refine AL.p (by exact g_ia_own (i := t) (l := n) rfl rfl rfl rfl rfl rfl htn rfl) rfl ?_
       refine AL.p (by exact g_load_arr1 rfl rfl rfl rfl (by rw [Nat.mul_one]; exact hot)) rfl ?_
       refine zc ?_
       refine AL.nil (th_n ?_)
       refine AC.condD rfl (fun h3 => ?_) (fun h3 => ?_)
       ·refine AC.seq (AC.region ?_)
        refine AL.p (by exact mv2 rfl) rfl ?_
        refine zm ?_
        refine AL.p (by exact mv2 rfl) rfl ?_
        refine AL.p (by exact mv2 rfl) rfl ?_
        refine zm ?_
        refine AL.p (by exact g_ia_own (i := a) (l := q.length) rfl rfl rfl rfl rfl rfl ha rfl) rfl ?_
        refine AL.p (by exact g_load_arr1 rfl rfl rfl rfl (by rw [Nat.mul_one]; exact hqa)) rfl ?_
        refine AL.p (by exact g_ia_own (i := c) (l := n) rfl rfl rfl rfl rfl rfl (by omega) rfl) rfl ?_
        refine AL.p (by exact g_load_arr1 rfl rfl rfl rfl (by rw [Nat.mul_one]; exact hoc)) rfl ?_
        refine zA ?_
        refine AL.p (by exact g_ia_own (i := t) (l := n) rfl rfl rfl rfl rfl rfl htn rfl) rfl ?_
        refine AL.q (by exact h_store_arr (i := t) (j := 0) (d := dI (oa o c + 1)) rfl rfl rfl rfl .same rfl hot (by decide)) rfl ?_
        refine AL.nil (th_n (AC.region ?_))
        refine AL.p (by exact mv2 rfl) rfl ?_
        refine zm ?_
        refine AL.q (by exact h_litF rfl rfl rfl rfl rfl rfl rfl rfl) rfl ?_
        refine AL.q (by exact h_appendI (nI q) [(t : Int)] (.own rfl rfl (by rw [ints_len, nI_len])) (.view rfl) (by rw [List.length_append, nI_len]; simp only [List.length_cons, List.length_nil]; omega) (by simp)) rfl ?_
        refine AL.p (by exact as2 rfl) rfl ?_
        refine AL.nil (ib_n (th_n (AC.region ?_)))
        refine zA ?_
        refine zm ?_
        refine AL.nil (th_n ?_)
        (have hlt : oa o t < 0 := (by assumption); have e := hye hlt; have hct : c ≠ t := (fun q => by rw [q] at hc0; omega); exact ⟨(o.set t (oa o c + 1), q ++ [t], j + 1), ⟨e, by rw [List.length_append]; omega, by rw [getD_app1 ha]; exact hqc, fun v => by dsimp only; (by_cases g : v = t); (rw [g, oa_set_self (by omega)]; omega); (rw [oa_set_ne g]; exact hbd v), by dsimp only; rw [oa_set_ne hct]; exact hbc, by dsimp only; rw [oa_set_ne hct]; exact hc0, by dsimp only; omega⟩, by dsimp only; omega, Weak.ren _ [(100, 100), (101, _)] hC rfl (by rw [List.length_append, nI_len, List.length_append]; repeat (first | exact True.intro | refine And.intro ?_ ?_ | exact DLead.same | exact rfl | refine ⟨_, rfl, ?_⟩)) (by rw [ints_set, show nI (q ++ [t]) = nI q ++ [(t : Int)] by unfold nI; rw [List.map_append]; rfl]; repeat (first | exact True.intro | refine And.intro ?_ ?_ | exact rfl | refine ⟨_, _, rfl, rfl, ?_⟩)) rfl rfl rfl⟩)
       ·refine AC.skip (ib_n (th_n (AC.region ?_)))
        refine zA ?_
        refine zm ?_
        refine AL.nil (th_n ?_)
        (have hge : 0 ≤ oa o t := (by omega); have e := hno hge; exact ⟨(o, q, j + 1), ⟨e, ha, hqc, hbd, hbc, hc0, by dsimp only; omega⟩, by dsimp only; omega, zw [(100, 100), (101, 101)] hC⟩)
      ·refine AC.exit (th_e (th_e (ib_y (ib_n (th_n (AC.region ?_))))))
       refine zm ?_
       refine zA ?_
       refine za ?_
       refine AL.nil (th_n ?_)
       have e := hB.next ha (by rw [hqc]; omega)
       exact ⟨(o, q, a + 1), ⟨e, hbd⟩, by dsimp only; omega, zw [(100, 100), (101, 101)] hC⟩
    ·refine AC.exit (th_e (th_e (ib_y (th_n (AC.seq ?_)))))
     have haq : a = q.length := by omega
     rw [haq] at hB
     have hd := hB.dist.eq
     rw [hd]
     refine AC.weak (Weak.freeze (i := 7) rfl rfl (by rw [ints_len, hB.len]; exact Nat.le_refl _) (List.take_of_length_le (by rw [ints_len, hB.len]; exact Nat.le_refl _))) ?_
     refine AC.region ?_
     refine zm ?_
     refine za ?_
     refine AL.nil (th_n (AC.ret (bq_r ?_)))
     exact ret1 rfl rfl
theorem en_distances : Enters Tryz.prog 122 := enters_of Tryz.func122 rfl rfl
theorem DistOf.lt {E : List (Nat × Nat)} {n s : Nat} {o : List Int} (h : DistOf E n s o) {v : Nat} (hv : 0 ≤ oa o v) : v < n := by have := oa_lt hv; rw [h.len] at this; exact this
theorem distF_le {E : List (Nat × Nat)} {n s : Nat} (hs : s < n) (hE : ∀ f t, (f, t) ∈ E → f < n ∧ t < n) (v : Nat) : -1 ≤ oa (distF E n s) v ∧ oa (distF E n s) v ≤ n := by
 obtain ⟨o, h⟩ := rnd_ex hs hE n
 rw [h.dist.eq]
 exact ⟨h.lo v, h.hi0 rfl v⟩
theorem fire_ready {N : Net} {m : List UInt8} (hb : bitsB m N.places = true) (hM : NetM N m) {t : Int} (ht : t ∈ readyL N m N.ts.length) : ∃ i, ∃ hi : i < N.ts.length, t = (i : Int) ∧ fireI N m t = fireT N.ts[i] m := by
 unfold readyL at ht
 obtain ⟨k, hk, rfl⟩ := List.mem_map.1 ht
 have h := (List.mem_filter.1 hk).2
 cases e : N.ts[k]? with
 | none => rw [e] at h; cases h
 | some u =>
  obtain ⟨hk2, rfl⟩ := List.getElem?_eq_some_iff.1 e
  rw [e] at h
  refine ⟨k, hk2, rfl, ?_⟩
  rw [fireI_at hk2, ← ready_enabled hb (hM _ (List.getElem_mem hk2)).1]
  exact if_pos h
def rMark (r : Option (Int × Int)) : Int := match r with | some p => (if 0 ≤ p.1 then p.1 else 0) | none => 0
def rBad (r : Option (Int × Int)) : Int := match r with | some p => p.2 | none => -1
def rFull (r : Option (Int × Int)) : Bool := match r with | some p => decide (p.1 < 0) | none => false
abbrev zR : List AV := [.d (.val (.slice none 0 0)), .d (.val (.slice none 0 0)), .d (.val (.slice none 0 0)), aI 0, aI 0, aT false]
abbrev refA (F : Ex × Option (Int × Int)) (a b c : Nat) : List AV := [.own a F.1.marks.length, .own b F.1.moves.length, .own c (byL F.1).length, aI (rMark F.2), aI (rBad F.2), aT (rFull F.2)]
theorem posI_neg {m : List UInt8} {l : List (List UInt8)} (h : posI m l < 0) : posL m l = none := by
 unfold posI at h
 split at h
 ·omega
 ·assumption
theorem posI_nat {m : List UInt8} {l : List (List UInt8)} (h : ¬ posI m l < 0) : ∃ i, posL m l = some i ∧ posI m l = (i : Int) := by
 cases hp : posL m l with
 | none => unfold posI at h; rw [hp] at h; exact absurd (show (-1 : Int) < 0 by decide) h
 | some i => exact ⟨i, rfl, by unfold posI; rw [hp]⟩
theorem rMark_nat (k : Nat) (t : Int) : rMark (some ((k : Int), t)) = (k : Int) := by unfold rMark; exact if_pos (Int.natCast_nonneg k)
theorem rFull_nat (k : Nat) (t : Int) : rFull (some ((k : Int), t)) = false := by unfold rFull; exact decide_eq_false (by show ¬ (k : Int) < 0; omega)
set_option maxHeartbeats 16000000 in
theorem sReach_spec (s : Stg) (hB : StgB s) (hg : goodS s = true) : ASpec Tryz.prog 99 [stgA s] [] (Fun1 (.agg (refA (explR s.net s.start) 0 1 2)) [(0, .arr 9 1 (tsX (explR s.net s.start).1.marks)), (1, .arr 52 3 (mvL (explR s.net s.start).1.moves)), (2, .arr 52 3 (mvL (byL (explR s.net s.start).1)))]) := by
 obtain ⟨hg1, hg2⟩ : goodN s.net = true ∧ bitsB s.start s.net.places = true := by
  simp only [goodS, Bool.and_eq_true] at hg
  exact hg.1
 have hpl := good_places hg1
 have hun : explR s.net s.start = exOut s.net 301 0 ⟨[s.start], []⟩ := rfl
 obtain ⟨F, hF⟩ : ∃ F, F = explR s.net s.start := ⟨_, rfl⟩
 rw [← hF] at hun ⊢
 have hI0 : ExI s.net ⟨[s.start], []⟩ 0 := ⟨by show 1 ≤ 300; omega, fun m hm => by rw [List.mem_singleton.1 hm]; exact hg2, Nat.le_refl _⟩
 have hst := bits_len hg2
 clear hF
 refine ASpec.of Tryz.func99 rfl rfl fun C hC => ?_
 refine AC.seq (AC.region ?_)
 refine AL.q (by exact h_boxF rfl rfl) rfl ?_
 refine AL.q (by exact h_alloc rfl) rfl ?_
 refine AL.nil (th_n (AC.seq (AC.region ?_)))
 refine zf ?_
 refine zr ?_
 refine AL.q (by exact h_lit rfl rfl rfl rfl rfl rfl rfl rfl) rfl ?_
 refine AL.p (by exact g_build rfl rfl rfl) rfl ?_
 refine AL.p (by exact g_build rfl rfl rfl) rfl ?_
 refine AL.q (by exact h_lit rfl rfl rfl rfl rfl rfl rfl rfl) rfl ?_
 refine AL.p (by exact g_build rfl rfl rfl) rfl ?_
 refine AL.q (by exact h_alloc rfl) rfl ?_
 refine zs ?_
 refine AL.nil (th_n (AC.seq (AC.seq (AC.region ?_))))
 refine za ?_
 refine AL.nil (th_n (AC.block ?_))
 refine AC.loop (ι := Nat × Ex) (fun x => ⟨107, 600, [(1, .d (.ref (stgD s))), (2, .ptr 201 0), (3, .ptr 200 0), (4, aI x.1)], [(200, some (.cells 118 [.own 101 x.2.marks.length, .own 102 x.2.moves.length, .own 103 (byL x.2).length, aI 0, aI (-1), aT false])), (101, some (.arr 9 1 (tsX x.2.marks))), (102, some (.arr 52 3 (mvL x.2.moves))), (103, some (.arr 52 3 (mvL (byL x.2)))), (201, some (.cells 118 zR))]⟩) (fun x => x.1 ≤ x.2.marks.length ∧ ExI s.net x.2 (24 * x.1) ∧ ByI s.net x.2 x.1 ∧ exOut s.net (301 - x.1) x.1 x.2 = F) (fun x => 301 - x.1) ((0, ⟨[s.start], []⟩)) ?_ (⟨Nat.zero_le _, hI0, ByI.start _ _, hun.symm⟩) ?_
 ·exact (Weak.nilOwnP 3 1 (e := 52) (sz := 3) rfl rfl rfl rfl rfl).trans (zw [(200, _), (101, _), (102, _), (103, _), (201, _)] hC)
 ·rintro ⟨k, x⟩ ⟨hk, hI, hY, hrun⟩
  dsimp only at hk hI hY hrun ⊢
  have hxn := hI.n
  refine AC.seq (AC.seq (AC.region ?_))
  refine zm ?_
  refine zF ?_
  refine zF ?_
  refine zl ?_
  refine AL.p (by exact g_len_own (sz := 1) (els := []) (e' := 0) rfl rfl (by simp only [maxLen]; omega)) rfl ?_
  refine zc ?_
  refine AL.nil (th_n ?_)
  refine AC.condD rfl (fun h0 => ?_) (fun h0 => ?_)
  ·refine AC.skip (th_n (AC.seq (AC.block (AC.seq ?_))))
   have hk1 : k < x.marks.length := by omega
   have hmk := mkAt_nat hk1
   have hbm := hI.b _ (List.getElem_mem hk1)
   rw [← hmk] at hbm
   have hrow : (tsX x.marks)[k]? = some [dS (bstr (mkAt x k))] := by rw [hmk]; exact tsX_get hk1
   obtain ⟨n, hn⟩ : ∃ n, 301 - k = n + 1 := ⟨300 - k, by omega⟩
   rw [hn, exOut, if_pos hk1] at hrun
   obtain ⟨m, hm⟩ : ∃ m, m = mkAt x k := ⟨_, rfl⟩
   rw [← hm] at hbm hrow hrun
   have hNM := good_netM hg1 hbm
   have hEn := l1Enabled_spec s.net m hB.n hNM
   have hLl := readyL_len s.net m s.net.ts.length
   have hfr := fun t => fire_ready (t := t) hbm hNM
   have hLin := readyL_in s.net m s.net.ts.length
   obtain ⟨L, hL⟩ : ∃ L, L = readyL s.net m s.net.ts.length := ⟨_, rfl⟩
   simp only [← hL] at hEn hLl hrun hfr hLin
   have hml := bits_len hbm
   have hmarks : x.marks[k]? = some m := by rw [List.getElem?_eq_getElem hk1, hm, hmk]
   obtain ⟨Z, hZ⟩ : ∃ Z, Z = exIn s.net k m L x := ⟨_, rfl⟩
   rw [← hZ] at hrun
   clear hL
   refine AC.drawn' mixed_ok [[], [0], [], [2], [2,3], [], [2,3,4,5], [2,3,4,5,6], [0,1,2,3,4,5,6,7], [0,1,2,3,4,5,6,7,8], []] (by decide) ?_
   refine DF.op 0 [] 11 rfl rfl rfl (.free rfl (NOp.of (by exact g_fa_ref rfl rfl rfl rfl rfl rfl))) rfl ?_
   refine DF.op 1 [0] 11 rfl rfl rfl (.free rfl (NOp.of (by exact g_load_refN rfl rfl rfl rfl))) rfl ?_
   refine DF.op 2 [] 11 rfl rfl rfl (.free rfl (NOp.of (by exact g_fa_ptr rfl rfl rfl rfl rfl))) rfl ?_
   refine DF.op 3 [2] 11 rfl rfl rfl (.free rfl (NOp.of (by exact g_fa_ptr rfl rfl rfl rfl rfl))) rfl ?_
   refine DF.op 4 [2,3] 11 rfl rfl rfl (.free rfl (NOp.of (by exact g_load_ptr rfl rfl rfl rfl rfl))) rfl ?_
   refine DF.op 5 [] 11 rfl rfl rfl (.free rfl (NOp.of (by exact mv1 rfl))) rfl ?_
   refine DF.op 6 [2,3,4,5] 11 rfl rfl rfl (.free rfl (NOp.of (by exact g_ia_own (i := k) (l := x.marks.length) rfl rfl rfl rfl rfl rfl hk1 rfl))) rfl ?_
   refine DF.op 7 [2,3,4,5,6] 11 rfl rfl rfl (.free rfl (NOp.of (by exact g_load_arr1 rfl rfl rfl rfl (by rw [Nat.mul_one]; exact hrow)))) rfl ?_
   refine DF.op 8 [0,1,2,3,4,5,6,7] 11 rfl rfl rfl (.free rfl (by exact h_pure en_l1Enabled rfl rfl (by repeat (first | exact rfl | exact DLead.same | refine ⟨_, _, rfl, ?_, ?_⟩ | refine ⟨_, rfl, ?_⟩)) hEn rfl)) rfl ?_
   refine DF.op 9 (List.range 9) 11 rfl rfl rfl (.free rfl (NOp.of (by exact g_len_view (k := L.length) rfl rfl (ints_len _)))) rfl ?_
   refine DF.op 10 [] 11 rfl rfl rfl (.free rfl (NOp.of (by exact mv1 rfl))) rfl ?_
   refine DF.fin (ps := [(0,2),(0,3),(0,4),(0,5),(0,6),(0,7),(0,10),(1,2),(1,3),(1,4),(1,5),(1,6),(1,7),(1,10),(2,0),(2,1),(2,5),(2,10),(3,0),(3,1),(3,5),(3,10),(4,0),(4,1),(4,5),(4,10),(5,0),(5,1),(5,2),(5,3),(5,4),(5,10),(6,0),(6,1),(6,10),(7,0),(7,1),(7,10),(8,10),(9,10),(10,0),(10,1),(10,2),(10,3),(10,4),(10,5),(10,6),(10,7),(10,8),(10,9)]) 11 rfl (by decide +kernel) (by decide +kernel) (by rfl) ?_
   refine th_n (AC.block ?_)
   refine AC.loop (ι := Nat × Ex) (fun y => ⟨107, 900, [(1, .d (.ref (stgD s))), (2, .ptr 201 0), (3, .ptr 200 0), (4, aI k), (33, .d (vI L)), (34, aI L.length), (35, aI y.1)], [(200, some (.cells 118 [.own 101 y.2.marks.length, .own 102 y.2.moves.length, .own 103 (byL y.2).length, aI 0, aI (-1), aT false])), (101, some (.arr 9 1 (tsX y.2.marks))), (102, some (.arr 52 3 (mvL y.2.moves))), (103, some (.arr 52 3 (mvL (byL y.2)))), (201, some (.cells 118 zR))]⟩) (fun y => y.1 ≤ L.length ∧ k < y.2.marks.length ∧ y.2.marks[k]? = some m ∧ ExI s.net y.2 (24 * k + y.1) ∧ ByI s.net y.2 k ∧ exIn s.net k m (L.drop y.1) y.2 = Z) (fun y => L.length - y.1) ((0, x)) ?_ (⟨Nat.zero_le _, hk1, hmarks, hI, hY, hZ.symm⟩) ?_
   ·exact zw [(200, 200), (101, 101), (102, 102), (103, 103), (201, 201)] hC
   ·rintro ⟨j, y⟩ ⟨hj, hky, hym, hJ, hY, hin⟩
    dsimp only at hj hky hym hJ hY hin ⊢
    have hyn := hJ.n
    have hyl := hJ.l
    refine AC.seq (AC.region ?_)
    refine zc ?_
    refine AL.nil (th_n (AC.seq ?_))
    refine AC.condD rfl (fun h1 => ?_) (fun h1 => ?_)
    ·refine AC.skip (th_n (AC.seq (AC.block (AC.seq ?_))))
     have hj1 : j < L.length := by omega
     have hget := ints_at hj1
     have htm := hLin _ (List.getElem_mem hj1)
     obtain ⟨i, hi, hti, hfi⟩ := hfr _ (List.getElem_mem hj1)
     rw [List.drop_eq_getElem_cons hj1, exIn] at hin
     obtain ⟨t, ht⟩ : ∃ t, t = L[j] := ⟨_, rfl⟩
     rw [← ht] at hget hin htm hti hfi
     clear ht
     have hrowy : (tsX y.marks)[k]? = some [dS (bstr m)] := by rw [List.getElem?_map, hym]; rfl
     have hti2 := hB.n.t _ (List.getElem_mem hi)
     have hFi := l1Fire_spec s.net m i hi (by omega) (by omega) (by omega) (hNM _ (List.getElem_mem hi)).1 (hNM _ (List.getElem_mem hi)).2
     rw [← hfi, ← hti] at hFi
     have hfb := fireI_bits (N := s.net) (t := t) hbm
     obtain ⟨f, hf⟩ : ∃ f, f = fireI s.net m t := ⟨_, rfl⟩
     rw [← hf] at hFi hfb hin
     clear hf hfi hti
     have hbyl := byL_len hY.pos
     refine AC.region ?_
     refine AL.p (by exact g_ia_view rfl rfl rfl rfl rfl (by rfl) (by assumption)) rfl ?_
     refine zr ?_
     refine za ?_
     refine AL.nil (th_n (AC.seq ?_))
     refine AC.drawn' mixed_ok [[], [0], [], [2], [2,3], [], [2,3,4,5], [2,3,4,5,6], [], [0,1,2,3,4,5,6,7,8], [0,1,2,3,4,5,6,7,8,9], [0,1,2,3,4,5,6,7,8,9,10], [0,1,2,3,4,5,6,7,8,9,10], [0,1,2,3,4,5,6,7,8,9,10,11], [0,1,2,3,4,5,6,7,8,9,10,11,12,13]] (by decide) ?_
     refine DF.op 0 [] 15 rfl rfl rfl (.free rfl (NOp.of (by exact g_fa_ref rfl rfl rfl rfl rfl rfl))) rfl ?_
     refine DF.op 1 [0] 15 rfl rfl rfl (.free rfl (NOp.of (by exact g_load_refN rfl rfl rfl rfl))) rfl ?_
     refine DF.op 2 [] 15 rfl rfl rfl (.free rfl (NOp.of (by exact g_fa_ptr rfl rfl rfl rfl rfl))) rfl ?_
     refine DF.op 3 [2] 15 rfl rfl rfl (.free rfl (NOp.of (by exact g_fa_ptr rfl rfl rfl rfl rfl))) rfl ?_
     refine DF.op 4 [2,3] 15 rfl rfl rfl (.free rfl (NOp.of (by exact g_load_ptr rfl rfl rfl rfl rfl))) rfl ?_
     refine DF.op 5 [] 15 rfl rfl rfl (.free rfl (NOp.of (by exact mv1 rfl))) rfl ?_
     refine DF.op 6 [2,3,4,5] 15 rfl rfl rfl (.free rfl (NOp.of (by exact g_ia_own (i := k) (l := y.marks.length) rfl rfl rfl rfl rfl rfl hky rfl))) rfl ?_
     refine DF.op 7 [2,3,4,5,6] 15 rfl rfl rfl (.free rfl (NOp.of (by exact g_load_arr1 rfl rfl rfl rfl (by rw [Nat.mul_one]; exact hrowy)))) rfl ?_
     refine DF.op 8 [] 15 rfl rfl rfl (.free rfl (NOp.of (by exact mv1 rfl))) rfl ?_
     refine DF.op 9 (List.range 9) 15 rfl rfl rfl (.free rfl (by exact h_pure en_l1Fire rfl rfl (by repeat (first | exact rfl | exact DLead.same | refine ⟨_, _, rfl, ?_, ?_⟩ | refine ⟨_, rfl, ?_⟩)) hFi rfl)) rfl ?_
     refine DF.op 10 (List.range 10) 15 rfl rfl rfl (.free rfl (NOp.of (by exact mv5 rfl))) rfl ?_
     refine DF.op 11 (List.range 11) 15 rfl rfl rfl (.free rfl (NOp.of (by exact g_extract (r := .d _) rfl rfl))) rfl ?_
     refine DF.op 12 (List.range 11) 15 rfl rfl rfl (.free rfl (NOp.of (by exact g_extract (r := .d _) rfl rfl))) rfl ?_
     refine DF.op 13 (List.range 12) 15 rfl rfl rfl (.free rfl (NOp.of (by exact as1 rfl))) rfl ?_
     refine DF.op 14 (List.range 14) 15 rfl rfl rfl (.free rfl (NOp.of (by exact as1 rfl))) rfl ?_
     refine DF.fin (ps := [(0,2),(0,3),(0,4),(0,5),(0,6),(0,7),(0,8),(1,2),(1,3),(1,4),(1,5),(1,6),(1,7),(1,8),(2,0),(2,1),(2,5),(2,8),(3,0),(3,1),(3,5),(3,8),(4,0),(4,1),(4,5),(4,8),(5,0),(5,1),(5,2),(5,3),(5,4),(5,8),(6,0),(6,1),(6,8),(7,0),(7,1),(7,8),(8,0),(8,1),(8,2),(8,3),(8,4),(8,5),(8,6),(8,7),(11,12),(12,11),(12,13),(13,12)]) 15 rfl (by decide +kernel) (by decide +kernel) (by rfl) ?_
     refine th_n (AC.seq (AC.seq (AC.region ?_)))
     refine zm ?_
     refine AL.p (by exact g_not rfl) rfl ?_
     refine AL.nil (th_n ?_)
     refine AC.condB rfl (fun h2 => ?_) (fun h2 => ?_)
     ·refine AC.seq ?_
      have qf : ¬ f.2 = true := by simpa using ‹(!f.2) = true›
      rw [if_neg qf] at hin
      have e : F = (y, some ((k : Int), t)) := by rw [← hrun, ← hin]
      refine AC.region ?_
      refine zm ?_
      refine zF ?_
      refine zs ?_
      refine AL.nil (th_n (AC.seq (AC.region ?_)))
      refine zm ?_
      refine zF ?_
      refine zs ?_
      refine AL.nil (th_n (AC.seq (AC.region ?_)))
      refine AL.p (by exact g_load_ptrN rfl rfl rfl rfl rfl) rfl ?_
      refine zs ?_
      refine AL.nil (th_n (AC.ret (th_r (ib_r (th_r (th_r (ib_r (ib_r (th_r (th_r (ib_r (th_r (bq_r ?_)))))))))))))
      exact retN [(0, 101), (1, 102), (2, 103)] rfl (by rw [e]; show AV.leads _ (.agg [.own 0 y.marks.length, .own 1 y.moves.length, .own 2 (byL y).length, aI (rMark (some ((k : Int), t))), aI t, aT (rFull (some ((k : Int), t)))]) _; rw [rMark_nat, rFull_nat]; repeat (first | exact DLead.same | exact rfl | refine ⟨_, rfl, ?_⟩ | refine ⟨_, _, rfl, ?_, ?_⟩)) (by rw [e]; repeat (first | exact True.intro | refine And.intro ?_ ?_ | exact rfl | refine ⟨_, _, rfl, rfl, ?_⟩)) rfl rfl
     ·refine AC.skip (th_n (AC.seq ?_))
      have qf : f.2 = true := by simpa using ‹(!f.2) = false›
      rw [if_pos qf] at hin
      have hfbb := hfb qf
      have hFd := l4Find_spec y.marks f.1 (by omega)
      have hpn := posI_neg (m := f.1) (l := y.marks)
      have hps := posI_nat (m := f.1) (l := y.marks)
      have hpb := posI_in f.1 y.marks
      obtain ⟨p, hp⟩ : ∃ p, p = posI f.1 y.marks := ⟨_, rfl⟩
      rw [← hp] at hFd hpn hps hpb
      clear hp
      refine AC.region ?_
      refine zF ?_
      refine zF ?_
      refine zl ?_
      refine zm ?_
      refine AL.q (by exact h_borrow [101] en_l4Find rfl rfl hFd (.cons (.of (.own (id := 101) rfl rfl (Nat.le_of_eq (tsX_len _).symm) (List.take_of_length_le (Nat.le_of_eq (tsX_len _))))) (.cons (.of .d) .nil)) rfl) rfl ?_
      refine za ?_
      refine AL.nil (th_n ?_)
      refine AC.cut (fun (z : Ex × Int × Nat × Nat × Int) => ⟨107, 1500, [(1, .d (.ref (stgD s))), (2, .ptr 201 0), (3, .ptr 200 0), (4, aI k), (6, aI t), (9, aI z.2.1), (33, .d (vI L)), (34, aI L.length), (35, aI j)], [(200, some (.cells 118 [.own 101 z.1.marks.length, .own 102 y.moves.length, .own 103 (byL z.1).length, aI 0, aI (-1), aT false])), (101, some (.arr 9 1 (tsX z.1.marks))), (102, some (.arr 52 3 (mvL y.moves))), (103, some (.arr 52 3 (mvL (byL z.1)))), (201, some (.cells 118 zR))]⟩) (fun z => exIn s.net k m (L.drop (j + 1)) z.1 = Z ∧ z.1.moves = y.moves ++ [⟨k, t, z.2.1⟩] ∧ k < z.1.marks.length ∧ z.1.marks[k]? = some m ∧ ExI s.net z.1 (24 * k + (j + 1)) ∧ ByI s.net z.1 k) ?_ ?_
      ·refine AC.seq (AC.region ?_)
       refine zm ?_
       refine zc ?_
       refine AL.nil (th_n ?_)
       refine AC.condD rfl (fun h3 => ?_) (fun h3 => ?_)
       ·refine AC.seq (AC.seq ?_)
        have hpnn := hpn (by assumption)
        rw [hpnn] at hin
        dsimp only at hin
        refine AC.region ?_
        refine zF ?_
        refine zF ?_
        refine zl ?_
        refine AL.p (by exact g_len_own (sz := 1) (els := []) (e' := 0) rfl rfl (by simp only [maxLen]; omega)) rfl ?_
        refine zc ?_
        refine AL.nil (th_n ?_)
        refine AC.condD rfl (fun h4 => ?_) (fun h4 => ?_)
        ·refine AC.seq ?_
         have hlen : y.marks.length = 300 := by omega
         rw [if_pos hlen] at hin
         have e : F = (y, some ((-1 : Int), (-1 : Int))) := by rw [← hrun, ← hin]
         refine AC.region ?_
         refine zF ?_
         refine zs ?_
         refine AL.nil (th_n (AC.seq (AC.region ?_)))
         refine AL.p (by exact g_load_ptrN rfl rfl rfl rfl rfl) rfl ?_
         refine zs ?_
         refine AL.nil (th_n (AC.ret (th_r (th_r (ib_r (th_r (th_r (ib_r (ib_r (th_r (th_r (ib_r (th_r (bq_r ?_))))))))))))))
         exact retN [(0, 101), (1, 102), (2, 103)] rfl (by rw [e]; show AV.leads _ (.agg [.own 0 y.marks.length, .own 1 y.moves.length, .own 2 (byL y).length, aI (rMark (some ((-1 : Int), (-1 : Int)))), aI (-1), aT (rFull (some ((-1 : Int), (-1 : Int))))]) _; rw [show rMark (some ((-1 : Int), (-1 : Int))) = 0 from rfl, show rFull (some ((-1 : Int), (-1 : Int))) = true from rfl]; repeat (first | exact DLead.same | exact rfl | refine ⟨_, rfl, ?_⟩ | refine ⟨_, _, rfl, ?_, ?_⟩)) (by rw [e]; repeat (first | exact True.intro | refine And.intro ?_ ?_ | exact rfl | refine ⟨_, _, rfl, rfl, ?_⟩)) rfl rfl
        ·refine AC.skip (th_n (AC.seq ?_))
         have hlen : ¬ y.marks.length = 300 := by omega
         rw [if_neg hlen] at hin
         have hnewB := hY.new_by (t := t) (m := f.1)
         have hnewI := hY.new (t := t) (m := f.1) hky htm
         refine AC.region ?_
         refine zF ?_
         refine zF ?_
         refine zl ?_
         refine AL.p (by exact g_len_own (sz := 1) (els := []) (e' := 0) rfl rfl (by simp only [maxLen]; omega)) rfl ?_
         refine za ?_
         refine AL.nil (th_n (AC.seq (AC.region ?_)))
         refine zF ?_
         refine zF ?_
         refine zl ?_
         refine zm ?_
         refine AL.q (by exact h_litF rfl rfl rfl rfl rfl rfl rfl rfl) rfl ?_
         refine AL.q (by exact h_appendX y.marks [f.1] (.own rfl rfl (tsX_len _).symm) (.view rfl) (by rw [List.length_append]; simp only [List.length_cons, List.length_nil]; omega) (by simp)) rfl ?_
         refine zF ?_
         refine zF ?_
         refine zs ?_
         refine AL.nil (th_n (AC.region ?_))
         refine zF ?_
         refine zl ?_
         refine zm ?_
         refine zm ?_
         refine zm ?_
         refine AL.p (by exact g_build rfl rfl rfl) rfl ?_
         refine AL.q (by exact h_litF rfl rfl rfl rfl rfl rfl rfl rfl) rfl ?_
         refine AL.q (by exact h_appendMv (byL y) [⟨k, t, y.marks.length⟩] (.own rfl rfl (mvL_len _).symm) (.view rfl) (by rw [List.length_append]; simp only [List.length_cons, List.length_nil]; omega) (by simp)) rfl ?_
         refine zF ?_
         refine zs ?_
         refine AL.nil (th_n ?_)
         (have hpnn := hpn (by assumption); exact ⟨(⟨y.marks ++ [f.1], y.moves ++ [⟨k, t, y.marks.length⟩]⟩, (y.marks.length : Int), 0, 0, 0), ⟨hin, rfl, by dsimp only; rw [List.length_append]; omega, by dsimp only; rw [List.getElem?_append_left hky]; exact hym, ⟨by dsimp only; rw [List.length_append]; simp only [List.length_cons, List.length_nil]; omega, fun a ha => (List.mem_append.1 ha).elim (hJ.b a) (fun g => by rw [List.mem_singleton.1 g]; exact hfbb), by dsimp only; rw [List.length_append]; simp only [List.length_cons, List.length_nil]; omega⟩, hnewI⟩, zw [(200, 200), (101, _), (102, 102), (103, _), (201, 201)] hC (b := by dsimp only; rw [hnewB]; repeat (first | exact True.intro | refine And.intro ?_ ?_ | exact DLead.same | exact rfl | refine ⟨_, _, rfl, rfl, ?_⟩ | refine ⟨_, rfl, ?_⟩ | refine ⟨_, _, rfl, ?_, ?_⟩))⟩)
       ·refine AC.skip (th_n ?_)
        (obtain ⟨i2, hi2, hpi2⟩ := hps (by assumption); rw [hi2] at hin; dsimp only at hin; have hi2l := posL_lt hi2; exact ⟨(⟨y.marks, y.moves ++ [⟨k, t, (i2 : Int)⟩]⟩, (i2 : Int), 0, 0, 0), ⟨hin, rfl, hky, hym, ⟨hyn, hJ.b, by dsimp only; rw [List.length_append]; simp only [List.length_cons, List.length_nil]; omega⟩, hY.known hky hi2l htm⟩, zw [(200, 200), (101, 101), (102, 102), (103, 103), (201, 201)] hC (by rw [hpi2]; repeat (first | exact True.intro | refine And.intro ?_ ?_ | exact DLead.same | exact rfl | refine ⟨_, rfl, ?_⟩)) (by dsimp only; rw [hY.known_by]; repeat (first | exact True.intro | refine And.intro ?_ ?_ | exact DLead.same | exact rfl | refine ⟨_, _, rfl, rfl, ?_⟩ | refine ⟨_, rfl, ?_⟩ | refine ⟨_, _, rfl, ?_, ?_⟩))⟩)
      ·rintro ⟨z, v2, _, _, _⟩ ⟨hz1, hz2, hz3, hz4, hz5, hz6⟩
       dsimp only at hz1 hz2 hz3 hz4 hz5 hz6 ⊢
       refine AC.region ?_
       refine zF ?_
       refine zF ?_
       refine zl ?_
       refine zm ?_
       refine zm ?_
       refine zm ?_
       refine AL.p (by exact g_build rfl rfl rfl) rfl ?_
       refine AL.q (by exact h_litF rfl rfl rfl rfl rfl rfl rfl rfl) rfl ?_
       refine AL.q (by exact h_appendMv y.moves [⟨k, t, v2⟩] (.own rfl rfl (mvL_len _).symm) (.view rfl) (by rw [List.length_append]; simp only [List.length_cons, List.length_nil]; omega) (by simp)) rfl ?_
       refine zF ?_
       refine zF ?_
       refine zs ?_
       refine AL.nil (ib_n (th_n (AC.region ?_)))
       refine zA ?_
       refine zm ?_
       refine AL.nil (th_n ?_)
       exact ⟨(j + 1, z), ⟨by dsimp only; omega, hz3, hz4, hz5, hz6, hz1⟩, by dsimp only; omega, zw [(200, 200), (101, 101), (102, _), (103, 103), (201, 201)] hC (b := by dsimp only; rw [hz2]; repeat (first | exact True.intro | refine And.intro ?_ ?_ | exact DLead.same | exact rfl | refine ⟨_, _, rfl, rfl, ?_⟩ | refine ⟨_, rfl, ?_⟩ | refine ⟨_, _, rfl, ?_, ?_⟩))⟩
    ·refine AC.exit (th_e (th_e (ib_y (ib_n (th_n (AC.region ?_))))))
     refine zm ?_
     refine zA ?_
     refine za ?_
     refine AL.nil (th_n ?_)
     have hjj : j = L.length := by omega
     rw [hjj, List.drop_length, exIn] at hin
     rw [← hin] at hrun
     dsimp only at hrun
     exact ⟨(k + 1, y), ⟨by dsimp only; omega, ⟨hyn, hJ.b, by dsimp only; omega⟩, hY.up, by rw [show 301 - (k + 1) = n by omega]; exact hrun⟩, by dsimp only; omega, zw [(200, 200), (101, 101), (102, 102), (103, 103), (201, 201)] hC⟩
  ·refine AC.exit (th_e (th_e (ib_y (th_n (AC.seq ?_)))))
   have e : F = (x, none) := (exOut_end (by omega) (by omega) hrun).symm
   refine AC.region ?_
   refine AL.p (by exact g_load_ptrN rfl rfl rfl rfl rfl) rfl ?_
   refine zs ?_
   refine AL.nil (th_n (AC.ret (bq_r ?_)))
   exact retN [(0, 101), (1, 102), (2, 103)] rfl (by rw [e]; show AV.leads _ (.agg [.own 0 x.marks.length, .own 1 x.moves.length, .own 2 (byL x).length, aI 0, aI (-1), aT false]) _; repeat (first | exact DLead.same | exact rfl | refine ⟨_, rfl, ?_⟩ | refine ⟨_, _, rfl, ?_, ?_⟩)) (by rw [e]; repeat (first | exact True.intro | refine And.intro ?_ ?_ | exact rfl | refine ⟨_, _, rfl, rfl, ?_⟩)) rfl rfl
theorem en_sReach : Enters Tryz.prog 99 := enters_of Tryz.func99 rfl rfl
theorem Fires.push {N : Net} {x : Ex} {v : Mv} (h : Fires N x v) (m : List UInt8) (M : List Mv) : Fires N ⟨x.marks ++ [m], M⟩ v := by
 obtain ⟨f, u, h1, h2, h3, h4, h5⟩ := h
 exact ⟨f, u, h1, h2, by dsimp only; rw [List.length_append]; omega, by dsimp only; rw [List.length_append]; omega, by rw [mkAt_push h3, mkAt_push h4]; exact h5⟩
theorem exIn_res {N : Net} {k : Nat} {m : List UInt8} : ∀ (L : List Int) {x : Ex}, (∀ t, t ∈ L → t ∈ readyL N m N.ts.length) → k < x.marks.length → mkAt x k = m → (∀ v, v ∈ x.moves → Fires N x v) →
  (∀ v, v ∈ (exIn N k m L x).1.moves → Fires N (exIn N k m L x).1 v) ∧ mkAt (exIn N k m L x).1 k = m ∧ k < (exIn N k m L x).1.marks.length ∧ ∀ p, (exIn N k m L x).2 = some p → p = (-1, -1) ∨ ∃ t, p = ((k : Int), t) ∧ t ∈ readyL N m N.ts.length ∧ (fireI N m t).2 = false
 | [], x, hL, hk, hm, hF => ⟨hF, hm, hk, fun p h => by cases h⟩
 | t :: ts, x, hL, hk, hm, hF => by
  have hT : ∀ u, u ∈ ts → u ∈ readyL N m N.ts.length := fun u hu => hL u (List.mem_cons_of_mem _ hu)
  rw [exIn]
  split
  ·rename_i hf
   have hfp : fireI N m t = ((fireI N m t).1, true) := by rw [← hf]
   split
   ·rename_i i he
    refine exIn_res ts hT hk hm fun v hv => ?_
    rcases List.mem_append.1 hv with g | g
    ·exact hF v g
    ·rw [List.mem_singleton.1 g]
     have hi := posL_lt he
     have hg := posL_get he
     refine ⟨k, i, rfl, rfl, hk, hi, ?_⟩
     show fireI N (mkAt x k) t = (mkAt x i, true)
     rw [hm, hfp, mkAt_nat hi]
     rw [List.getElem?_eq_getElem hi] at hg
     rw [Option.some.inj hg]
   ·split
    ·exact ⟨hF, hm, hk, fun p h => .inl (Option.some.inj h).symm⟩
    ·refine exIn_res ts hT (by dsimp only; rw [List.length_append]; omega) ((mkAt_push hk).trans hm) fun v hv => ?_
     rcases List.mem_append.1 hv with g | g
     ·exact (hF v g).push _ _
     ·rw [List.mem_singleton.1 g]
      refine ⟨k, x.marks.length, rfl, rfl, by dsimp only; rw [List.length_append]; omega, by dsimp only; rw [List.length_append]; simp, ?_⟩
      rw [mkAt_push hk, mkAt_last, hm]
      exact hfp
  ·rename_i hf
   exact ⟨hF, hm, hk, fun p h => .inr ⟨t, (Option.some.inj h).symm, hL t (List.mem_cons_self ..), by simpa using hf⟩⟩
theorem exOut_res {N : Net} : ∀ (n k : Nat) {x : Ex}, (∀ v, v ∈ x.moves → Fires N x v) →
  (∀ v, v ∈ (exOut N n k x).1.moves → Fires N (exOut N n k x).1 v) ∧ ∀ p, (exOut N n k x).2 = some p → p = (-1, -1) ∨ ∃ (j : Nat) (t : Int), p = ((j : Int), t) ∧ j < (exOut N n k x).1.marks.length ∧ t ∈ readyL N (mkAt (exOut N n k x).1 j) N.ts.length ∧ (fireI N (mkAt (exOut N n k x).1 j) t).2 = false
 | 0, k, x, h => ⟨h, fun p e => by cases e⟩
 | n + 1, k, x, h => by
  rw [exOut]
  split
  ·rename_i hk
   have h1 := exIn_res (readyL N (mkAt x k) N.ts.length) (fun t ht => ht) hk rfl h
   split
   ·rename_i y e
    rw [e] at h1
    exact exOut_res n (k + 1) h1.1
   ·refine ⟨h1.1, fun p hp => ?_⟩
    rcases h1.2.2.2 p hp with g | ⟨t, g1, g2, g3⟩
    ·exact .inl g
    ·exact .inr ⟨k, t, g1, h1.2.2.1, by rw [h1.2.1]; exact g2, by rw [h1.2.1]; exact g3⟩
  ·exact ⟨h, fun p e => by cases e⟩
theorem explR_res (N : Net) (m : List UInt8) : (∀ v, v ∈ (explR N m).1.moves → Fires N (explR N m).1 v) ∧ ∀ p, (explR N m).2 = some p → p = (-1, -1) ∨ ∃ (j : Nat) (t : Int), p = ((j : Int), t) ∧ j < (explR N m).1.marks.length ∧ t ∈ readyL N (mkAt (explR N m).1 j) N.ts.length ∧ (fireI N (mkAt (explR N m).1 j) t).2 = false := exOut_res 301 0 fun v hv => by simp at hv
theorem explR_end (N : Net) (m : List UInt8) : (explR N m).2 = none ∨ (explR N m).2 = some (-1, -1) ∨ ∃ (j : Nat) (t : Int), (explR N m).2 = some ((j : Int), t) ∧ j < (explR N m).1.marks.length ∧ 0 ≤ t ∧ t < N.ts.length := by
 cases h : (explR N m).2 with
 | none => exact .inl rfl
 | some p =>
  rcases (explR_res N m).2 p h with rfl | ⟨j, t, rfl, h1, h2, _⟩
  ·exact .inr (.inl rfl)
  ·exact .inr (.inr ⟨j, t, rfl, h1, readyL_in _ _ _ _ h2⟩)
theorem ref_end (N : Net) (m : List UInt8) : (exB (explR N m) = true → rBad (explR N m).2 < 0 ∧ rFull (explR N m).2 = false) ∧ (exB (explR N m) = false → 0 ≤ rBad (explR N m).2 ∨ rFull (explR N m).2 = true) := by
 unfold exB
 rcases explR_end N m with g | g | ⟨j, t, g, _, g2, _⟩ <;> rw [g]
 ·exact ⟨fun _ => ⟨by decide, rfl⟩, fun h => by cases h⟩
 ·exact ⟨fun h => (by cases h), fun _ => .inr rfl⟩
 ·exact ⟨fun h => (by cases h), fun _ => .inl g2⟩
set_option maxHeartbeats 4000000 in
theorem sExplore_spec (s : Stg) (hB : StgB s) : ASpec Tryz.prog 12 [stgA s] [] (Fun1 (.tup [.agg [.own 0 (explS s).1.marks.length, .own 1 (explS s).1.moves.length], aT (explS s).2]) [(0, .arr 9 1 (tsX (explS s).1.marks)), (1, .arr 52 3 (mvL (explS s).1.moves))]) := by
 have hV := l2Good_spec s hB.L
 have hX := sReach_spec s hB
 have hend := ref_end s.net s.start
 have hR : explS s = if (goodS s && exB (explR s.net s.start)) = true then ((explR s.net s.start).1, true) else (⟨[], []⟩, false) := rfl
 obtain ⟨b, hb⟩ : ∃ b, b = goodS s := ⟨_, rfl⟩
 rw [← hb] at hV hX hR
 obtain ⟨F, hF⟩ : ∃ F, F = explR s.net s.start := ⟨_, rfl⟩
 rw [← hF] at hX hR hend
 obtain ⟨G, hG⟩ : ∃ G, G = explS s := ⟨_, rfl⟩
 rw [← hG] at hR ⊢
 have hN1 : b = false → G = (⟨[], []⟩, false) := fun q => hR.trans (if_neg (by rw [q]; simp))
 have hN2 : exB F = false → G = (⟨[], []⟩, false) := fun q => hR.trans (if_neg (by rw [q]; simp))
 have hY2 : b = true → exB F = true → G = (F.1, true) := fun q1 q2 => hR.trans (if_pos (by rw [q1, q2]; rfl))
 clear hG hb hF
 refine ASpec.of Tryz.func12 rfl rfl fun C hC => ?_
 refine AC.seq (AC.region ?_)
 refine AL.q (by exact h_boxF rfl rfl) rfl ?_
 refine AL.q (by exact h_alloc rfl) rfl ?_
 refine za ?_
 refine AL.nil (th_n (AC.seq (AC.seq (AC.region ?_))))
 refine AL.p (by exact g_load_refN rfl rfl rfl rfl) rfl ?_
 refine AL.q (by exact h_pure en_l2Good rfl rfl (by repeat (first | exact rfl | exact DLead.same | refine ⟨_, _, rfl, ?_, ?_⟩ | refine ⟨_, rfl, ?_⟩)) hV rfl) rfl ?_
 refine AL.p (by exact g_not rfl) rfl ?_
 refine AL.nil (th_n ?_)
 refine AC.condB rfl (fun h0 => ?_) (fun h0 => ?_)
 ·refine AC.seq (AC.region ?_)
  refine AL.p (by exact g_build rfl rfl rfl) rfl ?_
  refine zs ?_
  refine za ?_
  refine AL.nil (th_n ?_)
  refine AC.weak ((Weak.nilOwnP 2 0 (e := 9) (sz := 1) rfl rfl rfl rfl rfl).trans (Weak.nilOwnP 2 1 (e := 52) (sz := 3) rfl rfl rfl rfl rfl)) ?_
  refine AC.ret (th_r (bq_r ?_))
  have e := hN1 (by simpa using h0)
  exact retN [(0, 32), (1, 40)] rfl (by rw [e]; show AV.leads _ (.tup [.agg [.own 0 0, .own 1 0], aT false]) _; repeat (first | exact DLead.same | exact rfl | refine ⟨_, rfl, ?_⟩ | refine ⟨_, _, rfl, ?_, ?_⟩)) (by rw [e]; repeat (first | exact True.intro | refine And.intro ?_ ?_ | exact rfl | refine ⟨_, _, rfl, rfl, ?_⟩)) rfl rfl
 ·refine AC.skip (th_n (AC.seq ?_))
  have q1 : b = true := by simpa using h0
  have hX2 := hX q1
  refine AC.region ?_
  refine AL.p (by exact g_load_refN rfl rfl rfl rfl) rfl ?_
  refine AL.q (by exact h_fun (cs := []) en_sReach rfl rfl (by repeat (first | exact rfl | exact DLead.same | refine ⟨_, _, rfl, ?_, ?_⟩ | refine ⟨_, rfl, ?_⟩)) (by repeat (exact True.intro)) hX2 rfl rfl rfl rfl) rfl ?_
  refine AL.q (by exact h_alloc rfl) rfl ?_
  refine zs ?_
  refine AL.nil (th_n (AC.seq (AC.seq ?_)))
  refine AC.weak (t := ⟨21, 300, [(2, .ptr 201 0), (3, aT false), (4, .ptr 200 0)], [(200, some (.cells 118 (refA F 101 102 103))), (201, some (.cells 35 zRG)), (101, some (.arr 9 1 (tsX F.1.marks))), (102, some (.arr 52 3 (mvL F.1.moves))), (103, some (.arr 52 3 (mvL (byL F.1))))]⟩) (zw [(200, _), (201, _), (101, _), (102, _), (103, _)] hC) ?_
  refine AC.region ?_
  refine zF ?_
  refine zl ?_
  refine zc ?_
  refine zm ?_
  refine AL.caseG rfl rfl (fun h1 => ?_) (fun h1 => ?_)
  ·refine zn ?_
   refine zn ?_
   refine zQ ?_
   refine AL.nil (th_n ?_)
   refine AC.condT rfl ?_
   refine AC.seq (AC.region ?_)
   refine AL.p (by exact g_build rfl rfl rfl) rfl ?_
   refine zs ?_
   refine za ?_
   refine AL.nil (th_n ?_)
   refine AC.weak ((Weak.nilOwnP 2 0 (e := 9) (sz := 1) rfl rfl rfl rfl rfl).trans (Weak.nilOwnP 2 1 (e := 52) (sz := 3) rfl rfl rfl rfl rfl)) ?_
   refine AC.ret (th_r (bq_r ?_))
   have hbad : exB F = false := by refine Bool.eq_false_iff.2 fun q => ?_; obtain ⟨q1, q2⟩ := hend.1 q; omega
   have e := hN2 hbad
   exact retN [(0, _), (1, _)] rfl (by rw [e]; show AV.leads _ (.tup [.agg [.own 0 0, .own 1 0], aT false]) _; repeat (first | exact DLead.same | exact rfl | refine ⟨_, rfl, ?_⟩ | refine ⟨_, _, rfl, ?_, ?_⟩)) (by rw [e]; repeat (first | exact True.intro | refine And.intro ?_ ?_ | exact rfl | refine ⟨_, _, rfl, rfl, ?_⟩)) rfl rfl
  ·refine zy ?_
   refine zF ?_
   refine zy ?_
   refine zl ?_
   refine zP ?_
   refine AL.nil (th_n ?_)
   refine AC.condB rfl (fun h2 => ?_) (fun h2 => ?_)
   ·refine AC.seq (AC.region ?_)
    refine AL.p (by exact g_build rfl rfl rfl) rfl ?_
    refine zs ?_
    refine za ?_
    refine AL.nil (th_n ?_)
    refine AC.weak ((Weak.nilOwnP 2 0 (e := 9) (sz := 1) rfl rfl rfl rfl rfl).trans (Weak.nilOwnP 2 1 (e := 52) (sz := 3) rfl rfl rfl rfl rfl)) ?_
    refine AC.ret (th_r (bq_r ?_))
    have hbad : exB F = false := by refine Bool.eq_false_iff.2 fun q => ?_; obtain ⟨q1, q2⟩ := hend.1 q; (rw [q2] at *; simp_all)
    have e := hN2 hbad
    exact retN [(0, _), (1, _)] rfl (by rw [e]; show AV.leads _ (.tup [.agg [.own 0 0, .own 1 0], aT false]) _; repeat (first | exact DLead.same | exact rfl | refine ⟨_, rfl, ?_⟩ | refine ⟨_, _, rfl, ?_, ?_⟩)) (by rw [e]; repeat (first | exact True.intro | refine And.intro ?_ ?_ | exact rfl | refine ⟨_, _, rfl, rfl, ?_⟩)) rfl rfl
   ·refine AC.skip (th_n (AC.seq (AC.region ?_)))
    refine zF ?_
    refine AL.p (by exact g_load_ptrN rfl rfl rfl rfl rfl) rfl ?_
    refine zs ?_
    refine za ?_
    refine AL.nil (th_n (AC.ret (bq_r ?_)))
    have hgood : exB F = true := by refine Bool.not_eq_false _ ▸ fun q => ?_; rcases hend.2 q with q | q; (omega); (simp_all)
    have e := hY2 q1 hgood
    exact retN [(0, 101), (1, 102)] rfl (by rw [e]; show AV.leads _ (.tup [.agg [.own 0 F.1.marks.length, .own 1 F.1.moves.length], aT true]) _; repeat (first | exact DLead.same | exact rfl | refine ⟨_, rfl, ?_⟩ | refine ⟨_, _, rfl, ?_, ?_⟩)) (by rw [e]; repeat (first | exact True.intro | refine And.intro ?_ ?_ | exact rfl | refine ⟨_, _, rfl, rfl, ?_⟩)) rfl rfl
theorem en_sExplore : Enters Tryz.prog 12 := enters_of Tryz.func12 rfl rfl
structure Ar where
 from_ : Int
 sig : Int
 up : Bool
 to_ : Int
 deriving DecidableEq
def vAt (V : List (Option Bool)) (i : Nat) : Option Bool := V.getD i none
theorem vAt_get {V : List (Option Bool)} {i : Nat} (h : i < V.length) : vAt V i = V[i] := by unfold vAt; rw [List.getD_eq_getElem?_getD, List.getElem?_eq_getElem h]; rfl
theorem vAt_set {V : List (Option Bool)} {i j : Nat} {x : Option Bool} : vAt (V.set i x) j = if j = i ∧ i < V.length then x else vAt V j := by
 unfold vAt
 rw [List.getD_eq_getElem?_getD, List.getD_eq_getElem?_getD, List.getElem?_set]
 by_cases e : i = j
 ·subst e
  by_cases h : i < V.length
  ·rw [if_pos rfl, if_pos h, if_pos ⟨rfl, h⟩]; rfl
  ·rw [if_pos rfl, if_neg h, if_neg (fun q => h q.2), List.getElem?_eq_none (by omega)]
 ·rw [if_neg e, if_neg (fun q => e q.1.symm)]
theorem set_same {V : List (Option Bool)} {i : Nat} {x : Option Bool} (h : i < V.length) (hx : vAt V i = x) : V.set i x = V := by
 rw [vAt_get h] at hx
 rw [← hx, List.set_getElem_self]
def putV (V : List (Option Bool)) (i : Nat) (b : Bool) : Option (List (Option Bool)) := match vAt V i with | none => some (V.set i (some b)) | some x => if x = b then some V else none
def joinV (V : List (Option Bool)) (i j : Nat) : Option (List (Option Bool)) := match vAt V i, vAt V j with
 | none, none => some V
 | none, some y => some (V.set i (some y))
 | some x, none => some (V.set j (some x))
 | some x, some y => if x = y then some V else none
def stepV (sg : Int) (a : Ar) (V : List (Option Bool)) : Option (List (Option Bool)) := if a.sig = sg then (putV V a.from_.toNat (!a.up)).bind (fun W => putV W a.to_.toNat a.up) else joinV V a.from_.toNat a.to_.toNat
def passV (sg : Int) : List Ar → List (Option Bool) → Option (List (Option Bool))
 | [], V => some V
 | a :: l, V => (stepV sg a V).bind (passV sg l)
def iterV (sg : Int) (L : List Ar) : Nat → List (Option Bool) → Option (List (Option Bool))
 | 0, V => some V
 | k + 1, V => (passV sg L V).bind (iterV sg L k)
def valF (sg : Int) (L : List Ar) (n : Nat) : Option (List (Option Bool)) := iterV sg L (n + 1) (List.replicate n none)
def cnN (V : List (Option Bool)) : Nat := V.countP Option.isNone
theorem cnN_set : ∀ {V : List (Option Bool)} {i : Nat} {b : Bool}, i < V.length → vAt V i = none → cnN (V.set i (some b)) + 1 = cnN V
 | [], i, b, h, _ => by simp at h
 | x :: V, 0, b, h, hn => by
  have hx : x = none := hn
  subst hx
  unfold cnN
  rw [List.set_cons_zero, List.countP_cons, List.countP_cons]; simp
 | x :: V, i + 1, b, h, hn => by
  have ih := cnN_set (V := V) (i := i) (b := b) (by simpa using h) (by simpa [vAt] using hn)
  unfold cnN at ih ⊢
  rw [List.set_cons_succ, List.countP_cons, List.countP_cons]
  omega
def Ups (V W : List (Option Bool)) : Prop := W.length = V.length ∧ (∀ i x, vAt V i = some x → vAt W i = some x) ∧ (W = V ∨ cnN W < cnN V)
theorem Ups.refl (V : List (Option Bool)) : Ups V V := ⟨rfl, fun _ _ h => h, .inl rfl⟩
theorem Ups.trans {V W Z : List (Option Bool)} (h : Ups V W) (k : Ups W Z) : Ups V Z := ⟨k.1.trans h.1, fun i x g => k.2.1 i x (h.2.1 i x g), by
 rcases h.2.2 with rfl | h1
 ·exact k.2.2
 ·rcases k.2.2 with rfl | k1
  ·exact .inr h1
  ·exact .inr (Nat.lt_trans k1 h1)⟩
theorem Ups.set {V : List (Option Bool)} {i : Nat} (h : i < V.length) (hn : vAt V i = none) (b : Bool) : Ups V (V.set i (some b)) := ⟨List.length_set .., fun j x g => by
 rw [vAt_set]
 split
 ·rename_i q; rw [q.1, hn] at g; cases g
 ·exact g, .inr (by have := cnN_set (b := b) h hn; omega)⟩
theorem putV_ups {V W : List (Option Bool)} {i : Nat} {b : Bool} (hi : i < V.length) (h : putV V i b = some W) : Ups V W := by
 unfold putV at h
 split at h
 ·rename_i hn; cases h; exact Ups.set hi hn b
 ·split at h
  ·cases h; exact Ups.refl V
  ·cases h
theorem joinV_ups {V W : List (Option Bool)} {i j : Nat} (hi : i < V.length) (hj : j < V.length) (h : joinV V i j = some W) : Ups V W := by
 unfold joinV at h
 split at h
 ·cases h; exact Ups.refl V
 ·rename_i h1 h2; cases h; exact Ups.set hi h1 _
 ·rename_i h1 h2; cases h; exact Ups.set hj h2 _
 ·split at h
  ·cases h; exact Ups.refl V
  ·cases h
def ArIn (n : Nat) (a : Ar) : Prop := (0 ≤ a.from_ ∧ a.from_ < n) ∧ 0 ≤ a.to_ ∧ a.to_ < n
theorem stepV_ups {sg : Int} {a : Ar} {V W : List (Option Bool)} (ha : ArIn V.length a) (h : stepV sg a V = some W) : Ups V W := by
 obtain ⟨h1, h2⟩ := ha
 unfold stepV at h
 split at h
 ·cases hp : putV V a.from_.toNat (!a.up) with
  | none => rw [hp] at h; cases h
  | some Z =>
   rw [hp] at h
   have k1 := putV_ups (by omega) hp
   exact k1.trans (putV_ups (by rw [k1.1]; omega) h)
 ·exact joinV_ups (by omega) (by omega) h
theorem passV_ups {sg : Int} {n : Nat} : ∀ {L : List Ar} {V W : List (Option Bool)}, V.length = n → (∀ a, a ∈ L → ArIn n a) → passV sg L V = some W → Ups V W
 | [], V, W, _, _, h => by cases h; exact Ups.refl V
 | a :: L, V, W, hl, hL, h => by
  rw [passV] at h
  cases hs : stepV sg a V with
  | none => rw [hs] at h; cases h
  | some Z =>
   rw [hs] at h
   have k1 := stepV_ups (by rw [hl]; exact hL a (List.mem_cons_self ..)) hs
   exact k1.trans (passV_ups (k1.1.trans hl) (fun b hb => hL b (List.mem_cons_of_mem _ hb)) h)
theorem iterV_stable {sg : Int} {L : List Ar} {V : List (Option Bool)} (h : passV sg L V = some V) : ∀ k, iterV sg L k V = some V
 | 0 => rfl
 | k + 1 => by rw [iterV, h]; exact iterV_stable h k
theorem iterV_fail {sg : Int} {L : List Ar} {V : List (Option Bool)} (h : passV sg L V = none) {k : Nat} (hk : 1 ≤ k) : iterV sg L k V = none := by
 obtain ⟨q, rfl⟩ : ∃ q, k = q + 1 := ⟨k - 1, by omega⟩
 rw [iterV, h]; rfl
def stepR (sg : Int) (a : Ar) (V : List (Option Bool)) : Option (List (Option Bool)) :=
 if a.sig = sg then
  (if (vAt V a.from_.toNat = some a.up ∨ vAt V a.to_.toNat = some (!a.up)) then none else some ((V.set a.from_.toNat (some (!a.up))).set a.to_.toNat (some a.up)))
 else joinV V a.from_.toNat a.to_.toNat
def passR (sg : Int) : List Ar → List (Option Bool) → Option (List (Option Bool))
 | [], V => some V
 | a :: l, V => (stepR sg a V).bind (passR sg l)
def iterR (sg : Int) (L : List Ar) : Nat → List (Option Bool) → Option (List (Option Bool))
 | 0, V => some V
 | k + 1, V => (passR sg L V).bind (iterR sg L k)
theorem nb_ne (b : Bool) {x : Bool} (h : ¬ x = b) : x = !b := by cases b <;> cases x <;> simp_all
theorem stepR_eq {sg : Int} {a : Ar} {V : List (Option Bool)} (ha : ArIn V.length a) (hne : a.sig = sg → a.from_ ≠ a.to_) : stepR sg a V = stepV sg a V := by
 obtain ⟨h1, h2⟩ := ha
 unfold stepR stepV
 by_cases hs : a.sig = sg
 ·rw [if_pos hs, if_pos hs]
  have hft : a.to_.toNat ≠ a.from_.toNat := by have := hne hs; omega
  have hf : a.from_.toNat < V.length := by omega
  have ht : a.to_.toNat < V.length := by omega
  unfold putV
  cases e1 : vAt V a.from_.toNat with
  | none =>
   have hz : vAt (V.set a.from_.toNat (some (!a.up))) a.to_.toNat = vAt V a.to_.toNat := by rw [vAt_set, if_neg (fun q => hft q.1)]
   simp only [reduceCtorEq, false_or, Option.bind_some]
   rw [hz]
   cases e2 : vAt V a.to_.toNat with
   | none => rw [if_neg (by simp)]
   | some y =>
    by_cases q : y = a.up
    ·subst q
     rw [if_neg (by simp)]
     simp only [if_true]
     rw [set_same (by rw [List.length_set]; exact ht) (hz.trans e2)]
    ·have q2 := nb_ne _ q
     subst q2
     rw [if_pos rfl]
     simp
  | some x =>
   by_cases q : x = !a.up
   ·subst q
    simp only [if_true, Option.bind_some]
    rw [set_same hf e1]
    cases e2 : vAt V a.to_.toNat with
    | none => rw [if_neg (by simp)]
    | some y =>
     by_cases q : y = a.up
     ·subst q
      rw [if_neg (by simp)]
      simp only [if_true]
      rw [set_same ht e2]
     ·have q2 := nb_ne _ q
      subst q2
      rw [if_pos (.inr rfl)]
      simp
   ·have q2 : x = a.up := by cases x <;> cases hu : a.up <;> simp_all
    subst q2
    rw [if_pos (.inl rfl)]
    simp
 ·rw [if_neg hs, if_neg hs]
theorem stepR_mono {sg : Int} {a : Ar} {V W : List (Option Bool)} (ha : ArIn V.length a) (h : stepR sg a V = some W) : W.length = V.length ∧ ∀ i, (vAt V i).isSome = true → (vAt W i).isSome = true := by
 obtain ⟨h1, h2⟩ := ha
 unfold stepR at h
 split at h
 ·split at h
  ·cases h
  ·cases h
   refine ⟨by rw [List.length_set, List.length_set], fun i hi => ?_⟩
   rw [vAt_set]
   split
   ·rfl
   ·rw [vAt_set]; split
    ·rfl
    ·exact hi
 ·have := joinV_ups (by omega) (by omega) h
  refine ⟨this.1, fun i hi => ?_⟩
  cases e : vAt V i with
  | none => rw [e] at hi; cases hi
  | some x => rw [this.2.1 i x e]; rfl
theorem passR_mono {sg : Int} {n : Nat} : ∀ {L : List Ar} {V W : List (Option Bool)}, V.length = n → (∀ a, a ∈ L → ArIn n a) → passR sg L V = some W → W.length = n ∧ ∀ i, (vAt V i).isSome = true → (vAt W i).isSome = true
 | [], V, W, hl, _, h => by cases h; exact ⟨hl, fun _ h => h⟩
 | a :: L, V, W, hl, hL, h => by
  rw [passR] at h
  cases hs : stepR sg a V with
  | none => rw [hs] at h; cases h
  | some Z =>
   rw [hs] at h
   have k1 := stepR_mono (by rw [hl]; exact hL a (List.mem_cons_self ..)) hs
   have k2 := passR_mono (k1.1.trans hl) (fun b hb => hL b (List.mem_cons_of_mem _ hb)) h
   exact ⟨k2.1, fun i hi => k2.2 i (k1.2 i hi)⟩
theorem passR_eq {sg : Int} {n : Nat} : ∀ {L : List Ar} {V : List (Option Bool)}, V.length = n → (∀ a, a ∈ L → ArIn n a) → (∀ a, a ∈ L → a.sig = sg → a.from_ ≠ a.to_) → passR sg L V = passV sg L V
 | [], V, _, _, _ => rfl
 | a :: L, V, hl, hL, hN => by
  have ha : ArIn V.length a := by rw [hl]; exact hL a (List.mem_cons_self ..)
  rw [passR, passV, stepR_eq ha (hN a (List.mem_cons_self ..))]
  cases hs : stepV sg a V with
  | none => rfl
  | some Z =>
   have k1 := stepV_ups ha hs
   exact passR_eq (k1.1.trans hl) (fun b hb => hL b (List.mem_cons_of_mem _ hb)) (fun b hb => hN b (List.mem_cons_of_mem _ hb))
theorem iterR_eq {sg : Int} {n : Nat} {L : List Ar} (hL : ∀ a, a ∈ L → ArIn n a) (hN : ∀ a, a ∈ L → a.sig = sg → a.from_ ≠ a.to_) : ∀ (k : Nat) {V : List (Option Bool)}, V.length = n → iterR sg L k V = iterV sg L k V
 | 0, V, _ => rfl
 | k + 1, V, hl => by
  rw [iterR, iterV, passR_eq hl hL hN]
  cases hp : passV sg L V with
  | none => rfl
  | some W => exact iterR_eq hL hN k ((passV_ups hl hL hp).1.trans hl)
theorem selfV {sg : Int} {n : Nat} {a : Ar} (h1 : a.sig = sg) (h2 : a.from_ = a.to_) : ∀ {L : List Ar} {V : List (Option Bool)}, V.length = n → (∀ b, b ∈ L → ArIn n b) → a ∈ L → passV sg L V = none
 | b :: L, V, hl, hL, ha => by
  have hb : ArIn V.length b := by rw [hl]; exact hL b (List.mem_cons_self ..)
  rw [passV]
  rcases List.mem_cons.1 ha with rfl | ha
  ·have hs : stepV sg a V = none := by
    obtain ⟨g1, g2⟩ := hb
    unfold stepV
    rw [if_pos h1]
    cases hp : putV V a.from_.toNat (!a.up) with
    | none => rfl
    | some Z =>
     have hz : vAt Z a.from_.toNat = some (!a.up) := by
      unfold putV at hp
      split at hp
      ·cases hp; rw [vAt_set, if_pos ⟨rfl, by omega⟩]
      ·rename_i x e
       split at hp
       ·rename_i q; cases hp; rw [e, q]
       ·cases hp
     rw [Option.bind_some]
     unfold putV
     rw [← h2, hz]
     simp
   rw [hs]; rfl
  ·cases hs : stepV sg b V with
   | none => rfl
   | some Z =>
    have k1 := stepV_ups hb hs
    exact selfV h1 h2 (k1.1.trans hl) (fun c hc => hL c (List.mem_cons_of_mem _ hc)) ha
theorem selfR1 {sg : Int} {n : Nat} {a : Ar} (h1 : a.sig = sg) (h2 : a.from_ = a.to_) : ∀ {L : List Ar} {V W : List (Option Bool)}, V.length = n → (∀ b, b ∈ L → ArIn n b) → a ∈ L → passR sg L V = some W → (vAt W a.from_.toNat).isSome = true
 | b :: L, V, W, hl, hL, ha, h => by
  have hb : ArIn V.length b := by rw [hl]; exact hL b (List.mem_cons_self ..)
  have hT : ∀ c, c ∈ L → ArIn n c := fun c hc => hL c (List.mem_cons_of_mem _ hc)
  rw [passR] at h
  cases hs : stepR sg b V with
  | none => rw [hs] at h; cases h
  | some Z =>
   rw [hs] at h
   have k1 := stepR_mono hb hs
   rcases List.mem_cons.1 ha with rfl | ha
   ·have hz : (vAt Z a.from_.toNat).isSome = true := by
     obtain ⟨g1, g2⟩ := hb
     unfold stepR at hs
     rw [if_pos h1] at hs
     split at hs
     ·cases hs
     ·cases hs
      rw [← h2, vAt_set, if_pos ⟨rfl, by rw [List.length_set]; omega⟩]; rfl
    exact (passR_mono (k1.1.trans hl) hT h).2 _ hz
   ·exact selfR1 h1 h2 (k1.1.trans hl) hT ha h
theorem selfR2 {sg : Int} {n : Nat} {a : Ar} (h1 : a.sig = sg) (h2 : a.from_ = a.to_) : ∀ {L : List Ar} {V : List (Option Bool)}, V.length = n → (∀ b, b ∈ L → ArIn n b) → a ∈ L → (vAt V a.from_.toNat).isSome = true → passR sg L V = none
 | b :: L, V, hl, hL, ha, hv => by
  have hb : ArIn V.length b := by rw [hl]; exact hL b (List.mem_cons_self ..)
  rw [passR]
  cases hs : stepR sg b V with
  | none => rfl
  | some Z =>
   have k1 := stepR_mono hb hs
   rcases List.mem_cons.1 ha with rfl | ha
   ·exfalso
    unfold stepR at hs
    rw [if_pos h1, ← h2] at hs
    cases e : vAt V a.from_.toNat with
    | none => rw [e] at hv; cases hv
    | some x =>
     rw [e] at hs
     by_cases q : x = a.up
     ·subst q; rw [if_pos (.inl rfl)] at hs; cases hs
     ·have q2 := nb_ne _ q
      subst q2
      rw [if_pos (.inr rfl)] at hs; cases hs
   ·exact selfR2 h1 h2 (k1.1.trans hl) (fun c hc => hL c (List.mem_cons_of_mem _ hc)) ha (k1.2 _ hv)
theorem valR_eq {sg : Int} {n : Nat} {L : List Ar} (hn : 1 ≤ n) (hL : ∀ a, a ∈ L → ArIn n a) : iterR sg L (n + 1) (List.replicate n none) = valF sg L n := by
 unfold valF
 by_cases h : ∀ a, a ∈ L → a.sig = sg → a.from_ ≠ a.to_
 ·exact iterR_eq hL h _ (by simp)
 ·obtain ⟨a, ha⟩ := Classical.not_forall.1 h
  obtain ⟨ha1, ha2⟩ := Classical.not_imp.1 ha
  obtain ⟨ha2, ha3⟩ := Classical.not_imp.1 ha2
  have ha3 : a.from_ = a.to_ := Classical.not_not.1 ha3
  rw [iterV_fail (selfV ha2 ha3 (by simp) hL ha1) (by omega)]
  obtain ⟨q, rfl⟩ : ∃ q, n = q + 1 := ⟨n - 1, by omega⟩
  rw [iterR]
  cases hp : passR sg L (List.replicate (q + 1) none) with
  | none => rfl
  | some W =>
   rw [Option.bind_some, iterR, selfR2 ha2 ha3 (passR_mono (by simp) hL hp).1 hL ha1 (selfR1 ha2 ha3 (by simp) hL ha1 hp)]
   rfl
end Go.Proofs.YthafkkgmekgmoaaGreat
