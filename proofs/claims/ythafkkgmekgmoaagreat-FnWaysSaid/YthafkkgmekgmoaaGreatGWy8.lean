/- Contracts of the functions of the program and of the reference, each proved by a walk through its code. -/
import Derived.WalkKit
import Derived.WalkSpells
import Derived.WalkLawsBesides
import Derived.Deep.Draws
import Derived.Lib.Hide
import Derived.Maps.AppendAt
import Derived.OwnWalk
import Derived.Deep.MidRow
import Derived.Laws.ResultCell
import Derived.Deep.Upon
import Derived.Great.FillDense
import Derived.Laws.Tables
import Derived.Laws.BytesArg
import Derived.Laws.MakeOwn
import Derived.Great.BuildSlice
import Derived.ArgAppend
import Derived.Deep.AppendSrc
import Derived.Test.YthafkkgmekgmoaaGreatProg
import Derived.KernelRfl
import Derived.Orders
import Derived.Laws.IdiomStrings
import Derived.Lib.AppendZerosOnto
import Derived.ProofKit
import Derived.OpenShut
import Derived.Lib.SliceRun
import Derived.Laws.StructEq
import Derived.ChangeKeysEq
import Derived.Sort.Grow
import Derived.Laws.RangeString
import Derived.Below
import Derived.Laws.Small
import Derived.MapKept
import Derived.WideMake
import Derived.Laws.IdiomCopy
import Derived.Shelf.Bits.Mul64
import Derived.Test.YthafkkgmekgmoaaGreatRows
import Derived.Test.YthafkkgmekgmoaaGreatGWy7
set_option linter.all false
set_option maxRecDepth 20000
namespace Go.Proofs.YthafkkgmekgmoaaGreat
open Go.RowKit
abbrev nI (l : List Nat) : List Int := l.map fun t => ((t : Nat) : Int)
theorem nI_len (l : List Nat) : (nI l).length = l.length := List.length_map _
theorem nI_get {l : List Nat} {k : Nat} (h : k < l.length) : (ints (nI l))[k]? = some [dI ((l[k] : Nat) : Int)] := by rw [List.getElem?_map, List.getElem?_map, List.getElem?_eq_getElem h]; rfl
theorem nI_at {q : List Nat} {a c : Nat} (ha : a < q.length) (hc : q.getD a 0 = c) : (ints (nI q))[a]? = some [dI (c : Int)] := by
 rw [nI_get ha, ← hc, List.getD_eq_getElem?_getD, List.getElem?_eq_getElem ha]; rfl
theorem oa_rep (n v : Nat) : oa (List.replicate n (-1)) v = -1 := by
 unfold oa
 rw [List.getD_eq_getElem?_getD, List.getElem?_replicate]
 split <;> rfl
theorem oa_start {n s : Nat} (hs : s < n) (v : Nat) : oa ((List.replicate n (-1)).set s 0) v ≤ 0 := by
 by_cases e : v = s
 ·rw [e, oa_set_self (by simpa using hs)]; decide
 ·rw [oa_set_ne e, oa_rep]; decide
theorem ints_oa {o : List Int} {v : Nat} (h : v < o.length) : (ints o)[v]? = some [dI (oa o v)] := by rw [oa_get h]; exact ints_at h
abbrev nxtD (E : List (Nat × Nat)) (n : Nat) : List DV := (List.range n).map fun i => vI (nI (nextL E i))
abbrev nxtR (E : List (Nat × Nat)) (n : Nat) : List (List DV) := (List.range n).map fun i => [vI (nI (nextL E i))]
theorem nxtR_flat (E : List (Nat × Nat)) (n : Nat) : (nxtR E n).flatten = nxtD E n := by
 unfold nxtR nxtD
 induction n with
 | zero => rfl
 | succ n ih => rw [List.range_succ, List.map_append, List.map_append, List.flatten_append, ih]; rfl
theorem nxtR_row (E : List (Nat × Nat)) (n : Nat) : ∀ cs, cs ∈ nxtR E n → cs.length = 1 := by
 intro cs hc
 obtain ⟨i, _, rfl⟩ := List.mem_map.1 hc
 rfl
theorem nxtR_get {E : List (Nat × Nat)} {n i : Nat} (h : i < n) : (nxtR E n)[i]? = some [vI (nI (nextL E i))] := by rw [List.getElem?_map, List.getElem?_range h]; rfl
theorem nxtD_get {E : List (Nat × Nat)} {n i : Nat} (h : i < n) : (nxtD E n)[i]? = some (vI (nI (nextL E i))) := by rw [List.getElem?_map, List.getElem?_range h]; rfl
theorem nxtD_len (E : List (Nat × Nat)) (n : Nat) : (nxtD E n).length = n := by simp
theorem nxtD_nil (n : Nat) : nxtD [] n = List.replicate n (vI []) := by
 refine List.ext_getElem? fun i => ?_
 rcases Nat.lt_or_ge i n with h | h
 ·rw [nxtD_get h, List.getElem?_replicate, if_pos h]; rfl
 ·rw [List.getElem?_eq_none (by simpa using h), List.getElem?_eq_none (by simpa using h)]
theorem nextL_len (E : List (Nat × Nat)) (f : Nat) : (nextL E f).length ≤ E.length := by unfold nextL; rw [List.length_map]; exact List.length_filter_le ..
theorem nextL_snoc (E : List (Nat × Nat)) (f t i : Nat) : nextL (E ++ [(f, t)]) i = nextL E i ++ (if f = i then [t] else []) := by
 unfold nextL
 rw [List.filter_append, List.map_append]
 congr 1
 by_cases h : f = i <;> simp [h]
theorem nxtD_snoc {E : List (Nat × Nat)} {n f t : Nat} : nxtD (E ++ [(f, t)]) n = (nxtD E n).set f (vI (nI (nextL E f) ++ [(t : Int)])) := by
 refine List.ext_getElem? fun i => ?_
 rcases Nat.lt_or_ge i n with h | h
 ·rw [nxtD_get h, nextL_snoc, List.getElem?_set]
  by_cases e : f = i
  ·subst e
   rw [if_pos rfl, if_pos rfl, if_pos (by simpa using h)]
   simp
  ·rw [if_neg e, if_neg e, nxtD_get h, List.append_nil]
 ·rw [List.getElem?_eq_none (by simpa using h), List.getElem?_eq_none (by simpa using h)]
theorem rows1_get {n i : Nat} {V : List Value} {v : Value} (h : i < n) (hv : V[i]? = some v) : (rowsV 1 n V)[i]? = some [.val v] := by
 rw [rowsV_get h]
 simp [hv]
theorem rows1_set {n i : Nat} {V : List Value} {v : Value} (hn : V.length = n) (h : i < n) : (rowsV 1 n V).set i [.val v] = rowsV 1 n (V.set i v) := by
 refine List.ext_getElem? fun k => ?_
 rcases Nat.lt_or_ge k n with g | g
 ·rw [List.getElem?_set, rowsV_len]
  by_cases e : i = k
  ·subst e
   rw [if_pos rfl, if_pos h, rows1_get h (v := v) (by rw [List.getElem?_set_self (by omega)])]
  ·obtain ⟨u, hu⟩ : ∃ u, V[k]? = some u := ⟨_, List.getElem?_eq_getElem (by omega)⟩
   rw [if_neg e, rows1_get g hu, rows1_get g (v := u) (by rw [List.getElem?_set_ne e]; exact hu)]
 ·rw [List.getElem?_eq_none (by rw [List.length_set, rowsV_len]; exact g), List.getElem?_eq_none (by rw [rowsV_len]; exact g)]
theorem rows1_rep (n : Nat) (v : Value) : rowsV 1 n (List.replicate n v) = List.replicate n [.val v] := by
 refine List.ext_getElem? fun k => ?_
 rcases Nat.lt_or_ge k n with g | g
 ·rw [rows1_get g (v := v) (by rw [List.getElem?_replicate, if_pos g]), List.getElem?_replicate, if_pos g]
 ·rw [List.getElem?_eq_none (by rw [rowsV_len]; exact g), List.getElem?_eq_none (by simpa using g)]
theorem ints_fl2 : ∀ (l : List Int), (ints l).flatten = l.map fun x => dI x
 | [] => rfl
 | a :: l => by
  have ih := ints_fl2 l
  unfold ints at ih ⊢
  rw [List.map_cons, List.flatten_cons, List.map_cons, ih]; rfl
theorem ints_fl (l : List Int) : ∀ cs, cs ∈ ints l → ∀ d, d ∈ cs → d.flat := by
 intro cs hc d hd
 obtain ⟨x, _, rfl⟩ := List.mem_map.1 hc
 obtain rfl := List.mem_singleton.1 hd
 exact trivial
theorem rows1_ints {l : List Int} {V : List Value} (hV : V.length = (ints l).length * 1) (h : ∀ (c : Nat) x, (ints l).flatten[c]? = some (.val x) → V[c]? = some x) : rowsV 1 (ints l).length V = ints l := by
 have hf := ints_fl2 l
 refine List.ext_getElem? fun k => ?_
 rcases Nat.lt_or_ge k l.length with g | g
 ·have := h k (.int .i64 l[k]) (by rw [hf, List.getElem?_map, List.getElem?_eq_getElem g]; rfl)
  rw [rows1_get (by rw [ints_len]; exact g) this, ints_at g]
 ·rw [List.getElem?_eq_none (by rw [rowsV_len, ints_len]; exact g), List.getElem?_eq_none (by rw [ints_len]; exact g)]
theorem rep_ints (n : Nat) (a : Int) : ints (List.replicate n a) = List.replicate n [dI a] := by unfold ints; rw [List.map_replicate]
theorem repN_set (n s : Nat) : ints ((List.replicate n (-1)).set s 0) = (ints (List.replicate n (-1))).set s [dI 0] := ints_set _ _ _
set_option maxHeartbeats 16000000 in
theorem distances_spec (E : List (Nat × Nat)) (n s : Nat) (hs : s < n) (hn : n ≤ 100000) (hEl : E.length ≤ 1000000) (hE : ∀ f t, (f, t) ∈ E → f < n ∧ t < n) : ASpec Tryz.prog 122 [aI n, .d (vSteps E), aI s] [] (Pure1 (.d (vI (distF E n s)))) := by
 have hRp := repeat_spec (-1) n hn
 have hB0 := BfsI.start hs hE
 refine ASpec.of Tryz.func122 rfl rfl fun C hC => ?_
 refine AC.seq (AC.region ?_)
 refine AL.p (by exact as1 rfl) rfl ?_
 refine AL.nil (th_n (AC.seq ?_))
 refine AC.drawn' mixed_ok [[], [], [0,1], [], [3], [0,1,2], [0,1,2,3,4,5]] (by decide) ?_
 refine DF.op 0 [] 7 rfl rfl rfl (.free rfl (by exact h_litF rfl rfl rfl rfl rfl rfl rfl rfl)) rfl ?_
 refine DF.op 1 [] 7 rfl rfl rfl (.free rfl (NOp.of (by exact mv1 rfl))) rfl ?_
 refine DF.op 2 [0,1] 7 rfl rfl rfl (.free rfl (by exact h_fun (cs := []) en_Repeat rfl rfl (by repeat (first | exact rfl | exact DLead.same | refine ⟨_, _, rfl, ?_, ?_⟩)) (by repeat (exact True.intro)) hRp rfl rfl rfl rfl)) rfl ?_
 refine DF.op 3 [] 7 rfl rfl rfl (.free rfl (NOp.of (by exact mv1 rfl))) rfl ?_
 refine DF.op 4 [3] 7 rfl rfl rfl (.free rfl (by exact h_make (k := n) rfl rfl rfl rfl rfl rfl rfl rfl (by show 24 * n ≤ _; omega) (by omega))) rfl ?_
 refine DF.op 5 [0,1,2] 7 rfl rfl rfl (.free rfl (NOp.of (by exact as2 rfl))) rfl ?_
 refine DF.op 6 [0,1,2,3,4,5] 7 rfl rfl rfl (.free rfl (NOp.of (by exact as2 rfl))) rfl ?_
 refine DF.fin (ps := [(0,1),(0,3),(0,4),(1,0),(1,3),(1,4),(2,3),(2,4),(3,0),(3,1),(3,2),(3,5),(4,0),(4,1),(4,2),(4,5),(5,3),(5,4)]) 7 rfl (by decide +kernel) (by decide +kernel) (by rfl) ?_
 refine th_n (AC.seq (AC.seq (AC.region ?_)))
 refine AL.p (by exact mv1 rfl) rfl ?_
 refine AL.p (by exact g_len_view (k := E.length) rfl rfl (stepL_len _)) rfl ?_
 refine AL.p (by exact mv1 rfl) rfl ?_
 refine AL.nil (th_n (AC.block ?_))
 refine AC.loop (ι := Nat × List Value × (Nat → Prop)) (fun x => ⟨85, 600, [(2, aI s), (7, .own 100 n), (8, .own 101 n), (20, .d (vSteps E)), (21, aI E.length), (22, aI x.1)], [(100, some (.arr 3 1 (ints (List.replicate n (-1))))), (101, some (.arr 39 1 (rowsV 1 n x.2.1))), (102, some (.pred x.2.2 fun w => TL w x.2.2 (nxtD (E.take x.1) n) x.2.1))]⟩) (fun x => x.1 ≤ E.length ∧ x.2.1.length = n) (fun x => E.length - x.1) ((0, List.replicate n (.slice none 0 0), fun _ => False)) ?_ (⟨Nat.zero_le _, by simp⟩) ?_
 ·exact (Weak.nilsT 3 1 n).trans (Weak.ren _ [(100, 16), (101, 32), (102, 56)] hC rfl (by repeat (first | exact True.intro | refine And.intro ?_ ?_ | exact DLead.same | exact rfl | refine ⟨_, rfl, ?_⟩)) (by dsimp only; rw [rows1_rep, List.take_zero, nxtD_nil]; repeat (first | exact True.intro | refine And.intro ?_ ?_ | exact rfl | refine ⟨_, _, rfl, rfl, ?_⟩)) rfl rfl rfl)
 ·rintro ⟨j, V, S⟩ ⟨hj, hV⟩
  dsimp only at hj hV ⊢
  refine AC.seq (AC.region ?_)
  refine AL.p (by exact g_cmp rfl rfl rfl) rfl ?_
  refine AL.nil (th_n (AC.seq ?_))
  refine AC.condD rfl (fun h0 => ?_) (fun h0 => ?_)
  ·refine AC.skip (th_n (AC.seq (AC.block (AC.seq ?_))))
   have hj1 : j < E.length := by omega
   have hget := stepL_get hj1
   have hin := hE E[j].1 E[j].2 (List.getElem_mem hj1)
   have htk : E.take (j + 1) = E.take j ++ [(E[j].1, E[j].2)] := by rw [List.take_add_one, List.getElem?_eq_getElem hj1]; rfl
   obtain ⟨f, hf⟩ : ∃ f, f = E[j].1 := ⟨_, rfl⟩
   obtain ⟨t, ht⟩ : ∃ t, t = E[j].2 := ⟨_, rfl⟩
   rw [← hf, ← ht] at hget hin htk
   clear hf ht
   refine AC.region ?_
   refine AL.p (by exact g_ia_view rfl rfl rfl rfl rfl (by rfl) (by assumption)) rfl ?_
   refine AL.p (by exact g_load_refN rfl rfl rfl rfl) rfl ?_
   refine AL.q (by exact h_alloc rfl) rfl ?_
   refine AL.q (by exact h_store rfl rfl rfl rfl rfl rfl) rfl ?_
   refine AL.nil (th_n ?_)
   refine AC.weak (t := ⟨85, 700, [(2, aI s), (7, .own 100 n), (8, .own 101 n), (10, .ptr 103 0), (20, .d (vSteps E)), (21, aI E.length), (22, aI j)], [(100, some (.arr 3 1 (ints (List.replicate n (-1))))), (101, some (.arr 39 1 (rowsV 1 n V))), (102, some (.pred S fun w => TL w S (nxtD (E.take j) n) V)), (103, some (.cells 138 [aI f, aI t]))]⟩) (Weak.ren _ [(100, 100), (101, 101), (102, 102), (103, _)] hC rfl (by repeat (first | exact True.intro | refine And.intro ?_ ?_ | exact DLead.same | exact rfl | refine ⟨_, rfl, ?_⟩)) (by repeat (first | exact True.intro | refine And.intro ?_ ?_ | exact DLead.same | exact rfl | refine ⟨_, _, rfl, rfl, ?_⟩ | refine ⟨_, rfl, ?_⟩ | refine ⟨_, _, rfl, ?_, ?_⟩)) rfl rfl rfl) ?_
   obtain ⟨v, hv⟩ : ∃ v, V[f]? = some v := ⟨_, List.getElem?_eq_getElem (by omega)⟩
   have hrow0 := rows1_get hin.1 hv
   refine AC.weakR (WeakR.splitT 102 f (L := nxtD (E.take j) n) (V := V) (d := vI (nI (nextL (E.take j) f))) (v := v) rfl (fun w h => h) (nxtD_get hin.1) hv rfl) ?_
   rintro _ ⟨S1, S2, hS, rfl⟩
   refine AC.weakR (WeakR.openC 700 (e := 3) (sz := 1) (els := ints (nI (nextL (E.take j) f))) (v := v) rfl (fun w h => h) rfl rfl) ?_
   rintro _ ⟨p, V', S', ⟨hv', hp, hVl, hrow, hSS, hx⟩, rfl⟩
   rw [rows1_ints hVl hx]
   have hll := nextL_len (E.take j) f
   rw [List.length_take] at hll
   rw [ints_len] at hv' hp
   have hDs := nxtD_snoc (E := E.take j) (n := n) (f := f) (t := t)
   rw [← htk] at hDs
   have hDl := nxtD_len (E.take j) n
   obtain ⟨l, hl⟩ : ∃ l, l = nI (nextL (E.take j) f) := ⟨_, rfl⟩
   have hnl : l.length ≤ j := by rw [hl, nI_len]; omega
   rw [← hl] at hv' hp hDs ⊢
   clear hl hVl hrow hx hSS
   refine AC.drawnE mixed_ok [[], [], [1], [], [], [4], [3,4,5], [3,4,5,6], [], [8], [8,9], [3,4,5,6,7,8,9,10], [0,1,2,3,4,5,6,7,8,9,10,11], [0,1,2,3,4,5,6,7,8,9,10,11,12]] (by decide) ?_
   refine DE.op 0 [] 14 rfl rfl rfl (.free rfl (NOp.of (by exact mv2 rfl))) rfl ?_
   refine DE.op 1 [] 14 rfl rfl rfl (.free rfl (NOp.of (by exact g_fa_ptr rfl rfl rfl rfl rfl))) rfl ?_
   refine DE.op 2 [1] 14 rfl rfl rfl (.free rfl (NOp.of (by exact g_load_ptr rfl rfl rfl rfl rfl))) rfl ?_
   refine DE.op 3 [] 14 rfl rfl rfl (.free rfl (NOp.of (by exact mv2 rfl))) rfl ?_
   refine DE.op 4 [] 14 rfl rfl rfl (.free rfl (NOp.of (by exact g_fa_ptr rfl rfl rfl rfl rfl))) rfl ?_
   refine DE.op 5 [4] 14 rfl rfl rfl (.free rfl (NOp.of (by exact g_load_ptr rfl rfl rfl rfl rfl))) rfl ?_
   refine DE.op 6 [3,4,5] 14 rfl rfl rfl (.free rfl (NOp.of (by exact g_ia_own (i := f) (l := n) rfl rfl rfl rfl rfl rfl hin.1 rfl))) rfl ?_
   refine DE.op 7 [3,4,5,6] 14 rfl rfl rfl (.free rfl (NOp.of (by exact g_load_lock (il := 709) (ia := 708) (p := p) (i := f) (j := 0) rfl rfl rfl rfl rfl hrow0 rfl rfl hv' hp))) rfl ?_
   refine DE.op 8 [] 14 rfl rfl rfl (.free rfl (NOp.of (by exact g_fa_ptr rfl rfl rfl rfl rfl))) rfl ?_
   refine DE.op 9 [8] 14 rfl rfl rfl (.free rfl (NOp.of (by exact g_load_ptr rfl rfl rfl rfl rfl))) rfl ?_
   refine DE.op 10 [8,9] 14 rfl rfl rfl (.free rfl (by exact h_litF rfl rfl rfl rfl rfl rfl rfl rfl)) rfl ?_
   refine DE.op 11 [3,4,5,6,7,8,9,10] 14 rfl rfl rfl (.free rfl (by exact h_appendI l [(t : Int)] (.own rfl rfl (ints_len _).symm) (.view rfl) (by rw [List.length_append]; simp only [List.length_cons, List.length_nil]; omega) (by simp))) rfl ?_
   refine DE.op 12 [0,1,2,3,4,5,6,7,8,9,10,11] 14 rfl rfl rfl (.free rfl (NOp.of (by exact g_ia_own (i := f) (l := n) rfl rfl rfl rfl rfl rfl hin.1 rfl))) rfl ?_
   refine DE.opX 13 [0,1,2,3,4,5,6,7,8,9,10,11,12] 14 ((Value.int .i64 0, fun _ => False)) rfl rfl rfl rfl (h_storeRaw (i := f) (j := 0) rfl rfl rfl rfl rfl rfl (Nat.le_of_eq (ints_len _).symm) (List.take_of_length_le (Nat.le_of_eq (ints_len _))) (ints_fl _) rfl hrow0 (by decide) rfl) rfl (by decide) ?_
   rintro ⟨v2, S3⟩
   refine DE.fin (ps := [(0,1),(0,2),(0,3),(0,4),(0,5),(0,6),(0,7),(0,8),(0,9),(0,10),(0,11),(1,0),(1,3),(1,4),(1,5),(1,6),(1,7),(1,8),(1,9),(1,10),(1,11),(2,0),(2,3),(2,4),(2,5),(2,6),(2,7),(2,8),(2,9),(2,10),(2,11),(3,0),(3,1),(3,2),(3,4),(3,5),(3,8),(3,9),(3,10),(4,0),(4,1),(4,2),(4,3),(4,8),(4,9),(4,10),(5,0),(5,1),(5,2),(5,3),(5,8),(5,9),(5,10),(6,0),(6,1),(6,2),(6,8),(6,9),(6,10),(7,0),(7,1),(7,2),(7,8),(7,9),(7,10),(8,0),(8,1),(8,2),(8,3),(8,4),(8,5),(8,6),(8,7),(9,0),(9,1),(9,2),(9,3),(9,4),(9,5),(9,6),(9,7),(10,0),(10,1),(10,2),(10,3),(10,4),(10,5),(10,6),(10,7),(11,0),(11,1),(11,2)]) 14 rfl rfl (by decide +kernel) (by decide +kernel) (by rfl) ?_
   refine ib_n (th_n (AC.region ?_))
   refine AL.p (by exact g_arith rfl rfl rfl (by exact wrap_i64 (by omega))) rfl ?_
   refine AL.p (by exact mv1 rfl) rfl ?_
   refine AL.nil (th_n ?_)
   have hsv := rows1_set (v := v2) hV hin.1
   exact ⟨(j + 1, V.set f v2, fun k => S2 k ∨ S3 k), ⟨hj1, by rw [List.length_set]; exact hV⟩, by dsimp only; omega, (Weak.cons 102 (fun w => TX w S2 f (nxtD (E.take j) n) (V.set f v2)) rfl (fun w h => h.setV v2) (fun w w' hk h => h.turn hk)).trans ((Weak.joinT 102 820 f (S := fun k => S2 k ∨ S3 k) rfl rfl (fun w h => h) (fun k => Iff.rfl) (by rw [hDl]; exact hin.1) (by rw [List.getElem?_set_self (by omega)]) rfl).trans (Weak.ren _ [(100, 100), (101, 101), (102, 102)] hC rfl (by repeat (first | exact True.intro | refine And.intro ?_ ?_ | exact DLead.same | exact rfl | refine ⟨_, rfl, ?_⟩)) (by rw [hDs, ← hsv]; repeat (first | exact True.intro | refine And.intro ?_ ?_ | exact rfl | refine ⟨_, _, rfl, rfl, ?_⟩)) rfl rfl rfl))⟩
  ·refine AC.exit (th_e (th_e (ib_y (th_n (AC.seq ?_)))))
   have hjj : j = E.length := by omega
   rw [hjj, List.take_length]
   refine AC.weakR (WeakR.closeN (els := nxtR E n) (V := V) 8 102 101 rfl (by simp) rfl (fun w h => by rw [nxtR_flat]; exact h) rfl (by simp) (nxtR_row E n) rfl) ?_
   rintro _ ⟨v0, S0, rfl⟩
   refine AC.weak (Weak.thaw 8 102 (x := .view 39 1 (nxtR E n)) rfl rfl (fun w h => h)) ?_
   refine AC.weak (t := ⟨85, 900, [(2, aI s), (7, .own 100 n), (8, .d (.view 39 1 (nxtR E n)))], [(100, some (.arr 3 1 (ints (List.replicate n (-1)))))]⟩) (Weak.ren _ [(100, 100)] hC rfl (by repeat (first | exact True.intro | refine And.intro ?_ ?_ | exact DLead.same | exact rfl | refine ⟨_, rfl, ?_⟩)) (by repeat (first | exact True.intro | refine And.intro ?_ ?_ | exact rfl | refine ⟨_, _, rfl, rfl, ?_⟩)) rfl rfl rfl) ?_
   have hr0 : (ints (List.replicate n (-1)))[s]? = some [dI (-1)] := by rw [rep_ints, List.getElem?_replicate, if_pos hs]
   refine AC.region ?_
   refine AL.p (by exact mv2 rfl) rfl ?_
   refine AL.p (by exact mv1 rfl) rfl ?_
   refine AL.p (by exact g_ia_own (i := s) (l := n) rfl rfl rfl rfl rfl rfl hs rfl) rfl ?_
   refine AL.q (by exact h_store_arr (i := s) (j := 0) (d := dI 0) rfl rfl rfl rfl .same rfl hr0 (by decide)) rfl ?_
   refine AL.nil (th_n (AC.seq (AC.region ?_)))
   refine AL.p (by exact mv1 rfl) rfl ?_
   refine AL.q (by exact h_lit rfl rfl rfl rfl rfl rfl rfl rfl) rfl ?_
   refine AL.p (by exact as2 rfl) rfl ?_
   refine AL.nil (th_n (AC.seq (AC.seq (AC.region ?_))))
   refine AL.p (by exact as1 rfl) rfl ?_
   refine AL.nil (th_n (AC.block ?_))
   refine AC.loop (ι := List Int × List Nat × Nat) (fun x => ⟨85, 1200, [(7, .own 100 n), (8, .d (.view 39 1 (nxtR E n))), (11, .own 101 x.2.1.length), (12, aI x.2.2)], [(100, some (.arr 3 1 (ints x.1))), (101, some (.arr 3 1 (ints (nI x.2.1))))]⟩) (fun x => BfsI E n s x.1 x.2.1 x.2.2 0 ∧ ∀ v, oa x.1 v ≤ x.2.2) (fun x => n - x.2.2) (((List.replicate n (-1)).set s 0, [s], 0)) ?_ (⟨hB0, fun v => oa_start hs v⟩) ?_
   ·exact Weak.ren _ [(100, 100), (101, _)] hC rfl (by repeat (first | exact True.intro | refine And.intro ?_ ?_ | exact DLead.same | exact rfl | refine ⟨_, rfl, ?_⟩)) (by rw [repN_set]; repeat (first | exact True.intro | refine And.intro ?_ ?_ | exact rfl | refine ⟨_, _, rfl, rfl, ?_⟩)) rfl rfl rfl
   ·rintro ⟨o, q, a⟩ ⟨hB, hbd⟩
    dsimp only at hB hbd ⊢
    have hql : q.length ≤ n := by have := hB.cnt; omega
    have hal := hB.al
    refine AC.seq (AC.seq (AC.region ?_))
    refine AL.p (by exact mv1 rfl) rfl ?_
    refine AL.p (by exact mv2 rfl) rfl ?_
    refine AL.p (by exact g_len_own (sz := 1) (els := []) (e' := 0) rfl rfl (by simp only [maxLen]; omega)) rfl ?_
    refine AL.p (by exact g_cmp rfl rfl rfl) rfl ?_
    refine AL.nil (th_n ?_)
    refine AC.condD rfl (fun h1 => ?_) (fun h1 => ?_)
    ·refine AC.skip (th_n (AC.seq (AC.block (AC.seq ?_))))
     have ha : a < q.length := by omega
     have hqa := nI_get ha
     have hca : q.getD a 0 = q[a] := by rw [List.getD_eq_getElem?_getD, List.getElem?_eq_getElem ha]; rfl
     rw [← hca] at hqa
     obtain ⟨c, hc⟩ : ∃ c, c = q.getD a 0 := ⟨_, rfl⟩
     rw [← hc] at hqa
     have hc0 : 0 ≤ oa o c := by rw [hc, hca]; exact (hB.mem _).1 (List.getElem_mem ha)
     have hcn : c < n := by have := oa_lt hc0; rw [hB.len] at this; exact this
     have hnr := nxtR_get (E := E) hcn
     refine AC.region ?_
     refine AL.p (by exact mv1 rfl) rfl ?_
     refine AL.p (by exact mv2 rfl) rfl ?_
     refine AL.p (by exact mv1 rfl) rfl ?_
     refine AL.p (by exact g_ia_own (i := a) (l := q.length) rfl rfl rfl rfl rfl rfl ha rfl) rfl ?_
     refine AL.p (by exact g_load_arr1 rfl rfl rfl rfl (by rw [Nat.mul_one]; exact hqa)) rfl ?_
     refine AL.p (by exact g_ia_view (i := c) rfl rfl rfl rfl rfl rfl hnr) rfl ?_
     refine AL.p (by exact g_load_ref rfl rfl rfl) rfl ?_
     refine AL.p (by exact g_len_view (k := (nextL E c).length) rfl rfl (by rw [ints_len, nI_len])) rfl ?_
     refine AL.p (by exact mv1 rfl) rfl ?_
     refine AL.nil (th_n (AC.block ?_))
     refine AC.loop (ι := List Int × List Nat × Nat) (fun x => ⟨85, 1500, [(7, .own 100 n), (8, .d (.view 39 1 (nxtR E n))), (11, .own 101 x.2.1.length), (12, aI a), (57, .d (vI (nI (nextL E c)))), (58, aI (nextL E c).length), (59, aI x.2.2)], [(100, some (.arr 3 1 (ints x.1))), (101, some (.arr 3 1 (ints (nI x.2.1))))]⟩) (fun x => BfsI E n s x.1 x.2.1 a x.2.2 ∧ a < x.2.1.length ∧ x.2.1.getD a 0 = c ∧ (∀ v, oa x.1 v ≤ a + 1) ∧ oa x.1 c ≤ a ∧ 0 ≤ oa x.1 c ∧ x.2.2 ≤ (nextL E c).length) (fun x => (nextL E c).length - x.2.2) ((o, q, 0)) ?_ (⟨hB, ha, hc.symm, fun v => by have := hbd v; dsimp only; omega, hbd c, hc0, Nat.zero_le _⟩) ?_
     ·exact Weak.ren _ [(100, 100), (101, 101)] hC rfl (by repeat (first | exact True.intro | refine And.intro ?_ ?_ | exact DLead.same | exact rfl | refine ⟨_, rfl, ?_⟩)) (by repeat (first | exact True.intro | refine And.intro ?_ ?_ | exact rfl | refine ⟨_, _, rfl, rfl, ?_⟩)) rfl rfl rfl
     ·rintro ⟨o, q, j⟩ ⟨hB, ha, hqc, hbd, hbc, hc0, hj⟩
      dsimp only at hB ha hqc hbd hbc hc0 hj ⊢
      have hol := hB.len
      have hql : q.length ≤ n := by have := hB.cnt; omega
      refine AC.seq (AC.region ?_)
      refine AL.p (by exact g_cmp rfl rfl rfl) rfl ?_
      refine AL.nil (th_n (AC.seq ?_))
      refine AC.condD rfl (fun h2 => ?_) (fun h2 => ?_)
      ·refine AC.skip (th_n (AC.seq (AC.block (AC.seq ?_))))
       have hj1 : j < (nextL E c).length := by omega
       have hnl := nextL_len E c
       have hget := nI_get hj1
       have hno := hB.no ha (j := j)
       have hye := hB.yes ha (j := j)
       rw [hqc] at hno hye
       have hno := hno hj1
       have hye := hye hj1
       have htn : (nextL E c)[j] < n := (hE _ _ (nextL_mem.1 (List.getElem_mem hj1))).2
       obtain ⟨t, ht⟩ : ∃ t, t = (nextL E c)[j] := ⟨_, rfl⟩
       rw [← ht] at hget hno hye htn
       clear ht
       have hot := ints_oa (o := o) (v := t) (by omega)
       have hoc := ints_oa (o := o) (v := c) (by omega)
       have hqa := nI_at ha hqc
       refine AC.region ?_
       refine AL.p (by exact g_ia_view rfl rfl rfl rfl rfl (by rfl) (by assumption)) rfl ?_
       refine AL.p (by exact g_load_ref rfl rfl rfl) rfl ?_
       refine AL.p (by exact as1 rfl) rfl ?_
       refine AL.nil (th_n (AC.seq (AC.region ?_)))
       refine AL.p (by exact mv2 rfl) rfl ?_
       refine AL.p (by exact mv1 rfl) rfl ?_
       refine AL.p (by exact g_ia_own (i := t) (l := n) rfl rfl rfl rfl rfl rfl htn rfl) rfl ?_
       refine AL.p (by exact g_load_arr1 rfl rfl rfl rfl (by rw [Nat.mul_one]; exact hot)) rfl ?_
       refine AL.p (by exact g_cmp rfl rfl rfl) rfl ?_
       refine AL.nil (th_n ?_)
       refine AC.condD rfl (fun h3 => ?_) (fun h3 => ?_)
       ·refine AC.seq (AC.region ?_)
        refine AL.p (by exact mv2 rfl) rfl ?_
        refine AL.p (by exact mv1 rfl) rfl ?_
        refine AL.p (by exact mv2 rfl) rfl ?_
        refine AL.p (by exact mv2 rfl) rfl ?_
        refine AL.p (by exact mv1 rfl) rfl ?_
        refine AL.p (by exact g_ia_own (i := a) (l := q.length) rfl rfl rfl rfl rfl rfl ha rfl) rfl ?_
        refine AL.p (by exact g_load_arr1 rfl rfl rfl rfl (by rw [Nat.mul_one]; exact hqa)) rfl ?_
        refine AL.p (by exact g_ia_own (i := c) (l := n) rfl rfl rfl rfl rfl rfl (by omega) rfl) rfl ?_
        refine AL.p (by exact g_load_arr1 rfl rfl rfl rfl (by rw [Nat.mul_one]; exact hoc)) rfl ?_
        refine AL.p (by exact g_arith rfl rfl rfl (by exact wrap_i64 (by omega))) rfl ?_
        refine AL.p (by exact g_ia_own (i := t) (l := n) rfl rfl rfl rfl rfl rfl htn rfl) rfl ?_
        refine AL.q (by exact h_store_arr (i := t) (j := 0) (d := dI (oa o c + 1)) rfl rfl rfl rfl .same rfl hot (by decide)) rfl ?_
        refine AL.nil (th_n (AC.region ?_))
        refine AL.p (by exact mv2 rfl) rfl ?_
        refine AL.p (by exact mv1 rfl) rfl ?_
        refine AL.q (by exact h_litF rfl rfl rfl rfl rfl rfl rfl rfl) rfl ?_
        refine AL.q (by exact h_appendI (nI q) [(t : Int)] (.own rfl rfl (by rw [ints_len, nI_len])) (.view rfl) (by rw [List.length_append, nI_len]; simp only [List.length_cons, List.length_nil]; omega) (by simp)) rfl ?_
        refine AL.p (by exact as2 rfl) rfl ?_
        refine AL.nil (ib_n (th_n (AC.region ?_)))
        refine AL.p (by exact g_arith rfl rfl rfl (by exact wrap_i64 (by omega))) rfl ?_
        refine AL.p (by exact mv1 rfl) rfl ?_
        refine AL.nil (th_n ?_)
        (have hlt : oa o t < 0 := (by assumption); have e := hye hlt; have hct : c ≠ t := (fun q => by rw [q] at hc0; omega); exact ⟨(o.set t (oa o c + 1), q ++ [t], j + 1), ⟨e, by rw [List.length_append]; omega, by rw [getD_app1 ha]; exact hqc, fun v => by dsimp only; (by_cases g : v = t); (rw [g, oa_set_self (by omega)]; omega); (rw [oa_set_ne g]; exact hbd v), by dsimp only; rw [oa_set_ne hct]; exact hbc, by dsimp only; rw [oa_set_ne hct]; exact hc0, by dsimp only; omega⟩, by dsimp only; omega, Weak.ren _ [(100, 100), (101, _)] hC rfl (by rw [List.length_append, nI_len, List.length_append]; repeat (first | exact True.intro | refine And.intro ?_ ?_ | exact DLead.same | exact rfl | refine ⟨_, rfl, ?_⟩)) (by rw [ints_set, show nI (q ++ [t]) = nI q ++ [(t : Int)] by unfold nI; rw [List.map_append]; rfl]; repeat (first | exact True.intro | refine And.intro ?_ ?_ | exact rfl | refine ⟨_, _, rfl, rfl, ?_⟩)) rfl rfl rfl⟩)
       ·refine AC.skip (ib_n (th_n (AC.region ?_)))
        refine AL.p (by exact g_arith rfl rfl rfl (by exact wrap_i64 (by omega))) rfl ?_
        refine AL.p (by exact mv1 rfl) rfl ?_
        refine AL.nil (th_n ?_)
        (have hge : 0 ≤ oa o t := (by omega); have e := hno hge; exact ⟨(o, q, j + 1), ⟨e, ha, hqc, hbd, hbc, hc0, by dsimp only; omega⟩, by dsimp only; omega, Weak.ren _ [(100, 100), (101, 101)] hC rfl (by repeat (first | exact True.intro | refine And.intro ?_ ?_ | exact DLead.same | exact rfl | refine ⟨_, rfl, ?_⟩)) (by repeat (first | exact True.intro | refine And.intro ?_ ?_ | exact rfl | refine ⟨_, _, rfl, rfl, ?_⟩)) rfl rfl rfl⟩)
      ·refine AC.exit (th_e (th_e (ib_y (ib_n (th_n (AC.region ?_))))))
       refine AL.p (by exact mv1 rfl) rfl ?_
       refine AL.p (by exact g_arith rfl rfl rfl (by exact wrap_i64 (by omega))) rfl ?_
       refine AL.p (by exact as1 rfl) rfl ?_
       refine AL.nil (th_n ?_)
       have e := hB.next ha (by rw [hqc]; omega)
       exact ⟨(o, q, a + 1), ⟨e, hbd⟩, by dsimp only; omega, Weak.ren _ [(100, 100), (101, 101)] hC rfl (by repeat (first | exact True.intro | refine And.intro ?_ ?_ | exact DLead.same | exact rfl | refine ⟨_, rfl, ?_⟩)) (by repeat (first | exact True.intro | refine And.intro ?_ ?_ | exact rfl | refine ⟨_, _, rfl, rfl, ?_⟩)) rfl rfl rfl⟩
    ·refine AC.exit (th_e (th_e (ib_y (th_n (AC.seq ?_)))))
     have haq : a = q.length := by omega
     rw [haq] at hB
     have hd := hB.dist.eq
     rw [hd]
     refine AC.weak (Weak.freeze (i := 7) rfl rfl (by rw [ints_len, hB.len]; exact Nat.le_refl _) (List.take_of_length_le (by rw [ints_len, hB.len]; exact Nat.le_refl _))) ?_
     refine AC.region ?_
     refine AL.p (by exact mv1 rfl) rfl ?_
     refine AL.p (by exact as1 rfl) rfl ?_
     refine AL.nil (th_n (AC.ret (bq_r ?_)))
     exact ret1 rfl rfl
theorem en_distances : Enters Tryz.prog 122 := enters_of Tryz.func122 rfl rfl
theorem DistOf.lt {E : List (Nat × Nat)} {n s : Nat} {o : List Int} (h : DistOf E n s o) {v : Nat} (hv : 0 ≤ oa o v) : v < n := by have := oa_lt hv; rw [h.len] at this; exact this
theorem distF_le {E : List (Nat × Nat)} {n s : Nat} (hs : s < n) (hE : ∀ f t, (f, t) ∈ E → f < n ∧ t < n) (v : Nat) : -1 ≤ oa (distF E n s) v ∧ oa (distF E n s) v ≤ n := by
 obtain ⟨o, h⟩ := rnd_ex hs hE n
 rw [h.dist.eq]
 exact ⟨h.lo v, h.hi0 rfl v⟩
theorem goodR_moves {x : Ex} (h : goodR x = true) : ∀ v, v ∈ x.moves → (0 ≤ v.from_ ∧ v.from_ < x.marks.length) ∧ (0 ≤ v.to_ ∧ v.to_ < x.marks.length) ∧ 0 ≤ v.by_ ∧ v.by_ ≤ 23 := fun v hv => mvIn_iff.1 ((goodR_iff.1 h).2.2.2 v hv)
theorem goodR_edges {x : Ex} (h : goodR x = true) : ∀ f t, (f, t) ∈ edgesR x → f < x.marks.length ∧ t < x.marks.length := edgesR_in fun v hv => by have := goodR_moves h v hv; omega
theorem repZ (n : Nat) : List.replicate n (([ZK.int .i64] : List ZK).map fun z => DV.val z.val) = ints (List.replicate n 0) := by rw [ints, List.map_replicate]; rfl
theorem fire_ready {N : Net} {m : List UInt8} (hb : bitsB m N.places = true) (hM : NetM N m) {t : Int} (ht : t ∈ readyL N m N.ts.length) : ∃ i, ∃ hi : i < N.ts.length, t = (i : Int) ∧ fireI N m t = fireT N.ts[i] m := by
 unfold readyL at ht
 obtain ⟨k, hk, rfl⟩ := List.mem_map.1 ht
 have h := (List.mem_filter.1 hk).2
 cases e : N.ts[k]? with
 | none => rw [e] at h; cases h
 | some u =>
  obtain ⟨hk2, rfl⟩ := List.getElem?_eq_some_iff.1 e
  rw [e] at h
  refine ⟨k, hk2, rfl, ?_⟩
  rw [fireI_at hk2, ← ready_enabled hb (hM _ (List.getElem_mem hk2)).1]
  exact if_pos h
def rMark (r : Option (Int × Int)) : Int := match r with | some p => (if 0 ≤ p.1 then p.1 else 0) | none => 0
def rBad (r : Option (Int × Int)) : Int := match r with | some p => p.2 | none => -1
def rFull (r : Option (Int × Int)) : Bool := match r with | some p => decide (p.1 < 0) | none => false
abbrev zR : List AV := [.d (.val (.slice none 0 0)), .d (.val (.slice none 0 0)), .d (.val (.slice none 0 0)), aI 0, aI 0, aT false]
abbrev refA (F : Ex × Option (Int × Int)) (a b c : Nat) : List AV := [.own a F.1.marks.length, .own b F.1.moves.length, .own c (byL F.1).length, aI (rMark F.2), aI (rBad F.2), aT (rFull F.2)]
theorem posI_neg {m : List UInt8} {l : List (List UInt8)} (h : posI m l < 0) : posL m l = none := by
 unfold posI at h
 split at h
 ·omega
 ·assumption
theorem posI_nat {m : List UInt8} {l : List (List UInt8)} (h : ¬ posI m l < 0) : ∃ i, posL m l = some i ∧ posI m l = (i : Int) := by
 cases hp : posL m l with
 | none => unfold posI at h; rw [hp] at h; exact absurd (show (-1 : Int) < 0 by decide) h
 | some i => exact ⟨i, rfl, by unfold posI; rw [hp]⟩
theorem rMark_nat (k : Nat) (t : Int) : rMark (some ((k : Int), t)) = (k : Int) := by unfold rMark; exact if_pos (Int.natCast_nonneg k)
theorem rFull_nat (k : Nat) (t : Int) : rFull (some ((k : Int), t)) = false := by unfold rFull; exact decide_eq_false (by show ¬ (k : Int) < 0; omega)
set_option maxHeartbeats 16000000 in
theorem sReach_spec (s : Stg) (hB : StgB s) (hg : goodS s = true) : ASpec Tryz.prog 99 [stgA s] [] (Fun1 (.agg (refA (explR s.net s.start) 0 1 2)) [(0, .arr 9 1 (tsX (explR s.net s.start).1.marks)), (1, .arr 52 3 (mvL (explR s.net s.start).1.moves)), (2, .arr 52 3 (mvL (byL (explR s.net s.start).1)))]) := by
 obtain ⟨hg1, hg2⟩ : goodN s.net = true ∧ bitsB s.start s.net.places = true := by
  simp only [goodS, Bool.and_eq_true] at hg
  exact hg.1
 have hpl := good_places hg1
 have hun : explR s.net s.start = exOut s.net 301 0 ⟨[s.start], []⟩ := rfl
 obtain ⟨F, hF⟩ : ∃ F, F = explR s.net s.start := ⟨_, rfl⟩
 rw [← hF] at hun ⊢
 have hI0 : ExI s.net ⟨[s.start], []⟩ 0 := ⟨by show 1 ≤ 300; omega, fun m hm => by rw [List.mem_singleton.1 hm]; exact hg2, Nat.le_refl _⟩
 have hst := bits_len hg2
 clear hF
 refine ASpec.of Tryz.func99 rfl rfl fun C hC => ?_
 refine AC.seq (AC.region ?_)
 refine AL.q (by exact h_boxF rfl rfl) rfl ?_
 refine AL.q (by exact h_alloc rfl) rfl ?_
 refine AL.nil (th_n (AC.seq (AC.region ?_)))
 refine AL.p (by exact g_fa_ref rfl rfl rfl rfl rfl rfl) rfl ?_
 refine AL.p (by exact g_load_ref rfl rfl rfl) rfl ?_
 refine AL.q (by exact h_lit rfl rfl rfl rfl rfl rfl rfl rfl) rfl ?_
 refine AL.p (by exact g_build rfl rfl rfl) rfl ?_
 refine AL.p (by exact g_build rfl rfl rfl) rfl ?_
 refine AL.q (by exact h_lit rfl rfl rfl rfl rfl rfl rfl rfl) rfl ?_
 refine AL.p (by exact g_build rfl rfl rfl) rfl ?_
 refine AL.q (by exact h_alloc rfl) rfl ?_
 refine AL.q (by exact h_store rfl rfl rfl rfl rfl rfl) rfl ?_
 refine AL.nil (th_n (AC.seq (AC.seq (AC.region ?_))))
 refine AL.p (by exact as1 rfl) rfl ?_
 refine AL.nil (th_n (AC.block ?_))
 refine AC.loop (ι := Nat × Ex) (fun x => ⟨107, 600, [(1, .d (.ref (stgD s))), (2, .ptr 201 0), (3, .ptr 200 0), (4, aI x.1)], [(200, some (.cells 118 [.own 101 x.2.marks.length, .own 102 x.2.moves.length, .own 103 (byL x.2).length, aI 0, aI (-1), aT false])), (101, some (.arr 9 1 (tsX x.2.marks))), (102, some (.arr 52 3 (mvL x.2.moves))), (103, some (.arr 52 3 (mvL (byL x.2)))), (201, some (.cells 118 zR))]⟩) (fun x => x.1 ≤ x.2.marks.length ∧ ExI s.net x.2 (24 * x.1) ∧ ByI s.net x.2 x.1 ∧ exOut s.net (301 - x.1) x.1 x.2 = F) (fun x => 301 - x.1) ((0, ⟨[s.start], []⟩)) ?_ (⟨Nat.zero_le _, hI0, ByI.start _ _, hun.symm⟩) ?_
 ·exact (Weak.nilOwnP 3 1 (e := 52) (sz := 3) rfl rfl rfl rfl rfl).trans (Weak.ren _ [(200, _), (101, _), (102, _), (103, _), (201, _)] hC rfl (by repeat (first | exact True.intro | refine And.intro ?_ ?_ | exact DLead.same | exact rfl | refine ⟨_, rfl, ?_⟩)) (by repeat (first | exact True.intro | refine And.intro ?_ ?_ | exact DLead.same | exact rfl | refine ⟨_, _, rfl, rfl, ?_⟩ | refine ⟨_, rfl, ?_⟩ | refine ⟨_, _, rfl, ?_, ?_⟩)) rfl rfl rfl)
 ·rintro ⟨k, x⟩ ⟨hk, hI, hY, hrun⟩
  dsimp only at hk hI hY hrun ⊢
  have hxn := hI.n
  refine AC.seq (AC.seq (AC.region ?_))
  refine AL.p (by exact mv1 rfl) rfl ?_
  refine AL.p (by exact g_fa_ptr rfl rfl rfl rfl rfl) rfl ?_
  refine AL.p (by exact g_fa_ptr rfl rfl rfl rfl rfl) rfl ?_
  refine AL.p (by exact g_load_ptr rfl rfl rfl rfl rfl) rfl ?_
  refine AL.p (by exact g_len_own (sz := 1) (els := []) (e' := 0) rfl rfl (by simp only [maxLen]; omega)) rfl ?_
  refine AL.p (by exact g_cmp rfl rfl rfl) rfl ?_
  refine AL.nil (th_n ?_)
  refine AC.condD rfl (fun h0 => ?_) (fun h0 => ?_)
  ·refine AC.skip (th_n (AC.seq (AC.block (AC.seq ?_))))
   have hk1 : k < x.marks.length := by omega
   have hmk := mkAt_nat hk1
   have hbm := hI.b _ (List.getElem_mem hk1)
   rw [← hmk] at hbm
   have hrow : (tsX x.marks)[k]? = some [dS (bstr (mkAt x k))] := by rw [hmk]; exact tsX_get hk1
   obtain ⟨n, hn⟩ : ∃ n, 301 - k = n + 1 := ⟨300 - k, by omega⟩
   rw [hn, exOut, if_pos hk1] at hrun
   obtain ⟨m, hm⟩ : ∃ m, m = mkAt x k := ⟨_, rfl⟩
   rw [← hm] at hbm hrow hrun
   have hNM := good_netM hg1 hbm
   have hEn := l1Enabled_spec s.net m hB.n hNM
   have hLl := readyL_len s.net m s.net.ts.length
   have hfr := fun t => fire_ready (t := t) hbm hNM
   have hLin := readyL_in s.net m s.net.ts.length
   obtain ⟨L, hL⟩ : ∃ L, L = readyL s.net m s.net.ts.length := ⟨_, rfl⟩
   simp only [← hL] at hEn hLl hrun hfr hLin
   have hml := bits_len hbm
   have hmarks : x.marks[k]? = some m := by rw [List.getElem?_eq_getElem hk1, hm, hmk]
   obtain ⟨Z, hZ⟩ : ∃ Z, Z = exIn s.net k m L x := ⟨_, rfl⟩
   rw [← hZ] at hrun
   clear hL
   refine AC.drawn' mixed_ok [[], [0], [], [2], [2,3], [], [2,3,4,5], [2,3,4,5,6], [0,1,2,3,4,5,6,7], [0,1,2,3,4,5,6,7,8], []] (by decide) ?_
   refine DF.op 0 [] 11 rfl rfl rfl (.free rfl (NOp.of (by exact g_fa_ref rfl rfl rfl rfl rfl rfl))) rfl ?_
   refine DF.op 1 [0] 11 rfl rfl rfl (.free rfl (NOp.of (by exact g_load_refN rfl rfl rfl rfl))) rfl ?_
   refine DF.op 2 [] 11 rfl rfl rfl (.free rfl (NOp.of (by exact g_fa_ptr rfl rfl rfl rfl rfl))) rfl ?_
   refine DF.op 3 [2] 11 rfl rfl rfl (.free rfl (NOp.of (by exact g_fa_ptr rfl rfl rfl rfl rfl))) rfl ?_
   refine DF.op 4 [2,3] 11 rfl rfl rfl (.free rfl (NOp.of (by exact g_load_ptr rfl rfl rfl rfl rfl))) rfl ?_
   refine DF.op 5 [] 11 rfl rfl rfl (.free rfl (NOp.of (by exact mv1 rfl))) rfl ?_
   refine DF.op 6 [2,3,4,5] 11 rfl rfl rfl (.free rfl (NOp.of (by exact g_ia_own (i := k) (l := x.marks.length) rfl rfl rfl rfl rfl rfl hk1 rfl))) rfl ?_
   refine DF.op 7 [2,3,4,5,6] 11 rfl rfl rfl (.free rfl (NOp.of (by exact g_load_arr1 rfl rfl rfl rfl (by rw [Nat.mul_one]; exact hrow)))) rfl ?_
   refine DF.op 8 [0,1,2,3,4,5,6,7] 11 rfl rfl rfl (.free rfl (by exact h_pure en_l1Enabled rfl rfl (by repeat (first | exact rfl | exact DLead.same | refine ⟨_, _, rfl, ?_, ?_⟩ | refine ⟨_, rfl, ?_⟩)) hEn rfl)) rfl ?_
   refine DF.op 9 (List.range 9) 11 rfl rfl rfl (.free rfl (NOp.of (by exact g_len_view (k := L.length) rfl rfl (ints_len _)))) rfl ?_
   refine DF.op 10 [] 11 rfl rfl rfl (.free rfl (NOp.of (by exact mv1 rfl))) rfl ?_
   refine DF.fin (ps := [(0,2),(0,3),(0,4),(0,5),(0,6),(0,7),(0,10),(1,2),(1,3),(1,4),(1,5),(1,6),(1,7),(1,10),(2,0),(2,1),(2,5),(2,10),(3,0),(3,1),(3,5),(3,10),(4,0),(4,1),(4,5),(4,10),(5,0),(5,1),(5,2),(5,3),(5,4),(5,10),(6,0),(6,1),(6,10),(7,0),(7,1),(7,10),(8,10),(9,10),(10,0),(10,1),(10,2),(10,3),(10,4),(10,5),(10,6),(10,7),(10,8),(10,9)]) 11 rfl (by decide +kernel) (by decide +kernel) (by rfl) ?_
   refine th_n (AC.block ?_)
   refine AC.loop (ι := Nat × Ex) (fun y => ⟨107, 900, [(1, .d (.ref (stgD s))), (2, .ptr 201 0), (3, .ptr 200 0), (4, aI k), (33, .d (vI L)), (34, aI L.length), (35, aI y.1)], [(200, some (.cells 118 [.own 101 y.2.marks.length, .own 102 y.2.moves.length, .own 103 (byL y.2).length, aI 0, aI (-1), aT false])), (101, some (.arr 9 1 (tsX y.2.marks))), (102, some (.arr 52 3 (mvL y.2.moves))), (103, some (.arr 52 3 (mvL (byL y.2)))), (201, some (.cells 118 zR))]⟩) (fun y => y.1 ≤ L.length ∧ k < y.2.marks.length ∧ y.2.marks[k]? = some m ∧ ExI s.net y.2 (24 * k + y.1) ∧ ByI s.net y.2 k ∧ exIn s.net k m (L.drop y.1) y.2 = Z) (fun y => L.length - y.1) ((0, x)) ?_ (⟨Nat.zero_le _, hk1, hmarks, hI, hY, hZ.symm⟩) ?_
   ·exact Weak.ren _ [(200, 200), (101, 101), (102, 102), (103, 103), (201, 201)] hC rfl (by repeat (first | exact True.intro | refine And.intro ?_ ?_ | exact DLead.same | exact rfl | refine ⟨_, rfl, ?_⟩)) (by repeat (first | exact True.intro | refine And.intro ?_ ?_ | exact DLead.same | exact rfl | refine ⟨_, _, rfl, rfl, ?_⟩ | refine ⟨_, rfl, ?_⟩ | refine ⟨_, _, rfl, ?_, ?_⟩)) rfl rfl rfl
   ·rintro ⟨j, y⟩ ⟨hj, hky, hym, hJ, hY, hin⟩
    dsimp only at hj hky hym hJ hY hin ⊢
    have hyn := hJ.n
    have hyl := hJ.l
    refine AC.seq (AC.region ?_)
    refine AL.p (by exact g_cmp rfl rfl rfl) rfl ?_
    refine AL.nil (th_n (AC.seq ?_))
    refine AC.condD rfl (fun h1 => ?_) (fun h1 => ?_)
    ·refine AC.skip (th_n (AC.seq (AC.block (AC.seq ?_))))
     have hj1 : j < L.length := by omega
     have hget := ints_at hj1
     have htm := hLin _ (List.getElem_mem hj1)
     obtain ⟨i, hi, hti, hfi⟩ := hfr _ (List.getElem_mem hj1)
     rw [List.drop_eq_getElem_cons hj1, exIn] at hin
     obtain ⟨t, ht⟩ : ∃ t, t = L[j] := ⟨_, rfl⟩
     rw [← ht] at hget hin htm hti hfi
     clear ht
     have hrowy : (tsX y.marks)[k]? = some [dS (bstr m)] := by rw [List.getElem?_map, hym]; rfl
     have hti2 := hB.n.t _ (List.getElem_mem hi)
     have hFi := l1Fire_spec s.net m i hi (by omega) (by omega) (by omega) (hNM _ (List.getElem_mem hi)).1 (hNM _ (List.getElem_mem hi)).2
     rw [← hfi, ← hti] at hFi
     have hfb := fireI_bits (N := s.net) (t := t) hbm
     obtain ⟨f, hf⟩ : ∃ f, f = fireI s.net m t := ⟨_, rfl⟩
     rw [← hf] at hFi hfb hin
     clear hf hfi hti
     have hbyl := byL_len hY.pos
     refine AC.region ?_
     refine AL.p (by exact g_ia_view rfl rfl rfl rfl rfl (by rfl) (by assumption)) rfl ?_
     refine AL.p (by exact g_load_ref rfl rfl rfl) rfl ?_
     refine AL.p (by exact as1 rfl) rfl ?_
     refine AL.nil (th_n (AC.seq ?_))
     refine AC.drawn' mixed_ok [[], [0], [], [2], [2,3], [], [2,3,4,5], [2,3,4,5,6], [], [0,1,2,3,4,5,6,7,8], [0,1,2,3,4,5,6,7,8,9], [0,1,2,3,4,5,6,7,8,9,10], [0,1,2,3,4,5,6,7,8,9,10], [0,1,2,3,4,5,6,7,8,9,10,11], [0,1,2,3,4,5,6,7,8,9,10,11,12,13]] (by decide) ?_
     refine DF.op 0 [] 15 rfl rfl rfl (.free rfl (NOp.of (by exact g_fa_ref rfl rfl rfl rfl rfl rfl))) rfl ?_
     refine DF.op 1 [0] 15 rfl rfl rfl (.free rfl (NOp.of (by exact g_load_refN rfl rfl rfl rfl))) rfl ?_
     refine DF.op 2 [] 15 rfl rfl rfl (.free rfl (NOp.of (by exact g_fa_ptr rfl rfl rfl rfl rfl))) rfl ?_
     refine DF.op 3 [2] 15 rfl rfl rfl (.free rfl (NOp.of (by exact g_fa_ptr rfl rfl rfl rfl rfl))) rfl ?_
     refine DF.op 4 [2,3] 15 rfl rfl rfl (.free rfl (NOp.of (by exact g_load_ptr rfl rfl rfl rfl rfl))) rfl ?_
     refine DF.op 5 [] 15 rfl rfl rfl (.free rfl (NOp.of (by exact mv1 rfl))) rfl ?_
     refine DF.op 6 [2,3,4,5] 15 rfl rfl rfl (.free rfl (NOp.of (by exact g_ia_own (i := k) (l := y.marks.length) rfl rfl rfl rfl rfl rfl hky rfl))) rfl ?_
     refine DF.op 7 [2,3,4,5,6] 15 rfl rfl rfl (.free rfl (NOp.of (by exact g_load_arr1 rfl rfl rfl rfl (by rw [Nat.mul_one]; exact hrowy)))) rfl ?_
     refine DF.op 8 [] 15 rfl rfl rfl (.free rfl (NOp.of (by exact mv1 rfl))) rfl ?_
     refine DF.op 9 (List.range 9) 15 rfl rfl rfl (.free rfl (by exact h_pure en_l1Fire rfl rfl (by repeat (first | exact rfl | exact DLead.same | refine ⟨_, _, rfl, ?_, ?_⟩ | refine ⟨_, rfl, ?_⟩)) hFi rfl)) rfl ?_
     refine DF.op 10 (List.range 10) 15 rfl rfl rfl (.free rfl (NOp.of (by exact mv5 rfl))) rfl ?_
     refine DF.op 11 (List.range 11) 15 rfl rfl rfl (.free rfl (NOp.of (by exact g_extract (r := .d _) rfl rfl))) rfl ?_
     refine DF.op 12 (List.range 11) 15 rfl rfl rfl (.free rfl (NOp.of (by exact g_extract (r := .d _) rfl rfl))) rfl ?_
     refine DF.op 13 (List.range 12) 15 rfl rfl rfl (.free rfl (NOp.of (by exact as1 rfl))) rfl ?_
     refine DF.op 14 (List.range 14) 15 rfl rfl rfl (.free rfl (NOp.of (by exact as1 rfl))) rfl ?_
     refine DF.fin (ps := [(0,2),(0,3),(0,4),(0,5),(0,6),(0,7),(0,8),(1,2),(1,3),(1,4),(1,5),(1,6),(1,7),(1,8),(2,0),(2,1),(2,5),(2,8),(3,0),(3,1),(3,5),(3,8),(4,0),(4,1),(4,5),(4,8),(5,0),(5,1),(5,2),(5,3),(5,4),(5,8),(6,0),(6,1),(6,8),(7,0),(7,1),(7,8),(8,0),(8,1),(8,2),(8,3),(8,4),(8,5),(8,6),(8,7),(11,12),(12,11),(12,13),(13,12)]) 15 rfl (by decide +kernel) (by decide +kernel) (by rfl) ?_
     refine th_n (AC.seq (AC.seq (AC.region ?_)))
     refine AL.p (by exact mv1 rfl) rfl ?_
     refine AL.p (by exact g_not rfl) rfl ?_
     refine AL.nil (th_n ?_)
     refine AC.condB rfl (fun h2 => ?_) (fun h2 => ?_)
     ·refine AC.seq ?_
      have qf : ¬ f.2 = true := by simpa using ‹(!f.2) = true›
      rw [if_neg qf] at hin
      have e : F = (y, some ((k : Int), t)) := by rw [← hrun, ← hin]
      refine AC.region ?_
      refine AL.p (by exact mv1 rfl) rfl ?_
      refine AL.p (by exact g_fa_ptr rfl rfl rfl rfl rfl) rfl ?_
      refine AL.q (by exact h_store rfl rfl rfl rfl rfl rfl) rfl ?_
      refine AL.nil (th_n (AC.seq (AC.region ?_)))
      refine AL.p (by exact mv1 rfl) rfl ?_
      refine AL.p (by exact g_fa_ptr rfl rfl rfl rfl rfl) rfl ?_
      refine AL.q (by exact h_store rfl rfl rfl rfl rfl rfl) rfl ?_
      refine AL.nil (th_n (AC.seq (AC.region ?_)))
      refine AL.p (by exact g_load_ptrN rfl rfl rfl rfl rfl) rfl ?_
      refine AL.q (by exact h_store rfl rfl rfl rfl rfl rfl) rfl ?_
      refine AL.nil (th_n (AC.ret (th_r (ib_r (th_r (th_r (ib_r (ib_r (th_r (th_r (ib_r (th_r (bq_r ?_)))))))))))))
      exact retN [(0, 101), (1, 102), (2, 103)] rfl (by rw [e]; show AV.leads _ (.agg [.own 0 y.marks.length, .own 1 y.moves.length, .own 2 (byL y).length, aI (rMark (some ((k : Int), t))), aI t, aT (rFull (some ((k : Int), t)))]) _; rw [rMark_nat, rFull_nat]; repeat (first | exact DLead.same | exact rfl | refine ⟨_, rfl, ?_⟩ | refine ⟨_, _, rfl, ?_, ?_⟩)) (by rw [e]; repeat (first | exact True.intro | refine And.intro ?_ ?_ | exact rfl | refine ⟨_, _, rfl, rfl, ?_⟩)) rfl rfl
     ·refine AC.skip (th_n (AC.seq ?_))
      have qf : f.2 = true := by simpa using ‹(!f.2) = false›
      rw [if_pos qf] at hin
      have hfbb := hfb qf
      have hFd := l4Find_spec y.marks f.1 (by omega)
      have hpn := posI_neg (m := f.1) (l := y.marks)
      have hps := posI_nat (m := f.1) (l := y.marks)
      have hpb := posI_in f.1 y.marks
      obtain ⟨p, hp⟩ : ∃ p, p = posI f.1 y.marks := ⟨_, rfl⟩
      rw [← hp] at hFd hpn hps hpb
      clear hp
      refine AC.region ?_
      refine AL.p (by exact g_fa_ptr rfl rfl rfl rfl rfl) rfl ?_
      refine AL.p (by exact g_fa_ptr rfl rfl rfl rfl rfl) rfl ?_
      refine AL.p (by exact g_load_ptr rfl rfl rfl rfl rfl) rfl ?_
      refine AL.p (by exact mv1 rfl) rfl ?_
      refine AL.q (by exact h_borrow [101] en_l4Find rfl rfl hFd (.cons (.of (.own (id := 101) rfl rfl (Nat.le_of_eq (tsX_len _).symm) (List.take_of_length_le (Nat.le_of_eq (tsX_len _))))) (.cons (.of .d) .nil)) rfl) rfl ?_
      refine AL.p (by exact as1 rfl) rfl ?_
      refine AL.nil (th_n ?_)
      refine AC.cut (fun (z : Ex × Int × Nat × Nat × Int) => ⟨107, 1500, [(1, .d (.ref (stgD s))), (2, .ptr 201 0), (3, .ptr 200 0), (4, aI k), (6, aI t), (9, aI z.2.1), (33, .d (vI L)), (34, aI L.length), (35, aI j)], [(200, some (.cells 118 [.own 101 z.1.marks.length, .own 102 y.moves.length, .own 103 (byL z.1).length, aI 0, aI (-1), aT false])), (101, some (.arr 9 1 (tsX z.1.marks))), (102, some (.arr 52 3 (mvL y.moves))), (103, some (.arr 52 3 (mvL (byL z.1)))), (201, some (.cells 118 zR))]⟩) (fun z => exIn s.net k m (L.drop (j + 1)) z.1 = Z ∧ z.1.moves = y.moves ++ [⟨k, t, z.2.1⟩] ∧ k < z.1.marks.length ∧ z.1.marks[k]? = some m ∧ ExI s.net z.1 (24 * k + (j + 1)) ∧ ByI s.net z.1 k) ?_ ?_
      ·refine AC.seq (AC.region ?_)
       refine AL.p (by exact mv1 rfl) rfl ?_
       refine AL.p (by exact g_cmp rfl rfl rfl) rfl ?_
       refine AL.nil (th_n ?_)
       refine AC.condD rfl (fun h3 => ?_) (fun h3 => ?_)
       ·refine AC.seq (AC.seq ?_)
        have hpnn := hpn (by assumption)
        rw [hpnn] at hin
        dsimp only at hin
        refine AC.region ?_
        refine AL.p (by exact g_fa_ptr rfl rfl rfl rfl rfl) rfl ?_
        refine AL.p (by exact g_fa_ptr rfl rfl rfl rfl rfl) rfl ?_
        refine AL.p (by exact g_load_ptr rfl rfl rfl rfl rfl) rfl ?_
        refine AL.p (by exact g_len_own (sz := 1) (els := []) (e' := 0) rfl rfl (by simp only [maxLen]; omega)) rfl ?_
        refine AL.p (by exact g_cmp rfl rfl rfl) rfl ?_
        refine AL.nil (th_n ?_)
        refine AC.condD rfl (fun h4 => ?_) (fun h4 => ?_)
        ·refine AC.seq ?_
         have hlen : y.marks.length = 300 := by omega
         rw [if_pos hlen] at hin
         have e : F = (y, some ((-1 : Int), (-1 : Int))) := by rw [← hrun, ← hin]
         refine AC.region ?_
         refine AL.p (by exact g_fa_ptr rfl rfl rfl rfl rfl) rfl ?_
         refine AL.q (by exact h_store rfl rfl rfl rfl rfl rfl) rfl ?_
         refine AL.nil (th_n (AC.seq (AC.region ?_)))
         refine AL.p (by exact g_load_ptrN rfl rfl rfl rfl rfl) rfl ?_
         refine AL.q (by exact h_store rfl rfl rfl rfl rfl rfl) rfl ?_
         refine AL.nil (th_n (AC.ret (th_r (th_r (ib_r (th_r (th_r (ib_r (ib_r (th_r (th_r (ib_r (th_r (bq_r ?_))))))))))))))
         exact retN [(0, 101), (1, 102), (2, 103)] rfl (by rw [e]; show AV.leads _ (.agg [.own 0 y.marks.length, .own 1 y.moves.length, .own 2 (byL y).length, aI (rMark (some ((-1 : Int), (-1 : Int)))), aI (-1), aT (rFull (some ((-1 : Int), (-1 : Int))))]) _; rw [show rMark (some ((-1 : Int), (-1 : Int))) = 0 from rfl, show rFull (some ((-1 : Int), (-1 : Int))) = true from rfl]; repeat (first | exact DLead.same | exact rfl | refine ⟨_, rfl, ?_⟩ | refine ⟨_, _, rfl, ?_, ?_⟩)) (by rw [e]; repeat (first | exact True.intro | refine And.intro ?_ ?_ | exact rfl | refine ⟨_, _, rfl, rfl, ?_⟩)) rfl rfl
        ·refine AC.skip (th_n (AC.seq ?_))
         have hlen : ¬ y.marks.length = 300 := by omega
         rw [if_neg hlen] at hin
         have hnewB := hY.new_by (t := t) (m := f.1)
         have hnewI := hY.new (t := t) (m := f.1) hky htm
         refine AC.region ?_
         refine AL.p (by exact g_fa_ptr rfl rfl rfl rfl rfl) rfl ?_
         refine AL.p (by exact g_fa_ptr rfl rfl rfl rfl rfl) rfl ?_
         refine AL.p (by exact g_load_ptr rfl rfl rfl rfl rfl) rfl ?_
         refine AL.p (by exact g_len_own (sz := 1) (els := []) (e' := 0) rfl rfl (by simp only [maxLen]; omega)) rfl ?_
         refine AL.p (by exact as1 rfl) rfl ?_
         refine AL.nil (th_n (AC.seq (AC.region ?_)))
         refine AL.p (by exact g_fa_ptr rfl rfl rfl rfl rfl) rfl ?_
         refine AL.p (by exact g_fa_ptr rfl rfl rfl rfl rfl) rfl ?_
         refine AL.p (by exact g_load_ptr rfl rfl rfl rfl rfl) rfl ?_
         refine AL.p (by exact mv1 rfl) rfl ?_
         refine AL.q (by exact h_litF rfl rfl rfl rfl rfl rfl rfl rfl) rfl ?_
         refine AL.q (by exact h_appendX y.marks [f.1] (.own rfl rfl (tsX_len _).symm) (.view rfl) (by rw [List.length_append]; simp only [List.length_cons, List.length_nil]; omega) (by simp)) rfl ?_
         refine AL.p (by exact g_fa_ptr rfl rfl rfl rfl rfl) rfl ?_
         refine AL.p (by exact g_fa_ptr rfl rfl rfl rfl rfl) rfl ?_
         refine AL.q (by exact h_store rfl rfl rfl rfl rfl rfl) rfl ?_
         refine AL.nil (th_n (AC.region ?_))
         refine AL.p (by exact g_fa_ptr rfl rfl rfl rfl rfl) rfl ?_
         refine AL.p (by exact g_load_ptr rfl rfl rfl rfl rfl) rfl ?_
         refine AL.p (by exact mv1 rfl) rfl ?_
         refine AL.p (by exact mv1 rfl) rfl ?_
         refine AL.p (by exact mv1 rfl) rfl ?_
         refine AL.p (by exact g_build rfl rfl rfl) rfl ?_
         refine AL.q (by exact h_litF rfl rfl rfl rfl rfl rfl rfl rfl) rfl ?_
         refine AL.q (by exact h_appendMv (byL y) [⟨k, t, y.marks.length⟩] (.own rfl rfl (mvL_len _).symm) (.view rfl) (by rw [List.length_append]; simp only [List.length_cons, List.length_nil]; omega) (by simp)) rfl ?_
         refine AL.p (by exact g_fa_ptr rfl rfl rfl rfl rfl) rfl ?_
         refine AL.q (by exact h_store rfl rfl rfl rfl rfl rfl) rfl ?_
         refine AL.nil (th_n ?_)
         (have hpnn := hpn (by assumption); exact ⟨(⟨y.marks ++ [f.1], y.moves ++ [⟨k, t, y.marks.length⟩]⟩, (y.marks.length : Int), 0, 0, 0), ⟨hin, rfl, by dsimp only; rw [List.length_append]; omega, by dsimp only; rw [List.getElem?_append_left hky]; exact hym, ⟨by dsimp only; rw [List.length_append]; simp only [List.length_cons, List.length_nil]; omega, fun a ha => (List.mem_append.1 ha).elim (hJ.b a) (fun g => by rw [List.mem_singleton.1 g]; exact hfbb), by dsimp only; rw [List.length_append]; simp only [List.length_cons, List.length_nil]; omega⟩, hnewI⟩, Weak.ren _ [(200, 200), (101, _), (102, 102), (103, _), (201, 201)] hC rfl (by repeat (first | exact True.intro | refine And.intro ?_ ?_ | exact DLead.same | exact rfl | refine ⟨_, rfl, ?_⟩)) (by dsimp only; rw [hnewB]; repeat (first | exact True.intro | refine And.intro ?_ ?_ | exact DLead.same | exact rfl | refine ⟨_, _, rfl, rfl, ?_⟩ | refine ⟨_, rfl, ?_⟩ | refine ⟨_, _, rfl, ?_, ?_⟩)) rfl rfl rfl⟩)
       ·refine AC.skip (th_n ?_)
        (obtain ⟨i2, hi2, hpi2⟩ := hps (by assumption); rw [hi2] at hin; dsimp only at hin; have hi2l := posL_lt hi2; exact ⟨(⟨y.marks, y.moves ++ [⟨k, t, (i2 : Int)⟩]⟩, (i2 : Int), 0, 0, 0), ⟨hin, rfl, hky, hym, ⟨hyn, hJ.b, by dsimp only; rw [List.length_append]; simp only [List.length_cons, List.length_nil]; omega⟩, hY.known hky hi2l htm⟩, Weak.ren _ [(200, 200), (101, 101), (102, 102), (103, 103), (201, 201)] hC rfl (by rw [hpi2]; repeat (first | exact True.intro | refine And.intro ?_ ?_ | exact DLead.same | exact rfl | refine ⟨_, rfl, ?_⟩)) (by dsimp only; rw [hY.known_by]; repeat (first | exact True.intro | refine And.intro ?_ ?_ | exact DLead.same | exact rfl | refine ⟨_, _, rfl, rfl, ?_⟩ | refine ⟨_, rfl, ?_⟩ | refine ⟨_, _, rfl, ?_, ?_⟩)) rfl rfl rfl⟩)
      ·rintro ⟨z, v2, _, _, _⟩ ⟨hz1, hz2, hz3, hz4, hz5, hz6⟩
       dsimp only at hz1 hz2 hz3 hz4 hz5 hz6 ⊢
       refine AC.region ?_
       refine AL.p (by exact g_fa_ptr rfl rfl rfl rfl rfl) rfl ?_
       refine AL.p (by exact g_fa_ptr rfl rfl rfl rfl rfl) rfl ?_
       refine AL.p (by exact g_load_ptr rfl rfl rfl rfl rfl) rfl ?_
       refine AL.p (by exact mv1 rfl) rfl ?_
       refine AL.p (by exact mv1 rfl) rfl ?_
       refine AL.p (by exact mv1 rfl) rfl ?_
       refine AL.p (by exact g_build rfl rfl rfl) rfl ?_
       refine AL.q (by exact h_litF rfl rfl rfl rfl rfl rfl rfl rfl) rfl ?_
       refine AL.q (by exact h_appendMv y.moves [⟨k, t, v2⟩] (.own rfl rfl (mvL_len _).symm) (.view rfl) (by rw [List.length_append]; simp only [List.length_cons, List.length_nil]; omega) (by simp)) rfl ?_
       refine AL.p (by exact g_fa_ptr rfl rfl rfl rfl rfl) rfl ?_
       refine AL.p (by exact g_fa_ptr rfl rfl rfl rfl rfl) rfl ?_
       refine AL.q (by exact h_store rfl rfl rfl rfl rfl rfl) rfl ?_
       refine AL.nil (ib_n (th_n (AC.region ?_)))
       refine AL.p (by exact g_arith rfl rfl rfl (by exact wrap_i64 (by omega))) rfl ?_
       refine AL.p (by exact mv1 rfl) rfl ?_
       refine AL.nil (th_n ?_)
       exact ⟨(j + 1, z), ⟨by dsimp only; omega, hz3, hz4, hz5, hz6, hz1⟩, by dsimp only; omega, Weak.ren _ [(200, 200), (101, 101), (102, _), (103, 103), (201, 201)] hC rfl (by repeat (first | exact True.intro | refine And.intro ?_ ?_ | exact DLead.same | exact rfl | refine ⟨_, rfl, ?_⟩)) (by dsimp only; rw [hz2]; repeat (first | exact True.intro | refine And.intro ?_ ?_ | exact DLead.same | exact rfl | refine ⟨_, _, rfl, rfl, ?_⟩ | refine ⟨_, rfl, ?_⟩ | refine ⟨_, _, rfl, ?_, ?_⟩)) rfl rfl rfl⟩
    ·refine AC.exit (th_e (th_e (ib_y (ib_n (th_n (AC.region ?_))))))
     refine AL.p (by exact mv1 rfl) rfl ?_
     refine AL.p (by exact g_arith rfl rfl rfl (by exact wrap_i64 (by omega))) rfl ?_
     refine AL.p (by exact as1 rfl) rfl ?_
     refine AL.nil (th_n ?_)
     have hjj : j = L.length := by omega
     rw [hjj, List.drop_length, exIn] at hin
     rw [← hin] at hrun
     dsimp only at hrun
     exact ⟨(k + 1, y), ⟨by dsimp only; omega, ⟨hyn, hJ.b, by dsimp only; omega⟩, hY.up, by rw [show 301 - (k + 1) = n by omega]; exact hrun⟩, by dsimp only; omega, Weak.ren _ [(200, 200), (101, 101), (102, 102), (103, 103), (201, 201)] hC rfl (by repeat (first | exact True.intro | refine And.intro ?_ ?_ | exact DLead.same | exact rfl | refine ⟨_, rfl, ?_⟩)) (by repeat (first | exact True.intro | refine And.intro ?_ ?_ | exact DLead.same | exact rfl | refine ⟨_, _, rfl, rfl, ?_⟩ | refine ⟨_, rfl, ?_⟩ | refine ⟨_, _, rfl, ?_, ?_⟩)) rfl rfl rfl⟩
  ·refine AC.exit (th_e (th_e (ib_y (th_n (AC.seq ?_)))))
   have e : F = (x, none) := (exOut_end (by omega) (by omega) hrun).symm
   refine AC.region ?_
   refine AL.p (by exact g_load_ptrN rfl rfl rfl rfl rfl) rfl ?_
   refine AL.q (by exact h_store rfl rfl rfl rfl rfl rfl) rfl ?_
   refine AL.nil (th_n (AC.ret (bq_r ?_)))
   exact retN [(0, 101), (1, 102), (2, 103)] rfl (by rw [e]; show AV.leads _ (.agg [.own 0 x.marks.length, .own 1 x.moves.length, .own 2 (byL x).length, aI 0, aI (-1), aT false]) _; repeat (first | exact DLead.same | exact rfl | refine ⟨_, rfl, ?_⟩ | refine ⟨_, _, rfl, ?_, ?_⟩)) (by rw [e]; repeat (first | exact True.intro | refine And.intro ?_ ?_ | exact rfl | refine ⟨_, _, rfl, rfl, ?_⟩)) rfl rfl
theorem en_sReach : Enters Tryz.prog 99 := enters_of Tryz.func99 rfl rfl
theorem Fires.push {N : Net} {x : Ex} {v : Mv} (h : Fires N x v) (m : List UInt8) (M : List Mv) : Fires N ⟨x.marks ++ [m], M⟩ v := by
 obtain ⟨f, u, h1, h2, h3, h4, h5⟩ := h
 exact ⟨f, u, h1, h2, by dsimp only; rw [List.length_append]; omega, by dsimp only; rw [List.length_append]; omega, by rw [mkAt_push h3, mkAt_push h4]; exact h5⟩
theorem exIn_res {N : Net} {k : Nat} {m : List UInt8} : ∀ (L : List Int) {x : Ex}, (∀ t, t ∈ L → t ∈ readyL N m N.ts.length) → k < x.marks.length → mkAt x k = m → (∀ v, v ∈ x.moves → Fires N x v) →
  (∀ v, v ∈ (exIn N k m L x).1.moves → Fires N (exIn N k m L x).1 v) ∧ mkAt (exIn N k m L x).1 k = m ∧ k < (exIn N k m L x).1.marks.length ∧ ∀ p, (exIn N k m L x).2 = some p → p = (-1, -1) ∨ ∃ t, p = ((k : Int), t) ∧ t ∈ readyL N m N.ts.length ∧ (fireI N m t).2 = false
 | [], x, hL, hk, hm, hF => ⟨hF, hm, hk, fun p h => by cases h⟩
 | t :: ts, x, hL, hk, hm, hF => by
  have hT : ∀ u, u ∈ ts → u ∈ readyL N m N.ts.length := fun u hu => hL u (List.mem_cons_of_mem _ hu)
  rw [exIn]
  split
  ·rename_i hf
   have hfp : fireI N m t = ((fireI N m t).1, true) := by rw [← hf]
   split
   ·rename_i i he
    refine exIn_res ts hT hk hm fun v hv => ?_
    rcases List.mem_append.1 hv with g | g
    ·exact hF v g
    ·rw [List.mem_singleton.1 g]
     have hi := posL_lt he
     have hg := posL_get he
     refine ⟨k, i, rfl, rfl, hk, hi, ?_⟩
     show fireI N (mkAt x k) t = (mkAt x i, true)
     rw [hm, hfp, mkAt_nat hi]
     rw [List.getElem?_eq_getElem hi] at hg
     rw [Option.some.inj hg]
   ·split
    ·exact ⟨hF, hm, hk, fun p h => .inl (Option.some.inj h).symm⟩
    ·refine exIn_res ts hT (by dsimp only; rw [List.length_append]; omega) ((mkAt_push hk).trans hm) fun v hv => ?_
     rcases List.mem_append.1 hv with g | g
     ·exact (hF v g).push _ _
     ·rw [List.mem_singleton.1 g]
      refine ⟨k, x.marks.length, rfl, rfl, by dsimp only; rw [List.length_append]; omega, by dsimp only; rw [List.length_append]; simp, ?_⟩
      rw [mkAt_push hk, mkAt_last, hm]
      exact hfp
  ·rename_i hf
   exact ⟨hF, hm, hk, fun p h => .inr ⟨t, (Option.some.inj h).symm, hL t (List.mem_cons_self ..), by simpa using hf⟩⟩
theorem exOut_res {N : Net} : ∀ (n k : Nat) {x : Ex}, (∀ v, v ∈ x.moves → Fires N x v) →
  (∀ v, v ∈ (exOut N n k x).1.moves → Fires N (exOut N n k x).1 v) ∧ ∀ p, (exOut N n k x).2 = some p → p = (-1, -1) ∨ ∃ (j : Nat) (t : Int), p = ((j : Int), t) ∧ j < (exOut N n k x).1.marks.length ∧ t ∈ readyL N (mkAt (exOut N n k x).1 j) N.ts.length ∧ (fireI N (mkAt (exOut N n k x).1 j) t).2 = false
 | 0, k, x, h => ⟨h, fun p e => by cases e⟩
 | n + 1, k, x, h => by
  rw [exOut]
  split
  ·rename_i hk
   have h1 := exIn_res (readyL N (mkAt x k) N.ts.length) (fun t ht => ht) hk rfl h
   split
   ·rename_i y e
    rw [e] at h1
    exact exOut_res n (k + 1) h1.1
   ·refine ⟨h1.1, fun p hp => ?_⟩
    rcases h1.2.2.2 p hp with g | ⟨t, g1, g2, g3⟩
    ·exact .inl g
    ·exact .inr ⟨k, t, g1, h1.2.2.1, by rw [h1.2.1]; exact g2, by rw [h1.2.1]; exact g3⟩
  ·exact ⟨h, fun p e => by cases e⟩
theorem explR_res (N : Net) (m : List UInt8) : (∀ v, v ∈ (explR N m).1.moves → Fires N (explR N m).1 v) ∧ ∀ p, (explR N m).2 = some p → p = (-1, -1) ∨ ∃ (j : Nat) (t : Int), p = ((j : Int), t) ∧ j < (explR N m).1.marks.length ∧ t ∈ readyL N (mkAt (explR N m).1 j) N.ts.length ∧ (fireI N (mkAt (explR N m).1 j) t).2 = false := exOut_res 301 0 fun v hv => by simp at hv
theorem explR_end (N : Net) (m : List UInt8) : (explR N m).2 = none ∨ (explR N m).2 = some (-1, -1) ∨ ∃ (j : Nat) (t : Int), (explR N m).2 = some ((j : Int), t) ∧ j < (explR N m).1.marks.length ∧ 0 ≤ t ∧ t < N.ts.length := by
 cases h : (explR N m).2 with
 | none => exact .inl rfl
 | some p =>
  rcases (explR_res N m).2 p h with rfl | ⟨j, t, rfl, h1, h2, _⟩
  ·exact .inr (.inl rfl)
  ·exact .inr (.inr ⟨j, t, rfl, h1, readyL_in _ _ _ _ h2⟩)
theorem ref_end (N : Net) (m : List UInt8) : (exB (explR N m) = true → rBad (explR N m).2 < 0 ∧ rFull (explR N m).2 = false) ∧ (exB (explR N m) = false → 0 ≤ rBad (explR N m).2 ∨ rFull (explR N m).2 = true) := by
 unfold exB
 rcases explR_end N m with g | g | ⟨j, t, g, _, g2, _⟩ <;> rw [g]
 ·exact ⟨fun _ => ⟨by decide, rfl⟩, fun h => by cases h⟩
 ·exact ⟨fun h => (by cases h), fun _ => .inr rfl⟩
 ·exact ⟨fun h => (by cases h), fun _ => .inl g2⟩
set_option maxHeartbeats 4000000 in
theorem sExplore_spec (s : Stg) (hB : StgB s) : ASpec Tryz.prog 12 [stgA s] [] (Fun1 (.tup [.agg [.own 0 (explS s).1.marks.length, .own 1 (explS s).1.moves.length], aT (explS s).2]) [(0, .arr 9 1 (tsX (explS s).1.marks)), (1, .arr 52 3 (mvL (explS s).1.moves))]) := by
 have hV := l2Good_spec s hB.L
 have hX := sReach_spec s hB
 have hend := ref_end s.net s.start
 have hR : explS s = if (goodS s && exB (explR s.net s.start)) = true then ((explR s.net s.start).1, true) else (⟨[], []⟩, false) := rfl
 obtain ⟨b, hb⟩ : ∃ b, b = goodS s := ⟨_, rfl⟩
 rw [← hb] at hV hX hR
 obtain ⟨F, hF⟩ : ∃ F, F = explR s.net s.start := ⟨_, rfl⟩
 rw [← hF] at hX hR hend
 obtain ⟨G, hG⟩ : ∃ G, G = explS s := ⟨_, rfl⟩
 rw [← hG] at hR ⊢
 have hN1 : b = false → G = (⟨[], []⟩, false) := fun q => hR.trans (if_neg (by rw [q]; simp))
 have hN2 : exB F = false → G = (⟨[], []⟩, false) := fun q => hR.trans (if_neg (by rw [q]; simp))
 have hY2 : b = true → exB F = true → G = (F.1, true) := fun q1 q2 => hR.trans (if_pos (by rw [q1, q2]; rfl))
 clear hG hb hF
 refine ASpec.of Tryz.func12 rfl rfl fun C hC => ?_
 refine AC.seq (AC.region ?_)
 refine AL.q (by exact h_boxF rfl rfl) rfl ?_
 refine AL.q (by exact h_alloc rfl) rfl ?_
 refine AL.p (by exact as1 rfl) rfl ?_
 refine AL.nil (th_n (AC.seq (AC.seq (AC.region ?_))))
 refine AL.p (by exact g_load_refN rfl rfl rfl rfl) rfl ?_
 refine AL.q (by exact h_pure en_l2Good rfl rfl (by repeat (first | exact rfl | exact DLead.same | refine ⟨_, _, rfl, ?_, ?_⟩ | refine ⟨_, rfl, ?_⟩)) hV rfl) rfl ?_
 refine AL.p (by exact g_not rfl) rfl ?_
 refine AL.nil (th_n ?_)
 refine AC.condB rfl (fun h0 => ?_) (fun h0 => ?_)
 ·refine AC.seq (AC.region ?_)
  refine AL.p (by exact g_build rfl rfl rfl) rfl ?_
  refine AL.q (by exact h_store rfl rfl rfl rfl rfl rfl) rfl ?_
  refine AL.p (by exact as1 rfl) rfl ?_
  refine AL.nil (th_n ?_)
  refine AC.weak ((Weak.nilOwnP 2 0 (e := 9) (sz := 1) rfl rfl rfl rfl rfl).trans (Weak.nilOwnP 2 1 (e := 52) (sz := 3) rfl rfl rfl rfl rfl)) ?_
  refine AC.ret (th_r (bq_r ?_))
  have e := hN1 (by simpa using h0)
  exact retN [(0, 32), (1, 40)] rfl (by rw [e]; show AV.leads _ (.tup [.agg [.own 0 0, .own 1 0], aT false]) _; repeat (first | exact DLead.same | exact rfl | refine ⟨_, rfl, ?_⟩ | refine ⟨_, _, rfl, ?_, ?_⟩)) (by rw [e]; repeat (first | exact True.intro | refine And.intro ?_ ?_ | exact rfl | refine ⟨_, _, rfl, rfl, ?_⟩)) rfl rfl
 ·refine AC.skip (th_n (AC.seq ?_))
  have q1 : b = true := by simpa using h0
  have hX2 := hX q1
  refine AC.region ?_
  refine AL.p (by exact g_load_refN rfl rfl rfl rfl) rfl ?_
  refine AL.q (by exact h_fun (cs := []) en_sReach rfl rfl (by repeat (first | exact rfl | exact DLead.same | refine ⟨_, _, rfl, ?_, ?_⟩ | refine ⟨_, rfl, ?_⟩)) (by repeat (exact True.intro)) hX2 rfl rfl rfl rfl) rfl ?_
  refine AL.q (by exact h_alloc rfl) rfl ?_
  refine AL.q (by exact h_store rfl rfl rfl rfl rfl rfl) rfl ?_
  refine AL.nil (th_n (AC.seq (AC.seq ?_)))
  refine AC.weak (t := ⟨21, 300, [(2, .ptr 201 0), (3, aT false), (4, .ptr 200 0)], [(200, some (.cells 118 (refA F 101 102 103))), (201, some (.cells 35 zRG)), (101, some (.arr 9 1 (tsX F.1.marks))), (102, some (.arr 52 3 (mvL F.1.moves))), (103, some (.arr 52 3 (mvL (byL F.1))))]⟩) (Weak.ren _ [(200, _), (201, _), (101, _), (102, _), (103, _)] hC rfl (by repeat (first | exact True.intro | refine And.intro ?_ ?_ | exact DLead.same | exact rfl | refine ⟨_, rfl, ?_⟩)) (by repeat (first | exact True.intro | refine And.intro ?_ ?_ | exact DLead.same | exact rfl | refine ⟨_, _, rfl, rfl, ?_⟩ | refine ⟨_, rfl, ?_⟩ | refine ⟨_, _, rfl, ?_, ?_⟩)) rfl rfl rfl) ?_
  refine AC.region ?_
  refine AL.p (by exact g_fa_ptr rfl rfl rfl rfl rfl) rfl ?_
  refine AL.p (by exact g_load_ptr rfl rfl rfl rfl rfl) rfl ?_
  refine AL.p (by exact g_cmp rfl rfl rfl) rfl ?_
  refine AL.p (by exact mv1 rfl) rfl ?_
  refine AL.caseG rfl rfl (fun h1 => ?_) (fun h1 => ?_)
  ·refine AL.not rfl rfl rfl rfl rfl ?_
   refine AL.not rfl rfl rfl rfl rfl ?_
   refine AL.p (by exact g_pickT (r := .d _) rfl rfl) rfl ?_
   refine AL.nil (th_n ?_)
   refine AC.condT rfl ?_
   refine AC.seq (AC.region ?_)
   refine AL.p (by exact g_build rfl rfl rfl) rfl ?_
   refine AL.q (by exact h_store rfl rfl rfl rfl rfl rfl) rfl ?_
   refine AL.p (by exact as1 rfl) rfl ?_
   refine AL.nil (th_n ?_)
   refine AC.weak ((Weak.nilOwnP 2 0 (e := 9) (sz := 1) rfl rfl rfl rfl rfl).trans (Weak.nilOwnP 2 1 (e := 52) (sz := 3) rfl rfl rfl rfl rfl)) ?_
   refine AC.ret (th_r (bq_r ?_))
   have hbad : exB F = false := by refine Bool.eq_false_iff.2 fun q => ?_; obtain ⟨q1, q2⟩ := hend.1 q; omega
   have e := hN2 hbad
   exact retN [(0, _), (1, _)] rfl (by rw [e]; show AV.leads _ (.tup [.agg [.own 0 0, .own 1 0], aT false]) _; repeat (first | exact DLead.same | exact rfl | refine ⟨_, rfl, ?_⟩ | refine ⟨_, _, rfl, ?_, ?_⟩)) (by rw [e]; repeat (first | exact True.intro | refine And.intro ?_ ?_ | exact rfl | refine ⟨_, _, rfl, rfl, ?_⟩)) rfl rfl
  ·refine AL.yes rfl rfl rfl ?_
   refine AL.p (by exact g_fa_ptr rfl rfl rfl rfl rfl) rfl ?_
   refine AL.yes rfl rfl rfl ?_
   refine AL.p (by exact g_load_ptr rfl rfl rfl rfl rfl) rfl ?_
   refine AL.p (by exact g_pickF (r := .d _) rfl rfl) rfl ?_
   refine AL.nil (th_n ?_)
   refine AC.condB rfl (fun h2 => ?_) (fun h2 => ?_)
   ·refine AC.seq (AC.region ?_)
    refine AL.p (by exact g_build rfl rfl rfl) rfl ?_
    refine AL.q (by exact h_store rfl rfl rfl rfl rfl rfl) rfl ?_
    refine AL.p (by exact as1 rfl) rfl ?_
    refine AL.nil (th_n ?_)
    refine AC.weak ((Weak.nilOwnP 2 0 (e := 9) (sz := 1) rfl rfl rfl rfl rfl).trans (Weak.nilOwnP 2 1 (e := 52) (sz := 3) rfl rfl rfl rfl rfl)) ?_
    refine AC.ret (th_r (bq_r ?_))
    have hbad : exB F = false := by refine Bool.eq_false_iff.2 fun q => ?_; obtain ⟨q1, q2⟩ := hend.1 q; (rw [q2] at *; simp_all)
    have e := hN2 hbad
    exact retN [(0, _), (1, _)] rfl (by rw [e]; show AV.leads _ (.tup [.agg [.own 0 0, .own 1 0], aT false]) _; repeat (first | exact DLead.same | exact rfl | refine ⟨_, rfl, ?_⟩ | refine ⟨_, _, rfl, ?_, ?_⟩)) (by rw [e]; repeat (first | exact True.intro | refine And.intro ?_ ?_ | exact rfl | refine ⟨_, _, rfl, rfl, ?_⟩)) rfl rfl
   ·refine AC.skip (th_n (AC.seq (AC.region ?_)))
    refine AL.p (by exact g_fa_ptr rfl rfl rfl rfl rfl) rfl ?_
    refine AL.p (by exact g_load_ptrN rfl rfl rfl rfl rfl) rfl ?_
    refine AL.q (by exact h_store rfl rfl rfl rfl rfl rfl) rfl ?_
    refine AL.p (by exact as1 rfl) rfl ?_
    refine AL.nil (th_n (AC.ret (bq_r ?_)))
    have hgood : exB F = true := by refine Bool.not_eq_false _ ▸ fun q => ?_; rcases hend.2 q with q | q; (omega); (simp_all)
    have e := hY2 q1 hgood
    exact retN [(0, 101), (1, 102)] rfl (by rw [e]; show AV.leads _ (.tup [.agg [.own 0 F.1.marks.length, .own 1 F.1.moves.length], aT true]) _; repeat (first | exact DLead.same | exact rfl | refine ⟨_, rfl, ?_⟩ | refine ⟨_, _, rfl, ?_, ?_⟩)) (by rw [e]; repeat (first | exact True.intro | refine And.intro ?_ ?_ | exact rfl | refine ⟨_, _, rfl, rfl, ?_⟩)) rfl rfl
theorem en_sExplore : Enters Tryz.prog 12 := enters_of Tryz.func12 rfl rfl
theorem by_at {N : Net} {x : Ex} {q k : Nat} (h : ByI N x q) (h1 : 1 ≤ k) (h2 : k < x.marks.length) : ∃ i, ∃ hi : i < x.moves.length, findI (fun v : Mv => decide (v.to_ = (k : Int))) x.moves = (i : Int) ∧ byF x.moves k = x.moves[i] ∧ 0 ≤ x.moves[i].from_ ∧ x.moves[i].from_ < k := by
 obtain ⟨v, hv, hf⟩ := h.met k h1 h2
 obtain ⟨hp, i, hi, e, hb⟩ := List.find?_eq_some_iff_getElem.1 hv
 refine ⟨i, hi, findI_at hi (by rw [e]; exact hp) (fun j hj => by simpa using hb j hj), ?_, ?_, ?_⟩
 ·unfold byF; rw [hv, e]; rfl
 ·have := h.inn _ (List.getElem_mem hi); omega
 ·rw [e]; exact hf
theorem upL_step {L : List Mv} {n k : Nat} (h : k ≠ 0) : upL L (n + 1) k = (byF L k).by_ :: upL L n (byF L k).from_.toNat := by rw [upL, if_neg h]
theorem upL_zero (L : List Mv) (n : Nat) : upL L n 0 = [] := by cases n <;> rfl
theorem upL_len (L : List Mv) : ∀ (n k : Nat), (upL L n k).length ≤ n
 | 0, k => Nat.le_refl _
 | n + 1, k => by
  rw [upL]
  split
  ·exact Nat.zero_le _
  ·rw [List.length_cons]; have := upL_len L n (byF L k).from_.toNat; omega
def unsT (F : Ex × Option (Int × Int)) : List Int × Bool := match F.2 with | some p => (if 0 ≤ p.1 then ((upL F.1.moves F.1.marks.length p.1.toNat).reverse ++ [p.2], true) else ([], false)) | none => ([], false)
def unsR (s : Stg) : List Int × Bool := if goodS s = true then unsT (explR s.net s.start) else ([], false)
theorem unsT_none {F : Ex × Option (Int × Int)} (h : exB F = true) : unsT F = ([], false) := by
 unfold exB at h; unfold unsT
 split at h
 ·cases h
 ·rename_i e; rw [e]
theorem unsT_nat {F : Ex × Option (Int × Int)} {j : Nat} {t : Int} (h : F.2 = some ((j : Int), t)) : unsT F = ((upL F.1.moves F.1.marks.length j).reverse ++ [t], true) := by
 unfold unsT; rw [h]
 show (if (0 : Int) ≤ (j : Int) then _ else _) = _
 rw [if_pos (Int.natCast_nonneg j)]; rfl
theorem unsT_full {F : Ex × Option (Int × Int)} (h : F.2 = some (-1, -1)) : unsT F = ([], false) := by unfold unsT; rw [h]; rfl
theorem iUnsafe1_spec (v : Mv) (k : Int) : ASpec Tryz.prog 102 [mvA v, .d (.ref [dI k])] [] (Pure1 (aT (decide (v.to_ = k)))) := by
 refine ASpec.of Tryz.func102 rfl rfl fun C hC => ?_
 refine AC.seq (AC.region ?_)
 refine AL.q (by exact h_boxF rfl rfl) rfl ?_
 refine AL.p (by exact as1 rfl) rfl ?_
 refine AL.nil (th_n (AC.seq (AC.region ?_)))
 refine AL.p (by exact g_fa_ref rfl rfl rfl rfl rfl rfl) rfl ?_
 refine AL.p (by exact g_load_ref rfl rfl rfl) rfl ?_
 refine AL.p (by exact g_load_ref rfl rfl rfl) rfl ?_
 refine AL.p (by exact g_cmp rfl rfl rfl) rfl ?_
 refine AL.p (by exact as1 rfl) rfl ?_
 refine AL.nil (th_n (AC.ret (bq_r ?_)))
 exact ret1 rfl rfl
theorem en_iUnsafe1 : Enters Tryz.prog 102 := enters_of Tryz.func102 rfl rfl
set_option maxHeartbeats 8000000 in
theorem iUnsafe_spec (s : Stg) (hB : StgB s) : ASpec Tryz.prog 14 [stgA s] [] (Pure1 (.tup [.d (vI (unsR s).1), aT (unsR s).2])) := by
 have hV := iIsValidSTG_spec s hB.L
 have hX := iExplored_spec s hB
 have hend := explR_end s.net s.start
 obtain ⟨kk, hBy⟩ := explR_By s.net s.start
 have hI : goodS s = true → (explR s.net s.start).1.marks.length ≤ 300 ∧ (explR s.net s.start).1.moves.length ≤ 24 * 301 := fun hg => by
  have h1 : goodN s.net = true ∧ bitsB s.start s.net.places = true := by
   simp only [goodS, Bool.and_eq_true] at hg
   exact hg.1
  have := exOut_I (good_places h1.1).2.2 301 0 (x := ⟨[s.start], []⟩) (q := 0) ⟨by show 1 ≤ 300; omega, fun m hm => by rw [List.mem_singleton.1 hm]; exact h1.2, Nat.le_refl _⟩
  exact ⟨this.n, Nat.le_trans this.l (by omega)⟩
 have hR : unsR s = if goodS s = true then unsT (explR s.net s.start) else ([], false) := rfl
 obtain ⟨b, hb⟩ : ∃ b, b = goodS s := ⟨_, rfl⟩
 rw [← hb] at hV hX hR hI
 obtain ⟨F, hF⟩ : ∃ F, F = explR s.net s.start := ⟨_, rfl⟩
 rw [← hF] at hX hR hend hBy hI
 have hby := fun k h1 h2 => by_at (k := k) hBy h1 h2
 obtain ⟨G, hG⟩ : ∃ G, G = unsR s := ⟨_, rfl⟩
 rw [← hG] at hR ⊢
 clear hG hb hF hBy
 have hfin : b = true → (exB F = true ∨ exK F < 0) → G = ([], false) := fun q1 q2 => by
  rw [hR, if_pos q1]
  rcases q2 with q | q
  ·exact unsT_none q
  ·rcases hend with g | g | ⟨j, t, g, _⟩
   ·exact unsT_none (by unfold exB; rw [g])
   ·exact unsT_full g
   ·exfalso; unfold exK at q; rw [g] at q; exact absurd q (by show ¬ ((j : Int) < 0); omega)
 have hgo : ¬ exK F < 0 → ∃ (j : Nat) (t : Int), exK F = (j : Int) ∧ exT F = t ∧ j < F.1.marks.length ∧ unsT F = ((upL F.1.moves F.1.marks.length j).reverse ++ [t], true) := fun q => by
  rcases hend with g | g | ⟨j, t, g, h1, h2, h3⟩
  ·exfalso; unfold exK at q; rw [g] at q; exact q (by decide)
  ·exfalso; unfold exK at q; rw [g] at q; exact q (by decide)
  ·exact ⟨j, t, by unfold exK; rw [g], by unfold exT; rw [g], h1, unsT_nat g⟩
 refine ASpec.of Tryz.func14 rfl rfl fun C hC => ?_
 refine AC.seq (AC.region ?_)
 refine AL.q (by exact h_boxF rfl rfl) rfl ?_
 refine AL.p (by exact as1 rfl) rfl ?_
 refine AL.p (by exact as1 rfl) rfl ?_
 refine AL.nil (th_n (AC.seq (AC.seq (AC.region ?_))))
 refine AL.p (by exact g_load_refN rfl rfl rfl rfl) rfl ?_
 refine AL.q (by exact h_pure en_iIsValidSTG rfl rfl (by repeat (first | exact rfl | exact DLead.same | refine ⟨_, _, rfl, ?_, ?_⟩ | refine ⟨_, rfl, ?_⟩)) hV rfl) rfl ?_
 refine AL.p (by exact g_not rfl) rfl ?_
 refine AL.nil (th_n ?_)
 refine AC.condB rfl (fun h0 => ?_) (fun h0 => ?_)
 ·refine AC.seq (AC.region ?_)
  refine AL.p (by exact as1 rfl) rfl ?_
  refine AL.p (by exact as1 rfl) rfl ?_
  refine AL.nil (th_n (AC.ret (th_r (bq_r ?_))))
  have e : G = ([], false) := hR.trans (if_neg (by simp_all))
  exact ret0 rfl (by rw [e]; show AV.leads _ (.tup [.d (vI []), aT false]) _; repeat (first | exact DLead.same | exact DLead.nil | exact rfl | refine ⟨_, rfl, ?_⟩ | refine ⟨_, _, rfl, ?_, ?_⟩))
 ·refine AC.skip (th_n (AC.seq ?_))
  have q1 : b = true := by simpa using h0
  have hX2 := hX q1
  have hI2 := hI q1
  refine AC.region ?_
  refine AL.p (by exact g_load_refN rfl rfl rfl rfl) rfl ?_
  refine AL.q (by exact h_pure en_iExplored rfl rfl (by repeat (first | exact rfl | exact DLead.same | refine ⟨_, _, rfl, ?_, ?_⟩ | refine ⟨_, rfl, ?_⟩)) hX2 rfl) rfl ?_
  refine AL.p (by exact mv5 rfl) rfl ?_
  refine AL.p (by exact g_extract (r := .agg _) rfl rfl) rfl ?_
  refine AL.p (by exact g_extract (r := .d _) rfl rfl) rfl ?_
  refine AL.p (by exact g_extract (r := .d _) rfl rfl) rfl ?_
  refine AL.p (by exact g_extract (r := .d _) rfl rfl) rfl ?_
  refine AL.q (by exact h_alloc rfl) rfl ?_
  refine AL.q (by exact h_alloc rfl) rfl ?_
  refine AL.q (by exact h_store rfl rfl rfl rfl rfl rfl) rfl ?_
  refine AL.q (by exact h_store rfl rfl rfl rfl rfl rfl) rfl ?_
  refine AL.p (by exact as1 rfl) rfl ?_
  refine AL.p (by exact as1 rfl) rfl ?_
  refine AL.nil (th_n (AC.seq (AC.seq (AC.region ?_))))
  refine AL.p (by exact mv1 rfl) rfl ?_
  refine AL.p (by exact mv1 rfl) rfl ?_
  refine AL.caseGB rfl rfl (fun h1 => ?_) (fun h1 => ?_)
  ·refine AL.not rfl rfl rfl rfl rfl ?_
   refine AL.not rfl rfl rfl rfl rfl ?_
   refine AL.p (by exact g_pickT (r := .d _) rfl rfl) rfl ?_
   refine AL.nil (th_n ?_)
   refine AC.condT rfl ?_
   refine AC.seq (AC.region ?_)
   refine AL.p (by exact as1 rfl) rfl ?_
   refine AL.p (by exact as1 rfl) rfl ?_
   refine AL.nil (th_n (AC.ret (th_r (bq_r ?_))))
   have e := hfin q1 (by (left; assumption))
   exact ret0 rfl (by rw [e]; show AV.leads _ (.tup [.d (vI []), aT false]) _; repeat (first | exact DLead.same | exact DLead.nil | exact rfl | refine ⟨_, rfl, ?_⟩ | refine ⟨_, _, rfl, ?_, ?_⟩))
  ·refine AL.yes rfl rfl rfl ?_
   refine AL.p (by exact g_load_ptr rfl rfl rfl rfl rfl) rfl ?_
   refine AL.yes rfl rfl rfl ?_
   refine AL.p (by exact g_cmp rfl rfl rfl) rfl ?_
   refine AL.p (by exact g_pickF (r := .d _) rfl rfl) rfl ?_
   refine AL.nil (th_n ?_)
   refine AC.condD rfl (fun h2 => ?_) (fun h2 => ?_)
   ·refine AC.seq (AC.region ?_)
    refine AL.p (by exact as1 rfl) rfl ?_
    refine AL.p (by exact as1 rfl) rfl ?_
    refine AL.nil (th_n (AC.ret (th_r (bq_r ?_))))
    have e := hfin q1 (by (right; assumption))
    exact ret0 rfl (by rw [e]; show AV.leads _ (.tup [.d (vI []), aT false]) _; repeat (first | exact DLead.same | exact DLead.nil | exact rfl | refine ⟨_, rfl, ?_⟩ | refine ⟨_, _, rfl, ?_, ?_⟩))
   ·refine AC.skip (th_n (AC.seq ?_))
    obtain ⟨k0, t, hk0, ht, hkl, hG⟩ := hgo (by assumption)
    rw [if_pos q1, hG] at hR
    refine AC.weak (t := ⟨51, 300, [(4, .ptr 200 0), (5, .ptr 201 0), (6, aI t)], [(200, some (.cells 35 (rgC F.1))), (201, some (.cells 3 [aI k0]))]⟩) (Weak.ren _ [(200, _), (201, _)] hC rfl (by rw [← ht]; repeat (first | exact True.intro | refine And.intro ?_ ?_ | exact DLead.same | exact rfl | refine ⟨_, rfl, ?_⟩)) (by rw [← hk0]; repeat (first | exact True.intro | refine And.intro ?_ ?_ | exact DLead.same | exact rfl | refine ⟨_, _, rfl, rfl, ?_⟩ | refine ⟨_, rfl, ?_⟩ | refine ⟨_, _, rfl, ?_, ?_⟩)) rfl rfl rfl) ?_
    refine AC.region ?_
    refine AL.p (by exact mv1 rfl) rfl ?_
    refine AL.q (by exact h_lit rfl rfl rfl rfl rfl rfl rfl rfl) rfl ?_
    refine AL.p (by exact as2 rfl) rfl ?_
    refine AL.nil (th_n (AC.seq (AC.block ?_)))
    refine AC.loop (ι := Nat × Nat × List Int) (fun y => ⟨51, 600, [(4, .ptr 200 0), (5, .ptr 201 0), (8, .own 100 y.2.2.length)], [(200, some (.cells 35 (rgC F.1))), (201, some (.cells 3 [aI y.2.1])), (100, some (.arr 3 1 (ints y.2.2)))]⟩) (fun y => y.2.1 < y.1 ∧ y.2.1 < F.1.marks.length ∧ y.2.2 ++ upL F.1.moves y.1 y.2.1 = [t] ++ upL F.1.moves F.1.marks.length k0 ∧ y.2.2.length + y.1 ≤ 400) (fun y => y.1) ((F.1.marks.length, k0, [t])) ?_ (⟨hkl, hkl, rfl, by show 1 + _ ≤ _; omega⟩) ?_
    ·exact Weak.ren _ [(200, 200), (201, 201), (100, _)] hC rfl (by repeat (first | exact True.intro | refine And.intro ?_ ?_ | exact rfl | refine ⟨_, rfl, ?_⟩)) (by repeat (first | exact True.intro | refine And.intro ?_ ?_ | exact DLead.same | exact rfl | refine ⟨_, _, rfl, rfl, ?_⟩ | refine ⟨_, rfl, ?_⟩ | refine ⟨_, _, rfl, ?_, ?_⟩)) rfl rfl rfl
    ·rintro ⟨n, k, acc⟩ ⟨hkn, hk, hacc, hal⟩
     dsimp only at hkn hk hacc hal ⊢
     refine AC.seq (AC.seq (AC.region ?_))
     refine AL.p (by exact g_load_ptr rfl rfl rfl rfl rfl) rfl ?_
     refine AL.p (by exact g_cmp rfl rfl rfl) rfl ?_
     refine AL.nil (th_n ?_)
     refine AC.condD rfl (fun h3 => ?_) (fun h3 => ?_)
     ·refine AC.skip (th_n (AC.block (AC.seq ?_)))
      obtain ⟨i, hi, hfi, hbf, hf0, hfk⟩ := hby k (by omega) hk
      obtain ⟨n', rfl⟩ : ∃ n', n = n' + 1 := ⟨n - 1, by omega⟩
      rw [upL_step (by omega), hbf] at hacc
      have hIx := ixMv_spec F.1.moves (by omega) 102 [.ref [dI (k : Int)]] en_iUnsafe1 (fun v => decide (v.to_ = (k : Int))) (fun v _ => iUnsafe1_spec v k)
      rw [hfi] at hIx
      have hget := mvL_get hi
      obtain ⟨v, hv⟩ : ∃ v, v = F.1.moves[i] := ⟨_, rfl⟩
      rw [← hv] at hget hf0 hfk hacc
      obtain ⟨f, hf⟩ : ∃ f, f = v.from_.toNat := ⟨_, rfl⟩
      have e1 : v.from_ = (f : Int) := by omega
      rw [← hf] at hacc
      rw [e1] at hget
      refine AC.region ?_
      refine AL.p (by exact g_fa_ptr rfl rfl rfl rfl rfl) rfl ?_
      refine AL.p (by exact g_load_ptr rfl rfl rfl rfl rfl) rfl ?_
      refine AL.p (by exact g_fn rfl) rfl ?_
      refine AL.q (by exact h_borrow [201] en_ixMv rfl rfl hIx (.cons (.of .d) (.cons (.cloB (.cons (.ptr rfl rfl (.cons .d .nil)) .nil)) .nil)) rfl) rfl ?_
      refine AL.p (by exact as1 rfl) rfl ?_
      refine AL.nil (th_n (AC.seq (AC.region ?_)))
      refine AL.p (by exact mv2 rfl) rfl ?_
      refine AL.p (by exact g_fa_ptr rfl rfl rfl rfl rfl) rfl ?_
      refine AL.p (by exact g_load_ptr rfl rfl rfl rfl rfl) rfl ?_
      refine AL.p (by exact mv1 rfl) rfl ?_
      refine AL.p (by exact g_ia_view (i := i) rfl rfl rfl rfl rfl rfl hget) rfl ?_
      refine AL.p (by exact g_fa_ref rfl rfl rfl rfl rfl rfl) rfl ?_
      refine AL.p (by exact g_load_ref rfl rfl rfl) rfl ?_
      refine AL.q (by exact h_litF rfl rfl rfl rfl rfl rfl rfl rfl) rfl ?_
      refine AL.q (by exact h_appendI acc [v.by_] (.own rfl rfl (ints_len _).symm) (.view rfl) (by rw [List.length_append]; simp only [List.length_cons, List.length_nil]; omega) (by simp)) rfl ?_
      refine AL.p (by exact as2 rfl) rfl ?_
      refine AL.nil (th_n (AC.region ?_))
      refine AL.p (by exact g_fa_ptr rfl rfl rfl rfl rfl) rfl ?_
      refine AL.p (by exact g_load_ptr rfl rfl rfl rfl rfl) rfl ?_
      refine AL.p (by exact mv1 rfl) rfl ?_
      refine AL.p (by exact g_ia_view (i := i) rfl rfl rfl rfl rfl rfl hget) rfl ?_
      refine AL.p (by exact g_fa_ref rfl rfl rfl rfl rfl rfl) rfl ?_
      refine AL.p (by exact g_load_ref rfl rfl rfl) rfl ?_
      refine AL.q (by exact h_store rfl rfl rfl rfl rfl rfl) rfl ?_
      refine AL.nil (ib_n (th_n ?_))
      exact ⟨(n', f, acc ++ [v.by_]), ⟨by dsimp only; omega, by dsimp only; omega, by dsimp only; rw [List.append_assoc]; exact hacc, by dsimp only; rw [List.length_append]; simp only [List.length_cons, List.length_nil]; omega⟩, by dsimp only; omega, Weak.ren _ [(200, 200), (201, 201), (100, _)] hC rfl (by repeat (first | exact True.intro | refine And.intro ?_ ?_ | exact rfl | refine ⟨_, rfl, ?_⟩)) (by repeat (first | exact True.intro | refine And.intro ?_ ?_ | exact DLead.same | exact rfl | refine ⟨_, _, rfl, rfl, ?_⟩ | refine ⟨_, rfl, ?_⟩ | refine ⟨_, _, rfl, ?_, ?_⟩)) rfl rfl rfl⟩
     ·refine AC.exit (th_e (th_e (ib_y (th_n (AC.seq ?_)))))
      have hkz : k = 0 := by omega
      rw [hkz, upL_zero, List.append_nil] at hacc
      have hRev := revInts_spec acc (by omega)
      refine AC.region ?_
      refine AL.p (by exact mv2 rfl) rfl ?_
      refine AL.q (by exact h_fun (cs := [100]) en_revInts rfl rfl (by repeat (first | exact rfl | refine ⟨_, _, rfl, ?_, ?_⟩ | refine ⟨_, rfl, ?_⟩)) (by repeat (first | exact True.intro | refine And.intro ?_ ?_ | exact rfl | refine ⟨_, _, rfl, rfl, ?_⟩)) hRev rfl rfl rfl rfl) rfl ?_
      refine AL.nil (th_n (AC.seq (AC.region ?_)))
      refine AL.p (by exact mv2 rfl) rfl ?_
      refine AL.p (by exact as2 rfl) rfl ?_
      refine AL.p (by exact as1 rfl) rfl ?_
      refine AL.nil (th_n ?_)
      refine AC.weak (Weak.freeze (i := 2) (els' := ints acc.reverse) rfl rfl (by rw [ints_len, List.length_reverse]; exact Nat.le_refl _) (List.take_of_length_le (by rw [ints_len, List.length_reverse]; exact Nat.le_refl _))) ?_
      refine AC.ret (bq_r ?_)
      have e : G = (acc.reverse, true) := hR.trans (by rw [hacc, List.reverse_append]; rfl)
      exact ret0 rfl (by rw [e]; show AV.leads _ (.tup [.d (vI acc.reverse), aT true]) _; repeat (first | exact DLead.same | exact rfl | refine ⟨_, rfl, ?_⟩ | refine ⟨_, _, rfl, ?_, ?_⟩))
theorem en_iUnsafe : Enters Tryz.prog 14 := enters_of Tryz.func14 rfl rfl
set_option maxHeartbeats 8000000 in
theorem sUnsafe_spec (s : Stg) (hB : StgB s) : ASpec Tryz.prog 15 [stgA s] [] (Pure1 (.tup [.d (vI (unsR s).1), aT (unsR s).2])) := by
 have hV := l2Good_spec s hB.L
 have hX := sReach_spec s hB
 have hend := explR_end s.net s.start
 obtain ⟨kk, hBy⟩ := explR_By s.net s.start
 have hI : goodS s = true → (explR s.net s.start).1.marks.length ≤ 300 ∧ (explR s.net s.start).1.moves.length ≤ 24 * 301 := fun hg => by
  have h1 : goodN s.net = true ∧ bitsB s.start s.net.places = true := by
   simp only [goodS, Bool.and_eq_true] at hg
   exact hg.1
  have := exOut_I (good_places h1.1).2.2 301 0 (x := ⟨[s.start], []⟩) (q := 0) ⟨by show 1 ≤ 300; omega, fun m hm => by rw [List.mem_singleton.1 hm]; exact h1.2, Nat.le_refl _⟩
  exact ⟨this.n, Nat.le_trans this.l (by omega)⟩
 have hR : unsR s = if goodS s = true then unsT (explR s.net s.start) else ([], false) := rfl
 obtain ⟨b, hb⟩ : ∃ b, b = goodS s := ⟨_, rfl⟩
 rw [← hb] at hV hX hR hI
 obtain ⟨F, hF⟩ : ∃ F, F = explR s.net s.start := ⟨_, rfl⟩
 rw [← hF] at hX hR hend hBy hI
 have hby := fun k h1 h2 => by_at (k := k) hBy h1 h2
 have hbl := byL_len hBy.pos
 obtain ⟨G, hG⟩ : ∃ G, G = unsR s := ⟨_, rfl⟩
 rw [← hG] at hR ⊢
 clear hG hb hF hBy
 have hfin : b = true → rBad F.2 < 0 → G = ([], false) := fun q1 q => by
  rw [hR, if_pos q1]
  rcases hend with g | g | ⟨j, t, g, _, h2, _⟩
  ·exact unsT_none (by unfold exB; rw [g])
  ·exact unsT_full g
  ·exfalso; unfold rBad at q; rw [g] at q; exact absurd q (by show ¬ (t < 0); omega)
 have hgo : ¬ rBad F.2 < 0 → ∃ (j : Nat) (t : Int), rMark F.2 = (j : Int) ∧ rBad F.2 = t ∧ j < F.1.marks.length ∧ unsT F = ((upL F.1.moves F.1.marks.length j).reverse ++ [t], true) := fun q => by
  rcases hend with g | g | ⟨j, t, g, h1, h2, h3⟩
  ·exfalso; unfold rBad at q; rw [g] at q; exact q (by decide)
  ·exfalso; unfold rBad at q; rw [g] at q; exact q (by decide)
  ·exact ⟨j, t, by rw [g, rMark_nat], by unfold rBad; rw [g], h1, unsT_nat g⟩
 refine ASpec.of Tryz.func15 rfl rfl fun C hC => ?_
 refine AC.seq (AC.region ?_)
 refine AL.q (by exact h_boxF rfl rfl) rfl ?_
 refine AL.p (by exact as1 rfl) rfl ?_
 refine AL.p (by exact as1 rfl) rfl ?_
 refine AL.nil (th_n (AC.seq (AC.seq (AC.region ?_))))
 refine AL.p (by exact g_load_refN rfl rfl rfl rfl) rfl ?_
 refine AL.q (by exact h_pure en_l2Good rfl rfl (by repeat (first | exact rfl | exact DLead.same | refine ⟨_, _, rfl, ?_, ?_⟩ | refine ⟨_, rfl, ?_⟩)) hV rfl) rfl ?_
 refine AL.p (by exact g_not rfl) rfl ?_
 refine AL.nil (th_n ?_)
 refine AC.condB rfl (fun h0 => ?_) (fun h0 => ?_)
 ·refine AC.seq (AC.region ?_)
  refine AL.p (by exact as1 rfl) rfl ?_
  refine AL.p (by exact as1 rfl) rfl ?_
  refine AL.nil (th_n (AC.ret (th_r (bq_r ?_))))
  have e : G = ([], false) := hR.trans (if_neg (by simp_all))
  exact ret0 rfl (by rw [e]; show AV.leads _ (.tup [.d (vI []), aT false]) _; repeat (first | exact DLead.same | exact DLead.nil | exact rfl | refine ⟨_, rfl, ?_⟩ | refine ⟨_, _, rfl, ?_, ?_⟩))
 ·refine AC.skip (th_n (AC.seq ?_))
  have q1 : b = true := by simpa using h0
  have hX2 := hX q1
  have hI2 := hI q1
  refine AC.region ?_
  refine AL.p (by exact g_load_refN rfl rfl rfl rfl) rfl ?_
  refine AL.q (by exact h_fun (cs := []) en_sReach rfl rfl (by repeat (first | exact rfl | exact DLead.same | refine ⟨_, _, rfl, ?_, ?_⟩ | refine ⟨_, rfl, ?_⟩)) (by repeat (exact True.intro)) hX2 rfl rfl rfl rfl) rfl ?_
  refine AL.q (by exact h_alloc rfl) rfl ?_
  refine AL.q (by exact h_store rfl rfl rfl rfl rfl rfl) rfl ?_
  refine AL.nil (th_n (AC.seq (AC.seq ?_)))
  refine AC.weak (t := ⟨38, 300, [(4, .ptr 200 0)], [(200, some (.cells 118 (refA F 101 102 103))), (103, some (.arr 52 3 (mvL (byL F.1)))), (101, some (.arr 9 1 (tsX F.1.marks))), (102, some (.arr 52 3 (mvL F.1.moves)))]⟩) (Weak.ren _ [(200, _), (101, _), (102, _), (103, _)] hC rfl (by repeat (first | exact True.intro | refine And.intro ?_ ?_ | exact rfl | refine ⟨_, rfl, ?_⟩)) (by repeat (first | exact True.intro | refine And.intro ?_ ?_ | exact DLead.same | exact rfl | refine ⟨_, _, rfl, rfl, ?_⟩ | refine ⟨_, rfl, ?_⟩ | refine ⟨_, _, rfl, ?_, ?_⟩)) rfl rfl rfl) ?_
  refine AC.region ?_
  refine AL.p (by exact g_fa_ptr rfl rfl rfl rfl rfl) rfl ?_
  refine AL.p (by exact g_load_ptr rfl rfl rfl rfl rfl) rfl ?_
  refine AL.p (by exact g_cmp rfl rfl rfl) rfl ?_
  refine AL.nil (th_n ?_)
  refine AC.condD rfl (fun h1 => ?_) (fun h1 => ?_)
  ·refine AC.seq (AC.region ?_)
   refine AL.p (by exact as1 rfl) rfl ?_
   refine AL.p (by exact as1 rfl) rfl ?_
   refine AL.nil (th_n (AC.ret (th_r (bq_r ?_))))
   have e := hfin q1 (by assumption)
   exact ret0 rfl (by rw [e]; show AV.leads _ (.tup [.d (vI []), aT false]) _; repeat (first | exact DLead.same | exact DLead.nil | exact rfl | refine ⟨_, rfl, ?_⟩ | refine ⟨_, _, rfl, ?_, ?_⟩))
  ·refine AC.skip (th_n (AC.seq ?_))
   obtain ⟨k0, t, hk0, ht, hkl, hG⟩ := hgo (by assumption)
   rw [if_pos q1, hG] at hR
   refine AC.weak (t := ⟨38, 500, [(4, .ptr 200 0)], [(200, some (.cells 118 [.own 101 F.1.marks.length, .own 102 F.1.moves.length, .own 103 (byL F.1).length, aI k0, aI t, aT (rFull F.2)])), (103, some (.arr 52 3 (mvL (byL F.1)))), (101, some (.arr 9 1 (tsX F.1.marks))), (102, some (.arr 52 3 (mvL F.1.moves)))]⟩) (Weak.ren _ [(200, 200), (101, 101), (102, 102), (103, 103)] hC rfl (by repeat (first | exact True.intro | refine And.intro ?_ ?_ | exact rfl | refine ⟨_, rfl, ?_⟩)) (by rw [← hk0, ← ht]; repeat (first | exact True.intro | refine And.intro ?_ ?_ | exact DLead.same | exact rfl | refine ⟨_, _, rfl, rfl, ?_⟩ | refine ⟨_, rfl, ?_⟩ | refine ⟨_, _, rfl, ?_, ?_⟩)) rfl rfl rfl) ?_
   refine AC.region ?_
   refine AL.p (by exact g_fa_ptr rfl rfl rfl rfl rfl) rfl ?_
   refine AL.p (by exact g_load_ptr rfl rfl rfl rfl rfl) rfl ?_
   refine AL.q (by exact h_lit rfl rfl rfl rfl rfl rfl rfl rfl) rfl ?_
   refine AL.p (by exact as2 rfl) rfl ?_
   refine AL.nil (th_n (AC.seq (AC.seq (AC.region ?_))))
   refine AL.p (by exact g_fa_ptr rfl rfl rfl rfl rfl) rfl ?_
   refine AL.p (by exact g_load_ptr rfl rfl rfl rfl rfl) rfl ?_
   refine AL.p (by exact as1 rfl) rfl ?_
   refine AL.nil (th_n (AC.block ?_))
   refine AC.loop (ι := Nat × Nat × List Int) (fun y => ⟨38, 800, [(4, .ptr 200 0), (5, .own 100 y.2.2.length), (6, aI y.2.1)], [(200, some (.cells 118 [.own 101 F.1.marks.length, .own 102 F.1.moves.length, .own 103 (byL F.1).length, aI k0, aI t, aT (rFull F.2)])), (103, some (.arr 52 3 (mvL (byL F.1)))), (101, some (.arr 9 1 (tsX F.1.marks))), (102, some (.arr 52 3 (mvL F.1.moves))), (100, some (.arr 3 1 (ints y.2.2)))]⟩) (fun y => y.2.1 < y.1 ∧ y.2.1 < F.1.marks.length ∧ (upL F.1.moves y.1 y.2.1).reverse ++ y.2.2 = (upL F.1.moves F.1.marks.length k0).reverse ++ [t] ∧ y.2.2.length + y.1 ≤ 400) (fun y => y.1) ((F.1.marks.length, k0, [t])) ?_ (⟨hkl, hkl, rfl, by show 1 + _ ≤ _; omega⟩) ?_
   ·exact Weak.ren _ [(200, 200), (101, 101), (102, 102), (103, 103), (100, _)] hC rfl (by repeat (first | exact True.intro | refine And.intro ?_ ?_ | exact DLead.same | exact rfl | refine ⟨_, rfl, ?_⟩)) (by repeat (first | exact True.intro | refine And.intro ?_ ?_ | exact DLead.same | exact rfl | refine ⟨_, _, rfl, rfl, ?_⟩ | refine ⟨_, rfl, ?_⟩ | refine ⟨_, _, rfl, ?_, ?_⟩)) rfl rfl rfl
   ·rintro ⟨n, k, acc⟩ ⟨hkn, hk, hacc, hal⟩
    dsimp only at hkn hk hacc hal ⊢
    refine AC.seq (AC.seq (AC.region ?_))
    refine AL.p (by exact mv1 rfl) rfl ?_
    refine AL.p (by exact g_cmp rfl rfl rfl) rfl ?_
    refine AL.nil (th_n ?_)
    refine AC.condND rfl (fun h2 => ?_) (fun h2 => ?_)
    ·refine AC.skip (th_n (AC.seq (AC.block ?_)))
     obtain ⟨i, hi, hfi, hbf, hf0, hfk⟩ := hby k (by omega) hk
     obtain ⟨n', rfl⟩ : ∃ n', n = n' + 1 := ⟨n - 1, by omega⟩
     rw [upL_step (by omega), List.reverse_cons, List.append_assoc] at hacc
     have hget : (mvL (byL F.1))[k]? = some (mvD (byF F.1.moves k)) := by rw [List.getElem?_map, byL_get (by omega) hk]; rfl
     rw [← hbf] at hf0 hfk
     obtain ⟨v, hv⟩ : ∃ v, v = byF F.1.moves k := ⟨_, rfl⟩
     rw [← hv] at hget hf0 hfk hacc
     obtain ⟨f, hf⟩ : ∃ f, f = v.from_.toNat := ⟨_, rfl⟩
     have e1 : v.from_ = (f : Int) := by omega
     rw [← hf] at hacc
     refine AC.region ?_
     refine AL.p (by exact g_fa_ptr rfl rfl rfl rfl rfl) rfl ?_
     refine AL.p (by exact g_load_ptr rfl rfl rfl rfl rfl) rfl ?_
     refine AL.p (by exact mv1 rfl) rfl ?_
     refine AL.p (by exact g_ia_own (i := k) (l := (byL F.1).length) rfl rfl rfl rfl rfl rfl (by rw [hbl]; exact hk) rfl) rfl ?_
     refine AL.p (by exact g_fa_ptr rfl rfl rfl rfl rfl) rfl ?_
     refine AL.p (by exact g_load_arr (i := k) (j := 1) rfl rfl rfl rfl rfl hget rfl) rfl ?_
     refine AL.q (by exact h_lit rfl rfl rfl rfl rfl rfl rfl rfl) rfl ?_
     refine AL.p (by exact mv2 rfl) rfl ?_
     refine AL.q (by exact h_appendI [v.by_] acc (.own rfl rfl rfl) (.own rfl rfl (Nat.le_of_eq (ints_len _).symm) (List.take_of_length_le (Nat.le_of_eq (ints_len _)))) (by rw [List.length_append]; simp only [List.length_cons, List.length_nil]; omega) (by simp)) rfl ?_
     refine AL.p (by exact as2 rfl) rfl ?_
     refine AL.nil (ib_n (th_n (AC.region ?_)))
     refine AL.p (by exact g_fa_ptr rfl rfl rfl rfl rfl) rfl ?_
     refine AL.p (by exact g_load_ptr rfl rfl rfl rfl rfl) rfl ?_
     refine AL.p (by exact mv1 rfl) rfl ?_
     refine AL.p (by exact g_ia_own (i := k) (l := (byL F.1).length) rfl rfl rfl rfl rfl rfl (by rw [hbl]; exact hk) rfl) rfl ?_
     refine AL.p (by exact g_fa_ptr rfl rfl rfl rfl rfl) rfl ?_
     refine AL.p (by exact g_load_arr (i := k) (j := 0) rfl rfl rfl rfl rfl hget rfl) rfl ?_
     refine AL.p (by exact as1 rfl) rfl ?_
     refine AL.nil (th_n ?_)
     exact ⟨(n', f, [v.by_] ++ acc), ⟨by dsimp only; omega, by dsimp only; omega, hacc, by dsimp only; rw [List.length_append]; simp only [List.length_cons, List.length_nil]; omega⟩, by dsimp only; omega, Weak.ren _ [(200, 200), (101, 101), (102, 102), (103, 103), (100, _)] hC rfl (by rw [← e1]; repeat (first | exact True.intro | refine And.intro ?_ ?_ | exact DLead.same | exact rfl | refine ⟨_, rfl, ?_⟩)) (by repeat (first | exact True.intro | refine And.intro ?_ ?_ | exact DLead.same | exact rfl | refine ⟨_, _, rfl, rfl, ?_⟩ | refine ⟨_, rfl, ?_⟩ | refine ⟨_, _, rfl, ?_, ?_⟩)) rfl rfl rfl⟩
    ·refine AC.exit (th_e (th_e (ib_y (th_n (AC.seq ?_)))))
     have hkz : k = 0 := by omega
     rw [hkz, upL_zero, List.reverse_nil, List.nil_append] at hacc
     rw [← hacc] at hR
     refine AC.weak (Weak.freeze (i := 5) rfl rfl (Nat.le_of_eq (ints_len _).symm) (List.take_of_length_le (Nat.le_of_eq (ints_len _)))) ?_
     refine AC.region ?_
     refine AL.p (by exact mv1 rfl) rfl ?_
     refine AL.p (by exact as1 rfl) rfl ?_
     refine AL.p (by exact as1 rfl) rfl ?_
     refine AL.nil (th_n (AC.ret (bq_r ?_)))
     exact ret0 rfl (by rw [hR]; show AV.leads _ (.tup [.d (vI acc), aT true]) _; repeat (first | exact DLead.same | exact rfl | refine ⟨_, rfl, ?_⟩ | refine ⟨_, _, rfl, ?_, ?_⟩))
theorem en_sUnsafe : Enters Tryz.prog 15 := enters_of Tryz.func15 rfl rfl
def swapE (E : List (Nat × Nat)) : List (Nat × Nat) := E.map fun e => (e.2, e.1)
theorem swapE_mem {E : List (Nat × Nat)} {f t : Nat} : (f, t) ∈ swapE E ↔ (t, f) ∈ E := by
 unfold swapE
 rw [List.mem_map]
 constructor
 ·rintro ⟨⟨a, b⟩, h, e⟩
  obtain ⟨rfl, rfl⟩ := Prod.mk.inj e
  exact h
 ·intro h; exact ⟨(t, f), h, rfl⟩
theorem swapE_len (E : List (Nat × Nat)) : (swapE E).length = E.length := List.length_map _
theorem swapE_in {E : List (Nat × Nat)} {n : Nat} (h : ∀ f t, (f, t) ∈ E → f < n ∧ t < n) : ∀ f t, (f, t) ∈ swapE E → f < n ∧ t < n := fun f t hm => (h t f (swapE_mem.1 hm)).symm
abbrev canAt (c : List Bool) (v : Nat) : Bool := c.getD v false
theorem canAt_set {c : List Bool} {v u : Nat} : canAt (c.set v true) u = true ↔ canAt c u = true ∨ (u = v ∧ v < c.length) := by
 unfold canAt
 rw [List.getD_eq_getElem?_getD, List.getD_eq_getElem?_getD, List.getElem?_set]
 by_cases e : v = u
 ·subst e
  rw [if_pos rfl]
  by_cases h : v < c.length
  ·rw [if_pos h]; simp [h]
  ·rw [if_neg h, List.getElem?_eq_none (by omega)]; simp [h]
 ·rw [if_neg e]
  constructor
  ·exact .inl
  ·rintro (g | ⟨rfl, _⟩)
   ·exact g
   ·exact absurd rfl e
structure BackI (E : List (Nat × Nat)) (n s : Nat) (o : List Int) (c : List Bool) (r j : Nat) : Prop where
 len : c.length = n
 snd : ∀ v, canAt c v = true → 0 ≤ oa o v
 cmp : ∀ v, 0 ≤ oa o v → oa o v ≤ r → canAt c v = true
 part : ∀ f t, (f, t) ∈ E.take j → 0 ≤ oa o t → oa o t ≤ r → canAt c f = true
theorem BackI.start {E : List (Nat × Nat)} {n s : Nat} {o : List Int} (hs : s < n) (h : DistOf (swapE E) n s o) : BackI E n s o ((List.replicate n false).set s true) 0 0 := by
 refine ⟨by simp, fun v hv => ?_, fun v h0 h1 => ?_, fun f t hm => by simp at hm⟩
 ·rcases canAt_set.1 hv with g | ⟨rfl, _⟩
  ·unfold canAt at g; rw [List.getD_eq_getElem?_getD, List.getElem?_replicate] at g; split at g <;> cases g
  ·rw [h.st]; exact Int.le_refl _
 ·have hw := h.wk v 0 (by omega)
  cases hw
  exact canAt_set.2 (.inr ⟨rfl, by simpa using hs⟩)
theorem BackI.no {E : List (Nat × Nat)} {n s : Nat} {o : List Int} {c : List Bool} {r j : Nat} (h : BackI E n s o c r j) (hj : j < E.length) (hb : canAt c E[j].2 = false) : BackI E n s o c r (j + 1) := by
 refine ⟨h.len, h.snd, h.cmp, fun f t hm h0 h1 => ?_⟩
 rcases mem_takeE hj hm with g | g
 ·exact h.part f t g h0 h1
 ·rw [← g] at hb
  have := h.cmp t h0 h1
  rw [hb] at this; cases this
theorem BackI.yes {E : List (Nat × Nat)} {n s : Nat} {o : List Int} {c : List Bool} {r j : Nat} (hd : DistOf (swapE E) n s o) (h : BackI E n s o c r j) (hj : j < E.length) (hf : E[j].1 < n) (hb : canAt c E[j].2 = true) : BackI E n s o (c.set E[j].1 true) r (j + 1) := by
 refine ⟨by rw [List.length_set]; exact h.len, fun v hv => ?_, fun v h0 h1 => canAt_set.2 (.inl (h.cmp v h0 h1)), fun f t hm h0 h1 => ?_⟩
 ·rcases canAt_set.1 hv with g | ⟨rfl, _⟩
  ·exact h.snd v g
  ·exact (hd.ed E[j].2 E[j].1 (swapE_mem.2 (List.getElem_mem hj)) (h.snd _ hb)).1
 ·rcases mem_takeE hj hm with g | g
  ·exact canAt_set.2 (.inl (h.part f t g h0 h1))
  ·rw [← g]; exact canAt_set.2 (.inr ⟨rfl, by rw [h.len, g]; exact hf⟩)
theorem BackI.next {E : List (Nat × Nat)} {n s : Nat} {o : List Int} {c : List Bool} {r j : Nat} (hd : DistOf (swapE E) n s o) (h : BackI E n s o c r j) (hj : j = E.length) : BackI E n s o c (r + 1) 0 := by
 refine ⟨h.len, h.snd, fun v h0 h1 => ?_, fun f t hm => by simp at hm⟩
 rcases Int.lt_or_le (oa o v) ((r : Int) + 1) with g | g
 ·exact h.cmp v h0 (by omega)
 ·have hv : oa o v = ((r + 1 : Nat) : Int) := by omega
  have hw := hd.wk v (r + 1) hv
  cases hw with
  | @step _ u _ w e =>
   have h2 := hd.walk w
   have h3 := hd.ed u v e h2.1
   exact h.part v u (by rw [hj, List.take_length]; exact swapE_mem.1 e) h2.1 (by omega)
theorem BackI.all {E : List (Nat × Nat)} {n s : Nat} {o : List Int} {c : List Bool} (h : BackI E n s o c n 0) (hle : ∀ v, oa o v ≤ n) (v : Nat) : canAt c v = decide (0 ≤ oa o v) := by
 rw [Bool.eq_iff_iff, decide_eq_true_eq]
 exact ⟨h.snd v, fun g => h.cmp v g (hle v)⟩
noncomputable def homeB (x : Ex) (k : Nat) : Bool := (List.range x.marks.length).all fun v => decide (0 ≤ oa (distF (swapE (edgesR x)) x.marks.length k) v)
noncomputable def homeL (x : Ex) (n : Nat) : List Int := nI ((List.range n).filter (homeB x))
noncomputable def homeR (x : Ex) : List Int × Bool := if goodR x = true then (homeL x x.marks.length, true) else ([], false)
theorem homeL_succ (x : Ex) (n : Nat) : homeL x (n + 1) = homeL x n ++ (if homeB x n = true then [(n : Int)] else []) := by
 unfold homeL nI
 rw [List.range_succ, List.filter_append, List.map_append]
 congr 1
 cases h : homeB x n <;> simp [h]
theorem homeL_len (x : Ex) (n : Nat) : (homeL x n).length ≤ n := by
 unfold homeL nI
 rw [List.length_map]
 have := List.length_filter_le (homeB x) (List.range n)
 rwa [List.length_range] at this
def deadB (x : Ex) (k : Nat) : Bool := decide ((fromL x k).length = 0)
def deadL (x : Ex) (n : Nat) : List Int := nI ((List.range n).filter (deadB x))
def deadR (x : Ex) : List Int × Bool := if goodR x = true then (deadL x x.marks.length, true) else ([], false)
theorem deadL_succ (x : Ex) (n : Nat) : deadL x (n + 1) = deadL x n ++ (if deadB x n = true then [(n : Int)] else []) := by
 unfold deadL nI
 rw [List.range_succ, List.filter_append, List.map_append]
 congr 1
 cases h : deadB x n <;> simp [h]
theorem deadL_len (x : Ex) (n : Nat) : (deadL x n).length ≤ n := by
 unfold deadL nI
 rw [List.length_map]
 have := List.length_filter_le (deadB x) (List.range n)
 rwa [List.length_range] at this
theorem dead_any (x : Ex) (k : Nat) : (x.moves.any fun v => decide (v.from_ = (k : Int))) = !deadB x k := by
 unfold deadB fromL
 rw [Bool.eq_iff_iff, List.any_eq_true, Bool.not_eq_true', decide_eq_false_iff_not, List.length_eq_zero_iff, List.filter_eq_nil_iff]
 constructor
 ·rintro ⟨v, hv, h⟩ hn; exact hn v hv h
 ·intro h
  refine Classical.byContradiction fun hc => h fun v hv hd => hc ⟨v, hv, hd⟩
theorem home_dead {x : Ex} (hg : goodR x = true) {h d : Nat} (hd : d < x.marks.length) (hh : h < x.marks.length) (hB : homeB x h = true) (hD : deadB x d = true) : d = h := by
 unfold homeB at hB
 rw [List.all_eq_true] at hB
 have h0 := hB d (List.mem_range.2 hd)
 rw [decide_eq_true_eq] at h0
 have hds := dist_ex (s := h) hh (swapE_in (goodR_edges hg))
 have hw := hds.wk d (oa (distF (swapE (edgesR x)) x.marks.length h) d).toNat (by omega)
 cases hk : (oa (distF (swapE (edgesR x)) x.marks.length h) d).toNat with
 | zero => rw [hk] at hw; cases hw; rfl
 | succ k =>
  rw [hk] at hw
  cases hw with
  | @step _ u _ w e =>
   exfalso
   have e2 := swapE_mem.1 e
   obtain ⟨v, hv, e3⟩ := List.mem_map.1 e2
   have h4 := (Prod.mk.inj e3).1
   have h5 := goodR_moves hg v hv
   unfold deadB at hD
   rw [decide_eq_true_eq, List.length_eq_zero_iff] at hD
   have : v ∈ fromL x d := List.mem_filter.2 ⟨hv, by rw [decide_eq_true_eq]; omega⟩
   rw [hD] at this; cases this
theorem home_law {x : Ex} (hg : goodR x = true) (h1 : 1 < (deadL x x.marks.length).length) (h2 : 0 < (homeL x x.marks.length).length) : False := by
 unfold deadL nI at h1
 unfold homeL nI at h2
 rw [List.length_map] at h1 h2
 obtain ⟨h, hh⟩ : ∃ h, h ∈ (List.range x.marks.length).filter (homeB x) := ⟨_, List.getElem_mem h2⟩
 obtain ⟨hh1, hh2⟩ := List.mem_filter.1 hh
 have hall : ∀ d, d ∈ (List.range x.marks.length).filter (deadB x) → d = h := fun d hd => by
  obtain ⟨hd1, hd2⟩ := List.mem_filter.1 hd
  exact home_dead hg (List.mem_range.1 hd1) (List.mem_range.1 hh1) hh2 hd2
 have hnd : ((List.range x.marks.length).filter (deadB x)).Nodup := List.Pairwise.filter _ List.nodup_range
 have e0 := hall _ (List.getElem_mem (show 0 < _ by omega))
 have e1 := hall _ (List.getElem_mem h1)
 have := (List.getElem_inj hnd).1 (e0.trans e1.symm)
 omega
def cutM (M a : Int) : Int := if a < M then a else M
def addC (M : Int) (now : List Int) : List Mv → List Int → List Int
 | [], nx => nx
 | v :: l, nx => addC M now l (nx.set v.to_.toNat (cutM M (nx.getD v.to_.toNat 0 + now.getD v.from_.toNat 0)))
def cntC (M : Int) (L : List Mv) (n : Nat) : Nat → List Int
 | 0 => (List.replicate n 0).set 0 1
 | k + 1 => addC M (cntC M L n k) L (List.replicate n 0)
def sumC (M : Int) : List Int → Int → Int
 | [], a => a
 | b :: l, a => sumC M l (cutM M (a + b))
structure CapI (a b : List Int) : Prop where
 len : a.length = b.length
 lo : ∀ v, 0 ≤ a.getD v 0 ∧ a.getD v 0 ≤ 2000000
 cap : ∀ v, b.getD v 0 = cutM 1000001 (a.getD v 0)
theorem iget_set {l : List Int} {i v : Nat} {x : Int} : (l.set i x).getD v 0 = if v = i ∧ i < l.length then x else l.getD v 0 := by
 rw [List.getD_eq_getElem?_getD, List.getD_eq_getElem?_getD, List.getElem?_set]
 by_cases e : i = v
 ·subst e
  by_cases h : i < l.length
  ·rw [if_pos rfl, if_pos h, if_pos ⟨rfl, h⟩]; rfl
  ·rw [if_pos rfl, if_neg h, if_neg (fun q => h q.2), List.getElem?_eq_none (by omega)]
 ·rw [if_neg e, if_neg (fun q => e q.1.symm)]
theorem iget_rep (n v : Nat) : (List.replicate n (0 : Int)).getD v 0 = 0 := by
 rw [List.getD_eq_getElem?_getD, List.getElem?_replicate]; split <;> rfl
theorem CapI.zero (n : Nat) : CapI (List.replicate n 0) (List.replicate n 0) := ⟨rfl, fun v => by rw [iget_rep]; decide, fun v => by rw [iget_rep]; decide⟩
theorem CapI.add {now now' : List Int} (hn : CapI now now') : ∀ (L : List Mv) {a b : List Int}, CapI a b → CapI (addC 2000000 now L a) (addC 1000001 now' L b)
 | [], a, b, h => h
 | v :: L, a, b, h => by
  rw [addC, addC]
  refine CapI.add hn L ⟨by rw [List.length_set, List.length_set]; exact h.len, fun u => ?_, fun u => ?_⟩
  ·rw [iget_set]
   have h1 := h.lo v.to_.toNat
   have h2 := hn.lo v.from_.toNat
   have h3 := h.lo u
   unfold cutM
   split
   ·split <;> omega
   ·exact h3
  ·rw [iget_set, iget_set, ← h.len]
   have h1 := h.lo v.to_.toNat
   have h2 := hn.lo v.from_.toNat
   have h3 := h.cap v.to_.toNat
   have h4 := hn.cap v.from_.toNat
   split
   ·rw [h3, h4]
    unfold cutM
    repeat' split
    all_goals omega
   ·exact h.cap u
theorem cnt_cap (L : List Mv) (n : Nat) : ∀ k, CapI (cntC 2000000 L n k) (cntC 1000001 L n k)
 | 0 => by
  refine ⟨rfl, fun v => ?_, fun v => ?_⟩ <;> rw [cntC, iget_set, iget_rep]
  ·split <;> decide
  ·rw [cntC, iget_set, iget_rep]; split <;> decide
 | k + 1 => (cnt_cap L n k).add L (CapI.zero n)
theorem addC_len (M : Int) (now : List Int) : ∀ (L : List Mv) (a : List Int), (addC M now L a).length = a.length
 | [], a => rfl
 | v :: L, a => by rw [addC, addC_len, List.length_set]
theorem cntC_len (M : Int) (L : List Mv) (n : Nat) : ∀ k, (cntC M L n k).length = n
 | 0 => by rw [cntC, List.length_set, List.length_replicate]
 | k + 1 => by rw [cntC, addC_len, List.length_replicate]
theorem sum_cap : ∀ (a b : List Int) (x y : Int), CapI a b → 0 ≤ x → y = cutM 1000001 x → sumC 1000001 b y = cutM 1000001 (x + a.sum) ∧ 0 ≤ a.sum
 | [], [], x, y, h, hx, hy => by rw [sumC, hy]; simp
 | [], _ :: _, x, y, h, hx, hy => by have := h.len; simp at this
 | _ :: _, [], x, y, h, hx, hy => by have := h.len; simp at this
 | p :: a, q :: b, x, y, h, hx, hy => by
  have h0 := h.lo 0
  have hc := h.cap 0
  simp only [List.getD_cons_zero] at h0 hc
  have hT : CapI a b := ⟨by simpa using h.len, fun v => by simpa using h.lo (v + 1), fun v => by simpa using h.cap (v + 1)⟩
  have ih := sum_cap a b (x + p) (cutM 1000001 (y + q)) hT (by omega) (by
   rw [hy, hc]
   unfold cutM
   repeat' split
   all_goals omega)
  rw [sumC, List.sum_cons, ih.1]
  refine ⟨by rw [Int.add_assoc], by omega⟩
def countR (x : Ex) (k : Int) : Int × Bool := if (goodR x && (decide (0 ≤ k) && decide (k ≤ 12))) = true then (if (cntC 2000000 x.moves x.marks.length k.toNat).sum > 1000000 then (0, false) else ((cntC 2000000 x.moves x.marks.length k.toNat).sum, true)) else (0, false)
theorem count_same (L : List Mv) (n k : Nat) : sumC 1000001 (cntC 1000001 L n k) 0 = cutM 1000001 ((cntC 2000000 L n k).sum) ∧ 0 ≤ (cntC 2000000 L n k).sum := by
 have := sum_cap _ _ 0 0 (cnt_cap L n k) (Int.le_refl _) (by decide)
 rwa [Int.zero_add] at this
def neverL (x : Ex) (n : Nat) : List Int := nI ((List.range n).filter fun t => !x.moves.any fun v => decide (v.by_ = ((t : Nat) : Int)))
def neverR (s : Stg) (x : Ex) : List Int × Bool := if (goodS s && goodR x) = true then (neverL x s.labs.length, true) else ([], false)
theorem neverL_succ (x : Ex) (n : Nat) : neverL x (n + 1) = neverL x n ++ (if (x.moves.any fun v => decide (v.by_ = ((n : Nat) : Int))) = true then [] else [(n : Int)]) := by
 unfold neverL nI
 rw [List.range_succ, List.filter_append, List.map_append]
 congr 1
 cases h : (x.moves.any fun v => decide (v.by_ = ((n : Nat) : Int))) <;> simp [h]
theorem neverL_len (x : Ex) (n : Nat) : (neverL x n).length ≤ n := by
 unfold neverL nI
 rw [List.length_map]
 have := List.length_filter_le (fun t => !x.moves.any fun v => decide (v.by_ = ((t : Nat) : Int))) (List.range n)
 rwa [List.length_range] at this
theorem fireSeq_stop {N : Net} : ∀ (a : List Int) {m m' : List UInt8} {c c' : Int} {t : Int}, fireSeq N m a c = (m', c', true) → (fireI N m' t).2 = false → fireSeq N m (a ++ [t]) c = (m', c', false)
 | [], m, m', c, c', t, h, hf => by
  obtain ⟨rfl, h2⟩ := Prod.mk.inj h
  obtain ⟨rfl, _⟩ := Prod.mk.inj h2
  rw [List.nil_append, fireSeq, if_neg (by rw [hf]; decide)]
 | u :: a, m, m', c, c', t, h, hf => by
  rw [List.cons_append, fireSeq]
  rw [fireSeq] at h
  split at h
  ·rename_i hu; rw [if_pos hu]; exact fireSeq_stop a h hf
  ·exact absurd (Prod.mk.inj (Prod.mk.inj h).2).2 (by simp)
theorem fire_up {N : Net} {x : Ex} {q : Nat} (h : ByI N x q) (hF : ∀ v, v ∈ x.moves → Fires N x v) : ∀ (n k : Nat), k < n → k < x.marks.length → fireSeq N (mkAt x 0) (upL x.moves n k).reverse 0 = (mkAt x k, ((upL x.moves n k).length : Int), true)
 | 0, k, hn, hk => by omega
 | n + 1, k, hn, hk => by
  rcases Nat.eq_zero_or_pos k with rfl | hp
  ·rw [upL_zero]; rfl
  ·obtain ⟨i, hi, _, e, h0, hf⟩ := by_at h hp hk
   rw [upL_step (by omega), e]
   obtain ⟨v, hv⟩ : ∃ v, v = x.moves[i] := ⟨_, rfl⟩
   have hvm : v ∈ x.moves := by rw [hv]; exact List.getElem_mem hi
   rw [← hv] at h0 hf
   rw [← hv, List.reverse_cons]
   obtain ⟨f, t, h1, h2, h3, h4, h5⟩ := hF v hvm
   have e1 : v.from_.toNat = f := by omega
   have e2 : t = k := by
    obtain ⟨w, hw, _⟩ := h.met k hp hk
    have := List.find?_some hw
    simp only [decide_eq_true_eq] at this
    have hb : byF x.moves k = w := by unfold byF; rw [hw]; rfl
    rw [e, ← hv] at hb
    rw [hb] at h2; omega
   have ih := fire_up h hF n f (by omega) h3
   rw [e1]
   have := fireSeq_snoc (t := v.by_) _ ih (by rw [h5])
   rw [h5] at this
   rw [this, e2, List.length_cons]
   rfl
theorem uns_law {s : Stg} (h : (unsR s).2 = true) (hw : (unsR s).1.length ≤ 200) : ∃ (L : List Int) (t : Int) (m : List UInt8), (unsR s).1 = L ++ [t] ∧ SeqI s.net s.start (unsR s).1 = (m, (L.length : Int), false) ∧ enR s.net m = (readyL s.net m s.net.ts.length, true) ∧ t ∈ readyL s.net m s.net.ts.length ∧ bitsB m s.net.places = true := by
 unfold unsR at h hw ⊢
 split at h
 ·rename_i hg
  rw [if_pos hg] at hw ⊢
  obtain ⟨hg1, hg2⟩ : goodN s.net = true ∧ bitsB s.start s.net.places = true := by
   have hg := hg
   simp only [goodS, Bool.and_eq_true] at hg
   exact hg.1
  obtain ⟨q, hB⟩ := explR_By s.net s.start
  have hI := exOut_I (good_places hg1).2.2 301 0 (x := ⟨[s.start], []⟩) (q := 0) ⟨by show 1 ≤ 300; omega, fun m hm => by rw [List.mem_singleton.1 hm]; exact hg2, Nat.le_refl _⟩
  have hst := exOut_st s.net 301 0 (x := ⟨[s.start], []⟩) Nat.zero_lt_one
  have hst2 : mkAt (explR s.net s.start).1 0 = s.start := hst
  have hb2 : ∀ m, m ∈ (explR s.net s.start).1.marks → bitsB m s.net.places = true := hI.b
  obtain ⟨hF, hr⟩ := explR_res s.net s.start
  rcases explR_end s.net s.start with g | g | ⟨j, t, g, _⟩
  ·rw [unsT_none (by unfold exB; rw [g])] at h; cases h
  ·rw [unsT_full g] at h; cases h
  ·rw [unsT_nat g] at hw ⊢
   rcases hr _ g with e | ⟨j2, t2, e, h1, h2, h3⟩
   ·have := (Prod.mk.inj e).1; omega
   ·obtain ⟨e1, e2⟩ := Prod.mk.inj e
    obtain rfl : j = j2 := by omega
    subst e2
    have hu := fire_up hB hF _ j h1 h1
    rw [hst2] at hu
    have hbm : bitsB (mkAt (explR s.net s.start).1 j) s.net.places = true := by rw [mkAt_nat h1]; exact hb2 _ (List.getElem_mem h1)
    refine ⟨_, t, mkAt (explR s.net s.start).1 j, rfl, ?_, ?_, h2, hbm⟩
    ·rw [SeqI_yes (by rw [hg1, hg2, Bool.true_and, Bool.true_and, decide_eq_true_eq]; exact Int.ofNat_le.2 hw)]
     have := fireSeq_stop _ hu h3
     rw [List.length_reverse]
     exact this
    ·exact enR_yes (by rw [hg1, hbm]; rfl)
 ·cases h
section
variable {P : Program} [PT P]
variable {s : ASt} {dst : Option Nat} {ty : Nat} {pos : String} {af : Array Edge} {gd : Option (Nat × Bool)} {x y : Operand} {t f : Nat}
theorem g_min {a b c : Int} {ats : Array TypeId} (hx : s.ev x = aI a) (hy : s.ev y = aI b) (hc : (if b < a then b else a) = c) : GOp P [] s ⟨dst, .call { callee := .builtin .min, args := #[x, y], argTypes := ats }, ty, pos, af, gd⟩ (aI c) := by
 subst hc
 refine g_vals2 x y (by simp [Op.operands, Call.operands]) (by simp [Op.operands, Call.operands]) hx hy fun A w e1 e2 o1 o2 => ?_
 refine ⟨?_, ?_⟩
 ·simp [execOp, resolve, invoke, builtin, e1, e2, run_min_int2]
 ·show IntKind.i64.wrap (if b < a then b else a) = if b < a then b else a
  have h1 : IntKind.i64.wrap a = a := o1
  have h2 : IntKind.i64.wrap b = b := o2
  split
  ·exact h2
  ·exact h1
theorem NOpR.ix {ids : List Nat} {o : Oper} {T : Upd → Prop} {ι : Type} {us : ι → Upd} (h : NOpR P ids s o f T) (hT : ∀ u, T u → ∃ x, u = us x) : NOpR P ids s o f (fun u => ∃ x, u = us x) := ⟨fun s' ha C U U' a w m hR hU hU' hd K Q hK => h.run s' ha C U U' a w m hR hU hU' hd K Q fun u hu => hK u (hT u hu)⟩
end
end Go.Proofs.YthafkkgmekgmoaaGreat
