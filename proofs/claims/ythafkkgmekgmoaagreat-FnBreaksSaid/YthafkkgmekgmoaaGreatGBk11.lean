/- Contracts of the functions of the program and of the reference, each proved by a walk through its code. -/
import Derived.WalkKit
import Derived.WalkSpells
import Derived.WalkLawsBesides
import Derived.Deep.Draws
import Derived.Lib.Hide
import Derived.Maps.AppendAt
import Derived.OwnWalk
import Derived.Deep.MidRow
import Derived.Laws.ResultCell
import Derived.Deep.Upon
import Derived.Great.FillDense
import Derived.Laws.Tables
import Derived.Laws.BytesArg
import Derived.Laws.MakeOwn
import Derived.Great.BuildSlice
import Derived.ArgAppend
import Derived.Deep.AppendSrc
import Derived.Test.YthafkkgmekgmoaaGreatProg
import Derived.KernelRfl
import Derived.Orders
import Derived.Laws.IdiomStrings
import Derived.Lib.AppendZerosOnto
import Derived.ProofKit
import Derived.OpenShut
import Derived.Lib.SliceRun
import Derived.Laws.StructEq
import Derived.ChangeKeysEq
import Derived.Sort.Grow
import Derived.Laws.RangeString
import Derived.Below
import Derived.Laws.Small
import Derived.MapKept
import Derived.WideMake
import Derived.Laws.IdiomCopy
import Derived.Shelf.Strings.Builder1
import Derived.Shelf.Strings.Builder2
import Derived.Shelf.Strings.OnBuilder
import Derived.Shelf.Bits.Mul64
import Derived.Test.YthafkkgmekgmoaaGreatRows
import Derived.Test.YthafkkgmekgmoaaGreatGBk10
set_option linter.all false
set_option maxRecDepth 20000
namespace Go.Proofs.YthafkkgmekgmoaaGreat
open Go.RowKit
def mskF (L : List Ar) (n : Nat) : List Int := (List.range n).map fun (k : Nat) => ((mskN L (k : Int) : Nat) : Int)
theorem mskF_len (L : List Ar) (n : Nat) : (mskF L n).length = n := by unfold mskF; simp
theorem mskF_get {L : List Ar} {n k : Nat} (h : k < n) : (ints (mskF L n))[k]? = some [dI ((mskN L (k : Int) : Nat) : Int)] := by
 unfold mskF;rw [List.getElem?_map, List.getElem?_map, List.getElem?_range h]; rfl
theorem mskF_zero (n : Nat) : mskF [] n = List.replicate n 0 := by
 refine List.ext_getElem? fun i => ?_
 unfold mskF;rw [List.getElem?_map, List.getElem?_replicate];rcases Nat.lt_or_ge i n with h | h
 ·rw [List.getElem?_range h, if_pos h]; rfl
 rw [List.getElem?_eq_none (by simpa using h), if_neg (by omega)]; rfl
theorem mskF_set {L : List Ar} {n f : Nat} {a : Ar} (hs : 0 ≤ a.sig) (hf : a.from_ = (f : Int)) : (mskF L n).set f (((mskN L (f : Int) ||| labM a) : Nat) : Int) = mskF (L ++ [a]) n := by
 refine List.ext_getElem? fun i => ?_
 unfold mskF;rw [List.getElem?_set]
 by_cases e : f = i
 ·subst e;rw [if_pos rfl];rcases Nat.lt_or_ge f n with h | h
  ·rw [if_pos (by simpa using h), List.getElem?_map, List.getElem?_range h];show some (((mskN L (f : Int) ||| labM a : Nat)) : Int) = some ((mskN (L ++ [a]) (f : Int) : Nat) : Int);rw [mskN_snoc];unfold mskS;rw [if_pos ⟨hs, hf⟩]
  rw [if_neg (by simpa using h), List.getElem?_eq_none (by simpa using h)]
 rw [if_neg e, List.getElem?_map, List.getElem?_map];rcases Nat.lt_or_ge i n with h | h
 ·rw [List.getElem?_range h];show some ((mskN L (i : Int) : Nat) : Int) = some ((mskN (L ++ [a]) (i : Int) : Nat) : Int);rw [mskN_snoc];unfold mskS;rw [if_neg (by rintro ⟨_, q⟩; omega)]
 rw [List.getElem?_eq_none (by simpa using h)]; rfl
theorem mskF_no {L : List Ar} {n : Nat} {a : Ar} (hs : ¬ 0 ≤ a.sig) : mskF (L ++ [a]) n = mskF L n := by
 unfold mskF;refine List.map_congr_left fun k _ => ?_
 rw [mskN_snoc];unfold mskS;rw [if_neg (fun q => hs q.1)]
theorem two_nat (g : Nat) : (2 : Int) * (g : Int) = ((2 * g : Nat) : Int) := by omega
theorem labMask_spec (a : Ar) (h0 : 0 ≤ a.sig) (h8 : a.sig < 8) : ASpec Tryz.prog 248 [.agg [aI a.sig, aT a.up]] [] (Pure1 (aI ((labM a : Nat) : Int))) := by
 have hl : labM a = 2 ^ (2 * a.sig.toNat + bif a.up then 1 else 0) := rfl;obtain ⟨g, hg⟩ : ∃ g, g = a.sig.toNat := ⟨_, rfl⟩;have hs : a.sig = (g : Int) := by omega
 rw [← hg] at hl;rw [hs];refine ASpec.of Tryz.func248 rfl rfl fun C hC => ?_
 refine AC.seq (AC.region ?_);refine AL.q (by exact h_boxF rfl rfl) rfl ?_;refine za ?_;refine AL.nil (th_n (AC.seq (AC.seq (AC.region ?_))));refine zf ?_;refine zr ?_;refine AL.nil (th_n ?_);refine AC.condB rfl (fun h0 => ?_) (fun h0 => ?_)
 ·refine AC.seq (AC.region ?_);refine zf ?_;refine zr ?_;refine zA ?_;refine AL.p (by exact g_shl (c := ((2 * 2 ^ (2 * g) : Nat) : Int)) rfl rfl (by omega) (by rw [two_nat]; exact shl_nat (a := 2) (by decide) (by omega))) rfl ?_;refine za ?_;refine AL.nil (th_n (AC.ret (th_r (bq_r ?_))));exact ret1 rfl (by rw [hl, ‹a.up = true›]; show dI _ = dI ((2 ^ (2 * g + 1) : Nat) : Int); rw [Nat.pow_succ, Nat.mul_comm])
 refine AC.skip (th_n (AC.seq (AC.region ?_)));refine zf ?_;refine zr ?_;refine zA ?_;refine AL.p (by exact g_shl (c := ((1 * 2 ^ (2 * g) : Nat) : Int)) rfl rfl (by omega) (by rw [two_nat]; exact shl_nat (a := 1) (by decide) (by omega))) rfl ?_;refine za ?_;refine AL.nil (th_n (AC.ret (bq_r ?_)));exact ret1 rfl (by rw [hl, ‹a.up = false›]; show dI _ = dI ((2 ^ (2 * g + 0) : Nat) : Int); rw [Nat.one_mul]; rfl)
theorem en_labMask : Enters Tryz.prog 248 := enters_of Tryz.func248 rfl rfl
set_option maxHeartbeats 4000000 in
theorem labMasks_spec (c : SG) (hn : c.codes.length ≤ 100000) (hl : c.arcs.length ≤ 1000000) (hin : ∀ a, a ∈ c.arcs → ArIn c.codes.length a) (hsg : ∀ a, a ∈ c.arcs → a.sig < 8) : ASpec Tryz.prog 209 [sgA c] [] (Pure1 (.d (vI (mskF c.arcs c.codes.length)))) := by
 obtain ⟨n, hnn⟩ : ∃ n, n = c.codes.length := ⟨_, rfl⟩;rw [← hnn] at hn hin ⊢;refine ASpec.of Tryz.func209 rfl rfl fun C hC => ?_
 refine AC.seq (AC.region ?_);refine AL.q (by exact h_boxF rfl rfl) rfl ?_;refine za ?_;refine AL.nil (th_n (AC.seq (AC.region ?_)));refine zf ?_;refine zr ?_;refine AL.p (by exact g_len_view (k := n) rfl rfl (by rw [hnn]; exact tsX_len _)) rfl ?_;refine AL.q (by exact h_make (k := n) rfl rfl rfl rfl rfl rfl rfl rfl (by show 8 * n ≤ _; omega) (by omega)) rfl ?_;refine AL.p (by exact as2 rfl) rfl ?_;refine AL.nil (th_n (AC.seq (AC.seq (AC.region ?_))));refine zf ?_;refine zr ?_;refine AL.p (by exact g_len_view (k := c.arcs.length) rfl rfl (arL_len _)) rfl ?_;refine zm ?_;refine AL.nil (th_n (AC.block ?_));refine AC.loop (ι := Nat) (fun j => ⟨35, 300, [(1, .d (.ref (sgD c))), (3, .own 100 n), (11, .d (vArs c.arcs)), (12, aI c.arcs.length), (13, aI j)], [(100, some (.arr 3 1 (ints (mskF (c.arcs.take j) n))))]⟩) (fun j => j ≤ c.arcs.length) (fun j => c.arcs.length - j) (0) ?_ (Nat.zero_le _) ?_
 ·exact zw [(100, _)] hC (b := by rw [List.take_zero, mskF_zero, ← repZ]; repeat (first | exact True.intro | refine And.intro ?_ ?_ | exact rfl | refine ⟨_, _, rfl, rfl, ?_⟩))
 intro j hj;refine AC.seq (AC.region ?_);refine zc ?_;refine AL.nil (th_n (AC.seq ?_));refine AC.condD rfl (fun h0 => ?_) (fun h0 => ?_)
 ·refine AC.skip (th_n (AC.seq (AC.block (AC.seq ?_))));have hj1 : j < c.arcs.length := by omega
  have hget := arL_get hj1;have hia := hin _ (List.getElem_mem hj1);unfold ArIn at hia;have hsa := hsg _ (List.getElem_mem hj1);have htk : c.arcs.take (j + 1) = c.arcs.take j ++ [c.arcs[j]] := by rw [List.take_add_one, List.getElem?_eq_getElem hj1]; rfl
  have hlt := fun k => mskN_lt (L := c.arcs.take j) (fun a ha => hsg a (List.mem_of_mem_take ha)) k
  obtain ⟨L, hL⟩ : ∃ L, L = c.arcs.take j := ⟨_, rfl⟩;rw [← hL] at htk hlt ⊢;obtain ⟨a, ha⟩ : ∃ a, a = c.arcs[j] := ⟨_, rfl⟩;rw [← ha] at hget hia hsa htk;obtain ⟨f, hf⟩ : ∃ f, f = a.from_.toNat := ⟨_, rfl⟩;have hfe : a.from_ = (f : Int) := by omega
  rw [hfe] at hget;have hfn : f < n := by omega
  have hno := @mskF_no L n a;have hse := fun q => @mskF_set L n f a q hfe
  have hrow := mskF_get (L := L) hfn;have hltf := hlt (f : Int);have hlm := labM_lt hsa;clear ha hL hf;have hLm := fun q => labMask_spec a q hsa
  refine AC.region ?_;refine AL.p (by exact g_ia_view rfl rfl rfl rfl rfl (by rfl) (by assumption)) rfl ?_;refine AL.p (by exact g_load_refN rfl rfl rfl rfl) rfl ?_;refine AL.q (by exact h_alloc rfl) rfl ?_;refine zs ?_;refine AL.nil (th_n (AC.seq (AC.region ?_)));refine zF ?_;refine zl ?_;refine zc ?_;refine AL.nil (th_n ?_);refine AC.condD rfl (fun h1 => ?_) (fun h1 => ?_)
  ·refine AC.drawn' mixed_ok [[], [], [1], [0,1,2], [0,1,2,3], [], [5], [], [7], [5,6,7,8], [5,6,7,8,9], [0,1,2,3,4,5,6,7,8,9,10], [0,1,2,3,4,5,6,7,8,9,10,11], [0,1,2,3,4,5,6,7,8,9,10,11,12]] (by decide) ?_;refine zd 0 [] 14 (by exact mv2 rfl) ?_;refine zd 1 [] 14 (by exact g_fa_ptr rfl rfl rfl rfl rfl) ?_;refine zd 2 [1] 14 (by exact g_load_ptr rfl rfl rfl rfl rfl) ?_;refine zd 3 [0,1,2] 14 (by exact g_ia_own (i := f) (l := n) rfl rfl rfl rfl rfl rfl hfn rfl) ?_;refine zd 4 [0,1,2,3] 14 (by exact g_load_arr1 rfl rfl rfl rfl (by rw [Nat.mul_one]; exact hrow)) ?_;refine zd 5 [] 14 (by exact g_fa_ptr rfl rfl rfl rfl rfl) ?_;refine zd 6 [5] 14 (by exact g_load_ptr rfl rfl rfl rfl rfl) ?_;refine zd 7 [] 14 (by exact g_fa_ptr rfl rfl rfl rfl rfl) ?_;refine zd 8 [7] 14 (by exact g_load_ptr rfl rfl rfl rfl rfl) ?_;refine zd 9 [5,6,7,8] 14 (by exact g_build rfl rfl rfl) ?_;refine zh 10 [5,6,7,8,9] 14 (by exact h_pure en_labMask rfl rfl (by repeat (first | exact rfl | exact DLead.same | refine ⟨_, _, rfl, ?_, ?_⟩ | refine ⟨_, rfl, ?_⟩)) (hLm (by assumption)) rfl) ?_;refine zd 11 (List.range 11) 14 (by exact g_bits rfl rfl (bits_or (by omega) (by omega))) ?_;refine zd 12 (List.range 12) 14 (by exact g_ia_own (i := f) (l := n) rfl rfl rfl rfl rfl rfl hfn rfl) ?_;refine zh 13 (List.range 13) 14 (by exact h_store_arr (i := f) (j := 0) (d := dI ((mskN L (f : Int) ||| labM a : Nat) : Int)) rfl rfl rfl rfl .same rfl hrow (by decide)) ?_;refine zj 14 ?_;refine ib_n (th_n (AC.region ?_));refine zA ?_;refine zm ?_;refine AL.nil (th_n ?_)
   (have q := ‹0 ≤ a.sig›; have e := hse q; exact ⟨j + 1, by omega, by omega, zw [(100, 100)] hC (b := by rw [htk, ← e, ints_set]; repeat (first | exact True.intro | refine And.intro ?_ ?_ | exact rfl | refine ⟨_, _, rfl, rfl, ?_⟩))⟩)
  refine AC.skip (ib_n (th_n (AC.region ?_)));refine zA ?_;refine zm ?_;refine AL.nil (th_n ?_)
  (have q : ¬ 0 ≤ a.sig := (by omega); have e := hno q; exact ⟨j + 1, by omega, by omega, zw [(100, 100)] hC (b := by rw [htk, e]; repeat (first | exact True.intro | refine And.intro ?_ ?_ | exact rfl | refine ⟨_, _, rfl, rfl, ?_⟩))⟩)
 refine AC.exit (th_e (th_e (ib_y (th_n (AC.seq ?_)))));have hjj : j = c.arcs.length := by omega
 rw [hjj, List.take_length];refine AC.weak (Weak.freeze (i := 3) rfl rfl (by rw [ints_len, mskF_len]; exact Nat.le_refl _) (List.take_of_length_le (by rw [ints_len, mskF_len]; exact Nat.le_refl _))) ?_;refine AC.region ?_;refine zm ?_;refine za ?_;refine AL.nil (th_n (AC.ret (bq_r ?_)));exact ret1 rfl rfl
theorem en_labMasks : Enters Tryz.prog 209 := enters_of Tryz.func209 rfl rfl
def fromE (L : List Ar) : List (Nat × Nat) := (List.range L.length).map fun j => ((arAt L j).from_.toNat, j)
theorem fromE_len (L : List Ar) : (fromE L).length = L.length := by unfold fromE; simp
theorem fromE_take {L : List Ar} {j : Nat} (h : j < L.length) : (fromE L).take (j + 1) = (fromE L).take j ++ [(L[j].from_.toNat, j)] := by
 rw [List.take_add_one, List.getElem?_eq_getElem (by rw [fromE_len]; exact h)];unfold fromE;rw [List.getElem_map, List.getElem_range, arAt_nat h]; rfl
theorem fromE_next (L : List Ar) (k : Nat) : nextL (fromE L) k = (List.range L.length).filter fun j => decide ((arAt L j).from_.toNat = k) := by
 unfold nextL fromE;rw [List.filter_map, List.map_map];have : ((fun x : Nat × Nat => x.2) ∘ fun j => ((arAt L j).from_.toNat, j)) = id := rfl;rw [this, List.map_id]; rfl
set_option maxHeartbeats 16000000 in
theorem nextArcs_spec (c : SG) (hn : c.codes.length ≤ 100000) (hl : c.arcs.length ≤ 1000000) (hin : ∀ a, a ∈ c.arcs → ArIn c.codes.length a) : ASpec Tryz.prog 226 [sgA c] [] (Pure1 (.d (.view 39 1 (nxtR (fromE c.arcs) c.codes.length)))) := by
 have hFl := fromE_len c.arcs;have hFt := fun j (hj : j < c.arcs.length) => fromE_take hj
 obtain ⟨E, hE⟩ : ∃ E, E = fromE c.arcs := ⟨_, rfl⟩;simp only [← hE] at hFl hFt ⊢;clear hE;obtain ⟨n, hnn⟩ : ∃ n, n = c.codes.length := ⟨_, rfl⟩;rw [← hnn] at hn hin ⊢;refine ASpec.of Tryz.func226 rfl rfl fun C hC => ?_
 refine AC.seq (AC.region ?_);refine AL.q (by exact h_boxF rfl rfl) rfl ?_;refine za ?_;refine AL.nil (th_n (AC.seq (AC.region ?_)));refine zf ?_;refine zr ?_;refine AL.p (by exact g_len_view (k := n) rfl rfl (by rw [hnn]; exact tsX_len _)) rfl ?_;refine AL.q (by exact h_make (k := n) rfl rfl rfl rfl rfl rfl rfl rfl (by show 24 * n ≤ _; omega) (by omega)) rfl ?_;refine AL.p (by exact as2 rfl) rfl ?_;refine AL.nil (th_n (AC.seq (AC.seq (AC.region ?_))));refine zf ?_;refine zr ?_;refine AL.p (by exact g_len_view (k := c.arcs.length) rfl rfl (arL_len _)) rfl ?_;refine zm ?_;refine AL.nil (th_n (AC.block ?_));refine AC.loop (ι := Nat × List Value × (Nat → Prop)) (fun x => ⟨32, 600, [(1, .d (.ref (sgD c))), (3, .own 101 n), (11, .d (vArs c.arcs)), (12, aI c.arcs.length), (13, aI x.1)], [(101, some (.arr 39 1 (rowsV 1 n x.2.1))), (102, some (.pred x.2.2 fun w => TL w x.2.2 (nxtD (E.take x.1) n) x.2.1))]⟩) (fun x => x.1 ≤ c.arcs.length ∧ x.2.1.length = n) (fun x => c.arcs.length - x.1) ((0, List.replicate n (.slice none 0 0), fun _ => False)) ?_ (⟨Nat.zero_le _, by simp⟩) ?_
 ·exact (Weak.nilsT 3 1 n).trans (zw [(101, 8), (102, 16)] hC (b := by dsimp only; rw [rows1_rep, List.take_zero, nxtD_nil]; repeat (first | exact True.intro | refine And.intro ?_ ?_ | exact rfl | refine ⟨_, _, rfl, rfl, ?_⟩)))
 rintro ⟨j, V, S⟩ ⟨hj, hV⟩;dsimp only at hj hV ⊢;refine AC.seq (AC.region ?_);refine zc ?_;refine AL.nil (th_n (AC.seq ?_));refine AC.condD rfl (fun h0 => ?_) (fun h0 => ?_)
 ·refine AC.skip (th_n (AC.seq (AC.block (AC.seq ?_))));have hj1 : j < c.arcs.length := by omega
  have hget := arL_get hj1;have hia := hin _ (List.getElem_mem hj1);unfold ArIn at hia;have htk := hFt j hj1;obtain ⟨a, ha⟩ : ∃ a, a = c.arcs[j] := ⟨_, rfl⟩;rw [← ha] at hget hia htk;clear ha;obtain ⟨f, hf⟩ : ∃ f, f = a.from_.toNat := ⟨_, rfl⟩;have hfe : a.from_ = (f : Int) := by omega
  rw [hfe] at hget;rw [← hf] at htk;have hfn : f < n := by omega
  clear hf;refine AC.region ?_;refine zm ?_;refine AL.p (by exact g_ia_view rfl rfl rfl rfl rfl (by rfl) (by assumption)) rfl ?_;refine AL.p (by exact g_load_refN rfl rfl rfl rfl) rfl ?_;refine AL.q (by exact h_alloc rfl) rfl ?_;refine za ?_;refine zs ?_;refine AL.nil (th_n ?_);refine AC.weak (t := ⟨32, 700, [(1, .d (.ref (sgD c))), (3, .own 101 n), (4, aI j), (5, .ptr 103 0), (11, .d (vArs c.arcs)), (12, aI c.arcs.length), (13, aI j)], [(101, some (.arr 39 1 (rowsV 1 n V))), (102, some (.pred S fun w => TL w S (nxtD (E.take j) n) V)), (103, some (.cells 75 [aI f, aI a.sig, aT a.up, aI a.to_]))]⟩) (zw [(101, 101), (102, 102), (103, _)] hC) ?_;obtain ⟨v, hv⟩ : ∃ v, V[f]? = some v := ⟨_, List.getElem?_eq_getElem (by omega)⟩;have hrow0 := rows1_get hfn hv;refine AC.weakR (WeakR.splitT 102 f (L := nxtD (E.take j) n) (V := V) (d := vI (nI (nextL (E.take j) f))) (v := v) rfl (fun w h => h) (nxtD_get hfn) hv rfl) ?_;rintro _ ⟨S1, S2, hS, rfl⟩;refine AC.weakR (WeakR.openC 700 (e := 3) (sz := 1) (els := ints (nI (nextL (E.take j) f))) (v := v) rfl (fun w h => h) rfl rfl) ?_;rintro _ ⟨p, V', S', ⟨hv', hp, hVl, hrow, hSS, hx⟩, rfl⟩;rw [rows1_ints hVl hx];have hll := nextL_len (E.take j) f;rw [List.length_take] at hll;rw [ints_len] at hv' hp;have hDs := nxtD_snoc (E := E.take j) (n := n) (f := f) (t := j);rw [← htk] at hDs;have hDl := nxtD_len (E.take j) n;obtain ⟨l, hl⟩ : ∃ l, l = nI (nextL (E.take j) f) := ⟨_, rfl⟩;have hnl : l.length ≤ j := by rw [hl, nI_len]; omega
  rw [← hl] at hv' hp hDs ⊢;clear hl hVl hrow hx hSS;refine AC.drawnE mixed_ok [[], [], [1], [], [], [4], [3,4,5], [3,4,5,6], [], [8], [3,4,5,6,7,8,9], [0,1,2,3,4,5,6,7,8,9,10], [0,1,2,3,4,5,6,7,8,9,10,11]] (by decide) ?_;refine DE.op 0 [] 13 rfl rfl rfl (.free rfl (NOp.of (by exact mv2 rfl))) rfl ?_;refine DE.op 1 [] 13 rfl rfl rfl (.free rfl (NOp.of (by exact g_fa_ptr rfl rfl rfl rfl rfl))) rfl ?_;refine DE.op 2 [1] 13 rfl rfl rfl (.free rfl (NOp.of (by exact g_load_ptr rfl rfl rfl rfl rfl))) rfl ?_;refine DE.op 3 [] 13 rfl rfl rfl (.free rfl (NOp.of (by exact mv2 rfl))) rfl ?_;refine DE.op 4 [] 13 rfl rfl rfl (.free rfl (NOp.of (by exact g_fa_ptr rfl rfl rfl rfl rfl))) rfl ?_;refine DE.op 5 [4] 13 rfl rfl rfl (.free rfl (NOp.of (by exact g_load_ptr rfl rfl rfl rfl rfl))) rfl ?_;refine DE.op 6 [3,4,5] 13 rfl rfl rfl (.free rfl (NOp.of (by exact g_ia_own (i := f) (l := n) rfl rfl rfl rfl rfl rfl hfn rfl))) rfl ?_;refine DE.op 7 [3,4,5,6] 13 rfl rfl rfl (.free rfl (NOp.of (by exact g_load_lock (il := 709) (ia := 708) (p := p) (i := f) (j := 0) rfl rfl rfl rfl rfl hrow0 rfl rfl hv' hp))) rfl ?_;refine DE.op 8 [] 13 rfl rfl rfl (.free rfl (NOp.of (by exact mv1 rfl))) rfl ?_;refine DE.op 9 [8] 13 rfl rfl rfl (.free rfl (by exact h_litF rfl rfl rfl rfl rfl rfl rfl rfl)) rfl ?_;refine DE.op 10 [3,4,5,6,7,8,9] 13 rfl rfl rfl (.free rfl (by exact h_appendI l [(j : Int)] (.own rfl rfl (ints_len _).symm) (.view rfl) (by rw [List.length_append]; simp only [List.length_cons, List.length_nil]; omega) (by simp))) rfl ?_;refine DE.op 11 [0,1,2,3,4,5,6,7,8,9,10] 13 rfl rfl rfl (.free rfl (NOp.of (by exact g_ia_own (i := f) (l := n) rfl rfl rfl rfl rfl rfl hfn rfl))) rfl ?_;refine DE.opX 12 [0,1,2,3,4,5,6,7,8,9,10,11] 13 ((Value.int .i64 0, fun _ => False)) rfl rfl rfl rfl (h_storeRaw (i := f) (j := 0) rfl rfl rfl rfl rfl rfl (Nat.le_of_eq (ints_len _).symm) (List.take_of_length_le (Nat.le_of_eq (ints_len _))) (ints_fl _) rfl hrow0 (by decide) rfl) rfl (by decide) ?_;rintro ⟨v2, S3⟩;refine DE.fin (ps := [(0,1),(0,2),(0,3),(0,4),(0,5),(0,6),(0,7),(0,8),(0,9),(0,10),(1,0),(1,3),(1,4),(1,5),(1,6),(1,7),(1,8),(1,9),(1,10),(2,0),(2,3),(2,4),(2,5),(2,6),(2,7),(2,8),(2,9),(2,10),(3,0),(3,1),(3,2),(3,4),(3,5),(3,8),(3,9),(4,0),(4,1),(4,2),(4,3),(4,8),(4,9),(5,0),(5,1),(5,2),(5,3),(5,8),(5,9),(6,0),(6,1),(6,2),(6,8),(6,9),(7,0),(7,1),(7,2),(7,8),(7,9),(8,0),(8,1),(8,2),(8,3),(8,4),(8,5),(8,6),(8,7),(9,0),(9,1),(9,2),(9,3),(9,4),(9,5),(9,6),(9,7),(10,0),(10,1),(10,2)]) 13 rfl rfl (by decide +kernel) (by decide +kernel) (by rfl) ?_;refine ib_n (th_n (AC.region ?_));refine zA ?_;refine zm ?_;refine AL.nil (th_n ?_);have hsv := rows1_set (v := v2) hV hfn;exact ⟨(j + 1, V.set f v2, fun k => S2 k ∨ S3 k), ⟨hj1, by rw [List.length_set]; exact hV⟩, by dsimp only; omega, (Weak.cons 102 (fun w => TX w S2 f (nxtD (E.take j) n) (V.set f v2)) rfl (fun w h => h.setV v2) (fun w w' hk h => h.turn hk)).trans ((Weak.joinT 102 812 f (S := fun k => S2 k ∨ S3 k) rfl rfl (fun w h => h) (fun k => Iff.rfl) (by rw [hDl]; exact hfn) (by rw [List.getElem?_set_self (by omega)]) rfl).trans (zw [(101, 101), (102, 102)] hC (b := by rw [hDs, ← hsv]; repeat (first | exact True.intro | refine And.intro ?_ ?_ | exact rfl | refine ⟨_, _, rfl, rfl, ?_⟩))))⟩
 refine AC.exit (th_e (th_e (ib_y (th_n (AC.seq ?_)))));have hjj : j = E.length := by omega
 rw [hjj, List.take_length];refine AC.weakR (WeakR.closeN (els := nxtR E n) (V := V) 3 102 101 rfl (by simp) rfl (fun w h => by rw [nxtR_flat]; exact h) rfl (by simp) (nxtR_row E n) rfl) ?_;rintro _ ⟨v0, S0, rfl⟩;refine AC.weak (Weak.thaw 3 102 (x := .view 39 1 (nxtR E n)) rfl rfl (fun w h => h)) ?_;refine AC.region ?_;refine zm ?_;refine za ?_;refine AL.nil (th_n (AC.ret (bq_r ?_)));exact ret1 rfl rfl
theorem en_nextArcs : Enters Tryz.prog 226 := enters_of Tryz.func226 rfl rfl
def ownS (s : List Sig) (g : Int) : Bool := if g < 0 then true else !decide ((sAt s g.toNat).kind = 1)
theorem isInput_spec (c : SG) (g : Int) (hg : g < c.sigs.length) : ASpec Tryz.prog 227 [sgA c, aI g] [] (Pure1 (aT (!ownS c.sigs g))) := by
 have hI : ¬ g < 0 → g = ((g.toNat : Nat) : Int) := by omega
 have hget : ¬ g < 0 → (sigsL c.sigs)[g.toNat]? = some (sigD (sAt c.sigs g.toNat)) := by intro h; have h2 : g.toNat < c.sigs.length := by { omega }; rw [sAt_nat h2]; exact sigsL_get h2
 have hR : ownS c.sigs g = if g < 0 then true else !decide ((sAt c.sigs g.toNat).kind = 1) := rfl
 obtain ⟨R, hRR⟩ : ∃ R, R = ownS c.sigs g := ⟨_, rfl⟩;rw [← hRR] at hR ⊢;clear hRR;refine ASpec.of Tryz.func227 rfl rfl fun C hC => ?_
 refine AC.seq (AC.region ?_);refine AL.q (by exact h_boxF rfl rfl) rfl ?_;refine za ?_;refine AL.nil (th_n (AC.seq (AC.region ?_)));refine zm ?_;refine zc ?_;refine zm ?_;refine AL.caseG rfl rfl (fun h0 => ?_) (fun h0 => ?_)
 ·refine zy ?_;have hI1 := hI (by omega);have hget1 := hget (by omega);refine zf ?_;refine zy ?_;refine zr ?_;refine zy ?_;refine zm ?_;refine zy ?_;refine AL.p (by exact g_ia_view rfl rfl rfl rfl rfl (by assumption) (by assumption)) rfl ?_;refine zy ?_;refine zf ?_;refine zy ?_;refine zr ?_;refine zy ?_;refine zc ?_;refine zQ ?_;refine za ?_;refine AL.nil (th_n (AC.ret (bq_r ?_)));exact ret1 rfl (by rw [hR, if_neg (by omega), Bool.not_not])
 refine zn ?_;refine zn ?_;refine zn ?_;refine zn ?_;refine zn ?_;refine zn ?_;refine zn ?_;refine zP ?_;refine za ?_;refine AL.nil (th_n (AC.ret (bq_r ?_)))
 (have q := ‹¬ 0 ≤ g›; exact ret1 rfl (by rw [hR, if_pos (by omega)]; rfl))
theorem en_isInput : Enters Tryz.prog 227 := enters_of Tryz.func227 rfl rfl
theorem l6Own_spec (c : SG) (g : Int) (hg : g < c.sigs.length) : ASpec Tryz.prog 228 [sgA c, aI g] [] (Pure1 (aT (ownS c.sigs g))) := by
 have hI : ¬ g < 0 → g = ((g.toNat : Nat) : Int) := by omega
 have hget : ¬ g < 0 → (sigsL c.sigs)[g.toNat]? = some (sigD (sAt c.sigs g.toNat)) := by intro h; have h2 : g.toNat < c.sigs.length := by { omega }; rw [sAt_nat h2]; exact sigsL_get h2
 have hR : ownS c.sigs g = if g < 0 then true else !decide ((sAt c.sigs g.toNat).kind = 1) := rfl
 obtain ⟨R, hRR⟩ : ∃ R, R = ownS c.sigs g := ⟨_, rfl⟩;rw [← hRR] at hR ⊢;clear hRR;refine ASpec.of Tryz.func228 rfl rfl fun C hC => ?_
 refine AC.seq (AC.region ?_);refine AL.q (by exact h_boxF rfl rfl) rfl ?_;refine za ?_;refine AL.nil (th_n (AC.seq (AC.region ?_)));refine zm ?_;refine zc ?_;refine zm ?_;refine AL.caseG rfl rfl (fun h0 => ?_) (fun h0 => ?_)
 ·refine zn ?_;refine zn ?_;refine zn ?_;refine zn ?_;refine zn ?_;refine zn ?_;refine zn ?_;refine zQ ?_;refine za ?_;refine AL.nil (th_n (AC.ret (bq_r ?_)))
  (have q := ‹g < 0›; exact ret1 rfl (by rw [hR, if_pos (by omega)]))
 refine zy ?_;have hI1 := hI (by omega);have hget1 := hget (by omega);refine zf ?_;refine zy ?_;refine zr ?_;refine zy ?_;refine zm ?_;refine zy ?_;refine AL.p (by exact g_ia_view rfl rfl rfl rfl rfl (by assumption) (by assumption)) rfl ?_;refine zy ?_;refine zf ?_;refine zy ?_;refine zr ?_;refine zy ?_;refine zc ?_;refine zP ?_;refine za ?_;refine AL.nil (th_n (AC.ret (bq_r ?_)));exact ret1 rfl (by rw [hR, if_neg (by omega)])
theorem en_l6Own : Enters Tryz.prog 228 := enters_of Tryz.func228 rfl rfl
def ownL (s : List Sig) (n : Nat) : List Int := nI ((List.range n).filter fun i => ownS s (i : Int))
theorem ownL_succ (s : List Sig) (n : Nat) : ownL s (n + 1) = ownL s n ++ (if ownS s (n : Int) = true then [(n : Int)] else []) := by
 unfold ownL nI;rw [List.range_succ, List.filter_append, List.map_append];congr 1
 by_cases h : ownS s (n : Int) = true <;> simp [h]
theorem ownL_len (s : List Sig) (n : Nat) : (ownL s n).length ≤ n := by
 unfold ownL;rw [nI_len];have := List.length_filter_le (fun i => ownS s ((i : Nat) : Int)) (List.range n)
 rwa [List.length_range] at this
theorem ownS_nat (s : List Sig) {i : Nat} (h : i < s.length) : ownS s (i : Int) = !decide (s[i].kind = 1) := by
 unfold ownS;rw [if_neg (by omega), Int.toNat_natCast, sAt_nat h]
set_option maxHeartbeats 2000000 in
theorem outputs_spec (c : SG) (hl : c.sigs.length ≤ 1000000) : ASpec Tryz.prog 175 [sgA c] [] (Pure1 (.d (vI (ownL c.sigs c.sigs.length)))) := by
 have hS := ownL_succ c.sigs;have hLl := ownL_len c.sigs;refine ASpec.of Tryz.func175 rfl rfl fun C hC => ?_
 refine AC.seq (AC.region ?_);refine AL.q (by exact h_boxF rfl rfl) rfl ?_;refine za ?_;refine AL.nil (th_n (AC.seq (AC.region ?_)));refine AL.q (by exact h_lit rfl rfl rfl rfl rfl rfl rfl rfl) rfl ?_;refine AL.p (by exact as2 rfl) rfl ?_;refine AL.nil (th_n (AC.seq (AC.seq (AC.region ?_))));refine zf ?_;refine zr ?_;refine AL.p (by exact g_len_view (k := c.sigs.length) rfl rfl (List.length_map _)) rfl ?_;refine zm ?_;refine AL.nil (th_n (AC.block ?_));refine AC.loop (ι := Nat) (fun k => ⟨24, 300, [(1, .d (.ref (sgD c))), (3, .own 100 (ownL c.sigs k).length), (8, .d (vSigs c.sigs)), (9, aI c.sigs.length), (10, aI k)], [(100, some (.arr 3 1 (ints (ownL c.sigs k))))]⟩) (fun k => k ≤ c.sigs.length) (fun k => c.sigs.length - k) (0) ?_ (Nat.zero_le _) ?_
 ·exact zw [(100, _)] hC
 intro k hk;refine AC.seq (AC.region ?_);refine zc ?_;refine AL.nil (th_n (AC.seq ?_));refine AC.condD rfl (fun h0 => ?_) (fun h0 => ?_)
 ·refine AC.skip (th_n (AC.seq (AC.block (AC.seq ?_))));have hk1 : k < c.sigs.length := by omega
  have hget := sigsL_get hk1;have hSk := hS k;have hO := ownS_nat c.sigs hk1;rw [hO] at hSk;have hl2 := hLl k;obtain ⟨x, hx⟩ : ∃ x, x = c.sigs[k] := ⟨_, rfl⟩;rw [← hx] at hget hSk;clear hx hO;refine AC.region ?_;refine zm ?_;refine AL.p (by exact g_ia_view rfl rfl rfl rfl rfl (by rfl) (by assumption)) rfl ?_;refine AL.p (by exact g_load_refN rfl rfl rfl rfl) rfl ?_;refine AL.q (by exact h_alloc rfl) rfl ?_;refine za ?_;refine zs ?_;refine AL.nil (th_n (AC.seq (AC.region ?_)));refine zF ?_;refine zl ?_;refine zc ?_;refine AL.nil (th_n ?_);refine AC.condND rfl (fun h1 => ?_) (fun h1 => ?_)
  ·refine AC.region ?_;refine AL.p (by exact mv2 rfl) rfl ?_;refine zm ?_;refine AL.q (by exact h_litF rfl rfl rfl rfl rfl rfl rfl rfl) rfl ?_;refine AL.q (by exact h_appendI (ownL c.sigs k) [(k : Int)] (.own rfl rfl (ints_len _).symm) (.view rfl) (by rw [List.length_append]; simp only [List.length_cons, List.length_nil]; omega) (by simp)) rfl ?_;refine AL.p (by exact as2 rfl) rfl ?_;refine AL.nil (ib_n (th_n (AC.region ?_)));refine zA ?_;refine zm ?_;refine AL.nil (th_n ?_)
   (have q := ‹¬ x.kind = 1›; rw [decide_eq_false q, Bool.not_false, if_pos rfl] at hSk; exact ⟨k + 1, by omega, by omega, zw [(100, _)] hC (by rw [hSk]; repeat (first | exact True.intro | refine And.intro ?_ ?_ | exact DLead.same | exact rfl | refine ⟨_, rfl, ?_⟩)) (by rw [hSk]; repeat (first | exact True.intro | refine And.intro ?_ ?_ | exact rfl | refine ⟨_, _, rfl, rfl, ?_⟩))⟩)
  refine AC.skip (ib_n (th_n (AC.region ?_)));refine zA ?_;refine zm ?_;refine AL.nil (th_n ?_)
  (have q := ‹x.kind = 1›; rw [decide_eq_true q, Bool.not_true, if_neg (by decide), List.append_nil] at hSk; exact ⟨k + 1, by omega, by omega, zw [(100, 100)] hC (by rw [hSk]; repeat (first | exact True.intro | refine And.intro ?_ ?_ | exact DLead.same | exact rfl | refine ⟨_, rfl, ?_⟩)) (by rw [hSk]; repeat (first | exact True.intro | refine And.intro ?_ ?_ | exact rfl | refine ⟨_, _, rfl, rfl, ?_⟩))⟩)
 refine AC.exit (th_e (th_e (ib_y (th_n (AC.seq ?_)))));have hkk : k = c.sigs.length := by omega
 rw [hkk];refine AC.weak (Weak.freeze (i := 3) rfl rfl (Nat.le_of_eq (ints_len _).symm) (List.take_of_length_le (Nat.le_of_eq (ints_len _)))) ?_;refine AC.region ?_;refine zm ?_;refine za ?_;refine AL.nil (th_n (AC.ret (bq_r ?_)));exact ret1 rfl rfl
theorem en_outputs : Enters Tryz.prog 175 := enters_of Tryz.func175 rfl rfl
set_option maxHeartbeats 2000000 in
theorem l6Owned_spec (c : SG) (hl : c.sigs.length ≤ 1000000) : ASpec Tryz.prog 176 [sgA c] [] (Pure1 (.d (vI (ownL c.sigs c.sigs.length)))) := by
 have hS := ownL_succ c.sigs;have hLl := ownL_len c.sigs;refine ASpec.of Tryz.func176 rfl rfl fun C hC => ?_
 refine AC.seq (AC.region ?_);refine AL.q (by exact h_boxF rfl rfl) rfl ?_;refine za ?_;refine AL.nil (th_n (AC.seq (AC.region ?_)));refine za ?_;refine AL.nil (th_n (AC.seq (AC.seq (AC.region ?_))));refine zf ?_;refine zr ?_;refine AL.p (by exact g_len_view (k := c.sigs.length) rfl rfl (List.length_map _)) rfl ?_;refine zm ?_;refine AL.nil (th_n (AC.block ?_));refine AC.loop (ι := Nat) (fun k => ⟨20, 300, [(1, .d (.ref (sgD c))), (3, .own 100 (ownL c.sigs k).length), (7, aI c.sigs.length), (8, aI k)], [(100, some (.arr 3 1 (ints (ownL c.sigs k))))]⟩) (fun k => k ≤ c.sigs.length) (fun k => c.sigs.length - k) (0) ?_ (Nat.zero_le _) ?_
 ·exact (Weak.nilOwn (i := 3) (e := 3) (sz := 1) rfl (by decide)).trans (zw [(100, _)] hC)
 intro k hk;refine AC.seq (AC.region ?_);refine zc ?_;refine AL.nil (th_n (AC.seq ?_));refine AC.condD rfl (fun h0 => ?_) (fun h0 => ?_)
 ·refine AC.skip (th_n (AC.seq (AC.block (AC.seq ?_))));have hk1 : k < c.sigs.length := by omega
  have hSk := hS k;have hO := l6Own_spec c (k : Int) (by omega);have hl2 := hLl k;obtain ⟨b, hb⟩ : ∃ b, b = ownS c.sigs (k : Int) := ⟨_, rfl⟩;rw [← hb] at hO hSk;clear hb;refine AC.region ?_;refine zm ?_;refine za ?_;refine AL.nil (th_n (AC.seq (AC.region ?_)));refine AL.p (by exact g_load_refN rfl rfl rfl rfl) rfl ?_;refine zm ?_;refine AL.q (by exact h_pure en_l6Own rfl rfl (by repeat (first | exact rfl | exact DLead.same | refine ⟨_, _, rfl, ?_, ?_⟩ | refine ⟨_, rfl, ?_⟩)) hO rfl) rfl ?_;refine AL.nil (th_n ?_);refine AC.condB rfl (fun h1 => ?_) (fun h1 => ?_)
  ·refine AC.region ?_;refine AL.p (by exact mv2 rfl) rfl ?_;refine zm ?_;refine AL.q (by exact h_litF rfl rfl rfl rfl rfl rfl rfl rfl) rfl ?_;refine AL.q (by exact h_appendI (ownL c.sigs k) [(k : Int)] (.own rfl rfl (ints_len _).symm) (.view rfl) (by rw [List.length_append]; simp only [List.length_cons, List.length_nil]; omega) (by simp)) rfl ?_;refine AL.p (by exact as2 rfl) rfl ?_;refine AL.nil (ib_n (th_n (AC.region ?_)));refine zA ?_;refine zm ?_;refine AL.nil (th_n ?_)
   (have q := ‹b = true›; rw [if_pos q] at hSk; exact ⟨k + 1, by omega, by omega, zw [(100, _)] hC (by rw [hSk]; repeat (first | exact True.intro | refine And.intro ?_ ?_ | exact DLead.same | exact rfl | refine ⟨_, rfl, ?_⟩)) (by rw [hSk]; repeat (first | exact True.intro | refine And.intro ?_ ?_ | exact rfl | refine ⟨_, _, rfl, rfl, ?_⟩))⟩)
  refine AC.skip (ib_n (th_n (AC.region ?_)));refine zA ?_;refine zm ?_;refine AL.nil (th_n ?_)
  (have q := ‹b = false›; rw [q, if_neg (by decide), List.append_nil] at hSk; exact ⟨k + 1, by omega, by omega, zw [(100, 100)] hC (by rw [hSk]; repeat (first | exact True.intro | refine And.intro ?_ ?_ | exact DLead.same | exact rfl | refine ⟨_, rfl, ?_⟩)) (by rw [hSk]; repeat (first | exact True.intro | refine And.intro ?_ ?_ | exact rfl | refine ⟨_, _, rfl, rfl, ?_⟩))⟩)
 refine AC.exit (th_e (th_e (ib_y (th_n (AC.seq ?_)))));have hkk : k = c.sigs.length := by omega
 rw [hkk];refine AC.weak (Weak.freeze (i := 3) rfl rfl (Nat.le_of_eq (ints_len _).symm) (List.take_of_length_le (Nat.le_of_eq (ints_len _)))) ?_;refine AC.region ?_;refine zm ?_;refine za ?_;refine AL.nil (th_n (AC.ret (bq_r ?_)));exact ret1 rfl rfl
theorem en_l6Owned : Enters Tryz.prog 176 := enters_of Tryz.func176 rfl rfl
noncomputable def ownR (c : SG) : List Int × Bool := if validC c = true then (ownL c.sigs c.sigs.length, true) else ([], false)
theorem ownR_len {c : SG} (h : SgL c) : (ownR c).1.length ≤ 1000000 := by
 unfold ownR;have h1 := ownL_len c.sigs c.sigs.length;have h2 := h.sg
 split
 ·exact Nat.le_trans h1 h2
 exact Nat.zero_le _
theorem iNonIn_spec (c : SG) (hc : SgL c) : ASpec Tryz.prog 93 [sgA c] [] (Pure1 (.tup [.d (vI (ownR c).1), aT (ownR c).2])) := by
 have hV := iValidSg_spec c hc;have hO := outputs_spec c hc.sg;have hR : ownR c = if validC c = true then (ownL c.sigs c.sigs.length, true) else ([], false) := rfl
 obtain ⟨b, hb⟩ : ∃ b, b = validC c := ⟨_, rfl⟩;rw [← hb] at hV hR;obtain ⟨R, hRR⟩ : ∃ R, R = ownR c := ⟨_, rfl⟩;rw [← hRR] at hR ⊢;obtain ⟨L, hL⟩ : ∃ L, L = ownL c.sigs c.sigs.length := ⟨_, rfl⟩;rw [← hL] at hO hR;clear hb hRR hL;refine ASpec.of Tryz.func93 rfl rfl fun C hC => ?_
 refine AC.seq (AC.region ?_);refine AL.q (by exact h_boxF rfl rfl) rfl ?_;refine za ?_;refine za ?_;refine AL.nil (th_n (AC.seq (AC.seq (AC.region ?_))));refine AL.p (by exact g_load_refN rfl rfl rfl rfl) rfl ?_;refine AL.q (by exact h_pure en_iValidSg rfl rfl (by repeat (first | exact rfl | exact DLead.same | refine ⟨_, _, rfl, ?_, ?_⟩ | refine ⟨_, rfl, ?_⟩)) hV rfl) rfl ?_;refine AL.p (by exact g_not rfl) rfl ?_;refine AL.nil (th_n ?_);refine AC.condB rfl (fun h0 => ?_) (fun h0 => ?_)
 ·refine AC.seq (AC.region ?_);refine za ?_;refine za ?_;refine AL.nil (th_n (AC.ret (th_r (bq_r ?_))));have e : R = ([], false) := hR.trans (if_neg (by simpa using ‹(!b) = true›));exact ret0 rfl (by rw [e]; show AV.leads _ (.tup [.d (vI []), aT false]) _; repeat (first | exact DLead.same | exact DLead.nil | exact rfl | refine ⟨_, rfl, ?_⟩ | refine ⟨_, _, rfl, ?_, ?_⟩))
 refine AC.skip (th_n (AC.seq (AC.region ?_)));refine AL.p (by exact g_load_refN rfl rfl rfl rfl) rfl ?_;refine AL.q (by exact h_pure en_outputs rfl rfl (by repeat (first | exact rfl | exact DLead.same | refine ⟨_, _, rfl, ?_, ?_⟩ | refine ⟨_, rfl, ?_⟩)) hO rfl) rfl ?_;refine za ?_;refine za ?_;refine AL.nil (th_n (AC.ret (bq_r ?_)));have e : R = (L, true) := hR.trans (if_pos (by simpa using ‹(!b) = false›));exact ret0 rfl (by rw [e]; show AV.leads _ (.tup [.d (vI L), aT true]) _; repeat (first | exact DLead.same | exact rfl | refine ⟨_, rfl, ?_⟩ | refine ⟨_, _, rfl, ?_, ?_⟩))
theorem en_iNonIn : Enters Tryz.prog 93 := enters_of Tryz.func93 rfl rfl
theorem sNonIn_spec (c : SG) (hc : SgL c) : ASpec Tryz.prog 94 [sgA c] [] (Pure1 (.tup [.d (vI (ownR c).1), aT (ownR c).2])) := by
 have hV := l5Good_spec c hc;have hO := l6Owned_spec c hc.sg;have hR : ownR c = if validC c = true then (ownL c.sigs c.sigs.length, true) else ([], false) := rfl
 obtain ⟨b, hb⟩ : ∃ b, b = validC c := ⟨_, rfl⟩;rw [← hb] at hV hR;obtain ⟨R, hRR⟩ : ∃ R, R = ownR c := ⟨_, rfl⟩;rw [← hRR] at hR ⊢;obtain ⟨L, hL⟩ : ∃ L, L = ownL c.sigs c.sigs.length := ⟨_, rfl⟩;rw [← hL] at hO hR;clear hb hRR hL;refine ASpec.of Tryz.func94 rfl rfl fun C hC => ?_
 refine AC.seq (AC.region ?_);refine AL.q (by exact h_boxF rfl rfl) rfl ?_;refine za ?_;refine za ?_;refine AL.nil (th_n (AC.seq (AC.seq (AC.region ?_))));refine AL.p (by exact g_load_refN rfl rfl rfl rfl) rfl ?_;refine AL.q (by exact h_pure en_l5Good rfl rfl (by repeat (first | exact rfl | exact DLead.same | refine ⟨_, _, rfl, ?_, ?_⟩ | refine ⟨_, rfl, ?_⟩)) hV rfl) rfl ?_;refine AL.p (by exact g_not rfl) rfl ?_;refine AL.nil (th_n ?_);refine AC.condB rfl (fun h0 => ?_) (fun h0 => ?_)
 ·refine AC.seq (AC.region ?_);refine za ?_;refine za ?_;refine AL.nil (th_n (AC.ret (th_r (bq_r ?_))));have e : R = ([], false) := hR.trans (if_neg (by simpa using ‹(!b) = true›));exact ret0 rfl (by rw [e]; show AV.leads _ (.tup [.d (vI []), aT false]) _; repeat (first | exact DLead.same | exact DLead.nil | exact rfl | refine ⟨_, rfl, ?_⟩ | refine ⟨_, _, rfl, ?_, ?_⟩))
 refine AC.skip (th_n (AC.seq (AC.region ?_)));refine AL.p (by exact g_load_refN rfl rfl rfl rfl) rfl ?_;refine AL.q (by exact h_pure en_l6Owned rfl rfl (by repeat (first | exact rfl | exact DLead.same | refine ⟨_, _, rfl, ?_, ?_⟩ | refine ⟨_, rfl, ?_⟩)) hO rfl) rfl ?_;refine za ?_;refine za ?_;refine AL.nil (th_n (AC.ret (bq_r ?_)));have e : R = (L, true) := hR.trans (if_pos (by simpa using ‹(!b) = false›));exact ret0 rfl (by rw [e]; show AV.leads _ (.tup [.d (vI L), aT true]) _; repeat (first | exact DLead.same | exact rfl | refine ⟨_, rfl, ?_⟩ | refine ⟨_, _, rfl, ?_, ?_⟩))
theorem en_sNonIn : Enters Tryz.prog 94 := enters_of Tryz.func94 rfl rfl
noncomputable def pathL (c : SG) (k : Nat) : List Ar := (backI (arcE c.arcs) (distF (arcE c.arcs) c.codes.length 0) (oa (distF (arcE c.arcs) c.codes.length 0) k).toNat k).reverse.map (arAt c.arcs)
theorem validC_at {c : SG} (h : validC c = true) : (1 ≤ c.codes.length ∧ c.codes.length ≤ 300) ∧ c.arcs.length ≤ 4000 ∧ (∀ a, a ∈ c.arcs → ArIn c.codes.length a) ∧ ∀ v, v < c.codes.length → 0 ≤ oa (distF (arcE c.arcs) c.codes.length 0) v := by
 unfold validC at h;simp only [Bool.and_eq_true, decide_eq_true_eq, List.all_eq_true] at h;obtain ⟨⟨⟨⟨⟨_, h2⟩, h3⟩, _⟩, h5⟩, h6⟩ := h;refine ⟨by omega, h3, fun a ha => arcG_in (h5 a ha), fun v hv => ?_⟩;unfold allU at h6;have := List.all_eq_true.1 h6 v (List.mem_range.2 hv);exact of_decide_eq_true this
theorem en_pathTo : Enters Tryz.prog 161 := enters_of Tryz.func161 rfl rfl
inductive Chn (L : List Ar) : List Ar → Nat → Prop
 | nil : Chn L [] 0
 | snoc {p : List Ar} {f : Nat} {a : Ar} {v : Nat} : Chn L p f → a ∈ L → a.from_ = (f : Int) → a.to_ = (v : Int) → Chn L (p ++ [a]) v
def atP (p : List Ar) (j : Nat) : Int := match j with | 0 => 0 | j + 1 => (arAt p j).to_
theorem Chn.facts {L p : List Ar} {v : Nat} (h : Chn L p v) : (∀ j (hj : j < p.length), p[j] ∈ L ∧ p[j].from_ = atP p j) ∧ atP p p.length = (v : Int) := by
 induction h with
 | nil => exact ⟨fun j hj => by simp at hj, rfl⟩
 | snoc h ha hf ht ih =>
  rename_i p f a v;obtain ⟨h1, h2⟩ := ih
  have hat : ∀ j, j ≤ p.length → atP (p ++ [a]) j = atP p j := by
   intro j hj;cases j with
   | zero => rfl
   | succ j => show (arAt (p ++ [a]) j).to_ = (arAt p j).to_; rw [arAt_nat (by simp; omega), arAt_nat (by omega), List.getElem_append_left (by omega)]
  refine ⟨fun j hj => ?_, ?_⟩
  ·rw [List.length_append] at hj;simp only [List.length_cons, List.length_nil] at hj;rw [hat j (by omega)];rcases Nat.lt_or_ge j p.length with g | g
   ·have := h1 j g;rw [List.getElem_append_left g];exact ⟨this.1, this.2⟩
   obtain rfl : j = p.length := by omega
   rw [List.getElem_concat_length rfl, h2];exact ⟨ha, hf⟩
  rw [List.length_append];show (arAt (p ++ [a]) p.length).to_ = _;rw [arAt_nat (by simp), List.getElem_concat_length rfl, ht]
theorem backI_chn {L : List Ar} {n : Nat} {o : List Int} (h : DistOf (arcE L) n 0 o) (hin : ∀ a, a ∈ L → ArIn n a) : ∀ (d v : Nat), oa o v = (d : Int) → Chn L ((backI (arcE L) o d v).reverse.map (arAt L)) v
 | 0, v, hv => by have hw := h.wk v 0 hv; cases hw; exact .nil
 | d + 1, v, hv => by
  obtain ⟨i, hi, _, hbk, hoi, hnr, _⟩ := near_find h (v := v) (d := d) (by omega);have ih := backI_chn h hin d _ hoi;have hi2 : i < L.length := by rw [arcE_len] at hi; exact hi
  have hI := hin _ (List.getElem_mem hi2);unfold ArIn at hI;rw [hbk, List.reverse_cons, List.map_append];have e := arcE_get hi2;unfold nearB at hnr;rw [decide_eq_true_eq, e] at hnr;rw [e] at ih ⊢;refine .snoc ih ?_ ?_ ?_
  ·rw [arAt_nat hi2]; exact List.getElem_mem hi2
  ·rw [arAt_nat hi2]; show _ = ((L[i].from_.toNat : Nat) : Int); omega
  rw [arAt_nat hi2, ← hnr.1]; show _ = ((L[i].to_.toNat : Nat) : Int); omega
theorem pathL_chn {c : SG} (hv : validC c = true) {k : Nat} (hk : k < c.codes.length) : Chn c.arcs (pathL c k) k := by
 obtain ⟨hn, hal, hin, hfar⟩ := validC_at hv;have hf := hfar k hk;exact backI_chn (dist_ex (by omega) (arcE_in hin)) hin _ k (by omega)
theorem pathL_len {c : SG} (hv : validC c = true) (k : Nat) : (pathL c k).length ≤ 300 := by
 obtain ⟨hn, hal, hin, hfar⟩ := validC_at hv;have hle := (distF_le (s := 0) (by omega) (arcE_in hin) k).2;unfold pathL;rw [List.length_map, List.length_reverse, backI_len];omega
theorem validC_arc {c : SG} (h : validC c = true) {a : Ar} (ha : a ∈ c.arcs) : ((0 ≤ a.from_ ∧ a.from_ < c.codes.length) ∧ 0 ≤ a.to_ ∧ a.to_ < c.codes.length) ∧ labOk ⟨a.sig, a.up⟩ c.sigs.length = true ∧ fitS a (cAtS c a.from_.toNat) (cAtS c a.to_.toNat) = true := by
 obtain ⟨_, _, hin, _⟩ := validC_at h;unfold validC at h;simp only [Bool.and_eq_true, List.all_eq_true] at h;obtain ⟨⟨_, h5⟩, _⟩ := h;have := h5 a ha;unfold arcG at this;simp only [Bool.and_eq_true] at this;exact ⟨hin a ha, this.1.2, this.2⟩
theorem movesC_in {L : List Ar} {n : Nat} (h : ∀ a, a ∈ L → ArIn n a) : ∀ v, v ∈ movesC L → (0 ≤ v.from_ ∧ v.from_ < n) ∧ 0 ≤ v.to_ ∧ v.to_ < n := fun v hv => by
 obtain ⟨j, hj, rfl⟩ := List.getElem_of_mem hv;have hj2 : j < L.length := by rw [movesC_len] at hj; exact hj
 rw [movesC_get hj2];exact h _ (List.getElem_mem hj2)
theorem en_l5Way : Enters Tryz.prog 163 := enters_of Tryz.func163 rfl rfl
theorem en_sJoin : Enters Tryz.prog 167 := enters_of Tryz.func167 rfl rfl
theorem sJoinL_spec (l : List (List UInt8)) (sep : List UInt8) (h0 : l ≠ []) (hl : l.length ≤ 1000000) (hb : (Lib.join l sep).length ≤ 70368744177664) : ASpec Tryz.prog 167 [.d (.view 9 1 (l.map fun x => [dS (bstr x)])), aS (bstr sep)] [] (Pure1 (aS (bstr (Lib.join l sep)))) := by
 have e1 : (l.map fun x => [dS (bstr x)]) = (l.map bstr).map fun x => [dS x] := by simp
 have e2 : ((l.map bstr).map (·.data.toList)) = l := by { rw [List.map_map]; have : ((fun x : ByteArray => x.data.toList) ∘ bstr) = id := funext fun x => rfl; rw [this, List.map_id] }
 rw [e1];refine ASpec.ofJoin (by cases l with | nil => exact absurd rfl h0 | cons _ _ => simp) (by simp; omega) (by rw [bstr_size]; exact hb) fun bk o c w hc hb2 hN hcap => ?_
 have := Tryz.strings_Join bk o c (l.map bstr) (bstr sep) w hc hb2 hN hcap (by rw [e2]; show (Lib.join l sep).length ≤ _; omega);rw [e2] at this;exact this
theorem sJoin0_spec (sep : List UInt8) : ASpec Tryz.prog 167 [.d (.view 9 1 []), aS (bstr sep)] [] (Pure1 (aS (bstr []))) := by
 intro w m Fin vs hfin hn ha hch hinj hm;have hv0 := ha 0 _ rfl;have hv1 := ha 1 _ rfl
 have hv : vs = #[vs.getD 0 undef, .string (bstr sep)] := by
  apply Array.ext
  ·rw [hn]; rfl
  intro i hi1 hi2
  match i with
  | 0 => simp [Array.getD_eq_getD_getElem?, Array.getElem?_eq_getElem hi1]
  | 1 => have := hv1.val_eq.1; rw [Array.getD_eq_getD_getElem?, Array.getElem?_eq_getElem hi1] at this; simpa using this
  | i + 2 => simp at hi2; omega
 generalize vs.getD 0 undef = v0 at hv0 hv;subst hv
 have hs : ∃ a c, v0 = .slice a 0 c := by
  cases hv0 with
  | d hd => cases hd with
   | nil => exact ⟨_, _, rfl⟩
   | empty => exact ⟨_, _, rfl⟩
   | view => exact ⟨_, _, rfl⟩
 obtain ⟨a, c, rfl⟩ := hs;refine (Tryz.strings_Join_none a c (bstr sep) w).mono ?_;rintro e w' ⟨rfl, rfl⟩;refine ⟨_, _, [], m, Fin, rfl, ⟨rfl, rfl⟩, fun _ _ _ h => h, fun id hid => hm id (by simp only [List.length_nil] at hid ⊢; omega), fun k => ?_, ⟨rfl, rfl, rfl, Nat.le_refl _, fun _ _ _ => rfl⟩, .d (.val (by show (0 : Nat) ≤ maxLen; simp only [maxLen]; omega)), fun id c hc => by simp [getL] at hc, fun id id' c c' p p' b hc => by simp [getL] at hc⟩;constructor
 ·intro hk;exact ⟨.inl hk, (hfin k hk).1, fun id c p hc => by simp [getL] at hc⟩
 rintro ⟨h | ⟨id, c, p, hc, _⟩ | h, hlt, _⟩
 ·exact h
 ·simp [getL] at hc
 omega
theorem sJoinA_spec (l : List (List UInt8)) (sep : List UInt8) (hl : l.length ≤ 1000000) (hb : (Lib.join l sep).length ≤ 70368744177664) : ASpec Tryz.prog 167 [.d (.view 9 1 (l.map fun x => [dS (bstr x)])), aS (bstr sep)] [] (Pure1 (aS (bstr (Lib.join l sep)))) := by
 cases l with
 | nil => exact sJoin0_spec sep
 | cons x l => exact sJoinL_spec _ sep (by simp) hl hb
theorem join_succ {l : List (List UInt8)} {sep : List UInt8} {k : Nat} (hk : k < l.length) : Lib.join (l.take (k + 1)) sep = Lib.join (l.take k) sep ++ (if 0 < k then sep else []) ++ l[k] := by
 cases l with
 | nil => simp at hk
 | cons x r =>
  rcases Nat.eq_zero_or_pos k with rfl | h0
  ·simp [Lib.join_one, Lib.join_nil]
  obtain ⟨q, rfl⟩ : ∃ q, k = q + 1 := ⟨k - 1, by omega⟩;have hq : q < r.length := by simpa using hk
  rw [if_pos h0, List.take_succ_cons, List.take_succ_cons, Lib.join_cons, Lib.join_cons, Lib.joinTail_take_succ _ _ _ _ (List.getElem?_eq_getElem hq)];simp [List.append_assoc]
theorem join_ne {l : List (List UInt8)} {sep : List UInt8} (h : ∀ x, x ∈ l → 1 ≤ x.length) : Lib.join l sep = [] ↔ l = [] := by
 cases l with
 | nil => simp [Lib.join_nil]
 | cons x l =>
  have hx := h x (by simp);rw [Lib.join_cons];constructor
  ·intro e;have := congrArg List.length e;simp only [List.length_append, List.length_nil] at this;omega
  intro e; cases e
theorem join_len3 {sep : List UInt8} {c : Nat} (hs : sep.length ≤ 3) : ∀ {l : List (List UInt8)} (_ : ∀ x, x ∈ l → x.length ≤ c) (k : Nat), k ≤ l.length → (Lib.join (l.take k) sep).length ≤ (c + 3) * k
 | l, h, 0, _ => by simp [Lib.join_nil]
 | l, h, k + 1, hk => by
  have ih := join_len3 hs h k (by omega);have hx := h _ (List.getElem_mem (show k < l.length by omega));rw [join_succ (by omega), List.length_append, List.length_append, Nat.mul_succ];have : (if 0 < k then sep else []).length ≤ 3 := by { split; exact hs; simp }
  omega
theorem sJoinV_spec (l : List (List UInt8)) (sep : List UInt8) (hl : l.length ≤ 1000000) (hb : (Lib.join l sep).length ≤ 70368744177664) : ASpec Tryz.prog 167 [.d (.view 9 1 (tsX l)), aS (bstr sep)] [] (Pure1 (aS (bstr (Lib.join l sep)))) := sJoinA_spec l sep hl hb
structure SigOk (s : List Sig) : Prop where
 l : 1 ≤ s.length ∧ s.length ≤ 8
 n : ∀ x, x ∈ s → 1 ≤ x.name.length ∧ x.name.length ≤ 6
theorem SigOk.of {s : List Sig} (h : sigsB s = true) : SigOk s := by
 unfold sigsB at h;rw [Bool.and_eq_true] at h;have hl := inI_iff.1 h.2;refine ⟨by omega, fun x hx => ?_⟩;obtain ⟨j, hj, rfl⟩ := List.getElem_of_mem hx;have := allK_iff.1 h.1 j hj;unfold sigK at this;rw [sAt_nat hj, Bool.and_eq_true] at this;have h1 := this.1;unfold nameB at h1;rw [Bool.and_eq_true] at h1;have := inI_iff.1 h1.2;omega
def labT (s : List Sig) (x : Lab) : List UInt8 := if x.sig < 0 then [126] else (sAt s x.sig.toNat).name ++ [bif x.up then 43 else 45]
theorem labT_len {s : List Sig} (hn : ∀ t, t ∈ s → t.name.length ≤ 1000) (x : Lab) : (labT s x).length ≤ 1001 := by
 unfold labT
 split
 ·simp
 rw [List.length_append]
 have : (sAt s x.sig.toNat).name.length ≤ 1000 := by
  unfold sAt;rw [List.getD_eq_getElem?_getD];cases e : s[x.sig.toNat]? with
  | none => simp
  | some y => exact hn y (List.mem_of_getElem? e)
 simp only [List.length_cons, List.length_nil]; omega
set_option maxHeartbeats 2000000 in
theorem edgeTextG_spec (s : List Sig) (x : Lab) (hx : x.sig < s.length) (hn : ∀ t, t ∈ s → t.name.length ≤ 1000) : ASpec Tryz.prog 166 [.d (vSigs s), labA x] [] (Pure1 (aS (bstr (labT s x)))) := by
 have hI : ¬ x.sig < 0 → x.sig = ((x.sig.toNat : Nat) : Int) := by omega
 have hget : ¬ x.sig < 0 → (sigsL s)[x.sig.toNat]? = some (sigD (sAt s x.sig.toNat)) := by intro h; have h2 : x.sig.toNat < s.length := by { omega }; rw [sAt_nat h2]; exact sigsL_get h2
 have hnl : ¬ x.sig < 0 → (sAt s x.sig.toNat).name.length ≤ 1000 := by intro h; have h2 : x.sig.toNat < s.length := by { omega }; rw [sAt_nat h2]; exact hn _ (List.getElem_mem h2)
 have hT : labT s x = if x.sig < 0 then [126] else (sAt s x.sig.toNat).name ++ [bif x.up then 43 else 45] := rfl
 refine ASpec.of Tryz.func166 rfl rfl fun C hC => ?_
 refine AC.seq (AC.region ?_);refine AL.q (by exact h_boxF rfl rfl) rfl ?_;refine za ?_;refine AL.nil (th_n (AC.seq (AC.block (AC.seq (AC.region ?_)))));refine zf ?_;refine zr ?_;refine zc ?_;refine za ?_;refine AL.nil (th_n ?_);refine AC.condD rfl (fun h0 => ?_) (fun h0 => ?_)
 ·refine AC.seq (AC.region ?_);refine za ?_;refine AL.nil (th_n (AC.ret (ib_r (th_r (bq_r ?_)))));exact ret1 rfl (by rw [hT, if_pos h0]; rfl)
 refine AC.seq (AC.region ?_);refine zf ?_;refine zr ?_;refine za ?_;refine AL.nil (th_n ?_);refine AC.condB rfl (fun h1 => ?_) (fun h1 => ?_)
 ·refine AC.seq ?_;have hI1 := hI h0;have hget1 := hget h0;have hnl1 := hnl h0;refine AC.region ?_;refine zm ?_;refine zf ?_;refine zr ?_;refine AL.p (by exact g_ia_view rfl rfl rfl rfl rfl (by assumption) (by assumption)) rfl ?_;refine zf ?_;refine zr ?_;refine AL.p (by exact g_saddB (a := (sAt s x.sig.toNat).name) (b := [43]) rfl rfl (by simp only [List.length_cons, List.length_nil]; omega)) rfl ?_;refine za ?_;refine AL.nil (th_n (AC.ret (ib_r (th_r (bq_r ?_)))));exact ret1 rfl (by rw [hT, if_neg h0, h1]; rfl)
 refine AC.skip (ib_n (th_n (AC.seq ?_)));have hI1 := hI h0;have hget1 := hget h0;have hnl1 := hnl h0;refine AC.region ?_;refine zm ?_;refine zf ?_;refine zr ?_;refine AL.p (by exact g_ia_view rfl rfl rfl rfl rfl (by assumption) (by assumption)) rfl ?_;refine zf ?_;refine zr ?_;refine AL.p (by exact g_saddB (a := (sAt s x.sig.toNat).name) (b := [45]) rfl rfl (by simp only [List.length_cons, List.length_nil]; omega)) rfl ?_;refine za ?_;refine AL.nil (th_n (AC.ret (bq_r ?_)));exact ret1 rfl (by rw [hT, if_neg h0, h1]; rfl)
theorem en_edgeText : Enters Tryz.prog 166 := enters_of Tryz.func166 rfl rfl
set_option maxHeartbeats 2000000 in
theorem l6Word_spec (c : SG) (a : Ar) (hx : a.sig < c.sigs.length) (hn : ∀ t, t ∈ c.sigs → t.name.length ≤ 1000) : ASpec Tryz.prog 230 [sgA c, arA a] [] (Pure1 (aS (bstr (labT c.sigs ⟨a.sig, a.up⟩)))) := by
 have hI : ¬ a.sig < 0 → a.sig = ((a.sig.toNat : Nat) : Int) := by omega
 have hget : ¬ a.sig < 0 → (sigsL c.sigs)[a.sig.toNat]? = some (sigD (sAt c.sigs a.sig.toNat)) := by intro h; have h2 : a.sig.toNat < c.sigs.length := by { omega }; rw [sAt_nat h2]; exact sigsL_get h2
 have hnl : ¬ a.sig < 0 → (sAt c.sigs a.sig.toNat).name.length ≤ 1000 := by intro h; have h2 : a.sig.toNat < c.sigs.length := by { omega }; rw [sAt_nat h2]; exact hn _ (List.getElem_mem h2)
 have hT : labT c.sigs ⟨a.sig, a.up⟩ = if a.sig < 0 then [126] else (sAt c.sigs a.sig.toNat).name ++ [bif a.up then 43 else 45] := rfl
 refine ASpec.of Tryz.func230 rfl rfl fun C hC => ?_
 refine AC.seq (AC.region ?_);refine AL.q (by exact h_boxF rfl rfl) rfl ?_;refine AL.q (by exact h_boxF rfl rfl) rfl ?_;refine za ?_;refine AL.nil (th_n (AC.seq (AC.block (AC.seq (AC.region ?_)))));refine zf ?_;refine zr ?_;refine zc ?_;refine za ?_;refine AL.nil (th_n ?_);refine AC.condD rfl (fun h0 => ?_) (fun h0 => ?_)
 ·refine AC.seq (AC.region ?_);refine za ?_;refine AL.nil (th_n (AC.ret (ib_r (th_r (bq_r ?_)))));exact ret1 rfl (by rw [hT, if_pos h0]; rfl)
 refine AC.seq (AC.region ?_);refine zf ?_;refine zr ?_;refine za ?_;refine AL.nil (th_n ?_);refine AC.condB rfl (fun h1 => ?_) (fun h1 => ?_)
 ·refine AC.seq ?_;have hI1 := hI h0;have hget1 := hget h0;have hnl1 := hnl h0;refine AC.region ?_;refine zf ?_;refine zr ?_;refine zf ?_;refine zr ?_;refine AL.p (by exact g_ia_view rfl rfl rfl rfl rfl (by assumption) (by assumption)) rfl ?_;refine zf ?_;refine zr ?_;refine AL.p (by exact g_saddB (a := (sAt c.sigs a.sig.toNat).name) (b := [43]) rfl rfl (by simp only [List.length_cons, List.length_nil]; omega)) rfl ?_;refine za ?_;refine AL.nil (th_n (AC.ret (ib_r (th_r (bq_r ?_)))));exact ret1 rfl (by rw [hT, if_neg h0, h1]; rfl)
 refine AC.skip (ib_n (th_n (AC.seq ?_)));have hI1 := hI h0;have hget1 := hget h0;have hnl1 := hnl h0;refine AC.region ?_;refine zf ?_;refine zr ?_;refine zf ?_;refine zr ?_;refine AL.p (by exact g_ia_view rfl rfl rfl rfl rfl (by assumption) (by assumption)) rfl ?_;refine zf ?_;refine zr ?_;refine AL.p (by exact g_saddB (a := (sAt c.sigs a.sig.toNat).name) (b := [45]) rfl rfl (by simp only [List.length_cons, List.length_nil]; omega)) rfl ?_;refine za ?_;refine AL.nil (th_n (AC.ret (bq_r ?_)));exact ret1 rfl (by rw [hT, if_neg h0, h1]; rfl)
theorem en_l6Word : Enters Tryz.prog 230 := enters_of Tryz.func230 rfl rfl
set_option maxHeartbeats 2000000 in
theorem ixAr_spec (l : List Ar) (a : Ar) (hl : l.length ≤ 1000000) : ASpec Tryz.prog 221 [.d (vArs l), arA a] [] (Pure1 (aI (findI (eqArB a) l))) := by
 refine ASpec.of Tryz.func221 rfl rfl fun C hC => ?_
 refine AC.seq (AC.region ?_);refine AL.q (by exact h_boxF rfl rfl) rfl ?_;refine za ?_;refine AL.nil (th_n (AC.seq (AC.seq (AC.region ?_))));refine zm ?_;refine AL.p (by exact g_len_view (k := l.length) rfl rfl (arL_len _)) rfl ?_;refine zm ?_;refine AL.nil (th_n (AC.block ?_));refine AC.loop (ι := Nat) (fun k => ⟨19, 100, [(0, .d (vArs l)), (3, .d (.ref (arD a))), (7, aI l.length), (8, aI k)], []⟩) (fun k => k ≤ l.length ∧ ∀ j (hj : j < l.length), j < k → eqArB a l[j] = false) (fun k => l.length - k) (0) ?_ (⟨Nat.zero_le _, fun j _ hj => by omega⟩) ?_
 ·exact Weak.ren _ [] hC rfl (by repeat (first | exact True.intro | refine And.intro ?_ ?_ | exact DLead.same)) (by repeat (exact True.intro)) rfl rfl rfl
 intro k ⟨hk, hall⟩;refine AC.seq (AC.region ?_);refine zc ?_;refine AL.nil (th_n (AC.seq ?_));refine AC.condD rfl (fun h0 => ?_) (fun h0 => ?_)
 ·refine AC.skip (th_n (AC.seq (AC.block (AC.seq ?_))));have hk1 : k < l.length := by omega
  have hget := arL_get hk1;have hfi := fun h => findI_at (p := eqArB a) hk1 h (fun j hj => hall j (by omega) hj)
  have hnx : eqArB a l[k] = false → ∀ j (hj : j < l.length), j < k + 1 → eqArB a l[j] = false := fun q j hj hj2 => by rcases Nat.lt_succ_iff_lt_or_eq.1 hj2 with h | rfl; exact hall j hj h; exact q
  obtain ⟨y, hy⟩ : ∃ y, y = l[k] := ⟨_, rfl⟩;rw [← hy] at hget hfi hnx;refine AC.region ?_;refine zm ?_;refine za ?_;refine AL.nil (th_n (AC.seq ?_));refine AC.drawn' mixed_ok [[], [], [], [1,2], [1,2,3], [0,1,2,3,4]] (by decide) ?_;refine zd 0 [] 6 (by exact g_load_refN rfl rfl rfl rfl) ?_;refine zd 1 [] 6 (by exact mv1 rfl) ?_;refine zd 2 [] 6 (by exact mv1 rfl) ?_;refine zd 3 [1,2] 6 (by exact g_ia_view (i := k) rfl rfl rfl rfl rfl rfl hget) ?_;refine zd 4 [1,2,3] 6 (by exact g_load_refN rfl rfl rfl rfl) ?_;refine zd 5 [0,1,2,3,4] 6 (by exact g_eq4 (r := decide (a.from_ = y.from_ ∧ a.sig = y.sig ∧ a.up = y.up ∧ a.to_ = y.to_)) (by decide +kernel) rfl rfl rfl) ?_;refine zj 6 ?_;refine th_n ?_;refine AC.condD rfl (fun h1 => ?_) (fun h1 => ?_)
  ·refine AC.seq (AC.region ?_);refine zm ?_;refine za ?_;refine AL.nil (th_n (AC.ret (ib_r (th_r (th_r (ib_r (th_r (bq_r ?_))))))));exact ret1 rfl (by rw [hfi (decide_eq_true (by assumption))])
  refine AC.skip (ib_n (th_n (AC.region ?_)));refine zA ?_;refine zm ?_;refine AL.nil (th_n ?_);exact ⟨k + 1, ⟨by omega, hnx (decide_eq_false (by assumption))⟩, by omega, Weak.ren _ [] hC rfl (by repeat (first | exact True.intro | refine And.intro ?_ ?_ | exact DLead.same)) (by repeat (exact True.intro)) rfl rfl rfl⟩
 refine AC.exit (th_e (th_e (ib_y (th_n (AC.seq (AC.region ?_))))));refine za ?_;refine AL.nil (th_n (AC.ret (bq_r ?_)));exact ret1 rfl (by rw [findI_none (fun j hj => hall j hj (by omega))])
theorem en_ixAr : Enters Tryz.prog 221 := enters_of Tryz.func221 rfl rfl
theorem conAr_spec (l : List Ar) (a : Ar) (hl : l.length ≤ 1000000) : ASpec Tryz.prog 165 [.d (vArs l), arA a] [] (Pure1 (aT (l.any (eqArB a)))) := by
 have hI := ixAr_spec l a hl;refine ASpec.of Tryz.func165 rfl rfl fun C hC => ?_
 refine AC.seq (AC.region ?_);refine AL.q (by exact h_boxF rfl rfl) rfl ?_;refine za ?_;refine AL.nil (th_n (AC.seq (AC.region ?_)));refine zm ?_;refine AL.p (by exact g_load_refN rfl rfl rfl rfl) rfl ?_;refine AL.q (by exact h_pure en_ixAr rfl rfl (by repeat (first | exact rfl | exact DLead.same | refine ⟨_, _, rfl, ?_, ?_⟩ | refine ⟨_, rfl, ?_⟩)) hI rfl) rfl ?_;refine zc ?_;refine za ?_;refine AL.nil (th_n (AC.ret (bq_r ?_)));exact ret1 rfl (by rw [findI_any])
theorem en_conAr : Enters Tryz.prog 165 := enters_of Tryz.func165 rfl rfl
theorem eqAr_iff {a b : Ar} : eqArB a b = true ↔ a = b := by
 unfold eqArB;rw [decide_eq_true_eq];constructor
 ·rintro ⟨h1, h2, h3, h4⟩; cases a; cases b; simp_all
 rintro rfl; exact ⟨rfl, rfl, rfl, rfl⟩
theorem conAr_iff {l : List Ar} {a : Ar} : l.any (eqArB a) = true ↔ a ∈ l := by
 rw [List.any_eq_true];constructor
 ·rintro ⟨x, hx, h⟩; rw [eqAr_iff.1 h]; exact hx
 exact fun h => ⟨a, h, eqAr_iff.2 rfl⟩
def wrdA (s : List Sig) (a : Ar) : List UInt8 := labT s ⟨a.sig, a.up⟩
def trcT (s : List Sig) (l : List Ar) : List UInt8 := Lib.join (l.map (wrdA s)) [32]
def chJ (L l : List Ar) (i : Nat) : Bool := decide ((arAt l i).from_ = atP l i) && L.any (eqArB (arAt l i))
def chnL (L l : List Ar) : Bool := allK (chJ L l) l.length
noncomputable def trcR (c : SG) (l : List Ar) : List UInt8 × Bool := if ((validC c && decide (l.length ≤ 4000)) && chnL c.arcs l) = true then (trcT c.sigs l, true) else ([], false)
theorem wrdA_len {s : List Sig} (hn : ∀ t, t ∈ s → t.name.length ≤ 1000) (a : Ar) : (wrdA s a).length ≤ 1001 := labT_len hn _
theorem wrdA_pos (s : List Sig) (a : Ar) : 1 ≤ (wrdA s a).length := by
 unfold wrdA labT
 split
 ·simp
 rw [List.length_append]; simp only [List.length_cons, List.length_nil]; omega
theorem wrdL_len (s : List Sig) (hn : ∀ t, t ∈ s → t.name.length ≤ 1000) (l : List Ar) {k : Nat} (hk : k ≤ l.length) : (Lib.join ((l.take k).map (wrdA s)) [32]).length ≤ 1004 * k := by
 have := join_len3 (sep := [32]) (c := 1001) (by simp) (l := l.map (wrdA s)) (fun x hx => by obtain ⟨a, _, rfl⟩ := List.mem_map.1 hx; exact wrdA_len hn a) k (by rw [List.length_map]; exact hk);rw [← List.map_take] at this;exact this
theorem trcT_succ {s : List Sig} {l : List Ar} {k : Nat} (hk : k < l.length) : Lib.join ((l.take (k + 1)).map (wrdA s)) [32] = Lib.join ((l.take k).map (wrdA s)) [32] ++ (if 0 < k then [32] else []) ++ wrdA s l[k] := by
 have := join_succ (l := l.map (wrdA s)) (sep := [32]) (k := k) (by rw [List.length_map]; exact hk);rw [← List.map_take, ← List.map_take, List.getElem_map] at this;exact this
theorem sig_names {c : SG} (h : validC c = true) : (1 ≤ c.sigs.length ∧ c.sigs.length ≤ 8) ∧ ∀ t, t ∈ c.sigs → t.name.length ≤ 1000 := by
 unfold validC at h;simp only [Bool.and_eq_true] at h;have hs := SigOk.of h.1.1.1.1.1;exact ⟨hs.l, fun t ht => by have := hs.n t ht; omega⟩
theorem arc_sig {c : SG} (h : validC c = true) {a : Ar} (ha : a ∈ c.arcs) : a.sig < c.sigs.length ∧ a.sig < 8 ∧ -1 ≤ a.sig := by
 have := (validC_arc h ha).2.1;have h8 := (sig_names h).1;unfold labOk at this;simp only [Bool.or_eq_true, Bool.and_eq_true, decide_eq_true_eq] at this;omega
set_option maxHeartbeats 4000000 in
theorem l6Trace_spec (c : SG) (l : List Ar) (hx : ∀ a, a ∈ l → a.sig < c.sigs.length) (hn : ∀ t, t ∈ c.sigs → t.name.length ≤ 1000) (hl : l.length ≤ 10000) : ASpec Tryz.prog 174 [sgA c, .d (vArs l)] [] (Pure1 (aS (bstr (trcT c.sigs l)))) := by
 have hJs := fun k (hk : k < l.length) => trcT_succ (s := c.sigs) hk
 have hJl := fun k (hk : k ≤ l.length) => wrdL_len c.sigs hn l hk
 have hT : trcT c.sigs l = Lib.join ((l.take l.length).map (wrdA c.sigs)) [32] := by rw [List.take_length]; rfl
 have hWl := wrdA_len hn;rw [hT];obtain ⟨J, hJ⟩ : ∃ J : Nat → List UInt8, J = fun k => Lib.join ((l.take k).map (wrdA c.sigs)) [32] := ⟨_, rfl⟩
 have hJ0 : J 0 = [] := by rw [hJ]; rfl
 have hJe : ∀ k, Lib.join ((l.take k).map (wrdA c.sigs)) [32] = J k := fun k => by rw [hJ]
 simp only [hJe] at hJs hJl ⊢;clear hJe hJ hT;refine ASpec.of Tryz.func174 rfl rfl fun C hC => ?_
 refine AC.seq (AC.region ?_);refine AL.q (by exact h_boxF rfl rfl) rfl ?_;refine za ?_;refine AL.nil (th_n (AC.seq (AC.region ?_)));refine za ?_;refine AL.nil (th_n (AC.seq (AC.seq (AC.region ?_))));refine zm ?_;refine AL.p (by exact g_len_view (k := l.length) rfl rfl (arL_len _)) rfl ?_;refine zm ?_;refine AL.nil (th_n (AC.block ?_));refine AC.loop (ι := Nat) (fun j => ⟨26, 300, [(2, .d (.ref (sgD c))), (5, aS (bstr (J j))), (8, .d (vArs l)), (9, aI l.length), (10, aI j)], []⟩) (fun j => j ≤ l.length) (fun j => l.length - j) (0) ?_ (Nat.zero_le _) ?_
 ·exact Weak.ren _ [] hC rfl (by rw [hJ0]; repeat (first | exact True.intro | refine And.intro ?_ ?_ | exact DLead.same)) (by repeat (exact True.intro)) rfl rfl rfl
 intro j hj;refine AC.seq (AC.region ?_);refine zc ?_;refine AL.nil (th_n (AC.seq ?_));refine AC.condD rfl (fun h0 => ?_) (fun h0 => ?_)
 ·refine AC.skip (th_n (AC.seq (AC.block (AC.seq ?_))));have hj1 : j < l.length := by omega
  have hget := arL_get hj1;have hsu := hJs j hj1;have hlen := hJl j hj;have hW := l6Word_spec c l[j] (hx _ (List.getElem_mem hj1)) hn;have hwl := hWl l[j];obtain ⟨a, ha⟩ : ∃ a, a = l[j] := ⟨_, rfl⟩;rw [← ha] at hget hsu hW hwl;clear ha;have hwd : labT c.sigs ⟨a.sig, a.up⟩ = wrdA c.sigs a := rfl;rw [hwd] at hW;obtain ⟨w, hw⟩ : ∃ w, w = wrdA c.sigs a := ⟨_, rfl⟩;rw [← hw] at hW hsu hwl;clear hw hwd;refine AC.region ?_;refine zm ?_;refine AL.p (by exact g_ia_view rfl rfl rfl rfl rfl (by rfl) (by assumption)) rfl ?_;refine AL.p (by exact g_load_refN rfl rfl rfl rfl) rfl ?_;refine AL.q (by exact h_alloc rfl) rfl ?_;refine za ?_;refine zs ?_;refine AL.nil (th_n (AC.seq (AC.seq (AC.region ?_))));refine zm ?_;refine zc ?_;refine AL.nil (th_n ?_);refine AC.condD rfl (fun h1 => ?_) (fun h1 => ?_)
  ·refine AC.region ?_;refine zm ?_;refine AL.p (by exact g_saddB (a := J j) (b := [32]) rfl rfl (by simp only [List.length_cons, List.length_nil]; omega)) rfl ?_;refine za ?_;refine AL.nil (th_n (AC.region ?_));refine zm ?_;refine AL.p (by exact g_load_refN rfl rfl rfl rfl) rfl ?_;refine AL.p (by exact g_load_ptrN rfl rfl rfl rfl rfl) rfl ?_;refine AL.q (by exact h_pure en_l6Word rfl rfl (by repeat (first | exact rfl | exact DLead.same | refine ⟨_, _, rfl, ?_, ?_⟩ | refine ⟨_, rfl, ?_⟩)) hW rfl) rfl ?_;refine AL.p (by exact g_saddB (a := J j ++ [32]) (b := w) rfl rfl (by simp only [List.length_append, List.length_cons, List.length_nil]; omega)) rfl ?_;refine za ?_;refine AL.nil (ib_n (th_n (AC.region ?_)));refine zA ?_;refine zm ?_;refine AL.nil (th_n ?_)
   (have q : 0 < j := (by omega); rw [if_pos q] at hsu; exact ⟨j + 1, by omega, by omega, Weak.ren _ [] hC rfl (by rw [hsu]; repeat (first | exact True.intro | refine And.intro ?_ ?_ | exact DLead.same)) (by repeat (exact True.intro)) rfl rfl rfl⟩)
  refine AC.skip (th_n (AC.region ?_));refine zm ?_;refine AL.p (by exact g_load_refN rfl rfl rfl rfl) rfl ?_;refine AL.p (by exact g_load_ptrN rfl rfl rfl rfl rfl) rfl ?_;refine AL.q (by exact h_pure en_l6Word rfl rfl (by repeat (first | exact rfl | exact DLead.same | refine ⟨_, _, rfl, ?_, ?_⟩ | refine ⟨_, rfl, ?_⟩)) hW rfl) rfl ?_;refine AL.p (by exact g_saddB (a := J j) (b := w) rfl rfl (by omega)) rfl ?_;refine za ?_;refine AL.nil (ib_n (th_n (AC.region ?_)));refine zA ?_;refine zm ?_;refine AL.nil (th_n ?_)
  (have q : ¬ 0 < j := (by omega); rw [if_neg q, List.append_nil] at hsu; exact ⟨j + 1, by omega, by omega, Weak.ren _ [] hC rfl (by rw [hsu]; repeat (first | exact True.intro | refine And.intro ?_ ?_ | exact DLead.same)) (by repeat (exact True.intro)) rfl rfl rfl⟩)
 refine AC.exit (th_e (th_e (ib_y (th_n (AC.seq ?_)))));have hjj : j = l.length := by omega
 rw [hjj];refine AC.region ?_;refine zm ?_;refine za ?_;refine AL.nil (th_n (AC.ret (bq_r ?_)));exact ret1 rfl rfl
theorem en_l6Trace : Enters Tryz.prog 174 := enters_of Tryz.func174 rfl rfl
theorem chnL_no {L l : List Ar} {j : Nat} (hj : j < l.length) (h : chJ L l j = false) : chnL L l = false := allK_no hj h
theorem chnL_yes {L l : List Ar} (h : ∀ j, j < l.length → chJ L l j = true) : chnL L l = true := allK_yes h
theorem any_take {L : List Ar} {p : Ar → Bool} {i : Nat} (hi : i < L.length) : (L.take (i + 1)).any p = ((L.take i).any p || p L[i]) := by
 rw [List.take_add_one, List.getElem?_eq_getElem hi, List.any_append]; simp
theorem trcR_sig {c : SG} {l : List Ar} (hv : validC c = true) (h : ∀ j, j < l.length → chJ c.arcs l j = true) : ∀ a, a ∈ l → a.sig < c.sigs.length := fun a ha => by
 obtain ⟨j, hj, rfl⟩ := List.getElem_of_mem ha;have := h j hj;unfold chJ at this;rw [Bool.and_eq_true, arAt_nat hj] at this;exact (arc_sig hv (conAr_iff.1 this.2)).1
set_option maxHeartbeats 8000000 in
theorem iFmt_spec (c : SG) (l : List Ar) (hc : SgL c) (hl : l.length ≤ 1000000) : ASpec Tryz.prog 75 [sgA c, .d (vArs l)] [] (Pure1 (.tup [aS (bstr (trcR c l).1), aT (trcR c l).2])) := by
 have hV := iValidSg_spec c hc;have hA := hc.a;have hR : trcR c l = if ((validC c && decide (l.length ≤ 4000)) && chnL c.arcs l) = true then (trcT c.sigs l, true) else ([], false) := rfl
 have hnm := fun (h : validC c = true) => (sig_names h).2
 have hsg := fun (h : validC c = true) a (ha : a ∈ c.arcs) => (arc_sig h ha).1
 have hno := fun j (hj : j < l.length) => chnL_no (L := c.arcs) hj
 have hye := chnL_yes (L := c.arcs) (l := l);obtain ⟨b, hb⟩ : ∃ b, b = validC c := ⟨_, rfl⟩;rw [← hb] at hV hR hnm hsg;obtain ⟨R, hRR⟩ : ∃ R, R = trcR c l := ⟨_, rfl⟩;rw [← hRR] at hR ⊢;obtain ⟨H, hH⟩ : ∃ H, H = chnL c.arcs l := ⟨_, rfl⟩;rw [← hH] at hno hye hR;clear hb hRR hH;refine ASpec.of Tryz.func75 rfl rfl fun C hC => ?_
 refine AC.seq (AC.region ?_);refine AL.q (by exact h_boxF rfl rfl) rfl ?_;refine za ?_;refine za ?_;refine AL.nil (th_n (AC.seq (AC.seq (AC.region ?_))));refine AL.p (by exact g_load_refN rfl rfl rfl rfl) rfl ?_;refine AL.q (by exact h_pure en_iValidSg rfl rfl (by repeat (first | exact rfl | exact DLead.same | refine ⟨_, _, rfl, ?_, ?_⟩ | refine ⟨_, rfl, ?_⟩)) hV rfl) rfl ?_;refine AL.p (by exact g_not rfl) rfl ?_;refine zm ?_;refine AL.caseGB rfl rfl (fun h0 => ?_) (fun h0 => ?_)
 ·refine zn ?_;refine zn ?_;refine zn ?_;refine zQ ?_;refine AL.nil (th_n ?_);refine AC.condT rfl ?_;refine AC.seq (AC.region ?_);refine za ?_;refine za ?_;refine AL.nil (th_n (AC.ret (th_r (bq_r ?_))));have e : R = ([], false) := hR.trans (if_neg (by clear hnm hsg hno hye hR; (have q := ‹(!b) = true›; have q2 : b = false := (by simpa using q); rw [q2, Bool.false_and, Bool.false_and]; decide)));exact ret0 rfl (by rw [e]; show AV.leads _ (.tup [aS (bstr []), aT false]) _; repeat (first | exact DLead.same | exact rfl | refine ⟨_, rfl, ?_⟩ | refine ⟨_, _, rfl, ?_, ?_⟩))
 refine zy ?_;refine zm ?_;refine zy ?_;refine AL.p (by exact g_len_view (k := l.length) rfl rfl (arL_len _)) rfl ?_;refine zy ?_;refine zc ?_;refine zP ?_;refine AL.nil (th_n ?_);refine AC.condD rfl (fun h1 => ?_) (fun h1 => ?_)
 ·refine AC.seq (AC.region ?_);refine za ?_;refine za ?_;refine AL.nil (th_n (AC.ret (th_r (bq_r ?_))));have e : R = ([], false) := hR.trans (if_neg (by clear hnm hsg hno hye hR; (rw [decide_eq_false (by omega : ¬ l.length ≤ 4000), Bool.and_false, Bool.false_and]; decide)));exact ret0 rfl (by rw [e]; show AV.leads _ (.tup [aS (bstr []), aT false]) _; repeat (first | exact DLead.same | exact rfl | refine ⟨_, rfl, ?_⟩ | refine ⟨_, _, rfl, ?_, ?_⟩))
 refine AC.skip (th_n (AC.seq ?_));have hb1 : b = true := by clear hnm hsg hno hye hR; simp_all
 have hl1 : l.length ≤ 4000 := by omega
 have hnm1 := hnm hb1;have hsg1 := hsg hb1;rw [hb1, decide_eq_true hl1, Bool.true_and, Bool.true_and] at hR;have hwl := fun k (hk : k ≤ l.length) => wrdL_len c.sigs hnm1 l hk
 clear hnm hsg hV;refine AC.region ?_;refine AL.q (by exact h_lit rfl rfl rfl rfl rfl rfl rfl rfl) rfl ?_;refine AL.p (by exact as2 rfl) rfl ?_;refine za ?_;refine AL.nil (th_n (AC.seq (AC.seq (AC.region ?_))));refine zm ?_;refine AL.p (by exact g_len_view (k := l.length) rfl rfl (arL_len _)) rfl ?_;refine zm ?_;refine AL.nil (th_n (AC.block ?_));refine AC.loop (ι := Nat) (fun j => ⟨52, 300, [(2, .d (.ref (sgD c))), (6, .own 100 j), (7, aI (atP l j)), (19, .d (vArs l)), (20, aI l.length), (21, aI j)], [(100, some (.arr 9 1 (tsX ((l.take j).map (wrdA c.sigs)))))]⟩) (fun j => j ≤ l.length ∧ ∀ i, i < j → chJ c.arcs l i = true) (fun j => l.length - j) (0) ?_ (⟨Nat.zero_le _, fun i hi => absurd hi (Nat.not_lt_zero _)⟩) ?_
 ·exact zw [(100, _)] hC
 rintro j ⟨hj, hall⟩;refine AC.seq (AC.region ?_);refine zc ?_;refine AL.nil (th_n (AC.seq ?_));refine AC.condD rfl (fun h2 => ?_) (fun h2 => ?_)
 ·refine AC.skip (th_n (AC.seq (AC.block (AC.seq ?_))));have hj1 : j < l.length := by omega
  have hget := arL_get hj1;have haj := arAt_nat hj1;have hcj : chJ c.arcs l j = (decide ((arAt l j).from_ = atP l j) && c.arcs.any (eqArB (arAt l j))) := rfl;have hto : atP l (j + 1) = (arAt l j).to_ := rfl;have hst := map_take_snoc (f := wrdA c.sigs) hj1;have htl : ((l.take j).map (wrdA c.sigs)).length = j := by rw [List.length_map, List.length_take]; omega
  have hnoj := hno j hj1;have hnx : chJ c.arcs l j = true → ∀ i, i < j + 1 → chJ c.arcs l i = true := fun q i hi => by rcases Nat.lt_succ_iff_lt_or_eq.1 hi with h | rfl; exact hall i h; exact q
  rw [haj] at hcj hto;obtain ⟨a, ha⟩ : ∃ a, a = l[j] := ⟨_, rfl⟩;rw [← ha] at hget hcj hto hst;have hK := conAr_spec c.arcs a hA;have hEd := fun (h : c.arcs.any (eqArB a) = true) => edgeTextG_spec c.sigs ⟨a.sig, a.up⟩ (hsg1 a (conAr_iff.1 h)) hnm1
  have hwd : labT c.sigs ⟨a.sig, a.up⟩ = wrdA c.sigs a := rfl;rw [hwd] at hEd;obtain ⟨m, hm⟩ : ∃ m, m = c.arcs.any (eqArB a) := ⟨_, rfl⟩;rw [← hm] at hcj hK hEd;obtain ⟨P, hP⟩ : ∃ P, P = atP l j := ⟨_, rfl⟩;rw [← hP] at hcj ⊢;obtain ⟨Q, hQ⟩ : ∃ Q, Q = chJ c.arcs l j := ⟨_, rfl⟩;rw [← hQ] at hcj hnoj hnx;obtain ⟨w, hw⟩ : ∃ w, w = wrdA c.sigs a := ⟨_, rfl⟩;rw [← hw] at hst hEd;obtain ⟨z, hz⟩ : ∃ z, z = (l.take j).map (wrdA c.sigs) := ⟨_, rfl⟩;rw [← hz] at hst htl ⊢;clear hm hP hQ hw hz hwd ha;refine AC.region ?_;refine AL.p (by exact g_ia_view rfl rfl rfl rfl rfl (by rfl) (by assumption)) rfl ?_;refine AL.p (by exact g_load_refN rfl rfl rfl rfl) rfl ?_;refine AL.q (by exact h_alloc rfl) rfl ?_;refine zs ?_;refine AL.nil (th_n (AC.seq (AC.seq (AC.region ?_))));refine zF ?_;refine zl ?_;refine zm ?_;refine zc ?_;refine zm ?_;refine AL.caseGN rfl rfl (fun h3 => ?_) (fun h3 => ?_)
  ·refine zn ?_;refine zn ?_;refine zn ?_;refine zn ?_;refine zn ?_;refine zQ ?_;refine AL.nil (th_n ?_);refine AC.condT rfl ?_;refine AC.seq (AC.region ?_);refine za ?_;refine za ?_;refine AL.nil (th_n (AC.ret (th_r (ib_r (th_r (th_r (ib_r (th_r (bq_r ?_)))))))));have e : R = ([], false) := hR.trans (if_neg (by rw [hnoj (by rw [hcj]; (rw [decide_eq_false (by omega), Bool.false_and]))]; decide));exact ret0 rfl (by rw [e]; show AV.leads _ (.tup [aS (bstr []), aT false]) _; repeat (first | exact DLead.same | exact rfl | refine ⟨_, rfl, ?_⟩ | refine ⟨_, _, rfl, ?_, ?_⟩))
  refine zy ?_;refine zf ?_;refine zy ?_;refine zr ?_;refine zy ?_;refine AL.p (by exact g_load_ptrN rfl rfl rfl rfl rfl) rfl ?_;refine zy ?_;refine AL.q (by exact h_pure en_conAr rfl rfl (by repeat (first | exact rfl | exact DLead.same | refine ⟨_, _, rfl, ?_, ?_⟩ | refine ⟨_, rfl, ?_⟩)) hK rfl) rfl ?_;refine zy ?_;refine AL.p (by exact g_not rfl) rfl ?_;refine zP ?_;refine AL.nil (th_n ?_);refine AC.condB rfl (fun h4 => ?_) (fun h4 => ?_)
  ·refine AC.seq (AC.region ?_);refine za ?_;refine za ?_;refine AL.nil (th_n (AC.ret (th_r (ib_r (th_r (th_r (ib_r (th_r (bq_r ?_)))))))));have e : R = ([], false) := hR.trans (if_neg (by rw [hnoj (by rw [hcj]; (have q := ‹(!m) = true›; have q2 : m = false := (by simpa using q); rw [q2, Bool.and_false]))]; decide));exact ret0 rfl (by rw [e]; show AV.leads _ (.tup [aS (bstr []), aT false]) _; repeat (first | exact DLead.same | exact rfl | refine ⟨_, rfl, ?_⟩ | refine ⟨_, _, rfl, ?_, ?_⟩))
  refine AC.skip (th_n ?_);have hm1 : m = true := by have q := ‹(!m) = false›; simpa using q
  have hEd1 := hEd hm1;refine AC.drawn' mixed_ok [[], [], [1], [], [3], [], [5], [3,4,5,6], [1,2,3,4,5,6,7], [1,2,3,4,5,6,7,8], [0,1,2,3,4,5,6,7,8,9], [], [11], [0,1,2,3,4,5,6,7,8,9,10], [0,1,2,3,4,5,6,7,8,9,10,11,12,13]] (by decide) ?_;refine zd 0 [] 15 (by exact mv2 rfl) ?_;refine zd 1 [] 15 (by exact g_fa_ref rfl rfl rfl rfl rfl rfl) ?_;refine zd 2 [1] 15 (by exact g_load_ref rfl rfl rfl) ?_;refine zd 3 [] 15 (by exact g_fa_ptr rfl rfl rfl rfl rfl) ?_;refine zd 4 [3] 15 (by exact g_load_ptr rfl rfl rfl rfl rfl) ?_;refine zd 5 [] 15 (by exact g_fa_ptr rfl rfl rfl rfl rfl) ?_;refine zd 6 [5] 15 (by exact g_load_ptr rfl rfl rfl rfl rfl) ?_;refine zd 7 [3,4,5,6] 15 (by exact g_build rfl rfl rfl) ?_;refine zh 8 [1,2,3,4,5,6,7] 15 (by exact h_pure en_edgeText rfl rfl (by repeat (first | exact rfl | exact DLead.same | refine ⟨_, _, rfl, ?_, ?_⟩ | refine ⟨_, rfl, ?_⟩)) hEd1 rfl) ?_;refine zh 9 [1,2,3,4,5,6,7,8] 15 (by exact h_litF rfl rfl rfl rfl rfl rfl rfl rfl) ?_;refine zh 10 (List.range 10) 15 (by exact h_appendX z [w] (.own rfl rfl (by rw [tsX_len, htl])) (.view rfl) (by rw [List.length_append, htl]; simp only [List.length_cons, List.length_nil]; omega) (by simp)) ?_;refine zd 11 [] 15 (by exact g_fa_ptr rfl rfl rfl rfl rfl) ?_;refine zd 12 [11] 15 (by exact g_load_ptr rfl rfl rfl rfl rfl) ?_;refine zd 13 (List.range 11) 15 (by exact as2 rfl) ?_;refine zd 14 (List.range 14) 15 (by exact as1 rfl) ?_;refine zj 15 ?_;refine ib_n (th_n (AC.region ?_));refine zA ?_;refine zm ?_;refine AL.nil (th_n ?_);have hQ1 : Q = true := by rw [hcj, hm1, Bool.and_true]; exact decide_eq_true (by omega)
  exact ⟨j + 1, ⟨by omega, hnx hQ1⟩, by omega, zw [(100, _)] hC (by rw [hto, List.length_append, htl]; repeat (first | exact True.intro | refine And.intro ?_ ?_ | exact DLead.same | exact rfl | refine ⟨_, rfl, ?_⟩)) (by rw [hst]; repeat (first | exact True.intro | refine And.intro ?_ ?_ | exact rfl | refine ⟨_, _, rfl, rfl, ?_⟩))⟩
 refine AC.exit (th_e (th_e (ib_y (th_n (AC.seq ?_)))));have hjj : j = l.length := by omega
 have hH1 := hye (fun i hi => hall i (by omega));have hwll := hwl l.length (Nat.le_refl _);rw [List.take_length] at hwll;rw [hjj, List.take_length];have hJ := sJoinV_spec (l.map (wrdA c.sigs)) [32] (by rw [List.length_map]; omega) (by omega);have e : R = (trcT c.sigs l, true) := hR.trans (if_pos hH1);have hTe : trcT c.sigs l = Lib.join (l.map (wrdA c.sigs)) [32] := rfl;rw [hTe] at e;obtain ⟨T, hT⟩ : ∃ T, T = Lib.join (l.map (wrdA c.sigs)) [32] := ⟨_, rfl⟩;rw [← hT] at hJ e;obtain ⟨z, hz⟩ : ∃ z, z = l.map (wrdA c.sigs) := ⟨_, rfl⟩;have hzl : z.length = l.length := by rw [hz, List.length_map]
 rw [← hz] at hJ ⊢;rw [← hzl];clear hT hTe hz hwll hwl;refine AC.weak (Weak.freeze (i := 6) rfl rfl (Nat.le_of_eq (tsX_len _).symm) (List.take_of_length_le (Nat.le_of_eq (tsX_len _)))) ?_;refine AC.region ?_;refine zm ?_;refine AL.q (by exact h_pure en_sJoin rfl rfl (by repeat (first | exact rfl | exact DLead.same | refine ⟨_, _, rfl, ?_, ?_⟩)) hJ rfl) rfl ?_;refine za ?_;refine za ?_;refine AL.nil (th_n (AC.ret (bq_r ?_)));exact ret0 rfl (by rw [e]; show AV.leads _ (.tup [aS (bstr T), aT true]) _; repeat (first | exact DLead.same | exact rfl | refine ⟨_, rfl, ?_⟩ | refine ⟨_, _, rfl, ?_, ?_⟩))
theorem en_iFmt : Enters Tryz.prog 75 := enters_of Tryz.func75 rfl rfl
set_option maxHeartbeats 8000000 in
theorem sFmt_spec (c : SG) (l : List Ar) (hc : SgL c) (hl : l.length ≤ 1000000) : ASpec Tryz.prog 91 [sgA c, .d (vArs l)] [] (Pure1 (.tup [aS (bstr (trcR c l).1), aT (trcR c l).2])) := by
 have hV := l5Good_spec c hc;have hA := hc.a;have hR : trcR c l = if ((validC c && decide (l.length ≤ 4000)) && chnL c.arcs l) = true then (trcT c.sigs l, true) else ([], false) := rfl
 have hTr := fun (h : validC c = true) (h2 : ∀ j, j < l.length → chJ c.arcs l j = true) (h3 : l.length ≤ 10000) => l6Trace_spec c l (trcR_sig h h2) (sig_names h).2 h3
 have hno := fun j (hj : j < l.length) => chnL_no (L := c.arcs) hj
 have hye := chnL_yes (L := c.arcs) (l := l);obtain ⟨b, hb⟩ : ∃ b, b = validC c := ⟨_, rfl⟩;rw [← hb] at hV hR hTr;obtain ⟨R, hRR⟩ : ∃ R, R = trcR c l := ⟨_, rfl⟩;rw [← hRR] at hR ⊢;obtain ⟨H, hH⟩ : ∃ H, H = chnL c.arcs l := ⟨_, rfl⟩;rw [← hH] at hno hye hR;clear hb hRR hH;refine ASpec.of Tryz.func91 rfl rfl fun C hC => ?_
 refine AC.seq (AC.region ?_);refine AL.q (by exact h_boxF rfl rfl) rfl ?_;refine za ?_;refine za ?_;refine AL.nil (th_n (AC.seq (AC.seq (AC.region ?_))));refine AL.p (by exact g_load_refN rfl rfl rfl rfl) rfl ?_;refine AL.q (by exact h_pure en_l5Good rfl rfl (by repeat (first | exact rfl | exact DLead.same | refine ⟨_, _, rfl, ?_, ?_⟩ | refine ⟨_, rfl, ?_⟩)) hV rfl) rfl ?_;refine AL.p (by exact g_not rfl) rfl ?_;refine zm ?_;refine AL.caseGB rfl rfl (fun h0 => ?_) (fun h0 => ?_)
 ·refine zn ?_;refine zn ?_;refine zn ?_;refine zQ ?_;refine AL.nil (th_n ?_);refine AC.condT rfl ?_;refine AC.seq (AC.region ?_);refine za ?_;refine za ?_;refine AL.nil (th_n (AC.ret (th_r (bq_r ?_))));have e : R = ([], false) := hR.trans (if_neg (by clear hTr hno hye hR; (have q := ‹(!b) = true›; have q2 : b = false := (by simpa using q); rw [q2, Bool.false_and, Bool.false_and]; decide)));exact ret0 rfl (by rw [e]; show AV.leads _ (.tup [aS (bstr []), aT false]) _; repeat (first | exact DLead.same | exact rfl | refine ⟨_, rfl, ?_⟩ | refine ⟨_, _, rfl, ?_, ?_⟩))
 refine zy ?_;refine zm ?_;refine zy ?_;refine AL.p (by exact g_len_view (k := l.length) rfl rfl (arL_len _)) rfl ?_;refine zy ?_;refine zc ?_;refine zP ?_;refine AL.nil (th_n ?_);refine AC.condD rfl (fun h1 => ?_) (fun h1 => ?_)
 ·refine AC.seq (AC.region ?_);refine za ?_;refine za ?_;refine AL.nil (th_n (AC.ret (th_r (bq_r ?_))));have e : R = ([], false) := hR.trans (if_neg (by clear hTr hno hye hR; (rw [decide_eq_false (by omega : ¬ l.length ≤ 4000), Bool.and_false, Bool.false_and]; decide)));exact ret0 rfl (by rw [e]; show AV.leads _ (.tup [aS (bstr []), aT false]) _; repeat (first | exact DLead.same | exact rfl | refine ⟨_, rfl, ?_⟩ | refine ⟨_, _, rfl, ?_, ?_⟩))
 refine AC.skip (th_n (AC.seq ?_));have hb1 : b = true := by clear hTr hno hye hR; simp_all
 have hl1 : l.length ≤ 4000 := by omega
 have hTr1 := hTr hb1;rw [hb1, decide_eq_true hl1, Bool.true_and, Bool.true_and] at hR;clear hTr hV;refine AC.region ?_;refine za ?_;refine AL.nil (th_n (AC.seq (AC.seq (AC.region ?_))));refine zm ?_;refine AL.p (by exact g_len_view (k := l.length) rfl rfl (arL_len _)) rfl ?_;refine zm ?_;refine AL.nil (th_n (AC.block ?_));refine AC.loop (ι := Nat) (fun j => ⟨54, 300, [(1, .d (vArs l)), (2, .d (.ref (sgD c))), (6, aI (atP l j)), (20, .d (vArs l)), (21, aI l.length), (22, aI j)], []⟩) (fun j => j ≤ l.length ∧ ∀ i, i < j → chJ c.arcs l i = true) (fun j => l.length - j) (0) ?_ (⟨Nat.zero_le _, fun i hi => absurd hi (Nat.not_lt_zero _)⟩) ?_
 ·exact Weak.ren _ [] hC rfl (by repeat (first | exact True.intro | refine And.intro ?_ ?_ | exact DLead.same)) (by repeat (exact True.intro)) rfl rfl rfl
 rintro j ⟨hj, hall⟩;refine AC.seq (AC.region ?_);refine zc ?_;refine AL.nil (th_n (AC.seq ?_));refine AC.condD rfl (fun h2 => ?_) (fun h2 => ?_)
 ·refine AC.skip (th_n (AC.seq (AC.block (AC.seq ?_))));have hj1 : j < l.length := by omega
  have hget := arL_get hj1;have haj := arAt_nat hj1;have hcj : chJ c.arcs l j = (decide ((arAt l j).from_ = atP l j) && c.arcs.any (eqArB (arAt l j))) := rfl;have hto : atP l (j + 1) = (arAt l j).to_ := rfl;have hnoj := hno j hj1;have hnx : chJ c.arcs l j = true → ∀ i, i < j + 1 → chJ c.arcs l i = true := fun q i hi => by rcases Nat.lt_succ_iff_lt_or_eq.1 hi with h | rfl; exact hall i h; exact q
  rw [haj] at hcj hto;obtain ⟨a, ha⟩ : ∃ a, a = l[j] := ⟨_, rfl⟩;rw [← ha] at hget hcj hto;have hsu := fun i (hi : i < c.arcs.length) => any_take (p := eqArB a) hi
  obtain ⟨M, hM⟩ : ∃ M : Nat → Bool, M = fun i => (c.arcs.take i).any (eqArB a) := ⟨_, rfl⟩
  have hMe : ∀ i, (c.arcs.take i).any (eqArB a) = M i := fun i => by rw [hM]
  have hM0 : M 0 = false := by rw [hM]; rfl
  have hMl : c.arcs.any (eqArB a) = M c.arcs.length := by rw [hM]; show _ = (c.arcs.take c.arcs.length).any _; rw [List.take_length]
  simp only [hMe] at hsu;rw [hMl] at hcj;obtain ⟨P, hP⟩ : ∃ P, P = atP l j := ⟨_, rfl⟩;rw [← hP] at hcj ⊢;obtain ⟨Q, hQ⟩ : ∃ Q, Q = chJ c.arcs l j := ⟨_, rfl⟩;rw [← hQ] at hcj hnoj hnx;clear hM hMe hMl hP hQ ha;refine AC.region ?_;refine AL.p (by exact g_ia_view rfl rfl rfl rfl rfl (by rfl) (by assumption)) rfl ?_;refine AL.p (by exact g_load_refN rfl rfl rfl rfl) rfl ?_;refine AL.q (by exact h_alloc rfl) rfl ?_;refine zs ?_;refine AL.nil (th_n (AC.seq (AC.region ?_)));refine za ?_;refine AL.nil (th_n (AC.seq (AC.seq (AC.region ?_))));refine zf ?_;refine zr ?_;refine AL.p (by exact g_len_view (k := c.arcs.length) rfl rfl (arL_len _)) rfl ?_;refine zm ?_;refine AL.nil (th_n (AC.block ?_));refine AC.loop (ι := Nat) (fun i => ⟨54, 600, [(1, .d (vArs l)), (2, .d (.ref (sgD c))), (6, aI P), (8, .ptr 200 0), (9, aT (M i)), (20, .d (vArs l)), (21, aI l.length), (22, aI j), (27, .d (vArs c.arcs)), (28, aI c.arcs.length), (29, aI i)], [(200, some (.cells 75 [aI a.from_, aI a.sig, aT a.up, aI a.to_]))]⟩) (fun i => i ≤ c.arcs.length) (fun i => c.arcs.length - i) (0) ?_ (Nat.zero_le _) ?_
  ·exact Weak.ren _ [(200, _)] hC rfl (by rw [hM0]; repeat (first | exact True.intro | refine And.intro ?_ ?_ | exact DLead.same | exact rfl | refine ⟨_, rfl, ?_⟩)) (by repeat (first | exact True.intro | refine And.intro ?_ ?_ | exact DLead.same | exact rfl | refine ⟨_, _, rfl, rfl, ?_⟩ | refine ⟨_, rfl, ?_⟩ | refine ⟨_, _, rfl, ?_, ?_⟩)) rfl rfl rfl
  intro i hi;refine AC.seq (AC.region ?_);refine zc ?_;refine AL.nil (th_n (AC.seq ?_));refine AC.condD rfl (fun h3 => ?_) (fun h3 => ?_)
  ·refine AC.skip (th_n (AC.seq (AC.block (AC.seq ?_))));have hi1 : i < c.arcs.length := by omega
   have hget2 := arL_get hi1;have hsi := hsu i hi1;obtain ⟨y, hy⟩ : ∃ y, y = c.arcs[i] := ⟨_, rfl⟩;rw [← hy] at hget2 hsi;obtain ⟨m, hm⟩ : ∃ m, m = M i := ⟨_, rfl⟩;rw [← hm] at hsi ⊢;clear hm hy;refine AC.region ?_;refine AL.p (by exact g_ia_view rfl rfl rfl rfl rfl (by rfl) (by assumption)) rfl ?_;refine AL.p (by exact g_load_refN rfl rfl rfl rfl) rfl ?_;refine AL.q (by exact h_alloc rfl) rfl ?_;refine zs ?_;refine AL.nil (th_n (AC.region ?_));refine zm ?_;refine zm ?_;refine AL.caseGB rfl rfl (fun h4 => ?_) (fun h4 => ?_)
   ·refine zn ?_;refine zn ?_;refine zn ?_;refine zQ ?_;refine za ?_;refine AL.nil (ib_n (th_n (AC.region ?_)));refine zA ?_;refine zm ?_;refine AL.nil (th_n ?_)
    (have q := ‹m = true›; rw [q, Bool.true_or] at hsi; exact ⟨i + 1, by omega, by omega, Weak.ren _ [(200, 200)] hC rfl (by rw [hsi]; repeat (first | exact True.intro | refine And.intro ?_ ?_ | exact DLead.same | exact rfl | refine ⟨_, rfl, ?_⟩)) (by repeat (first | exact True.intro | refine And.intro ?_ ?_ | exact DLead.same | exact rfl | refine ⟨_, _, rfl, rfl, ?_⟩ | refine ⟨_, rfl, ?_⟩ | refine ⟨_, _, rfl, ?_, ?_⟩)) rfl rfl rfl⟩)
   refine zy ?_;refine AL.p (by exact g_load_ptrN rfl rfl rfl rfl rfl) rfl ?_;refine zy ?_;refine AL.p (by exact g_load_ptrN rfl rfl rfl rfl rfl) rfl ?_;refine zy ?_;refine AL.p (by exact g_eq4 (r := decide (a.from_ = y.from_ ∧ a.sig = y.sig ∧ a.up = y.up ∧ a.to_ = y.to_)) (by decide +kernel) rfl rfl rfl) rfl ?_;refine zP ?_;refine za ?_;refine AL.nil (ib_n (th_n (AC.region ?_)));refine zA ?_;refine zm ?_;refine AL.nil (th_n ?_)
   (have q := ‹m = false›; rw [q, Bool.false_or] at hsi; exact ⟨i + 1, by omega, by omega, Weak.ren _ [(200, 200)] hC rfl (by rw [hsi]; repeat (first | exact True.intro | refine And.intro ?_ ?_ | exact DLead.same | exact rfl | refine ⟨_, rfl, ?_⟩)) (by repeat (first | exact True.intro | refine And.intro ?_ ?_ | exact DLead.same | exact rfl | refine ⟨_, _, rfl, rfl, ?_⟩ | refine ⟨_, rfl, ?_⟩ | refine ⟨_, _, rfl, ?_, ?_⟩)) rfl rfl rfl⟩)
  refine AC.exit (th_e (th_e (ib_y (th_n (AC.seq (AC.seq ?_))))));have hii : i = c.arcs.length := by omega
  rw [hii];obtain ⟨m, hm⟩ : ∃ m, m = M c.arcs.length := ⟨_, rfl⟩;rw [← hm] at hcj ⊢;clear hm;refine AC.region ?_;refine zm ?_;refine AL.p (by exact g_not rfl) rfl ?_;refine zm ?_;refine AL.caseGB rfl rfl (fun h4 => ?_) (fun h4 => ?_)
  ·refine zn ?_;refine zn ?_;refine zn ?_;refine zn ?_;refine zQ ?_;refine AL.nil (th_n ?_);refine AC.condT rfl ?_;refine AC.seq (AC.region ?_);refine za ?_;refine za ?_;refine AL.nil (th_n (AC.ret (th_r (ib_r (th_r (th_r (ib_r (th_r (bq_r ?_)))))))));have e : R = ([], false) := hR.trans (if_neg (by rw [hnoj (by rw [hcj]; (have q := ‹(!m) = true›; have q2 : m = false := (by simpa using q); rw [q2, Bool.and_false]))]; decide));exact ret0 rfl (by rw [e]; show AV.leads _ (.tup [aS (bstr []), aT false]) _; repeat (first | exact DLead.same | exact rfl | refine ⟨_, rfl, ?_⟩ | refine ⟨_, _, rfl, ?_, ?_⟩))
  refine zy ?_;refine zF ?_;refine zy ?_;refine zl ?_;refine zy ?_;refine zm ?_;refine zy ?_;refine zc ?_;refine zP ?_;refine AL.nil (th_n ?_);refine AC.condND rfl (fun h5 => ?_) (fun h5 => ?_)
  ·refine AC.seq (AC.region ?_);refine za ?_;refine za ?_;refine AL.nil (th_n (AC.ret (th_r (ib_r (th_r (th_r (ib_r (th_r (bq_r ?_)))))))));have e : R = ([], false) := hR.trans (if_neg (by rw [hnoj (by rw [hcj]; (rw [decide_eq_false (by omega), Bool.false_and]))]; decide));exact ret0 rfl (by rw [e]; show AV.leads _ (.tup [aS (bstr []), aT false]) _; repeat (first | exact DLead.same | exact rfl | refine ⟨_, rfl, ?_⟩ | refine ⟨_, _, rfl, ?_, ?_⟩))
  refine AC.skip (th_n (AC.region ?_));refine zF ?_;refine zl ?_;refine za ?_;refine AL.nil (ib_n (th_n (AC.region ?_)));refine zA ?_;refine zm ?_;refine AL.nil (th_n ?_);have hQ1 : Q = true := by rw [hcj]; have q := ‹(!m) = false›; have q2 : m = true := (by simpa using q); rw [q2, Bool.and_true]; exact decide_eq_true (by omega)
  exact ⟨j + 1, ⟨by omega, hnx hQ1⟩, by omega, Weak.ren _ [] hC rfl (by rw [hto]; repeat (first | exact True.intro | refine And.intro ?_ ?_ | exact DLead.same)) (by repeat (exact True.intro)) rfl rfl rfl⟩
 refine AC.exit (th_e (th_e (ib_y (th_n (AC.seq ?_)))));have hTr2 := hTr1 (fun i hi => hall i (by omega)) (by omega);have hH1 := hye (fun i hi => hall i (by omega));have e : R = (trcT c.sigs l, true) := hR.trans (if_pos hH1);obtain ⟨T, hT⟩ : ∃ T, T = trcT c.sigs l := ⟨_, rfl⟩;rw [← hT] at hTr2 e;refine AC.region ?_;refine AL.p (by exact g_load_refN rfl rfl rfl rfl) rfl ?_;refine zm ?_;refine AL.q (by exact h_pure en_l6Trace rfl rfl (by repeat (first | exact rfl | exact DLead.same | refine ⟨_, _, rfl, ?_, ?_⟩ | refine ⟨_, rfl, ?_⟩)) hTr2 rfl) rfl ?_;refine za ?_;refine za ?_;refine AL.nil (th_n (AC.ret (bq_r ?_)));exact ret0 rfl (by rw [e]; show AV.leads _ (.tup [aS (bstr T), aT true]) _; repeat (first | exact DLead.same | exact rfl | refine ⟨_, rfl, ?_⟩ | refine ⟨_, _, rfl, ?_, ?_⟩))
theorem en_sFmt : Enters Tryz.prog 91 := enters_of Tryz.func91 rfl rfl
end Go.Proofs.YthafkkgmekgmoaaGreat
