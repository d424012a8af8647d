/- Contracts of the functions of the program and of the reference, each proved by a walk through its code. -/
import Derived.WalkKit
import Derived.WalkSpells
import Derived.WalkLawsBesides
import Derived.Deep.Draws
import Derived.Lib.Hide
import Derived.Maps.AppendAt
import Derived.OwnWalk
import Derived.Deep.MidRow
import Derived.Laws.ResultCell
import Derived.Deep.Upon
import Derived.Great.FillDense
import Derived.Laws.Tables
import Derived.Laws.BytesArg
import Derived.Laws.MakeOwn
import Derived.Great.BuildSlice
import Derived.ArgAppend
import Derived.Deep.AppendSrc
import Derived.Test.YthafkkgmekgmoaaGreatProg
import Derived.KernelRfl
import Derived.Orders
import Derived.Laws.IdiomStrings
import Derived.Lib.AppendZerosOnto
import Derived.ProofKit
import Derived.OpenShut
import Derived.Lib.SliceRun
import Derived.Laws.StructEq
import Derived.ChangeKeysEq
import Derived.Sort.Grow
import Derived.Laws.RangeString
import Derived.Below
import Derived.Laws.Small
import Derived.MapKept
import Derived.WideMake
import Derived.Laws.IdiomCopy
import Derived.Shelf.Strings.Builder1
import Derived.Shelf.Strings.Builder2
import Derived.Shelf.Strings.OnBuilder
import Derived.Shelf.Bits.Mul64
import Derived.Test.YthafkkgmekgmoaaGreatRows
import Derived.Test.YthafkkgmekgmoaaGreatGBk6
set_option linter.all false
set_option maxRecDepth 20000
namespace Go.Proofs.YthafkkgmekgmoaaGreat
open Go.RowKit
abbrev stepA (e : Nat × Nat) : AV := .agg [aI (e.1 : Int), aI (e.2 : Int)]
set_option maxHeartbeats 1000000 in
theorem ixStep_spec (l : List (Nat × Nat)) (hl : l.length ≤ 1000000) (g : FuncId) (ds : List DV) (hen : Enters Tryz.prog g) (p : (Nat × Nat) → Bool) (hp : ∀ t, t ∈ l → ASpec Tryz.prog g (stepA t :: ds.map .d) [] (Pure1 (aT (p t)))) : ASpec Tryz.prog 189 [.d (vSteps l), .clo g (ds.map .d)] [] (Pure1 (aI (findI p l))) := by
 refine ASpec.of Tryz.func189 rfl rfl fun C hC => ?_
 refine AC.seq (AC.region ?_);refine za ?_;refine AL.nil (th_n (AC.seq (AC.seq (AC.region ?_))));refine zm ?_;refine AL.p (by exact g_len_view rfl rfl (by exact List.length_map _)) rfl ?_;refine zm ?_;refine AL.nil (th_n (AC.block ?_));refine AC.loop (ι := Nat) (fun k => ⟨19, 0, [(0, .d (vSteps l)), (1, .clo g (ds.map .d)), (6, .d (vSteps l)), (7, aI l.length), (8, aI k)], []⟩) (fun k => k ≤ l.length ∧ ∀ j (hj : j < l.length), j < k → p l[j] = false) (fun k => l.length - k) (0) ?_ (⟨Nat.zero_le _, fun j _ hj => by omega⟩) ?_
 ·refine Weak.ren _ [] hC rfl ⟨.same, ⟨_, rfl, leadsL_data _ ds⟩, ?_⟩ trivial rfl rfl rfl; repeat (first | exact True.intro | refine And.intro ?_ ?_ | exact DLead.same)
 intro k ⟨hk, hall⟩;refine AC.seq (AC.region ?_);refine zc ?_;refine AL.nil (th_n (AC.seq ?_));refine AC.condD rfl (fun h0 => ?_) (fun h0 => ?_)
 ·refine AC.skip (th_n (AC.seq (AC.block (AC.seq ?_))));have hk1 : k < l.length := by omega
  have hget := stepL_get hk1;refine AC.region ?_;refine zm ?_;refine za ?_;refine AL.nil (th_n (AC.seq (AC.region ?_)));refine AL.p (by exact mv6 rfl) rfl ?_;refine zm ?_;refine zm ?_;refine AL.p (by exact g_ia_view rfl rfl rfl rfl rfl (by rfl) (by assumption)) rfl ?_;refine AL.p (by exact g_load_refN rfl rfl rfl rfl) rfl ?_;refine AL.q (by exact h_pure hen rfl rfl (by exact ⟨_, _, rfl, ⟨_, rfl, _, _, rfl, .same, _, _, rfl, .same, rfl⟩, leadsL_data _ ds⟩) (hp l[k] (List.getElem_mem hk1)) rfl) rfl ?_;refine AL.nil (th_n ?_);refine AC.condB rfl (fun h1 => ?_) (fun h1 => ?_)
  ·refine AC.seq (AC.region ?_);refine zm ?_;refine za ?_;refine AL.nil (th_n (AC.ret (ib_r (th_r (th_r (ib_r (th_r (bq_r ?_))))))));exact ret1 rfl (by rw [findI_at hk1 h1 (fun j hj => hall j (by omega) hj)])
  refine AC.skip (ib_n (th_n (AC.region ?_)));refine zA ?_;refine zm ?_;refine AL.nil (th_n ?_);exact ⟨k + 1, ⟨by omega, fun j hj hj2 => by rcases Nat.lt_succ_iff_lt_or_eq.1 hj2 with h | rfl; exact hall j hj h; exact h1⟩, by omega, Weak.ren _ [] hC rfl ⟨.same, ⟨_, rfl, leadsL_data _ ds⟩, by repeat (first | exact True.intro | refine And.intro ?_ ?_ | exact DLead.same)⟩ trivial rfl rfl rfl⟩
 refine AC.exit (th_e (th_e (ib_y (th_n (AC.seq (AC.region ?_))))));refine za ?_;refine AL.nil (th_n (AC.ret (bq_r ?_)));exact ret1 rfl (by rw [findI_none (fun j hj => hall j hj (by omega))])
theorem en_ixStep : Enters Tryz.prog 189 := enters_of Tryz.func189 rfl rfl
def nearB (o : List Int) (k : Nat) (e : Nat × Nat) : Bool := decide (e.2 = k ∧ oa o e.1 = oa o k - 1)
set_option maxHeartbeats 2000000 in
theorem shortestI1_spec (e : Nat × Nat) (k : Nat) (o : List Int) (n : Nat) (hol : o.length = n) (h1 : e.1 < n) (hk : k < n) (hb : ∀ v, -1 ≤ oa o v ∧ oa o v ≤ 1000000) : ASpec Tryz.prog 190 [stepA e, .d (.ref [dI (k : Int)]), .d (.ref [vI o])] [] (Pure1 (aT (nearB o k e))) := by
 have ho1 := ints_oa (o := o) (v := e.1) (by omega);have ho2 := ints_oa (o := o) (v := k) (by omega);have hb2 := hb k;have hN : nearB o k e = decide (e.2 = k ∧ oa o e.1 = oa o k - 1) := rfl;refine ASpec.of Tryz.func190 rfl rfl fun C hC => ?_
 refine AC.seq (AC.region ?_);refine AL.q (by exact h_boxF rfl rfl) rfl ?_;refine za ?_;refine AL.nil (th_n (AC.seq ?_));refine AC.drawn' mixed_ok [[], [0], [], [0,1,2], [0,1,2,3], [0,1,2,3,4], [0,1,2,3,4], [0,1,2,3,4,6], [0,1,2,3,4,5,6,7], [0,1,2,3,4,5,6,7,8], [0,1,2,3,4], [0,1,2,3,4], [0,1,2,3,4,10,11], [0,1,2,3,4,10,11,12], [0,1,2,3,4,10,11,12,13], [0,1,2,3,4,5,6,7,8,9,10,11,12,13,14], [0,1,2,3,4,5,6,7,8,9,10,11,12,13,14,15], [0,1,2,3,4,5,6,7,8,9,10,11,12,13,14,15,16]] (by decide) ?_;refine zd 0 [] 18 (by exact g_fa_ref rfl rfl rfl rfl rfl rfl) ?_;refine zd 1 [0] 18 (by exact g_load_ref rfl rfl rfl) ?_;refine zd 2 [] 18 (by exact g_load_ref rfl rfl rfl) ?_;refine zd 3 [0,1,2] 18 (by exact g_cmp rfl rfl rfl) ?_;refine zd 4 [0,1,2,3] 18 (by exact mv1 rfl) ?_;refine DF.caseD 4 rfl (fun h0 => ?_) (fun h0 => ?_)
 ·refine ze 5 [0,1,2,3,4] 18 (by exact g_load_ref rfl rfl rfl) ?_;refine ze 6 [0,1,2,3,4] 18 (by exact g_fa_ref rfl rfl rfl rfl rfl rfl) ?_;refine ze 7 [0,1,2,3,4,6] 18 (by exact g_load_ref rfl rfl rfl) ?_;refine ze 8 [0,1,2,3,4,5,6,7] 18 (by exact g_ia_view (i := e.1) rfl rfl rfl rfl rfl rfl ho1) ?_;refine ze 9 (List.range 9) 18 (by exact g_load_ref rfl rfl rfl) ?_;refine ze 10 [0,1,2,3,4] 18 (by exact g_load_ref rfl rfl rfl) ?_;refine ze 11 [0,1,2,3,4] 18 (by exact g_load_ref rfl rfl rfl) ?_;refine ze 12 [0,1,2,3,4,10,11] 18 (by exact g_ia_view (i := k) rfl rfl rfl rfl rfl rfl ho2) ?_;refine ze 13 [0,1,2,3,4,10,11,12] 18 (by exact g_load_ref rfl rfl rfl) ?_;refine ze 14 [0,1,2,3,4,10,11,12,13] 18 (by exact g_arith rfl rfl rfl (by exact wrap_i64 (by omega))) ?_;refine ze 15 (List.range 15) 18 (by exact g_cmp rfl rfl rfl) ?_;refine zd 16 (List.range 16) 18 (by exact g_pickT (r := .d _) rfl rfl) ?_;refine zd 17 (List.range 17) 18 (by exact as1 rfl) ?_;refine zj 18 ?_;refine th_n (AC.ret (bq_r ?_));exact ret1 rfl (by rw [hN, show decide (e.2 = k ∧ oa o e.1 = oa o k - 1) = decide (oa o e.1 = oa o k - 1) from decide_eq_decide.2 ⟨fun h => h.2, fun h => ⟨by omega, h⟩⟩])
 refine zg 5 [0,1,2,3,4] 18 ?_;refine zg 6 [0,1,2,3,4] 18 ?_;refine zg 7 [0,1,2,3,4,6] 18 ?_;refine zg 8 [0,1,2,3,4,5,6,7] 18 ?_;refine zg 9 (List.range 9) 18 ?_;refine zg 10 [0,1,2,3,4] 18 ?_;refine zg 11 [0,1,2,3,4] 18 ?_;refine zg 12 [0,1,2,3,4,10,11] 18 ?_;refine zg 13 [0,1,2,3,4,10,11,12] 18 ?_;refine zg 14 [0,1,2,3,4,10,11,12,13] 18 ?_;refine zg 15 (List.range 15) 18 ?_;refine zd 16 (List.range 16) 18 (by exact g_pickF (r := .d _) rfl rfl) ?_;refine zd 17 (List.range 17) 18 (by exact as1 rfl) ?_;refine zj 18 ?_;refine th_n (AC.ret (bq_r ?_));exact ret1 rfl (by rw [hN, show decide (e.2 = k ∧ oa o e.1 = oa o k - 1) = false from decide_eq_false (fun h => by omega)])
theorem en_shortestI1 : Enters Tryz.prog 190 := enters_of Tryz.func190 rfl rfl
theorem near_find {E : List (Nat × Nat)} {n s v d : Nat} {o : List Int} (h : DistOf E n s o) (hv : oa o v = (d : Int) + 1) :
  ∃ i, ∃ hi : i < E.length, findI (nearB o v) E = (i : Int) ∧ backI E o (d + 1) v = i :: backI E o d E[i].1 ∧ oa o E[i].1 = d ∧ nearB o v E[i] = true ∧ ∀ j (hj : j < E.length), j < i → nearB o v E[j] = false := by
 obtain ⟨i, hi, e, h1, h2, h3⟩ := back_find h hv;have hp : nearB o v E[i] = true := decide_eq_true ⟨h1, by omega⟩;have hb : ∀ j (hj : j < E.length), j < i → nearB o v E[j] = false := fun j hj hji => decide_eq_false (h3 j hj hji)
 refine ⟨i, hi, findI_at hi hp (fun j hj => hb j (by omega) hj), ?_, h2, hp, hb⟩;rw [backI, e, List.getD_eq_getElem?_getD, List.getElem?_eq_getElem hi]; rfl
theorem DistOf.lt {E : List (Nat × Nat)} {n s : Nat} {o : List Int} (h : DistOf E n s o) {v : Nat} (hv : 0 ≤ oa o v) : v < n := by have := oa_lt hv; rw [h.len] at this; exact this
noncomputable def shortF (E : List (Nat × Nat)) (n k : Nat) : List Int × Bool := if oa (distF E n 0) k < 0 then ([], false) else ((nI (backI E (distF E n 0) (oa (distF E n 0) k).toNat k)).reverse, true)
theorem distF_le {E : List (Nat × Nat)} {n s : Nat} (hs : s < n) (hE : ∀ f t, (f, t) ∈ E → f < n ∧ t < n) (v : Nat) : -1 ≤ oa (distF E n s) v ∧ oa (distF E n s) v ≤ n := by
 obtain ⟨o, h⟩ := rnd_ex hs hE n;rw [h.dist.eq];exact ⟨h.lo v, h.hi0 rfl v⟩
theorem backI_in {E : List (Nat × Nat)} {n s : Nat} {o : List Int} (h : DistOf E n s o) : ∀ (d v : Nat), oa o v = (d : Int) → ∀ i, i ∈ backI E o d v → i < E.length
 | 0, v, hv, i, hi => by simp [backI] at hi
 | d + 1, v, hv, i, hi => by
  obtain ⟨j, hj, e, _, h2⟩ := back_step h (v := v) (d := d) (by omega);rw [e] at hi;rcases List.mem_cons.1 hi with rfl | hi
  ·exact hj
  exact backI_in h d _ h2 i hi
set_option maxHeartbeats 8000000 in
theorem shortestI_spec (E : List (Nat × Nat)) (n k0 : Nat) (hk0 : k0 < n) (hn : n ≤ 100000) (hEl : E.length ≤ 1000000) (hE : ∀ f t, (f, t) ∈ E → f < n ∧ t < n) : ASpec Tryz.prog 112 [aI n, .d (vSteps E), aI k0] [] (Pure1 (.tup [.d (vI (shortF E n k0).1), aT (shortF E n k0).2])) := by
 have h0n : 0 < n := by omega
 have hD := distances_spec E n 0 h0n hn hEl hE;have hO := dist_ex h0n hE;have hb := distF_le h0n hE;have hR : shortF E n k0 = if oa (distF E n 0) k0 < 0 then ([], false) else ((nI (backI E (distF E n 0) (oa (distF E n 0) k0).toNat k0)).reverse, true) := rfl
 obtain ⟨o, ho⟩ : ∃ o, o = distF E n 0 := ⟨_, rfl⟩;rw [← ho] at hD hO hR;simp only [← ho] at hb;obtain ⟨R, hRR⟩ : ∃ R, R = shortF E n k0 := ⟨_, rfl⟩;rw [← hRR] at hR ⊢;clear ho hRR;have hol := hO.len;have hk0o := ints_oa (o := o) (v := k0) (by omega);have hbb := hb k0;refine ASpec.of Tryz.func112 rfl rfl fun C hC => ?_
 refine AC.seq (AC.region ?_);refine AL.q (by exact h_box rfl) rfl ?_;refine za ?_;refine za ?_;refine AL.nil (th_n (AC.seq (AC.region ?_)));refine zm ?_;refine zm ?_;refine AL.q (by exact h_pure en_distances rfl rfl (by repeat (first | exact rfl | exact DLead.same | refine ⟨_, _, rfl, ?_, ?_⟩)) hD rfl) rfl ?_;refine AL.q (by exact h_lit rfl rfl rfl rfl rfl rfl rfl rfl) rfl ?_;refine AL.q (by exact h_alloc rfl) rfl ?_;refine zs ?_;refine AL.p (by exact as2 rfl) rfl ?_;refine AL.nil (th_n (AC.seq (AC.seq ?_)));refine AC.weak (t := ⟨40, 300, [(1, .d (vSteps E)), (5, .ptr 200 0), (8, .ptr 201 0), (9, .own 100 0)], [(200, some (.cells 3 [aI k0])), (201, some (.cells 39 [.d (vI o)])), (100, some (.arr 3 1 (ints [])))]⟩) (zw [(200, _), (201, _), (100, _)] hC) ?_;refine AC.region ?_;refine zl ?_;refine zl ?_;refine AL.p (by exact g_ia_view (i := k0) rfl rfl rfl rfl rfl rfl hk0o) rfl ?_;refine zr ?_;refine zc ?_;refine AL.nil (th_n ?_);refine AC.condD rfl (fun h0 => ?_) (fun h0 => ?_)
 ·refine AC.seq (AC.region ?_);refine za ?_;refine za ?_;refine AL.nil (th_n (AC.ret (th_r (bq_r ?_))));have e : R = ([], false) := hR.trans (if_pos (by assumption));exact ret0 rfl (by rw [e]; show AV.leads _ (.tup [.d (vI []), aT false]) _; repeat (first | exact DLead.same | exact DLead.nil | exact rfl | refine ⟨_, rfl, ?_⟩ | refine ⟨_, _, rfl, ?_, ?_⟩))
 refine AC.skip (th_n (AC.seq (AC.block ?_)));refine AC.loop (ι := Nat × Nat × List Int) (fun x => ⟨40, 600, [(1, .d (vSteps E)), (5, .ptr 200 0), (8, .ptr 201 0), (9, .own 100 x.2.2.length)], [(200, some (.cells 3 [aI x.2.1])), (201, some (.cells 39 [.d (vI o)])), (100, some (.arr 3 1 (ints x.2.2)))]⟩) (fun x => oa o x.2.1 = (x.1 : Int) ∧ x.2.2 ++ nI (backI E o x.1 x.2.1) = nI (backI E o (oa o k0).toNat k0)) (fun x => x.1) (((oa o k0).toNat, k0, [])) ?_ (⟨by dsimp only; omega, rfl⟩) ?_
 ·exact zw [(200, 200), (201, 201), (100, 100)] hC
 rintro ⟨d, k, acc⟩ ⟨hd, hacc⟩;dsimp only at hd hacc ⊢;have hkn := hO.lt (v := k) (by omega);have hko := ints_oa (o := o) (v := k) (by omega);have hlen := congrArg List.length hacc;rw [List.length_append, nI_len, nI_len, backI_len, backI_len] at hlen;refine AC.seq (AC.seq (AC.region ?_));refine zl ?_;refine zl ?_;refine AL.p (by exact g_ia_view (i := k) rfl rfl rfl rfl rfl rfl hko) rfl ?_;refine zr ?_;refine zc ?_;refine AL.nil (th_n ?_);refine AC.condD rfl (fun h1 => ?_) (fun h1 => ?_)
 ·refine AC.skip (th_n (AC.block (AC.seq ?_)));obtain ⟨d', rfl⟩ : ∃ d', d = d' + 1 := ⟨d - 1, by omega⟩;obtain ⟨i, hi, hfi, hbk, hoi, _, _⟩ := near_find hO (v := k) (d := d') (by omega);have hIx := ixStep_spec E hEl 190 [.ref [dI (k : Int)], .ref [vI o]] en_shortestI1 (nearB o k) (fun e he => shortestI1_spec e k o n hol (hE e.1 e.2 he).1 hkn (fun v => by have := hb v; omega));rw [hfi] at hIx;rw [hbk] at hacc;have hrow := stepL_get hi;obtain ⟨f, hf⟩ : ∃ f, f = E[i].1 := ⟨_, rfl⟩;rw [← hf] at hoi hacc hrow;refine AC.region ?_;refine zm ?_;refine AL.p (by exact g_fn rfl) rfl ?_;refine AL.q (by exact h_borrow [200, 201] en_ixStep rfl rfl hIx (.cons (.of .d) (.cons (.cloB (.cons (.ptr rfl rfl (.cons .d .nil)) (.cons (.ptr rfl rfl (.cons .d .nil)) .nil))) .nil)) rfl) rfl ?_;refine za ?_;refine AL.nil (th_n (AC.seq (AC.region ?_)));refine AL.p (by exact mv2 rfl) rfl ?_;refine zm ?_;refine AL.q (by exact h_litF rfl rfl rfl rfl rfl rfl rfl rfl) rfl ?_;refine AL.q (by exact h_appendI acc [(i : Int)] (.own rfl rfl (ints_len _).symm) (.view rfl) (by rw [List.length_append]; simp only [List.length_cons, List.length_nil]; omega) (by simp)) rfl ?_;refine AL.p (by exact as2 rfl) rfl ?_;refine AL.nil (th_n (AC.region ?_));refine zm ?_;refine zm ?_;refine AL.p (by exact g_ia_view (i := i) rfl rfl rfl rfl rfl rfl hrow) rfl ?_;refine zf ?_;refine zr ?_;refine zs ?_;refine AL.nil (ib_n (th_n ?_));exact ⟨(d', f, acc ++ [(i : Int)]), ⟨hoi, by rw [List.append_assoc]; exact hacc⟩, by dsimp only; omega, zw [(200, 200), (201, 201), (100, _)] hC⟩
 refine AC.exit (th_e (th_e (ib_y (th_n (AC.seq ?_)))));obtain rfl : d = 0 := by omega
 rw [backI, show nI [] = [] from rfl, List.append_nil] at hacc;have hRev := revInts_spec acc (by omega);refine AC.region ?_;refine AL.p (by exact mv2 rfl) rfl ?_;refine AL.q (by exact h_fun (cs := [100]) en_revInts rfl rfl (by repeat (first | exact rfl | refine ⟨_, _, rfl, ?_, ?_⟩ | refine ⟨_, rfl, ?_⟩)) (by repeat (first | exact True.intro | refine And.intro ?_ ?_ | exact rfl | refine ⟨_, _, rfl, rfl, ?_⟩)) hRev rfl rfl rfl rfl) rfl ?_;refine AL.nil (th_n (AC.seq (AC.region ?_)));refine AL.p (by exact mv2 rfl) rfl ?_;refine AL.p (by exact as2 rfl) rfl ?_;refine za ?_;refine AL.nil (th_n ?_);refine AC.weak (Weak.freeze (i := 6) (els' := ints acc.reverse) rfl rfl (by rw [ints_len, List.length_reverse]; exact Nat.le_refl _) (List.take_of_length_le (by rw [ints_len, List.length_reverse]; exact Nat.le_refl _))) ?_;refine AC.ret (bq_r ?_);have e : R = (acc.reverse, true) := hR.trans ((if_neg (by omega)).trans (by rw [hacc]));exact ret0 rfl (by rw [e]; show AV.leads _ (.tup [.d (vI acc.reverse), aT true]) _; repeat (first | exact DLead.same | exact rfl | refine ⟨_, rfl, ?_⟩ | refine ⟨_, _, rfl, ?_, ?_⟩))
theorem en_shortestI : Enters Tryz.prog 112 := enters_of Tryz.func112 rfl rfl
theorem map_take_snoc {α β : Type} {f : α → β} {l : List α} {j : Nat} (h : j < l.length) : (l.take (j + 1)).map f = (l.take j).map f ++ [f l[j]] := by
 rw [List.take_add_one, List.getElem?_eq_getElem h, List.map_append]; rfl
def farZ (n k : Nat) : List Int := List.replicate k (-1) ++ List.replicate (n - k) 0
theorem farZ_get {n k : Nat} (h : k < n) : (ints (farZ n k))[k]? = some [dI 0] := by
 unfold farZ;rw [List.getElem?_map, List.getElem?_append_right (by simp), List.length_replicate, Nat.sub_self, List.getElem?_replicate, if_pos (by omega)]; rfl
theorem farZ_set {n k : Nat} (h : k < n) : (ints (farZ n k)).set k [dI (-1)] = ints (farZ n (k + 1)) := by
 rw [← ints_set];congr 1;unfold farZ;obtain ⟨q, hq⟩ : ∃ q, n - k = q + 1 := ⟨n - k - 1, by omega⟩;rw [hq, show n - (k + 1) = q by omega, List.replicate_succ, List.set_append_right _ _ (by simp), List.length_replicate, Nat.sub_self, List.set_cons_zero, List.replicate_succ', List.append_assoc]; rfl
theorem farZ_zero (n : Nat) : farZ n 0 = List.replicate n 0 := by unfold farZ; simp
theorem farZ_all (n : Nat) : farZ n n = List.replicate n (-1) := by unfold farZ; simp
theorem repZ (n : Nat) : List.replicate n (([ZK.int .i64] : List ZK).map fun z => DV.val z.val) = ints (List.replicate n 0) := by rw [ints, List.map_replicate]; rfl
set_option maxHeartbeats 8000000 in
theorem sFar_spec (x : Ex) (s : Nat) (hs : s < x.marks.length) (h1l : x.marks.length ≤ 100000) (h2l : x.moves.length ≤ 1000000) (hp : ∀ v, v ∈ x.moves → (0 ≤ v.from_ ∧ v.from_ < x.marks.length) ∧ 0 ≤ v.to_ ∧ v.to_ < x.marks.length) : ASpec Tryz.prog 117 [rgA x, aI s] [] (Pure1 (.d (vI (distF (edgesR x) x.marks.length s)))) := by
 have hE := edgesR_in hp;have hB0 := RndI.start hs hE;have hel := edgesR_len x;have hEg : ∀ j (hj : j < x.moves.length), (edgesR x)[j]'(by rw [hel]; exact hj) = (x.moves[j].from_.toNat, x.moves[j].to_.toNat) := fun j hj => edgesR_get hj
 obtain ⟨n, hn⟩ : ∃ n, n = x.marks.length := ⟨_, rfl⟩;rw [← hn] at hs h1l hB0 hp ⊢;obtain ⟨E, hEE⟩ : ∃ E, E = edgesR x := ⟨_, rfl⟩;simp only [← hEE] at hB0 hel hEg ⊢;clear hE;refine ASpec.of Tryz.func117 rfl rfl fun C hC => ?_
 refine AC.seq (AC.region ?_);refine AL.q (by exact h_boxF rfl rfl) rfl ?_;refine za ?_;refine AL.nil (th_n (AC.seq (AC.region ?_)));refine zf ?_;refine zr ?_;refine AL.p (by exact g_len_view (k := n) rfl rfl (by rw [hn]; exact tsX_len _)) rfl ?_;refine AL.q (by exact h_make (k := n) rfl rfl rfl rfl rfl rfl rfl rfl (by show 8 * n ≤ _; omega) (by omega)) rfl ?_;refine AL.p (by exact as2 rfl) rfl ?_;refine AL.nil (th_n (AC.seq (AC.seq (AC.region ?_))));refine AL.p (by exact mv2 rfl) rfl ?_;refine AL.p (by exact g_len_own (sz := 1) (els := []) (e' := 0) rfl rfl (by simp only [maxLen]; omega)) rfl ?_;refine zm ?_;refine AL.nil (th_n (AC.block ?_));refine AC.loop (ι := Nat) (fun k => ⟨62, 300, [(1, aI s), (2, .d (.ref (rgD x))), (5, .own 100 n), (15, aI n), (16, aI k)], [(100, some (.arr 3 1 (ints (farZ n k))))]⟩) (fun k => k ≤ n) (fun k => n - k) (0) ?_ (Nat.zero_le _) ?_
 ·exact zw [(100, _)] hC (b := by rw [farZ_zero, ← repZ]; repeat (first | exact True.intro | refine And.intro ?_ ?_ | exact rfl | refine ⟨_, _, rfl, rfl, ?_⟩))
 intro k hk;refine AC.seq (AC.region ?_);refine zc ?_;refine AL.nil (th_n (AC.seq ?_));refine AC.condD rfl (fun h0 => ?_) (fun h0 => ?_)
 ·refine AC.skip (th_n (AC.seq (AC.block (AC.seq ?_))));have hk1 : k < n := by omega
  have hgz := farZ_get hk1;have hsz := farZ_set hk1;refine AC.region ?_;refine zm ?_;refine za ?_;refine AL.nil (th_n (AC.region ?_));refine AL.p (by exact mv2 rfl) rfl ?_;refine zm ?_;refine AL.p (by exact g_ia_own (i := k) (l := n) rfl rfl rfl rfl rfl rfl hk1 rfl) rfl ?_;refine AL.q (by exact h_store_arr (i := k) (j := 0) (d := dI (-1)) rfl rfl rfl rfl .same rfl hgz (by decide)) rfl ?_;refine AL.nil (ib_n (th_n (AC.region ?_)));refine zA ?_;refine zm ?_;refine AL.nil (th_n ?_);exact ⟨k + 1, by omega, by omega, zw [(100, 100)] hC (b := by rw [← hsz]; repeat (first | exact True.intro | refine And.intro ?_ ?_ | exact rfl | refine ⟨_, _, rfl, rfl, ?_⟩))⟩
 refine AC.exit (th_e (th_e (ib_y (th_n (AC.seq ?_)))));have hkn : k = n := by omega
 rw [hkn, farZ_all];have hr0 : (ints (List.replicate n (-1)))[s]? = some [dI (-1)] := by rw [rep_ints, List.getElem?_replicate, if_pos hs]
 refine AC.region ?_;refine AL.p (by exact mv2 rfl) rfl ?_;refine zm ?_;refine AL.p (by exact g_ia_own (i := s) (l := n) rfl rfl rfl rfl rfl rfl hs rfl) rfl ?_;refine AL.q (by exact h_store_arr (i := s) (j := 0) (d := dI 0) rfl rfl rfl rfl .same rfl hr0 (by decide)) rfl ?_;refine AL.nil (th_n (AC.seq (AC.seq (AC.region ?_))));refine za ?_;refine AL.nil (th_n (AC.block ?_));refine AC.loop (ι := List Int × Nat) (fun y => ⟨62, 600, [(2, .d (.ref (rgD x))), (5, .own 100 n), (7, aI y.2)], [(100, some (.arr 3 1 (ints y.1)))]⟩) (fun y => RndI E n s y.1 y.2 0 ∧ y.2 ≤ n) (fun y => n - y.2) (((List.replicate n (-1)).set s 0, 0)) ?_ (⟨hB0, Nat.zero_le _⟩) ?_
 ·exact zw [(100, 100)] hC (b := by rw [repN_set]; repeat (first | exact True.intro | refine And.intro ?_ ?_ | exact rfl | refine ⟨_, _, rfl, rfl, ?_⟩))
 rintro ⟨o, d⟩ ⟨hB, hd⟩;dsimp only at hB hd ⊢;refine AC.seq (AC.seq (AC.region ?_));refine zm ?_;refine AL.p (by exact mv2 rfl) rfl ?_;refine AL.p (by exact g_len_own (sz := 1) (els := []) (e' := 0) rfl rfl (by simp only [maxLen]; omega)) rfl ?_;refine zc ?_;refine AL.nil (th_n ?_);refine AC.condD rfl (fun h1 => ?_) (fun h1 => ?_)
 ·refine AC.skip (th_n (AC.seq (AC.block (AC.seq (AC.region ?_)))));refine zf ?_;refine zr ?_;refine AL.p (by exact g_len_view (k := x.moves.length) rfl rfl (mvL_len _)) rfl ?_;refine zm ?_;refine AL.nil (th_n (AC.block ?_));refine AC.loop (ι := List Int × Nat) (fun y => ⟨62, 900, [(2, .d (.ref (rgD x))), (5, .own 100 n), (7, aI d), (33, .d (vMvs x.moves)), (34, aI x.moves.length), (35, aI y.2)], [(100, some (.arr 3 1 (ints y.1)))]⟩) (fun y => RndI E n s y.1 d y.2 ∧ y.2 ≤ x.moves.length) (fun y => x.moves.length - y.2) ((o, 0)) ?_ (⟨hB, Nat.zero_le _⟩) ?_
  ·exact zw [(100, 100)] hC
  rintro ⟨o, j⟩ ⟨hB, hj⟩;dsimp only at hB hj ⊢;have hol := hB.len;refine AC.seq (AC.region ?_);refine zc ?_;refine AL.nil (th_n (AC.seq ?_));refine AC.condD rfl (fun h2 => ?_) (fun h2 => ?_)
  ·refine AC.skip (th_n (AC.seq (AC.block (AC.seq ?_))));have hj1 : j < x.moves.length := by omega
   have hjE : j < E.length := by omega
   have hget := mvL_get hj1;have hpv := hp _ (List.getElem_mem hj1);have heg := hEg j hj1;have hno := hB.no hjE;have hye := hB.yes hjE;rw [heg] at hno hye;dsimp only at hno hye;obtain ⟨v, hv⟩ : ∃ v, v = x.moves[j] := ⟨_, rfl⟩;rw [← hv] at hget hpv hno hye;clear hv heg;obtain ⟨f, hf⟩ : ∃ f, f = v.from_.toNat := ⟨_, rfl⟩;obtain ⟨t, ht⟩ : ∃ t, t = v.to_.toNat := ⟨_, rfl⟩;rw [← hf, ← ht] at hno hye;have e1 : v.from_ = (f : Int) := by omega
   have e2 : v.to_ = (t : Int) := by omega
   rw [e1, e2] at hget;have hof := ints_oa (o := o) (v := f) (by omega);have hot := ints_oa (o := o) (v := t) (by omega);refine AC.region ?_;refine AL.p (by exact g_ia_view rfl rfl rfl rfl rfl (by rfl) (by assumption)) rfl ?_;refine AL.p (by exact g_load_refN rfl rfl rfl rfl) rfl ?_;refine AL.q (by exact h_alloc rfl) rfl ?_;refine zs ?_;refine AL.nil (th_n (AC.seq (AC.region ?_)));refine AL.p (by exact mv2 rfl) rfl ?_;refine zF ?_;refine zl ?_;refine AL.p (by exact g_ia_own (i := f) (l := n) rfl rfl rfl rfl rfl rfl (by omega) rfl) rfl ?_;refine AL.p (by exact g_load_arr1 rfl rfl rfl rfl (by rw [Nat.mul_one]; exact hof)) rfl ?_;refine zm ?_;refine zc ?_;refine zm ?_;refine AL.caseG rfl rfl (fun h3 => ?_) (fun h3 => ?_)
   ·refine zy ?_;refine AL.p (by exact mv2 rfl) rfl ?_;refine zy ?_;refine zF ?_;refine zy ?_;refine zl ?_;refine zy ?_;refine AL.p (by exact g_ia_own (i := t) (l := n) rfl rfl rfl rfl rfl rfl (by omega) rfl) rfl ?_;refine zy ?_;refine AL.p (by exact g_load_arr1 rfl rfl rfl rfl (by rw [Nat.mul_one]; exact hot)) rfl ?_;refine zy ?_;refine zc ?_;refine zQ ?_;refine AL.nil (th_n ?_);refine AC.condD rfl (fun h4 => ?_) (fun h4 => ?_)
    ·refine AC.region ?_;refine AL.p (by exact mv2 rfl) rfl ?_;refine zF ?_;refine zl ?_;refine zm ?_;refine zA ?_;refine AL.p (by exact g_ia_own (i := t) (l := n) rfl rfl rfl rfl rfl rfl (by omega) rfl) rfl ?_;refine AL.q (by exact h_store_arr (i := t) (j := 0) (d := dI ((d : Int) + 1)) rfl rfl rfl rfl .same rfl hot (by decide)) rfl ?_;refine AL.nil (ib_n (th_n (AC.region ?_)));refine zA ?_;refine zm ?_;refine AL.nil (th_n ?_)
     (have e := hye (by assumption) (by assumption); exact ⟨(o.set t ((d : Int) + 1), j + 1), ⟨e, by dsimp only; omega⟩, by dsimp only; omega, zw [(100, 100)] hC (b := by rw [ints_set]; repeat (first | exact True.intro | refine And.intro ?_ ?_ | exact rfl | refine ⟨_, _, rfl, rfl, ?_⟩))⟩)
    refine AC.skip (ib_n (th_n (AC.region ?_)));refine zA ?_;refine zm ?_;refine AL.nil (th_n ?_)
    (have e := hno (by rintro ⟨q1, q2⟩; contradiction); exact ⟨(o, j + 1), ⟨e, by dsimp only; omega⟩, by dsimp only; omega, zw [(100, 100)] hC⟩)
   refine zn ?_;refine zn ?_;refine zn ?_;refine zn ?_;refine zn ?_;refine zn ?_;refine zP ?_;refine AL.nil (th_n ?_);refine AC.condF rfl ?_;refine AC.skip (ib_n (th_n (AC.region ?_)));refine zA ?_;refine zm ?_;refine AL.nil (th_n ?_)
   (have e := hno (by rintro ⟨q1, q2⟩; contradiction); exact ⟨(o, j + 1), ⟨e, by dsimp only; omega⟩, by dsimp only; omega, zw [(100, 100)] hC⟩)
  refine AC.exit (th_e (th_e (ib_y (ib_n (th_n (AC.region ?_))))));refine zm ?_;refine zA ?_;refine za ?_;refine AL.nil (th_n ?_);have e := hB.next (by omega);exact ⟨(o, d + 1), ⟨e, by dsimp only; omega⟩, by dsimp only; omega, zw [(100, 100)] hC⟩
 refine AC.exit (th_e (th_e (ib_y (th_n (AC.seq ?_)))));have hdn : d = n := by omega
 rw [hdn] at hB;rw [hB.dist.eq];refine AC.weak (Weak.freeze (i := 5) rfl rfl (by rw [ints_len, hB.len]; exact Nat.le_refl _) (List.take_of_length_le (by rw [ints_len, hB.len]; exact Nat.le_refl _))) ?_;refine AC.region ?_;refine zm ?_;refine za ?_;refine AL.nil (th_n (AC.ret (bq_r ?_)));exact ret1 rfl rfl
theorem en_sFar : Enters Tryz.prog 117 := enters_of Tryz.func117 rfl rfl
theorem fire_ready {N : Net} {m : List UInt8} (hb : bitsB m N.places = true) (hM : NetM N m) {t : Int} (ht : t ∈ readyL N m N.ts.length) : ∃ i, ∃ hi : i < N.ts.length, t = (i : Int) ∧ fireI N m t = fireT N.ts[i] m := by
 unfold readyL at ht;obtain ⟨k, hk, rfl⟩ := List.mem_map.1 ht;have h := (List.mem_filter.1 hk).2;cases e : N.ts[k]? with
 | none => rw [e] at h; cases h
 | some u =>
  obtain ⟨hk2, rfl⟩ := List.getElem?_eq_some_iff.1 e;rw [e] at h;refine ⟨k, hk2, rfl, ?_⟩;rw [fireI_at hk2, ← ready_enabled hb (hM _ (List.getElem_mem hk2)).1];exact if_pos h
def rMark (r : Option (Int × Int)) : Int := match r with | some p => (if 0 ≤ p.1 then p.1 else 0) | none => 0
def rBad (r : Option (Int × Int)) : Int := match r with | some p => p.2 | none => -1
def rFull (r : Option (Int × Int)) : Bool := match r with | some p => decide (p.1 < 0) | none => false
abbrev zR : List AV := [.d (.val (.slice none 0 0)), .d (.val (.slice none 0 0)), .d (.val (.slice none 0 0)), aI 0, aI 0, aT false]
abbrev refA (F : Ex × Option (Int × Int)) (a b c : Nat) : List AV := [.own a F.1.marks.length, .own b F.1.moves.length, .own c (byL F.1).length, aI (rMark F.2), aI (rBad F.2), aT (rFull F.2)]
theorem posI_neg {m : List UInt8} {l : List (List UInt8)} (h : posI m l < 0) : posL m l = none := by
 unfold posI at h
 split at h
 ·omega
 assumption
theorem posI_nat {m : List UInt8} {l : List (List UInt8)} (h : ¬ posI m l < 0) : ∃ i, posL m l = some i ∧ posI m l = (i : Int) := by
 cases hp : posL m l with
 | none => unfold posI at h; rw [hp] at h; exact absurd (show (-1 : Int) < 0 by decide) h
 | some i => exact ⟨i, rfl, by unfold posI; rw [hp]⟩
theorem rMark_nat (k : Nat) (t : Int) : rMark (some ((k : Int), t)) = (k : Int) := by unfold rMark; exact if_pos (Int.natCast_nonneg k)
theorem rFull_nat (k : Nat) (t : Int) : rFull (some ((k : Int), t)) = false := by unfold rFull; exact decide_eq_false (by show ¬ (k : Int) < 0; omega)
set_option maxHeartbeats 16000000 in
theorem sReach_spec (s : Stg) (hB : StgB s) (hg : goodS s = true) : ASpec Tryz.prog 99 [stgA s] [] (Fun1 (.agg (refA (explR s.net s.start) 0 1 2)) [(0, .arr 9 1 (tsX (explR s.net s.start).1.marks)), (1, .arr 52 3 (mvL (explR s.net s.start).1.moves)), (2, .arr 52 3 (mvL (byL (explR s.net s.start).1)))]) := by
 obtain ⟨hg1, hg2⟩ : goodN s.net = true ∧ bitsB s.start s.net.places = true := by
  simp only [goodS, Bool.and_eq_true] at hg;exact hg.1
 have hpl := good_places hg1;have hun : explR s.net s.start = exOut s.net 301 0 ⟨[s.start], []⟩ := rfl;obtain ⟨F, hF⟩ : ∃ F, F = explR s.net s.start := ⟨_, rfl⟩;rw [← hF] at hun ⊢;have hI0 : ExI s.net ⟨[s.start], []⟩ 0 := ⟨by show 1 ≤ 300; omega, fun m hm => by rw [List.mem_singleton.1 hm]; exact hg2, Nat.le_refl _⟩;have hst := bits_len hg2;clear hF;refine ASpec.of Tryz.func99 rfl rfl fun C hC => ?_
 refine AC.seq (AC.region ?_);refine AL.q (by exact h_boxF rfl rfl) rfl ?_;refine AL.q (by exact h_alloc rfl) rfl ?_;refine AL.nil (th_n (AC.seq (AC.region ?_)));refine zf ?_;refine zr ?_;refine AL.q (by exact h_lit rfl rfl rfl rfl rfl rfl rfl rfl) rfl ?_;refine AL.p (by exact g_build rfl rfl rfl) rfl ?_;refine AL.p (by exact g_build rfl rfl rfl) rfl ?_;refine AL.q (by exact h_lit rfl rfl rfl rfl rfl rfl rfl rfl) rfl ?_;refine AL.p (by exact g_build rfl rfl rfl) rfl ?_;refine AL.q (by exact h_alloc rfl) rfl ?_;refine zs ?_;refine AL.nil (th_n (AC.seq (AC.seq (AC.region ?_))));refine za ?_;refine AL.nil (th_n (AC.block ?_));refine AC.loop (ι := Nat × Ex) (fun x => ⟨107, 600, [(1, .d (.ref (stgD s))), (2, .ptr 201 0), (3, .ptr 200 0), (4, aI x.1)], [(200, some (.cells 118 [.own 101 x.2.marks.length, .own 102 x.2.moves.length, .own 103 (byL x.2).length, aI 0, aI (-1), aT false])), (101, some (.arr 9 1 (tsX x.2.marks))), (102, some (.arr 52 3 (mvL x.2.moves))), (103, some (.arr 52 3 (mvL (byL x.2)))), (201, some (.cells 118 zR))]⟩) (fun x => x.1 ≤ x.2.marks.length ∧ ExI s.net x.2 (24 * x.1) ∧ ByI s.net x.2 x.1 ∧ exOut s.net (301 - x.1) x.1 x.2 = F) (fun x => 301 - x.1) ((0, ⟨[s.start], []⟩)) ?_ (⟨Nat.zero_le _, hI0, ByI.start _ _, hun.symm⟩) ?_
 ·exact (Weak.nilOwnP 3 1 (e := 52) (sz := 3) rfl rfl rfl rfl rfl).trans (zw [(200, _), (101, _), (102, _), (103, _), (201, _)] hC)
 rintro ⟨k, x⟩ ⟨hk, hI, hY, hrun⟩;dsimp only at hk hI hY hrun ⊢;have hxn := hI.n;refine AC.seq (AC.seq (AC.region ?_));refine zm ?_;refine zF ?_;refine zF ?_;refine zl ?_;refine AL.p (by exact g_len_own (sz := 1) (els := []) (e' := 0) rfl rfl (by simp only [maxLen]; omega)) rfl ?_;refine zc ?_;refine AL.nil (th_n ?_);refine AC.condD rfl (fun h0 => ?_) (fun h0 => ?_)
 ·refine AC.skip (th_n (AC.seq (AC.block (AC.seq ?_))));have hk1 : k < x.marks.length := by omega
  have hmk := mkAt_nat hk1;have hbm := hI.b _ (List.getElem_mem hk1);rw [← hmk] at hbm;have hrow : (tsX x.marks)[k]? = some [dS (bstr (mkAt x k))] := by rw [hmk]; exact tsX_get hk1
  obtain ⟨n, hn⟩ : ∃ n, 301 - k = n + 1 := ⟨300 - k, by omega⟩;rw [hn, exOut, if_pos hk1] at hrun;obtain ⟨m, hm⟩ : ∃ m, m = mkAt x k := ⟨_, rfl⟩;rw [← hm] at hbm hrow hrun;have hNM := good_netM hg1 hbm;have hEn := l1Enabled_spec s.net m hB.n hNM;have hLl := readyL_len s.net m s.net.ts.length;have hfr := fun t => fire_ready (t := t) hbm hNM
  have hLin := readyL_in s.net m s.net.ts.length;obtain ⟨L, hL⟩ : ∃ L, L = readyL s.net m s.net.ts.length := ⟨_, rfl⟩;simp only [← hL] at hEn hLl hrun hfr hLin;have hml := bits_len hbm;have hmarks : x.marks[k]? = some m := by rw [List.getElem?_eq_getElem hk1, hm, hmk]
  obtain ⟨Z, hZ⟩ : ∃ Z, Z = exIn s.net k m L x := ⟨_, rfl⟩;rw [← hZ] at hrun;clear hL;refine AC.drawn' mixed_ok [[], [0], [], [2], [2,3], [], [2,3,4,5], [2,3,4,5,6], [0,1,2,3,4,5,6,7], [0,1,2,3,4,5,6,7,8], []] (by decide) ?_;refine zd 0 [] 11 (by exact g_fa_ref rfl rfl rfl rfl rfl rfl) ?_;refine zd 1 [0] 11 (by exact g_load_refN rfl rfl rfl rfl) ?_;refine zd 2 [] 11 (by exact g_fa_ptr rfl rfl rfl rfl rfl) ?_;refine zd 3 [2] 11 (by exact g_fa_ptr rfl rfl rfl rfl rfl) ?_;refine zd 4 [2,3] 11 (by exact g_load_ptr rfl rfl rfl rfl rfl) ?_;refine zd 5 [] 11 (by exact mv1 rfl) ?_;refine zd 6 [2,3,4,5] 11 (by exact g_ia_own (i := k) (l := x.marks.length) rfl rfl rfl rfl rfl rfl hk1 rfl) ?_;refine zd 7 [2,3,4,5,6] 11 (by exact g_load_arr1 rfl rfl rfl rfl (by rw [Nat.mul_one]; exact hrow)) ?_;refine zh 8 [0,1,2,3,4,5,6,7] 11 (by exact h_pure en_l1Enabled rfl rfl (by repeat (first | exact rfl | exact DLead.same | refine ⟨_, _, rfl, ?_, ?_⟩ | refine ⟨_, rfl, ?_⟩)) hEn rfl) ?_;refine zd 9 (List.range 9) 11 (by exact g_len_view (k := L.length) rfl rfl (ints_len _)) ?_;refine zd 10 [] 11 (by exact mv1 rfl) ?_;refine zj 11 ?_;refine th_n (AC.block ?_);refine AC.loop (ι := Nat × Ex) (fun y => ⟨107, 900, [(1, .d (.ref (stgD s))), (2, .ptr 201 0), (3, .ptr 200 0), (4, aI k), (33, .d (vI L)), (34, aI L.length), (35, aI y.1)], [(200, some (.cells 118 [.own 101 y.2.marks.length, .own 102 y.2.moves.length, .own 103 (byL y.2).length, aI 0, aI (-1), aT false])), (101, some (.arr 9 1 (tsX y.2.marks))), (102, some (.arr 52 3 (mvL y.2.moves))), (103, some (.arr 52 3 (mvL (byL y.2)))), (201, some (.cells 118 zR))]⟩) (fun y => y.1 ≤ L.length ∧ k < y.2.marks.length ∧ y.2.marks[k]? = some m ∧ ExI s.net y.2 (24 * k + y.1) ∧ ByI s.net y.2 k ∧ exIn s.net k m (L.drop y.1) y.2 = Z) (fun y => L.length - y.1) ((0, x)) ?_ (⟨Nat.zero_le _, hk1, hmarks, hI, hY, hZ.symm⟩) ?_
  ·exact zw [(200, 200), (101, 101), (102, 102), (103, 103), (201, 201)] hC
  rintro ⟨j, y⟩ ⟨hj, hky, hym, hJ, hY, hin⟩;dsimp only at hj hky hym hJ hY hin ⊢;have hyn := hJ.n;have hyl := hJ.l;refine AC.seq (AC.region ?_);refine zc ?_;refine AL.nil (th_n (AC.seq ?_));refine AC.condD rfl (fun h1 => ?_) (fun h1 => ?_)
  ·refine AC.skip (th_n (AC.seq (AC.block (AC.seq ?_))));have hj1 : j < L.length := by omega
   have hget := ints_at hj1;have htm := hLin _ (List.getElem_mem hj1);obtain ⟨i, hi, hti, hfi⟩ := hfr _ (List.getElem_mem hj1);rw [List.drop_eq_getElem_cons hj1, exIn] at hin;obtain ⟨t, ht⟩ : ∃ t, t = L[j] := ⟨_, rfl⟩;rw [← ht] at hget hin htm hti hfi;clear ht;have hrowy : (tsX y.marks)[k]? = some [dS (bstr m)] := by rw [List.getElem?_map, hym]; rfl
   have hti2 := hB.n.t _ (List.getElem_mem hi);have hFi := l1Fire_spec s.net m i hi (by omega) (by omega) (by omega) (hNM _ (List.getElem_mem hi)).1 (hNM _ (List.getElem_mem hi)).2;rw [← hfi, ← hti] at hFi;have hfb := fireI_bits (N := s.net) (t := t) hbm;obtain ⟨f, hf⟩ : ∃ f, f = fireI s.net m t := ⟨_, rfl⟩;rw [← hf] at hFi hfb hin;clear hf hfi hti;have hbyl := byL_len hY.pos;refine AC.region ?_;refine AL.p (by exact g_ia_view rfl rfl rfl rfl rfl (by rfl) (by assumption)) rfl ?_;refine zr ?_;refine za ?_;refine AL.nil (th_n (AC.seq ?_));refine AC.drawn' mixed_ok [[], [0], [], [2], [2,3], [], [2,3,4,5], [2,3,4,5,6], [], [0,1,2,3,4,5,6,7,8], [0,1,2,3,4,5,6,7,8,9], [0,1,2,3,4,5,6,7,8,9,10], [0,1,2,3,4,5,6,7,8,9,10], [0,1,2,3,4,5,6,7,8,9,10,11], [0,1,2,3,4,5,6,7,8,9,10,11,12,13]] (by decide) ?_;refine zd 0 [] 15 (by exact g_fa_ref rfl rfl rfl rfl rfl rfl) ?_;refine zd 1 [0] 15 (by exact g_load_refN rfl rfl rfl rfl) ?_;refine zd 2 [] 15 (by exact g_fa_ptr rfl rfl rfl rfl rfl) ?_;refine zd 3 [2] 15 (by exact g_fa_ptr rfl rfl rfl rfl rfl) ?_;refine zd 4 [2,3] 15 (by exact g_load_ptr rfl rfl rfl rfl rfl) ?_;refine zd 5 [] 15 (by exact mv1 rfl) ?_;refine zd 6 [2,3,4,5] 15 (by exact g_ia_own (i := k) (l := y.marks.length) rfl rfl rfl rfl rfl rfl hky rfl) ?_;refine zd 7 [2,3,4,5,6] 15 (by exact g_load_arr1 rfl rfl rfl rfl (by rw [Nat.mul_one]; exact hrowy)) ?_;refine zd 8 [] 15 (by exact mv1 rfl) ?_;refine zh 9 (List.range 9) 15 (by exact h_pure en_l1Fire rfl rfl (by repeat (first | exact rfl | exact DLead.same | refine ⟨_, _, rfl, ?_, ?_⟩ | refine ⟨_, rfl, ?_⟩)) hFi rfl) ?_;refine zd 10 (List.range 10) 15 (by exact mv5 rfl) ?_;refine zd 11 (List.range 11) 15 (by exact g_extract (r := .d _) rfl rfl) ?_;refine zd 12 (List.range 11) 15 (by exact g_extract (r := .d _) rfl rfl) ?_;refine zd 13 (List.range 12) 15 (by exact as1 rfl) ?_;refine zd 14 (List.range 14) 15 (by exact as1 rfl) ?_;refine zj 15 ?_;refine th_n (AC.seq (AC.seq (AC.region ?_)));refine zm ?_;refine AL.p (by exact g_not rfl) rfl ?_;refine AL.nil (th_n ?_);refine AC.condB rfl (fun h2 => ?_) (fun h2 => ?_)
   ·refine AC.seq ?_;have qf : ¬ f.2 = true := by simpa using ‹(!f.2) = true›
    rw [if_neg qf] at hin;have e : F = (y, some ((k : Int), t)) := by rw [← hrun, ← hin]
    refine AC.region ?_;refine zm ?_;refine zF ?_;refine zs ?_;refine AL.nil (th_n (AC.seq (AC.region ?_)));refine zm ?_;refine zF ?_;refine zs ?_;refine AL.nil (th_n (AC.seq (AC.region ?_)));refine AL.p (by exact g_load_ptrN rfl rfl rfl rfl rfl) rfl ?_;refine zs ?_;refine AL.nil (th_n (AC.ret (th_r (ib_r (th_r (th_r (ib_r (ib_r (th_r (th_r (ib_r (th_r (bq_r ?_)))))))))))));exact retN [(0, 101), (1, 102), (2, 103)] rfl (by rw [e]; show AV.leads _ (.agg [.own 0 y.marks.length, .own 1 y.moves.length, .own 2 (byL y).length, aI (rMark (some ((k : Int), t))), aI t, aT (rFull (some ((k : Int), t)))]) _; rw [rMark_nat, rFull_nat]; repeat (first | exact DLead.same | exact rfl | refine ⟨_, rfl, ?_⟩ | refine ⟨_, _, rfl, ?_, ?_⟩)) (by rw [e]; repeat (first | exact True.intro | refine And.intro ?_ ?_ | exact rfl | refine ⟨_, _, rfl, rfl, ?_⟩)) rfl rfl
   refine AC.skip (th_n (AC.seq ?_));have qf : f.2 = true := by simpa using ‹(!f.2) = false›
   rw [if_pos qf] at hin;have hfbb := hfb qf;have hFd := l4Find_spec y.marks f.1 (by omega);have hpn := posI_neg (m := f.1) (l := y.marks);have hps := posI_nat (m := f.1) (l := y.marks);have hpb := posI_in f.1 y.marks;obtain ⟨p, hp⟩ : ∃ p, p = posI f.1 y.marks := ⟨_, rfl⟩;rw [← hp] at hFd hpn hps hpb;clear hp;refine AC.region ?_;refine zF ?_;refine zF ?_;refine zl ?_;refine zm ?_;refine AL.q (by exact h_borrow [101] en_l4Find rfl rfl hFd (.cons (.of (.own (id := 101) rfl rfl (Nat.le_of_eq (tsX_len _).symm) (List.take_of_length_le (Nat.le_of_eq (tsX_len _))))) (.cons (.of .d) .nil)) rfl) rfl ?_;refine za ?_;refine AL.nil (th_n ?_);refine AC.cut (fun (z : Ex × Int × Nat × Nat × Int) => ⟨107, 1500, [(1, .d (.ref (stgD s))), (2, .ptr 201 0), (3, .ptr 200 0), (4, aI k), (6, aI t), (9, aI z.2.1), (33, .d (vI L)), (34, aI L.length), (35, aI j)], [(200, some (.cells 118 [.own 101 z.1.marks.length, .own 102 y.moves.length, .own 103 (byL z.1).length, aI 0, aI (-1), aT false])), (101, some (.arr 9 1 (tsX z.1.marks))), (102, some (.arr 52 3 (mvL y.moves))), (103, some (.arr 52 3 (mvL (byL z.1)))), (201, some (.cells 118 zR))]⟩) (fun z => exIn s.net k m (L.drop (j + 1)) z.1 = Z ∧ z.1.moves = y.moves ++ [⟨k, t, z.2.1⟩] ∧ k < z.1.marks.length ∧ z.1.marks[k]? = some m ∧ ExI s.net z.1 (24 * k + (j + 1)) ∧ ByI s.net z.1 k) ?_ ?_
   ·refine AC.seq (AC.region ?_);refine zm ?_;refine zc ?_;refine AL.nil (th_n ?_);refine AC.condD rfl (fun h3 => ?_) (fun h3 => ?_)
    ·refine AC.seq (AC.seq ?_);have hpnn := hpn (by assumption);rw [hpnn] at hin;dsimp only at hin;refine AC.region ?_;refine zF ?_;refine zF ?_;refine zl ?_;refine AL.p (by exact g_len_own (sz := 1) (els := []) (e' := 0) rfl rfl (by simp only [maxLen]; omega)) rfl ?_;refine zc ?_;refine AL.nil (th_n ?_);refine AC.condD rfl (fun h4 => ?_) (fun h4 => ?_)
     ·refine AC.seq ?_;have hlen : y.marks.length = 300 := by omega
      rw [if_pos hlen] at hin;have e : F = (y, some ((-1 : Int), (-1 : Int))) := by rw [← hrun, ← hin]
      refine AC.region ?_;refine zF ?_;refine zs ?_;refine AL.nil (th_n (AC.seq (AC.region ?_)));refine AL.p (by exact g_load_ptrN rfl rfl rfl rfl rfl) rfl ?_;refine zs ?_;refine AL.nil (th_n (AC.ret (th_r (th_r (ib_r (th_r (th_r (ib_r (ib_r (th_r (th_r (ib_r (th_r (bq_r ?_))))))))))))));exact retN [(0, 101), (1, 102), (2, 103)] rfl (by rw [e]; show AV.leads _ (.agg [.own 0 y.marks.length, .own 1 y.moves.length, .own 2 (byL y).length, aI (rMark (some ((-1 : Int), (-1 : Int)))), aI (-1), aT (rFull (some ((-1 : Int), (-1 : Int))))]) _; rw [show rMark (some ((-1 : Int), (-1 : Int))) = 0 from rfl, show rFull (some ((-1 : Int), (-1 : Int))) = true from rfl]; repeat (first | exact DLead.same | exact rfl | refine ⟨_, rfl, ?_⟩ | refine ⟨_, _, rfl, ?_, ?_⟩)) (by rw [e]; repeat (first | exact True.intro | refine And.intro ?_ ?_ | exact rfl | refine ⟨_, _, rfl, rfl, ?_⟩)) rfl rfl
     refine AC.skip (th_n (AC.seq ?_));have hlen : ¬ y.marks.length = 300 := by omega
     rw [if_neg hlen] at hin;have hnewB := hY.new_by (t := t) (m := f.1);have hnewI := hY.new (t := t) (m := f.1) hky htm;refine AC.region ?_;refine zF ?_;refine zF ?_;refine zl ?_;refine AL.p (by exact g_len_own (sz := 1) (els := []) (e' := 0) rfl rfl (by simp only [maxLen]; omega)) rfl ?_;refine za ?_;refine AL.nil (th_n (AC.seq (AC.region ?_)));refine zF ?_;refine zF ?_;refine zl ?_;refine zm ?_;refine AL.q (by exact h_litF rfl rfl rfl rfl rfl rfl rfl rfl) rfl ?_;refine AL.q (by exact h_appendX y.marks [f.1] (.own rfl rfl (tsX_len _).symm) (.view rfl) (by rw [List.length_append]; simp only [List.length_cons, List.length_nil]; omega) (by simp)) rfl ?_;refine zF ?_;refine zF ?_;refine zs ?_;refine AL.nil (th_n (AC.region ?_));refine zF ?_;refine zl ?_;refine zm ?_;refine zm ?_;refine zm ?_;refine AL.p (by exact g_build rfl rfl rfl) rfl ?_;refine AL.q (by exact h_litF rfl rfl rfl rfl rfl rfl rfl rfl) rfl ?_;refine AL.q (by exact h_appendMv (byL y) [⟨k, t, y.marks.length⟩] (.own rfl rfl (mvL_len _).symm) (.view rfl) (by rw [List.length_append]; simp only [List.length_cons, List.length_nil]; omega) (by simp)) rfl ?_;refine zF ?_;refine zs ?_;refine AL.nil (th_n ?_)
     (have hpnn := hpn (by assumption); exact ⟨(⟨y.marks ++ [f.1], y.moves ++ [⟨k, t, y.marks.length⟩]⟩, (y.marks.length : Int), 0, 0, 0), ⟨hin, rfl, by dsimp only; rw [List.length_append]; omega, by dsimp only; rw [List.getElem?_append_left hky]; exact hym, ⟨by dsimp only; rw [List.length_append]; simp only [List.length_cons, List.length_nil]; omega, fun a ha => (List.mem_append.1 ha).elim (hJ.b a) (fun g => by rw [List.mem_singleton.1 g]; exact hfbb), by dsimp only; rw [List.length_append]; simp only [List.length_cons, List.length_nil]; omega⟩, hnewI⟩, zw [(200, 200), (101, _), (102, 102), (103, _), (201, 201)] hC (b := by dsimp only; rw [hnewB]; repeat (first | exact True.intro | refine And.intro ?_ ?_ | exact DLead.same | exact rfl | refine ⟨_, _, rfl, rfl, ?_⟩ | refine ⟨_, rfl, ?_⟩ | refine ⟨_, _, rfl, ?_, ?_⟩))⟩)
    refine AC.skip (th_n ?_)
    (obtain ⟨i2, hi2, hpi2⟩ := hps (by assumption); rw [hi2] at hin; dsimp only at hin; have hi2l := posL_lt hi2; exact ⟨(⟨y.marks, y.moves ++ [⟨k, t, (i2 : Int)⟩]⟩, (i2 : Int), 0, 0, 0), ⟨hin, rfl, hky, hym, ⟨hyn, hJ.b, by dsimp only; rw [List.length_append]; simp only [List.length_cons, List.length_nil]; omega⟩, hY.known hky hi2l htm⟩, zw [(200, 200), (101, 101), (102, 102), (103, 103), (201, 201)] hC (by rw [hpi2]; repeat (first | exact True.intro | refine And.intro ?_ ?_ | exact DLead.same | exact rfl | refine ⟨_, rfl, ?_⟩)) (by dsimp only; rw [hY.known_by]; repeat (first | exact True.intro | refine And.intro ?_ ?_ | exact DLead.same | exact rfl | refine ⟨_, _, rfl, rfl, ?_⟩ | refine ⟨_, rfl, ?_⟩ | refine ⟨_, _, rfl, ?_, ?_⟩))⟩)
   rintro ⟨z, v2, _, _, _⟩ ⟨hz1, hz2, hz3, hz4, hz5, hz6⟩;dsimp only at hz1 hz2 hz3 hz4 hz5 hz6 ⊢;refine AC.region ?_;refine zF ?_;refine zF ?_;refine zl ?_;refine zm ?_;refine zm ?_;refine zm ?_;refine AL.p (by exact g_build rfl rfl rfl) rfl ?_;refine AL.q (by exact h_litF rfl rfl rfl rfl rfl rfl rfl rfl) rfl ?_;refine AL.q (by exact h_appendMv y.moves [⟨k, t, v2⟩] (.own rfl rfl (mvL_len _).symm) (.view rfl) (by rw [List.length_append]; simp only [List.length_cons, List.length_nil]; omega) (by simp)) rfl ?_;refine zF ?_;refine zF ?_;refine zs ?_;refine AL.nil (ib_n (th_n (AC.region ?_)));refine zA ?_;refine zm ?_;refine AL.nil (th_n ?_);exact ⟨(j + 1, z), ⟨by dsimp only; omega, hz3, hz4, hz5, hz6, hz1⟩, by dsimp only; omega, zw [(200, 200), (101, 101), (102, _), (103, 103), (201, 201)] hC (b := by dsimp only; rw [hz2]; repeat (first | exact True.intro | refine And.intro ?_ ?_ | exact DLead.same | exact rfl | refine ⟨_, _, rfl, rfl, ?_⟩ | refine ⟨_, rfl, ?_⟩ | refine ⟨_, _, rfl, ?_, ?_⟩))⟩
  refine AC.exit (th_e (th_e (ib_y (ib_n (th_n (AC.region ?_))))));refine zm ?_;refine zA ?_;refine za ?_;refine AL.nil (th_n ?_);have hjj : j = L.length := by omega
  rw [hjj, List.drop_length, exIn] at hin;rw [← hin] at hrun;dsimp only at hrun;exact ⟨(k + 1, y), ⟨by dsimp only; omega, ⟨hyn, hJ.b, by dsimp only; omega⟩, hY.up, by rw [show 301 - (k + 1) = n by omega]; exact hrun⟩, by dsimp only; omega, zw [(200, 200), (101, 101), (102, 102), (103, 103), (201, 201)] hC⟩
 refine AC.exit (th_e (th_e (ib_y (th_n (AC.seq ?_)))));have e : F = (x, none) := (exOut_end (by omega) (by omega) hrun).symm;refine AC.region ?_;refine AL.p (by exact g_load_ptrN rfl rfl rfl rfl rfl) rfl ?_;refine zs ?_;refine AL.nil (th_n (AC.ret (bq_r ?_)));exact retN [(0, 101), (1, 102), (2, 103)] rfl (by rw [e]; show AV.leads _ (.agg [.own 0 x.marks.length, .own 1 x.moves.length, .own 2 (byL x).length, aI 0, aI (-1), aT false]) _; repeat (first | exact DLead.same | exact rfl | refine ⟨_, rfl, ?_⟩ | refine ⟨_, _, rfl, ?_, ?_⟩)) (by rw [e]; repeat (first | exact True.intro | refine And.intro ?_ ?_ | exact rfl | refine ⟨_, _, rfl, rfl, ?_⟩)) rfl rfl
theorem en_sReach : Enters Tryz.prog 99 := enters_of Tryz.func99 rfl rfl
theorem Fires.push {N : Net} {x : Ex} {v : Mv} (h : Fires N x v) (m : List UInt8) (M : List Mv) : Fires N ⟨x.marks ++ [m], M⟩ v := by
 obtain ⟨f, u, h1, h2, h3, h4, h5⟩ := h;exact ⟨f, u, h1, h2, by dsimp only; rw [List.length_append]; omega, by dsimp only; rw [List.length_append]; omega, by rw [mkAt_push h3, mkAt_push h4]; exact h5⟩
theorem exIn_res {N : Net} {k : Nat} {m : List UInt8} : ∀ (L : List Int) {x : Ex}, (∀ t, t ∈ L → t ∈ readyL N m N.ts.length) → k < x.marks.length → mkAt x k = m → (∀ v, v ∈ x.moves → Fires N x v) →
  (∀ v, v ∈ (exIn N k m L x).1.moves → Fires N (exIn N k m L x).1 v) ∧ mkAt (exIn N k m L x).1 k = m ∧ k < (exIn N k m L x).1.marks.length ∧ ∀ p, (exIn N k m L x).2 = some p → p = (-1, -1) ∨ ∃ t, p = ((k : Int), t) ∧ t ∈ readyL N m N.ts.length ∧ (fireI N m t).2 = false
 | [], x, hL, hk, hm, hF => ⟨hF, hm, hk, fun p h => by cases h⟩
 | t :: ts, x, hL, hk, hm, hF => by
  have hT : ∀ u, u ∈ ts → u ∈ readyL N m N.ts.length := fun u hu => hL u (List.mem_cons_of_mem _ hu)
  rw [exIn]
  split
  ·rename_i hf;have hfp : fireI N m t = ((fireI N m t).1, true) := by rw [← hf]
   split
   ·rename_i i he;refine exIn_res ts hT hk hm fun v hv => ?_
    rcases List.mem_append.1 hv with g | g
    ·exact hF v g
    rw [List.mem_singleton.1 g];have hi := posL_lt he;have hg := posL_get he;refine ⟨k, i, rfl, rfl, hk, hi, ?_⟩;show fireI N (mkAt x k) t = (mkAt x i, true);rw [hm, hfp, mkAt_nat hi];rw [List.getElem?_eq_getElem hi] at hg;rw [Option.some.inj hg]
   split
   ·exact ⟨hF, hm, hk, fun p h => .inl (Option.some.inj h).symm⟩
   refine exIn_res ts hT (by dsimp only; rw [List.length_append]; omega) ((mkAt_push hk).trans hm) fun v hv => ?_
   rcases List.mem_append.1 hv with g | g
   ·exact (hF v g).push _ _
   rw [List.mem_singleton.1 g];refine ⟨k, x.marks.length, rfl, rfl, by dsimp only; rw [List.length_append]; omega, by dsimp only; rw [List.length_append]; simp, ?_⟩;rw [mkAt_push hk, mkAt_last, hm];exact hfp
  rename_i hf;exact ⟨hF, hm, hk, fun p h => .inr ⟨t, (Option.some.inj h).symm, hL t (List.mem_cons_self ..), by simpa using hf⟩⟩
theorem exOut_res {N : Net} : ∀ (n k : Nat) {x : Ex}, (∀ v, v ∈ x.moves → Fires N x v) →
  (∀ v, v ∈ (exOut N n k x).1.moves → Fires N (exOut N n k x).1 v) ∧ ∀ p, (exOut N n k x).2 = some p → p = (-1, -1) ∨ ∃ (j : Nat) (t : Int), p = ((j : Int), t) ∧ j < (exOut N n k x).1.marks.length ∧ t ∈ readyL N (mkAt (exOut N n k x).1 j) N.ts.length ∧ (fireI N (mkAt (exOut N n k x).1 j) t).2 = false
 | 0, k, x, h => ⟨h, fun p e => by cases e⟩
 | n + 1, k, x, h => by
  rw [exOut]
  split
  ·rename_i hk;have h1 := exIn_res (readyL N (mkAt x k) N.ts.length) (fun t ht => ht) hk rfl h
   split
   ·rename_i y e;rw [e] at h1;exact exOut_res n (k + 1) h1.1
   refine ⟨h1.1, fun p hp => ?_⟩;rcases h1.2.2.2 p hp with g | ⟨t, g1, g2, g3⟩
   ·exact .inl g
   exact .inr ⟨k, t, g1, h1.2.2.1, by rw [h1.2.1]; exact g2, by rw [h1.2.1]; exact g3⟩
  exact ⟨h, fun p e => by cases e⟩
theorem explR_res (N : Net) (m : List UInt8) : (∀ v, v ∈ (explR N m).1.moves → Fires N (explR N m).1 v) ∧ ∀ p, (explR N m).2 = some p → p = (-1, -1) ∨ ∃ (j : Nat) (t : Int), p = ((j : Int), t) ∧ j < (explR N m).1.marks.length ∧ t ∈ readyL N (mkAt (explR N m).1 j) N.ts.length ∧ (fireI N (mkAt (explR N m).1 j) t).2 = false := exOut_res 301 0 fun v hv => by simp at hv
theorem explR_end (N : Net) (m : List UInt8) : (explR N m).2 = none ∨ (explR N m).2 = some (-1, -1) ∨ ∃ (j : Nat) (t : Int), (explR N m).2 = some ((j : Int), t) ∧ j < (explR N m).1.marks.length ∧ 0 ≤ t ∧ t < N.ts.length := by
 cases h : (explR N m).2 with
 | none => exact .inl rfl
 | some p =>
  rcases (explR_res N m).2 p h with rfl | ⟨j, t, rfl, h1, h2, _⟩
  ·exact .inr (.inl rfl)
  exact .inr (.inr ⟨j, t, rfl, h1, readyL_in _ _ _ _ h2⟩)
theorem ref_end (N : Net) (m : List UInt8) : (exB (explR N m) = true → rBad (explR N m).2 < 0 ∧ rFull (explR N m).2 = false) ∧ (exB (explR N m) = false → 0 ≤ rBad (explR N m).2 ∨ rFull (explR N m).2 = true) := by
 unfold exB;rcases explR_end N m with g | g | ⟨j, t, g, _, g2, _⟩ <;> rw [g]
 ·exact ⟨fun _ => ⟨by decide, rfl⟩, fun h => by cases h⟩
 ·exact ⟨fun h => (by cases h), fun _ => .inr rfl⟩
 exact ⟨fun h => (by cases h), fun _ => .inl g2⟩
set_option maxHeartbeats 4000000 in
theorem sExplore_spec (s : Stg) (hB : StgB s) : ASpec Tryz.prog 12 [stgA s] [] (Fun1 (.tup [.agg [.own 0 (explS s).1.marks.length, .own 1 (explS s).1.moves.length], aT (explS s).2]) [(0, .arr 9 1 (tsX (explS s).1.marks)), (1, .arr 52 3 (mvL (explS s).1.moves))]) := by
 have hV := l2Good_spec s hB.L;have hX := sReach_spec s hB;have hend := ref_end s.net s.start;have hR : explS s = if (goodS s && exB (explR s.net s.start)) = true then ((explR s.net s.start).1, true) else (⟨[], []⟩, false) := rfl
 obtain ⟨b, hb⟩ : ∃ b, b = goodS s := ⟨_, rfl⟩;rw [← hb] at hV hX hR;obtain ⟨F, hF⟩ : ∃ F, F = explR s.net s.start := ⟨_, rfl⟩;rw [← hF] at hX hR hend;obtain ⟨G, hG⟩ : ∃ G, G = explS s := ⟨_, rfl⟩;rw [← hG] at hR ⊢;have hN1 : b = false → G = (⟨[], []⟩, false) := fun q => hR.trans (if_neg (by rw [q]; simp))
 have hN2 : exB F = false → G = (⟨[], []⟩, false) := fun q => hR.trans (if_neg (by rw [q]; simp))
 have hY2 : b = true → exB F = true → G = (F.1, true) := fun q1 q2 => hR.trans (if_pos (by rw [q1, q2]; rfl))
 clear hG hb hF;refine ASpec.of Tryz.func12 rfl rfl fun C hC => ?_
 refine AC.seq (AC.region ?_);refine AL.q (by exact h_boxF rfl rfl) rfl ?_;refine AL.q (by exact h_alloc rfl) rfl ?_;refine za ?_;refine AL.nil (th_n (AC.seq (AC.seq (AC.region ?_))));refine AL.p (by exact g_load_refN rfl rfl rfl rfl) rfl ?_;refine AL.q (by exact h_pure en_l2Good rfl rfl (by repeat (first | exact rfl | exact DLead.same | refine ⟨_, _, rfl, ?_, ?_⟩ | refine ⟨_, rfl, ?_⟩)) hV rfl) rfl ?_;refine AL.p (by exact g_not rfl) rfl ?_;refine AL.nil (th_n ?_);refine AC.condB rfl (fun h0 => ?_) (fun h0 => ?_)
 ·refine AC.seq (AC.region ?_);refine AL.p (by exact g_build rfl rfl rfl) rfl ?_;refine zs ?_;refine za ?_;refine AL.nil (th_n ?_);refine AC.weak ((Weak.nilOwnP 2 0 (e := 9) (sz := 1) rfl rfl rfl rfl rfl).trans (Weak.nilOwnP 2 1 (e := 52) (sz := 3) rfl rfl rfl rfl rfl)) ?_;refine AC.ret (th_r (bq_r ?_));have e := hN1 (by simpa using h0);exact retN [(0, 32), (1, 40)] rfl (by rw [e]; show AV.leads _ (.tup [.agg [.own 0 0, .own 1 0], aT false]) _; repeat (first | exact DLead.same | exact rfl | refine ⟨_, rfl, ?_⟩ | refine ⟨_, _, rfl, ?_, ?_⟩)) (by rw [e]; repeat (first | exact True.intro | refine And.intro ?_ ?_ | exact rfl | refine ⟨_, _, rfl, rfl, ?_⟩)) rfl rfl
 refine AC.skip (th_n (AC.seq ?_));have q1 : b = true := by simpa using h0
 have hX2 := hX q1;refine AC.region ?_;refine AL.p (by exact g_load_refN rfl rfl rfl rfl) rfl ?_;refine AL.q (by exact h_fun (cs := []) en_sReach rfl rfl (by repeat (first | exact rfl | exact DLead.same | refine ⟨_, _, rfl, ?_, ?_⟩ | refine ⟨_, rfl, ?_⟩)) (by repeat (exact True.intro)) hX2 rfl rfl rfl rfl) rfl ?_;refine AL.q (by exact h_alloc rfl) rfl ?_;refine zs ?_;refine AL.nil (th_n (AC.seq (AC.seq ?_)));refine AC.weak (t := ⟨21, 300, [(2, .ptr 201 0), (3, aT false), (4, .ptr 200 0)], [(200, some (.cells 118 (refA F 101 102 103))), (201, some (.cells 35 zRG)), (101, some (.arr 9 1 (tsX F.1.marks))), (102, some (.arr 52 3 (mvL F.1.moves))), (103, some (.arr 52 3 (mvL (byL F.1))))]⟩) (zw [(200, _), (201, _), (101, _), (102, _), (103, _)] hC) ?_;refine AC.region ?_;refine zF ?_;refine zl ?_;refine zc ?_;refine zm ?_;refine AL.caseG rfl rfl (fun h1 => ?_) (fun h1 => ?_)
 ·refine zn ?_;refine zn ?_;refine zQ ?_;refine AL.nil (th_n ?_);refine AC.condT rfl ?_;refine AC.seq (AC.region ?_);refine AL.p (by exact g_build rfl rfl rfl) rfl ?_;refine zs ?_;refine za ?_;refine AL.nil (th_n ?_);refine AC.weak ((Weak.nilOwnP 2 0 (e := 9) (sz := 1) rfl rfl rfl rfl rfl).trans (Weak.nilOwnP 2 1 (e := 52) (sz := 3) rfl rfl rfl rfl rfl)) ?_;refine AC.ret (th_r (bq_r ?_));have hbad : exB F = false := by refine Bool.eq_false_iff.2 fun q => ?_; obtain ⟨q1, q2⟩ := hend.1 q; omega
  have e := hN2 hbad;exact retN [(0, _), (1, _)] rfl (by rw [e]; show AV.leads _ (.tup [.agg [.own 0 0, .own 1 0], aT false]) _; repeat (first | exact DLead.same | exact rfl | refine ⟨_, rfl, ?_⟩ | refine ⟨_, _, rfl, ?_, ?_⟩)) (by rw [e]; repeat (first | exact True.intro | refine And.intro ?_ ?_ | exact rfl | refine ⟨_, _, rfl, rfl, ?_⟩)) rfl rfl
 refine zy ?_;refine zF ?_;refine zy ?_;refine zl ?_;refine zP ?_;refine AL.nil (th_n ?_);refine AC.condB rfl (fun h2 => ?_) (fun h2 => ?_)
 ·refine AC.seq (AC.region ?_);refine AL.p (by exact g_build rfl rfl rfl) rfl ?_;refine zs ?_;refine za ?_;refine AL.nil (th_n ?_);refine AC.weak ((Weak.nilOwnP 2 0 (e := 9) (sz := 1) rfl rfl rfl rfl rfl).trans (Weak.nilOwnP 2 1 (e := 52) (sz := 3) rfl rfl rfl rfl rfl)) ?_;refine AC.ret (th_r (bq_r ?_));have hbad : exB F = false := by refine Bool.eq_false_iff.2 fun q => ?_; obtain ⟨q1, q2⟩ := hend.1 q; (rw [q2] at *; simp_all)
  have e := hN2 hbad;exact retN [(0, _), (1, _)] rfl (by rw [e]; show AV.leads _ (.tup [.agg [.own 0 0, .own 1 0], aT false]) _; repeat (first | exact DLead.same | exact rfl | refine ⟨_, rfl, ?_⟩ | refine ⟨_, _, rfl, ?_, ?_⟩)) (by rw [e]; repeat (first | exact True.intro | refine And.intro ?_ ?_ | exact rfl | refine ⟨_, _, rfl, rfl, ?_⟩)) rfl rfl
 refine AC.skip (th_n (AC.seq (AC.region ?_)));refine zF ?_;refine AL.p (by exact g_load_ptrN rfl rfl rfl rfl rfl) rfl ?_;refine zs ?_;refine za ?_;refine AL.nil (th_n (AC.ret (bq_r ?_)));have hgood : exB F = true := by refine Bool.not_eq_false _ ▸ fun q => ?_; rcases hend.2 q with q | q; (omega); (simp_all)
 have e := hY2 q1 hgood;exact retN [(0, 101), (1, 102)] rfl (by rw [e]; show AV.leads _ (.tup [.agg [.own 0 F.1.marks.length, .own 1 F.1.moves.length], aT true]) _; repeat (first | exact DLead.same | exact rfl | refine ⟨_, rfl, ?_⟩ | refine ⟨_, _, rfl, ?_, ?_⟩)) (by rw [e]; repeat (first | exact True.intro | refine And.intro ?_ ?_ | exact rfl | refine ⟨_, _, rfl, rfl, ?_⟩)) rfl rfl
theorem en_sExplore : Enters Tryz.prog 12 := enters_of Tryz.func12 rfl rfl
structure Ar where
 from_ : Int
 sig : Int
 up : Bool
 to_ : Int
 deriving DecidableEq
def vAt (V : List (Option Bool)) (i : Nat) : Option Bool := V.getD i none
theorem vAt_get {V : List (Option Bool)} {i : Nat} (h : i < V.length) : vAt V i = V[i] := by unfold vAt; rw [List.getD_eq_getElem?_getD, List.getElem?_eq_getElem h]; rfl
theorem vAt_set {V : List (Option Bool)} {i j : Nat} {x : Option Bool} : vAt (V.set i x) j = if j = i ∧ i < V.length then x else vAt V j := by
 unfold vAt;rw [List.getD_eq_getElem?_getD, List.getD_eq_getElem?_getD, List.getElem?_set]
 by_cases e : i = j
 ·subst e
  by_cases h : i < V.length
  ·rw [if_pos rfl, if_pos h, if_pos ⟨rfl, h⟩]; rfl
  rw [if_pos rfl, if_neg h, if_neg (fun q => h q.2), List.getElem?_eq_none (by omega)]
 rw [if_neg e, if_neg (fun q => e q.1.symm)]
theorem set_same {V : List (Option Bool)} {i : Nat} {x : Option Bool} (h : i < V.length) (hx : vAt V i = x) : V.set i x = V := by
 rw [vAt_get h] at hx;rw [← hx, List.set_getElem_self]
def putV (V : List (Option Bool)) (i : Nat) (b : Bool) : Option (List (Option Bool)) := match vAt V i with | none => some (V.set i (some b)) | some x => if x = b then some V else none
def joinV (V : List (Option Bool)) (i j : Nat) : Option (List (Option Bool)) := match vAt V i, vAt V j with
 | none, none => some V
 | none, some y => some (V.set i (some y))
 | some x, none => some (V.set j (some x))
 | some x, some y => if x = y then some V else none
def stepV (sg : Int) (a : Ar) (V : List (Option Bool)) : Option (List (Option Bool)) := if a.sig = sg then (putV V a.from_.toNat (!a.up)).bind (fun W => putV W a.to_.toNat a.up) else joinV V a.from_.toNat a.to_.toNat
def passV (sg : Int) : List Ar → List (Option Bool) → Option (List (Option Bool))
 | [], V => some V
 | a :: l, V => (stepV sg a V).bind (passV sg l)
def iterV (sg : Int) (L : List Ar) : Nat → List (Option Bool) → Option (List (Option Bool))
 | 0, V => some V
 | k + 1, V => (passV sg L V).bind (iterV sg L k)
def valF (sg : Int) (L : List Ar) (n : Nat) : Option (List (Option Bool)) := iterV sg L (n + 1) (List.replicate n none)
def cnN (V : List (Option Bool)) : Nat := V.countP Option.isNone
theorem cnN_set : ∀ {V : List (Option Bool)} {i : Nat} {b : Bool}, i < V.length → vAt V i = none → cnN (V.set i (some b)) + 1 = cnN V
 | [], i, b, h, _ => by simp at h
 | x :: V, 0, b, h, hn => by
  have hx : x = none := hn;subst hx;unfold cnN;rw [List.set_cons_zero, List.countP_cons, List.countP_cons]; simp
 | x :: V, i + 1, b, h, hn => by
  have ih := cnN_set (V := V) (i := i) (b := b) (by simpa using h) (by simpa [vAt] using hn);unfold cnN at ih ⊢;rw [List.set_cons_succ, List.countP_cons, List.countP_cons];omega
def Ups (V W : List (Option Bool)) : Prop := W.length = V.length ∧ (∀ i x, vAt V i = some x → vAt W i = some x) ∧ (W = V ∨ cnN W < cnN V)
theorem Ups.refl (V : List (Option Bool)) : Ups V V := ⟨rfl, fun _ _ h => h, .inl rfl⟩
theorem Ups.trans {V W Z : List (Option Bool)} (h : Ups V W) (k : Ups W Z) : Ups V Z := ⟨k.1.trans h.1, fun i x g => k.2.1 i x (h.2.1 i x g), by
 rcases h.2.2 with rfl | h1
 ·exact k.2.2
 rcases k.2.2 with rfl | k1
 ·exact .inr h1
 exact .inr (Nat.lt_trans k1 h1)⟩
theorem Ups.set {V : List (Option Bool)} {i : Nat} (h : i < V.length) (hn : vAt V i = none) (b : Bool) : Ups V (V.set i (some b)) := ⟨List.length_set .., fun j x g => by
 rw [vAt_set]
 split
 ·rename_i q; rw [q.1, hn] at g; cases g
 exact g, .inr (by have := cnN_set (b := b) h hn; omega)⟩
theorem putV_ups {V W : List (Option Bool)} {i : Nat} {b : Bool} (hi : i < V.length) (h : putV V i b = some W) : Ups V W := by
 unfold putV at h
 split at h
 ·rename_i hn; cases h; exact Ups.set hi hn b
 split at h
 ·cases h; exact Ups.refl V
 cases h
theorem joinV_ups {V W : List (Option Bool)} {i j : Nat} (hi : i < V.length) (hj : j < V.length) (h : joinV V i j = some W) : Ups V W := by
 unfold joinV at h
 split at h
 ·cases h; exact Ups.refl V
 ·rename_i h1 h2; cases h; exact Ups.set hi h1 _
 ·rename_i h1 h2; cases h; exact Ups.set hj h2 _
 split at h
 ·cases h; exact Ups.refl V
 cases h
def ArIn (n : Nat) (a : Ar) : Prop := (0 ≤ a.from_ ∧ a.from_ < n) ∧ 0 ≤ a.to_ ∧ a.to_ < n
theorem stepV_ups {sg : Int} {a : Ar} {V W : List (Option Bool)} (ha : ArIn V.length a) (h : stepV sg a V = some W) : Ups V W := by
 obtain ⟨h1, h2⟩ := ha;unfold stepV at h
 split at h
 ·cases hp : putV V a.from_.toNat (!a.up) with
  | none => rw [hp] at h; cases h
  | some Z =>
   rw [hp] at h;have k1 := putV_ups (by omega) hp;exact k1.trans (putV_ups (by rw [k1.1]; omega) h)
 exact joinV_ups (by omega) (by omega) h
theorem passV_ups {sg : Int} {n : Nat} : ∀ {L : List Ar} {V W : List (Option Bool)}, V.length = n → (∀ a, a ∈ L → ArIn n a) → passV sg L V = some W → Ups V W
 | [], V, W, _, _, h => by cases h; exact Ups.refl V
 | a :: L, V, W, hl, hL, h => by
  rw [passV] at h;cases hs : stepV sg a V with
  | none => rw [hs] at h; cases h
  | some Z =>
   rw [hs] at h;have k1 := stepV_ups (by rw [hl]; exact hL a (List.mem_cons_self ..)) hs;exact k1.trans (passV_ups (k1.1.trans hl) (fun b hb => hL b (List.mem_cons_of_mem _ hb)) h)
theorem iterV_fail {sg : Int} {L : List Ar} {V : List (Option Bool)} (h : passV sg L V = none) {k : Nat} (hk : 1 ≤ k) : iterV sg L k V = none := by
 obtain ⟨q, rfl⟩ : ∃ q, k = q + 1 := ⟨k - 1, by omega⟩;rw [iterV, h]; rfl
def stepR (sg : Int) (a : Ar) (V : List (Option Bool)) : Option (List (Option Bool)) :=
 if a.sig = sg then
  (if (vAt V a.from_.toNat = some a.up ∨ vAt V a.to_.toNat = some (!a.up)) then none else some ((V.set a.from_.toNat (some (!a.up))).set a.to_.toNat (some a.up)))
 else joinV V a.from_.toNat a.to_.toNat
def passR (sg : Int) : List Ar → List (Option Bool) → Option (List (Option Bool))
 | [], V => some V
 | a :: l, V => (stepR sg a V).bind (passR sg l)
def iterR (sg : Int) (L : List Ar) : Nat → List (Option Bool) → Option (List (Option Bool))
 | 0, V => some V
 | k + 1, V => (passR sg L V).bind (iterR sg L k)
theorem nb_ne (b : Bool) {x : Bool} (h : ¬ x = b) : x = !b := by cases b <;> cases x <;> simp_all
theorem stepR_eq {sg : Int} {a : Ar} {V : List (Option Bool)} (ha : ArIn V.length a) (hne : a.sig = sg → a.from_ ≠ a.to_) : stepR sg a V = stepV sg a V := by
 obtain ⟨h1, h2⟩ := ha;unfold stepR stepV
 by_cases hs : a.sig = sg
 ·rw [if_pos hs, if_pos hs];have hft : a.to_.toNat ≠ a.from_.toNat := by have := hne hs; omega
  have hf : a.from_.toNat < V.length := by omega
  have ht : a.to_.toNat < V.length := by omega
  unfold putV;cases e1 : vAt V a.from_.toNat with
  | none =>
   have hz : vAt (V.set a.from_.toNat (some (!a.up))) a.to_.toNat = vAt V a.to_.toNat := by rw [vAt_set, if_neg (fun q => hft q.1)]
   simp only [reduceCtorEq, false_or, Option.bind_some];rw [hz];cases e2 : vAt V a.to_.toNat with
   | none => rw [if_neg (by simp)]
   | some y =>
    by_cases q : y = a.up
    ·subst q;rw [if_neg (by simp)];simp only [if_true];rw [set_same (by rw [List.length_set]; exact ht) (hz.trans e2)]
    have q2 := nb_ne _ q;subst q2;rw [if_pos rfl];simp
  | some x =>
   by_cases q : x = !a.up
   ·subst q;simp only [if_true, Option.bind_some];rw [set_same hf e1];cases e2 : vAt V a.to_.toNat with
    | none => rw [if_neg (by simp)]
    | some y =>
     by_cases q : y = a.up
     ·subst q;rw [if_neg (by simp)];simp only [if_true];rw [set_same ht e2]
     have q2 := nb_ne _ q;subst q2;rw [if_pos (.inr rfl)];simp
   have q2 : x = a.up := by cases x <;> cases hu : a.up <;> simp_all
   subst q2;rw [if_pos (.inl rfl)];simp
 rw [if_neg hs, if_neg hs]
theorem stepR_mono {sg : Int} {a : Ar} {V W : List (Option Bool)} (ha : ArIn V.length a) (h : stepR sg a V = some W) : W.length = V.length ∧ ∀ i, (vAt V i).isSome = true → (vAt W i).isSome = true := by
 obtain ⟨h1, h2⟩ := ha;unfold stepR at h
 split at h
 ·split at h
  ·cases h
  cases h;refine ⟨by rw [List.length_set, List.length_set], fun i hi => ?_⟩;rw [vAt_set]
  split
  ·rfl
  rw [vAt_set]; split
  ·rfl
  exact hi
 have := joinV_ups (by omega) (by omega) h;refine ⟨this.1, fun i hi => ?_⟩;cases e : vAt V i with
 | none => rw [e] at hi; cases hi
 | some x => rw [this.2.1 i x e]; rfl
theorem passR_mono {sg : Int} {n : Nat} : ∀ {L : List Ar} {V W : List (Option Bool)}, V.length = n → (∀ a, a ∈ L → ArIn n a) → passR sg L V = some W → W.length = n ∧ ∀ i, (vAt V i).isSome = true → (vAt W i).isSome = true
 | [], V, W, hl, _, h => by cases h; exact ⟨hl, fun _ h => h⟩
 | a :: L, V, W, hl, hL, h => by
  rw [passR] at h;cases hs : stepR sg a V with
  | none => rw [hs] at h; cases h
  | some Z =>
   rw [hs] at h;have k1 := stepR_mono (by rw [hl]; exact hL a (List.mem_cons_self ..)) hs;have k2 := passR_mono (k1.1.trans hl) (fun b hb => hL b (List.mem_cons_of_mem _ hb)) h;exact ⟨k2.1, fun i hi => k2.2 i (k1.2 i hi)⟩
theorem passR_eq {sg : Int} {n : Nat} : ∀ {L : List Ar} {V : List (Option Bool)}, V.length = n → (∀ a, a ∈ L → ArIn n a) → (∀ a, a ∈ L → a.sig = sg → a.from_ ≠ a.to_) → passR sg L V = passV sg L V
 | [], V, _, _, _ => rfl
 | a :: L, V, hl, hL, hN => by
  have ha : ArIn V.length a := by rw [hl]; exact hL a (List.mem_cons_self ..)
  rw [passR, passV, stepR_eq ha (hN a (List.mem_cons_self ..))];cases hs : stepV sg a V with
  | none => rfl
  | some Z =>
   have k1 := stepV_ups ha hs;exact passR_eq (k1.1.trans hl) (fun b hb => hL b (List.mem_cons_of_mem _ hb)) (fun b hb => hN b (List.mem_cons_of_mem _ hb))
theorem iterR_eq {sg : Int} {n : Nat} {L : List Ar} (hL : ∀ a, a ∈ L → ArIn n a) (hN : ∀ a, a ∈ L → a.sig = sg → a.from_ ≠ a.to_) : ∀ (k : Nat) {V : List (Option Bool)}, V.length = n → iterR sg L k V = iterV sg L k V
 | 0, V, _ => rfl
 | k + 1, V, hl => by
  rw [iterR, iterV, passR_eq hl hL hN];cases hp : passV sg L V with
  | none => rfl
  | some W => exact iterR_eq hL hN k ((passV_ups hl hL hp).1.trans hl)
theorem selfV {sg : Int} {n : Nat} {a : Ar} (h1 : a.sig = sg) (h2 : a.from_ = a.to_) : ∀ {L : List Ar} {V : List (Option Bool)}, V.length = n → (∀ b, b ∈ L → ArIn n b) → a ∈ L → passV sg L V = none
 | b :: L, V, hl, hL, ha => by
  have hb : ArIn V.length b := by rw [hl]; exact hL b (List.mem_cons_self ..)
  rw [passV];rcases List.mem_cons.1 ha with rfl | ha
  ·have hs : stepV sg a V = none := by
    obtain ⟨g1, g2⟩ := hb;unfold stepV;rw [if_pos h1];cases hp : putV V a.from_.toNat (!a.up) with
    | none => rfl
    | some Z =>
     have hz : vAt Z a.from_.toNat = some (!a.up) := by
      unfold putV at hp
      split at hp
      ·cases hp; rw [vAt_set, if_pos ⟨rfl, by omega⟩]
      rename_i x e
      split at hp
      ·rename_i q; cases hp; rw [e, q]
      cases hp
     rw [Option.bind_some];unfold putV;rw [← h2, hz];simp
   rw [hs]; rfl
  cases hs : stepV sg b V with
  | none => rfl
  | some Z =>
   have k1 := stepV_ups hb hs;exact selfV h1 h2 (k1.1.trans hl) (fun c hc => hL c (List.mem_cons_of_mem _ hc)) ha
theorem selfR1 {sg : Int} {n : Nat} {a : Ar} (h1 : a.sig = sg) (h2 : a.from_ = a.to_) : ∀ {L : List Ar} {V W : List (Option Bool)}, V.length = n → (∀ b, b ∈ L → ArIn n b) → a ∈ L → passR sg L V = some W → (vAt W a.from_.toNat).isSome = true
 | b :: L, V, W, hl, hL, ha, h => by
  have hb : ArIn V.length b := by rw [hl]; exact hL b (List.mem_cons_self ..)
  have hT : ∀ c, c ∈ L → ArIn n c := fun c hc => hL c (List.mem_cons_of_mem _ hc)
  rw [passR] at h;cases hs : stepR sg b V with
  | none => rw [hs] at h; cases h
  | some Z =>
   rw [hs] at h;have k1 := stepR_mono hb hs;rcases List.mem_cons.1 ha with rfl | ha
   ·have hz : (vAt Z a.from_.toNat).isSome = true := by
     obtain ⟨g1, g2⟩ := hb;unfold stepR at hs;rw [if_pos h1] at hs
     split at hs
     ·cases hs
     cases hs;rw [← h2, vAt_set, if_pos ⟨rfl, by rw [List.length_set]; omega⟩]; rfl
    exact (passR_mono (k1.1.trans hl) hT h).2 _ hz
   exact selfR1 h1 h2 (k1.1.trans hl) hT ha h
theorem selfR2 {sg : Int} {n : Nat} {a : Ar} (h1 : a.sig = sg) (h2 : a.from_ = a.to_) : ∀ {L : List Ar} {V : List (Option Bool)}, V.length = n → (∀ b, b ∈ L → ArIn n b) → a ∈ L → (vAt V a.from_.toNat).isSome = true → passR sg L V = none
 | b :: L, V, hl, hL, ha, hv => by
  have hb : ArIn V.length b := by rw [hl]; exact hL b (List.mem_cons_self ..)
  rw [passR];cases hs : stepR sg b V with
  | none => rfl
  | some Z =>
   have k1 := stepR_mono hb hs;rcases List.mem_cons.1 ha with rfl | ha
   ·exfalso;unfold stepR at hs;rw [if_pos h1, ← h2] at hs;cases e : vAt V a.from_.toNat with
    | none => rw [e] at hv; cases hv
    | some x =>
     rw [e] at hs
     by_cases q : x = a.up
     ·subst q; rw [if_pos (.inl rfl)] at hs; cases hs
     have q2 := nb_ne _ q;subst q2;rw [if_pos (.inr rfl)] at hs; cases hs
   exact selfR2 h1 h2 (k1.1.trans hl) (fun c hc => hL c (List.mem_cons_of_mem _ hc)) ha (k1.2 _ hv)
theorem valR_eq {sg : Int} {n : Nat} {L : List Ar} (hn : 1 ≤ n) (hL : ∀ a, a ∈ L → ArIn n a) : iterR sg L (n + 1) (List.replicate n none) = valF sg L n := by
 unfold valF
 by_cases h : ∀ a, a ∈ L → a.sig = sg → a.from_ ≠ a.to_
 ·exact iterR_eq hL h _ (by simp)
 obtain ⟨a, ha⟩ := Classical.not_forall.1 h;obtain ⟨ha1, ha2⟩ := Classical.not_imp.1 ha;obtain ⟨ha2, ha3⟩ := Classical.not_imp.1 ha2;have ha3 : a.from_ = a.to_ := Classical.not_not.1 ha3;rw [iterV_fail (selfV ha2 ha3 (by simp) hL ha1) (by omega)];obtain ⟨q, rfl⟩ : ∃ q, n = q + 1 := ⟨n - 1, by omega⟩;rw [iterR];cases hp : passR sg L (List.replicate (q + 1) none) with
 | none => rfl
 | some W =>
  rw [Option.bind_some, iterR, selfR2 ha2 ha3 (passR_mono (by simp) hL hp).1 hL ha1 (selfR1 ha2 ha3 (by simp) hL ha1 hp)]
  rfl
theorem l5Bit_spec (up : Bool) : ASpec Tryz.prog 198 [aT up] [] (Pure1 (aS (bstr [bitLb up]))) := by
 refine ASpec.of Tryz.func198 rfl rfl fun C hC => ?_
 refine AC.seq (AC.region ?_);refine za ?_;refine AL.nil (th_n (AC.seq (AC.seq (AC.region ?_))));refine zm ?_;refine AL.nil (th_n ?_);refine AC.condB rfl (fun h0 => ?_) (fun h0 => ?_)
 ·refine AC.seq (AC.region ?_);refine za ?_;refine AL.nil (th_n (AC.ret (th_r (bq_r ?_))));exact ret1 rfl (by rw [h0]; rfl)
 refine AC.skip (th_n (AC.seq (AC.region ?_)));refine za ?_;refine AL.nil (th_n (AC.ret (bq_r ?_)));exact ret1 rfl (by rw [h0]; rfl)
theorem en_l5Bit : Enters Tryz.prog 198 := enters_of Tryz.func198 rfl rfl
theorem set_parts {c : List UInt8} {i : Nat} {b : UInt8} (h : i < c.length) : bstr (c.take i) ++ bstr [b] ++ bstr (c.drop (i + 1)) = bstr (c.set i b) := by
 rw [bstr_append, bstr_append, List.set_eq_take_append_cons_drop, if_pos h]; simp
set_option maxHeartbeats 1000000 in
theorem l5Set_spec (c : List UInt8) (i : Nat) (b : UInt8) (hc : c.length ≤ 2000000) (hi : i < c.length) : ASpec Tryz.prog 247 [aS (bstr c), aI i, aS (bstr [b])] [] (Pure1 (aS (bstr (c.set i b)))) := by
 have hsz := bstr_size c;have hx1 : (bstr c).extract 0 i = bstr (c.take i) := by rw [bstr_cut c (Nat.zero_le _) (by omega)]; simp
 have hx2 : (bstr c).extract (i + 1) (bstr c).size = bstr (c.drop (i + 1)) := by rw [hsz, bstr_cut c (by omega) (Nat.le_refl _), List.take_length]
 have hs1 : (bstr (c.take i)).size = i := by rw [bstr_size, List.length_take]; omega
 have hs2 : (bstr [b]).size = 1 := rfl;have hs3 : (bstr (c.drop (i + 1))).size = c.length - (i + 1) := by rw [bstr_size, List.length_drop]
 have hst := set_parts (b := b) hi;refine ASpec.of Tryz.func247 rfl rfl fun C hC => ?_
 refine AC.seq (AC.region ?_);refine za ?_;refine AL.nil (th_n (AC.seq ?_));refine AC.drawn' mixed_ok [[], [], [0,1], [], [0,1,2,3], [], [], [6], [5,6,7], [0,1,2,3,4,5,6,7,8], [0,1,2,3,4,5,6,7,8,9]] (by decide) ?_;refine zd 0 [] 11 (by exact mv1 rfl) ?_;refine zd 1 [] 11 (by exact mv1 rfl) ?_;refine zd 2 [0,1] 11 (by exact g_slice_str (h := i) rfl rfl .none (.some rfl rfl) (Nat.zero_le _) (by omega) hx1) ?_;refine zd 3 [] 11 (by exact mv1 rfl) ?_;refine zd 4 [0,1,2,3] 11 (by exact g_sadd rfl rfl (by omega)) ?_;refine zd 5 [] 11 (by exact mv1 rfl) ?_;refine zd 6 [] 11 (by exact mv1 rfl) ?_;refine zd 7 [6] 11 (by exact g_arith rfl rfl rfl (by exact wrap_i64 (by omega))) ?_;refine zd 8 [5,6,7] 11 (by exact g_slice_str (l := i + 1) rfl rfl (.some rfl rfl) .none (by omega) (Nat.le_refl _) hx2) ?_;refine zd 9 (List.range 9) 11 (by exact g_sadd rfl rfl (by rw [ByteArray.size_append]; omega)) ?_;refine zd 10 (List.range 10) 11 (by exact as1 rfl) ?_;refine zj 11 ?_;refine th_n (AC.ret (bq_r ?_));exact ret1 rfl (by rw [hst])
theorem en_l5Set : Enters Tryz.prog 247 := enters_of Tryz.func247 rfl rfl
abbrev arD (a : Ar) : List DV := [dI a.from_, dI a.sig, dT a.up, dI a.to_]
abbrev arA (a : Ar) : AV := .agg [aI a.from_, aI a.sig, aT a.up, aI a.to_]
abbrev arL (l : List Ar) : List (List DV) := l.map arD
abbrev vArs (l : List Ar) : DV := .view 75 4 (arL l)
theorem arL_len (l : List Ar) : (arL l).length = l.length := List.length_map _
theorem arL_get {l : List Ar} {k : Nat} (h : k < l.length) : (arL l)[k]? = some [dI l[k].from_, dI l[k].sig, dT l[k].up, dI l[k].to_] := by rw [List.getElem?_map, List.getElem?_eq_getElem h]; rfl
theorem h_appendAr (acc new : List Ar) {s : ASt} {dst : Option Nat} {ty : Nat} {pos : String} {af : Array Edge} {gd : Option (Nat × Bool)} {x y : Operand} {f : Nat} {ids ids2 : List Nat} {gone : List (Nat × Option Chunk)}
  (hto : AppTo s x 75 4 (arL acc) ids gone) (harg : AppArg s y 4 (arL new) ids2) (h : (acc ++ new).length ≤ 100000000) (hnew : gone = [] → 0 < new.length) :
  NOp Tryz.prog (ids ++ ids2) s ⟨dst, .call { callee := .builtin .append, args := #[x, y], argTypes := #[66, 66] }, ty, pos, af, gd⟩ f ⟨.own f (acc ++ new).length, (f, some (.arr 75 4 (arL (acc ++ new)))) :: gone⟩ := by
 have := h_append (P := Tryz.prog) (s := s) (dst := dst) (ty := ty) (pos := pos) (af := af) (gd := gd) (x := x) (y := y) (f := f) (t := 66) (tx := 66) (k := (acc ++ new).length) rfl rfl rfl rfl rfl rfl hto harg (by simp) (by omega) (by show (acc ++ new).length * 32 ≤ _; omega) (fun h => by rw [arL_len]; exact hnew h)
 rwa [← List.map_append] at this
def arcOf (labs : List Lab) (v : Mv) : Ar := ⟨v.from_, (lAt labs v.by_.toNat).sig, (lAt labs v.by_.toNat).up, v.to_⟩
def arcsOf (s : Stg) (x : Ex) : List Ar := x.moves.map (arcOf s.labs)
theorem arcsOf_len (s : Stg) (x : Ex) : (arcsOf s x).length = x.moves.length := List.length_map _
theorem arcsOf_take {s : Stg} {x : Ex} {j : Nat} (h : j < x.moves.length) : (arcsOf s x).take (j + 1) = (arcsOf s x).take j ++ [arcOf s.labs x.moves[j]] := by
 unfold arcsOf;rw [← List.map_take, List.take_add_one, List.getElem?_eq_getElem h, List.map_append, List.map_take]; rfl
def chB : Option Bool → UInt8 | none => 48 | some b => bitLb b
end Go.Proofs.YthafkkgmekgmoaaGreat
