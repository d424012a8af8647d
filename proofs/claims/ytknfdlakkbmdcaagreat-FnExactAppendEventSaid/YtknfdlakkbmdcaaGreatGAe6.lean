/- Contracts of the functions of the program and of the reference, each proved by a walk through its code. -/
import Derived.Test.YtknfdlakkbmdcaaGreatChecked
import Derived.Laws.Small
import Derived.Test.YtknfdlakkbmdcaaGreatGAe5
set_option linter.all false
set_option maxRecDepth 20000
namespace Go.Proofs.YtknfdlakkbmdcaaGreat
open Go.RowKit
theorem own_le {α : Type} (l : List α) (f : α → List DV) : l.length ≤ (l.map f).length := Nat.le_of_eq (List.length_map _).symm
theorem own_take {α : Type} (l : List α) (f : α → List DV) : (l.map f).take l.length = l.map f := List.take_of_length_le (Nat.le_of_eq (List.length_map _))
theorem br_lent {s : ASt} {N : Net} {u : Unf} {L A : List ES} (ids : List Nat) (i0 i1 i2 i3 i4 : Nat) {xs ys : List AV} (hi0 : ids.contains i0 = true) (hi1 : ids.contains i1 = true) (hi2 : ids.contains i2 = true) (hi3 : ids.contains i3 = true) (hi4 : ids.contains i4 = true) (h0 : s.chunk i0 = some (brC N i1 u.cs.length i2 u.es.length i3 L.length i4 A.length)) (h1 : s.chunk i1 = some (.arr 88 2 (condsL u.cs))) (h2 : s.chunk i2 = some (.arr 46 2 (evsL u.es))) (h3 : s.chunk i3 = some (.arr 102 1 (esL L))) (h4 : s.chunk i4 = some (.arr 102 1 (esL A))) (hr : BAs ids s xs ys) : BAs ids s (.d (.ref (brD N u L A)) :: xs) (.ptr i0 0 :: ys) :=
 .cons (.ptr hi0 h0 (.cons .d (.cons .d (.cons (.own hi1 h1 (own_le _ _) (own_take _ _)) (.cons (.own hi2 h2 (own_le _ _) (own_take _ _)) (.cons (.own hi3 h3 (own_le _ _) (own_take _ _)) (.cons (.own hi4 h4 (own_le _ _) (own_take _ _)) .nil))))))) hr
def agK (u : Unf) (h : Ev) : Nat → ES
 | 0 => 0
 | k + 1 => if shareI (evAt u (k : Int)) h.pre = true then agK u h k ||| bitU k else agK u h k
def agA (u : Unf) (h : Ev) (A : List ES) : Nat → List ES
 | 0 => A
 | k + 1 => if shareI (evAt u (k : Int)) h.pre = true then (agA u h A k).set k (A.getD k 0 ||| bitU u.es.length) else agA u h A k
theorem agA_len (u : Unf) (h : Ev) (A : List ES) : ∀ k, (agA u h A k).length = A.length
 | 0 => rfl
 | k + 1 => by rw [agA]; split; rw [List.length_set, agA_len u h A k]; exact agA_len u h A k
theorem agA_get (u : Unf) (h : Ev) (A : List ES) : ∀ k i, k ≤ i → (agA u h A k)[i]? = A[i]?
 | 0, i, _ => rfl
 | k + 1, i, hi => by
  rw [agA]
  split
  ·rw [List.getElem?_set_ne (by omega)]; exact agA_get u h A k i (by omega)
  exact agA_get u h A k i (by omega)
def addL (u : Unf) (L : List ES) (h : Ev) : List ES := L ++ [allB u L h.pre ||| bitU u.es.length]
def addA (u : Unf) (A : List ES) (h : Ev) : List ES := agA u h A u.es.length ++ [agK u h u.es.length]
theorem vES_getI {l : List ES} {k : Nat} {x : ES} (h : l[k]? = some x) : (esL l)[k]? = some [dU x] := by rw [List.getElem?_map, h]; rfl
theorem esL_set (l : List ES) (i : Nat) (b : ES) : (esL l).set i [dU b] = esL (l.set i b) := by simp [esL, List.map_set]
theorem h_appendS (acc new : List ES) {s : ASt} {dst : Option Nat} {ty : Nat} {pos : String} {af : Array Edge} {gd : Option (Nat × Bool)} {x y : Operand} {f : Nat} {ids ids2 : List Nat} {gone : List (Nat × Option Chunk)}
  (hto : AppTo s x 102 1 (esL acc) ids gone) (harg : AppArg s y 1 (esL new) ids2) (h : (acc ++ new).length ≤ 100000000) (hnew : gone = [] → 0 < new.length) :
  NOp Tryz.prog (ids ++ ids2) s ⟨dst, .call { callee := .builtin .append, args := #[x, y], argTypes := #[72, 72] }, ty, pos, af, gd⟩ f ⟨.own f (acc ++ new).length, (f, some (.arr 102 1 (esL (acc ++ new)))) :: gone⟩ := by
 have := h_append (P := Tryz.prog) (s := s) (dst := dst) (ty := ty) (pos := pos) (af := af) (gd := gd) (x := x) (y := y) (f := f) (t := 72) (tx := 72) (k := (acc ++ new).length) rfl rfl rfl rfl rfl rfl hto harg (by simp) (by omega) (by show (acc ++ new).length * 8 ≤ _; omega) (fun h => by rw [esL_len]; exact hnew h)
 rwa [← List.map_append] at this
theorem bne_t {b : Bool} (h : b = false) : ¬ b = true := by rw [h]; exact Bool.false_ne_true
set_option maxRecDepth 20000 in
set_option maxHeartbeats 8000000 in
theorem brAdd_spec (N : Net) (u : Unf) (L A : List ES) (h : Ev) (hB : NetB N) (hW : WB u L A) (he : u.es.length < 64) (hh : h.pre.length ≤ 1000000) (hr : inR N h.t = true) (hin : ∀ c, c ∈ h.pre → 0 ≤ c ∧ c < u.cs.length) : ASpec Tryz.prog 33 [.ptr 0 0, evA h] (brChs N u L A) (Fun1 (.tup []) [(0, brC N 5 (withI N u h).cs.length 6 (withI N u h).es.length 7 (addL u L h).length 8 (addA u A h).length), (5, .arr 88 2 (condsL (withI N u h).cs)), (6, .arr 46 2 (evsL (withI N u h).es)), (7, .arr 102 1 (esL (addL u L h))), (8, .arr 102 1 (esL (addA u A h)))]) := by
 have hcl := hW.w.c;have hll := hW.l;have hal := hW.a;obtain ⟨i, hi, hin2⟩ := inR_nat hr;have hgetT := tsL_get hin2;have hpl := (hB.t _ (List.getElem_mem hin2)).2;have hwi : withI N u h = ⟨withC u N.ts[i].post, u.es ++ [h]⟩ := by unfold withI; rw [hi, tAt_nat hin2]
 refine ASpec.of Tryz.func33 rfl rfl fun C hC => ?_
 refine AC.seq (AC.region ?_);refine kD ?_;refine AL.nil (th_n (AC.seq (AC.region ?_)));refine AL.p (by exact mv3 rfl) rfl ?_;refine AL.p (by exact g_nilP rfl) rfl ?_;refine zF ?_;refine zF ?_;refine zl ?_;refine AL.p (by exact g_len_own (sz := 1) (els := []) (e' := 0) rfl rfl (by simp only [maxLen]; omega)) rfl ?_;refine za ?_;refine za ?_;refine za ?_;refine AL.nil (th_n (AC.seq (AC.seq (AC.region ?_))));refine zf ?_;refine zr ?_;refine kH ?_;refine zm ?_;refine AL.nil (th_n (AC.block ?_));refine AC.loop (ι := Nat) (fun k => ⟨135, 136, [(0, .ptr 0 0), (3, .d (.ref (evD h))), (4, aI u.es.length), (5, aU (allB u L (h.pre.take k))), (6, aU 0), (20, .d (vI h.pre)), (21, aI h.pre.length), (22, aI k)], chL (brChs N u L A)⟩) (fun k => k ≤ h.pre.length) (fun k => h.pre.length - k) (0) ?_ (Nat.zero_le _) ?_
 ·exact zw [] hC
 intro k hk;refine AC.seq (AC.region ?_);refine zc ?_;refine AL.nil (th_n (AC.seq ?_));refine AC.condD rfl (fun h0 => ?_) (fun h0 => ?_)
 ·refine AC.skip (th_n (AC.seq (AC.block (AC.seq ?_))));have hk1 : k < h.pre.length := by omega
  have hget := ints_at hk1;have hinc := hin _ (List.getElem_mem hk1);have hP := brProducer_spec N u L A h.pre[k] hW hinc.1 hinc.2;have hat := allB_take (u := u) (L := L) hk1;refine AC.region ?_;refine AL.p (by exact g_ia_view rfl rfl rfl rfl rfl (by rfl) (by assumption)) rfl ?_;refine zr ?_;refine za ?_;refine AL.nil (th_n (AC.region ?_));refine zm ?_;refine AL.p (by exact mv3 rfl) rfl ?_;refine zm ?_;refine AL.q (by exact h_borrow [0, 1, 2, 3, 4] en_brProducer rfl rfl hP (br_lent [0, 1, 2, 3, 4] 0 1 2 3 4 rfl rfl rfl rfl rfl rfl rfl rfl rfl rfl (.cons (.of .d) .nil)) rfl) rfl ?_;refine AL.p (by exact g_or64 rfl rfl) rfl ?_;refine za ?_;refine AL.nil (ib_n (th_n (AC.region ?_)));refine zA ?_;refine zm ?_;refine AL.nil (th_n ?_);exact ⟨k + 1, by omega, by omega, Weak.ren _ [] hC rfl (by rw [hat]; repeat (first | exact True.intro | refine And.intro ?_ ?_ | exact DLead.same | exact rfl | refine ⟨_, rfl, ?_⟩)) (by repeat (first | exact True.intro | refine And.intro ?_ ?_ | exact DLead.same | exact rfl | refine ⟨_, _, rfl, rfl, ?_⟩ | refine ⟨_, rfl, ?_⟩ | refine ⟨_, _, rfl, ?_, ?_⟩)) rfl rfl rfl⟩
 refine AC.exit (th_e (th_e (ib_y (th_n (AC.seq (AC.seq ?_))))));have hkk : k = h.pre.length := by omega
 subst hkk;rw [List.take_length];refine AC.region ?_;refine AL.p (by exact mv3 rfl) rfl ?_;refine AL.p (by exact g_nilP rfl) rfl ?_;refine zF ?_;refine zF ?_;refine zl ?_;refine AL.p (by exact g_len_own (sz := 1) (els := []) (e' := 0) rfl rfl (by simp only [maxLen]; omega)) rfl ?_;refine zm ?_;refine AL.nil (th_n (AC.block ?_));refine AC.loop (ι := Nat) (fun k => ⟨135, 136, [(0, .ptr 0 0), (3, .d (.ref (evD h))), (4, aI u.es.length), (5, aU (allB u L h.pre)), (6, aU (agK u h k)), (36, .own 2 u.es.length), (37, aI u.es.length), (38, aI k)], chL [(0, brC N 1 u.cs.length 2 u.es.length 3 L.length 4 A.length), (1, .arr 88 2 (condsL u.cs)), (2, .arr 46 2 (evsL u.es)), (3, .arr 102 1 (esL L)), (4, .arr 102 1 (esL (agA u h A k)))]⟩) (fun k => k ≤ u.es.length) (fun k => u.es.length - k) (0) ?_ (Nat.zero_le _) ?_
 ·exact zw [] hC
 intro k hk;refine AC.seq (AC.region ?_);refine zc ?_;refine AL.nil (th_n (AC.seq ?_));refine AC.condD rfl (fun h1 => ?_) (fun h1 => ?_)
 ·refine AC.skip (th_n (AC.seq (AC.block (AC.seq ?_))));have hk1 : k < u.es.length := by omega
  have hgete := evsL_get hk1;have hel := hW.w.l _ (List.getElem_mem hk1);have hev : evAt u (k : Int) = u.es[k].pre := evAt_nat hk1;have hSh := share_spec u.es[k].pre h.pre hel hh;have hka : k < A.length := by omega
  have hgA : (agA u h A k)[k]? = some A[k] := by rw [agA_get u h A k k (Nat.le_refl _), List.getElem?_eq_getElem hka]
  have hgetA := vES_getI hgA;have hAd : A.getD k 0 = A[k] := by rw [List.getD_eq_getElem?_getD, List.getElem?_eq_getElem hka]; rfl
  have hKs : agK u h (k + 1) = if shareI u.es[k].pre h.pre = true then agK u h k ||| bitU k else agK u h k := by rw [agK, hev]
  have hAs : agA u h A (k + 1) = if shareI u.es[k].pre h.pre = true then (agA u h A k).set k (A[k] ||| bitU u.es.length) else agA u h A k := by rw [agA, hev, hAd]
  obtain ⟨sh, hsh⟩ := eqx (shareI u.es[k].pre h.pre);rw [← hsh] at hSh hKs hAs;refine AC.region ?_;refine zm ?_;refine AL.p (by exact g_ia_own rfl rfl rfl rfl rfl (by rfl) (by omega) (by rfl)) rfl ?_;refine AL.p (by exact g_load_arrN rfl rfl rfl rfl rfl rfl hgete) rfl ?_;refine kE ?_;refine za ?_;refine zs ?_;refine AL.nil (th_n (AC.seq (AC.region ?_)));refine zF ?_;refine zl ?_;refine zf ?_;refine zr ?_;refine kV en_share hSh ?_;refine AL.nil (th_n ?_);refine AC.condB rfl (fun h2 => ?_) (fun h2 => ?_)
  ·refine AC.seq (AC.region ?_);refine zm ?_;refine zm ?_;refine AL.p (by exact g_shl64 rfl rfl (by omega)) rfl ?_;refine AL.p (by exact g_or64 rfl rfl) rfl ?_;refine za ?_;refine AL.nil (th_n ?_);refine AC.drawn' mixed_ok [[], [0], [0,1], [0,1,2], [], [0,1,2,3,4], [0,1,2,3,4,5], [], [7], [0,1,2,3,4,5,6,7,8], [0,1,2,3,4,5,6,7,8,9], [0,1,2,3,4,5,6,7,8,9,10]] (by decide) ?_;refine zd 0 [] 12 (by exact mv3 rfl) ?_;refine zd 1 [0] 12 (by exact g_nilP rfl) ?_;refine zd 2 [0,1] 12 (by exact g_fa_ptr rfl rfl rfl rfl rfl) ?_;refine zd 3 [0,1,2] 12 (by exact g_load_ptr rfl rfl rfl rfl rfl) ?_;refine zd 4 [] 12 (by exact mv1 rfl) ?_;refine zd 5 [0,1,2,3,4] 12 (by exact g_ia_own rfl rfl rfl rfl rfl (by rfl) (by omega) (by exact Nat.mul_one _)) ?_;refine zd 6 [0,1,2,3,4,5] 12 (by exact g_load_arr1 rfl rfl rfl rfl (by assumption)) ?_;refine zd 7 [] 12 (by exact mv1 rfl) ?_;refine zd 8 [7] 12 (by exact g_shl64 rfl rfl he) ?_;refine zd 9 (List.range 9) 12 (by exact g_or64 rfl rfl) ?_;refine zd 10 (List.range 10) 12 (by exact g_ia_own rfl rfl rfl rfl rfl (by rfl) (by omega) (by exact Nat.mul_one _)) ?_;refine zh 11 (List.range 11) 12 (by exact h_store_arr1 rfl rfl rfl rfl (by exact .same) (by assumption)) ?_;refine zj 12 ?_;refine ib_n (th_n (AC.region ?_));refine zA ?_;refine zm ?_;refine AL.nil (th_n ?_)
   (have e1 := hKs.trans (if_pos h2); have e2 := hAs.trans (if_pos h2); exact ⟨k + 1, by omega, by omega, zw [] hC (by rw [e1]; repeat (first | exact True.intro | refine And.intro ?_ ?_ | exact DLead.same | exact rfl | refine ⟨_, rfl, ?_⟩)) (by rw [e2, ← esL_set]; repeat (first | exact True.intro | refine And.intro ?_ ?_ | exact DLead.same | exact rfl | refine ⟨_, _, rfl, rfl, ?_⟩ | refine ⟨_, rfl, ?_⟩ | refine ⟨_, _, rfl, ?_, ?_⟩))⟩)
  refine AC.skip (ib_n (th_n (AC.region ?_)));refine zA ?_;refine zm ?_;refine AL.nil (th_n ?_)
  (have e1 := hKs.trans (if_neg (bne_t h2)); have e2 := hAs.trans (if_neg (bne_t h2)); exact ⟨k + 1, by omega, by omega, zw [] hC (by rw [e1]; repeat (first | exact True.intro | refine And.intro ?_ ?_ | exact DLead.same | exact rfl | refine ⟨_, rfl, ?_⟩)) (by rw [e2]; repeat (first | exact True.intro | refine And.intro ?_ ?_ | exact DLead.same | exact rfl | refine ⟨_, _, rfl, rfl, ?_⟩ | refine ⟨_, rfl, ?_⟩ | refine ⟨_, _, rfl, ?_, ?_⟩))⟩)
 refine AC.exit (th_e (th_e (ib_y (th_n (AC.seq ?_)))));have hkk : k = u.es.length := by omega
 subst hkk;have hAl := agA_len u h A u.es.length;obtain ⟨A1, hA1⟩ := eqx (agA u h A u.es.length);obtain ⟨k1, hk1⟩ := eqx (agK u h u.es.length);obtain ⟨l1, hl1⟩ := eqx (allB u L h.pre);have haL : addL u L h = L ++ [l1 ||| bitU u.es.length] := by rw [hl1]; rfl
 have haA : addA u A h = A1 ++ [k1] := by rw [hA1, hk1]; rfl
 rw [← hA1] at hAl ⊢;rw [← hk1, ← hl1];refine AC.drawn' mixed_ok [[], [], [1], [1,2], [1,2,3], [1,2,3,4], [], [6], [], [], [9], [8,9,10], [6,7,8,9,10,11], [6,7,8,9,10,11,12], [1,2,3,4,5,6,7,8,9,10,11,12,13], [0,1,2,3,4,5,6,7,8,9,10,11,12,13,14], [0,1,2,3,4,5,6,7,8,9,10,11,12,13,14,15], [0,1,2,3,4,5,6,7,8,9,10,11,12,13,14,15,16], [0,1,2,3,4,5,6,7,8,9,10,11,12,13,14,15,16,17]] (by decide) ?_;refine zd 0 [] 19 (by exact mv3 rfl) ?_;refine zd 1 [] 19 (by exact mv3 rfl) ?_;refine zd 2 [1] 19 (by exact g_nilP rfl) ?_;refine zd 3 [1,2] 19 (by exact g_fa_ptr rfl rfl rfl rfl rfl) ?_;refine zd 4 [1,2,3] 19 (by exact g_fa_ptr rfl rfl rfl rfl rfl) ?_;refine zd 5 [1,2,3,4] 19 (by exact g_load_ptr rfl rfl rfl rfl rfl) ?_;refine zd 6 [] 19 (by exact g_fa_ref rfl rfl rfl rfl rfl rfl) ?_;refine zd 7 [6] 19 (by exact g_load_ref rfl rfl rfl) ?_;refine zh 8 [] 19 (by exact h_lit rfl rfl rfl rfl rfl rfl rfl rfl) ?_;refine zd 9 [] 19 (by exact g_fa_ref rfl rfl rfl rfl rfl rfl) ?_;refine zd 10 [9] 19 (by exact g_load_ref rfl rfl rfl) ?_;refine zh 11 [8,9,10] 19 (by exact NOp.frz (h_appendI [] h.pre (.own rfl rfl rfl) (.view rfl) (by simp; omega) (by simp)) rfl (Nat.le_of_eq (ints_len _).symm) (ints_all _)) ?_;refine zd 12 [6,7,8,9,10,11] 19 (by exact g_build rfl rfl rfl) ?_;refine zh 13 [6,7,8,9,10,11,12] 19 (by exact h_litF rfl rfl rfl rfl rfl rfl rfl rfl) ?_;refine zh 14 [1,2,3,4,5,6,7,8,9,10,11,12,13] 19 (by exact h_appendE u.es [h] (.own rfl rfl (evsL_len _).symm) (.view rfl) (by simp; omega) (by simp)) ?_;refine zd 15 (List.range 15) 19 (by exact g_nilP rfl) ?_;refine zd 16 (List.range 16) 19 (by exact g_fa_ptr rfl rfl rfl rfl rfl) ?_;refine zd 17 (List.range 17) 19 (by exact g_fa_ptr rfl rfl rfl rfl rfl) ?_;refine zh 18 (List.range 18) 19 (by exact h_store rfl rfl rfl rfl rfl rfl) ?_;refine zj 19 ?_;refine th_n (AC.seq ?_);refine AC.drawn' mixed_ok [[], [], [], [2], [2,3], [2,3,4], [], [], [7], [6,7,8], [6,7,8,9], [2,3,4,5,6,7,8,9,10], [], [12], [12,13], [12,13,14], [], [16], [2,3,4,5,6,7,8,9,10,11,12,13,14,15,16,17], [0,2,3,4,5,6,7,8,9,10,11,12,13,14,15,16,17,18], [0,2,3,4,5,6,7,8,9,10,11,12,13,14,15,16,17,18,19], [0,2,3,4,5,6,7,8,9,10,11,12,13,14,15,16,17,18,19,20], [0,1,2,3,4,5,6,7,8,9,10,11,12,13,14,15,16,17,18,19,20,21], [0,1,2,3,4,5,6,7,8,9,10,11,12,13,14,15,16,17,18,19,20,21,22], [0,1,2,3,4,5,6,7,8,9,10,11,12,13,14,15,16,17,18,19,20,21,22,23]] (by decide) ?_;refine zd 0 [] 25 (by exact mv3 rfl) ?_;refine zd 1 [] 25 (by exact mv3 rfl) ?_;refine zd 2 [] 25 (by exact mv3 rfl) ?_;refine zd 3 [2] 25 (by exact g_nilP rfl) ?_;refine zd 4 [2,3] 25 (by exact g_fa_ptr rfl rfl rfl rfl rfl) ?_;refine zd 5 [2,3,4] 25 (by exact g_load_ptr rfl rfl rfl rfl rfl) ?_;refine zd 6 [] 25 (by exact mv1 rfl) ?_;refine zd 7 [] 25 (by exact mv1 rfl) ?_;refine zd 8 [7] 25 (by exact g_shl64 rfl rfl he) ?_;refine zd 9 [6,7,8] 25 (by exact g_or64 rfl rfl) ?_;refine zh 10 [6,7,8,9] 25 (by exact h_litF rfl rfl rfl rfl rfl rfl rfl rfl) ?_;refine zh 11 [2,3,4,5,6,7,8,9,10] 25 (by exact h_appendS L [l1 ||| bitU u.es.length] (.own rfl rfl (esL_len _).symm) (.view rfl) (by simp; omega) (by simp)) ?_;refine zd 12 [] 25 (by exact mv3 rfl) ?_;refine zd 13 [12] 25 (by exact g_nilP rfl) ?_;refine zd 14 [12,13] 25 (by exact g_fa_ptr rfl rfl rfl rfl rfl) ?_;refine zd 15 [12,13,14] 25 (by exact g_load_ptr rfl rfl rfl rfl rfl) ?_;refine zd 16 [] 25 (by exact mv1 rfl) ?_;refine zh 17 [16] 25 (by exact h_litF rfl rfl rfl rfl rfl rfl rfl rfl) ?_;refine zh 18 [2,3,4,5,6,7,8,9,10,11,12,13,14,15,16,17] 25 (by exact h_appendS A1 [k1] (.own rfl rfl (by rw [esL_len, hAl])) (.view rfl) (by simp; omega) (by simp)) ?_;refine zd 19 [0,2,3,4,5,6,7,8,9,10,11,12,13,14,15,16,17,18] 25 (by exact g_nilP rfl) ?_;refine zd 20 [0,2,3,4,5,6,7,8,9,10,11,12,13,14,15,16,17,18,19] 25 (by exact g_fa_ptr rfl rfl rfl rfl rfl) ?_;refine zh 21 [0,2,3,4,5,6,7,8,9,10,11,12,13,14,15,16,17,18,19,20] 25 (by exact h_store rfl rfl rfl rfl rfl rfl) ?_;refine zd 22 (List.range 22) 25 (by exact g_nilP rfl) ?_;refine zd 23 (List.range 23) 25 (by exact g_fa_ptr rfl rfl rfl rfl rfl) ?_
 refine zh 24 (List.range 24) 25 (by exact h_store rfl rfl rfl rfl rfl rfl) ?_;refine zj 25 ?_;refine th_n (AC.seq ?_);refine AC.drawn' mixed_ok [[], [0], [0,1], [0,1,2], [0,1,2,3], [], [5], [0,1,2,3,4,5,6], [0,1,2,3,4,5,6,7], [0,1,2,3,4,5,6,7,8], [0,1,2,3,4,5,6,7,8,9], []] (by decide) ?_;refine zd 0 [] 12 (by exact mv3 rfl) ?_;refine zd 1 [0] 12 (by exact g_nilP rfl) ?_;refine zd 2 [0,1] 12 (by exact g_fa_ptr rfl rfl rfl rfl rfl) ?_;refine zd 3 [0,1,2] 12 (by exact g_fa_ptr rfl rfl rfl rfl rfl) ?_;refine zd 4 [0,1,2,3] 12 (by exact g_load_ptr rfl rfl rfl rfl rfl) ?_;refine zd 5 [] 12 (by exact g_fa_ref rfl rfl rfl rfl rfl rfl) ?_;refine zd 6 [5] 12 (by exact g_load_ref rfl rfl rfl) ?_;refine zd 7 [0,1,2,3,4,5,6] 12 (by exact g_ia_view (i := i) rfl rfl rfl rfl rfl hi hgetT) ?_;refine zd 8 [0,1,2,3,4,5,6,7] 12 (by exact g_fa_ref rfl rfl rfl rfl rfl rfl) ?_;refine zd 9 (List.range 9) 12 (by exact g_load_ref rfl rfl rfl) ?_;refine zd 10 (List.range 10) 12 (by exact g_len_view rfl rfl (by exact List.length_map _)) ?_;refine zd 11 [] 12 (by exact mv1 rfl) ?_;refine zj 12 ?_;refine th_n (AC.block ?_);refine AC.loop (ι := Nat) (fun k => ⟨135, 136, [(0, .ptr 0 0), (4, aI u.es.length), (114, .d (vI N.ts[i].post)), (115, aI N.ts[i].post.length), (116, aI k)], [(0, some (brC N 101 (u.cs.length + k) 102 (u.es ++ [h]).length 103 (L ++ [l1 ||| bitU u.es.length]).length 104 (A1 ++ [k1]).length)), (101, some (.arr 88 2 (condsL (withC u (N.ts[i].post.take k))))), (102, some (.arr 46 2 (evsL (u.es ++ [h])))), (103, some (.arr 102 1 (esL (L ++ [l1 ||| bitU u.es.length])))), (104, some (.arr 102 1 (esL (A1 ++ [k1]))))]⟩) (fun k => k ≤ N.ts[i].post.length) (fun k => N.ts[i].post.length - k) (0) ?_ (Nat.zero_le _) ?_
 ·exact Weak.ren _ [(101, _), (102, _), (103, _), (104, _)] hC rfl (by repeat (first | exact True.intro | refine And.intro ?_ ?_ | exact DLead.same | exact rfl | refine ⟨_, rfl, ?_⟩)) (by rw [show withC u (N.ts[i].post.take 0) = u.cs from List.append_nil _]; repeat (first | exact True.intro | refine And.intro ?_ ?_ | exact DLead.same | exact rfl | refine ⟨_, _, rfl, rfl, ?_⟩ | refine ⟨_, rfl, ?_⟩ | refine ⟨_, _, rfl, ?_, ?_⟩)) rfl rfl rfl
 intro k hk;refine AC.seq (AC.region ?_);refine zc ?_;refine AL.nil (th_n (AC.seq ?_));refine AC.condD rfl (fun h2 => ?_) (fun h2 => ?_)
 ·refine AC.skip (th_n (AC.seq (AC.block (AC.seq ?_))));have hkp : k < N.ts[i].post.length := by omega
  have hgetp := ints_at hkp;have hwt := withC_take (u := u) hkp;have hwl : (withC u (N.ts[i].post.take k)).length = u.cs.length + k := by rw [withC_len, List.length_take]; omega
  refine AC.region ?_;refine AL.p (by exact g_ia_view rfl rfl rfl rfl rfl (by rfl) (by assumption)) rfl ?_;refine zr ?_;refine za ?_;refine AL.nil (th_n (AC.region ?_));refine AL.p (by exact mv3 rfl) rfl ?_;refine AL.p (by exact mv3 rfl) rfl ?_;refine AL.p (by exact g_nilP rfl) rfl ?_;refine zF ?_;refine zF ?_;refine zl ?_;refine zm ?_;refine zm ?_;refine AL.p (by exact g_build rfl rfl rfl) rfl ?_;refine AL.q (by exact h_litF rfl rfl rfl rfl rfl rfl rfl rfl) rfl ?_;refine AL.q (by exact h_appendC (withC u (N.ts[i].post.take k)) [⟨N.ts[i].post[k], (u.es.length : Int)⟩] (.own rfl rfl (by rw [condsL_len, hwl])) (.view rfl) (by rw [List.length_append, hwl]; show u.cs.length + k + 1 ≤ _; omega) (by simp)) rfl ?_;refine AL.p (by exact g_nilP rfl) rfl ?_;refine zF ?_;refine zF ?_;refine zs ?_;refine AL.nil (ib_n (th_n (AC.region ?_)));refine zA ?_;refine zm ?_;refine AL.nil (th_n ?_);have hl5 : (withC u (N.ts[i].post.take k) ++ [(⟨N.ts[i].post[k], (u.es.length : Int)⟩ : Cond)]).length = u.cs.length + (k + 1) := by rw [List.length_append, hwl]; rfl
  exact ⟨k + 1, by omega, by omega, zw [(101, _), (102, _), (103, _), (104, _)] hC (b := by rw [hwt, ← hl5]; repeat (first | exact True.intro | refine And.intro ?_ ?_ | exact DLead.same | exact rfl | refine ⟨_, _, rfl, rfl, ?_⟩ | refine ⟨_, rfl, ?_⟩ | refine ⟨_, _, rfl, ?_, ?_⟩))⟩
 refine AC.exit (th_e (th_e (ib_y (bq_n ?_))));have hkk : k = N.ts[i].post.length := by omega
 subst hkk;rw [List.take_length];have hwl : (withC u N.ts[i].post).length = u.cs.length + N.ts[i].post.length := withC_len _ _;exact retN [(5, _), (6, _), (7, _), (8, _)] rfl (by repeat (first | exact rfl | refine ⟨_, rfl, ?_⟩)) (by rw [hwi, haL, haA]; simp only [hwl]; repeat (first | exact True.intro | refine And.intro ?_ ?_ | exact DLead.same | exact rfl | refine ⟨_, _, rfl, rfl, ?_⟩ | refine ⟨_, rfl, ?_⟩ | refine ⟨_, _, rfl, ?_, ?_⟩)) rfl rfl
theorem en_brAdd : Enters Tryz.prog 33 := enters_of Tryz.func33 rfl rfl
theorem getD_setB (fl : List Bool) (i j : Nat) : (fl.set i true).getD j false = ((decide (i = j) && decide (i < fl.length)) || fl.getD j false) := by
 rw [List.getD_eq_getElem?_getD, List.getD_eq_getElem?_getD, List.getElem?_set]
 by_cases h : i = j
 ·subst h
  by_cases h2 : i < fl.length
  ·simp [h2]
  simp [h2, List.getElem?_eq_none (show fl.length ≤ i by omega)]
 simp [h]
inductive Rch (u : Unf) (S : List Int) : Nat → Prop
 | base {e : Nat} : (e : Int) ∈ S → e < u.es.length → Rch u S e
 | step {e f : Nat} {c : Int} : Rch u S e → c ∈ evAt u (e : Int) → (cAt u c).by_ = (f : Int) → Rch u S f
def Ord (u : Unf) : Prop := ∀ (e : Nat) c, e < u.es.length → c ∈ evAt u (e : Int) → (cAt u c).by_ < e
theorem Rch.lt {u : Unf} {S : List Int} (ho : Ord u) {f : Nat} (h : Rch u S f) : f < u.es.length := by
 induction h with
 | base _ h => exact h
 | step _ hc hb ih => have := ho _ _ ih hc; omega
theorem Rch.one {u : Unf} {S : List Int} {f : Nat} (h : Rch u S f) : ∃ s, s ∈ S ∧ Rch u [s] f := by
 induction h with
 | base h1 h2 => exact ⟨_, h1, .base (List.mem_singleton.2 rfl) h2⟩
 | step _ hc hb ih => obtain ⟨s, hs, hr⟩ := ih; exact ⟨s, hs, hr.step hc hb⟩
theorem Rch.mono {u : Unf} {S T : List Int} {f : Nat} (hST : ∀ s, s ∈ S → 0 ≤ s → s ∈ T) (h : Rch u S f) : Rch u T f := by
 induction h with
 | base h1 h2 => exact .base (hST _ h1 (by omega)) h2
 | step _ hc hb ih => exact ih.step hc hb
theorem stepF_get (u : Unf) (e : Nat) : ∀ (l : List Int) (fl : List Bool), (∀ c, c ∈ l → (cAt u c).by_ < e) → e ≤ fl.length → ∀ j, (l.foldl (stepC u e) fl).getD j false = (fl.getD j false || (fl.getD e false && l.any (fun c => decide ((cAt u c).by_ = (j : Int)))))
 | [], fl, h, hl, j => by simp
 | c :: l, fl, h, hl, j => by
  have hc := h c List.mem_cons_self;have hle : (stepC u e fl c).length = fl.length := stepC_len u e fl c;rw [List.foldl_cons, stepF_get u e l (stepC u e fl c) (fun c' hc' => h c' (List.mem_cons_of_mem _ hc')) (by omega)]
  have key : ∀ j, (stepC u e fl c).getD j false = (fl.getD j false || (fl.getD e false && decide ((cAt u c).by_ = (j : Int)))) := by
   intro j;unfold stepC
   by_cases h1 : fl.getD e false = true ∧ 0 ≤ (cAt u c).by_
   ·rw [if_pos h1, getD_setB, h1.1, Bool.true_and]
    have : (decide ((cAt u c).by_.toNat = j) && decide ((cAt u c).by_.toNat < fl.length)) = decide ((cAt u c).by_ = (j : Int)) := by
     rw [← Bool.decide_and]; apply decide_eq_decide.2; constructor
     ·intro ⟨a, _⟩; omega
     intro a; omega
    rw [this, Bool.or_comm]
   rw [if_neg h1]
   by_cases h2 : fl.getD e false = true
   ·have : ¬ (cAt u c).by_ = (j : Int) := fun h3 => h1 ⟨h2, by omega⟩
    rw [decide_eq_false this, Bool.and_false, Bool.or_false]
   rw [Bool.not_eq_true] at h2; rw [h2, Bool.false_and, Bool.or_false]
  have ke : (stepC u e fl c).getD e false = fl.getD e false := by
   rw [key e, decide_eq_false (by omega), Bool.and_false, Bool.or_false]
  rw [ke, key j, List.any_cons];cases fl.getD j false <;> cases fl.getD e false <;> simp
theorem stepE_get {u : Unf} (ho : Ord u) {e : Nat} {fl : List Bool} (he : e < u.es.length) (hl : fl.length = u.es.length) (j : Nat) : (stepE u e fl).getD j false = (fl.getD j false || (fl.getD e false && (evAt u (e : Int)).any (fun c => decide ((cAt u c).by_ = (j : Int))))) :=
 stepF_get u e _ fl (fun c hc => ho e c he hc) (by omega) j
theorem stepE_len' {u : Unf} {e : Nat} {fl : List Bool} (hl : fl.length = u.es.length) : (stepE u e fl).length = u.es.length := by rw [stepE_len]; exact hl
theorem downE_rch {u : Unf} (ho : Ord u) {S : List Int} : ∀ (k : Nat) (fl : List Bool), k ≤ u.es.length → fl.length = u.es.length → (∀ f, fl.getD f false = true → Rch u S f) → (∀ e : Nat, (e : Int) ∈ S → e < u.es.length → fl.getD e false = true) → (∀ (e f : Nat) c, k ≤ e → fl.getD e false = true → c ∈ evAt u (e : Int) → (cAt u c).by_ = (f : Int) → fl.getD f false = true) → ∀ f, (downE u k fl).getD f false = true ↔ Rch u S f
 | 0, fl, hk, hl, h1, h2, h3, f => by
  refine ⟨h1 f, fun h => ?_⟩
  induction h with
  | base a b => exact h2 _ a b
  | step _ hc hb ih => exact h3 _ _ _ (Nat.zero_le _) ih hc hb
 | k + 1, fl, hk, hl, h1, h2, h3, f => by
  have hg := stepE_get ho (show k < u.es.length by omega) hl;refine downE_rch ho k (stepE u k fl) (by omega) (stepE_len' hl) ?_ ?_ ?_ f
  ·intro f hf;rw [hg, Bool.or_eq_true, Bool.and_eq_true] at hf;rcases hf with h | ⟨h, h'⟩
   ·exact h1 f h
   obtain ⟨c, hc, hd⟩ := List.any_eq_true.1 h';exact (h1 k h).step hc (of_decide_eq_true hd)
  ·intro e he hlt;rw [hg, h2 e he hlt, Bool.true_or]
  intro e f c hke he hc hb
  have he' : fl.getD e false = true := by
   rw [hg, Bool.or_eq_true, Bool.and_eq_true] at he;rcases he with h | ⟨_, h'⟩
   ·exact h
   obtain ⟨c', hc', hd⟩ := List.any_eq_true.1 h';have := ho k c' (by omega) hc';have := of_decide_eq_true hd;omega
  rw [hg]
  by_cases h : k + 1 ≤ e
  ·rw [h3 e f c h he' hc hb, Bool.true_or]
  have : e = k := by omega
  subst this;rw [he', Bool.true_and, Bool.or_eq_true];exact .inr (List.any_eq_true.2 ⟨c, hc, decide_eq_true hb⟩)
theorem getD_rep (n i : Nat) : (List.replicate n false).getD i false = false := by
 rw [List.getD_eq_getElem?_getD, List.getElem?_replicate]; split <;> rfl
theorem mark0_get (n : Nat) (S : List Int) : ∀ f, (mark0 n S).getD f false = true ↔ ((f : Int) ∈ S ∧ f < n) := by
 suffices h : ∀ (S : List Int) (fl : List Bool), fl.length = n → ∀ f, (S.foldl (fun fl e => if 0 ≤ e then fl.set e.toNat true else fl) fl).getD f false = true ↔ (((f : Int) ∈ S ∧ f < n) ∨ fl.getD f false = true) by
  intro f;have := h S (List.replicate n false) List.length_replicate f;rw [getD_rep] at this;unfold mark0;rw [this]; simp
 intro S
 induction S with
 | nil => intro fl _ f; simp
 | cons e S ih =>
  intro fl hl f;rw [List.foldl_cons, ih _ (by split; rw [List.length_set]; exact hl; exact hl) f]
  by_cases h : 0 ≤ e
  ·rw [if_pos h, getD_setB, Bool.or_eq_true, Bool.and_eq_true, decide_eq_true_eq, decide_eq_true_eq, List.mem_cons];constructor
   ·rintro (⟨h1, h2⟩ | ⟨h1, h2⟩ | h1)
    ·exact .inl ⟨.inr h1, h2⟩
    ·exact .inl ⟨.inl (by omega), by omega⟩
    exact .inr h1
   rintro (⟨h1 | h1, h2⟩ | h1)
   ·exact .inr (.inl ⟨by omega, by omega⟩)
   ·exact .inl ⟨h1, h2⟩
   exact .inr (.inr h1)
  rw [if_neg h, List.mem_cons];constructor
  ·rintro (⟨h1, h2⟩ | h1)
   ·exact .inl ⟨.inr h1, h2⟩
   exact .inr h1
  rintro (⟨h1 | h1, h2⟩ | h1)
  ·omega
  ·exact .inl ⟨h1, h2⟩
  exact .inr h1
theorem pastFl_get {u : Unf} (ho : Ord u) (S : List Int) (f : Nat) : (pastFl u S).getD f false = true ↔ Rch u S f := by
 unfold pastFl;refine downE_rch ho _ _ (Nat.le_refl _) (mark0_len _ _) ?_ ?_ ?_ f
 ·intro f hf;rw [mark0_get] at hf;exact .base hf.1 hf.2
 ·intro e he hl;rw [mark0_get]; exact ⟨he, hl⟩
 intro e f c hk he;rw [mark0_get] at he; omega
theorem mem_past {u : Unf} (ho : Ord u) {S : List Int} {x : Int} : x ∈ pastI u S ↔ ∃ f : Nat, x = f ∧ Rch u S f := by
 unfold pastI flagL;rw [List.mem_map];constructor
 ·rintro ⟨k, hk, rfl⟩;exact ⟨k, rfl, (pastFl_get ho S k).1 (List.mem_filter.1 hk).2⟩
 rintro ⟨k, rfl, hk⟩;exact ⟨k, List.mem_filter.2 ⟨List.mem_range.2 (hk.lt ho), (pastFl_get ho S k).2 hk⟩, rfl⟩
theorem past_nodup (u : Unf) (S : List Int) : (pastI u S).Nodup := by
 unfold pastI flagL;rw [List.Nodup, List.pairwise_map];refine ((List.nodup_range (n := u.es.length)).filter _).imp ?_;intro a b h;omega
theorem filter_range_le {p : Nat → Bool} {n m : Nat} (hnm : n ≤ m) (h : ∀ i, p i = true → i < n) : (List.range m).filter p = (List.range n).filter p := by
 obtain ⟨d, rfl⟩ : ∃ d, m = n + d := ⟨m - n, by omega⟩;rw [List.range_add, List.filter_append]
 have : ((List.range d).map (n + ·)).filter p = [] := by
  rw [List.filter_eq_nil_iff];intro a ha hp;obtain ⟨i, _, rfl⟩ := List.mem_map.1 ha;have := h _ hp;omega
 rw [this, List.append_nil]
theorem list_past {u : Unf} (ho : Ord u) (hn : u.es.length ≤ 64) {s : ES} {S : List Int} (h : ∀ f, s.getLsbD f = true ↔ Rch u S f) : listI s = pastI u S := by
 unfold listI listK pastI flagL;rw [filter_range_le hn (fun i hi => ((h i).1 hi).lt ho)];congr 1;refine List.filter_congr fun i _ => ?_
 have := h i;rw [← pastFl_get ho] at this;cases h1 : s.getLsbD i <;> cases h2 : (pastFl u S).getD i false <;> simp_all
structure Tru (u : Unf) (L A : List ES) : Prop where
 w : WB u L A
 o : Ord u
 d : ∀ e, e ∈ u.es → e.pre.Nodup
 l : ∀ e, e < u.es.length → ∀ f, (L.getD e 0).getLsbD f = true ↔ Rch u [(e : Int)] f
 a : ∀ e, e < u.es.length → ∀ f, (A.getD e 0).getLsbD f = true ↔ (f < u.es.length ∧ e ≠ f ∧ shareI (evAt u (e : Int)) (evAt u (f : Int)) = true)
theorem rch_neg {u : Unf} {x : Int} (hx : x < 0) {f : Nat} : ¬ Rch u [x] f := by
 intro h
 induction h with
 | base h _ => have := List.mem_singleton.1 h; omega
 | step _ _ _ ih => exact ih
theorem prod_bit {u : Unf} {L A : List ES} (hT : Tru u L A) {c : Int} (h0 : 0 ≤ c) (hc : c < u.cs.length) (f : Nat) : (prodI u L c).getLsbD f = true ↔ Rch u [(cAt u c).by_] f := by
 obtain ⟨i, rfl⟩ : ∃ i : Nat, c = i := ⟨c.toNat, by omega⟩;have hb := hT.w.w.b _ (List.getElem_mem (show i < u.cs.length by omega));rw [← cAt_nat] at hb;unfold prodI
 by_cases h : 0 ≤ (cAt u (i : Int)).by_
 ·obtain ⟨j, hj⟩ : ∃ j : Nat, (cAt u (i : Int)).by_ = j := ⟨(cAt u (i : Int)).by_.toNat, by omega⟩;rw [if_pos h, hj, Int.toNat_natCast];exact hT.l j (by omega) f
 rw [if_neg h];constructor
 ·intro h; simp at h
 intro h2; exact absurd h2 (rch_neg (by omega))
theorem fold_bit {u : Unf} {L : List ES} (f : Nat) : ∀ (l : List Int) (a : ES), (l.foldl (fun a c => a ||| prodI u L c) a).getLsbD f = true ↔ (a.getLsbD f = true ∨ ∃ c, c ∈ l ∧ (prodI u L c).getLsbD f = true)
 | [], a => by simp
 | c :: l, a => by
  rw [List.foldl_cons, fold_bit f l, BitVec.getLsbD_or, Bool.or_eq_true];simp [or_assoc]
theorem all_bit {u : Unf} {L A : List ES} (hT : Tru u L A) {l : List Int} (hin : ∀ c, c ∈ l → 0 ≤ c ∧ c < u.cs.length) (f : Nat) : (allB u L l).getLsbD f = true ↔ Rch u (byL u l) f := by
 unfold allB;rw [fold_bit];constructor
 ·rintro (h | ⟨c, hc, h⟩)
  ·simp at h
  have := (prod_bit hT (hin c hc).1 (hin c hc).2 f).1 h;exact this.mono fun s hs _ => by rw [List.mem_singleton] at hs; rw [hs]; exact List.mem_map.2 ⟨c, hc, rfl⟩
 intro h;obtain ⟨s, hs, hr⟩ := h.one;obtain ⟨c, hc, rfl⟩ := List.mem_map.1 hs;exact .inr ⟨c, hc, (prod_bit hT (hin c hc).1 (hin c hc).2 f).2 hr⟩
theorem uses_has (u : Unf) (c e : Int) : usesAt u c e = hasI (evAt u e) c := by
 unfold usesAt hasI;congr 1
 funext x
 exact decide_eq_decide.2 eq_comm
theorem cons_used {u : Unf} (ho : Ord u) (hn : u.es.length ≤ 64) {s : ES} {S : List Int} (h : ∀ f, s.getLsbD f = true ↔ Rch u S f) (c : Int) : consI u s c = usedI u (pastI u S) c := by
 unfold consI usedI;rw [list_past ho hn h];congr 1
 funext e
 exact uses_has u c e
theorem share_iff {a b : List Int} : shareI a b = true ↔ ∃ x, x ∈ a ∧ x ∈ b := by
 unfold shareI;rw [List.any_eq_true];constructor
 ·rintro ⟨x, hx, h⟩;obtain ⟨y, hy, e⟩ := List.any_eq_true.1 h;have := of_decide_eq_true e; subst this;exact ⟨x, hx, hy⟩
 rintro ⟨x, hx, hy⟩;exact ⟨x, hx, List.any_eq_true.2 ⟨x, hy, by simp⟩⟩
theorem share_symm {a b : List Int} (h : shareI a b = true) : shareI b a = true := by
 rw [share_iff] at h ⊢;obtain ⟨x, h1, h2⟩ := h;exact ⟨x, h2, h1⟩
theorem and_ne {n : Nat} (x y : BitVec n) : (!decide ((((x &&& y).toNat : Nat) : Int) = 0)) = true ↔ ∃ f, x.getLsbD f = true ∧ y.getLsbD f = true := by
 rw [Bool.not_eq_true', decide_eq_false_iff_not];constructor
 ·intro h;have hx : ¬ (x &&& y) = 0 := by intro e; rw [e] at h; simp at h
  apply Classical.byContradiction
  intro hn
  apply hx
  apply BitVec.eq_of_getLsbD_eq
  intro i hi;rw [BitVec.getLsbD_and];rw [show (0 : BitVec n).getLsbD i = false from BitVec.getLsbD_zero];cases h1 : x.getLsbD i <;> cases h2 : y.getLsbD i <;> first | rfl | exact absurd ⟨i, h1, h2⟩ hn
 rintro ⟨f, h1, h2⟩ e;have : (x &&& y).getLsbD f = true := by rw [BitVec.getLsbD_and, h1, h2]; rfl
 have e2 : (x &&& y) = 0 := by apply BitVec.eq_of_toNat_eq; simpa using e
 rw [e2] at this;simp at this
theorem clash_iff {u : Unf} {L A : List ES} (hT : Tru u L A) {s : ES} (hs : subU s u.es.length) : clashI A s = true ↔ ∃ e f, s.getLsbD e = true ∧ s.getLsbD f = true ∧ e ≠ f ∧ shareI (evAt u (e : Int)) (evAt u (f : Int)) = true := by
 unfold clashI;rw [List.any_eq_true];constructor
 ·rintro ⟨x, hx, h⟩;obtain ⟨e, rfl, he⟩ := mem_listI.1 hx;unfold clashAt at h;rw [Int.toNat_natCast, and_ne] at h;obtain ⟨f, h1, h2⟩ := h;have := (hT.a e (hs e he) f).1 h1;exact ⟨e, f, he, h2, this.2.1, this.2.2⟩
 rintro ⟨e, f, he, hf, hne, hsh⟩;refine ⟨e, mem_listI.2 ⟨e, rfl, he⟩, ?_⟩;unfold clashAt;rw [Int.toNat_natCast, and_ne];exact ⟨f, (hT.a e (hs e he) f).2 ⟨hs f hf, hne, hsh⟩, hf⟩
theorem freeF_iff : ∀ (l : List Int) (fl : List Bool), (∀ c, c ∈ l → 0 ≤ c ∧ c < fl.length) → (freeF fl l = true ↔ (l.Nodup ∧ ∀ c, c ∈ l → fl.getD c.toNat false = false))
 | [], fl, _ => by simp [freeF]
 | c :: l, fl, hin => by
  have hc := hin c List.mem_cons_self;rw [freeF]
  by_cases h : fl.getD c.toNat false = true
  ·rw [if_pos h];constructor
   ·intro h2; cases h2
   rintro ⟨_, h2⟩; rw [h2 c List.mem_cons_self] at h; cases h
  rw [if_neg h, freeF_iff l _ (fun c' hc' => by rw [List.length_set]; exact hin c' (List.mem_cons_of_mem _ hc')), List.nodup_cons];rw [Bool.not_eq_true] at h;constructor
  ·rintro ⟨h1, h2⟩
   have h3 : ∀ c', c' ∈ l → ¬ c' = c ∧ fl.getD c'.toNat false = false := by
    intro c' hc';have := h2 c' hc';rw [getD_setB, Bool.or_eq_false_iff, Bool.and_eq_false_iff] at this;refine ⟨fun e => ?_, this.2⟩;subst e;rcases this.1 with q | q
    ·simp at q
    have := of_decide_eq_false q; omega
   exact ⟨⟨fun hm => (h3 c hm).1 rfl, h1⟩, fun c' hc' => by rcases List.mem_cons.1 hc' with rfl | hc'; exact h; exact (h3 c' hc').2⟩
  rintro ⟨⟨h1, h2⟩, h3⟩;refine ⟨h2, fun c' hc' => ?_⟩;have hc2 := hin c' (List.mem_cons_of_mem _ hc');rw [getD_setB, h3 c' (List.mem_cons_of_mem _ hc'), Bool.or_false, Bool.and_eq_false_iff];left
  apply decide_eq_false
  intro e
  apply h1
  have : c' = c := by omega
  rw [← this]; exact hc'
theorem free_iff {u : Unf} (hw : WF u) (hd : ∀ e, e ∈ u.es → e.pre.Nodup) {l : List Int} (hl : l.Nodup) (hin : ∀ e, e ∈ l → 0 ≤ e ∧ e < u.es.length) : freeI u l = true ↔ ∀ e f, e ∈ l → f ∈ l → e ≠ f → shareI (evAt u e) (evAt u f) = false := by
 have hmem : ∀ e : Int, 0 ≤ e ∧ e < u.es.length → ∃ x, x ∈ u.es ∧ evAt u e = x.pre := by
  intro e he;obtain ⟨i, rfl⟩ : ∃ i : Nat, e = i := ⟨e.toNat, by omega⟩;have hi : i < u.es.length := by omega
  exact ⟨_, List.getElem_mem hi, evAt_nat hi⟩
 unfold freeI;rw [freeF_iff]
 rotate_left
 ·intro c hc;obtain ⟨e, he, hc⟩ := List.mem_flatMap.1 hc;obtain ⟨x, hx, e2⟩ := hmem e (hin e he);rw [e2] at hc;rw [List.length_replicate];exact hw.p x hx c hc
 have h0 : (∀ c, c ∈ l.flatMap (evAt u) → (List.replicate u.cs.length false).getD c.toNat false = false) ↔ True := ⟨fun _ => trivial, fun _ c _ => getD_rep _ _⟩;rw [h0, and_true, List.Nodup, List.pairwise_flatMap];constructor
 ·rintro ⟨_, h⟩ e f he hf hne;obtain ⟨i, hi, rfl⟩ := List.getElem_of_mem he;obtain ⟨j, hj, rfl⟩ := List.getElem_of_mem hf;rw [List.pairwise_iff_getElem] at h;rw [← Bool.not_eq_true];intro hs;obtain ⟨x, hx, hy⟩ := share_iff.1 hs;rcases Nat.lt_trichotomy i j with hij | hij | hij
  ·exact h i j hi hj hij x hx x hy rfl
  ·subst hij; exact hne rfl
  exact h j i hj hi hij x hy x hx rfl
 intro h;refine ⟨fun e he => ?_, ?_⟩
 ·obtain ⟨x, hx, e2⟩ := hmem e (hin e he);rw [e2]; exact hd x hx
 refine List.Pairwise.imp_of_mem ?_ hl;intro e f he hf hne x hx y hy exy;subst exy;have := h e f he hf hne;rw [← Bool.not_eq_true] at this;exact this (share_iff.2 ⟨x, hx, hy⟩)
theorem past_in {u : Unf} (S : List Int) : ∀ e, e ∈ pastI u S → 0 ≤ e ∧ e < u.es.length := fun e he => flagL_mem he
theorem clash_free {u : Unf} {L A : List ES} (hT : Tru u L A) {s : ES} {S : List Int} (h : ∀ f, s.getLsbD f = true ↔ Rch u S f) : clashI A s = !freeI u (pastI u S) := by
 have h1 := clash_iff hT (s := s) (fun e he => ((h e).1 he).lt hT.o);have h2 := free_iff hT.w.w hT.d (past_nodup u S) (past_in S)
 have h3 : clashI A s = true ↔ ¬ freeI u (pastI u S) = true := by
  rw [h1, h2];constructor
  ·rintro ⟨e, f, he, hf, hne, hsh⟩ hall;have := hall e f ((mem_past hT.o).2 ⟨e, rfl, (h e).1 he⟩) ((mem_past hT.o).2 ⟨f, rfl, (h f).1 hf⟩) (by omega);rw [this] at hsh; cases hsh
  intro hn
  apply Classical.byContradiction
  intro hno
  apply hn
  intro e f he hf hne;obtain ⟨e, rfl, he2⟩ := (mem_past hT.o).1 he;obtain ⟨f, rfl, hf2⟩ := (mem_past hT.o).1 hf;rw [← Bool.not_eq_true];intro hsh;exact hno ⟨e, f, (h e).2 he2, (h f).2 hf2, by omega, hsh⟩
 cases hc : clashI A s <;> cases hf : freeI u (pastI u S) <;> simp_all
theorem coset_tog {u : Unf} {L A : List ES} (hT : Tru u L A) {l : List Int} (hin : ∀ c, c ∈ l → 0 ≤ c ∧ c < u.cs.length) (hn : l.Nodup) : cosetI u L A l = togI u l := by
 unfold cosetI togI;have hb := all_bit hT hin;rw [decide_eq_true hn, Bool.true_and, clash_free hT hb, Bool.not_not, Bool.and_comm];congr 1;rw [List.not_any_eq_all_not];congr 1
 funext c
 rw [cons_used hT.o hT.w.e hb]
theorem evAt_old {N : Net} {u : Unf} {h : Ev} {e : Nat} (he : e < u.es.length) : evAt (withI N u h) (e : Int) = evAt u (e : Int) := by
 unfold evAt;rw [Int.toNat_natCast, List.getD_eq_getElem?_getD, List.getD_eq_getElem?_getD];show ((u.es ++ [h])[e]?.getD _).pre = _;rw [List.getElem?_append_left he]
theorem evAt_new {N : Net} {u : Unf} {h : Ev} : evAt (withI N u h) (u.es.length : Int) = h.pre := by
 unfold evAt;rw [Int.toNat_natCast, List.getD_eq_getElem?_getD];show ((u.es ++ [h])[u.es.length]?.getD _).pre = _;rw [List.getElem?_append_right (Nat.le_refl _), Nat.sub_self]; rfl
theorem cAt_old {N : Net} {u : Unf} {h : Ev} {c : Int} (h0 : 0 ≤ c) (hc : c < u.cs.length) : cAt (withI N u h) c = cAt u c := by
 unfold cAt;rw [List.getD_eq_getElem?_getD, List.getD_eq_getElem?_getD];show ((u.cs ++ _)[c.toNat]?.getD _) = _;rw [List.getElem?_append_left (by omega)]
theorem es_len {N : Net} {u : Unf} {h : Ev} : (withI N u h).es.length = u.es.length + 1 := by show (u.es ++ [h]).length = _; rw [List.length_append]; rfl
theorem evAt_in {u : Unf} (hw : WF u) {e : Nat} (he : e < u.es.length) : ∀ c, c ∈ evAt u (e : Int) → 0 ≤ c ∧ c < u.cs.length := by
 rw [evAt_nat he]; exact hw.p _ (List.getElem_mem he)
theorem rch_old {N : Net} {u : Unf} {h : Ev} (hw : WF u) (ho : Ord u) {S : List Int} (hS : ∀ s, s ∈ S → s < u.es.length) {f : Nat} : Rch (withI N u h) S f ↔ Rch u S f := by
 constructor
 ·intro hr
  induction hr with
  | base h1 h2 => exact .base h1 (by have := hS _ h1; omega)
  | step _ hc hb ih =>
   have hl := ih.lt ho;rw [evAt_old hl] at hc;have hi := evAt_in hw hl _ hc;rw [cAt_old hi.1 hi.2] at hb;exact ih.step hc hb
 intro hr
 induction hr with
 | base h1 h2 => exact .base h1 (by rw [es_len]; omega)
 | step h1 hc hb ih =>
  have hl := h1.lt ho;have hi := evAt_in hw hl _ hc;exact ih.step (by rw [evAt_old hl]; exact hc) (by rw [cAt_old hi.1 hi.2]; exact hb)
theorem rch_new {N : Net} {u : Unf} {h : Ev} (hw : WF u) (ho : Ord u) (hin : ∀ c, c ∈ h.pre → 0 ≤ c ∧ c < u.cs.length) {f : Nat} : Rch (withI N u h) [(u.es.length : Int)] f ↔ (f = u.es.length ∨ Rch u (byL u h.pre) f) := by
 have hby : ∀ c : Int, 0 ≤ c ∧ c < u.cs.length → (cAt u c).by_ < u.es.length := by
  intro c hc;obtain ⟨i, rfl⟩ : ∃ i : Nat, c = i := ⟨c.toNat, by omega⟩;have hi : i < u.cs.length := by omega
  rw [cAt_nat hi]; exact (hw.b _ (List.getElem_mem hi)).2
 constructor
 ·intro hr
  induction hr with
  | base h1 h2 => have := List.mem_singleton.1 h1; exact .inl (by omega)
  | @step e f c _ hc hb ih =>
   right;rcases ih with ih | ih
   ·subst ih;rw [evAt_new] at hc;have hi := hin _ hc;rw [cAt_old hi.1 hi.2] at hb;have := hby c hi;exact .base (List.mem_map.2 ⟨c, hc, hb⟩) (by omega)
   have hl := ih.lt ho;rw [evAt_old hl] at hc;have hi := evAt_in hw hl _ hc;rw [cAt_old hi.1 hi.2] at hb;exact ih.step hc hb
 rintro (rfl | hr)
 ·exact .base (List.mem_singleton.2 rfl) (by rw [es_len]; omega)
 have h0 : Rch (withI N u h) [(u.es.length : Int)] u.es.length := .base (List.mem_singleton.2 rfl) (by rw [es_len]; omega)
 induction hr with
 | base h1 h2 =>
  obtain ⟨c, hc, hb⟩ := List.mem_map.1 h1;have hi := hin _ hc;exact h0.step (by rw [evAt_new]; exact hc) (by rw [cAt_old hi.1 hi.2]; exact hb)
 | step h1 hc hb ih =>
  have hl := h1.lt ho;have hi := evAt_in hw hl _ hc;exact ih.step (by rw [evAt_old hl]; exact hc) (by rw [cAt_old hi.1 hi.2]; exact hb)
theorem bitU_get {k f : Nat} (hk : k < 64) : (bitU k).getLsbD f = decide (f = k) := by
 unfold bitU;rw [BitVec.getLsbD_twoPow]
 by_cases h : k = f
 ·subst h; simp [hk]
 rw [decide_eq_false h, Bool.and_false, decide_eq_false (fun e => h e.symm)]
theorem getD_app_l {α : Type} {L : List α} {x d : α} {e : Nat} (h : e < L.length) : (L ++ [x]).getD e d = L.getD e d := by
 rw [List.getD_eq_getElem?_getD, List.getD_eq_getElem?_getD, List.getElem?_append_left h]
theorem getD_app_r {α : Type} {L : List α} {x d : α} {e : Nat} (h : e = L.length) : (L ++ [x]).getD e d = x := by
 subst h;rw [List.getD_eq_getElem?_getD, List.getElem?_append_right (Nat.le_refl _), Nat.sub_self]; rfl
theorem agK_bit (u : Unf) (h : Ev) (f : Nat) : ∀ k, k ≤ 64 → ((agK u h k).getLsbD f = true ↔ (f < k ∧ shareI (evAt u (f : Int)) h.pre = true))
 | 0, _ => by simp [agK]
 | k + 1, hk => by
  rw [agK];have ih := agK_bit u h f k (by omega)
  split
  ·rename_i hs;rw [BitVec.getLsbD_or, Bool.or_eq_true, bitU_get (by omega), decide_eq_true_eq, ih];constructor
   ·rintro (⟨h1, h2⟩ | h1)
    ·exact ⟨by omega, h2⟩
    subst h1; exact ⟨by omega, hs⟩
   rintro ⟨h1, h2⟩
   by_cases e : f = k
   ·exact .inr e
   exact .inl ⟨by omega, h2⟩
  rename_i hs;rw [ih];constructor
  ·rintro ⟨h1, h2⟩; exact ⟨by omega, h2⟩
  rintro ⟨h1, h2⟩;refine ⟨?_, h2⟩
  by_cases e : f = k
  ·subst e; exact absurd h2 hs
  omega
theorem agA_at (u : Unf) (h : Ev) (A : List ES) (e : Nat) (he : e < A.length) : ∀ k, (agA u h A k).getD e 0 = if e < k ∧ shareI (evAt u (e : Int)) h.pre = true then A.getD e 0 ||| bitU u.es.length else A.getD e 0
 | 0 => by rw [agA, if_neg (by omega)]
 | k + 1 => by
  rw [agA];have ih := agA_at u h A e he k
  split
  ·rename_i hs;rw [List.getD_eq_getElem?_getD, List.getElem?_set]
   by_cases hke : k = e
   ·subst hke;rw [if_pos rfl, if_pos (by rw [agA_len]; exact he), if_pos ⟨by omega, hs⟩]; rfl
   rw [if_neg hke, ← List.getD_eq_getElem?_getD, ih]
   by_cases h2 : e < k ∧ shareI (evAt u (e : Int)) h.pre = true
   ·rw [if_pos h2, if_pos ⟨by omega, h2.2⟩]
   rw [if_neg h2, if_neg (fun h3 => h2 ⟨by omega, h3.2⟩)]
  rename_i hs;rw [ih]
  by_cases h2 : e < k ∧ shareI (evAt u (e : Int)) h.pre = true
  ·rw [if_pos h2, if_pos ⟨by omega, h2.2⟩]
  rw [if_neg h2, if_neg (fun h3 => h2 ⟨by
   by_cases e2 : e = k
   ·subst e2; exact absurd h3.2 hs
   omega, h3.2⟩)]
theorem Tru.zero {N : Net} (hN : NetS N) (m : List UInt8) : Tru ⟨madeI N m, []⟩ [] [] :=
 ⟨⟨(Now.zero hN m).w, Nat.zero_le _, rfl, rfl, fun x hx => absurd hx List.not_mem_nil⟩, fun e c he => absurd he (Nat.not_lt_zero _), fun e he => absurd he List.not_mem_nil, fun e he => absurd he (Nat.not_lt_zero _), fun e he => absurd he (Nat.not_lt_zero _)⟩
theorem Tru.add {N : Net} {u : Unf} {L A : List ES} {h : Ev} (hT : Tru u L A) (hw' : WF (withI N u h)) (he : u.es.length < 64) (hin : ∀ c, c ∈ h.pre → 0 ≤ c ∧ c < u.cs.length) (hnd : h.pre.Nodup) : Tru (withI N u h) (addL u L h) (addA u A h) := by
 have hw := hT.w.w;have hLl := hT.w.l;have hAl := hT.w.a;have hel := es_len (N := N) (u := u) (h := h)
 have hby : ∀ c : Int, 0 ≤ c ∧ c < u.cs.length → (cAt u c).by_ < u.es.length := by
  intro c hc;obtain ⟨i, rfl⟩ : ∃ i : Nat, c = i := ⟨c.toNat, by omega⟩;have hi : i < u.cs.length := by omega
  rw [cAt_nat hi]; exact (hw.b _ (List.getElem_mem hi)).2
 have hO : Ord (withI N u h) := by
  intro e c he' hc;rw [hel] at he'
  by_cases h1 : e < u.es.length
  ·rw [evAt_old h1] at hc;have hi := evAt_in hw h1 _ hc;rw [cAt_old hi.1 hi.2];exact hT.o e c h1 hc
  have : e = u.es.length := by omega
  subst this;rw [evAt_new] at hc;have hi := hin _ hc;rw [cAt_old hi.1 hi.2];exact hby c hi
 have hLb : ∀ e, e < (withI N u h).es.length → ∀ f, ((addL u L h).getD e 0).getLsbD f = true ↔ Rch (withI N u h) [(e : Int)] f := by
  intro e he' f;rw [hel] at he';unfold addL
  by_cases h1 : e < u.es.length
  ·rw [getD_app_l (by omega), rch_old hw hT.o (fun s hs => by rw [List.mem_singleton] at hs; omega)];exact hT.l e h1 f
  have : e = u.es.length := by omega
  subst this;rw [getD_app_r (by omega), rch_new hw hT.o hin, BitVec.getLsbD_or, Bool.or_eq_true, bitU_get he, decide_eq_true_eq, all_bit hT hin, or_comm]
 have hAb : ∀ e, e < (withI N u h).es.length → ∀ f, ((addA u A h).getD e 0).getLsbD f = true ↔ (f < (withI N u h).es.length ∧ e ≠ f ∧ shareI (evAt (withI N u h) (e : Int)) (evAt (withI N u h) (f : Int)) = true) := by
  intro e he' f;rw [hel] at he' ⊢;unfold addA
  by_cases h1 : e < u.es.length
  ·rw [getD_app_l (by rw [agA_len]; omega), agA_at u h A e (by omega), evAt_old h1];have ha := hT.a e h1 f
   by_cases h2 : e < u.es.length ∧ shareI (evAt u (e : Int)) h.pre = true
   ·rw [if_pos h2, BitVec.getLsbD_or, Bool.or_eq_true, bitU_get he, decide_eq_true_eq, ha];constructor
    ·rintro (⟨q1, q2, q3⟩ | rfl)
     ·exact ⟨by omega, q2, by rw [evAt_old q1]; exact q3⟩
     exact ⟨by omega, by omega, by rw [evAt_new]; exact h2.2⟩
    rintro ⟨q1, q2, q3⟩
    by_cases q : f = u.es.length
    ·exact .inr q
    have q1' : f < u.es.length := by omega
    rw [evAt_old q1'] at q3;exact .inl ⟨q1', q2, q3⟩
   rw [if_neg h2, ha];constructor
   ·rintro ⟨q1, q2, q3⟩;exact ⟨by omega, q2, by rw [evAt_old q1]; exact q3⟩
   rintro ⟨q1, q2, q3⟩
   by_cases q : f = u.es.length
   ·subst q; rw [evAt_new] at q3; exact absurd ⟨h1, q3⟩ h2
   have q1' : f < u.es.length := by omega
   rw [evAt_old q1'] at q3;exact ⟨q1', q2, q3⟩
  have : e = u.es.length := by omega
  subst this;rw [getD_app_r (by rw [agA_len]; omega), agK_bit u h f _ (by omega), evAt_new];constructor
  ·rintro ⟨q1, q2⟩;exact ⟨by omega, by omega, by rw [evAt_old q1]; exact share_symm q2⟩
  rintro ⟨q1, q2, q3⟩;have q1' : f < u.es.length := by omega
  rw [evAt_old q1'] at q3;exact ⟨q1', share_symm q3⟩
 refine ⟨⟨hw', by omega, ?_, ?_, ?_⟩, hO, ?_, hLb, hAb⟩
 ·unfold addL; rw [List.length_append, hel, hLl]; rfl
 ·unfold addA; rw [List.length_append, agA_len, hel, hAl]; rfl
 ·intro x hx f hf;obtain ⟨i, hi, rfl⟩ := List.getElem_of_mem hx
  have hi' : i < (withI N u h).es.length := by
   have : (addL u L h).length = u.es.length + 1 := by unfold addL; rw [List.length_append, hLl]; rfl
   omega
  have := (hLb i hi' f).1 (by rw [List.getD_eq_getElem?_getD, List.getElem?_eq_getElem hi]; exact hf);exact this.lt hO
 intro e he';rcases List.mem_append.1 he' with h1 | h1
 ·exact hT.d e h1
 rw [List.mem_singleton] at h1; subst h1; exact hnd
def srtd (l : List Int) : Prop := l.Pairwise (fun a b => a < b)
theorem srtd_ext : ∀ {a b : List Int}, srtd a → srtd b → (∀ x, x ∈ a ↔ x ∈ b) → a = b
 | [], [], _, _, _ => rfl
 | [], y :: b, _, _, h => by have := (h y).2 List.mem_cons_self; cases this
 | x :: a, [], _, _, h => by have := (h x).1 List.mem_cons_self; cases this
 | x :: a, y :: b, ha, hb, h => by
  have ha' := List.pairwise_cons.1 ha;have hb' := List.pairwise_cons.1 hb
  have hxy : x = y := by
   rcases List.mem_cons.1 ((h x).1 List.mem_cons_self) with e | e
   ·exact e
   rcases List.mem_cons.1 ((h y).2 List.mem_cons_self) with e2 | e2
   ·exact e2.symm
   have := hb'.1 x e;have := ha'.1 y e2;omega
  subst hxy;congr 1;refine srtd_ext ha'.2 hb'.2 fun z => ?_
  have hz := h z;rw [List.mem_cons, List.mem_cons] at hz;constructor
  ·intro q;rcases hz.1 (.inr q) with e | e
   ·subst e; have := ha'.1 _ q; omega
   exact e
  intro q;rcases hz.2 (.inr q) with e | e
  ·subst e; have := hb'.1 _ q; omega
  exact e
theorem findIdx_le {l : List Int} {x : Int} {i : Nat} (hi : i < l.findIdx (fun y => decide (x ≤ y))) (hl : i < l.length) : l[i] < x := by
 have := List.not_of_lt_findIdx hi;simp only [decide_eq_true_eq, decide_eq_false_iff_not, Bool.not_eq_true] at this;omega
theorem putI_srtd {l : List Int} (h : srtd l) (x : Int) : srtd (putI l x) ∧ ∀ y, y ∈ putI l x ↔ (y ∈ l ∨ y = x) := by
 unfold putI;obtain ⟨k, hk⟩ := eqx (l.findIdx (fun y => decide (x ≤ y)));rw [← hk]
 by_cases he : l[k]? = some x
 ·rw [if_pos he];refine ⟨h, fun y => ⟨.inl, ?_⟩⟩;rintro (q | rfl)
  ·exact q
  exact List.mem_of_getElem? he
 rw [if_neg he];have hlow : ∀ i (hi : i < l.length), i < k → l[i] < x := fun i hi hik => findIdx_le (by omega) hi
 have hhigh : ∀ i (hi : i < l.length), k ≤ i → x < l[i] := by
  intro i hi hki;have hkl : k < l.length := by omega
  have h1 : x ≤ l[k] := by
   have := List.findIdx_getElem (w := show l.findIdx (fun y => decide (x ≤ y)) < l.length by omega);have := of_decide_eq_true this;simpa only [← hk] using this
  have h2 : l[k] ≠ x := fun e => he (by rw [List.getElem?_eq_getElem hkl, e])
  by_cases e : k = i
  ·subst e; omega
  have := (List.pairwise_iff_getElem.1 h) k i hkl hi (by omega);omega
 refine ⟨?_, ?_⟩
 ·unfold srtd;rw [List.pairwise_append, List.pairwise_append];refine ⟨⟨List.Pairwise.sublist (List.take_sublist _ _) h, List.pairwise_singleton _ _, ?_⟩, List.Pairwise.sublist (List.drop_sublist _ _) h, ?_⟩
  ·intro a ha b hb;rw [List.mem_singleton] at hb; subst hb;obtain ⟨i, hi, rfl⟩ := List.mem_take_iff_getElem.1 ha;exact hlow i (by omega) (by omega)
  intro a ha b hb;obtain ⟨j, hj, rfl⟩ := List.mem_drop_iff_getElem.1 hb;have h2 := hhigh (k + j) (by omega) (by omega);rcases List.mem_append.1 ha with ha | ha
  ·obtain ⟨i, hi, rfl⟩ := List.mem_take_iff_getElem.1 ha;have := hlow i (by omega) (by omega);omega
  rw [List.mem_singleton] at ha; subst ha; exact h2
 intro y;have : y ∈ l ↔ (y ∈ l.take k ∨ y ∈ l.drop k) := by rw [← List.mem_append, List.take_append_drop]
 rw [this, List.mem_append, List.mem_append, List.mem_singleton];constructor
 ·rintro ((q | q) | q)
  ·exact .inl (.inl q)
  ·exact .inr q
  exact .inl (.inr q)
 rintro ((q | q) | q)
 ·exact .inl (.inl q)
 ·exact .inr q
 exact .inl (.inr q)
def setP (l : List Int) : List Int := l.foldl putI []
theorem setF_srtd : ∀ (l a : List Int), srtd a → srtd (l.foldl putI a) ∧ ∀ y, y ∈ l.foldl putI a ↔ (y ∈ a ∨ y ∈ l)
 | [], a, h => ⟨h, fun y => by simp⟩
 | x :: l, a, h => by
  have h1 := putI_srtd h x;have h2 := setF_srtd l (putI a x) h1.1;refine ⟨h2.1, fun y => ?_⟩;rw [List.foldl_cons, h2.2 y, h1.2 y, List.mem_cons, or_assoc]
theorem setP_srtd (l : List Int) : srtd (setP l) ∧ ∀ y, y ∈ setP l ↔ y ∈ l := by
 have := setF_srtd l [] List.Pairwise.nil;exact ⟨this.1, fun y => by rw [setP, this.2 y]; simp⟩
theorem places_set (u : Unf) (l : List Int) : placesI u l = setP (plK u l) := by
 unfold placesI setP plK;rw [List.foldl_map]
theorem sort_perm (l : List Int) : (sortI l).Perm l := List.mergeSort_perm _ _
theorem sort_le (l : List Int) : (sortI l).Pairwise (fun a b => a ≤ b) := by
 have := List.pairwise_mergeSort (le := fun x y : Int => decide (x ≤ y)) (fun a b c h1 h2 => by have := of_decide_eq_true h1; have := of_decide_eq_true h2; exact decide_eq_true (by omega)) (fun a b => by
  by_cases h : a ≤ b
  ·simp [h]
  simp [h, show b ≤ a by omega]) l
 exact this.imp fun h => of_decide_eq_true h
theorem rising_srtd {l : List Int} {lo hi : Int} (h : rising l lo hi = true) : srtd l := by
 rw [srtd, List.pairwise_iff_getElem];intro i j hi hj hij;exact rise_lt h j i hj hij
theorem srtd_nodup {l : List Int} (h : srtd l) : l.Nodup := h.imp fun q => by omega
theorem nodup_len : ∀ (l s : List Int), s.Nodup → (∀ x, x ∈ s → x ∈ l) → s.length ≤ l.length
 | [], s, _, h => by
  cases s with
  | nil => exact Nat.le_refl _
  | cons x s => have := h x List.mem_cons_self; cases this
 | a :: l, s, hs, h => by
  by_cases ha : a ∈ s
  ·have := nodup_len l (s.erase a) (hs.erase a) (fun x hx => by
    have hx' := (hs.mem_erase_iff).1 hx;rcases List.mem_cons.1 (h x hx'.2) with e | e
    ·exact absurd e hx'.1
    exact e)
   rw [List.length_erase_of_mem ha] at this;rw [List.length_cons]; omega
  have := nodup_len l s hs (fun x hx => by
   rcases List.mem_cons.1 (h x hx) with e | e
   ·subst e; exact absurd hx ha
   exact e)
  rw [List.length_cons]; omega
theorem nodup_full : ∀ (l s : List Int), s.Nodup → (∀ x, x ∈ s → x ∈ l) → s.length = l.length → l.Nodup
 | [], s, _, _, _ => List.nodup_nil
 | a :: l, s, hs, h, hl => by
  rw [List.length_cons] at hl
  have hsub : a ∉ s ∨ a ∈ l → ∀ x, x ∈ s → x ∈ l := by
   intro q x hx;rcases List.mem_cons.1 (h x hx) with e | e
   ·subst e;rcases q with q | q
    ·exact absurd hx q
    exact q
   exact e
  have hno : ¬ (a ∉ s ∨ a ∈ l) := fun q => by have := nodup_len l s hs (hsub q); omega
  have ha : a ∈ s := Classical.byContradiction fun q => hno (.inl q)
  rw [List.nodup_cons];refine ⟨fun q => hno (.inr q), nodup_full l (s.erase a) (hs.erase a) (fun x hx => ?_) (by rw [List.length_erase_of_mem ha]; omega)⟩;have hx' := (hs.mem_erase_iff).1 hx;rcases List.mem_cons.1 (h x hx'.2) with e | e
  ·exact absurd e hx'.1
  exact e
theorem perm_len_nodup {l : List Int} (h : (setP l).length = l.length) : l.Nodup :=
 nodup_full l (setP l) (srtd_nodup (setP_srtd l).1) (fun x hx => ((setP_srtd l).2 x).1 hx) h
theorem sort_set {l p : List Int} (hp : srtd p) : sortI l = p ↔ (l.length = p.length ∧ setP l = p) := by
 have hs := setP_srtd l;constructor
 ·intro h;have hl : l.length = p.length := by rw [← h, sortI_len]
  refine ⟨hl, srtd_ext hs.1 hp fun x => ?_⟩;rw [hs.2 x, ← h];exact (sort_perm l).mem_iff.symm
 rintro ⟨hl, h⟩;have hn : l.Nodup := perm_len_nodup (by rw [h]; omega);have hsn : (sortI l).Nodup := (sort_perm l).nodup_iff.2 hn
 have hso : srtd (sortI l) := by
  have := (sort_le l).and hsn;exact this.imp fun ⟨h1, h2⟩ => by omega
 rw [← h];refine srtd_ext hso hs.1 fun x => ?_
 rw [hs.2 x]; exact (sort_perm l).mem_iff
theorem fits_both {N : Net} {u : Unf} {L A : List ES} {h : Ev} (hN : NetS N) (hT : Tru u L A) : fitsJ N u L A h = fitsI N u h := by
 unfold fitsJ fitsI fitA fitA1
 by_cases hr : inR N h.t = true
 ·by_cases hi : rising h.pre 0 ((u.cs.length : Int) - 1) = true
  ·have hin : ∀ c, c ∈ h.pre → 0 ≤ c ∧ c < u.cs.length := fun c hc => by have := rising_in hi c hc; omega
   have hco := coset_tog hT hin (srtd_nodup (rising_srtd hi));have hpr := rising_srtd (hN.t _ (tAt_mem hr)).2.2.2.1;have hss := sort_set (l := plK u h.pre) hpr;rw [plK_len, ← places_set] at hss;rw [hr, hi, hco, fitC, decide_eq_decide.2 hss]
   have : decide (h.pre.length = (tAt N h.t).pre.length ∧ placesI u h.pre = (tAt N h.t).pre) = (decide ((h.pre.length : Int) = ((tAt N h.t).pre.length : Int)) && decide (placesI u h.pre = (tAt N h.t).pre)) := by
    rw [← Bool.decide_and]; apply decide_eq_decide.2; constructor
    ·rintro ⟨a, b⟩; exact ⟨by omega, b⟩
    rintro ⟨a, b⟩; exact ⟨by omega, b⟩
   rw [this];cases decide ((h.pre.length : Int) = ((tAt N h.t).pre.length : Int)) <;> cases decide (placesI u h.pre = (tAt N h.t).pre) <;> cases fitB u h <;> cases togI u h.pre <;> rfl
  rw [Bool.not_eq_true] at hi;rw [hi]; cases inR N h.t <;> rfl
 rw [Bool.not_eq_true] at hr;rw [hr]; rfl
set_option maxHeartbeats 1000000 in
theorem eqConds_spec (a b : List Cond) (ha : a.length ≤ 2000000) (hb : b.length ≤ 2000000) : ASpec Tryz.prog 58 [.d (vCs a), .d (vCs b)] [] (Pure1 (aT (decide (a = b)))) := by
 refine ASpec.of Tryz.func58 rfl rfl fun C hC => ?_
 refine AC.seq (AC.region ?_);refine za ?_;refine AL.nil (th_n (AC.seq (AC.seq (AC.region ?_))));refine zm ?_;refine kH ?_;refine zm ?_;refine kH ?_;refine zc ?_;refine AL.nil (th_n ?_);refine AC.condND rfl (fun h0 => ?_) (fun h0 => ?_)
 ·refine AC.seq (AC.region ?_);refine za ?_;refine AL.nil (th_n (AC.ret (th_r (bq_r ?_))));have hz : ¬ a = b := fun e => by rw [e] at h0; simp at h0
  exact ret1 rfl (by rw [decide_eq_false hz])
 refine AC.skip (th_n (AC.seq (AC.seq (AC.region ?_))));refine zm ?_;refine kH ?_;refine zm ?_;refine AL.nil (th_n (AC.block ?_));refine AC.loop (ι := Nat) (fun k => ⟨26, 8, [(0, .d (vCs a)), (1, .d (vCs b)), (12, aI a.length), (13, aI k)], []⟩) (fun k => k ≤ a.length ∧ ∀ j, j < k → a[j]? = b[j]?) (fun k => a.length - k) (0) ?_ (⟨Nat.zero_le _, fun j hj => by omega⟩) ?_
 ·refine Weak.ren _ [] hC rfl ?_ ?_ rfl rfl rfl <;> repeat (first | exact True.intro | refine And.intro ?_ ?_ | exact DLead.same)
 intro q ⟨hq, hall⟩;refine AC.seq (AC.region ?_);refine zc ?_;refine AL.nil (th_n (AC.seq ?_));refine AC.condD rfl (fun h1 => ?_) (fun h1 => ?_)
 ·refine AC.skip (th_n (AC.seq (AC.block (AC.seq ?_))));have hlen : a.length = b.length := by omega
  have hq1 : q < a.length := by omega
  have hq2 : q < b.length := by omega
  have hgetn := condsL_get hq1;have hgetu := condsL_get hq2;refine AC.region ?_;refine zm ?_;refine za ?_;refine AL.nil (th_n (AC.seq ?_));refine AC.drawn' mixed_ok [[], [], [0,1], [0,1,2], [], [], [4,5], [4,5,6], [0,1,2,3,4,5,6,7]] (by decide) ?_;refine zd 0 [] 9 (by exact mv1 rfl) ?_;refine zd 1 [] 9 (by exact mv1 rfl) ?_;refine zd 2 [0,1] 9 (by exact g_ia_view rfl rfl rfl rfl rfl (by rfl) (by assumption)) ?_;refine zd 3 [0,1,2] 9 (by exact g_load_refN rfl rfl rfl rfl) ?_;refine zd 4 [] 9 (by exact mv1 rfl) ?_;refine zd 5 [] 9 (by exact mv1 rfl) ?_;refine zd 6 [4,5] 9 (by exact g_ia_view rfl rfl rfl rfl rfl (by rfl) (by assumption)) ?_;refine zd 7 [4,5,6] 9 (by exact g_load_refN rfl rfl rfl rfl) ?_;refine zd 8 [0,1,2,3,4,5,6,7] 9 (by exact g_eq2 (by decide +kernel) rfl rfl rfl) ?_;refine zj 9 ?_;refine th_n ?_;refine AC.condND rfl (fun h2 => ?_) (fun h2 => ?_)
  ·refine AC.seq (AC.region ?_);refine za ?_;refine AL.nil (th_n (AC.ret (ib_r (th_r (th_r (ib_r (th_r (bq_r ?_))))))));exact ret1 rfl (by rw [decide_eq_false (cs_ne hq1 hq2 h2)])
  refine AC.skip (ib_n (th_n (AC.region ?_)));refine zA ?_;refine zm ?_;refine AL.nil (th_n ?_);exact ⟨q + 1, ⟨by omega, by exact cs_step hq1 hq2 hall h2⟩, by omega, Weak.ren _ [] hC rfl (by repeat (first | exact True.intro | refine And.intro ?_ ?_ | exact DLead.same)) (by repeat (exact True.intro)) rfl rfl rfl⟩
 refine AC.exit (th_e (th_e (ib_y (th_n (AC.seq (AC.region ?_))))));refine za ?_;refine AL.nil (th_n (AC.ret (bq_r ?_)));have hlen : a.length = b.length := by omega
 have hz : a = b := cs_all hlen (by omega) hall;exact ret1 rfl (by rw [decide_eq_true hz])
theorem en_eqConds : Enters Tryz.prog 58 := enters_of Tryz.func58 rfl rfl
def runLA (N : Net) : Unf → List ES → List ES → List Ev → List ES × List ES
 | _, L, A, [] => (L, A)
 | u, L, A, h :: hs => runLA N (withI N u h) (addL u L h) (addA u A h) hs
def locL (N : Net) (m : List UInt8) (u : Unf) : List ES := (runLA N ⟨madeI N m, []⟩ [] [] u.es).1
def agaA (N : Net) (m : List UInt8) (u : Unf) : List ES := (runLA N ⟨madeI N m, []⟩ [] [] u.es).2
def brRes (N : Net) (m : List UInt8) (u : Unf) : AV → List (Nat × Chunk) → Prop := if goodU N m u = true then Fun1 (.tup [.ptr 0 0, aT true]) (brChs N u (locL N m u) (agaA N m u)) else Pure1 (.tup [.dead, aT false])
theorem brRes_t {N : Net} {m : List UInt8} {u : Unf} (h : goodU N m u = true) : brRes N m u = Fun1 (.tup [.ptr 0 0, aT true]) (brChs N u (locL N m u) (agaA N m u)) := if_pos h
theorem brRes_f {N : Net} {m : List UInt8} {u : Unf} (h : goodU N m u = false) : brRes N m u = Pure1 (.tup [.dead, aT false]) := if_neg (by rw [h]; exact Bool.false_ne_true)
theorem run_es {N : Net} : ∀ {hs : List Ev} {u now : Unf}, runI N u hs = some now → now.es = u.es ++ hs
 | [], u, now, h => by rw [runI] at h; cases h; exact (List.append_nil _).symm
 | x :: hs, u, now, h => by
  rw [runI] at h
  split at h
  ·have := run_es h;rw [this]; show (u.es ++ [x]) ++ hs = _;rw [List.append_assoc]; rfl
  cases h
theorem fits_in {N : Net} {u : Unf} {h : Ev} (hf : fitsI N u h = true) : (∀ c, c ∈ h.pre → 0 ≤ c ∧ c < u.cs.length) ∧ h.pre.Nodup := by
 have hr := fits_rising hf;exact ⟨fun c hc => by have := rising_in hr c hc; omega, srtd_nodup (rising_srtd hr)⟩
theorem run_tru {N : Net} (hN : NetS N) : ∀ (hs : List Ev) (k : Nat) (u now : Unf) (L A : List ES), Now N k u → Tru u L A → k + hs.length ≤ 60 → runI N u hs = some now → Tru now (runLA N u L A hs).1 (runLA N u L A hs).2
 | [], k, u, now, L, A, hn, hT, hk, h => by rw [runI] at h; cases h; exact hT
 | x :: hs, k, u, now, L, A, hn, hT, hk, h => by
  rw [List.length_cons] at hk;rw [runI] at h
  split at h
  ·rename_i hf;have h2 := hn.fit hN (by omega) hf;have hi := fits_in hf;have hu := hn.n;exact run_tru hN hs (k + 1) _ now _ _ h2.1 (hT.add h2.1.w (by omega) hi.1 hi.2) (by omega) h
  cases h
structure Good (N : Net) (m : List UInt8) (u : Unf) : Prop where
 n : NetS N
 q : (m.length : Int) = N.places
 b : bitsB m N.places = true
 e : u.es.length ≤ 60
 c : u.cs.length ≤ 200
 r : runI N ⟨madeI N m, []⟩ u.es = some u
theorem goodU_iff {N : Net} {m : List UInt8} {u : Unf} (h : goodU N m u = true) : Good N m u := by
 unfold goodU at h;rw [Bool.and_eq_true, Bool.and_eq_true, Bool.and_eq_true] at h;obtain ⟨⟨h1, h2⟩, h3, h4⟩ := h;unfold limB at h3;rw [Bool.and_eq_true, decide_eq_true_eq, decide_eq_true_eq] at h3;have hm : (m.length : Int) = N.places := by have h5 := h2; unfold bitsB at h5; rw [Bool.and_eq_true, decide_eq_true_eq] at h5; exact h5.2
 refine ⟨good_S h1, hm, h2, by omega, by omega, ?_⟩;cases hr : runI N ⟨madeI N m, []⟩ u.es with
 | none => rw [isU_none hr] at h4; cases h4
 | some now =>
  rw [isU_some hr, decide_eq_true_eq] at h4;have he := run_es hr;congr 1;cases now; cases u;simp only at h4 he;rw [h4, he]; rfl
theorem Good.tru {N : Net} {m : List UInt8} {u : Unf} (h : Good N m u) : Tru u (locL N m u) (agaA N m u) :=
 run_tru h.n _ 0 _ _ _ _ (Now.zero h.n m) (Tru.zero h.n m) (by have := h.e; omega) h.r
set_option maxRecDepth 20000 in
set_option maxHeartbeats 8000000 in
theorem branchingOf_spec (N : Net) (m : List UInt8) (u : Unf) (hB : NetL N) (hm : m.length ≤ 2000000) (hu : UnfL u) : ASpec Tryz.prog 31 [netA N, aS (bstr m), unfA u] [] (brRes N m u) := by
 have hue := hu.e;have huc := hu.c;have hA0 := IsValidMarking_gen N m hB hm;have hL0 := isFull_spec u hue huc;obtain ⟨ask, hask⟩ := eqx ((goodN N && bitsB m N.places));obtain ⟨lim, hlim⟩ := eqx (limB u);have hgu : goodU N m u = (ask && (lim && isU N m u)) := by rw [hask, hlim]; rfl
 have hask2 : ask = true → goodN N = true ∧ bitsB m N.places = true := by intro h; rw [hask, Bool.and_eq_true] at h; exact h
 have hlim2 : lim = true → u.es.length ≤ 60 ∧ u.cs.length ≤ 200 := by intro h; rw [hlim, limB, Bool.and_eq_true, decide_eq_true_eq, decide_eq_true_eq] at h; omega
 rw [← hask] at hA0;rw [← hlim] at hL0;refine ASpec.of Tryz.func31 rfl rfl fun C hC => ?_
 refine AC.seq (AC.region ?_);refine kD ?_;refine kD ?_;refine za ?_;refine za ?_;refine AL.nil (th_n (AC.seq (AC.seq (AC.region ?_))));refine kG ?_;refine zm ?_;refine kV en_IsValidMarking hA0 ?_;refine kC ?_;refine zm ?_;refine AL.caseGB rfl rfl (fun h0 => ?_) (fun h0 => ?_)
 ·refine zn ?_;refine zn ?_;refine zQ ?_;refine AL.nil (th_n ?_);refine AC.condT rfl ?_;refine AC.seq (AC.region ?_);refine za ?_;refine za ?_;refine AL.nil (th_n (AC.ret (th_r (bq_r ?_))));have hz := and3_0 (b := lim) (c := isU N m u) h0;rw [brRes_f (hgu.trans hz)];exact ret0 rfl (by repeat (first | exact rfl | exact DLead.same | exact True.intro | refine ⟨_, _, rfl, ?_, ?_⟩ | refine ⟨_, rfl, ?_⟩))
 refine zy ?_;refine kG ?_;refine zy ?_;refine kV en_isFull hL0 ?_;refine zP ?_;refine AL.nil (th_n ?_);refine AC.condB rfl (fun h1 => ?_) (fun h1 => ?_)
 ·refine AC.seq (AC.region ?_);refine za ?_;refine za ?_;refine AL.nil (th_n (AC.ret (th_r (bq_r ?_))));have hz := and3_1 (a := ask) (c := isU N m u) h1;rw [brRes_f (hgu.trans hz)];exact ret0 rfl (by repeat (first | exact rfl | exact DLead.same | exact True.intro | refine ⟨_, _, rfl, ?_, ?_⟩ | refine ⟨_, rfl, ?_⟩))
 refine AC.skip (th_n (AC.seq ?_));have hat := (Bool.not_eq_false' _).mp h0;have hlt := (Bool.not_eq_false' _).mp h1;have hN := good_S (hask2 hat).1;have hul := hlim2 hlt;have hml : (m.length : Int) = N.places := by have h5 := (hask2 hat).2; unfold bitsB at h5; rw [Bool.and_eq_true, decide_eq_true_eq] at h5; exact h5.2
 have hM0 := newBr_spec N m hN hml;have hNow0 := Now.zero hN m;have hTru0 := Tru.zero hN m;have hgi : goodU N m u = isU N m u := by rw [hgu, hat, hlt]; rfl
 have hNB := hN.B;refine AC.region ?_;refine kG ?_;refine zm ?_;refine kU [] en_newBr hM0 ?_;refine AL.p (by exact as3 rfl) rfl ?_;refine AL.nil (th_n (AC.seq (AC.seq (AC.region ?_))));refine zf ?_;refine zr ?_;refine kH ?_;refine zm ?_;refine AL.nil (th_n (AC.block ?_));refine AC.loop (ι := Nat × Unf × List ES × List ES) (fun x => ⟨46, 136, [(3, .d (.ref (netD N))), (5, .d (.ref (unfD u))), (8, .ptr 100 0), (23, .d (vEs u.es)), (24, aI u.es.length), (25, aI x.1)], [(100, some (brC N 101 x.2.1.cs.length 102 x.2.1.es.length 103 x.2.2.1.length 104 x.2.2.2.length)), (101, some (.arr 88 2 (condsL x.2.1.cs))), (102, some (.arr 46 2 (evsL x.2.1.es))), (103, some (.arr 102 1 (esL x.2.2.1))), (104, some (.arr 102 1 (esL x.2.2.2)))]⟩) (fun x => x.1 ≤ u.es.length ∧ Now N x.1 x.2.1 ∧ Tru x.2.1 x.2.2.1 x.2.2.2 ∧ runI N x.2.1 (u.es.drop x.1) = runI N ⟨madeI N m, []⟩ u.es ∧ runLA N x.2.1 x.2.2.1 x.2.2.2 (u.es.drop x.1) = runLA N ⟨madeI N m, []⟩ [] [] u.es) (fun x => u.es.length - x.1) ((0, ⟨madeI N m, []⟩, [], [])) ?_ (⟨Nat.zero_le _, hNow0, hTru0, rfl, rfl⟩) ?_
 ·exact zw [(100, _), (101, _), (102, _), (103, _), (104, _)] hC
 rintro ⟨k, now, L, A⟩ ⟨hk, hnow, hT, hrun, hrla⟩;dsimp only at hk hnow hT hrun hrla ⊢;refine AC.seq (AC.region ?_);refine zc ?_;refine AL.nil (th_n (AC.seq ?_));refine AC.condD rfl (fun h2 => ?_) (fun h2 => ?_)
 ·refine AC.skip (th_n (AC.seq (AC.block (AC.seq ?_))));have hk1 : k < u.es.length := by omega
  have hget := evsL_get hk1;have hnl := hnow.n;have hlim5 : u.es[k].pre.length ≤ 2000000 := hu.l _ (List.getElem_mem hk1);have hF := brFits_spec N now L A u.es[k] hNB hT.w hlim5;rw [fits_both hN hT] at hF;rw [List.drop_eq_getElem_cons hk1] at hrun hrla;obtain ⟨ft, hft⟩ := eqx (fitsI N now u.es[k]);rw [← hft] at hF;refine AC.region ?_;refine AL.p (by exact g_ia_view rfl rfl rfl rfl rfl (by rfl) (by assumption)) rfl ?_;refine kG ?_;refine kE ?_;refine zs ?_;refine AL.nil (th_n (AC.seq (AC.seq (AC.region ?_))));refine AL.p (by exact mv3 rfl) rfl ?_;refine AL.p (by exact g_load_ptrN rfl rfl rfl rfl rfl) rfl ?_;refine AL.q (by exact h_borrow [100, 101, 102, 103, 104] en_brFits rfl rfl hF (br_lent [100, 101, 102, 103, 104] 100 101 102 103 104 rfl rfl rfl rfl rfl rfl rfl rfl rfl rfl (.cons (.agg (ds := evD u.es[k])) .nil)) rfl) rfl ?_;refine kC ?_;refine AL.nil (th_n ?_);refine AC.condB rfl (fun h3 => ?_) (fun h3 => ?_)
  ·refine AC.seq (AC.region ?_);refine za ?_;refine za ?_;refine AL.nil (th_n (AC.ret (th_r (ib_r (th_r (th_r (ib_r (th_r (bq_r ?_)))))))));have hff : fitsI N now u.es[k] = false := by rw [← hft]; exact (Bool.not_eq_true' _).mp h3
   rw [runI_no hff] at hrun;rw [brRes_f (hgi.trans (isU_none hrun.symm))];exact ret0 rfl (by repeat (first | exact rfl | exact DLead.same | exact True.intro | refine ⟨_, _, rfl, ?_, ?_⟩ | refine ⟨_, rfl, ?_⟩))
  refine AC.skip (th_n ?_);have hff : fitsI N now u.es[k] = true := by rw [← hft]; exact (Bool.not_eq_false' _).mp h3
  rw [runI_yes hff] at hrun;rw [runLA] at hrla;obtain ⟨hnow2, hpl⟩ := hnow.fit hN (by omega) hff;have hi := fits_in hff;have hT2 := hT.add hnow2.w (by omega) hi.1 hi.2;have hAd := brAdd_spec N now L A u.es[k] hNB hT.w (by omega) (by omega) (fits_inR hff) hi.1;refine AC.region ?_;refine AL.p (by exact mv3 rfl) rfl ?_;refine AL.p (by exact g_load_ptrN rfl rfl rfl rfl rfl) rfl ?_;refine kU [100, 101, 102, 103, 104] en_brAdd hAd ?_;refine AL.nil (ib_n (th_n (AC.region ?_)));refine zA ?_;refine zm ?_;refine AL.nil (th_n ?_);exact ⟨(k + 1, withI N now u.es[k], addL now L u.es[k], addA now A u.es[k]), ⟨by show k + 1 ≤ _; omega, hnow2, hT2, hrun, hrla⟩, by show u.es.length - (k + 1) < u.es.length - k; omega, zw [(100, _), (101, _), (102, _), (103, _), (104, _)] hC⟩
 refine AC.exit (th_e (th_e (ib_y (th_n (AC.seq ?_)))));have hkk : k = u.es.length := by omega
 rw [hkk, List.drop_length] at hrun hrla;have hU := isU_some hrun.symm;have hncl := hnow.c;have hgn : goodU N m u = decide (now.cs = u.cs) := by rw [hgi, hU]
 have hL : L = locL N m u := by unfold locL; rw [← hrla]; rfl
 have hA : A = agaA N m u := by unfold agaA; rw [← hrla]; rfl
 have hes : now.es = u.es := by have := run_es hrun.symm; exact this
 have hEq := eqConds_spec now.cs u.cs (by omega) (by omega);refine AC.drawn' mixed_ok [[], [], [1], [1,2], [1,2,3], [1,2,3,4], [], [6], [1,2,3,4,5,6,7], [0,1,2,3,4,5,6,7,8], [0,1,2,3,4,5,6,7,8,9]] (by decide) ?_;refine zd 0 [] 11 (by exact mv3 rfl) ?_;refine zd 1 [] 11 (by exact mv3 rfl) ?_;refine zd 2 [1] 11 (by exact g_nilP rfl) ?_;refine zd 3 [1,2] 11 (by exact g_fa_ptr rfl rfl rfl rfl rfl) ?_;refine zd 4 [1,2,3] 11 (by exact g_fa_ptr rfl rfl rfl rfl rfl) ?_;refine zd 5 [1,2,3,4] 11 (by exact g_load_ptr rfl rfl rfl rfl rfl) ?_;refine zd 6 [] 11 (by exact g_fa_ref rfl rfl rfl rfl rfl rfl) ?_;refine zd 7 [6] 11 (by exact g_load_ref rfl rfl rfl) ?_;refine zh 8 [1,2,3,4,5,6,7] 11 (by exact h_borrow [101] en_eqConds rfl rfl hEq (.cons (.of (.own rfl rfl (own_le _ _) (own_take _ _))) (.cons (.of .d) .nil)) rfl) ?_;refine zd 9 (List.range 9) 11 (by exact as3 rfl) ?_;refine zd 10 (List.range 10) 11 (by exact as1 rfl) ?_;refine zj 11 ?_;refine th_n (AC.ret (bq_r ?_))
 by_cases hz : now.cs = u.cs
 rotate_left
 rw [brRes_f (hgn.trans (decide_eq_false hz))];exact ret0 rfl (by rw [decide_eq_false hz]; repeat (first | exact rfl | exact DLead.same | exact True.intro | refine ⟨_, _, rfl, ?_, ?_⟩ | refine ⟨_, rfl, ?_⟩));have hnu : now = u := by cases now; cases u; simp only at hz hes; rw [hz, hes]
 rw [brRes_t (hgn.trans (decide_eq_true hz)), ← hL, ← hA];subst hnu;exact retN [(0, _), (1, _), (2, _), (3, _), (4, _)] rfl (by rw [decide_eq_true hz]; repeat (first | exact rfl | exact DLead.same | refine ⟨_, _, rfl, ?_, ?_⟩ | refine ⟨_, rfl, ?_⟩)) (by repeat (first | exact True.intro | refine And.intro ?_ ?_ | exact DLead.same | exact rfl | refine ⟨_, _, rfl, rfl, ?_⟩ | refine ⟨_, rfl, ?_⟩ | refine ⟨_, _, rfl, ?_, ?_⟩)) rfl rfl
theorem en_branchingOf : Enters Tryz.prog 31 := enters_of Tryz.func31 rfl rfl
structure ArgN (N : Net) : Prop where
 p : -9223372036854775808 ≤ N.places ∧ N.places ≤ 9223372036854775807
 l : N.ts.length ≤ 9223372036854775807
 t : ∀ t, t ∈ N.ts → t.pre.length ≤ 9223372036854775807 ∧ t.post.length ≤ 9223372036854775807
structure ArgU (u : Unf) : Prop where
 c : u.cs.length ≤ 9223372036854775807
 l : u.es.length ≤ 9223372036854775807
 t : ∀ e, e ∈ u.es → e.pre.length ≤ 9223372036854775807
open Go.ChangeShapes Go.WideShapes Go.ChangeAt Go.RowKit
section
variable {H : Type} {enc : TypeId × Value → H} {P : Program}
structure RT (enc : TypeId × Value → H) (P : Program) (t : TypeId) (k : Nat) {α : Type} (f : α → List DV) (ok : α → Prop) : Prop where
 rd : ∀ (W : World) (fuel : Nat) (cs : List Value) (x : DataW H × List MemPlace), DataW.trod enc P W 0 (fun _ => true) true fuel t cs = some x →
  cs.length = k ∧ ∃ a, ok a ∧ (f a).length = k ∧ ∀ j d, (f a)[j]? = some d → DRep (fun k => k < W.heap.size) W d (cs.getD j undef)
theorem get1 {x d : DV} {j : Nat} (h : [x][j]? = some d) : j = 0 ∧ d = x := by
 cases j with
 | zero => simp at h; exact ⟨rfl, h.symm⟩
 | succ j => simp at h
def okI (n : Int) : Prop := -9223372036854775808 ≤ n ∧ n ≤ 9223372036854775807
theorem RT.int {t : TypeId} (ht : P.underlying t = some (.int .i64)) : RT enc P t 1 (fun n : Int => [dI n]) okI := by
 refine ⟨fun W fuel cs x h => ?_⟩;obtain ⟨n, rfl, rfl, hwf⟩ := DataW.trod_int ht h;have hb := bounds_i64 hwf;refine ⟨rfl, n, hb, rfl, fun j d hj => ?_⟩;obtain ⟨rfl, rfl⟩ := get1 hj;refine .val ?_;show IntKind.i64.wrap n = n;exact wrap_i64 hb
theorem RT.bool {t : TypeId} (ht : P.underlying t = some .bool) : RT enc P t 1 (fun b : Bool => [dT b]) (fun _ => True) := by
 refine ⟨fun W fuel cs x h => ?_⟩;obtain ⟨b, rfl, rfl⟩ := DataW.trod_bool ht h;exact ⟨rfl, b, trivial, rfl, fun j d hj => by obtain ⟨rfl, rfl⟩ := get1 hj; exact .val trivial⟩
theorem RT.str {t : TypeId} (ht : P.underlying t = some .string) : RT enc P t 1 (fun s : List UInt8 => [dS (bstr s)]) (fun s => s.length ≤ 9223372036854775807) := by
 refine ⟨fun W fuel cs x h => ?_⟩;obtain ⟨s, rfl, rfl, hm⟩ := DataW.trod_string ht h;have hsz : s.data.toList.length = s.size := by simp
 have he : bstr s.data.toList = s := by
  apply ByteArray.ext
  simp [bstr]
 refine ⟨rfl, s.data.toList, by rw [hsz]; exact hm, rfl, fun j d hj => ?_⟩;simp only [he] at hj;obtain ⟨rfl, rfl⟩ := get1 hj;exact .val hm
theorem list_of {α : Type} {n : Nat} {Q : Nat → α → Prop} (h : ∀ i, i < n → ∃ a, Q i a) : ∃ l : List α, l.length = n ∧ ∀ i a, l[i]? = some a → Q i a := by
 induction n with
 | zero => exact ⟨[], rfl, fun i a h => by simp at h⟩
 | succ n ih =>
  obtain ⟨l, hl, hq⟩ := ih fun i hi => h i (by omega)
  obtain ⟨a, ha⟩ := h n (by omega);refine ⟨l ++ [a], by simp [hl], fun i b hb => ?_⟩
  by_cases hi : i < l.length
  ·rw [List.getElem?_append_left hi] at hb; exact hq i b hb
  rw [List.getElem?_append_right (by omega)] at hb
  have h0 : i - l.length = 0 := by
   by_cases e : i - l.length = 0
   ·exact e
   rw [List.getElem?_eq_none (by simp; omega)] at hb; cases hb
  rw [h0] at hb;simp at hb; subst hb;have : i = n := by omega
  subst this; exact ha
theorem RT.slice {t e : TypeId} {k : Nat} {α : Type} {f : α → List DV} {ok : α → Prop} (te : Nat) (ht : P.underlying t = some (.slice e)) (hc : P.cellsOf e = k) (hk : 0 < k) (hr : RT enc P e k f ok) :
  RT enc P t 1 (fun l : List α => [.view te k (l.map f)]) (fun l => l.length ≤ 9223372036854775807 ∧ ∀ a, a ∈ l → ok a) := by
 refine ⟨fun W fuel cs x h => ?_⟩;rcases DataW.trod_slice ht h with ⟨rfl, _⟩ | ⟨a, len, cap, elems, rest, n, _, rfl, _, _, hl, hm, hlen, hel, hsp, _⟩
 ·exact ⟨rfl, [], ⟨Nat.zero_le _, fun a ha => absurd ha List.not_mem_nil⟩, rfl, fun j d hj => by obtain ⟨rfl, rfl⟩ := get1 hj; exact .nil⟩
 refine ⟨rfl, ?_⟩;rw [hc] at hel hsp;obtain ⟨hrl, hrs⟩ := hsp rfl
 -- every element up to the capacity is there
 have hcell : ∀ i, i < cap → ∃ cs', W.cells? 0 (a.add (i * k)) k = some cs' ∧ ∃ y, DataW.trod enc P W 0 (fun _ => true) true n e cs' = some y := by
  intro i hi
  by_cases hil : i < len
  ·have h1 := hel i hil;rw [List.getElem?_eq_getElem (by omega)] at h1;obtain ⟨cs', h2, h3⟩ := Option.bind_eq_some_iff.1 h1;exact ⟨cs', h2, _, h3⟩
  have h1 := hrs (i - len) (by omega);rw [show len + (i - len) = i by omega, List.getElem?_eq_getElem (by omega)] at h1;obtain ⟨cs', h2, h3⟩ := Option.bind_eq_some_iff.1 h1;exact ⟨cs', h2, _, h3⟩
 by_cases hc0 : cap = 0
 ·subst hc0;have : len = 0 := by omega
  subst this;exact ⟨[], ⟨Nat.zero_le _, fun a ha => absurd ha List.not_mem_nil⟩, rfl, fun j d hj => by obtain ⟨rfl, rfl⟩ := get1 hj; exact .empty⟩
 obtain ⟨b, off, sp⟩ := a
 have hrow : ∀ i, i < cap → ∀ j, j < k → ∃ v, W.cell? (((⟨b, off, sp⟩ : Addr).add (i * k)).add j) = some v := by
  intro i hi j hj;obtain ⟨cs', h1, _⟩ := hcell i hi;obtain ⟨_, h2, h3⟩ := World.cells?_some h1;rw [h3 j hj, List.getElem?_eq_getElem (by omega)];exact ⟨_, rfl⟩
 have h00 := hrow 0 (by omega) 0 hk
 have hsp0 : sp = none := by
  obtain ⟨v, hv⟩ := h00;cases sp with
  | none => rfl
  | some q =>
   unfold World.cell? Addr.add at hv
   split at hv
   ·split at hv <;> simp_all
   cases hv
 subst hsp0;have hadd : ∀ i j, ((⟨b, off, none⟩ : Addr).add (i * k)).add j = ⟨b, off + i * k + j, none⟩ := fun i j => by rw [Addr.add_mid, Addr.add_mid]
 simp only [hadd] at hrow
 obtain ⟨arr, e2, fz, hb⟩ : ∃ arr e2 fz, W.heap[b]? = some (.cells arr e2 fz) := by
  obtain ⟨v, hv⟩ := hrow 0 (by omega) 0 hk;unfold World.cell? at hv
  split at hv
  ·rename_i c e2 fz hb; exact ⟨c, e2, fz, hb⟩
  cases hv
 have hget : ∀ q, W.cell? ⟨b, q, none⟩ = arr[q]? := by intro q; simp [World.cell?, hb]
 have hsz : off + cap * k ≤ arr.size := by
  obtain ⟨v, hv⟩ := hrow (cap - 1) (by omega) (k - 1) (by omega);rw [hget] at hv;have := (Array.getElem?_eq_some_iff.1 hv).1;obtain ⟨c, rfl⟩ : ∃ c, cap = c + 1 := ⟨cap - 1, by omega⟩;rw [Nat.add_sub_cancel] at this;rw [Nat.succ_mul]; omega
 have hall : ∀ i, i < len → ∃ a, ok a ∧ (f a).length = k ∧ ∀ j d, (f a)[j]? = some d → DRep (fun k => k < W.heap.size) W d (arr.getD (off + i * k + j) undef) := by
  intro i hi;obtain ⟨cs', h1, y, h2⟩ := hcell i (by omega);obtain ⟨h3, a, h4, h5, h6⟩ := hr.rd W n cs' y h2;obtain ⟨_, h7, h8⟩ := World.cells?_some h1;refine ⟨a, h4, h5, fun j d hj => ?_⟩;have hj1 := (List.getElem?_eq_some_iff.1 hj).1;have h9 := h8 j (by omega);rw [hadd, hget] at h9
  have : arr.getD (off + i * k + j) undef = cs'.getD j undef := by
   rw [Array.getD_eq_getD_getElem?, h9, List.getD_eq_getElem?_getD]
  rw [this];exact h6 j d hj
 obtain ⟨l, hll, hq⟩ := list_of hall
 have hin : ∀ a, a ∈ l → ok a ∧ (f a).length = k := by
  intro a ha;obtain ⟨i, hi⟩ := List.getElem?_of_mem ha;exact ⟨(hq i a hi).1, (hq i a hi).2.1⟩
 refine ⟨l, ⟨by have : cap ≤ 9223372036854775807 := hm; omega, fun a ha => (hin a ha).1⟩, rfl, fun j d hj => ?_⟩;obtain ⟨rfl, rfl⟩ := get1 hj;have hle : (l.map f).length = len := by rw [List.length_map, hll]
 have hv := DRep.view (F := fun k => k < W.heap.size) (w := W) (e := te) (sz := k) (els := l.map f) (b := b) (off := off) (cap := cap) (arr := arr) (lt_of_block hb) hb (by omega) hm hsz (fun i cs hi => ?_) (fun i cs j d hi hj => ?_)
 ·rw [hle] at hv; exact hv
 ·rw [List.getElem?_map, Option.map_eq_some_iff] at hi;obtain ⟨a, ha, rfl⟩ := hi;exact (hin a (List.mem_of_getElem? ha)).2
 rw [List.getElem?_map, Option.map_eq_some_iff] at hi;obtain ⟨a, ha, rfl⟩ := hi;exact (hq i a ha).2.2 j d hj
theorem RT.struct2 {t : TypeId} {f1 f2 : Field} {k1 k2 : Nat} {α β γ : Type} {fa : α → List DV} {fb : β → List DV} {oa : α → Prop} {ob : β → Prop} {fg : γ → List DV} {og : γ → Prop} (g : α → β → γ)
  (ht : P.underlying t = some (.struct #[f1, f2])) (h1 : f1.offset = 0) (h2 : f2.offset = k1) (hc1 : P.cellsOf f1.type = k1) (hc2 : P.cellsOf f2.type = k2) (hct : P.cellsOf t = k1 + k2)
  (r1 : RT enc P f1.type k1 fa oa) (r2 : RT enc P f2.type k2 fb ob) (hf : ∀ a b, fg (g a b) = fa a ++ fb b) (hg : ∀ a b, oa a → ob b → og (g a b)) : RT enc P t (k1 + k2) fg og := by
 refine ⟨fun W fuel cs x h => ?_⟩;obtain ⟨xs, n, _, _, hl, hxl, hx⟩ := DataW.trod_struct ht h;have hxl2 : xs.length = 2 := hxl;have e1 := hx 0 f1 rfl;have e2 := hx 1 f2 rfl;rw [List.getElem?_eq_getElem (by omega)] at e1 e2;rw [h1, hc1] at e1;rw [h2, hc2] at e2;obtain ⟨l1, a, ha, la, ra⟩ := r1.rd W n _ _ e1;obtain ⟨l2, b, hb, lb, rb⟩ := r2.rd W n _ _ e2;refine ⟨by omega, g a b, hg a b ha hb, by rw [hf, List.length_append]; omega, fun j d hj => ?_⟩;rw [hf] at hj
 by_cases hj1 : j < k1
 ·rw [List.getElem?_append_left (by omega)] at hj;have := ra j d hj
  have e : ((cs.drop 0).take k1).getD j undef = cs.getD j undef := by
   rw [List.getD_eq_getElem?_getD, List.getD_eq_getElem?_getD, List.getElem?_take, if_pos hj1, List.drop_zero]
  rwa [e] at this
 rw [List.getElem?_append_right (by omega), la] at hj;have := rb _ d hj;have hj2 := (List.getElem?_eq_some_iff.1 hj).1
 have e : ((cs.drop k1).take k2).getD (j - k1) undef = cs.getD j undef := by
  rw [List.getD_eq_getElem?_getD, List.getD_eq_getElem?_getD, List.getElem?_take, if_pos (by omega), List.getElem?_drop, show k1 + (j - k1) = j by omega]
 rwa [e] at this
theorem RT.imp {t : TypeId} {k : Nat} {α β : Type} {f : α → List DV} {ok : α → Prop} {f' : β → List DV} {ok' : β → Prop} (h : RT enc P t k f ok) (g : α → β) (hf : ∀ a, ok a → f' (g a) = f a) (ho : ∀ a, ok a → ok' (g a)) : RT enc P t k f' ok' :=
 ⟨fun W fuel cs x hx => by
  obtain ⟨h1, a, h2, h3, h4⟩ := h.rd W fuel cs x hx
  exact ⟨h1, g a, ho a h2, by rw [hf a h2]; exact h3, by rw [hf a h2]; exact h4⟩⟩
theorem RT.arg1 {W : World} {t : TypeId} {α : Type} {f : α → List DV} {ok : α → Prop} {v : Value} {d : DataW H} {ps : List MemPlace} (h : RT enc P t 1 f ok) (hv : v.cells.toList = [v]) (ht : DataW.Trod enc P W 0 (fun _ => true) true t v d ps) :
  ∃ a, ok a ∧ ∀ x, f a = [x] → DRep (fun k => k < W.heap.size) W x v := by
 obtain ⟨fuel, ht⟩ := ht;obtain ⟨_, a, h1, h2, h3⟩ := h.rd W fuel _ _ ht;refine ⟨a, h1, fun x hx => ?_⟩;rw [hx, hv] at h3;exact h3 0 x rfl
theorem RT.argS {m : Nat → Option (Option Nat × Nat)} {W : World} {t : TypeId} {k : Nat} {α : Type} {f : α → List DV} {ok : α → Prop} {cs : Array Value} {d : DataW H} {ps : List MemPlace} (h : RT enc P t k f ok) (ht : DataW.Trod enc P W 0 (fun _ => true) true t (.agg cs) d ps) :
  ∃ a, ok a ∧ ARep m (fun k => k < W.heap.size) W (.agg ((f a).map .d)) (.agg cs) := by
 obtain ⟨fuel, ht⟩ := ht;obtain ⟨h0, a, h1, h2, h3⟩ := h.rd W fuel _ _ ht;have h0' : cs.toList.length = k := h0
 have hd : ∀ j d, (f a)[j]? = some d → DRep (fun k => k < W.heap.size) W d (cs.getD j undef) := by
  intro j d hj;have := h3 j d hj
  have e : (Value.agg cs).cells.toList.getD j undef = cs.getD j undef := by
   show cs.toList.getD j undef = _;simp [List.getD_eq_getElem?_getD, Array.getD_eq_getD_getElem?]
  rwa [e] at this
 have hsz : cs.size = k := by simpa using h0'
 refine ⟨a, h1, .agg (by simp; omega) (fun i c hi => ?_) (fun i hi => ?_)⟩
 ·rw [List.getElem?_map, Option.map_eq_some_iff] at hi;obtain ⟨d, hd', rfl⟩ := hi;exact .d (hd i d hd')
 exact (hd i _ (List.getElem?_eq_getElem (by omega))).one
end
theorem cells_str (s : ByteArray) : (Value.string s).cells.toList = [Value.string s] := rfl
inductive AReps (m : Nat → Option (Option Nat × Nat)) (F : Nat → Prop) (W : World) : List AV → List Value → Prop
 | nil : AReps m F W [] []
 | cons {x : AV} {v : Value} {xs : List AV} {vs : List Value} : ARep m F W x v → AReps m F W xs vs → AReps m F W (x :: xs) (v :: vs)
theorem AReps.at {m : Nat → Option (Option Nat × Nat)} {F : Nat → Prop} {W : World} {xs : List AV} {vs : List Value} (h : AReps m F W xs vs) : ∀ (i : Nat) a, xs[i]? = some a → ARep m F W a (vs.toArray.getD i undef) := by
 have key : ∀ (i : Nat) a, xs[i]? = some a → ARep m F W a (vs.getD i undef) := by
  induction h with
  | nil => intro i a h; simp at h
  | cons h _ ih =>
   intro i a hi;cases i with
   | zero => simp at hi; subst hi; exact h
   | succ i => simp at hi; exact ih i a hi
 intro i a hi;have := key i a hi;have e : vs.toArray.getD i undef = vs.getD i undef := by simp [List.getD_eq_getElem?_getD, Array.getD_eq_getD_getElem?]
 rwa [e]
set_option maxRecDepth 100000
section
variable {H : Type} {enc : TypeId × Value → H}
theorem rt_int : RT enc Tryz.prog 3 1 (fun n : Int => [dI n]) okI := RT.int Tryz.underlying3
theorem rt_ints : RT enc Tryz.prog 29 1 (fun l : List Int => [vI l]) (fun l => l.length ≤ 9223372036854775807) :=
 (RT.slice 3 Tryz.underlying29 (by kernel_rfl) (by decide) rt_int).imp id (fun _ _ => rfl) (fun _ h => h.1)
theorem rt_tn : RT enc Tryz.prog 84 2 (fun t : Tn => tnD t) (fun t => t.pre.length ≤ 9223372036854775807 ∧ t.post.length ≤ 9223372036854775807) :=
 RT.struct2 (k1 := 1) (k2 := 1) (fun a b => (⟨a, b⟩ : Tn)) Tryz.underlying84 rfl rfl (by kernel_rfl) (by kernel_rfl) (by kernel_rfl) rt_ints rt_ints (fun _ _ => rfl) (fun _ _ h1 h2 => ⟨h1, h2⟩)
theorem rt_tns : RT enc Tryz.prog 22 1 (fun l : List Tn => [vLTs l]) (fun l => l.length ≤ 9223372036854775807 ∧ ∀ t, t ∈ l → t.pre.length ≤ 9223372036854775807 ∧ t.post.length ≤ 9223372036854775807) :=
 RT.slice 84 Tryz.underlying22 (by kernel_rfl) (by decide) rt_tn
theorem rt_net : RT enc Tryz.prog 24 2 (fun n : Net => [dI n.places, vLTs n.ts]) ArgN :=
 RT.struct2 (k1 := 1) (k2 := 1) (fun a b => (⟨a, b⟩ : Net)) Tryz.underlying24 rfl rfl (by kernel_rfl) (by kernel_rfl) (by kernel_rfl) rt_int rt_tns (fun _ _ => rfl) (fun _ _ h1 h2 => ⟨h1, h2.1, h2.2⟩)
theorem rt_cond : RT enc Tryz.prog 97 2 (fun c : Cond => condD c) (fun _ => True) :=
 RT.struct2 (k1 := 1) (k2 := 1) (fun a b => (⟨a, b⟩ : Cond)) Tryz.underlying97 rfl rfl (by kernel_rfl) (by kernel_rfl) (by kernel_rfl) rt_int rt_int (fun _ _ => rfl) (fun _ _ _ _ => trivial)
theorem rt_conds : RT enc Tryz.prog 25 1 (fun l : List Cond => [vLCs l]) (fun l => l.length ≤ 9223372036854775807) :=
 (RT.slice 97 Tryz.underlying25 (by kernel_rfl) (by decide) rt_cond).imp id (fun _ _ => rfl) (fun _ h => h.1)
theorem rt_ev : RT enc Tryz.prog 31 2 (fun e : Ev => evD e) (fun e => e.pre.length ≤ 9223372036854775807) :=
 RT.struct2 (k1 := 1) (k2 := 1) (fun a b => (⟨a, b⟩ : Ev)) Tryz.underlying31 rfl rfl (by kernel_rfl) (by kernel_rfl) (by kernel_rfl) rt_int rt_ints (fun _ _ => rfl) (fun _ _ _ h => h)
theorem rt_evs : RT enc Tryz.prog 26 1 (fun l : List Ev => [vLEs l]) (fun l => l.length ≤ 9223372036854775807 ∧ ∀ e, e ∈ l → e.pre.length ≤ 9223372036854775807) :=
 RT.slice 31 Tryz.underlying26 (by kernel_rfl) (by decide) rt_ev
theorem rt_unf : RT enc Tryz.prog 28 2 (fun u : Unf => [vLCs u.cs, vLEs u.es]) ArgU :=
 RT.struct2 (k1 := 1) (k2 := 1) (fun a b => (⟨a, b⟩ : Unf)) Tryz.underlying28 rfl rfl (by kernel_rfl) (by kernel_rfl) (by kernel_rfl) rt_conds rt_evs (fun _ _ => rfl) (fun _ _ h1 h2 => ⟨h1, h2.1, h2.2⟩)
theorem rt_str : RT enc Tryz.prog 9 1 (fun s : List UInt8 => [dS (bstr s)]) (fun s => s.length ≤ 9223372036854775807) := RT.str Tryz.underlying9
theorem arg_net {m : Nat → Option (Option Nat × Nat)} {base : Nat} {W : World} {v : Value} {d : DataW H} {ps : List MemPlace} (hv : Value.okWide Tryz.prog W .any base 24 v) (h : DataW.Trod enc Tryz.prog W 0 (fun _ => true) true 24 v d ps) : ∃ n : Net, ArgN n ∧ ARep m (fun k => k < W.heap.size) W (lnetA n) v := by
 obtain ⟨cs, rfl, _⟩ := okWide_struct Tryz.underlying24 hv;exact rt_net.argS h
theorem arg_unf {m : Nat → Option (Option Nat × Nat)} {base : Nat} {W : World} {v : Value} {d : DataW H} {ps : List MemPlace} (hv : Value.okWide Tryz.prog W .any base 28 v) (h : DataW.Trod enc Tryz.prog W 0 (fun _ => true) true 28 v d ps) : ∃ u : Unf, ArgU u ∧ ARep m (fun k => k < W.heap.size) W (lunfA u) v := by
 obtain ⟨cs, rfl, _⟩ := okWide_struct Tryz.underlying28 hv;exact rt_unf.argS h
theorem arg_ev {m : Nat → Option (Option Nat × Nat)} {base : Nat} {W : World} {v : Value} {d : DataW H} {ps : List MemPlace} (hv : Value.okWide Tryz.prog W .any base 31 v) (h : DataW.Trod enc Tryz.prog W 0 (fun _ => true) true 31 v d ps) : ∃ e : Ev, e.pre.length ≤ 9223372036854775807 ∧ ARep m (fun k => k < W.heap.size) W (evA e) v := by
 obtain ⟨cs, rfl, _⟩ := okWide_struct Tryz.underlying31 hv;exact rt_ev.argS h
theorem arg_str {m : Nat → Option (Option Nat × Nat)} {base : Nat} {W : World} {v : Value} {d : DataW H} {ps : List MemPlace} (hv : Value.okWide Tryz.prog W .any base 9 v) (h : DataW.Trod enc Tryz.prog W 0 (fun _ => true) true 9 v d ps) : ∃ s : List UInt8, s.length ≤ 9223372036854775807 ∧ ARep m (fun k => k < W.heap.size) W (aS (bstr s)) v := by
 obtain ⟨s, rfl⟩ := okWide_string Tryz.underlying9 hv;obtain ⟨a, h1, h2⟩ := rt_str.arg1 (cells_str s) h;exact ⟨a, h1, .d (h2 _ rfl)⟩
end
def appB (N : Net) (m : List UInt8) (u : Unf) (h : Ev) : Bool := goodU N m u && (fitsI N u h && limB (withI N u h))
def appU (N : Net) (m : List UInt8) (u : Unf) (h : Ev) : Unf := if appB N m u h = true then withI N u h else ⟨[], []⟩
theorem goodU_pre {N : Net} {m : List UInt8} {u : Unf} {h : Ev} (hg : goodU N m u = true) (hf : fitsI N u h = true) : h.pre.length ≤ 1000000 := by
 have h1 := rising_len (fits_rising hf);have h2 := (goodU_iff hg).tru.w.w.c;omega
set_option maxHeartbeats 4000000 in
theorem sAppE_spec (N : Net) (m : List UInt8) (u : Unf) (h : Ev) (hB : NetL N) (hm : m.length ≤ 2000000) (hu : UnfL u) (hh : h.pre.length ≤ 2000000) : ASpec Tryz.prog 7 [netA N, aS (bstr m), unfA u, evA h] [] (Pure1 (.tup [unfA (appU N m u h), aT (appB N m u h)])) := by
 have hG := l7Good_spec N m u hB hm hu;have hF := fun (q : goodU N m u = true) => l7Fits_spec N u h (goodU_iff q).n.B (goodU_iff q).tru.w.w (by omega)
 have hW := fun (q : goodU N m u = true) (q2 : fitsI N u h = true) => l7With_spec N u h (goodU_iff q).n.B (goodU_iff q).tru.w.w (goodU_pre q q2) (fits_inR q2)
 have hL := fun (q : goodU N m u = true) (q2 : fitsI N u h = true) => l7Limits_spec (withI N u h) (by have := hu.e; show (u.es ++ [h]).length ≤ _; rw [List.length_append, List.length_singleton]; have := (goodU_iff q).e; omega) (by have h1 : (withI N u h).cs.length = u.cs.length + (tAt N h.t).post.length := withC_len _ _; have h2 := ((goodU_iff q).n.t _ (tAt_mem (fits_inR q2))).2.2.1; have h3 := (goodU_iff q).tru.w.w.c; omega)
 unfold appU;have hJ : appB N m u h = (goodU N m u && (fitsI N u h && limB (withI N u h))) := rfl;obtain ⟨v, hv⟩ := eqx (withI N u h);obtain ⟨g, hg⟩ := eqx (goodU N m u);obtain ⟨f, hf⟩ := eqx (fitsI N u h);obtain ⟨a, ha⟩ := eqx (appB N m u h);rw [← hg] at hG hF hW hL hJ;rw [← hf] at hF hW hL hJ;rw [← hv] at hW hL hJ ⊢;rw [← ha] at hJ ⊢;obtain ⟨l, hl⟩ := eqx (limB v);rw [← hl] at hL hJ;clear hl ha hf hg hv;refine ASpec.of Tryz.func7 rfl rfl fun C hC => ?_
 refine AC.seq (AC.region ?_);refine kD ?_;refine kD ?_;refine kD ?_;refine kE ?_;refine za ?_;refine AL.nil (th_n (AC.seq (AC.seq (AC.region ?_))));refine kG ?_;refine zm ?_;refine kG ?_;refine kV en_l7Good hG ?_;refine kC ?_;refine zm ?_;refine AL.caseGB rfl rfl (fun h0 => ?_) (fun h0 => ?_)
 ·refine zn ?_;refine zn ?_;refine zn ?_;refine zn ?_;refine zn ?_;refine zQ ?_;refine zm ?_;refine zn ?_;refine zn ?_;refine zn ?_;refine zn ?_;refine zn ?_;refine zn ?_;refine zQ ?_;refine AL.nil (th_n ?_);refine AC.condT rfl ?_;refine AC.seq (AC.region ?_);refine AL.p (by exact g_build rfl rfl rfl) rfl ?_;refine zs ?_;refine za ?_;refine AL.nil (th_n (AC.ret (th_r (bq_r ?_))));have e : a = false := by rw [hJ]; simp_all
  exact ret0 rfl (by rw [e, if_neg Bool.false_ne_true]; repeat (first | exact rfl | exact DLead.same | exact DLead.nil | refine ⟨_, _, rfl, ?_, ?_⟩ | refine ⟨_, rfl, ?_⟩))
 refine zy ?_;refine kG ?_;refine zy ?_;refine kG ?_;refine zy ?_;refine kG ?_;refine zy ?_;refine AL.q (by exact h_pure en_l7Fits rfl rfl (by repeat (first | exact rfl | exact DLead.same | refine ⟨_, _, rfl, ?_, ?_⟩ | refine ⟨_, rfl, ?_⟩)) (hF (by simp_all)) rfl) rfl ?_;refine zy ?_;refine kC ?_;refine zP ?_;refine zm ?_;refine AL.caseGB rfl rfl (fun h1 => ?_) (fun h1 => ?_)
 ·refine zn ?_;refine zn ?_;refine zn ?_;refine zn ?_;refine zn ?_;refine zn ?_;refine zQ ?_;refine AL.nil (th_n ?_);refine AC.condT rfl ?_;refine AC.seq (AC.region ?_);refine AL.p (by exact g_build rfl rfl rfl) rfl ?_;refine zs ?_;refine za ?_;refine AL.nil (th_n (AC.ret (th_r (bq_r ?_))));have e : a = false := by rw [hJ]; simp_all
  exact ret0 rfl (by rw [e, if_neg Bool.false_ne_true]; repeat (first | exact rfl | exact DLead.same | exact DLead.nil | refine ⟨_, _, rfl, ?_, ?_⟩ | refine ⟨_, rfl, ?_⟩))
 refine zy ?_;refine kG ?_;refine zy ?_;refine kG ?_;refine zy ?_;refine kG ?_;refine zy ?_;refine AL.q (by exact h_pure en_l7With rfl rfl (by repeat (first | exact rfl | exact DLead.same | refine ⟨_, _, rfl, ?_, ?_⟩ | refine ⟨_, rfl, ?_⟩)) (hW (by simp_all) (by simp_all)) rfl) rfl ?_;refine zy ?_;refine AL.q (by exact h_pure en_l7Limits rfl rfl (by repeat (first | exact rfl | exact DLead.same | refine ⟨_, _, rfl, ?_, ?_⟩ | refine ⟨_, rfl, ?_⟩)) (hL (by simp_all) (by simp_all)) rfl) rfl ?_;refine zy ?_;refine kC ?_;refine zP ?_;refine AL.nil (th_n ?_);refine AC.condB rfl (fun h2 => ?_) (fun h2 => ?_)
 ·refine AC.seq (AC.region ?_);refine AL.p (by exact g_build rfl rfl rfl) rfl ?_;refine zs ?_;refine za ?_;refine AL.nil (th_n (AC.ret (th_r (bq_r ?_))));have e : a = false := by rw [hJ]; simp_all
  exact ret0 rfl (by rw [e, if_neg Bool.false_ne_true]; repeat (first | exact rfl | exact DLead.same | exact DLead.nil | refine ⟨_, _, rfl, ?_, ?_⟩ | refine ⟨_, rfl, ?_⟩))
 refine AC.skip (th_n (AC.seq (AC.region ?_)));refine kG ?_;refine kG ?_;refine kG ?_;refine AL.q (by exact h_pure en_l7With rfl rfl (by repeat (first | exact rfl | exact DLead.same | refine ⟨_, _, rfl, ?_, ?_⟩ | refine ⟨_, rfl, ?_⟩)) (hW (by simp_all) (by simp_all)) rfl) rfl ?_;refine zs ?_;refine za ?_;refine AL.nil (th_n (AC.ret (bq_r ?_)));have e : a = true := by rw [hJ]; simp_all
 exact ret0 rfl (by rw [e, if_pos rfl]; repeat (first | exact rfl | exact DLead.same | refine ⟨_, _, rfl, ?_, ?_⟩ | refine ⟨_, rfl, ?_⟩))
theorem en_sAppE : Enters Tryz.prog 7 := enters_of Tryz.func7 rfl rfl
set_option maxHeartbeats 4000000 in
theorem iAppE_f (N : Net) (m : List UInt8) (u : Unf) (h : Ev) (hB : NetL N) (hm : m.length ≤ 2000000) (hu : UnfL u) (hh : h.pre.length ≤ 2000000) (hg : goodU N m u = false) : ASpec Tryz.prog 11 [netA N, aS (bstr m), unfA u, evA h] [] (Pure1 (.tup [unfA (appU N m u h), aT (appB N m u h)])) := by
 have hS := branchingOf_spec N m u hB hm hu;rw [brRes_f hg] at hS;have e : appB N m u h = false := by unfold appB; rw [hg]; rfl
 unfold appU;rw [e, if_neg Bool.false_ne_true];refine ASpec.of Tryz.func11 rfl rfl fun C hC => ?_
 refine AC.seq (AC.region ?_);refine kD ?_;refine kD ?_;refine kD ?_;refine kE ?_;refine za ?_;refine AL.nil (th_n (AC.seq (AC.region ?_)));refine kG ?_;refine zm ?_;refine kG ?_;refine kU [] en_branchingOf hS ?_;refine AL.p (by exact mv5 rfl) rfl ?_;refine AL.p (by exact g_extract (r := .dead) rfl rfl) rfl ?_;refine AL.p (by exact g_extract (r := .d _) rfl rfl) rfl ?_;refine AL.p (by exact as9 rfl) rfl ?_;refine za ?_;refine AL.nil (th_n (AC.seq (AC.seq (AC.region ?_))));refine zm ?_;refine kC ?_;refine zm ?_;refine zn ?_;refine zn ?_;refine zn ?_;refine zn ?_;refine zQ ?_;refine AL.nil (th_n ?_);refine AC.condT rfl ?_;refine AC.seq (AC.region ?_);refine AL.p (by exact g_build rfl rfl rfl) rfl ?_;refine zs ?_;refine za ?_;refine AL.nil (th_n (AC.ret (th_r (bq_r ?_))));exact ret0 rfl (by repeat (first | exact rfl | exact DLead.same | exact DLead.nil | refine ⟨_, _, rfl, ?_, ?_⟩ | refine ⟨_, rfl, ?_⟩))
set_option maxHeartbeats 8000000 in
theorem iAppE_t (N : Net) (m : List UInt8) (u : Unf) (h : Ev) (hB : NetL N) (hm : m.length ≤ 2000000) (hu : UnfL u) (hh : h.pre.length ≤ 2000000) (hg : goodU N m u = true) : ASpec Tryz.prog 11 [netA N, aS (bstr m), unfA u, evA h] [] (Pure1 (.tup [unfA (appU N m u h), aT (appB N m u h)])) := by
 have hS := branchingOf_spec N m u hB hm hu;have hG := goodU_iff hg;have hT := hG.tru;have hNs := hG.n;have hue := hG.e;have huc := hT.w.w.c;rw [brRes_t hg] at hS;have hJ : appB N m u h = (fitsI N u h && limB (withI N u h)) := by unfold appB; rw [hg]; rfl
 unfold appU;obtain ⟨L, hL⟩ := eqx (locL N m u);obtain ⟨A, hA⟩ := eqx (agaA N m u);rw [← hL, ← hA] at hT hS;have hF := brFits_spec N u L A h hNs.B hT.w (by omega);rw [fits_both hNs hT] at hF;have hAd := fun (q : fitsI N u h = true) => brAdd_spec N u L A h hNs.B hT.w (by omega) (goodU_pre hg q) (fits_inR q) (fits_in q).1
 have hIf := fun (q2 : fitsI N u h = true) => isFull_spec (withI N u h) (by show (u.es ++ [h]).length ≤ _; rw [List.length_append, List.length_singleton]; omega) (by have h1 : (withI N u h).cs.length = u.cs.length + (tAt N h.t).post.length := withC_len _ _; have h2 := (hNs.t _ (tAt_mem (fits_inR q2))).2.2.1; omega)
 obtain ⟨v, hv⟩ := eqx (withI N u h);obtain ⟨f, hf⟩ := eqx (fitsI N u h);obtain ⟨a, ha⟩ := eqx (appB N m u h);rw [← hf] at hF hAd hIf hJ;rw [← hv] at hAd hIf hJ ⊢;rw [← ha] at hJ ⊢;obtain ⟨l, hl⟩ := eqx (limB v);rw [← hl] at hIf hJ;obtain ⟨L2, hL2⟩ := eqx (addL u L h);obtain ⟨A2, hA2⟩ := eqx (addA u A h);rw [← hL2, ← hA2] at hAd;clear hl ha hf hv hL hA hL2 hA2;refine ASpec.of Tryz.func11 rfl rfl fun C hC => ?_
 refine AC.seq (AC.region ?_);refine kD ?_;refine kD ?_;refine kD ?_;refine kE ?_;refine za ?_;refine AL.nil (th_n (AC.seq (AC.region ?_)));refine kG ?_;refine zm ?_;refine kG ?_;refine kU [] en_branchingOf hS ?_;refine AL.p (by exact mv5 rfl) rfl ?_;refine AL.p (by exact g_extract (r := .ptr _ _) rfl rfl) rfl ?_;refine AL.p (by exact g_extract (r := .d _) rfl rfl) rfl ?_;refine AL.p (by exact as3 rfl) rfl ?_;refine za ?_;refine AL.nil (th_n (AC.seq (AC.seq ?_)));refine AC.weak (t := ⟨41, 400, [(7, .d (.ref (evD h))), (8, .ptr 206 0), (10, .ptr 200 0), (11, aT true)], [(200, some (brC N 201 u.cs.length 202 u.es.length 203 L.length 204 A.length)), (201, some (.arr 88 2 (condsL u.cs))), (202, some (.arr 46 2 (evsL u.es))), (203, some (.arr 102 1 (esL L))), (204, some (.arr 102 1 (esL A))), (206, some (.cells 38 [.d (.val (.slice none 0 0)), .d (.val (.slice none 0 0))]))]⟩) (zw [(200, _), (201, _), (202, _), (203, _), (204, _), (206, _)] hC) ?_;refine AC.region ?_;refine zm ?_;refine kC ?_;refine zm ?_;refine AL.caseGB rfl rfl (fun h0 => ?_) (fun h0 => ?_)
 ·refine zn ?_;refine zn ?_;refine zn ?_;refine zn ?_;refine zQ ?_;refine AL.nil (th_n ?_);refine AC.condT rfl ?_;refine AC.seq (AC.region ?_);refine AL.p (by exact g_build rfl rfl rfl) rfl ?_;refine zs ?_;refine za ?_;refine AL.nil (th_n (AC.ret (th_r (bq_r ?_))));have e : a = false := by rw [hJ]; simp_all
  exact ret0 rfl (by rw [e, if_neg Bool.false_ne_true]; repeat (first | exact rfl | exact DLead.same | exact DLead.nil | refine ⟨_, _, rfl, ?_, ?_⟩ | refine ⟨_, rfl, ?_⟩))
 refine zy ?_;refine AL.p (by exact mv3 rfl) rfl ?_;refine zy ?_;refine kG ?_;refine zy ?_;refine AL.q (by exact h_borrow [200, 201, 202, 203, 204] en_brFits rfl rfl hF (br_lent [200, 201, 202, 203, 204] 200 201 202 203 204 rfl rfl rfl rfl rfl rfl rfl rfl rfl rfl (.cons (.agg (ds := evD h)) .nil)) rfl) rfl ?_;refine zy ?_;refine kC ?_;refine zP ?_;refine AL.nil (th_n ?_);refine AC.condB rfl (fun h1 => ?_) (fun h1 => ?_)
 ·refine AC.seq (AC.region ?_);refine AL.p (by exact g_build rfl rfl rfl) rfl ?_;refine zs ?_;refine za ?_;refine AL.nil (th_n (AC.ret (th_r (bq_r ?_))));have e : a = false := by rw [hJ]; simp_all
  exact ret0 rfl (by rw [e, if_neg Bool.false_ne_true]; repeat (first | exact rfl | exact DLead.same | exact DLead.nil | refine ⟨_, _, rfl, ?_, ?_⟩ | refine ⟨_, rfl, ?_⟩))
 refine AC.skip (th_n (AC.seq ?_));have qf : f = true := by simp_all
 have hAd2 := hAd qf;have hIf2 := hIf qf;refine AC.region ?_;refine AL.p (by exact mv3 rfl) rfl ?_;refine kG ?_;refine kU [200, 201, 202, 203, 204] en_brAdd hAd2 ?_;refine AL.nil (th_n (AC.seq (AC.seq (AC.region ?_))));refine AL.p (by exact mv3 rfl) rfl ?_;refine AL.weak (Weak.freezeP 31 2 rfl rfl rfl rfl (own_le _ _) (own_take _ _) rfl) ?_;refine AL.weak (Weak.freezeP 31 3 rfl rfl rfl rfl (own_le _ _) (own_take _ _) rfl) ?_;refine AL.p (by exact g_nilP rfl) rfl ?_;refine zF ?_;refine AL.p (by exact g_load_ptrN rfl rfl rfl rfl rfl) rfl ?_;refine kV en_isFull hIf2 ?_;refine AL.nil (th_n ?_);refine AC.condB rfl (fun h2 => ?_) (fun h2 => ?_)
 ·refine AC.seq (AC.region ?_);refine AL.p (by exact g_build rfl rfl rfl) rfl ?_;refine zs ?_;refine za ?_;refine AL.nil (th_n (AC.ret (th_r (bq_r ?_))));have e : a = false := by rw [hJ]; simp_all
  exact ret0 rfl (by rw [e, if_neg Bool.false_ne_true]; repeat (first | exact rfl | exact DLead.same | exact DLead.nil | refine ⟨_, _, rfl, ?_, ?_⟩ | refine ⟨_, rfl, ?_⟩))
 refine AC.skip (th_n (AC.seq (AC.region ?_)));refine AL.p (by exact mv3 rfl) rfl ?_;refine AL.p (by exact g_nilP rfl) rfl ?_;refine zF ?_;refine AL.p (by exact g_load_ptrN rfl rfl rfl rfl rfl) rfl ?_;refine zs ?_;refine za ?_;refine AL.nil (th_n (AC.ret (bq_r ?_)));have e : a = true := by rw [hJ]; simp_all
 exact ret0 rfl (by rw [e, if_pos rfl]; repeat (first | exact rfl | exact DLead.same | refine ⟨_, _, rfl, ?_, ?_⟩ | refine ⟨_, rfl, ?_⟩))
theorem en_iAppE : Enters Tryz.prog 11 := enters_of Tryz.func11 rfl rfl
theorem iAppE_spec (N : Net) (m : List UInt8) (u : Unf) (h : Ev) (hB : NetL N) (hm : m.length ≤ 2000000) (hu : UnfL u) (hh : h.pre.length ≤ 2000000) : ASpec Tryz.prog 11 [netA N, aS (bstr m), unfA u, evA h] [] (Pure1 (.tup [unfA (appU N m u h), aT (appB N m u h)])) := by
 cases hg : goodU N m u with
 | true => exact iAppE_t N m u h hB hm hu hh hg
 | false => exact iAppE_f N m u h hB hm hu hh hg
inductive TRep (w : World) : (Nat → Prop) → DV → Value → Prop
 | val {S : Nat → Prop} {v : Value} : (∀ k, ¬ S k) → okV v → TRep w S (.val v) v
 | nil {S : Nat → Prop} {e sz : Nat} : (∀ k, ¬ S k) → TRep w S (.view e sz []) (.slice none 0 0)
 | view {S : Nat → Prop} {e sz : Nat} {els : List (List DV)} {b cap : Nat} {vs : Array Value} {fz : Nat × Nat} (Ts : Nat → Nat → Prop) : w.heap[b]? = some (.cells vs e fz) → (∀ (i : Nat), i < vs.size → ¬ (fz.1 ≤ i ∧ i < fz.2)) → vs.size = cap * sz → els.length ≤ cap → cap ≤ maxLen → 0 < sz →
   (∀ (i : Nat) (cs : List DV), els[i]? = some cs → cs.length = sz) → (∀ (i : Nat) (cs : List DV) (j : Nat) (d : DV), els[i]? = some cs → cs[j]? = some d → TRep w (Ts (i * sz + j)) d (vs.getD (i * sz + j) undef)) →
   (∀ c, ¬ Ts c b) → (∀ c c' k, Ts c k → Ts c' k → c = c') → (∀ k, S k ↔ k = b ∨ ∃ c, c < els.length * sz ∧ Ts c k) → TRep w S (.view e sz els) (.slice (some ⟨b, 0, none⟩) els.length cap)
theorem TRep.lt {w : World} {S : Nat → Prop} {x : DV} {v : Value} (h : TRep w S x v) : ∀ k, S k → k < w.heap.size := by
 induction h with
 | val h _ => intro k h'; exact absurd h' (h k)
 | nil h => intro k h'; exact absurd h' (h k)
 | @view S e sz els b cap vs fz Ts hb _ _ _ _ hz hr _ _ _ hS ih =>
  intro k hk;rcases (hS k).1 hk with rfl | ⟨c, hc, hk⟩
  ·exact lt_of_block hb
  have h1 : c / sz < els.length := Nat.div_lt_of_lt_mul (by rw [Nat.mul_comm]; exact hc);have h2 : c % sz < sz := Nat.mod_lt _ hz;have e1 := List.getElem?_eq_getElem h1;have h3 := hr _ _ e1;have e2 : c / sz * sz + c % sz = c := Nat.div_add_mod' c sz;have := ih _ _ _ _ e1 (List.getElem?_eq_getElem (by rw [h3]; exact h2)) k;rw [e2] at this;exact this hk
theorem TRep.turn {w w' : World} {S : Nat → Prop} {x : DV} {v : Value} (h : TRep w S x v) : (∀ k, S k → w'.heap[k]? = w.heap[k]?) → TRep w' S x v := by
 induction h with
 | val h0 h => intro _; exact .val h0 h
 | nil h0 => intro _; exact .nil h0
 | @view S e sz els b cap vs fz Ts hb h1 h2 h3 h4 h5 h6 h7 h8 h9 h10 ih =>
  intro hk;refine .view Ts ((hk _ ((h10 _).2 (.inl rfl))).trans hb) h1 h2 h3 h4 h5 h6 (fun i cs j d hi hj => ih i cs j d hi hj (fun k hk' => hk k ((h10 k).2 (.inr ⟨_, ?_, hk'⟩)))) h8 h9 h10;have hi1 := (List.getElem?_eq_some_iff.1 hi).1;have hj1 := (List.getElem?_eq_some_iff.1 hj).1;rw [h6 i cs hi] at hj1;have h := Nat.mul_le_mul_right sz hi1;rw [Nat.succ_mul] at h;omega
theorem TRep.data {w : World} {S : Nat → Prop} {x : DV} {v : Value} (h : TRep w S x v) : DRep S w x v := by
 induction h with
 | val _ h => exact .val h
 | nil _ => exact .nil
 | @view S e sz els b cap vs fz Ts hb h1 h2 h3 h4 h5 h6 h7 h8 h9 h10 ih =>
  refine .view ((h10 _).2 (.inl rfl)) hb h3 h4 (by rw [Nat.zero_add, h2]; exact Nat.le_refl _) h6 (fun i cs j d hi hj => ?_);rw [Nat.zero_add];refine (ih i cs j d hi hj).mono fun k hk => (h10 k).2 (.inr ⟨_, ?_, hk⟩)
  have hi1 := (List.getElem?_eq_some_iff.1 hi).1;have hj1 := (List.getElem?_eq_some_iff.1 hj).1;rw [h6 i cs hi] at hj1;have h := Nat.mul_le_mul_right sz hi1;rw [Nat.succ_mul] at h;omega
theorem TRep.congr {w : World} {S S' : Nat → Prop} {x : DV} {v : Value} (h : TRep w S x v) (he : ∀ k, S k ↔ S' k) : TRep w S' x v := by
 have : S = S' := funext fun k => propext (he k)
 subst this; exact h
def TL (w : World) (S : Nat → Prop) (L : List DV) (V : List Value) : Prop :=
 ∃ Ts : Nat → Nat → Prop, V.length = L.length ∧ (∀ i d v, L[i]? = some d → V[i]? = some v → TRep w (Ts i) d v) ∧ (∀ i j k, Ts i k → Ts j k → i = j) ∧ ∀ k, S k ↔ ∃ i, i < L.length ∧ Ts i k
theorem TL.turn {w w' : World} {S : Nat → Prop} {L : List DV} {V : List Value} (h : TL w S L V) (hk : ∀ k, S k → w'.heap[k]? = w.heap[k]?) : TL w' S L V := by
 obtain ⟨Ts, h1, h2, h3, h4⟩ := h;exact ⟨Ts, h1, fun i d v hd hv => (h2 i d v hd hv).turn fun k hk' => hk k ((h4 k).2 ⟨i, (List.getElem?_eq_some_iff.1 hd).1, hk'⟩), h3, h4⟩
theorem TL.lt {w : World} {S : Nat → Prop} {L : List DV} {V : List Value} (h : TL w S L V) (k : Nat) (hk : S k) : k < w.heap.size := by
 obtain ⟨Ts, h1, h2, h3, h4⟩ := h;obtain ⟨i, hi, hk'⟩ := (h4 k).1 hk;exact (h2 i _ _ (List.getElem?_eq_getElem hi) (List.getElem?_eq_getElem (by omega))).lt k hk'
theorem TL.data {w : World} {S : Nat → Prop} {L : List DV} {V : List Value} (h : TL w S L V) (i : Nat) {d : DV} {v : Value} (hd : L[i]? = some d) (hv : V[i]? = some v) : DRep S w d v := by
 obtain ⟨Ts, h1, h2, h3, h4⟩ := h;exact (h2 i d v hd hv).data.mono fun k hk => (h4 k).2 ⟨i, (List.getElem?_eq_some_iff.1 hd).1, hk⟩
theorem TL.len {w : World} {S : Nat → Prop} {L : List DV} {V : List Value} (h : TL w S L V) : V.length = L.length := h.choose_spec.1
theorem TL.nil (w : World) : TL w (fun _ => False) [] [] := ⟨fun _ _ => False, rfl, fun i d v h => by simp at h, fun _ _ _ h => h.elim, fun k => ⟨fun h => h.elim, fun ⟨_, h, _⟩ => by simp at h⟩⟩
theorem TL.one {w : World} {S : Nat → Prop} {d : DV} {v : Value} (h : TRep w S d v) : TL w S [d] [v] := by
 refine ⟨fun i k => i = 0 ∧ S k, rfl, fun i d' v' hd hv => ?_, fun i j k h1 h2 => h1.1.trans h2.1.symm, fun k => ⟨fun h => ⟨0, by simp, rfl, h⟩, fun ⟨_, _, h⟩ => h.2⟩⟩;cases i with
 | zero =>
  simp at hd hv; subst hd; subst hv;exact h.congr fun k => by simp
 | succ i => simp at hd
theorem TL.app {w : World} {S S' : Nat → Prop} {L L' : List DV} {V V' : List Value} (h : TL w S L V) (h' : TL w S' L' V') (hd : ∀ k, S k → ¬ S' k) : TL w (fun k => S k ∨ S' k) (L ++ L') (V ++ V') := by
 obtain ⟨Ts, h1, h2, h3, h4⟩ := h;obtain ⟨Ts', g1, g2, g3, g4⟩ := h';refine ⟨fun i k => (i < L.length ∧ Ts i k) ∨ (L.length ≤ i ∧ i < L.length + L'.length ∧ Ts' (i - L.length) k), by simp [h1, g1], fun i d v hd' hv => ?_, fun i j k hi hj => ?_, fun k => ⟨fun h => ?_, fun h => ?_⟩⟩
 ·by_cases hi : i < L.length
  ·rw [List.getElem?_append_left hi] at hd';rw [List.getElem?_append_left (by omega)] at hv;exact (h2 i d v hd' hv).congr fun k => by simp [hi, Nat.not_le.2 hi]
  have hlt := (List.getElem?_eq_some_iff.1 hd').1;rw [List.length_append] at hlt;rw [List.getElem?_append_right (by omega)] at hd' hv;rw [h1] at hv;exact (g2 _ d v hd' hv).congr fun k => by simp [hi, hlt, Nat.le_of_not_lt hi]
 ·rcases hi with ⟨a1, a2⟩ | ⟨a1, a2, a3⟩ <;> rcases hj with ⟨b1, b2⟩ | ⟨b1, b2, b3⟩
  ·exact h3 i j k a2 b2
  ·exact absurd ((g4 k).2 ⟨_, by omega, b3⟩) (hd k ((h4 k).2 ⟨i, a1, a2⟩))
  ·exact absurd ((g4 k).2 ⟨_, by omega, a3⟩) (hd k ((h4 k).2 ⟨j, b1, b2⟩))
  have := g3 _ _ k a3 b3; omega
 ·rcases h with h | h
  ·obtain ⟨i, hi, hk⟩ := (h4 k).1 h;exact ⟨i, by rw [List.length_append]; omega, .inl ⟨hi, hk⟩⟩
  obtain ⟨i, hi, hk⟩ := (g4 k).1 h;refine ⟨L.length + i, by rw [List.length_append]; omega, .inr ⟨by omega, by omega, ?_⟩⟩;rw [show L.length + i - L.length = i by omega]; exact hk
 obtain ⟨i, _, ⟨a1, a2⟩ | ⟨a1, a2, a3⟩⟩ := h
 ·exact .inl ((h4 k).2 ⟨i, a1, a2⟩)
 exact .inr ((g4 k).2 ⟨_, by omega, a3⟩)
theorem TL.cons {w : World} {S S' : Nat → Prop} {d : DV} {v : Value} {L : List DV} {V : List Value} (h : TRep w S d v) (h' : TL w S' L V) (hd : ∀ k, S k → ¬ S' k) : TL w (fun k => S k ∨ S' k) (d :: L) (v :: V) := (TL.one h).app h' hd
theorem TL.setFlat {w : World} {S : Nat → Prop} {L : List DV} {V : List Value} (h : TL w S L V) {c : Nat} {x y : Value} (hc : L[c]? = some (.val x)) (hy : okV y) : TL w S (L.set c (.val y)) (V.set c y) := by
 obtain ⟨Ts, h1, h2, h3, h4⟩ := h;refine ⟨Ts, by simpa using h1, fun i d v hd hv => ?_, h3, by simpa using h4⟩
 by_cases hi : c = i
 ·subst hi;have hlt := (List.getElem?_eq_some_iff.1 hc).1;rw [List.getElem?_set_self hlt] at hd;rw [List.getElem?_set_self (by omega)] at hv;simp only [Option.some.injEq] at hd hv;subst hd; subst hv;have := h2 c _ _ hc (List.getElem?_eq_getElem (by omega));refine .val (fun k hk => ?_) hy;cases this with
  | val h _ => exact h k hk
 rw [List.getElem?_set_ne hi] at hd hv;exact h2 i d v hd hv
def TX (w : World) (S : Nat → Prop) (c : Nat) (L : List DV) (V : List Value) : Prop :=
 ∃ Ts : Nat → Nat → Prop, V.length = L.length ∧ (∀ i d v, i ≠ c → L[i]? = some d → V[i]? = some v → TRep w (Ts i) d v) ∧ (∀ i j k, Ts i k → Ts j k → i = j) ∧ (∀ k, ¬ Ts c k) ∧ ∀ k, S k ↔ ∃ i, i < L.length ∧ Ts i k
theorem TX.turn {w w' : World} {S : Nat → Prop} {c : Nat} {L : List DV} {V : List Value} (h : TX w S c L V) (hk : ∀ k, S k → w'.heap[k]? = w.heap[k]?) : TX w' S c L V := by
 obtain ⟨Ts, h1, h2, h3, h4, h5⟩ := h;exact ⟨Ts, h1, fun i d v hi hd hv => (h2 i d v hi hd hv).turn fun k hk' => hk k ((h5 k).2 ⟨i, (List.getElem?_eq_some_iff.1 hd).1, hk'⟩), h3, h4, h5⟩
theorem TL.split {w : World} {S : Nat → Prop} {L : List DV} {V : List Value} (h : TL w S L V) {c : Nat} {d : DV} {v : Value} (hd : L[c]? = some d) (hv : V[c]? = some v) : ∃ S1 S2, TRep w S1 d v ∧ TX w S2 c L V ∧ (∀ k, S1 k → ¬ S2 k) ∧ ∀ k, S k ↔ S1 k ∨ S2 k := by
 obtain ⟨Ts, h1, h2, h3, h4⟩ := h;have hlt := (List.getElem?_eq_some_iff.1 hd).1;refine ⟨Ts c, fun k => ∃ i, i < L.length ∧ i ≠ c ∧ Ts i k, h2 c d v hd hv, ⟨fun i k => i ≠ c ∧ Ts i k, h1, fun i d v hi hd hv => ?_, fun i j k hi hj => h3 i j k hi.2 hj.2, fun k hk => hk.1 rfl, fun k => Iff.rfl⟩, fun k hk ⟨i, _, hi, hk'⟩ => hi (h3 i c k hk' hk), fun k => ⟨fun hk => ?_, fun hk => ?_⟩⟩
 ·exact (h2 i d v hd hv).congr fun k => by simp [hi]
 ·obtain ⟨i, hi, hk⟩ := (h4 k).1 hk
  by_cases hic : i = c
  ·subst hic; exact .inl hk
  exact .inr ⟨i, hi, hic, hk⟩
 rcases hk with hk | ⟨i, hi, _, hk⟩
 ·exact (h4 k).2 ⟨c, hlt, hk⟩
 exact (h4 k).2 ⟨i, hi, hk⟩
theorem TX.join {w : World} {S1 S2 : Nat → Prop} {c : Nat} {L : List DV} {V : List Value} {d : DV} {v : Value} (h : TX w S2 c L V) (h1 : TRep w S1 d v) (hc : c < L.length) (hv : V[c]? = some v) (hd : ∀ k, S1 k → ¬ S2 k) : TL w (fun k => S1 k ∨ S2 k) (L.set c d) V := by
 obtain ⟨Ts, g1, g2, g3, g4, g5⟩ := h;refine ⟨fun i k => (i = c ∧ S1 k) ∨ (i < L.length ∧ Ts i k), by simpa using g1, fun i d' v' hd' hv' => ?_, fun i j k hi hj => ?_, fun k => ⟨fun hk => ?_, fun hk => ?_⟩⟩
 ·by_cases hi : c = i
  ·subst hi;rw [List.getElem?_set_self hc] at hd';rw [hv] at hv';simp only [Option.some.injEq] at hd' hv';subst hd'; subst hv';exact h1.congr fun k => by simp [g4]
  rw [List.getElem?_set_ne hi] at hd';have hl := (List.getElem?_eq_some_iff.1 hd').1;have hi' : ¬ i = c := fun e => hi e.symm
  exact (g2 i d' v' hi' hd' hv').congr fun k => by simp [hi', hl]
 ·rcases hi with ⟨a1, a2⟩ | ⟨a1, a2⟩ <;> rcases hj with ⟨b1, b2⟩ | ⟨b1, b2⟩
  ·rw [a1, b1]
  ·exact absurd ((g5 k).2 ⟨j, b1, b2⟩) (hd k a2)
  ·exact absurd ((g5 k).2 ⟨i, a1, a2⟩) (hd k b2)
  exact g3 i j k a2 b2
 ·rcases hk with hk | hk
  ·exact ⟨c, by simpa using hc, .inl ⟨rfl, hk⟩⟩
  obtain ⟨i, hi, hk⟩ := (g5 k).1 hk;exact ⟨i, by simpa using hi, .inr ⟨hi, hk⟩⟩
 obtain ⟨i, _, ⟨_, hk⟩ | ⟨hi, hk⟩⟩ := hk
 ·exact .inl hk
 exact .inr ((g5 k).2 ⟨i, hi, hk⟩)
section
variable {P : Program} [PT P] {C : Ctx} {Q : Exit → ASt → Prop} {s : ASt} {ops : Array Oper} {U U' : Nat → Prop} {a : Act} {w : World} {m : Nat → Option (Option Nat × Nat)}
def mNew (m : Nat → Option (Option Nat × Nat)) (new : List (Nat × Chunk)) (pm : Nat → Option Nat × Nat) (j : Nat) : Option (Option Nat × Nat) :=
 match getL j new with
 | some _ => some (pm j)
 | none => m j
theorem mNew_some {new : List (Nat × Chunk)} {pm : Nat → Option Nat × Nat} {j : Nat} {c : Chunk} (h : getL j new = some c) : mNew m new pm j = some (pm j) := by simp [mNew, h]
theorem mNew_none {new : List (Nat × Chunk)} {pm : Nat → Option Nat × Nat} {j : Nat} (h : getL j new = none) : mNew m new pm j = m j := by simp [mNew, h]
theorem RelM.repack (h : RelM C U s a w m) {t : ASt} (new : List (Nat × Chunk)) (pm : Nat → Option Nat × Nat) (gone : List Nat) (hn : t.n = s.n)
  (ht : ∀ id c, t.chunk id = some c → getL id new = some c ∨ (getL id new = none ∧ id ∉ gone ∧ s.chunk id = some c))
  (hU : ∀ id c, getL id new = some c → U id ∨ m id = some (pm id))
  (hU' : ∀ j, U' j → U j ∧ getL j new = none)
  (hocc : ∀ id c b, getL id new = some c → occ (pm id) c b → ∃ j c0 q, j ∈ gone ∧ s.chunk j = some c0 ∧ m j = some q ∧ occ q c0 b)
  (hdis : ∀ id id' c c' b, getL id new = some c → getL id' new = some c' → occ (pm id) c b → occ (pm id') c' b → id = id')
  (hrep : ∀ F', (∀ k, Fz C m s w k → F' k) → ∀ id c, getL id new = some c → CRep (mNew m new pm) F' w (pm id) c)
  (hsl : MLe m (mNew m new pm) → ∀ F', (∀ k, Fz C m s w k → F' k) → ∀ i, ARep (mNew m new pm) F' w (t.get i) (a.tmps.getD i undef)) : RelM C U' t a w (mNew m new pm) := by
 have hle : MLe m (mNew m new pm) := by
  intro j p hp;cases hg : getL j new with
  | none => rw [mNew_none hg]; exact hp
  | some c =>
   rcases hU j c hg with h1 | h1
   ·rw [h.un j h1] at hp; cases hp
   rw [hp] at h1; rw [mNew_some hg, h1]
 have hF : ∀ k, Fz C m s w k → Fz C (mNew m new pm) t w k := by
  intro k hk;refine ⟨hk.1, hk.2.1, fun id c p h1 h2 ho => ?_⟩;rcases ht id c h1 with g | ⟨g, _, g3⟩
  ·rw [mNew_some g] at h2;obtain rfl : pm id = p := by simpa using h2
   obtain ⟨j, c0, q, _, q2, q3, q4⟩ := hocc id c k g ho;exact hk.2.2 j c0 q q2 q3 q4
  rw [mNew_none g] at h2;exact hk.2.2 id c p g3 h2 ho
 refine ⟨h.fr, h.fin, by rw [hn]; exact h.sz, hsl hle _ hF, fun id c h1 => ?_, fun id id' c c' p p' h1 h2 hp hp' b hb hb' => ?_, fun j hj => ?_, h.defers, fun id p hp => hle id p (h.m0 id p hp), h.m0k⟩
 ·rcases ht id c h1 with g | ⟨g, _, g3⟩
  ·refine ⟨pm id, mNew_some g, hrep _ hF id c g, fun b hb => ?_⟩;obtain ⟨j, c0, q, _, q2, q3, q4⟩ := hocc id c b g hb;obtain ⟨q', hq', _, hl⟩ := h.ch j c0 q2;rw [q3] at hq';obtain rfl : q = q' := by simpa using hq'
   exact hl b q4
  obtain ⟨p, hp, hr, hl⟩ := h.ch id c g3;exact ⟨p, hle _ _ hp, hr.turn hle (fun k hk _ => ⟨hF k hk, rfl⟩) (fun _ _ => rfl), hl⟩
 ·rcases ht id c h1 with g | ⟨g, g2, g3⟩ <;> rcases ht id' c' h2 with g' | ⟨g', g2', g3'⟩
  ·rw [mNew_some g] at hp;rw [mNew_some g'] at hp';obtain rfl : pm id = p := by simpa using hp
   obtain rfl : pm id' = p' := by simpa using hp'
   exact hdis id id' c c' b g g' hb hb'
  ·rw [mNew_some g] at hp;rw [mNew_none g'] at hp';obtain rfl : pm id = p := by simpa using hp
   obtain ⟨j, c0, q, q1, q2, q3, q4⟩ := hocc id c b g hb;have := h.inj j id' c0 c' q p' q2 g3' q3 hp' b q4 hb';subst this;exact absurd q1 g2'
  ·rw [mNew_none g] at hp;rw [mNew_some g'] at hp';obtain rfl : pm id' = p' := by simpa using hp'
   obtain ⟨j, c0, q, q1, q2, q3, q4⟩ := hocc id' c' b g' hb';have := h.inj j id c0 c q p q2 g3 q3 hp b q4 hb;subst this;exact absurd q1 g2
  rw [mNew_none g] at hp;rw [mNew_none g'] at hp';exact h.inj id id' c c' p p' g3 g3' hp hp' b hb hb'
 obtain ⟨h1, h2⟩ := hU' j hj;rw [mNew_none h2];exact h.un j h1
structure WeakR (C : Ctx) (s : ASt) (T : ASt → Prop) : Prop where
 run : ∀ a w, Rel C s a w → ∃ t, T t ∧ Rel C t a w
theorem AC.weakR {T : ASt → Prop} {c : Code} (h : WeakR C s T) (k : ∀ t, T t → ACode P C c Q t) : ACode P C c Q s := ⟨fun a w hR => by
 obtain ⟨t, ht, hR'⟩ := h.run a w hR
 exact (k t ht).run a w hR'⟩
theorem AL.weakR {T : ASt → Prop} {l : List Oper} (h : WeakR C s T) (k : ∀ t, T t → AL P C ops l Q t) : AL P C ops l Q s := ⟨fun a w hR => by
 obtain ⟨t, ht, hR'⟩ := h.run a w hR
 exact (k t ht).run a w hR'⟩
theorem CRep.predAt {F : Nat → Prop} {p : Option Nat × Nat} {S : Nat → Prop} {K : World → Prop} (h : CRep m F w p (.pred S K)) : p = (none, 0) ∧ K w ∧ (∀ w w', (∀ k, S k → w'.heap[k]? = w.heap[k]?) → K w → K w') ∧ ∀ k, S k → k < w.heap.size := by
 cases h with
 | pred h1 h2 h3 => exact ⟨rfl, h1, h2, h3⟩
theorem occ_pred' {S : Nat → Prop} {K : World → Prop} {k : Nat} (h : occ (none, 0) (.pred S K) k) : S k := by
 rcases h with h | h
 ·cases h
 exact h
theorem WeakR.raw (j : Nat) {id n e sz : Nat} {els els' : List (List DV)} (hs : s.get j = .own id n) (hc : s.chunk id = some (.arr e sz els)) (hn : n ≤ els.length) (he : els.take n = els') (hfl : ∀ cs, cs ∈ els → ∀ d, d ∈ cs → d.flat) :
  WeakR C s fun t => ∃ v S, t = { n := s.n, nx := s.nx + 8, sl := (j, .d (.val v)) :: s.sl, ch := (s.nx, some (.pred S fun w => TRep w S (.view e sz els') v)) :: (id, none) :: s.ch } := by
 subst he;refine ⟨?_⟩;rintro a w ⟨m, hR⟩;have hv := hR.sl j;rw [hs] at hv;obtain ⟨p, hp, hC, hloc⟩ := hR.ch id _ hc
 have key : ∃ S, (∀ b, S b → occ p (.arr e sz els) b) ∧ TRep w S (.view e sz (els.take n)) (a.tmps.getD j undef) ∧ okV (a.tmps.getD j undef) := by
  generalize a.tmps.getD j undef = v at hv;cases hv with
  | own hq h0 =>
   rename_i cap b;rw [hp] at hq;obtain rfl : p = (b, cap) := by simpa using hq
   cases hC with
   | nil h =>
    obtain rfl : n = 0 := by simpa using hn
    exact ⟨fun _ => False, fun b hb => hb.elim, .nil (fun _ h => h), trivial⟩
   | arr hb hf hsz hl hm h0' hrow hel =>
    rename_i b arr fz;have hlen : (els.take n).length = n := by simp; omega
    have hsub : ∀ (i : Nat) cs, (els.take n)[i]? = some cs → els[i]? = some cs := by
     intro i cs hi;rw [List.getElem?_take] at hi
     split at hi
     ·exact hi
     cases hi
    have := TRep.view (w := w) (S := fun k => k = b) (e := e) (sz := sz) (els := els.take n) (b := b) (cap := cap) (fun _ _ => False) hb hf hsz (by omega) hm h0' (fun i cs hi => hrow i cs (hsub i cs hi)) (fun i cs q d hi hj => ?_) (fun _ h => h) (fun _ _ _ h => h.elim) (fun k => ⟨fun h => .inl h, fun h => h.elim (fun h => h) fun ⟨_, _, h⟩ => h.elim⟩)
    ·rw [hlen] at this;exact ⟨_, fun k hk => by subst hk; exact .inl rfl, this, trivial⟩
    have h1 := hel i cs q d (hsub i cs hi) hj;have h2 := hfl cs (List.mem_of_getElem? (hsub i cs hi)) d (List.mem_of_getElem? hj);cases d with
    | val u =>
     generalize arr.getD (i * sz + q) undef = u' at h1 ⊢;cases h1 with
     | val h3 => exact .val (fun _ h => h) h3
    | _ => exact h2.elim
 obtain ⟨S, hS, hT, hok⟩ := key;refine ⟨_, ⟨a.tmps.getD j undef, S, rfl⟩, _, hR.repack (U' := fun i => s.nx + 8 ≤ i) [(s.nx, .pred S fun w => TRep w S (.view e sz (els.take n)) (a.tmps.getD j undef))] (fun _ => (none, 0)) [id] rfl (fun i c h => ?_) (fun i c h => .inl ?_) (fun i hi => ⟨by omega, ?_⟩) (fun i c b h hb => ?_) (fun i i' c c' b h h' _ _ => ?_) (fun F' _ i c h => ?_) (fun hle F' hF i => ?_)⟩
 ·change (getL i (_ :: _ :: _)).getD none = _ at h
  rw [getL_cons] at h;rw [getL_cons]
  split at h
  ·rename_i ei; rw [if_pos ei]; exact .inl (by simpa using h)
  rename_i ei;rw [if_neg ei];rw [getL_cons] at h
  split at h
  ·cases h
  rename_i ei'; exact .inr ⟨rfl, by simpa using ei', h⟩
 ·obtain ⟨rfl, _⟩ := getL_one h; exact Nat.le_refl _
 ·rw [getL_cons, if_neg (by omega)]; rfl
 ·obtain ⟨rfl, rfl⟩ := getL_one h;exact ⟨id, _, p, by simp, hc, hp, hS b (occ_pred' hb)⟩
 ·rw [(getL_one h).1, (getL_one h').1]
 ·obtain ⟨rfl, rfl⟩ := getL_one h;exact .pred hT (fun w w' hk h => h.turn hk) hT.lt
 change ARep _ _ _ ((getL i (_ :: _)).getD .dead) _
 rw [getL_cons]
 by_cases hij : i = j
 ·subst hij; rw [if_pos rfl]; exact .d (.val hok)
 rw [if_neg hij]; exact (hR.sl i).turn hle (fun k hk _ => ⟨hF k hk, rfl⟩)
theorem Weak.join (id1 id2 : Nat) {S1 S2 : Nat → Prop} {K1 K2 : World → Prop} (K : World → Prop) (h1 : s.chunk id1 = some (.pred S1 K1)) (h2 : s.chunk id2 = some (.pred S2 K2)) (hne : Nat.beq id1 id2 = false)
  (hK : ∀ w, K1 w → K2 w → (∀ k, S1 k → ¬ S2 k) → K w) (hcl : ∀ w w', (∀ k, S1 k ∨ S2 k → w'.heap[k]? = w.heap[k]?) → K w → K w') :
  Weak C s { n := s.n, nx := s.nx, sl := s.sl, ch := (id1, some (.pred (fun k => S1 k ∨ S2 k) K)) :: (id2, none) :: s.ch } := by
 refine ⟨?_⟩;rintro a w ⟨m, hR⟩;have hne : id1 ≠ id2 := Nat.ne_of_beq_eq_false hne;obtain ⟨p1, q1, c1, l1⟩ := hR.ch id1 _ h1;obtain ⟨p2, q2, c2, l2⟩ := hR.ch id2 _ h2;obtain ⟨rfl, k1, cl1, lt1⟩ := c1.predAt;obtain ⟨rfl, k2, cl2, lt2⟩ := c2.predAt;have hd : ∀ k, S1 k → ¬ S2 k := fun k g1 g2 => hne (hR.inj id1 id2 _ _ _ _ h1 h2 q1 q2 k (.inr g1) (.inr g2))
 refine ⟨_, hR.repack (U' := fun i => s.nx ≤ i) [(id1, .pred (fun k => S1 k ∨ S2 k) K)] (fun _ => (none, 0)) [id1, id2] rfl (fun i c h => ?_) (fun i c h => .inr ?_) (fun i hi => ⟨hi, ?_⟩) (fun i c b h hb => ?_) (fun i i' c c' b h h' _ _ => ?_) (fun F' _ i c h => ?_) (fun hle F' hF i => (hR.sl i).turn hle (fun k hk _ => ⟨hF k hk, rfl⟩))⟩
 ·change (getL i (_ :: _ :: _)).getD none = _ at h
  rw [getL_cons] at h;rw [getL_cons]
  split at h
  ·rename_i ei; rw [if_pos ei]; exact .inl (by simpa using h)
  rename_i ei;rw [if_neg ei];rw [getL_cons] at h
  split at h
  ·cases h
  rename_i ei'; exact .inr ⟨rfl, by simp [ei, ei'], h⟩
 ·obtain ⟨rfl, _⟩ := getL_one h; exact q1
 ·rw [getL_cons]
  split
  ·rename_i ei; subst ei; have := hR.un i hi; rw [q1] at this; cases this
  rfl
 ·obtain ⟨rfl, rfl⟩ := getL_one h;rcases occ_pred' hb with g | g
  ·exact ⟨i, _, _, by simp, h1, q1, .inr g⟩
  exact ⟨id2, _, _, by simp, h2, q2, .inr g⟩
 ·rw [(getL_one h).1, (getL_one h').1]
 obtain ⟨rfl, rfl⟩ := getL_one h;exact .pred (hK w k1 k2 hd) hcl (fun k hk => hk.elim (lt1 k) (lt2 k))
theorem Weak.cons (id : Nat) {S : Nat → Prop} {K : World → Prop} (K' : World → Prop) (h0 : s.chunk id = some (.pred S K)) (hK : ∀ w, K w → K' w) (hcl : ∀ w w', (∀ k, S k → w'.heap[k]? = w.heap[k]?) → K' w → K' w') :
  Weak C s { n := s.n, nx := s.nx, sl := s.sl, ch := (id, some (.pred S K')) :: s.ch } := by
 refine ⟨?_⟩;rintro a w ⟨m, hR⟩;obtain ⟨p1, q1, c1, l1⟩ := hR.ch id _ h0;obtain ⟨rfl, k1, cl1, lt1⟩ := c1.predAt;refine ⟨_, hR.repack (U' := fun i => s.nx ≤ i) [(id, .pred S K')] (fun _ => (none, 0)) [id] rfl (fun i c h => ?_) (fun i c h => .inr ?_) (fun i hi => ⟨hi, ?_⟩) (fun i c b h hb => ?_) (fun i i' c c' b h h' _ _ => ?_) (fun F' _ i c h => ?_) (fun hle F' hF i => (hR.sl i).turn hle (fun k hk _ => ⟨hF k hk, rfl⟩))⟩
 ·change (getL i (_ :: _)).getD none = _ at h
  rw [getL_cons] at h;rw [getL_cons]
  split at h
  ·rename_i ei; rw [if_pos ei]; exact .inl (by simpa using h)
  rename_i ei;rw [if_neg ei];exact .inr ⟨rfl, by simpa using ei, h⟩
 ·obtain ⟨rfl, _⟩ := getL_one h; exact q1
 ·rw [getL_cons]
  split
  ·rename_i ei; subst ei; have := hR.un i hi; rw [q1] at this; cases this
  rfl
 ·obtain ⟨rfl, rfl⟩ := getL_one h;exact ⟨_, _, _, by simp, h0, q1, .inr (occ_pred' hb)⟩
 ·rw [(getL_one h).1, (getL_one h').1]
 obtain ⟨rfl, rfl⟩ := getL_one h;exact .pred (hK w k1) hcl lt1
end
def rowsV (sz n : Nat) (V : List Value) : List (List DV) := (List.range n).map fun i => (List.range sz).map fun j => DV.val ((V[i * sz + j]?).getD undef)
theorem rowsV_len (sz n : Nat) (V : List Value) : (rowsV sz n V).length = n := by simp [rowsV]
theorem rowsV_get {sz n : Nat} {V : List Value} {i : Nat} (h : i < n) : (rowsV sz n V)[i]? = some ((List.range sz).map fun j => DV.val ((V[i * sz + j]?).getD undef)) := by simp [rowsV, h]
theorem rowsV_row {sz n : Nat} {V : List Value} {i : Nat} {cs : List DV} (h : (rowsV sz n V)[i]? = some cs) : i < n ∧ cs.length = sz ∧ ∀ (j : Nat) d, cs[j]? = some d → j < sz ∧ d = .val ((V[i * sz + j]?).getD undef) := by
 have hi := (List.getElem?_eq_some_iff.1 h).1;rw [rowsV_len] at hi;rw [rowsV_get hi] at h;simp only [Option.some.injEq] at h;subst h;refine ⟨hi, by simp, fun j d hd => ?_⟩;rw [List.getElem?_map, Option.map_eq_some_iff] at hd;obtain ⟨q, hq, rfl⟩ := hd;have := (List.getElem?_eq_some_iff.1 hq).1
 have h2 : q = j := by
  have := (List.getElem?_eq_some_iff.1 hq).2;simpa using this.symm
 subst h2;exact ⟨by simpa using this, rfl⟩
theorem row_lt {i j n sz : Nat} (hi : i < n) (hj : j < sz) : i * sz + j < n * sz := by
 have h := Nat.mul_le_mul_right sz hi;rw [Nat.succ_mul] at h;omega
theorem flat_len : ∀ {els : List (List DV)} {sz : Nat}, (∀ cs, cs ∈ els → cs.length = sz) → els.flatten.length = els.length * sz
 | [], sz, _ => by simp
 | c :: els, sz, h => by
  rw [List.flatten_cons, List.length_append, flat_len (els := els) (fun cs hc => h cs (List.mem_cons_of_mem _ hc)), h c (by simp), List.length_cons, Nat.succ_mul]; omega
theorem flat_get : ∀ {els : List (List DV)} {sz : Nat} (_ : ∀ cs, cs ∈ els → cs.length = sz) {i j : Nat} {cs : List DV} {d : DV}, els[i]? = some cs → cs[j]? = some d → els.flatten[i * sz + j]? = some d
 | [], sz, _, i, j, cs, d, hi, _ => by simp at hi
 | c :: els, sz, h, i, j, cs, d, hi, hj => by
  have hc := h c (by simp);have hlt := (List.getElem?_eq_some_iff.1 hj).1;cases i with
  | zero =>
   simp at hi; subst hi;rw [List.flatten_cons, Nat.zero_mul, Nat.zero_add, List.getElem?_append_left hlt]; exact hj
  | succ i =>
   rw [List.getElem?_cons_succ] at hi;rw [List.flatten_cons, List.getElem?_append_right (by rw [hc, Nat.succ_mul]; omega), hc, show (i + 1) * sz + j - sz = i * sz + j by rw [Nat.succ_mul]; omega];exact flat_get (fun cs hc => h cs (List.mem_cons_of_mem _ hc)) hi hj
theorem rowsV_flat {els : List (List DV)} {sz : Nat} (h : ∀ cs, cs ∈ els → cs.length = sz) (hz : 0 < sz) {c : Nat} (hc : c < els.flatten.length) : ∃ i j cs d, els[i]? = some cs ∧ cs[j]? = some d ∧ c = i * sz + j ∧ els.flatten[c]? = some d := by
 rw [flat_len h] at hc;have h1 : c / sz < els.length := Nat.div_lt_of_lt_mul (by rw [Nat.mul_comm]; exact hc);have h2 : c % sz < sz := Nat.mod_lt _ hz;have e1 := List.getElem?_eq_getElem h1;have h3 := h _ (List.mem_of_getElem? e1);have e2 : c = c / sz * sz + c % sz := (Nat.div_add_mod' c sz).symm;have e3 := List.getElem?_eq_getElem (show c % sz < (els[c / sz]).length by omega);refine ⟨_, _, _, _, e1, e3, e2, ?_⟩;have := flat_get h e1 e3
 rwa [← e2] at this
theorem TRep.parts {w : World} {S : Nat → Prop} {e sz : Nat} {els : List (List DV)} {v : Value} (h : TRep w S (.view e sz els) v) (hz : 0 < sz) : ∃ (p : Option Nat × Nat) (V : List Value) (S' : Nat → Prop),
  v = .slice (p.1.map fun b => ⟨b, 0, none⟩) els.length p.2 ∧ (p.1 = none → els.length = 0 ∧ p.2 = 0) ∧ V.length = els.length * sz ∧ (∀ cs, cs ∈ els → cs.length = sz) ∧ TL w S' els.flatten V ∧ (∀ k, S k ↔ p.1 = some k ∨ S' k) ∧ (∀ k, p.1 = some k → ¬ S' k) ∧
  (∀ (c : Nat) x, els.flatten[c]? = some (.val x) → V[c]? = some x) ∧ ∀ m F, CRep m F w p (.arr e sz (rowsV sz els.length V)) := by
 cases h with
 | nil h => exact ⟨(none, 0), [], S, rfl, fun _ => ⟨rfl, rfl⟩, by simp, fun cs hc => by simp at hc, ⟨fun _ _ => False, rfl, fun i d v h => by simp at h, fun _ _ _ h => h.elim, fun k => ⟨fun h' => absurd h' (h k), fun ⟨_, h, _⟩ => by simp at h⟩⟩, fun k => by simp, fun k h => by simp at h, fun c x hc => by simp at hc, fun m F => .nil hz⟩
 | @view _ _ _ _ b cap vs fz Ts hb h1 h2 h3 h4 h5 h6 h7 h8 h9 h10 =>
  have hrow : ∀ cs, cs ∈ els → cs.length = sz := fun cs hc => by
   obtain ⟨i, hi⟩ := List.mem_iff_getElem?.1 hc;exact h6 i cs hi
  have hfl := flat_len hrow;have hcap := Nat.mul_le_mul_right sz h3;have hV : ∀ c, c < els.length * sz → ((List.range (els.length * sz)).map fun c => vs.getD c undef)[c]? = some (vs.getD c undef) := fun c hc => by simp [hc]
  have hT : ∀ c d, els.flatten[c]? = some d → TRep w (Ts c) d (vs.getD c undef) := by
   intro c d hd;obtain ⟨i, j, cs, d', e1, e2, rfl, e3⟩ := rowsV_flat hrow h5 (List.getElem?_eq_some_iff.1 hd).1;rw [e3] at hd;obtain rfl : d' = d := by simpa using hd
   exact h7 i cs j d' e1 e2
  refine ⟨(some b, cap), (List.range (els.length * sz)).map fun c => vs.getD c undef, fun k => ∃ c, c < els.length * sz ∧ Ts c k, rfl, fun h => by simp at h, by simp, hrow, ⟨Ts, by simp [hfl], fun c d v hd hv => ?_, h9, fun k => by rw [hfl]⟩, fun k => by rw [h10 k]; simp [eq_comm], fun k hk => ?_, fun c x hc => ?_, fun m F => .arr hb h1 h2 (by rw [rowsV_len]; exact h3) h4 h5 (fun i cs hi => (rowsV_row hi).2.1) (fun i cs j d hi hj => ?_)⟩
  ·have hlt := (List.getElem?_eq_some_iff.1 hd).1;rw [hfl] at hlt;rw [hV c hlt] at hv;simp only [Option.some.injEq] at hv;subst hv;exact hT c d hd
  ·simp only [Option.some.injEq] at hk;subst hk;rintro ⟨c, _, hc⟩;exact h8 c hc
  ·have hlt := (List.getElem?_eq_some_iff.1 hc).1;rw [hfl] at hlt;rw [hV c hlt];have := hT c _ hc;generalize vs.getD c undef = u at this;cases this; rfl
  obtain ⟨hi1, _, hrw⟩ := rowsV_row hi;obtain ⟨hj1, rfl⟩ := hrw j d hj;have hlt := row_lt hi1 hj1;rw [hV _ hlt, Option.getD_some];refine .val ?_;have hlt' : i * sz + j < els.flatten.length := by rw [hfl]; exact hlt
  have hE := List.getElem?_eq_getElem hlt';generalize els.flatten[i * sz + j] = dd at hE;have := hT _ _ hE;generalize vs.getD (i * sz + j) undef = u at this;cases this <;> first | assumption | trivial
theorem TRep.whole {w : World} {m : Nat → Option (Option Nat × Nat)} {F S' : Nat → Prop} {e sz : Nat} {els : List (List DV)} {V : List Value} {p : Option Nat × Nat} (hp : p.1 = none → els.length = 0 ∧ p.2 = 0) (hrow : ∀ cs, cs ∈ els → cs.length = sz) (hL : TL w S' els.flatten V) (hS : ∀ k, p.1 = some k → ¬ S' k)
  (hC : CRep m F w p (.arr e sz (rowsV sz els.length V))) : TRep w (fun k => p.1 = some k ∨ S' k) (.view e sz els) (.slice (p.1.map fun b => ⟨b, 0, none⟩) els.length p.2) := by
 have hfl := flat_len hrow;obtain ⟨Ts, g1, g2, g3, g4⟩ := hL;generalize hE : rowsV sz els.length V = E at hC;cases hC with
 | nil h =>
  have : els = [] := by
   have h2 := congrArg List.length hE;rw [rowsV_len] at h2;exact List.eq_nil_of_length_eq_zero h2
  subst this;refine .nil fun k hk => ?_
  rcases hk with hk | hk
  ·simp at hk
  obtain ⟨i, hi, _⟩ := (g4 k).1 hk;simp at hi
 | @arr b cap _ _ _ vs fz hb hf hsz hl hm h0' hrw hel =>
  subst hE;rw [rowsV_len] at hl;refine .view (fun c k => c < els.length * sz ∧ Ts c k) hb hf hsz hl hm h0' (fun i cs hi => hrow cs (List.mem_of_getElem? hi)) (fun i cs j d hi hj => ?_) (fun c hc => hS b rfl ((g4 b).2 ⟨c, by rw [hfl]; exact hc.1, hc.2⟩)) (fun c c' k h1 h2 => g3 c c' k h1.2 h2.2) (fun k => ?_)
  ·have hi1 := (List.getElem?_eq_some_iff.1 hi).1;have hj1 := (List.getElem?_eq_some_iff.1 hj).1;rw [hrow cs (List.mem_of_getElem? hi)] at hj1;have hlt := row_lt hi1 hj1;have hx := hel i _ j (DV.val ((V[i * sz + j]?).getD undef)) (rowsV_get hi1) (by simp [hj1]);have hfg := flat_get hrow hi hj;have hv := List.getElem?_eq_getElem (show i * sz + j < V.length by omega);have := g2 _ _ _ hfg hv;rw [hv, Option.getD_some] at hx;generalize vs.getD (i * sz + j) undef = u at hx;cases hx;exact this.congr fun k => by simp [hlt]
  rw [g4 k, hfl];constructor
  ·rintro (h | ⟨c, hc, hk⟩)
   ·simp only [Option.some.injEq] at h; exact .inl h.symm
   exact .inr ⟨c, hc, hc, hk⟩
  rintro (rfl | ⟨c, hc, _, hk⟩)
  ·exact .inl rfl
  exact .inr ⟨c, hc, hk⟩
section
variable {P : Program} [PT P] {C : Ctx} {Q : Exit → ASt → Prop} {s : ASt} {ops : Array Oper} {U U' : Nat → Prop} {a : Act} {w : World} {m : Nat → Option (Option Nat × Nat)}
theorem occ_lock {id : Nat} {q : Option Nat × Nat} {k : Nat} (h : occ (none, 0) (.lock id q) k) : False := by
 rcases h with h | h
 ·cases h
 exact h
theorem WeakR.openT (j id : Nat) {e sz : Nat} {els : List (List DV)} {v : Value} {S : Nat → Prop} {K : World → Prop} (hs : s.get j = .d (.val v)) (hc : s.chunk id = some (.pred S K)) (hK : ∀ w, K w → TRep w S (.view e sz els) v) (h0 : Nat.ble 1 sz = true) (hid : Nat.blt id s.nx = true) :
  WeakR C s fun t => ∃ p V S', (v = .slice (p.1.map fun b => ⟨b, 0, none⟩) els.length p.2 ∧ (p.1 = none → els.length = 0 ∧ p.2 = 0) ∧ V.length = els.length * sz ∧ (∀ cs, cs ∈ els → cs.length = sz) ∧ (∀ k, S k ↔ p.1 = some k ∨ S' k) ∧ (∀ (c : Nat) x, els.flatten[c]? = some (.val x) → V[c]? = some x)) ∧
   t = { n := s.n, nx := s.nx + 8, sl := (j, .own s.nx els.length) :: s.sl, ch := (s.nx, some (.arr e sz (rowsV sz els.length V))) :: (s.nx + 1, some (.lock s.nx p)) :: (id, some (.pred S' fun w => TL w S' els.flatten V)) :: s.ch } := by
 refine ⟨?_⟩;rintro a w ⟨m, hR⟩;have hid : id < s.nx := by simpa using hid
 obtain ⟨q0, q1, c1, l1⟩ := hR.ch id _ hc;obtain ⟨rfl, k1, cl1, lt1⟩ := c1.predAt;obtain ⟨p, V, S', hv, hp, hV, hrow, hL, hS, hd, hx, hC⟩ := (hK w k1).parts (Nat.le_of_ble_eq_true h0);have hsl := hR.sl j;rw [hs] at hsl
 let new : List (Nat × Chunk) := [(s.nx, .arr e sz (rowsV sz els.length V)), (s.nx + 1, .lock s.nx p), (id, .pred S' fun w => TL w S' els.flatten V)]
 let pm : Nat → Option Nat × Nat := fun i => if i = s.nx then p else (none, 0)
 have hnew : ∀ i c, getL i new = some c → (i = s.nx ∧ c = .arr e sz (rowsV sz els.length V)) ∨ (i = s.nx + 1 ∧ c = .lock s.nx p) ∨ (i = id ∧ c = .pred S' fun w => TL w S' els.flatten V) := by
  intro i c h;simp only [new, getL_cons] at h
  split at h
  ·rename_i ei; exact .inl ⟨ei, by simpa using h.symm⟩
  split at h
  ·rename_i ei; exact .inr (.inl ⟨ei, by simpa using h.symm⟩)
  split at h
  ·rename_i ei; exact .inr (.inr ⟨ei, by simpa using h.symm⟩)
  simp [getL] at h
 have hpm1 : pm s.nx = p := by simp [pm]
 have hpm2 : pm (s.nx + 1) = (none, 0) := by simp [pm]
 have hpm3 : pm id = (none, 0) := by simp [pm, Nat.ne_of_lt hid]
 refine ⟨_, ⟨p, V, S', ⟨hv, hp, hV, hrow, hS, hx⟩, rfl⟩, _, hR.repack (U' := fun i => s.nx + 8 ≤ i) new pm [id] rfl (fun i c h => ?_) (fun i c h => ?_) (fun i hi => ⟨by omega, ?_⟩) (fun i c b h hb => ?_) (fun i i' c c' b h h' hb hb' => ?_) (fun F' _ i c h => ?_) (fun hle F' hF i => ?_)⟩
 ·change (getL i (_ :: _ :: _ :: _)).getD none = _ at h
  simp only [getL_cons] at h;simp only [new, getL_cons]
  split at h
  ·rename_i ei; rw [if_pos ei]; exact .inl (by simpa using h)
  rename_i ei;rw [if_neg ei]
  split at h
  ·rename_i ei; rw [if_pos ei]; exact .inl (by simpa using h)
  rename_i ei;rw [if_neg ei]
  split at h
  ·rename_i ei; rw [if_pos ei]; exact .inl (by simpa using h)
  rename_i ei;rw [if_neg ei];exact .inr ⟨rfl, by simpa using ei, h⟩
 ·rcases hnew i c h with ⟨rfl, _⟩ | ⟨rfl, _⟩ | ⟨rfl, _⟩
  ·exact .inl (Nat.le_refl _)
  ·exact .inl (Nat.le_succ _)
  exact .inr (by rw [hpm3]; exact q1)
 ·simp only [new, getL_cons];rw [if_neg (by omega), if_neg (by omega), if_neg (by omega)]; rfl
 ·rcases hnew i c h with ⟨rfl, rfl⟩ | ⟨rfl, rfl⟩ | ⟨rfl, rfl⟩
  ·rw [hpm1] at hb;exact ⟨id, _, _, by simp, hc, q1, .inr ((hS b).2 (.inl hb.one_arr))⟩
  ·rw [hpm2] at hb;exact (occ_lock hb).elim
  rw [hpm3] at hb;exact ⟨i, _, _, by simp, hc, q1, .inr ((hS b).2 (.inr (occ_pred' hb)))⟩
 ·rcases hnew i c h with ⟨rfl, rfl⟩ | ⟨rfl, rfl⟩ | ⟨rfl, rfl⟩ <;> rcases hnew i' c' h' with ⟨rfl, rfl⟩ | ⟨rfl, rfl⟩ | ⟨rfl, rfl⟩
  all_goals first | rfl | skip
  ·rw [hpm2] at hb'; exact (occ_lock hb').elim
  ·rw [hpm1] at hb; rw [hpm3] at hb'; exact absurd (occ_pred' hb') (hd b hb.one_arr)
  ·rw [hpm2] at hb; exact (occ_lock hb).elim
  ·rw [hpm2] at hb; exact (occ_lock hb).elim
  ·rw [hpm1] at hb'; rw [hpm3] at hb; exact absurd (occ_pred' hb) (hd b hb'.one_arr)
  rw [hpm2] at hb'; exact (occ_lock hb').elim
 ·rcases hnew i c h with ⟨rfl, rfl⟩ | ⟨rfl, rfl⟩ | ⟨rfl, rfl⟩
  ·rw [hpm1]; exact hC _ _
  ·rw [hpm2];refine .lock ?_;rw [mNew_some (c := .arr e sz (rowsV sz els.length V)) (by simp [new, getL_cons]), hpm1]
  rw [hpm3];exact .pred hL (fun w w' hk h => h.turn hk) hL.lt
 change ARep _ _ _ ((getL i (_ :: _)).getD .dead) _
 rw [getL_cons]
 by_cases hij : i = j
 ·subst hij;rw [if_pos rfl]
  have : a.tmps.getD i undef = v := by
   generalize a.tmps.getD i undef = u at hsl;cases hsl with | d h => cases h; rfl
  rw [this, hv];exact .own (m := mNew m new pm) (id := s.nx) (b := p.1) (cap := p.2) (by rw [mNew_some (c := .arr e sz (rowsV sz els.length V)) (by simp [new, getL_cons]), hpm1]) hp
 rw [if_neg hij]; exact (hR.sl i).turn hle (fun k hk _ => ⟨hF k hk, rfl⟩)
theorem Weak.closeT (j id ia il : Nat) {e sz n : Nat} {els : List (List DV)} {V : List Value} {v : Value} {S S' : Nat → Prop} {K : World → Prop} {p : Option Nat × Nat} (hs : s.get j = .own ia els.length) (hc : s.chunk id = some (.pred S' K)) (hK : ∀ w, K w → TL w S' els.flatten V) (ha : s.chunk ia = some (.arr e sz (rowsV sz els.length V))) (hl : s.chunk il = some (.lock ia p))
  (hv : v = .slice (p.1.map fun b => ⟨b, 0, none⟩) els.length p.2) (hp : p.1 = none → els.length = 0 ∧ p.2 = 0) (hrow : ∀ cs, cs ∈ els → cs.length = sz) (hS : ∀ k, S k ↔ p.1 = some k ∨ S' k) (h12 : Nat.beq id ia = false) (h13 : Nat.beq id il = false) :
  Weak C s { n := s.n, nx := s.nx, sl := (j, .d (.val v)) :: s.sl, ch := (id, some (.pred S fun w => TRep w S (.view e sz els) v)) :: (ia, none) :: (il, none) :: s.ch } := by
 refine ⟨?_⟩;rintro a w ⟨m, hR⟩;obtain ⟨q0, q1, c1, l1⟩ := hR.ch id _ hc;obtain ⟨rfl, k1, cl1, lt1⟩ := c1.predAt;obtain ⟨pa, qa, ca, la⟩ := hR.ch ia _ ha;obtain ⟨pl, ql, cl, ll⟩ := hR.ch il _ hl
 have hpa : pa = p := by
  cases cl with | lock h => rw [qa] at h; simpa using h
 subst hpa;have h12 : id ≠ ia := Nat.ne_of_beq_eq_false h12;have hd : ∀ k, pa.1 = some k → ¬ S' k := fun k g1 g2 => h12 (hR.inj id ia _ _ _ _ hc ha q1 qa k (.inr g2) (.inl g1))
 have hT : TRep w S (.view e sz els) v := by
  rw [hv];exact (TRep.whole hp hrow (hK w k1) hd ca).congr fun k => (hS k).symm
 have hsl := hR.sl j;rw [hs] at hsl;refine ⟨_, hR.repack (U' := fun i => s.nx ≤ i) [(id, .pred S fun w => TRep w S (.view e sz els) v)] (fun _ => (none, 0)) [id, ia, il] rfl (fun i c h => ?_) (fun i c h => .inr ?_) (fun i hi => ⟨hi, ?_⟩) (fun i c b h hb => ?_) (fun i i' c c' b h h' _ _ => ?_) (fun F' _ i c h => ?_) (fun hle F' hF i => ?_)⟩
 ·change (getL i (_ :: _ :: _ :: _)).getD none = _ at h
  simp only [getL_cons] at h;rw [getL_cons]
  split at h
  ·rename_i ei; rw [if_pos ei]; exact .inl (by simpa using h)
  rename_i e1;rw [if_neg e1]
  split at h
  ·cases h
  rename_i e2
  split at h
  ·cases h
  rename_i e3;exact .inr ⟨rfl, by simp [e1, e2, e3], h⟩
 ·obtain ⟨rfl, _⟩ := getL_one h; exact q1
 ·rw [getL_cons]
  split
  ·rename_i ei; subst ei; have := hR.un i hi; rw [q1] at this; cases this
  rfl
 ·obtain ⟨rfl, rfl⟩ := getL_one h;rcases (hS b).1 (occ_pred' hb) with g | g
  ·exact ⟨ia, _, _, by simp, ha, qa, .inl g⟩
  exact ⟨i, _, _, by simp, hc, q1, .inr g⟩
 ·rw [(getL_one h).1, (getL_one h').1]
 ·obtain ⟨rfl, rfl⟩ := getL_one h;exact .pred hT (fun w w' hk h => h.turn hk) hT.lt
 change ARep _ _ _ ((getL i (_ :: _)).getD .dead) _
 rw [getL_cons]
 by_cases hij : i = j
 ·subst hij;rw [if_pos rfl]
  have : a.tmps.getD i undef = v := by
   generalize a.tmps.getD i undef = u at hsl;cases hsl with
   | own h1 h2 =>
    rw [qa] at h1;simp only [Option.some.injEq] at h1;subst h1;rw [hv]
  rw [this, hv];exact .d (.val trivial)
 rw [if_neg hij]; exact (hR.sl i).turn hle (fun k hk _ => ⟨hF k hk, rfl⟩)
end
section
variable {P : Program} [PT P] {C : Ctx} {Q : Exit → ASt → Prop} {s : ASt} {ops : Array Oper} {U U' : Nat → Prop} {a : Act} {w : World} {m : Nat → Option (Option Nat × Nat)}
theorem Weak.emptyT : Weak C s { n := s.n, nx := s.nx + 8, sl := s.sl, ch := (s.nx, some (.pred (fun _ => False) fun w => TL w (fun _ => False) [] [])) :: s.ch } := by
 refine ⟨?_⟩;rintro a w ⟨m, hR⟩;refine ⟨_, hR.repack (U' := fun i => s.nx + 8 ≤ i) [(s.nx, .pred (fun _ => False) fun w => TL w (fun _ => False) [] [])] (fun _ => (none, 0)) [] rfl (fun i c h => ?_) (fun i c h => .inl ?_) (fun i hi => ⟨by omega, ?_⟩) (fun i c b h hb => ?_) (fun i i' c c' b h h' _ _ => ?_) (fun F' _ i c h => ?_) (fun hle F' hF i => (hR.sl i).turn hle (fun k hk _ => ⟨hF k hk, rfl⟩))⟩
 ·change (getL i (_ :: _)).getD none = _ at h
  rw [getL_cons] at h;rw [getL_cons]
  split at h
  ·rename_i ei; rw [if_pos ei]; exact .inl (by simpa using h)
  rename_i ei;rw [if_neg ei];exact .inr ⟨rfl, by simp, h⟩
 ·obtain ⟨rfl, _⟩ := getL_one h; exact Nat.le_refl _
 ·rw [getL_cons, if_neg (by omega)]; rfl
 ·obtain ⟨rfl, rfl⟩ := getL_one h;exact (occ_pred' hb).elim
 ·rw [(getL_one h).1, (getL_one h').1]
 obtain ⟨rfl, rfl⟩ := getL_one h;exact .pred (TL.nil w) (fun w w' hk h => h.turn hk) (fun k hk => hk.elim)
theorem WeakR.splitT (id c : Nat) {L : List DV} {V : List Value} {d : DV} {v : Value} {S : Nat → Prop} {K : World → Prop} (hc : s.chunk id = some (.pred S K)) (hK : ∀ w, K w → TL w S L V) (hd : L[c]? = some d) (hv : V[c]? = some v) (hid : Nat.blt id s.nx = true) :
  WeakR C s fun t => ∃ S1 S2, (∀ k, S k ↔ S2 k ∨ S1 k) ∧ t = { n := s.n, nx := s.nx + 8, sl := s.sl, ch := (s.nx, some (.pred S1 fun w => TRep w S1 d v)) :: (id, some (.pred S2 fun w => TX w S2 c L V)) :: s.ch } := by
 refine ⟨?_⟩;rintro a w ⟨m, hR⟩;have hid : id < s.nx := by simpa using hid
 obtain ⟨q0, q1, c1, l1⟩ := hR.ch id _ hc;obtain ⟨rfl, k1, cl1, lt1⟩ := c1.predAt;obtain ⟨S1, S2, hT, hX, hdj, hS⟩ := (hK w k1).split hd hv
 have hnew : ∀ i c0, getL i [(s.nx, Chunk.pred S1 fun w => TRep w S1 d v), (id, .pred S2 fun w => TX w S2 c L V)] = some c0 → (i = s.nx ∧ c0 = .pred S1 fun w => TRep w S1 d v) ∨ (i = id ∧ c0 = .pred S2 fun w => TX w S2 c L V) := by
  intro i c0 h;simp only [getL_cons] at h
  split at h
  ·rename_i ei; exact .inl ⟨ei, by simpa using h.symm⟩
  split at h
  ·rename_i ei; exact .inr ⟨ei, by simpa using h.symm⟩
  simp [getL] at h
 refine ⟨_, ⟨S1, S2, fun k => by rw [hS k, Or.comm], rfl⟩, _, hR.repack (U' := fun i => s.nx + 8 ≤ i) [(s.nx, .pred S1 fun w => TRep w S1 d v), (id, .pred S2 fun w => TX w S2 c L V)] (fun _ => (none, 0)) [id] rfl (fun i c h => ?_) (fun i c h => ?_) (fun i hi => ⟨by omega, ?_⟩) (fun i c b h hb => ?_) (fun i i' c c' b h h' hb hb' => ?_) (fun F' _ i c h => ?_) (fun hle F' hF i => (hR.sl i).turn hle (fun k hk _ => ⟨hF k hk, rfl⟩))⟩
 ·change (getL i (_ :: _ :: _)).getD none = _ at h
  simp only [getL_cons] at h;simp only [getL_cons]
  split at h
  ·rename_i ei; rw [if_pos ei]; exact .inl (by simpa using h)
  rename_i ei;rw [if_neg ei]
  split at h
  ·rename_i ei; rw [if_pos ei]; exact .inl (by simpa using h)
  rename_i ei;rw [if_neg ei];exact .inr ⟨rfl, by simpa using ei, h⟩
 ·rcases hnew i c h with ⟨rfl, _⟩ | ⟨rfl, _⟩
  ·exact .inl (Nat.le_refl _)
  exact .inr q1
 ·simp only [getL_cons];rw [if_neg (by omega), if_neg (by omega)]; rfl
 ·rcases hnew i c h with ⟨rfl, rfl⟩ | ⟨rfl, rfl⟩
  ·exact ⟨id, _, _, by simp, hc, q1, .inr ((hS b).2 (.inl (occ_pred' hb)))⟩
  exact ⟨i, _, _, by simp, hc, q1, .inr ((hS b).2 (.inr (occ_pred' hb)))⟩
 ·rcases hnew i c h with ⟨rfl, rfl⟩ | ⟨rfl, rfl⟩ <;> rcases hnew i' c' h' with ⟨rfl, rfl⟩ | ⟨rfl, rfl⟩
  ·rfl
  ·exact absurd (occ_pred' hb') (hdj b (occ_pred' hb))
  ·exact absurd (occ_pred' hb) (hdj b (occ_pred' hb'))
  rfl
 rcases hnew i c h with ⟨rfl, rfl⟩ | ⟨rfl, rfl⟩
 ·exact .pred hT (fun w w' hk h => h.turn hk) hT.lt
 exact .pred hX (fun w w' hk h => h.turn hk) (fun k hk => lt1 k ((hS k).2 (.inr hk)))
theorem Weak.joinT (id i1 c : Nat) {L : List DV} {V : List Value} {d : DV} {v : Value} {S S1 S2 : Nat → Prop} {K1 : World → Prop} (h2 : s.chunk id = some (.pred S2 fun w => TX w S2 c L V)) (h1 : s.chunk i1 = some (.pred S1 K1)) (hK : ∀ w, K1 w → TRep w S1 d v) (hS : ∀ k, S k ↔ S2 k ∨ S1 k) (hc : c < L.length) (hv : V[c]? = some v) (hne : Nat.beq id i1 = false) :
  Weak C s { n := s.n, nx := s.nx, sl := s.sl, ch := (id, some (.pred S fun w => TL w S (L.set c d) V)) :: (i1, none) :: s.ch } := by
 obtain rfl : S = fun k => S2 k ∨ S1 k := funext fun k => propext (hS k)
 refine Weak.join id i1 _ h2 h1 hne (fun w hX k1 hd => ?_) (fun w w' hk h => h.turn hk);have := hX.join (hK w k1) hc hv (fun k g1 g2 => hd k g2 g1);have e : (fun k => S1 k ∨ S2 k) = fun k => S2 k ∨ S1 k := funext fun k => propext Or.comm
 rw [e] at this;exact this
theorem Weak.appT (id i1 : Nat) {L L1 : List DV} {V V1 : List Value} {S S1 : Nat → Prop} {K K1 : World → Prop} (h : s.chunk id = some (.pred S K)) (hK : ∀ w, K w → TL w S L V) (h1 : s.chunk i1 = some (.pred S1 K1)) (hK1 : ∀ w, K1 w → TL w S1 L1 V1) (hne : Nat.beq id i1 = false) :
  Weak C s { n := s.n, nx := s.nx, sl := s.sl, ch := (id, some (.pred (fun k => S k ∨ S1 k) fun w => TL w (fun k => S k ∨ S1 k) (L ++ L1) (V ++ V1))) :: (i1, none) :: s.ch } :=
 Weak.join id i1 _ h h1 hne (fun w k1 k2 hd => (hK w k1).app (hK1 w k2) hd) (fun w w' hk h => h.turn hk)
theorem WeakR.closeN (j id ia : Nat) {e sz n : Nat} {els : List (List DV)} {rows : List (List DV)} {V : List Value} {S' : Nat → Prop} {K : World → Prop} (hs : s.get j = .own ia n) (hn : n = els.length) (hc : s.chunk id = some (.pred S' K)) (hK : ∀ w, K w → TL w S' els.flatten V) (ha : s.chunk ia = some (.arr e sz rows)) (hr : rows = rowsV sz els.length V)
  (hrow : ∀ cs, cs ∈ els → cs.length = sz) (h12 : Nat.beq id ia = false) :
  WeakR C s fun t => ∃ v S, t = { n := s.n, nx := s.nx, sl := (j, .d (.val v)) :: s.sl, ch := (id, some (.pred S fun w => TRep w S (.view e sz els) v)) :: (ia, none) :: s.ch } := by
 subst hn; subst hr;refine ⟨?_⟩;rintro a w ⟨m, hR⟩;obtain ⟨q0, q1, c1, l1⟩ := hR.ch id _ hc;obtain ⟨rfl, k1, cl1, lt1⟩ := c1.predAt;obtain ⟨pa, qa, ca, la⟩ := hR.ch ia _ ha;have h12 : id ≠ ia := Nat.ne_of_beq_eq_false h12;have hd : ∀ k, pa.1 = some k → ¬ S' k := fun k g1 g2 => h12 (hR.inj id ia _ _ _ _ hc ha q1 qa k (.inr g2) (.inl g1))
 have hsl := hR.sl j;rw [hs] at hsl
 obtain ⟨hv, hp⟩ : a.tmps.getD j undef = .slice (pa.1.map fun b => ⟨b, 0, none⟩) els.length pa.2 ∧ (pa.1 = none → els.length = 0 ∧ pa.2 = 0) := by
  generalize a.tmps.getD j undef = u at hsl;cases hsl with
  | own h1 h2 =>
   rw [qa] at h1;simp only [Option.some.injEq] at h1;subst h1;exact ⟨rfl, h2⟩
 have hT : TRep w (fun k => pa.1 = some k ∨ S' k) (.view e sz els) (a.tmps.getD j undef) := by
  rw [hv];exact TRep.whole hp hrow (hK w k1) hd ca
 refine ⟨_, ⟨a.tmps.getD j undef, (fun k => pa.1 = some k ∨ S' k), rfl⟩, _, hR.repack (U' := fun i => s.nx ≤ i) [(id, .pred (fun k => pa.1 = some k ∨ S' k) fun w => TRep w (fun k => pa.1 = some k ∨ S' k) (.view e sz els) (a.tmps.getD j undef))] (fun _ => (none, 0)) [id, ia] rfl (fun i c h => ?_) (fun i c h => .inr ?_) (fun i hi => ⟨hi, ?_⟩) (fun i c b h hb => ?_) (fun i i' c c' b h h' _ _ => ?_) (fun F' _ i c h => ?_) (fun hle F' hF i => ?_)⟩
 ·change (getL i (_ :: _ :: _)).getD none = _ at h
  simp only [getL_cons] at h;rw [getL_cons]
  split at h
  ·rename_i ei; rw [if_pos ei]; exact .inl (by simpa using h)
  rename_i e1;rw [if_neg e1]
  split at h
  ·cases h
  rename_i e2;exact .inr ⟨rfl, by simp [e1, e2], h⟩
 ·obtain ⟨rfl, _⟩ := getL_one h; exact q1
 ·rw [getL_cons]
  split
  ·rename_i ei; subst ei; have := hR.un i hi; rw [q1] at this; cases this
  rfl
 ·obtain ⟨rfl, rfl⟩ := getL_one h;rcases occ_pred' hb with g | g
  ·exact ⟨ia, _, _, by simp, ha, qa, .inl g⟩
  exact ⟨i, _, _, by simp, hc, q1, .inr g⟩
 ·rw [(getL_one h).1, (getL_one h').1]
 ·obtain ⟨rfl, rfl⟩ := getL_one h;exact .pred hT (fun w w' hk h => h.turn hk) hT.lt
 change ARep _ _ _ ((getL i (_ :: _)).getD .dead) _
 rw [getL_cons]
 by_cases hij : i = j
 ·subst hij;rw [if_pos rfl];rw [hv];exact .d (.val trivial)
 rw [if_neg hij]; exact (hR.sl i).turn hle (fun k hk _ => ⟨hF k hk, rfl⟩)
end
def fillV (sz n k : Nat) (z : List DV) (V : List Value) : List (List DV) := rowsV sz k V ++ List.replicate (n - k) z
theorem fillV_len {sz n k : Nat} {z : List DV} {V : List Value} (h : k ≤ n) : (fillV sz n k z V).length = n := by simp [fillV, rowsV_len]; omega
theorem fillV_zero (sz n : Nat) (z : List DV) (V : List Value) : fillV sz n 0 z V = List.replicate n z := by simp [fillV, rowsV]
theorem fillV_all (sz n : Nat) (z : List DV) (V : List Value) : fillV sz n n z V = rowsV sz n V := by simp [fillV]
theorem rowsV_app {sz k : Nat} {V vs : List Value} (h1 : V.length = k * sz) (h2 : vs.length = sz) : rowsV sz (k + 1) (V ++ vs) = rowsV sz k V ++ [vs.map .val] := by
 unfold rowsV;rw [List.range_succ, List.map_append, List.map_singleton];congr 1
 ·refine List.map_congr_left fun i hi => List.map_congr_left fun j hj => ?_
  rw [List.mem_range] at hi hj;have := row_lt hi hj;rw [List.getElem?_append_left (by omega)]
 congr 1
 apply List.ext_getElem?
 intro j;rw [List.getElem?_map, List.getElem?_map]
 by_cases hj : j < sz
 ·rw [List.getElem?_eq_getElem (show j < (List.range sz).length by simpa using hj), List.getElem?_eq_getElem (show j < vs.length by omega)];simp only [Option.map_some, List.getElem_range];rw [List.getElem?_append_right (by omega), h1, show k * sz + j - k * sz = j by omega, List.getElem?_eq_getElem (show j < vs.length by omega)]; rfl
 rw [List.getElem?_eq_none (show (List.range sz).length ≤ j by simpa using hj), List.getElem?_eq_none (show vs.length ≤ j by omega)]; rfl
theorem fillV_set {sz n k : Nat} {z : List DV} {V vs : List Value} (hk : k < n) (h1 : V.length = k * sz) (h2 : vs.length = sz) : (fillV sz n k z V).set k (vs.map .val) = fillV sz n (k + 1) z (V ++ vs) := by
 unfold fillV;rw [rowsV_app h1 h2, List.set_append_right _ _ (by rw [rowsV_len]; exact Nat.le_refl _), rowsV_len, Nat.sub_self];rw [show n - k = (n - (k + 1)) + 1 by omega, List.replicate_succ, List.set_cons_zero, List.append_assoc, List.singleton_append]
end Go.Proofs.YtknfdlakkbmdcaaGreat
