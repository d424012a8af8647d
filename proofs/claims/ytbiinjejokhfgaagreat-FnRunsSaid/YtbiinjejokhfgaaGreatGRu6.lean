/- Contracts of the functions of the program and of the reference, each proved by a walk through its code. -/
import Derived.Laws.Small
import Derived.Test.YtbiinjejokhfgaaGreatGRu5
set_option linter.all false
set_option maxRecDepth 20000
namespace Go.Proofs.YtbiinjejokhfgaaGreat
open Go.RowKit
theorem own_le {α : Type} (l : List α) (f : α → List DV) : l.length ≤ (l.map f).length := Nat.le_of_eq (List.length_map _).symm
theorem own_take {α : Type} (l : List α) (f : α → List DV) : (l.map f).take l.length = l.map f := List.take_of_length_le (Nat.le_of_eq (List.length_map _))
theorem br_lent {s : ASt} {N : Net} {u : Unf} {L A : List ES} (ids : List Nat) (i0 i1 i2 i3 i4 : Nat) {xs ys : List AV} (hi0 : ids.contains i0 = true) (hi1 : ids.contains i1 = true) (hi2 : ids.contains i2 = true) (hi3 : ids.contains i3 = true) (hi4 : ids.contains i4 = true) (h0 : s.chunk i0 = some (brC N i1 u.cs.length i2 u.es.length i3 L.length i4 A.length)) (h1 : s.chunk i1 = some (.arr 143 2 (condsL u.cs))) (h2 : s.chunk i2 = some (.arr 59 2 (evsL u.es))) (h3 : s.chunk i3 = some (.arr 97 1 (esL L))) (h4 : s.chunk i4 = some (.arr 97 1 (esL A))) (hr : BAs ids s xs ys) : BAs ids s (.d (.ref (brD N u L A)) :: xs) (.ptr i0 0 :: ys) :=
 .cons (.ptr hi0 h0 (.cons .d (.cons .d (.cons (.own hi1 h1 (own_le _ _) (own_take _ _)) (.cons (.own hi2 h2 (own_le _ _) (own_take _ _)) (.cons (.own hi3 h3 (own_le _ _) (own_take _ _)) (.cons (.own hi4 h4 (own_le _ _) (own_take _ _)) .nil))))))) hr
def agK (u : Unf) (h : Ev) : Nat → ES
 | 0 => 0
 | k + 1 => if shareI (evAt u (k : Int)) h.pre = true then agK u h k ||| bitU k else agK u h k
def agA (u : Unf) (h : Ev) (A : List ES) : Nat → List ES
 | 0 => A
 | k + 1 => if shareI (evAt u (k : Int)) h.pre = true then (agA u h A k).set k (A.getD k 0 ||| bitU u.es.length) else agA u h A k
theorem agA_len (u : Unf) (h : Ev) (A : List ES) : ∀ k, (agA u h A k).length = A.length
 | 0 => rfl
 | k + 1 => by rw [agA]; split; rw [List.length_set, agA_len u h A k]; exact agA_len u h A k
theorem agA_get (u : Unf) (h : Ev) (A : List ES) : ∀ k i, k ≤ i → (agA u h A k)[i]? = A[i]?
 | 0, i, _ => rfl
 | k + 1, i, hi => by
  rw [agA]
  split
  ·rw [List.getElem?_set_ne (by omega)]; exact agA_get u h A k i (by omega)
  exact agA_get u h A k i (by omega)
def addL (u : Unf) (L : List ES) (h : Ev) : List ES := L ++ [allB u L h.pre ||| bitU u.es.length]
def addA (u : Unf) (A : List ES) (h : Ev) : List ES := agA u h A u.es.length ++ [agK u h u.es.length]
theorem vES_getI {l : List ES} {k : Nat} {x : ES} (h : l[k]? = some x) : (esL l)[k]? = some [dU x] := by rw [List.getElem?_map, h]; rfl
theorem esL_set (l : List ES) (i : Nat) (b : ES) : (esL l).set i [dU b] = esL (l.set i b) := by simp [esL, List.map_set]
theorem h_appendS (acc new : List ES) {s : ASt} {dst : Option Nat} {ty : Nat} {pos : String} {af : Array Edge} {gd : Option (Nat × Bool)} {x y : Operand} {f : Nat} {ids ids2 : List Nat} {gone : List (Nat × Option Chunk)}
  (hto : AppTo s x 97 1 (esL acc) ids gone) (harg : AppArg s y 1 (esL new) ids2) (h : (acc ++ new).length ≤ 100000000) (hnew : gone = [] → 0 < new.length) :
  NOp Tryz.prog (ids ++ ids2) s ⟨dst, .call { callee := .builtin .append, args := #[x, y], argTypes := #[98, 98] }, ty, pos, af, gd⟩ f ⟨.own f (acc ++ new).length, (f, some (.arr 97 1 (esL (acc ++ new)))) :: gone⟩ := by
 have := h_append (P := Tryz.prog) (s := s) (dst := dst) (ty := ty) (pos := pos) (af := af) (gd := gd) (x := x) (y := y) (f := f) (t := 98) (tx := 98) (k := (acc ++ new).length) rfl rfl rfl rfl rfl rfl hto harg (by simp) (by omega) (by show (acc ++ new).length * 8 ≤ _; omega) (fun h => by rw [esL_len]; exact hnew h)
 rwa [← List.map_append] at this
theorem bne_t {b : Bool} (h : b = false) : ¬ b = true := by rw [h]; exact Bool.false_ne_true
set_option maxRecDepth 20000 in
set_option maxHeartbeats 8000000 in
theorem brAdd_spec (N : Net) (u : Unf) (L A : List ES) (h : Ev) (hB : NetB N) (hW : WB u L A) (he : u.es.length < 64) (hh : h.pre.length ≤ 1000000) (hr : inR N h.t = true) (hin : ∀ c, c ∈ h.pre → 0 ≤ c ∧ c < u.cs.length) : ASpec Tryz.prog 72 [.ptr 0 0, evA h] (brChs N u L A) (Fun1 (.tup []) [(0, brC N 5 (withI N u h).cs.length 6 (withI N u h).es.length 7 (addL u L h).length 8 (addA u A h).length), (5, .arr 143 2 (condsL (withI N u h).cs)), (6, .arr 59 2 (evsL (withI N u h).es)), (7, .arr 97 1 (esL (addL u L h))), (8, .arr 97 1 (esL (addA u A h)))]) := by
 have hcl := hW.w.c;have hll := hW.l;have hal := hW.a;obtain ⟨i, hi, hin2⟩ := inR_nat hr;have hgetT := tsL_get hin2;have hpl := (hB.t _ (List.getElem_mem hin2)).2;have hwi : withI N u h = ⟨withC u N.ts[i].post, u.es ++ [h]⟩ := by unfold withI; rw [hi, tAt_nat hin2]
 refine ASpec.of Tryz.func72 rfl rfl fun C hC => ?_
 refine AC.seq (AC.region ?_);refine kD ?_;refine AL.nil (th_n (AC.seq (AC.region ?_)));refine AL.p (by exact mv3 rfl) rfl ?_;refine AL.p (by exact g_nilP rfl) rfl ?_;refine zF ?_;refine zF ?_;refine zl ?_;refine AL.p (by exact g_len_own (sz := 1) (els := []) (e' := 0) rfl rfl (by simp only [maxLen]; omega)) rfl ?_;refine za ?_;refine za ?_;refine za ?_;refine AL.nil (th_n (AC.seq (AC.seq (AC.region ?_))));refine zf ?_;refine zr ?_;refine kH ?_;refine zm ?_;refine AL.nil (th_n (AC.block ?_));refine AC.loop (ι := Nat) (fun k => ⟨135, 136, [(0, .ptr 0 0), (3, .d (.ref (evD h))), (4, aI u.es.length), (5, aU (allB u L (h.pre.take k))), (6, aU 0), (20, .d (vI h.pre)), (21, aI h.pre.length), (22, aI k)], chL (brChs N u L A)⟩) (fun k => k ≤ h.pre.length) (fun k => h.pre.length - k) (0) ?_ (Nat.zero_le _) ?_
 ·exact zw [] hC
 intro k hk;refine AC.seq (AC.region ?_);refine zc ?_;refine AL.nil (th_n (AC.seq ?_));refine AC.condD rfl (fun h0 => ?_) (fun h0 => ?_)
 ·refine AC.skip (th_n (AC.seq (AC.block (AC.seq ?_))));have hk1 : k < h.pre.length := by omega
  have hget := ints_at hk1;have hinc := hin _ (List.getElem_mem hk1);have hP := brProducer_spec N u L A h.pre[k] hW hinc.1 hinc.2;have hat := allB_take (u := u) (L := L) hk1;refine AC.region ?_;refine AL.p (by exact g_ia_view rfl rfl rfl rfl rfl (by rfl) (by assumption)) rfl ?_;refine zr ?_;refine za ?_;refine AL.nil (th_n (AC.region ?_));refine zm ?_;refine AL.p (by exact mv3 rfl) rfl ?_;refine zm ?_;refine AL.q (by exact h_borrow [0, 1, 2, 3, 4] en_brProducer rfl rfl hP (br_lent [0, 1, 2, 3, 4] 0 1 2 3 4 rfl rfl rfl rfl rfl rfl rfl rfl rfl rfl (.cons (.of .d) .nil)) rfl) rfl ?_;refine AL.p (by exact g_or64 rfl rfl) rfl ?_;refine za ?_;refine AL.nil (ib_n (th_n (AC.region ?_)));refine zA ?_;refine zm ?_;refine AL.nil (th_n ?_);exact ⟨k + 1, by omega, by omega, Weak.ren _ [] hC rfl (by rw [hat]; repeat (first | exact True.intro | refine And.intro ?_ ?_ | exact DLead.same | exact rfl | refine ⟨_, rfl, ?_⟩)) (by repeat (first | exact True.intro | refine And.intro ?_ ?_ | exact DLead.same | exact rfl | refine ⟨_, _, rfl, rfl, ?_⟩ | refine ⟨_, rfl, ?_⟩ | refine ⟨_, _, rfl, ?_, ?_⟩)) rfl rfl rfl⟩
 refine AC.exit (th_e (th_e (ib_y (th_n (AC.seq (AC.seq ?_))))));have hkk : k = h.pre.length := by omega
 subst hkk;rw [List.take_length];refine AC.region ?_;refine AL.p (by exact mv3 rfl) rfl ?_;refine AL.p (by exact g_nilP rfl) rfl ?_;refine zF ?_;refine zF ?_;refine zl ?_;refine AL.p (by exact g_len_own (sz := 1) (els := []) (e' := 0) rfl rfl (by simp only [maxLen]; omega)) rfl ?_;refine zm ?_;refine AL.nil (th_n (AC.block ?_));refine AC.loop (ι := Nat) (fun k => ⟨135, 136, [(0, .ptr 0 0), (3, .d (.ref (evD h))), (4, aI u.es.length), (5, aU (allB u L h.pre)), (6, aU (agK u h k)), (36, .own 2 u.es.length), (37, aI u.es.length), (38, aI k)], chL [(0, brC N 1 u.cs.length 2 u.es.length 3 L.length 4 A.length), (1, .arr 143 2 (condsL u.cs)), (2, .arr 59 2 (evsL u.es)), (3, .arr 97 1 (esL L)), (4, .arr 97 1 (esL (agA u h A k)))]⟩) (fun k => k ≤ u.es.length) (fun k => u.es.length - k) (0) ?_ (Nat.zero_le _) ?_
 ·exact zw [] hC
 intro k hk;refine AC.seq (AC.region ?_);refine zc ?_;refine AL.nil (th_n (AC.seq ?_));refine AC.condD rfl (fun h1 => ?_) (fun h1 => ?_)
 ·refine AC.skip (th_n (AC.seq (AC.block (AC.seq ?_))));have hk1 : k < u.es.length := by omega
  have hgete := evsL_get hk1;have hel := hW.w.l _ (List.getElem_mem hk1);have hev : evAt u (k : Int) = u.es[k].pre := evAt_nat hk1;have hSh := share_spec u.es[k].pre h.pre hel hh;have hka : k < A.length := by omega
  have hgA : (agA u h A k)[k]? = some A[k] := by rw [agA_get u h A k k (Nat.le_refl _), List.getElem?_eq_getElem hka]
  have hgetA := vES_getI hgA;have hAd : A.getD k 0 = A[k] := by rw [List.getD_eq_getElem?_getD, List.getElem?_eq_getElem hka]; rfl
  have hKs : agK u h (k + 1) = if shareI u.es[k].pre h.pre = true then agK u h k ||| bitU k else agK u h k := by rw [agK, hev]
  have hAs : agA u h A (k + 1) = if shareI u.es[k].pre h.pre = true then (agA u h A k).set k (A[k] ||| bitU u.es.length) else agA u h A k := by rw [agA, hev, hAd]
  obtain ⟨sh, hsh⟩ := eqx (shareI u.es[k].pre h.pre);rw [← hsh] at hSh hKs hAs;refine AC.region ?_;refine zm ?_;refine AL.p (by exact g_ia_own rfl rfl rfl rfl rfl (by rfl) (by omega) (by rfl)) rfl ?_;refine AL.p (by exact g_load_arrN rfl rfl rfl rfl rfl rfl hgete) rfl ?_;refine kE ?_;refine za ?_;refine zs ?_;refine AL.nil (th_n (AC.seq (AC.region ?_)));refine zF ?_;refine zl ?_;refine zf ?_;refine zr ?_;refine kV en_share hSh ?_;refine AL.nil (th_n ?_);refine AC.condB rfl (fun h2 => ?_) (fun h2 => ?_)
  ·refine AC.seq (AC.region ?_);refine zm ?_;refine zm ?_;refine AL.p (by exact g_shl64 rfl rfl (by omega)) rfl ?_;refine AL.p (by exact g_or64 rfl rfl) rfl ?_;refine za ?_;refine AL.nil (th_n ?_);refine AC.drawn' mixed_ok [[], [0], [0,1], [0,1,2], [], [0,1,2,3,4], [0,1,2,3,4,5], [], [7], [0,1,2,3,4,5,6,7,8], [0,1,2,3,4,5,6,7,8,9], [0,1,2,3,4,5,6,7,8,9,10]] (by decide) ?_;refine zd 0 [] 12 (by exact mv3 rfl) ?_;refine zd 1 [0] 12 (by exact g_nilP rfl) ?_;refine zd 2 [0,1] 12 (by exact g_fa_ptr rfl rfl rfl rfl rfl) ?_;refine zd 3 [0,1,2] 12 (by exact g_load_ptr rfl rfl rfl rfl rfl) ?_;refine zd 4 [] 12 (by exact mv1 rfl) ?_;refine zd 5 [0,1,2,3,4] 12 (by exact g_ia_own rfl rfl rfl rfl rfl (by rfl) (by omega) (by exact Nat.mul_one _)) ?_;refine zd 6 [0,1,2,3,4,5] 12 (by exact g_load_arr1 rfl rfl rfl rfl (by assumption)) ?_;refine zd 7 [] 12 (by exact mv1 rfl) ?_;refine zd 8 [7] 12 (by exact g_shl64 rfl rfl he) ?_;refine zd 9 (List.range 9) 12 (by exact g_or64 rfl rfl) ?_;refine zd 10 (List.range 10) 12 (by exact g_ia_own rfl rfl rfl rfl rfl (by rfl) (by omega) (by exact Nat.mul_one _)) ?_;refine zh 11 (List.range 11) 12 (by exact h_store_arr1 rfl rfl rfl rfl (by exact .same) (by assumption)) ?_;refine zj 12 ?_;refine ib_n (th_n (AC.region ?_));refine zA ?_;refine zm ?_;refine AL.nil (th_n ?_)
   (have e1 := hKs.trans (if_pos h2); have e2 := hAs.trans (if_pos h2); exact ⟨k + 1, by omega, by omega, zw [] hC (by rw [e1]; repeat (first | exact True.intro | refine And.intro ?_ ?_ | exact DLead.same | exact rfl | refine ⟨_, rfl, ?_⟩)) (by rw [e2, ← esL_set]; repeat (first | exact True.intro | refine And.intro ?_ ?_ | exact DLead.same | exact rfl | refine ⟨_, _, rfl, rfl, ?_⟩ | refine ⟨_, rfl, ?_⟩ | refine ⟨_, _, rfl, ?_, ?_⟩))⟩)
  refine AC.skip (ib_n (th_n (AC.region ?_)));refine zA ?_;refine zm ?_;refine AL.nil (th_n ?_)
  (have e1 := hKs.trans (if_neg (bne_t h2)); have e2 := hAs.trans (if_neg (bne_t h2)); exact ⟨k + 1, by omega, by omega, zw [] hC (by rw [e1]; repeat (first | exact True.intro | refine And.intro ?_ ?_ | exact DLead.same | exact rfl | refine ⟨_, rfl, ?_⟩)) (by rw [e2]; repeat (first | exact True.intro | refine And.intro ?_ ?_ | exact DLead.same | exact rfl | refine ⟨_, _, rfl, rfl, ?_⟩ | refine ⟨_, rfl, ?_⟩ | refine ⟨_, _, rfl, ?_, ?_⟩))⟩)
 refine AC.exit (th_e (th_e (ib_y (th_n (AC.seq ?_)))));have hkk : k = u.es.length := by omega
 subst hkk;have hAl := agA_len u h A u.es.length;obtain ⟨A1, hA1⟩ := eqx (agA u h A u.es.length);obtain ⟨k1, hk1⟩ := eqx (agK u h u.es.length);obtain ⟨l1, hl1⟩ := eqx (allB u L h.pre);have haL : addL u L h = L ++ [l1 ||| bitU u.es.length] := by rw [hl1]; rfl
 have haA : addA u A h = A1 ++ [k1] := by rw [hA1, hk1]; rfl
 rw [← hA1] at hAl ⊢;rw [← hk1, ← hl1];refine AC.drawn' mixed_ok [[], [], [1], [1,2], [1,2,3], [1,2,3,4], [], [6], [], [], [9], [8,9,10], [6,7,8,9,10,11], [6,7,8,9,10,11,12], [1,2,3,4,5,6,7,8,9,10,11,12,13], [0,1,2,3,4,5,6,7,8,9,10,11,12,13,14], [0,1,2,3,4,5,6,7,8,9,10,11,12,13,14,15], [0,1,2,3,4,5,6,7,8,9,10,11,12,13,14,15,16], [0,1,2,3,4,5,6,7,8,9,10,11,12,13,14,15,16,17]] (by decide) ?_;refine zd 0 [] 19 (by exact mv3 rfl) ?_;refine zd 1 [] 19 (by exact mv3 rfl) ?_;refine zd 2 [1] 19 (by exact g_nilP rfl) ?_;refine zd 3 [1,2] 19 (by exact g_fa_ptr rfl rfl rfl rfl rfl) ?_;refine zd 4 [1,2,3] 19 (by exact g_fa_ptr rfl rfl rfl rfl rfl) ?_;refine zd 5 [1,2,3,4] 19 (by exact g_load_ptr rfl rfl rfl rfl rfl) ?_;refine zd 6 [] 19 (by exact g_fa_ref rfl rfl rfl rfl rfl rfl) ?_;refine zd 7 [6] 19 (by exact g_load_ref rfl rfl rfl) ?_;refine zh 8 [] 19 (by exact h_lit rfl rfl rfl rfl rfl rfl rfl rfl) ?_;refine zd 9 [] 19 (by exact g_fa_ref rfl rfl rfl rfl rfl rfl) ?_;refine zd 10 [9] 19 (by exact g_load_ref rfl rfl rfl) ?_;refine zh 11 [8,9,10] 19 (by exact NOp.frz (h_appendI [] h.pre (.own rfl rfl rfl) (.view rfl) (by simp; omega) (by simp)) rfl (Nat.le_of_eq (ints_len _).symm) (ints_all _)) ?_;refine zd 12 [6,7,8,9,10,11] 19 (by exact g_build rfl rfl rfl) ?_;refine zh 13 [6,7,8,9,10,11,12] 19 (by exact h_litF rfl rfl rfl rfl rfl rfl rfl rfl) ?_;refine zh 14 [1,2,3,4,5,6,7,8,9,10,11,12,13] 19 (by exact h_appendE u.es [h] (.own rfl rfl (evsL_len _).symm) (.view rfl) (by simp; omega) (by simp)) ?_;refine zd 15 (List.range 15) 19 (by exact g_nilP rfl) ?_;refine zd 16 (List.range 16) 19 (by exact g_fa_ptr rfl rfl rfl rfl rfl) ?_;refine zd 17 (List.range 17) 19 (by exact g_fa_ptr rfl rfl rfl rfl rfl) ?_;refine zh 18 (List.range 18) 19 (by exact h_store rfl rfl rfl rfl rfl rfl) ?_;refine zj 19 ?_;refine th_n (AC.seq ?_);refine AC.drawn' mixed_ok [[], [], [], [2], [2,3], [2,3,4], [], [], [7], [6,7,8], [6,7,8,9], [2,3,4,5,6,7,8,9,10], [], [12], [12,13], [12,13,14], [], [16], [2,3,4,5,6,7,8,9,10,11,12,13,14,15,16,17], [0,2,3,4,5,6,7,8,9,10,11,12,13,14,15,16,17,18], [0,2,3,4,5,6,7,8,9,10,11,12,13,14,15,16,17,18,19], [0,2,3,4,5,6,7,8,9,10,11,12,13,14,15,16,17,18,19,20], [0,1,2,3,4,5,6,7,8,9,10,11,12,13,14,15,16,17,18,19,20,21], [0,1,2,3,4,5,6,7,8,9,10,11,12,13,14,15,16,17,18,19,20,21,22], [0,1,2,3,4,5,6,7,8,9,10,11,12,13,14,15,16,17,18,19,20,21,22,23]] (by decide) ?_;refine zd 0 [] 25 (by exact mv3 rfl) ?_;refine zd 1 [] 25 (by exact mv3 rfl) ?_;refine zd 2 [] 25 (by exact mv3 rfl) ?_;refine zd 3 [2] 25 (by exact g_nilP rfl) ?_;refine zd 4 [2,3] 25 (by exact g_fa_ptr rfl rfl rfl rfl rfl) ?_;refine zd 5 [2,3,4] 25 (by exact g_load_ptr rfl rfl rfl rfl rfl) ?_;refine zd 6 [] 25 (by exact mv1 rfl) ?_;refine zd 7 [] 25 (by exact mv1 rfl) ?_;refine zd 8 [7] 25 (by exact g_shl64 rfl rfl he) ?_;refine zd 9 [6,7,8] 25 (by exact g_or64 rfl rfl) ?_;refine zh 10 [6,7,8,9] 25 (by exact h_litF rfl rfl rfl rfl rfl rfl rfl rfl) ?_;refine zh 11 [2,3,4,5,6,7,8,9,10] 25 (by exact h_appendS L [l1 ||| bitU u.es.length] (.own rfl rfl (esL_len _).symm) (.view rfl) (by simp; omega) (by simp)) ?_;refine zd 12 [] 25 (by exact mv3 rfl) ?_;refine zd 13 [12] 25 (by exact g_nilP rfl) ?_;refine zd 14 [12,13] 25 (by exact g_fa_ptr rfl rfl rfl rfl rfl) ?_;refine zd 15 [12,13,14] 25 (by exact g_load_ptr rfl rfl rfl rfl rfl) ?_;refine zd 16 [] 25 (by exact mv1 rfl) ?_;refine zh 17 [16] 25 (by exact h_litF rfl rfl rfl rfl rfl rfl rfl rfl) ?_;refine zh 18 [2,3,4,5,6,7,8,9,10,11,12,13,14,15,16,17] 25 (by exact h_appendS A1 [k1] (.own rfl rfl (by rw [esL_len, hAl])) (.view rfl) (by simp; omega) (by simp)) ?_;refine zd 19 [0,2,3,4,5,6,7,8,9,10,11,12,13,14,15,16,17,18] 25 (by exact g_nilP rfl) ?_;refine zd 20 [0,2,3,4,5,6,7,8,9,10,11,12,13,14,15,16,17,18,19] 25 (by exact g_fa_ptr rfl rfl rfl rfl rfl) ?_;refine zh 21 [0,2,3,4,5,6,7,8,9,10,11,12,13,14,15,16,17,18,19,20] 25 (by exact h_store rfl rfl rfl rfl rfl rfl) ?_;refine zd 22 (List.range 22) 25 (by exact g_nilP rfl) ?_;refine zd 23 (List.range 23) 25 (by exact g_fa_ptr rfl rfl rfl rfl rfl) ?_
 refine zh 24 (List.range 24) 25 (by exact h_store rfl rfl rfl rfl rfl rfl) ?_;refine zj 25 ?_;refine th_n (AC.seq ?_);refine AC.drawn' mixed_ok [[], [0], [0,1], [0,1,2], [0,1,2,3], [], [5], [0,1,2,3,4,5,6], [0,1,2,3,4,5,6,7], [0,1,2,3,4,5,6,7,8], [0,1,2,3,4,5,6,7,8,9], []] (by decide) ?_;refine zd 0 [] 12 (by exact mv3 rfl) ?_;refine zd 1 [0] 12 (by exact g_nilP rfl) ?_;refine zd 2 [0,1] 12 (by exact g_fa_ptr rfl rfl rfl rfl rfl) ?_;refine zd 3 [0,1,2] 12 (by exact g_fa_ptr rfl rfl rfl rfl rfl) ?_;refine zd 4 [0,1,2,3] 12 (by exact g_load_ptr rfl rfl rfl rfl rfl) ?_;refine zd 5 [] 12 (by exact g_fa_ref rfl rfl rfl rfl rfl rfl) ?_;refine zd 6 [5] 12 (by exact g_load_ref rfl rfl rfl) ?_;refine zd 7 [0,1,2,3,4,5,6] 12 (by exact g_ia_view (i := i) rfl rfl rfl rfl rfl hi hgetT) ?_;refine zd 8 [0,1,2,3,4,5,6,7] 12 (by exact g_fa_ref rfl rfl rfl rfl rfl rfl) ?_;refine zd 9 (List.range 9) 12 (by exact g_load_ref rfl rfl rfl) ?_;refine zd 10 (List.range 10) 12 (by exact g_len_view rfl rfl (by exact List.length_map _)) ?_;refine zd 11 [] 12 (by exact mv1 rfl) ?_;refine zj 12 ?_;refine th_n (AC.block ?_);refine AC.loop (ι := Nat) (fun k => ⟨135, 136, [(0, .ptr 0 0), (4, aI u.es.length), (114, .d (vI N.ts[i].post)), (115, aI N.ts[i].post.length), (116, aI k)], [(0, some (brC N 101 (u.cs.length + k) 102 (u.es ++ [h]).length 103 (L ++ [l1 ||| bitU u.es.length]).length 104 (A1 ++ [k1]).length)), (101, some (.arr 143 2 (condsL (withC u (N.ts[i].post.take k))))), (102, some (.arr 59 2 (evsL (u.es ++ [h])))), (103, some (.arr 97 1 (esL (L ++ [l1 ||| bitU u.es.length])))), (104, some (.arr 97 1 (esL (A1 ++ [k1]))))]⟩) (fun k => k ≤ N.ts[i].post.length) (fun k => N.ts[i].post.length - k) (0) ?_ (Nat.zero_le _) ?_
 ·exact Weak.ren _ [(101, _), (102, _), (103, _), (104, _)] hC rfl (by repeat (first | exact True.intro | refine And.intro ?_ ?_ | exact DLead.same | exact rfl | refine ⟨_, rfl, ?_⟩)) (by rw [show withC u (N.ts[i].post.take 0) = u.cs from List.append_nil _]; repeat (first | exact True.intro | refine And.intro ?_ ?_ | exact DLead.same | exact rfl | refine ⟨_, _, rfl, rfl, ?_⟩ | refine ⟨_, rfl, ?_⟩ | refine ⟨_, _, rfl, ?_, ?_⟩)) rfl rfl rfl
 intro k hk;refine AC.seq (AC.region ?_);refine zc ?_;refine AL.nil (th_n (AC.seq ?_));refine AC.condD rfl (fun h2 => ?_) (fun h2 => ?_)
 ·refine AC.skip (th_n (AC.seq (AC.block (AC.seq ?_))));have hkp : k < N.ts[i].post.length := by omega
  have hgetp := ints_at hkp;have hwt := withC_take (u := u) hkp;have hwl : (withC u (N.ts[i].post.take k)).length = u.cs.length + k := by rw [withC_len, List.length_take]; omega
  refine AC.region ?_;refine AL.p (by exact g_ia_view rfl rfl rfl rfl rfl (by rfl) (by assumption)) rfl ?_;refine zr ?_;refine za ?_;refine AL.nil (th_n (AC.region ?_));refine AL.p (by exact mv3 rfl) rfl ?_;refine AL.p (by exact mv3 rfl) rfl ?_;refine AL.p (by exact g_nilP rfl) rfl ?_;refine zF ?_;refine zF ?_;refine zl ?_;refine zm ?_;refine zm ?_;refine AL.p (by exact g_build rfl rfl rfl) rfl ?_;refine AL.q (by exact h_litF rfl rfl rfl rfl rfl rfl rfl rfl) rfl ?_;refine AL.q (by exact h_appendC (withC u (N.ts[i].post.take k)) [⟨N.ts[i].post[k], (u.es.length : Int)⟩] (.own rfl rfl (by rw [condsL_len, hwl])) (.view rfl) (by rw [List.length_append, hwl]; show u.cs.length + k + 1 ≤ _; omega) (by simp)) rfl ?_;refine AL.p (by exact g_nilP rfl) rfl ?_;refine zF ?_;refine zF ?_;refine zs ?_;refine AL.nil (ib_n (th_n (AC.region ?_)));refine zA ?_;refine zm ?_;refine AL.nil (th_n ?_);have hl5 : (withC u (N.ts[i].post.take k) ++ [(⟨N.ts[i].post[k], (u.es.length : Int)⟩ : Cond)]).length = u.cs.length + (k + 1) := by rw [List.length_append, hwl]; rfl
  exact ⟨k + 1, by omega, by omega, zw [(101, _), (102, _), (103, _), (104, _)] hC (b := by rw [hwt, ← hl5]; repeat (first | exact True.intro | refine And.intro ?_ ?_ | exact DLead.same | exact rfl | refine ⟨_, _, rfl, rfl, ?_⟩ | refine ⟨_, rfl, ?_⟩ | refine ⟨_, _, rfl, ?_, ?_⟩))⟩
 refine AC.exit (th_e (th_e (ib_y (bq_n ?_))));have hkk : k = N.ts[i].post.length := by omega
 subst hkk;rw [List.take_length];have hwl : (withC u N.ts[i].post).length = u.cs.length + N.ts[i].post.length := withC_len _ _;exact retN [(5, _), (6, _), (7, _), (8, _)] rfl (by repeat (first | exact rfl | refine ⟨_, rfl, ?_⟩)) (by rw [hwi, haL, haA]; simp only [hwl]; repeat (first | exact True.intro | refine And.intro ?_ ?_ | exact DLead.same | exact rfl | refine ⟨_, _, rfl, rfl, ?_⟩ | refine ⟨_, rfl, ?_⟩ | refine ⟨_, _, rfl, ?_, ?_⟩)) rfl rfl
theorem en_brAdd : Enters Tryz.prog 72 := enters_of Tryz.func72 rfl rfl
theorem getD_setB (fl : List Bool) (i j : Nat) : (fl.set i true).getD j false = ((decide (i = j) && decide (i < fl.length)) || fl.getD j false) := by
 rw [List.getD_eq_getElem?_getD, List.getD_eq_getElem?_getD, List.getElem?_set]
 by_cases h : i = j
 ·subst h
  by_cases h2 : i < fl.length
  ·simp [h2]
  simp [h2, List.getElem?_eq_none (show fl.length ≤ i by omega)]
 simp [h]
inductive Rch (u : Unf) (S : List Int) : Nat → Prop
 | base {e : Nat} : (e : Int) ∈ S → e < u.es.length → Rch u S e
 | step {e f : Nat} {c : Int} : Rch u S e → c ∈ evAt u (e : Int) → (cAt u c).by_ = (f : Int) → Rch u S f
def Ord (u : Unf) : Prop := ∀ (e : Nat) c, e < u.es.length → c ∈ evAt u (e : Int) → (cAt u c).by_ < e
theorem Rch.lt {u : Unf} {S : List Int} (ho : Ord u) {f : Nat} (h : Rch u S f) : f < u.es.length := by
 induction h with
 | base _ h => exact h
 | step _ hc hb ih => have := ho _ _ ih hc; omega
theorem Rch.one {u : Unf} {S : List Int} {f : Nat} (h : Rch u S f) : ∃ s, s ∈ S ∧ Rch u [s] f := by
 induction h with
 | base h1 h2 => exact ⟨_, h1, .base (List.mem_singleton.2 rfl) h2⟩
 | step _ hc hb ih => obtain ⟨s, hs, hr⟩ := ih; exact ⟨s, hs, hr.step hc hb⟩
theorem Rch.mono {u : Unf} {S T : List Int} {f : Nat} (hST : ∀ s, s ∈ S → 0 ≤ s → s ∈ T) (h : Rch u S f) : Rch u T f := by
 induction h with
 | base h1 h2 => exact .base (hST _ h1 (by omega)) h2
 | step _ hc hb ih => exact ih.step hc hb
theorem stepF_get (u : Unf) (e : Nat) : ∀ (l : List Int) (fl : List Bool), (∀ c, c ∈ l → (cAt u c).by_ < e) → e ≤ fl.length → ∀ j, (l.foldl (stepC u e) fl).getD j false = (fl.getD j false || (fl.getD e false && l.any (fun c => decide ((cAt u c).by_ = (j : Int)))))
 | [], fl, h, hl, j => by simp
 | c :: l, fl, h, hl, j => by
  have hc := h c List.mem_cons_self;have hle : (stepC u e fl c).length = fl.length := stepC_len u e fl c;rw [List.foldl_cons, stepF_get u e l (stepC u e fl c) (fun c' hc' => h c' (List.mem_cons_of_mem _ hc')) (by omega)]
  have key : ∀ j, (stepC u e fl c).getD j false = (fl.getD j false || (fl.getD e false && decide ((cAt u c).by_ = (j : Int)))) := by
   intro j;unfold stepC
   by_cases h1 : fl.getD e false = true ∧ 0 ≤ (cAt u c).by_
   ·rw [if_pos h1, getD_setB, h1.1, Bool.true_and]
    have : (decide ((cAt u c).by_.toNat = j) && decide ((cAt u c).by_.toNat < fl.length)) = decide ((cAt u c).by_ = (j : Int)) := by
     rw [← Bool.decide_and]; apply decide_eq_decide.2; constructor
     ·intro ⟨a, _⟩; omega
     intro a; omega
    rw [this, Bool.or_comm]
   rw [if_neg h1]
   by_cases h2 : fl.getD e false = true
   ·have : ¬ (cAt u c).by_ = (j : Int) := fun h3 => h1 ⟨h2, by omega⟩
    rw [decide_eq_false this, Bool.and_false, Bool.or_false]
   rw [Bool.not_eq_true] at h2; rw [h2, Bool.false_and, Bool.or_false]
  have ke : (stepC u e fl c).getD e false = fl.getD e false := by
   rw [key e, decide_eq_false (by omega), Bool.and_false, Bool.or_false]
  rw [ke, key j, List.any_cons];cases fl.getD j false <;> cases fl.getD e false <;> simp
theorem stepE_get {u : Unf} (ho : Ord u) {e : Nat} {fl : List Bool} (he : e < u.es.length) (hl : fl.length = u.es.length) (j : Nat) : (stepE u e fl).getD j false = (fl.getD j false || (fl.getD e false && (evAt u (e : Int)).any (fun c => decide ((cAt u c).by_ = (j : Int))))) :=
 stepF_get u e _ fl (fun c hc => ho e c he hc) (by omega) j
theorem stepE_len' {u : Unf} {e : Nat} {fl : List Bool} (hl : fl.length = u.es.length) : (stepE u e fl).length = u.es.length := by rw [stepE_len]; exact hl
theorem downE_rch {u : Unf} (ho : Ord u) {S : List Int} : ∀ (k : Nat) (fl : List Bool), k ≤ u.es.length → fl.length = u.es.length → (∀ f, fl.getD f false = true → Rch u S f) → (∀ e : Nat, (e : Int) ∈ S → e < u.es.length → fl.getD e false = true) → (∀ (e f : Nat) c, k ≤ e → fl.getD e false = true → c ∈ evAt u (e : Int) → (cAt u c).by_ = (f : Int) → fl.getD f false = true) → ∀ f, (downE u k fl).getD f false = true ↔ Rch u S f
 | 0, fl, hk, hl, h1, h2, h3, f => by
  refine ⟨h1 f, fun h => ?_⟩
  induction h with
  | base a b => exact h2 _ a b
  | step _ hc hb ih => exact h3 _ _ _ (Nat.zero_le _) ih hc hb
 | k + 1, fl, hk, hl, h1, h2, h3, f => by
  have hg := stepE_get ho (show k < u.es.length by omega) hl;refine downE_rch ho k (stepE u k fl) (by omega) (stepE_len' hl) ?_ ?_ ?_ f
  ·intro f hf;rw [hg, Bool.or_eq_true, Bool.and_eq_true] at hf;rcases hf with h | ⟨h, h'⟩
   ·exact h1 f h
   obtain ⟨c, hc, hd⟩ := List.any_eq_true.1 h';exact (h1 k h).step hc (of_decide_eq_true hd)
  ·intro e he hlt;rw [hg, h2 e he hlt, Bool.true_or]
  intro e f c hke he hc hb
  have he' : fl.getD e false = true := by
   rw [hg, Bool.or_eq_true, Bool.and_eq_true] at he;rcases he with h | ⟨_, h'⟩
   ·exact h
   obtain ⟨c', hc', hd⟩ := List.any_eq_true.1 h';have := ho k c' (by omega) hc';have := of_decide_eq_true hd;omega
  rw [hg]
  by_cases h : k + 1 ≤ e
  ·rw [h3 e f c h he' hc hb, Bool.true_or]
  have : e = k := by omega
  subst this;rw [he', Bool.true_and, Bool.or_eq_true];exact .inr (List.any_eq_true.2 ⟨c, hc, decide_eq_true hb⟩)
theorem getD_rep (n i : Nat) : (List.replicate n false).getD i false = false := by
 rw [List.getD_eq_getElem?_getD, List.getElem?_replicate]; split <;> rfl
theorem mark0_get (n : Nat) (S : List Int) : ∀ f, (mark0 n S).getD f false = true ↔ ((f : Int) ∈ S ∧ f < n) := by
 suffices h : ∀ (S : List Int) (fl : List Bool), fl.length = n → ∀ f, (S.foldl (fun fl e => if 0 ≤ e then fl.set e.toNat true else fl) fl).getD f false = true ↔ (((f : Int) ∈ S ∧ f < n) ∨ fl.getD f false = true) by
  intro f;have := h S (List.replicate n false) List.length_replicate f;rw [getD_rep] at this;unfold mark0;rw [this]; simp
 intro S
 induction S with
 | nil => intro fl _ f; simp
 | cons e S ih =>
  intro fl hl f;rw [List.foldl_cons, ih _ (by split; rw [List.length_set]; exact hl; exact hl) f]
  by_cases h : 0 ≤ e
  ·rw [if_pos h, getD_setB, Bool.or_eq_true, Bool.and_eq_true, decide_eq_true_eq, decide_eq_true_eq, List.mem_cons];constructor
   ·rintro (⟨h1, h2⟩ | ⟨h1, h2⟩ | h1)
    ·exact .inl ⟨.inr h1, h2⟩
    ·exact .inl ⟨.inl (by omega), by omega⟩
    exact .inr h1
   rintro (⟨h1 | h1, h2⟩ | h1)
   ·exact .inr (.inl ⟨by omega, by omega⟩)
   ·exact .inl ⟨h1, h2⟩
   exact .inr (.inr h1)
  rw [if_neg h, List.mem_cons];constructor
  ·rintro (⟨h1, h2⟩ | h1)
   ·exact .inl ⟨.inr h1, h2⟩
   exact .inr h1
  rintro (⟨h1 | h1, h2⟩ | h1)
  ·omega
  ·exact .inl ⟨h1, h2⟩
  exact .inr h1
theorem pastFl_get {u : Unf} (ho : Ord u) (S : List Int) (f : Nat) : (pastFl u S).getD f false = true ↔ Rch u S f := by
 unfold pastFl;refine downE_rch ho _ _ (Nat.le_refl _) (mark0_len _ _) ?_ ?_ ?_ f
 ·intro f hf;rw [mark0_get] at hf;exact .base hf.1 hf.2
 ·intro e he hl;rw [mark0_get]; exact ⟨he, hl⟩
 intro e f c hk he;rw [mark0_get] at he; omega
theorem mem_past {u : Unf} (ho : Ord u) {S : List Int} {x : Int} : x ∈ pastI u S ↔ ∃ f : Nat, x = f ∧ Rch u S f := by
 unfold pastI flagL;rw [List.mem_map];constructor
 ·rintro ⟨k, hk, rfl⟩;exact ⟨k, rfl, (pastFl_get ho S k).1 (List.mem_filter.1 hk).2⟩
 rintro ⟨k, rfl, hk⟩;exact ⟨k, List.mem_filter.2 ⟨List.mem_range.2 (hk.lt ho), (pastFl_get ho S k).2 hk⟩, rfl⟩
theorem past_nodup (u : Unf) (S : List Int) : (pastI u S).Nodup := by
 unfold pastI flagL;rw [List.Nodup, List.pairwise_map];refine ((List.nodup_range (n := u.es.length)).filter _).imp ?_;intro a b h;omega
theorem filter_range_le {p : Nat → Bool} {n m : Nat} (hnm : n ≤ m) (h : ∀ i, p i = true → i < n) : (List.range m).filter p = (List.range n).filter p := by
 obtain ⟨d, rfl⟩ : ∃ d, m = n + d := ⟨m - n, by omega⟩;rw [List.range_add, List.filter_append]
 have : ((List.range d).map (n + ·)).filter p = [] := by
  rw [List.filter_eq_nil_iff];intro a ha hp;obtain ⟨i, _, rfl⟩ := List.mem_map.1 ha;have := h _ hp;omega
 rw [this, List.append_nil]
theorem list_past {u : Unf} (ho : Ord u) (hn : u.es.length ≤ 64) {s : ES} {S : List Int} (h : ∀ f, s.getLsbD f = true ↔ Rch u S f) : listI s = pastI u S := by
 unfold listI listK pastI flagL;rw [filter_range_le hn (fun i hi => ((h i).1 hi).lt ho)];congr 1;refine List.filter_congr fun i _ => ?_
 have := h i;rw [← pastFl_get ho] at this;cases h1 : s.getLsbD i <;> cases h2 : (pastFl u S).getD i false <;> simp_all
structure Tru (u : Unf) (L A : List ES) : Prop where
 w : WB u L A
 o : Ord u
 d : ∀ e, e ∈ u.es → e.pre.Nodup
 l : ∀ e, e < u.es.length → ∀ f, (L.getD e 0).getLsbD f = true ↔ Rch u [(e : Int)] f
 a : ∀ e, e < u.es.length → ∀ f, (A.getD e 0).getLsbD f = true ↔ (f < u.es.length ∧ e ≠ f ∧ shareI (evAt u (e : Int)) (evAt u (f : Int)) = true)
theorem rch_neg {u : Unf} {x : Int} (hx : x < 0) {f : Nat} : ¬ Rch u [x] f := by
 intro h
 induction h with
 | base h _ => have := List.mem_singleton.1 h; omega
 | step _ _ _ ih => exact ih
theorem prod_bit {u : Unf} {L A : List ES} (hT : Tru u L A) {c : Int} (h0 : 0 ≤ c) (hc : c < u.cs.length) (f : Nat) : (prodI u L c).getLsbD f = true ↔ Rch u [(cAt u c).by_] f := by
 obtain ⟨i, rfl⟩ : ∃ i : Nat, c = i := ⟨c.toNat, by omega⟩;have hb := hT.w.w.b _ (List.getElem_mem (show i < u.cs.length by omega));rw [← cAt_nat] at hb;unfold prodI
 by_cases h : 0 ≤ (cAt u (i : Int)).by_
 ·obtain ⟨j, hj⟩ : ∃ j : Nat, (cAt u (i : Int)).by_ = j := ⟨(cAt u (i : Int)).by_.toNat, by omega⟩;rw [if_pos h, hj, Int.toNat_natCast];exact hT.l j (by omega) f
 rw [if_neg h];constructor
 ·intro h; simp at h
 intro h2; exact absurd h2 (rch_neg (by omega))
theorem fold_bit {u : Unf} {L : List ES} (f : Nat) : ∀ (l : List Int) (a : ES), (l.foldl (fun a c => a ||| prodI u L c) a).getLsbD f = true ↔ (a.getLsbD f = true ∨ ∃ c, c ∈ l ∧ (prodI u L c).getLsbD f = true)
 | [], a => by simp
 | c :: l, a => by
  rw [List.foldl_cons, fold_bit f l, BitVec.getLsbD_or, Bool.or_eq_true];simp [or_assoc]
theorem all_bit {u : Unf} {L A : List ES} (hT : Tru u L A) {l : List Int} (hin : ∀ c, c ∈ l → 0 ≤ c ∧ c < u.cs.length) (f : Nat) : (allB u L l).getLsbD f = true ↔ Rch u (byL u l) f := by
 unfold allB;rw [fold_bit];constructor
 ·rintro (h | ⟨c, hc, h⟩)
  ·simp at h
  have := (prod_bit hT (hin c hc).1 (hin c hc).2 f).1 h;exact this.mono fun s hs _ => by rw [List.mem_singleton] at hs; rw [hs]; exact List.mem_map.2 ⟨c, hc, rfl⟩
 intro h;obtain ⟨s, hs, hr⟩ := h.one;obtain ⟨c, hc, rfl⟩ := List.mem_map.1 hs;exact .inr ⟨c, hc, (prod_bit hT (hin c hc).1 (hin c hc).2 f).2 hr⟩
theorem uses_has (u : Unf) (c e : Int) : usesAt u c e = hasI (evAt u e) c := by
 unfold usesAt hasI;congr 1
 funext x
 exact decide_eq_decide.2 eq_comm
theorem cons_used {u : Unf} (ho : Ord u) (hn : u.es.length ≤ 64) {s : ES} {S : List Int} (h : ∀ f, s.getLsbD f = true ↔ Rch u S f) (c : Int) : consI u s c = usedI u (pastI u S) c := by
 unfold consI usedI;rw [list_past ho hn h];congr 1
 funext e
 exact uses_has u c e
theorem share_iff {a b : List Int} : shareI a b = true ↔ ∃ x, x ∈ a ∧ x ∈ b := by
 unfold shareI;rw [List.any_eq_true];constructor
 ·rintro ⟨x, hx, h⟩;obtain ⟨y, hy, e⟩ := List.any_eq_true.1 h;have := of_decide_eq_true e; subst this;exact ⟨x, hx, hy⟩
 rintro ⟨x, hx, hy⟩;exact ⟨x, hx, List.any_eq_true.2 ⟨x, hy, by simp⟩⟩
theorem share_symm {a b : List Int} (h : shareI a b = true) : shareI b a = true := by
 rw [share_iff] at h ⊢;obtain ⟨x, h1, h2⟩ := h;exact ⟨x, h2, h1⟩
theorem and_ne {n : Nat} (x y : BitVec n) : (!decide ((((x &&& y).toNat : Nat) : Int) = 0)) = true ↔ ∃ f, x.getLsbD f = true ∧ y.getLsbD f = true := by
 rw [Bool.not_eq_true', decide_eq_false_iff_not];constructor
 ·intro h;have hx : ¬ (x &&& y) = 0 := by intro e; rw [e] at h; simp at h
  apply Classical.byContradiction
  intro hn
  apply hx
  apply BitVec.eq_of_getLsbD_eq
  intro i hi;rw [BitVec.getLsbD_and];rw [show (0 : BitVec n).getLsbD i = false from BitVec.getLsbD_zero];cases h1 : x.getLsbD i <;> cases h2 : y.getLsbD i <;> first | rfl | exact absurd ⟨i, h1, h2⟩ hn
 rintro ⟨f, h1, h2⟩ e;have : (x &&& y).getLsbD f = true := by rw [BitVec.getLsbD_and, h1, h2]; rfl
 have e2 : (x &&& y) = 0 := by apply BitVec.eq_of_toNat_eq; simpa using e
 rw [e2] at this;simp at this
theorem clash_iff {u : Unf} {L A : List ES} (hT : Tru u L A) {s : ES} (hs : subU s u.es.length) : clashI A s = true ↔ ∃ e f, s.getLsbD e = true ∧ s.getLsbD f = true ∧ e ≠ f ∧ shareI (evAt u (e : Int)) (evAt u (f : Int)) = true := by
 unfold clashI;rw [List.any_eq_true];constructor
 ·rintro ⟨x, hx, h⟩;obtain ⟨e, rfl, he⟩ := mem_listI.1 hx;unfold clashAt at h;rw [Int.toNat_natCast, and_ne] at h;obtain ⟨f, h1, h2⟩ := h;have := (hT.a e (hs e he) f).1 h1;exact ⟨e, f, he, h2, this.2.1, this.2.2⟩
 rintro ⟨e, f, he, hf, hne, hsh⟩;refine ⟨e, mem_listI.2 ⟨e, rfl, he⟩, ?_⟩;unfold clashAt;rw [Int.toNat_natCast, and_ne];exact ⟨f, (hT.a e (hs e he) f).2 ⟨hs f hf, hne, hsh⟩, hf⟩
theorem freeF_iff : ∀ (l : List Int) (fl : List Bool), (∀ c, c ∈ l → 0 ≤ c ∧ c < fl.length) → (freeF fl l = true ↔ (l.Nodup ∧ ∀ c, c ∈ l → fl.getD c.toNat false = false))
 | [], fl, _ => by simp [freeF]
 | c :: l, fl, hin => by
  have hc := hin c List.mem_cons_self;rw [freeF]
  by_cases h : fl.getD c.toNat false = true
  ·rw [if_pos h];constructor
   ·intro h2; cases h2
   rintro ⟨_, h2⟩; rw [h2 c List.mem_cons_self] at h; cases h
  rw [if_neg h, freeF_iff l _ (fun c' hc' => by rw [List.length_set]; exact hin c' (List.mem_cons_of_mem _ hc')), List.nodup_cons];rw [Bool.not_eq_true] at h;constructor
  ·rintro ⟨h1, h2⟩
   have h3 : ∀ c', c' ∈ l → ¬ c' = c ∧ fl.getD c'.toNat false = false := by
    intro c' hc';have := h2 c' hc';rw [getD_setB, Bool.or_eq_false_iff, Bool.and_eq_false_iff] at this;refine ⟨fun e => ?_, this.2⟩;subst e;rcases this.1 with q | q
    ·simp at q
    have := of_decide_eq_false q; omega
   exact ⟨⟨fun hm => (h3 c hm).1 rfl, h1⟩, fun c' hc' => by rcases List.mem_cons.1 hc' with rfl | hc'; exact h; exact (h3 c' hc').2⟩
  rintro ⟨⟨h1, h2⟩, h3⟩;refine ⟨h2, fun c' hc' => ?_⟩;have hc2 := hin c' (List.mem_cons_of_mem _ hc');rw [getD_setB, h3 c' (List.mem_cons_of_mem _ hc'), Bool.or_false, Bool.and_eq_false_iff];left
  apply decide_eq_false
  intro e
  apply h1
  have : c' = c := by omega
  rw [← this]; exact hc'
theorem free_iff {u : Unf} (hw : WF u) (hd : ∀ e, e ∈ u.es → e.pre.Nodup) {l : List Int} (hl : l.Nodup) (hin : ∀ e, e ∈ l → 0 ≤ e ∧ e < u.es.length) : freeI u l = true ↔ ∀ e f, e ∈ l → f ∈ l → e ≠ f → shareI (evAt u e) (evAt u f) = false := by
 have hmem : ∀ e : Int, 0 ≤ e ∧ e < u.es.length → ∃ x, x ∈ u.es ∧ evAt u e = x.pre := by
  intro e he;obtain ⟨i, rfl⟩ : ∃ i : Nat, e = i := ⟨e.toNat, by omega⟩;have hi : i < u.es.length := by omega
  exact ⟨_, List.getElem_mem hi, evAt_nat hi⟩
 unfold freeI;rw [freeF_iff]
 rotate_left
 ·intro c hc;obtain ⟨e, he, hc⟩ := List.mem_flatMap.1 hc;obtain ⟨x, hx, e2⟩ := hmem e (hin e he);rw [e2] at hc;rw [List.length_replicate];exact hw.p x hx c hc
 have h0 : (∀ c, c ∈ l.flatMap (evAt u) → (List.replicate u.cs.length false).getD c.toNat false = false) ↔ True := ⟨fun _ => trivial, fun _ c _ => getD_rep _ _⟩;rw [h0, and_true, List.Nodup, List.pairwise_flatMap];constructor
 ·rintro ⟨_, h⟩ e f he hf hne;obtain ⟨i, hi, rfl⟩ := List.getElem_of_mem he;obtain ⟨j, hj, rfl⟩ := List.getElem_of_mem hf;rw [List.pairwise_iff_getElem] at h;rw [← Bool.not_eq_true];intro hs;obtain ⟨x, hx, hy⟩ := share_iff.1 hs;rcases Nat.lt_trichotomy i j with hij | hij | hij
  ·exact h i j hi hj hij x hx x hy rfl
  ·subst hij; exact hne rfl
  exact h j i hj hi hij x hy x hx rfl
 intro h;refine ⟨fun e he => ?_, ?_⟩
 ·obtain ⟨x, hx, e2⟩ := hmem e (hin e he);rw [e2]; exact hd x hx
 refine List.Pairwise.imp_of_mem ?_ hl;intro e f he hf hne x hx y hy exy;subst exy;have := h e f he hf hne;rw [← Bool.not_eq_true] at this;exact this (share_iff.2 ⟨x, hx, hy⟩)
theorem past_in {u : Unf} (S : List Int) : ∀ e, e ∈ pastI u S → 0 ≤ e ∧ e < u.es.length := fun e he => flagL_mem he
theorem clash_free {u : Unf} {L A : List ES} (hT : Tru u L A) {s : ES} {S : List Int} (h : ∀ f, s.getLsbD f = true ↔ Rch u S f) : clashI A s = !freeI u (pastI u S) := by
 have h1 := clash_iff hT (s := s) (fun e he => ((h e).1 he).lt hT.o);have h2 := free_iff hT.w.w hT.d (past_nodup u S) (past_in S)
 have h3 : clashI A s = true ↔ ¬ freeI u (pastI u S) = true := by
  rw [h1, h2];constructor
  ·rintro ⟨e, f, he, hf, hne, hsh⟩ hall;have := hall e f ((mem_past hT.o).2 ⟨e, rfl, (h e).1 he⟩) ((mem_past hT.o).2 ⟨f, rfl, (h f).1 hf⟩) (by omega);rw [this] at hsh; cases hsh
  intro hn
  apply Classical.byContradiction
  intro hno
  apply hn
  intro e f he hf hne;obtain ⟨e, rfl, he2⟩ := (mem_past hT.o).1 he;obtain ⟨f, rfl, hf2⟩ := (mem_past hT.o).1 hf;rw [← Bool.not_eq_true];intro hsh;exact hno ⟨e, f, (h e).2 he2, (h f).2 hf2, by omega, hsh⟩
 cases hc : clashI A s <;> cases hf : freeI u (pastI u S) <;> simp_all
theorem coset_tog {u : Unf} {L A : List ES} (hT : Tru u L A) {l : List Int} (hin : ∀ c, c ∈ l → 0 ≤ c ∧ c < u.cs.length) (hn : l.Nodup) : cosetI u L A l = togI u l := by
 unfold cosetI togI;have hb := all_bit hT hin;rw [decide_eq_true hn, Bool.true_and, clash_free hT hb, Bool.not_not, Bool.and_comm];congr 1;rw [List.not_any_eq_all_not];congr 1
 funext c
 rw [cons_used hT.o hT.w.e hb]
theorem evAt_old {N : Net} {u : Unf} {h : Ev} {e : Nat} (he : e < u.es.length) : evAt (withI N u h) (e : Int) = evAt u (e : Int) := by
 unfold evAt;rw [Int.toNat_natCast, List.getD_eq_getElem?_getD, List.getD_eq_getElem?_getD];show ((u.es ++ [h])[e]?.getD _).pre = _;rw [List.getElem?_append_left he]
theorem evAt_new {N : Net} {u : Unf} {h : Ev} : evAt (withI N u h) (u.es.length : Int) = h.pre := by
 unfold evAt;rw [Int.toNat_natCast, List.getD_eq_getElem?_getD];show ((u.es ++ [h])[u.es.length]?.getD _).pre = _;rw [List.getElem?_append_right (Nat.le_refl _), Nat.sub_self]; rfl
theorem cAt_old {N : Net} {u : Unf} {h : Ev} {c : Int} (h0 : 0 ≤ c) (hc : c < u.cs.length) : cAt (withI N u h) c = cAt u c := by
 unfold cAt;rw [List.getD_eq_getElem?_getD, List.getD_eq_getElem?_getD];show ((u.cs ++ _)[c.toNat]?.getD _) = _;rw [List.getElem?_append_left (by omega)]
theorem es_len {N : Net} {u : Unf} {h : Ev} : (withI N u h).es.length = u.es.length + 1 := by show (u.es ++ [h]).length = _; rw [List.length_append]; rfl
theorem evAt_in {u : Unf} (hw : WF u) {e : Nat} (he : e < u.es.length) : ∀ c, c ∈ evAt u (e : Int) → 0 ≤ c ∧ c < u.cs.length := by
 rw [evAt_nat he]; exact hw.p _ (List.getElem_mem he)
theorem rch_old {N : Net} {u : Unf} {h : Ev} (hw : WF u) (ho : Ord u) {S : List Int} (hS : ∀ s, s ∈ S → s < u.es.length) {f : Nat} : Rch (withI N u h) S f ↔ Rch u S f := by
 constructor
 ·intro hr
  induction hr with
  | base h1 h2 => exact .base h1 (by have := hS _ h1; omega)
  | step _ hc hb ih =>
   have hl := ih.lt ho;rw [evAt_old hl] at hc;have hi := evAt_in hw hl _ hc;rw [cAt_old hi.1 hi.2] at hb;exact ih.step hc hb
 intro hr
 induction hr with
 | base h1 h2 => exact .base h1 (by rw [es_len]; omega)
 | step h1 hc hb ih =>
  have hl := h1.lt ho;have hi := evAt_in hw hl _ hc;exact ih.step (by rw [evAt_old hl]; exact hc) (by rw [cAt_old hi.1 hi.2]; exact hb)
theorem rch_new {N : Net} {u : Unf} {h : Ev} (hw : WF u) (ho : Ord u) (hin : ∀ c, c ∈ h.pre → 0 ≤ c ∧ c < u.cs.length) {f : Nat} : Rch (withI N u h) [(u.es.length : Int)] f ↔ (f = u.es.length ∨ Rch u (byL u h.pre) f) := by
 have hby : ∀ c : Int, 0 ≤ c ∧ c < u.cs.length → (cAt u c).by_ < u.es.length := by
  intro c hc;obtain ⟨i, rfl⟩ : ∃ i : Nat, c = i := ⟨c.toNat, by omega⟩;have hi : i < u.cs.length := by omega
  rw [cAt_nat hi]; exact (hw.b _ (List.getElem_mem hi)).2
 constructor
 ·intro hr
  induction hr with
  | base h1 h2 => have := List.mem_singleton.1 h1; exact .inl (by omega)
  | @step e f c _ hc hb ih =>
   right;rcases ih with ih | ih
   ·subst ih;rw [evAt_new] at hc;have hi := hin _ hc;rw [cAt_old hi.1 hi.2] at hb;have := hby c hi;exact .base (List.mem_map.2 ⟨c, hc, hb⟩) (by omega)
   have hl := ih.lt ho;rw [evAt_old hl] at hc;have hi := evAt_in hw hl _ hc;rw [cAt_old hi.1 hi.2] at hb;exact ih.step hc hb
 rintro (rfl | hr)
 ·exact .base (List.mem_singleton.2 rfl) (by rw [es_len]; omega)
 have h0 : Rch (withI N u h) [(u.es.length : Int)] u.es.length := .base (List.mem_singleton.2 rfl) (by rw [es_len]; omega)
 induction hr with
 | base h1 h2 =>
  obtain ⟨c, hc, hb⟩ := List.mem_map.1 h1;have hi := hin _ hc;exact h0.step (by rw [evAt_new]; exact hc) (by rw [cAt_old hi.1 hi.2]; exact hb)
 | step h1 hc hb ih =>
  have hl := h1.lt ho;have hi := evAt_in hw hl _ hc;exact ih.step (by rw [evAt_old hl]; exact hc) (by rw [cAt_old hi.1 hi.2]; exact hb)
theorem bitU_get {k f : Nat} (hk : k < 64) : (bitU k).getLsbD f = decide (f = k) := by
 unfold bitU;rw [BitVec.getLsbD_twoPow]
 by_cases h : k = f
 ·subst h; simp [hk]
 rw [decide_eq_false h, Bool.and_false, decide_eq_false (fun e => h e.symm)]
theorem getD_app_l {α : Type} {L : List α} {x d : α} {e : Nat} (h : e < L.length) : (L ++ [x]).getD e d = L.getD e d := by
 rw [List.getD_eq_getElem?_getD, List.getD_eq_getElem?_getD, List.getElem?_append_left h]
theorem getD_app_r {α : Type} {L : List α} {x d : α} {e : Nat} (h : e = L.length) : (L ++ [x]).getD e d = x := by
 subst h;rw [List.getD_eq_getElem?_getD, List.getElem?_append_right (Nat.le_refl _), Nat.sub_self]; rfl
theorem agK_bit (u : Unf) (h : Ev) (f : Nat) : ∀ k, k ≤ 64 → ((agK u h k).getLsbD f = true ↔ (f < k ∧ shareI (evAt u (f : Int)) h.pre = true))
 | 0, _ => by simp [agK]
 | k + 1, hk => by
  rw [agK];have ih := agK_bit u h f k (by omega)
  split
  ·rename_i hs;rw [BitVec.getLsbD_or, Bool.or_eq_true, bitU_get (by omega), decide_eq_true_eq, ih];constructor
   ·rintro (⟨h1, h2⟩ | h1)
    ·exact ⟨by omega, h2⟩
    subst h1; exact ⟨by omega, hs⟩
   rintro ⟨h1, h2⟩
   by_cases e : f = k
   ·exact .inr e
   exact .inl ⟨by omega, h2⟩
  rename_i hs;rw [ih];constructor
  ·rintro ⟨h1, h2⟩; exact ⟨by omega, h2⟩
  rintro ⟨h1, h2⟩;refine ⟨?_, h2⟩
  by_cases e : f = k
  ·subst e; exact absurd h2 hs
  omega
theorem agA_at (u : Unf) (h : Ev) (A : List ES) (e : Nat) (he : e < A.length) : ∀ k, (agA u h A k).getD e 0 = if e < k ∧ shareI (evAt u (e : Int)) h.pre = true then A.getD e 0 ||| bitU u.es.length else A.getD e 0
 | 0 => by rw [agA, if_neg (by omega)]
 | k + 1 => by
  rw [agA];have ih := agA_at u h A e he k
  split
  ·rename_i hs;rw [List.getD_eq_getElem?_getD, List.getElem?_set]
   by_cases hke : k = e
   ·subst hke;rw [if_pos rfl, if_pos (by rw [agA_len]; exact he), if_pos ⟨by omega, hs⟩]; rfl
   rw [if_neg hke, ← List.getD_eq_getElem?_getD, ih]
   by_cases h2 : e < k ∧ shareI (evAt u (e : Int)) h.pre = true
   ·rw [if_pos h2, if_pos ⟨by omega, h2.2⟩]
   rw [if_neg h2, if_neg (fun h3 => h2 ⟨by omega, h3.2⟩)]
  rename_i hs;rw [ih]
  by_cases h2 : e < k ∧ shareI (evAt u (e : Int)) h.pre = true
  ·rw [if_pos h2, if_pos ⟨by omega, h2.2⟩]
  rw [if_neg h2, if_neg (fun h3 => h2 ⟨by
   by_cases e2 : e = k
   ·subst e2; exact absurd h3.2 hs
   omega, h3.2⟩)]
theorem Tru.zero {N : Net} (hN : NetS N) (m : List UInt8) : Tru ⟨madeI N m, []⟩ [] [] :=
 ⟨⟨(Now.zero hN m).w, Nat.zero_le _, rfl, rfl, fun x hx => absurd hx List.not_mem_nil⟩, fun e c he => absurd he (Nat.not_lt_zero _), fun e he => absurd he List.not_mem_nil, fun e he => absurd he (Nat.not_lt_zero _), fun e he => absurd he (Nat.not_lt_zero _)⟩
theorem Tru.add {N : Net} {u : Unf} {L A : List ES} {h : Ev} (hT : Tru u L A) (hw' : WF (withI N u h)) (he : u.es.length < 64) (hin : ∀ c, c ∈ h.pre → 0 ≤ c ∧ c < u.cs.length) (hnd : h.pre.Nodup) : Tru (withI N u h) (addL u L h) (addA u A h) := by
 have hw := hT.w.w;have hLl := hT.w.l;have hAl := hT.w.a;have hel := es_len (N := N) (u := u) (h := h)
 have hby : ∀ c : Int, 0 ≤ c ∧ c < u.cs.length → (cAt u c).by_ < u.es.length := by
  intro c hc;obtain ⟨i, rfl⟩ : ∃ i : Nat, c = i := ⟨c.toNat, by omega⟩;have hi : i < u.cs.length := by omega
  rw [cAt_nat hi]; exact (hw.b _ (List.getElem_mem hi)).2
 have hO : Ord (withI N u h) := by
  intro e c he' hc;rw [hel] at he'
  by_cases h1 : e < u.es.length
  ·rw [evAt_old h1] at hc;have hi := evAt_in hw h1 _ hc;rw [cAt_old hi.1 hi.2];exact hT.o e c h1 hc
  have : e = u.es.length := by omega
  subst this;rw [evAt_new] at hc;have hi := hin _ hc;rw [cAt_old hi.1 hi.2];exact hby c hi
 have hLb : ∀ e, e < (withI N u h).es.length → ∀ f, ((addL u L h).getD e 0).getLsbD f = true ↔ Rch (withI N u h) [(e : Int)] f := by
  intro e he' f;rw [hel] at he';unfold addL
  by_cases h1 : e < u.es.length
  ·rw [getD_app_l (by omega), rch_old hw hT.o (fun s hs => by rw [List.mem_singleton] at hs; omega)];exact hT.l e h1 f
  have : e = u.es.length := by omega
  subst this;rw [getD_app_r (by omega), rch_new hw hT.o hin, BitVec.getLsbD_or, Bool.or_eq_true, bitU_get he, decide_eq_true_eq, all_bit hT hin, or_comm]
 have hAb : ∀ e, e < (withI N u h).es.length → ∀ f, ((addA u A h).getD e 0).getLsbD f = true ↔ (f < (withI N u h).es.length ∧ e ≠ f ∧ shareI (evAt (withI N u h) (e : Int)) (evAt (withI N u h) (f : Int)) = true) := by
  intro e he' f;rw [hel] at he' ⊢;unfold addA
  by_cases h1 : e < u.es.length
  ·rw [getD_app_l (by rw [agA_len]; omega), agA_at u h A e (by omega), evAt_old h1];have ha := hT.a e h1 f
   by_cases h2 : e < u.es.length ∧ shareI (evAt u (e : Int)) h.pre = true
   ·rw [if_pos h2, BitVec.getLsbD_or, Bool.or_eq_true, bitU_get he, decide_eq_true_eq, ha];constructor
    ·rintro (⟨q1, q2, q3⟩ | rfl)
     ·exact ⟨by omega, q2, by rw [evAt_old q1]; exact q3⟩
     exact ⟨by omega, by omega, by rw [evAt_new]; exact h2.2⟩
    rintro ⟨q1, q2, q3⟩
    by_cases q : f = u.es.length
    ·exact .inr q
    have q1' : f < u.es.length := by omega
    rw [evAt_old q1'] at q3;exact .inl ⟨q1', q2, q3⟩
   rw [if_neg h2, ha];constructor
   ·rintro ⟨q1, q2, q3⟩;exact ⟨by omega, q2, by rw [evAt_old q1]; exact q3⟩
   rintro ⟨q1, q2, q3⟩
   by_cases q : f = u.es.length
   ·subst q; rw [evAt_new] at q3; exact absurd ⟨h1, q3⟩ h2
   have q1' : f < u.es.length := by omega
   rw [evAt_old q1'] at q3;exact ⟨q1', q2, q3⟩
  have : e = u.es.length := by omega
  subst this;rw [getD_app_r (by rw [agA_len]; omega), agK_bit u h f _ (by omega), evAt_new];constructor
  ·rintro ⟨q1, q2⟩;exact ⟨by omega, by omega, by rw [evAt_old q1]; exact share_symm q2⟩
  rintro ⟨q1, q2, q3⟩;have q1' : f < u.es.length := by omega
  rw [evAt_old q1'] at q3;exact ⟨q1', share_symm q3⟩
 refine ⟨⟨hw', by omega, ?_, ?_, ?_⟩, hO, ?_, hLb, hAb⟩
 ·unfold addL; rw [List.length_append, hel, hLl]; rfl
 ·unfold addA; rw [List.length_append, agA_len, hel, hAl]; rfl
 ·intro x hx f hf;obtain ⟨i, hi, rfl⟩ := List.getElem_of_mem hx
  have hi' : i < (withI N u h).es.length := by
   have : (addL u L h).length = u.es.length + 1 := by unfold addL; rw [List.length_append, hLl]; rfl
   omega
  have := (hLb i hi' f).1 (by rw [List.getD_eq_getElem?_getD, List.getElem?_eq_getElem hi]; exact hf);exact this.lt hO
 intro e he';rcases List.mem_append.1 he' with h1 | h1
 ·exact hT.d e h1
 rw [List.mem_singleton] at h1; subst h1; exact hnd
def srtd (l : List Int) : Prop := l.Pairwise (fun a b => a < b)
theorem srtd_ext : ∀ {a b : List Int}, srtd a → srtd b → (∀ x, x ∈ a ↔ x ∈ b) → a = b
 | [], [], _, _, _ => rfl
 | [], y :: b, _, _, h => by have := (h y).2 List.mem_cons_self; cases this
 | x :: a, [], _, _, h => by have := (h x).1 List.mem_cons_self; cases this
 | x :: a, y :: b, ha, hb, h => by
  have ha' := List.pairwise_cons.1 ha;have hb' := List.pairwise_cons.1 hb
  have hxy : x = y := by
   rcases List.mem_cons.1 ((h x).1 List.mem_cons_self) with e | e
   ·exact e
   rcases List.mem_cons.1 ((h y).2 List.mem_cons_self) with e2 | e2
   ·exact e2.symm
   have := hb'.1 x e;have := ha'.1 y e2;omega
  subst hxy;congr 1;refine srtd_ext ha'.2 hb'.2 fun z => ?_
  have hz := h z;rw [List.mem_cons, List.mem_cons] at hz;constructor
  ·intro q;rcases hz.1 (.inr q) with e | e
   ·subst e; have := ha'.1 _ q; omega
   exact e
  intro q;rcases hz.2 (.inr q) with e | e
  ·subst e; have := hb'.1 _ q; omega
  exact e
theorem findIdx_le {l : List Int} {x : Int} {i : Nat} (hi : i < l.findIdx (fun y => decide (x ≤ y))) (hl : i < l.length) : l[i] < x := by
 have := List.not_of_lt_findIdx hi;simp only [decide_eq_true_eq, decide_eq_false_iff_not, Bool.not_eq_true] at this;omega
theorem putI_srtd {l : List Int} (h : srtd l) (x : Int) : srtd (putI l x) ∧ ∀ y, y ∈ putI l x ↔ (y ∈ l ∨ y = x) := by
 unfold putI;obtain ⟨k, hk⟩ := eqx (l.findIdx (fun y => decide (x ≤ y)));rw [← hk]
 by_cases he : l[k]? = some x
 ·rw [if_pos he];refine ⟨h, fun y => ⟨.inl, ?_⟩⟩;rintro (q | rfl)
  ·exact q
  exact List.mem_of_getElem? he
 rw [if_neg he];have hlow : ∀ i (hi : i < l.length), i < k → l[i] < x := fun i hi hik => findIdx_le (by omega) hi
 have hhigh : ∀ i (hi : i < l.length), k ≤ i → x < l[i] := by
  intro i hi hki;have hkl : k < l.length := by omega
  have h1 : x ≤ l[k] := by
   have := List.findIdx_getElem (w := show l.findIdx (fun y => decide (x ≤ y)) < l.length by omega);have := of_decide_eq_true this;simpa only [← hk] using this
  have h2 : l[k] ≠ x := fun e => he (by rw [List.getElem?_eq_getElem hkl, e])
  by_cases e : k = i
  ·subst e; omega
  have := (List.pairwise_iff_getElem.1 h) k i hkl hi (by omega);omega
 refine ⟨?_, ?_⟩
 ·unfold srtd;rw [List.pairwise_append, List.pairwise_append];refine ⟨⟨List.Pairwise.sublist (List.take_sublist _ _) h, List.pairwise_singleton _ _, ?_⟩, List.Pairwise.sublist (List.drop_sublist _ _) h, ?_⟩
  ·intro a ha b hb;rw [List.mem_singleton] at hb; subst hb;obtain ⟨i, hi, rfl⟩ := List.mem_take_iff_getElem.1 ha;exact hlow i (by omega) (by omega)
  intro a ha b hb;obtain ⟨j, hj, rfl⟩ := List.mem_drop_iff_getElem.1 hb;have h2 := hhigh (k + j) (by omega) (by omega);rcases List.mem_append.1 ha with ha | ha
  ·obtain ⟨i, hi, rfl⟩ := List.mem_take_iff_getElem.1 ha;have := hlow i (by omega) (by omega);omega
  rw [List.mem_singleton] at ha; subst ha; exact h2
 intro y;have : y ∈ l ↔ (y ∈ l.take k ∨ y ∈ l.drop k) := by rw [← List.mem_append, List.take_append_drop]
 rw [this, List.mem_append, List.mem_append, List.mem_singleton];constructor
 ·rintro ((q | q) | q)
  ·exact .inl (.inl q)
  ·exact .inr q
  exact .inl (.inr q)
 rintro ((q | q) | q)
 ·exact .inl (.inl q)
 ·exact .inr q
 exact .inl (.inr q)
def setP (l : List Int) : List Int := l.foldl putI []
theorem setF_srtd : ∀ (l a : List Int), srtd a → srtd (l.foldl putI a) ∧ ∀ y, y ∈ l.foldl putI a ↔ (y ∈ a ∨ y ∈ l)
 | [], a, h => ⟨h, fun y => by simp⟩
 | x :: l, a, h => by
  have h1 := putI_srtd h x;have h2 := setF_srtd l (putI a x) h1.1;refine ⟨h2.1, fun y => ?_⟩;rw [List.foldl_cons, h2.2 y, h1.2 y, List.mem_cons, or_assoc]
theorem setP_srtd (l : List Int) : srtd (setP l) ∧ ∀ y, y ∈ setP l ↔ y ∈ l := by
 have := setF_srtd l [] List.Pairwise.nil;exact ⟨this.1, fun y => by rw [setP, this.2 y]; simp⟩
theorem places_set (u : Unf) (l : List Int) : placesI u l = setP (plK u l) := by
 unfold placesI setP plK;rw [List.foldl_map]
theorem sort_perm (l : List Int) : (sortI l).Perm l := List.mergeSort_perm _ _
theorem sort_le (l : List Int) : (sortI l).Pairwise (fun a b => a ≤ b) := by
 have := List.pairwise_mergeSort (le := fun x y : Int => decide (x ≤ y)) (fun a b c h1 h2 => by have := of_decide_eq_true h1; have := of_decide_eq_true h2; exact decide_eq_true (by omega)) (fun a b => by
  by_cases h : a ≤ b
  ·simp [h]
  simp [h, show b ≤ a by omega]) l
 exact this.imp fun h => of_decide_eq_true h
theorem rising_srtd {l : List Int} {lo hi : Int} (h : rising l lo hi = true) : srtd l := by
 rw [srtd, List.pairwise_iff_getElem];intro i j hi hj hij;exact rise_lt h j i hj hij
theorem srtd_nodup {l : List Int} (h : srtd l) : l.Nodup := h.imp fun q => by omega
theorem nodup_len : ∀ (l s : List Int), s.Nodup → (∀ x, x ∈ s → x ∈ l) → s.length ≤ l.length
 | [], s, _, h => by
  cases s with
  | nil => exact Nat.le_refl _
  | cons x s => have := h x List.mem_cons_self; cases this
 | a :: l, s, hs, h => by
  by_cases ha : a ∈ s
  ·have := nodup_len l (s.erase a) (hs.erase a) (fun x hx => by
    have hx' := (hs.mem_erase_iff).1 hx;rcases List.mem_cons.1 (h x hx'.2) with e | e
    ·exact absurd e hx'.1
    exact e)
   rw [List.length_erase_of_mem ha] at this;rw [List.length_cons]; omega
  have := nodup_len l s hs (fun x hx => by
   rcases List.mem_cons.1 (h x hx) with e | e
   ·subst e; exact absurd hx ha
   exact e)
  rw [List.length_cons]; omega
theorem nodup_full : ∀ (l s : List Int), s.Nodup → (∀ x, x ∈ s → x ∈ l) → s.length = l.length → l.Nodup
 | [], s, _, _, _ => List.nodup_nil
 | a :: l, s, hs, h, hl => by
  rw [List.length_cons] at hl
  have hsub : a ∉ s ∨ a ∈ l → ∀ x, x ∈ s → x ∈ l := by
   intro q x hx;rcases List.mem_cons.1 (h x hx) with e | e
   ·subst e;rcases q with q | q
    ·exact absurd hx q
    exact q
   exact e
  have hno : ¬ (a ∉ s ∨ a ∈ l) := fun q => by have := nodup_len l s hs (hsub q); omega
  have ha : a ∈ s := Classical.byContradiction fun q => hno (.inl q)
  rw [List.nodup_cons];refine ⟨fun q => hno (.inr q), nodup_full l (s.erase a) (hs.erase a) (fun x hx => ?_) (by rw [List.length_erase_of_mem ha]; omega)⟩;have hx' := (hs.mem_erase_iff).1 hx;rcases List.mem_cons.1 (h x hx'.2) with e | e
  ·exact absurd e hx'.1
  exact e
theorem perm_len_nodup {l : List Int} (h : (setP l).length = l.length) : l.Nodup :=
 nodup_full l (setP l) (srtd_nodup (setP_srtd l).1) (fun x hx => ((setP_srtd l).2 x).1 hx) h
theorem sort_set {l p : List Int} (hp : srtd p) : sortI l = p ↔ (l.length = p.length ∧ setP l = p) := by
 have hs := setP_srtd l;constructor
 ·intro h;have hl : l.length = p.length := by rw [← h, sortI_len]
  refine ⟨hl, srtd_ext hs.1 hp fun x => ?_⟩;rw [hs.2 x, ← h];exact (sort_perm l).mem_iff.symm
 rintro ⟨hl, h⟩;have hn : l.Nodup := perm_len_nodup (by rw [h]; omega);have hsn : (sortI l).Nodup := (sort_perm l).nodup_iff.2 hn
 have hso : srtd (sortI l) := by
  have := (sort_le l).and hsn;exact this.imp fun ⟨h1, h2⟩ => by omega
 rw [← h];refine srtd_ext hso hs.1 fun x => ?_
 rw [hs.2 x]; exact (sort_perm l).mem_iff
theorem fits_both {N : Net} {u : Unf} {L A : List ES} {h : Ev} (hN : NetS N) (hT : Tru u L A) : fitsJ N u L A h = fitsI N u h := by
 unfold fitsJ fitsI fitA fitA1
 by_cases hr : inR N h.t = true
 ·by_cases hi : rising h.pre 0 ((u.cs.length : Int) - 1) = true
  ·have hin : ∀ c, c ∈ h.pre → 0 ≤ c ∧ c < u.cs.length := fun c hc => by have := rising_in hi c hc; omega
   have hco := coset_tog hT hin (srtd_nodup (rising_srtd hi));have hpr := rising_srtd (hN.t _ (tAt_mem hr)).2.2.2.1;have hss := sort_set (l := plK u h.pre) hpr;rw [plK_len, ← places_set] at hss;rw [hr, hi, hco, fitC, decide_eq_decide.2 hss]
   have : decide (h.pre.length = (tAt N h.t).pre.length ∧ placesI u h.pre = (tAt N h.t).pre) = (decide ((h.pre.length : Int) = ((tAt N h.t).pre.length : Int)) && decide (placesI u h.pre = (tAt N h.t).pre)) := by
    rw [← Bool.decide_and]; apply decide_eq_decide.2; constructor
    ·rintro ⟨a, b⟩; exact ⟨by omega, b⟩
    rintro ⟨a, b⟩; exact ⟨by omega, b⟩
   rw [this];cases decide ((h.pre.length : Int) = ((tAt N h.t).pre.length : Int)) <;> cases decide (placesI u h.pre = (tAt N h.t).pre) <;> cases fitB u h <;> cases togI u h.pre <;> rfl
  rw [Bool.not_eq_true] at hi;rw [hi]; cases inR N h.t <;> rfl
 rw [Bool.not_eq_true] at hr;rw [hr]; rfl
set_option maxHeartbeats 1000000 in
theorem eqConds_spec (a b : List Cond) (ha : a.length ≤ 2000000) (hb : b.length ≤ 2000000) : ASpec Tryz.prog 107 [.d (vCs a), .d (vCs b)] [] (Pure1 (aT (decide (a = b)))) := by
 refine ASpec.of Tryz.func107 rfl rfl fun C hC => ?_
 refine AC.seq (AC.region ?_);refine za ?_;refine AL.nil (th_n (AC.seq (AC.seq (AC.region ?_))));refine zm ?_;refine kH ?_;refine zm ?_;refine kH ?_;refine zc ?_;refine AL.nil (th_n ?_);refine AC.condND rfl (fun h0 => ?_) (fun h0 => ?_)
 ·refine AC.seq (AC.region ?_);refine za ?_;refine AL.nil (th_n (AC.ret (th_r (bq_r ?_))));have hz : ¬ a = b := fun e => by rw [e] at h0; simp at h0
  exact ret1 rfl (by rw [decide_eq_false hz])
 refine AC.skip (th_n (AC.seq (AC.seq (AC.region ?_))));refine zm ?_;refine kH ?_;refine zm ?_;refine AL.nil (th_n (AC.block ?_));refine AC.loop (ι := Nat) (fun k => ⟨26, 8, [(0, .d (vCs a)), (1, .d (vCs b)), (12, aI a.length), (13, aI k)], []⟩) (fun k => k ≤ a.length ∧ ∀ j, j < k → a[j]? = b[j]?) (fun k => a.length - k) (0) ?_ (⟨Nat.zero_le _, fun j hj => by omega⟩) ?_
 ·refine Weak.ren _ [] hC rfl ?_ ?_ rfl rfl rfl <;> repeat (first | exact True.intro | refine And.intro ?_ ?_ | exact DLead.same)
 intro q ⟨hq, hall⟩;refine AC.seq (AC.region ?_);refine zc ?_;refine AL.nil (th_n (AC.seq ?_));refine AC.condD rfl (fun h1 => ?_) (fun h1 => ?_)
 ·refine AC.skip (th_n (AC.seq (AC.block (AC.seq ?_))));have hlen : a.length = b.length := by omega
  have hq1 : q < a.length := by omega
  have hq2 : q < b.length := by omega
  have hgetn := condsL_get hq1;have hgetu := condsL_get hq2;refine AC.region ?_;refine zm ?_;refine za ?_;refine AL.nil (th_n (AC.seq ?_));refine AC.drawn' mixed_ok [[], [], [0,1], [0,1,2], [], [], [4,5], [4,5,6], [0,1,2,3,4,5,6,7]] (by decide) ?_;refine zd 0 [] 9 (by exact mv1 rfl) ?_;refine zd 1 [] 9 (by exact mv1 rfl) ?_;refine zd 2 [0,1] 9 (by exact g_ia_view rfl rfl rfl rfl rfl (by rfl) (by assumption)) ?_;refine zd 3 [0,1,2] 9 (by exact g_load_refN rfl rfl rfl rfl) ?_;refine zd 4 [] 9 (by exact mv1 rfl) ?_;refine zd 5 [] 9 (by exact mv1 rfl) ?_;refine zd 6 [4,5] 9 (by exact g_ia_view rfl rfl rfl rfl rfl (by rfl) (by assumption)) ?_;refine zd 7 [4,5,6] 9 (by exact g_load_refN rfl rfl rfl rfl) ?_;refine zd 8 [0,1,2,3,4,5,6,7] 9 (by exact g_eq2 (by decide +kernel) rfl rfl rfl) ?_;refine zj 9 ?_;refine th_n ?_;refine AC.condND rfl (fun h2 => ?_) (fun h2 => ?_)
  ·refine AC.seq (AC.region ?_);refine za ?_;refine AL.nil (th_n (AC.ret (ib_r (th_r (th_r (ib_r (th_r (bq_r ?_))))))));exact ret1 rfl (by rw [decide_eq_false (cs_ne hq1 hq2 h2)])
  refine AC.skip (ib_n (th_n (AC.region ?_)));refine zA ?_;refine zm ?_;refine AL.nil (th_n ?_);exact ⟨q + 1, ⟨by omega, by exact cs_step hq1 hq2 hall h2⟩, by omega, Weak.ren _ [] hC rfl (by repeat (first | exact True.intro | refine And.intro ?_ ?_ | exact DLead.same)) (by repeat (exact True.intro)) rfl rfl rfl⟩
 refine AC.exit (th_e (th_e (ib_y (th_n (AC.seq (AC.region ?_))))));refine za ?_;refine AL.nil (th_n (AC.ret (bq_r ?_)));have hlen : a.length = b.length := by omega
 have hz : a = b := cs_all hlen (by omega) hall;exact ret1 rfl (by rw [decide_eq_true hz])
theorem en_eqConds : Enters Tryz.prog 107 := enters_of Tryz.func107 rfl rfl
def runLA (N : Net) : Unf → List ES → List ES → List Ev → List ES × List ES
 | _, L, A, [] => (L, A)
 | u, L, A, h :: hs => runLA N (withI N u h) (addL u L h) (addA u A h) hs
def locL (N : Net) (m : List UInt8) (u : Unf) : List ES := (runLA N ⟨madeI N m, []⟩ [] [] u.es).1
def agaA (N : Net) (m : List UInt8) (u : Unf) : List ES := (runLA N ⟨madeI N m, []⟩ [] [] u.es).2
def brRes (N : Net) (m : List UInt8) (u : Unf) : AV → List (Nat × Chunk) → Prop := if goodU N m u = true then Fun1 (.tup [.ptr 0 0, aT true]) (brChs N u (locL N m u) (agaA N m u)) else Pure1 (.tup [.dead, aT false])
theorem brRes_t {N : Net} {m : List UInt8} {u : Unf} (h : goodU N m u = true) : brRes N m u = Fun1 (.tup [.ptr 0 0, aT true]) (brChs N u (locL N m u) (agaA N m u)) := if_pos h
theorem brRes_f {N : Net} {m : List UInt8} {u : Unf} (h : goodU N m u = false) : brRes N m u = Pure1 (.tup [.dead, aT false]) := if_neg (by rw [h]; exact Bool.false_ne_true)
theorem run_es {N : Net} : ∀ {hs : List Ev} {u now : Unf}, runI N u hs = some now → now.es = u.es ++ hs
 | [], u, now, h => by rw [runI] at h; cases h; exact (List.append_nil _).symm
 | x :: hs, u, now, h => by
  rw [runI] at h
  split at h
  ·have := run_es h;rw [this]; show (u.es ++ [x]) ++ hs = _;rw [List.append_assoc]; rfl
  cases h
theorem fits_in {N : Net} {u : Unf} {h : Ev} (hf : fitsI N u h = true) : (∀ c, c ∈ h.pre → 0 ≤ c ∧ c < u.cs.length) ∧ h.pre.Nodup := by
 have hr := fits_rising hf;exact ⟨fun c hc => by have := rising_in hr c hc; omega, srtd_nodup (rising_srtd hr)⟩
theorem run_tru {N : Net} (hN : NetS N) : ∀ (hs : List Ev) (k : Nat) (u now : Unf) (L A : List ES), Now N k u → Tru u L A → k + hs.length ≤ 60 → runI N u hs = some now → Tru now (runLA N u L A hs).1 (runLA N u L A hs).2
 | [], k, u, now, L, A, hn, hT, hk, h => by rw [runI] at h; cases h; exact hT
 | x :: hs, k, u, now, L, A, hn, hT, hk, h => by
  rw [List.length_cons] at hk;rw [runI] at h
  split at h
  ·rename_i hf;have h2 := hn.fit hN (by omega) hf;have hi := fits_in hf;have hu := hn.n;exact run_tru hN hs (k + 1) _ now _ _ h2.1 (hT.add h2.1.w (by omega) hi.1 hi.2) (by omega) h
  cases h
structure Good (N : Net) (m : List UInt8) (u : Unf) : Prop where
 n : NetS N
 q : (m.length : Int) = N.places
 b : bitsB m N.places = true
 e : u.es.length ≤ 60
 c : u.cs.length ≤ 200
 r : runI N ⟨madeI N m, []⟩ u.es = some u
theorem goodU_iff {N : Net} {m : List UInt8} {u : Unf} (h : goodU N m u = true) : Good N m u := by
 unfold goodU at h;rw [Bool.and_eq_true, Bool.and_eq_true, Bool.and_eq_true] at h;obtain ⟨⟨h1, h2⟩, h3, h4⟩ := h;unfold limB at h3;rw [Bool.and_eq_true, decide_eq_true_eq, decide_eq_true_eq] at h3;have hm : (m.length : Int) = N.places := by have h5 := h2; unfold bitsB at h5; rw [Bool.and_eq_true, decide_eq_true_eq] at h5; exact h5.2
 refine ⟨good_S h1, hm, h2, by omega, by omega, ?_⟩;cases hr : runI N ⟨madeI N m, []⟩ u.es with
 | none => rw [isU_none hr] at h4; cases h4
 | some now =>
  rw [isU_some hr, decide_eq_true_eq] at h4;have he := run_es hr;congr 1;cases now; cases u;simp only at h4 he;rw [h4, he]; rfl
theorem Good.tru {N : Net} {m : List UInt8} {u : Unf} (h : Good N m u) : Tru u (locL N m u) (agaA N m u) :=
 run_tru h.n _ 0 _ _ _ _ (Now.zero h.n m) (Tru.zero h.n m) (by have := h.e; omega) h.r
set_option maxRecDepth 20000 in
set_option maxHeartbeats 8000000 in
theorem branchingOf_spec (N : Net) (m : List UInt8) (u : Unf) (hB : NetL N) (hm : m.length ≤ 2000000) (hu : UnfL u) : ASpec Tryz.prog 49 [netA N, aS (bstr m), unfA u] [] (brRes N m u) := by
 have hue := hu.e;have huc := hu.c;have hA0 := IsValidMarking_gen N m hB hm;have hL0 := isFull_spec u hue huc;obtain ⟨ask, hask⟩ := eqx ((goodN N && bitsB m N.places));obtain ⟨lim, hlim⟩ := eqx (limB u);have hgu : goodU N m u = (ask && (lim && isU N m u)) := by rw [hask, hlim]; rfl
 have hask2 : ask = true → goodN N = true ∧ bitsB m N.places = true := by intro h; rw [hask, Bool.and_eq_true] at h; exact h
 have hlim2 : lim = true → u.es.length ≤ 60 ∧ u.cs.length ≤ 200 := by intro h; rw [hlim, limB, Bool.and_eq_true, decide_eq_true_eq, decide_eq_true_eq] at h; omega
 rw [← hask] at hA0;rw [← hlim] at hL0;refine ASpec.of Tryz.func49 rfl rfl fun C hC => ?_
 refine AC.seq (AC.region ?_);refine kD ?_;refine kD ?_;refine za ?_;refine za ?_;refine AL.nil (th_n (AC.seq (AC.seq (AC.region ?_))));refine kG ?_;refine zm ?_;refine kV en_IsValidMarking hA0 ?_;refine kC ?_;refine zm ?_;refine AL.caseGB rfl rfl (fun h0 => ?_) (fun h0 => ?_)
 ·refine zn ?_;refine zn ?_;refine zQ ?_;refine AL.nil (th_n ?_);refine AC.condT rfl ?_;refine AC.seq (AC.region ?_);refine za ?_;refine za ?_;refine AL.nil (th_n (AC.ret (th_r (bq_r ?_))));have hz := and3_0 (b := lim) (c := isU N m u) h0;rw [brRes_f (hgu.trans hz)];exact ret0 rfl (by repeat (first | exact rfl | exact DLead.same | exact True.intro | refine ⟨_, _, rfl, ?_, ?_⟩ | refine ⟨_, rfl, ?_⟩))
 refine zy ?_;refine kG ?_;refine zy ?_;refine kV en_isFull hL0 ?_;refine zP ?_;refine AL.nil (th_n ?_);refine AC.condB rfl (fun h1 => ?_) (fun h1 => ?_)
 ·refine AC.seq (AC.region ?_);refine za ?_;refine za ?_;refine AL.nil (th_n (AC.ret (th_r (bq_r ?_))));have hz := and3_1 (a := ask) (c := isU N m u) h1;rw [brRes_f (hgu.trans hz)];exact ret0 rfl (by repeat (first | exact rfl | exact DLead.same | exact True.intro | refine ⟨_, _, rfl, ?_, ?_⟩ | refine ⟨_, rfl, ?_⟩))
 refine AC.skip (th_n (AC.seq ?_));have hat := (Bool.not_eq_false' _).mp h0;have hlt := (Bool.not_eq_false' _).mp h1;have hN := good_S (hask2 hat).1;have hul := hlim2 hlt;have hml : (m.length : Int) = N.places := by have h5 := (hask2 hat).2; unfold bitsB at h5; rw [Bool.and_eq_true, decide_eq_true_eq] at h5; exact h5.2
 have hM0 := newBr_spec N m hN hml;have hNow0 := Now.zero hN m;have hTru0 := Tru.zero hN m;have hgi : goodU N m u = isU N m u := by rw [hgu, hat, hlt]; rfl
 have hNB := hN.B;refine AC.region ?_;refine kG ?_;refine zm ?_;refine kU [] en_newBr hM0 ?_;refine AL.p (by exact as3 rfl) rfl ?_;refine AL.nil (th_n (AC.seq (AC.seq (AC.region ?_))));refine zf ?_;refine zr ?_;refine kH ?_;refine zm ?_;refine AL.nil (th_n (AC.block ?_));refine AC.loop (ι := Nat × Unf × List ES × List ES) (fun x => ⟨46, 136, [(3, .d (.ref (netD N))), (5, .d (.ref (unfD u))), (8, .ptr 100 0), (23, .d (vEs u.es)), (24, aI u.es.length), (25, aI x.1)], [(100, some (brC N 101 x.2.1.cs.length 102 x.2.1.es.length 103 x.2.2.1.length 104 x.2.2.2.length)), (101, some (.arr 143 2 (condsL x.2.1.cs))), (102, some (.arr 59 2 (evsL x.2.1.es))), (103, some (.arr 97 1 (esL x.2.2.1))), (104, some (.arr 97 1 (esL x.2.2.2)))]⟩) (fun x => x.1 ≤ u.es.length ∧ Now N x.1 x.2.1 ∧ Tru x.2.1 x.2.2.1 x.2.2.2 ∧ runI N x.2.1 (u.es.drop x.1) = runI N ⟨madeI N m, []⟩ u.es ∧ runLA N x.2.1 x.2.2.1 x.2.2.2 (u.es.drop x.1) = runLA N ⟨madeI N m, []⟩ [] [] u.es) (fun x => u.es.length - x.1) ((0, ⟨madeI N m, []⟩, [], [])) ?_ (⟨Nat.zero_le _, hNow0, hTru0, rfl, rfl⟩) ?_
 ·exact zw [(100, _), (101, _), (102, _), (103, _), (104, _)] hC
 rintro ⟨k, now, L, A⟩ ⟨hk, hnow, hT, hrun, hrla⟩;dsimp only at hk hnow hT hrun hrla ⊢;refine AC.seq (AC.region ?_);refine zc ?_;refine AL.nil (th_n (AC.seq ?_));refine AC.condD rfl (fun h2 => ?_) (fun h2 => ?_)
 ·refine AC.skip (th_n (AC.seq (AC.block (AC.seq ?_))));have hk1 : k < u.es.length := by omega
  have hget := evsL_get hk1;have hnl := hnow.n;have hlim5 : u.es[k].pre.length ≤ 2000000 := hu.l _ (List.getElem_mem hk1);have hF := brFits_spec N now L A u.es[k] hNB hT.w hlim5;rw [fits_both hN hT] at hF;rw [List.drop_eq_getElem_cons hk1] at hrun hrla;obtain ⟨ft, hft⟩ := eqx (fitsI N now u.es[k]);rw [← hft] at hF;refine AC.region ?_;refine AL.p (by exact g_ia_view rfl rfl rfl rfl rfl (by rfl) (by assumption)) rfl ?_;refine kG ?_;refine kE ?_;refine zs ?_;refine AL.nil (th_n (AC.seq (AC.seq (AC.region ?_))));refine AL.p (by exact mv3 rfl) rfl ?_;refine AL.p (by exact g_load_ptrN rfl rfl rfl rfl rfl) rfl ?_;refine AL.q (by exact h_borrow [100, 101, 102, 103, 104] en_brFits rfl rfl hF (br_lent [100, 101, 102, 103, 104] 100 101 102 103 104 rfl rfl rfl rfl rfl rfl rfl rfl rfl rfl (.cons (.agg (ds := evD u.es[k])) .nil)) rfl) rfl ?_;refine kC ?_;refine AL.nil (th_n ?_);refine AC.condB rfl (fun h3 => ?_) (fun h3 => ?_)
  ·refine AC.seq (AC.region ?_);refine za ?_;refine za ?_;refine AL.nil (th_n (AC.ret (th_r (ib_r (th_r (th_r (ib_r (th_r (bq_r ?_)))))))));have hff : fitsI N now u.es[k] = false := by rw [← hft]; exact (Bool.not_eq_true' _).mp h3
   rw [runI_no hff] at hrun;rw [brRes_f (hgi.trans (isU_none hrun.symm))];exact ret0 rfl (by repeat (first | exact rfl | exact DLead.same | exact True.intro | refine ⟨_, _, rfl, ?_, ?_⟩ | refine ⟨_, rfl, ?_⟩))
  refine AC.skip (th_n ?_);have hff : fitsI N now u.es[k] = true := by rw [← hft]; exact (Bool.not_eq_false' _).mp h3
  rw [runI_yes hff] at hrun;rw [runLA] at hrla;obtain ⟨hnow2, hpl⟩ := hnow.fit hN (by omega) hff;have hi := fits_in hff;have hT2 := hT.add hnow2.w (by omega) hi.1 hi.2;have hAd := brAdd_spec N now L A u.es[k] hNB hT.w (by omega) (by omega) (fits_inR hff) hi.1;refine AC.region ?_;refine AL.p (by exact mv3 rfl) rfl ?_;refine AL.p (by exact g_load_ptrN rfl rfl rfl rfl rfl) rfl ?_;refine kU [100, 101, 102, 103, 104] en_brAdd hAd ?_;refine AL.nil (ib_n (th_n (AC.region ?_)));refine zA ?_;refine zm ?_;refine AL.nil (th_n ?_);exact ⟨(k + 1, withI N now u.es[k], addL now L u.es[k], addA now A u.es[k]), ⟨by show k + 1 ≤ _; omega, hnow2, hT2, hrun, hrla⟩, by show u.es.length - (k + 1) < u.es.length - k; omega, zw [(100, _), (101, _), (102, _), (103, _), (104, _)] hC⟩
 refine AC.exit (th_e (th_e (ib_y (th_n (AC.seq ?_)))));have hkk : k = u.es.length := by omega
 rw [hkk, List.drop_length] at hrun hrla;have hU := isU_some hrun.symm;have hncl := hnow.c;have hgn : goodU N m u = decide (now.cs = u.cs) := by rw [hgi, hU]
 have hL : L = locL N m u := by unfold locL; rw [← hrla]; rfl
 have hA : A = agaA N m u := by unfold agaA; rw [← hrla]; rfl
 have hes : now.es = u.es := by have := run_es hrun.symm; exact this
 have hEq := eqConds_spec now.cs u.cs (by omega) (by omega);refine AC.drawn' mixed_ok [[], [], [1], [1,2], [1,2,3], [1,2,3,4], [], [6], [1,2,3,4,5,6,7], [0,1,2,3,4,5,6,7,8], [0,1,2,3,4,5,6,7,8,9]] (by decide) ?_;refine zd 0 [] 11 (by exact mv3 rfl) ?_;refine zd 1 [] 11 (by exact mv3 rfl) ?_;refine zd 2 [1] 11 (by exact g_nilP rfl) ?_;refine zd 3 [1,2] 11 (by exact g_fa_ptr rfl rfl rfl rfl rfl) ?_;refine zd 4 [1,2,3] 11 (by exact g_fa_ptr rfl rfl rfl rfl rfl) ?_;refine zd 5 [1,2,3,4] 11 (by exact g_load_ptr rfl rfl rfl rfl rfl) ?_;refine zd 6 [] 11 (by exact g_fa_ref rfl rfl rfl rfl rfl rfl) ?_;refine zd 7 [6] 11 (by exact g_load_ref rfl rfl rfl) ?_;refine zh 8 [1,2,3,4,5,6,7] 11 (by exact h_borrow [101] en_eqConds rfl rfl hEq (.cons (.of (.own rfl rfl (own_le _ _) (own_take _ _))) (.cons (.of .d) .nil)) rfl) ?_;refine zd 9 (List.range 9) 11 (by exact as3 rfl) ?_;refine zd 10 (List.range 10) 11 (by exact as1 rfl) ?_;refine zj 11 ?_;refine th_n (AC.ret (bq_r ?_))
 by_cases hz : now.cs = u.cs
 rotate_left
 rw [brRes_f (hgn.trans (decide_eq_false hz))];exact ret0 rfl (by rw [decide_eq_false hz]; repeat (first | exact rfl | exact DLead.same | exact True.intro | refine ⟨_, _, rfl, ?_, ?_⟩ | refine ⟨_, rfl, ?_⟩));have hnu : now = u := by cases now; cases u; simp only at hz hes; rw [hz, hes]
 rw [brRes_t (hgn.trans (decide_eq_true hz)), ← hL, ← hA];subst hnu;exact retN [(0, _), (1, _), (2, _), (3, _), (4, _)] rfl (by rw [decide_eq_true hz]; repeat (first | exact rfl | exact DLead.same | refine ⟨_, _, rfl, ?_, ?_⟩ | refine ⟨_, rfl, ?_⟩)) (by repeat (first | exact True.intro | refine And.intro ?_ ?_ | exact DLead.same | exact rfl | refine ⟨_, _, rfl, rfl, ?_⟩ | refine ⟨_, rfl, ?_⟩ | refine ⟨_, _, rfl, ?_, ?_⟩)) rfl rfl
theorem en_branchingOf : Enters Tryz.prog 49 := enters_of Tryz.func49 rfl rfl
theorem past_srtd (u : Unf) (S : List Int) : srtd (pastI u S) := by
 unfold pastI flagL srtd;rw [List.pairwise_map];refine ((List.pairwise_lt_range (n := u.es.length)).filter _).imp ?_;intro a b h;omega
def setI (l : List Int) : ES := l.foldl (fun a e => a ||| bitU e.toNat) 0
theorem setI_take {l : List Int} {k : Nat} (hk : k < l.length) : setI (l.take (k + 1)) = setI (l.take k) ||| bitU l[k].toNat := by
 unfold setI;rw [List.take_add_one, List.getElem?_eq_getElem hk, List.foldl_append]; rfl
theorem setF_bit (f : Nat) : ∀ (l : List Int) (a : ES), (∀ e, e ∈ l → 0 ≤ e ∧ e < 64) → ((l.foldl (fun a e => a ||| bitU e.toNat) a).getLsbD f = true ↔ (a.getLsbD f = true ∨ (f : Int) ∈ l))
 | [], a, _ => by simp
 | e :: l, a, h => by
  have he := h e List.mem_cons_self;rw [List.foldl_cons, setF_bit f l _ (fun x hx => h x (List.mem_cons_of_mem _ hx)), BitVec.getLsbD_or, Bool.or_eq_true, bitU_get (by omega), decide_eq_true_eq, List.mem_cons];constructor
  ·rintro ((q | q) | q)
   ·exact .inl q
   ·exact .inr (.inl (by omega))
   exact .inr (.inr q)
  rintro (q | q | q)
  ·exact .inl (.inl q)
  ·exact .inl (.inr (by omega))
  exact .inr q
theorem setI_bit {l : List Int} (h : ∀ e, e ∈ l → 0 ≤ e ∧ e < 64) (f : Nat) : (setI l).getLsbD f = true ↔ (f : Int) ∈ l := by
 unfold setI; rw [setF_bit f l 0 h]; simp
theorem setOf_spec (l : List Int) (hl : l.length ≤ 2000000) (hin : ∀ e, e ∈ l → 0 ≤ e ∧ e < 64) : ASpec Tryz.prog 59 [.d (vI l)] [] (Pure1 (aU (setI l))) := by
 refine ASpec.of Tryz.func59 rfl rfl fun C hC => ?_
 refine AC.seq (AC.region ?_);refine za ?_;refine AL.nil (th_n (AC.seq (AC.region ?_)));refine za ?_;refine AL.nil (th_n (AC.seq (AC.seq (AC.region ?_))));refine zm ?_;refine kH ?_;refine zm ?_;refine AL.nil (th_n (AC.block ?_));refine AC.loop (ι := Nat) (fun k => ⟨18, 8, [(3, aU (setI (l.take k))), (6, .d (vI l)), (7, aI l.length), (8, aI k)], []⟩) (fun k => k ≤ l.length) (fun k => l.length - k) (0) ?_ (Nat.zero_le _) ?_
 ·exact Weak.ren _ [] hC rfl (by repeat (first | exact True.intro | refine And.intro ?_ ?_ | exact DLead.same)) (by repeat (exact True.intro)) rfl rfl rfl
 intro k hk;refine AC.seq (AC.region ?_);refine zc ?_;refine AL.nil (th_n (AC.seq ?_));refine AC.condD rfl (fun h0 => ?_) (fun h0 => ?_)
 ·refine AC.skip (th_n (AC.seq (AC.block (AC.seq ?_))));have hk1 : k < l.length := by omega
  have hget := ints_at hk1;have hi0 := hin _ (List.getElem_mem hk1);obtain ⟨i, hi⟩ : ∃ i : Nat, l[k] = (i : Int) := ⟨l[k].toNat, by omega⟩;have hst := setI_take hk1;rw [hi, Int.toNat_natCast] at hst;rw [hi] at hget;refine AC.region ?_;refine AL.p (by exact g_ia_view rfl rfl rfl rfl rfl (by rfl) (by assumption)) rfl ?_;refine zr ?_;refine za ?_;refine AL.nil (th_n (AC.region ?_));refine zm ?_;refine zm ?_;refine AL.p (by exact g_shl64 rfl rfl (by omega)) rfl ?_;refine AL.p (by exact g_or64 rfl rfl) rfl ?_;refine za ?_;refine AL.nil (ib_n (th_n (AC.region ?_)));refine zA ?_;refine zm ?_;refine AL.nil (th_n ?_);exact ⟨k + 1, by omega, by omega, Weak.ren _ [] hC rfl (by rw [hst]; repeat (first | exact True.intro | refine And.intro ?_ ?_ | exact DLead.same)) (by repeat (exact True.intro)) rfl rfl rfl⟩
 refine AC.exit (th_e (th_e (ib_y (th_n (AC.seq (AC.region ?_))))));refine zm ?_;refine za ?_;refine AL.nil (th_n (AC.ret (bq_r ?_)));have hkk : k = l.length := by omega
 subst hkk;exact ret1 rfl (by rw [List.take_length])
theorem en_setOf : Enters Tryz.prog 59 := enters_of Tryz.func59 rfl rfl
def locOut (L : List ES) (s : ES) (e : Int) : Bool := !decide (((((L.getD e.toNat 0) &&& ~~~ s).toNat : Nat) : Int) = 0)
theorem brConf1_spec (N : Net) (u : Unf) (L A : List ES) (s : ES) (e : Int) (h0 : 0 ≤ e) (he : e < L.length) (hl : L.length ≤ 1000) : ASpec Tryz.prog 113 [aI e, .d (.ref [.ref (brD N u L A)]), .d (.ref [dU s])] [] (Pure1 (aT (locOut L s e))) := by
 obtain ⟨i, rfl⟩ : ∃ i : Nat, e = (i : Int) := ⟨e.toNat, by omega⟩;have hi : i < L.length := by omega
 have hget := vES_get hi;have hA : L.getD i 0 = L[i] := by rw [List.getD_eq_getElem?_getD, List.getElem?_eq_getElem hi]; rfl
 refine ASpec.of Tryz.func113 rfl rfl fun C hC => ?_
 refine AC.seq (AC.region ?_);refine za ?_;refine AL.nil (th_n (AC.seq ?_));refine AC.drawn' mixed_ok [[], [0], [0,1], [0,1,2], [], [0,1,2,3,4], [0,1,2,3,4,5], [], [0,1,2,3,4,5,6,7], [0,1,2,3,4,5,6,7,8], [0,1,2,3,4,5,6,7,8,9]] (by decide) ?_;refine zd 0 [] 11 (by exact g_load_ref rfl rfl rfl) ?_;refine zd 1 [0] 11 (by exact g_nilR rfl) ?_;refine zd 2 [0,1] 11 (by exact g_fa_ref rfl rfl rfl rfl rfl rfl) ?_;refine zd 3 [0,1,2] 11 (by exact g_load_ref rfl rfl rfl) ?_;refine zd 4 [] 11 (by exact mv1 rfl) ?_;refine zd 5 [0,1,2,3,4] 11 (by exact g_ia_view rfl rfl rfl rfl rfl (by rfl) (by assumption)) ?_;refine zd 6 [0,1,2,3,4,5] 11 (by exact g_load_ref rfl rfl rfl) ?_;refine zd 7 [] 11 (by exact g_load_ref rfl rfl rfl) ?_;refine zd 8 [0,1,2,3,4,5,6,7] 11 (by exact g_andNot64 rfl rfl) ?_;refine zd 9 (List.range 9) 11 (by exact g_cmp rfl rfl rfl) ?_;refine zd 10 (List.range 10) 11 (by exact as1 rfl) ?_;refine zj 11 ?_;refine th_n (AC.ret (bq_r ?_));exact ret1 rfl (by rw [locOut, Int.toNat_natCast, hA])
theorem en_brConf1 : Enters Tryz.prog 113 := enters_of Tryz.func113 rfl rfl
def confJ (L A : List ES) (s : ES) : Bool := !clashI A s && !(listI s).any (locOut L s)
set_option maxHeartbeats 1000000 in
theorem brConf_spec (N : Net) (u : Unf) (L A : List ES) (s : ES) (hW : WB u L A) (hs : subU s u.es.length) : ASpec Tryz.prog 58 [.d (.ref (brD N u L A)), aU s] [] (Pure1 (aT (confJ L A s))) := by
 have hl := listI_len s;have hLl := hW.l;have hAl := hW.a;have hel := hW.e;have hCl := brClash_spec N u L A s (by rw [hAl]; exact hs) (by omega);have hCC := containsInt_spec (listI s) (by omega) 113 [.ref [.ref (brD N u L A)], .ref [dU s]] en_brConf1 (locOut L s) (fun p h => brConf1_spec N u L A s p (listI_sub hs p h).1 (by have := (listI_sub hs p h).2; omega) (by omega));have hE := esList_spec s;obtain ⟨cl, hcl⟩ := eqx (clashI A s);obtain ⟨co, hco⟩ := eqx ((listI s).any (locOut L s));have hJ : confJ L A s = (!cl && !co) := by rw [hcl, hco]; rfl
 rw [← hcl] at hCl;rw [← hco] at hCC;refine ASpec.of Tryz.func58 rfl rfl fun C hC => ?_
 refine AC.seq (AC.region ?_);refine kD ?_;refine kD ?_;refine za ?_;refine AL.nil (th_n (AC.seq (AC.region ?_)));refine zr ?_;refine zr ?_;refine kV en_brClash hCl ?_;refine kC ?_;refine zm ?_;refine AL.caseGB rfl rfl (fun h0 => ?_) (fun h0 => ?_)
 ·refine zy ?_;refine zr ?_;refine zy ?_;refine kV en_esList hE ?_;refine zy ?_;refine AL.p (by exact g_fn rfl) rfl ?_;refine zy ?_;refine kV en_containsInt hCC ?_;refine zy ?_;refine kC ?_;refine zQ ?_;refine za ?_;refine AL.nil (th_n (AC.ret (bq_r ?_)));exact ret1 rfl (by rw [hJ, h0]; rfl)
 refine zn ?_;refine zn ?_;refine zn ?_;refine zn ?_;refine zn ?_;refine zP ?_;refine za ?_;refine AL.nil (th_n (AC.ret (bq_r ?_)));exact ret1 rfl (by rw [hJ, h0]; rfl)
theorem en_brConf : Enters Tryz.prog 58 := enters_of Tryz.func58 rfl rfl
def confI (u : Unf) (l : List Int) : Bool := decide (pastI u l = l) && freeI u l
theorem conf_both {u : Unf} {L A : List ES} (hT : Tru u L A) {l : List Int} (hr : rising l 0 ((u.es.length : Int) - 1) = true) : confJ L A (setI l) = confI u l := by
 have hin : ∀ e, e ∈ l → 0 ≤ e ∧ e < u.es.length := fun e he => by have := rising_in hr e he; omega
 have hel := hT.w.e;have hb := fun f => setI_bit (l := l) (fun e he => by have := hin e he; omega) f
 have hsub : subU (setI l) u.es.length := fun f hf => by have := hin _ ((hb f).1 hf); omega
 have hin2 : ∀ f : Nat, (f : Int) ∈ l → Rch u l f := fun f hf => .base hf (by have := hin _ hf; omega)
 have hcl : (listI (setI l)).any (locOut L (setI l)) = false ↔ pastI u l = l := by
  constructor
  ·intro h;rw [List.any_eq_false] at h;refine srtd_ext (past_srtd u l) (rising_srtd hr) fun x => ?_
   rw [mem_past hT.o];constructor
   ·rintro ⟨f, rfl, hf⟩;obtain ⟨s, hs, hr2⟩ := hf.one;have hsi := hin s hs;obtain ⟨i, rfl⟩ : ∃ i : Nat, s = i := ⟨s.toNat, by omega⟩;have h2 := h (i : Int) (mem_listI.2 ⟨i, rfl, (hb i).2 hs⟩);have h3 := (hT.l i (by omega) f).2 hr2
    apply Classical.byContradiction
    intro hno
    apply h2
    unfold locOut;rw [Int.toNat_natCast, and_ne];refine ⟨f, h3, ?_⟩;have hf64 := BitVec.lt_of_getLsbD h3;rw [BitVec.getLsbD_not];have : (setI l).getLsbD f = false := by rw [← Bool.not_eq_true, hb f]; exact hno
    rw [this]; simp [hf64]
   intro hx;have := hin x hx;exact ⟨x.toNat, by omega, hin2 _ (by rw [Int.toNat_of_nonneg this.1]; exact hx)⟩
  intro h;rw [List.any_eq_false];intro x hx hlo;obtain ⟨i, rfl, hi⟩ := mem_listI.1 hx;unfold locOut at hlo;rw [Int.toNat_natCast, and_ne] at hlo;obtain ⟨f, h1, h2⟩ := hlo;have him := (hb i).1 hi;have h3 := (hT.l i (hsub i hi) f).1 h1;have h4 : (f : Int) ∈ pastI u l := (mem_past hT.o).2 ⟨f, rfl, h3.mono fun s hs _ => by rw [List.mem_singleton] at hs; subst hs; exact him⟩;rw [h] at h4;have h5 := (hb f).2 h4;rw [BitVec.getLsbD_not, h5] at h2;simp at h2
 unfold confJ confI
 by_cases hp : pastI u l = l
 ·have hbr : ∀ f, (setI l).getLsbD f = true ↔ Rch u l f := by
   intro f;rw [hb f];constructor
   ·exact hin2 f
   intro h;have : (f : Int) ∈ pastI u l := (mem_past hT.o).2 ⟨f, rfl, h⟩;rw [hp] at this; exact this
  rw [hcl.2 hp, clash_free hT hbr, hp, decide_eq_true rfl];cases freeI u l <;> rfl
 have : (listI (setI l)).any (locOut L (setI l)) = true := by
  cases h : (listI (setI l)).any (locOut L (setI l)) with
  | true => rfl
  | false => exact absurd (hcl.1 h) hp
 rw [this, decide_eq_false hp];cases clashI A (setI l) <;> rfl
open Go.ChangeShapes Go.WideShapes Go.ChangeAt Go.RowKit
section
variable {H : Type} {enc : TypeId × Value → H} {P : Program}
structure RT (enc : TypeId × Value → H) (P : Program) (t : TypeId) (k : Nat) {α : Type} (f : α → List DV) (ok : α → Prop) : Prop where
 rd : ∀ (W : World) (fuel : Nat) (cs : List Value) (x : DataW H × List MemPlace), DataW.trod enc P W 0 (fun _ => true) true fuel t cs = some x →
  cs.length = k ∧ ∃ a, ok a ∧ (f a).length = k ∧ ∀ j d, (f a)[j]? = some d → DRep (fun k => k < W.heap.size) W d (cs.getD j undef)
theorem get1 {x d : DV} {j : Nat} (h : [x][j]? = some d) : j = 0 ∧ d = x := by
 cases j with
 | zero => simp at h; exact ⟨rfl, h.symm⟩
 | succ j => simp at h
def okI (n : Int) : Prop := -9223372036854775808 ≤ n ∧ n ≤ 9223372036854775807
theorem RT.int {t : TypeId} (ht : P.underlying t = some (.int .i64)) : RT enc P t 1 (fun n : Int => [dI n]) okI := by
 refine ⟨fun W fuel cs x h => ?_⟩;obtain ⟨n, rfl, rfl, hwf⟩ := DataW.trod_int ht h;have hb := bounds_i64 hwf;refine ⟨rfl, n, hb, rfl, fun j d hj => ?_⟩;obtain ⟨rfl, rfl⟩ := get1 hj;refine .val ?_;show IntKind.i64.wrap n = n;exact wrap_i64 hb
theorem RT.bool {t : TypeId} (ht : P.underlying t = some .bool) : RT enc P t 1 (fun b : Bool => [dT b]) (fun _ => True) := by
 refine ⟨fun W fuel cs x h => ?_⟩;obtain ⟨b, rfl, rfl⟩ := DataW.trod_bool ht h;exact ⟨rfl, b, trivial, rfl, fun j d hj => by obtain ⟨rfl, rfl⟩ := get1 hj; exact .val trivial⟩
theorem RT.str {t : TypeId} (ht : P.underlying t = some .string) : RT enc P t 1 (fun s : List UInt8 => [dS (bstr s)]) (fun s => s.length ≤ 9223372036854775807) := by
 refine ⟨fun W fuel cs x h => ?_⟩;obtain ⟨s, rfl, rfl, hm⟩ := DataW.trod_string ht h;have hsz : s.data.toList.length = s.size := by simp
 have he : bstr s.data.toList = s := by
  apply ByteArray.ext
  simp [bstr]
 refine ⟨rfl, s.data.toList, by rw [hsz]; exact hm, rfl, fun j d hj => ?_⟩;simp only [he] at hj;obtain ⟨rfl, rfl⟩ := get1 hj;exact .val hm
theorem list_of {α : Type} {n : Nat} {Q : Nat → α → Prop} (h : ∀ i, i < n → ∃ a, Q i a) : ∃ l : List α, l.length = n ∧ ∀ i a, l[i]? = some a → Q i a := by
 induction n with
 | zero => exact ⟨[], rfl, fun i a h => by simp at h⟩
 | succ n ih =>
  obtain ⟨l, hl, hq⟩ := ih fun i hi => h i (by omega)
  obtain ⟨a, ha⟩ := h n (by omega);refine ⟨l ++ [a], by simp [hl], fun i b hb => ?_⟩
  by_cases hi : i < l.length
  ·rw [List.getElem?_append_left hi] at hb; exact hq i b hb
  rw [List.getElem?_append_right (by omega)] at hb
  have h0 : i - l.length = 0 := by
   by_cases e : i - l.length = 0
   ·exact e
   rw [List.getElem?_eq_none (by simp; omega)] at hb; cases hb
  rw [h0] at hb;simp at hb; subst hb;have : i = n := by omega
  subst this; exact ha
theorem RT.slice {t e : TypeId} {k : Nat} {α : Type} {f : α → List DV} {ok : α → Prop} (te : Nat) (ht : P.underlying t = some (.slice e)) (hc : P.cellsOf e = k) (hk : 0 < k) (hr : RT enc P e k f ok) :
  RT enc P t 1 (fun l : List α => [.view te k (l.map f)]) (fun l => l.length ≤ 9223372036854775807 ∧ ∀ a, a ∈ l → ok a) := by
 refine ⟨fun W fuel cs x h => ?_⟩;rcases DataW.trod_slice ht h with ⟨rfl, _⟩ | ⟨a, len, cap, elems, rest, n, _, rfl, _, _, hl, hm, hlen, hel, hsp, _⟩
 ·exact ⟨rfl, [], ⟨Nat.zero_le _, fun a ha => absurd ha List.not_mem_nil⟩, rfl, fun j d hj => by obtain ⟨rfl, rfl⟩ := get1 hj; exact .nil⟩
 refine ⟨rfl, ?_⟩;rw [hc] at hel hsp;obtain ⟨hrl, hrs⟩ := hsp rfl
 -- every element up to the capacity is there
 have hcell : ∀ i, i < cap → ∃ cs', W.cells? 0 (a.add (i * k)) k = some cs' ∧ ∃ y, DataW.trod enc P W 0 (fun _ => true) true n e cs' = some y := by
  intro i hi
  by_cases hil : i < len
  ·have h1 := hel i hil;rw [List.getElem?_eq_getElem (by omega)] at h1;obtain ⟨cs', h2, h3⟩ := Option.bind_eq_some_iff.1 h1;exact ⟨cs', h2, _, h3⟩
  have h1 := hrs (i - len) (by omega);rw [show len + (i - len) = i by omega, List.getElem?_eq_getElem (by omega)] at h1;obtain ⟨cs', h2, h3⟩ := Option.bind_eq_some_iff.1 h1;exact ⟨cs', h2, _, h3⟩
 by_cases hc0 : cap = 0
 ·subst hc0;have : len = 0 := by omega
  subst this;exact ⟨[], ⟨Nat.zero_le _, fun a ha => absurd ha List.not_mem_nil⟩, rfl, fun j d hj => by obtain ⟨rfl, rfl⟩ := get1 hj; exact .empty⟩
 obtain ⟨b, off, sp⟩ := a
 have hrow : ∀ i, i < cap → ∀ j, j < k → ∃ v, W.cell? (((⟨b, off, sp⟩ : Addr).add (i * k)).add j) = some v := by
  intro i hi j hj;obtain ⟨cs', h1, _⟩ := hcell i hi;obtain ⟨_, h2, h3⟩ := World.cells?_some h1;rw [h3 j hj, List.getElem?_eq_getElem (by omega)];exact ⟨_, rfl⟩
 have h00 := hrow 0 (by omega) 0 hk
 have hsp0 : sp = none := by
  obtain ⟨v, hv⟩ := h00;cases sp with
  | none => rfl
  | some q =>
   unfold World.cell? Addr.add at hv
   split at hv
   ·split at hv <;> simp_all
   cases hv
 subst hsp0;have hadd : ∀ i j, ((⟨b, off, none⟩ : Addr).add (i * k)).add j = ⟨b, off + i * k + j, none⟩ := fun i j => by rw [Addr.add_mid, Addr.add_mid]
 simp only [hadd] at hrow
 obtain ⟨arr, e2, fz, hb⟩ : ∃ arr e2 fz, W.heap[b]? = some (.cells arr e2 fz) := by
  obtain ⟨v, hv⟩ := hrow 0 (by omega) 0 hk;unfold World.cell? at hv
  split at hv
  ·rename_i c e2 fz hb; exact ⟨c, e2, fz, hb⟩
  cases hv
 have hget : ∀ q, W.cell? ⟨b, q, none⟩ = arr[q]? := by intro q; simp [World.cell?, hb]
 have hsz : off + cap * k ≤ arr.size := by
  obtain ⟨v, hv⟩ := hrow (cap - 1) (by omega) (k - 1) (by omega);rw [hget] at hv;have := (Array.getElem?_eq_some_iff.1 hv).1;obtain ⟨c, rfl⟩ : ∃ c, cap = c + 1 := ⟨cap - 1, by omega⟩;rw [Nat.add_sub_cancel] at this;rw [Nat.succ_mul]; omega
 have hall : ∀ i, i < len → ∃ a, ok a ∧ (f a).length = k ∧ ∀ j d, (f a)[j]? = some d → DRep (fun k => k < W.heap.size) W d (arr.getD (off + i * k + j) undef) := by
  intro i hi;obtain ⟨cs', h1, y, h2⟩ := hcell i (by omega);obtain ⟨h3, a, h4, h5, h6⟩ := hr.rd W n cs' y h2;obtain ⟨_, h7, h8⟩ := World.cells?_some h1;refine ⟨a, h4, h5, fun j d hj => ?_⟩;have hj1 := (List.getElem?_eq_some_iff.1 hj).1;have h9 := h8 j (by omega);rw [hadd, hget] at h9
  have : arr.getD (off + i * k + j) undef = cs'.getD j undef := by
   rw [Array.getD_eq_getD_getElem?, h9, List.getD_eq_getElem?_getD]
  rw [this];exact h6 j d hj
 obtain ⟨l, hll, hq⟩ := list_of hall
 have hin : ∀ a, a ∈ l → ok a ∧ (f a).length = k := by
  intro a ha;obtain ⟨i, hi⟩ := List.getElem?_of_mem ha;exact ⟨(hq i a hi).1, (hq i a hi).2.1⟩
 refine ⟨l, ⟨by have : cap ≤ 9223372036854775807 := hm; omega, fun a ha => (hin a ha).1⟩, rfl, fun j d hj => ?_⟩;obtain ⟨rfl, rfl⟩ := get1 hj;have hle : (l.map f).length = len := by rw [List.length_map, hll]
 have hv := DRep.view (F := fun k => k < W.heap.size) (w := W) (e := te) (sz := k) (els := l.map f) (b := b) (off := off) (cap := cap) (arr := arr) (lt_of_block hb) hb (by omega) hm hsz (fun i cs hi => ?_) (fun i cs j d hi hj => ?_)
 ·rw [hle] at hv; exact hv
 ·rw [List.getElem?_map, Option.map_eq_some_iff] at hi;obtain ⟨a, ha, rfl⟩ := hi;exact (hin a (List.mem_of_getElem? ha)).2
 rw [List.getElem?_map, Option.map_eq_some_iff] at hi;obtain ⟨a, ha, rfl⟩ := hi;exact (hq i a ha).2.2 j d hj
theorem RT.imp {t : TypeId} {k : Nat} {α β : Type} {f : α → List DV} {ok : α → Prop} {f' : β → List DV} {ok' : β → Prop} (h : RT enc P t k f ok) (g : α → β) (hf : ∀ a, ok a → f' (g a) = f a) (ho : ∀ a, ok a → ok' (g a)) : RT enc P t k f' ok' :=
 ⟨fun W fuel cs x hx => by
  obtain ⟨h1, a, h2, h3, h4⟩ := h.rd W fuel cs x hx
  exact ⟨h1, g a, ho a h2, by rw [hf a h2]; exact h3, by rw [hf a h2]; exact h4⟩⟩
end
inductive AReps (m : Nat → Option (Option Nat × Nat)) (F : Nat → Prop) (W : World) : List AV → List Value → Prop
 | nil : AReps m F W [] []
 | cons {x : AV} {v : Value} {xs : List AV} {vs : List Value} : ARep m F W x v → AReps m F W xs vs → AReps m F W (x :: xs) (v :: vs)
theorem AReps.at {m : Nat → Option (Option Nat × Nat)} {F : Nat → Prop} {W : World} {xs : List AV} {vs : List Value} (h : AReps m F W xs vs) : ∀ (i : Nat) a, xs[i]? = some a → ARep m F W a (vs.toArray.getD i undef) := by
 have key : ∀ (i : Nat) a, xs[i]? = some a → ARep m F W a (vs.getD i undef) := by
  induction h with
  | nil => intro i a h; simp at h
  | cons h _ ih =>
   intro i a hi;cases i with
   | zero => simp at hi; subst hi; exact h
   | succ i => simp at hi; exact ih i a hi
 intro i a hi;have := key i a hi;have e : vs.toArray.getD i undef = vs.getD i undef := by simp [List.getD_eq_getElem?_getD, Array.getD_eq_getD_getElem?]
 rwa [e]
theorem run_inv {N : Net} (hN : NetS N) (PF : Unf → Prop) (step : ∀ u L A h, WF u → Tru u L A → fitsI N u h = true → WF (withI N u h) → PF u → PF (withI N u h)) : ∀ (hs : List Ev) (k : Nat) (u now : Unf) (L A : List ES), Now N k u → Tru u L A → k + hs.length ≤ 60 → PF u → runI N u hs = some now → PF now
 | [], k, u, now, L, A, _, _, _, hP, h => by rw [runI] at h; cases h; exact hP
 | x :: hs, k, u, now, L, A, hn, hT, hk, hP, h => by
  rw [List.length_cons] at hk;rw [runI] at h
  split at h
  ·rename_i hf;have h2 := hn.fit hN (by omega) hf;have hi := fits_in hf;have hu := hn.n;exact run_inv hN PF step hs (k + 1) _ now _ _ h2.1 (hT.add h2.1.w (by omega) hi.1 hi.2) (by omega) (step u L A x hn.w hT hf h2.1.w hP) h
  cases h
theorem good_inv {N : Net} {m : List UInt8} {u : Unf} (h : Good N m u) (PF : Unf → Prop) (zero : PF ⟨madeI N m, []⟩) (step : ∀ u L A h, WF u → Tru u L A → fitsI N u h = true → WF (withI N u h) → PF u → PF (withI N u h)) : PF u :=
 run_inv h.n PF step _ 0 _ _ _ _ (Now.zero h.n m) (Tru.zero h.n m) (by have := h.e; omega) zero h.r
theorem used_iff {u : Unf} {l : List Int} {c : Int} : usedI u l c = true ↔ ∃ e, e ∈ l ∧ c ∈ evAt u e := by
 unfold usedI;rw [List.any_eq_true];constructor
 ·rintro ⟨e, h1, h2⟩; exact ⟨e, h1, hasI_mem.1 h2⟩
 rintro ⟨e, h1, h2⟩; exact ⟨e, h1, hasI_mem.2 h2⟩
theorem rch_in {u : Unf} (ho : Ord u) {S : List Int} {f : Nat} (h : Rch u S f) : (f : Int) ∈ pastI u S := (mem_past ho).2 ⟨f, rfl, h⟩
def cutQ (u : Unf) (l : List Int) (c : Nat) : Bool := (decide ((cAt u (c : Int)).by_ < 0) || hasI l (cAt u (c : Int)).by_) && !usedI u l (c : Int)
def cutK (q : Nat → Bool) (k : Nat) : List Int := ((List.range k).filter q).map (fun (c : Nat) => (c : Int))
def cutI (u : Unf) (l : List Int) : List Int := cutK (cutQ u l) u.cs.length
def cutR (u : Unf) (s : ES) (c : Nat) : Bool := (decide ((cAt u (c : Int)).by_ < 0) || s.getLsbD (cAt u (c : Int)).by_.toNat) && !consI u s (c : Int)
theorem cutK_succ (q : Nat → Bool) (k : Nat) : cutK q (k + 1) = cutK q k ++ (if q k = true then [(k : Int)] else []) := by
 unfold cutK;rw [List.range_succ, List.filter_append, List.map_append];congr 1;rw [List.filter_cons, List.filter_nil]
 split <;> rfl
theorem cutK_t {q : Nat → Bool} {k : Nat} (h : q k = true) : cutK q (k + 1) = cutK q k ++ [(k : Int)] := by rw [cutK_succ, if_pos h]
theorem cutK_f {q : Nat → Bool} {k : Nat} (h : q k = false) : cutK q (k + 1) = cutK q k := by rw [cutK_succ, h, if_neg Bool.false_ne_true, List.append_nil]
theorem cutK_len (q : Nat → Bool) (k : Nat) : (cutK q k).length ≤ k := by
 unfold cutK; rw [List.length_map]; exact Nat.le_trans (List.length_filter_le _ _) (by simp)
theorem cutK_in {q : Nat → Bool} {k : Nat} {x : Int} (h : x ∈ cutK q k) : 0 ≤ x ∧ x < k := by
 unfold cutK at h;obtain ⟨i, hi, rfl⟩ := List.mem_map.1 h;have := List.mem_range.1 (List.mem_filter.1 hi).1;omega
theorem has_list {s : ES} {l : List Int} (h : listI s = l) {x : Int} (h0 : 0 ≤ x) : hasI l x = s.getLsbD x.toNat := by
 have h1 : hasI l x = true ↔ s.getLsbD x.toNat = true := by
  rw [hasI_mem, ← h, mem_listI];constructor
  ·rintro ⟨k, rfl, hk⟩; rw [Int.toNat_natCast]; exact hk
  intro hk; exact ⟨x.toNat, by omega, hk⟩
 cases q1 : hasI l x <;> cases q2 : s.getLsbD x.toNat <;> simp_all
theorem cut_both {u : Unf} {s : ES} {l : List Int} (h : listI s = l) (c : Nat) : cutR u s c = cutQ u l c := by
 unfold cutR cutQ
 have h1 : consI u s (c : Int) = usedI u l (c : Int) := by
  unfold consI usedI;rw [h];congr 1
  funext e
  exact uses_has u _ e
 rw [h1]
 by_cases hb : (cAt u (c : Int)).by_ < 0
 ·rw [decide_eq_true hb]; rfl
 rw [has_list h (by omega)]
theorem list_set {l : List Int} {n : Nat} (hr : rising l 0 ((n : Int) - 1) = true) (hn : n ≤ 64) : listI (setI l) = l := by
 have hin : ∀ e, e ∈ l → 0 ≤ e ∧ e < n := fun e he => by have := rising_in hr e he; omega
 refine srtd_ext ?_ (rising_srtd hr) fun x => ?_
 ·unfold listI listK srtd;rw [List.pairwise_map];refine ((List.pairwise_lt_range (n := 64)).filter _).imp ?_;intro a b h;omega
 rw [mem_listI];have hb := fun f => setI_bit (l := l) (fun e he => by have := hin e he; omega) f
 constructor
 ·rintro ⟨k, rfl, hk⟩; exact (hb k).1 hk
 intro hx;have := hin x hx;exact ⟨x.toNat, by omega, (hb _).2 (by rw [Int.toNat_of_nonneg this.1]; exact hx)⟩
def PL (N : Net) (u : Unf) : Prop := ∀ c, c ∈ u.cs → 0 ≤ c.place ∧ c.place < N.places
theorem run_pl {N : Net} (hN : NetS N) : ∀ (hs : List Ev) (u now : Unf), PL N u → runI N u hs = some now → PL N now
 | [], u, now, hp, h => by rw [runI] at h; cases h; exact hp
 | x :: hs, u, now, hp, h => by
  rw [runI] at h
  split at h
  ·rename_i hf;refine run_pl hN hs _ now ?_ h;intro c hc;rcases List.mem_append.1 hc with h1 | h1
   ·exact hp c h1
   obtain ⟨p, hp', rfl⟩ := List.mem_map.1 h1;have := rising_in (hN.t _ (tAt_mem (fits_inR hf))).2.2.2.2 p hp';show 0 ≤ p ∧ p < _;omega
  cases h
theorem Good.pl {N : Net} {m : List UInt8} {u : Unf} (h : Good N m u) : PL N u := by
 refine run_pl h.n _ _ _ ?_ h.r;intro c hc;obtain ⟨p, hp, rfl⟩ := List.mem_map.1 hc;have := List.mem_range.1 (List.mem_filter.1 hp).1;have := h.n.p;show 0 ≤ (p : Int) ∧ (p : Int) < _;omega
def finQ (u : Unf) (l : List Int) (p : Nat) : Bool := l.any (fun c => decide ((cAt u c).place = (p : Int)))
def finK (q : Nat → Bool) (k : Nat) : List UInt8 := (List.range k).map (fun p => if q p = true then 49 else 48)
def finI (N : Net) (u : Unf) (l : List Int) : List UInt8 := finK (finQ u (cutI u l)) N.places.toNat
theorem finK_succ (q : Nat → Bool) (k : Nat) : finK q (k + 1) = finK q k ++ [if q k = true then 49 else 48] := by
 unfold finK; rw [List.range_succ, List.map_append]; rfl
theorem finK_len (q : Nat → Bool) (k : Nat) : (finK q k).length = k := by unfold finK; rw [List.length_map, List.length_range]
theorem finK_at {q : Nat → Bool} {k p : Nat} (h : p < k) : (finK q k)[p]? = some (if q p = true then 49 else 48) := by
 unfold finK; rw [List.getElem?_map, List.getElem?_range h]; rfl
theorem finQ_take {u : Unf} {l : List Int} {k p : Nat} (h : k < l.length) : finQ u (l.take (k + 1)) p = (finQ u (l.take k) p || decide ((cAt u l[k]).place = (p : Int))) := by
 unfold finQ;rw [List.take_add_one, List.getElem?_eq_getElem h, List.any_append];simp
theorem finK_set {u : Unf} {l : List Int} {k P : Nat} {p : Nat} (h : k < l.length) (hp : (cAt u l[k]).place = (p : Int)) : (finK (finQ u (l.take k)) P).set p 49 = finK (finQ u (l.take (k + 1))) P := by
 refine List.ext_getElem? fun i => ?_
 rw [List.getElem?_set, finK_len]
 by_cases hi : i < P
 ·rw [finK_at hi, finK_at hi, finQ_take h, hp]
  by_cases e : p = i
  ·subst e; rw [if_pos rfl, if_pos hi, decide_eq_true rfl, Bool.or_true, if_pos rfl]
  rw [if_neg e, decide_eq_false (by omega), Bool.or_false]
 have h1 : (finK (finQ u (l.take k)) P)[i]? = none := List.getElem?_eq_none (by rw [finK_len]; omega);have h2 : (finK (finQ u (l.take (k + 1))) P)[i]? = none := List.getElem?_eq_none (by rw [finK_len]; omega);rw [h1, h2]
 split
 ·rw [if_neg (by omega)]
 rfl
theorem fin_places (u : Unf) (l : List Int) (p : Nat) : hasI (placesI u l) (p : Int) = finQ u l p := by
 rw [places_set];have hs := setP_srtd (plK u l)
 have h1 : hasI (setP (plK u l)) (p : Int) = true ↔ finQ u l p = true := by
  rw [hasI_mem, hs.2];unfold finQ plK;rw [List.mem_map, List.any_eq_true];constructor
  ·rintro ⟨c, hc, e⟩; exact ⟨c, hc, decide_eq_true e⟩
  rintro ⟨c, hc, e⟩; exact ⟨c, hc, of_decide_eq_true e⟩
 cases q1 : hasI (setP (plK u l)) (p : Int) <;> cases q2 : finQ u l p <;> simp_all
def evT (u : Unf) (e : Int) : Int := (u.es.getD e.toNat ⟨0, []⟩).t
def evTs (u : Unf) (l : List Int) : List Int := l.map (evT u)
theorem evT_nat {u : Unf} {k : Nat} (h : k < u.es.length) : evT u (k : Int) = u.es[k].t := by unfold evT; rw [Int.toNat_natCast, List.getD_eq_getElem?_getD, List.getElem?_eq_getElem h]; rfl
theorem evTs_take {u : Unf} {l : List Int} {k : Nat} (h : k < l.length) : evTs u (l.take (k + 1)) = evTs u (l.take k) ++ [evT u l[k]] := by
 unfold evTs; rw [List.take_add_one, List.getElem?_eq_getElem h, List.map_append]; rfl
theorem evTs_len (u : Unf) (l : List Int) : (evTs u l).length = l.length := List.length_map _
def aheadI : List Int → List Int → Bool
 | [], [] => false
 | [], _ :: _ => true
 | _ :: _, [] => false
 | a :: as', b :: bs => if a = b then aheadI as' bs else decide (a < b)
theorem set_at {m : List UInt8} {p q : Int} {b : UInt8} (h0 : 0 ≤ p) (h1 : p < m.length) (hq : 0 ≤ q) : at0 (m.set p.toNat b) q = if q = p then (b.toNat : Int) else at0 m q := by
 unfold at0;simp only [List.getD_eq_getElem?_getD, List.getElem?_set]
 by_cases e : q = p
 ·subst e;rw [if_pos rfl, if_pos rfl, if_pos (by omega)]
  rfl
 rw [if_neg e, if_neg (by omega)]
theorem clear_at : ∀ (ps : List Int) (m : List UInt8), (∀ p, p ∈ ps → 0 ≤ p ∧ p < m.length) → ∀ q, 0 ≤ q → at0 (clearAll ps m) q = if q ∈ ps then 48 else at0 m q
 | [], m, _, q, _ => by rw [if_neg List.not_mem_nil]; rfl
 | p :: ps, m, h, q, hq => by
  have hp := h p (List.mem_cons_self ..);have ih := clear_at ps (m.set p.toNat 48) (fun x hx => by rw [List.length_set]; exact h x (List.mem_cons_of_mem _ hx)) q hq;show at0 (clearAll ps (m.set p.toNat 48)) q = _;rw [ih, set_at hp.1 hp.2 hq]
  by_cases e1 : q ∈ ps
  ·rw [if_pos e1, if_pos (List.mem_cons_of_mem _ e1)]
  rw [if_neg e1]
  by_cases e2 : q = p
  ·rw [if_pos e2, if_pos (by rw [e2]; exact List.mem_cons_self ..)]; rfl
  rw [if_neg e2, if_neg (by rw [List.mem_cons]; rintro (w | w); exact e2 w; exact e1 w)]
theorem put_at : ∀ (ps : List Int) (m m' : List UInt8), (∀ p, p ∈ ps → 0 ≤ p ∧ p < m.length) → putAll ps m = some m' → ∀ q, 0 ≤ q → (at0 m' q = if q ∈ ps then 49 else at0 m q) ∧ (q ∈ ps → ¬ at0 m q = 49)
 | [], m, m', _, h, q, _ => by cases h; exact ⟨by rw [if_neg List.not_mem_nil], fun w => absurd w List.not_mem_nil⟩
 | p :: ps, m, m', hb, h, q, hq => by
  have hp := hb p (List.mem_cons_self ..);simp only [putAll] at h
  split at h
  ·cases h
  rename_i hne;have hne : ¬ at0 m p = 49 := fun w => hne (decide_eq_true w)
  obtain ⟨i1, i2⟩ := put_at ps (m.set p.toNat 49) m' (fun x hx => by rw [List.length_set]; exact hb x (List.mem_cons_of_mem _ hx)) h q hq;rw [set_at hp.1 hp.2 hq] at i1 i2
  by_cases e1 : q ∈ ps
  ·rw [if_pos e1] at i1;have i3 := i2 e1;refine ⟨by rw [if_pos (List.mem_cons_of_mem _ e1)]; exact i1, fun _ => ?_⟩
   by_cases e2 : q = p
   ·rw [if_pos e2] at i3; exact absurd rfl i3
   rw [if_neg e2] at i3; exact i3
  rw [if_neg e1] at i1
  by_cases e2 : q = p
  ·rw [if_pos e2] at i1;exact ⟨by rw [if_pos (by rw [e2]; exact List.mem_cons_self ..)]; exact i1, fun _ => by rw [e2]; exact hne⟩
  rw [if_neg e2] at i1;have hn : ¬ q ∈ p :: ps := by rw [List.mem_cons]; rintro (w | w); exact e2 w; exact e1 w
  exact ⟨by rw [if_neg hn]; exact i1, fun w => absurd w hn⟩
structure EvOk (N : Net) (u : Unf) (e : Int) : Prop where
 r : inR N (evT u e) = true
 pre : ∀ p, p ∈ (tAt N (evT u e)).pre ↔ ∃ c, c ∈ evAt u e ∧ (cAt u c).place = p
 post : ∀ p, p ∈ (tAt N (evT u e)).post ↔ ∃ c : Nat, c < u.cs.length ∧ (cAt u (c : Int)).by_ = e ∧ (cAt u (c : Int)).place = p
 one : ∀ c d : Nat, c < u.cs.length → d < u.cs.length → (cAt u (c : Int)).by_ = e → (cAt u (d : Int)).by_ = e → (cAt u (c : Int)).place = (cAt u (d : Int)).place → c = d
structure BegOk (m : List UInt8) (P : Nat) (u : Unf) : Prop where
 at49 : ∀ p : Int, 0 ≤ p → p < P → (at0 m p = 49 ↔ ∃ c : Nat, c < u.cs.length ∧ (cAt u (c : Int)).by_ < 0 ∧ (cAt u (c : Int)).place = p)
 one : ∀ c d : Nat, c < u.cs.length → d < u.cs.length → (cAt u (c : Int)).by_ < 0 → (cAt u (d : Int)).by_ < 0 → (cAt u (c : Int)).place = (cAt u (d : Int)).place → c = d
theorem inc_inj {l : List Int} (h : l.Pairwise fun a b => a < b) {i j : Nat} (hi : i < l.length) (hj : j < l.length) (e : l[i] = l[j]) : i = j := by
 have hp := List.pairwise_iff_getElem.1 h;rcases Nat.lt_trichotomy i j with q | q | q
 ·have := hp i j hi hj q; omega
 ·exact q
 have := hp j i hj hi q; omega
theorem made_inc (m : List UInt8) (k : Nat) : ((madeL m k).map (·.place)).Pairwise fun a b => a < b := by
 unfold madeL;rw [List.map_map, List.pairwise_map];exact ((List.pairwise_lt_range (n := k)).filter _).imp fun h => by show ((_ : Nat) : Int) < ((_ : Nat) : Int); omega
theorem made_mem {m : List UInt8} {k : Nat} {c : Cond} : c ∈ madeL m k ↔ ∃ p : Nat, p < k ∧ m.getD p 0 = 49 ∧ c = ⟨(p : Int), -1⟩ := by
 unfold madeL;rw [List.mem_map];constructor
 ·rintro ⟨p, hp, rfl⟩;obtain ⟨h1, h2⟩ := List.mem_filter.1 hp;exact ⟨p, List.mem_range.1 h1, by simpa using h2, rfl⟩
 rintro ⟨p, h1, h2, rfl⟩;exact ⟨p, List.mem_filter.2 ⟨List.mem_range.2 h1, by simpa using h2⟩, rfl⟩
theorem at0_49 {m : List UInt8} {p : Nat} : at0 m (p : Int) = 49 ↔ m.getD p 0 = 49 := by
 unfold at0;rw [Int.toNat_natCast];constructor
 ·intro h; exact UInt8.toNat_inj.1 (by show _ = 49; omega)
 intro h; rw [h]; rfl
theorem beg_zero (m : List UInt8) (k : Nat) : BegOk m k ⟨madeL m k, []⟩ := by
 have hby : ∀ c : Nat, ∀ h : c < (madeL m k).length, cAt ⟨madeL m k, []⟩ (c : Int) = (madeL m k)[c] := fun c h => cAt_nat (u := ⟨madeL m k, []⟩) h
 refine ⟨fun p h0 h1 => ?_, fun c d hc hd _ _ he => ?_⟩
 ·obtain ⟨i, rfl⟩ : ∃ i : Nat, p = i := ⟨p.toNat, by omega⟩;rw [at0_49];constructor
  ·intro h;have hm : (⟨(i : Int), -1⟩ : Cond) ∈ madeL m k := made_mem.2 ⟨i, by omega, h, rfl⟩;obtain ⟨c, hc, e⟩ := List.getElem_of_mem hm;exact ⟨c, hc, by rw [hby c hc, e]; show (-1 : Int) < 0; decide, by rw [hby c hc, e]⟩
  rintro ⟨c, hc, _, e⟩;rw [hby c hc] at e;obtain ⟨q, _, h2, h3⟩ := made_mem.1 (List.getElem_mem hc);rw [h3] at e;obtain rfl : q = i := Int.ofNat.inj e;exact h2
 rw [hby c hc, hby d hd] at he;exact inc_inj (made_inc m k) (by rw [List.length_map]; exact hc) (by rw [List.length_map]; exact hd) (by rw [List.getElem_map, List.getElem_map]; exact he)
theorem cs_with {N : Net} {u : Unf} {h : Ev} : (withI N u h).cs = u.cs ++ (tAt N h.t).post.map (fun p => ⟨p, (u.es.length : Int)⟩) := rfl
theorem cAt_new {N : Net} {u : Unf} {h : Ev} {c : Nat} (hc : c < (withI N u h).cs.length) (h2 : u.cs.length ≤ c) : ∃ i, ∃ hi : i < (tAt N h.t).post.length, c = u.cs.length + i ∧ cAt (withI N u h) (c : Int) = ⟨(tAt N h.t).post[i], (u.es.length : Int)⟩ := by
 have hl : (withI N u h).cs.length = u.cs.length + (tAt N h.t).post.length := withC_len _ _;refine ⟨c - u.cs.length, by omega, by omega, ?_⟩;rw [cAt_nat hc];simp only [cs_with];rw [List.getElem_append_right h2, List.getElem_map]
theorem evT_old {N : Net} {u : Unf} {h : Ev} {e : Nat} (he : e < u.es.length) : evT (withI N u h) (e : Int) = evT u (e : Int) := by
 unfold evT;rw [Int.toNat_natCast, List.getD_eq_getElem?_getD, List.getD_eq_getElem?_getD];show ((u.es ++ [h])[e]?.getD _).t = _;rw [List.getElem?_append_left he]
theorem evT_new {N : Net} {u : Unf} {h : Ev} : evT (withI N u h) (u.es.length : Int) = h.t := by
 unfold evT;rw [Int.toNat_natCast, List.getD_eq_getElem?_getD];show ((u.es ++ [h])[u.es.length]?.getD _).t = _;rw [List.getElem?_append_right (Nat.le_refl _), Nat.sub_self]; rfl
theorem by_lt {u : Unf} (hw : WF u) {c : Nat} (hc : c < u.cs.length) : (cAt u (c : Int)).by_ < u.es.length := by
 rw [cAt_nat hc]; exact (hw.b _ (List.getElem_mem _)).2
theorem run_step (N : Net) (hN : NetS N) (m : List UInt8) (P : Nat) (u : Unf) (L A : List ES) (h : Ev) (hw : WF u) (hT : Tru u L A) (hf : fitsI N u h = true) (hw' : WF (withI N u h)) (hP : (∀ e : Nat, e < u.es.length → EvOk N u (e : Int)) ∧ BegOk m P u) : (∀ e : Nat, e < (withI N u h).es.length → EvOk N (withI N u h) (e : Int)) ∧ BegOk m P (withI N u h) := by
 obtain ⟨hE, hB⟩ := hP;obtain ⟨hin, _⟩ := fits_in hf;have hl : (withI N u h).cs.length = u.cs.length + (tAt N h.t).post.length := withC_len _ _;have hold : ∀ c : Nat, c < u.cs.length → cAt (withI N u h) (c : Int) = cAt u (c : Int) := fun c hc => cAt_old (by omega) (by omega)
 -- a condition not made by the new happening is an old one
 have hc_old : ∀ c : Nat, c < (withI N u h).cs.length → ¬ (cAt (withI N u h) (c : Int)).by_ = (u.es.length : Int) → c < u.cs.length := fun c hc hne => by
  rcases Nat.lt_or_ge c u.cs.length with q | q
  ·exact q
  obtain ⟨i, hi, _, e⟩ := cAt_new hc q;exact absurd (by rw [e]) hne
 refine ⟨fun e he => ?_, ⟨fun p h0 h1 => ?_, fun c d hc hd h1 h2 h3 => ?_⟩⟩
 ·rw [es_len] at he;rcases Nat.lt_or_ge e u.es.length with q | q
  ·have hEe := hE e q;refine ⟨by rw [evT_old q]; exact hEe.r, fun p => ?_, fun p => ?_, fun c d hc hd h1 h2 h3 => ?_⟩
   ·rw [evT_old q, evAt_old q, hEe.pre];constructor
    ·rintro ⟨c, hc, rfl⟩;have := evAt_in hw q c hc;exact ⟨c, hc, by rw [cAt_old this.1 this.2]⟩
    rintro ⟨c, hc, rfl⟩;have := evAt_in hw q c hc;exact ⟨c, hc, by rw [cAt_old this.1 this.2]⟩
   ·rw [evT_old q, hEe.post];constructor
    ·rintro ⟨c, hc, h1, h2⟩;exact ⟨c, by omega, by rw [hold c hc]; exact h1, by rw [hold c hc]; exact h2⟩
    rintro ⟨c, hc, h1, h2⟩;have hco := hc_old c hc (by omega);rw [hold c hco] at h1 h2;exact ⟨c, hco, h1, h2⟩
   have hco := hc_old c hc (by omega);have hdo := hc_old d hd (by omega);rw [hold c hco] at h1 h3;rw [hold d hdo] at h2 h3;exact hEe.one c d hco hdo h1 h2 h3
  obtain rfl : e = u.es.length := by omega
  refine ⟨by rw [evT_new]; exact fits_inR hf, fun p => ?_, fun p => ?_, fun c d hc hd h1 h2 h3 => ?_⟩
  ·rw [evT_new, evAt_new]
   have hpl : placesI u h.pre = (tAt N h.t).pre := by
    unfold fitsI fitC at hf;simp only [Bool.and_eq_true, decide_eq_true_eq] at hf;exact hf.2.2.1
   rw [← hpl, places_set, (setP_srtd (plK u h.pre)).2];unfold plK;rw [List.mem_map];constructor
   ·rintro ⟨c, hc, rfl⟩; exact ⟨c, hc, by rw [cAt_old (hin c hc).1 (hin c hc).2]⟩
   rintro ⟨c, hc, rfl⟩; exact ⟨c, hc, by rw [cAt_old (hin c hc).1 (hin c hc).2]⟩
  ·rw [evT_new];constructor
   ·intro hp;obtain ⟨i, hi, rfl⟩ := List.getElem_of_mem hp;have hci : u.cs.length + i < (withI N u h).cs.length := by omega
    obtain ⟨j, hj, e1, e2⟩ := cAt_new hci (Nat.le_add_right _ _);obtain rfl : i = j := by omega
    exact ⟨_, hci, by rw [e2], by rw [e2]⟩
   rintro ⟨c, hc, h1, h2⟩;rcases Nat.lt_or_ge c u.cs.length with q2 | q2
   ·rw [hold c q2] at h1;have := by_lt hw q2;omega
   obtain ⟨j, hj, e1, e2⟩ := cAt_new hc q2;rw [e2] at h2;rw [← h2];exact List.getElem_mem hj
  have hnew : ∀ c : Nat, c < (withI N u h).cs.length → (cAt (withI N u h) (c : Int)).by_ = (u.es.length : Int) → u.cs.length ≤ c := fun c hc h1 => by
   rcases Nat.lt_or_ge c u.cs.length with q2 | q2
   ·rw [hold c q2] at h1;have := by_lt hw q2;omega
   exact q2
  obtain ⟨i, hi, e1, e2⟩ := cAt_new hc (hnew c hc h1);obtain ⟨j, hj, e3, e4⟩ := cAt_new hd (hnew d hd h2);rw [e2, e4] at h3;have := inc_inj (rising_srtd (hN.t _ (tAt_mem (fits_inR hf))).2.2.2.2) hi hj h3;omega
 ·rw [hB.at49 p h0 h1];constructor
  ·rintro ⟨c, hc, h2, h3⟩;exact ⟨c, by omega, by rw [hold c hc]; exact h2, by rw [hold c hc]; exact h3⟩
  rintro ⟨c, hc, h2, h3⟩;have hco := hc_old c hc (by omega);rw [hold c hco] at h2 h3;exact ⟨c, hco, h2, h3⟩
 have hco := hc_old c hc (by omega);have hdo := hc_old d hd (by omega);rw [hold c hco] at h1 h3;rw [hold d hdo] at h2 h3;exact hB.one c d hco hdo h1 h2 h3
theorem good_run {N : Net} {m : List UInt8} {u : Unf} (h : Good N m u) : (∀ e : Nat, e < u.es.length → EvOk N u (e : Int)) ∧ BegOk m N.places.toNat u :=
 good_inv h (fun u => (∀ e : Nat, e < u.es.length → EvOk N u (e : Int)) ∧ BegOk m N.places.toNat u) ⟨fun e he => absurd he (Nat.not_lt_zero _), beg_zero m _⟩ (run_step N h.n m _)
def inCut (u : Unf) (S : List Int) (c : Nat) : Prop := c < u.cs.length ∧ ((cAt u (c : Int)).by_ < 0 ∨ (cAt u (c : Int)).by_ ∈ S) ∧ ∀ e, e ∈ S → ¬ (c : Int) ∈ evAt u e
structure St (P : Nat) (u : Unf) (S : List Int) (mk : List UInt8) : Prop where
 len : mk.length = P
 bits : mk.all bit = true
 at49 : ∀ p : Int, 0 ≤ p → p < P → (at0 mk p = 49 ↔ ∃ c, inCut u S c ∧ (cAt u (c : Int)).place = p)
 one : ∀ c d, inCut u S c → inCut u S d → (cAt u (c : Int)).place = (cAt u (d : Int)).place → c = d
theorem st_next {N : Net} {u : Unf} {S : List Int} {mk : List UInt8} {e : Nat} (hN : NetS N) (hw : WF u) (ho : Ord u) (hpl : PL N u) (hE : EvOk N u (e : Int)) (he : e < u.es.length) (hS : St N.places.toNat u S mk)
  (hlt : ∀ f, f ∈ S → 0 ≤ f ∧ f < (e : Int)) (hcl : ∀ c, c ∈ evAt u (e : Int) → (cAt u c).by_ < 0 ∨ (cAt u c).by_ ∈ S) (hfr : ∀ f, f ∈ S → ∀ c, c ∈ evAt u f → ¬ c ∈ evAt u (e : Int)) :
  (∀ p, p ∈ (tAt N (evT u (e : Int))).pre → at0 mk p = 49) ∧ ((fireT (tAt N (evT u (e : Int))) mk).2 = true → St N.places.toNat u (S ++ [(e : Int)]) (fireT (tAt N (evT u (e : Int))) mk).1) := by
 have hP := hN.p;obtain ⟨_, _, _, hr1, hr2⟩ := hN.t _ (tAt_mem hE.r);have hbp : ∀ p, p ∈ (tAt N (evT u (e : Int))).pre → 0 ≤ p ∧ p < mk.length := fun p hp => by have := rising_in hr1 p hp; rw [hS.len]; omega
 have hbq : ∀ p, p ∈ (tAt N (evT u (e : Int))).post → 0 ≤ p ∧ p < mk.length := fun p hp => by have := rising_in hr2 p hp; rw [hS.len]; omega
 have hev : ∀ c, c ∈ evAt u (e : Int) → ∃ i : Nat, c = i ∧ inCut u S i := fun c hc => by
  have h1 := evAt_in hw he c hc;refine ⟨c.toNat, by omega, by omega, ?_, fun f hf hm => ?_⟩
  ·rw [Int.toNat_of_nonneg h1.1]; exact hcl c hc
  rw [Int.toNat_of_nonneg h1.1] at hm;exact hfr f hf c hm hc
 have hplc : ∀ c : Nat, c < u.cs.length → 0 ≤ (cAt u (c : Int)).place ∧ (cAt u (c : Int)).place < (N.places.toNat : Int) := fun c hc => by
  rw [cAt_nat hc];have := hpl _ (List.getElem_mem hc);omega
 have hen : ∀ p, p ∈ (tAt N (evT u (e : Int))).pre → at0 mk p = 49 := fun p hp => by
  obtain ⟨c, hc, hcp⟩ := (hE.pre p).1 hp;obtain ⟨i, rfl, hi⟩ := hev c hc;have hb := hbp p hp;rw [hS.len] at hb;exact (hS.at49 p hb.1 hb.2).2 ⟨i, hi, hcp⟩
 refine ⟨hen, fun hok => ?_⟩;obtain ⟨t, ht⟩ := eqx (tAt N (evT u (e : Int)));have hpre := hE.pre;have hpost := hE.post;rw [← ht] at hok hbp hbq hen hpre hpost ⊢;unfold fireT at hok ⊢
 split at hok
 ·rename_i m' hm';dsimp only;have hcb := clear_bits t.pre hS.bits;have hpb := put_bits _ hcb hm';have hcA := clear_at t.pre mk hbp;have hpA := put_at t.post _ m' (fun p hp => by rw [clear_len]; exact hbq p hp) hm'
  -- an old condition that is not taken has a place that is not cleared
  have hkeep : ∀ c, inCut u S c → ¬ (c : Int) ∈ evAt u (e : Int) → ¬ (cAt u (c : Int)).place ∈ t.pre := fun c hc hn hp => by
   obtain ⟨d, hd, hdp⟩ := (hpre _).1 hp;obtain ⟨i, rfl, hi⟩ := hev d hd;have := hS.one c i hc hi hdp.symm;rw [this] at hn;exact hn hd
  have hcut : ∀ c, inCut u (S ++ [(e : Int)]) c ↔ ((inCut u S c ∧ ¬ (c : Int) ∈ evAt u (e : Int)) ∨ (c < u.cs.length ∧ (cAt u (c : Int)).by_ = (e : Int))) := fun c => by
   constructor
   ·rintro ⟨h1, h2, h3⟩;have h4 : ∀ f, f ∈ S → ¬ (c : Int) ∈ evAt u f := fun f hf => h3 f (List.mem_append_left _ hf)
    have h5 : ¬ (c : Int) ∈ evAt u (e : Int) := h3 _ (List.mem_append_right _ (List.mem_singleton_self _));rcases h2 with q | q
    ·exact .inl ⟨⟨h1, .inl q, h4⟩, h5⟩
    rcases List.mem_append.1 q with q | q
    ·exact .inl ⟨⟨h1, .inr q, h4⟩, h5⟩
    exact .inr ⟨h1, List.mem_singleton.1 q⟩
   rintro (⟨⟨h1, h2, h3⟩, h4⟩ | ⟨h1, h2⟩)
   ·refine ⟨h1, h2.imp id (List.mem_append_left _), fun f hf => ?_⟩;rcases List.mem_append.1 hf with q | q
    ·exact h3 f q
    rw [List.mem_singleton.1 q]; exact h4
   refine ⟨h1, .inr (List.mem_append_right _ (by rw [h2]; exact List.mem_singleton_self _)), fun f hf hm => ?_⟩
   have hfe : ∃ g : Nat, f = g ∧ g ≤ e := by
    rcases List.mem_append.1 hf with q | q
    ·have := hlt f q; exact ⟨f.toNat, by omega, by omega⟩
    exact ⟨e, List.mem_singleton.1 q, Nat.le_refl _⟩
   obtain ⟨g, rfl, hg⟩ := hfe;have := ho g _ (by omega) hm;omega
  refine ⟨by rw [hpb.2, clear_len]; exact hS.len, hpb.1, fun p h0 h1 => ?_, fun c d hc hd hcd => ?_⟩
  ·have e1 := (hpA p h0).1;rw [hcA p h0] at e1;constructor
   ·intro h49
    by_cases q1 : p ∈ t.post
    ·obtain ⟨c, g1, g2, g3⟩ := (hpost p).1 q1;exact ⟨c, (hcut c).2 (.inr ⟨g1, g2⟩), g3⟩
    rw [if_neg q1] at e1
    by_cases q2 : p ∈ t.pre
    ·rw [if_pos q2] at e1; omega
    rw [if_neg q2] at e1;obtain ⟨c, g1, g2⟩ := (hS.at49 p h0 h1).1 (by omega);exact ⟨c, (hcut c).2 (.inl ⟨g1, fun w => q2 ((hpre p).2 ⟨_, w, g2⟩)⟩), g2⟩
   rintro ⟨c, g1, g2⟩
   by_cases q1 : p ∈ t.post
   ·rw [if_pos q1] at e1; exact e1
   rw [if_neg q1] at e1;rcases (hcut c).1 g1 with ⟨w1, w2⟩ | ⟨w1, w2⟩
   ·have := hkeep c w1 w2;rw [g2] at this;rw [if_neg this] at e1;rw [e1];exact (hS.at49 p h0 h1).2 ⟨c, w1, g2⟩
   exact absurd ((hpost p).2 ⟨c, w1, w2, g2⟩) q1
  have hmix : ∀ c d, inCut u S c → ¬ (c : Int) ∈ evAt u (e : Int) → d < u.cs.length → (cAt u (d : Int)).by_ = (e : Int) → ¬ (cAt u (c : Int)).place = (cAt u (d : Int)).place := fun c d hc hn hd hb heq => by
   have hb0 := hplc c hc.1;have hq : (cAt u (c : Int)).place ∈ t.post := (hpost _).2 ⟨d, hd, hb, heq.symm⟩;have h2 := (hpA _ hb0.1).2 hq;rw [hcA _ hb0.1, if_neg (hkeep c hc hn)] at h2;exact h2 ((hS.at49 _ hb0.1 hb0.2).2 ⟨c, hc, rfl⟩)
  rcases (hcut c).1 hc with ⟨c1, c2⟩ | ⟨c1, c2⟩ <;> rcases (hcut d).1 hd with ⟨d1, d2⟩ | ⟨d1, d2⟩
  ·exact hS.one c d c1 d1 hcd
  ·exact absurd hcd (hmix c d c1 c2 d1 d2)
  ·exact absurd hcd.symm (hmix d c d1 d2 c1 c2)
  exact hE.one c d c1 d1 c2 d2 hcd
 cases hok
inductive Met (N : Net) (m : List UInt8) : List UInt8 → Prop
 | here : Met N m m
 | next {m' : List UInt8} {i : Nat} (h : i < N.ts.length) : Met N m m' → enabledI N.ts[i] m' = true → (fireT N.ts[i] m').2 = true → Met N m (fireT N.ts[i] m').1
def BadN (N : Net) (m : List UInt8) : Prop := ∃ (m' : List UInt8) (i : Nat) (h : i < N.ts.length), Met N m m' ∧ enabledI N.ts[i] m' = true ∧ (fireT N.ts[i] m').2 = false
theorem run_all {N : Net} {m : List UInt8} {u : Unf} {l : List Int} (hG : Good N m u) (hin : ∀ e, e ∈ l → 0 ≤ e ∧ e < u.es.length) (hs : srtd l) (hcl : ∀ e, e ∈ l → ∀ c, c ∈ evAt u e → (cAt u c).by_ < 0 ∨ (cAt u c).by_ ∈ l)
  (hfr : ∀ e f, e ∈ l → f ∈ l → e ≠ f → shareI (evAt u e) (evAt u f) = false) : ∀ (rest S : List Int) (mk : List UInt8) (j : Int), l = S ++ rest → St N.places.toNat u S mk → Met N m mk →
   ((fireSeq N mk (evTs u rest) j).2.2 = true ∧ St N.places.toNat u l (fireSeq N mk (evTs u rest) j).1 ∧ (fireSeq N mk (evTs u rest) j).2.1 = j + rest.length) ∨ ((fireSeq N mk (evTs u rest) j).2.2 = false ∧ BadN N m)
 | [], S, mk, j, hl, hS, _ => by
  rw [List.append_nil] at hl;subst hl;exact .inl ⟨rfl, hS, by show j = j + 0; omega⟩
 | x :: rest, S, mk, j, hl, hS, hM => by
  have hT := hG.tru;have hxl : x ∈ l := by rw [hl]; exact List.mem_append_right _ (List.mem_cons_self ..)
  have hx := hin x hxl;obtain ⟨e, rfl⟩ : ∃ e : Nat, x = e := ⟨x.toNat, by omega⟩;have he : e < u.es.length := by omega
  have hE := (good_run hG).1 e he
  have hss : ∀ f, f ∈ S → f < (e : Int) := fun f hf => by
   have h1 := hs;rw [hl] at h1;exact (List.pairwise_append.1 h1).2.2 f hf _ (List.mem_cons_self ..)
  have hres : ∀ f, f ∈ rest → (e : Int) < f := fun f hf => by
   have h1 := hs;rw [hl] at h1;exact (List.pairwise_cons.1 (List.pairwise_append.1 h1).2.1).1 f hf
  have hSl : ∀ f, f ∈ S → f ∈ l := fun f hf => by rw [hl]; exact List.mem_append_left _ hf
  obtain ⟨hen, hnx⟩ := st_next (N := N) (u := u) (S := S) (mk := mk) (e := e) hG.n hT.w.w hT.o hG.pl hE he hS (fun f hf => ⟨(hin f (hSl f hf)).1, hss f hf⟩) (fun c hc => by
   rcases hcl _ hxl c hc with q | q
   ·exact .inl q
   ·rw [hl] at q;rcases List.mem_append.1 q with q | q
    ·exact .inr q
    have h1 := hT.o e c he hc;rcases List.mem_cons.1 q with q | q
    ·omega
    have := hres _ q; omega) (fun f hf c hc hc2 => by
   have h1 := hfr f e (hSl f hf) hxl (by have := hss f hf; omega);have : shareI (evAt u f) (evAt u (e : Int)) = true := share_iff.2 ⟨c, hc, hc2⟩
   rw [h1] at this; cases this)
  obtain ⟨i, hti, hi⟩ := inR_nat hE.r;have hta : tAt N (evT u (e : Int)) = N.ts[i] := by rw [hti, tAt_nat hi]
  rw [hta] at hen hnx
  have hena : enabledI N.ts[i] mk = true := by
   unfold enabledI;rw [Bool.not_eq_true', List.any_eq_false];intro p hp q;have := hen p hp;have q := of_decide_eq_true q;omega
  have hfi : fireI N mk (evT u (e : Int)) = fireT N.ts[i] mk := by
   rw [hti];unfold fireI;rw [Int.toNat_natCast, List.getElem?_eq_getElem hi];dsimp only;rw [if_pos (by rw [hena, decide_eq_true (by omega), decide_eq_true (by omega)]; rfl)]
  have hstep : fireSeq N mk (evTs u ((e : Int) :: rest)) j = if (fireT N.ts[i] mk).2 then fireSeq N (fireT N.ts[i] mk).1 (evTs u rest) (j + 1) else (mk, j, false) := by
   show (if (fireI N mk (evT u (e : Int))).2 then fireSeq N (fireI N mk (evT u (e : Int))).1 (evTs u rest) (j + 1) else (mk, j, false)) = _;rw [hfi]
  rw [hstep];cases hok : (fireT N.ts[i] mk).2 with
  | false => exact .inr ⟨rfl, mk, i, hi, hM, hena, hok⟩
  | true =>
   rw [if_pos rfl];have hN2 := run_all hG hin hs hcl hfr rest (S ++ [(e : Int)]) (fireT N.ts[i] mk).1 (j + 1) (by rw [hl, List.append_assoc]; rfl) (hnx hok) (.next hi hM hena hok);rcases hN2 with ⟨g1, g2, g3⟩ | ⟨g1, g2⟩
   ·refine .inl ⟨g1, g2, ?_⟩;rw [g3, List.length_cons];omega
   exact .inr ⟨g1, g2⟩
theorem cut_mem {u : Unf} {l : List Int} {c : Int} : c ∈ cutI u l ↔ ∃ i : Nat, c = i ∧ inCut u l i := by
 unfold cutI cutK;rw [List.mem_map]
 have hq : ∀ i : Nat, i < u.cs.length → (cutQ u l i = true ↔ inCut u l i) := fun i hi => by
  unfold cutQ;rw [Bool.and_eq_true, Bool.or_eq_true, decide_eq_true_eq, hasI_mem, Bool.not_eq_true', Bool.eq_false_iff, ne_eq, used_iff];constructor
  ·rintro ⟨h1, h2⟩; exact ⟨hi, h1, fun e he hm => h2 ⟨e, he, hm⟩⟩
  rintro ⟨_, h1, h2⟩; exact ⟨h1, fun ⟨e, he, hm⟩ => h2 e he hm⟩
 constructor
 ·rintro ⟨i, hi, rfl⟩;obtain ⟨h1, h2⟩ := List.mem_filter.1 hi;exact ⟨i, rfl, (hq i (List.mem_range.1 h1)).1 h2⟩
 rintro ⟨i, rfl, hi⟩;exact ⟨i, List.mem_filter.2 ⟨List.mem_range.2 hi.1, (hq i hi.1).2 hi⟩, rfl⟩
theorem st_fin {N : Net} {u : Unf} {l : List Int} {mk : List UInt8} (hS : St N.places.toNat u l mk) : mk = finI N u l := by
 refine List.ext_getElem? fun p => ?_
 unfold finI;rcases Nat.lt_or_ge p N.places.toNat with q | q
 ·have hp : p < mk.length := by rw [hS.len]; exact q
  rw [finK_at q, List.getElem?_eq_getElem hp];congr 1;have hb := List.all_eq_true.1 hS.bits _ (List.getElem_mem hp);have hg : mk.getD p 0 = mk[p] := by rw [List.getD_eq_getElem?_getD, List.getElem?_eq_getElem hp]; rfl
  have hm := hS.at49 (p : Int) (by omega) (by omega);rw [at0_49, hg] at hm
  have hf : finQ u (cutI u l) p = true ↔ ∃ c, inCut u l c ∧ (cAt u (c : Int)).place = (p : Int) := by
   unfold finQ;rw [List.any_eq_true];constructor
   ·rintro ⟨c, hc, e⟩;obtain ⟨i, rfl, hi⟩ := cut_mem.1 hc;exact ⟨i, hi, of_decide_eq_true e⟩
   rintro ⟨c, hc, e⟩;exact ⟨c, cut_mem.2 ⟨c, rfl, hc⟩, decide_eq_true e⟩
  by_cases h : finQ u (cutI u l) p = true
  ·rw [if_pos h]; exact hm.2 (hf.1 h)
  rw [if_neg h];have h49 : ¬ mk[p] = 49 := fun w => h (hf.2 (hm.1 w))
  unfold bit at hb;simp only [Bool.or_eq_true, decide_eq_true_eq] at hb;rcases hb with w | w
  ·exact UInt8.toNat_inj.1 (by show _ = 48; omega)
  exact absurd (UInt8.toNat_inj.1 (by show _ = 49; omega)) h49
 rw [List.getElem?_eq_none (by rw [hS.len]; exact q), List.getElem?_eq_none (by rw [finK_len]; exact q)]
theorem run_conf {N : Net} {m : List UInt8} {u : Unf} {l : List Int} (hG : Good N m u) (hr : rising l 0 ((u.es.length : Int) - 1) = true) (hc : confI u l = true) :
  ((fireSeq N m (evTs u l) 0).2.2 = true ∧ (fireSeq N m (evTs u l) 0).1 = finI N u l ∧ (fireSeq N m (evTs u l) 0).2.1 = l.length) ∨ ((fireSeq N m (evTs u l) 0).2.2 = false ∧ BadN N m) := by
 have hT := hG.tru;unfold confI at hc;rw [Bool.and_eq_true, decide_eq_true_eq] at hc;obtain ⟨hp, hf⟩ := hc;have hs := rising_srtd hr;have hin : ∀ e, e ∈ l → 0 ≤ e ∧ e < u.es.length := fun e he => by have := rising_in hr e he; omega
 have hfr := (free_iff hT.w.w hT.d (srtd_nodup hs) hin).1 hf
 have hcl : ∀ e, e ∈ l → ∀ c, c ∈ evAt u e → (cAt u c).by_ < 0 ∨ (cAt u c).by_ ∈ l := fun e he c hc => by
  rcases Int.lt_or_le (cAt u c).by_ 0 with q | q
  ·exact .inl q
  rw [← hp] at he;obtain ⟨f, rfl, hrf⟩ := (mem_past hT.o).1 he;have : Rch u l (cAt u c).by_.toNat := .step hrf hc (by omega);have h2 := rch_in hT.o this;rw [hp, Int.toNat_of_nonneg q] at h2;exact .inr h2
 obtain ⟨_, hB⟩ := good_run hG;have hmp := hG.q
 have hS0 : St N.places.toNat u [] m := by
  refine ⟨by have := hG.n.p; omega, by have := hG.b; unfold bitsB at this; rw [Bool.and_eq_true] at this; exact this.1, fun p h0 h1 => ?_, fun c d h1 h2 h3 => ?_⟩
  ·rw [hB.at49 p h0 h1];constructor
   ·rintro ⟨c, g1, g2, g3⟩; exact ⟨c, ⟨g1, .inl g2, fun e he => absurd he List.not_mem_nil⟩, g3⟩
   rintro ⟨c, ⟨g1, g2, _⟩, g3⟩; exact ⟨c, g1, g2.resolve_right List.not_mem_nil, g3⟩
  exact hB.one c d h1.1 h2.1 (h1.2.1.resolve_right List.not_mem_nil) (h2.2.1.resolve_right List.not_mem_nil) h3
 rcases run_all hG hin hs hcl hfr l [] m 0 rfl hS0 .here with ⟨g1, g2, g3⟩ | ⟨g1, g2⟩
 ·exact .inl ⟨g1, st_fin g2, by rw [g3]; omega⟩
 exact .inr ⟨g1, g2⟩
def nI : List Int → DV
 | [] => .val (.slice none 0 0)
 | x :: l => vI (x :: l)
theorem nI_lead : ∀ l : List Int, DLead (vI l) (.d (nI l))
 | [] => .nil
 | _ :: _ => .same
theorem nI_ne : ∀ {l : List Int}, l ≠ [] → nI l = vI l
 | [], h => absurd rfl h
 | _ :: _, _ => rfl
abbrev nIs (l : List (List Int)) : List (List DV) := l.map fun x => [nI x]
abbrev vNs (l : List (List Int)) : DV := .view 36 1 (nIs l)
theorem nIs_len (l : List (List Int)) : (nIs l).length = l.length := List.length_map _
theorem nIs_get {l : List (List Int)} {k : Nat} (h : k < l.length) : (nIs l)[k]? = some [nI l[k]] := by rw [List.getElem?_map, List.getElem?_eq_getElem h]; rfl
theorem h_appendN (acc : List (List Int)) (z : List Int) (hz : z ≠ []) {s : ASt} {dst : Option Nat} {ty : Nat} {pos : String} {af : Array Edge} {gd : Option (Nat × Bool)} {x y : Operand} {f : Nat} {ids ids2 : List Nat} {gone : List (Nat × Option Chunk)}
  (hto : AppTo s x 36 1 (nIs acc) ids gone) (harg : AppArg s y 1 [[vI z]] ids2) (h : acc.length + 1 ≤ 100000000) :
  NOp Tryz.prog (ids ++ ids2) s ⟨dst, .call { callee := .builtin .append, args := #[x, y], argTypes := #[168, 168] }, ty, pos, af, gd⟩ f ⟨.own f (acc ++ [z]).length, (f, some (.arr 36 1 (nIs (acc ++ [z])))) :: gone⟩ := by
 have hl : (acc ++ [z]).length = acc.length + 1 := by rw [List.length_append]; rfl
 have := h_append (P := Tryz.prog) (s := s) (dst := dst) (ty := ty) (pos := pos) (af := af) (gd := gd) (x := x) (y := y) (f := f) (t := 168) (tx := 168) (k := (acc ++ [z]).length) rfl rfl rfl rfl rfl rfl hto harg (by rw [hl, nIs_len]; rfl) (by omega) (by show (acc ++ [z]).length * 24 ≤ _; omega) (fun _ => by show 0 < 1; omega);have e : nIs acc ++ [[vI z]] = nIs (acc ++ [z]) := by unfold nIs; rw [List.map_append, List.map_cons, List.map_nil, nI_ne hz]
 rwa [e] at this
theorem putI_ne (l : List Int) (x : Int) : putI l x ≠ [] := by
 intro h;have := putI_len l x;unfold putI at h
 split at h
 ·rename_i q;rw [h] at q;simp at q
 simp at h
def chO (u : Unf) (p : Int) (l : List Int) (k : Nat) : List (List Int) := ((List.range k).filter fun (c : Nat) => decide ((cAt u (c : Int)).place = p) && togI u (putI l (c : Int))).map fun (c : Nat) => putI l (c : Int)
theorem chO_succ (u : Unf) (p : Int) (l : List Int) (k : Nat) : chO u p l (k + 1) = chO u p l k ++ (if (decide ((cAt u (k : Int)).place = p) && togI u (putI l (k : Int))) = true then [putI l (k : Int)] else []) := by
 unfold chO;rw [List.range_succ, List.filter_append, List.map_append];congr 1;rw [List.filter_cons, List.filter_nil]
 split <;> rfl
theorem chO_len (u : Unf) (p : Int) (l : List Int) (k : Nat) : (chO u p l k).length ≤ k := by
 unfold chO;rw [List.length_map];exact Nat.le_trans (List.length_filter_le _ _) (by rw [List.length_range]; exact Nat.le_refl _)
def chN (u : Unf) (p : Int) (out : List (List Int)) (j : Nat) : List (List Int) := (out.take j).flatMap fun l => chO u p l u.cs.length
theorem chN_succ {u : Unf} {p : Int} {out : List (List Int)} {j : Nat} (h : j < out.length) : chN u p out (j + 1) = chN u p out j ++ chO u p out[j] u.cs.length := by
 unfold chN;rw [List.take_add_one, List.getElem?_eq_getElem h, List.flatMap_append];simp
theorem chN_len (u : Unf) (p : Int) (out : List (List Int)) : ∀ j, j ≤ out.length → (chN u p out j).length ≤ j * u.cs.length
 | 0, _ => Nat.le_of_eq (by rw [Nat.zero_mul]; rfl)
 | j + 1, h => by
  rw [chN_succ h, List.length_append, Nat.succ_mul];exact Nat.add_le_add (chN_len u p out j (Nat.le_of_succ_le h)) (chO_len ..)
def chF (u : Unf) (ps : List Int) : List (List Int) := ps.foldl (fun out p => chN u p out out.length) [[]]
theorem chF_succ {u : Unf} {ps : List Int} {i : Nat} (h : i < ps.length) : chF u (ps.take (i + 1)) = chN u ps[i] (chF u (ps.take i)) (chF u (ps.take i)).length := by
 unfold chF;rw [List.take_add_one, List.getElem?_eq_getElem h, List.foldl_append]; rfl
def ChOk (u : Unf) (i : Nat) (out : List (List Int)) : Prop := ∀ l, l ∈ out → srtd l ∧ l.length ≤ i ∧ ∀ c, c ∈ l → 0 ≤ c ∧ c < u.cs.length
theorem put_ok {u : Unf} {i : Nat} {l : List Int} {k : Nat} (hk : k < u.cs.length) (h : srtd l ∧ l.length ≤ i ∧ ∀ c, c ∈ l → 0 ≤ c ∧ c < u.cs.length) : srtd (putI l (k : Int)) ∧ (putI l (k : Int)).length ≤ i + 1 ∧ ∀ c, c ∈ putI l (k : Int) → 0 ≤ c ∧ c < u.cs.length := by
 obtain ⟨h1, h2⟩ := putI_srtd h.1 (k : Int);refine ⟨h1, Nat.le_trans (putI_len _ _) (by omega), fun c hc => ?_⟩;rcases (h2 c).1 hc with q | q
 ·exact h.2.2 c q
 omega
theorem chN_ok {u : Unf} {p : Int} {i j : Nat} {out : List (List Int)} (h : ChOk u i out) : ChOk u (i + 1) (chN u p out j) := by
 intro z hz;obtain ⟨l, hl, hz⟩ := List.mem_flatMap.1 hz;obtain ⟨c, hc, rfl⟩ := List.mem_map.1 hz;exact put_ok (List.mem_range.1 (List.mem_filter.1 hc).1) (h l (List.mem_of_mem_take hl))
theorem chF_ok (u : Unf) (ps : List Int) : ∀ i, i ≤ ps.length → ChOk u i (chF u (ps.take i))
 | 0, _ => fun l hl => by
  have : l = [] := List.mem_singleton.1 hl;subst this;exact ⟨List.Pairwise.nil, Nat.le_refl _, fun c hc => absurd hc List.not_mem_nil⟩
 | i + 1, h => by rw [chF_succ h]; exact chN_ok (chF_ok u ps i (Nat.le_of_succ_le h))
theorem chF_len (u : Unf) (ps : List Int) : ∀ i, i ≤ ps.length → (chF u (ps.take i)).length ≤ u.cs.length ^ i
 | 0, _ => Nat.le_refl _
 | i + 1, h => by
  rw [chF_succ h, Nat.pow_succ];exact Nat.le_trans (chN_len u _ _ _ (Nat.le_refl _)) (Nat.mul_le_mul_right _ (chF_len u ps i (Nat.le_of_succ_le h)))
theorem pow_200 {n i : Nat} (h : n ≤ 200) (hi : i ≤ 3) : n ^ i ≤ 8000000 := Nat.le_trans (Nat.pow_le_pow_left h i) (Nat.le_trans (Nat.pow_le_pow_right (by decide) hi) (by decide))
set_option maxHeartbeats 16000000 in
theorem l7Choices_spec (u : Unf) (ps : List Int) (hw : WF u) (hc : u.cs.length ≤ 200) (hp : ps.length ≤ 3) : ASpec Tryz.prog 142 [unfA u, .d (vI ps)] [] (Pure1 (.d (vNs (chF u ps)))) := by
 refine ASpec.of Tryz.func142 rfl rfl fun C hC => ?_
 refine AC.seq (AC.region ?_);refine kD ?_;refine za ?_;refine AL.nil (th_n (AC.seq (AC.region ?_)));refine AL.q (by exact h_litF rfl rfl rfl rfl rfl rfl rfl rfl) rfl ?_;refine za ?_;refine AL.nil (th_n (AC.seq (AC.seq (AC.region ?_))));refine zm ?_;refine kI ps.length (ints_len _) ?_;refine zm ?_;refine AL.nil (th_n (AC.block ?_));refine AC.loop (ι := Nat) (fun i => ⟨54, 300, [(2, .d (.ref (unfD u))), (5, .d (vNs (chF u (ps.take i)))), (15, .d (vI ps)), (16, aI ps.length), (17, aI i)], []⟩) (fun i => i ≤ ps.length) (fun i => ps.length - i) (0) ?_ (Nat.zero_le _) ?_
 ·exact Weak.ren _ [] hC rfl (by repeat (first | exact True.intro | refine And.intro ?_ ?_ | exact DLead.same)) (by repeat (exact True.intro)) rfl rfl rfl
 intro i hi;refine AC.seq (AC.region ?_);refine zc ?_;refine AL.nil (th_n (AC.seq ?_));refine AC.condD rfl (fun h0 => ?_) (fun h0 => ?_)
 ·refine AC.skip (th_n (AC.seq (AC.block (AC.seq ?_))));have hi1 : i < ps.length := by omega
  have hgp := ints_at hi1;have hsn := chF_succ (u := u) hi1;have hok := chF_ok u ps i hi;have hln := chF_len u ps i hi;have hln2 := chF_len u ps (i + 1) hi1;have hpw := pow_200 (i := i) hc (by omega);have hpw2 := pow_200 (i := i + 1) hc (by omega);obtain ⟨out, ho⟩ := eqx (chF u (ps.take i));rw [← ho] at hok hln hsn ⊢;obtain ⟨p, hpp⟩ := eqx (ps[i]);rw [← hpp] at hgp hsn;have hcl := chN_len u p out;have hmul : ∀ j, j < out.length → (j + 1) * u.cs.length ≤ 8000000 := fun j hj => Nat.le_trans (Nat.mul_le_mul_right _ (Nat.le_trans hj hln)) (by rw [Nat.pow_succ] at hpw2; exact hpw2)
  refine AC.region ?_;refine AL.p (by exact g_ia_view rfl rfl rfl rfl rfl (by rfl) (by assumption)) rfl ?_;refine zr ?_;refine za ?_;refine AL.nil (th_n (AC.seq (AC.region ?_)));refine za ?_;refine AL.nil (th_n (AC.seq (AC.seq (AC.region ?_))));refine zm ?_;refine kI out.length (nIs_len _) ?_;refine zm ?_;refine AL.nil (th_n (AC.block ?_));refine AC.loop (ι := Nat) (fun j => ⟨54, 600, [(2, .d (.ref (unfD u))), (7, aI p), (8, .own 100 (chN u p out j).length), (15, .d (vI ps)), (16, aI ps.length), (17, aI i), (21, .d (vNs out)), (22, aI out.length), (23, aI j)], [(100, some (.arr 36 1 (nIs (chN u p out j))))]⟩) (fun j => j ≤ out.length) (fun j => out.length - j) (0) ?_ (Nat.zero_le _) ?_
  ·exact (Weak.nilOwn (i := 8) (e := 36) (sz := 1) rfl (by decide)).trans (zw [(100, _)] hC)
  intro j hj;refine AC.seq (AC.region ?_);refine zc ?_;refine AL.nil (th_n (AC.seq ?_));refine AC.condD rfl (fun h1 => ?_) (fun h1 => ?_)
  ·refine AC.skip (th_n (AC.seq (AC.block (AC.seq ?_))));have hj1 : j < out.length := by omega
   have hgl := nIs_get hj1;have hlj := hok _ (List.getElem_mem hj1);have hsj := chN_succ (u := u) (p := p) hj1;have hcj := hcl j hj;have hmj := hmul j hj1;rw [Nat.succ_mul] at hmj;obtain ⟨l, hl⟩ := eqx (out[j]);rw [← hl] at hgl hlj hsj;obtain ⟨B, hB⟩ := eqx (chN u p out j);rw [← hB] at hsj hcj ⊢;refine AC.region ?_;refine AL.p (by exact g_ia_view rfl rfl rfl rfl rfl (by rfl) (by assumption)) rfl ?_;refine zr ?_;refine za ?_;refine AL.nil (th_n (AC.seq (AC.region ?_)));refine zf ?_;refine zr ?_;refine kH ?_;refine zm ?_;refine AL.nil (th_n (AC.block ?_));refine AC.loop (ι := Nat) (fun k => ⟨54, 900, [(2, .d (.ref (unfD u))), (7, aI p), (8, .own 100 (B ++ chO u p l k).length), (10, .d (vI l)), (15, .d (vI ps)), (16, aI ps.length), (17, aI i), (21, .d (vNs out)), (22, aI out.length), (23, aI j), (28, .d (vCs u.cs)), (29, aI u.cs.length), (30, aI k)], [(100, some (.arr 36 1 (nIs (B ++ chO u p l k))))]⟩) (fun k => k ≤ u.cs.length) (fun k => u.cs.length - k) (0) ?_ (Nat.zero_le _) ?_
   ·refine Weak.ren _ [(100, 100)] hC rfl ?_ (by rw [show chO u p l 0 = [] from rfl, List.append_nil]; repeat (first | exact True.intro | refine And.intro ?_ ?_ | exact rfl | refine ⟨_, _, rfl, rfl, ?_⟩)) rfl rfl rfl; rw [show chO u p l 0 = [] from rfl, List.append_nil]; repeat (first | exact True.intro | refine And.intro ?_ ?_ | exact DLead.same | exact nI_lead _ | exact rfl | refine ⟨_, rfl, ?_⟩)
   intro k hk;refine AC.seq (AC.region ?_);refine zc ?_;refine AL.nil (th_n (AC.seq ?_));refine AC.condD rfl (fun h2 => ?_) (fun h2 => ?_)
   ·refine AC.skip (th_n (AC.seq (AC.block (AC.seq ?_))));have hk1 : k < u.cs.length := by omega
    have hgc := condsL_get hk1;have hcv : cAt u (k : Int) = u.cs[k] := cAt_nat hk1;have hks := chO_succ u p l k;rw [hcv] at hks;have hkl := chO_len u p l k;have hpo := put_ok hk1 hlj;have hP1 := l1Put_spec l (k : Int) (by omega);have hne := putI_ne l (k : Int);obtain ⟨z, hz⟩ := eqx (putI l (k : Int));rw [← hz] at hks hpo hP1 hne;have hT := l7Together_spec u z hw (by omega) hpo.2.2;obtain ⟨b, hb⟩ := eqx (togI u z);rw [← hb] at hks hT;refine AC.region ?_;refine zm ?_;refine AL.p (by exact g_ia_view rfl rfl rfl rfl rfl (by rfl) (by assumption)) rfl ?_;refine kG ?_;refine kE ?_;refine za ?_;refine zs ?_;refine AL.nil (th_n (AC.seq (AC.seq (AC.region ?_))));refine zF ?_;refine zl ?_;refine zm ?_;refine zc ?_;refine AL.nil (th_n ?_);refine AC.condND rfl (fun h3 => ?_) (fun h3 => ?_)
    ·refine AC.exit (th_e (ib_y (th_n (AC.region ?_))));refine zA ?_;refine zm ?_;refine AL.nil (th_n ?_)
     (have q2 : ¬ u.cs[k].place = p := (by assumption); rw [decide_eq_false q2, Bool.false_and, if_neg (by decide), List.append_nil] at hks; exact ⟨k + 1, by omega, by omega, zw [(100, 100)] hC (by rw [hks]; repeat (first | exact True.intro | refine And.intro ?_ ?_ | exact DLead.same | exact rfl | refine ⟨_, rfl, ?_⟩)) (by rw [hks]; repeat (first | exact True.intro | refine And.intro ?_ ?_ | exact rfl | refine ⟨_, _, rfl, rfl, ?_⟩))⟩)
    refine AC.skip (th_n (AC.seq (AC.region ?_)));refine zm ?_;refine zm ?_;refine kV en_l1Put hP1 ?_;refine za ?_;refine AL.nil (th_n (AC.seq (AC.region ?_)));refine kG ?_;refine zm ?_;refine kV en_l7Together hT ?_;refine AL.nil (th_n ?_);refine AC.condB rfl (fun h4 => ?_) (fun h4 => ?_)
    ·refine AC.region ?_;refine kB ?_;refine zm ?_;refine AL.q (by exact h_litF rfl rfl rfl rfl rfl rfl rfl rfl) rfl ?_;refine AL.q (by exact h_appendN (B ++ chO u p l k) z hne (.own rfl rfl (nIs_len _).symm) (.view rfl) (by rw [List.length_append]; omega)) rfl ?_;refine AL.p (by exact as2 rfl) rfl ?_;refine AL.nil (ib_n (th_n (AC.region ?_)));refine zA ?_;refine zm ?_;refine AL.nil (th_n ?_)
     (have q1 := ‹b = true›; have q2 : u.cs[k].place = p := (by assumption); rw [q1, decide_eq_true q2, Bool.true_and, if_pos rfl] at hks; exact ⟨k + 1, by omega, by omega, zw [(100, _)] hC (by rw [hks, ← List.append_assoc]; repeat (first | exact True.intro | refine And.intro ?_ ?_ | exact DLead.same | exact rfl | refine ⟨_, rfl, ?_⟩)) (by rw [hks, ← List.append_assoc]; repeat (first | exact True.intro | refine And.intro ?_ ?_ | exact rfl | refine ⟨_, _, rfl, rfl, ?_⟩))⟩)
    refine AC.skip (ib_n (th_n (AC.region ?_)));refine zA ?_;refine zm ?_;refine AL.nil (th_n ?_)
    (have q1 := ‹b = false›; rw [q1, Bool.and_false, if_neg (by decide), List.append_nil] at hks; exact ⟨k + 1, by omega, by omega, zw [(100, 100)] hC (by rw [hks]; repeat (first | exact True.intro | refine And.intro ?_ ?_ | exact DLead.same | exact rfl | refine ⟨_, rfl, ?_⟩)) (by rw [hks]; repeat (first | exact True.intro | refine And.intro ?_ ?_ | exact rfl | refine ⟨_, _, rfl, rfl, ?_⟩))⟩)
   refine AC.exit (th_e (th_e (ib_y (ib_n (th_n (AC.region ?_))))));refine zA ?_;refine zm ?_;refine AL.nil (th_n ?_);have hkk : k = u.cs.length := by omega
   subst hkk;exact ⟨j + 1, by omega, by omega, zw [(100, 100)] hC (by rw [hsj]; repeat (first | exact True.intro | refine And.intro ?_ ?_ | exact DLead.same | exact rfl | refine ⟨_, rfl, ?_⟩)) (by rw [hsj]; repeat (first | exact True.intro | refine And.intro ?_ ?_ | exact rfl | refine ⟨_, _, rfl, rfl, ?_⟩))⟩
  refine AC.exit (th_e (th_e (ib_y (th_n ?_))));have hjj : j = out.length := by omega
  rw [hjj, ← hsn];refine AC.weak (Weak.freeze (els := nIs (chF u (ps.take (i + 1)))) (i := 8) rfl rfl (Nat.le_of_eq (nIs_len _).symm) (List.take_of_length_le (Nat.le_of_eq (nIs_len _)))) ?_;refine AC.region ?_;refine zm ?_;refine za ?_;refine AL.nil (ib_n (th_n (AC.region ?_)));refine zA ?_;refine zm ?_;refine AL.nil (th_n ?_);exact ⟨i + 1, by omega, by omega, Weak.ren _ [] hC rfl (by repeat (first | exact True.intro | refine And.intro ?_ ?_ | exact DLead.same)) (by repeat (exact True.intro)) rfl rfl rfl⟩
 refine AC.exit (th_e (th_e (ib_y (th_n (AC.seq ?_)))));have hii : i = ps.length := by omega
 rw [hii, List.take_length];refine AC.region ?_;refine zm ?_;refine za ?_;refine AL.nil (th_n (AC.ret (bq_r ?_)));exact ret1 rfl rfl
theorem en_l7Choices : Enters Tryz.prog 142 := enters_of Tryz.func142 rfl rfl
end Go.Proofs.YtbiinjejokhfgaaGreat
