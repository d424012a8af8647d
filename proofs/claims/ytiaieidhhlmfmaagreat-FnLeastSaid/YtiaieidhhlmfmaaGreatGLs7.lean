/- Contracts of the functions of the program and of the reference, each proved by a walk through its code. -/
import Derived.Test.YtiaieidhhlmfmaaGreatGLs6
set_option linter.all false
set_option maxRecDepth 20000
namespace Go.Proofs.YtiaieidhhlmfmaaGreat
open Go.RowKit
def delT (l : List Tx) (i : Nat) : List Tx := l.take i ++ l.drop (i + 1)
theorem delT_len {l : List Tx} {i : Nat} (hi : i < l.length) : (delT l i).length = l.length - 1 := by unfold delT; rw [List.length_append, List.length_take, List.length_drop]; omega
set_option maxHeartbeats 4000000 in
theorem deleteStr_spec (l : List Tx) (i : Nat) (hi : i < l.length) (hl : l.length ≤ 100000) : ASpec Tryz.prog 61 [.own 0 l.length, aI (i : Int), aI ((i : Int) + 1)] [(0, .arr 9 1 (strsL l))] (Fun1 (.own 0 (l.length - 1)) [(0, .arr 9 1 (strsL (delT l i)))]) := by
 have hsl := strsL_len l
 have e1 : ((strsL l).drop (i + 1)).take (l.length - (i + 1)) = strsL (l.drop (i + 1)) := by
  unfold strsL;rw [← List.map_drop, List.take_of_length_le (by rw [List.length_map, List.length_drop]; exact Nat.le_refl _)]
 have hnl : (strsL (l.drop (i + 1))).length = l.length - (i + 1) := by rw [strsL_len, List.length_drop]
 have e2 : (strsL l).take i ++ strsL (l.drop (i + 1)) ++ (strsL l).drop (i + (strsL (l.drop (i + 1))).length) = strsL (delT l i ++ l.drop (l.length - 1)) := by
  rw [hnl, show i + (l.length - (i + 1)) = l.length - 1 by omega];unfold strsL delT;rw [List.map_append, List.map_append, List.map_take, List.map_drop, List.map_drop]
 have hdl := delT_len hi
 have e3 : (strsL (delT l i ++ l.drop (l.length - 1))).take (l.length - 1) = strsL (delT l i) := by
  unfold strsL;rw [List.map_append, List.take_left' (by rw [List.length_map]; exact hdl)]
 refine ASpec.of Tryz.func61 rfl rfl fun C hC => ?_
 refine AC.seq (AC.region ?_);refine za ?_;refine AL.nil (th_n (AC.seq (AC.region ?_)));refine kB ?_;refine zm ?_;refine zm ?_;refine kB ?_;refine AL.p (by exact g_len_own (sz := 1) (els := []) (e' := 0) rfl rfl (by simp only [maxLen]; omega)) rfl ?_;refine AL.p (by exact g_slice3_dead (l := i) (h := i + 1) (m0 := l.length) rfl rfl rfl rfl rfl rfl rfl rfl (by omega) rfl rfl (by omega) (by omega) (by rw [hsl]; exact Nat.le_refl _)) rfl ?_;refine AL.nil (th_n (AC.seq (AC.seq (AC.region ?_))));refine zm ?_;refine zm ?_;refine zc ?_;refine AL.nil (th_n ?_);refine AC.condD rfl (fun h0 => ?_) (fun h0 => ?_)
 ·refine AC.seq ?_;exact absurd h0 (by omega)
 refine AC.skip (th_n (AC.seq (AC.region ?_)));refine kB ?_;refine AL.p (by exact g_len_own (sz := 1) (els := []) (e' := 0) rfl rfl (by simp only [maxLen]; omega)) rfl ?_;refine za ?_;refine AL.nil (th_n (AC.seq ?_));refine AC.drawn' mixed_ok [[], [], [0,1], [], [], [3,4], [0,1,2,3,4,5], [0,1,2,3,4,5,6]] (by decide) ?_;refine zd 0 [] 8 (by exact mv2 rfl) ?_;refine zd 1 [] 8 (by exact mv1 rfl) ?_;refine zd 2 [0,1] 8 (by exact g_slice_own (els := strsL l) (e' := 9) (sz := 1) rfl rfl rfl rfl (.some rfl rfl) (by rw [hsl]; omega)) ?_;refine zd 3 [] 8 (by exact mv2 rfl) ?_;refine zd 4 [] 8 (by exact mv1 rfl) ?_;refine zd 5 [3,4] 8 (by exact g_slice_part (els := strsL l) (e' := 9) (sz := 1) (l := i + 1) (h := l.length) rfl rfl rfl rfl rfl (.some rfl (by omega)) .none (by omega) (by rw [hsl]; exact Nat.le_refl _) rfl rfl) ?_;refine zh 6 [0,1,2,3,4,5] 8 (by exact h_appendIn (new := strsL (l.drop (i + 1))) (els := strsL l) (e' := 9) (sz := 1) rfl rfl rfl rfl rfl rfl (.part rfl rfl rfl (by rw [hsl]; omega) e1) (by rw [hsl]; omega) (by rw [hsl, hnl]; omega) rfl) ?_;refine zd 7 [0,1,2,3,4,5,6] 8 (by exact as2 rfl) ?_;refine zj 8 ?_;refine th_n (AC.seq ?_);refine AC.weak (t := ⟨33, 300, [(0, .own 0 (i + (strsL (l.drop (i + 1))).length)), (7, aI l.length)], [(0, some (.arr 9 1 (strsL (delT l i ++ l.drop (l.length - 1)))))]⟩) (zw [] hC (b := by rw [← e2]; repeat (first | exact True.intro | refine And.intro ?_ ?_ | exact rfl | refine ⟨_, _, rfl, rfl, ?_⟩))) ?_;rw [hnl, show i + (l.length - (i + 1)) = l.length - 1 by omega];refine AC.region ?_;refine kB ?_;refine kB ?_;refine AL.p (by exact g_len_own (sz := 1) (els := []) (e' := 0) rfl rfl (by simp only [maxLen]; omega)) rfl ?_;refine zm ?_;refine AL.p (by exact g_slice_part (els := strsL (delT l i ++ l.drop (l.length - 1))) (e' := 9) (sz := 1) (l := l.length - 1) (h := l.length) (q := 1) rfl rfl rfl rfl rfl (.some rfl rfl) (.some rfl rfl) (by omega) (by rw [strsL_len, List.length_append, hdl, List.length_drop]; omega) rfl (by omega)) rfl ?_;refine AL.q (by exact h_clear (i := l.length - 1) (q := 1) (els := strsL (delT l i ++ l.drop (l.length - 1))) (e' := 9) (sz := 1) rfl rfl rfl rfl rfl rfl (by decide) (by rw [strsL_len, List.length_append, hdl, List.length_drop]; omega)) rfl ?_;refine AL.nil (th_n (AC.seq (AC.region ?_)));refine kB ?_;refine AL.p (by exact as2 rfl) rfl ?_;refine AL.nil (th_n (AC.ret (bq_r ?_)));exact retN [] rfl (by repeat (first | exact rfl | refine ⟨_, rfl, ?_⟩)) (by rw [← e3]; repeat (first | exact True.intro | refine And.intro ?_ ?_ | exact rfl | refine ⟨_, _, rfl, rfl, ?_⟩)) rfl rfl
theorem en_deleteStr : Enters Tryz.prog 61 := enters_of Tryz.func61 rfl rfl
def irrR (n : Int) (on l : List Tx) : List Tx × Bool := if (onoffB n on [] && cvB n l && covAll l on) = true then (irrT on [] l, true) else ([], false)
theorem irr_go {on pre xs : List Tx} {x : Tx} (h : covAll (pre ++ xs) on = true) : irrT on pre (x :: xs) = irrT on pre xs := by rw [irrT, if_pos h]
theorem irr_no {on pre xs : List Tx} {x : Tx} (h : ¬ covAll (pre ++ xs) on = true) : irrT on pre (x :: xs) = irrT on (pre ++ [x]) xs := by rw [irrT, if_neg h]
structure IrI (on l0 : List Tx) (y : List Tx × Nat) : Prop where
 le : y.2 ≤ y.1.length
 len : y.1.length ≤ l0.length
 mem : ∀ c, c ∈ y.1 → c ∈ l0
 same : irrT on (y.1.take y.2) (y.1.drop y.2) = irrT on [] l0
theorem irr_beg (on l : List Tx) : IrI on l (l, 0) := ⟨Nat.zero_le _, Nat.le_refl _, fun _ h => h, rfl⟩
theorem irr_end {on l0 l : List Tx} {i : Nat} (h : IrI on l0 (l, i)) (hi : i = l.length) : l = irrT on [] l0 := by
 have := h.same;dsimp only at this;rw [hi, List.take_length, List.drop_length, irrT] at this;exact this
theorem delT_mem {l : List Tx} {i : Nat} {c : Tx} (h : c ∈ delT l i) : c ∈ l := by
 rcases List.mem_append.1 h with q | q
 ·exact List.mem_of_mem_take q
 exact List.mem_of_mem_drop q
theorem irr_del {on l0 l : List Tx} {i : Nat} (h : IrI on l0 (l, i)) (hi : i < l.length) (hc : covAll (delT l i) on = true) : IrI on l0 (delT l i, i) := by
 have hs := h.same;have hln := h.len;dsimp only at hs hln;have ht : (delT l i).take i = l.take i := List.take_left' (by rw [List.length_take]; omega);have hd : (delT l i).drop i = l.drop (i + 1) := List.drop_left' (by rw [List.length_take]; omega);have hle := delT_len hi;refine ⟨by dsimp only; omega, by dsimp only; omega, fun c hm => h.mem c (delT_mem hm), ?_⟩;dsimp only;rw [ht, hd, ← hs, List.drop_eq_getElem_cons hi, irr_go hc]
theorem irr_keep {on l0 l : List Tx} {i : Nat} (h : IrI on l0 (l, i)) (hi : i < l.length) (hc : ¬ covAll (delT l i) on = true) : IrI on l0 (l, i + 1) := by
 have hs := h.same;dsimp only at hs;refine ⟨hi, h.len, h.mem, ?_⟩;dsimp only;rw [← hs, List.drop_eq_getElem_cons hi, irr_no hc, List.take_add_one, List.getElem?_eq_getElem hi]
 rfl
set_option maxHeartbeats 16000000 in
theorem iIrr_spec (n : Int) (on l : List Tx) (hl : on.length ≤ 1000000) (hl3 : l.length ≤ 1000000) (hb : ∀ c, c ∈ on → c.length ≤ 2000000) (hb3 : ∀ c, c ∈ l → c.length ≤ 2000000) : ASpec Tryz.prog 24 [aI n, .d (vSs on), .d (vSs l)] [] (Pure1 (.tup [.d (vSs (irrR n on l).1), aT (irrR n on l).2])) := by
 have hO := iOnOff_spec n on [] hl (by simp) hb (fun c h => absurd h List.not_mem_nil);have hV := iCov_spec n l hl3 hb3;have hin := @icv_in n on [] l
 have hA : onoffB n on [] = true → cvB n l = true → ASpec Tryz.prog 48 [.d (vSs l), .d (vSs on)] [] (Pure1 (aT (covAll l on))) := fun h1 h2 => by
  obtain ⟨g1, g2, g3, g4, g5, g6, g7⟩ := icv_in h1 h2;exact coversAll_spec l on hl3 hl hb g6
 have hR : irrR n on l = if (onoffB n on [] && cvB n l && covAll l on) = true then (irrT on [] l, true) else ([], false) := rfl
 obtain ⟨b1, e1⟩ := eqx (onoffB n on []);obtain ⟨b2, e2⟩ := eqx (cvB n l);obtain ⟨b3, e3⟩ := eqx (covAll l on);rw [← e1, ← e2, ← e3] at hR;rw [← e1] at hO;rw [← e2] at hV;rw [← e1, ← e2, ← e3] at hA;rw [← e1, ← e2] at hin;obtain ⟨R, hRR⟩ := eqx (irrR n on l);rw [← hRR] at hR ⊢;have hno1 : b1 = false → R = ([], false) := fun q => hR.trans (if_neg (by rw [q, Bool.false_and, Bool.false_and]; decide))
 have hno2 : b2 = false → R = ([], false) := fun q => hR.trans (if_neg (by rw [q, Bool.and_false, Bool.false_and]; decide))
 have hno3 : b3 = false → R = ([], false) := fun q => hR.trans (if_neg (by rw [q, Bool.and_false]; decide))
 clear e1 e2 e3 hRR;refine ASpec.of Tryz.func24 rfl rfl fun C hC => ?_
 refine AC.seq (AC.region ?_);refine za ?_;refine za ?_;refine AL.nil (th_n (AC.seq (AC.seq (AC.region ?_))));refine zm ?_;refine zm ?_;refine kV en_iOnOff hO ?_;refine kC ?_;refine zm ?_;refine AL.caseGB rfl rfl (fun h0 => ?_) (fun h0 => ?_)
 ·refine zn ?_;refine zn ?_;refine zn ?_;refine zn ?_;refine zQ ?_;refine zm ?_;refine zn ?_;refine zn ?_;refine zn ?_;refine zn ?_;refine zQ ?_;refine AL.nil (th_n ?_);refine AC.condT rfl ?_;refine AC.seq (AC.region ?_);refine za ?_;refine za ?_;refine AL.nil (th_n (AC.ret (th_r (bq_r ?_))));have e : R = ([], false) := by exact hno1 (by have q := ‹(!b1) = true›; simpa using q)
  exact ret0 rfl (by rw [e]; show AV.leads _ (.tup [.d (vSs []), aT false]) _; repeat (first | exact DLead.same | exact DLead.nil | exact rfl | refine ⟨_, rfl, ?_⟩ | refine ⟨_, _, rfl, ?_, ?_⟩))
 refine zy ?_;refine zm ?_;refine zy ?_;refine zm ?_;refine zy ?_;refine kV en_iCov hV ?_;refine zy ?_;refine kC ?_;refine zP ?_;refine zm ?_;refine AL.caseGB rfl rfl (fun h1 => ?_) (fun h1 => ?_)
 ·refine zn ?_;refine zn ?_;refine zn ?_;refine zn ?_;refine zQ ?_;refine AL.nil (th_n ?_);refine AC.condT rfl ?_;refine AC.seq (AC.region ?_);refine za ?_;refine za ?_;refine AL.nil (th_n (AC.ret (th_r (bq_r ?_))));have e : R = ([], false) := by exact hno2 (by have q := ‹(!b2) = true›; simpa using q)
  exact ret0 rfl (by rw [e]; show AV.leads _ (.tup [.d (vSs []), aT false]) _; repeat (first | exact DLead.same | exact DLead.nil | exact rfl | refine ⟨_, rfl, ?_⟩ | refine ⟨_, _, rfl, ?_, ?_⟩))
 refine zy ?_;refine zm ?_;refine zy ?_;refine zm ?_;refine zy ?_;refine AL.q (by exact h_pure en_coversAll rfl rfl (by repeat (first | exact rfl | exact DLead.same | refine ⟨_, _, rfl, ?_, ?_⟩)) (hA (by have q := ‹(!b1) = false›; simpa using q) (by have q := ‹(!b2) = false›; simpa using q)) rfl) rfl ?_;refine zy ?_;refine kC ?_;refine zP ?_;refine AL.nil (th_n ?_);refine AC.condB rfl (fun h2 => ?_) (fun h2 => ?_)
 ·refine AC.seq (AC.region ?_);refine za ?_;refine za ?_;refine AL.nil (th_n (AC.ret (th_r (bq_r ?_))));have e : R = ([], false) := by exact hno3 (by have q := ‹(!b3) = true›; simpa using q)
  exact ret0 rfl (by rw [e]; show AV.leads _ (.tup [.d (vSs []), aT false]) _; repeat (first | exact DLead.same | exact DLead.nil | exact rfl | refine ⟨_, rfl, ?_⟩ | refine ⟨_, _, rfl, ?_, ?_⟩))
 refine AC.skip (th_n (AC.seq ?_));have q1 : b1 = true := by have q := ‹(!b1) = false›; simpa using q
 have q2 : b2 = true := by have q := ‹(!b2) = false›; simpa using q
 have q3 : b3 = true := by have q := ‹(!b3) = false›; simpa using q
 obtain ⟨g1, g2, g3, g4, g5, g6, g7⟩ := hin q1 q2;rw [if_pos (by rw [q1, q2, q3]; rfl)] at hR;have hbeg := irr_beg on l;obtain ⟨V, hVV⟩ := eqx (irrT on [] l);rw [← hVV] at hR;have hCo := cloneStr_spec l (by omega);clear hO hV hA hin;refine AC.region ?_;refine zm ?_;refine kU [] en_cloneStr hCo ?_;refine AL.p (by exact as2 rfl) rfl ?_;refine AL.nil (th_n (AC.seq (AC.seq ?_)));refine AC.weak (Weak.freeze (i := 8) rfl rfl (Nat.le_of_eq (strsL_len _).symm) (List.take_of_length_le (Nat.le_of_eq (strsL_len _)))) ?_;refine AC.weak (t := ⟨46, 300, [(1, .d (vSs on)), (8, .d (vSs l))], []⟩) (Weak.ren _ [] hC rfl (by repeat (first | exact True.intro | refine And.intro ?_ ?_ | exact DLead.same)) (by repeat (exact True.intro)) rfl rfl rfl) ?_;refine AC.region ?_;refine za ?_;refine AL.nil (th_n (AC.block ?_));refine AC.loop (ι := List Tx × Nat) (fun y => ⟨46, 400, [(1, .d (vSs on)), (8, .d (vSs y.1)), (9, aI y.2)], []⟩) (fun y => IrI on l y) (fun y => y.1.length - y.2 + y.1.length) ((l, 0)) ?_ (hbeg) ?_
 ·exact Weak.ren _ [] hC rfl (by repeat (first | exact True.intro | refine And.intro ?_ ?_ | exact DLead.same)) (by repeat (exact True.intro)) rfl rfl rfl
 rintro ⟨m, i⟩ hI;dsimp only at hI ⊢;have hle := hI.le;have hlen := hI.len;dsimp only at hle hlen;refine AC.seq (AC.seq (AC.region ?_));refine zm ?_;refine zm ?_;refine kI m.length (strsL_len _) ?_;refine zc ?_;refine AL.nil (th_n ?_);refine AC.condD rfl (fun h3 => ?_) (fun h3 => ?_)
 ·refine AC.skip (th_n (AC.block (AC.seq ?_)));have hi : i < m.length := by omega
  have hdel := irr_del hI hi;have hkeep := irr_keep hI hi;have hdl := delT_len hi;have hCo2 := cloneStr_spec m (by omega);have hDl := deleteStr_spec m i hi (by omega);have hCv := coversAll_spec (delT m i) on (by omega) hl hb (fun x hx c hc => g6 x hx c (hI.mem c (delT_mem hc)));obtain ⟨D, hD⟩ := eqx (delT m i);rw [← hD] at hdel hkeep hdl hDl hCv;obtain ⟨b, hbb⟩ := eqx (covAll D on);rw [← hbb] at hdel hkeep hCv;refine AC.region ?_;refine zm ?_;refine kU [] en_cloneStr hCo2 ?_;refine zm ?_;refine zm ?_;refine zA ?_;refine kU [400] en_deleteStr hDl ?_;refine AL.p (by exact as2 rfl) rfl ?_;refine AL.nil (th_n (AC.seq ?_));refine AC.weak (Weak.freeze (i := 10) rfl rfl (by rw [strsL_len]; omega) (List.take_of_length_le (by rw [strsL_len]; omega))) ?_;refine AC.weak (t := ⟨46, 500, [(1, .d (vSs on)), (8, .d (vSs m)), (9, aI i), (10, .d (vSs D))], []⟩) (Weak.ren _ [] hC rfl (by repeat (first | exact True.intro | refine And.intro ?_ ?_ | exact DLead.same)) (by repeat (exact True.intro)) rfl rfl rfl) ?_;refine AC.region ?_;refine zm ?_;refine zm ?_;refine kV en_coversAll hCv ?_;refine AL.nil (th_n ?_);refine AC.condB rfl (fun h4 => ?_) (fun h4 => ?_)
  ·refine AC.region ?_;refine zm ?_;refine za ?_;refine AL.nil (ib_n (th_n ?_));exact ⟨(D, i), hdel ‹b = true›, by dsimp only; omega, Weak.ren _ [] hC rfl (by repeat (first | exact True.intro | refine And.intro ?_ ?_ | exact DLead.same)) (by repeat (exact True.intro)) rfl rfl rfl⟩
  refine AC.region ?_;refine zm ?_;refine zA ?_;refine za ?_;refine AL.nil (ib_n (th_n ?_));exact ⟨(m, i + 1), hkeep (by rw [‹b = false›]; decide), by dsimp only; omega, Weak.ren _ [] hC rfl (by repeat (first | exact True.intro | refine And.intro ?_ ?_ | exact DLead.same)) (by repeat (exact True.intro)) rfl rfl rfl⟩
 refine AC.exit (th_e (th_e (ib_y (th_n (AC.seq ?_)))));have hE := irr_end hI (by omega);rw [← hVV] at hE;refine AC.region ?_;refine zm ?_;refine za ?_;refine za ?_;refine AL.nil (th_n (AC.ret (bq_r ?_)));exact ret0 rfl (by rw [hR, ← hE]; show AV.leads _ (.tup [.d (vSs m), aT true]) _; repeat (first | exact DLead.same | exact rfl | refine ⟨_, rfl, ?_⟩ | refine ⟨_, _, rfl, ?_, ?_⟩))
theorem en_iIrr : Enters Tryz.prog 24 := enters_of Tryz.func24 rfl rfl
set_option maxHeartbeats 16000000 in
theorem sIrr_spec (n : Int) (on l : List Tx) (hl : on.length ≤ 1000000) (hl3 : l.length ≤ 1000000) (hb : ∀ c, c ∈ on → c.length ≤ 2000000) (hb3 : ∀ c, c ∈ l → c.length ≤ 2000000) : ASpec Tryz.prog 28 [aI n, .d (vSs on), .d (vSs l)] [] (Pure1 (.tup [.d (vSs (irrR n on l).1), aT (irrR n on l).2])) := by
 have hO := l14Sets_spec n on [] hl (by simp) hb (fun c h => absurd h List.not_mem_nil);have hV := l13Good_spec n l hl3 hb3;have hin := @icv_in n on [] l;have hk : ∀ y, chkB y on [] = covAll y on := fun y => by unfold chkB; rw [show ([] : List Tx).any (fun x => covB y x) = false from rfl, Bool.not_false, Bool.and_true]
 have hCh : ∀ y : List Tx, y.length ≤ 1000000 → (∀ x, x ∈ on → ∀ c, c ∈ y → x.length = c.length) → ASpec Tryz.prog 65 [.d (vSs on), .d (vSs []), .d (vSs y)] [] (Pure1 (aT (covAll y on))) := fun y h1 h2 => by
  have := l14Check_spec on [] y hl (by simp) h1 hb (fun c h => absurd h List.not_mem_nil) h2 (fun c h => absurd h List.not_mem_nil);rw [hk] at this;exact this
 have hA : onoffB n on [] = true → cvB n l = true → ASpec Tryz.prog 65 [.d (vSs on), .d (vSs []), .d (vSs l)] [] (Pure1 (aT (covAll l on))) := fun h1 h2 => by
  obtain ⟨g1, g2, g3, g4, g5, g6, g7⟩ := icv_in h1 h2;exact hCh l hl3 g6
 have hR : irrR n on l = if (onoffB n on [] && cvB n l && covAll l on) = true then (irrT on [] l, true) else ([], false) := rfl
 obtain ⟨b1, e1⟩ := eqx (onoffB n on []);obtain ⟨b2, e2⟩ := eqx (cvB n l);obtain ⟨b3, e3⟩ := eqx (covAll l on);rw [← e1, ← e2, ← e3] at hR;rw [← e1] at hO;rw [← e2] at hV;rw [← e1, ← e2, ← e3] at hA;rw [← e1, ← e2] at hin;obtain ⟨R, hRR⟩ := eqx (irrR n on l);rw [← hRR] at hR ⊢;have hno1 : b1 = false → R = ([], false) := fun q => hR.trans (if_neg (by rw [q, Bool.false_and, Bool.false_and]; decide))
 have hno2 : b2 = false → R = ([], false) := fun q => hR.trans (if_neg (by rw [q, Bool.and_false, Bool.false_and]; decide))
 have hno3 : b3 = false → R = ([], false) := fun q => hR.trans (if_neg (by rw [q, Bool.and_false]; decide))
 clear e1 e2 e3 hRR;refine ASpec.of Tryz.func28 rfl rfl fun C hC => ?_
 refine AC.seq (AC.region ?_);refine za ?_;refine za ?_;refine AL.nil (th_n (AC.seq (AC.seq (AC.region ?_))));refine zm ?_;refine zm ?_;refine kV en_l14Sets hO ?_;refine kC ?_;refine zm ?_;refine AL.caseGB rfl rfl (fun h0 => ?_) (fun h0 => ?_)
 ·refine zn ?_;refine zn ?_;refine zn ?_;refine zn ?_;refine zQ ?_;refine zm ?_;refine zn ?_;refine zn ?_;refine zn ?_;refine zn ?_;refine zQ ?_;refine AL.nil (th_n ?_);refine AC.condT rfl ?_;refine AC.seq (AC.region ?_);refine za ?_;refine za ?_;refine AL.nil (th_n (AC.ret (th_r (bq_r ?_))));have e : R = ([], false) := by exact hno1 (by have q := ‹(!b1) = true›; simpa using q)
  exact ret0 rfl (by rw [e]; show AV.leads _ (.tup [.d (vSs []), aT false]) _; repeat (first | exact DLead.same | exact DLead.nil | exact rfl | refine ⟨_, rfl, ?_⟩ | refine ⟨_, _, rfl, ?_, ?_⟩))
 refine zy ?_;refine zm ?_;refine zy ?_;refine zm ?_;refine zy ?_;refine kV en_l13Good hV ?_;refine zy ?_;refine kC ?_;refine zP ?_;refine zm ?_;refine AL.caseGB rfl rfl (fun h1 => ?_) (fun h1 => ?_)
 ·refine zn ?_;refine zn ?_;refine zn ?_;refine zn ?_;refine zQ ?_;refine AL.nil (th_n ?_);refine AC.condT rfl ?_;refine AC.seq (AC.region ?_);refine za ?_;refine za ?_;refine AL.nil (th_n (AC.ret (th_r (bq_r ?_))));have e : R = ([], false) := by exact hno2 (by have q := ‹(!b2) = true›; simpa using q)
  exact ret0 rfl (by rw [e]; show AV.leads _ (.tup [.d (vSs []), aT false]) _; repeat (first | exact DLead.same | exact DLead.nil | exact rfl | refine ⟨_, rfl, ?_⟩ | refine ⟨_, _, rfl, ?_, ?_⟩))
 refine zy ?_;refine zm ?_;refine zy ?_;refine zm ?_;refine zy ?_;refine AL.q (by exact h_pure en_l14Check rfl rfl (by repeat (first | exact rfl | exact DLead.same | exact DLead.nil | refine ⟨_, _, rfl, ?_, ?_⟩)) (hA (by have q := ‹(!b1) = false›; simpa using q) (by have q := ‹(!b2) = false›; simpa using q)) rfl) rfl ?_;refine zy ?_;refine kC ?_;refine zP ?_;refine AL.nil (th_n ?_);refine AC.condB rfl (fun h2 => ?_) (fun h2 => ?_)
 ·refine AC.seq (AC.region ?_);refine za ?_;refine za ?_;refine AL.nil (th_n (AC.ret (th_r (bq_r ?_))));have e : R = ([], false) := by exact hno3 (by have q := ‹(!b3) = true›; simpa using q)
  exact ret0 rfl (by rw [e]; show AV.leads _ (.tup [.d (vSs []), aT false]) _; repeat (first | exact DLead.same | exact DLead.nil | exact rfl | refine ⟨_, rfl, ?_⟩ | refine ⟨_, _, rfl, ?_, ?_⟩))
 refine AC.skip (th_n (AC.seq ?_));have q1 : b1 = true := by have q := ‹(!b1) = false›; simpa using q
 have q2 : b2 = true := by have q := ‹(!b2) = false›; simpa using q
 have q3 : b3 = true := by have q := ‹(!b3) = false›; simpa using q
 obtain ⟨g1, g2, g3, g4, g5, g6, g7⟩ := hin q1 q2;rw [if_pos (by rw [q1, q2, q3]; rfl)] at hR;have hbeg := irr_beg on l;obtain ⟨V, hVV⟩ := eqx (irrT on [] l);rw [← hVV] at hR;have hCo := l1OwnS_spec l (by omega);clear hO hV hA hin;refine AC.region ?_;refine zm ?_;refine kU [] en_l1OwnS hCo ?_;refine AL.p (by exact as2 rfl) rfl ?_;refine AL.nil (th_n (AC.seq (AC.seq ?_)));refine AC.weak (Weak.freeze (i := 8) rfl rfl (Nat.le_of_eq (strsL_len _).symm) (List.take_of_length_le (Nat.le_of_eq (strsL_len _)))) ?_;refine AC.weak (t := ⟨49, 300, [(1, .d (vSs on)), (8, .d (vSs l))], []⟩) (Weak.ren _ [] hC rfl (by repeat (first | exact True.intro | refine And.intro ?_ ?_ | exact DLead.same)) (by repeat (exact True.intro)) rfl rfl rfl) ?_;refine AC.region ?_;refine za ?_;refine AL.nil (th_n (AC.block ?_));refine AC.loop (ι := List Tx × Nat) (fun y => ⟨49, 400, [(1, .d (vSs on)), (8, .d (vSs y.1)), (9, aI y.2)], []⟩) (fun y => IrI on l y) (fun y => y.1.length - y.2 + y.1.length) ((l, 0)) ?_ (hbeg) ?_
 ·exact Weak.ren _ [] hC rfl (by repeat (first | exact True.intro | refine And.intro ?_ ?_ | exact DLead.same)) (by repeat (exact True.intro)) rfl rfl rfl
 rintro ⟨m, i⟩ hI;dsimp only at hI ⊢;have hle := hI.le;have hlen := hI.len;dsimp only at hle hlen;refine AC.seq (AC.seq (AC.region ?_));refine zm ?_;refine zm ?_;refine kI m.length (strsL_len _) ?_;refine zc ?_;refine AL.nil (th_n ?_);refine AC.condD rfl (fun h3 => ?_) (fun h3 => ?_)
 ·refine AC.skip (th_n (AC.block (AC.seq ?_)));have hi : i < m.length := by omega
  have hdel := irr_del hI hi;have hkeep := irr_keep hI hi;have hdl := delT_len hi;have hmk : (m.take i).length = i := by rw [List.length_take]; omega
  have htk : (strsL m).take i = strsL (m.take i) := by unfold strsL; rw [List.map_take]
  have hdp : ((strsL m).drop (i + 1)).take (m.length - (i + 1)) = strsL (m.drop (i + 1)) := by unfold strsL; rw [← List.map_drop, List.take_of_length_le (by rw [List.length_map, List.length_drop]; exact Nat.le_refl _)]
  have hCo2 := l1OwnS_spec (m.take i) (by omega);have hCv := hCh (delT m i) (by omega) (fun x hx c hc => g6 x hx c (hI.mem c (delT_mem hc)));have hDD : m.take i ++ m.drop (i + 1) = delT m i := rfl;obtain ⟨D, hD⟩ := eqx (delT m i);rw [← hD] at hdel hkeep hdl hCv hDD;obtain ⟨b, hbb⟩ := eqx (covAll D on);rw [← hbb] at hdel hkeep hCv;refine AC.drawn' mixed_ok [[], [], [0,1], [0,1,2], [], [], [5], [4,5,6], [0,1,2,3,4,5,6,7], [0,1,2,3,4,5,6,7,8]] (by decide) ?_;refine zd 0 [] 10 (by exact mv1 rfl) ?_;refine zd 1 [] 10 (by exact mv1 rfl) ?_;refine zd 2 [0,1] 10 (by exact g_slice_view (r := strsL (m.take i)) (l := 0) (h := i) rfl rfl rfl rfl .none (.some rfl rfl) (Nat.zero_le _) (by rw [strsL_len]; omega) (by rw [List.drop_zero, htk])) ?_;refine zh 3 [0,1,2] 10 (by exact h_fun (cs := []) en_l1OwnS rfl rfl (by repeat (first | exact rfl | exact DLead.same | refine ⟨_, _, rfl, ?_, ?_⟩)) (by repeat (exact True.intro)) hCo2 rfl rfl rfl rfl) ?_;refine zd 4 [] 10 (by exact mv1 rfl) ?_;refine zd 5 [] 10 (by exact mv1 rfl) ?_;refine zd 6 [5] 10 (by exact g_arith rfl rfl rfl (by exact wrap_i64 (by omega))) ?_;refine zd 7 [4,5,6] 10 (by exact g_slice_view (r := strsL (m.drop (i + 1))) (l := i + 1) (h := (strsL m).length) rfl rfl rfl rfl (.some rfl rfl) .none (by rw [strsL_len]; omega) (Nat.le_refl _) (by rw [List.take_length]; unfold strsL; exact (List.map_drop ..).symm)) ?_;refine zh 8 [0,1,2,3,4,5,6,7] 10 (by exact h_appendSt (m.take i) (m.drop (i + 1)) (.own rfl rfl (strsL_len _).symm) (.view rfl) (by rw [List.length_append, List.length_take, List.length_drop]; omega) (by simp)) ?_;refine zd 9 (List.range 9) 10 (by exact as2 rfl) ?_;refine zj 10 ?_;refine th_n (AC.seq ?_);refine AC.weak (Weak.freeze (els := strsL (m.take i ++ m.drop (i + 1))) (i := 10) rfl rfl (Nat.le_of_eq (strsL_len _).symm) (List.take_of_length_le (Nat.le_of_eq (strsL_len _)))) ?_;refine AC.weak (t := ⟨49, 500, [(1, .d (vSs on)), (8, .d (vSs m)), (9, aI i), (10, .d (vSs D))], []⟩) (Weak.ren _ [] hC rfl (by rw [← hDD]; repeat (first | exact True.intro | refine And.intro ?_ ?_ | exact DLead.same)) (by repeat (exact True.intro)) rfl rfl rfl) ?_;refine AC.region ?_;refine zm ?_;refine zm ?_;refine kV en_l14Check hCv ?_;refine AL.nil (th_n ?_);refine AC.condB rfl (fun h4 => ?_) (fun h4 => ?_)
  ·refine AC.region ?_;refine zm ?_;refine za ?_;refine AL.nil (ib_n (th_n ?_));exact ⟨(D, i), hdel ‹b = true›, by dsimp only; omega, Weak.ren _ [] hC rfl (by repeat (first | exact True.intro | refine And.intro ?_ ?_ | exact DLead.same)) (by repeat (exact True.intro)) rfl rfl rfl⟩
  refine AC.region ?_;refine zm ?_;refine zA ?_;refine za ?_;refine AL.nil (ib_n (th_n ?_));exact ⟨(m, i + 1), hkeep (by rw [‹b = false›]; decide), by dsimp only; omega, Weak.ren _ [] hC rfl (by repeat (first | exact True.intro | refine And.intro ?_ ?_ | exact DLead.same)) (by repeat (exact True.intro)) rfl rfl rfl⟩
 refine AC.exit (th_e (th_e (ib_y (th_n (AC.seq ?_)))));have hE := irr_end hI (by omega);rw [← hVV] at hE;refine AC.region ?_;refine zm ?_;refine za ?_;refine za ?_;refine AL.nil (th_n (AC.ret (bq_r ?_)));exact ret0 rfl (by rw [hR, ← hE]; show AV.leads _ (.tup [.d (vSs m), aT true]) _; repeat (first | exact DLead.same | exact rfl | refine ⟨_, rfl, ?_⟩ | refine ⟨_, _, rfl, ?_, ?_⟩))
theorem en_sIrr : Enters Tryz.prog 28 := enters_of Tryz.func28 rfl rfl
def litN (al : List UInt8) : Nat → Cur → List UInt8 → List UInt8 × Cur
 | 0, c, s => (s, c)
 | j + 1, c, s => litN al j (c.pick al.length).2 (s ++ [al.getD (c.pick al.length).1.toNat 0])
theorem litN_len (al : List UInt8) : ∀ (j : Nat) (c : Cur) (s : List UInt8), (litN al j c s).1.length = s.length + j ∧ (litN al j c s).2.pos ≤ c.pos + 2 * j
 | 0, c, s => ⟨rfl, Nat.le_refl _⟩
 | j + 1, c, s => by
  have h := litN_len al j (c.pick al.length).2 (s ++ [al.getD (c.pick al.length).1.toNat 0]);have h2 := c.pick_pos al.length;simp only [List.length_append, List.length_cons, List.length_nil] at h;simp only [litN];exact ⟨by omega, by omega⟩
def Cur.lits (c : Cur) (al : List UInt8) (n : Int) : List UInt8 × Cur := litN al n.toNat c []
theorem Cur.lits_in (c : Cur) (al : List UInt8) (n : Int) : (c.lits al n).1.length = n.toNat ∧ (c.lits al n).2.pos ≤ c.pos + 2 * n.toNat := by
 have h := litN_len al n.toNat c [];simp only [List.length_nil] at h;exact ⟨by show (litN _ _ _ _).1.length = _; omega, h.2⟩
theorem lit3_get {k : Nat} (h : k < 3) : ([[dS ⟨#[48]⟩], [dS ⟨#[49]⟩], [dS ⟨#[45]⟩]] : List (List DV))[k]? = some [dS (bstr [([48, 49, 45] : List UInt8).getD k 0])] := by
 match k, h with
 | 0, _ => rfl
 | 1, _ => rfl
 | 2, _ => rfl
set_option maxHeartbeats 2000000 in
theorem cube_spec (c : Cur) (n : Int) (hn : n ≤ 1000) (hp : c.pos ≤ 10000000000000) : ASpec Tryz.prog 63 [.ptr 0 0, aI n] [(0, curC c)] (Fun1 (aS (bstr (c.lits [48, 49, 45] n).1)) [(0, curC (c.lits [48, 49, 45] n).2)]) := by
 have hs1 : ∀ x : UInt8, (bstr [x]).size = 1 := fun x => bstr_size _
 obtain ⟨R, hR⟩ := eqx (c.lits [48, 49, 45] n);refine ASpec.of Tryz.func63 rfl rfl fun C hC => ?_
 refine AC.seq (AC.region ?_);refine za ?_;refine AL.nil (th_n (AC.seq (AC.region ?_)));refine za ?_;refine AL.nil (th_n (AC.seq (AC.seq (AC.region ?_))));refine za ?_;refine AL.nil (th_n (AC.block ?_));refine AC.loop (ι := Nat × Cur × List UInt8) (fun x => ⟨18, 108, [(0, .ptr 0 0), (1, aI n), (5, aS (bstr x.2.2)), (6, aI x.1)], [(0, some (curC x.2.1))]⟩) (fun x => x.1 ≤ n.toNat ∧ x.2.2.length = x.1 ∧ litN [48, 49, 45] (n.toNat - x.1) x.2.1 x.2.2 = R ∧ x.2.1.pos ≤ c.pos + 2 * x.1) (fun x => n.toNat - x.1) ((0, c, [])) ?_ (⟨Nat.zero_le _, rfl, hR.symm, Nat.le_refl _⟩) ?_
 ·exact zw [] hC
 rintro ⟨i, cc, s⟩ ⟨hi, hsl, hsub, hpos⟩;dsimp only at hi hsl hsub hpos ⊢;refine AC.seq (AC.seq (AC.region ?_));refine zm ?_;refine zm ?_;refine zc ?_;refine AL.nil (th_n ?_);refine AC.condD rfl (fun h0 => ?_) (fun h0 => ?_)
 ·refine AC.skip (th_n (AC.seq (AC.block ?_)));have hi1 : i < n.toNat := by omega
  have hpk := cc.pick_in 3 (by decide);have hpp := cc.pick_pos 3;have hget := lit3_get (k := (cc.pick 3).1.toNat) (by omega);have hsz : (bstr s).size = i := by rw [bstr_size, hsl]
  obtain ⟨x, hx⟩ := eqx (([48, 49, 45] : List UInt8).getD (cc.pick 3).1.toNat 0);have hsub2 : litN [48, 49, 45] (n.toNat - (i + 1)) (cc.pick 3).2 (s ++ [x]) = R := by rw [← hsub, show n.toNat - i = (n.toNat - (i + 1)) + 1 from by omega, hx]; rfl
  rw [← hx] at hget;refine AC.region ?_;refine zm ?_;refine AL.p (by exact mv3 rfl) rfl ?_;refine AL.q (by exact h_litF rfl rfl rfl rfl rfl rfl rfl rfl) rfl ?_;refine AL.q (by exact h_fun (cs := [0]) en_of rfl rfl (by repeat (first | exact rfl | exact DLead.same | refine ⟨_, _, rfl, ?_, ?_⟩ | refine ⟨_, rfl, ?_⟩)) (by repeat (first | exact True.intro | refine And.intro ?_ ?_ | exact DLead.same | exact rfl | refine ⟨_, _, rfl, rfl, ?_⟩ | refine ⟨_, rfl, ?_⟩ | refine ⟨_, _, rfl, ?_, ?_⟩)) (of_spec cc [[dS ⟨#[48]⟩], [dS ⟨#[49]⟩], [dS ⟨#[45]⟩]] (bstr [x]) (by decide) (by decide) (by omega) hget) rfl rfl rfl rfl) rfl ?_;refine AL.p (by exact g_sadd rfl rfl (by rw [hsz, hs1]; omega)) rfl ?_;refine za ?_;refine AL.nil (ib_n (th_n (AC.region ?_)));refine zm ?_;refine zA ?_;refine za ?_;refine AL.nil (th_n ?_);exact ⟨(i + 1, (cc.pick 3).2, s ++ [x]), ⟨by show i + 1 ≤ _; omega, by show (s ++ [x]).length = i + 1; rw [List.length_append, hsl]; rfl, hsub2, by show (cc.pick 3).2.pos ≤ c.pos + 2 * (i + 1); omega⟩, by show n.toNat - (i + 1) < n.toNat - i; omega, Weak.ren _ [] hC rfl (by rw [← bstr_append]; repeat (first | exact True.intro | refine And.intro ?_ ?_ | exact DLead.same | exact rfl | refine ⟨_, rfl, ?_⟩)) (by repeat (first | exact True.intro | refine And.intro ?_ ?_ | exact DLead.same | exact rfl | refine ⟨_, _, rfl, rfl, ?_⟩ | refine ⟨_, rfl, ?_⟩ | refine ⟨_, _, rfl, ?_, ?_⟩)) rfl rfl rfl⟩
 refine AC.exit (th_e (th_e (ib_y (th_n (AC.seq (AC.region ?_))))));refine zm ?_;refine za ?_;refine AL.nil (th_n (AC.ret (bq_r ?_)));have hii : n.toNat - i = 0 := by omega
 rw [hii] at hsub;have e : c.lits [48, 49, 45] n = (s, cc) := by rw [← hR, ← hsub]; rfl
 exact retF rfl (by rw [e]; repeat (exact DLead.same)) (by rw [e]; repeat (first | exact True.intro | refine And.intro ?_ ?_ | exact DLead.same | exact rfl | refine ⟨_, _, rfl, rfl, ?_⟩ | refine ⟨_, rfl, ?_⟩ | refine ⟨_, _, rfl, ?_, ?_⟩)) rfl
theorem en_cube : Enters Tryz.prog 63 := enters_of Tryz.func63 rfl rfl
theorem osl (l : List Tx) : l.length ≤ (strsL l).length := Nat.le_of_eq (strsL_len _).symm
theorem ost (l : List Tx) : (strsL l).take l.length = strsL l := List.take_of_length_le (Nat.le_of_eq (strsL_len _))
def covN (n : Int) : Nat → Cur → List (List UInt8) → List (List UInt8) × Cur
 | 0, c, l => (l, c)
 | j + 1, c, l => covN n j (c.lits [48, 49, 45] n).2 (l ++ [(c.lits [48, 49, 45] n).1])
def badC (x : List UInt8) (i : Int) : List UInt8 := ([[], [120], x ++ [49]] : List (List UInt8)).getD i.toNat []
def endC (l : List (List UInt8)) (c : Cur) : List (List UInt8) × Cur := if (l.length : Int) > 0 then (if (c.pick 15).1 = 0 then (l.set 0 (badC (fst0 l) ((c.pick 15).2.pick 3).1), ((c.pick 15).2.pick 3).2) else (l, (c.pick 15).2)) else (l, c)
def Cur.cover (c : Cur) (n : Int) : List (List UInt8) × Cur := endC (covN n (c.pick 5).1.toNat (c.pick 5).2 []).1 (covN n (c.pick 5).1.toNat (c.pick 5).2 []).2
theorem endC_a {l : List (List UInt8)} {c : Cur} (h1 : (l.length : Int) > 0) (h2 : (c.pick 15).1 = 0) : endC l c = (l.set 0 (badC (fst0 l) ((c.pick 15).2.pick 3).1), ((c.pick 15).2.pick 3).2) := by rw [endC, if_pos h1, if_pos h2]
theorem endC_b {l : List (List UInt8)} {c : Cur} (h1 : (l.length : Int) > 0) (h2 : ¬ (c.pick 15).1 = 0) : endC l c = (l, (c.pick 15).2) := by rw [endC, if_pos h1, if_neg h2]
theorem endC_c {l : List (List UInt8)} {c : Cur} (h1 : ¬ (l.length : Int) > 0) : endC l c = (l, c) := if_neg h1
theorem badC_len (x : List UInt8) {i : Int} (h : 0 ≤ i ∧ i < 3) : (badC x i).length ≤ x.length + 1 := by
 have : i = 0 ∨ i = 1 ∨ i = 2 := by omega
 rcases this with rfl | rfl | rfl
 ·exact Nat.zero_le _
 ·show 1 ≤ _; omega
 show (x ++ [49]).length ≤ _; rw [List.length_append]; exact Nat.le_refl _
theorem bad_get (x : List UInt8) {i : Int} (h : 0 ≤ i ∧ i < 3) : ([[dS (bstr [])], [dS (bstr [120])], [dS (bstr (x ++ [49]))]] : List (List DV))[i.toNat]? = some [dS (bstr (badC x i))] := by
 have : i = 0 ∨ i = 1 ∨ i = 2 := by omega
 rcases this with rfl | rfl | rfl <;> rfl
theorem covN_in (n : Int) (hn : n ≤ 10) : ∀ (j : Nat) (c : Cur) (l : List (List UInt8)), (∀ x, x ∈ l → x.length = n.toNat) → (covN n j c l).1.length = l.length + j ∧ (∀ x, x ∈ (covN n j c l).1 → x.length = n.toNat) ∧ (covN n j c l).2.pos ≤ c.pos + 20 * j
 | 0, c, l, h => ⟨rfl, h, Nat.le_refl _⟩
 | j + 1, c, l, h => by
  have h1 := c.lits_in [48, 49, 45] n
  have h2 := covN_in n hn j (c.lits [48, 49, 45] n).2 (l ++ [(c.lits [48, 49, 45] n).1]) (fun x hx => by
   rcases List.mem_append.1 hx with q | q
   ·exact h x q
   rw [List.mem_singleton.1 q]; exact h1.1)
  simp only [List.length_append, List.length_cons, List.length_nil] at h2;exact ⟨by show (covN n j _ _).1.length = _; omega, h2.2.1, by show (covN n j _ _).2.pos ≤ _; omega⟩
theorem cover_in (c : Cur) (n : Int) (hn : n ≤ 10) : (c.cover n).1.length ≤ 4 ∧ (∀ x, x ∈ (c.cover n).1 → x.length ≤ n.toNat + 1) ∧ (c.cover n).2.pos ≤ c.pos + 90 := by
 have h1 := c.pick_in 5 (by decide);have h2 := c.pick_pos 5;have h3 := covN_in n hn (c.pick 5).1.toNat (c.pick 5).2 [] (fun x hx => absurd hx List.not_mem_nil);obtain ⟨R, hR⟩ := eqx (covN n (c.pick 5).1.toNat (c.pick 5).2 []);rw [← hR] at h3;have e : c.cover n = endC R.1 R.2 := by rw [hR]; rfl
 rw [e];simp only [List.length_nil] at h3;have h4 := R.2.pick_pos 15;have h5 := (R.2.pick 15).2.pick_pos 3;have h6 := (R.2.pick 15).2.pick_in 3 (by decide);unfold endC
 split
 ·rename_i q
  split
  ·refine ⟨by rw [List.length_set]; omega, fun x hx => ?_, by dsimp only; omega⟩;have hf := h3.2.1 _ (fst0_mem (l := R.1) (by omega));rcases List.mem_or_eq_of_mem_set hx with q | q
   ·have := h3.2.1 x q; omega
   have := badC_len (fst0 R.1) h6; rw [q]; omega
  exact ⟨by dsimp only; omega, fun x hx => by have := h3.2.1 x hx; omega, by dsimp only; omega⟩
 exact ⟨by dsimp only; omega, fun x hx => by have := h3.2.1 x hx; omega, by dsimp only; omega⟩
set_option maxHeartbeats 4000000 in
theorem curCover_spec (c : Cur) (n : Int) (hn : n ≤ 10) (hp : c.pos ≤ 10000000) : ASpec Tryz.prog 52 [.ptr 0 0, aI n] [(0, curC c)] (Fun1 (.own 1 (c.cover n).1.length) [(0, curC (c.cover n).2), (1, .arr 9 1 (strsL (c.cover n).1))]) := by
 have h1 := c.pick_in 5 (by decide);have h2 := c.pick_pos 5;have hK := pick_spec c 5 (by decide) (by omega);have hR : c.cover n = endC (covN n (c.pick 5).1.toNat (c.pick 5).2 []).1 (covN n (c.pick 5).1.toNat (c.pick 5).2 []).2 := rfl;obtain ⟨p, hpp⟩ := eqx (c.pick 5);rw [← hpp] at h1 h2 hK hR;obtain ⟨G, hG⟩ := eqx (c.cover n);rw [← hG] at hR ⊢;clear hG hpp;obtain ⟨j0, hj0⟩ : ∃ j0 : Nat, p.1 = j0 := ⟨p.1.toNat, by omega⟩;rw [hj0] at hK hR h1;rw [Int.toNat_natCast] at hR;refine ASpec.of Tryz.func52 rfl rfl fun C hC => ?_
 refine AC.seq (AC.region ?_);refine za ?_;refine AL.nil (th_n (AC.seq (AC.region ?_)));refine za ?_;refine AL.nil (th_n (AC.seq (AC.seq (AC.region ?_))));refine AL.p (by exact mv3 rfl) rfl ?_;refine kU [0] en_pick hK ?_;refine za ?_;refine AL.nil (th_n (AC.block ?_));refine AC.loop (ι := Nat × Cur × List (List UInt8)) (fun x => ⟨36, 300, [(0, .ptr 0 0), (1, aI n), (5, .own 100 x.2.2.length), (6, aI x.1)], [(0, some (curC x.2.1)), (100, some (.arr 9 1 (strsL x.2.2)))]⟩) (fun x => covN n x.1 x.2.1 x.2.2 = covN n j0 p.2 [] ∧ x.2.2.length + x.1 = j0 ∧ x.2.1.pos + 20 * x.1 ≤ p.2.pos + 20 * j0 ∧ ∀ y, y ∈ x.2.2 → y.length = n.toNat) (fun x => x.1) ((j0, p.2, [])) ?_ (⟨rfl, Nat.zero_add _, Nat.le_refl _, fun y hy => absurd hy List.not_mem_nil⟩) ?_
 ·exact (Weak.nilOwn (i := 5) (e := 9) (sz := 1) rfl (by decide)).trans (zw [(100, _)] hC)
 rintro ⟨j, cc, l⟩ ⟨hsub, hln, hpos, hall⟩;dsimp only at hsub hln hpos hall ⊢;refine AC.seq (AC.seq (AC.region ?_));refine zm ?_;refine zc ?_;refine AL.nil (th_n ?_);refine AC.condD rfl (fun h0 => ?_) (fun h0 => ?_)
 ·refine AC.skip (th_n (AC.seq (AC.block ?_)));obtain ⟨j, rfl⟩ : ∃ i, j = i + 1 := ⟨j - 1, by omega⟩;have hcu := cube_spec cc n (by omega) (by omega);have hli := cc.lits_in [48, 49, 45] n;have hsub2 : covN n j (cc.lits [48, 49, 45] n).2 (l ++ [(cc.lits [48, 49, 45] n).1]) = covN n j0 p.2 [] := hsub;obtain ⟨Q, hQ⟩ := eqx (cc.lits [48, 49, 45] n);rw [← hQ] at hcu hli hsub2;have hall2 : ∀ y, y ∈ l ++ [Q.1] → y.length = n.toNat := fun y hy => (List.mem_append.1 hy).elim (hall y) (fun q => by rw [List.mem_singleton.1 q]; exact hli.1)
  refine AC.region ?_;refine kB ?_;refine AL.p (by exact mv3 rfl) rfl ?_;refine zm ?_;refine kU [0] en_cube hcu ?_;refine AL.q (by exact h_litF rfl rfl rfl rfl rfl rfl rfl rfl) rfl ?_;refine AL.q (by exact h_appendSt l [Q.1] (.own rfl rfl (strsL_len _).symm) (.view rfl) (by rw [List.length_append]; simp only [List.length_cons, List.length_nil]; omega) (by simp)) rfl ?_;refine AL.p (by exact as2 rfl) rfl ?_;refine AL.nil (ib_n (th_n (AC.region ?_)));refine zm ?_;refine zA ?_;refine za ?_;refine AL.nil (th_n ?_);exact ⟨(j, Q.2, l ++ [Q.1]), ⟨hsub2, by rw [List.length_append]; simp only [List.length_cons, List.length_nil]; omega, by dsimp only; omega, hall2⟩, by dsimp only; omega, zw [(100, _)] hC⟩
 refine AC.exit (th_e (th_e (ib_y (th_n (AC.seq (AC.seq ?_))))));have hj : j = 0 := by omega
 subst hj;have e : G = endC l cc := by rw [hR, ← hsub]; rfl
 have hO := one_spec cc 15 (by decide) (by omega);have ho1 := cc.pick_pos 15;have hea := endC_a (l := l) (c := cc);have heb := endC_b (l := l) (c := cc);have hec := endC_c (l := l) (c := cc);obtain ⟨o, ho⟩ := eqx (cc.pick 15);rw [← ho] at hO ho1 hea heb;have hin3 := o.2.pick_in 3 (by decide);have hfl : (l.length : Int) > 0 → (fst0 l).length = n.toNat := fun h => hall _ (fst0_mem (by omega))
 have hf0 : (l.length : Int) > 0 → (strsL l)[0]? = some [dS (bstr (fst0 l))] := fun h => fst0_at (by omega)
 have hP := of_spec o.2 [[dS (bstr [])], [dS (bstr [120])], [dS (bstr (fst0 l ++ [49]))]] (bstr (badC (fst0 l) (o.2.pick 3).1)) (by show 0 < 3; omega) (by show 3 ≤ 65536; omega) (by omega) (bad_get (fst0 l) hin3);obtain ⟨B, hB⟩ := eqx (badC (fst0 l) (o.2.pick 3).1);obtain ⟨z, hz⟩ := eqx (o.2.pick ([[dS (bstr [])], [dS (bstr [120])], [dS (bstr (fst0 l ++ [49]))]] : List (List DV)).length);rw [← hz] at hP;rw [show o.2.pick 3 = z from hz.symm] at hea hP hB;rw [← hB] at hea hP;refine AC.region ?_;refine kB ?_;refine AL.p (by exact g_len_own (sz := 1) (els := []) (e' := 0) rfl rfl (by simp only [maxLen]; omega)) rfl ?_;refine zc ?_;refine zm ?_;refine AL.caseG rfl rfl (fun h1 => ?_) (fun h1 => ?_)
 ·refine zy ?_;refine AL.p (by exact mv3 rfl) rfl ?_;refine zy ?_;refine kU [0] en_one hO ?_;refine zQ ?_;refine AL.nil (th_n ?_);refine AC.condD rfl (fun h2 => ?_) (fun h2 => ?_)
  ·have hl0 := hf0 h1;have hln1 := hfl h1;have hset : strsL (l.set 0 B) = (strsL l).set 0 [dS (bstr B)] := by unfold strsL; rw [List.map_set]
   refine AC.region ?_;refine kB ?_;refine AL.p (by exact mv3 rfl) rfl ?_;refine kB ?_;refine AL.p (by exact g_ia_own (i := 0) (l := l.length) rfl rfl rfl rfl rfl rfl (by omega) rfl) rfl ?_;refine AL.p (by exact g_load_arr1 rfl rfl rfl rfl hl0) rfl ?_;refine AL.p (by exact g_saddB (a := fst0 l) (b := [49]) rfl rfl (by simp only [List.length_cons, List.length_nil]; omega)) rfl ?_;refine AL.q (by exact h_litF rfl rfl rfl rfl rfl rfl rfl rfl) rfl ?_;refine kU [0] en_of hP ?_;refine AL.p (by exact g_ia_own (i := 0) (l := l.length) rfl rfl rfl rfl rfl rfl (by omega) rfl) rfl ?_;refine AL.q (by exact h_store_arr (i := 0) (j := 0) (d := dS (bstr B)) rfl rfl rfl rfl .same rfl hl0 (by decide)) rfl ?_;refine AL.nil (th_n (AC.seq (AC.region ?_)));refine kB ?_;refine AL.p (by exact as2 rfl) rfl ?_;refine AL.nil (th_n (AC.ret (bq_r ?_)))
   (have e2 := e.trans (hea h1 h2); exact retN [(1, 100)] rfl (by rw [e2, List.length_set]; repeat (first | exact rfl | refine ⟨_, rfl, ?_⟩)) (by rw [e2, hset]; repeat (first | exact True.intro | refine And.intro ?_ ?_ | exact DLead.same | exact rfl | refine ⟨_, _, rfl, rfl, ?_⟩ | refine ⟨_, rfl, ?_⟩ | refine ⟨_, _, rfl, ?_, ?_⟩)) rfl rfl)
  refine AC.skip (th_n (AC.seq (AC.region ?_)));refine kB ?_;refine AL.p (by exact as2 rfl) rfl ?_;refine AL.nil (th_n (AC.ret (bq_r ?_)))
  (have e2 := e.trans (heb h1 h2); exact retN [(1, 100)] rfl (by rw [e2]; repeat (first | exact rfl | refine ⟨_, rfl, ?_⟩)) (by rw [e2]; repeat (first | exact True.intro | refine And.intro ?_ ?_ | exact DLead.same | exact rfl | refine ⟨_, _, rfl, rfl, ?_⟩ | refine ⟨_, rfl, ?_⟩ | refine ⟨_, _, rfl, ?_, ?_⟩)) rfl rfl)
 refine zn ?_;refine zn ?_;refine zP ?_;refine AL.nil (th_n ?_);refine AC.condF rfl ?_;refine AC.skip (th_n (AC.seq (AC.region ?_)));refine kB ?_;refine AL.p (by exact as2 rfl) rfl ?_;refine AL.nil (th_n (AC.ret (bq_r ?_)))
 (have e2 := e.trans (hec h1); exact retN [(1, 100)] rfl (by rw [e2]; repeat (first | exact rfl | refine ⟨_, rfl, ?_⟩)) (by rw [e2]; repeat (first | exact True.intro | refine And.intro ?_ ?_ | exact DLead.same | exact rfl | refine ⟨_, _, rfl, rfl, ?_⟩ | refine ⟨_, rfl, ?_⟩ | refine ⟨_, _, rfl, ?_, ?_⟩)) rfl rfl)
theorem en_curCover : Enters Tryz.prog 52 := enters_of Tryz.func52 rfl rfl
theorem sameTextsV_spec (a : List (List UInt8)) (ha : a.length ≤ 1000000) : ASpec Tryz.prog 11 [.d (vSs a), .d (vSs a)] [] (Pure1 (aT true)) := by
 refine ASpec.of Tryz.func11 rfl rfl fun C hC => ?_
 refine AC.seq (AC.region ?_);refine za ?_;refine AL.nil (th_n (AC.seq (AC.seq (AC.region ?_))));refine zm ?_;refine kI a.length (strsL_len _) ?_;refine zm ?_;refine kI a.length (strsL_len _) ?_;refine AL.p (by exact g_neIr rfl rfl rfl) rfl ?_;refine AL.nil (th_n ?_);refine AC.condF rfl ?_;refine AC.skip (th_n (AC.seq (AC.seq (AC.region ?_))));refine zm ?_;refine kI a.length (strsL_len _) ?_;refine zm ?_;refine AL.nil (th_n (AC.block ?_));refine AC.loop (ι := Nat) (fun k => ⟨26, 0, [(0, .d (vSs a)), (1, .d (vSs a)), (12, aI a.length), (13, aI k)], []⟩) (fun k => k ≤ a.length) (fun k => a.length - k) (0) ?_ (Nat.zero_le _) ?_
 ·refine Weak.ren _ [] hC rfl ?_ ?_ rfl rfl rfl <;> repeat (first | exact True.intro | refine And.intro ?_ ?_ | exact DLead.same)
 intro k hk;refine AC.seq (AC.region ?_);refine zc ?_;refine AL.nil (th_n (AC.seq ?_));refine AC.condD rfl (fun h0 => ?_) (fun h0 => ?_)
 ·refine AC.skip (th_n (AC.seq (AC.block (AC.seq ?_))));have hk1 : k < a.length := by omega
  have hget := strs_at hk1;refine AC.region ?_;refine zm ?_;refine za ?_;refine AL.nil (th_n (AC.seq ?_));refine AC.drawn' mixed_ok [[], [], [0,1], [0,1,2], [], [], [4,5], [4,5,6], [0,1,2,3,4,5,6,7]] (by decide) ?_;refine zd 0 [] 9 (by exact mv1 rfl) ?_;refine zd 1 [] 9 (by exact mv1 rfl) ?_;refine zd 2 [0,1] 9 (by exact g_ia_view rfl rfl rfl rfl rfl (by rfl) (by assumption)) ?_;refine zd 3 [0,1,2] 9 (by exact g_load_ref rfl rfl rfl) ?_;refine zd 4 [] 9 (by exact mv1 rfl) ?_;refine zd 5 [] 9 (by exact mv1 rfl) ?_;refine zd 6 [4,5] 9 (by exact g_ia_view rfl rfl rfl rfl rfl (by rfl) (by assumption)) ?_;refine zd 7 [4,5,6] 9 (by exact g_load_ref rfl rfl rfl) ?_;refine zd 8 [0,1,2,3,4,5,6,7] 9 (by exact g_neSr rfl rfl rfl) ?_;refine zj 9 ?_;refine th_n ?_;refine AC.condF rfl ?_;refine AC.skip (ib_n (th_n (AC.region ?_)));refine zA ?_;refine zm ?_;refine AL.nil (th_n ?_);exact ⟨k + 1, by omega, by omega, Weak.ren _ [] hC rfl (by repeat (first | exact True.intro | refine And.intro ?_ ?_ | exact DLead.same)) (by repeat (exact True.intro)) rfl rfl rfl⟩
 refine AC.exit (th_e (th_e (ib_y (th_n (AC.seq (AC.region ?_))))));refine za ?_;refine AL.nil (th_n (AC.ret (bq_r ?_)));exact ret1 rfl rfl
theorem en_sameTexts : Enters Tryz.prog 11 := enters_of Tryz.func11 rfl rfl
def setS (s : (List Tx × List Tx) × Cur) (x : Tx) : (List Tx × List Tx) × Cur := if (s.2.pick 3).1 = 0 then ((s.1.1 ++ [x], s.1.2), (s.2.pick 3).2) else if (s.2.pick 3).1 = 1 then ((s.1.1, s.1.2 ++ [x]), (s.2.pick 3).2) else (s.1, (s.2.pick 3).2)
def setK (L : List Tx) (c : Cur) (j : Nat) : (List Tx × List Tx) × Cur := (L.take j).foldl setS (([], []), c)
theorem setK_succ {L : List Tx} {c : Cur} {j : Nat} (h : j < L.length) : setK L c (j + 1) = setS (setK L c j) L[j] := fold_snoc setS _ h
structure SetB (L : List Tx) (c : Cur) (j : Nat) (s : (List Tx × List Tx) × Cur) : Prop where
 a : s.1.1.length ≤ j
 b : s.1.2.length ≤ j
 p : s.2.pos ≤ c.pos + 2 * j
 ma : ∀ x, x ∈ s.1.1 → x ∈ L
 mb : ∀ x, x ∈ s.1.2 → x ∈ L
theorem one_len (l : List Tx) (x : Tx) : (l ++ [x]).length = l.length + 1 := by rw [List.length_append]; rfl
theorem setS_in {L : List Tx} {c : Cur} {j : Nat} {s : (List Tx × List Tx) × Cur} (h : SetB L c j s) {x : Tx} (hx : x ∈ L) : SetB L c (j + 1) (setS s x) := by
 have ha := h.a;have hb := h.b;have hp := h.p;have hk := s.2.pick_pos 3;have hm : ∀ l : List Tx, (∀ y, y ∈ l → y ∈ L) → ∀ y, y ∈ l ++ [x] → y ∈ L := fun l q y hy => (List.mem_append.1 hy).elim (q y) (fun e => by rw [List.mem_singleton.1 e]; exact hx)
 unfold setS
 split
 ·exact ⟨by dsimp only; rw [one_len]; omega, by dsimp only; omega, by dsimp only; omega, hm _ h.ma, h.mb⟩
 split
 ·exact ⟨by dsimp only; omega, by dsimp only; rw [one_len]; omega, by dsimp only; omega, h.ma, hm _ h.mb⟩
 exact ⟨by dsimp only; omega, by dsimp only; omega, by dsimp only; omega, h.ma, h.mb⟩
theorem setK_in (L : List Tx) (c : Cur) : ∀ j, j ≤ L.length → SetB L c j (setK L c j)
 | 0, _ => ⟨Nat.le_refl _, Nat.le_refl _, Nat.le_refl _, fun _ h => absurd h List.not_mem_nil, fun _ h => absurd h List.not_mem_nil⟩
 | j + 1, h => by
  rw [setK_succ h];exact setS_in (setK_in L c j (Nat.le_of_succ_le h)) (List.getElem_mem h)
theorem setS_a {s : (List Tx × List Tx) × Cur} {x : Tx} (h : (s.2.pick 3).1 = 0) : setS s x = ((s.1.1 ++ [x], s.1.2), (s.2.pick 3).2) := if_pos h
theorem setS_b {s : (List Tx × List Tx) × Cur} {x : Tx} (h : ¬ (s.2.pick 3).1 = 0) (h2 : (s.2.pick 3).1 = 1) : setS s x = ((s.1.1, s.1.2 ++ [x]), (s.2.pick 3).2) := by rw [setS, if_neg h, if_pos h2]
theorem setS_c {s : (List Tx × List Tx) × Cur} {x : Tx} (h : ¬ (s.2.pick 3).1 = 0) (h2 : ¬ (s.2.pick 3).1 = 1) : setS s x = (s.1, (s.2.pick 3).2) := by rw [setS, if_neg h, if_neg h2]
theorem gr_bound (n : Int) (on off : List Tx) : (grR n on off).1.length ≤ 64 ∧ ∀ x, x ∈ (grR n on off).1 → x.length ≤ 8 := by
 have hO := @prR_ok n on off;unfold grR
 split
 ·rename_i q;have hK := hO q;obtain ⟨w, _, hw8, _, hmp⟩ := hK.m;have hol := hK.onl;obtain ⟨g1, _, g3⟩ := grL_is hK.cov;exact ⟨Nat.le_trans g3 hol, fun x hx => by rw [hmp x (g1 x hx)]; exact hw8⟩
 exact ⟨Nat.zero_le _, fun x hx => absurd hx List.not_mem_nil⟩
set_option maxHeartbeats 16000000 in
theorem curSets_ex (c : Cur) (hp : c.pos ≤ 10000) : ∃ (n : Int) (on off : List Tx) (c' : Cur), (1 ≤ n ∧ n ≤ 4) ∧ on.length ≤ 16 ∧ off.length ≤ 17 ∧ (∀ x, x ∈ on → x.length ≤ 4) ∧ (∀ x, x ∈ off → x.length ≤ 4) ∧ c'.pos ≤ c.pos + 40 ∧ ASpec Tryz.prog 62 [.ptr 0 0] [(0, curC c)] (Fun1 (.tup [aI n, .d (vSs on), .d (vSs off)]) [(0, curC c')]) := by
 have h1 := c.pick_in 4 (by decide);have h2 := c.pick_pos 4;have hK1 := pick_spec c 4 (by decide) (by omega);obtain ⟨p, hp1⟩ := eqx (c.pick 4);rw [← hp1] at h1 h2 hK1;obtain ⟨n, hn⟩ : ∃ n : Nat, 1 + p.1 = n := ⟨(1 + p.1).toNat, by omega⟩;have hn4 : 1 ≤ n ∧ n ≤ 4 := by omega
 have hC1 := l13Codes_spec n (by omega);have hL16 : (codesN n).length ≤ 16 := by rw [codesN_len]; exact Nat.le_trans (Nat.pow_le_pow_right (by decide) hn4.2) (by decide)
 have hLm : ∀ x, x ∈ codesN n → x.length ≤ 4 := fun x hx => by rw [(codesN_mem n x hx).1]; exact hn4.2
 obtain ⟨L, hL⟩ := eqx (codesN n);rw [← hL] at hC1 hL16 hLm;have hS0 : setK L p.2 0 = (([], []), p.2) := rfl;have hSs := fun j (hj : j < L.length) => setK_succ (c := p.2) hj
 have hSi := setK_in L p.2;obtain ⟨K, hK⟩ := eqx (setK L p.2);rw [← hK] at hS0 hSs hSi;have hEB := hSi L.length (Nat.le_refl _);obtain ⟨e, he⟩ := eqx (K L.length);rw [← he] at hEB;have hea := hEB.a;have heb := hEB.b;have hep := hEB.p;have hO := one_spec e.2 15 (by decide) (by omega);have ho1 := e.2.pick_pos 15;obtain ⟨o, ho⟩ := eqx (e.2.pick 15);rw [← ho] at hO ho1;refine ⟨n, e.1.1, if (e.1.1.length : Int) > 0 ∧ o.1 = 0 then e.1.2 ++ [fst0 e.1.1] else e.1.2, if (e.1.1.length : Int) > 0 then o.2 else e.2, by omega, by omega, ?_, fun x hx => hLm x (hEB.ma x hx), ?_, ?_, ?_⟩
 ·split
  ·rw [one_len]; omega
  omega
 ·split
  ·rename_i q;intro x hx;rcases List.mem_append.1 hx with w | w
   ·exact hLm x (hEB.mb x w)
   rw [List.mem_singleton.1 w]; exact hLm _ (hEB.ma _ (fst0_mem (by omega)))
  exact fun x hx => hLm x (hEB.mb x hx)
 ·split <;> omega
 refine ASpec.of Tryz.func62 rfl rfl fun C hC => ?_
 refine AC.seq (AC.region ?_);refine za ?_;refine za ?_;refine za ?_;refine AL.nil (th_n (AC.seq (AC.region ?_)));refine AL.p (by exact mv3 rfl) rfl ?_;refine kU [0] en_pick hK1 ?_;refine zA ?_;refine za ?_;refine AL.nil (th_n (AC.seq ?_));rw [hn];refine AC.region ?_;refine za ?_;refine za ?_;refine AL.nil (th_n (AC.seq (AC.seq (AC.region ?_))));refine zm ?_;refine kU [] en_l13Codes hC1 ?_;refine AL.weak (Weak.freeze (i := 14) rfl rfl (osl _) (ost _)) ?_;refine kI L.length (strsL_len _) ?_;refine zm ?_;refine AL.nil (th_n (AC.block ?_));refine AC.loop (ι := Nat) (fun j => ⟨51, 300, [(0, .ptr 0 0), (5, aI n), (6, .own 100 (K j).1.1.length), (7, .own 101 (K j).1.2.length), (14, .d (vSs L)), (15, aI L.length), (16, aI j)], [(0, some (curC (K j).2)), (100, some (.arr 9 1 (strsL (K j).1.1))), (101, some (.arr 9 1 (strsL (K j).1.2)))]⟩) (fun j => j ≤ L.length) (fun j => L.length - j) (0) ?_ (Nat.zero_le _) ?_
 ·exact (Weak.nilOwn (i := 6) (e := 9) (sz := 1) rfl (by decide)).trans ((Weak.nilOwn (i := 7) (e := 9) (sz := 1) rfl (by decide)).trans (zw [(100, _), (101, _)] hC (by rw [hS0]; repeat (first | exact True.intro | refine And.intro ?_ ?_ | exact DLead.same | exact rfl | refine ⟨_, rfl, ?_⟩)) (by rw [hS0]; repeat (first | exact True.intro | refine And.intro ?_ ?_ | exact DLead.same | exact rfl | refine ⟨_, _, rfl, rfl, ?_⟩ | refine ⟨_, rfl, ?_⟩ | refine ⟨_, _, rfl, ?_, ?_⟩))))
 intro j hj;refine AC.seq (AC.region ?_);refine zc ?_;refine AL.nil (th_n (AC.seq ?_));refine AC.condD rfl (fun h0 => ?_) (fun h0 => ?_)
 ·refine AC.skip (th_n (AC.seq (AC.block (AC.seq ?_))));have hj1 : j < L.length := by omega
  have hget := strs_at hj1;have hsn := hSs j hj1;have hSb := hSi j hj;have hja := hSb.a;have hjb := hSb.b;have hjp := hSb.p;obtain ⟨x, hx⟩ := eqx (L[j]);rw [← hx] at hget hsn;obtain ⟨y, hy⟩ := eqx (K j);rw [← hy] at hsn hja hjb hjp ⊢;have hP := pick_spec y.2 3 (by decide) (by omega);have hqa := @setS_a y x;have hqb := @setS_b y x;have hqc := @setS_c y x;obtain ⟨z, hz⟩ := eqx (y.2.pick 3);rw [← hz] at hP hqa hqb hqc;rw [← hsn] at hqa hqb hqc;refine AC.region ?_;refine AL.p (by exact g_ia_view (i := j) rfl rfl rfl rfl rfl rfl hget) rfl ?_;refine zr ?_;refine za ?_;refine AL.nil (th_n (AC.seq (AC.region ?_)));refine AL.p (by exact mv3 rfl) rfl ?_;refine kU [0] en_pick hP ?_;refine AL.nil (th_n (AC.block (AC.seq (AC.region ?_))));refine zc ?_;refine za ?_;refine AL.nil (th_n ?_);refine AC.condD rfl (fun h1 => ?_) (fun h1 => ?_)
  ·refine AC.region ?_;refine kB ?_;refine zm ?_;refine AL.q (by exact h_litF rfl rfl rfl rfl rfl rfl rfl rfl) rfl ?_;refine AL.q (by exact h_appendSt y.1.1 [x] (.own rfl rfl (strsL_len _).symm) (.view rfl) (by rw [one_len]; omega) (by simp)) rfl ?_;refine AL.p (by exact as2 rfl) rfl ?_;refine AL.nil (ib_n (ib_n (th_n (AC.region ?_))));refine zA ?_;refine zm ?_;refine AL.nil (th_n ?_)
   (have e2 := hqa ‹z.1 = 0›; exact ⟨j + 1, by omega, by omega, zw [(100, _), (101, _)] hC (by rw [e2]; repeat (first | exact True.intro | refine And.intro ?_ ?_ | exact DLead.same | exact rfl | refine ⟨_, rfl, ?_⟩)) (by rw [e2]; repeat (first | exact True.intro | refine And.intro ?_ ?_ | exact DLead.same | exact rfl | refine ⟨_, _, rfl, rfl, ?_⟩ | refine ⟨_, rfl, ?_⟩ | refine ⟨_, _, rfl, ?_, ?_⟩))⟩)
  refine AC.seq (AC.region ?_);refine zc ?_;refine za ?_;refine AL.nil (th_n ?_);refine AC.condD rfl (fun h2 => ?_) (fun h2 => ?_)
  ·refine AC.region ?_;refine kB ?_;refine zm ?_;refine AL.q (by exact h_litF rfl rfl rfl rfl rfl rfl rfl rfl) rfl ?_;refine AL.q (by exact h_appendSt y.1.2 [x] (.own rfl rfl (strsL_len _).symm) (.view rfl) (by rw [one_len]; omega) (by simp)) rfl ?_;refine AL.p (by exact as2 rfl) rfl ?_;refine AL.nil (ib_n (ib_n (th_n (AC.region ?_))));refine zA ?_;refine zm ?_;refine AL.nil (th_n ?_)
   (have e2 := hqb ‹¬ z.1 = 0› ‹z.1 = 1›; exact ⟨j + 1, by omega, by omega, zw [(100, _), (101, _)] hC (by rw [e2]; repeat (first | exact True.intro | refine And.intro ?_ ?_ | exact DLead.same | exact rfl | refine ⟨_, rfl, ?_⟩)) (by rw [e2]; repeat (first | exact True.intro | refine And.intro ?_ ?_ | exact DLead.same | exact rfl | refine ⟨_, _, rfl, rfl, ?_⟩ | refine ⟨_, rfl, ?_⟩ | refine ⟨_, _, rfl, ?_, ?_⟩))⟩)
  refine AC.skip (ib_n (ib_n (th_n (AC.region ?_))));refine zA ?_;refine zm ?_;refine AL.nil (th_n ?_)
  (have e2 := hqc ‹¬ z.1 = 0› ‹¬ z.1 = 1›; exact ⟨j + 1, by omega, by omega, zw [(100, _), (101, _)] hC (by rw [e2]; repeat (first | exact True.intro | refine And.intro ?_ ?_ | exact DLead.same | exact rfl | refine ⟨_, rfl, ?_⟩)) (by rw [e2]; repeat (first | exact True.intro | refine And.intro ?_ ?_ | exact DLead.same | exact rfl | refine ⟨_, _, rfl, rfl, ?_⟩ | refine ⟨_, rfl, ?_⟩ | refine ⟨_, _, rfl, ?_, ?_⟩))⟩)
 refine AC.exit (th_e (th_e (ib_y (th_n (AC.seq (AC.seq ?_))))));have hjj : j = L.length := by omega
 rw [hjj, ← he];have hf0 : (e.1.1.length : Int) > 0 → (strsL e.1.1)[0]? = some [dS (bstr (fst0 e.1.1))] := fun h => fst0_at (by omega)
 refine AC.region ?_;refine kB ?_;refine AL.p (by exact g_len_own (sz := 1) (els := []) (e' := 0) rfl rfl (by simp only [maxLen]; omega)) rfl ?_;refine zc ?_;refine zm ?_;refine AL.caseG rfl rfl (fun h1 => ?_) (fun h1 => ?_)
 ·refine zy ?_;refine AL.p (by exact mv3 rfl) rfl ?_;refine zy ?_;refine kU [0] en_one hO ?_;refine zQ ?_;refine AL.nil (th_n ?_);refine AC.condD rfl (fun h2 => ?_) (fun h2 => ?_)
  ·have q1 : (e.1.1.length : Int) > 0 := by assumption
   have q2 : o.1 = 0 := by assumption
   have hl0 := hf0 q1;rw [if_pos ⟨q1, q2⟩];refine AC.region ?_;refine kB ?_;refine kB ?_;refine AL.p (by exact g_ia_own (i := 0) (l := e.1.1.length) rfl rfl rfl rfl rfl rfl (by omega) rfl) rfl ?_;refine AL.p (by exact g_load_arr1 rfl rfl rfl rfl hl0) rfl ?_;refine AL.q (by exact h_litF rfl rfl rfl rfl rfl rfl rfl rfl) rfl ?_;refine AL.q (by exact h_appendSt e.1.2 [fst0 e.1.1] (.own rfl rfl (strsL_len _).symm) (.view rfl) (by rw [one_len]; omega) (by simp)) rfl ?_;refine AL.p (by exact as2 rfl) rfl ?_;refine AL.nil (th_n (AC.seq (AC.region ?_)));refine zm ?_;refine kB ?_;refine kB ?_;refine za ?_;refine AL.p (by exact as2 rfl) rfl ?_;refine AL.p (by exact as2 rfl) rfl ?_;refine AL.nil (th_n ?_)
   (refine AC.weak (Weak.freeze (els := strsL (e.1.2 ++ [fst0 e.1.1])) (i := 4) rfl rfl (osl _) (ost _)) ?_)
   refine AC.weak (Weak.freeze (els := strsL e.1.1) (i := 3) rfl rfl (osl _) (ost _)) ?_;refine AC.ret (bq_r ?_)
   (have q : (e.1.1.length : Int) > 0 := (by assumption); rw [if_pos q]; exact retF rfl (by repeat (first | exact rfl | exact DLead.same | refine ⟨_, _, rfl, ?_, ?_⟩ | refine ⟨_, rfl, ?_⟩)) (by repeat (first | exact True.intro | refine And.intro ?_ ?_ | exact DLead.same | exact rfl | refine ⟨_, _, rfl, rfl, ?_⟩ | refine ⟨_, rfl, ?_⟩ | refine ⟨_, _, rfl, ?_, ?_⟩)) rfl)
  refine AC.skip (th_n (AC.seq (AC.region ?_)));refine zm ?_;refine kB ?_;refine kB ?_;refine za ?_;refine AL.p (by exact as2 rfl) rfl ?_;refine AL.p (by exact as2 rfl) rfl ?_;refine AL.nil (th_n ?_)
  (rw [if_neg (by rintro ⟨w1, w2⟩; exact absurd w2 (by assumption))]; refine AC.weak (Weak.freeze (els := strsL e.1.2) (i := 4) rfl rfl (osl _) (ost _)) ?_)
  refine AC.weak (Weak.freeze (els := strsL e.1.1) (i := 3) rfl rfl (osl _) (ost _)) ?_;refine AC.ret (bq_r ?_)
  (have q : (e.1.1.length : Int) > 0 := (by assumption); rw [if_pos q]; exact retF rfl (by repeat (first | exact rfl | exact DLead.same | refine ⟨_, _, rfl, ?_, ?_⟩ | refine ⟨_, rfl, ?_⟩)) (by repeat (first | exact True.intro | refine And.intro ?_ ?_ | exact DLead.same | exact rfl | refine ⟨_, _, rfl, rfl, ?_⟩ | refine ⟨_, rfl, ?_⟩ | refine ⟨_, _, rfl, ?_, ?_⟩)) rfl)
 refine zn ?_;refine zn ?_;refine zP ?_;refine AL.nil (th_n ?_);refine AC.condF rfl ?_;refine AC.skip (th_n (AC.seq (AC.region ?_)));refine zm ?_;refine kB ?_;refine kB ?_;refine za ?_;refine AL.p (by exact as2 rfl) rfl ?_;refine AL.p (by exact as2 rfl) rfl ?_;refine AL.nil (th_n ?_)
 (rw [if_neg (by rintro ⟨w1, w2⟩; exact absurd w1 (by assumption))]; refine AC.weak (Weak.freeze (els := strsL e.1.2) (i := 4) rfl rfl (osl _) (ost _)) ?_)
 refine AC.weak (Weak.freeze (els := strsL e.1.1) (i := 3) rfl rfl (osl _) (ost _)) ?_;refine AC.ret (bq_r ?_)
 (have q : ¬ (e.1.1.length : Int) > 0 := (by assumption); rw [if_neg q]; exact retF rfl (by repeat (first | exact rfl | exact DLead.same | refine ⟨_, _, rfl, ?_, ?_⟩ | refine ⟨_, rfl, ?_⟩)) (by repeat (first | exact True.intro | refine And.intro ?_ ?_ | exact DLead.same | exact rfl | refine ⟨_, _, rfl, rfl, ?_⟩ | refine ⟨_, rfl, ?_⟩ | refine ⟨_, _, rfl, ?_, ?_⟩)) rfl)
theorem en_curSets : Enters Tryz.prog 62 := enters_of Tryz.func62 rfl rfl
theorem sDrawOnOff_ex (code : List UInt8) : ∃ (n : Int) (on off : List Tx), (1 ≤ n ∧ n ≤ 4) ∧ on.length ≤ 16 ∧ off.length ≤ 17 ∧ (∀ x, x ∈ on → x.length ≤ 4) ∧ (∀ x, x ∈ off → x.length ≤ 4) ∧ ASpec Tryz.prog 29 [.d (vB code)] [] (Pure1 (.tup [aI n, .d (vSs on), .d (vSs off)])) := by
 obtain ⟨n, on, off, c', h1, h2, h3, h4, h5, _, hS⟩ := curSets_ex (cur0 code) (Nat.zero_le _);refine ⟨n, on, off, h1, h2, h3, h4, h5, ?_⟩;refine ASpec.of Tryz.func29 rfl rfl fun C hC => ?_
 refine AC.seq (AC.region ?_);refine za ?_;refine za ?_;refine za ?_;refine AL.nil (th_n (AC.seq (AC.region ?_)));refine zm ?_;refine AL.p (by exact g_build rfl rfl rfl) rfl ?_;refine AL.q (by exact h_box rfl) rfl ?_;refine AL.p (by exact as3 rfl) rfl ?_;refine AL.nil (th_n (AC.seq (AC.region ?_)));refine AL.p (by exact mv3 rfl) rfl ?_;refine kU [0] en_curSets hS ?_;refine AL.p (by exact g_extract (r := .d _) rfl rfl) rfl ?_;refine AL.p (by exact g_extract (r := .d _) rfl rfl) rfl ?_;refine AL.p (by exact g_extract (r := .d _) rfl rfl) rfl ?_;refine za ?_;refine za ?_;refine za ?_;refine AL.nil (th_n (AC.ret (bq_r ?_)));exact ret0 rfl (by repeat (first | exact DLead.same | exact rfl | refine ⟨_, rfl, ?_⟩ | refine ⟨_, _, rfl, ?_, ?_⟩))
theorem en_sDrawOnOff : Enters Tryz.prog 29 := enters_of Tryz.func29 rfl rfl
theorem sDrawMinC_ex (code : List UInt8) : ∃ (n : Int) (on off : List Tx), (1 ≤ n ∧ n ≤ 4) ∧ on.length ≤ 16 ∧ off.length ≤ 17 ∧ (∀ x, x ∈ on → x.length ≤ 4) ∧ (∀ x, x ∈ off → x.length ≤ 4) ∧ ASpec Tryz.prog 20 [.d (vB code)] [] (Pure1 (.tup [aI n, .d (vSs on), .d (vSs off)])) := by
 obtain ⟨n, on, off, h1, h2, h3, h4, h5, hS⟩ := sDrawOnOff_ex code;refine ⟨n, on, off, h1, h2, h3, h4, h5, ?_⟩;refine ASpec.of Tryz.func20 rfl rfl fun C hC => ?_
 refine AC.seq (AC.region ?_);refine za ?_;refine za ?_;refine za ?_;refine AL.nil (th_n (AC.seq (AC.region ?_)));refine zm ?_;refine kV en_sDrawOnOff hS ?_;refine AL.p (by exact g_extract (r := .d _) rfl rfl) rfl ?_;refine AL.p (by exact g_extract (r := .d _) rfl rfl) rfl ?_;refine AL.p (by exact g_extract (r := .d _) rfl rfl) rfl ?_;refine za ?_;refine za ?_;refine za ?_;refine AL.nil (th_n (AC.ret (bq_r ?_)));exact ret0 rfl (by repeat (first | exact DLead.same | exact rfl | refine ⟨_, rfl, ?_⟩ | refine ⟨_, _, rfl, ?_, ?_⟩))
theorem en_sDrawMinC : Enters Tryz.prog 20 := enters_of Tryz.func20 rfl rfl
set_option maxHeartbeats 16000000 in
theorem sDrawIsCov_ex (code : List UInt8) : ∃ (n : Int) (on off l : List Tx), (1 ≤ n ∧ n ≤ 4) ∧ on.length ≤ 16 ∧ off.length ≤ 17 ∧ l.length ≤ 70 ∧ (∀ x, x ∈ on → x.length ≤ 4) ∧ (∀ x, x ∈ off → x.length ≤ 4) ∧ (∀ x, x ∈ l → x.length ≤ 10) ∧ ASpec Tryz.prog 25 [.d (vB code)] [] (Pure1 (.tup [aI n, .d (vSs on), .d (vSs off), .d (vSs l)])) := by
 obtain ⟨n, on, off, c, h1, h2, h3, h4, h5, hcp, hS⟩ := curSets_ex (cur0 code) (Nat.zero_le _);have hp0 : (cur0 code).pos = 0 := rfl;have hG := sGreedy_spec n on off (by omega) (by omega) (fun x hx => by have := h4 x hx; omega) (fun x hx => by have := h5 x hx; omega);have hgb : (grR n on off).1.length ≤ 64 ∧ ∀ x, x ∈ (grR n on off).1 → x.length ≤ 8 := gr_bound n on off;obtain ⟨G, hGG⟩ := eqx (grR n on off);rw [← hGG] at hG hgb;have hK := pick_spec c 4 (by decide) (by omega);have hk2 := c.pick_pos 4;obtain ⟨p, hpp⟩ := eqx (c.pick 4);rw [← hpp] at hK hk2;have hA := cover_in p.2 n (by omega);have hK2 := curCover_spec p.2 n (by omega) (by omega);obtain ⟨A, hAA⟩ := eqx (p.2.cover n);rw [← hAA] at hA hK2;have hcu := cube_spec p.2 n (by omega) (by omega);have hli := p.2.lits_in [48, 49, 45] n;obtain ⟨Q, hQ⟩ := eqx (p.2.lits [48, 49, 45] n);rw [← hQ] at hcu hli;have hOw := l1OwnS_spec G.1 (by omega);refine ⟨n, on, off, if p.1 = 0 then A.1 else if p.1 = 1 then G.1 ++ [Q.1] else G.1, h1, h2, h3, ?_, h4, h5, ?_, ?_⟩
 ·split
  ·omega
  split
  ·rw [one_len]; omega
  omega
 ·split
  ·exact fun x hx => by have := hA.2.1 x hx; omega
  split
  ·intro x hx;rcases List.mem_append.1 hx with w | w
   ·have := hgb.2 x w; omega
   rw [List.mem_singleton.1 w, hli.1]; omega
  exact fun x hx => by have := hgb.2 x hx; omega
 refine ASpec.of Tryz.func25 rfl rfl fun C hC => ?_
 refine AC.seq (AC.region ?_);refine za ?_;refine za ?_;refine za ?_;refine za ?_;refine AL.nil (th_n (AC.seq (AC.region ?_)));refine zm ?_;refine AL.p (by exact g_build rfl rfl rfl) rfl ?_;refine AL.q (by exact h_box rfl) rfl ?_;refine AL.p (by exact as3 rfl) rfl ?_;refine AL.nil (th_n (AC.seq (AC.region ?_)));refine AL.p (by exact mv3 rfl) rfl ?_;refine kU [0] en_curSets hS ?_;refine AL.p (by exact mv5 rfl) rfl ?_;refine AL.p (by exact g_extract (r := .d _) rfl rfl) rfl ?_;refine AL.p (by exact g_extract (r := .d _) rfl rfl) rfl ?_;refine AL.p (by exact g_extract (r := .d _) rfl rfl) rfl ?_;refine za ?_;refine za ?_;refine za ?_;refine AL.nil (th_n (AC.seq (AC.region ?_)));refine zm ?_;refine zm ?_;refine zm ?_;refine kV en_sGreedy hG ?_;refine AL.p (by exact mv5 rfl) rfl ?_;refine AL.p (by exact g_extract (r := .d _) rfl rfl) rfl ?_;refine AL.p (by exact g_extract (r := .d _) rfl rfl) rfl ?_;refine za ?_;refine za ?_;refine AL.nil (th_n (AC.seq (AC.seq (AC.region ?_))));refine AL.p (by exact mv3 rfl) rfl ?_;refine kU [0] en_pick hK ?_;refine AL.nil (th_n (AC.block (AC.seq (AC.region ?_))));refine zc ?_;refine za ?_;refine AL.nil (th_n ?_);refine AC.condD rfl (fun h0 => ?_) (fun h0 => ?_)
 ·refine AC.region ?_;refine AL.p (by exact mv3 rfl) rfl ?_;refine zm ?_;refine kU [0] en_curCover hK2 ?_;refine AL.weak (Weak.freeze (i := 34) rfl rfl (osl _) (ost _)) ?_;refine za ?_;refine AL.nil (ib_n (th_n (AC.seq (AC.region ?_))));refine zm ?_;refine zm ?_;refine zm ?_;refine zm ?_;refine za ?_;refine za ?_;refine za ?_;refine za ?_;refine AL.nil (th_n (AC.ret (bq_r ?_)))
  (have q := ‹p.1 = 0›; rw [if_pos q]; exact ret0 rfl (by repeat (first | exact DLead.same | exact rfl | refine ⟨_, rfl, ?_⟩ | refine ⟨_, _, rfl, ?_, ?_⟩)))
 refine AC.seq (AC.region ?_);refine zc ?_;refine za ?_;refine AL.nil (th_n ?_);refine AC.condD rfl (fun h1 => ?_) (fun h1 => ?_)
 ·refine AC.region ?_;refine zm ?_;refine kU [] en_l1OwnS hOw ?_;refine AL.p (by exact mv3 rfl) rfl ?_;refine zm ?_;refine kU [0] en_cube hcu ?_;refine AL.q (by exact h_litF rfl rfl rfl rfl rfl rfl rfl rfl) rfl ?_;refine AL.q (by exact h_appendSt G.1 [Q.1] (.own rfl rfl (strsL_len _).symm) (.view rfl) (by rw [one_len]; omega) (by simp)) rfl ?_;refine AL.weak (Weak.freeze (els := strsL (G.1 ++ [Q.1])) (i := 43) rfl rfl (osl _) (ost _)) ?_;refine za ?_;refine AL.nil (ib_n (th_n (AC.seq (AC.region ?_))));refine zm ?_;refine zm ?_;refine zm ?_;refine zm ?_;refine za ?_;refine za ?_;refine za ?_;refine za ?_;refine AL.nil (th_n (AC.ret (bq_r ?_)))
  (have q1 := ‹¬ p.1 = 0›; have q2 := ‹p.1 = 1›; rw [if_neg q1, if_pos q2]; exact ret0 rfl (by repeat (first | exact DLead.same | exact rfl | refine ⟨_, rfl, ?_⟩ | refine ⟨_, _, rfl, ?_, ?_⟩)))
 refine AC.skip (ib_n (th_n (AC.seq (AC.region ?_))));refine zm ?_;refine zm ?_;refine zm ?_;refine zm ?_;refine za ?_;refine za ?_;refine za ?_;refine za ?_;refine AL.nil (th_n (AC.ret (bq_r ?_)))
 (have q1 := ‹¬ p.1 = 0›; have q2 := ‹¬ p.1 = 1›; rw [if_neg q1, if_neg q2]; exact ret0 rfl (by repeat (first | exact DLead.same | exact rfl | refine ⟨_, rfl, ?_⟩ | refine ⟨_, _, rfl, ?_, ?_⟩)))
theorem en_sDrawIsCov : Enters Tryz.prog 25 := enters_of Tryz.func25 rfl rfl
set_option maxHeartbeats 16000000 in
theorem sDrawIrr_ex (code : List UInt8) : ∃ (n : Int) (on l : List Tx), (1 ≤ n ∧ n ≤ 4) ∧ on.length ≤ 16 ∧ l.length ≤ 71 ∧ (∀ x, x ∈ on → x.length ≤ 4) ∧ (∀ x, x ∈ l → x.length ≤ 10) ∧ ASpec Tryz.prog 27 [.d (vB code)] [] (Pure1 (.tup [aI n, .d (vSs on), .d (vSs l)])) := by
 obtain ⟨n, on, off, l, h1, h2, _, h3, h4, _, h5, hS⟩ := sDrawIsCov_ex code;have hp0 : (cur0 code).pos = 0 := rfl;have hOw := l1OwnS_spec l (by omega);have hcu := cube_spec (cur0 code) n (by omega) (by omega);have hli := (cur0 code).lits_in [48, 49, 45] n;obtain ⟨Q, hQ⟩ := eqx ((cur0 code).lits [48, 49, 45] n);rw [← hQ] at hcu hli;refine ⟨n, on, l ++ [Q.1], h1, h2, by rw [one_len]; omega, h4, fun x hx => ?_, ?_⟩
 ·rcases List.mem_append.1 hx with w | w
  ·exact h5 x w
  rw [List.mem_singleton.1 w, hli.1]; omega
 refine ASpec.of Tryz.func27 rfl rfl fun C hC => ?_
 refine AC.seq (AC.region ?_);refine za ?_;refine za ?_;refine za ?_;refine AL.nil (th_n (AC.seq (AC.region ?_)));refine zm ?_;refine kV en_sDrawIsCov hS ?_;refine AL.p (by exact mv5 rfl) rfl ?_;refine AL.p (by exact g_extract (r := .d _) rfl rfl) rfl ?_;refine AL.p (by exact g_extract (r := .d _) rfl rfl) rfl ?_;refine AL.p (by exact g_extract (r := .d _) rfl rfl) rfl ?_;refine AL.p (by exact g_extract (r := .d _) rfl rfl) rfl ?_;refine za ?_;refine za ?_;refine za ?_;refine za ?_;refine AL.nil (th_n (AC.seq (AC.region ?_)));refine zm ?_;refine AL.p (by exact g_build rfl rfl rfl) rfl ?_;refine AL.q (by exact h_box rfl) rfl ?_;refine AL.p (by exact as3 rfl) rfl ?_;refine AL.nil (th_n (AC.seq ?_));refine AC.weak (t := ⟨29, 100, [(5, aI n), (6, .d (vSs on)), (8, .d (vSs l)), (9, .ptr 0 0)], [(0, some (curC (cur0 code)))]⟩) (zw [(0, _)] hC) ?_;refine AC.region ?_;refine zm ?_;refine zm ?_;refine zm ?_;refine kU [] en_l1OwnS hOw ?_;refine AL.p (by exact mv3 rfl) rfl ?_;refine zm ?_;refine kU [0] en_cube hcu ?_;refine AL.q (by exact h_litF rfl rfl rfl rfl rfl rfl rfl rfl) rfl ?_;refine AL.q (by exact h_appendSt l [Q.1] (.own rfl rfl (strsL_len _).symm) (.view rfl) (by rw [one_len]; omega) (by simp)) rfl ?_;refine za ?_;refine za ?_;refine AL.p (by exact as2 rfl) rfl ?_;refine AL.nil (th_n ?_);refine AC.weak (Weak.freeze (els := strsL (l ++ [Q.1])) (i := 4) rfl rfl (osl _) (ost _)) ?_;refine AC.ret (bq_r ?_);exact ret0 rfl (by repeat (first | exact DLead.same | exact rfl | refine ⟨_, rfl, ?_⟩ | refine ⟨_, _, rfl, ?_, ?_⟩))
theorem en_sDrawIrr : Enters Tryz.prog 27 := enters_of Tryz.func27 rfl rfl
theorem cubeB_new {s : Tx} {m : Nat} (h1 : s.all lit3 = true) (h2 : s.length = m) (h3 : 1 ≤ m) (h4 : m ≤ 8) : cubeB s m = true := by
 unfold cubeB;rw [h1, decide_eq_true (by omega), decide_eq_true (by omega), decide_eq_true (by omega)]
 rfl
theorem cvB_new {l : List Tx} {m : Nat} (h3 : 1 ≤ m) (h4 : m ≤ 8) (hl : l.length ≤ 60) (h : ∀ c, c ∈ l → c.all lit3 = true ∧ c.length = m) : cvB m l = true := by
 unfold cvB;rw [decide_eq_true (by omega), decide_eq_true (by omega), decide_eq_true (by omega), List.all_eq_true.2 fun c hc => cubeB_new (h c hc).1 (h c hc).2 h3 h4]
 rfl
theorem covAll_in {l on : List Tx} (h : ∀ x, x ∈ on → covB l x = true) : covAll l on = true := List.all_eq_true.2 h
theorem sub_cov {n : Int} {on off q : List Tx} (h : (prR n on off).2 = true) (hl : q.length ≤ 60) (hs : ∀ p, p ∈ q → p ∈ (prR n on off).1) (hc : ∀ x, x ∈ on → covB q x = true) : icvR n on off q = (true, true) := by
 obtain ⟨h1, h2, h3⟩ := prR_in h;rw [h2] at hs;have ho := h1;obtain ⟨m, rfl, g1, g2, _, _, g4, g5, _⟩ := onoff_in h1;have hm : ∀ p, p ∈ q → p.length = m ∧ anyH p off = false ∧ p.all lit3 = true := fun p hp => primesL_mem (hs p hp)
 have hv : cvB (m : Int) q = true := cvB_new g1 g2 hl fun c hc => ⟨(hm c hc).2.2, (hm c hc).1⟩
 have hno : (off.any fun x => covB q x) = false := List.any_eq_false.2 fun x hx e => by
  obtain ⟨p, hp, e2⟩ := List.any_eq_true.1 e;have := List.any_eq_false.1 (hm p hp).2.1 x hx;exact this e2
 unfold icvR chkB;rw [if_pos (by rw [ho, hv]; rfl), covAll_in hc, hno]
 rfl
theorem pri_mem {n : Int} {on off : List Tx} (h : (prR n on off).2 = true) {p : Tx} (hp : p ∈ (prR n on off).1) : p.length ≤ 8 ∧ p.all lit3 = true := by
 obtain ⟨h1, h2, h3⟩ := prR_in h;rw [h2] at hp;obtain ⟨m, rfl, g1, g2, _⟩ := onoff_in h1;obtain ⟨e1, _, e3⟩ := primesL_mem hp;exact ⟨by rw [e1]; exact g2, e3⟩
theorem min_is {n : Int} {on off : List Tx} (h : (prR n on off).2 = true) (h2 : (minR n on off).2 = true) : MinOf (prR n on off).1 on (minR n on off).1 := by
 unfold minR at h2 ⊢;rw [if_pos h] at h2 ⊢;unfold minO at h2 ⊢;dsimp only at h2 ⊢;cases e : minT (prR n on off).1 on with
 | none => rw [e] at h2; cases h2
 | some b => exact minT_of e
theorem min_pr {n : Int} {on off : List Tx} (h2 : (minR n on off).2 = true) : (prR n on off).2 = true := by
 unfold minR at h2
 split at h2
 ·assumption
 cases h2
theorem min_len {n : Int} {on off : List Tx} : (minR n on off).1.length ≤ 60 := by
 cases e : (minR n on off).2 with
 | true => exact Nat.le_of_lt (Nat.lt_of_lt_of_le (min_is (min_pr e) e).len (by decide))
 | false =>
  unfold minR at e ⊢
  split at e
  ·rename_i q;rw [if_pos q];unfold minO at e ⊢;dsimp only at e ⊢;cases e2 : minT (prR n on off).1 on with
   | none => exact Nat.zero_le _
   | some b => rw [e2] at e; cases e
  rename_i q; rw [if_neg q]; exact Nat.zero_le _
theorem min_cov {n : Int} {on off : List Tx} (h2 : (minR n on off).2 = true) : icvR n on off (minR n on off).1 = (true, true) := by
 have hM := min_is (min_pr h2) h2;exact sub_cov (min_pr h2) min_len hM.sub hM.cov
theorem gr_same {n : Int} {on off : List Tx} : (grR n on off).2 = (prR n on off).2 := by
 unfold grR
 split
 ·rename_i h; exact h.symm
 rename_i h; exact (Bool.eq_false_iff.2 h).symm
theorem min_lit {n : Int} {on off : List Tx} (h2 : (minR n on off).2 = true) : ∀ p, p ∈ (minR n on off).1 → p.length ≤ 8 := fun p hp => (pri_mem (min_pr h2) ((min_is (min_pr h2) h2).sub p hp)).1
theorem min_gr {n : Int} {on off : List Tx} (h2 : (minR n on off).2 = true) : (minR n on off).1.length ≤ (grR n on off).1.length := by
 have h := min_pr h2;have hM := min_is h h2;have hg : (grR n on off).1 = grL (prR n on off).1 on := by unfold grR; rw [if_pos h]
 obtain ⟨g1, g2, _⟩ := grL_is (prR_ok h).cov;rw [hg];exact hM.least _ g1 g2
theorem onoff_on {n : Int} {on off : List Tx} (h : onoffB n on off = true) : onoffB n on [] = true := by
 unfold onoffB at h ⊢;simp only [Bool.and_eq_true, decide_eq_true_eq, Bool.not_eq_true'] at h ⊢;refine ⟨h.1, h.2.1, ⟨rfl, by decide⟩, ?_⟩;unfold metB;exact List.any_eq_false.2 fun x _ e => by simp [inT] at e
theorem cvB_of_icv {n : Int} {on off l : List Tx} (h : (icvR n on off l).2 = true) : onoffB n on off = true ∧ cvB n l = true := by
 unfold icvR at h
 split at h
 ·rename_i q; exact (Bool.and_eq_true _ _).mp q
 cases h
theorem min_irr {n : Int} {on off : List Tx} (h2 : (minR n on off).2 = true) : irrR n on (minR n on off).1 = ((minR n on off).1, true) := by
 have hM := min_is (min_pr h2) h2;obtain ⟨g1, g2⟩ := cvB_of_icv (by rw [min_cov h2] : (icvR n on off (minR n on off).1).2 = true);unfold irrR;rw [if_pos (by rw [onoff_on g1, g2, covAll_in hM.cov]; rfl), irrT_min (P := (prR n on off).1) _ [] (by simpa using hM.sub) (by simpa using hM.least)]
 rfl
theorem irr_cov {n : Int} {on l : List Tx} (h : (irrR n on l).2 = true) : icvR n on [] (irrR n on l).1 = (true, true) := by
 unfold irrR at h ⊢
 split at h
 ·rename_i q;rw [if_pos q];simp only [Bool.and_eq_true] at q;obtain ⟨⟨q1, q2⟩, q3⟩ := q;obtain ⟨i1, i2⟩ := irrT_is on l [] q3;rw [List.nil_append] at i2;obtain ⟨m, rfl, g1, g2, g3⟩ := cvB_n q2;have hall := (cvB_in q2).2.2
  have hv : cvB (m : Int) (irrT on [] l) = true := cvB_new g1 g2 (Nat.le_trans i2.length_le (cvB_in q2).2.1) fun c hc => by
   have hm := i2.subset hc;refine ⟨?_, g3 c hm⟩;have := hall c hm;simp only [cubeB, Bool.and_eq_true] at this;exact this.1
  unfold icvR chkB;rw [if_pos (by rw [q1, hv]; rfl), i1]
  rfl
 cases h
theorem irr_len {n : Int} {on l : List Tx} (hl : l.length ≤ 100) : (irrR n on l).1.length ≤ 100 := by
 unfold irrR
 split
 ·rename_i q;simp only [Bool.and_eq_true] at q;have := (irrT_is on l [] q.2).2.length_le;rw [List.nil_append] at this;exact Nat.le_trans this hl
 exact Nat.zero_le _
theorem irr_mem {n : Int} {on l : List Tx} : ∀ x, x ∈ (irrR n on l).1 → x ∈ l := by
 unfold irrR
 split
 ·rename_i q;simp only [Bool.and_eq_true] at q;intro x hx;have := (irrT_is on l [] q.2).2.subset hx;simpa using this
 exact fun x hx => absurd hx List.not_mem_nil
end Go.Proofs.YtiaieidhhlmfmaaGreat
