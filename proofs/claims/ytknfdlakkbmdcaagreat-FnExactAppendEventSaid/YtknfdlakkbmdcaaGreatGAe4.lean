/- Contracts of the functions of the program and of the reference, each proved by a walk through its code. -/
import Derived.Laws.StructEq
import Derived.ChangeKeysEq
import Derived.Test.YtknfdlakkbmdcaaGreatGAe3
set_option linter.all false
set_option maxRecDepth 20000
namespace Go.Proofs.YtknfdlakkbmdcaaGreat
open Go.RowKit
theorem l7Asked_spec (N : Net) (m : List UInt8) (hB : NetL N) (hm : m.length ≤ 2000000) : ASpec Tryz.prog 46 [netA N, aS (bstr m)] [] (Pure1 (aT (goodN N && bitsB m N.places))) := by
 refine ASpec.of Tryz.func46 rfl rfl fun C hC => ?_
 refine AC.seq (AC.region ?_);refine kD ?_;refine za ?_;refine AL.nil (th_n (AC.seq (AC.region ?_)));refine kG ?_;refine kV en_l1Good (l1Good_gen N hB) ?_;refine zm ?_;refine AL.caseGB rfl rfl (fun h0 => ?_) (fun h0 => ?_)
 ·refine zy ?_;refine kG ?_;refine zy ?_;refine zm ?_;refine zy ?_;refine AL.q (by exact h_pure en_l1Mark rfl rfl (by repeat (first | exact rfl | exact DLead.same | refine ⟨_, _, rfl, ?_, ?_⟩ | refine ⟨_, rfl, ?_⟩)) (l1Mark_spec _ _ (by assumption)) rfl) rfl ?_;refine zQ ?_;refine za ?_;refine AL.nil (th_n (AC.ret (bq_r ?_)));exact ret1 rfl (by simp [h0])
 refine zn ?_;refine zn ?_;refine zn ?_;refine zP ?_;refine za ?_;refine AL.nil (th_n (AC.ret (bq_r ?_)));exact ret1 rfl (by simp [h0])
theorem en_l7Asked : Enters Tryz.prog 46 := enters_of Tryz.func46 rfl rfl
def limB (u : Unf) : Bool := decide ((u.es.length : Int) ≤ 60) && decide ((u.cs.length : Int) ≤ 200)
theorem l7Limits_spec (u : Unf) (h1 : u.es.length ≤ 1048576) (h2 : u.cs.length ≤ 1048576) : ASpec Tryz.prog 25 [unfA u] [] (Pure1 (aT (limB u))) := by
 refine ASpec.of Tryz.func25 rfl rfl fun C hC => ?_
 refine AC.seq (AC.region ?_);refine kD ?_;refine za ?_;refine AL.nil (th_n (AC.seq (AC.region ?_)));refine zf ?_;refine zr ?_;refine kH ?_;refine zc ?_;refine zm ?_;refine AL.caseG rfl rfl (fun h0 => ?_) (fun h0 => ?_)
 ·refine zy ?_;refine zf ?_;refine zy ?_;refine zr ?_;refine zy ?_;refine kH ?_;refine zy ?_;refine zc ?_;refine zQ ?_;refine za ?_;refine AL.nil (th_n (AC.ret (bq_r ?_)));exact ret1 rfl (by rw [limB, decide_eq_true h0]; rfl)
 refine zn ?_;refine zn ?_;refine zn ?_;refine zn ?_;refine zP ?_;refine za ?_;refine AL.nil (th_n (AC.ret (bq_r ?_)));exact ret1 rfl (by rw [limB, decide_eq_false h0]; rfl)
theorem en_l7Limits : Enters Tryz.prog 25 := enters_of Tryz.func25 rfl rfl
theorem l7OwnH_spec (e : Ev) (h1 : e.pre.length ≤ 1000000) : ASpec Tryz.prog 53 [evA e] [] (Pure1 (evA e)) := by
 refine ASpec.of Tryz.func53 rfl rfl fun C hC => ?_
 refine AC.seq (AC.region ?_);refine kD ?_;refine kE ?_;refine AL.nil (th_n (AC.seq ?_));refine AC.drawn' mixed_ok [[], [0], [], [2], [2,3], [0,1,2,3,4], [0,1,2,3,4,5]] (by decide) ?_;refine zd 0 [] 7 (by exact g_fa_ref rfl rfl rfl rfl rfl rfl) ?_;refine zd 1 [0] 7 (by exact g_load_ref rfl rfl rfl) ?_;refine zd 2 [] 7 (by exact g_fa_ref rfl rfl rfl rfl rfl rfl) ?_;refine zd 3 [2] 7 (by exact g_load_ref rfl rfl rfl) ?_;refine zh 4 [2,3] 7 (by exact h_pure en_l1Own rfl rfl (by repeat (first | exact rfl | exact DLead.same | refine ⟨_, _, rfl, ?_, ?_⟩)) (l1Own_spec _ (by assumption)) rfl) ?_;refine zd 5 [0,1,2,3,4] 7 (by exact g_build rfl rfl rfl) ?_;refine zh 6 [0,1,2,3,4,5] 7 (by exact h_store rfl rfl rfl rfl rfl rfl) ?_;refine zj 7 ?_;refine th_n (AC.ret (bq_r ?_));exact ret0 rfl (by repeat (first | exact DLead.same | exact rfl | refine ⟨_, rfl, ?_⟩ | refine ⟨_, _, rfl, ?_, ?_⟩))
theorem en_l7OwnH : Enters Tryz.prog 53 := enters_of Tryz.func53 rfl rfl
def evAt (u : Unf) (e : Int) : List Int := (u.es.getD e.toNat ⟨0, []⟩).pre
def cAt (u : Unf) (c : Int) : Cond := u.cs.getD c.toNat ⟨0, 0⟩
theorem evAt_nat {u : Unf} {k : Nat} (h : k < u.es.length) : evAt u (k : Int) = u.es[k].pre := by unfold evAt; rw [Int.toNat_natCast, List.getD_eq_getElem?_getD, List.getElem?_eq_getElem h]; rfl
theorem cAt_nat {u : Unf} {k : Nat} (h : k < u.cs.length) : cAt u (k : Int) = u.cs[k] := by unfold cAt; rw [Int.toNat_natCast, List.getD_eq_getElem?_getD, List.getElem?_eq_getElem h]; rfl
structure WF (u : Unf) : Prop where
 p : ∀ e, e ∈ u.es → ∀ c, c ∈ e.pre → 0 ≤ c ∧ c < u.cs.length
 b : ∀ c, c ∈ u.cs → -1 ≤ c.by_ ∧ c.by_ < u.es.length
 l : ∀ e, e ∈ u.es → e.pre.length ≤ 1000000
 e : u.es.length ≤ 1000
 c : u.cs.length ≤ 100000
def usedI (u : Unf) (list : List Int) (c : Int) : Bool := list.any (fun e => hasI (evAt u e) c)
set_option maxHeartbeats 1000000 in
theorem l7Used_spec (u : Unf) (list : List Int) (c : Int) (hw : WF u) (hl : list.length ≤ 1000000) (hin : ∀ e, e ∈ list → 0 ≤ e ∧ e < u.es.length) : ASpec Tryz.prog 74 [unfA u, .d (vI list), aI c] [] (Pure1 (aT (usedI u list c))) := by
 refine ASpec.of Tryz.func74 rfl rfl fun C hC => ?_
 refine AC.seq (AC.region ?_);refine kD ?_;refine za ?_;refine AL.nil (th_n (AC.seq (AC.seq (AC.region ?_))));refine zm ?_;refine kH ?_;refine zm ?_;refine AL.nil (th_n (AC.block ?_));refine AC.loop (ι := Nat) (fun k => ⟨24, 108, [(2, aI c), (3, .d (.ref (unfD u))), (9, .d (vI list)), (10, aI list.length), (11, aI k)], []⟩) (fun k => k ≤ list.length ∧ ∀ j (hj : j < list.length), j < k → hasI (evAt u list[j]) c = false) (fun k => list.length - k) (0) ?_ (⟨Nat.zero_le _, fun j _ hj => by omega⟩) ?_
 ·refine Weak.ren _ [] hC rfl ?_ ?_ rfl rfl rfl <;> repeat (first | exact True.intro | refine And.intro ?_ ?_ | exact DLead.same)
 intro k ⟨hk, hall⟩;refine AC.seq (AC.region ?_);refine zc ?_;refine AL.nil (th_n (AC.seq ?_));refine AC.condD rfl (fun h0 => ?_) (fun h0 => ?_)
 ·refine AC.skip (th_n (AC.seq (AC.block (AC.seq ?_))));have hk1 : k < list.length := by omega
  have hget := ints_at hk1;have hi0 := hin _ (List.getElem_mem hk1);obtain ⟨i, hi⟩ : ∃ i : Nat, list[k] = (i : Int) := ⟨list[k].toNat, by omega⟩;have hie : i < u.es.length := by omega
  have hgete := evsL_get hie;have hpl := hw.l _ (List.getElem_mem hie);have hev : evAt u list[k] = u.es[i].pre := by rw [hi]; exact evAt_nat hie
  rw [hi] at hget;refine AC.region ?_;refine AL.p (by exact g_ia_view rfl rfl rfl rfl rfl (by rfl) (by assumption)) rfl ?_;refine zr ?_;refine za ?_;refine AL.nil (th_n (AC.seq (AC.region ?_)));refine zf ?_;refine zr ?_;refine zm ?_;refine AL.p (by exact g_ia_view rfl rfl rfl rfl rfl (by rfl) (by assumption)) rfl ?_;refine zf ?_;refine zr ?_;refine zm ?_;refine AL.q (by exact h_pure en_l1Has rfl rfl (by repeat (first | exact rfl | exact DLead.same | refine ⟨_, _, rfl, ?_, ?_⟩)) (l1Has_spec _ _ (by assumption)) rfl) rfl ?_;refine AL.nil (th_n ?_);refine AC.condB rfl (fun h1 => ?_) (fun h1 => ?_)
  ·refine AC.seq (AC.region ?_);refine za ?_;refine AL.nil (th_n (AC.ret (ib_r (th_r (th_r (ib_r (th_r (bq_r ?_))))))));exact ret1 rfl (by rw [usedI, List.any_eq_true.2 ⟨_, List.getElem_mem hk1, by rw [hev]; exact h1⟩])
  refine AC.skip (ib_n (th_n (AC.region ?_)));refine zA ?_;refine zm ?_;refine AL.nil (th_n ?_);exact ⟨k + 1, ⟨by omega, fun j hj hj2 => by rcases Nat.lt_succ_iff_lt_or_eq.1 hj2 with h | rfl; exact hall j hj h; rw [hev]; exact h1⟩, by omega, Weak.ren _ [] hC rfl (by repeat (first | exact True.intro | refine And.intro ?_ ?_ | exact DLead.same)) (by repeat (exact True.intro)) rfl rfl rfl⟩
 refine AC.exit (th_e (th_e (ib_y (th_n (AC.seq (AC.region ?_))))));refine za ?_;refine AL.nil (th_n (AC.ret (bq_r ?_)));exact ret1 rfl (by rw [usedI, List.any_eq_false.2 (fun x hx => by obtain ⟨j, hj, rfl⟩ := List.getElem_of_mem hx; rw [hall j hj (by omega)]; decide)])
theorem en_l7Used : Enters Tryz.prog 74 := enters_of Tryz.func74 rfl rfl
def placesI (u : Unf) (list : List Int) : List Int := list.foldl (fun out c => putI out (cAt u c).place) []
theorem placesI_take {u : Unf} {l : List Int} {k : Nat} (hk : k < l.length) : placesI u (l.take (k + 1)) = putI (placesI u (l.take k)) (cAt u l[k]).place := by
 unfold placesI;rw [List.take_add_one, List.getElem?_eq_getElem hk, List.foldl_append]; rfl
theorem placesI_len (u : Unf) (l : List Int) : (placesI u l).length ≤ l.length := by
 suffices h : ∀ (l : List Int) (o : List Int), (l.foldl (fun out c => putI out (cAt u c).place) o).length ≤ o.length + l.length by
  have := h l []; simp only [List.length_nil] at this; unfold placesI; omega
 intro l
 induction l with
 | nil => intro o; exact Nat.le_refl _
 | cons c l ih =>
  intro o;have h1 := ih (putI o (cAt u c).place);have h2 := putI_len o (cAt u c).place;simp only [List.foldl_cons, List.length_cons]; omega
set_option maxHeartbeats 1000000 in
theorem l7Places_spec (u : Unf) (list : List Int) (hw : WF u) (hl : list.length ≤ 1000000) (hin : ∀ c, c ∈ list → 0 ≤ c ∧ c < u.cs.length) : ASpec Tryz.prog 51 [unfA u, .d (vI list)] [] (Pure1 (.d (vI (placesI u list)))) := by
 refine ASpec.of Tryz.func51 rfl rfl fun C hC => ?_
 refine AC.seq (AC.region ?_);refine kD ?_;refine za ?_;refine AL.nil (th_n (AC.seq (AC.region ?_)));refine za ?_;refine AL.nil (th_n (AC.seq (AC.seq (AC.region ?_))));refine zm ?_;refine kH ?_;refine zm ?_;refine AL.nil (th_n (AC.block ?_));refine AC.loop (ι := Nat) (fun k => ⟨24, 108, [(2, .d (.ref (unfD u))), (5, .d (vI (placesI u (list.take k)))), (8, .d (vI list)), (9, aI list.length), (10, aI k)], []⟩) (fun k => k ≤ list.length) (fun k => list.length - k) (0) ?_ (Nat.zero_le _) ?_
 ·exact Weak.ren _ [] hC rfl (by repeat (first | exact True.intro | refine And.intro ?_ ?_ | exact DLead.same | exact DLead.nil)) (by repeat (exact True.intro)) rfl rfl rfl
 intro k hk;refine AC.seq (AC.region ?_);refine zc ?_;refine AL.nil (th_n (AC.seq ?_));refine AC.condD rfl (fun h0 => ?_) (fun h0 => ?_)
 ·refine AC.skip (th_n (AC.seq (AC.block (AC.seq ?_))));have hk1 : k < list.length := by omega
  have hget := ints_at hk1;have hi0 := hin _ (List.getElem_mem hk1);obtain ⟨i, hi⟩ : ∃ i : Nat, list[k] = (i : Int) := ⟨list[k].toNat, by omega⟩;have hic : i < u.cs.length := by omega
  have hgetc := condsL_get hic;have hcv : cAt u list[k] = u.cs[i] := by rw [hi]; exact cAt_nat hic
  have hpt := placesI_take (u := u) hk1;rw [hcv] at hpt;have hln := placesI_len u (list.take k);rw [List.length_take] at hln;have hP := l1Put_spec (placesI u (list.take k)) u.cs[i].place (by omega);rw [← hpt] at hP;rw [hi] at hget;refine AC.region ?_;refine AL.p (by exact g_ia_view rfl rfl rfl rfl rfl (by rfl) (by assumption)) rfl ?_;refine zr ?_;refine za ?_;refine AL.nil (th_n (AC.region ?_));refine zm ?_;refine zf ?_;refine zr ?_;refine zm ?_;refine AL.p (by exact g_ia_view rfl rfl rfl rfl rfl (by rfl) (by assumption)) rfl ?_;refine zf ?_;refine zr ?_;refine kV en_l1Put hP ?_;refine za ?_;refine AL.nil (ib_n (th_n (AC.region ?_)));refine zA ?_;refine zm ?_;refine AL.nil (th_n ?_);exact ⟨k + 1, by omega, by omega, Weak.ren _ [] hC rfl (by repeat (first | exact True.intro | refine And.intro ?_ ?_ | exact DLead.same)) (by repeat (exact True.intro)) rfl rfl rfl⟩
 refine AC.exit (th_e (th_e (ib_y (th_n (AC.seq (AC.region ?_))))));refine zm ?_;refine za ?_;refine AL.nil (th_n (AC.ret (bq_r ?_)));have hkk : k = list.length := by omega
 rw [hkk, List.take_length];exact ret1 rfl rfl
theorem en_l7Places : Enters Tryz.prog 51 := enters_of Tryz.func51 rfl rfl
abbrev boolsL (l : List Bool) : List (List DV) := l.map (fun b => [dT b])
theorem boolsL_get {l : List Bool} {k : Nat} (h : k < l.length) : (boolsL l)[k]? = some [dT (l.getD k false)] := by
 rw [List.getElem?_map, List.getElem?_eq_getElem h, List.getD_eq_getElem?_getD, List.getElem?_eq_getElem h]; rfl
theorem boolsL_set (l : List Bool) (i : Nat) (b : Bool) : (boolsL l).set i [dT b] = boolsL (l.set i b) := by simp [boolsL, List.map_set]
theorem boolsL_rep (n : Nat) (b : Bool) : List.replicate n [dT b] = boolsL (List.replicate n b) := by simp [boolsL]
def freeF : List Bool → List Int → Bool
 | _, [] => true
 | fl, c :: cs => if fl.getD c.toNat false = true then false else freeF (fl.set c.toNat true) cs
def freeI (u : Unf) (list : List Int) : Bool := freeF (List.replicate u.cs.length false) (list.flatMap (evAt u))
set_option maxHeartbeats 2000000 in
theorem l7Free_spec (u : Unf) (list : List Int) (hw : WF u) (hl : list.length ≤ 1000000) (hin : ∀ e, e ∈ list → 0 ≤ e ∧ e < u.es.length) : ASpec Tryz.prog 75 [unfA u, .d (vI list)] [] (Pure1 (aT (freeI u list))) := by
 have hcl := hw.c;refine ASpec.of Tryz.func75 rfl rfl fun C hC => ?_
 refine AC.seq (AC.region ?_);refine kD ?_;refine za ?_;refine AL.nil (th_n (AC.seq (AC.region ?_)));refine zf ?_;refine zr ?_;refine kH ?_;refine AL.q (by exact h_make (k := u.cs.length) rfl rfl rfl rfl rfl rfl rfl rfl (by show 1 * u.cs.length ≤ _; omega) (by omega)) rfl ?_;refine AL.p (by exact as2 rfl) rfl ?_;refine AL.nil (th_n (AC.seq (AC.seq (AC.region ?_))));refine zm ?_;refine kH ?_;refine zm ?_;refine AL.nil (th_n (AC.block ?_));refine AC.loop (ι := Nat × List Bool) (fun x => ⟨40, 108, [(2, .d (.ref (unfD u))), (5, .own 100 u.cs.length), (14, .d (vI list)), (15, aI list.length), (16, aI x.1)], [(100, some (.arr 4 1 (boolsL x.2)))]⟩) (fun x => x.1 ≤ list.length ∧ x.2.length = u.cs.length ∧ freeF x.2 ((list.drop x.1).flatMap (evAt u)) = freeI u list) (fun x => list.length - x.1) ((0, List.replicate u.cs.length false)) ?_ (⟨Nat.zero_le _, List.length_replicate, rfl⟩) ?_
 ·exact zw [(100, _)] hC (b := by rw [← boolsL_rep]; repeat (first | exact True.intro | refine And.intro ?_ ?_ | exact rfl | refine ⟨_, _, rfl, rfl, ?_⟩))
 rintro ⟨k, fl⟩ ⟨hk, hfl, hsub⟩;dsimp only at hk hfl hsub ⊢;refine AC.seq (AC.region ?_);refine zc ?_;refine AL.nil (th_n (AC.seq ?_));refine AC.condD rfl (fun h0 => ?_) (fun h0 => ?_)
 ·refine AC.skip (th_n (AC.seq (AC.block (AC.seq ?_))));have hk1 : k < list.length := by omega
  have hget := ints_at hk1;have hi0 := hin _ (List.getElem_mem hk1);obtain ⟨i, hi⟩ : ∃ i : Nat, list[k] = (i : Int) := ⟨list[k].toNat, by omega⟩;have hie : i < u.es.length := by omega
  have hgete := evsL_get hie;have hpe := hw.p _ (List.getElem_mem hie);have hpl := hw.l _ (List.getElem_mem hie);have hev : evAt u list[k] = u.es[i].pre := by rw [hi]; exact evAt_nat hie
  have hd : (list.drop k).flatMap (evAt u) = u.es[i].pre ++ (list.drop (k + 1)).flatMap (evAt u) := by rw [List.drop_eq_getElem_cons hk1, List.flatMap_cons, hev]
  rw [hd] at hsub;rw [hi] at hget;refine AC.region ?_;refine AL.p (by exact g_ia_view rfl rfl rfl rfl rfl (by rfl) (by assumption)) rfl ?_;refine zr ?_;refine za ?_;refine AL.nil (th_n (AC.seq (AC.region ?_)));refine zf ?_;refine zr ?_;refine zm ?_;refine AL.p (by exact g_ia_view rfl rfl rfl rfl rfl (by rfl) (by assumption)) rfl ?_;refine zf ?_;refine zr ?_;refine kH ?_;refine zm ?_;refine AL.nil (th_n (AC.block ?_));refine AC.loop (ι := Nat × List Bool) (fun x => ⟨40, 108, [(2, .d (.ref (unfD u))), (5, .own 100 u.cs.length), (14, .d (vI list)), (15, aI list.length), (16, aI k), (25, .d (vI u.es[i].pre)), (26, aI u.es[i].pre.length), (27, aI x.1)], [(100, some (.arr 4 1 (boolsL x.2)))]⟩) (fun x => x.1 ≤ u.es[i].pre.length ∧ x.2.length = u.cs.length ∧ freeF x.2 (u.es[i].pre.drop x.1 ++ (list.drop (k + 1)).flatMap (evAt u)) = freeI u list) (fun x => u.es[i].pre.length - x.1) ((0, fl)) ?_ (⟨Nat.zero_le _, hfl, hsub⟩) ?_
  ·exact zw [(100, _)] hC
  rintro ⟨j, gl⟩ ⟨hj, hgl, hsub2⟩;dsimp only at hj hgl hsub2 ⊢;refine AC.seq (AC.region ?_);refine zc ?_;refine AL.nil (th_n (AC.seq ?_));refine AC.condD rfl (fun h1 => ?_) (fun h1 => ?_)
  ·refine AC.skip (th_n (AC.seq (AC.block (AC.seq ?_))));have hj1 : j < u.es[i].pre.length := by omega
   have hgetj := ints_at hj1;have hc0 := hpe _ (List.getElem_mem hj1);obtain ⟨c, hc⟩ : ∃ c : Nat, u.es[i].pre[j] = (c : Int) := ⟨u.es[i].pre[j].toNat, by omega⟩;have hcc : c < gl.length := by omega
   have hgb := boolsL_get hcc;rw [List.drop_eq_getElem_cons hj1, List.cons_append, freeF, hc, Int.toNat_natCast] at hsub2;rw [hc] at hgetj;refine AC.region ?_;refine AL.p (by exact g_ia_view rfl rfl rfl rfl rfl (by rfl) (by assumption)) rfl ?_;refine zr ?_;refine za ?_;refine AL.nil (th_n (AC.seq (AC.seq (AC.region ?_))));refine kB ?_;refine zm ?_;refine AL.p (by exact g_ia_own rfl rfl rfl rfl rfl (by rfl) (by omega) (by exact Nat.mul_one _)) rfl ?_;refine AL.p (by exact g_load_arr1 rfl rfl rfl rfl (by assumption)) rfl ?_;refine AL.nil (th_n ?_);refine AC.condB rfl (fun h2 => ?_) (fun h2 => ?_)
   ·refine AC.seq (AC.region ?_);refine za ?_;refine AL.nil (th_n (AC.ret (th_r (ib_r (th_r (th_r (ib_r (ib_r (th_r (th_r (ib_r (th_r (bq_r ?_)))))))))))));exact ret1 rfl (by rw [← hsub2, if_pos h2])
   refine AC.skip (th_n (AC.region ?_));refine kB ?_;refine zm ?_;refine AL.p (by exact g_ia_own rfl rfl rfl rfl rfl (by rfl) (by omega) (by exact Nat.mul_one _)) rfl ?_;refine AL.q (by exact h_store_arr1 rfl rfl rfl rfl (by exact .same) (by assumption)) rfl ?_;refine AL.nil (ib_n (th_n (AC.region ?_)));refine zA ?_;refine zm ?_;refine AL.nil (th_n ?_);rw [h2, if_neg Bool.false_ne_true] at hsub2;exact ⟨(j + 1, gl.set c true), ⟨by show j + 1 ≤ _; omega, by show (gl.set c true).length = _; rw [List.length_set]; exact hgl, hsub2⟩, by show u.es[i].pre.length - (j + 1) < u.es[i].pre.length - j; omega, zw [(100, _)] hC (b := by rw [← boolsL_set]; repeat (first | exact True.intro | refine And.intro ?_ ?_ | exact rfl | refine ⟨_, _, rfl, rfl, ?_⟩))⟩
  refine AC.exit (th_e (th_e (ib_y (ib_n (th_n (AC.region ?_))))));refine zA ?_;refine zm ?_;refine AL.nil (th_n ?_);have hjj : j = u.es[i].pre.length := by omega
  rw [hjj, List.drop_length, List.nil_append] at hsub2;exact ⟨(k + 1, gl), ⟨by show k + 1 ≤ _; omega, hgl, hsub2⟩, by show list.length - (k + 1) < list.length - k; omega, zw [(100, _)] hC⟩
 refine AC.exit (th_e (th_e (ib_y (th_n (AC.seq (AC.region ?_))))));refine za ?_;refine AL.nil (th_n (AC.ret (bq_r ?_)));have hkk : k = list.length := by omega
 rw [hkk, List.drop_length] at hsub;exact ret1 rfl (by rw [← hsub]; rfl)
theorem en_l7Free : Enters Tryz.prog 75 := enters_of Tryz.func75 rfl rfl
def mark0 (n : Nat) (list : List Int) : List Bool := list.foldl (fun fl e => if 0 ≤ e then fl.set e.toNat true else fl) (List.replicate n false)
def stepC (u : Unf) (e : Nat) (fl : List Bool) (c : Int) : List Bool := if fl.getD e false = true ∧ 0 ≤ (cAt u c).by_ then fl.set (cAt u c).by_.toNat true else fl
def stepE (u : Unf) (e : Nat) (fl : List Bool) : List Bool := (evAt u (e : Int)).foldl (stepC u e) fl
def downE (u : Unf) : Nat → List Bool → List Bool
 | 0, fl => fl
 | e + 1, fl => downE u e (stepE u e fl)
def pastFl (u : Unf) (list : List Int) : List Bool := downE u u.es.length (mark0 u.es.length list)
def flagL (fl : List Bool) (k : Nat) : List Int := ((List.range k).filter (fun i => fl.getD i false)).map (fun (i : Nat) => (i : Int))
def pastI (u : Unf) (list : List Int) : List Int := flagL (pastFl u list) u.es.length
theorem mark0_take {n : Nat} {l : List Int} {k : Nat} (hk : k < l.length) : mark0 n (l.take (k + 1)) = if 0 ≤ l[k] then (mark0 n (l.take k)).set l[k].toNat true else mark0 n (l.take k) := by
 unfold mark0;rw [List.take_add_one, List.getElem?_eq_getElem hk, List.foldl_append]; rfl
theorem mark0_len (n : Nat) (l : List Int) : (mark0 n l).length = n := by
 suffices h : ∀ (l : List Int) (f : List Bool), (l.foldl (fun fl e => if 0 ≤ e then fl.set e.toNat true else fl) f).length = f.length by
  rw [mark0, h, List.length_replicate]
 intro l
 induction l with
 | nil => intro f; rfl
 | cons c l ih => intro f; rw [List.foldl_cons, ih]; split; rw [List.length_set]; rfl
theorem stepC_len (u : Unf) (e : Nat) (fl : List Bool) (c : Int) : (stepC u e fl c).length = fl.length := by unfold stepC; split; rw [List.length_set]; rfl
theorem stepF_len (u : Unf) (e : Nat) : ∀ (l : List Int) (fl : List Bool), (l.foldl (stepC u e) fl).length = fl.length
 | [], fl => rfl
 | c :: l, fl => by rw [List.foldl_cons, stepF_len u e l, stepC_len]
theorem stepE_len (u : Unf) (e : Nat) (fl : List Bool) : (stepE u e fl).length = fl.length := stepF_len u e _ fl
theorem flagL_succ (fl : List Bool) (k : Nat) : flagL fl (k + 1) = flagL fl k ++ (if fl.getD k false = true then [(k : Int)] else []) := by
 unfold flagL;rw [List.range_succ, List.filter_append, List.map_append];congr 1;rw [List.filter_cons, List.filter_nil]
 split <;> rfl
theorem flagL_len (fl : List Bool) (k : Nat) : (flagL fl k).length ≤ k := by
 unfold flagL;rw [List.length_map];exact Nat.le_trans (List.length_filter_le _ _) (by simp)
theorem flagL_t {fl : List Bool} {k : Nat} (h : fl.getD k false = true) : flagL fl (k + 1) = flagL fl k ++ [(k : Int)] := by rw [flagL_succ, if_pos h]
theorem flagL_f {fl : List Bool} {k : Nat} (h : fl.getD k false = false) : flagL fl (k + 1) = flagL fl k := by rw [flagL_succ, h, if_neg Bool.false_ne_true, List.append_nil]
theorem stepC_t {u : Unf} {e : Nat} {fl : List Bool} {c b : Nat} (hc : c < u.cs.length) (h1 : fl.getD e false = true) (h2 : 0 ≤ u.cs[c].by_) (hb : u.cs[c].by_ = (b : Int)) : stepC u e fl (c : Int) = fl.set b true := by
 unfold stepC;rw [cAt_nat hc, if_pos ⟨h1, h2⟩, hb, Int.toNat_natCast]
theorem stepC_f1 {u : Unf} {e : Nat} {fl : List Bool} {c : Int} (h1 : fl.getD e false = false) : stepC u e fl c = fl := by
 unfold stepC;rw [if_neg (fun h => by rw [h1] at h; exact Bool.false_ne_true h.1)]
theorem stepC_f2 {u : Unf} {e : Nat} {fl : List Bool} {c : Nat} (hc : c < u.cs.length) (h2 : ¬ 0 ≤ u.cs[c].by_) : stepC u e fl (c : Int) = fl := by
 unfold stepC;rw [cAt_nat hc, if_neg (fun h => h2 h.2)]
set_option maxHeartbeats 4000000 in
theorem l7Past_spec (u : Unf) (list : List Int) (hw : WF u) (hl : list.length ≤ 1000000) (hin : ∀ e, e ∈ list → e < u.es.length) : ASpec Tryz.prog 73 [unfA u, .d (vI list)] [] (Pure1 (.d (vI (pastI u list)))) := by
 have hel := hw.e;refine ASpec.of Tryz.func73 rfl rfl fun C hC => ?_
 refine AC.seq (AC.region ?_);refine kD ?_;refine za ?_;refine AL.nil (th_n (AC.seq (AC.region ?_)));refine zf ?_;refine zr ?_;refine kH ?_;refine AL.q (by exact h_make (k := u.es.length) rfl rfl rfl rfl rfl rfl rfl rfl (by show 1 * u.es.length ≤ _; omega) (by omega)) rfl ?_;refine AL.p (by exact as2 rfl) rfl ?_;refine AL.nil (th_n (AC.seq (AC.seq (AC.region ?_))));refine zm ?_;refine kH ?_;refine zm ?_;refine AL.nil (th_n (AC.block ?_));refine AC.loop (ι := Nat) (fun k => ⟨84, 108, [(2, .d (.ref (unfD u))), (5, .own 100 u.es.length), (18, .d (vI list)), (19, aI list.length), (20, aI k)], [(100, some (.arr 4 1 (boolsL (mark0 u.es.length (list.take k)))))]⟩) (fun k => k ≤ list.length) (fun k => list.length - k) (0) ?_ (Nat.zero_le _) ?_
 ·exact Weak.ren _ [(100, _)] hC rfl (by repeat (first | exact True.intro | refine And.intro ?_ ?_ | exact DLead.same | exact rfl | refine ⟨_, rfl, ?_⟩)) (by show _ ∧ True; rw [show mark0 u.es.length (list.take 0) = List.replicate u.es.length false from rfl, ← boolsL_rep]; repeat (first | exact True.intro | refine And.intro ?_ ?_ | exact rfl | refine ⟨_, _, rfl, rfl, ?_⟩)) rfl rfl rfl
 intro k hk;refine AC.seq (AC.region ?_);refine zc ?_;refine AL.nil (th_n (AC.seq ?_));refine AC.condD rfl (fun h0 => ?_) (fun h0 => ?_)
 ·refine AC.skip (th_n (AC.seq (AC.block (AC.seq ?_))));have hk1 : k < list.length := by omega
  have hget := ints_at hk1;have hi0 := hin _ (List.getElem_mem hk1);have hml := mark0_len u.es.length (list.take k);have hmt := mark0_take (n := u.es.length) hk1;refine AC.region ?_;refine AL.p (by exact g_ia_view rfl rfl rfl rfl rfl (by rfl) (by assumption)) rfl ?_;refine zr ?_;refine za ?_;refine AL.nil (th_n (AC.seq (AC.region ?_)));refine zm ?_;refine zc ?_;refine AL.nil (th_n ?_);refine AC.condD rfl (fun h1 => ?_) (fun h1 => ?_)
  ·obtain ⟨i, hi⟩ : ∃ i : Nat, list[k] = (i : Int) := ⟨list[k].toNat, by omega⟩;rw [hi] at hmt;rw [if_pos (by omega), Int.toNat_natCast] at hmt;rw [hi];have hgb := boolsL_get (l := mark0 u.es.length (list.take k)) (k := i) (by omega);refine AC.region ?_;refine kB ?_;refine zm ?_;refine AL.p (by exact g_ia_own rfl rfl rfl rfl rfl (by rfl) (by omega) (by exact Nat.mul_one _)) rfl ?_;refine AL.q (by exact h_store_arr1 rfl rfl rfl rfl (by exact .same) (by assumption)) rfl ?_;refine AL.nil (ib_n (th_n (AC.region ?_)));refine zA ?_;refine zm ?_;refine AL.nil (th_n ?_);exact ⟨k + 1, by omega, by omega, zw [(100, _)] hC (b := by rw [hmt, ← boolsL_set]; repeat (first | exact True.intro | refine And.intro ?_ ?_ | exact rfl | refine ⟨_, _, rfl, rfl, ?_⟩))⟩
  refine AC.skip (ib_n (th_n (AC.region ?_)));refine zA ?_;refine zm ?_;refine AL.nil (th_n ?_)
  (rw [if_neg h1] at hmt; exact ⟨k + 1, by omega, by omega, zw [(100, _)] hC (b := by rw [hmt]; repeat (first | exact True.intro | refine And.intro ?_ ?_ | exact rfl | refine ⟨_, _, rfl, rfl, ?_⟩))⟩)
 refine AC.exit (th_e (th_e (ib_y (th_n (AC.seq (AC.seq ?_))))));have hkk : k = list.length := by omega
 rw [hkk, List.take_length];have hm0 := mark0_len u.es.length list;obtain ⟨f0, hf0⟩ := eqx (mark0 u.es.length list);rw [← hf0] at hm0 ⊢;obtain ⟨R, hR⟩ := eqx (downE u u.es.length f0);have hRR : pastI u list = flagL R u.es.length := by unfold pastI pastFl; rw [hR, hf0]
 refine AC.region ?_;refine kB ?_;refine AL.p (by exact g_len_own (sz := 1) (els := []) (e' := 0) rfl rfl (by simp only [maxLen]; omega)) rfl ?_;refine zA ?_;refine za ?_;refine AL.nil (th_n (AC.block ?_));refine AC.loop (ι := Nat × List Bool) (fun x => ⟨84, 108, [(2, .d (.ref (unfD u))), (5, .own 100 u.es.length), (8, aI ((x.1 : Int) - 1))], [(100, some (.arr 4 1 (boolsL x.2)))]⟩) (fun x => x.1 ≤ u.es.length ∧ x.2.length = u.es.length ∧ downE u x.1 x.2 = R) (fun x => x.1) ((u.es.length, f0)) ?_ (⟨Nat.le_refl _, hm0, hR.symm⟩) ?_
 ·exact zw [(100, _)] hC
 rintro ⟨jj, fl⟩ ⟨hjj, hfl, hsub⟩;dsimp only at hjj hfl hsub ⊢;refine AC.seq (AC.seq (AC.region ?_));refine zm ?_;refine zc ?_;refine AL.nil (th_n ?_);refine AC.condD rfl (fun h1 => ?_) (fun h1 => ?_)
 ·refine AC.skip (th_n (AC.seq (AC.block (AC.seq ?_))));obtain ⟨i, rfl⟩ : ∃ i, jj = i + 1 := ⟨jj - 1, by omega⟩;have hI : ((i + 1 : Nat) : Int) - 1 = (i : Int) := by omega
  have hie : i < u.es.length := by omega
  have hgete := evsL_get hie;have hpe := hw.p _ (List.getElem_mem hie);have hpl := hw.l _ (List.getElem_mem hie);have hev : evAt u (i : Int) = u.es[i].pre := evAt_nat hie;have hse : stepE u i fl = u.es[i].pre.foldl (stepC u i) fl := by unfold stepE; rw [hev]
  rw [downE, hse] at hsub;refine AC.region ?_;refine zf ?_;refine zr ?_;refine zm ?_;refine AL.p (by exact g_ia_view rfl rfl rfl rfl rfl (by assumption) (by assumption)) rfl ?_;refine zf ?_;refine zr ?_;refine kH ?_;refine zm ?_;refine AL.nil (th_n (AC.block ?_));refine AC.loop (ι := Nat × List Bool) (fun x => ⟨84, 108, [(2, .d (.ref (unfD u))), (5, .own 100 u.es.length), (8, aI (((i + 1 : Nat) : Int) - 1)), (42, .d (vI u.es[i].pre)), (43, aI u.es[i].pre.length), (44, aI x.1)], [(100, some (.arr 4 1 (boolsL x.2)))]⟩) (fun x => x.1 ≤ u.es[i].pre.length ∧ x.2.length = u.es.length ∧ downE u i ((u.es[i].pre.drop x.1).foldl (stepC u i) x.2) = R) (fun x => u.es[i].pre.length - x.1) ((0, fl)) ?_ (⟨Nat.zero_le _, hfl, hsub⟩) ?_
  ·exact zw [(100, _)] hC
  rintro ⟨q, gl⟩ ⟨hq, hgl, hsub2⟩;dsimp only at hq hgl hsub2 ⊢;refine AC.seq (AC.region ?_);refine zc ?_;refine AL.nil (th_n (AC.seq ?_));refine AC.condD rfl (fun h2 => ?_) (fun h2 => ?_)
  ·refine AC.skip (th_n (AC.seq (AC.block (AC.seq ?_))));have hq1 : q < u.es[i].pre.length := by omega
   have hgetq := ints_at hq1;have hc0 := hpe _ (List.getElem_mem hq1);obtain ⟨c, hc⟩ : ∃ c : Nat, u.es[i].pre[q] = (c : Int) := ⟨u.es[i].pre[q].toNat, by omega⟩;have hcc : c < u.cs.length := by omega
   have hgetc := condsL_get hcc;have hbb := hw.b _ (List.getElem_mem hcc);have hgb := boolsL_get (l := gl) (k := i) (by omega);rw [List.drop_eq_getElem_cons hq1, List.foldl_cons, hc] at hsub2;rw [hc] at hgetq;refine AC.region ?_;refine AL.p (by exact g_ia_view rfl rfl rfl rfl rfl (by rfl) (by assumption)) rfl ?_;refine zr ?_;refine za ?_;refine AL.nil (th_n (AC.seq (AC.region ?_)));refine kB ?_;refine zm ?_;refine AL.p (by exact g_ia_own rfl rfl rfl rfl rfl (by assumption) (by omega) (by exact Nat.mul_one _)) rfl ?_;refine AL.p (by exact g_load_arr1 rfl rfl rfl rfl (by assumption)) rfl ?_;refine zm ?_;refine AL.caseGB rfl rfl (fun h3 => ?_) (fun h3 => ?_)
   ·refine zy ?_;refine zf ?_;refine zy ?_;refine zr ?_;refine zy ?_;refine zm ?_;refine zy ?_;refine AL.p (by exact g_ia_view rfl rfl rfl rfl rfl (by rfl) (by assumption)) rfl ?_;refine zy ?_;refine zf ?_;refine zy ?_;refine zr ?_;refine zy ?_;refine zc ?_;refine zQ ?_;refine AL.nil (th_n ?_);refine AC.condD rfl (fun h4 => ?_) (fun h4 => ?_)
    ·have hb0 : 0 ≤ u.cs[c].by_ := by assumption
     obtain ⟨b, hb⟩ : ∃ b : Nat, u.cs[c].by_ = (b : Int) := ⟨u.cs[c].by_.toNat, by omega⟩;have hgb2 := boolsL_get (l := gl) (k := b) (by omega);refine AC.region ?_;refine kB ?_;refine zf ?_;refine zr ?_;refine zm ?_;refine AL.p (by exact g_ia_view rfl rfl rfl rfl rfl (by rfl) (by assumption)) rfl ?_;refine zf ?_;refine zr ?_;refine AL.p (by exact g_ia_own rfl rfl rfl rfl rfl (by assumption) (by omega) (by exact Nat.mul_one _)) rfl ?_;refine AL.q (by exact h_store_arr1 rfl rfl rfl rfl (by exact .same) (by assumption)) rfl ?_;refine AL.nil (ib_n (th_n (AC.region ?_)));refine zA ?_;refine zm ?_;refine AL.nil (th_n ?_)
     (have e := stepC_t hcc h3 h4 hb; rw [e] at hsub2; exact ⟨(q + 1, gl.set b true), ⟨by show q + 1 ≤ _; omega, by show (gl.set b true).length = _; rw [List.length_set]; exact hgl, hsub2⟩, by show u.es[i].pre.length - (q + 1) < u.es[i].pre.length - q; omega, zw [(100, _)] hC (b := by rw [← boolsL_set]; repeat (first | exact True.intro | refine And.intro ?_ ?_ | exact rfl | refine ⟨_, _, rfl, rfl, ?_⟩))⟩)
    refine AC.skip (ib_n (th_n (AC.region ?_)));refine zA ?_;refine zm ?_;refine AL.nil (th_n ?_)
    (have e := stepC_f2 (e := i) (fl := gl) hcc h4; rw [e] at hsub2; exact ⟨(q + 1, gl), ⟨by show q + 1 ≤ _; omega, hgl, hsub2⟩, by show u.es[i].pre.length - (q + 1) < u.es[i].pre.length - q; omega, zw [(100, _)] hC⟩)
   refine zn ?_;refine zn ?_;refine zn ?_;refine zn ?_;refine zn ?_;refine zn ?_;refine zn ?_;refine zP ?_;refine AL.nil (th_n ?_);refine AC.condF rfl ?_;refine AC.skip (ib_n (th_n (AC.region ?_)));refine zA ?_;refine zm ?_;refine AL.nil (th_n ?_)
   (have e := stepC_f1 (u := u) (c := (c : Int)) h3; rw [e] at hsub2; exact ⟨(q + 1, gl), ⟨by show q + 1 ≤ _; omega, hgl, hsub2⟩, by show u.es[i].pre.length - (q + 1) < u.es[i].pre.length - q; omega, zw [(100, _)] hC⟩)
  refine AC.exit (th_e (th_e (ib_y (ib_n (th_n (AC.region ?_))))));refine zm ?_;refine zA ?_;refine za ?_;refine AL.nil (th_n ?_);have hqq : q = u.es[i].pre.length := by omega
  rw [hqq, List.drop_length] at hsub2;exact ⟨(i, gl), ⟨by show i ≤ _; omega, hgl, hsub2⟩, by show i < i + 1; omega, zw [(100, _)] hC⟩
 refine AC.exit (th_e (th_e (ib_y (th_n (AC.seq ?_)))));have hj0 : jj = 0 := by omega
 subst hj0;have hfR : fl = R := hsub;subst hfR;refine AC.region ?_;refine za ?_;refine AL.nil (th_n (AC.seq (AC.seq (AC.region ?_))));refine kB ?_;refine AL.p (by exact g_len_own (sz := 1) (els := []) (e' := 0) rfl rfl (by simp only [maxLen]; omega)) rfl ?_;refine zm ?_;refine AL.nil (th_n (AC.block ?_));refine AC.loop (ι := Nat) (fun k => ⟨84, 108, [(11, .own 101 (flagL fl k).length), (70, .own 100 u.es.length), (71, aI u.es.length), (72, aI k)], [(100, some (.arr 4 1 (boolsL fl))), (101, some (.arr 3 1 (ints (flagL fl k))))]⟩) (fun k => k ≤ u.es.length) (fun k => u.es.length - k) (0) ?_ (Nat.zero_le _) ?_
 ·exact (Weak.nilOwn (i := 11) (e := 3) (sz := 1) rfl (by decide)).trans (zw [(100, _), (101, _)] hC)
 intro k hk;refine AC.seq (AC.region ?_);refine zc ?_;refine AL.nil (th_n (AC.seq ?_));refine AC.condD rfl (fun h2 => ?_) (fun h2 => ?_)
 ·refine AC.skip (th_n (AC.seq (AC.block (AC.seq ?_))));have hk1 : k < u.es.length := by omega
  have hgb := boolsL_get (l := fl) (k := k) (by omega);have hln := flagL_len fl k;refine AC.region ?_;refine zm ?_;refine AL.p (by exact g_ia_own rfl rfl rfl rfl rfl (by rfl) (by omega) (by exact Nat.mul_one _)) rfl ?_;refine AL.p (by exact g_load_arr1 rfl rfl rfl rfl (by assumption)) rfl ?_;refine za ?_;refine za ?_;refine AL.nil (th_n (AC.seq (AC.region ?_)));refine zm ?_;refine AL.nil (th_n ?_);refine AC.condB rfl (fun h3 => ?_) (fun h3 => ?_)
  ·refine AC.region ?_;refine kB ?_;refine zm ?_;refine AL.q (by exact h_litF rfl rfl rfl rfl rfl rfl rfl rfl) rfl ?_;refine AL.q (by exact h_appendI (flagL fl k) [(k : Int)] (.own rfl rfl (ints_len _).symm) (.view rfl) (by simp; omega) (by simp)) rfl ?_;refine AL.p (by exact as2 rfl) rfl ?_;refine AL.nil (ib_n (th_n (AC.region ?_)));refine zA ?_;refine zm ?_;refine AL.nil (th_n ?_)
   (have e := flagL_t h3; exact ⟨k + 1, by omega, by omega, zw [(100, _), (101, _)] hC (by rw [e]; repeat (first | exact True.intro | refine And.intro ?_ ?_ | exact DLead.same | exact rfl | refine ⟨_, rfl, ?_⟩)) (by rw [e]; repeat (first | exact True.intro | refine And.intro ?_ ?_ | exact rfl | refine ⟨_, _, rfl, rfl, ?_⟩))⟩)
  refine AC.skip (ib_n (th_n (AC.region ?_)));refine zA ?_;refine zm ?_;refine AL.nil (th_n ?_)
  (have e := flagL_f h3; exact ⟨k + 1, by omega, by omega, zw [(100, _), (101, _)] hC (by rw [e]; repeat (first | exact True.intro | refine And.intro ?_ ?_ | exact DLead.same | exact rfl | refine ⟨_, rfl, ?_⟩)) (by rw [e]; repeat (first | exact True.intro | refine And.intro ?_ ?_ | exact rfl | refine ⟨_, _, rfl, rfl, ?_⟩))⟩)
 refine AC.exit (th_e (th_e (ib_y (th_n (AC.seq ?_)))));have hke : k = u.es.length := by omega
 refine AC.weak (Weak.freeze (i := 11) rfl rfl (Nat.le_of_eq (ints_len _).symm) (ints_all _)) ?_;refine AC.region ?_;refine zm ?_;refine za ?_;refine AL.nil (th_n (AC.ret (bq_r ?_)));exact ret1 rfl (by rw [hRR, hke])
theorem en_l7Past : Enters Tryz.prog 73 := enters_of Tryz.func73 rfl rfl
def byL (u : Unf) (l : List Int) : List Int := l.map (fun c => (cAt u c).by_)
theorem byL_take {u : Unf} {l : List Int} {k : Nat} (hk : k < l.length) : byL u (l.take (k + 1)) = byL u (l.take k) ++ [(cAt u l[k]).by_] := by
 unfold byL;rw [List.take_add_one, List.getElem?_eq_getElem hk, List.map_append]; rfl
theorem byL_len (u : Unf) (l : List Int) : (byL u l).length = l.length := List.length_map _
theorem flagL_mem {fl : List Bool} {k : Nat} {x : Int} (h : x ∈ flagL fl k) : 0 ≤ x ∧ x < k := by
 unfold flagL at h;obtain ⟨i, hi, rfl⟩ := List.mem_map.1 h;have := List.mem_range.1 (List.mem_filter.1 hi).1;omega
theorem byL_in {u : Unf} (hw : WF u) {l : List Int} (hin : ∀ c, c ∈ l → 0 ≤ c ∧ c < u.cs.length) : ∀ e, e ∈ byL u l → e < u.es.length := by
 intro e he;obtain ⟨c, hc, rfl⟩ := List.mem_map.1 he;have h0 := hin c hc;obtain ⟨i, rfl⟩ : ∃ i : Nat, c = (i : Int) := ⟨c.toNat, by omega⟩;rw [cAt_nat (by omega)];exact (hw.b _ (List.getElem_mem _)).2
def togI (u : Unf) (l : List Int) : Bool := l.all (fun c => !usedI u (pastI u (byL u l)) c) && freeI u (pastI u (byL u l))
set_option maxHeartbeats 4000000 in
theorem l7Together_spec (u : Unf) (l : List Int) (hw : WF u) (hl : l.length ≤ 1000000) (hin : ∀ c, c ∈ l → 0 ≤ c ∧ c < u.cs.length) : ASpec Tryz.prog 52 [unfA u, .d (vI l)] [] (Pure1 (aT (togI u l))) := by
 have hel := hw.e;have hP0 := l7Past_spec u (byL u l) hw (by rw [byL_len]; omega) (byL_in hw hin);obtain ⟨p, hp⟩ := eqx (pastI u (byL u l));have htog : togI u l = (l.all (fun c => !usedI u p c) && freeI u p) := by rw [hp]; rfl
 have hpin : ∀ e, e ∈ p → 0 ≤ e ∧ e < u.es.length := by intro e he; rw [hp] at he; exact flagL_mem he
 have hpl : p.length ≤ 1000 := by rw [hp]; exact Nat.le_trans (flagL_len _ _) hel
 have hF0 := l7Free_spec u p hw (by omega) hpin;rw [← hp] at hP0;rw [htog];refine ASpec.of Tryz.func52 rfl rfl fun C hC => ?_
 refine AC.seq (AC.region ?_);refine kD ?_;refine za ?_;refine AL.nil (th_n (AC.seq (AC.region ?_)));refine za ?_;refine AL.nil (th_n (AC.seq (AC.seq (AC.region ?_))));refine zm ?_;refine kH ?_;refine zm ?_;refine AL.nil (th_n (AC.block ?_));refine AC.loop (ι := Nat) (fun k => ⟨44, 108, [(1, .d (vI l)), (2, .d (.ref (unfD u))), (5, .own 100 k), (11, .d (vI l)), (12, aI l.length), (13, aI k)], [(100, some (.arr 3 1 (ints (byL u (l.take k)))))]⟩) (fun k => k ≤ l.length) (fun k => l.length - k) (0) ?_ (Nat.zero_le _) ?_
 ·exact (Weak.nilOwn (i := 5) (e := 3) (sz := 1) rfl (by decide)).trans (zw [(100, _)] hC)
 intro k hk;refine AC.seq (AC.region ?_);refine zc ?_;refine AL.nil (th_n (AC.seq ?_));refine AC.condD rfl (fun h0 => ?_) (fun h0 => ?_)
 ·refine AC.skip (th_n (AC.seq (AC.block (AC.seq ?_))));have hk1 : k < l.length := by omega
  have hget := ints_at hk1;have hi0 := hin _ (List.getElem_mem hk1);obtain ⟨i, hi⟩ : ∃ i : Nat, l[k] = (i : Int) := ⟨l[k].toNat, by omega⟩;have hic : i < u.cs.length := by omega
  have hgetc := condsL_get hic;have hbt := byL_take (u := u) hk1;rw [hi, cAt_nat hic] at hbt;rw [hi] at hget;have hbl : (byL u (l.take k)).length = k := by rw [byL_len, List.length_take]; omega
  refine AC.region ?_;refine AL.p (by exact g_ia_view rfl rfl rfl rfl rfl (by rfl) (by assumption)) rfl ?_;refine zr ?_;refine za ?_;refine AL.nil (th_n (AC.region ?_));refine kB ?_;refine zf ?_;refine zr ?_;refine zm ?_;refine AL.p (by exact g_ia_view rfl rfl rfl rfl rfl (by rfl) (by assumption)) rfl ?_;refine zf ?_;refine zr ?_;refine AL.q (by exact h_litF rfl rfl rfl rfl rfl rfl rfl rfl) rfl ?_;refine AL.q (by exact h_appendI (byL u (l.take k)) [u.cs[i].by_] (.own rfl rfl (by rw [ints_len, hbl])) (.view rfl) (by simp; omega) (by simp)) rfl ?_;refine AL.p (by exact as2 rfl) rfl ?_;refine AL.nil (ib_n (th_n (AC.region ?_)));refine zA ?_;refine zm ?_;refine AL.nil (th_n ?_);have hl5 : (byL u (l.take k) ++ [u.cs[i].by_]).length = k + 1 := by rw [List.length_append, hbl]; rfl
  exact ⟨k + 1, by omega, by omega, zw [(100, _)] hC (by rw [← hl5]; repeat (first | exact True.intro | refine And.intro ?_ ?_ | exact DLead.same | exact DLead.eqI (by omega) | exact rfl | refine ⟨_, rfl, ?_⟩)) (by rw [hbt]; repeat (first | exact True.intro | refine And.intro ?_ ?_ | exact rfl | refine ⟨_, _, rfl, rfl, ?_⟩))⟩
 refine AC.exit (th_e (th_e (ib_y (th_n (AC.seq ?_)))));have hkk : k = l.length := by omega
 subst hkk;rw [List.take_length];refine AC.weak (Weak.freeze (els' := ints (byL u l)) (i := 5) rfl rfl (by rw [ints_len, byL_len]; exact Nat.le_refl _) (List.take_of_length_le (by rw [ints_len, byL_len]; exact Nat.le_refl _))) ?_;refine AC.region ?_;refine kG ?_;refine zm ?_;refine kV en_l7Past hP0 ?_;refine za ?_;refine AL.nil (th_n (AC.seq (AC.seq (AC.region ?_))));refine zm ?_;refine kH ?_;refine zm ?_;refine AL.nil (th_n (AC.block ?_));refine AC.loop (ι := Nat) (fun k => ⟨44, 108, [(2, .d (.ref (unfD u))), (8, .d (vI p)), (30, .d (vI l)), (31, aI l.length), (32, aI k)], []⟩) (fun k => k ≤ l.length ∧ ∀ j (hj : j < l.length), j < k → usedI u p l[j] = false) (fun k => l.length - k) (0) ?_ (⟨Nat.zero_le _, fun j _ hj => by omega⟩) ?_
 ·refine Weak.ren _ [] hC rfl ?_ ?_ rfl rfl rfl <;> repeat (first | exact True.intro | refine And.intro ?_ ?_ | exact DLead.same)
 intro k ⟨hk, hall⟩;refine AC.seq (AC.region ?_);refine zc ?_;refine AL.nil (th_n (AC.seq ?_));refine AC.condD rfl (fun h1 => ?_) (fun h1 => ?_)
 ·refine AC.skip (th_n (AC.seq (AC.block (AC.seq ?_))));have hk1 : k < l.length := by omega
  have hget := ints_at hk1;have hU := l7Used_spec u p l[k] hw (by omega) hpin;refine AC.region ?_;refine AL.p (by exact g_ia_view rfl rfl rfl rfl rfl (by rfl) (by assumption)) rfl ?_;refine zr ?_;refine za ?_;refine AL.nil (th_n (AC.seq (AC.region ?_)));refine kG ?_;refine zm ?_;refine zm ?_;refine kV en_l7Used hU ?_;refine AL.nil (th_n ?_);refine AC.condB rfl (fun h2 => ?_) (fun h2 => ?_)
  ·refine AC.seq (AC.region ?_);refine za ?_;refine AL.nil (th_n (AC.ret (ib_r (th_r (th_r (ib_r (th_r (bq_r ?_))))))));exact ret1 rfl (by rw [List.all_eq_false.2 ⟨_, List.getElem_mem hk1, by (rw [h2]; decide)⟩]; rfl)
  refine AC.skip (ib_n (th_n (AC.region ?_)));refine zA ?_;refine zm ?_;refine AL.nil (th_n ?_);exact ⟨k + 1, ⟨by omega, fun j hj hj2 => by rcases Nat.lt_succ_iff_lt_or_eq.1 hj2 with h | rfl; exact hall j hj h; exact h2⟩, by omega, Weak.ren _ [] hC rfl (by repeat (first | exact True.intro | refine And.intro ?_ ?_ | exact DLead.same)) (by repeat (exact True.intro)) rfl rfl rfl⟩
 refine AC.exit (th_e (th_e (ib_y (th_n (AC.seq (AC.region ?_))))));refine kG ?_;refine zm ?_;refine kV en_l7Free hF0 ?_;refine za ?_;refine AL.nil (th_n (AC.ret (bq_r ?_)));exact ret1 rfl (by rw [List.all_eq_true.2 (fun x hx => by obtain ⟨j, hj, rfl⟩ := List.getElem_of_mem hx; rw [hall j hj (by omega)]; rfl)]; rfl)
theorem en_l7Together : Enters Tryz.prog 52 := enters_of Tryz.func52 rfl rfl
def tAt (N : Net) (t : Int) : Tn := N.ts.getD t.toNat ⟨[], []⟩
theorem tAt_nat {N : Net} {k : Nat} (h : k < N.ts.length) : tAt N (k : Int) = N.ts[k] := by unfold tAt; rw [Int.toNat_natCast, List.getD_eq_getElem?_getD, List.getElem?_eq_getElem h]; rfl
def fitA (N : Net) (u : Unf) (h : Ev) : Bool := inR N h.t && (rising h.pre 0 ((u.cs.length : Int) - 1) && decide ((h.pre.length : Int) = (tAt N h.t).pre.length))
def fitB (u : Unf) (h : Ev) : Bool := u.es.any (fun x => decide (x.t = h.t) && decide (x.pre = h.pre))
def fitC (N : Net) (u : Unf) (h : Ev) : Bool := decide (placesI u h.pre = (tAt N h.t).pre) && togI u h.pre
def fitsI (N : Net) (u : Unf) (h : Ev) : Bool := fitA N u h && (!fitB u h && fitC N u h)
theorem inR_nat {N : Net} {t : Int} (h : inR N t = true) : ∃ i : Nat, t = i ∧ i < N.ts.length := by
 simp only [inR, Bool.and_eq_true, decide_eq_true_eq] at h;exact ⟨t.toNat, by omega, by omega⟩
theorem dd_f1 {a b : Prop} [Decidable a] [Decidable b] (h : ¬ a) : (decide a && decide b) = false := by rw [decide_eq_false h]; rfl
theorem dd_f2 {a b : Prop} [Decidable a] [Decidable b] (h : ¬ b) : (decide a && decide b) = false := by rw [decide_eq_false h, Bool.and_false]
theorem fitA_f0 {N : Net} {u : Unf} {h : Ev} (h0 : (!(decide (0 ≤ h.t) && decide (h.t ≤ (N.ts.length : Int) - 1))) = true) : fitA N u h = false := by
 have : inR N h.t = false := (Bool.not_eq_true' _).mp h0;rw [fitA, this]; rfl
theorem fitA_f1 {N : Net} {u : Unf} {h : Ev} (h1 : (!rising h.pre 0 ((u.cs.length : Int) - 1)) = true) : fitA N u h = false := by
 rw [fitA, (Bool.not_eq_true' _).mp h1, Bool.false_and, Bool.and_false]
theorem fitA_f2 {N : Net} {u : Unf} {h : Ev} (h2 : ¬ (h.pre.length : Int) = (tAt N h.t).pre.length) : fitA N u h = false := by
 rw [fitA, decide_eq_false h2, Bool.and_false, Bool.and_false]
theorem fitA_t {N : Net} {u : Unf} {h : Ev} (h0 : (!(decide (0 ≤ h.t) && decide (h.t ≤ (N.ts.length : Int) - 1))) = false) (h1 : (!rising h.pre 0 ((u.cs.length : Int) - 1)) = false) (h2 : (h.pre.length : Int) = (tAt N h.t).pre.length) : fitA N u h = true := by
 have : inR N h.t = true := (Bool.not_eq_false' _).mp h0;rw [fitA, this, (Bool.not_eq_false' _).mp h1, decide_eq_true h2]; rfl
set_option maxRecDepth 20000 in
set_option maxHeartbeats 4000000 in
theorem l7Fits_spec (N : Net) (u : Unf) (h : Ev) (hB : NetB N) (hw : WF u) (hh : h.pre.length ≤ 2000000) : ASpec Tryz.prog 24 [netA N, unfA u, evA h] [] (Pure1 (aT (fitsI N u h))) := by
 have hel := hw.e;have hcl := hw.c;have hnl := hB.l;have hTi : (!(decide (0 ≤ h.t) && decide (h.t ≤ (N.ts.length : Int) - 1))) = false → h.t = (h.t.toNat : Int) := by intro q; simp at q; omega
 have hTg : (!(decide (0 ≤ h.t) && decide (h.t ≤ (N.ts.length : Int) - 1))) = false → (tsL N.ts)[h.t.toNat]? = some (tnD (tAt N h.t)) := by
  intro q;have q2 : h.t.toNat < N.ts.length := by simp at q; omega
  have := tsL_get q2;unfold tAt;rw [List.getD_eq_getElem?_getD, List.getElem?_eq_getElem q2]; exact this
 refine ASpec.of Tryz.func24 rfl rfl fun C hC => ?_
 refine AC.seq (AC.region ?_);refine kD ?_;refine kD ?_;refine kD ?_;refine za ?_;refine AL.nil (th_n (AC.seq (AC.seq ?_)));refine AC.drawn' mixed_ok [[], [0], [], [2], [2,3], [2,3,4], [0,1,2,3,4,5], [0,1,2,3,4,5,6], [0,1,2,3,4,5,6,7], [0,1,2,3,4,5,6,7,8], [0,1,2,3,4,5,6,7,8,9], [0,1,2,3,4,5,6,7,8], [0,1,2,3,4,5,6,7,8,11], [0,1,2,3,4,5,6,7,8,11,12], [0,1,2,3,4,5,6,7,8,11,12,13], [0,1,2,3,4,5,6,7,8,9,10,11,12,13,14], [0,1,2,3,4,5,6,7,8,9,10,11,12,13,14,15], [0,1,2,3,4,5,6,7,8,9,10,11,12,13,14,15,16], [0,1,2,3,4,5,6,7,8,9,10,11,12,13,14,15,16,17], [0,1,2,3,4,5,6,7,8,9,10,11,12,13,14,15,16,17,18], [0,1,2,3,4,5,6,7,8,9,10,11,12,13,14,15,16,17,18,19], [0,1,2,3,4,5,6,7,8,9,10,11,12,13,14,15,16,17,18,19,20], [0,1,2,3,4,5,6,7,8,9,10,11,12,13,14,15,16,17,18], [0,1,2,3,4,5,6,7,8,9,10,11,12,13,14,15,16,17,18,22], [0,1,2,3,4,5,6,7,8,9,10,11,12,13,14,15,16,17,18], [0,1,2,3,4,5,6,7,8,9,10,11,12,13,14,15,16,17,18,24], [0,1,2,3,4,5,6,7,8,9,10,11,12,13,14,15,16,17,18,22,23,24,25], [0,1,2,3,4,5,6,7,8,9,10,11,12,13,14,15,16,17,18,22,23,24,25,26], [0,1,2,3,4,5,6,7,8,9,10,11,12,13,14,15,16,17,18,22,23,24,25,26,27], [0,1,2,3,4,5,6,7,8,9,10,11,12,13,14,15,16,17,18,22,23,24,25,26,27,28], [0,1,2,3,4,5,6,7,8,9,10,11,12,13,14,15,16,17,18,19,20,21,22,23,24,25,26,27,28,29], [0,1,2,3,4,5,6,7,8,9,10,11,12,13,14,15,16,17,18,19,20,21,22,23,24,25,26,27,28,29,30]] (by decide) ?_;refine zd 0 [] 32 (by exact g_fa_ref rfl rfl rfl rfl rfl rfl) ?_;refine zd 1 [0] 32 (by exact g_load_ref rfl rfl rfl) ?_;refine zd 2 [] 32 (by exact g_fa_ref rfl rfl rfl rfl rfl rfl) ?_;refine zd 3 [2] 32 (by exact g_load_ref rfl rfl rfl) ?_;refine zd 4 [2,3] 32 (by exact g_len_view rfl rfl (by exact List.length_map _)) ?_;refine zd 5 [2,3,4] 32 (by exact g_arith rfl rfl rfl (by exact wrap_i64 (by omega))) ?_;refine zh 6 [0,1,2,3,4,5] 32 (by exact h_pure en_l1In rfl rfl (by repeat (first | exact rfl | exact DLead.same | refine ⟨_, _, rfl, ?_, ?_⟩)) (l1In_spec _ _ _) rfl) ?_;refine zd 7 [0,1,2,3,4,5,6] 32 (by exact g_not rfl) ?_;refine zd 8 [0,1,2,3,4,5,6,7] 32 (by exact mv1 rfl) ?_;refine DF.caseB 8 rfl (fun h0 => ?_) (fun h0 => ?_)
 ·refine zg 9 (List.range 9) 32 ?_;refine zg 10 (List.range 10) 32 ?_;refine zg 11 (List.range 9) 32 ?_;refine zg 12 [0,1,2,3,4,5,6,7,8,11] 32 ?_;refine zg 13 [0,1,2,3,4,5,6,7,8,11,12] 32 ?_;refine zg 14 [0,1,2,3,4,5,6,7,8,11,12,13] 32 ?_;refine zg 15 (List.range 15) 32 ?_;refine zg 16 (List.range 16) 32 ?_;refine zd 17 (List.range 17) 32 (by exact g_pickT (r := .d _) rfl rfl) ?_;refine zd 18 (List.range 18) 32 (by exact mv1 rfl) ?_;refine zg 19 (List.range 19) 32 ?_;refine zg 20 (List.range 20) 32 ?_;refine zg 21 (List.range 21) 32 ?_;refine zg 22 (List.range 19) 32 ?_;refine zg 23 [0,1,2,3,4,5,6,7,8,9,10,11,12,13,14,15,16,17,18,22] 32 ?_;refine zg 24 (List.range 19) 32 ?_;refine zg 25 [0,1,2,3,4,5,6,7,8,9,10,11,12,13,14,15,16,17,18,24] 32 ?_;refine zg 26 [0,1,2,3,4,5,6,7,8,9,10,11,12,13,14,15,16,17,18,22,23,24,25] 32 ?_;refine zg 27 [0,1,2,3,4,5,6,7,8,9,10,11,12,13,14,15,16,17,18,22,23,24,25,26] 32 ?_;refine zg 28 [0,1,2,3,4,5,6,7,8,9,10,11,12,13,14,15,16,17,18,22,23,24,25,26,27] 32 ?_;refine zg 29 [0,1,2,3,4,5,6,7,8,9,10,11,12,13,14,15,16,17,18,22,23,24,25,26,27,28] 32 ?_;refine zg 30 (List.range 30) 32 ?_;refine zd 31 (List.range 31) 32 (by exact g_pickT (r := .d _) rfl rfl) ?_;refine zj 32 ?_;refine th_n ?_;refine AC.condT rfl ?_;refine AC.seq (AC.region ?_);refine za ?_;refine AL.nil (th_n (AC.ret (th_r (bq_r ?_))));have hA := fitA_f0 (u := u) h0;exact ret1 rfl (by rw [fitsI, hA]; rfl)
 refine ze 9 (List.range 9) 32 (by exact g_fa_ref rfl rfl rfl rfl rfl rfl) ?_;refine ze 10 (List.range 10) 32 (by exact g_load_ref rfl rfl rfl) ?_;refine ze 11 (List.range 9) 32 (by exact g_fa_ref rfl rfl rfl rfl rfl rfl) ?_;refine ze 12 [0,1,2,3,4,5,6,7,8,11] 32 (by exact g_load_ref rfl rfl rfl) ?_;refine ze 13 [0,1,2,3,4,5,6,7,8,11,12] 32 (by exact g_len_view rfl rfl (by exact List.length_map _)) ?_;refine ze 14 [0,1,2,3,4,5,6,7,8,11,12,13] 32 (by exact g_arith rfl rfl rfl (by exact wrap_i64 (by omega))) ?_;refine zi 15 (List.range 15) 32 (by exact h_pure en_l1Rising rfl rfl (by repeat (first | exact rfl | exact DLead.same | refine ⟨_, _, rfl, ?_, ?_⟩)) (l1Rising_spec _ _ _ (by assumption)) rfl) ?_;refine ze 16 (List.range 16) 32 (by exact g_not rfl) ?_;refine zd 17 (List.range 17) 32 (by exact g_pickF (r := .d _) rfl rfl) ?_;refine zd 18 (List.range 18) 32 (by exact mv1 rfl) ?_;refine DF.caseB 18 rfl (fun h1 => ?_) (fun h1 => ?_)
 ·refine zg 19 (List.range 19) 32 ?_;refine zg 20 (List.range 20) 32 ?_;refine zg 21 (List.range 21) 32 ?_;refine zg 22 (List.range 19) 32 ?_;refine zg 23 [0,1,2,3,4,5,6,7,8,9,10,11,12,13,14,15,16,17,18,22] 32 ?_;refine zg 24 (List.range 19) 32 ?_;refine zg 25 [0,1,2,3,4,5,6,7,8,9,10,11,12,13,14,15,16,17,18,24] 32 ?_;refine zg 26 [0,1,2,3,4,5,6,7,8,9,10,11,12,13,14,15,16,17,18,22,23,24,25] 32 ?_;refine zg 27 [0,1,2,3,4,5,6,7,8,9,10,11,12,13,14,15,16,17,18,22,23,24,25,26] 32 ?_;refine zg 28 [0,1,2,3,4,5,6,7,8,9,10,11,12,13,14,15,16,17,18,22,23,24,25,26,27] 32 ?_;refine zg 29 [0,1,2,3,4,5,6,7,8,9,10,11,12,13,14,15,16,17,18,22,23,24,25,26,27,28] 32 ?_;refine zg 30 (List.range 30) 32 ?_;refine zd 31 (List.range 31) 32 (by exact g_pickT (r := .d _) rfl rfl) ?_;refine zj 32 ?_;refine th_n ?_;refine AC.condT rfl ?_;refine AC.seq (AC.region ?_);refine za ?_;refine AL.nil (th_n (AC.ret (th_r (bq_r ?_))));have hA := fitA_f1 (N := N) h1;exact ret1 rfl (by rw [fitsI, hA]; rfl)
 refine ze 19 (List.range 19) 32 (by exact g_fa_ref rfl rfl rfl rfl rfl rfl) ?_;refine ze 20 (List.range 20) 32 (by exact g_load_ref rfl rfl rfl) ?_;refine ze 21 (List.range 21) 32 (by exact g_len_view rfl rfl (by exact List.length_map _)) ?_;refine ze 22 (List.range 19) 32 (by exact g_fa_ref rfl rfl rfl rfl rfl rfl) ?_;refine ze 23 [0,1,2,3,4,5,6,7,8,9,10,11,12,13,14,15,16,17,18,22] 32 (by exact g_load_ref rfl rfl rfl) ?_;refine ze 24 (List.range 19) 32 (by exact g_fa_ref rfl rfl rfl rfl rfl rfl) ?_;refine ze 25 [0,1,2,3,4,5,6,7,8,9,10,11,12,13,14,15,16,17,18,24] 32 (by exact g_load_ref rfl rfl rfl) ?_;refine ze 26 [0,1,2,3,4,5,6,7,8,9,10,11,12,13,14,15,16,17,18,22,23,24,25] 32 (by exact g_ia_view (i := h.t.toNat) rfl rfl rfl rfl rfl (hTi h0) (hTg h0)) ?_;refine ze 27 [0,1,2,3,4,5,6,7,8,9,10,11,12,13,14,15,16,17,18,22,23,24,25,26] 32 (by exact g_fa_ref rfl rfl rfl rfl rfl rfl) ?_;refine ze 28 [0,1,2,3,4,5,6,7,8,9,10,11,12,13,14,15,16,17,18,22,23,24,25,26,27] 32 (by exact g_load_ref rfl rfl rfl) ?_;refine ze 29 [0,1,2,3,4,5,6,7,8,9,10,11,12,13,14,15,16,17,18,22,23,24,25,26,27,28] 32 (by exact g_len_view rfl rfl (by exact List.length_map _)) ?_;refine ze 30 (List.range 30) 32 (by exact g_cmp rfl rfl rfl) ?_;refine zd 31 (List.range 31) 32 (by exact g_pickF (r := .d _) rfl rfl) ?_;refine zj 32 ?_;refine th_n ?_;refine AC.condND rfl (fun h2 => ?_) (fun h2 => ?_)
 ·refine AC.seq (AC.region ?_);refine za ?_;refine AL.nil (th_n (AC.ret (th_r (bq_r ?_))));have hA := fitA_f2 (u := u) h2;exact ret1 rfl (by rw [fitsI, hA]; rfl)
 refine AC.skip (th_n (AC.seq (AC.seq ?_)));have hA := fitA_t (u := u) h0 h1 (by omega);have hT0 := hTi h0;have hTt : h.t.toNat < N.ts.length := by have := h0; simp at this; omega
 have hTm : tAt N h.t ∈ N.ts := by rw [hT0, tAt_nat hTt]; exact List.getElem_mem hTt
 have hTl := (hB.t _ hTm).1;have hTl2 := (hB.t _ hTm).2;have hpl : h.pre.length ≤ 1000000 := by omega
 have hpi : ∀ c, c ∈ h.pre → 0 ≤ c ∧ c < u.cs.length := fun c hc => by have := rising_in ((Bool.not_eq_false' _).mp h1) c hc; omega
 have hPl := l7Places_spec u h.pre hw hpl hpi;have hTg2 := l7Together_spec u h.pre hw hpl hpi;have hpll := placesI_len u h.pre;obtain ⟨pl, hple⟩ := eqx (placesI u h.pre);obtain ⟨tg, htg⟩ := eqx (togI u h.pre);have hfc : fitC N u h = (decide (pl = (tAt N h.t).pre) && tg) := by rw [hple, htg]; rfl
 rw [← hple] at hPl hpll;rw [← htg] at hTg2;refine AC.region ?_;refine zf ?_;refine zr ?_;refine kH ?_;refine zm ?_;refine AL.nil (th_n (AC.block ?_));refine AC.loop (ι := Nat) (fun k => ⟨79, 108, [(3, .d (.ref (netD N))), (4, .d (.ref (unfD u))), (5, .d (.ref (evD h))), (42, .d (vEs u.es)), (43, aI u.es.length), (44, aI k)], []⟩) (fun k => k ≤ u.es.length ∧ ∀ j (hj : j < u.es.length), j < k → (decide (u.es[j].t = h.t) && decide (u.es[j].pre = h.pre)) = false) (fun k => u.es.length - k) (0) ?_ (⟨Nat.zero_le _, fun j _ hj => by omega⟩) ?_
 ·refine Weak.ren _ [] hC rfl ?_ ?_ rfl rfl rfl <;> repeat (first | exact True.intro | refine And.intro ?_ ?_ | exact DLead.same)
 intro k ⟨hk, hall⟩;refine AC.seq (AC.region ?_);refine zc ?_;refine AL.nil (th_n (AC.seq ?_));refine AC.condD rfl (fun h3 => ?_) (fun h3 => ?_)
 ·refine AC.skip (th_n (AC.seq (AC.block (AC.seq ?_))));have hk1 : k < u.es.length := by omega
  have hget := evsL_get hk1;have hel1 := hw.l _ (List.getElem_mem hk1);refine AC.region ?_;refine AL.p (by exact g_ia_view rfl rfl rfl rfl rfl (by rfl) (by assumption)) rfl ?_;refine kG ?_;refine kE ?_;refine zs ?_;refine AL.nil (th_n (AC.seq (AC.region ?_)));refine zF ?_;refine zl ?_;refine zf ?_;refine zr ?_;refine zc ?_;refine zm ?_;refine AL.caseG rfl rfl (fun h4 => ?_) (fun h4 => ?_)
  ·refine zy ?_;refine zF ?_;refine zy ?_;refine zl ?_;refine zy ?_;refine zf ?_;refine zy ?_;refine zr ?_;refine zy ?_;refine AL.q (by exact h_pure en_l1Same rfl rfl (by repeat (first | exact rfl | exact DLead.same | refine ⟨_, _, rfl, ?_, ?_⟩)) (l1Same_spec _ _ (by assumption) (by assumption)) rfl) rfl ?_;refine zQ ?_;refine AL.nil (th_n ?_);refine AC.condD rfl (fun h5 => ?_) (fun h5 => ?_)
   ·refine AC.seq (AC.region ?_);refine za ?_;refine AL.nil (th_n (AC.ret (ib_r (th_r (th_r (ib_r (th_r (bq_r ?_))))))));have hB2 : fitB u h = true := List.any_eq_true.2 ⟨_, List.getElem_mem hk1, by rw [decide_eq_true h4, decide_eq_true h5]; rfl⟩;exact ret1 rfl (by rw [fitsI, hB2]; simp)
   refine AC.skip (ib_n (th_n (AC.region ?_)));refine zA ?_;refine zm ?_;refine AL.nil (th_n ?_);have e := dd_f2 (a := u.es[k].t = h.t) h5;exact ⟨k + 1, ⟨by omega, fun j hj hj2 => by rcases Nat.lt_succ_iff_lt_or_eq.1 hj2 with h' | rfl; exact hall j hj h'; exact e⟩, by omega, Weak.ren _ [] hC rfl (by repeat (first | exact True.intro | refine And.intro ?_ ?_ | exact DLead.same)) (by repeat (exact True.intro)) rfl rfl rfl⟩
  refine zn ?_;refine zn ?_;refine zn ?_;refine zn ?_;refine zn ?_;refine zP ?_;refine AL.nil (th_n ?_);refine AC.condF rfl ?_;refine AC.skip (ib_n (th_n (AC.region ?_)));refine zA ?_;refine zm ?_;refine AL.nil (th_n ?_);have e := dd_f1 (b := u.es[k].pre = h.pre) h4;exact ⟨k + 1, ⟨by omega, fun j hj hj2 => by rcases Nat.lt_succ_iff_lt_or_eq.1 hj2 with h' | rfl; exact hall j hj h'; exact e⟩, by omega, Weak.ren _ [] hC rfl (by repeat (first | exact True.intro | refine And.intro ?_ ?_ | exact DLead.same)) (by repeat (exact True.intro)) rfl rfl rfl⟩
 refine AC.exit (th_e (th_e (ib_y (th_n (AC.seq ?_)))));have hFB : fitB u h = false := List.any_eq_false.2 (fun x hx => by obtain ⟨j, hj, rfl⟩ := List.getElem_of_mem hx; rw [hall j hj (by omega)]; decide);refine AC.drawn' mixed_ok [[], [], [1], [0,1,2], [], [4], [], [6], [4,5,6,7], [4,5,6,7,8], [4,5,6,7,8,9], [0,1,2,3,4,5,6,7,8,9,10], [0,1,2,3,4,5,6,7,8,9,10,11], [0,1,2,3,4,5,6,7,8,9,10,11,12], [0,1,2,3,4,5,6,7,8,9,10,11,12], [0,1,2,3,4,5,6,7,8,9,10,11,12,14], [0,1,2,3,4,5,6,7,8,9,10,11,12,13,14,15], [0,1,2,3,4,5,6,7,8,9,10,11,12,13,14,15,16], [0,1,2,3,4,5,6,7,8,9,10,11,12,13,14,15,16,17]] (by decide) ?_;refine zd 0 [] 19 (by exact g_load_refN rfl rfl rfl rfl) ?_;refine zd 1 [] 19 (by exact g_fa_ref rfl rfl rfl rfl rfl rfl) ?_;refine zd 2 [1] 19 (by exact g_load_ref rfl rfl rfl) ?_;refine zh 3 [0,1,2] 19 (by exact h_pure en_l7Places rfl rfl (by repeat (first | exact rfl | exact DLead.same | refine ⟨_, _, rfl, ?_, ?_⟩ | refine ⟨_, rfl, ?_⟩)) hPl rfl) ?_;refine zd 4 [] 19 (by exact g_fa_ref rfl rfl rfl rfl rfl rfl) ?_;refine zd 5 [4] 19 (by exact g_load_ref rfl rfl rfl) ?_;refine zd 6 [] 19 (by exact g_fa_ref rfl rfl rfl rfl rfl rfl) ?_;refine zd 7 [6] 19 (by exact g_load_ref rfl rfl rfl) ?_;refine zd 8 [4,5,6,7] 19 (by exact g_ia_view (i := h.t.toNat) rfl rfl rfl rfl rfl (hTi h0) (hTg h0)) ?_;refine zd 9 [4,5,6,7,8] 19 (by exact g_fa_ref rfl rfl rfl rfl rfl rfl) ?_;refine zd 10 [4,5,6,7,8,9] 19 (by exact g_load_ref rfl rfl rfl) ?_;refine zh 11 (List.range 11) 19 (by exact h_pure en_l1Same rfl rfl (by repeat (first | exact rfl | exact DLead.same | refine ⟨_, _, rfl, ?_, ?_⟩)) (l1Same_spec _ _ (by omega) (by assumption)) rfl) ?_;refine zd 12 (List.range 12) 19 (by exact mv1 rfl) ?_;refine DF.caseD 12 rfl (fun h4 => ?_) (fun h4 => ?_)
 ·refine ze 13 (List.range 13) 19 (by exact g_load_refN rfl rfl rfl rfl) ?_;refine ze 14 (List.range 13) 19 (by exact g_fa_ref rfl rfl rfl rfl rfl rfl) ?_;refine ze 15 [0,1,2,3,4,5,6,7,8,9,10,11,12,14] 19 (by exact g_load_ref rfl rfl rfl) ?_;refine zi 16 (List.range 16) 19 (by exact h_pure en_l7Together rfl rfl (by repeat (first | exact rfl | exact DLead.same | refine ⟨_, _, rfl, ?_, ?_⟩ | refine ⟨_, rfl, ?_⟩)) hTg2 rfl) ?_;refine zd 17 (List.range 17) 19 (by exact g_pickT (r := .d _) rfl rfl) ?_;refine zd 18 (List.range 18) 19 (by exact as1 rfl) ?_;refine zj 19 ?_;refine th_n (AC.ret (bq_r ?_));exact ret1 rfl (by rw [fitsI, hA, hFB, hfc, decide_eq_true h4]; rfl)
 refine zg 13 (List.range 13) 19 ?_;refine zg 14 (List.range 13) 19 ?_;refine zg 15 [0,1,2,3,4,5,6,7,8,9,10,11,12,14] 19 ?_;refine zg 16 (List.range 16) 19 ?_;refine zd 17 (List.range 17) 19 (by exact g_pickF (r := .d _) rfl rfl) ?_;refine zd 18 (List.range 18) 19 (by exact as1 rfl) ?_;refine zj 19 ?_;refine th_n (AC.ret (bq_r ?_));exact ret1 rfl (by rw [fitsI, hA, hFB, hfc, decide_eq_false h4]; rfl)
theorem en_l7Fits : Enters Tryz.prog 24 := enters_of Tryz.func24 rfl rfl
theorem condsL_len (l : List Cond) : (condsL l).length = l.length := List.length_map _
theorem h_appendC (acc new : List Cond) {s : ASt} {dst : Option Nat} {ty : Nat} {pos : String} {af : Array Edge} {gd : Option (Nat × Bool)} {x y : Operand} {f : Nat} {ids ids2 : List Nat} {gone : List (Nat × Option Chunk)}
  (hto : AppTo s x 88 2 (condsL acc) ids gone) (harg : AppArg s y 2 (condsL new) ids2) (h : (acc ++ new).length ≤ 100000000) (hnew : gone = [] → 0 < new.length) :
  NOp Tryz.prog (ids ++ ids2) s ⟨dst, .call { callee := .builtin .append, args := #[x, y], argTypes := #[35, 35] }, ty, pos, af, gd⟩ f ⟨.own f (acc ++ new).length, (f, some (.arr 88 2 (condsL (acc ++ new)))) :: gone⟩ := by
 have := h_append (P := Tryz.prog) (s := s) (dst := dst) (ty := ty) (pos := pos) (af := af) (gd := gd) (x := x) (y := y) (f := f) (t := 35) (tx := 35) (k := (acc ++ new).length) rfl rfl rfl rfl rfl rfl hto harg (by simp) (by omega) (by show (acc ++ new).length * 16 ≤ _; omega) (fun h => by rw [condsL_len]; exact hnew h)
 rwa [← List.map_append] at this
theorem evsL_len (l : List Ev) : (evsL l).length = l.length := List.length_map _
theorem h_appendE (acc new : List Ev) {s : ASt} {dst : Option Nat} {ty : Nat} {pos : String} {af : Array Edge} {gd : Option (Nat × Bool)} {x y : Operand} {f : Nat} {ids ids2 : List Nat} {gone : List (Nat × Option Chunk)}
  (hto : AppTo s x 46 2 (evsL acc) ids gone) (harg : AppArg s y 2 (evsL new) ids2) (h : (acc ++ new).length ≤ 100000000) (hnew : gone = [] → 0 < new.length) :
  NOp Tryz.prog (ids ++ ids2) s ⟨dst, .call { callee := .builtin .append, args := #[x, y], argTypes := #[36, 36] }, ty, pos, af, gd⟩ f ⟨.own f (acc ++ new).length, (f, some (.arr 46 2 (evsL (acc ++ new)))) :: gone⟩ := by
 have := h_append (P := Tryz.prog) (s := s) (dst := dst) (ty := ty) (pos := pos) (af := af) (gd := gd) (x := x) (y := y) (f := f) (t := 36) (tx := 36) (k := (acc ++ new).length) rfl rfl rfl rfl rfl rfl hto harg (by simp) (by omega) (by show (acc ++ new).length * 32 ≤ _; omega) (fun h => by rw [evsL_len]; exact hnew h)
 rwa [← List.map_append] at this
def withC (u : Unf) (post : List Int) : List Cond := u.cs ++ post.map (fun p => ⟨p, (u.es.length : Int)⟩)
def withI (N : Net) (u : Unf) (h : Ev) : Unf := ⟨withC u (tAt N h.t).post, u.es ++ [h]⟩
theorem withC_take {u : Unf} {l : List Int} {k : Nat} (hk : k < l.length) : withC u (l.take (k + 1)) = withC u (l.take k) ++ [⟨l[k], (u.es.length : Int)⟩] := by
 unfold withC;rw [List.take_add_one, List.getElem?_eq_getElem hk, List.map_append, List.append_assoc]; rfl
theorem withC_len (u : Unf) (l : List Int) : (withC u l).length = u.cs.length + l.length := by unfold withC; rw [List.length_append, List.length_map]
set_option maxHeartbeats 4000000 in
theorem l7With_spec (N : Net) (u : Unf) (h : Ev) (hB : NetB N) (hw : WF u) (hh : h.pre.length ≤ 1000000) (hr : inR N h.t = true) : ASpec Tryz.prog 26 [netA N, unfA u, evA h] [] (Pure1 (unfA (withI N u h))) := by
 have hel := hw.e;have hcl := hw.c;obtain ⟨i, hi, hin⟩ := inR_nat hr;have hgetT := tsL_get hin;have hpl := (hB.t _ (List.getElem_mem hin)).2;have hwi : withI N u h = ⟨withC u N.ts[i].post, u.es ++ [h]⟩ := by unfold withI; rw [hi, tAt_nat hin]
 obtain ⟨ht, hp⟩ := h;obtain rfl : ht = (i : Int) := hi;rw [hwi];refine ASpec.of Tryz.func26 rfl rfl fun C hC => ?_
 refine AC.seq (AC.region ?_);refine kD ?_;refine kD ?_;refine kD ?_;refine kE ?_;refine AL.nil (th_n (AC.seq (AC.region ?_)));refine AL.q (by exact h_lit rfl rfl rfl rfl rfl rfl rfl rfl) rfl ?_;refine zf ?_;refine zr ?_;refine AL.q (by exact h_appendC [] u.cs (.own rfl rfl rfl) (.view rfl) (by simp; omega) (by simp)) rfl ?_;refine AL.p (by exact g_build rfl rfl rfl) rfl ?_;refine kE ?_;refine zs ?_;refine AL.nil (th_n (AC.seq (AC.seq (AC.region ?_))));refine zf ?_;refine zr ?_;refine kH ?_;refine zm ?_;refine AL.nil (th_n (AC.block ?_));refine AC.loop (ι := Nat) (fun k => ⟨63, 136, [(3, .d (.ref (netD N))), (4, .d (.ref (unfD u))), (5, .d (.ref (evD ⟨(i : Int), hp⟩))), (6, .ptr 103 0), (7, .ptr 100 0), (18, .d (vEs u.es)), (19, aI u.es.length), (20, aI k)], [(100, some (.cells 38 [.own 101 u.cs.length, .own 102 k])), (101, some (.arr 88 2 (condsL u.cs))), (102, some (.arr 46 2 (evsL (u.es.take k)))), (103, some (.cells 38 [.d (.val (.slice none 0 0)), .d (.val (.slice none 0 0))]))]⟩) (fun k => k ≤ u.es.length) (fun k => u.es.length - k) (0) ?_ (Nat.zero_le _) ?_
 ·exact (Weak.nilOwnP 7 1 (e := 46) (sz := 2) rfl rfl rfl rfl rfl).trans (zw [(100, _), (101, _), (102, _), (103, _)] hC)
 intro k hk;refine AC.seq (AC.region ?_);refine zc ?_;refine AL.nil (th_n (AC.seq ?_));refine AC.condD rfl (fun h0 => ?_) (fun h0 => ?_)
 ·refine AC.skip (th_n (AC.seq (AC.block (AC.seq ?_))));have hk1 : k < u.es.length := by omega
  have hget := evsL_get hk1;have hl1 := hw.l _ (List.getElem_mem hk1);have htl : (u.es.take k).length = k := by rw [List.length_take]; omega
  have htk : u.es.take (k + 1) = u.es.take k ++ [u.es[k]] := by rw [List.take_add_one, List.getElem?_eq_getElem hk1]; rfl
  refine AC.region ?_;refine AL.p (by exact g_ia_view rfl rfl rfl rfl rfl (by rfl) (by assumption)) rfl ?_;refine kG ?_;refine kE ?_;refine zs ?_;refine AL.nil (th_n ?_);refine AC.drawn' mixed_ok [[], [0], [], [2], [2,3], [0,1,2,3,4], [0,1,2,3,4,5], [0,1,2,3,4,5,6]] (by decide) ?_;refine zd 0 [] 8 (by exact g_fa_ptr rfl rfl rfl rfl rfl) ?_;refine zd 1 [0] 8 (by exact g_load_ptr rfl rfl rfl rfl rfl) ?_;refine zd 2 [] 8 (by exact g_load_ptrN rfl rfl rfl rfl rfl) ?_;refine zh 3 [2] 8 (by exact h_pure en_l7OwnH rfl rfl (by repeat (first | exact rfl | exact DLead.same | refine ⟨_, _, rfl, ?_, ?_⟩ | refine ⟨_, rfl, ?_⟩)) (l7OwnH_spec _ (by assumption)) rfl) ?_;refine zh 4 [2,3] 8 (by exact h_litF rfl rfl rfl rfl rfl rfl rfl rfl) ?_;refine zh 5 [0,1,2,3,4] 8 (by exact h_appendE (u.es.take k) [u.es[k]] (.own rfl rfl (by rw [evsL_len, htl])) (.view rfl) (by simp; omega) (by simp)) ?_;refine zd 6 [0,1,2,3,4,5] 8 (by exact g_fa_ptr rfl rfl rfl rfl rfl) ?_;refine zh 7 [0,1,2,3,4,5,6] 8 (by exact h_store rfl rfl rfl rfl rfl rfl) ?_;refine zj 8 ?_;refine ib_n (th_n (AC.region ?_));refine zA ?_;refine zm ?_;refine AL.nil (th_n ?_);have hl3 : (u.es.take k ++ [u.es[k]]).length = k + 1 := by rw [List.length_append, htl]; rfl
  exact ⟨k + 1, by omega, by omega, zw [(100, _), (101, _), (102, _), (103, _)] hC (b := by rw [htk, ← hl3]; repeat (first | exact True.intro | refine And.intro ?_ ?_ | exact DLead.same | exact rfl | refine ⟨_, _, rfl, rfl, ?_⟩ | refine ⟨_, rfl, ?_⟩ | refine ⟨_, _, rfl, ?_, ?_⟩))⟩
 refine AC.exit (th_e (th_e (ib_y (th_n (AC.seq ?_)))));have hkk : k = u.es.length := by omega
 subst hkk;rw [List.take_length];refine AC.drawn' mixed_ok [[], [0], [], [2], [2,3], [0,1,2,3,4], [0,1,2,3,4,5], [0,1,2,3,4,5,6]] (by decide) ?_;refine zd 0 [] 8 (by exact g_fa_ptr rfl rfl rfl rfl rfl) ?_;refine zd 1 [0] 8 (by exact g_load_ptr rfl rfl rfl rfl rfl) ?_;refine zd 2 [] 8 (by exact g_load_refN rfl rfl rfl rfl) ?_;refine zh 3 [2] 8 (by exact h_pure en_l7OwnH rfl rfl (by repeat (first | exact rfl | exact DLead.same | refine ⟨_, _, rfl, ?_, ?_⟩ | refine ⟨_, rfl, ?_⟩)) (l7OwnH_spec _ (by assumption)) rfl) ?_;refine zh 4 [2,3] 8 (by exact h_litF rfl rfl rfl rfl rfl rfl rfl rfl) ?_;refine zh 5 [0,1,2,3,4] 8 (by exact h_appendE u.es [⟨(i : Int), hp⟩] (.own rfl rfl (evsL_len _).symm) (.view rfl) (by simp; omega) (by simp)) ?_;refine zd 6 [0,1,2,3,4,5] 8 (by exact g_fa_ptr rfl rfl rfl rfl rfl) ?_;refine zh 7 [0,1,2,3,4,5,6] 8 (by exact h_store rfl rfl rfl rfl rfl rfl) ?_;refine zj 8 ?_;refine th_n (AC.seq (AC.seq (AC.region ?_)));refine zf ?_;refine zr ?_;refine zf ?_;refine zr ?_;refine AL.p (by exact g_ia_view rfl rfl rfl rfl rfl (by rfl) (by assumption)) rfl ?_;refine zf ?_;refine zr ?_;refine kH ?_;refine zm ?_;refine AL.nil (th_n (AC.block ?_));refine AC.loop (ι := Nat) (fun k => ⟨63, 136, [(4, .d (.ref (unfD u))), (6, .ptr 103 0), (7, .ptr 100 0), (45, .d (vI N.ts[i].post)), (46, aI N.ts[i].post.length), (47, aI k)], [(100, some (.cells 38 [.own 101 (u.cs.length + k), .own 102 (u.es ++ [(⟨(i : Int), hp⟩ : Ev)]).length])), (101, some (.arr 88 2 (condsL (withC u (N.ts[i].post.take k))))), (102, some (.arr 46 2 (evsL (u.es ++ [(⟨(i : Int), hp⟩ : Ev)])))), (103, some (.cells 38 [.d (.val (.slice none 0 0)), .d (.val (.slice none 0 0))]))]⟩) (fun k => k ≤ N.ts[i].post.length) (fun k => N.ts[i].post.length - k) (0) ?_ (Nat.zero_le _) ?_
 ·exact Weak.ren _ [(100, _), (101, _), (102, _), (103, _)] hC rfl (by repeat (first | exact True.intro | refine And.intro ?_ ?_ | exact DLead.same | exact rfl | refine ⟨_, rfl, ?_⟩)) (by rw [show withC u (N.ts[i].post.take 0) = u.cs from List.append_nil _]; repeat (first | exact True.intro | refine And.intro ?_ ?_ | exact DLead.same | exact rfl | refine ⟨_, _, rfl, rfl, ?_⟩ | refine ⟨_, rfl, ?_⟩ | refine ⟨_, _, rfl, ?_, ?_⟩)) rfl rfl rfl
 intro k hk;refine AC.seq (AC.region ?_);refine zc ?_;refine AL.nil (th_n (AC.seq ?_));refine AC.condD rfl (fun h1 => ?_) (fun h1 => ?_)
 ·refine AC.skip (th_n (AC.seq (AC.block (AC.seq ?_))));have hk1 : k < N.ts[i].post.length := by omega
  have hget := ints_at hk1;have hwt := withC_take (u := u) hk1;have hwl : (withC u (N.ts[i].post.take k)).length = u.cs.length + k := by rw [withC_len, List.length_take]; omega
  refine AC.region ?_;refine AL.p (by exact g_ia_view rfl rfl rfl rfl rfl (by rfl) (by assumption)) rfl ?_;refine zr ?_;refine za ?_;refine AL.nil (th_n (AC.region ?_));refine zF ?_;refine zl ?_;refine zm ?_;refine zf ?_;refine zr ?_;refine kH ?_;refine AL.p (by exact g_build rfl rfl rfl) rfl ?_;refine AL.q (by exact h_litF rfl rfl rfl rfl rfl rfl rfl rfl) rfl ?_;refine AL.q (by exact h_appendC (withC u (N.ts[i].post.take k)) [⟨N.ts[i].post[k], (u.es.length : Int)⟩] (.own rfl rfl (by rw [condsL_len, hwl])) (.view rfl) (by rw [List.length_append, hwl]; show u.cs.length + k + 1 ≤ _; omega) (by simp)) rfl ?_;refine zF ?_;refine zs ?_;refine AL.nil (ib_n (th_n (AC.region ?_)));refine zA ?_;refine zm ?_;refine AL.nil (th_n ?_);have hl5 : (withC u (N.ts[i].post.take k) ++ [(⟨N.ts[i].post[k], (u.es.length : Int)⟩ : Cond)]).length = u.cs.length + (k + 1) := by rw [List.length_append, hwl]; rfl
  exact ⟨k + 1, by omega, by omega, zw [(100, _), (101, _), (102, _), (103, _)] hC (b := by rw [hwt, ← hl5]; repeat (first | exact True.intro | refine And.intro ?_ ?_ | exact DLead.same | exact rfl | refine ⟨_, _, rfl, rfl, ?_⟩ | refine ⟨_, rfl, ?_⟩ | refine ⟨_, _, rfl, ?_, ?_⟩))⟩
 refine AC.exit (th_e (th_e (ib_y (th_n (AC.seq ?_)))));have hkk : k = N.ts[i].post.length := by omega
 subst hkk;rw [List.take_length];have hwl : (withC u N.ts[i].post).length = u.cs.length + N.ts[i].post.length := withC_len _ _;refine AC.weak (Weak.freezeP (els' := condsL (withC u N.ts[i].post)) 7 0 rfl rfl rfl rfl (by rw [condsL_len, hwl]; exact Nat.le_refl _) (List.take_of_length_le (by rw [condsL_len, hwl]; exact Nat.le_refl _)) rfl) ?_;refine AC.weak (Weak.freezeP (els' := evsL (u.es ++ [(⟨(i : Int), hp⟩ : Ev)])) 7 1 rfl rfl rfl rfl (by rw [evsL_len]; exact Nat.le_refl _) (List.take_of_length_le (by rw [evsL_len]; exact Nat.le_refl _)) rfl) ?_;refine AC.region ?_;refine AL.p (by exact g_load_ptrN rfl rfl rfl rfl rfl) rfl ?_;refine zs ?_;refine AL.nil (th_n (AC.ret (bq_r ?_)));exact ret0 rfl (by repeat (first | exact DLead.same | exact rfl | refine ⟨_, rfl, ?_⟩ | refine ⟨_, _, rfl, ?_, ?_⟩))
theorem en_l7With : Enters Tryz.prog 26 := enters_of Tryz.func26 rfl rfl
def twoInts (P : Program) (t : Nat) : Bool :=
 match P.underlying t with
 | some (.struct fs) =>
  !P.stoodInHeld t && !P.eqGuardType P.depth t &&
   match fs.toList with
   | [f, g] => f.name != "_" && g.name != "_" && f.offset == 0 && g.offset == 1 &&
    (match P.underlying f.type with | some (.int _) => true | _ => false) && (match P.underlying g.type with | some (.int _) => true | _ => false) && P.plainKey f.type && P.plainKey g.type
   | _ => false
 | _ => false
def eqOf (op : BinOp) (b : Bool) : Option Bool :=
 match op with
 | .eql => some b
 | .neq => some (!b)
 | _ => none
section
variable {P : Program} [PT P]
variable {s : ASt} {dst : Option Nat} {ty : Nat} {pos : String} {af : Array Edge} {gd : Option (Nat × Bool)} {x y : Operand} {xt yt : Nat}
theorem equal2 {t : Nat} {a b c d : Int} (h : twoInts P t = true) (w : World) : (Op.equalIn 10000 t (.agg #[.int .i64 a, .int .i64 b]) (.agg #[.int .i64 c, .int .i64 d])).run P w = .ok (decide (a = c ∧ b = d)) w ∧ P.eqGuardType P.depth t = false := by
 unfold twoInts at h
 split at h
 ·rename_i fs hu;simp only [Bool.and_eq_true, Bool.not_eq_true'] at h;obtain ⟨⟨h1, h2⟩, h3⟩ := h;refine ⟨?_, h2⟩;have hF : P.fieldsOf t = fs := by unfold Program.fieldsOf; rw [hu]
  rw [run_equalIn_agg w 9999 t _ _ (by rw [hF]; exact hu) h1, hF]
  split at h3
  ·rename_i f g he;rw [he];simp only [Bool.and_eq_true, bne_iff_ne, ne_eq, beq_iff_eq] at h3;obtain ⟨⟨⟨⟨⟨⟨⟨n1, n2⟩, o1⟩, o2⟩, u1⟩, u2⟩, p1⟩, p2⟩ := h3
   split at u1
   ·rename_i k1 hu1
    split at u2
    ·rename_i k2 hu2;simp only [Op.eqFields, ne_eq, n1, n2, not_false_eq_true, if_true, o1, o2, Sem.run_bind];rw [run_part_plain (w := w) p1 (v := .int .i64 a) rfl];simp only [Result.andThen_ok, Sem.run_bind];rw [run_part_plain (w := w) p1 (v := .int .i64 c) rfl];simp only [Result.andThen_ok, Sem.run_bind];rw [run_equalIn_int w _ _ _ _ _ _ hu1];simp only [Result.andThen_ok, Sem.run_ite]
     by_cases e1 : a = c
     ·subst e1;rw [if_neg (by simp)];simp only [Sem.run_bind];rw [run_part_plain (w := w) p2 (v := .int .i64 b) rfl];simp only [Result.andThen_ok, Sem.run_bind];rw [run_part_plain (w := w) p2 (v := .int .i64 d) rfl];simp only [Result.andThen_ok, Sem.run_bind];rw [run_equalIn_int w _ _ _ _ _ _ hu2];simp only [Result.andThen_ok, Sem.run_ite, Sem.run_pure]
      by_cases e2 : b = d
      ·subst e2; simp
      simp [e2]
     rw [if_pos (by simp [e1])];simp [e1]
    exact absurd u2 (by decide)
   exact absurd u1 (by decide)
  exact absurd h3 (by decide)
 exact absurd h (by decide)
theorem two_agg {m : Nat → Option (Option Nat × Nat)} {F : Nat → Prop} {w : World} {a b : Int} {v : Value} (h : ARep m F w (.agg [aI a, aI b]) v) : v = .agg #[.int .i64 a, .int .i64 b] := by
 cases h with
 | agg h1 h2 h3 =>
  rename_i vs;have e0 := h2 0 _ rfl;have e1 := h2 1 _ rfl;obtain ⟨e0, -⟩ := e0.val_eq;obtain ⟨e1, -⟩ := e1.val_eq;have hsz : vs.size = 2 := h1;congr 1
  apply Array.ext
  ·exact hsz
  intro i hi hi2
  match i, hi, hi2 with
  | 0, hi, hi2 => rw [Array.getD_eq_getD_getElem?, Array.getElem?_eq_getElem hi] at e0; exact e0
  | 1, hi, hi2 => rw [Array.getD_eq_getD_getElem?, Array.getElem?_eq_getElem hi] at e1; exact e1
  | n + 2, hi, hi2 => omega
theorem g_eq2 {a b c d : Int} {op : BinOp} {r : Bool} (ht : twoInts P xt = true) (hx : s.ev x = .agg [aI a, aI b]) (hy : s.ev y = .agg [aI c, aI d]) (hop : eqOf op (decide (a = c ∧ b = d)) = some r) :
  GOp P [] s ⟨dst, .binOp op xt x y yt, ty, pos, af, gd⟩ (aT r) := by
 refine ⟨fun s' ha C U a' w m hR => ?_⟩;have h1 := hR.ev x;have h2 := hR.ev y;rw [ha.2.1 x (by simp [Op.operands]), hx] at h1;rw [ha.2.1 y (by simp [Op.operands]), hy] at h2;have e1 := two_agg h1;have e2 := two_agg h2;obtain ⟨q1, q2⟩ := equal2 (a := a) (b := b) (c := c) (d := d) ht w;refine ⟨.bool r, ?_, .d (.val trivial)⟩;simp only [execOp, e1, e2, Sem.run_bind, run_eqGuard_agg w op xt x y _ _ q2, Result.andThen_ok];cases op <;> simp only [eqOf, Option.some.injEq, reduceCtorEq] at hop
 ·subst hop; rw [run_eql_struct, q1]; rfl
 subst hop; rw [run_neq_struct, q1]; rfl
abbrev dU (b : BitVec 64) : DV := .val (.int .u64 (b.toNat : Int))
abbrev aU (b : BitVec 64) : AV := .d (dU b)
theorem u64_wrap (b : BitVec 64) : IntKind.u64.wrap (b.toNat : Int) = (b.toNat : Int) := wrap_u64 (by have := b.isLt; omega)
theorem u64_of (b : BitVec 64) : BitVec.ofInt IntKind.u64.bits (b.toNat : Int) = b := by
 show BitVec.ofInt 64 (b.toNat : Int) = b;rw [BitVec.ofInt_natCast, BitVec.ofNat_toNat, BitVec.setWidth_eq]
theorem g_or64 {a b : BitVec 64} (hx : s.ev x = aU a) (hy : s.ev y = aU b) : GOp P [] s ⟨dst, .binOp .or xt x y yt, ty, pos, af, gd⟩ (aU (a ||| b)) :=
 g_bits hx hy (by simp only [bitsOf, u64_of]; exact congrArg some (u64_wrap _))
theorem g_and64 {a b : BitVec 64} (hx : s.ev x = aU a) (hy : s.ev y = aU b) : GOp P [] s ⟨dst, .binOp .and xt x y yt, ty, pos, af, gd⟩ (aU (a &&& b)) :=
 g_bits hx hy (by simp only [bitsOf, u64_of]; exact congrArg some (u64_wrap _))
def bitU (e : Nat) : BitVec 64 := BitVec.twoPow 64 e
theorem g_shl64 {k' : IntKind} {e : Nat} (hx : s.ev x = .d (.val (.int .u64 1))) (hy : s.ev y = .d (.val (.int k' (e : Int)))) (he : e < 64) : GOp P [] s ⟨dst, .binOp .shl xt x y yt, ty, pos, af, gd⟩ (aU (bitU e)) :=
 g_shl hx hy (by omega) (by
  rw [Int.toNat_natCast, show IntKind.u64.bits = 64 from rfl, Nat.min_eq_left (by omega), bitU, BitVec.toNat_twoPow];have h2 : 2 ^ e < 2 ^ 64 := Nat.pow_lt_pow_right (by decide) he;rw [Nat.mod_eq_of_lt h2];rw [Int.one_mul];have : ((2 ^ e : Nat) : Int) = (2 : Int) ^ e := by simp
  have h3 : (2 : Nat) ^ 64 = 18446744073709551616 := by decide
  have h4 : 2 ^ e ≤ 18446744073709551615 := by omega
  have h5 : ((2 ^ e : Nat) : Int) ≤ 18446744073709551615 := Int.ofNat_le.2 h4;rw [← this]
  exact wrap_u64 ⟨Int.natCast_nonneg _, h5⟩)
theorem g_shr64 {k' : IntKind} {a : BitVec 64} {e : Nat} (hx : s.ev x = aU a) (hy : s.ev y = .d (.val (.int k' (e : Int)))) (he : e < 64) : GOp P [] s ⟨dst, .binOp .shr xt x y yt, ty, pos, af, gd⟩ (aU (a >>> e)) :=
 g_shr hx hy (by omega) (by
  rw [Int.toNat_natCast, show IntKind.u64.bits = 64 from rfl, Nat.min_eq_left (by omega), BitVec.toNat_ushiftRight, Nat.shiftRight_eq_div_pow, Int.natCast_ediv];have : ((2 ^ e : Nat) : Int) = (2 : Int) ^ e := by simp
  rw [this, Int.fdiv_eq_ediv_of_nonneg _ (Int.le_of_lt (Int.pow_pos (by decide)))])
theorem bit_at (a : BitVec 64) (e : Nat) (he : e < 64) : (decide (((((a >>> e) &&& 1#64).toNat : Nat) : Int) = 1)) = a.getLsbD e := by
 have h1 : ((a >>> e) &&& 1#64).toNat = (a.toNat >>> e) % 2 := by
  rw [BitVec.toNat_and, BitVec.toNat_ushiftRight]; exact Nat.and_one_is_mod _
 rw [h1, BitVec.getLsbD, Nat.testBit, Nat.one_and_eq_mod_two];rcases Nat.mod_two_eq_zero_or_one (a.toNat >>> e) with h | h <;> rw [h] <;> rfl
end
end Go.Proofs.YtknfdlakkbmdcaaGreat
