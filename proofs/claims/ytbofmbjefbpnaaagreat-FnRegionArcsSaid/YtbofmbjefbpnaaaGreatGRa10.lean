/- Contracts of the functions of the program and of the reference, each proved by a walk through its code. -/
import Derived.Test.YtbofmbjefbpnaaaGreatGRa9
set_option linter.all false
set_option maxRecDepth 20000
namespace Go.Proofs.YtbofmbjefbpnaaaGreat
open Go.RowKit
set_option maxHeartbeats 1000000 in
theorem ifAr_spec (l : List Ar) (hl : l.length ≤ 1000000) (g : FuncId) (ds : List DV) (hen : Enters Tryz.prog g) (p : Ar → Bool) (hp : ∀ t, t ∈ l → ASpec Tryz.prog g (arA t :: ds.map .d) [] (Pure1 (aT (p t)))) : ASpec Tryz.prog 136 [.d (vArs l), .clo g (ds.map .d)] [] (Pure1 (aI (findI p l))) := by
 refine ASpec.of Tryz.func136 rfl rfl fun C hC => ?_
 refine AC.seq (AC.region ?_);refine za ?_;refine AL.nil (th_n (AC.seq (AC.seq (AC.region ?_))));refine zm ?_;refine kH ?_;refine zm ?_;refine AL.nil (th_n (AC.block ?_));refine AC.loop (ι := Nat) (fun k => ⟨19, 0, [(0, .d (vArs l)), (1, .clo g (ds.map .d)), (6, .d (vArs l)), (7, aI l.length), (8, aI k)], []⟩) (fun k => k ≤ l.length ∧ ∀ j (hj : j < l.length), j < k → p l[j] = false) (fun k => l.length - k) (0) ?_ (⟨Nat.zero_le _, fun j _ hj => by omega⟩) ?_
 ·refine Weak.ren _ [] hC rfl ⟨.same, ⟨_, rfl, leadsL_data _ ds⟩, ?_⟩ trivial rfl rfl rfl; repeat (first | exact True.intro | refine And.intro ?_ ?_ | exact DLead.same)
 intro k ⟨hk, hall⟩;refine AC.seq (AC.region ?_);refine zc ?_;refine AL.nil (th_n (AC.seq ?_));refine AC.condD rfl (fun h0 => ?_) (fun h0 => ?_)
 ·refine AC.skip (th_n (AC.seq (AC.block (AC.seq ?_))));have hk1 : k < l.length := by omega
  have hget := arL_get hk1;refine AC.region ?_;refine zm ?_;refine za ?_;refine AL.nil (th_n (AC.seq (AC.region ?_)));refine AL.p (by exact mv6 rfl) rfl ?_;refine zm ?_;refine zm ?_;refine AL.p (by exact g_ia_view rfl rfl rfl rfl rfl (by rfl) (by assumption)) rfl ?_;refine kG ?_;refine AL.q (by exact h_pure hen rfl rfl (by exact ⟨_, _, rfl, ⟨_, rfl, _, _, rfl, .same, _, _, rfl, .same, _, _, rfl, .same, _, _, rfl, .same, rfl⟩, leadsL_data _ ds⟩) (hp l[k] (List.getElem_mem hk1)) rfl) rfl ?_;refine AL.nil (th_n ?_);refine AC.condB rfl (fun h1 => ?_) (fun h1 => ?_)
  ·refine AC.seq (AC.region ?_);refine zm ?_;refine za ?_;refine AL.nil (th_n (AC.ret (ib_r (th_r (th_r (ib_r (th_r (bq_r ?_))))))));exact ret1 rfl (by rw [findI_at hk1 h1 (fun j hj => hall j (by omega) hj)])
  refine AC.skip (ib_n (th_n (AC.region ?_)));refine zA ?_;refine zm ?_;refine AL.nil (th_n ?_);exact ⟨k + 1, ⟨by omega, fun j hj hj2 => by rcases Nat.lt_succ_iff_lt_or_eq.1 hj2 with h | rfl; exact hall j hj h; exact h1⟩, by omega, Weak.ren _ [] hC rfl ⟨.same, ⟨_, rfl, leadsL_data _ ds⟩, by repeat (first | exact True.intro | refine And.intro ?_ ?_ | exact DLead.same)⟩ trivial rfl rfl rfl⟩
 refine AC.exit (th_e (th_e (ib_y (th_n (AC.seq (AC.region ?_))))));refine za ?_;refine AL.nil (th_n (AC.ret (bq_r ?_)));exact ret1 rfl (by rw [findI_none (fun j hj => hall j hj (by omega))])
theorem en_ifAr : Enters Tryz.prog 136 := enters_of Tryz.func136 rfl rfl
set_option maxHeartbeats 4000000 in
theorem delAr_spec (l : List Ar) (hl : l.length ≤ 1000000) (g : FuncId) (ds : List DV) (hen : Enters Tryz.prog g) (p : Ar → Bool) (hp : ∀ t, t ∈ l → ASpec Tryz.prog g (arA t :: ds.map .d) [] (Pure1 (aT (p t)))) :
  ASpec Tryz.prog 81 [.own 0 l.length, .clo g (ds.map .d)] [(0, .arr 73 4 (arL l))] (Fun1 (.own 0 (l.filter fun x => !p x).length) [(0, .arr 73 4 (arL (l.filter fun x => !p x)))]) := by
 have hIf := ifAr_spec l hl g ds hen p hp;have hor := findI_or p l;obtain ⟨F, hF⟩ := eqx (findI p l);rw [← hF] at hIf hor;have hFb : -1 ≤ F ∧ F ≤ 1000000 := by rcases hor with ⟨e, _⟩ | ⟨k, hk, e, _⟩ <;> omega
 clear hF;refine ASpec.of Tryz.func81 rfl rfl fun C hC => ?_
 refine AC.seq (AC.region ?_);refine za ?_;refine AL.nil (th_n (AC.seq (AC.region ?_)));refine kB ?_;refine AL.p (by exact mv6 rfl) rfl ?_;refine AL.q (by exact h_borrow [0] en_ifAr rfl rfl hIf (.cons (.of (.own (id := 0) rfl rfl (Nat.le_of_eq (arL_len _).symm) (List.take_of_length_le (Nat.le_of_eq (arL_len _))))) (.cons .clo .nil)) rfl) rfl ?_;refine za ?_;refine AL.nil (th_n (AC.seq (AC.seq (AC.region ?_))));refine zm ?_;refine zc ?_;refine AL.nil (th_n ?_);refine AC.condD rfl (fun h0 => ?_) (fun h0 => ?_)
 ·refine AC.seq (AC.region ?_);refine kB ?_;refine AL.p (by exact as2 rfl) rfl ?_;refine AL.nil (th_n (AC.ret (th_r (bq_r ?_))));have e := filter_no (hor.elim (fun h => h.2) (fun ⟨k, _, h, _⟩ => absurd h (by omega)));exact retN [] rfl (by rw [e]; repeat (first | exact rfl | refine ⟨_, rfl, ?_⟩)) (by rw [e]; repeat (first | exact True.intro | refine And.intro ?_ ?_ | exact rfl | refine ⟨_, _, rfl, rfl, ?_⟩)) rfl rfl
 refine AC.skip (th_n (AC.seq (AC.seq ?_)));obtain ⟨k0, hk0, rfl, hpk, hbef⟩ := hor.resolve_left fun h => h0 h.1
 have hI0 : DelI p l k0 (k0 + 1) l := ⟨rfl, Nat.lt_succ_self _, hk0, by rw [filt_take hk0, if_pos hpk, List.append_nil]; exact (List.filter_eq_self.2 fun x hx => by obtain ⟨j, hj, rfl⟩ := List.mem_take_iff_getElem.1 hx; rw [hbef j (by omega) (by omega)]; rfl).symm, rfl⟩;refine AC.region ?_;refine zm ?_;refine zA ?_;refine za ?_;refine AL.nil (th_n (AC.block ?_));refine AC.loop (ι := Nat × Nat × List Ar) (fun x => ⟨42, 300, [(0, .own 0 l.length), (1, .clo g (ds.map .d)), (5, aI x.1), (6, aI x.2.1)], [(0, some (.arr 73 4 (arL x.2.2)))]⟩) (fun x => DelI p l x.1 x.2.1 x.2.2) (fun x => l.length - x.2.1) ((k0, k0 + 1, l)) ?_ (hI0) ?_
 ·exact Weak.ren _ [] hC rfl ⟨⟨_, rfl, rfl⟩, ⟨_, rfl, leadsL_data _ ds⟩, by repeat (first | exact True.intro | refine And.intro ?_ ?_ | exact DLead.same)⟩ (by repeat (first | exact True.intro | refine And.intro ?_ ?_ | exact rfl | refine ⟨_, _, rfl, rfl, ?_⟩)) rfl rfl rfl
 rintro ⟨i, j, e⟩ hI;dsimp only at hI ⊢;have hlt := hI.lt;have hle := hI.le;have hel := hI.len;refine AC.seq (AC.seq (AC.region ?_));refine zm ?_;refine kB ?_;refine AL.p (by exact g_len_own (sz := 1) (els := []) (e' := 0) rfl rfl (by simp only [maxLen]; omega)) rfl ?_;refine zc ?_;refine AL.nil (th_n ?_);refine AC.condD rfl (fun h1 => ?_) (fun h1 => ?_)
 ·refine AC.skip (th_n (AC.seq (AC.block (AC.seq ?_))));have hj1 : j < l.length := by omega
  have hrow : (arL e)[j]? = some (arD l[j]) := by rw [List.getElem?_map, hI.get hj1]; rfl
  have hG := hp l[j] (List.getElem_mem hj1);have hsk := hI.skip hj1;have hmv := hI.move hj1;obtain ⟨x, hx⟩ := eqx (l[j]);rw [← hx] at hrow hG hsk hmv;obtain ⟨b, hb⟩ := eqx (p x);rw [← hb] at hG hsk hmv;have hset : arL (e.set i x) = (arL e).set i (arD x) := by unfold arL; rw [List.map_set]
  refine AC.region ?_;refine kB ?_;refine zm ?_;refine kO j l.length hj1 ?_;refine AL.p (by exact g_load_arrN rfl rfl rfl rfl rfl rfl hrow) rfl ?_;refine kE ?_;refine zs ?_;refine AL.nil (th_n (AC.seq (AC.region ?_)));refine AL.p (by exact mv6 rfl) rfl ?_;refine AL.p (by exact g_load_ptrN rfl rfl rfl rfl rfl) rfl ?_;refine AL.q (by exact h_pure hen rfl rfl (by exact ⟨_, _, rfl, ⟨_, rfl, _, _, rfl, .same, _, _, rfl, .same, _, _, rfl, .same, _, _, rfl, .same, rfl⟩, leadsL_data _ ds⟩) hG rfl) rfl ?_;refine kC ?_;refine AL.nil (th_n ?_);refine AC.condB rfl (fun h2 => ?_) (fun h2 => ?_)
  ·refine AC.seq (AC.region ?_);refine kB ?_;refine zm ?_;refine AL.p (by exact g_load_ptrN rfl rfl rfl rfl rfl) rfl ?_;refine AL.p (by exact g_ia_own (i := i) (l := l.length) rfl rfl rfl rfl rfl rfl (by omega) rfl) rfl ?_;refine AL.q (by exact h_store_row (i := i) (ds := arD x) rfl rfl rfl rfl rfl rfl rfl (by rw [arL_len]; omega)) rfl ?_;refine AL.nil (th_n (AC.region ?_));refine zm ?_;refine zA ?_;refine za ?_;refine AL.nil (ib_n (th_n (AC.region ?_)));refine zm ?_;refine zA ?_;refine za ?_;refine AL.nil (th_n ?_)
   (have e2 := hmv (by simpa using ‹(!b) = true›); exact ⟨(i + 1, j + 1, e.set i x), e2, by dsimp only; omega, Weak.ren _ [] hC rfl ⟨⟨_, rfl, rfl⟩, ⟨_, rfl, leadsL_data _ ds⟩, by repeat (first | exact True.intro | refine And.intro ?_ ?_ | exact DLead.same)⟩ (by rw [hset]; repeat (first | exact True.intro | refine And.intro ?_ ?_ | exact rfl | refine ⟨_, _, rfl, rfl, ?_⟩)) rfl rfl rfl⟩)
  refine AC.skip (ib_n (th_n (AC.region ?_)));refine zm ?_;refine zA ?_;refine za ?_;refine AL.nil (th_n ?_)
  (have e2 := hsk (by simpa using ‹(!b) = false›); exact ⟨(i, j + 1, e), e2, by dsimp only; omega, Weak.ren _ [] hC rfl ⟨⟨_, rfl, rfl⟩, ⟨_, rfl, leadsL_data _ ds⟩, by repeat (first | exact True.intro | refine And.intro ?_ ?_ | exact DLead.same)⟩ (by repeat (first | exact True.intro | refine And.intro ?_ ?_ | exact rfl | refine ⟨_, _, rfl, rfl, ?_⟩)) rfl rfl rfl⟩)
 refine AC.exit (th_e (th_e (ib_y (th_n (AC.seq ?_)))));have hjj : j = l.length := by omega
 subst hjj;have hkept := hI.kept;rw [List.take_length] at hkept;have hfl : (l.filter fun x => !p x).length = i := by rw [← hkept, List.length_take]; omega
 have hst : (arL e).take i = arL (l.filter fun x => !p x) := by rw [← hkept]; unfold arL; rw [List.map_take]
 refine AC.region ?_;refine kB ?_;refine zm ?_;refine AL.p (by exact g_slice_part (els := arL e) (e' := 73) (sz := 4) (l := i) (h := l.length) rfl rfl rfl rfl rfl (.some rfl rfl) .none (by omega) (by rw [arL_len]; omega) rfl rfl) rfl ?_;refine AL.q (by exact h_clear (i := i) (q := l.length - i) (els := arL e) (e' := 73) (sz := 4) rfl rfl rfl rfl rfl rfl (by omega) (by rw [arL_len]; omega)) rfl ?_;refine AL.nil (th_n (AC.seq (AC.region ?_)));refine kB ?_;refine zm ?_;refine AL.p (by exact g_slice_own (els := (arL e).take i) (e' := 73) (sz := 4) rfl rfl rfl rfl (.some rfl rfl) (by rw [List.length_take, arL_len]; omega)) rfl ?_;refine AL.p (by exact as2 rfl) rfl ?_;refine AL.nil (th_n (AC.ret (bq_r ?_)));exact retN [] rfl (by rw [hfl]; repeat (first | exact rfl | refine ⟨_, rfl, ?_⟩)) (by rw [← hst]; repeat (first | exact True.intro | refine And.intro ?_ ?_ | exact rfl | refine ⟨_, _, rfl, rfl, ?_⟩)) rfl rfl
theorem en_delAr : Enters Tryz.prog 81 := enters_of Tryz.func81 rfl rfl
theorem cloneAr_spec (l : List Ar) (hl : l.length ≤ 1000000) : ASpec Tryz.prog 82 [.d (vArs l)] [] (Fun1 (.own 0 l.length) [(0, .arr 73 4 (arL l))]) := by
 refine ASpec.of Tryz.func82 rfl rfl fun C hC => ?_
 refine AC.seq (AC.region ?_);refine za ?_;refine AL.nil (th_n (AC.seq (AC.seq (AC.region ?_))));refine zm ?_;refine AL.eqNil (ht := rfl) (hx := rfl) rfl (fun b hb => ?_);refine AL.nil (th_n ?_);refine AC.condB rfl (fun h0 => ?_) (fun h0 => ?_)
 ·refine AC.seq (AC.region ?_);refine za ?_;refine AL.nil (th_n ?_);have e : l = [] := by have := hb h0; simpa [arL] using this
  subst e;refine AC.weak (Weak.nilOwn (i := 2) (e := 73) (sz := 4) rfl (by decide)) ?_;refine AC.ret (th_r (bq_r ?_));exact retN [(0, _)] rfl (by repeat (first | exact rfl | refine ⟨_, rfl, ?_⟩)) (by repeat (first | exact True.intro | refine And.intro ?_ ?_ | exact rfl | refine ⟨_, _, rfl, rfl, ?_⟩)) rfl rfl
 refine AC.skip (th_n (AC.seq (AC.region ?_)));refine AL.q (by exact h_lit rfl rfl rfl rfl rfl rfl rfl rfl) rfl ?_;refine zm ?_;refine AL.q (by exact h_appendAr [] l (.own rfl rfl rfl) (.view rfl) (by simp; omega) (by simp)) rfl ?_;refine AL.p (by exact as2 rfl) rfl ?_;refine AL.nil (th_n (AC.ret (bq_r ?_)));exact retN [(0, _)] rfl (by repeat (first | exact rfl | refine ⟨_, rfl, ?_⟩)) (by repeat (first | exact True.intro | refine And.intro ?_ ?_ | exact rfl | refine ⟨_, _, rfl, rfl, ?_⟩)) rfl rfl
theorem en_cloneAr : Enters Tryz.prog 82 := enters_of Tryz.func82 rfl rfl
def leaveL (c : SG) (k : Int) : List Ar := c.arcs.filter fun v => decide (v.from_ = k)
theorem leave_no {l : List Ar} {k : Int} {j : Nat} (hj : j < l.length) (h : ¬ l[j].from_ = k) : (l.take (j + 1)).filter (fun v => decide (v.from_ = k)) = (l.take j).filter (fun v => decide (v.from_ = k)) := by
 rw [List.take_add_one, List.getElem?_eq_getElem hj, List.filter_append];simp [h]
theorem leave_yes {l : List Ar} {k : Int} {j : Nat} (hj : j < l.length) (h : l[j].from_ = k) : (l.take (j + 1)).filter (fun v => decide (v.from_ = k)) = (l.take j).filter (fun v => decide (v.from_ = k)) ++ [l[j]] := by
 rw [List.take_add_one, List.getElem?_eq_getElem hj, List.filter_append];simp [h]
set_option maxHeartbeats 2000000 in
theorem l5From_spec (c : SG) (k : Int) (hl : c.arcs.length ≤ 1000000) : ASpec Tryz.prog 140 [sgA c, aI k] [] (Pure1 (.d (vArs (leaveL c k)))) := by
 refine ASpec.of Tryz.func140 rfl rfl fun C hC => ?_
 refine AC.seq (AC.region ?_);refine kD ?_;refine za ?_;refine AL.nil (th_n (AC.seq (AC.region ?_)));refine za ?_;refine AL.nil (th_n (AC.seq (AC.seq (AC.region ?_))));refine zf ?_;refine zr ?_;refine kI c.arcs.length (arL_len _) ?_;refine zm ?_;refine AL.nil (th_n (AC.block ?_));refine AC.loop (ι := Nat) (fun j => ⟨25, 300, [(1, aI k), (2, .d (.ref (sgD c))), (5, .own 100 ((c.arcs.take j).filter (fun v => decide (v.from_ = k))).length), (9, .d (vArs c.arcs)), (10, aI c.arcs.length), (11, aI j)], [(100, some (.arr 73 4 (arL ((c.arcs.take j).filter (fun v => decide (v.from_ = k))))))]⟩) (fun j => j ≤ c.arcs.length) (fun j => c.arcs.length - j) (0) ?_ (Nat.zero_le _) ?_
 ·exact (Weak.nilOwn (i := 5) (e := 73) (sz := 4) rfl (by decide)).trans (zw [(100, _)] hC)
 intro j hj;refine AC.seq (AC.region ?_);refine zc ?_;refine AL.nil (th_n (AC.seq ?_));refine AC.condD rfl (fun h0 => ?_) (fun h0 => ?_)
 ·refine AC.skip (th_n (AC.seq (AC.block (AC.seq ?_))));have hj1 : j < c.arcs.length := by omega
  have hget := arL_get hj1;have hfn := leave_no (k := k) hj1;have hfy := leave_yes (k := k) hj1;have hfl := List.length_filter_le (fun v : Ar => decide (v.from_ = k)) (c.arcs.take j);rw [List.length_take] at hfl;obtain ⟨v, hv⟩ := eqx (c.arcs[j]);rw [← hv] at hget hfn hfy;clear hv;obtain ⟨F, hF⟩ := eqx ((c.arcs.take j).filter (fun v => decide (v.from_ = k)));rw [← hF] at hfn hfy hfl ⊢;clear hF;refine AC.region ?_;refine AL.p (by exact g_ia_view rfl rfl rfl rfl rfl (by rfl) (by assumption)) rfl ?_;refine kG ?_;refine kE ?_;refine zs ?_;refine AL.nil (th_n (AC.seq (AC.region ?_)));refine zF ?_;refine zl ?_;refine zm ?_;refine zc ?_;refine AL.nil (th_n ?_);refine AC.condD rfl (fun h1 => ?_) (fun h1 => ?_)
  ·refine AC.region ?_;refine kB ?_;refine AL.p (by exact g_load_ptrN rfl rfl rfl rfl rfl) rfl ?_;refine AL.q (by exact h_litF rfl rfl rfl rfl rfl rfl rfl rfl) rfl ?_;refine AL.q (by exact h_appendAr F [v] (.own rfl rfl (arL_len _).symm) (.view rfl) (by rw [List.length_append]; simp only [List.length_cons, List.length_nil]; omega) (by simp)) rfl ?_;refine AL.p (by exact as2 rfl) rfl ?_;refine AL.nil (ib_n (th_n (AC.region ?_)));refine zA ?_;refine zm ?_;refine AL.nil (th_n ?_)
   (have e := hfy (by assumption); exact ⟨j + 1, by omega, by omega, zw [(100, _)] hC (by rw [e]; repeat (first | exact True.intro | refine And.intro ?_ ?_ | exact DLead.same | exact rfl | refine ⟨_, rfl, ?_⟩)) (by rw [e]; repeat (first | exact True.intro | refine And.intro ?_ ?_ | exact rfl | refine ⟨_, _, rfl, rfl, ?_⟩))⟩)
  refine AC.skip (ib_n (th_n (AC.region ?_)));refine zA ?_;refine zm ?_;refine AL.nil (th_n ?_)
  (have e := hfn (by assumption); exact ⟨j + 1, by omega, by omega, zw [(100, 100)] hC (by rw [e]; repeat (first | exact True.intro | refine And.intro ?_ ?_ | exact DLead.same | exact rfl | refine ⟨_, rfl, ?_⟩)) (by rw [e]; repeat (first | exact True.intro | refine And.intro ?_ ?_ | exact rfl | refine ⟨_, _, rfl, rfl, ?_⟩))⟩)
 refine AC.exit (th_e (th_e (ib_y (th_n (AC.seq ?_)))));have hjj : j = c.arcs.length := by omega
 rw [hjj, List.take_length];obtain ⟨L, hL⟩ := eqx (c.arcs.filter (fun v => decide (v.from_ = k)));have hL2 : leaveL c k = L := hL.symm;rw [← hL, hL2];refine AC.weak (Weak.freeze (i := 5) rfl rfl (Nat.le_of_eq (arL_len _).symm) (List.take_of_length_le (Nat.le_of_eq (arL_len _)))) ?_;refine AC.region ?_;refine zm ?_;refine za ?_;refine AL.nil (th_n (AC.ret (bq_r ?_)));exact ret1 rfl rfl
theorem en_l5From : Enters Tryz.prog 140 := enters_of Tryz.func140 rfl rfl
def arAt (L : List Ar) (i : Nat) : Ar := L.getD i ⟨0, 0, false, 0⟩
theorem arAt_nat {L : List Ar} {i : Nat} (h : i < L.length) : arAt L i = L[i] := by unfold arAt; rw [List.getD_eq_getElem?_getD, List.getElem?_eq_getElem h]; rfl
theorem arAt_get {L : List Ar} {i : Nat} (h : i < L.length) : (arL L)[i]? = some (arD (arAt L i)) := by rw [arAt_nat h]; exact arL_get h
def srtd (l : List Int) : Prop := l.Pairwise (fun a b => a < b)
theorem srtd_ext : ∀ {a b : List Int}, srtd a → srtd b → (∀ x, x ∈ a ↔ x ∈ b) → a = b
 | [], [], _, _, _ => rfl
 | [], y :: b, _, _, h => by have := (h y).2 List.mem_cons_self; cases this
 | x :: a, [], _, _, h => by have := (h x).1 List.mem_cons_self; cases this
 | x :: a, y :: b, ha, hb, h => by
  have ha' := List.pairwise_cons.1 ha;have hb' := List.pairwise_cons.1 hb
  have hxy : x = y := by
   rcases List.mem_cons.1 ((h x).1 List.mem_cons_self) with e | e
   ·exact e
   rcases List.mem_cons.1 ((h y).2 List.mem_cons_self) with e2 | e2
   ·exact e2.symm
   have := hb'.1 x e;have := ha'.1 y e2;omega
  subst hxy;congr 1;refine srtd_ext ha'.2 hb'.2 fun z => ?_
  have hz := h z;rw [List.mem_cons, List.mem_cons] at hz;constructor
  ·intro q;rcases hz.1 (.inr q) with e | e
   ·subst e; have := ha'.1 _ q; omega
   exact e
  intro q;rcases hz.2 (.inr q) with e | e
  ·subst e; have := hb'.1 _ q; omega
  exact e
theorem findIdx_le {l : List Int} {x : Int} {i : Nat} (hi : i < l.findIdx (fun y => decide (x ≤ y))) (hl : i < l.length) : l[i] < x := by
 have := List.not_of_lt_findIdx hi;simp only [decide_eq_true_eq, decide_eq_false_iff_not, Bool.not_eq_true] at this;omega
theorem putI_srtd {l : List Int} (h : srtd l) (x : Int) : srtd (putI l x) ∧ ∀ y, y ∈ putI l x ↔ (y ∈ l ∨ y = x) := by
 unfold putI;obtain ⟨k, hk⟩ := eqx (l.findIdx (fun y => decide (x ≤ y)));rw [← hk]
 by_cases he : l[k]? = some x
 ·rw [if_pos he];refine ⟨h, fun y => ⟨.inl, ?_⟩⟩;rintro (q | rfl)
  ·exact q
  exact List.mem_of_getElem? he
 rw [if_neg he];have hlow : ∀ i (hi : i < l.length), i < k → l[i] < x := fun i hi hik => findIdx_le (by omega) hi
 have hhigh : ∀ i (hi : i < l.length), k ≤ i → x < l[i] := by
  intro i hi hki;have hkl : k < l.length := by omega
  have h1 : x ≤ l[k] := by
   have := List.findIdx_getElem (w := show l.findIdx (fun y => decide (x ≤ y)) < l.length by omega);have := of_decide_eq_true this;simpa only [← hk] using this
  have h2 : l[k] ≠ x := fun e => he (by rw [List.getElem?_eq_getElem hkl, e])
  by_cases e : k = i
  ·subst e; omega
  have := (List.pairwise_iff_getElem.1 h) k i hkl hi (by omega);omega
 refine ⟨?_, ?_⟩
 ·unfold srtd;rw [List.pairwise_append, List.pairwise_append];refine ⟨⟨List.Pairwise.sublist (List.take_sublist _ _) h, List.pairwise_singleton _ _, ?_⟩, List.Pairwise.sublist (List.drop_sublist _ _) h, ?_⟩
  ·intro a ha b hb;rw [List.mem_singleton] at hb; subst hb;obtain ⟨i, hi, rfl⟩ := List.mem_take_iff_getElem.1 ha;exact hlow i (by omega) (by omega)
  intro a ha b hb;obtain ⟨j, hj, rfl⟩ := List.mem_drop_iff_getElem.1 hb;have h2 := hhigh (k + j) (by omega) (by omega);rcases List.mem_append.1 ha with ha | ha
  ·obtain ⟨i, hi, rfl⟩ := List.mem_take_iff_getElem.1 ha;have := hlow i (by omega) (by omega);omega
  rw [List.mem_singleton] at ha; subst ha; exact h2
 intro y;have : y ∈ l ↔ (y ∈ l.take k ∨ y ∈ l.drop k) := by rw [← List.mem_append, List.take_append_drop]
 rw [this, List.mem_append, List.mem_append, List.mem_singleton];constructor
 ·rintro ((q | q) | q)
  ·exact .inl (.inl q)
  ·exact .inr q
  exact .inl (.inr q)
 rintro ((q | q) | q)
 ·exact .inl (.inl q)
 ·exact .inr q
 exact .inl (.inr q)
def setP (l : List Int) : List Int := l.foldl putI []
theorem setF_srtd : ∀ (l a : List Int), srtd a → srtd (l.foldl putI a) ∧ ∀ y, y ∈ l.foldl putI a ↔ (y ∈ a ∨ y ∈ l)
 | [], a, h => ⟨h, fun y => by simp⟩
 | x :: l, a, h => by
  have h1 := putI_srtd h x;have h2 := setF_srtd l (putI a x) h1.1;refine ⟨h2.1, fun y => ?_⟩;rw [List.foldl_cons, h2.2 y, h1.2 y, List.mem_cons, or_assoc]
theorem setP_srtd (l : List Int) : srtd (setP l) ∧ ∀ y, y ∈ setP l ↔ y ∈ l := by
 have := setF_srtd l [] List.Pairwise.nil;exact ⟨this.1, fun y => by rw [setP, this.2 y]; simp⟩
theorem sort_perm (l : List Int) : (sortI l).Perm l := List.mergeSort_perm _ _
theorem sort_le (l : List Int) : (sortI l).Pairwise (fun a b => a ≤ b) := by
 have := List.pairwise_mergeSort (le := fun x y : Int => decide (x ≤ y)) (fun a b c h1 h2 => by have := of_decide_eq_true h1; have := of_decide_eq_true h2; exact decide_eq_true (by omega)) (fun a b => by
  by_cases h : a ≤ b
  ·simp [h]
  simp [h, show b ≤ a by omega]) l
 exact this.imp fun h => of_decide_eq_true h
theorem srtd_nodup {l : List Int} (h : srtd l) : l.Nodup := h.imp fun q => by omega
theorem nodup_len : ∀ (l s : List Int), s.Nodup → (∀ x, x ∈ s → x ∈ l) → s.length ≤ l.length
 | [], s, _, h => by
  cases s with
  | nil => exact Nat.le_refl _
  | cons x s => have := h x List.mem_cons_self; cases this
 | a :: l, s, hs, h => by
  by_cases ha : a ∈ s
  ·have := nodup_len l (s.erase a) (hs.erase a) (fun x hx => by
    have hx' := (hs.mem_erase_iff).1 hx;rcases List.mem_cons.1 (h x hx'.2) with e | e
    ·exact absurd e hx'.1
    exact e)
   rw [List.length_erase_of_mem ha] at this;rw [List.length_cons]; omega
  have := nodup_len l s hs (fun x hx => by
   rcases List.mem_cons.1 (h x hx) with e | e
   ·subst e; exact absurd hx ha
   exact e)
  rw [List.length_cons]; omega
inductive Rch (R : Nat → Nat → Prop) (S : Nat → Prop) : Nat → Prop
 | base {v : Nat} : S v → Rch R S v
 | step {u v : Nat} : Rch R S u → R u v → Rch R S v
noncomputable def rchB (R : Nat → Nat → Prop) (S : Nat → Prop) (v : Nat) : Bool := @decide (Rch R S v) (Classical.propDecidable _)
theorem rchB_iff {R : Nat → Nat → Prop} {S : Nat → Prop} {v : Nat} : rchB R S v = true ↔ Rch R S v := @decide_eq_true_iff _ (Classical.propDecidable _)
noncomputable def reaL (R : Nat → Nat → Prop) (S : Nat → Prop) (n : Nat) : List Int := nI ((List.range n).filter (rchB R S))
theorem range_srtd : ∀ n, srtd (nI (List.range n))
 | 0 => List.Pairwise.nil
 | n + 1 => by
  unfold srtd nI;rw [List.range_succ, List.map_append, List.pairwise_append];refine ⟨range_srtd n, List.pairwise_singleton _ _, fun a ha b hb => ?_⟩;obtain ⟨v, hv, rfl⟩ := List.mem_map.1 ha;obtain rfl := List.mem_singleton.1 hb;have := List.mem_range.1 hv;show ((v : Nat) : Int) < ((n : Nat) : Int);omega
theorem reaL_srtd (R : Nat → Nat → Prop) (S : Nat → Prop) (n : Nat) : srtd (reaL R S n) :=
 List.Pairwise.sublist (List.Sublist.map _ (List.filter_sublist (l := List.range n))) (range_srtd n)
theorem reaL_mem {R : Nat → Nat → Prop} {S : Nat → Prop} {n : Nat} {x : Int} : x ∈ reaL R S n ↔ ∃ v : Nat, x = (v : Int) ∧ v < n ∧ Rch R S v := by
 unfold reaL nI;rw [List.mem_map];constructor
 ·rintro ⟨v, hv, rfl⟩;rw [List.mem_filter, List.mem_range, rchB_iff] at hv;exact ⟨v, rfl, hv.1, hv.2⟩
 rintro ⟨v, rfl, h1, h2⟩;exact ⟨v, List.mem_filter.2 ⟨List.mem_range.2 h1, rchB_iff.2 h2⟩, rfl⟩
theorem reaL_eq {R : Nat → Nat → Prop} {S : Nat → Prop} {n : Nat} {l : List Int} (hs : srtd l) (h1 : ∀ x, x ∈ l → ∃ v : Nat, x = (v : Int) ∧ v < n ∧ Rch R S v) (h2 : ∀ v, S v → (v : Int) ∈ l) (h3 : ∀ u v : Nat, (u : Int) ∈ l → R u v → (v : Int) ∈ l) : l = reaL R S n := by
 have key : ∀ v, Rch R S v → (v : Int) ∈ l := by
  intro v h
  induction h with
  | base h => exact h2 _ h
  | step _ hr ih => exact h3 _ _ ih hr
 refine srtd_ext hs (reaL_srtd R S n) fun x => ?_
 rw [reaL_mem];exact ⟨h1 x, fun ⟨v, e, _, hr⟩ => e ▸ key v hr⟩
def ArR (L : List Ar) (q : Ar → Bool) (u v : Nat) : Prop := ∃ a, a ∈ L ∧ q a = true ∧ a.from_ = (u : Int) ∧ a.to_ = (v : Int)
def ArC (L : List Ar) (q : Ar → Bool) (l : List Int) : Prop := ∀ a, a ∈ L → q a = true → a.from_ ∈ l → a.to_ ∈ l
structure PsI (L : List Ar) (q : Ar → Bool) (S : Nat → Prop) (n d j : Nat) (l : List Int) : Prop where
 srt : srtd l
 inn : ∀ x, x ∈ l → ∃ v : Nat, x = (v : Int) ∧ v < n ∧ Rch (ArR L q) S v
 bas : ∀ v, S v → (v : Int) ∈ l
 prg : ArC L q l ∨ d + 1 ≤ l.length ∨ (d ≤ l.length ∧ ∀ i (hi : i < L.length), i < j → q L[i] = true → L[i].from_ ∈ l → L[i].to_ ∈ l)
theorem PsI.len {L : List Ar} {q : Ar → Bool} {S : Nat → Prop} {n d j : Nat} {l : List Int} (h : PsI L q S n d j l) : l.length ≤ n := by
 have := nodup_len (nI (List.range n)) l (srtd_nodup h.srt) (fun x hx => by obtain ⟨v, rfl, hv, _⟩ := h.inn x hx; exact List.mem_map.2 ⟨v, List.mem_range.2 hv, rfl⟩)
 rwa [nI_len, List.length_range] at this
theorem PsI.no {L : List Ar} {q : Ar → Bool} {S : Nat → Prop} {n d j : Nat} {l : List Int} (h : PsI L q S n d j l) (hj : j < L.length) (hq : ¬ (q L[j] = true ∧ L[j].from_ ∈ l)) : PsI L q S n d (j + 1) l := by
 refine ⟨h.srt, h.inn, h.bas, ?_⟩;rcases h.prg with g | g | ⟨g1, g2⟩
 ·exact .inl g
 ·exact .inr (.inl g)
 refine .inr (.inr ⟨g1, fun i hi hij h1 h2 => ?_⟩);rcases Nat.lt_succ_iff_lt_or_eq.1 hij with h3 | rfl
 ·exact g2 i hi h3 h1 h2
 exact absurd ⟨h1, h2⟩ hq
theorem putI_mem {l : List Int} (h : srtd l) {x : Int} (hx : x ∈ l) : putI l x = l := srtd_ext (putI_srtd h x).1 h fun y => by
 rw [(putI_srtd h x).2 y];constructor
 ·rintro (q | rfl); exact q; exact hx
 exact .inl
theorem putI_new {l : List Int} {x : Int} (hx : ¬ x ∈ l) : (putI l x).length = l.length + 1 := by
 unfold putI;rw [if_neg (fun e => hx (List.mem_of_getElem? e)), List.length_append, List.length_append, List.length_take, List.length_drop];simp only [List.length_cons, List.length_nil];have := List.findIdx_le_length (xs := l) (p := fun y => decide (x ≤ y));omega
theorem PsI.yes {L : List Ar} {q : Ar → Bool} {S : Nat → Prop} {n d j : Nat} {l : List Int} (h : PsI L q S n d j l) (hj : j < L.length) (hq : q L[j] = true) (hf : L[j].from_ ∈ l) (ht : 0 ≤ L[j].to_ ∧ L[j].to_ < n) : PsI L q S n d (j + 1) (putI l L[j].to_) := by
 have hp := putI_srtd h.srt L[j].to_;refine ⟨hp.1, fun x hx => ?_, fun v hv => (hp.2 _).2 (.inl (h.bas v hv)), ?_⟩
 ·rcases (hp.2 x).1 hx with g | g
  ·exact h.inn x g
  obtain ⟨u, hu, _, hr⟩ := h.inn _ hf;exact ⟨L[j].to_.toNat, by omega, by omega, .step hr ⟨L[j], List.getElem_mem hj, hq, hu, by omega⟩⟩
 by_cases hm : L[j].to_ ∈ l
 ·rw [putI_mem h.srt hm];rcases h.prg with g | g | ⟨g1, g2⟩
  ·exact .inl g
  ·exact .inr (.inl g)
  refine .inr (.inr ⟨g1, fun i hi hij h1 h2 => ?_⟩);rcases Nat.lt_succ_iff_lt_or_eq.1 hij with h3 | rfl
  ·exact g2 i hi h3 h1 h2
  exact hm
 rw [putI_new hm];rcases h.prg with g | g | ⟨g1, g2⟩
 ·exact absurd (g _ (List.getElem_mem hj) hq hf) hm
 ·exact .inr (.inl (by omega))
 exact .inr (.inl (by omega))
theorem PsI.next {L : List Ar} {q : Ar → Bool} {S : Nat → Prop} {n d j : Nat} {l : List Int} (h : PsI L q S n d j l) (hj : j = L.length) : PsI L q S n (d + 1) 0 l := by
 refine ⟨h.srt, h.inn, h.bas, ?_⟩;rcases h.prg with g | g | ⟨g1, g2⟩
 ·exact .inl g
 ·exact .inr (.inr ⟨g, fun i _ hi => absurd hi (Nat.not_lt_zero _)⟩)
 refine .inl fun a ha h1 h2 => ?_
 obtain ⟨i, hi, rfl⟩ := List.getElem_of_mem ha;exact g2 i hi (by omega) h1 h2
theorem all_in {n : Nat} {l : List Int} (hs : srtd l) (h1 : ∀ x, x ∈ l → ∃ v : Nat, x = (v : Int) ∧ v < n) (hl : n ≤ l.length) {v : Nat} (hv : v < n) : (v : Int) ∈ l := by
 refine Classical.byContradiction fun hn => ?_
 have := nodup_len (nI (List.range n)) ((v : Int) :: l) (List.nodup_cons.2 ⟨hn, srtd_nodup hs⟩) (fun x hx => by
  rcases List.mem_cons.1 hx with rfl | hx
  ·exact List.mem_map.2 ⟨v, List.mem_range.2 hv, rfl⟩
  obtain ⟨u, rfl, hu⟩ := h1 x hx; exact List.mem_map.2 ⟨u, List.mem_range.2 hu, rfl⟩)
 rw [nI_len, List.length_range, List.length_cons] at this;omega
theorem PsI.end_ {L : List Ar} {q : Ar → Bool} {S : Nat → Prop} {n : Nat} {l : List Int} (h : PsI L q S n n 0 l) (hin : ∀ a, a ∈ L → ArIn n a) : l = reaL (ArR L q) S n := by
 have hc : ArC L q l := by
  rcases h.prg with g | g | ⟨g, _⟩
  ·exact g
  ·have := h.len; omega
  intro a ha _ _;have := hin a ha;unfold ArIn at this;have := all_in h.srt (fun x hx => by obtain ⟨v, e, hv, _⟩ := h.inn x hx; exact ⟨v, e, hv⟩) g (v := a.to_.toNat) (by omega)
  rwa [Int.toNat_of_nonneg (by omega)] at this
 refine reaL_eq h.srt h.inn h.bas fun u v hu ⟨a, ha, hq, h1, h2⟩ => ?_
 rw [← h2];exact hc a ha hq (by rw [h1]; exact hu)
def vW (W : List Bool) (v : Nat) : Bool := W.getD v false
theorem vW_set {W : List Bool} {i j : Nat} {x : Bool} : vW (W.set i x) j = if j = i ∧ i < W.length then x else vW W j := by
 unfold vW;rw [List.getD_eq_getElem?_getD, List.getElem?_set, List.getD_eq_getElem?_getD]
 by_cases h : i = j
 ·subst h
  by_cases h2 : i < W.length
  ·simp [h2]
  rw [if_pos rfl, if_neg h2, if_neg (fun q => h2 q.2), List.getElem?_eq_none (by omega)]
 rw [if_neg h, if_neg (fun q => h q.1.symm)]
theorem vW_lt {W : List Bool} {i : Nat} (h : vW W i = true) : i < W.length := by
 refine Classical.byContradiction fun hn => ?_
 unfold vW at h;rw [List.getD_eq_getElem?_getD, List.getElem?_eq_none (by omega)] at h;cases h
def cnT (W : List Bool) : Nat := W.countP id
theorem cnT_set : ∀ {W : List Bool} {i : Nat}, i < W.length → vW W i = false → cnT (W.set i true) = cnT W + 1
 | [], i, h, _ => by simp at h
 | x :: W, 0, _, h => by
  have : x = false := h;subst this;unfold cnT;rw [List.set_cons_zero, List.countP_cons_of_pos (by rfl), List.countP_cons_of_neg (by decide)]
 | x :: W, i + 1, hl, h => by
  have ih := cnT_set (W := W) (i := i) (by simpa using hl) h;unfold cnT at ih ⊢;rw [List.set_cons_succ, List.countP_cons, List.countP_cons, ih];omega
theorem cnT_all {W : List Bool} (h : W.length ≤ cnT W) {v : Nat} (hv : v < W.length) : vW W v = true := by
 have h2 := List.countP_eq_length.1 (Nat.le_antisymm List.countP_le_length h);unfold vW;rw [List.getD_eq_getElem?_getD, List.getElem?_eq_getElem hv];exact h2 _ (List.getElem_mem hv)
theorem cnT_le (W : List Bool) : cnT W ≤ W.length := List.countP_le_length
def ArV (L : List Ar) (q : Ar → Bool) (W : List Bool) : Prop := ∀ a, a ∈ L → q a = true → vW W a.from_.toNat = true → vW W a.to_.toNat = true
structure PsW (L : List Ar) (q : Ar → Bool) (S : Nat → Prop) (n d j : Nat) (W : List Bool) : Prop where
 len : W.length = n
 inn : ∀ v, vW W v = true → Rch (ArR L q) S v
 bas : ∀ v, S v → vW W v = true
 prg : ArV L q W ∨ d + 1 ≤ cnT W ∨ (d ≤ cnT W ∧ ∀ i (hi : i < L.length), i < j → q L[i] = true → vW W L[i].from_.toNat = true → vW W L[i].to_.toNat = true)
theorem PsW.no {L : List Ar} {q : Ar → Bool} {S : Nat → Prop} {n d j : Nat} {W : List Bool} (h : PsW L q S n d j W) (hj : j < L.length) (hq : ¬ (q L[j] = true ∧ vW W L[j].from_.toNat = true)) : PsW L q S n d (j + 1) W := by
 refine ⟨h.len, h.inn, h.bas, ?_⟩;rcases h.prg with g | g | ⟨g1, g2⟩
 ·exact .inl g
 ·exact .inr (.inl g)
 refine .inr (.inr ⟨g1, fun i hi hij h1 h2 => ?_⟩);rcases Nat.lt_succ_iff_lt_or_eq.1 hij with h3 | rfl
 ·exact g2 i hi h3 h1 h2
 exact absurd ⟨h1, h2⟩ hq
theorem set_same_b {W : List Bool} {i : Nat} (h : vW W i = true) : W.set i true = W := by
 have hl := vW_lt h;unfold vW at h;rw [List.getD_eq_getElem?_getD, List.getElem?_eq_getElem hl] at h;have h : W[i] = true := h;rw [← h];exact List.set_getElem_self ..
theorem PsW.yes {L : List Ar} {q : Ar → Bool} {S : Nat → Prop} {n d j : Nat} {W : List Bool} (h : PsW L q S n d j W) (hj : j < L.length) (hq : q L[j] = true) (hf : vW W L[j].from_.toNat = true) (ha : ArIn n L[j]) : PsW L q S n d (j + 1) (W.set L[j].to_.toNat true) := by
 unfold ArIn at ha;have hl := h.len;refine ⟨by rw [List.length_set]; exact hl, fun v hv => ?_, fun v hv => ?_, ?_⟩
 ·rw [vW_set] at hv
  split at hv
  ·rename_i g;exact .step (h.inn _ hf) ⟨L[j], List.getElem_mem hj, hq, by omega, by omega⟩
  exact h.inn v hv
 ·rw [vW_set]
  split
  ·rfl
  exact h.bas v hv
 cases hm : vW W L[j].to_.toNat with
 | true =>
  rw [set_same_b hm];rcases h.prg with g | g | ⟨g1, g2⟩
  ·exact .inl g
  ·exact .inr (.inl g)
  refine .inr (.inr ⟨g1, fun i hi hij h1 h2 => ?_⟩);rcases Nat.lt_succ_iff_lt_or_eq.1 hij with h3 | rfl
  ·exact g2 i hi h3 h1 h2
  exact hm
 | false =>
  rw [cnT_set (by omega) hm];rcases h.prg with g | g | ⟨g1, g2⟩
  ·rw [g _ (List.getElem_mem hj) hq hf] at hm; cases hm
  ·exact .inr (.inl (by omega))
  exact .inr (.inl (by omega))
theorem PsW.next {L : List Ar} {q : Ar → Bool} {S : Nat → Prop} {n d j : Nat} {W : List Bool} (h : PsW L q S n d j W) (hj : j = L.length) : PsW L q S n (d + 1) 0 W := by
 refine ⟨h.len, h.inn, h.bas, ?_⟩;rcases h.prg with g | g | ⟨g1, g2⟩
 ·exact .inl g
 ·exact .inr (.inr ⟨g, fun i _ hi => absurd hi (Nat.not_lt_zero _)⟩)
 refine .inl fun a ha h1 h2 => ?_
 obtain ⟨i, hi, rfl⟩ := List.getElem_of_mem ha;exact g2 i hi (by omega) h1 h2
theorem marks_eq {R : Nat → Nat → Prop} {S : Nat → Prop} {n : Nat} {W : List Bool} (hl : W.length = n) (h1 : ∀ v, vW W v = true → Rch R S v) (h2 : ∀ v, S v → vW W v = true) (h3 : ∀ u v, vW W u = true → R u v → vW W v = true) : W = (List.range n).map (rchB R S) := by
 have key : ∀ v, Rch R S v → vW W v = true := by
  intro v h
  induction h with
  | base h => exact h2 _ h
  | step _ hr ih => exact h3 _ _ ih hr
 refine List.ext_getElem (by rw [List.length_map, List.length_range]; exact hl) fun i hi hi2 => ?_
 rw [List.getElem_map, List.getElem_range];have e : vW W i = W[i] := by unfold vW; rw [List.getD_eq_getElem?_getD, List.getElem?_eq_getElem hi]; rfl
 rw [← e];cases hb : vW W i with
 | true => exact (rchB_iff.2 (h1 i hb)).symm
 | false =>
  cases hr : rchB R S i with
  | false => rfl
  | true => rw [key i (rchB_iff.1 hr)] at hb; cases hb
theorem PsW.end_ {L : List Ar} {q : Ar → Bool} {S : Nat → Prop} {n : Nat} {W : List Bool} (h : PsW L q S n n 0 W) (hin : ∀ a, a ∈ L → ArIn n a) : W = (List.range n).map (rchB (ArR L q) S) := by
 have hl := h.len
 have hc : ArV L q W := by
  rcases h.prg with g | g | ⟨g, _⟩
  ·exact g
  ·have := cnT_le W; omega
  intro a ha _ _;have := hin a ha;unfold ArIn at this;exact cnT_all (by omega) (by omega)
 refine marks_eq hl h.inn h.bas fun u v hu ⟨a, ha, hq, h1, h2⟩ => ?_
 have := hc a ha hq (by rw [h1]; exact hu)
 rwa [h2] at this
structure ChW (L : List Ar) (q : Ar → Bool) (S : Nat → Prop) (n u j : Nat) (W : List Bool) (ch : Bool) : Prop where
 len : W.length = n
 inn : ∀ v, vW W v = true → Rch (ArR L q) S v
 bas : ∀ v, S v → vW W v = true
 prg : (ch = true ∧ u < cnT W) ∨ (ch = false ∧ u = cnT W ∧ ∀ i (hi : i < L.length), i < j → q L[i] = true → vW W L[i].from_.toNat = true → vW W L[i].to_.toNat = true)
theorem ChW.no {L : List Ar} {q : Ar → Bool} {S : Nat → Prop} {n d j : Nat} {W : List Bool} {ch : Bool} (h : ChW L q S n d j W ch) (hj : j < L.length) (hq : q L[j] = true → vW W L[j].from_.toNat = true → vW W L[j].to_.toNat = true) : ChW L q S n d (j + 1) W ch := by
 refine ⟨h.len, h.inn, h.bas, ?_⟩;rcases h.prg with g | ⟨g0, g1, g2⟩
 ·exact .inl g
 refine .inr ⟨g0, g1, fun i hi hij h1 h2 => ?_⟩;rcases Nat.lt_succ_iff_lt_or_eq.1 hij with h3 | rfl
 ·exact g2 i hi h3 h1 h2
 exact hq h1 h2
theorem ChW.yes {L : List Ar} {q : Ar → Bool} {S : Nat → Prop} {n d j : Nat} {W : List Bool} {ch : Bool} (h : ChW L q S n d j W ch) (hj : j < L.length) (hq : q L[j] = true) (hf : vW W L[j].from_.toNat = true) (hm : vW W L[j].to_.toNat = false) (ha : ArIn n L[j]) : ChW L q S n d (j + 1) (W.set L[j].to_.toNat true) true := by
 unfold ArIn at ha;have hl := h.len;refine ⟨by rw [List.length_set]; exact hl, fun v hv => ?_, fun v hv => ?_, .inl ⟨rfl, ?_⟩⟩
 ·rw [vW_set] at hv
  split at hv
  ·rename_i g;exact .step (h.inn _ hf) ⟨L[j], List.getElem_mem hj, hq, by omega, by omega⟩
  exact h.inn v hv
 ·rw [vW_set]
  split
  ·rfl
  exact h.bas v hv
 rw [cnT_set (by omega) hm];rcases h.prg with g | g <;> omega
theorem ChW.end_ {L : List Ar} {q : Ar → Bool} {S : Nat → Prop} {n u j : Nat} {W : List Bool} (h : ChW L q S n u j W false) (hj : j = L.length) : W = (List.range n).map (rchB (ArR L q) S) := by
 rcases h.prg with g | ⟨_, _, g⟩
 ·cases g.1
 refine marks_eq h.len h.inn h.bas fun u v hu ⟨a, ha, hq, h1, h2⟩ => ?_
 obtain ⟨i, hi, rfl⟩ := List.getElem_of_mem ha;have := g i hi (by omega) hq (by rw [h1]; exact hu)
 rwa [h2] at this
section
variable {P : Program} [PT P]
variable {s : ASt} {dst : Option Nat} {ty : Nat} {pos : String} {af : Array Edge} {gd : Option (Nat × Bool)} {x y : Operand} {t : Nat}
theorem g_ia_part {id o l e n bt sz i k : Nat} {zs : List ZK} {te : TS} {I : Int} (ht : PT.ty P t = some ⟨.slice e, n, bt, zs⟩) (he : PT.ty P e = some te) (hs : te.size = sz) (h : s.ev x = .part id o l) (hy : s.ev y = aI I) (hI : I = (i : Int)) (hi : i < l) (hk : o + i * sz = k) : GOp P [] s ⟨dst, .indexAddr t x y, ty, pos, af, gd⟩ (.ptr id k) := by
 subst hk;refine ⟨fun s' ha C U a w m hR => ?_⟩;have hx := hR.ev x;rw [ha.2.1 x (by simp [Op.operands]), h] at hx;have h2 := hR.ev y;rw [ha.2.1 y (by simp [Op.operands]), hy] at h2;obtain ⟨e2, _⟩ := h2.val_eq;generalize hv : a.eval x = v at hx;cases hx with
 | part hp h0 =>
  obtain ⟨b, rfl, rfl⟩ := h0 (by omega);refine ⟨_, ?_, .ptr hp⟩;simp only [execOp, Sem.run_bind, hv, e2, hI, run_indexAddr ht ⟨te, he, hs⟩ hi, Result.andThen_ok, Sem.run_pure]
end
def ddN (l : List Int) : Nat → List Int
 | 0 => []
 | p + 1 => ddN l p ++ (if p = 0 ∨ ¬ l.getD p 0 = l.getD (p - 1) 0 then [l.getD p 0] else [])
theorem ddN_len (l : List Int) : ∀ p, (ddN l p).length ≤ p
 | 0 => Nat.le_refl _
 | p + 1 => by
  have ih := ddN_len l p;rw [ddN, List.length_append]
  split
  ·simp only [List.length_cons, List.length_nil]; omega
  simp only [List.length_nil]; omega
theorem getI_at {l : List Int} {p : Nat} (h : p < l.length) : l.getD p 0 = l[p] := by rw [List.getD_eq_getElem?_getD, List.getElem?_eq_getElem h]; rfl
theorem ddN_all {l : List Int} : ∀ p, p ≤ l.length → (∀ j, 1 ≤ j → j < p → ¬ l.getD j 0 = l.getD (j - 1) 0) → ddN l p = l.take p
 | 0, _, _ => rfl
 | p + 1, hp, h => by
  have ih := ddN_all p (by omega) (fun j h1 h2 => h j h1 (by omega))
  have hc : p = 0 ∨ ¬ l.getD p 0 = l.getD (p - 1) 0 := by
   rcases Nat.eq_zero_or_pos p with e | e
   ·exact .inl e
   exact .inr (h p e (Nat.lt_succ_self _))
  rw [ddN, ih, if_pos hc, List.take_add_one, List.getElem?_eq_getElem (show p < l.length by omega), getI_at (show p < l.length by omega)]; rfl
structure DdI (l : List Int) (k p : Nat) (e : List Int) : Prop where
 len : e.length = l.length
 lt : k < p
 le : p ≤ l.length
 kept : e.take k = ddN l p
 rest : ∀ i (hi : i < l.length), p ≤ i + 1 → e.getD i 0 = l[i]
theorem DdI.kl {l e : List Int} {k p : Nat} (h : DdI l k p e) : (ddN l p).length = k := by rw [← h.kept, List.length_take]; have := h.lt; have := h.le; have := h.len; omega
theorem DdI.skip {l e : List Int} {k p : Nat} (h : DdI l k p e) (hp : p < l.length) (hq : l.getD p 0 = l.getD (p - 1) 0) : DdI l k (p + 1) e :=
 ⟨h.len, by have := h.lt; omega, hp, by rw [ddN, if_neg (by rintro (q | q); (have := h.lt; omega); exact q hq), List.append_nil]; exact h.kept, fun i hi hpi => h.rest i hi (by omega)⟩
theorem DdI.move {l e : List Int} {k p : Nat} (h : DdI l k p e) (hp : p < l.length) (hq : ¬ l.getD p 0 = l.getD (p - 1) 0) : DdI l (k + 1) (p + 1) (e.set k l[p]) := by
 have hl := h.len;have hlt := h.lt;refine ⟨by rw [List.length_set]; exact hl, by omega, hp, ?_, fun i hi hpi => ?_⟩
 ·rw [ddN, if_pos (.inr hq), ← h.kept, getI_at hp, List.take_add_one, List.getElem?_set_self (by omega), List.take_set_of_le (Nat.le_refl _)]; rfl
 rw [List.getD_eq_getElem?_getD, List.getElem?_set_ne (by omega), ← List.getD_eq_getElem?_getD];exact h.rest i hi (by omega)
theorem dd_sorted {l : List Int} (h : l.Pairwise (fun a b => a ≤ b)) : ∀ p, p ≤ l.length → srtd (ddN l p) ∧ (∀ x, x ∈ ddN l p ↔ x ∈ l.take p) ∧ ∀ x, x ∈ ddN l p → 1 ≤ p ∧ x ≤ l.getD (p - 1) 0
 | 0, _ => ⟨List.Pairwise.nil, fun x => by simp [ddN], fun x hx => by cases hx⟩
 | p + 1, hp => by
  obtain ⟨h1, h2, h3⟩ := dd_sorted h p (by omega);have hpl : p < l.length := by omega
  have hle : ∀ x, x ∈ l.take p → x ≤ l[p] := fun x hx => by
   obtain ⟨j, hj, rfl⟩ := List.mem_take_iff_getElem.1 hx;exact (List.pairwise_iff_getElem.1 h) j p (by omega) hpl (by omega)
  have htk : l.take (p + 1) = l.take p ++ [l[p]] := by rw [List.take_add_one, List.getElem?_eq_getElem hpl]; rfl
  rw [ddN, getI_at hpl, Nat.add_sub_cancel, getI_at hpl, htk]
  split
  ·rename_i q;refine ⟨?_, fun x => ?_, fun x hx => ⟨by omega, ?_⟩⟩
   ·unfold srtd;rw [List.pairwise_append];refine ⟨h1, List.pairwise_singleton _ _, fun a ha b hb => ?_⟩;obtain rfl := List.mem_singleton.1 hb;obtain ⟨g1, g2⟩ := h3 a ha;rcases q with q | q
    ·omega
    have hd := getI_at (l := l) (p := p - 1) (by omega);have := hle _ (List.mem_take_iff_getElem.2 ⟨p - 1, by omega, rfl⟩);rw [hd] at q g2;omega
   ·rw [List.mem_append, List.mem_append, h2]
   rcases List.mem_append.1 hx with q2 | q2
   ·exact hle x ((h2 x).1 q2)
   rw [List.mem_singleton.1 q2]; exact Int.le_refl _
  rename_i q;rw [List.append_nil];have hp0 : ¬ p = 0 := fun e => q (.inl e)
  have hq : l[p] = l.getD (p - 1) 0 := Classical.byContradiction fun e => q (.inr e)
  have hd := getI_at (l := l) (p := p - 1) (by omega);have hm : l[p] ∈ l.take p := by rw [hq, hd]; exact List.mem_take_iff_getElem.2 ⟨p - 1, by omega, rfl⟩
  refine ⟨h1, fun x => ?_, fun x hx => ⟨by omega, hle x ((h2 x).1 hx)⟩⟩;rw [h2, List.mem_append, List.mem_singleton];constructor
  ·exact .inl
  rintro (g | rfl)
  ·exact g
  exact hm
theorem dd_set (l : List Int) : ddN (sortI l) (sortI l).length = setP l := by
 obtain ⟨h1, h2, _⟩ := dd_sorted (sort_le l) (sortI l).length (Nat.le_refl _);refine srtd_ext h1 (setP_srtd l).1 fun x => ?_
 rw [h2, List.take_length, (setP_srtd l).2];exact (sort_perm l).mem_iff
theorem setP_len (l : List Int) : (setP l).length ≤ l.length := by rw [← dd_set]; have := ddN_len (sortI l) (sortI l).length; rw [sortI_len] at this ⊢; exact this
theorem ofI64 {a : Nat} (ha : a < 1048576) : (BitVec.ofInt IntKind.i64.bits (a : Int)).toNat = a := by
 show (BitVec.ofInt 64 (a : Int)).toNat = a;rw [BitVec.ofInt_natCast, BitVec.toNat_ofNat];exact Nat.mod_eq_of_lt (by omega)
theorem bits_or {a b : Nat} (ha : a < 1048576) (hb : b < 1048576) : bitsOf .i64 .or (a : Int) (b : Int) = some ((a ||| b : Nat) : Int) := by
 have h : a ||| b < 2 ^ 20 := Nat.or_lt_two_pow ha hb
 simp only [bitsOf, BitVec.toNat_or, ofI64 ha, ofI64 hb];exact congrArg some (wrap_i64 (by omega))
theorem bits_and {a b : Nat} (ha : a < 1048576) (hb : b < 1048576) : bitsOf .i64 .and (a : Int) (b : Int) = some ((a &&& b : Nat) : Int) := by
 have h : a &&& b < 2 ^ 20 := Nat.and_lt_two_pow a hb;simp only [bitsOf, BitVec.toNat_and, ofI64 ha, ofI64 hb];exact congrArg some (wrap_i64 (by omega))
theorem shr_nat {a e : Nat} (he : e < 64) : Int.fdiv (a : Int) (2 ^ (min ((e : Nat) : Int).toNat IntKind.i64.bits)) = ((a >>> e : Nat) : Int) := by
 rw [Int.toNat_natCast, show IntKind.i64.bits = 64 from rfl, Nat.min_eq_left (by omega), Nat.shiftRight_eq_div_pow, Int.natCast_ediv];have : ((2 ^ e : Nat) : Int) = (2 : Int) ^ e := by simp
 rw [this, Int.fdiv_eq_ediv_of_nonneg _ (Int.le_of_lt (Int.pow_pos (by decide)))]
theorem shl_nat {a e : Nat} (ha : a ≤ 2) (he : e ≤ 18) : IntKind.i64.wrap ((a : Int) * 2 ^ (min ((e : Nat) : Int).toNat IntKind.i64.bits)) = ((a * 2 ^ e : Nat) : Int) := by
 rw [Int.toNat_natCast, show IntKind.i64.bits = 64 from rfl, Nat.min_eq_left (by omega)];have h2 : 2 ^ e ≤ 2 ^ 18 := Nat.pow_le_pow_right (by decide) he;have h3 : a * 2 ^ e ≤ 2 * 2 ^ 18 := Nat.mul_le_mul ha h2;have : ((2 ^ e : Nat) : Int) = (2 : Int) ^ e := by simp
 rw [← this, ← Int.natCast_mul];exact wrap_i64 (by omega)
theorem low2 {m g : Nat} : ((m >>> g) &&& 3 = 0) ↔ (m.testBit g = false ∧ m.testBit (g + 1) = false) := by
 have h1 : (m >>> g) &&& 3 = (m >>> g) % 4 := Nat.and_two_pow_sub_one_eq_mod (m >>> g) 2;have h2 : m.testBit g = (m >>> g).testBit 0 := by rw [Nat.testBit_shiftRight]; rfl
 have h3 : m.testBit (g + 1) = (m >>> g).testBit 1 := by rw [Nat.testBit_shiftRight]
 rw [h1, h2, h3, Nat.testBit_succ, Nat.testBit_zero, Nat.testBit_zero];simp only [decide_eq_false_iff_not];omega
def labM (a : Ar) : Nat := 2 ^ (2 * a.sig.toNat + bif a.up then 1 else 0)
def mskS (k : Int) (m : Nat) (a : Ar) : Nat := if 0 ≤ a.sig ∧ a.from_ = k then m ||| labM a else m
def mskN (L : List Ar) (k : Int) : Nat := L.foldl (mskS k) 0
theorem mskN_snoc (L : List Ar) (a : Ar) (k : Int) : mskN (L ++ [a]) k = mskS k (mskN L k) a := by unfold mskN; rw [List.foldl_append]; rfl
theorem msk_bit (k : Int) (i : Nat) : ∀ (L : List Ar) (m : Nat), (L.foldl (mskS k) m).testBit i = (m.testBit i || L.any fun a => (decide (0 ≤ a.sig) && decide (a.from_ = k)) && decide (2 * a.sig.toNat + (bif a.up then 1 else 0) = i))
 | [], m => by simp
 | a :: L, m => by
  rw [List.foldl_cons, msk_bit k i L, List.any_cons, ← Bool.or_assoc];congr 1;unfold mskS labM
  split
  ·rename_i q;rw [Nat.testBit_or, Nat.testBit_two_pow]; simp [q.1, q.2]
  rename_i q
  by_cases h1 : 0 ≤ a.sig
  ·have h2 : ¬ a.from_ = k := fun h => q ⟨h1, h⟩
   simp [h2]
  simp [h1]
theorem labM_lt {a : Ar} (h : a.sig < 8) : labM a < 65536 := by
 unfold labM;have h1 : 2 * a.sig.toNat + (bif a.up then 1 else 0) ≤ 15 := by cases a.up <;> simp <;> omega
 have h2 : 2 ^ (2 * a.sig.toNat + (bif a.up then 1 else 0)) ≤ 2 ^ 15 := Nat.pow_le_pow_right (by decide) h1;omega
theorem mskS_lt {a : Ar} {k : Int} {m : Nat} (h : a.sig < 8) (hm : m < 65536) : mskS k m a < 65536 := by
 unfold mskS
 split
 ·exact Nat.or_lt_two_pow (n := 16) hm (labM_lt h)
 exact hm
theorem msk_lt (k : Int) : ∀ (L : List Ar) (m : Nat), (∀ a, a ∈ L → a.sig < 8) → m < 65536 → L.foldl (mskS k) m < 65536
 | [], m, _, hm => hm
 | a :: L, m, h, hm => by
  rw [List.foldl_cons];exact msk_lt k L _ (fun b hb => h b (List.mem_cons_of_mem _ hb)) (mskS_lt (h a (List.mem_cons_self ..)) hm)
theorem mskN_lt {L : List Ar} (h : ∀ a, a ∈ L → a.sig < 8) (k : Int) : mskN L k < 65536 := msk_lt k L 0 h (by decide)
def mskF (L : List Ar) (n : Nat) : List Int := (List.range n).map fun (k : Nat) => ((mskN L (k : Int) : Nat) : Int)
theorem mskF_len (L : List Ar) (n : Nat) : (mskF L n).length = n := by unfold mskF; simp
theorem mskF_get {L : List Ar} {n k : Nat} (h : k < n) : (ints (mskF L n))[k]? = some [dI ((mskN L (k : Int) : Nat) : Int)] := by
 unfold mskF;rw [List.getElem?_map, List.getElem?_map, List.getElem?_range h]; rfl
theorem mskF_zero (n : Nat) : mskF [] n = List.replicate n 0 := by
 refine List.ext_getElem? fun i => ?_
 unfold mskF;rw [List.getElem?_map, List.getElem?_replicate];rcases Nat.lt_or_ge i n with h | h
 ·rw [List.getElem?_range h, if_pos h]; rfl
 rw [List.getElem?_eq_none (by simpa using h), if_neg (by omega)]; rfl
theorem mskF_set {L : List Ar} {n f : Nat} {a : Ar} (hs : 0 ≤ a.sig) (hf : a.from_ = (f : Int)) : (mskF L n).set f (((mskN L (f : Int) ||| labM a) : Nat) : Int) = mskF (L ++ [a]) n := by
 refine List.ext_getElem? fun i => ?_
 unfold mskF;rw [List.getElem?_set]
 by_cases e : f = i
 ·subst e;rw [if_pos rfl];rcases Nat.lt_or_ge f n with h | h
  ·rw [if_pos (by simpa using h), List.getElem?_map, List.getElem?_range h];show some (((mskN L (f : Int) ||| labM a : Nat)) : Int) = some ((mskN (L ++ [a]) (f : Int) : Nat) : Int);rw [mskN_snoc];unfold mskS;rw [if_pos ⟨hs, hf⟩]
  rw [if_neg (by simpa using h), List.getElem?_eq_none (by simpa using h)]
 rw [if_neg e, List.getElem?_map, List.getElem?_map];rcases Nat.lt_or_ge i n with h | h
 ·rw [List.getElem?_range h];show some ((mskN L (i : Int) : Nat) : Int) = some ((mskN (L ++ [a]) (i : Int) : Nat) : Int);rw [mskN_snoc];unfold mskS;rw [if_neg (by rintro ⟨_, q⟩; omega)]
 rw [List.getElem?_eq_none (by simpa using h)]; rfl
theorem mskF_no {L : List Ar} {n : Nat} {a : Ar} (hs : ¬ 0 ≤ a.sig) : mskF (L ++ [a]) n = mskF L n := by
 unfold mskF;refine List.map_congr_left fun k _ => ?_
 rw [mskN_snoc];unfold mskS;rw [if_neg (fun q => hs q.1)]
theorem two_nat (g : Nat) : (2 : Int) * (g : Int) = ((2 * g : Nat) : Int) := by omega
theorem labMask_spec (a : Ar) (h0 : 0 ≤ a.sig) (h8 : a.sig < 8) : ASpec Tryz.prog 186 [.agg [aI a.sig, aT a.up]] [] (Pure1 (aI ((labM a : Nat) : Int))) := by
 have hl : labM a = 2 ^ (2 * a.sig.toNat + bif a.up then 1 else 0) := rfl;obtain ⟨g, hg⟩ := eqx a.sig.toNat;have hs : a.sig = (g : Int) := by omega
 rw [← hg] at hl;rw [hs];refine ASpec.of Tryz.func186 rfl rfl fun C hC => ?_
 refine AC.seq (AC.region ?_);refine kD ?_;refine za ?_;refine AL.nil (th_n (AC.seq (AC.seq (AC.region ?_))));refine zf ?_;refine zr ?_;refine AL.nil (th_n ?_);refine AC.condB rfl (fun h0 => ?_) (fun h0 => ?_)
 ·refine AC.seq (AC.region ?_);refine zf ?_;refine zr ?_;refine zA ?_;refine AL.p (by exact g_shl (c := ((2 * 2 ^ (2 * g) : Nat) : Int)) rfl rfl (by omega) (by rw [two_nat]; exact shl_nat (a := 2) (by decide) (by omega))) rfl ?_;refine za ?_;refine AL.nil (th_n (AC.ret (th_r (bq_r ?_))));exact ret1 rfl (by rw [hl, ‹a.up = true›]; show dI _ = dI ((2 ^ (2 * g + 1) : Nat) : Int); rw [Nat.pow_succ, Nat.mul_comm])
 refine AC.skip (th_n (AC.seq (AC.region ?_)));refine zf ?_;refine zr ?_;refine zA ?_;refine AL.p (by exact g_shl (c := ((1 * 2 ^ (2 * g) : Nat) : Int)) rfl rfl (by omega) (by rw [two_nat]; exact shl_nat (a := 1) (by decide) (by omega))) rfl ?_;refine za ?_;refine AL.nil (th_n (AC.ret (bq_r ?_)));exact ret1 rfl (by rw [hl, ‹a.up = false›]; show dI _ = dI ((2 ^ (2 * g + 0) : Nat) : Int); rw [Nat.one_mul]; rfl)
theorem en_labMask : Enters Tryz.prog 186 := enters_of Tryz.func186 rfl rfl
set_option maxHeartbeats 4000000 in
theorem labMasks_spec (c : SG) (hn : c.codes.length ≤ 100000) (hl : c.arcs.length ≤ 1000000) (hin : ∀ a, a ∈ c.arcs → ArIn c.codes.length a) (hsg : ∀ a, a ∈ c.arcs → a.sig < 8) : ASpec Tryz.prog 141 [sgA c] [] (Pure1 (.d (vI (mskF c.arcs c.codes.length)))) := by
 obtain ⟨n, hnn⟩ := eqx c.codes.length;rw [← hnn] at hn hin ⊢;refine ASpec.of Tryz.func141 rfl rfl fun C hC => ?_
 refine AC.seq (AC.region ?_);refine kD ?_;refine za ?_;refine AL.nil (th_n (AC.seq (AC.region ?_)));refine zf ?_;refine zr ?_;refine AL.p (by exact g_len_view (k := n) rfl rfl (by rw [hnn]; exact tsX_len _)) rfl ?_;refine AL.q (by exact h_make (k := n) rfl rfl rfl rfl rfl rfl rfl rfl (by show 8 * n ≤ _; omega) (by omega)) rfl ?_;refine AL.p (by exact as2 rfl) rfl ?_;refine AL.nil (th_n (AC.seq (AC.seq (AC.region ?_))));refine zf ?_;refine zr ?_;refine kI c.arcs.length (arL_len _) ?_;refine zm ?_;refine AL.nil (th_n (AC.block ?_));refine AC.loop (ι := Nat) (fun j => ⟨35, 300, [(1, .d (.ref (sgD c))), (3, .own 100 n), (11, .d (vArs c.arcs)), (12, aI c.arcs.length), (13, aI j)], [(100, some (.arr 3 1 (ints (mskF (c.arcs.take j) n))))]⟩) (fun j => j ≤ c.arcs.length) (fun j => c.arcs.length - j) (0) ?_ (Nat.zero_le _) ?_
 ·exact zw [(100, _)] hC (b := by rw [List.take_zero, mskF_zero, ← repZ]; repeat (first | exact True.intro | refine And.intro ?_ ?_ | exact rfl | refine ⟨_, _, rfl, rfl, ?_⟩))
 intro j hj;refine AC.seq (AC.region ?_);refine zc ?_;refine AL.nil (th_n (AC.seq ?_));refine AC.condD rfl (fun h0 => ?_) (fun h0 => ?_)
 ·refine AC.skip (th_n (AC.seq (AC.block (AC.seq ?_))));have hj1 : j < c.arcs.length := by omega
  have hget := arL_get hj1;have hia := hin _ (List.getElem_mem hj1);unfold ArIn at hia;have hsa := hsg _ (List.getElem_mem hj1);have htk : c.arcs.take (j + 1) = c.arcs.take j ++ [c.arcs[j]] := by rw [List.take_add_one, List.getElem?_eq_getElem hj1]; rfl
  have hlt := fun k => mskN_lt (L := c.arcs.take j) (fun a ha => hsg a (List.mem_of_mem_take ha)) k
  obtain ⟨L, hL⟩ := eqx (c.arcs.take j);rw [← hL] at htk hlt ⊢;obtain ⟨a, ha⟩ := eqx (c.arcs[j]);rw [← ha] at hget hia hsa htk;obtain ⟨f, hf⟩ := eqx a.from_.toNat;have hfe : a.from_ = (f : Int) := by omega
  rw [hfe] at hget;have hfn : f < n := by omega
  have hno := @mskF_no L n a;have hse := fun q => @mskF_set L n f a q hfe
  have hrow := mskF_get (L := L) hfn;have hltf := hlt (f : Int);have hlm := labM_lt hsa;clear ha hL hf;have hLm := fun q => labMask_spec a q hsa
  refine AC.region ?_;refine AL.p (by exact g_ia_view rfl rfl rfl rfl rfl (by rfl) (by assumption)) rfl ?_;refine kG ?_;refine kE ?_;refine zs ?_;refine AL.nil (th_n (AC.seq (AC.region ?_)));refine zF ?_;refine zl ?_;refine zc ?_;refine AL.nil (th_n ?_);refine AC.condD rfl (fun h1 => ?_) (fun h1 => ?_)
  ·refine AC.drawn' mixed_ok [[], [], [1], [0,1,2], [0,1,2,3], [], [5], [], [7], [5,6,7,8], [5,6,7,8,9], [0,1,2,3,4,5,6,7,8,9,10], [0,1,2,3,4,5,6,7,8,9,10,11], [0,1,2,3,4,5,6,7,8,9,10,11,12]] (by decide) ?_;refine zd 0 [] 14 (by exact mv2 rfl) ?_;refine zd 1 [] 14 (by exact g_fa_ptr rfl rfl rfl rfl rfl) ?_;refine zd 2 [1] 14 (by exact g_load_ptr rfl rfl rfl rfl rfl) ?_;refine zd 3 [0,1,2] 14 (by exact g_ia_own (i := f) (l := n) rfl rfl rfl rfl rfl rfl hfn rfl) ?_;refine zd 4 [0,1,2,3] 14 (by exact g_load_arr1 rfl rfl rfl rfl (by rw [Nat.mul_one]; exact hrow)) ?_;refine zd 5 [] 14 (by exact g_fa_ptr rfl rfl rfl rfl rfl) ?_;refine zd 6 [5] 14 (by exact g_load_ptr rfl rfl rfl rfl rfl) ?_;refine zd 7 [] 14 (by exact g_fa_ptr rfl rfl rfl rfl rfl) ?_;refine zd 8 [7] 14 (by exact g_load_ptr rfl rfl rfl rfl rfl) ?_;refine zd 9 [5,6,7,8] 14 (by exact g_build rfl rfl rfl) ?_;refine zh 10 [5,6,7,8,9] 14 (by exact h_pure en_labMask rfl rfl (by repeat (first | exact rfl | exact DLead.same | refine ⟨_, _, rfl, ?_, ?_⟩ | refine ⟨_, rfl, ?_⟩)) (hLm (by assumption)) rfl) ?_;refine zd 11 (List.range 11) 14 (by exact g_bits rfl rfl (bits_or (by omega) (by omega))) ?_;refine zd 12 (List.range 12) 14 (by exact g_ia_own (i := f) (l := n) rfl rfl rfl rfl rfl rfl hfn rfl) ?_;refine zh 13 (List.range 13) 14 (by exact h_store_arr (i := f) (j := 0) (d := dI ((mskN L (f : Int) ||| labM a : Nat) : Int)) rfl rfl rfl rfl .same rfl hrow (by decide)) ?_;refine zj 14 ?_;refine ib_n (th_n (AC.region ?_));refine zA ?_;refine zm ?_;refine AL.nil (th_n ?_)
   (have q := ‹0 ≤ a.sig›; have e := hse q; exact ⟨j + 1, by omega, by omega, zw [(100, 100)] hC (b := by rw [htk, ← e, ints_set]; repeat (first | exact True.intro | refine And.intro ?_ ?_ | exact rfl | refine ⟨_, _, rfl, rfl, ?_⟩))⟩)
  refine AC.skip (ib_n (th_n (AC.region ?_)));refine zA ?_;refine zm ?_;refine AL.nil (th_n ?_)
  (have q : ¬ 0 ≤ a.sig := (by omega); have e := hno q; exact ⟨j + 1, by omega, by omega, zw [(100, 100)] hC (b := by rw [htk, e]; repeat (first | exact True.intro | refine And.intro ?_ ?_ | exact rfl | refine ⟨_, _, rfl, rfl, ?_⟩))⟩)
 refine AC.exit (th_e (th_e (ib_y (th_n (AC.seq ?_)))));have hjj : j = c.arcs.length := by omega
 rw [hjj, List.take_length];refine AC.weak (Weak.freeze (i := 3) rfl rfl (by rw [ints_len, mskF_len]; exact Nat.le_refl _) (List.take_of_length_le (by rw [ints_len, mskF_len]; exact Nat.le_refl _))) ?_;refine AC.region ?_;refine zm ?_;refine za ?_;refine AL.nil (th_n (AC.ret (bq_r ?_)));exact ret1 rfl rfl
theorem en_labMasks : Enters Tryz.prog 141 := enters_of Tryz.func141 rfl rfl
def fromE (L : List Ar) : List (Nat × Nat) := (List.range L.length).map fun j => ((arAt L j).from_.toNat, j)
theorem fromE_next (L : List Ar) (k : Nat) : nextL (fromE L) k = (List.range L.length).filter fun j => decide ((arAt L j).from_.toNat = k) := by
 unfold nextL fromE;rw [List.filter_map, List.map_map];have : ((fun x : Nat × Nat => x.2) ∘ fun j => ((arAt L j).from_.toNat, j)) = id := rfl;rw [this, List.map_id]; rfl
theorem validC_at {c : SG} (h : validC c = true) : (1 ≤ c.codes.length ∧ c.codes.length ≤ 300) ∧ c.arcs.length ≤ 4000 ∧ (∀ a, a ∈ c.arcs → ArIn c.codes.length a) ∧ ∀ v, v < c.codes.length → 0 ≤ oa (distF (arcE c.arcs) c.codes.length 0) v := by
 unfold validC at h;simp only [Bool.and_eq_true, decide_eq_true_eq, List.all_eq_true] at h;obtain ⟨⟨⟨⟨⟨_, h2⟩, h3⟩, _⟩, h5⟩, h6⟩ := h;refine ⟨by omega, h3, fun a ha => arcG_in (h5 a ha), fun v hv => ?_⟩;unfold allU at h6;have := List.all_eq_true.1 h6 v (List.mem_range.2 hv);exact of_decide_eq_true this
inductive Chn (L : List Ar) : List Ar → Nat → Prop
 | nil : Chn L [] 0
 | snoc {p : List Ar} {f : Nat} {a : Ar} {v : Nat} : Chn L p f → a ∈ L → a.from_ = (f : Int) → a.to_ = (v : Int) → Chn L (p ++ [a]) v
def atP (p : List Ar) (j : Nat) : Int := match j with | 0 => 0 | j + 1 => (arAt p j).to_
theorem Chn.facts {L p : List Ar} {v : Nat} (h : Chn L p v) : (∀ j (hj : j < p.length), p[j] ∈ L ∧ p[j].from_ = atP p j) ∧ atP p p.length = (v : Int) := by
 induction h with
 | nil => exact ⟨fun j hj => by simp at hj, rfl⟩
 | snoc h ha hf ht ih =>
  rename_i p f a v;obtain ⟨h1, h2⟩ := ih
  have hat : ∀ j, j ≤ p.length → atP (p ++ [a]) j = atP p j := by
   intro j hj;cases j with
   | zero => rfl
   | succ j => show (arAt (p ++ [a]) j).to_ = (arAt p j).to_; rw [arAt_nat (by simp; omega), arAt_nat (by omega), List.getElem_append_left (by omega)]
  refine ⟨fun j hj => ?_, ?_⟩
  ·rw [List.length_append] at hj;simp only [List.length_cons, List.length_nil] at hj;rw [hat j (by omega)];rcases Nat.lt_or_ge j p.length with g | g
   ·have := h1 j g;rw [List.getElem_append_left g];exact ⟨this.1, this.2⟩
   obtain rfl : j = p.length := by omega
   rw [List.getElem_concat_length rfl, h2];exact ⟨ha, hf⟩
  rw [List.length_append];show (arAt (p ++ [a]) p.length).to_ = _;rw [arAt_nat (by simp), List.getElem_concat_length rfl, ht]
theorem validC_arc {c : SG} (h : validC c = true) {a : Ar} (ha : a ∈ c.arcs) : ((0 ≤ a.from_ ∧ a.from_ < c.codes.length) ∧ 0 ≤ a.to_ ∧ a.to_ < c.codes.length) ∧ labOk ⟨a.sig, a.up⟩ c.sigs.length = true ∧ fitS a (cAtS c a.from_.toNat) (cAtS c a.to_.toNat) = true := by
 obtain ⟨_, _, hin, _⟩ := validC_at h;unfold validC at h;simp only [Bool.and_eq_true, List.all_eq_true] at h;obtain ⟨⟨_, h5⟩, _⟩ := h;have := h5 a ha;unfold arcG at this;simp only [Bool.and_eq_true] at this;exact ⟨hin a ha, this.1.2, this.2⟩
theorem validC_code {c : SG} (h : validC c = true) {i : Nat} (hi : i < c.codes.length) : (cAtS c i).length = c.sigs.length := by
 unfold validC at h;simp only [Bool.and_eq_true, List.all_eq_true] at h;obtain ⟨⟨⟨_, h4⟩, _⟩, _⟩ := h;have := h4 _ (cAtS_mem hi);unfold bitsB at this;simp only [Bool.and_eq_true, decide_eq_true_eq] at this;omega
structure SigOk (s : List Sig) : Prop where
 l : 1 ≤ s.length ∧ s.length ≤ 8
 n : ∀ x, x ∈ s → 1 ≤ x.name.length ∧ x.name.length ≤ 6
theorem SigOk.of {s : List Sig} (h : sigsB s = true) : SigOk s := by
 unfold sigsB at h;rw [Bool.and_eq_true] at h;have hl := inI_iff.1 h.2;refine ⟨by omega, fun x hx => ?_⟩;obtain ⟨j, hj, rfl⟩ := List.getElem_of_mem hx;have := allK_iff.1 h.1 j hj;unfold sigK at this;rw [sAt_nat hj, Bool.and_eq_true] at this;have h1 := this.1;unfold nameB at h1;rw [Bool.and_eq_true] at h1;have := inI_iff.1 h1.2;omega
theorem sig_names {c : SG} (h : validC c = true) : (1 ≤ c.sigs.length ∧ c.sigs.length ≤ 8) ∧ ∀ t, t ∈ c.sigs → t.name.length ≤ 1000 := by
 unfold validC at h;simp only [Bool.and_eq_true] at h;have hs := SigOk.of h.1.1.1.1.1;exact ⟨hs.l, fun t ht => by have := hs.n t ht; omega⟩
theorem arc_sig {c : SG} (h : validC c = true) {a : Ar} (ha : a ∈ c.arcs) : a.sig < c.sigs.length ∧ a.sig < 8 ∧ -1 ≤ a.sig := by
 have := (validC_arc h ha).2.1;have h8 := (sig_names h).1;unfold labOk at this;simp only [Bool.or_eq_true, Bool.and_eq_true, decide_eq_true_eq] at this;omega
theorem shr_le (m s : Nat) : m >>> s ≤ m := by rw [Nat.shiftRight_eq_div_pow]; exact Nat.div_le_self ..
theorem filter_snoc {α : Type} (p : α → Bool) {l : List α} {j : Nat} (hj : j < l.length) : (l.take (j + 1)).filter p = (l.take j).filter p ++ (if p l[j] = true then [l[j]] else []) := by
 rw [List.take_add_one, List.getElem?_eq_getElem hj, List.filter_append];congr 1
 by_cases h : p l[j] = true <;> simp [h]
def isLb (x : Lab) (a : Ar) : Bool := decide (a.sig = x.sig) && decide (a.up = x.up)
def blkS (c : SG) (x : Lab) (v : Nat) : Prop := ∃ a, a ∈ c.arcs ∧ isLb x a = true ∧ a.to_ = (v : Int)
def sdB (l : List Int) (v : Int) : Bool := decide (v ∈ l)
theorem labelOfArc_spec (a : Ar) : ASpec Tryz.prog 79 [arA a] [] (Pure1 (.agg [aI a.sig, aT a.up])) := by
 refine ASpec.of Tryz.func79 rfl rfl fun C hC => ?_
 refine AC.seq (AC.region ?_);refine kD ?_;refine kE ?_;refine AL.nil (th_n (AC.seq (AC.region ?_)));refine zf ?_;refine zr ?_;refine zf ?_;refine zr ?_;refine AL.p (by exact g_build rfl rfl rfl) rfl ?_;refine zs ?_;refine AL.nil (th_n (AC.ret (bq_r ?_)));exact ret0 rfl (by repeat (first | exact DLead.same | exact rfl | refine ⟨_, rfl, ?_⟩ | refine ⟨_, _, rfl, ?_, ?_⟩))
theorem en_labelOfArc : Enters Tryz.prog 79 := enters_of Tryz.func79 rfl rfl
noncomputable def sigQ (c : SG) (g : Int) : Bool := validC c && (decide (0 ≤ g) && decide (g ≤ (c.sigs.length : Int) - 1))
theorem hasSignal_spec (c : SG) (g : Int) (hc : SgL c) : ASpec Tryz.prog 56 [sgA c, aI g] [] (Pure1 (aT (sigQ c g))) := by
 have hV := iValidSg_spec c hc;have hW := within_spec g 0 ((c.sigs.length : Int) - 1);have hn := hc.sg;have hR : sigQ c g = (validC c && (decide (0 ≤ g) && decide (g ≤ (c.sigs.length : Int) - 1))) := rfl;obtain ⟨b, hb⟩ := eqx (validC c);rw [← hb] at hV hR;obtain ⟨d, hd⟩ := eqx ((decide (0 ≤ g) && decide (g ≤ (c.sigs.length : Int) - 1)));rw [← hd] at hW hR;rw [hR];clear hR hb hd;refine ASpec.of Tryz.func56 rfl rfl fun C hC => ?_
 refine AC.seq (AC.region ?_);refine kD ?_;refine za ?_;refine AL.nil (th_n (AC.seq (AC.region ?_)));refine kG ?_;refine kV en_iValidSg hV ?_;refine zm ?_;refine AL.caseGB rfl rfl (fun h0 => ?_) (fun h0 => ?_)
 ·refine zy ?_;refine zm ?_;refine zy ?_;refine zf ?_;refine zy ?_;refine zr ?_;refine zy ?_;refine kI c.sigs.length (List.length_map _) ?_;refine zy ?_;refine zA ?_;refine zy ?_;refine kV en_within hW ?_;refine zQ ?_;refine za ?_;refine AL.nil (th_n (AC.ret (bq_r ?_)))
  (have q := ‹b = true›; exact ret1 rfl (by rw [q, Bool.true_and]))
 refine zn ?_;refine zn ?_;refine zn ?_;refine zn ?_;refine zn ?_;refine zn ?_;refine zP ?_;refine za ?_;refine AL.nil (th_n (AC.ret (bq_r ?_)))
 (have q := ‹b = false›; exact ret1 rfl (by rw [q]; rfl))
theorem en_hasSignal : Enters Tryz.prog 56 := enters_of Tryz.func56 rfl rfl
def swT (c : SG) (x : Lab) (j : Nat) : List Int := ((c.arcs.take j).filter (isLb x)).map Ar.to_
def swL (c : SG) (x : Lab) : List Int := setP (swT c x c.arcs.length)
theorem swL_mem {c : SG} {x : Lab} {t : Int} : t ∈ swL c x ↔ ∃ a, a ∈ c.arcs ∧ isLb x a = true ∧ a.to_ = t := by
 unfold swL swT;rw [(setP_srtd _).2, List.take_length, List.mem_map];constructor
 ·rintro ⟨a, ha, rfl⟩;rw [List.mem_filter] at ha;exact ⟨a, ha.1, ha.2, rfl⟩
 rintro ⟨a, h1, h2, rfl⟩;exact ⟨a, List.mem_filter.2 ⟨h1, h2⟩, rfl⟩
structure BfB (L : List Ar) (q : Ar → Bool) (S : Nat → Prop) (n : Nat) (out : List Int) (at_ p : Nat) : Prop where
 nd : out.Nodup
 inn : ∀ x, x ∈ out → ∃ v : Nat, x = (v : Int) ∧ v < n ∧ Rch (ArR L q) S v
 bas : ∀ v, S v → (v : Int) ∈ out
 al : at_ ≤ out.length
 cls : ∀ a, a ∈ L → q a = true → a.from_ ∈ out.take at_ → a.to_ ∈ out
 cur : ∀ (h : at_ < out.length) i, i ∈ (nextL (fromE L) out[at_].toNat).take p → ∀ hi : i < L.length, q L[i] = true → L[i].to_ ∈ out
theorem BfB.len {L : List Ar} {q : Ar → Bool} {S : Nat → Prop} {n at_ p : Nat} {out : List Int} (h : BfB L q S n out at_ p) : out.length ≤ n := by
 have := nodup_len (nI (List.range n)) out h.nd (fun x hx => by obtain ⟨v, rfl, hv, _⟩ := h.inn x hx; exact List.mem_map.2 ⟨v, List.mem_range.2 hv, rfl⟩)
 rwa [nI_len, List.length_range] at this
theorem mem_take_s {l : List Nat} {p : Nat} (hp : p < l.length) {i : Nat} (h : i ∈ l.take (p + 1)) : i ∈ l.take p ∨ i = l[p] := by
 rw [List.take_add_one, List.getElem?_eq_getElem hp, List.mem_append] at h;rcases h with h | h
 ·exact .inl h
 exact .inr (by simpa using h)
theorem BfB.no {L : List Ar} {q : Ar → Bool} {S : Nat → Prop} {n at_ p : Nat} {out : List Int} (h : BfB L q S n out at_ p) (ha : at_ < out.length) {i : Nat} (hp : p < (nextL (fromE L) out[at_].toNat).length) (hi : (nextL (fromE L) out[at_].toNat)[p] = i) (hq : ∀ hi : i < L.length, q L[i] = true → L[i].to_ ∈ out) : BfB L q S n out at_ (p + 1) := by
 refine ⟨h.nd, h.inn, h.bas, h.al, h.cls, fun h1 k hk hkl hqk => ?_⟩;rcases mem_take_s hp hk with g | g
 ·exact h.cur h1 k g hkl hqk
 rw [hi] at g; subst g; exact hq hkl hqk
theorem BfB.yes {L : List Ar} {q : Ar → Bool} {S : Nat → Prop} {n at_ p : Nat} {out : List Int} (h : BfB L q S n out at_ p) (ha : at_ < out.length) {i : Nat} (hp : p < (nextL (fromE L) out[at_].toNat).length) (hi : (nextL (fromE L) out[at_].toNat)[p] = i) (hil : i < L.length) (hq : q L[i] = true) (hn : ¬ L[i].to_ ∈ out) (hA : ArIn n L[i]) : BfB L q S n (out ++ [L[i].to_]) at_ (p + 1) := by
 unfold ArIn at hA;have hin : i ∈ nextL (fromE L) out[at_].toNat := by rw [← hi]; exact List.getElem_mem hp
 rw [fromE_next, List.mem_filter, decide_eq_true_eq, arAt_nat hil] at hin;obtain ⟨u, hu, hun, hr⟩ := h.inn _ (List.getElem_mem ha);have hf : L[i].from_ = (u : Int) := by rw [hu] at hin; omega
 have hget : (out ++ [L[i].to_])[at_]'(by rw [List.length_append]; omega) = out[at_] := List.getElem_append_left ha;refine ⟨?_, fun x hx => ?_, fun v hv => List.mem_append.2 (.inl (h.bas v hv)), by have := h.al; rw [List.length_append]; omega, fun a ham hqa hfa => ?_, fun h1 k hk hkl hqk => ?_⟩
 ·rw [List.nodup_append];refine ⟨h.nd, by simp, fun a ha b hb => ?_⟩;rw [List.mem_singleton] at hb;rintro rfl;exact hn (hb ▸ ha)
 ·rcases List.mem_append.1 hx with g | g
  ·exact h.inn x g
  rw [List.mem_singleton] at g;exact ⟨L[i].to_.toNat, by omega, by omega, .step hr ⟨L[i], List.getElem_mem hil, hq, hf, by omega⟩⟩
 ·rw [List.take_append_of_le_length (by omega)] at hfa;exact List.mem_append.2 (.inl (h.cls a ham hqa hfa))
 rw [hget] at hk;rcases mem_take_s hp hk with g | g
 ·exact List.mem_append.2 (.inl (h.cur ha k g hkl hqk))
 rw [hi] at g; subst g; exact List.mem_append.2 (.inr (by simp))
theorem BfB.next {L : List Ar} {q : Ar → Bool} {S : Nat → Prop} {n at_ p : Nat} {out : List Int} (h : BfB L q S n out at_ p) (ha : at_ < out.length) (hp : (nextL (fromE L) out[at_].toNat).length ≤ p) (hin : ∀ a, a ∈ L → ArIn n a) : BfB L q S n out (at_ + 1) 0 := by
 refine ⟨h.nd, h.inn, h.bas, ha, fun a ham hqa hfa => ?_, fun h1 k hk => by simp at hk⟩;rw [List.take_add_one, List.getElem?_eq_getElem ha, List.mem_append] at hfa;rcases hfa with g | g
 ·exact h.cls a ham hqa g
 have g : a.from_ = out[at_] := by simpa using g
 obtain ⟨i, hi, rfl⟩ := List.getElem_of_mem ham;have := hin _ ham;unfold ArIn at this;refine h.cur ha i ?_ hi hqa;rw [List.take_of_length_le hp, fromE_next, List.mem_filter, decide_eq_true_eq, arAt_nat hi];exact ⟨List.mem_range.2 hi, by rw [g]⟩
theorem BfB.end_ {L : List Ar} {q : Ar → Bool} {S : Nat → Prop} {n : Nat} {out : List Int} (h : BfB L q S n out out.length 0) : setP out = reaL (ArR L q) S n := by
 have hs := setP_srtd out;refine reaL_eq hs.1 (fun x hx => h.inn x ((hs.2 x).1 hx)) (fun v hv => (hs.2 _).2 (h.bas v hv)) fun u v hu ⟨a, ha, hq, h1, h2⟩ => ?_
 rw [hs.2] at hu ⊢;rw [← h2];refine h.cls a ha hq ?_;rw [List.take_length, h1];exact hu
theorem BfB.start {c : SG} {x : Lab} {q : Ar → Bool} (hin : ∀ a, a ∈ c.arcs → ArIn c.codes.length a) : BfB c.arcs q (blkS c x) c.codes.length (swL c x) 0 0 := by
 refine ⟨srtd_nodup (setP_srtd _).1, fun t ht => ?_, fun v ⟨a, h1, h2, h3⟩ => swL_mem.2 ⟨a, h1, h2, h3⟩, Nat.zero_le _, fun a _ _ h => by simp at h, fun h i hi => by simp at hi⟩;obtain ⟨a, h1, h2, rfl⟩ := swL_mem.1 ht;have := hin a h1;unfold ArIn at this;exact ⟨a.to_.toNat, by omega, by omega, .base ⟨a, h1, h2, by omega⟩⟩
def hgR (L : List Ar) (set : List Int) (u v : Nat) : Prop := ((u : Int) ∈ set ∧ (v : Int) ∈ set) ∧ ∃ a, a ∈ L ∧ ((a.from_ = (u : Int) ∧ a.to_ = (v : Int)) ∨ (a.from_ = (v : Int) ∧ a.to_ = (u : Int)))
theorem hgR_symm {L : List Ar} {set : List Int} {u v : Nat} (h : hgR L set u v) : hgR L set v u := ⟨⟨h.1.2, h.1.1⟩, by obtain ⟨a, ha, h⟩ := h.2; exact ⟨a, ha, h.symm⟩⟩
abbrev Cmp (L : List Ar) (set : List Int) (k v : Nat) : Prop := Rch (hgR L set) (fun x => x = k) v
theorem Cmp.refl (L : List Ar) (set : List Int) (k : Nat) : Cmp L set k k := .base rfl
theorem Cmp.trans {L : List Ar} {set : List Int} {k v w : Nat} (h : Cmp L set k v) (g : Cmp L set v w) : Cmp L set k w := by
 induction g with
 | base e => subst e; exact h
 | step _ hr ih => exact .step ih hr
theorem Cmp.one {L : List Ar} {set : List Int} {k v : Nat} (h : hgR L set k v) : Cmp L set k v := .step (.base rfl) h
theorem Cmp.symm {L : List Ar} {set : List Int} {k v : Nat} (h : Cmp L set k v) : Cmp L set v k := by
 induction h with
 | base e => subst e; exact .base rfl
 | step _ hr ih => exact Cmp.trans (Cmp.one (hgR_symm hr)) ih
theorem Cmp.mem {L : List Ar} {set : List Int} {k v : Nat} (h : Cmp L set k v) (hk : (k : Int) ∈ set) : (v : Int) ∈ set := by
 cases h with
 | base e => subst e; exact hk
 | step _ hr => exact hr.1.2
noncomputable def cmpL (L : List Ar) (set : List Int) (n k : Nat) : List Int := reaL (hgR L set) (fun x => x = k) n
def LeastC (L : List Ar) (set : List Int) (m : Nat) : Prop := ∀ v, Cmp L set m v → m ≤ v
noncomputable def leastB (L : List Ar) (set : List Int) (m : Nat) : Bool := @decide (LeastC L set m) (Classical.propDecidable _)
theorem leastB_iff {L : List Ar} {set : List Int} {m : Nat} : leastB L set m = true ↔ LeastC L set m := @decide_eq_true_iff _ (Classical.propDecidable _)
noncomputable def grpL (L : List Ar) (set : List Int) (n : Nat) : List (List Int) := (set.filter fun x => leastB L set x.toNat).map fun x => cmpL L set n x.toNat
theorem least_ex {L : List Ar} {set : List Int} : ∀ (k : Nat), ∃ m, Cmp L set k m ∧ LeastC L set m := by
 intro k
 induction k using Nat.strongRecOn with
 | _ k ih =>
  by_cases h : LeastC L set k
  ·exact ⟨k, Cmp.refl _ _ _, h⟩
  unfold LeastC at h;have ⟨v, hv⟩ := Classical.not_forall.1 h;have ⟨h1, h2⟩ := Classical.not_imp.1 hv;obtain ⟨m, g1, g2⟩ := ih v (by omega);exact ⟨m, h1.trans g1, g2⟩
theorem least_uniq {L : List Ar} {set : List Int} {a b : Nat} (h : Cmp L set a b) (ha : LeastC L set a) (hb : LeastC L set b) : a = b := by
 have h1 := ha b h;have h2 := hb a h.symm;omega
def ofN (o : List Int) (v : Nat) : Int := o.getD v 0
theorem ofN_set {o : List Int} {i j : Nat} {x : Int} (h : i < o.length) : ofN (o.set i x) j = if j = i then x else ofN o j := by
 unfold ofN;rw [List.getD_eq_getElem?_getD, List.getElem?_set, List.getD_eq_getElem?_getD]
 by_cases e : i = j
 ·subst e; simp [h]
 rw [if_neg e, if_neg (fun q => e q.symm)]
theorem cnt_set_eq : ∀ {o : List Int} {i : Nat} {x m : Int}, i < o.length → (ofN o i = m ↔ x = m) → (o.set i x).count m = o.count m
 | [], i, x, m, h, _ => by simp at h
 | y :: o, 0, x, m, _, h => by
  have h : y = m ↔ x = m := h;rw [List.set_cons_zero, List.count_cons, List.count_cons]
  by_cases e : x = m
  ·simp [e, h.2 e]
  have e2 : ¬ y = m := fun q => e (h.1 q)
  simp [e, e2]
 | y :: o, i + 1, x, m, hl, h => by
  rw [List.set_cons_succ, List.count_cons, List.count_cons, cnt_set_eq (o := o) (i := i) (by simpa using hl) h]
theorem cnt_set_new : ∀ {o : List Int} {i : Nat} {m : Int}, i < o.length → ¬ ofN o i = m → (o.set i m).count m = o.count m + 1
 | [], i, m, h, _ => by simp at h
 | y :: o, 0, m, _, h => by
  have h : ¬ y = m := h;rw [List.set_cons_zero, List.count_cons, List.count_cons];simp [h]
 | y :: o, i + 1, m, hl, h => by
  rw [List.set_cons_succ, List.count_cons, List.count_cons, cnt_set_new (o := o) (i := i) (by simpa using hl) h];omega
structure OfI (L : List Ar) (set : List Int) (n d j : Nat) (o : List Int) : Prop where
 len : o.length = n
 rch : ∀ v, v < n → ∃ u : Nat, ofN o v = (u : Int) ∧ Cmp L set v u
 slf : ∀ m : Nat, m < n → LeastC L set m → ofN o m = (m : Int)
 prg : ∀ m : Nat, m < n → (m : Int) ∈ set → LeastC L set m →
  (∀ u v : Nat, hgR L set u v → ofN o u = (m : Int) → ofN o v = (m : Int)) ∨ d + 2 ≤ o.count (m : Int) ∨
   (d + 1 ≤ o.count (m : Int) ∧ ∀ i (hi : i < L.length), i < j → L[i].from_ ∈ set → L[i].to_ ∈ set → (ofN o L[i].from_.toNat = (m : Int) ∨ ofN o L[i].to_.toNat = (m : Int)) → ofN o L[i].from_.toNat = (m : Int) ∧ ofN o L[i].to_.toNat = (m : Int))
theorem OfI.start {L : List Ar} {set : List Int} {n : Nat} : OfI L set n 0 0 (nI (List.range n)) := by
 have hg : ∀ v, v < n → ofN (nI (List.range n)) v = (v : Int) := fun v hv => by
  unfold ofN nI;rw [List.getD_eq_getElem?_getD, List.getElem?_map, List.getElem?_range hv]; rfl
 refine ⟨by rw [nI_len, List.length_range], fun v hv => ⟨v, hg v hv, Cmp.refl _ _ _⟩, fun m hm _ => hg m hm, fun m hm _ _ => .inr (.inr ⟨?_, fun i _ hi => absurd hi (Nat.not_lt_zero _)⟩)⟩;have : (m : Int) ∈ nI (List.range n) := List.mem_map.2 ⟨m, List.mem_range.2 hm, rfl⟩;have := List.count_pos_iff.2 this;omega
theorem OfI.no {L : List Ar} {set : List Int} {n d j : Nat} {o : List Int} (h : OfI L set n d j o) (hj : j < L.length) (hq : ¬ (L[j].from_ ∈ set ∧ L[j].to_ ∈ set)) : OfI L set n d (j + 1) o := by
 refine ⟨h.len, h.rch, h.slf, fun m h1 h2 h3 => ?_⟩;rcases h.prg m h1 h2 h3 with g | g | ⟨g1, g2⟩
 ·exact .inl g
 ·exact .inr (.inl g)
 refine .inr (.inr ⟨g1, fun i hi hij q1 q2 => ?_⟩);rcases Nat.lt_succ_iff_lt_or_eq.1 hij with g3 | rfl
 ·exact g2 i hi g3 q1 q2
 exact absurd ⟨q1, q2⟩ hq
theorem OfI.yes {L : List Ar} {set : List Int} {n d j : Nat} {o : List Int} (h : OfI L set n d j o) (hj : j < L.length) (hf : L[j].from_ ∈ set) (ht : L[j].to_ ∈ set) (ha : ArIn n L[j]) {f t : Nat} (ef : L[j].from_ = (f : Int)) (et : L[j].to_ = (t : Int)) {x : Int} (hx : x = ofN o f ∧ x ≤ ofN o t ∨ x = ofN o t ∧ x ≤ ofN o f) : OfI L set n d (j + 1) ((o.set f x).set t x) := by
 unfold ArIn at ha;have hl := h.len;have hfn : f < n := by omega
 have htn : t < n := by omega
 have hR : hgR L set f t := ⟨⟨ef ▸ hf, et ▸ ht⟩, L[j], List.getElem_mem hj, .inl ⟨ef, et⟩⟩
 have hget : ∀ v, ofN ((o.set f x).set t x) v = if v = f ∨ v = t then x else ofN o v := fun v => by
  rw [ofN_set (by rw [List.length_set]; omega), ofN_set (by omega)]
  by_cases e1 : v = t
  ·rw [if_pos e1, if_pos (.inr e1)]
  rw [if_neg e1]
  by_cases e2 : v = f
  ·rw [if_pos e2, if_pos (.inl e2)]
  rw [if_neg e2, if_neg (by rintro (q | q); exact e2 q; exact e1 q)]
 obtain ⟨uf, huf, hcf⟩ := h.rch f hfn;obtain ⟨ut, hut, hct⟩ := h.rch t htn
 -- a least state that either end has is the new number
 have hmin : ∀ m : Nat, LeastC L set m → (ofN o f = (m : Int) ∨ ofN o t = (m : Int)) → x = (m : Int) := by
  intro m hm hq
  have key : Cmp L set m uf ∧ Cmp L set m ut := by
   rcases hq with q | q
   ·have e : uf = m := by omega
    subst e;exact ⟨Cmp.refl _ _ _, (hcf.symm.trans (Cmp.one hR)).trans hct⟩
   have e : ut = m := by omega
   subst e;exact ⟨(hct.symm.trans (Cmp.one (hgR_symm hR))).trans hcf, Cmp.refl _ _ _⟩
  have h1 := hm _ key.1;have h2 := hm _ key.2;rcases hx with ⟨e, g⟩ | ⟨e, g⟩ <;> rcases hq with q | q <;> omega
 have hback : ∀ m : Nat, x = (m : Int) → (ofN o f = (m : Int) ∨ ofN o t = (m : Int)) := fun m e => by rcases hx with ⟨g, _⟩ | ⟨g, _⟩ <;> omega
 refine ⟨by rw [List.length_set, List.length_set]; exact hl, fun v hv => ?_, fun m hm hL => ?_, fun m h1 h2 h3 => ?_⟩
 ·rw [hget]
  split
  ·rename_i q;rcases hx with ⟨e, _⟩ | ⟨e, _⟩
   ·refine ⟨uf, by omega, ?_⟩;rcases q with rfl | rfl
    ·exact hcf
    exact (Cmp.one (hgR_symm hR)).trans hcf
   refine ⟨ut, by omega, ?_⟩;rcases q with rfl | rfl
   ·exact (Cmp.one hR).trans hct
   exact hct
  exact h.rch v hv
 ·rw [hget]
  split
  ·rename_i q;refine hmin m hL ?_;have := h.slf m hm hL;rcases q with rfl | rfl
   ·exact .inl this
   exact .inr this
  exact h.slf m hm hL
 by_cases hq : ofN o f = (m : Int) ∨ ofN o t = (m : Int)
 ·have hxm := hmin m h3 hq;subst hxm
  by_cases hb : ofN o f = (m : Int) ∧ ofN o t = (m : Int)
  ·-- nothing changes
   have hsame : ∀ v, ofN ((o.set f (m : Int)).set t (m : Int)) v = ofN o v := fun v => by
    rw [hget]
    split
    ·rename_i q;rcases q with rfl | rfl
     ·exact hb.1.symm
     exact hb.2.symm
    rfl
   have hcnt : ((o.set f (m : Int)).set t (m : Int)).count (m : Int) = o.count (m : Int) := by
    rw [cnt_set_eq (by rw [List.length_set]; omega), cnt_set_eq (by omega)]
    ·rw [hb.1]
    rw [ofN_set (by omega)]
    split
    ·simp
    rw [hb.2]
   rw [hcnt];simp only [hsame];rcases h.prg m h1 h2 h3 with g | g | ⟨g1, g2⟩
   ·exact .inl g
   ·exact .inr (.inl g)
   refine .inr (.inr ⟨g1, fun i hi hij q1 q2 q3 => ?_⟩);rcases Nat.lt_succ_iff_lt_or_eq.1 hij with g3 | rfl
   ·exact g2 i hi g3 q1 q2 q3
   rw [ef, et, Int.toNat_natCast, Int.toNat_natCast]; exact hb
  -- one more
  have hcnt : ((o.set f (m : Int)).set t (m : Int)).count (m : Int) = o.count (m : Int) + 1 := by
   by_cases q1 : ofN o f = (m : Int)
   ·have q2 : ¬ ofN o t = (m : Int) := fun g => hb ⟨q1, g⟩
    have hne : t ≠ f := by rintro rfl; exact q2 q1
    rw [cnt_set_new (by rw [List.length_set]; omega) (by rw [ofN_set (by omega), if_neg hne]; exact q2), cnt_set_eq (by omega) (by rw [q1])]
   have q2 : ofN o t = (m : Int) := hq.resolve_left q1;rw [cnt_set_eq (by rw [List.length_set]; omega) (by rw [ofN_set (by omega)]; split; simp; rw [q2]), cnt_set_new (by omega) q1]
  rw [hcnt];rcases h.prg m h1 h2 h3 with g | g | ⟨g1, _⟩
  ·exfalso;rcases hq with q | q
   ·exact hb ⟨q, g f t hR q⟩
   exact hb ⟨g t f (hgR_symm hR) q, q⟩
  ·exact .inr (.inl (by omega))
  exact .inr (.inl (by omega))
 -- the marks of m stay as they are
 have hxm : ¬ x = (m : Int) := fun e => hq (hback m e)
 have hsame : ∀ v, ofN ((o.set f x).set t x) v = (m : Int) ↔ ofN o v = (m : Int) := fun v => by
  rw [hget]
  split
  ·rename_i q;rcases q with rfl | rfl
   ·exact ⟨fun e => absurd e hxm, fun e => absurd (.inl e) hq⟩
   exact ⟨fun e => absurd e hxm, fun e => absurd (.inr e) hq⟩
  exact Iff.rfl
 have hcnt : ((o.set f x).set t x).count (m : Int) = o.count (m : Int) := by
  rw [cnt_set_eq (by rw [List.length_set]; omega), cnt_set_eq (by omega)]
  ·exact ⟨fun e => absurd (.inl e) hq, fun e => absurd e hxm⟩
  rw [ofN_set (by omega)]
  split
  ·exact Iff.rfl
  exact ⟨fun e => absurd (.inr e) hq, fun e => absurd e hxm⟩
 rw [hcnt];simp only [hsame];rcases h.prg m h1 h2 h3 with g | g | ⟨g1, g2⟩
 ·exact .inl g
 ·exact .inr (.inl g)
 refine .inr (.inr ⟨g1, fun i hi hij q1 q2 q3 => ?_⟩);rcases Nat.lt_succ_iff_lt_or_eq.1 hij with g3 | rfl
 ·exact g2 i hi g3 q1 q2 q3
 rw [ef, et, Int.toNat_natCast, Int.toNat_natCast] at q3;exact absurd q3 hq
theorem OfI.next {L : List Ar} {set : List Int} {n d j : Nat} {o : List Int} (h : OfI L set n d j o) (hj : j = L.length) : OfI L set n (d + 1) 0 o := by
 refine ⟨h.len, h.rch, h.slf, fun m h1 h2 h3 => ?_⟩;rcases h.prg m h1 h2 h3 with g | g | ⟨g1, g2⟩
 ·exact .inl g
 ·exact .inr (.inr ⟨by omega, fun i _ hi => absurd hi (Nat.not_lt_zero _)⟩)
 refine .inl fun u v ⟨⟨q1, q2⟩, a, ha, hq⟩ he => ?_
 obtain ⟨i, hi, rfl⟩ := List.getElem_of_mem ha;rcases hq with ⟨e1, e2⟩ | ⟨e1, e2⟩
 ·have := g2 i hi (by omega) (e1 ▸ q1) (e2 ▸ q2) (.inl (by rw [e1, Int.toNat_natCast]; exact he));have := this.2
  rwa [e2, Int.toNat_natCast] at this
 have := g2 i hi (by omega) (e1 ▸ q2) (e2 ▸ q1) (.inr (by rw [e2, Int.toNat_natCast]; exact he));have := this.1
 rwa [e1, Int.toNat_natCast] at this
theorem cnt_le {L : List Ar} {set : List Int} {n : Nat} {o : List Int} (hl : o.length = n) (hr : ∀ v, v < n → ∃ u : Nat, ofN o v = (u : Int) ∧ Cmp L set v u) (hs : set.Nodup) (hin : ∀ x, x ∈ set → 0 ≤ x ∧ x < n) {m : Nat} (hm : (m : Int) ∈ set) : o.count (m : Int) ≤ set.length := by
 -- the states that have m, each once, lie in the set
 have h1 : ((List.range n).filter fun v => decide (ofN o v = (m : Int))).length = o.count (m : Int) := by
  have e : o = (List.range n).map (ofN o) := by
   refine List.ext_getElem (by rw [List.length_map, List.length_range, hl]) fun i h1 h2 => ?_
   rw [List.getElem_map, List.getElem_range];unfold ofN;rw [List.getD_eq_getElem?_getD, List.getElem?_eq_getElem h1]; rfl
  conv => rhs; rw [e]
  rw [List.count_eq_countP, List.countP_map, List.countP_eq_length_filter];congr 1
 rw [← h1];have h2 := nodup_len set (nI ((List.range n).filter fun v => decide (ofN o v = (m : Int)))) ?_ ?_
 ·rwa [nI_len] at h2
 ·exact srtd_nodup (List.Pairwise.sublist (List.Sublist.map _ (List.filter_sublist (l := List.range n))) (range_srtd n))
 intro x hx;obtain ⟨v, hv, rfl⟩ := List.mem_map.1 hx;rw [List.mem_filter, List.mem_range, decide_eq_true_eq] at hv;obtain ⟨u, hu, hc⟩ := hr v hv.1;have e : u = m := by omega
 subst e;exact hc.symm.mem hm
theorem OfI.end_ {L : List Ar} {set : List Int} {n : Nat} {o : List Int} (h : OfI L set n set.length 0 o) (hs : srtd set) (hin : ∀ x, x ∈ set → 0 ≤ x ∧ x < n) {k x : Nat} (hk : (k : Int) ∈ set) (hx : (x : Int) ∈ set) : (ofN o k = (k : Int) ∧ ofN o x = (k : Int)) ↔ (LeastC L set k ∧ Cmp L set k x) := by
 have hkn := (hin _ hk).2;have hxn := (hin _ hx).2
 have cl : ∀ m : Nat, m < n → (m : Int) ∈ set → LeastC L set m → ∀ u v : Nat, hgR L set u v → ofN o u = (m : Int) → ofN o v = (m : Int) := fun m h1 h2 h3 => by
  have hc := cnt_le h.len h.rch (srtd_nodup hs) hin h2;rcases h.prg m h1 h2 h3 with g | g | ⟨g, _⟩
  ·exact g
  ·omega
  omega
 have full : ∀ m : Nat, m < n → (m : Int) ∈ set → LeastC L set m → ∀ v, Cmp L set m v → ofN o v = (m : Int) := fun m h1 h2 h3 v hv => by
  induction hv with
  | base e => subst e; exact h.slf _ h1 h3
  | step _ hr ih => exact cl m h1 h2 h3 _ _ hr ih
 constructor
 ·rintro ⟨h1, h2⟩;obtain ⟨m, g1, g2⟩ := least_ex (L := L) (set := set) k;have hm := g1.mem hk;have := full m (by have := (hin _ hm).2; omega) hm g2 k g1.symm;have e : m = k := by omega
  subst e;refine ⟨g2, ?_⟩;obtain ⟨u, hu, hc⟩ := h.rch x (by omega);have e : u = m := by omega
  subst e;exact hc.symm
 rintro ⟨h1, h2⟩;exact ⟨full k (by omega) hk h1 k (Cmp.refl _ _ _), full k (by omega) hk h1 x h2⟩
theorem cmpL_mem {L : List Ar} {set : List Int} {n k : Nat} {x : Int} : x ∈ cmpL L set n k ↔ ∃ v : Nat, x = (v : Int) ∧ v < n ∧ Cmp L set k v := reaL_mem
structure GrI (L : List Ar) (set : List Int) (n : Nat) (H : List Int) (left : List Int) : Prop where
 srt : srtd H
 hin : ∀ x, x ∈ H → ∃ v : Nat, x = (v : Int) ∧ (v : Int) ∈ set ∧ LeastC L set v
 lft : ∀ x : Int, x ∈ left ↔ (x ∈ set ∧ ∀ h : Nat, (h : Int) ∈ H → ¬ Cmp L set h x.toNat)
 lsr : srtd left
 low : ∀ h x, h ∈ H → x ∈ left → h < x
theorem GrI.start {L : List Ar} {set : List Int} {n : Nat} (hs : srtd set) : GrI L set n [] set := ⟨List.Pairwise.nil, fun x h => (by cases h), fun x => (by simp), hs, fun h x q => (by cases q)⟩
theorem GrI.head {L : List Ar} {set : List Int} {n : Nat} {H left : List Int} (h : GrI L set n H left) (hin : ∀ x, x ∈ set → 0 ≤ x ∧ x < n) {k : Nat} {r : List Int} (hl : left = (k : Int) :: r) : (k : Int) ∈ set ∧ LeastC L set k := by
 have hk : (k : Int) ∈ left := by rw [hl]; exact List.mem_cons_self
 have hks := ((h.lft _).1 hk);refine ⟨hks.1, fun v hv => ?_⟩
 have hvl : (v : Int) ∈ left := (h.lft _).2 ⟨hv.mem hks.1, fun g hg hc => by
  rw [Int.toNat_natCast] at hc;refine hks.2 g hg ?_;rw [Int.toNat_natCast]
  exact hc.trans hv.symm⟩
 rw [hl] at hvl;have hsr := h.lsr;rw [hl] at hsr;rcases List.mem_cons.1 hvl with e | e
 ·omega
 have := (List.pairwise_cons.1 hsr).1 _ e;omega
theorem GrI.next {L : List Ar} {set : List Int} {n : Nat} {H left : List Int} (h : GrI L set n H left) (hin : ∀ x, x ∈ set → 0 ≤ x ∧ x < n) {k : Nat} {r : List Int} (hl : left = (k : Int) :: r) : GrI L set n (H ++ [(k : Int)]) (left.filter fun x => !decide (x ∈ cmpL L set n k)) := by
 obtain ⟨hks, hkl⟩ := h.head hin hl;have hkm : (k : Int) ∈ left := by rw [hl]; exact List.mem_cons_self
 have hx2 : ∀ x : Int, x ∈ set → (x ∈ cmpL L set n k ↔ Cmp L set k x.toNat) := fun x hx => by
  have hb := hin x hx;rw [cmpL_mem];constructor
  ·rintro ⟨v, rfl, _, hc⟩; rw [Int.toNat_natCast]; exact hc
  intro hc; exact ⟨x.toNat, by omega, by omega, hc⟩
 refine ⟨?_, ?_, fun x => ?_, List.Pairwise.sublist (List.filter_sublist) h.lsr, ?_⟩
 ·unfold srtd;rw [List.pairwise_append];refine ⟨h.srt, List.pairwise_singleton _ _, fun a ha b hb => ?_⟩;obtain rfl := List.mem_singleton.1 hb;exact h.low a _ ha hkm
 ·intro x hx;rcases List.mem_append.1 hx with q | q
  ·exact h.hin x q
  obtain rfl := List.mem_singleton.1 q;exact ⟨k, rfl, hks, hkl⟩
 ·rw [List.mem_filter, h.lft, Bool.not_eq_true', decide_eq_false_iff_not];constructor
  ·rintro ⟨⟨q1, q2⟩, q3⟩;refine ⟨q1, fun g hg hc => ?_⟩;rcases List.mem_append.1 hg with q | q
   ·exact q2 g q hc
   have e : g = k := by have := List.mem_singleton.1 q; omega
   subst e;exact q3 ((hx2 x q1).2 hc)
  rintro ⟨q1, q2⟩;exact ⟨⟨q1, fun g hg => q2 g (List.mem_append.2 (.inl hg))⟩, fun q => q2 k (List.mem_append.2 (.inr (List.mem_singleton.2 rfl))) ((hx2 x q1).1 q)⟩
 intro a x ha hx;have hx := (List.mem_filter.1 hx);rcases List.mem_append.1 ha with q | q
 ·exact h.low a x q hx.1
 obtain rfl := List.mem_singleton.1 q;have hsr := h.lsr;have hx1 := hx.1;rw [hl] at hsr hx1;rcases List.mem_cons.1 hx1 with e | e
 ·exfalso;subst e;have := hx.2;rw [Bool.not_eq_true', decide_eq_false_iff_not, hx2 _ hks, Int.toNat_natCast] at this;exact this (Cmp.refl _ _ _)
 exact (List.pairwise_cons.1 hsr).1 _ e
theorem GrI.end_ {L : List Ar} {set : List Int} {n : Nat} {H : List Int} (h : GrI L set n H []) (hs : srtd set) (hin : ∀ x, x ∈ set → 0 ≤ x ∧ x < n) : H.map (fun x => cmpL L set n x.toNat) = grpL L set n := by
 unfold grpL;congr 1;refine srtd_ext h.srt (List.Pairwise.sublist (List.filter_sublist) hs) fun x => ?_
 rw [List.mem_filter, leastB_iff];constructor
 ·intro hx;obtain ⟨v, rfl, h1, h2⟩ := h.hin x hx;exact ⟨h1, by rw [Int.toNat_natCast]; exact h2⟩
 rintro ⟨h1, h2⟩;have hb := hin x h1;have hn : ¬ x ∈ ([] : List Int) := fun q => by cases q
 rw [h.lft] at hn;have ⟨g, hg⟩ := Classical.not_forall.1 (fun q => hn ⟨h1, q⟩);have ⟨g1, g2⟩ := Classical.not_imp.1 hg;have g2 := Classical.not_not.1 g2;obtain ⟨v, e, _, hl⟩ := h.hin _ g1;have e : g = v := by omega
 subst e;have := least_uniq g2 hl h2;rw [show x = (g : Int) by omega];exact g1
structure BfC (L : List Ar) (set : List Int) (n k : Nat) (out : List Int) (at_ q : Nat) : Prop where
 nd : out.Nodup
 inn : ∀ x, x ∈ out → ∃ v : Nat, x = (v : Int) ∧ v < n ∧ Cmp L set k v
 bas : (k : Int) ∈ out
 al : at_ ≤ out.length
 cls : ∀ a, a ∈ L → (a.from_ ∈ out.take at_ → a.to_ ∈ set → a.to_ ∈ out) ∧ (a.to_ ∈ out.take at_ → a.from_ ∈ set → a.from_ ∈ out)
 cur : ∀ (h : at_ < out.length) i (hi : i < L.length), (2 * i < q → L[i].from_ = out[at_] → L[i].to_ ∈ set → L[i].to_ ∈ out) ∧ (2 * i + 1 < q → L[i].to_ = out[at_] → L[i].from_ ∈ set → L[i].from_ ∈ out)
theorem BfC.start {L : List Ar} {set : List Int} {n k : Nat} (hk : k < n) : BfC L set n k [(k : Int)] 0 0 := by
 refine ⟨by simp, fun x hx => ?_, by simp, Nat.zero_le _, fun a _ => ⟨fun h => by simp at h, fun h => by simp at h⟩, fun h i hi => ⟨fun h => absurd h (Nat.not_lt_zero _), fun h => absurd h (Nat.not_lt_zero _)⟩⟩;obtain rfl := List.mem_singleton.1 hx;exact ⟨k, rfl, hk, Cmp.refl _ _ _⟩
theorem BfC.len {L : List Ar} {set : List Int} {n k at_ q : Nat} {out : List Int} (h : BfC L set n k out at_ q) : out.length ≤ n := by
 have := nodup_len (nI (List.range n)) out h.nd (fun x hx => by obtain ⟨v, rfl, hv, _⟩ := h.inn x hx; exact List.mem_map.2 ⟨v, List.mem_range.2 hv, rfl⟩)
 rwa [nI_len, List.length_range] at this
def pX (a : Ar) (p : Nat) : Int := if p = 0 then a.from_ else a.to_
def pY (a : Ar) (p : Nat) : Int := if p = 0 then a.to_ else a.from_
theorem BfC.no {L : List Ar} {set : List Int} {n k at_ i p : Nat} {out : List Int} (h : BfC L set n k out at_ (2 * i + p)) (ha : at_ < out.length) (hi : i < L.length) (hp : p < 2) (hq : pX L[i] p = out[at_] → pY L[i] p ∈ set → pY L[i] p ∈ out) : BfC L set n k out at_ (2 * i + (p + 1)) := by
 refine ⟨h.nd, h.inn, h.bas, h.al, h.cls, fun h1 j hj => ?_⟩;have hc := h.cur h1 j hj;constructor
 ·intro g1 g2 g3
  by_cases e : 2 * j < 2 * i + p
  ·exact hc.1 e g2 g3
  have e1 : j = i := by omega
  have e2 : p = 0 := by omega
  subst e1; subst e2;exact hq g2 g3
 intro g1 g2 g3
 by_cases e : 2 * j + 1 < 2 * i + p
 ·exact hc.2 e g2 g3
 have e1 : j = i := by omega
 have e2 : p = 1 := by omega
 subst e1; subst e2;exact hq g2 g3
theorem BfC.yes {L : List Ar} {set : List Int} {n k at_ i p : Nat} {out : List Int} (h : BfC L set n k out at_ (2 * i + p)) (ha : at_ < out.length) (hi : i < L.length) (hp : p < 2) (hks : (k : Int) ∈ set) (hA : ArIn n L[i]) (h1 : pX L[i] p = out[at_]) (h2 : pY L[i] p ∈ set) (h3 : ¬ pY L[i] p ∈ out) : BfC L set n k (out ++ [pY L[i] p]) at_ (2 * i + (p + 1)) := by
 unfold ArIn at hA;have hget : (out ++ [pY L[i] p])[at_]'(by rw [List.length_append]; omega) = out[at_] := List.getElem_append_left ha;obtain ⟨u, hu, hun, hr⟩ := h.inn _ (List.getElem_mem ha);have hus := hr.mem hks;refine ⟨?_, fun x hx => ?_, List.mem_append.2 (.inl h.bas), by have := h.al; rw [List.length_append]; omega, fun a ham => ?_, fun g0 j hj => ?_⟩
 ·rw [List.nodup_append];refine ⟨h.nd, by simp, fun a ha b hb => ?_⟩;rw [List.mem_singleton] at hb;rintro rfl;exact h3 (hb ▸ ha)
 ·rcases List.mem_append.1 hx with g | g
  ·exact h.inn x g
  rw [List.mem_singleton] at g;rw [hu] at h1;have hb : 0 ≤ pY L[i] p ∧ pY L[i] p < n := by unfold pY; split <;> omega
  refine ⟨(pY L[i] p).toNat, by omega, by omega, .step hr ⟨⟨hus, by rw [Int.toNat_of_nonneg hb.1]; exact h2⟩, L[i], List.getElem_mem hi, ?_⟩⟩
  by_cases e : p = 0
  ·subst e;have e1 : L[i].from_ = (u : Int) := h1;have e2 : pY L[i] 0 = L[i].to_ := rfl;exact .inl ⟨e1, by omega⟩
  have e0 : p = 1 := by omega
  subst e0;have e1 : L[i].to_ = (u : Int) := h1;have e2 : pY L[i] 1 = L[i].from_ := rfl;exact .inr ⟨by omega, e1⟩
 ·rw [List.take_append_of_le_length (by omega)];have := h.cls a ham;exact ⟨fun q1 q2 => List.mem_append.2 (.inl (this.1 q1 q2)), fun q1 q2 => List.mem_append.2 (.inl (this.2 q1 q2))⟩
 rw [hget];have hc := h.cur ha j hj;constructor
 ·intro g1 g2 g3
  by_cases e : 2 * j < 2 * i + p
  ·exact List.mem_append.2 (.inl (hc.1 e g2 g3))
  have e1 : j = i := by omega
  have e2 : p = 0 := by omega
  subst e1; subst e2;exact List.mem_append.2 (.inr (List.mem_singleton.2 rfl))
 intro g1 g2 g3
 by_cases e : 2 * j + 1 < 2 * i + p
 ·exact List.mem_append.2 (.inl (hc.2 e g2 g3))
 have e1 : j = i := by omega
 have e2 : p = 1 := by omega
 subst e1; subst e2;exact List.mem_append.2 (.inr (List.mem_singleton.2 rfl))
theorem BfC.next {L : List Ar} {set : List Int} {n k at_ : Nat} {out : List Int} {q : Nat} (h : BfC L set n k out at_ q) (ha : at_ < out.length) (hq : 2 * L.length ≤ q) : BfC L set n k out (at_ + 1) 0 := by
 refine ⟨h.nd, h.inn, h.bas, ha, fun a ham => ?_, fun h1 j hj => ⟨fun g => absurd g (Nat.not_lt_zero _), fun g => absurd g (Nat.not_lt_zero _)⟩⟩;obtain ⟨i, hi, rfl⟩ := List.getElem_of_mem ham;rw [List.take_add_one, List.getElem?_eq_getElem ha, List.mem_append, List.mem_append];have hc := h.cls _ ham;have hd := h.cur ha i hi;constructor
 ·rintro (g | g) g2
  ·exact hc.1 g g2
  exact hd.1 (by omega) (by simpa using g) g2
 rintro (g | g) g2
 ·exact hc.2 g g2
 exact hd.2 (by omega) (by simpa using g) g2
theorem BfC.end_ {L : List Ar} {set : List Int} {n k : Nat} {out : List Int} (h : BfC L set n k out out.length 0) : setP out = cmpL L set n k ∧ (setP out).length = out.length := by
 have hs := setP_srtd out;constructor
 ·refine reaL_eq hs.1 (fun x hx => h.inn x ((hs.2 x).1 hx)) (fun v hv => by subst hv; exact (hs.2 _).2 h.bas) fun u v hu ⟨⟨h1, h2⟩, a, ha, hq⟩ => ?_
  rw [hs.2] at hu ⊢;have hc := h.cls a ha;rw [List.take_length] at hc;rcases hq with ⟨e1, e2⟩ | ⟨e1, e2⟩
  ·rw [e1, e2] at hc; exact hc.1 hu h2
  rw [e1, e2] at hc; exact hc.2 hu h2
 refine Nat.le_antisymm ?_ ?_
 ·exact nodup_len _ _ (srtd_nodup hs.1) fun x hx => (hs.2 x).1 hx
 exact nodup_len _ _ h.nd fun x hx => (hs.2 x).2 hx
def exFT (c : SG) (x : Lab) (j : Nat) : List Int := ((c.arcs.take j).filter (isLb x)).map Ar.from_
def exFL (c : SG) (x : Lab) : List Int := setP (exFT c x c.arcs.length)
theorem exFT_succ {c : SG} {x : Lab} {j : Nat} (hj : j < c.arcs.length) : exFT c x (j + 1) = exFT c x j ++ (if isLb x c.arcs[j] = true then [c.arcs[j].from_] else []) := by
 unfold exFT;rw [filter_snoc _ hj, List.map_append];congr 1
 split <;> rfl
theorem exFT_len (c : SG) (x : Lab) (j : Nat) : (exFT c x j).length ≤ j := by
 unfold exFT;rw [List.length_map];have := List.length_filter_le (isLb x) (c.arcs.take j);rw [List.length_take] at this;omega
theorem exFL_mem {c : SG} {x : Lab} {t : Int} : t ∈ exFL c x ↔ ∃ a, a ∈ c.arcs ∧ isLb x a = true ∧ a.from_ = t := by
 unfold exFL exFT;rw [(setP_srtd _).2, List.take_length, List.mem_map];constructor
 ·rintro ⟨a, ha, rfl⟩;rw [List.mem_filter] at ha;exact ⟨a, ha.1, ha.2, rfl⟩
 rintro ⟨a, h1, h2, rfl⟩;exact ⟨a, List.mem_filter.2 ⟨h1, h2⟩, rfl⟩
theorem exFL_len (c : SG) (x : Lab) : (exFL c x).length ≤ c.arcs.length := Nat.le_trans (setP_len _) (exFT_len c x _)
theorem any_sd (l : List Int) (n : Int) : (l.any fun x => decide (n = x)) = sdB l n := by
 unfold sdB;rw [Bool.eq_iff_iff, List.any_eq_true, decide_eq_true_eq];exact ⟨fun ⟨x, h1, h2⟩ => by rw [of_decide_eq_true h2]; exact h1, fun h => ⟨_, h, decide_eq_true rfl⟩⟩
theorem ContainsB_spec (l : List Int) (hl : l.length ≤ 2000000) (n : Int) : ASpec Tryz.prog 84 [.d (vI l), aI n] [] (Pure1 (aT (sdB l n))) := by
 have := Contains_spec l hl n
 rwa [any_sd] at this
structure ChO (L : List Ar) (q : Ar → Bool) (S : Nat → Prop) (n : Nat) (W : List Bool) (ch : Bool) : Prop where
 len : W.length = n
 inn : ∀ v, vW W v = true → Rch (ArR L q) S v
 bas : ∀ v, S v → vW W v = true
 fin : ch = false → W = (List.range n).map (rchB (ArR L q) S)
theorem ChO.start {L : List Ar} {q : Ar → Bool} {S : Nat → Prop} {n : Nat} {W : List Bool} {ch : Bool} (h : ChO L q S n W ch) : ChW L q S n (cnT W) 0 W false := ⟨h.len, h.inn, h.bas, .inr ⟨rfl, rfl, fun i _ hi => absurd hi (Nat.not_lt_zero _)⟩⟩
theorem ChW.out {L : List Ar} {q : Ar → Bool} {S : Nat → Prop} {n u j : Nat} {W : List Bool} {ch : Bool} (h : ChW L q S n u j W ch) (hj : j = L.length) : ChO L q S n W ch ∧ (ch = true → u < cnT W) ∧ (ch = false → u = cnT W) := by
 refine ⟨⟨h.len, h.inn, h.bas, fun e => ?_⟩, fun e => ?_, fun e => ?_⟩
 ·subst e; exact h.end_ hj
 ·rcases h.prg with g | g
  ·exact g.2
  rw [e] at g; cases g.1
 rcases h.prg with g | g
 ·rw [e] at g; cases g.1
 exact g.2.1
theorem sigQ_of {c : SG} {g : Int} (h : sigQ c g = true) : validC c = true ∧ 0 ≤ g ∧ g < c.sigs.length := by
 unfold sigQ at h;simp only [Bool.and_eq_true, decide_eq_true_eq] at h;exact ⟨h.1, h.2.1, by omega⟩
theorem l10Is_spec (a : Ar) (g : Int) (u : Bool) : ASpec Tryz.prog 61 [arA a, aI g, aT u] [] (Pure1 (aT (isLb ⟨g, u⟩ a))) := by
 have hR : isLb ⟨g, u⟩ a = (decide (a.sig = g) && (a.up == u)) := by unfold isLb; dsimp only; cases a.up <;> cases u <;> rfl
 rw [hR];obtain ⟨b, hb⟩ := eqx ((a.up == u));refine ASpec.of Tryz.func61 rfl rfl fun C hC => ?_
 refine AC.seq (AC.region ?_);refine kD ?_;refine za ?_;refine AL.nil (th_n (AC.seq (AC.region ?_)));refine zf ?_;refine zr ?_;refine zm ?_;refine zc ?_;refine zm ?_;refine AL.caseG rfl rfl (fun h0 => ?_) (fun h0 => ?_)
 ·refine zy ?_;refine zf ?_;refine zy ?_;refine zr ?_;refine zy ?_;refine zm ?_;refine zy ?_;refine AL.p (by exact g_eqB rfl rfl rfl) rfl ?_;refine zQ ?_;refine za ?_;refine AL.nil (th_n (AC.ret (bq_r ?_)))
  (have q := ‹a.sig = g›; exact ret1 rfl (by rw [decide_eq_true q]; rfl))
 refine zn ?_;refine zn ?_;refine zn ?_;refine zn ?_;refine zP ?_;refine za ?_;refine AL.nil (th_n (AC.ret (bq_r ?_)))
 (have q := ‹¬ a.sig = g›; exact ret1 rfl (by rw [decide_eq_false q]; rfl))
theorem en_l10Is : Enters Tryz.prog 61 := enters_of Tryz.func61 rfl rfl
theorem hasI_dec (l : List Int) (n : Int) : hasI l n = sdB l n := by
 unfold hasI sdB;rw [Bool.eq_iff_iff, List.any_eq_true, decide_eq_true_eq];exact ⟨fun ⟨x, h1, h2⟩ => by rw [← of_decide_eq_true h2]; exact h1, fun h => ⟨_, h, decide_eq_true rfl⟩⟩
theorem putF_len : ∀ (l a : List Int), (l.foldl putI a).length ≤ a.length + l.length
 | [], a => by simp
 | x :: l, a => by
  have := putF_len l (putI a x);have := putI_len a x;rw [List.foldl_cons, List.length_cons];omega
theorem l10Asked_spec (c : SG) (g : Int) (hc : SgL c) : ASpec Tryz.prog 58 [sgA c, aI g] [] (Pure1 (aT (sigQ c g))) := by
 have hV := l5Good_spec c hc;have hI := l1In_spec g 0 ((c.sigs.length : Int) - 1);have hn := hc.sg;have hR : sigQ c g = (validC c && (decide (0 ≤ g) && decide (g ≤ (c.sigs.length : Int) - 1))) := rfl;obtain ⟨b, hb⟩ := eqx (validC c);rw [← hb] at hV hR;obtain ⟨d, hd⟩ := eqx ((decide (0 ≤ g) && decide (g ≤ (c.sigs.length : Int) - 1)));rw [← hd] at hI hR;rw [hR];clear hR hb hd;refine ASpec.of Tryz.func58 rfl rfl fun C hC => ?_
 refine AC.seq (AC.region ?_);refine kD ?_;refine za ?_;refine AL.nil (th_n (AC.seq (AC.region ?_)));refine kG ?_;refine kV en_l5Good hV ?_;refine zm ?_;refine AL.caseGB rfl rfl (fun h0 => ?_) (fun h0 => ?_)
 ·refine zy ?_;refine zm ?_;refine zy ?_;refine zf ?_;refine zy ?_;refine zr ?_;refine zy ?_;refine kI c.sigs.length (List.length_map _) ?_;refine zy ?_;refine zA ?_;refine zy ?_;refine kV en_l1In hI ?_;refine zQ ?_;refine za ?_;refine AL.nil (th_n (AC.ret (bq_r ?_)))
  (have q := ‹b = true›; exact ret1 rfl (by rw [q, Bool.true_and]))
 refine zn ?_;refine zn ?_;refine zn ?_;refine zn ?_;refine zn ?_;refine zn ?_;refine zP ?_;refine za ?_;refine AL.nil (th_n (AC.ret (bq_r ?_)))
 (have q := ‹b = false›; exact ret1 rfl (by rw [q]; rfl))
theorem en_l10Asked : Enters Tryz.prog 58 := enters_of Tryz.func58 rfl rfl
def xgP (c : SG) (x : Lab) (j : Nat) : List Int := setP (exFT c x j)
theorem xgP_succ {c : SG} {x : Lab} {j : Nat} (hj : j < c.arcs.length) : xgP c x (j + 1) = if isLb x c.arcs[j] = true then putI (xgP c x j) c.arcs[j].from_ else xgP c x j := by
 unfold xgP;rw [exFT_succ hj]
 split
 ·unfold setP; rw [List.foldl_append]; rfl
 rw [List.append_nil]
theorem xgP_len (c : SG) (x : Lab) (j : Nat) : (xgP c x j).length ≤ j := Nat.le_trans (setP_len _) (exFT_len c x j)
set_option maxHeartbeats 4000000 in
theorem l10Excited_spec (c : SG) (g : Int) (u : Bool) (hl : c.arcs.length ≤ 1000000) : ASpec Tryz.prog 59 [sgA c, aI g, aT u] [] (Pure1 (.d (vI (exFL c ⟨g, u⟩)))) := by
 have hT := fun j (hj : j < c.arcs.length) => xgP_succ (x := ⟨g, u⟩) hj
 have hTl := xgP_len c ⟨g, u⟩;have ht0 : xgP c ⟨g, u⟩ 0 = [] := rfl;have hR : exFL c ⟨g, u⟩ = xgP c ⟨g, u⟩ c.arcs.length := rfl;rw [hR];obtain ⟨P, hP⟩ := eqx (xgP c ⟨g, u⟩);rw [← hP] at hT hTl ht0 ⊢;have hT : ∀ j (hj : j < c.arcs.length), P (j + 1) = if isLb ⟨g, u⟩ c.arcs[j] = true then putI (P j) c.arcs[j].from_ else P j := hT
 clear hP hR;refine ASpec.of Tryz.func59 rfl rfl fun C hC => ?_
 refine AC.seq (AC.region ?_);refine kD ?_;refine za ?_;refine AL.nil (th_n (AC.seq (AC.region ?_)));refine za ?_;refine AL.nil (th_n (AC.seq (AC.seq (AC.region ?_))));refine zf ?_;refine zr ?_;refine kI c.arcs.length (arL_len _) ?_;refine zm ?_;refine AL.nil (th_n (AC.block ?_));refine AC.loop (ι := Nat) (fun j => ⟨27, 300, [(1, aI g), (2, aT u), (7, .d (vI (P j))), (11, .d (vArs c.arcs)), (12, aI c.arcs.length), (13, aI j)], []⟩) (fun j => j ≤ c.arcs.length) (fun j => c.arcs.length - j) (0) ?_ (Nat.zero_le _) ?_
 ·exact Weak.ren _ [] hC rfl (by rw [ht0]; repeat (first | exact True.intro | refine And.intro ?_ ?_ | exact DLead.same | exact DLead.nil)) (by repeat (exact True.intro)) rfl rfl rfl
 intro j hj;refine AC.seq (AC.region ?_);refine zc ?_;refine AL.nil (th_n (AC.seq ?_));refine AC.condD rfl (fun h0 => ?_) (fun h0 => ?_)
 ·refine AC.skip (th_n (AC.seq (AC.block (AC.seq ?_))));have hj1 : j < c.arcs.length := by omega
  have hget := arL_get hj1;have hTj := hT j hj1;have hTlj := hTl j;obtain ⟨a, ha⟩ := eqx (c.arcs[j]);rw [← ha] at hget hTj;clear ha;have hLs := l10Is_spec a g u;obtain ⟨b, hb⟩ := eqx (isLb ⟨g, u⟩ a);rw [← hb] at hLs hTj;clear hb;obtain ⟨X, hX⟩ := eqx (P j);rw [← hX] at hTj hTlj ⊢;clear hX;refine AC.region ?_;refine AL.p (by exact g_ia_view rfl rfl rfl rfl rfl (by rfl) (by assumption)) rfl ?_;refine kG ?_;refine kE ?_;refine zs ?_;refine AL.nil (th_n (AC.seq (AC.region ?_)));refine AL.p (by exact g_load_ptrN rfl rfl rfl rfl rfl) rfl ?_;refine zm ?_;refine zm ?_;refine kV en_l10Is hLs ?_;refine AL.nil (th_n ?_);refine AC.condB rfl (fun h1 => ?_) (fun h1 => ?_)
  ·refine AC.region ?_;refine zm ?_;refine zF ?_;refine zl ?_;refine AL.q (by exact h_pure en_l1Put rfl rfl (by repeat (first | exact rfl | exact DLead.same | refine ⟨_, _, rfl, ?_, ?_⟩)) (l1Put_spec X a.from_ (by omega)) rfl) rfl ?_;refine za ?_;refine AL.nil (ib_n (th_n (AC.region ?_)));refine zA ?_;refine zm ?_;refine AL.nil (th_n ?_)
   (have q := ‹b = true›; rw [if_pos q] at hTj; exact ⟨j + 1, by omega, by omega, Weak.ren _ [] hC rfl (by rw [hTj]; repeat (first | exact True.intro | refine And.intro ?_ ?_ | exact DLead.same)) (by repeat (exact True.intro)) rfl rfl rfl⟩)
  refine AC.skip (ib_n (th_n (AC.region ?_)));refine zA ?_;refine zm ?_;refine AL.nil (th_n ?_)
  (have q := ‹b = false›; rw [if_neg (by rw [q]; decide)] at hTj; exact ⟨j + 1, by omega, by omega, Weak.ren _ [] hC rfl (by rw [hTj]; repeat (first | exact True.intro | refine And.intro ?_ ?_ | exact DLead.same)) (by repeat (exact True.intro)) rfl rfl rfl⟩)
 refine AC.exit (th_e (th_e (ib_y (th_n (AC.seq ?_)))));have hjj : j = c.arcs.length := by omega
 rw [hjj];refine AC.region ?_;refine zm ?_;refine za ?_;refine AL.nil (th_n (AC.ret (bq_r ?_)));exact ret1 rfl rfl
theorem en_l10Excited : Enters Tryz.prog 59 := enters_of Tryz.func59 rfl rfl
def BdI (M : Int) (l : List Int) : Prop := ∀ v, 0 ≤ l.getD v 0 ∧ l.getD v 0 ≤ M
theorem BdI.set {M : Int} {l : List Int} (h : BdI M l) (i : Nat) {x : Int} (hx : 0 ≤ x ∧ x ≤ M) : BdI M (l.set i x) := fun v => by
 rw [iget_set]; split
 ·exact hx
 exact h v
theorem BdI.zero {M : Int} (hM : 0 ≤ M) (n : Nat) : BdI M (List.replicate n 0) := fun v => by rw [iget_rep]; exact ⟨Int.le_refl _, hM⟩
theorem cutM_in {M a : Int} (hM : 0 ≤ M) (ha : 0 ≤ a) : 0 ≤ cutM M a ∧ cutM M a ≤ M := by unfold cutM; split <;> omega
theorem BdI.add {M : Int} (hM : 0 ≤ M) {now : List Int} (hn : BdI M now) : ∀ (L : List Mv) {a : List Int}, BdI M a → BdI M (addC M now L a)
 | [], a, h => h
 | v :: L, a, h => by
  rw [addC];exact BdI.add hM hn L (h.set _ (cutM_in hM (by have := h v.to_.toNat; have := hn v.from_.toNat; omega)))
theorem BdI.cnt {M : Int} (hM : 1 ≤ M) (L : List Mv) (n : Nat) : ∀ k, BdI M (cntC M L n k)
 | 0 => (BdI.zero (by omega) n).set 0 ⟨by decide, hM⟩
 | k + 1 => (BdI.cnt hM L n k).add (by omega) L (BdI.zero (by omega) n)
def crV (s u : Bool) : Int := if (s == u) = true then 0 else if u = true then 1 else 2
theorem l10Cross_spec (a : Ar) (l : List Int) (hl : l.length ≤ 1000000) : ASpec Tryz.prog 80 [arA a, .d (vI l)] [] (Pure1 (aI (crV (sdB l a.from_) (sdB l a.to_)))) := by
 have h1 := l1Has_spec l a.from_ hl;have h2 := l1Has_spec l a.to_ hl;rw [hasI_dec] at h1 h2;obtain ⟨s, hs⟩ := eqx (sdB l a.from_);obtain ⟨u, hu⟩ := eqx (sdB l a.to_);rw [← hs] at h1;rw [← hu] at h2;rw [← hs, ← hu];clear hs hu;have hH1 := h1;have hH2 := h2;clear h1 h2;refine ASpec.of Tryz.func80 rfl rfl fun C hC => ?_
 refine AC.seq (AC.region ?_);refine kD ?_;refine za ?_;refine AL.nil (th_n (AC.seq (AC.block (AC.seq (AC.region ?_)))));refine zm ?_;refine zf ?_;refine zr ?_;refine kV en_l1Has hH1 ?_;refine kC ?_;refine zm ?_;refine AL.caseGB rfl rfl (fun h0 => ?_) (fun h0 => ?_)
 ·refine zy ?_;refine zm ?_;refine zy ?_;refine zf ?_;refine zy ?_;refine zr ?_;refine zy ?_;refine kV en_l1Has hH2 ?_;refine zQ ?_;refine za ?_;refine AL.nil (th_n ?_);refine AC.condB rfl (fun h1 => ?_) (fun h1 => ?_)
  ·refine AC.seq (AC.region ?_);refine za ?_;refine AL.nil (th_n (AC.ret (ib_r (th_r (bq_r ?_)))));clear hH1 hH2;cases s <;> cases u <;> first | exact ret1 rfl rfl | (exfalso; exact absurd ‹(!true) = true› (by decide))
  refine AC.seq (AC.region ?_);refine zm ?_;refine zf ?_;refine zr ?_;refine kV en_l1Has hH1 ?_;refine zm ?_;refine AL.caseGB rfl rfl (fun h2 => ?_) (fun h2 => ?_)
  ·refine zy ?_;refine zm ?_;refine zy ?_;refine zf ?_;refine zy ?_;refine zr ?_;refine zy ?_;refine kV en_l1Has hH2 ?_;refine zy ?_;refine kC ?_;refine zQ ?_;refine za ?_;refine AL.nil (th_n ?_);refine AC.condB rfl (fun h3 => ?_) (fun h3 => ?_)
   ·refine AC.seq (AC.region ?_);refine za ?_;refine AL.nil (th_n (AC.ret (ib_r (th_r (bq_r ?_)))));clear hH1 hH2;cases s <;> cases u <;> first | exact ret1 rfl rfl | (exfalso; exact absurd ‹(!true) = true› (by decide))
   refine AC.skip (ib_n (th_n (AC.seq (AC.region ?_))));refine za ?_;refine AL.nil (th_n (AC.ret (bq_r ?_)));clear hH1 hH2;cases s <;> cases u <;> first | exact ret1 rfl rfl | (exfalso; exact absurd ‹(!true) = true› (by decide))
  refine zn ?_;refine zn ?_;refine zn ?_;refine zn ?_;refine zn ?_;refine zP ?_;refine za ?_;refine AL.nil (th_n ?_);refine AC.condF rfl ?_;refine AC.skip (ib_n (th_n (AC.seq (AC.region ?_))));refine za ?_;refine AL.nil (th_n (AC.ret (bq_r ?_)));clear hH1 hH2;cases s <;> cases u <;> first | exact ret1 rfl rfl | (exfalso; first | exact absurd ‹(!true) = true› (by decide) | exact absurd ‹(!false) = false› (by decide))
 refine zn ?_;refine zn ?_;refine zn ?_;refine zn ?_;refine zP ?_;refine za ?_;refine AL.nil (th_n ?_);refine AC.condF rfl ?_;refine AC.seq (AC.region ?_);refine zm ?_;refine zf ?_;refine zr ?_;refine kV en_l1Has hH1 ?_;refine zm ?_;refine AL.caseGB rfl rfl (fun h1 => ?_) (fun h1 => ?_)
 ·refine zy ?_;refine zm ?_;refine zy ?_;refine zf ?_;refine zy ?_;refine zr ?_;refine zy ?_;refine kV en_l1Has hH2 ?_;refine zy ?_;refine kC ?_;refine zQ ?_;refine za ?_;refine AL.nil (th_n ?_);refine AC.condB rfl (fun h2 => ?_) (fun h2 => ?_)
  ·refine AC.seq (AC.region ?_);refine za ?_;refine AL.nil (th_n (AC.ret (ib_r (th_r (bq_r ?_)))));clear hH1 hH2;cases s <;> cases u <;> first | exact ret1 rfl rfl | (exfalso; exact absurd ‹(!true) = true› (by decide))
  refine AC.skip (ib_n (th_n (AC.seq (AC.region ?_))));refine za ?_;refine AL.nil (th_n (AC.ret (bq_r ?_)));clear hH1 hH2;cases s <;> cases u <;> first | exact ret1 rfl rfl | (exfalso; first | exact absurd ‹(!true) = true› (by decide) | exact absurd ‹(!false) = false› (by decide))
 refine zn ?_;refine zn ?_;refine zn ?_;refine zn ?_;refine zn ?_;refine zP ?_;refine za ?_;refine AL.nil (th_n ?_);refine AC.condF rfl ?_;refine AC.skip (ib_n (th_n (AC.seq (AC.region ?_))));refine za ?_;refine AL.nil (th_n (AC.ret (bq_r ?_)));clear hH1 hH2;cases s <;> cases u <;> first | exact ret1 rfl rfl | (exfalso; exact absurd ‹(!false) = false› (by decide))
theorem en_l10Cross : Enters Tryz.prog 80 := enters_of Tryz.func80 rfl rfl
theorem qSameN_eq (a : List Int) (ha : a.length ≤ 1000000) : ASpec Tryz.prog 18 [.d (vI a), .d (vI a)] [] (Pure1 (aT true)) := by
 refine ASpec.of Tryz.func18 rfl rfl fun C hC => ?_
 refine AC.seq (AC.region ?_);refine za ?_;refine AL.nil (th_n (AC.seq (AC.seq (AC.region ?_))));refine zm ?_;refine kH ?_;refine zm ?_;refine kH ?_;refine AL.p (by exact g_neIr rfl rfl rfl) rfl ?_;refine AL.nil (th_n ?_);refine AC.condF rfl ?_;refine AC.skip (th_n (AC.seq (AC.seq (AC.region ?_))));refine zm ?_;refine kH ?_;refine zm ?_;refine AL.nil (th_n (AC.block ?_));refine AC.loop (ι := Nat) (fun k => ⟨26, 0, [(0, .d (vI a)), (1, .d (vI a)), (12, aI a.length), (13, aI k)], []⟩) (fun k => k ≤ a.length) (fun k => a.length - k) (0) ?_ (Nat.zero_le _) ?_
 ·refine Weak.ren _ [] hC rfl ?_ ?_ rfl rfl rfl <;> repeat (first | exact True.intro | refine And.intro ?_ ?_ | exact DLead.same)
 intro k hk;refine AC.seq (AC.region ?_);refine zc ?_;refine AL.nil (th_n (AC.seq ?_));refine AC.condD rfl (fun h0 => ?_) (fun h0 => ?_)
 ·refine AC.skip (th_n (AC.seq (AC.block (AC.seq ?_))));have hk1 : k < a.length := by omega
  have hget : (ints a)[k]? = some [dI (a.getD k 0)] := ints_get hk1;refine AC.region ?_;refine zm ?_;refine za ?_;refine AL.nil (th_n (AC.seq ?_));refine AC.drawn' mixed_ok [[], [], [0,1], [0,1,2], [], [], [4,5], [4,5,6], [0,1,2,3,4,5,6,7]] (by decide) ?_;refine zd 0 [] 9 (by exact mv1 rfl) ?_;refine zd 1 [] 9 (by exact mv1 rfl) ?_;refine zd 2 [0,1] 9 (by exact g_ia_view rfl rfl rfl rfl rfl (by rfl) (by assumption)) ?_;refine zd 3 [0,1,2] 9 (by exact g_load_ref rfl rfl rfl) ?_;refine zd 4 [] 9 (by exact mv1 rfl) ?_;refine zd 5 [] 9 (by exact mv1 rfl) ?_;refine zd 6 [4,5] 9 (by exact g_ia_view rfl rfl rfl rfl rfl (by rfl) (by assumption)) ?_;refine zd 7 [4,5,6] 9 (by exact g_load_ref rfl rfl rfl) ?_;refine zd 8 [0,1,2,3,4,5,6,7] 9 (by exact g_neIr rfl rfl rfl) ?_;refine zj 9 ?_;refine th_n ?_;refine AC.condF rfl ?_;refine AC.skip (ib_n (th_n (AC.region ?_)));refine zA ?_;refine zm ?_;refine AL.nil (th_n ?_);exact ⟨k + 1, by omega, by omega, Weak.ren _ [] hC rfl (by repeat (first | exact True.intro | refine And.intro ?_ ?_ | exact DLead.same)) (by repeat (exact True.intro)) rfl rfl rfl⟩
 refine AC.exit (th_e (th_e (ib_y (th_n (AC.seq (AC.region ?_))))));refine za ?_;refine AL.nil (th_n (AC.ret (bq_r ?_)));exact ret1 rfl rfl
theorem en_qSameN : Enters Tryz.prog 18 := enters_of Tryz.func18 rfl rfl
section
variable {P : Program} [PT P] {s : ASt} {dst : Option Nat} {ty : Nat} {pos : String} {af : Array Edge} {gd : Option (Nat × Bool)} {x y : Operand} {xt yt : Nat}
end
def SgNB : AV → List (Nat × Chunk) → Prop := fun r chs => ∃ (g : SG) (k : Int) (u : Bool), SgS 1 g ∧ r = .tup [sgA g, aI k, aT u] ∧ chs = []
theorem quo15 {u : Int} (h : 0 ≤ u ∧ u < 16) : IntKind.i64.wrap (u.tdiv 15) = u / 15 := by
 rw [Int.tdiv_eq_ediv_of_nonneg h.1];exact wrap_i64 (by omega)
set_option maxHeartbeats 4000000 in
theorem sDrawExS_spec (code : List UInt8) : ASpec Tryz.prog 7 [.d (vB code)] [] SgNB := by
 have hp0 : (cur0 code).pos = 0 := rfl;have hA := anyCoded_spec (cur0 code) (by omega);refine ASpec.of Tryz.func7 rfl rfl fun C hC => ?_
 refine AC.seq (AC.region ?_);refine kE ?_;refine za ?_;refine za ?_;refine AL.nil (th_n (AC.seq (AC.region ?_)));refine zm ?_;refine AL.p (by exact g_build rfl rfl rfl) rfl ?_;refine AL.q (by exact h_box rfl) rfl ?_;refine AL.p (by exact as3 rfl) rfl ?_;refine AL.nil (th_n (AC.seq (AC.region ?_)));refine AL.p (by exact mv3 rfl) rfl ?_;refine AL.r (by exact h_funR (cs := [8]) en_anyCoded rfl rfl (by repeat (first | exact rfl | refine ⟨_, _, rfl, ?_, ?_⟩ | refine ⟨_, rfl, ?_⟩)) (by repeat (first | exact True.intro | refine And.intro ?_ ?_ | exact DLead.same | exact rfl | refine ⟨_, _, rfl, rfl, ?_⟩ | refine ⟨_, rfl, ?_⟩ | refine ⟨_, _, rfl, ?_, ?_⟩)) hA rfl rfl rfl) rfl ?_;rintro _ ⟨_, _, ⟨x, c', ⟨hx, hc'⟩, rfl, rfl⟩, rfl⟩;refine kE ?_;refine zs ?_;refine AL.nil (th_n (AC.seq ?_));refine AC.weak (t := ⟨25, 300, [(2, .ptr 201 0), (5, .ptr 202 0), (6, .ptr 200 0)], [(201, some (.cells 27 zSG)), (202, some (curC c')), (200, some (.cells 27 (sgC x)))]⟩) (zw [(201, _), (202, _), (200, _)] hC) ?_;have hxn := hx.sg;have hK1 := pick_spec c' ((x.sigs.length : Int) + 1) (by omega) (by omega);have b1 := c'.pick_in ((x.sigs.length : Int) + 1) (by omega);have p1 := c'.pick_pos ((x.sigs.length : Int) + 1);obtain ⟨p, hp⟩ := eqx (c'.pick ((x.sigs.length : Int) + 1));rw [← hp] at hK1 b1 p1;have hK2 := pick_spec p.2 16 (by decide) (by omega);have b2 := p.2.pick_in 16 (by decide);have p2 := p.2.pick_pos 16;obtain ⟨q, hq⟩ := eqx (p.2.pick 16);rw [← hq] at hK2 b2 p2;have hq15 := quo15 b2;have hK3 := one_spec q.2 2 (by decide) (by omega);obtain ⟨r, hr⟩ := eqx (q.2.pick 2);rw [← hr] at hK3;obtain ⟨v, hv⟩ := eqx (decide (r.1 = 0));rw [← hv] at hK3;clear hp hq hr hv;refine AC.drawn' mixed_ok [[], [], [], [2], [2,3], [2,3,4], [1,2,3,4,5], [], [1,2,3,4,5,6,7], [1,2,3,4,5,6,7,8], [1,2,3,4,5,6,7,8,9], [], [1,2,3,4,5,6,7,8,11], [0,1,2,3,4,5,6,7,8,11,12], [0,1,2,3,4,5,6,7,8,9,10,11,12,13], [0,1,2,3,4,5,6,7,8,9,10,11,12,13,14]] (by decide) ?_;refine zd 0 [] 16 (by exact g_load_ptrN rfl rfl rfl rfl rfl) ?_;refine zd 1 [] 16 (by exact mv3 rfl) ?_;refine zd 2 [] 16 (by exact g_fa_ptr rfl rfl rfl rfl rfl) ?_;refine zd 3 [2] 16 (by exact g_load_ptr rfl rfl rfl rfl rfl) ?_;refine zd 4 [2,3] 16 (by exact g_len_view (k := x.sigs.length) rfl rfl (List.length_map _)) ?_;refine zd 5 [2,3,4] 16 (by exact g_arith rfl rfl rfl (by exact wrap_i64 (by omega))) ?_;refine zh 6 [1,2,3,4,5] 16 (by exact h_fun (cs := [202]) en_pick rfl rfl (by repeat (first | exact rfl | exact DLead.same | refine ⟨_, _, rfl, ?_, ?_⟩ | refine ⟨_, rfl, ?_⟩)) (by repeat (first | exact True.intro | refine And.intro ?_ ?_ | exact DLead.same | exact rfl | refine ⟨_, _, rfl, rfl, ?_⟩ | refine ⟨_, rfl, ?_⟩ | refine ⟨_, _, rfl, ?_, ?_⟩)) hK1 rfl rfl rfl rfl) ?_;refine zd 7 [] 16 (by exact mv3 rfl) ?_;refine zh 8 [1,2,3,4,5,6,7] 16 (by exact h_fun (cs := [202]) en_pick rfl rfl (by repeat (first | exact rfl | exact DLead.same | refine ⟨_, _, rfl, ?_, ?_⟩ | refine ⟨_, rfl, ?_⟩)) (by repeat (first | exact True.intro | refine And.intro ?_ ?_ | exact DLead.same | exact rfl | refine ⟨_, _, rfl, rfl, ?_⟩ | refine ⟨_, rfl, ?_⟩ | refine ⟨_, _, rfl, ?_, ?_⟩)) hK2 rfl rfl rfl rfl) ?_;refine zd 9 [1,2,3,4,5,6,7,8] 16 (by exact g_quo (c := q.1 / 15) rfl rfl (by decide) hq15) ?_;refine zd 10 [1,2,3,4,5,6,7,8,9] 16 (by exact g_arith rfl rfl rfl (by exact wrap_i64 (by omega))) ?_;refine zd 11 [] 16 (by exact mv3 rfl) ?_;refine zh 12 [1,2,3,4,5,6,7,8,11] 16 (by exact h_fun (cs := [202]) en_one rfl rfl (by repeat (first | exact rfl | exact DLead.same | refine ⟨_, _, rfl, ?_, ?_⟩ | refine ⟨_, rfl, ?_⟩)) (by repeat (first | exact True.intro | refine And.intro ?_ ?_ | exact DLead.same | exact rfl | refine ⟨_, _, rfl, rfl, ?_⟩ | refine ⟨_, rfl, ?_⟩ | refine ⟨_, _, rfl, ?_, ?_⟩)) hK3 rfl rfl rfl rfl) ?_;refine zh 13 [0,1,2,3,4,5,6,7,8,11,12] 16 (by exact h_store rfl rfl rfl rfl rfl rfl) ?_;refine zd 14 (List.range 14) 16 (by exact as1 rfl) ?_
 refine zd 15 (List.range 15) 16 (by exact as1 rfl) ?_;refine zj 16 ?_;refine th_n (AC.ret (bq_r ?_));exact retX [] rfl ⟨x, p.1 - q.1 / 15, v, hx, rfl, rfl⟩ (by repeat (first | exact DLead.same | exact rfl | refine ⟨_, rfl, ?_⟩ | refine ⟨_, _, rfl, ?_, ?_⟩)) (by repeat (exact True.intro)) rfl rfl
theorem en_sDrawExS : Enters Tryz.prog 7 := enters_of Tryz.func7 rfl rfl
theorem andNot_eq {n : Nat} (x y : BitVec n) : x &&& ~~~y = x ^^^ (x &&& y) := by
 ext i hi
 simp only [BitVec.getElem_and, BitVec.getElem_not, BitVec.getElem_xor];cases x[i] <;> cases y[i] <;> rfl
theorem bits_andNot {a b : Nat} (ha : a < 1048576) (hb : b < 1048576) : bitsOf .i64 .andNot (a : Int) (b : Int) = some ((a ^^^ (a &&& b) : Nat) : Int) := by
 have h : a ^^^ (a &&& b) < 2 ^ 20 := Nat.xor_lt_two_pow ha (Nat.and_lt_two_pow a hb);simp only [bitsOf, andNot_eq, BitVec.toNat_xor, BitVec.toNat_and, ofI64 ha, ofI64 hb];exact congrArg some (wrap_i64 (by omega))
theorem andNot_lt {a b : Nat} (ha : a < 65536) (hb : b < 65536) : a ^^^ (a &&& b) < 65536 := Nat.xor_lt_two_pow (n := 16) ha (Nat.and_lt_two_pow a hb)
theorem andNot_low {a b g : Nat} : (((a ^^^ (a &&& b)) >>> g) &&& 3 = 0) ↔ ((a.testBit g = true → b.testBit g = true) ∧ (a.testBit (g + 1) = true → b.testBit (g + 1) = true)) := by
 rw [low2, Nat.testBit_xor, Nat.testBit_and, Nat.testBit_xor, Nat.testBit_and];cases a.testBit g <;> cases b.testBit g <;> cases a.testBit (g + 1) <;> cases b.testBit (g + 1) <;> simp
def exU (c : SG) (g : Nat) (u : Bool) (k : Int) : Bool := c.arcs.any fun a => decide (a.from_ = k) && isLb ⟨(g : Int), u⟩ a
def disB (c : SG) (g : Nat) (a : Ar) : Bool := !decide (a.sig = (g : Int)) && ((exU c g false a.from_ && !exU c g false a.to_) || (exU c g true a.from_ && !exU c g true a.to_))
def disL (c : SG) (g : Nat) (j : Nat) : List Int := nI ((List.range j).filter fun i => disB c g (arAt c.arcs i))
noncomputable def disR (c : SG) (g : Int) : List Int × Bool := if sigQ c g = true then (disL c g.toNat c.arcs.length, true) else ([], false)
theorem exU_sd (c : SG) (g : Nat) (u : Bool) (k : Int) : sdB (exFL c ⟨(g : Int), u⟩) k = exU c g u k := by
 unfold sdB exU;rw [Bool.eq_iff_iff, decide_eq_true_eq, exFL_mem, List.any_eq_true];constructor
 ·rintro ⟨a, h1, h2, h3⟩;exact ⟨a, h1, by rw [Bool.and_eq_true, decide_eq_true_eq]; exact ⟨h3, h2⟩⟩
 rintro ⟨a, h1, h2⟩;rw [Bool.and_eq_true, decide_eq_true_eq] at h2;exact ⟨a, h1, h2.2, h2.1⟩
theorem msk_u (c : SG) (k : Int) (g : Nat) (u : Bool) : (mskN c.arcs k).testBit (2 * g + (bif u then 1 else 0)) = exU c g u k := by
 unfold mskN exU;rw [msk_bit, Nat.zero_testBit, Bool.false_or];congr 1
 funext a
 unfold isLb;dsimp only;rw [Bool.eq_iff_iff];simp only [Bool.and_eq_true, decide_eq_true_eq];constructor
 ·rintro ⟨⟨h1, h2⟩, h3⟩;refine ⟨h2, ?_, ?_⟩
  ·cases hu : a.up <;> cases u <;> rw [hu] at h3 <;> simp only [cond_true, cond_false] at h3 <;> omega
  cases hu : a.up <;> cases u <;> rw [hu] at h3 <;> simp only [cond_true, cond_false] at h3 <;> omega
 rintro ⟨h1, h2, h3⟩;exact ⟨⟨by omega, h1⟩, by rw [h3, h2, Int.toNat_natCast]⟩
theorem dis_msk (c : SG) (g : Nat) (f t : Int) : decide ((((mskN c.arcs f ^^^ (mskN c.arcs f &&& mskN c.arcs t)) >>> (2 * g) &&& 3 : Nat) : Int) = 0) = !((exU c g false f && !exU c g false t) || (exU c g true f && !exU c g true t)) := by
 have h := andNot_low (a := mskN c.arcs f) (b := mskN c.arcs t) (g := 2 * g);have u0 := fun k => msk_u c k g false
 have u1 := fun k => msk_u c k g true
 simp only [cond_false, Nat.add_zero] at u0;simp only [cond_true] at u1;rw [u0, u0, u1, u1] at h;have e : decide ((((mskN c.arcs f ^^^ (mskN c.arcs f &&& mskN c.arcs t)) >>> (2 * g) &&& 3 : Nat) : Int) = 0) = decide ((mskN c.arcs f ^^^ (mskN c.arcs f &&& mskN c.arcs t)) >>> (2 * g) &&& 3 = 0) := decide_eq_decide.2 ⟨fun h => by omega, fun h => by omega⟩;rw [e, Bool.eq_iff_iff, decide_eq_true_eq, h];generalize exU c g false f = a1;generalize exU c g false t = a2;generalize exU c g true f = a3;generalize exU c g true t = a4;cases a1 <;> cases a2 <;> cases a3 <;> cases a4 <;> simp
theorem disL_succ (c : SG) (g j : Nat) : disL c g (j + 1) = disL c g j ++ (if disB c g (arAt c.arcs j) = true then [(j : Int)] else []) := by
 unfold disL nI;rw [List.range_succ, List.filter_append, List.map_append];congr 1;cases h : disB c g (arAt c.arcs j) <;> simp [h]
theorem disL_len (c : SG) (g j : Nat) : (disL c g j).length ≤ j := by
 unfold disL;rw [nI_len];have := List.length_filter_le (fun i => disB c g (arAt c.arcs i)) (List.range j)
 rwa [List.length_range] at this
set_option maxHeartbeats 8000000 in
theorem disabling_spec (c : SG) (g : Nat) (hv : validC c = true) (hg : g < c.sigs.length) : ASpec Tryz.prog 92 [sgA c, aI g] [] (Pure1 (.d (vI (disL c g c.arcs.length)))) := by
 obtain ⟨hn, hal, hin, _⟩ := validC_at hv;obtain ⟨h8, _⟩ := sig_names hv;have hsg := fun a (ha : a ∈ c.arcs) => arc_sig hv ha
 have hM := labMasks_spec c (by omega) (by omega) hin (fun a ha => (hsg a ha).2.1);have hlt := mskN_lt (fun a ha => (hsg a ha).2.1);have hdm := dis_msk c g;have hS := disL_succ c g;have hSl := disL_len c g;have hS0 : disL c g 0 = [] := rfl;have hD : ∀ a, disB c g a = (!decide (a.sig = (g : Int)) && ((exU c g false a.from_ && !exU c g false a.to_) || (exU c g true a.from_ && !exU c g true a.to_))) := fun _ => rfl
 obtain ⟨A, hA⟩ := eqx (disL c g);rw [← hA] at hS hSl hS0 ⊢;clear hA;refine ASpec.of Tryz.func92 rfl rfl fun C hC => ?_
 refine AC.seq (AC.region ?_);refine kD ?_;refine za ?_;refine AL.nil (th_n (AC.seq (AC.region ?_)));refine AL.q (by exact h_lit rfl rfl rfl rfl rfl rfl rfl rfl) rfl ?_;refine kG ?_;refine kV en_labMasks hM ?_;refine AL.p (by exact as2 rfl) rfl ?_;refine za ?_;refine AL.nil (th_n (AC.seq (AC.seq (AC.region ?_))));refine zf ?_;refine zr ?_;refine kI c.arcs.length (arL_len _) ?_;refine zm ?_;refine AL.nil (th_n (AC.block ?_));refine AC.loop (ι := Nat) (fun j => ⟨48, 300, [(1, aI g), (2, .d (.ref (sgD c))), (5, .own 100 (A j).length), (6, .d (vI (mskF c.arcs c.codes.length))), (13, .d (vArs c.arcs)), (14, aI c.arcs.length), (15, aI j)], [(100, some (.arr 3 1 (ints (A j))))]⟩) (fun j => j ≤ c.arcs.length) (fun j => c.arcs.length - j) (0) ?_ (Nat.zero_le _) ?_
 ·exact zw [(100, _)] hC (by rw [hS0]; repeat (first | exact True.intro | refine And.intro ?_ ?_ | exact DLead.same | exact rfl | refine ⟨_, rfl, ?_⟩)) (by rw [hS0]; repeat (first | exact True.intro | refine And.intro ?_ ?_ | exact rfl | refine ⟨_, _, rfl, rfl, ?_⟩))
 intro j hj;refine AC.seq (AC.region ?_);refine zc ?_;refine AL.nil (th_n (AC.seq ?_));refine AC.condD rfl (fun h0 => ?_) (fun h0 => ?_)
 ·refine AC.skip (th_n (AC.seq (AC.block (AC.seq ?_))));have hj1 : j < c.arcs.length := by omega
  have hget := arL_get hj1;have hSj := hS j;have hSlj := hSl j;rw [arAt_nat hj1] at hSj;have hA1 := hin _ (List.getElem_mem hj1);unfold ArIn at hA1;obtain ⟨a, ha⟩ := eqx (c.arcs[j]);rw [← ha] at hget hSj hA1;clear ha;have hDa := hD a;have hdm1 := hdm a.from_ a.to_;obtain ⟨f, hf⟩ := eqx a.from_.toNat;obtain ⟨t, ht⟩ := eqx a.to_.toNat;have hfi : a.from_ = (f : Int) := by omega
  have hti : a.to_ = (t : Int) := by omega
  have hmf := mskF_get (L := c.arcs) (n := c.codes.length) (k := f) (by omega);have hmt := mskF_get (L := c.arcs) (n := c.codes.length) (k := t) (by omega);have hl1 := hlt a.from_;have hl2 := hlt a.to_;rw [hfi, hti] at hdm1;rw [hfi] at hl1;rw [hti] at hl2;obtain ⟨M1, e1⟩ := eqx (mskN c.arcs (f : Int));obtain ⟨M2, e2⟩ := eqx (mskN c.arcs (t : Int));rw [← e1] at hmf hl1 hdm1;rw [← e2] at hmt hl2 hdm1;have hX := andNot_lt hl1 hl2;rw [hDa, hfi, hti] at hSj;obtain ⟨X, hXe⟩ := eqx (M1 ^^^ (M1 &&& M2));have hsX := shr_le X (2 * g);rw [← hXe] at hX hdm1;obtain ⟨z, hz⟩ := eqx (((exU c g false (f : Int) && !exU c g false (t : Int)) || (exU c g true (f : Int) && !exU c g true (t : Int))));rw [← hz] at hdm1 hSj;have hzz : (!decide (((X >>> (2 * g) &&& 3 : Nat) : Int) = 0)) = z := by rw [hdm1, Bool.not_not]
  obtain ⟨s, hs⟩ : ∃ s, s = !decide (a.sig = (g : Int)) := ⟨_, rfl⟩;rw [← hs] at hSj;obtain ⟨T, hT⟩ := eqx (A j);rw [← hT] at hSj hSlj ⊢;obtain ⟨af, ag, au, at_⟩ := a;dsimp only at hfi hti hs;subst hfi hti;clear e1 e2 hz hdm1 hT hf ht hDa;refine AC.region ?_;refine zm ?_;refine AL.p (by exact g_ia_view rfl rfl rfl rfl rfl (by rfl) (by assumption)) rfl ?_;refine kG ?_;refine kE ?_;refine za ?_;refine zs ?_;refine AL.nil (th_n (AC.seq ?_));refine AC.drawn' mixed_ok [[], [0], [], [0,1,2], [0,1,2,3], [0,1,2,3,4], [0,1,2,3,4], [0,1,2,3,4,6], [0,1,2,3,4,5,6,7], [0,1,2,3,4,5,6,7,8], [0,1,2,3,4], [0,1,2,3,4], [0,1,2,3,4,11], [0,1,2,3,4,10,11,12], [0,1,2,3,4,10,11,12,13], [0,1,2,3,4,5,6,7,8,9,10,11,12,13,14], [0,1,2,3,4], [0,1,2,3,4,16], [0,1,2,3,4,5,6,7,8,9,10,11,12,13,14,15,16,17], [0,1,2,3,4,5,6,7,8,9,10,11,12,13,14,15,16,17,18], [0,1,2,3,4,5,6,7,8,9,10,11,12,13,14,15,16,17,18,19], [0,1,2,3,4,5,6,7,8,9,10,11,12,13,14,15,16,17,18,19,20]] (by decide) ?_;refine zd 0 [] 22 (by exact g_fa_ptr rfl rfl rfl rfl rfl) ?_;refine zd 1 [0] 22 (by exact g_load_ptr rfl rfl rfl rfl rfl) ?_;refine zd 2 [] 22 (by exact mv1 rfl) ?_;refine zd 3 [0,1,2] 22 (by exact g_cmp (r := s) rfl rfl (congrArg some hs.symm)) ?_;refine zd 4 [0,1,2,3] 22 (by exact mv1 rfl) ?_;refine DF.caseB 4 rfl (fun h1 => ?_) (fun h1 => ?_)
  ·refine ze 5 [0,1,2,3,4] 22 (by exact mv1 rfl) ?_;refine ze 6 [0,1,2,3,4] 22 (by exact g_fa_ptr rfl rfl rfl rfl rfl) ?_;refine ze 7 [0,1,2,3,4,6] 22 (by exact g_load_ptr rfl rfl rfl rfl rfl) ?_;refine ze 8 [0,1,2,3,4,5,6,7] 22 (by exact g_ia_view (i := f) rfl rfl rfl rfl rfl rfl hmf) ?_;refine ze 9 (List.range 9) 22 (by exact g_load_ref rfl rfl rfl) ?_;refine ze 10 [0,1,2,3,4] 22 (by exact mv1 rfl) ?_;refine ze 11 [0,1,2,3,4] 22 (by exact g_fa_ptr rfl rfl rfl rfl rfl) ?_;refine ze 12 [0,1,2,3,4,11] 22 (by exact g_load_ptr rfl rfl rfl rfl rfl) ?_;refine ze 13 [0,1,2,3,4,10,11,12] 22 (by exact g_ia_view (i := t) rfl rfl rfl rfl rfl rfl hmt) ?_;refine ze 14 [0,1,2,3,4,10,11,12,13] 22 (by exact g_load_ref rfl rfl rfl) ?_;refine ze 15 (List.range 15) 22 (by exact g_bits (c := (X : Int)) rfl rfl (by rw [hXe]; exact bits_andNot (by omega) (by omega))) ?_;refine ze 16 [0,1,2,3,4] 22 (by exact mv1 rfl) ?_;refine ze 17 [0,1,2,3,4,16] 22 (by exact g_arith rfl rfl rfl (by exact wrap_i64 (by omega))) ?_;refine ze 18 (List.range 18) 22 (by exact g_shr (c := ((X >>> (2 * g) : Nat) : Int)) rfl rfl (by omega) (by rw [two_nat]; exact shr_nat (by omega))) ?_;refine ze 19 (List.range 19) 22 (by exact g_bits (c := ((X >>> (2 * g) &&& 3 : Nat) : Int)) rfl rfl (bits_and (b := 3) (by omega) (by decide))) ?_;refine ze 20 (List.range 20) 22 (by exact g_cmp (r := z) rfl rfl (congrArg some hzz)) ?_;refine zd 21 (List.range 21) 22 (by exact g_pickT (r := .d _) rfl rfl) ?_;refine zj 22 ?_;refine th_n ?_;refine AC.condB rfl (fun h2 => ?_) (fun h2 => ?_)
   ·refine AC.region ?_;refine kB ?_;refine zm ?_;refine AL.q (by exact h_litF rfl rfl rfl rfl rfl rfl rfl rfl) rfl ?_;refine AL.q (by exact h_appendI T [(j : Int)] (.own rfl rfl (ints_len _).symm) (.view rfl) (by rw [List.length_append]; simp only [List.length_cons, List.length_nil]; omega) (by simp)) rfl ?_;refine AL.p (by exact as2 rfl) rfl ?_;refine AL.nil (ib_n (th_n (AC.region ?_)));refine zA ?_;refine zm ?_;refine AL.nil (th_n ?_)
    (have q1 := ‹s = true›; have q2 := ‹z = true›; rw [q1, q2, if_pos (by rfl)] at hSj; exact ⟨j + 1, by omega, by omega, zw [(100, _)] hC (by rw [hSj]; repeat (first | exact True.intro | refine And.intro ?_ ?_ | exact DLead.same | exact rfl | refine ⟨_, rfl, ?_⟩)) (by rw [hSj]; repeat (first | exact True.intro | refine And.intro ?_ ?_ | exact rfl | refine ⟨_, _, rfl, rfl, ?_⟩))⟩)
   refine AC.skip (ib_n (th_n (AC.region ?_)));refine zA ?_;refine zm ?_;refine AL.nil (th_n ?_)
   (have q1 : (s && z) = false := (by (rw [‹z = false›, Bool.and_false])); rw [q1, if_neg (by decide), List.append_nil] at hSj; exact ⟨j + 1, by omega, by omega, zw [(100, 100)] hC (by rw [hSj]; repeat (first | exact True.intro | refine And.intro ?_ ?_ | exact DLead.same | exact rfl | refine ⟨_, rfl, ?_⟩)) (by rw [hSj]; repeat (first | exact True.intro | refine And.intro ?_ ?_ | exact rfl | refine ⟨_, _, rfl, rfl, ?_⟩))⟩)
  refine zg 5 [0,1,2,3,4] 22 ?_;refine zg 6 [0,1,2,3,4] 22 ?_;refine zg 7 [0,1,2,3,4,6] 22 ?_;refine zg 8 [0,1,2,3,4,5,6,7] 22 ?_;refine zg 9 (List.range 9) 22 ?_;refine zg 10 [0,1,2,3,4] 22 ?_;refine zg 11 [0,1,2,3,4] 22 ?_;refine zg 12 [0,1,2,3,4,11] 22 ?_;refine zg 13 [0,1,2,3,4,10,11,12] 22 ?_;refine zg 14 [0,1,2,3,4,10,11,12,13] 22 ?_;refine zg 15 (List.range 15) 22 ?_;refine zg 16 [0,1,2,3,4] 22 ?_;refine zg 17 [0,1,2,3,4,16] 22 ?_;refine zg 18 (List.range 18) 22 ?_;refine zg 19 (List.range 19) 22 ?_;refine zg 20 (List.range 20) 22 ?_;refine zd 21 (List.range 21) 22 (by exact g_pickF (r := .d _) rfl rfl) ?_;refine zj 22 ?_;refine th_n ?_;refine AC.condF rfl ?_;refine AC.skip (ib_n (th_n (AC.region ?_)));refine zA ?_;refine zm ?_;refine AL.nil (th_n ?_)
  (have q1 : (s && z) = false := (by (rw [‹s = false›]; rfl)); rw [q1, if_neg (by decide), List.append_nil] at hSj; exact ⟨j + 1, by omega, by omega, zw [(100, 100)] hC (by rw [hSj]; repeat (first | exact True.intro | refine And.intro ?_ ?_ | exact DLead.same | exact rfl | refine ⟨_, rfl, ?_⟩)) (by rw [hSj]; repeat (first | exact True.intro | refine And.intro ?_ ?_ | exact rfl | refine ⟨_, _, rfl, rfl, ?_⟩))⟩)
 refine AC.exit (th_e (th_e (ib_y (th_n (AC.seq (AC.region ?_))))));refine kB ?_;refine AL.p (by exact as2 rfl) rfl ?_;refine AL.nil (th_n ?_);have hjj : j = c.arcs.length := by omega
 rw [hjj];refine AC.weak (Weak.freeze (i := 4) rfl rfl (Nat.le_of_eq (ints_len _).symm) (List.take_of_length_le (Nat.le_of_eq (ints_len _)))) ?_;refine AC.ret (bq_r ?_);exact ret1 rfl rfl
theorem en_disabling : Enters Tryz.prog 92 := enters_of Tryz.func92 rfl rfl
end Go.Proofs.YtbofmbjefbpnaaaGreat
