/- Contracts of the functions of the program and of the reference, each proved by a walk through its code. -/
import Derived.Sort.Grow
import Derived.Shelf.Sort.Plain
import Derived.Shelf.Slices.In.SortNone
import Derived.Test.YtknfdlakkbmdcaaGreatRows
import Derived.Test.YtknfdlakkbmdcaaGreatGAe4
set_option linter.all false
set_option maxRecDepth 20000
namespace Go.Proofs.YtknfdlakkbmdcaaGreat
open Go.RowKit
theorem rise_lt {l : List Int} {lo hi : Int} (h : rising l lo hi = true) : ∀ (j i : Nat) (hj : j < l.length) (hi : i < j), l[i] < l[j]
 | 0, i, hj, hij => by omega
 | j + 1, i, hj, hij => by
  have h2 : l[j] < l[j + 1] := by
   unfold rising allN at h;have := List.all_eq_true.1 h (j + 1) (List.mem_range.2 hj);simp only [riseAt, Bool.and_eq_true, Bool.not_eq_true', Bool.and_eq_false_iff, decide_eq_true_eq, decide_eq_false_iff_not] at this;have h3 := this.2;rw [getD_at hj, show j + 1 - 1 = j from rfl, getD_at (by omega)] at h3;omega
  by_cases e : i = j
  ·subst e; exact h2
  exact Int.lt_trans (rise_lt h j i (by omega) (by omega)) h2
theorem rising_ge {l : List Int} {lo hi : Int} (h : rising l lo hi = true) : ∀ (j : Nat) (hj : j < l.length), lo + (j : Int) ≤ l[j]
 | 0, hj => by have := (rising_in h _ (List.getElem_mem hj)).1; omega
 | j + 1, hj => by
  have h1 := rising_ge h j (by omega);have h2 := rise_lt h (j + 1) j hj (by omega);omega
theorem rising_len {l : List Int} {lo hi : Int} (h : rising l lo hi = true) : (l.length : Int) ≤ hi - lo + 1 ∨ l.length = 0 := by
 by_cases h0 : l.length = 0
 ·exact .inr h0
 left;have hj : l.length - 1 < l.length := by omega
 have h1 := rising_ge h _ hj;have h2 := (rising_in h _ (List.getElem_mem hj)).2;omega
structure NetS (n : Net) : Prop where
 p : 1 ≤ n.places ∧ n.places ≤ 30
 l : n.ts.length ≤ 24
 t : ∀ t, t ∈ n.ts → 0 < t.pre.length ∧ t.pre.length ≤ 30 ∧ t.post.length ≤ 30 ∧ rising t.pre 0 (n.places - 1) = true ∧ rising t.post 0 (n.places - 1) = true
theorem good_S {n : Net} (h : goodN n = true) : NetS n := by
 simp only [goodN, Bool.and_eq_true, Bool.not_eq_true', List.any_eq_false, decide_eq_true_eq] at h;obtain ⟨⟨⟨h1, h2⟩, h3⟩, h4⟩ := h;refine ⟨⟨h1, h2⟩, by omega, fun t ht => ?_⟩;have := h4 t ht;simp only [badT, Bool.or_eq_true, decide_eq_true_eq, not_or, Bool.not_eq_true', Bool.not_eq_false] at this;obtain ⟨⟨q1, q2⟩, q3⟩ := this;have r2 := rising_len q2;have r3 := rising_len q3;exact ⟨by omega, by omega, by omega, q2, q3⟩
theorem NetS.B {n : Net} (h : NetS n) : NetB n := ⟨by have := h.p; omega, by have := h.l; omega, fun t ht => by have := h.t t ht; omega⟩
theorem fits_inR {N : Net} {u : Unf} {h : Ev} (hf : fitsI N u h = true) : inR N h.t = true := by
 simp only [fitsI, fitA, Bool.and_eq_true] at hf; exact hf.1.1
theorem fits_rising {N : Net} {u : Unf} {h : Ev} (hf : fitsI N u h = true) : rising h.pre 0 ((u.cs.length : Int) - 1) = true := by
 simp only [fitsI, fitA, Bool.and_eq_true] at hf; exact hf.1.2.1
theorem tAt_mem {N : Net} {t : Int} (h : inR N t = true) : tAt N t ∈ N.ts := by
 obtain ⟨i, rfl, hi⟩ := inR_nat h;rw [tAt_nat hi]; exact List.getElem_mem hi
structure Now (N : Net) (k : Nat) (u : Unf) : Prop where
 w : WF u
 n : u.es.length = k
 c : u.cs.length ≤ 30 + 30 * k
theorem Now.fit {N : Net} {k : Nat} {u : Unf} {h : Ev} (hN : NetS N) (hk : k < 100) (hn : Now N k u) (hf : fitsI N u h = true) : Now N (k + 1) (withI N u h) ∧ h.pre.length ≤ 10000 := by
 have hr := fits_rising hf;have hl := rising_len hr;have hc := hn.c;have hpl := (hN.t _ (tAt_mem (fits_inR hf))).2.2.1;have hcl : (withI N u h).cs.length = u.cs.length + (tAt N h.t).post.length := withC_len _ _;have hel : (withI N u h).es.length = u.es.length + 1 := by show (u.es ++ [h]).length = _; rw [List.length_append]; rfl
 have hnn := hn.n;refine ⟨⟨⟨?_, ?_, ?_, by omega, by omega⟩, by omega, by omega⟩, by omega⟩
 ·intro e he c hc';rcases List.mem_append.1 he with h1 | h1
  ·have := hn.w.p e h1 c hc'; omega
  rw [List.mem_singleton] at h1; subst h1;have := rising_in hr c hc'; omega
 ·intro c hc';rcases List.mem_append.1 hc' with h1 | h1
  ·have := hn.w.b c h1; omega
  obtain ⟨p, hp, rfl⟩ := List.mem_map.1 h1;show -1 ≤ (u.es.length : Int) ∧ (u.es.length : Int) < _;omega
 intro e he;rcases List.mem_append.1 he with h1 | h1
 ·exact hn.w.l e h1
 rw [List.mem_singleton] at h1; subst h1; omega
def madeL (m : List UInt8) (k : Nat) : List Cond := ((List.range k).filter (fun p => m.getD p 0 == 49)).map (fun (p : Nat) => ⟨(p : Int), -1⟩)
def madeI (N : Net) (m : List UInt8) : List Cond := madeL m N.places.toNat
theorem madeL_succ (m : List UInt8) (k : Nat) : madeL m (k + 1) = madeL m k ++ (if m.getD k 0 = 49 then [⟨(k : Int), -1⟩] else []) := by
 unfold madeL;rw [List.range_succ, List.filter_append, List.map_append];congr 1;rw [List.filter_cons, List.filter_nil]
 by_cases h : m.getD k 0 = 49
 ·rw [if_pos h, if_pos (by simpa using h)]; rfl
 rw [if_neg h, if_neg (by simpa using h)]; rfl
theorem madeL_len (m : List UInt8) (k : Nat) : (madeL m k).length ≤ k := by
 unfold madeL;rw [List.length_map];exact Nat.le_trans (List.length_filter_le _ _) (by simp)
theorem madeL_t {m : List UInt8} {k : Nat} (h : m.getD k 0 = 49) : madeL m (k + 1) = madeL m k ++ [⟨(k : Int), -1⟩] := by rw [madeL_succ, if_pos h]
theorem madeL_f {m : List UInt8} {k : Nat} (h : ¬ m.getD k 0 = 49) : madeL m (k + 1) = madeL m k := by rw [madeL_succ, if_neg h, List.append_nil]
theorem mk_t {a b : UInt8} (e : a = b) (h : (b.toNat : Int) = 49) : a = 49 := by rw [e]; exact UInt8.toNat_inj.1 (by show b.toNat = 49; omega)
theorem mk_f {a b : UInt8} (e : a = b) (h : ¬ (b.toNat : Int) = 49) : ¬ a = 49 := by rw [e]; intro e2; rw [e2] at h; exact h rfl
theorem Now.zero {N : Net} (hN : NetS N) (m : List UInt8) : Now N 0 ⟨madeI N m, []⟩ := by
 have hl := madeL_len m N.places.toNat;have hp := hN.p;have hl' : (madeI N m).length ≤ 30 := by unfold madeI; omega
 refine ⟨⟨fun e he => absurd he List.not_mem_nil, fun c hc => ?_, fun e he => absurd he List.not_mem_nil, by show 0 ≤ _; omega, by show (madeI N m).length ≤ _; omega⟩, rfl, by show (madeI N m).length ≤ _; omega⟩;obtain ⟨p, hp, rfl⟩ := List.mem_map.1 hc;exact ⟨by show (-1 : Int) ≤ -1; omega, by show (-1 : Int) < ((0 : Nat) : Int); omega⟩
set_option maxHeartbeats 1000000 in
theorem l7Made_spec (N : Net) (m : List UInt8) (hN : NetS N) (hm : (m.length : Int) = N.places) : ASpec Tryz.prog 47 [netA N, aS (bstr m), .d (.val (.slice none 0 0))] [] (Pure1 (.d (vCs (madeI N m)))) := by
 have hpl := hN.p;obtain ⟨P, hP⟩ : ∃ P : Nat, N.places = (P : Int) := ⟨N.places.toNat, by omega⟩;have hmd : madeI N m = madeL m P := by unfold madeI; rw [hP, Int.toNat_natCast]
 refine ASpec.of Tryz.func47 rfl rfl fun C hC => ?_
 refine AC.seq (AC.region ?_);refine kD ?_;refine za ?_;refine AL.nil (th_n (AC.seq (AC.region ?_)));refine za ?_;refine AL.nil (th_n (AC.seq (AC.seq (AC.region ?_))));refine za ?_;refine AL.nil (th_n (AC.block ?_));refine AC.loop (ι := Nat) (fun k => ⟨56, 108, [(1, aS (bstr m)), (2, .d (.val (.slice none 0 0))), (3, .d (.ref (netD N))), (7, .own 100 (madeL m k).length), (8, aI k)], [(100, some (.arr 88 2 (condsL (madeL m k))))]⟩) (fun k => k ≤ P) (fun k => P - k) (0) ?_ (Nat.zero_le _) ?_
 ·exact (Weak.nilOwn (i := 7) (e := 88) (sz := 2) rfl (by decide)).trans (zw [(100, _)] hC)
 intro k hk;refine AC.seq (AC.seq (AC.region ?_));refine zm ?_;refine zf ?_;refine zr ?_;refine zc ?_;refine AL.nil (th_n ?_);refine AC.condD rfl (fun h0 => ?_) (fun h0 => ?_)
 ·refine AC.skip (th_n (AC.seq (AC.block (AC.seq ?_))));have hk1 : k < m.length := by omega
  have hget := bstr_at hk1;have hgd : m.getD k 0 = m[k] := by rw [List.getD_eq_getElem?_getD, List.getElem?_eq_getElem hk1]; rfl
  have hln := madeL_len m k;refine AC.region ?_;refine zm ?_;refine zm ?_;refine AL.p (by exact g_index rfl rfl rfl (by rfl) (by assumption)) rfl ?_;refine zc ?_;refine AL.nil (th_n ?_);refine AC.condD rfl (fun h1 => ?_) (fun h1 => ?_)
  ·refine AC.region ?_;refine kB ?_;refine zm ?_;refine AL.p (by exact g_build rfl rfl rfl) rfl ?_;refine AL.q (by exact h_litF rfl rfl rfl rfl rfl rfl rfl rfl) rfl ?_;refine AL.q (by exact h_appendC (madeL m k) [⟨(k : Int), -1⟩] (.own rfl rfl (condsL_len _).symm) (.view rfl) (by simp; omega) (by simp)) rfl ?_;refine AL.p (by exact as2 rfl) rfl ?_;refine AL.nil (ib_n (th_n (AC.region ?_)));refine zm ?_;refine zA ?_;refine za ?_;refine AL.nil (th_n ?_)
   (have e := madeL_t (m := m) (k := k) (mk_t hgd h1); exact ⟨k + 1, by omega, by omega, zw [(100, _)] hC (by rw [e]; repeat (first | exact True.intro | refine And.intro ?_ ?_ | exact DLead.same | exact rfl | refine ⟨_, rfl, ?_⟩)) (by rw [e]; repeat (first | exact True.intro | refine And.intro ?_ ?_ | exact rfl | refine ⟨_, _, rfl, rfl, ?_⟩))⟩)
  refine AC.skip (ib_n (th_n (AC.region ?_)));refine zm ?_;refine zA ?_;refine za ?_;refine AL.nil (th_n ?_)
  (have e := madeL_f (m := m) (k := k) (mk_f hgd h1); exact ⟨k + 1, by omega, by omega, zw [(100, _)] hC (by rw [e]; repeat (first | exact True.intro | refine And.intro ?_ ?_ | exact DLead.same | exact rfl | refine ⟨_, rfl, ?_⟩)) (by rw [e]; repeat (first | exact True.intro | refine And.intro ?_ ?_ | exact rfl | refine ⟨_, _, rfl, rfl, ?_⟩))⟩)
 refine AC.exit (th_e (th_e (ib_y (th_n (AC.seq (AC.seq ?_))))));have hkP : k = P := by omega
 subst hkP;refine AC.weak (Weak.freeze (i := 7) rfl rfl (Nat.le_of_eq (condsL_len _).symm) (List.take_of_length_le (Nat.le_of_eq (condsL_len _)))) ?_;refine AC.region ?_;refine zm ?_;refine AL.p (by exact g_len_nil rfl rfl) rfl ?_;refine zm ?_;refine AL.nil (th_n (AC.block ?_));refine AC.loop (ι := Unit) (fun _ => ⟨56, 108, [(7, .d (vCs (madeL m k))), (29, aI 0), (30, aI 0)], []⟩) (fun _ => True) (fun _ => 0) (()) ?_ (trivial) ?_
 ·exact Weak.ren _ [] hC rfl (by repeat (first | exact True.intro | refine And.intro ?_ ?_ | exact DLead.same)) (by repeat (exact True.intro)) rfl rfl rfl
 intro _ _;refine AC.seq (AC.region ?_);refine zc ?_;refine AL.nil (th_n (AC.seq ?_));refine AC.condD rfl (fun h1 => ?_) (fun h1 => ?_)
 ·refine AC.skip (th_n (AC.seq (AC.block (AC.seq ?_))));exact absurd h1 (by omega)
 refine AC.exit (th_e (th_e (ib_y (th_n (AC.seq (AC.region ?_))))));refine zm ?_;refine za ?_;refine AL.nil (th_n (AC.ret (bq_r ?_)));exact ret1 rfl (by rw [hmd])
theorem en_l7Made : Enters Tryz.prog 47 := enters_of Tryz.func47 rfl rfl
def runI (N : Net) : Unf → List Ev → Option Unf
 | u, [] => some u
 | u, h :: hs => if fitsI N u h = true then runI N (withI N u h) hs else none
def isU (N : Net) (m : List UInt8) (u : Unf) : Bool := match runI N ⟨madeI N m, []⟩ u.es with | some now => decide (now.cs = u.cs) | none => false
def goodU (N : Net) (m : List UInt8) (u : Unf) : Bool := (goodN N && bitsB m N.places) && (limB u && isU N m u)
structure UnfL (u : Unf) : Prop where
 e : u.es.length ≤ 1048576
 c : u.cs.length ≤ 1048576
 l : ∀ e, e ∈ u.es → e.pre.length ≤ 2000000
theorem isU_some {N : Net} {m : List UInt8} {u now : Unf} (h : runI N ⟨madeI N m, []⟩ u.es = some now) : isU N m u = decide (now.cs = u.cs) := by unfold isU; rw [h]
theorem isU_none {N : Net} {m : List UInt8} {u : Unf} (h : runI N ⟨madeI N m, []⟩ u.es = none) : isU N m u = false := by unfold isU; rw [h]
theorem runI_no {N : Net} {u : Unf} {h : Ev} {hs : List Ev} (hf : fitsI N u h = false) : runI N u (h :: hs) = none := by rw [runI, if_neg (by rw [hf]; exact Bool.false_ne_true)]
theorem runI_yes {N : Net} {u : Unf} {h : Ev} {hs : List Ev} (hf : fitsI N u h = true) : runI N u (h :: hs) = runI N (withI N u h) hs := by rw [runI, if_pos hf]
theorem and3_0 {a b c : Bool} (h : (!a) = true) : (a && (b && c)) = false := by cases a <;> simp_all
theorem and3_1 {a b c : Bool} (h : (!b) = true) : (a && (b && c)) = false := by cases a <;> cases b <;> simp_all
theorem cs_ne {a b : List Cond} {q : Nat} (h1 : q < a.length) (h2 : q < b.length) (h : ¬ (a[q].place = b[q].place ∧ a[q].by_ = b[q].by_)) : ¬ a = b := by
 intro e;subst e;exact h ⟨rfl, rfl⟩
theorem cs_all {a b : List Cond} {q : Nat} (h : a.length = b.length) (hq : a.length ≤ q) (hall : ∀ j, j < q → a[j]? = b[j]?) : a = b := by
 refine List.ext_getElem? fun j => ?_
 by_cases hj : j < a.length
 ·exact hall j (by omega)
 rw [List.getElem?_eq_none (by omega), List.getElem?_eq_none (by omega)]
theorem cs_step {a b : List Cond} {q : Nat} (h1 : q < a.length) (h2 : q < b.length) (hall : ∀ j, j < q → a[j]? = b[j]?) (h5 : a[q].place = b[q].place ∧ a[q].by_ = b[q].by_) : ∀ j, j < q + 1 → a[j]? = b[j]? := by
 intro j hj;rcases Nat.lt_succ_iff_lt_or_eq.1 hj with h' | rfl
 ·exact hall j h'
 rw [List.getElem?_eq_getElem h1, List.getElem?_eq_getElem h2];congr 1;cases e1 : a[j]; cases e2 : b[j];rw [e1, e2] at h5;simp only at h5;rw [h5.1, h5.2]
set_option maxRecDepth 20000 in
set_option maxHeartbeats 4000000 in
theorem l7Good_spec (N : Net) (m : List UInt8) (u : Unf) (hB : NetL N) (hm : m.length ≤ 2000000) (hu : UnfL u) : ASpec Tryz.prog 23 [netA N, aS (bstr m), unfA u] [] (Pure1 (aT (goodU N m u))) := by
 have hue := hu.e;have huc := hu.c;have hA0 := l7Asked_spec N m hB hm;have hL0 := l7Limits_spec u hue huc;obtain ⟨ask, hask⟩ := eqx ((goodN N && bitsB m N.places));obtain ⟨lim, hlim⟩ := eqx (limB u);have hgu : goodU N m u = (ask && (lim && isU N m u)) := by rw [hask, hlim]; rfl
 have hask2 : ask = true → goodN N = true ∧ bitsB m N.places = true := by intro h; rw [hask, Bool.and_eq_true] at h; exact h
 have hlim2 : lim = true → u.es.length ≤ 60 ∧ u.cs.length ≤ 200 := by intro h; rw [hlim, limB, Bool.and_eq_true, decide_eq_true_eq, decide_eq_true_eq] at h; omega
 rw [← hask] at hA0;rw [← hlim] at hL0;refine ASpec.of Tryz.func23 rfl rfl fun C hC => ?_
 refine AC.seq (AC.region ?_);refine kD ?_;refine kD ?_;refine za ?_;refine AL.nil (th_n (AC.seq (AC.seq (AC.region ?_))));refine kG ?_;refine zm ?_;refine kV en_l7Asked hA0 ?_;refine kC ?_;refine zm ?_;refine AL.caseGB rfl rfl (fun h0 => ?_) (fun h0 => ?_)
 ·refine zn ?_;refine zn ?_;refine zn ?_;refine zQ ?_;refine AL.nil (th_n ?_);refine AC.condT rfl ?_;refine AC.seq (AC.region ?_);refine za ?_;refine AL.nil (th_n (AC.ret (th_r (bq_r ?_))));have hz := and3_0 (b := lim) (c := isU N m u) h0;exact ret1 rfl (by rw [hgu, hz])
 refine zy ?_;refine kG ?_;refine zy ?_;refine kV en_l7Limits hL0 ?_;refine zy ?_;refine kC ?_;refine zP ?_;refine AL.nil (th_n ?_);refine AC.condB rfl (fun h1 => ?_) (fun h1 => ?_)
 ·refine AC.seq (AC.region ?_);refine za ?_;refine AL.nil (th_n (AC.ret (th_r (bq_r ?_))));have hz := and3_1 (a := ask) (c := isU N m u) h1;exact ret1 rfl (by rw [hgu, hz])
 refine AC.skip (th_n (AC.seq ?_));have hat := (Bool.not_eq_false' _).mp h0;have hlt := (Bool.not_eq_false' _).mp h1;have hN := good_S (hask2 hat).1;have hul := hlim2 hlt;have hml : (m.length : Int) = N.places := by have h5 := (hask2 hat).2; unfold bitsB at h5; rw [Bool.and_eq_true, decide_eq_true_eq] at h5; exact h5.2
 have hM0 := l7Made_spec N m hN hml;have hNow0 := Now.zero hN m;have hgi : goodU N m u = isU N m u := by rw [hgu, hat, hlt]; rfl
 have hNB := hN.B;refine AC.region ?_;refine kG ?_;refine zm ?_;refine kV en_l7Made hM0 ?_;refine AL.p (by exact g_build rfl rfl rfl) rfl ?_;refine kE ?_;refine zs ?_;refine AL.nil (th_n (AC.seq (AC.seq (AC.region ?_))));refine zf ?_;refine zr ?_;refine kH ?_;refine zm ?_;refine AL.nil (th_n (AC.block ?_));refine AC.loop (ι := Nat × Unf) (fun x => ⟨65, 108, [(3, .d (.ref (netD N))), (5, .d (.ref (unfD u))), (7, .ptr 100 0), (26, .d (vEs u.es)), (27, aI u.es.length), (28, aI x.1)], [(100, some (.cells 38 [.d (vCs x.2.cs), .d (vEs x.2.es)]))]⟩) (fun x => x.1 ≤ u.es.length ∧ Now N x.1 x.2 ∧ runI N x.2 (u.es.drop x.1) = runI N ⟨madeI N m, []⟩ u.es) (fun x => u.es.length - x.1) ((0, ⟨madeI N m, []⟩)) ?_ (⟨Nat.zero_le _, hNow0, rfl⟩) ?_
 ·exact zw [(100, _)] hC
 rintro ⟨k, now⟩ ⟨hk, hnow, hrun⟩;dsimp only at hk hnow hrun ⊢;refine AC.seq (AC.region ?_);refine zc ?_;refine AL.nil (th_n (AC.seq ?_));refine AC.condD rfl (fun h2 => ?_) (fun h2 => ?_)
 ·refine AC.skip (th_n (AC.seq (AC.block (AC.seq ?_))));have hk1 : k < u.es.length := by omega
  have hget := evsL_get hk1;have hel := hu.l _ (List.getElem_mem hk1);have hF := l7Fits_spec N now u.es[k] hNB hnow.w hel;rw [List.drop_eq_getElem_cons hk1] at hrun;obtain ⟨ft, hft⟩ := eqx (fitsI N now u.es[k]);rw [← hft] at hF;refine AC.region ?_;refine AL.p (by exact g_ia_view rfl rfl rfl rfl rfl (by rfl) (by assumption)) rfl ?_;refine kG ?_;refine kE ?_;refine zs ?_;refine AL.nil (th_n (AC.seq (AC.seq (AC.region ?_))));refine kG ?_;refine AL.p (by exact g_load_ptrN rfl rfl rfl rfl rfl) rfl ?_;refine AL.p (by exact g_load_ptrN rfl rfl rfl rfl rfl) rfl ?_;refine kV en_l7Fits hF ?_;refine kC ?_;refine AL.nil (th_n ?_);refine AC.condB rfl (fun h3 => ?_) (fun h3 => ?_)
  ·refine AC.seq (AC.region ?_);refine za ?_;refine AL.nil (th_n (AC.ret (th_r (ib_r (th_r (th_r (ib_r (th_r (bq_r ?_)))))))));have hff : fitsI N now u.es[k] = false := by rw [← hft]; exact (Bool.not_eq_true' _).mp h3
   rw [runI_no hff] at hrun;exact ret1 rfl (by rw [hgi, isU_none hrun.symm])
  refine AC.skip (th_n ?_);have hff : fitsI N now u.es[k] = true := by rw [← hft]; exact (Bool.not_eq_false' _).mp h3
  rw [runI_yes hff] at hrun;obtain ⟨hnow2, hpl⟩ := hnow.fit hN (by omega) hff;have hW := l7With_spec N now u.es[k] hNB hnow.w (by omega) (fits_inR hff);refine AC.region ?_;refine kG ?_;refine AL.p (by exact g_load_ptrN rfl rfl rfl rfl rfl) rfl ?_;refine AL.p (by exact g_load_ptrN rfl rfl rfl rfl rfl) rfl ?_;refine kV en_l7With hW ?_;refine zs ?_;refine AL.nil (ib_n (th_n (AC.region ?_)));refine zA ?_;refine zm ?_;refine AL.nil (th_n ?_);exact ⟨(k + 1, withI N now u.es[k]), ⟨by show k + 1 ≤ _; omega, hnow2, hrun⟩, by show u.es.length - (k + 1) < u.es.length - k; omega, zw [(100, _)] hC⟩
 refine AC.exit (th_e (th_e (ib_y (th_n (AC.seq (AC.seq ?_))))));have hkk : k = u.es.length := by omega
 rw [hkk, List.drop_length] at hrun;have hU := isU_some hrun.symm;have hncl := hnow.c;refine AC.region ?_;refine zF ?_;refine zl ?_;refine kH ?_;refine zf ?_;refine zr ?_;refine kH ?_;refine zc ?_;refine AL.nil (th_n ?_);refine AC.condND rfl (fun h3 => ?_) (fun h3 => ?_)
 ·refine AC.seq (AC.region ?_);refine za ?_;refine AL.nil (th_n (AC.ret (th_r (bq_r ?_))));have hz : ¬ now.cs = u.cs := fun e => by rw [e] at h3; simp at h3
  exact ret1 rfl (by rw [hgi, hU, decide_eq_false hz])
 refine AC.skip (th_n (AC.seq (AC.seq (AC.region ?_))));refine zF ?_;refine zl ?_;refine kH ?_;refine zm ?_;refine AL.nil (th_n (AC.block ?_));refine AC.loop (ι := Nat) (fun k => ⟨65, 108, [(5, .d (.ref (unfD u))), (7, .ptr 100 0), (50, .d (vCs now.cs)), (51, aI now.cs.length), (52, aI k)], [(100, some (.cells 38 [.d (vCs now.cs), .d (vEs now.es)]))]⟩) (fun k => k ≤ now.cs.length ∧ ∀ j, j < k → now.cs[j]? = u.cs[j]?) (fun k => now.cs.length - k) (0) ?_ (⟨Nat.zero_le _, fun j hj => by omega⟩) ?_
 ·exact zw [(100, _)] hC
 intro q ⟨hq, hall⟩;refine AC.seq (AC.region ?_);refine zc ?_;refine AL.nil (th_n (AC.seq ?_));refine AC.condD rfl (fun h4 => ?_) (fun h4 => ?_)
 ·refine AC.skip (th_n (AC.seq (AC.block (AC.seq ?_))));have hlen : now.cs.length = u.cs.length := by omega
  have hq1 : q < now.cs.length := by omega
  have hq2 : q < u.cs.length := by omega
  have hgetn := condsL_get hq1;have hgetu := condsL_get hq2;refine AC.region ?_;refine zm ?_;refine AL.p (by exact g_ia_view rfl rfl rfl rfl rfl (by rfl) (by assumption)) rfl ?_;refine kG ?_;refine kE ?_;refine za ?_;refine zs ?_;refine AL.nil (th_n (AC.seq ?_));refine AC.drawn' mixed_ok [[], [], [1], [], [1,2,3], [1,2,3,4], [0,1,2,3,4,5]] (by decide) ?_;refine zd 0 [] 7 (by exact g_load_ptrN rfl rfl rfl rfl rfl) ?_;refine zd 1 [] 7 (by exact g_fa_ref rfl rfl rfl rfl rfl rfl) ?_;refine zd 2 [1] 7 (by exact g_load_ref rfl rfl rfl) ?_;refine zd 3 [] 7 (by exact mv1 rfl) ?_;refine zd 4 [1,2,3] 7 (by exact g_ia_view rfl rfl rfl rfl rfl (by rfl) (by assumption)) ?_;refine zd 5 [1,2,3,4] 7 (by exact g_load_refN rfl rfl rfl rfl) ?_;refine zd 6 [0,1,2,3,4,5] 7 (by exact g_eq2 (by decide +kernel) rfl rfl rfl) ?_;refine zj 7 ?_;refine th_n ?_;refine AC.condND rfl (fun h5 => ?_) (fun h5 => ?_)
  ·refine AC.seq (AC.region ?_);refine za ?_;refine AL.nil (th_n (AC.ret (ib_r (th_r (th_r (ib_r (th_r (bq_r ?_))))))));have hz : ¬ now.cs = u.cs := cs_ne hq1 hq2 h5;exact ret1 rfl (by rw [hgi, hU, decide_eq_false hz])
  refine AC.skip (ib_n (th_n (AC.region ?_)));refine zA ?_;refine zm ?_;refine AL.nil (th_n ?_);exact ⟨q + 1, ⟨by omega, cs_step hq1 hq2 hall h5⟩, by omega, zw [(100, _)] hC⟩
 refine AC.exit (th_e (th_e (ib_y (th_n (AC.seq (AC.region ?_))))));refine za ?_;refine AL.nil (th_n (AC.ret (bq_r ?_)));have hlen : now.cs.length = u.cs.length := by omega
 have hz : now.cs = u.cs := cs_all hlen (by omega) hall;exact ret1 rfl (by rw [hgi, hU, decide_eq_true hz])
theorem en_l7Good : Enters Tryz.prog 23 := enters_of Tryz.func23 rfl rfl
inductive BL1 (ids : List Nat) (s : ASt) : DV → AV → Prop
 | d {x : DV} : BL1 ids s x (.d x)
 | nil {e sz : Nat} : BL1 ids s (.view e sz []) (.d (.val (.slice none 0 0)))
 | own {id n e sz : Nat} {els els' : List (List DV)} : ids.contains id = true → s.chunk id = some (.arr e sz els) → n ≤ els.length → els.take n = els' → BL1 ids s (.view e sz els') (.own id n)
 | pred {id : Nat} {x : DV} {v : Value} {S : Nat → Prop} {K : World → Prop} : ids.contains id = true → s.chunk id = some (.pred S K) → (∀ w, K w → DRep S w x v) → BL1 ids s x (.d (.val v))
 | rows {id id2 n e sz : Nat} {els rws : List (List DV)} {S : Nat → Prop} {K : World → Prop} : ids.contains id = true → ids.contains id2 = true → s.chunk id = some (.arr e sz rws) → s.chunk id2 = some (.pred S K) → rws.length = n → els.length = n → (∀ (i : Nat) cs, els[i]? = some cs → cs.length = sz) →
   (∀ w, K w → ∀ (i j : Nat) cs d, els[i]? = some cs → cs[j]? = some d → ∃ ds u, rws[i]? = some ds ∧ ds[j]? = some (.val u) ∧ DRep S w d u) → BL1 ids s (.view e sz els) (.own id n)
inductive BLs (ids : List Nat) (s : ASt) : List DV → List AV → Prop
 | nil : BLs ids s [] []
 | cons {d : DV} {c : AV} {ds : List DV} {cs : List AV} : BL1 ids s d c → BLs ids s ds cs → BLs ids s (d :: ds) (c :: cs)
inductive BP (ids : List Nat) (s : ASt) : DV → AV → Prop
 | of {x : DV} {y : AV} : BL1 ids s x y → BP ids s x y
 | ptr {id t : Nat} {cs : List AV} {ds : List DV} : ids.contains id = true → s.chunk id = some (.cells t cs) → BLs ids s ds cs → BP ids s (.ref ds) (.ptr id 0)
inductive BPs (ids : List Nat) (s : ASt) : List DV → List AV → Prop
 | nil : BPs ids s [] []
 | cons {d : DV} {c : AV} {ds : List DV} {cs : List AV} : BP ids s d c → BPs ids s ds cs → BPs ids s (d :: ds) (c :: cs)
theorem BPs.get {ids : List Nat} {s : ASt} {ds : List DV} {cs : List AV} (h : BPs ids s ds cs) : ds.length = cs.length ∧ ∀ (i : Nat) c, cs[i]? = some c → ∃ d, ds[i]? = some d ∧ BP ids s d c := by
 induction h with
 | nil => exact ⟨rfl, fun i c h => by simp at h⟩
 | cons h _ ih =>
  refine ⟨by simp [ih.1], fun i c hc => ?_⟩;cases i with
  | zero => simp at hc; subst hc; exact ⟨_, rfl, h⟩
  | succ i => simpa using ih.2 i c (by simpa using hc)
inductive BL (ids : List Nat) (s : ASt) : AV → AV → Prop
 | cloB {f : FuncId} {ds : List DV} {cs : List AV} : BPs ids s ds cs → BL ids s (.clo f (ds.map .d)) (.clo f cs)
 | of {x : DV} {y : AV} : BL1 ids s x y → BL ids s (.d x) y
 | clo {f : FuncId} {ds : List DV} : BL ids s (.clo f (ds.map .d)) (.clo f (ds.map .d))
 | agg {ds : List DV} : BL ids s (.agg (ds.map .d)) (.agg (ds.map .d))
 | ptr {id t : Nat} {cs : List AV} {ds : List DV} : ids.contains id = true → s.chunk id = some (.cells t cs) → BLs ids s ds cs → BL ids s (.d (.ref ds)) (.ptr id 0)
 | aggs {cs : List AV} {ds : List DV} : BLs ids s ds cs → BL ids s (.agg (ds.map .d)) (.agg cs)
inductive BAs (ids : List Nat) (s : ASt) : List AV → List AV → Prop
 | nil : BAs ids s [] []
 | cons {x y : AV} {xs ys : List AV} : BL ids s x y → BAs ids s xs ys → BAs ids s (x :: xs) (y :: ys)
theorem BLs.get {ids : List Nat} {s : ASt} {ds : List DV} {cs : List AV} (h : BLs ids s ds cs) : ds.length = cs.length ∧ ∀ (i : Nat) d, ds[i]? = some d → ∃ c, cs[i]? = some c ∧ BL1 ids s d c := by
 induction h with
 | nil => exact ⟨rfl, fun i d h => by simp at h⟩
 | cons h _ ih =>
  refine ⟨by simp [ih.1], fun i d hd => ?_⟩;cases i with
  | zero => simp at hd; subst hd; exact ⟨_, rfl, h⟩
  | succ i => simpa using ih.2 i d (by simpa using hd)
theorem BAs.get {ids : List Nat} {s : ASt} {xs ys : List AV} (h : BAs ids s xs ys) : xs.length = ys.length ∧ ∀ (i : Nat) x, xs[i]? = some x → ∃ y, ys[i]? = some y ∧ BL ids s x y := by
 induction h with
 | nil => exact ⟨rfl, fun i d h => by simp at h⟩
 | cons h _ ih =>
  refine ⟨by simp [ih.1], fun i d hd => ?_⟩;cases i with
  | zero => simp at hd; subst hd; exact ⟨_, rfl, h⟩
  | succ i => simpa using ih.2 i d (by simpa using hd)
mutual
def AV.flat : AV → Bool
 | .d (.val _) => true
 | .tup cs => AV.flatL cs
 | .agg cs => AV.flatL cs
 | _ => false
def AV.flatL : List AV → Bool
 | [] => true
 | c :: cs => c.flat && AV.flatL cs
end
theorem AV.flatL_get : ∀ {cs : List AV}, AV.flatL cs = true → ∀ (i : Nat) c, cs[i]? = some c → c.flat = true
 | [], _, i, c, h => by simp at h
 | c :: cs, hf, i, c', h => by
  simp only [AV.flatL, Bool.and_eq_true] at hf;cases i with
  | zero => simp at h; subst h; exact hf.1
  | succ i => exact AV.flatL_get hf.2 i c' (by simpa using h)
theorem ARep.flat {m m' : Nat → Option (Option Nat × Nat)} {F F' : Nat → Prop} {w w' : World} {x : AV} {v : Value} (h : ARep m F w x v) : x.flat = true → ARep m' F' w' x v := by
 induction h with
 | d h => intro hf; rename_i x v; cases x with
  | val u => exact .d (h.flat trivial)
  | _ => simp [AV.flat] at hf
 | agg h1 _ h3 ih => intro hf; exact .agg h1 (fun i c hc => ih i c hc (AV.flatL_get (by simpa [AV.flat] using hf) i c hc)) h3
 | tup h1 _ ih => intro hf; exact .tup h1 (fun i c hc => ih i c hc (AV.flatL_get (by simpa [AV.flat] using hf) i c hc))
 | _ => intro hf; simp [AV.flat] at hf
section
variable {P : Program} [PT P]
variable {s : ASt} {dst : Option Nat} {ty : Nat} {pos : String} {af : Array Edge} {gd : Option (Nat × Bool)} {f : Nat}
theorem BL1.rep {C : Ctx} {U : Nat → Prop} {ids : List Nat} {s' : ASt} {a : Act} {w : World} {m : Nat → Option (Option Nat × Nat)} (hR : RelM C U s' a w m) (hch : ∀ id, id ∈ ids → s'.chunk id = s.chunk id) {F : Nat → Prop} (hF : ∀ k, k < w.heap.size → F k) {x : DV} {y : AV} {v : Value} (h : BL1 ids s x y) (hy : ARep m (Fz C m s' w) w y v) : DRep F w x v := by
 have hFz : ∀ q, Fz C m s' w q → F q := fun q hq => hF q hq.2.1
 cases h with
 | d => cases hy with | d h => exact h.mono hFz
 | nil => cases hy with | d h => cases h; exact .nil
 | @own id n e sz els els' hid hc hn he =>
  subst he;have hc' : s'.chunk id = some (.arr e sz els) := by rw [hch id (by simpa using hid)]; exact hc
  obtain ⟨p, hp, hr, _⟩ := hR.ch id _ hc';exact own_view hy hp hr hn hFz (fun b hb => hF b (hr.lt (.inl hb)))
 | @pred id _ u S K hid hc hK =>
  have hc' : s'.chunk id = some (.pred S K) := by rw [hch id (by simpa using hid)]; exact hc
  obtain ⟨p, hp, hr, _⟩ := hR.ch id _ hc';have hv : v = u := by cases hy with | d h => cases h; rfl
  subst hv;cases hr with
  | pred h1 h2 h3 => exact (hK w h1).mono fun k hk => hF k (h3 k hk)
 | @rows id id2 n e sz els rws S K hid hid2 hc hc2 hn hl hrow hK =>
  have hc' : s'.chunk id = some (.arr e sz rws) := by rw [hch id (by simpa using hid)]; exact hc
  have hc2' : s'.chunk id2 = some (.pred S K) := by rw [hch id2 (by simpa using hid2)]; exact hc2
  obtain ⟨p, hp, hr, _⟩ := hR.ch id _ hc';obtain ⟨p2, _, hr2, _⟩ := hR.ch id2 _ hc2';cases hr2 with
  | pred k1 k2 k3 =>
   cases hy with
   | own hp' h0 =>
    rename_i cap b;rw [hp] at hp';simp only [Option.some.injEq] at hp';subst hp';cases hr with
    | nil h =>
     obtain rfl : n = 0 := by simpa using hn.symm
     obtain rfl : els = [] := List.length_eq_zero_iff.1 hl;exact .nil
    | @arr b _ _ _ _ arr fz hb hf hsz hl' hm h0' hrow' hel =>
     have := DRep.view (F := F) (w := w) (e := e) (sz := sz) (els := els) (off := 0) (cap := cap) (hF b (lt_of_block hb)) hb (by omega) hm (by omega) hrow (fun i cs j d hi hj => by
      obtain ⟨ds, u, g1, g2, g3⟩ := hK w k1 i j cs d hi hj;have hq := hel i ds j _ g1 g2;rw [Nat.zero_add];generalize arr.getD (i * sz + j) undef = q at hq ⊢;cases hq with
      | val _ => exact g3.mono fun k hk => hF k (k3 k hk))
     rw [hl] at this;exact this
theorem BP.rep {C : Ctx} {U : Nat → Prop} {ids : List Nat} {s' : ASt} {a : Act} {w : World} {m : Nat → Option (Option Nat × Nat)} (hR : RelM C U s' a w m) (hch : ∀ id, id ∈ ids → s'.chunk id = s.chunk id) {F : Nat → Prop} (hF : ∀ k, k < w.heap.size → F k) {x : DV} {y : AV} {v : Value} (h : BP ids s x y) (hy : ARep m (Fz C m s' w) w y v) : DRep F w x v := by
 have hFz : ∀ q, Fz C m s' w q → F q := fun q hq => hF q hq.2.1
 cases h with
 | of h => exact h.rep hR hch hF hy
 | ptr hid hc hcs =>
  rename_i id t cs ds;have hc' : s'.chunk id = some (.cells t cs) := by rw [hch id (by simpa using hid)]; exact hc
  cases hy with
  | ptr hp =>
   obtain ⟨hl, hg⟩ := hcs.get;cases hR.chunkAt hc' hp with
   | cells hb hs hv h1 =>
    refine .ref (hF _ (lt_of_block hb)) hb (by omega) (fun j d hd => ?_);obtain ⟨c, hc, hdc⟩ := hg j d hd;rw [Nat.zero_add];exact hdc.rep hR hch hF (hv j c hc)
theorem BL.rep {C : Ctx} {U : Nat → Prop} {ids : List Nat} {s' : ASt} {a : Act} {w : World} {m m0 : Nat → Option (Option Nat × Nat)} (hR : RelM C U s' a w m) (hch : ∀ id, id ∈ ids → s'.chunk id = s.chunk id) {F : Nat → Prop} (hF : ∀ k, k < w.heap.size → F k) {x y : AV} {v : Value} (h : BL ids s x y) (hy : ARep m (Fz C m s' w) w y v) : ARep m0 F w x v := by
 have hFz : ∀ q, Fz C m s' w q → F q := fun q hq => hF q hq.2.1
 have hds : ∀ (ds : List DV) (i : Nat) c v, (ds.map AV.d)[i]? = some c → ARep m (Fz C m s' w) w c v → ARep m0 F w c v := by
  intro ds i c v hc hv;rw [List.getElem?_map, Option.map_eq_some_iff] at hc;obtain ⟨d, _, rfl⟩ := hc;cases hv with | d h => exact .d (h.mono hFz)
 cases h with
 | cloB hcs =>
  obtain ⟨hl, hg⟩ := hcs.get;cases hy with
  | clo h1 h2 =>
   refine .clo (by rw [h1, List.length_map, hl]) (fun i c hc => ?_);rw [List.getElem?_map, Option.map_eq_some_iff] at hc;obtain ⟨d, hd, rfl⟩ := hc;have hi : i < _ := (List.getElem?_eq_some_iff.1 hd).1;obtain ⟨d', hd', hb⟩ := hg i _ (List.getElem?_eq_getElem (by omega));rw [hd] at hd';cases hd';exact .d (hb.rep hR hch hF (h2 i _ (List.getElem?_eq_getElem (by omega))))
 | of h => exact .d (h.rep hR hch hF hy)
 | clo => cases hy with | clo h1 h2 => exact .clo h1 (fun i c hc => hds _ i c _ hc (h2 i c hc))
 | agg => cases hy with | agg h1 h2 h3 => exact .agg h1 (fun i c hc => hds _ i c _ hc (h2 i c hc)) h3
 | aggs hcs =>
  obtain ⟨hl, hg⟩ := hcs.get;cases hy with
  | agg h1 h2 h3 =>
   refine .agg (by rw [h1, List.length_map, hl]) (fun i c hc => ?_) h3;rw [List.getElem?_map, Option.map_eq_some_iff] at hc;obtain ⟨d, hd, rfl⟩ := hc;obtain ⟨c', hc', hdc⟩ := hg i d hd;exact .d (hdc.rep hR hch hF (h2 i c' hc'))
 | ptr hid hc hcs =>
  rename_i id t cs ds;have hc' : s'.chunk id = some (.cells t cs) := by rw [hch id (by simpa using hid)]; exact hc
  cases hy with
  | ptr hp =>
   obtain ⟨hl, hg⟩ := hcs.get;cases hR.chunkAt hc' hp with
   | cells hb hs hv h1 =>
    refine .d (.ref (hF _ (lt_of_block hb)) hb (by omega) (fun j d hd => ?_));obtain ⟨c, hc, hdc⟩ := hg j d hd;rw [Nat.zero_add];exact hdc.rep hR hch hF (hv j c hc)
theorem h_borrow (ids : List Nat) {g : FuncId} {caps ys ars : List AV} {fx : Operand} {xs : Array Operand} {ats : Array TypeId} {r : AV} (hen : Enters P g) (hf : s.ev fx = .clo g caps) (hys : xs.toList.map s.ev ++ caps = ys)
  (hspec : ASpec P g ars [] (Pure1 r)) (hlead : BAs ids s ars ys) (hr : r.flat = true) :
  NOp P ids s ⟨dst, .call { callee := .value fx, args := xs, argTypes := ats }, ty, pos, af, gd⟩ f ⟨r, []⟩ := by
 refine ⟨fun s' ha C U U' a w m hR hU hU' hd K Q hK => ?_⟩;have hfx := hR.ev fx;rw [ha.2.1 fx (by simp [Op.operands, Call.operands]), hf] at hfx;generalize hfv : a.eval fx = fv at hfx;cases hfx with
 | clo hc1 hc2 =>
  rename_i cv
  have hrun : (execOp a.eval ⟨dst, .call { callee := .value fx, args := xs, argTypes := ats }, ty, pos, af, gd⟩).run P w = .ok (.enter g (xs.map a.eval ++ cv)) w := by
   simp [execOp, resolve, hfv, Deferred.ofValue, invoke, hen (xs.map a.eval ++ cv) w]
  obtain ⟨hl1, hl2⟩ := hlead.get
  have harg : ∀ (i : Nat) y, ys[i]? = some y → ARep m (Fz C m s' w) w y ((xs.map a.eval ++ cv).getD i undef) := by
   intro i y hy;rw [← hys] at hy
   by_cases hi : i < xs.size
   ·rw [List.getElem?_append_left (by simpa using hi), List.getElem?_map, Option.map_eq_some_iff] at hy;obtain ⟨x, hx, rfl⟩ := hy;have hx' : xs[i]? = some x := by simpa using hx
    have := hR.ev x;rw [ha.2.1 x (by simp only [Op.operands, Call.operands, Array.mem_append]; exact .inr (Array.mem_of_getElem? hx'))] at this
    have e : (xs.map a.eval ++ cv).getD i undef = a.eval x := by
     have hxi : xs[i] = x := (Array.getElem?_eq_some_iff.1 hx').2;simp [Array.getD_eq_getD_getElem?, Array.getElem?_append, hi, hxi]
    rw [e]; exact this
   rw [List.getElem?_append_right (by simpa using Nat.le_of_not_lt hi)] at hy;have := hc2 _ y hy
   have e : (xs.map a.eval ++ cv).getD i undef = cv.getD (i - xs.size) undef := by
    simp [Array.getD_eq_getD_getElem?, Array.getElem?_append, hi]
   rw [e]; simpa using this
  have hcall := hspec w (fun _ => none) (fun k => k < w.heap.size) (xs.map a.eval ++ cv) (fun k hk => ⟨hk, fun id c p hc => by simp [getL] at hc⟩) ?_ ?_ (fun id c hc => by simp [getL] at hc) (fun id id' c c' p p' b hc => by simp [getL] at hc) (fun id _ => rfl)
  ·unfold Oper.wp;rw [hrun];simp only [Oper.upon];refine Calls.mono hcall ?_;rintro e w' ⟨v, r', chs', m1, F1, rfl, ⟨rfl, rfl⟩, -, -, -, ⟨f1, f2, f3, f4, f5⟩, hv, -, -⟩;have hold : ∀ k, k < w.heap.size → w'.heap[k]? = w.heap[k]? := fun k hk => f5 k hk (fun id c p hc => by simp [getL] at hc)
   refine hK _ _ m (hR.step hd (MLe.refl m) (fun j hj => hR.un j (hU' j hj).1) ?_ f4 (fun k hk => ⟨fun id c p hc => by simp [getL] at hc, hold k hk.2.1⟩) (fun id c p b h0 h1 h2 h3 => ?_) (fun F' hF hF2 => ⟨hv.flat hr, fun id c hc => by simp [getL] at hc⟩) (fun id id' c c' p p' b hc => by simp [getL] at hc))
   ·refine ⟨f1.trans hR.fr.os, f2.trans hR.fr.tape, f3.trans hR.fr.output, Nat.le_trans hR.fr.size f4, fun k hk hn => ?_⟩;rw [hold k (Nat.lt_of_lt_of_le hk hR.fr.size)];exact hR.fr.block k hk hn
   refine hold b ?_;obtain ⟨q, hq, hr', _⟩ := hR.ch id c h1;rw [h2] at hq;obtain rfl : p = q := by simpa using hq
   exact hr'.lt h3
  ·have : ys.length = xs.size + caps.length := by rw [← hys]; simp
   simp only [Array.size_append, Array.size_map];omega
  intro i x hx;obtain ⟨y, hy, hxy⟩ := hl2 i x hx;exact hxy.rep hR ha.2.2 (fun k hk => hk) (harg i y hy)
theorem Weak.freezeRef {C : Ctx} (i : Nat) {id t : Nat} {ds : List DV} (hs : s.get i = .ptr id 0) (hc : s.chunk id = some (.cells t (ds.map .d))) : Weak C s { s with sl := (i, .d (.ref ds)) :: s.sl, ch := (id, none) :: s.ch } := by
 refine ⟨?_⟩;rintro a w ⟨m, hR⟩
 have hch : ∀ j c, (getL j ((id, none) :: s.ch)).getD none = some c → j ≠ id ∧ s.chunk j = some c := by
  intro j c h;rw [getL_cons] at h
  split at h
  ·simp at h
  rename_i e; exact ⟨e, h⟩
 have hF : ∀ q, Fz C m s w q → Fz C m { s with sl := (i, .d (.ref ds)) :: s.sl, ch := (id, none) :: s.ch } w q := fun q hq => ⟨hq.1, hq.2.1, fun j c p h1 h2 => hq.2.2 j c p (hch j c h1).2 h2⟩
 refine ⟨m, hR.fr, hR.fin, hR.sz, fun j => ?_, fun j c h1 => ?_, fun j j' c c' p p' h1 h2 hp hp' b hb hb' => hR.inj j j' c c' p p' (hch j c h1).2 (hch j' c' h2).2 hp hp' b hb hb', hR.un, hR.defers, hR.m0, hR.m0k⟩
 ·show ARep _ _ _ ((getL j ((i, .d (.ref ds)) :: s.sl)).getD .dead) _;rw [getL_cons]
  by_cases hj : j = i
  ·subst hj;rw [if_pos rfl];have hv := hR.sl j;rw [hs] at hv;generalize a.tmps.getD j undef = v at hv;simp only [Option.getD_some];cases hv with
   | ptr hp =>
    rename_i b cap;have hC := hR.chunkAt hc hp;cases hC with
    | cells hb hsz hv h1 =>
     obtain ⟨q, hq, hr, hloc⟩ := hR.ch id _ hc;rw [hp] at hq;obtain rfl : (some b, cap) = q := by simpa using hq
     have hFb : Fz C m { s with sl := (j, .d (.ref ds)) :: s.sl, ch := (id, none) :: s.ch } w b := by
      refine ⟨.inr (hloc b (.inl rfl)), lt_of_block hb, fun j' c p h1 h2 h3 => ?_⟩;obtain ⟨hne, h4⟩ := hch j' c h1;exact hne (hR.inj j' id c _ p _ h4 hc h2 hp b h3 (.inl rfl))
     refine .d (.ref hFb hb (by simp at hsz; omega) (fun k d hd => ?_));have := hv k (.d d) (by simp [hd]);rw [Nat.zero_add];cases this with | d h => exact h.mono hF
  rw [if_neg hj];exact (hR.sl j).turn (MLe.refl m) (fun k hk _ => ⟨hF k hk, rfl⟩)
 obtain ⟨_, h2⟩ := hch j c h1;obtain ⟨p, hp, hr, hl⟩ := hR.ch j c h2;exact ⟨p, hp, hr.turn (MLe.refl m) (fun k hk _ => ⟨hF k hk, rfl⟩) (fun _ _ => rfl), hl⟩
theorem RelM.freeze {C : Ctx} {U : Nat → Prop} {a : Act} {w : World} {m : Nat → Option (Option Nat × Nat)} (hR : RelM C U s a w m) {i id n e sz : Nat} {els els' : List (List DV)} (hs : s.get i = .own id n) (hc : s.chunk id = some (.arr e sz els)) (hn : n ≤ els.length) (he : els.take n = els') : RelM C U { s with sl := (i, .d (.view e sz els')) :: s.sl, ch := (id, none) :: s.ch } a w m := by
 subst he
 have hch : ∀ j c, (getL j ((id, none) :: s.ch)).getD none = some c → j ≠ id ∧ s.chunk j = some c := by
  intro j c h;rw [getL_cons] at h
  split at h
  ·simp at h
  rename_i e; exact ⟨e, h⟩
 have hF : ∀ q, Fz C m s w q → Fz C m { s with sl := (i, .d (.view e sz (els.take n))) :: s.sl, ch := (id, none) :: s.ch } w q := fun q hq => ⟨hq.1, hq.2.1, fun j c p h1 h2 => hq.2.2 j c p (hch j c h1).2 h2⟩
 refine ⟨hR.fr, hR.fin, hR.sz, fun j => ?_, fun j c h1 => ?_, fun j j' c c' p p' h1 h2 hp hp' b hb hb' => hR.inj j j' c c' p p' (hch j c h1).2 (hch j' c' h2).2 hp hp' b hb hb', hR.un, hR.defers, hR.m0, hR.m0k⟩
 ·show ARep _ _ _ ((getL j ((i, .d (.view e sz (els.take n))) :: s.sl)).getD .dead) _;rw [getL_cons]
  by_cases hj : j = i
  ·subst hj;rw [if_pos rfl];have hv := hR.sl j;rw [hs] at hv;generalize a.tmps.getD j undef = v at hv;simp only [Option.getD_some];cases hv with
   | own hp h0 =>
    rename_i cap b;have hC := hR.chunkAt hc hp;cases hC with
    | nil h =>
     have : n = 0 := by simpa using hn
     subst this;exact .d .nil
    | arr hb hf hsz hl hm h0' hrow hel =>
     rename_i b arr fz;have hlen : (els.take n).length = n := by simp; omega
     have hsub : ∀ (i : Nat) cs, (els.take n)[i]? = some cs → els[i]? = some cs := by
      intro i cs hi;rw [List.getElem?_take] at hi
      split at hi
      ·exact hi
      cases hi
     obtain ⟨q, hq, hr, hloc⟩ := hR.ch id _ hc;rw [hp] at hq;obtain rfl : (some b, cap) = q := by simpa using hq
     have hFb : Fz C m { s with sl := (j, .d (.view e sz (els.take n))) :: s.sl, ch := (id, none) :: s.ch } w b := by
      refine ⟨.inr (hloc b (.inl rfl)), lt_of_block hb, fun j' c p h1 h2 h3 => ?_⟩;obtain ⟨hne, h4⟩ := hch j' c h1;exact hne (hR.inj j' id c _ p _ h4 hc h2 hp b h3 (.inl rfl))
     have := DRep.view (F := Fz C m { s with sl := (j, .d (.view e sz (els.take n))) :: s.sl, ch := (id, none) :: s.ch } w) (e := e) (sz := sz) (els := els.take n) (off := 0) (cap := cap) hFb hb (by omega) hm (by omega) (fun i cs hi => hrow i cs (hsub i cs hi)) (fun i cs j d hi hj => by rw [Nat.zero_add]; exact (hel i cs j d (hsub i cs hi) hj).mono hF);rw [hlen] at this;exact .d this
  rw [if_neg hj];exact (hR.sl j).turn (MLe.refl m) (fun k hk _ => ⟨hF k hk, rfl⟩)
 obtain ⟨_, h2⟩ := hch j c h1;obtain ⟨p, hp, hr, hl⟩ := hR.ch j c h2;exact ⟨p, hp, hr.turn (MLe.refl m) (fun k hk _ => ⟨hF k hk, rfl⟩) (fun _ _ => rfl), hl⟩
theorem NOp.frz {ids : List Nat} {o : Oper} {i n e sz : Nat} {els els' : List (List DV)} {gone : List (Nat × Option Chunk)} (h : NOp P ids s o f ⟨.own f n, (f, some (.arr e sz els)) :: gone⟩) (hd : o.dst = some i) (hn : n ≤ els.length) (he : els.take n = els') : NOp P ids s o f ⟨.d (.view e sz els'), (f, none) :: gone⟩ := by
 refine ⟨fun s' ha C U U' a w m hR hU hU' hdd K Q hK => h.run s' ha C U U' a w m hR hU hU' hdd K Q fun a' w' m' hR' => hK a' w' m' ?_⟩;rw [hd] at hR' ⊢;have h2 := hR'.freeze (i := i) (id := f) (n := n) (e := e) (sz := sz) (els := els) (els' := els') (by rw [ASt.get_app, if_pos rfl]) (by rw [ASt.chunk_app]; simp [getL_cons]) hn he;refine h2.weaken rfl (fun j => .inr ?_) (fun id c hc => ?_) (fun _ h => h)
 ·rw [ASt.get_app];simp only [ASt.app, ASt.get, getL_cons, Option.some.injEq]
  by_cases hj : j = i
  ·subst hj; simp
  rw [if_neg hj, if_neg (Ne.symm hj), if_neg hj]
 rw [ASt.chunk_app] at hc;simp only [ASt.app, ASt.chunk, getL_cons, List.cons_append, getL_append];simp only [getL_cons] at hc
 by_cases hj : id = f
 ·subst hj; simp at hc
 rw [if_neg hj] at hc ⊢;rw [if_neg hj];cases hg : getL id gone with
 | none => rw [hg] at hc; exact hc
 | some o => rw [hg] at hc; simp only at hc; subst hc; rfl
theorem g_load_arrN {t : Nat} {ts : TS} {x : Operand} {id k e sz i : Nat} {els : List (List DV)} {cs : List DV} (ht : PT.ty P t = some ts) (hr : ts.kind.isRow = true) (hs : ts.size = sz) (h : s.ev x = .ptr id k) (hc : s.chunk id = some (.arr e sz els)) (hk : k = i * sz) (hi : els[i]? = some cs) : GOp P [id] s ⟨dst, .load t x, ty, pos, af, gd⟩ (.agg (cs.map .d)) := by
 refine ⟨fun s' ha C U a w m hR => ?_⟩;have hx := hR.ev x;rw [ha.2.1 x (by simp [Op.operands]), h] at hx;have hc' : s'.chunk id = some (.arr e sz els) := by rw [ha.2.2 id (by simp)]; exact hc
 generalize hv : a.eval x = v at hx;cases hx with
 | ptr hp =>
  have hC := hR.chunkAt hc' hp;cases hC with
  | arr hb hf hsz hl hm h0 hrow hel =>
   rename_i b cap arr fz;have h2 := (List.getElem?_eq_some_iff.1 hi).1;have hcs := hrow i cs hi
   have hle : k + ts.size ≤ arr.size := by
    have : (i + 1) * sz ≤ cap * sz := Nat.mul_le_mul_right _ (by omega);rw [Nat.succ_mul] at this;omega
   obtain ⟨r1, r2, r3⟩ := range_of (off := k) (n := ts.size) hb hle;refine ⟨_, ?_, .agg (vs := _) (by rw [← List.size_toArray] at r1; rw [r1]; simp; omega) (fun j c hc => ?_) (fun j hj => ?_)⟩
   ·simp only [execOp, Sem.run_bind, hv, run_loadN ht hr r1 r2, Result.andThen_ok, Sem.run_pure]
   ·rw [List.getElem?_map, Option.map_eq_some_iff] at hc;obtain ⟨d, hd, rfl⟩ := hc;have hj := (List.getElem?_eq_some_iff.1 hd).1;rw [r3 j (by omega), hk];exact .d (hel i cs j d hi hd)
   have hj' : j < ts.size := by rw [← r1]; simpa using hj
   rw [r3 j hj', hk];have hjc : j < cs.length := by omega
   exact (hel i cs j cs[j] hi (List.getElem?_eq_getElem hjc)).one
end
def sortI (l : List Int) : List Int := l.mergeSort (fun x y => decide (x ≤ y))
theorem sortI_len (l : List Int) : (sortI l).length = l.length := List.length_mergeSort _
theorem sortI_nil : sortI [] = [] := by simp [sortI]
theorem DRep.val_is {F : Nat → Prop} {w : World} {u v : Value} (h : DRep F w (.val u) v) : v = u ∧ okV u := by
 cases h with
 | val h => exact ⟨rfl, h⟩
theorem ASpec.ofSort {P : Program} {g : FuncId} {t : Nat} (zs : List Int) (hz : zs.length ≤ 1000000)
  (h : ∀ (blk off cap : Nat) (w : World), Sort.Holds (Value.int .i64) w blk off zs.toArray → blk < w.heap.size → zs.length < 4611686018427387904 → Calls P g #[.slice (some ⟨blk, off, none⟩) zs.length cap] w fun e w' =>
   e = .returned (.tuple #[]) ∧ ∃ n os, w' = Sort.grow (Sort.putRow (Value.int .i64) (Sort.ahead w n) blk off (zs.mergeSort fun x y => decide (x ≤ y)).toArray) os)
  (h0 : ∀ (p : Option Addr) (cap : Nat) (w : World), Calls P g #[.slice p 0 cap] w fun e w' => e = .returned (.tuple #[]) ∧ w' = w) :
  ASpec P g [.own 0 zs.length] [(0, .arr t 1 (zs.map fun x => [dI x]))] (Fun1 (.tup []) [(0, .arr t 1 ((sortI zs).map fun x => [dI x]))]) := by
 intro w m Fin vs hfin hn ha hch hinj hm;have ha0 := ha 0 _ rfl
 have hvs : vs = #[vs.getD 0 undef] := by
  apply Array.ext
  ·rw [hn]; rfl
  intro i hi1 hi2
  match i with
  | 0 => simp [Array.getD_eq_getD_getElem?, Array.getElem?_eq_getElem hi1]
  | i + 1 => simp at hi2
 obtain ⟨-, p, hp, hr⟩ := hch 0 _ rfl
 have hone : ∀ (id : Nat) (c d : Chunk), getL id [((0 : Nat), d)] = some c → id = 0 ∧ c = d := by
  intro id c d hc;rw [getL_cons] at hc
  split at hc
  ·rename_i e; simp at hc; exact ⟨e, hc.symm⟩
  simp [getL] at hc
 generalize hv0 : vs.getD 0 undef = v0 at ha0;rw [hv0] at hvs;subst hvs
 by_cases hz0 : zs = []
 ·subst hz0;rw [sortI_nil];cases ha0 with
  | own hq hq0 =>
   rename_i cap b;refine (h0 _ cap w).mono ?_;rintro e w' ⟨rfl, rfl⟩;refine ⟨_, _, _, m, fun k => (Fin k ∨ (∃ id c p, getL id [((0 : Nat), Chunk.arr t 1 (([] : List Int).map fun x => [dI x]))] = some c ∧ m id = some p ∧ occ p c k) ∨ w'.heap.size ≤ k) ∧ k < w'.heap.size ∧ ∀ id c p, getL id [((0 : Nat), Chunk.arr t 1 (([] : List Int).map fun x => [dI x]))] = some c → m id = some p → ¬ occ p c k, rfl, ⟨rfl, rfl⟩, fun _ _ _ h => h, fun id hid => hm id (by simp only [List.length_singleton] at hid ⊢; omega), fun k => Iff.rfl, ⟨rfl, rfl, rfl, Nat.le_refl _, fun _ _ _ => rfl⟩, .tup rfl (fun i c hc => by simp at hc), fun id c hc => ?_, fun id id' c c' p p' b hc hc' => ?_⟩
   ·obtain ⟨rfl, rfl⟩ := hone _ _ _ hc;refine ⟨p, hp, hr.turn (MLe.refl m) (fun k hk hlt => And.intro ⟨.inl hk, hlt, fun id c q hc hq5 => by obtain ⟨rfl, rfl⟩ := hone _ _ _ hc; exact (hfin k hk).2 0 _ q rfl hq5⟩ rfl) (fun _ _ => rfl), fun b hb => .inr ⟨0, _, p, rfl, hp, hb⟩⟩
   rw [(hone _ _ _ hc).1, (hone _ _ _ hc').1]; exact fun _ _ _ _ => rfl
 have hpos : 0 < zs.length := List.length_pos_iff.2 hz0;cases ha0 with
 | own hq hq0 =>
  rename_i cap b;cases b with
  | none => have := hq0 rfl; omega
  | some blk =>
   rw [hp] at hq;obtain rfl : p = (some blk, cap) := by simpa using hq
   cases hr with
   | arr hb hf hsz hl hmx h0' hrow hel =>
    rename_i arr fz;have hl' : zs.length ≤ cap := by simpa using hl
    have hcell : ∀ j (hj : j < zs.length), arr.getD j undef = .int .i64 zs[j] := by
     intro j hj;have := hel j [dI zs[j]] 0 (dI zs[j]) (by simp [List.getElem?_eq_getElem hj]) rfl;have e5 := this.val_is.1
     rwa [Nat.mul_one, Nat.add_zero] at e5
    have hH : Sort.Holds (Value.int .i64) w blk 0 zs.toArray := by
     intro j hj;have hj' : j < zs.length := by simpa using hj
     have hja : j < arr.size := by omega
     constructor
     ·unfold World.cell?;simp only [hb, Nat.zero_add, Option.isSome_none, Bool.false_eq_true, if_false];have := hcell j hj';rw [Array.getD_eq_getD_getElem?, Array.getElem?_eq_getElem hja] at this;rw [Array.getElem?_eq_getElem hja];simp only [Option.getD_some] at this;rw [this];congr 2;rw [getElem!_pos _ j hj]; rfl
     unfold World.frozen?;simp only [hb, Nat.zero_add];have := hf j hja;obtain ⟨lo, hi⟩ := fz;simp only [not_and, Nat.not_lt] at this ⊢;simpa using this
    refine (h blk 0 cap w hH (lt_of_block hb) (by omega)).mono ?_;rintro e w' ⟨rfl, n, os, rfl⟩;have hbw := lt_of_block hb
    have hheap : ∀ k, k < w.heap.size → (Sort.grow (Sort.putRow (Value.int .i64) (Sort.ahead w n) blk 0 (sortI zs).toArray) os).heap[k]? = if blk = k then some (.cells (Sort.putCells (Value.int .i64) 0 (sortI zs).toArray arr) t fz) else w.heap[k]? := by
     intro k hk;unfold Sort.grow Sort.putRow Sort.mapBlock Sort.ahead;simp only;rw [Array.getElem?_append_left (by simpa using hk), Array.getElem?_modify]
     by_cases e : blk = k
     ·subst e; rw [if_pos rfl, if_pos rfl, hb]; rfl
     rw [if_neg e, if_neg e]
    have hsize : w.heap.size ≤ (Sort.grow (Sort.putRow (Value.int .i64) (Sort.ahead w n) blk 0 (sortI zs).toArray) os).heap.size := by
     rw [Sort.size_grow, Sort.size_putRow]; exact Nat.le_add_right _ _
    have hold : ∀ k, Fin k → k < w.heap.size → (Sort.grow (Sort.putRow (Value.int .i64) (Sort.ahead w n) blk 0 (sortI zs).toArray) os).heap[k]? = w.heap[k]? := by
     intro k hk hlt;rw [hheap k hlt, if_neg];rintro rfl;exact (hfin blk hk).2 0 _ _ rfl hp (.inl rfl)
    refine ⟨_, _, _, m, fun k => (Fin k ∨ (∃ id c p, getL id [((0 : Nat), Chunk.arr t 1 (zs.map fun x => [dI x]))] = some c ∧ m id = some p ∧ occ p c k) ∨ w.heap.size ≤ k) ∧ k < (Sort.grow (Sort.putRow (Value.int .i64) (Sort.ahead w n) blk 0 (sortI zs).toArray) os).heap.size ∧ ∀ id c p, getL id [((0 : Nat), Chunk.arr t 1 ((sortI zs).map fun x => [dI x]))] = some c → m id = some p → ¬ occ p c k, rfl, ⟨rfl, rfl⟩, fun _ _ _ h => h, fun id hid => hm id (by simp only [List.length_singleton] at hid ⊢; omega), fun k => Iff.rfl, ⟨rfl, rfl, rfl, hsize, fun k hk hne => ?_⟩, .tup rfl (fun i c hc => by simp at hc), fun id c hc => ?_, fun id id' c c' p p' b hc hc' => ?_⟩
    ·exact (hheap k hk).trans (if_neg (fun e => hne 0 _ _ rfl hp (.inl (congrArg some e))))
    ·obtain ⟨rfl, rfl⟩ := hone _ _ _ hc;refine ⟨_, hp, .arr ((hheap blk hbw).trans (if_pos rfl)) (fun i hi => hf i (by simpa [Sort.putCells] using hi)) (by simpa [Sort.putCells] using hsz) (by rw [List.length_map, sortI_len]; exact hl') hmx h0' (fun i cs hi => ?_) (fun i cs j d hi hj => ?_), fun b hb' => .inr ⟨0, _, _, rfl, hp, hb'⟩⟩
     ·rw [List.getElem?_map, Option.map_eq_some_iff] at hi;obtain ⟨x, _, rfl⟩ := hi; rfl
     rw [List.getElem?_map, Option.map_eq_some_iff] at hi;obtain ⟨x, hx, rfl⟩ := hi;cases j with
     | succ j => simp at hj
     | zero =>
      simp at hj; subst hj;have hi' : i < (sortI zs).length := (List.getElem?_eq_some_iff.1 hx).1;have hi2 : i < arr.size := by rw [sortI_len] at hi'; omega
      have hd := hel i [dI (zs[i]'(by rw [sortI_len] at hi'; exact hi'))] 0 _ (by simp [List.getElem?_eq_getElem (show i < zs.length by rw [sortI_len] at hi'; exact hi')]) rfl;have hxx : (sortI zs)[i] = x := (List.getElem?_eq_some_iff.1 hx).2;have hxm : x ∈ zs := (List.mergeSort_perm zs _).mem_iff.1 (by rw [← hxx]; exact List.getElem_mem hi');obtain ⟨q, hq', hqx⟩ := List.getElem_of_mem hxm;have hdq := hel q [dI zs[q]] 0 (dI zs[q]) (by simp [List.getElem?_eq_getElem hq']) rfl
      have hok : okV (.int .i64 x) := by
       rw [hqx] at hdq;exact hdq.val_is.2
      have hval : (Sort.putCells (Value.int .i64) 0 (sortI zs).toArray arr).getD (i * 1 + 0) undef = .int .i64 x := by
       rw [Nat.mul_one, Nat.add_zero, Array.getD_eq_getD_getElem?];unfold Sort.putCells;rw [Array.getElem?_mapIdx, Array.getElem?_eq_getElem hi2];simp only [Option.map_some, Option.getD_some, Nat.zero_le, true_and, Nat.zero_add, Nat.sub_zero];rw [if_pos (by simpa using hi'), getElem!_pos _ i (by simpa using hi')];simp [hxx]
      rw [hval];exact .val hok
    rw [(hone _ _ _ hc).1, (hone _ _ _ hc').1]; exact fun _ _ _ _ => rfl
end Go.Proofs.YtknfdlakkbmdcaaGreat
namespace Go.Proofs
open Go.Shelf
def Tryz.lays189_ren : Go.Shelf.Ren := ⟨fun | 189 => 79 | 125 => 94 | 257 => 93 | 128 => 111 | 129 => 112 | 294 => 102 | 295 => 103 | 296 => 104 | 297 => 105 | 298 => 106 | 299 => 107 | 216 => 108 | 300 => 109 | 301 => 110 | 328 => 114 | 329 => 115 | 330 => 116 | 331 => 117 | 332 => 118 | 215 => 119 | 343 => 120 | n => n, fun | 28 => 29 | 3 => 3 | 46 => 121 | 0 => 0 | 51 => 135 | 53 => 101 | 4 => 4 | 183 => 128 | 182 => 127 | 131 => 132 | 5 => 5 | 9 => 9 | 218 => 137 | 222 => 141 | 228 => 143 | 229 => 144 | n => n, fun | n => n⟩
theorem Tryz.lays189 : Go.Proofs.Lays.n189 Tryz.prog Tryz.lays189_ren := {
 mixed := by kernel_rfl
 f125 := Tryz.func94.trans (congrArg some (by kernel_rfl))
 f128 := Tryz.func111.trans (congrArg some (by kernel_rfl))
 f129 := Tryz.func112.trans (congrArg some (by kernel_rfl))
 f189 := Tryz.func79.trans (congrArg some (by kernel_rfl))
 f215 := Tryz.func119.trans (congrArg some (by kernel_rfl))
 f216 := Tryz.func108.trans (congrArg some (by kernel_rfl))
 f257 := Tryz.func93.trans (congrArg some (by kernel_rfl))
 f294 := Tryz.func102.trans (congrArg some (by kernel_rfl))
 f295 := Tryz.func103.trans (congrArg some (by kernel_rfl))
 f296 := Tryz.func104.trans (congrArg some (by kernel_rfl))
 f297 := Tryz.func105.trans (congrArg some (by kernel_rfl))
 f298 := Tryz.func106.trans (congrArg some (by kernel_rfl))
 f299 := Tryz.func107.trans (congrArg some (by kernel_rfl))
 f300 := Tryz.func109.trans (congrArg some (by kernel_rfl))
 f301 := Tryz.func110.trans (congrArg some (by kernel_rfl))
 f328 := Tryz.func114.trans (congrArg some (by kernel_rfl))
 f329 := Tryz.func115.trans (congrArg some (by kernel_rfl))
 f330 := Tryz.func116.trans (congrArg some (by kernel_rfl))
 f331 := Tryz.func117.trans (congrArg some (by kernel_rfl))
 f332 := Tryz.func118.trans (congrArg some (by kernel_rfl))
 f343 := Tryz.func120.trans (congrArg some (by kernel_rfl))
 t0 := Tryz.underlying0
 a0 := Tryz.isAgg0
 z0 := Tryz.sizeOf0
 v0 := Tryz.zeroValue0
 t3 := Tryz.underlying3
 a3 := Tryz.isAgg3
 z3 := Tryz.sizeOf3
 v3 := Tryz.zeroValue3
 t4 := Tryz.underlying4
 a4 := Tryz.isAgg4
 z4 := Tryz.sizeOf4
 v4 := Tryz.zeroValue4
 t5 := Tryz.underlying5
 a5 := Tryz.isAgg5
 z5 := Tryz.sizeOf5
 v5 := Tryz.zeroValue5
 t9 := Tryz.underlying9
 a9 := Tryz.isAgg9
 z9 := Tryz.sizeOf9
 v9 := Tryz.zeroValue9
 t28 := Tryz.underlying29
 a28 := Tryz.isAgg29
 z28 := Tryz.sizeOf29
 v28 := Tryz.zeroValue29
 t46 := Tryz.underlying121
 a46 := Tryz.isAgg121
 z46 := Tryz.sizeOf121
 v46 := Tryz.zeroValue121
 t51 := Tryz.underlying135
 a51 := Tryz.isAgg135
 z51 := Tryz.sizeOf135
 v51 := Tryz.zeroValue135
 t53 := Tryz.underlying101
 a53 := Tryz.isAgg101
 z53 := Tryz.sizeOf101
 v53 := Tryz.zeroValue101
 t131 := Tryz.underlying132
 a131 := Tryz.isAgg132
 z131 := Tryz.sizeOf132
 v131 := Tryz.zeroValue132
 t182 := Tryz.underlying127
 a182 := Tryz.isAgg127
 z182 := Tryz.sizeOf127
 v182 := Tryz.zeroValue127
 t183 := Tryz.underlying128
 a183 := Tryz.isAgg128
 z183 := Tryz.sizeOf128
 v183 := Tryz.zeroValue128
 t218 := Tryz.underlying137
 a218 := Tryz.isAgg137
 z218 := Tryz.sizeOf137
 v218 := Tryz.zeroValue137
 t222 := Tryz.underlying141
 a222 := Tryz.isAgg141
 z222 := Tryz.sizeOf141
 v222 := Tryz.zeroValue141
 t228 := Tryz.underlying143
 a228 := Tryz.isAgg143
 z228 := Tryz.sizeOf143
 v228 := Tryz.zeroValue143
 t229 := Tryz.underlying144
 a229 := Tryz.isAgg144
 z229 := Tryz.sizeOf144
 v229 := Tryz.zeroValue144 }
open Go.Sort Go.RowKit in
theorem Tryz.slices_Sort_int (blk off cap : Nat) (zs : List Int) (w : World) (hH : Holds (Value.int .i64) w blk off zs.toArray) (hblk : blk < w.heap.size) (hsz : zs.length < 4611686018427387904) :
  Calls Tryz.prog 79 #[.slice (some ⟨blk, off, none⟩) zs.length cap] w fun e w' =>
   e = .returned (.tuple #[]) ∧ ∃ n os, w' = grow (putRow (Value.int .i64) (Sort.ahead w n) blk off (zs.mergeSort fun x y => decide (x ≤ y)).toArray) os := Any.slices_Sort_int Tryz.lays189 blk off cap zs w hH hblk hsz
open Go.RowKit Go.Sort in
theorem Tryz.slices_Sort_int_none (p : Option Addr) (cap : Nat) (w : World) :
  Calls Tryz.prog 79 #[.slice p 0 cap] w fun e w' => e = .returned (.tuple #[]) ∧ w' = w := Any.slices_Sort_int_none Tryz.lays189 p cap w
end Go.Proofs
namespace Go.Proofs.YtknfdlakkbmdcaaGreat
open Go.RowKit
abbrev ES := BitVec 64
abbrev vES (l : List ES) : DV := .view 102 1 (l.map fun b => [dU b])
abbrev brD (N : Net) (u : Unf) (L A : List ES) : List DV := [dI N.places, vTs N.ts, vCs u.cs, vEs u.es, vES L, vES A]
theorem vES_get {l : List ES} {k : Nat} (h : k < l.length) : (l.map fun b => [dU b])[k]? = some [dU l[k]] := by simp [List.getElem?_map, List.getElem?_eq_getElem h]
def subU (s : ES) (n : Nat) : Prop := ∀ e, s.getLsbD e = true → e < n
structure WB (u : Unf) (L A : List ES) : Prop where
 w : WF u
 e : u.es.length ≤ 64
 l : L.length = u.es.length
 a : A.length = u.es.length
 s : ∀ x, x ∈ L → subU x u.es.length
theorem esHas_spec (s : ES) (e : Nat) (he : e < 64) : ASpec Tryz.prog 113 [aU s, aI e] [] (Pure1 (aT (s.getLsbD e))) := by
 refine ASpec.of Tryz.func113 rfl rfl fun C hC => ?_
 refine AC.seq (AC.region ?_);refine za ?_;refine AL.nil (th_n (AC.seq (AC.region ?_)));refine zm ?_;refine zm ?_;refine AL.p (by exact g_shr64 rfl rfl he) rfl ?_;refine AL.p (by exact g_and64 (b := 1#64) rfl rfl) rfl ?_;refine zc ?_;refine za ?_;refine AL.nil (th_n (AC.ret (bq_r ?_)));exact ret1 rfl (by rw [← bit_at s e he])
theorem en_esHas : Enters Tryz.prog 113 := enters_of Tryz.func113 rfl rfl
def listK (s : ES) (k : Nat) : List Int := ((List.range k).filter (fun e => s.getLsbD e)).map (fun (e : Nat) => (e : Int))
def listI (s : ES) : List Int := listK s 64
theorem listK_succ (s : ES) (k : Nat) : listK s (k + 1) = listK s k ++ (if s.getLsbD k = true then [(k : Int)] else []) := by
 unfold listK;rw [List.range_succ, List.filter_append, List.map_append];congr 1;rw [List.filter_cons, List.filter_nil]
 split <;> rfl
theorem listK_len (s : ES) (k : Nat) : (listK s k).length ≤ k := by
 unfold listK;rw [List.length_map];exact Nat.le_trans (List.length_filter_le _ _) (by simp)
theorem listK_t {s : ES} {k : Nat} (h : s.getLsbD k = true) : listK s (k + 1) = listK s k ++ [(k : Int)] := by rw [listK_succ, if_pos h]
theorem listK_f {s : ES} {k : Nat} (h : s.getLsbD k = false) : listK s (k + 1) = listK s k := by rw [listK_succ, h, if_neg Bool.false_ne_true, List.append_nil]
theorem mem_listI {s : ES} {e : Int} : e ∈ listI s ↔ ∃ k : Nat, e = k ∧ s.getLsbD k = true := by
 unfold listI listK;rw [List.mem_map];constructor
 ·rintro ⟨k, hk, rfl⟩;exact ⟨k, rfl, (List.mem_filter.1 hk).2⟩
 rintro ⟨k, rfl, hk⟩;exact ⟨k, List.mem_filter.2 ⟨List.mem_range.2 (BitVec.lt_of_getLsbD hk), hk⟩, rfl⟩
set_option maxHeartbeats 1000000 in
theorem esList_spec (s : ES) : ASpec Tryz.prog 96 [aU s] [] (Pure1 (.d (vI (listI s)))) := by
 refine ASpec.of Tryz.func96 rfl rfl fun C hC => ?_
 refine AC.seq (AC.region ?_);refine za ?_;refine AL.nil (th_n (AC.seq (AC.region ?_)));refine AL.q (by exact h_lit rfl rfl rfl rfl rfl rfl rfl rfl) rfl ?_;refine AL.p (by exact as2 rfl) rfl ?_;refine AL.nil (th_n (AC.seq (AC.seq (AC.region ?_))));refine zm ?_;refine AL.nil (th_n (AC.block ?_));refine AC.loop (ι := Nat) (fun k => ⟨18, 108, [(0, aU s), (3, .own 100 (listK s k).length), (6, aI k)], [(100, some (.arr 3 1 (ints (listK s k))))]⟩) (fun k => k ≤ 64) (fun k => 64 - k) (0) ?_ (Nat.zero_le _) ?_
 ·exact zw [(100, 0)] hC
 intro k hk;refine AC.seq (AC.region ?_);refine zc ?_;refine AL.nil (th_n (AC.seq ?_));refine AC.condD rfl (fun h0 => ?_) (fun h0 => ?_)
 ·refine AC.skip (th_n (AC.seq (AC.block (AC.seq ?_))));have hk1 : k < 64 := by omega
  have hln := listK_len s k;have hHas := esHas_spec s k hk1;obtain ⟨hb, hhb⟩ := eqx (s.getLsbD k);rw [← hhb] at hHas;refine AC.region ?_;refine zm ?_;refine za ?_;refine AL.nil (th_n (AC.seq (AC.region ?_)));refine zm ?_;refine zm ?_;refine kV en_esHas hHas ?_;refine AL.nil (th_n ?_);refine AC.condB rfl (fun h1 => ?_) (fun h1 => ?_)
  ·refine AC.region ?_;refine kB ?_;refine zm ?_;refine AL.q (by exact h_litF rfl rfl rfl rfl rfl rfl rfl rfl) rfl ?_;refine AL.q (by exact h_appendI (listK s k) [(k : Int)] (.own rfl rfl (ints_len _).symm) (.view rfl) (by simp; omega) (by simp)) rfl ?_;refine AL.p (by exact as2 rfl) rfl ?_;refine AL.nil (ib_n (th_n (AC.region ?_)));refine zA ?_;refine zm ?_;refine AL.nil (th_n ?_)
   (have e := listK_t (hhb.symm.trans h1); exact ⟨k + 1, by omega, by omega, zw [(100, _)] hC (by rw [e]; repeat (first | exact True.intro | refine And.intro ?_ ?_ | exact DLead.same | exact rfl | refine ⟨_, rfl, ?_⟩)) (by rw [e]; repeat (first | exact True.intro | refine And.intro ?_ ?_ | exact rfl | refine ⟨_, _, rfl, rfl, ?_⟩))⟩)
  refine AC.skip (ib_n (th_n (AC.region ?_)));refine zA ?_;refine zm ?_;refine AL.nil (th_n ?_)
  (have e := listK_f (hhb.symm.trans h1); exact ⟨k + 1, by omega, by omega, zw [(100, _)] hC (by rw [e]; repeat (first | exact True.intro | refine And.intro ?_ ?_ | exact DLead.same | exact rfl | refine ⟨_, rfl, ?_⟩)) (by rw [e]; repeat (first | exact True.intro | refine And.intro ?_ ?_ | exact rfl | refine ⟨_, _, rfl, rfl, ?_⟩))⟩)
 refine AC.exit (th_e (th_e (ib_y (th_n (AC.seq ?_)))));have hk64 : k = 64 := by omega
 subst hk64;refine AC.weak (Weak.freeze (i := 3) rfl rfl (Nat.le_of_eq (ints_len _).symm) (ints_all _)) ?_;refine AC.region ?_;refine zm ?_;refine za ?_;refine AL.nil (th_n (AC.ret (bq_r ?_)));exact ret1 rfl rfl
theorem en_esList : Enters Tryz.prog 96 := enters_of Tryz.func96 rfl rfl
def clashAt (A : List ES) (s : ES) (e : Int) : Bool := !decide (((((A.getD e.toNat 0) &&& s).toNat : Nat) : Int) = 0)
theorem brClash1_spec (N : Net) (u : Unf) (L A : List ES) (s : ES) (e : Int) (h0 : 0 ≤ e) (he : e < A.length) (ha : A.length ≤ 1000) : ASpec Tryz.prog 97 [aI e, .d (.ref [.ref (brD N u L A)]), .d (.ref [dU s])] [] (Pure1 (aT (clashAt A s e))) := by
 obtain ⟨i, rfl⟩ : ∃ i : Nat, e = (i : Int) := ⟨e.toNat, by omega⟩;have hi : i < A.length := by omega
 have hget := vES_get hi;have hA : A.getD i 0 = A[i] := by rw [List.getD_eq_getElem?_getD, List.getElem?_eq_getElem hi]; rfl
 refine ASpec.of Tryz.func97 rfl rfl fun C hC => ?_
 refine AC.seq (AC.region ?_);refine za ?_;refine AL.nil (th_n (AC.seq ?_));refine AC.drawn' mixed_ok [[], [0], [0,1], [0,1,2], [], [0,1,2,3,4], [0,1,2,3,4,5], [], [0,1,2,3,4,5,6,7], [0,1,2,3,4,5,6,7,8], [0,1,2,3,4,5,6,7,8,9]] (by decide) ?_;refine zd 0 [] 11 (by exact g_load_ref rfl rfl rfl) ?_;refine zd 1 [0] 11 (by exact g_nilR rfl) ?_;refine zd 2 [0,1] 11 (by exact g_fa_ref rfl rfl rfl rfl rfl rfl) ?_;refine zd 3 [0,1,2] 11 (by exact g_load_ref rfl rfl rfl) ?_;refine zd 4 [] 11 (by exact mv1 rfl) ?_;refine zd 5 [0,1,2,3,4] 11 (by exact g_ia_view rfl rfl rfl rfl rfl (by rfl) (by assumption)) ?_;refine zd 6 [0,1,2,3,4,5] 11 (by exact g_load_ref rfl rfl rfl) ?_;refine zd 7 [] 11 (by exact g_load_ref rfl rfl rfl) ?_;refine zd 8 [0,1,2,3,4,5,6,7] 11 (by exact g_and64 rfl rfl) ?_;refine zd 9 (List.range 9) 11 (by exact g_cmp rfl rfl rfl) ?_;refine zd 10 (List.range 10) 11 (by exact as1 rfl) ?_;refine zj 11 ?_;refine th_n (AC.ret (bq_r ?_));exact ret1 rfl (by rw [clashAt, Int.toNat_natCast, hA])
theorem en_brClash1 : Enters Tryz.prog 97 := enters_of Tryz.func97 rfl rfl
def clashI (A : List ES) (s : ES) : Bool := (listI s).any (clashAt A s)
theorem listI_len (s : ES) : (listI s).length ≤ 64 := listK_len s 64
theorem listI_sub {s : ES} {n : Nat} (h : subU s n) : ∀ e, e ∈ listI s → 0 ≤ e ∧ e < n := by
 intro e he;obtain ⟨k, rfl, hk⟩ := mem_listI.1 he;have := h k hk;omega
set_option maxHeartbeats 1000000 in
theorem brClash_spec (N : Net) (u : Unf) (L A : List ES) (s : ES) (hs : subU s A.length) (ha : A.length ≤ 1000) : ASpec Tryz.prog 81 [.d (.ref (brD N u L A)), aU s] [] (Pure1 (aT (clashI A s))) := by
 have hl := listI_len s;refine ASpec.of Tryz.func81 rfl rfl fun C hC => ?_
 refine AC.seq (AC.region ?_);refine kD ?_;refine kD ?_;refine za ?_;refine AL.nil (th_n (AC.seq (AC.region ?_)));refine zr ?_;refine kV en_esList (esList_spec s) ?_;refine AL.p (by exact g_fn rfl) rfl ?_;refine AL.q (by exact h_pure en_containsInt rfl rfl (by repeat (first | exact rfl | exact DLead.same | refine ⟨_, _, rfl, ?_, ?_⟩ | refine ⟨_, rfl, ?_⟩)) (containsInt_spec (listI s) (by omega) 97 [.ref [.ref (brD N u L A)], .ref [dU s]] en_brClash1 (clashAt A s) (fun p h => brClash1_spec N u L A s p (listI_sub hs p h).1 (listI_sub hs p h).2 ha)) rfl) rfl ?_;refine za ?_;refine AL.nil (th_n (AC.ret (bq_r ?_)));exact ret1 rfl rfl
theorem en_brClash : Enters Tryz.prog 81 := enters_of Tryz.func81 rfl rfl
def usesAt (u : Unf) (c e : Int) : Bool := (evAt u e).any (fun x => decide (c = x))
theorem brConsumed1_spec (N : Net) (u : Unf) (L A : List ES) (c e : Int) (hw : WF u) (h0 : 0 ≤ e) (he : e < u.es.length) : ASpec Tryz.prog 99 [aI e, .d (.ref [.ref (brD N u L A)]), .d (.ref [dI c])] [] (Pure1 (aT (usesAt u c e))) := by
 obtain ⟨i, rfl⟩ : ∃ i : Nat, e = (i : Int) := ⟨e.toNat, by omega⟩;have hi : i < u.es.length := by omega
 have hget := evsL_get hi;have hel := hw.l _ (List.getElem_mem hi);have hA : evAt u (i : Int) = u.es[i].pre := evAt_nat hi;refine ASpec.of Tryz.func99 rfl rfl fun C hC => ?_
 refine AC.seq (AC.region ?_);refine za ?_;refine AL.nil (th_n (AC.seq ?_));refine AC.drawn' mixed_ok [[], [0], [0,1], [0,1,2], [0,1,2,3], [], [0,1,2,3,4,5], [0,1,2,3,4,5,6], [0,1,2,3,4,5,6,7], [], [0,1,2,3,4,5,6,7,8,9], [0,1,2,3,4,5,6,7,8,9,10]] (by decide) ?_;refine zd 0 [] 12 (by exact g_load_ref rfl rfl rfl) ?_;refine zd 1 [0] 12 (by exact g_nilR rfl) ?_;refine zd 2 [0,1] 12 (by exact g_fa_ref rfl rfl rfl rfl rfl rfl) ?_;refine zd 3 [0,1,2] 12 (by exact g_fa_ref rfl rfl rfl rfl rfl rfl) ?_;refine zd 4 [0,1,2,3] 12 (by exact g_load_ref rfl rfl rfl) ?_;refine zd 5 [] 12 (by exact mv1 rfl) ?_;refine zd 6 [0,1,2,3,4,5] 12 (by exact g_ia_view rfl rfl rfl rfl rfl (by rfl) (by assumption)) ?_;refine zd 7 [0,1,2,3,4,5,6] 12 (by exact g_fa_ref rfl rfl rfl rfl rfl rfl) ?_;refine zd 8 [0,1,2,3,4,5,6,7] 12 (by exact g_load_ref rfl rfl rfl) ?_;refine zd 9 [] 12 (by exact g_load_ref rfl rfl rfl) ?_;refine zh 10 (List.range 10) 12 (by exact h_pure en_Contains rfl rfl (by repeat (first | exact rfl | exact DLead.same | refine ⟨_, _, rfl, ?_, ?_⟩)) (Contains_spec u.es[i].pre (by omega) c) rfl) ?_;refine zd 11 (List.range 11) 12 (by exact as1 rfl) ?_;refine zj 12 ?_;refine th_n (AC.ret (bq_r ?_));exact ret1 rfl (by rw [usesAt, hA])
theorem en_brConsumed1 : Enters Tryz.prog 99 := enters_of Tryz.func99 rfl rfl
def consI (u : Unf) (s : ES) (c : Int) : Bool := (listI s).any (usesAt u c)
set_option maxHeartbeats 1000000 in
theorem brConsumed_spec (N : Net) (u : Unf) (L A : List ES) (s : ES) (c : Int) (hw : WF u) (hs : subU s u.es.length) : ASpec Tryz.prog 84 [.d (.ref (brD N u L A)), aU s, aI c] [] (Pure1 (aT (consI u s c))) := by
 have hl := listI_len s;refine ASpec.of Tryz.func84 rfl rfl fun C hC => ?_
 refine AC.seq (AC.region ?_);refine kD ?_;refine kD ?_;refine za ?_;refine AL.nil (th_n (AC.seq (AC.region ?_)));refine zm ?_;refine kV en_esList (esList_spec s) ?_;refine AL.p (by exact g_fn rfl) rfl ?_;refine AL.q (by exact h_pure en_containsInt rfl rfl (by repeat (first | exact rfl | exact DLead.same | refine ⟨_, _, rfl, ?_, ?_⟩ | refine ⟨_, rfl, ?_⟩)) (containsInt_spec (listI s) (by omega) 99 [.ref [.ref (brD N u L A)], .ref [dI c]] en_brConsumed1 (usesAt u c) (fun p h => brConsumed1_spec N u L A c p hw (listI_sub hs p h).1 (listI_sub hs p h).2)) rfl) rfl ?_;refine za ?_;refine AL.nil (th_n (AC.ret (bq_r ?_)));exact ret1 rfl rfl
theorem en_brConsumed : Enters Tryz.prog 84 := enters_of Tryz.func84 rfl rfl
def prodI (u : Unf) (L : List ES) (c : Int) : ES := if 0 ≤ (cAt u c).by_ then L.getD (cAt u c).by_.toNat 0 else 0
theorem prodI_sub {u : Unf} {L A : List ES} (hW : WB u L A) (c : Int) : subU (prodI u L c) u.es.length := by
 unfold prodI
 split
 ·rw [List.getD_eq_getElem?_getD];cases h : L[(cAt u c).by_.toNat]? with
  | none => intro e he; simp at he
  | some x => exact hW.s x (List.mem_of_getElem? h)
 intro e he; simp at he
set_option maxHeartbeats 1000000 in
theorem brProducer_spec (N : Net) (u : Unf) (L A : List ES) (c : Int) (hW : WB u L A) (h0 : 0 ≤ c) (hc : c < u.cs.length) : ASpec Tryz.prog 65 [.d (.ref (brD N u L A)), aI c] [] (Pure1 (aU (prodI u L c))) := by
 obtain ⟨i, rfl⟩ : ∃ i : Nat, c = (i : Int) := ⟨c.toNat, by omega⟩;have hi : i < u.cs.length := by omega
 have hget := condsL_get hi;have hcl := hW.w.c;have hll := hW.l;have hb := hW.w.b _ (List.getElem_mem hi);have hA : cAt u (i : Int) = u.cs[i] := cAt_nat hi;refine ASpec.of Tryz.func65 rfl rfl fun C hC => ?_
 refine AC.seq (AC.region ?_);refine za ?_;refine AL.nil (th_n (AC.seq (AC.seq (AC.region ?_))));refine zm ?_;refine AL.p (by exact g_nilR rfl) rfl ?_;refine zf ?_;refine zf ?_;refine zr ?_;refine zm ?_;refine AL.p (by exact g_ia_view rfl rfl rfl rfl rfl (by rfl) (by assumption)) rfl ?_;refine zf ?_;refine zr ?_;refine za ?_;refine AL.nil (th_n (AC.seq (AC.region ?_)));refine zm ?_;refine zc ?_;refine AL.nil (th_n ?_);refine AC.condD rfl (fun h0 => ?_) (fun h0 => ?_)
 ·refine AC.seq ?_;obtain ⟨j, hj⟩ : ∃ j : Nat, u.cs[i].by_ = (j : Int) := ⟨u.cs[i].by_.toNat, by omega⟩;have hjl : j < L.length := by omega
  have hgetL := vES_get hjl;have hel := hW.e;rw [hj];refine AC.region ?_;refine zm ?_;refine AL.p (by exact g_nilR rfl) rfl ?_;refine zf ?_;refine zr ?_;refine zm ?_;refine AL.p (by exact g_ia_view rfl rfl rfl rfl rfl (by rfl) (by assumption)) rfl ?_;refine zr ?_;refine za ?_;refine AL.nil (th_n (AC.ret (th_r (bq_r ?_))));exact ret1 rfl (by rw [prodI, hA, if_pos h0, hj, Int.toNat_natCast, List.getD_eq_getElem?_getD, List.getElem?_eq_getElem hjl]; rfl)
 refine AC.skip (th_n (AC.seq (AC.region ?_)));refine za ?_;refine AL.nil (th_n (AC.ret (bq_r ?_)));exact ret1 rfl (by rw [prodI, hA, if_neg h0]; rfl)
theorem en_brProducer : Enters Tryz.prog 65 := enters_of Tryz.func65 rfl rfl
def allB (u : Unf) (L : List ES) (l : List Int) : ES := l.foldl (fun a c => a ||| prodI u L c) 0
theorem allB_take {u : Unf} {L : List ES} {l : List Int} {k : Nat} (hk : k < l.length) : allB u L (l.take (k + 1)) = allB u L (l.take k) ||| prodI u L l[k] := by
 unfold allB;rw [List.take_add_one, List.getElem?_eq_getElem hk, List.foldl_append]; rfl
theorem subU_or {a b : ES} {n : Nat} (ha : subU a n) (hb : subU b n) : subU (a ||| b) n := by
 intro e he;rw [BitVec.getLsbD_or, Bool.or_eq_true] at he;rcases he with h | h
 ·exact ha e h
 exact hb e h
theorem allB_sub {u : Unf} {L A : List ES} (hW : WB u L A) (l : List Int) : subU (allB u L l) u.es.length := by
 suffices h : ∀ (l : List Int) (a : ES), subU a u.es.length → subU (l.foldl (fun a c => a ||| prodI u L c) a) u.es.length from h l 0 (fun e he => by simp at he)
 intro l
 induction l with
 | nil => intro a ha; exact ha
 | cons c l ih => intro a ha; exact ih _ (subU_or ha (prodI_sub hW c))
theorem nodup_of {l : List Int} (h : ∀ j (hj : j < l.length), (l.take j).any (fun x => decide (l[j] = x)) = false) : l.Nodup := by
 rw [List.Nodup, List.pairwise_iff_getElem];intro i j hi hj hij e;have := List.any_eq_false.1 (h j hj) l[i] (by rw [List.mem_take_iff_getElem]; exact ⟨i, by omega, rfl⟩);rw [e] at this;simp at this
theorem not_nodup {l : List Int} {j : Nat} (hj : j < l.length) (h : (l.take j).any (fun x => decide (l[j] = x)) = true) : ¬ l.Nodup := by
 intro hn;obtain ⟨x, hx, he⟩ := List.any_eq_true.1 h;obtain ⟨i, hi, rfl⟩ := List.mem_take_iff_getElem.1 hx;rw [List.Nodup, List.pairwise_iff_getElem] at hn;exact hn i j (by omega) hj (by omega) (by simpa using (of_decide_eq_true he).symm)
def cosetI (u : Unf) (L A : List ES) (l : List Int) : Bool := decide l.Nodup && (!clashI A (allB u L l) && !l.any (fun c => consI u (allB u L l) c))
theorem brIsCoSet1_spec (N : Net) (u : Unf) (L A : List ES) (s : ES) (c : Int) (hw : WF u) (hs : subU s u.es.length) : ASpec Tryz.prog 83 [aI c, .d (.ref [.ref (brD N u L A)]), .d (.ref [dU s])] [] (Pure1 (aT (consI u s c))) := by
 have hK := brConsumed_spec N u L A s c hw hs;obtain ⟨b, hb⟩ := eqx (consI u s c);rw [← hb] at hK ⊢;refine ASpec.of Tryz.func83 rfl rfl fun C hC => ?_
 refine AC.seq (AC.region ?_);refine za ?_;refine AL.nil (th_n (AC.seq (AC.region ?_)));refine zr ?_;refine zr ?_;refine zm ?_;refine kV en_brConsumed hK ?_;refine za ?_;refine AL.nil (th_n (AC.ret (bq_r ?_)));exact ret1 rfl rfl
theorem en_brIsCoSet1 : Enters Tryz.prog 83 := enters_of Tryz.func83 rfl rfl
set_option maxHeartbeats 2000000 in
theorem brIsCoSet_spec (N : Net) (u : Unf) (L A : List ES) (l : List Int) (hW : WB u L A) (hl : l.length ≤ 1000000) (hin : ∀ c, c ∈ l → 0 ≤ c ∧ c < u.cs.length) : ASpec Tryz.prog 63 [.d (.ref (brD N u L A)), .d (vI l)] [] (Pure1 (aT (cosetI u L A l))) := by
 have hsub := allB_sub hW l;have hal := hW.a;have hel := hW.e;have hCl := brClash_spec N u L A (allB u L l) (by rw [hal]; exact hsub) (by omega);have hC1 := fun p (h : p ∈ l) => brIsCoSet1_spec N u L A (allB u L l) p hW.w hsub
 obtain ⟨S, hS⟩ := eqx (allB u L l);have hco : cosetI u L A l = (decide l.Nodup && (!clashI A S && !l.any (fun c => consI u S c))) := by rw [hS]; rfl
 rw [← hS] at hCl hC1 hsub;obtain ⟨cl, hcl⟩ := eqx (clashI A S);rw [← hcl] at hCl hco;have hCC := containsInt_spec l (by omega) 83 [.ref [.ref (brD N u L A)], .ref [dU S]] en_brIsCoSet1 (fun c => consI u S c) hC1;obtain ⟨co, hcoo⟩ := eqx (l.any (fun c => consI u S c));rw [← hcoo] at hCC hco;refine ASpec.of Tryz.func63 rfl rfl fun C hC => ?_
 refine AC.seq (AC.region ?_);refine kD ?_;refine za ?_;refine AL.nil (th_n (AC.seq (AC.region ?_)));refine kE ?_;refine zs ?_;refine AL.nil (th_n (AC.seq (AC.seq (AC.region ?_))));refine zm ?_;refine kH ?_;refine zm ?_;refine AL.nil (th_n (AC.block ?_));refine AC.loop (ι := Nat) (fun k => ⟨36, 108, [(1, .d (vI l)), (2, .d (.ref [.ref (brD N u L A)])), (5, .ptr 100 0), (8, .d (vI l)), (9, aI l.length), (10, aI k)], [(100, some (.cells 102 [aU (allB u L (l.take k))]))]⟩) (fun k => k ≤ l.length ∧ ∀ j (hj : j < l.length), j < k → (l.take j).any (fun x => decide (l[j] = x)) = false) (fun k => l.length - k) (0) ?_ (⟨Nat.zero_le _, fun j _ hj => by omega⟩) ?_
 ·exact zw [(100, _)] hC
 intro k ⟨hk, hall⟩;refine AC.seq (AC.region ?_);refine zc ?_;refine AL.nil (th_n (AC.seq ?_));refine AC.condD rfl (fun h0 => ?_) (fun h0 => ?_)
 ·refine AC.skip (th_n (AC.seq (AC.block (AC.seq ?_))));have hk1 : k < l.length := by omega
  have hget := ints_at hk1;have hinc := hin _ (List.getElem_mem hk1);have hkl : k ≤ (ints l).length := by rw [ints_len]; exact hk
  have htk : ((ints l).take k).drop 0 = ints (l.take k) := by simp [List.map_take]
  have hCo := Contains_spec (l.take k) (by rw [List.length_take]; omega) l[k];have hP := brProducer_spec N u L A l[k] hW hinc.1 hinc.2;have hat := allB_take (u := u) (L := L) hk1;obtain ⟨ct, hct⟩ := eqx ((l.take k).any (fun x => decide (l[k] = x)));rw [← hct] at hCo;refine AC.region ?_;refine zm ?_;refine AL.p (by exact g_ia_view rfl rfl rfl rfl rfl (by rfl) (by assumption)) rfl ?_;refine zr ?_;refine za ?_;refine za ?_;refine AL.nil (th_n (AC.seq (AC.seq (AC.region ?_))));refine zm ?_;refine zm ?_;refine AL.p (by exact g_slice_view (r := ints (l.take k)) (l := 0) (h := k) rfl rfl rfl rfl .none (.some rfl rfl) (Nat.zero_le _) hkl htk) rfl ?_;refine zm ?_;refine kV en_Contains hCo ?_;refine AL.nil (th_n ?_);refine AC.condB rfl (fun h1 => ?_) (fun h1 => ?_)
  ·refine AC.seq (AC.region ?_);refine za ?_;refine AL.nil (th_n (AC.ret (th_r (ib_r (th_r (th_r (ib_r (th_r (bq_r ?_)))))))));have hz := not_nodup hk1 (hct.symm.trans h1);exact ret1 rfl (by rw [hco, decide_eq_false hz]; rfl)
  refine AC.skip (th_n ?_);refine AC.drawn' mixed_ok [[], [], [], [1,2], [0,1,2,3], [0,1,2,3,4]] (by decide) ?_;refine zd 0 [] 6 (by exact g_load_ptr rfl rfl rfl rfl rfl) ?_;refine zd 1 [] 6 (by exact g_load_ref rfl rfl rfl) ?_;refine zd 2 [] 6 (by exact mv1 rfl) ?_;refine zh 3 [1,2] 6 (by exact h_pure en_brProducer rfl rfl (by repeat (first | exact rfl | exact DLead.same | refine ⟨_, _, rfl, ?_, ?_⟩)) hP rfl) ?_;refine zd 4 [0,1,2,3] 6 (by exact g_or64 rfl rfl) ?_;refine zh 5 [0,1,2,3,4] 6 (by exact h_store rfl rfl rfl rfl rfl rfl) ?_;refine zj 6 ?_;refine ib_n (th_n (AC.region ?_));refine zA ?_;refine zm ?_;refine AL.nil (th_n ?_);exact ⟨k + 1, ⟨by omega, fun j hj hj2 => by rcases Nat.lt_succ_iff_lt_or_eq.1 hj2 with h | rfl; exact hall j hj h; exact hct.symm.trans h1⟩, by omega, zw [(100, _)] hC (b := by rw [hat]; repeat (first | exact True.intro | refine And.intro ?_ ?_ | exact DLead.same | exact rfl | refine ⟨_, _, rfl, rfl, ?_⟩ | refine ⟨_, rfl, ?_⟩ | refine ⟨_, _, rfl, ?_, ?_⟩))⟩
 refine AC.exit (th_e (th_e (ib_y (th_n (AC.seq ?_)))));have hkk : k = l.length := by omega
 subst hkk;rw [List.take_length, ← hS];have hnd : decide l.Nodup = true := decide_eq_true (nodup_of fun j hj => hall j hj hj);refine AC.weak (Weak.freezeRef (ds := [dU S]) 5 rfl rfl) ?_;refine AC.region ?_;refine zr ?_;refine zr ?_;refine kV en_brClash hCl ?_;refine kC ?_;refine zm ?_;refine AL.caseGB rfl rfl (fun h1 => ?_) (fun h1 => ?_)
 ·refine zy ?_;refine zm ?_;refine zy ?_;refine AL.p (by exact g_fn rfl) rfl ?_;refine zy ?_;refine kV en_containsInt hCC ?_;refine zy ?_;refine kC ?_;refine zQ ?_;refine za ?_;refine AL.nil (th_n (AC.ret (bq_r ?_)));exact ret1 rfl (by rw [hco, hnd, h1]; rfl)
 refine zn ?_;refine zn ?_;refine zn ?_;refine zn ?_;refine zP ?_;refine za ?_;refine AL.nil (th_n (AC.ret (bq_r ?_)));exact ret1 rfl (by rw [hco, hnd, h1]; rfl)
theorem en_brIsCoSet : Enters Tryz.prog 63 := enters_of Tryz.func63 rfl rfl
def sameEv (x h : Ev) : Bool := decide (x.t = h.t) && decide (x.pre = h.pre)
theorem equalEvents_spec (x h : Ev) (h1 : x.pre.length ≤ 1000000) (h2 : h.pre.length ≤ 1000000) : ASpec Tryz.prog 87 [evA x, evA h] [] (Pure1 (aT (sameEv x h))) := by
 refine ASpec.of Tryz.func87 rfl rfl fun C hC => ?_
 refine AC.seq (AC.region ?_);refine kD ?_;refine kD ?_;refine za ?_;refine AL.nil (th_n (AC.seq (AC.region ?_)));refine zf ?_;refine zr ?_;refine zf ?_;refine zr ?_;refine zc ?_;refine zm ?_;refine AL.caseG rfl rfl (fun h0 => ?_) (fun h0 => ?_)
 ·refine zy ?_;refine zf ?_;refine zy ?_;refine zr ?_;refine zy ?_;refine zf ?_;refine zy ?_;refine zr ?_;refine zy ?_;refine AL.q (by exact h_pure en_slEqual rfl rfl (by repeat (first | exact rfl | exact DLead.same | refine ⟨_, _, rfl, ?_, ?_⟩)) (slEqual_spec _ _ (by assumption) (by assumption)) rfl) rfl ?_;refine zQ ?_;refine za ?_;refine AL.nil (th_n (AC.ret (bq_r ?_)));exact ret1 rfl (by rw [sameEv, decide_eq_true h0]; rfl)
 refine zn ?_;refine zn ?_;refine zn ?_;refine zn ?_;refine zn ?_;refine zP ?_;refine za ?_;refine AL.nil (th_n (AC.ret (bq_r ?_)));exact ret1 rfl (by rw [sameEv, decide_eq_false h0]; rfl)
theorem en_equalEvents : Enters Tryz.prog 87 := enters_of Tryz.func87 rfl rfl
theorem brIsIn1_spec (x h : Ev) (h1 : x.pre.length ≤ 1000000) (h2 : h.pre.length ≤ 1000000) : ASpec Tryz.prog 86 [evA x, .d (.ref (evD h))] [] (Pure1 (aT (sameEv x h))) := by
 refine ASpec.of Tryz.func86 rfl rfl fun C hC => ?_
 refine AC.seq (AC.region ?_);refine kD ?_;refine za ?_;refine AL.nil (th_n (AC.seq (AC.region ?_)));refine kG ?_;refine kG ?_;refine kV en_equalEvents (equalEvents_spec x h h1 h2) ?_;refine za ?_;refine AL.nil (th_n (AC.ret (bq_r ?_)));exact ret1 rfl rfl
theorem en_brIsIn1 : Enters Tryz.prog 86 := enters_of Tryz.func86 rfl rfl
set_option maxHeartbeats 1000000 in
theorem indexEv_spec (l : List Ev) (hl : l.length ≤ 2000000) (g : FuncId) (ds : List DV) (hen : Enters Tryz.prog g) (p : Ev → Bool) (hp : ∀ t, t ∈ l → ASpec Tryz.prog g (evA t :: ds.map .d) [] (Pure1 (aT (p t)))) : ASpec Tryz.prog 100 [.d (vEs l), .clo g (ds.map .d)] [] (Pure1 (aI (findI p l))) := by
 refine ASpec.of Tryz.func100 rfl rfl fun C hC => ?_
 refine AC.seq (AC.region ?_);refine za ?_;refine AL.nil (th_n (AC.seq (AC.seq (AC.region ?_))));refine zm ?_;refine kH ?_;refine zm ?_;refine AL.nil (th_n (AC.block ?_));refine AC.loop (ι := Nat) (fun k => ⟨19, 0, [(0, .d (vEs l)), (1, .clo g (ds.map .d)), (6, .d (vEs l)), (7, aI l.length), (8, aI k)], []⟩) (fun k => k ≤ l.length ∧ ∀ j (hj : j < l.length), j < k → p l[j] = false) (fun k => l.length - k) (0) ?_ (⟨Nat.zero_le _, fun j _ hj => by omega⟩) ?_
 ·refine Weak.ren _ [] hC rfl ⟨.same, ⟨_, rfl, leadsL_data _ ds⟩, ?_⟩ trivial rfl rfl rfl; repeat (first | exact True.intro | refine And.intro ?_ ?_ | exact DLead.same)
 intro k ⟨hk, hall⟩;refine AC.seq (AC.region ?_);refine zc ?_;refine AL.nil (th_n (AC.seq ?_));refine AC.condD rfl (fun h0 => ?_) (fun h0 => ?_)
 ·refine AC.skip (th_n (AC.seq (AC.block (AC.seq ?_))));have hk1 : k < l.length := by omega
  have hget := evsL_get hk1;refine AC.region ?_;refine zm ?_;refine za ?_;refine AL.nil (th_n (AC.seq (AC.region ?_)));refine AL.p (by exact mv6 rfl) rfl ?_;refine zm ?_;refine zm ?_;refine AL.p (by exact g_ia_view rfl rfl rfl rfl rfl (by rfl) (by assumption)) rfl ?_;refine kG ?_;refine AL.q (by exact h_pure hen rfl rfl (by exact ⟨_, _, rfl, ⟨_, rfl, _, _, rfl, .same, _, _, rfl, .same, rfl⟩, leadsL_data _ ds⟩) (hp l[k] (List.getElem_mem hk1)) rfl) rfl ?_;refine AL.nil (th_n ?_);refine AC.condB rfl (fun h1 => ?_) (fun h1 => ?_)
  ·refine AC.seq (AC.region ?_);refine zm ?_;refine za ?_;refine AL.nil (th_n (AC.ret (ib_r (th_r (th_r (ib_r (th_r (bq_r ?_))))))));exact ret1 rfl (by rw [findI_at hk1 h1 (fun j hj => hall j (by omega) hj)])
  refine AC.skip (ib_n (th_n (AC.region ?_)));refine zA ?_;refine zm ?_;refine AL.nil (th_n ?_);exact ⟨k + 1, ⟨by omega, fun j hj hj2 => by rcases Nat.lt_succ_iff_lt_or_eq.1 hj2 with h | rfl; exact hall j hj h; exact h1⟩, by omega, Weak.ren _ [] hC rfl ⟨.same, ⟨_, rfl, leadsL_data _ ds⟩, by repeat (first | exact True.intro | refine And.intro ?_ ?_ | exact DLead.same)⟩ trivial rfl rfl rfl⟩
 refine AC.exit (th_e (th_e (ib_y (th_n (AC.seq (AC.region ?_))))));refine za ?_;refine AL.nil (th_n (AC.ret (bq_r ?_)));exact ret1 rfl (by rw [findI_none (fun j hj => hall j hj (by omega))])
theorem en_indexEv : Enters Tryz.prog 100 := enters_of Tryz.func100 rfl rfl
theorem containsEv_spec (l : List Ev) (hl : l.length ≤ 2000000) (g : FuncId) (ds : List DV) (hen : Enters Tryz.prog g) (p : Ev → Bool) (hp : ∀ t, t ∈ l → ASpec Tryz.prog g (evA t :: ds.map .d) [] (Pure1 (aT (p t)))) : ASpec Tryz.prog 85 [.d (vEs l), .clo g (ds.map .d)] [] (Pure1 (aT (l.any p))) := by
 refine ASpec.of Tryz.func85 rfl rfl fun C hC => ?_
 refine AC.seq (AC.region ?_);refine za ?_;refine AL.nil (th_n (AC.seq (AC.region ?_)));refine zm ?_;refine AL.p (by exact mv6 rfl) rfl ?_;refine AL.q (by exact h_pure en_indexEv rfl rfl (by exact ⟨_, _, rfl, .same, _, _, rfl, ⟨_, rfl, leadsL_data _ ds⟩, rfl⟩) (indexEv_spec l hl g ds hen p hp) rfl) rfl ?_;refine zc ?_;refine za ?_;refine AL.nil (th_n (AC.ret (bq_r ?_)));exact ret1 rfl (by rw [findI_any])
theorem en_containsEv : Enters Tryz.prog 85 := enters_of Tryz.func85 rfl rfl
theorem brIsIn_spec (N : Net) (u : Unf) (L A : List ES) (h : Ev) (hw : WF u) (h2 : h.pre.length ≤ 1000000) : ASpec Tryz.prog 64 [.d (.ref (brD N u L A)), evA h] [] (Pure1 (aT (fitB u h))) := by
 have hel := hw.e;have hCC := containsEv_spec u.es (by omega) 86 [.ref (evD h)] en_brIsIn1 (fun x => sameEv x h) (fun x hx => brIsIn1_spec x h (hw.l x hx) h2);refine ASpec.of Tryz.func64 rfl rfl fun C hC => ?_
 refine AC.seq (AC.region ?_);refine kD ?_;refine za ?_;refine AL.nil (th_n (AC.seq (AC.region ?_)));refine zm ?_;refine AL.p (by exact g_nilR rfl) rfl ?_;refine zf ?_;refine zf ?_;refine zr ?_;refine AL.p (by exact g_fn rfl) rfl ?_;refine kV en_containsEv hCC ?_;refine za ?_;refine AL.nil (th_n (AC.ret (bq_r ?_)));exact ret1 rfl rfl
theorem en_brIsIn : Enters Tryz.prog 64 := enters_of Tryz.func64 rfl rfl
theorem en_slSort : Enters Tryz.prog 79 := enters_of Tryz.func79 rfl rfl
theorem slSort_spec (l : List Int) (hl : l.length ≤ 1000000) : ASpec Tryz.prog 79 [.own 0 l.length] [(0, .arr 3 1 (ints l))] (Fun1 (.tup []) [(0, .arr 3 1 (ints (sortI l)))]) :=
 ASpec.ofSort l hl (fun blk off cap w h1 h2 h3 => Tryz.slices_Sort_int blk off cap l w h1 h2 h3) (fun p cap w => Tryz.slices_Sort_int_none p cap w)
def plK (u : Unf) (l : List Int) : List Int := l.map (fun c => (cAt u c).place)
theorem plK_take {u : Unf} {l : List Int} {k : Nat} (hk : k < l.length) : plK u (l.take (k + 1)) = plK u (l.take k) ++ [(cAt u l[k]).place] := by
 unfold plK;rw [List.take_add_one, List.getElem?_eq_getElem hk, List.map_append]; rfl
theorem plK_len (u : Unf) (l : List Int) : (plK u l).length = l.length := List.length_map _
set_option maxHeartbeats 1000000 in
theorem brPlacesOf_spec (N : Net) (u : Unf) (L A : List ES) (l : List Int) (hw : WF u) (hl : l.length ≤ 1000000) (hin : ∀ c, c ∈ l → 0 ≤ c ∧ c < u.cs.length) : ASpec Tryz.prog 62 [.d (.ref (brD N u L A)), .d (vI l)] [] (Pure1 (.d (vI (sortI (plK u l))))) := by
 refine ASpec.of Tryz.func62 rfl rfl fun C hC => ?_
 refine AC.seq (AC.region ?_);refine za ?_;refine AL.nil (th_n (AC.seq (AC.region ?_)));refine AL.q (by exact h_lit rfl rfl rfl rfl rfl rfl rfl rfl) rfl ?_;refine AL.p (by exact as2 rfl) rfl ?_;refine AL.nil (th_n (AC.seq (AC.seq (AC.region ?_))));refine zm ?_;refine kH ?_;refine zm ?_;refine AL.nil (th_n (AC.block ?_));refine AC.loop (ι := Nat) (fun k => ⟨31, 108, [(0, .d (.ref (brD N u L A))), (5, .own 100 k), (9, .d (vI l)), (10, aI l.length), (11, aI k)], [(100, some (.arr 3 1 (ints (plK u (l.take k)))))]⟩) (fun k => k ≤ l.length) (fun k => l.length - k) (0) ?_ (Nat.zero_le _) ?_
 ·exact zw [(100, 0)] hC
 intro k hk;refine AC.seq (AC.region ?_);refine zc ?_;refine AL.nil (th_n (AC.seq ?_));refine AC.condD rfl (fun h0 => ?_) (fun h0 => ?_)
 ·refine AC.skip (th_n (AC.seq (AC.block (AC.seq ?_))));have hk1 : k < l.length := by omega
  have hget := ints_at hk1;have hi0 := hin _ (List.getElem_mem hk1);obtain ⟨i, hi⟩ : ∃ i : Nat, l[k] = (i : Int) := ⟨l[k].toNat, by omega⟩;have hic : i < u.cs.length := by omega
  have hgetc := condsL_get hic;have hcl := hw.c;have hcv : cAt u l[k] = u.cs[i] := by rw [hi]; exact cAt_nat hic
  have hpt := plK_take (u := u) hk1;rw [hcv] at hpt;have hpl : (plK u (l.take k)).length = k := by rw [plK_len, List.length_take]; omega
  rw [hi] at hget;refine AC.region ?_;refine AL.p (by exact g_ia_view rfl rfl rfl rfl rfl (by rfl) (by assumption)) rfl ?_;refine zr ?_;refine za ?_;refine AL.nil (th_n (AC.region ?_));refine kB ?_;refine zm ?_;refine AL.p (by exact g_nilR rfl) rfl ?_;refine zf ?_;refine zf ?_;refine zr ?_;refine zm ?_;refine AL.p (by exact g_ia_view rfl rfl rfl rfl rfl (by rfl) (by assumption)) rfl ?_;refine zf ?_;refine zr ?_;refine AL.q (by exact h_litF rfl rfl rfl rfl rfl rfl rfl rfl) rfl ?_;refine AL.q (by exact h_appendI (plK u (l.take k)) [u.cs[i].place] (.own rfl rfl (by rw [ints_len, hpl])) (.view rfl) (by simp; omega) (by simp)) rfl ?_;refine AL.p (by exact as2 rfl) rfl ?_;refine AL.nil (ib_n (th_n (AC.region ?_)));refine zA ?_;refine zm ?_;refine AL.nil (th_n ?_);have hl5 : (plK u (l.take k) ++ [u.cs[i].place]).length = k + 1 := by rw [List.length_append, hpl]; rfl
  exact ⟨k + 1, by omega, by omega, zw [(100, _)] hC (by rw [← hl5]; repeat (first | exact True.intro | refine And.intro ?_ ?_ | exact DLead.same | exact DLead.eqI (by omega) | exact rfl | refine ⟨_, rfl, ?_⟩)) (by rw [hpt]; repeat (first | exact True.intro | refine And.intro ?_ ?_ | exact rfl | refine ⟨_, _, rfl, rfl, ?_⟩))⟩
 refine AC.exit (th_e (th_e (ib_y (th_n (AC.seq ?_)))));have hkk : k = l.length := by omega
 subst hkk;rw [List.take_length];have hpl := plK_len u l;have hSo := slSort_spec (plK u l) (by omega);rw [hpl] at hSo;have hsl : (sortI (plK u l)).length = l.length := by rw [sortI_len, hpl]
 refine AC.region ?_;refine kB ?_;refine kU [100] en_slSort hSo ?_;refine AL.nil (th_n (AC.seq ?_));refine AC.weak (Weak.freeze (i := 5) (els' := ints (sortI (plK u l))) rfl rfl (by rw [ints_len, hsl]; exact Nat.le_refl _) (List.take_of_length_le (by rw [ints_len, hsl]; exact Nat.le_refl _))) ?_;refine AC.region ?_;refine zm ?_;refine za ?_;refine AL.nil (th_n (AC.ret (bq_r ?_)));exact ret1 rfl rfl
theorem en_brPlacesOf : Enters Tryz.prog 62 := enters_of Tryz.func62 rfl rfl
def fitA1 (N : Net) (u : Unf) (h : Ev) : Bool := inR N h.t && rising h.pre 0 ((u.cs.length : Int) - 1)
def fitsJ (N : Net) (u : Unf) (L A : List ES) (h : Ev) : Bool := fitA1 N u h && (decide (sortI (plK u h.pre) = (tAt N h.t).pre) && (cosetI u L A h.pre && !fitB u h))
theorem fitA1_f0 {N : Net} {u : Unf} {h : Ev} (h0 : (!(decide (0 ≤ h.t) && decide (h.t ≤ (N.ts.length : Int) - 1))) = true) : fitA1 N u h = false := by
 have : inR N h.t = false := (Bool.not_eq_true' _).mp h0;rw [fitA1, this]; rfl
theorem fitA1_f1 {N : Net} {u : Unf} {h : Ev} (h1 : (!rising h.pre 0 ((u.cs.length : Int) - 1)) = true) : fitA1 N u h = false := by
 rw [fitA1, (Bool.not_eq_true' _).mp h1, Bool.and_false]
theorem fitA1_t {N : Net} {u : Unf} {h : Ev} (h0 : (!(decide (0 ≤ h.t) && decide (h.t ≤ (N.ts.length : Int) - 1))) = false) (h1 : (!rising h.pre 0 ((u.cs.length : Int) - 1)) = false) : fitA1 N u h = true := by
 have : inR N h.t = true := (Bool.not_eq_false' _).mp h0;rw [fitA1, this, (Bool.not_eq_false' _).mp h1]; rfl
set_option maxRecDepth 20000 in
set_option maxHeartbeats 4000000 in
theorem brFits_spec (N : Net) (u : Unf) (L A : List ES) (h : Ev) (hB : NetB N) (hW : WB u L A) (hh2 : h.pre.length ≤ 2000000) : ASpec Tryz.prog 32 [.d (.ref (brD N u L A)), evA h] [] (Pure1 (aT (fitsJ N u L A h))) := by
 have hcl := hW.w.c;have hnl := hB.l;have hTi : (!(decide (0 ≤ h.t) && decide (h.t ≤ (N.ts.length : Int) - 1))) = false → h.t = (h.t.toNat : Int) := by intro q; simp at q; omega
 have hTg : (!(decide (0 ≤ h.t) && decide (h.t ≤ (N.ts.length : Int) - 1))) = false → (tsL N.ts)[h.t.toNat]? = some (tnD (tAt N h.t)) := by
  intro q;have q2 : h.t.toNat < N.ts.length := by simp at q; omega
  have := tsL_get q2;unfold tAt;rw [List.getD_eq_getElem?_getD, List.getElem?_eq_getElem q2]; exact this
 refine ASpec.of Tryz.func32 rfl rfl fun C hC => ?_
 refine AC.seq (AC.region ?_);refine kD ?_;refine za ?_;refine AL.nil (th_n (AC.seq (AC.seq ?_)));refine AC.drawn' mixed_ok [[], [0], [], [2], [2,3], [2,3,4], [2,3,4,5], [2,3,4,5,6], [2,3,4,5,6,7], [0,1,2,3,4,5,6,7,8], [0,1,2,3,4,5,6,7,8,9], [0,1,2,3,4,5,6,7,8,9,10], [0,1,2,3,4,5,6,7,8,9,10,11], [0,1,2,3,4,5,6,7,8,9,10,11,12], [0,1,2,3,4,5,6,7,8,9,10,11], [0,1,2,3,4,5,6,7,8,9,10,11,14], [0,1,2,3,4,5,6,7,8,9,10,11,14,15], [0,1,2,3,4,5,6,7,8,9,10,11,14,15,16], [0,1,2,3,4,5,6,7,8,9,10,11,14,15,16,17], [0,1,2,3,4,5,6,7,8,9,10,11,14,15,16,17,18], [0,1,2,3,4,5,6,7,8,9,10,11,12,13,14,15,16,17,18,19], [0,1,2,3,4,5,6,7,8,9,10,11,12,13,14,15,16,17,18,19,20], [0,1,2,3,4,5,6,7,8,9,10,11,12,13,14,15,16,17,18,19,20,21]] (by decide) ?_;refine zd 0 [] 23 (by exact g_fa_ref rfl rfl rfl rfl rfl rfl) ?_;refine zd 1 [0] 23 (by exact g_load_ref rfl rfl rfl) ?_;refine zd 2 [] 23 (by exact mv1 rfl) ?_;refine zd 3 [2] 23 (by exact g_nilR rfl) ?_;refine zd 4 [2,3] 23 (by exact g_fa_ref rfl rfl rfl rfl rfl rfl) ?_;refine zd 5 [2,3,4] 23 (by exact g_fa_ref rfl rfl rfl rfl rfl rfl) ?_;refine zd 6 [2,3,4,5] 23 (by exact g_load_ref rfl rfl rfl) ?_;refine zd 7 [2,3,4,5,6] 23 (by exact g_len_view rfl rfl (by exact List.length_map _)) ?_;refine zd 8 [2,3,4,5,6,7] 23 (by exact g_arith rfl rfl rfl (by exact wrap_i64 (by omega))) ?_;refine zh 9 (List.range 9) 23 (by exact h_pure en_within rfl rfl (by repeat (first | exact rfl | exact DLead.same | refine ⟨_, _, rfl, ?_, ?_⟩)) (within_spec _ _ _) rfl) ?_;refine zd 10 (List.range 10) 23 (by exact g_not rfl) ?_;refine zd 11 (List.range 11) 23 (by exact mv1 rfl) ?_;refine DF.caseB 11 rfl (fun h0 => ?_) (fun h0 => ?_)
 ·refine zg 12 (List.range 12) 23 ?_;refine zg 13 (List.range 13) 23 ?_;refine zg 14 (List.range 12) 23 ?_;refine zg 15 [0,1,2,3,4,5,6,7,8,9,10,11,14] 23 ?_;refine zg 16 [0,1,2,3,4,5,6,7,8,9,10,11,14,15] 23 ?_;refine zg 17 [0,1,2,3,4,5,6,7,8,9,10,11,14,15,16] 23 ?_;refine zg 18 [0,1,2,3,4,5,6,7,8,9,10,11,14,15,16,17] 23 ?_;refine zg 19 [0,1,2,3,4,5,6,7,8,9,10,11,14,15,16,17,18] 23 ?_;refine zg 20 (List.range 20) 23 ?_;refine zg 21 (List.range 21) 23 ?_;refine zd 22 (List.range 22) 23 (by exact g_pickT (r := .d _) rfl rfl) ?_;refine zj 23 ?_;refine th_n ?_;refine AC.condT rfl ?_;refine AC.seq (AC.region ?_);refine za ?_;refine AL.nil (th_n (AC.ret (th_r (bq_r ?_))));have hA := fitA1_f0 (u := u) h0;exact ret1 rfl (by rw [fitsJ, hA]; rfl)
 refine ze 12 (List.range 12) 23 (by exact g_fa_ref rfl rfl rfl rfl rfl rfl) ?_;refine ze 13 (List.range 13) 23 (by exact g_load_ref rfl rfl rfl) ?_;refine ze 14 (List.range 12) 23 (by exact mv1 rfl) ?_;refine ze 15 [0,1,2,3,4,5,6,7,8,9,10,11,14] 23 (by exact g_nilR rfl) ?_;refine ze 16 [0,1,2,3,4,5,6,7,8,9,10,11,14,15] 23 (by exact g_fa_ref rfl rfl rfl rfl rfl rfl) ?_;refine ze 17 [0,1,2,3,4,5,6,7,8,9,10,11,14,15,16] 23 (by exact g_fa_ref rfl rfl rfl rfl rfl rfl) ?_;refine ze 18 [0,1,2,3,4,5,6,7,8,9,10,11,14,15,16,17] 23 (by exact g_load_ref rfl rfl rfl) ?_;refine ze 19 [0,1,2,3,4,5,6,7,8,9,10,11,14,15,16,17,18] 23 (by exact g_len_view rfl rfl (by exact List.length_map _)) ?_;refine zi 20 (List.range 20) 23 (by exact h_pure en_isIncreasing rfl rfl (by repeat (first | exact rfl | exact DLead.same | refine ⟨_, _, rfl, ?_, ?_⟩)) (isIncreasing_spec _ _ (by assumption) (by omega)) rfl) ?_;refine ze 21 (List.range 21) 23 (by exact g_not rfl) ?_;refine zd 22 (List.range 22) 23 (by exact g_pickF (r := .d _) rfl rfl) ?_;refine zj 23 ?_;refine th_n ?_;refine AC.condB rfl (fun h1 => ?_) (fun h1 => ?_)
 ·refine AC.seq (AC.region ?_);refine za ?_;refine AL.nil (th_n (AC.ret (th_r (bq_r ?_))));have hA := fitA1_f1 (N := N) h1;exact ret1 rfl (by rw [fitsJ, hA]; rfl)
 refine AC.skip (th_n (AC.seq ?_));have hA := fitA1_t (u := u) h0 h1;have hh : h.pre.length ≤ 1000000 := by have := rising_len ((Bool.not_eq_false' _).mp h1); omega
 have hT0 := hTi h0;have hTt : h.t.toNat < N.ts.length := by have := h0; simp at this; omega
 have hTm : tAt N h.t ∈ N.ts := by rw [hT0, tAt_nat hTt]; exact List.getElem_mem hTt
 have hTl := (hB.t _ hTm).1;have hpi : ∀ c, c ∈ h.pre → 0 ≤ c ∧ c < u.cs.length := fun c hc => by have := rising_in ((Bool.not_eq_false' _).mp h1) c hc; omega
 have hPl := brPlacesOf_spec N u L A h.pre hW.w hh hpi;have hCo := brIsCoSet_spec N u L A h.pre hW hh hpi;have hIs := brIsIn_spec N u L A h hW.w hh;have hpll : (sortI (plK u h.pre)).length ≤ 1000000 := by rw [sortI_len, plK_len]; exact hh
 obtain ⟨pl, hple⟩ := eqx (sortI (plK u h.pre));obtain ⟨co, hco⟩ := eqx (cosetI u L A h.pre);obtain ⟨isn, hisn⟩ := eqx (fitB u h);have hJ : fitsJ N u L A h = (decide (pl = (tAt N h.t).pre) && (co && !isn)) := by rw [fitsJ, hA, hple, hco, hisn]; rfl
 rw [← hple] at hPl hpll;rw [← hco] at hCo;rw [← hisn] at hIs;refine AC.drawn' mixed_ok [[], [], [1], [0,1,2], [], [4], [4,5], [4,5,6], [4,5,6,7], [], [9], [4,5,6,7,8,9,10], [4,5,6,7,8,9,10,11], [4,5,6,7,8,9,10,11,12], [0,1,2,3,4,5,6,7,8,9,10,11,12,13], [0,1,2,3,4,5,6,7,8,9,10,11,12,13,14], [0,1,2,3,4,5,6,7,8,9,10,11,12,13,14,15], [0,1,2,3,4,5,6,7,8,9,10,11,12,13,14,15], [0,1,2,3,4,5,6,7,8,9,10,11,12,13,14,15,17], [0,1,2,3,4,5,6,7,8,9,10,11,12,13,14,15,16,17,18], [0,1,2,3,4,5,6,7,8,9,10,11,12,13,14,15,16,17,18,19], [0,1,2,3,4,5,6,7,8,9,10,11,12,13,14,15,16,17,18,19,20], [0,1,2,3,4,5,6,7,8,9,10,11,12,13,14,15,16,17,18,19,20,21], [0,1,2,3,4,5,6,7,8,9,10,11,12,13,14,15,16,17,18,19,20,21], [0,1,2,3,4,5,6,7,8,9,10,11,12,13,14,15,16,17,18,19,20,21,22,23], [0,1,2,3,4,5,6,7,8,9,10,11,12,13,14,15,16,17,18,19,20,21,22,23,24], [0,1,2,3,4,5,6,7,8,9,10,11,12,13,14,15,16,17,18,19,20,21,22,23,24,25], [0,1,2,3,4,5,6,7,8,9,10,11,12,13,14,15,16,17,18,19,20,21,22,23,24,25,26]] (by decide) ?_;refine zd 0 [] 28 (by exact mv1 rfl) ?_;refine zd 1 [] 28 (by exact g_fa_ref rfl rfl rfl rfl rfl rfl) ?_;refine zd 2 [1] 28 (by exact g_load_ref rfl rfl rfl) ?_;refine zh 3 [0,1,2] 28 (by exact h_pure en_brPlacesOf rfl rfl (by repeat (first | exact rfl | exact DLead.same | refine ⟨_, _, rfl, ?_, ?_⟩)) hPl rfl) ?_;refine zd 4 [] 28 (by exact mv1 rfl) ?_;refine zd 5 [4] 28 (by exact g_nilR rfl) ?_;refine zd 6 [4,5] 28 (by exact g_fa_ref rfl rfl rfl rfl rfl rfl) ?_;refine zd 7 [4,5,6] 28 (by exact g_fa_ref rfl rfl rfl rfl rfl rfl) ?_;refine zd 8 [4,5,6,7] 28 (by exact g_load_ref rfl rfl rfl) ?_;refine zd 9 [] 28 (by exact g_fa_ref rfl rfl rfl rfl rfl rfl) ?_;refine zd 10 [9] 28 (by exact g_load_ref rfl rfl rfl) ?_;refine zd 11 [4,5,6,7,8,9,10] 28 (by exact g_ia_view (i := h.t.toNat) rfl rfl rfl rfl rfl (hTi h0) (hTg h0)) ?_;refine zd 12 [4,5,6,7,8,9,10,11] 28 (by exact g_fa_ref rfl rfl rfl rfl rfl rfl) ?_;refine zd 13 [4,5,6,7,8,9,10,11,12] 28 (by exact g_load_ref rfl rfl rfl) ?_;refine zh 14 (List.range 14) 28 (by exact h_pure en_slEqual rfl rfl (by repeat (first | exact rfl | exact DLead.same | refine ⟨_, _, rfl, ?_, ?_⟩)) (slEqual_spec _ _ (by assumption) (by assumption)) rfl) ?_;refine zd 15 (List.range 15) 28 (by exact mv1 rfl) ?_;refine DF.caseD 15 rfl (fun h2 => ?_) (fun h2 => ?_)
 ·refine ze 16 (List.range 16) 28 (by exact mv1 rfl) ?_;refine ze 17 (List.range 16) 28 (by exact g_fa_ref rfl rfl rfl rfl rfl rfl) ?_;refine ze 18 [0,1,2,3,4,5,6,7,8,9,10,11,12,13,14,15,17] 28 (by exact g_load_ref rfl rfl rfl) ?_;refine zi 19 (List.range 19) 28 (by exact h_pure en_brIsCoSet rfl rfl (by repeat (first | exact rfl | exact DLead.same | refine ⟨_, _, rfl, ?_, ?_⟩)) hCo rfl) ?_;refine zd 20 (List.range 20) 28 (by exact g_pickT (r := .d _) rfl rfl) ?_;refine zd 21 (List.range 21) 28 (by exact mv1 rfl) ?_;refine DF.caseB 21 rfl (fun h3 => ?_) (fun h3 => ?_)
  ·refine ze 22 (List.range 22) 28 (by exact mv1 rfl) ?_;refine ze 23 (List.range 22) 28 (by exact g_load_refN rfl rfl rfl rfl) ?_;refine zi 24 (List.range 24) 28 (by exact h_pure en_brIsIn rfl rfl (by repeat (first | exact rfl | exact DLead.same | refine ⟨_, _, rfl, ?_, ?_⟩ | refine ⟨_, rfl, ?_⟩)) hIs rfl) ?_;refine ze 25 (List.range 25) 28 (by exact g_not rfl) ?_;refine zd 26 (List.range 26) 28 (by exact g_pickT (r := .d _) rfl rfl) ?_;refine zd 27 (List.range 27) 28 (by exact as1 rfl) ?_;refine zj 28 ?_;refine th_n (AC.ret (bq_r ?_));exact ret1 rfl (by rw [hJ, decide_eq_true h2, h3]; rfl)
  refine zg 22 (List.range 22) 28 ?_;refine zg 23 (List.range 22) 28 ?_;refine zg 24 (List.range 24) 28 ?_;refine zg 25 (List.range 25) 28 ?_;refine zd 26 (List.range 26) 28 (by exact g_pickF (r := .d _) rfl rfl) ?_;refine zd 27 (List.range 27) 28 (by exact as1 rfl) ?_;refine zj 28 ?_;refine th_n (AC.ret (bq_r ?_));exact ret1 rfl (by rw [hJ, decide_eq_true h2, h3]; rfl)
 refine zg 16 (List.range 16) 28 ?_;refine zg 17 (List.range 16) 28 ?_;refine zg 18 [0,1,2,3,4,5,6,7,8,9,10,11,12,13,14,15,17] 28 ?_;refine zg 19 (List.range 19) 28 ?_;refine zd 20 (List.range 20) 28 (by exact g_pickF (r := .d _) rfl rfl) ?_;refine zd 21 (List.range 21) 28 (by exact mv1 rfl) ?_;refine zg 22 (List.range 22) 28 ?_;refine zg 23 (List.range 22) 28 ?_;refine zg 24 (List.range 24) 28 ?_;refine zg 25 (List.range 25) 28 ?_;refine zd 26 (List.range 26) 28 (by exact g_pickF (r := .d _) rfl rfl) ?_;refine zd 27 (List.range 27) 28 (by exact as1 rfl) ?_;refine zj 28 ?_;refine th_n (AC.ret (bq_r ?_));exact ret1 rfl (by rw [hJ, decide_eq_false h2]; rfl)
theorem en_brFits : Enters Tryz.prog 32 := enters_of Tryz.func32 rfl rfl
theorem full_t {a b : Nat} (h : 60 < (a : Int)) : (!(decide ((a : Int) ≤ 60) && decide ((b : Int) ≤ 200))) = true := by rw [decide_eq_false (by omega)]; rfl
theorem full_f {a b : Nat} (h : ¬ 60 < (a : Int)) : (!(decide ((a : Int) ≤ 60) && decide ((b : Int) ≤ 200))) = decide (200 < (b : Int)) := by
 rw [decide_eq_true (by omega : (a : Int) ≤ 60), Bool.true_and]
 by_cases hb : 200 < (b : Int)
 ·rw [decide_eq_true hb, decide_eq_false (by omega)]; rfl
 rw [decide_eq_false hb, decide_eq_true (by omega)]; rfl
theorem isFull_spec (u : Unf) (h1 : u.es.length ≤ 1048576) (h2 : u.cs.length ≤ 1048576) : ASpec Tryz.prog 34 [unfA u] [] (Pure1 (aT (!limB u))) := by
 refine ASpec.of Tryz.func34 rfl rfl fun C hC => ?_
 refine AC.seq (AC.region ?_);refine kD ?_;refine za ?_;refine AL.nil (th_n (AC.seq (AC.region ?_)));refine zf ?_;refine zr ?_;refine kH ?_;refine zc ?_;refine zm ?_;refine AL.caseG rfl rfl (fun h0 => ?_) (fun h0 => ?_)
 ·refine zn ?_;refine zn ?_;refine zn ?_;refine zn ?_;refine zQ ?_;refine za ?_;refine AL.nil (th_n (AC.ret (bq_r ?_)));have e := full_t (b := u.cs.length) h0;exact ret1 rfl (by rw [limB, e])
 refine zy ?_;refine zf ?_;refine zy ?_;refine zr ?_;refine zy ?_;refine kH ?_;refine zy ?_;refine zc ?_;refine zP ?_;refine za ?_;refine AL.nil (th_n (AC.ret (bq_r ?_)));have e := full_f (b := u.cs.length) h0;exact ret1 rfl (by rw [limB, e])
theorem en_isFull : Enters Tryz.prog 34 := enters_of Tryz.func34 rfl rfl
abbrev brC (N : Net) (i1 n1 i2 n2 i3 n3 i4 n4 : Nat) : Chunk := .cells 74 [.d (dI N.places), .d (vTs N.ts), .own i1 n1, .own i2 n2, .own i3 n3, .own i4 n4]
abbrev esL (l : List ES) : List (List DV) := l.map fun b => [dU b]
theorem esL_len (l : List ES) : (esL l).length = l.length := List.length_map _
abbrev brChs (N : Net) (u : Unf) (L A : List ES) : List (Nat × Chunk) := [(0, brC N 1 u.cs.length 2 u.es.length 3 L.length 4 A.length), (1, .arr 88 2 (condsL u.cs)), (2, .arr 46 2 (evsL u.es)), (3, .arr 102 1 (esL L)), (4, .arr 102 1 (esL A))]
set_option maxHeartbeats 2000000 in
theorem newBr_spec (N : Net) (m : List UInt8) (hN : NetS N) (hm : (m.length : Int) = N.places) : ASpec Tryz.prog 57 [netA N, aS (bstr m)] [] (Fun1 (.ptr 0 0) (brChs N ⟨madeI N m, []⟩ [] [])) := by
 have hpl := hN.p;obtain ⟨P, hP⟩ : ∃ P : Nat, N.places = (P : Int) := ⟨N.places.toNat, by omega⟩;have hmd : madeI N m = madeL m P := by unfold madeI; rw [hP, Int.toNat_natCast]
 rw [hmd];refine ASpec.of Tryz.func57 rfl rfl fun C hC => ?_
 refine AC.seq (AC.region ?_);refine kD ?_;refine za ?_;refine AL.nil (th_n (AC.seq (AC.region ?_)));refine kG ?_;refine AL.p (by exact g_build rfl rfl rfl) rfl ?_;refine AL.q (by exact h_box rfl) rfl ?_;refine AL.p (by exact as3 rfl) rfl ?_;refine AL.nil (th_n (AC.seq (AC.seq (AC.region ?_))));refine zf ?_;refine zr ?_;refine zm ?_;refine AL.nil (th_n (AC.block ?_));refine AC.loop (ι := Nat) (fun k => ⟨34, 136, [(1, aS (bstr m)), (5, .ptr 100 0), (11, aI N.places), (12, aI k)], [(100, some (.cells 74 [.d (dI N.places), .d (vTs N.ts), .own 101 (madeL m k).length, .d (.val (.slice none 0 0)), .d (.val (.slice none 0 0)), .d (.val (.slice none 0 0))])), (101, some (.arr 88 2 (condsL (madeL m k))))]⟩) (fun k => k ≤ P) (fun k => P - k) (0) ?_ (Nat.zero_le _) ?_
 ·exact (Weak.nilOwnP 5 2 (e := 88) (sz := 2) rfl rfl rfl rfl rfl).trans (zw [(100, _), (101, _)] hC)
 intro k hk;refine AC.seq (AC.region ?_);refine zc ?_;refine AL.nil (th_n (AC.seq ?_));refine AC.condD rfl (fun h0 => ?_) (fun h0 => ?_)
 ·refine AC.skip (th_n (AC.seq (AC.block (AC.seq ?_))));have hk1 : k < m.length := by omega
  have hget := bstr_at hk1;have hgd : m.getD k 0 = m[k] := by rw [List.getD_eq_getElem?_getD, List.getElem?_eq_getElem hk1]; rfl
  have hln := madeL_len m k;refine AC.region ?_;refine zm ?_;refine za ?_;refine AL.nil (th_n (AC.seq (AC.region ?_)));refine zm ?_;refine zm ?_;refine AL.p (by exact g_index rfl rfl rfl (by rfl) (by assumption)) rfl ?_;refine zc ?_;refine AL.nil (th_n ?_);refine AC.condD rfl (fun h1 => ?_) (fun h1 => ?_)
  ·refine AC.region ?_;refine AL.p (by exact mv3 rfl) rfl ?_;refine AL.p (by exact mv3 rfl) rfl ?_;refine AL.p (by exact g_nilP rfl) rfl ?_;refine zF ?_;refine zF ?_;refine zl ?_;refine zm ?_;refine AL.p (by exact g_build rfl rfl rfl) rfl ?_;refine AL.q (by exact h_litF rfl rfl rfl rfl rfl rfl rfl rfl) rfl ?_;refine AL.q (by exact h_appendC (madeL m k) [⟨(k : Int), -1⟩] (.own rfl rfl (condsL_len _).symm) (.view rfl) (by simp; omega) (by simp)) rfl ?_;refine AL.p (by exact g_nilP rfl) rfl ?_;refine zF ?_;refine zF ?_;refine zs ?_;refine AL.nil (ib_n (th_n (AC.region ?_)));refine zA ?_;refine zm ?_;refine AL.nil (th_n ?_)
   (have e := madeL_t (m := m) (k := k) (mk_t hgd h1); exact ⟨k + 1, by omega, by omega, zw [(100, _), (101, _)] hC (b := by rw [e]; repeat (first | exact True.intro | refine And.intro ?_ ?_ | exact DLead.same | exact rfl | refine ⟨_, _, rfl, rfl, ?_⟩ | refine ⟨_, rfl, ?_⟩ | refine ⟨_, _, rfl, ?_, ?_⟩))⟩)
  refine AC.skip (ib_n (th_n (AC.region ?_)));refine zA ?_;refine zm ?_;refine AL.nil (th_n ?_)
  (have e := madeL_f (m := m) (k := k) (mk_f hgd h1); exact ⟨k + 1, by omega, by omega, zw [(100, _), (101, _)] hC (b := by rw [e]; repeat (first | exact True.intro | refine And.intro ?_ ?_ | exact DLead.same | exact rfl | refine ⟨_, _, rfl, rfl, ?_⟩ | refine ⟨_, rfl, ?_⟩ | refine ⟨_, _, rfl, ?_, ?_⟩))⟩)
 refine AC.exit (th_e (th_e (ib_y (th_n (AC.seq ?_)))));have hkP : k = P := by omega
 subst hkP;refine AC.weak (Weak.nilOwnP 5 3 (e := 46) (sz := 2) rfl rfl rfl rfl rfl) ?_;refine AC.weak (Weak.nilOwnP 5 4 (e := 102) (sz := 1) rfl rfl rfl rfl rfl) ?_;refine AC.weak (Weak.nilOwnP 5 5 (e := 102) (sz := 1) rfl rfl rfl rfl rfl) ?_;refine AC.region ?_;refine AL.p (by exact mv3 rfl) rfl ?_;refine AL.p (by exact as3 rfl) rfl ?_;refine AL.nil (th_n (AC.ret (bq_r ?_)));exact retN [(0, _), (1, _), (2, _), (3, _), (4, _)] rfl (by repeat (first | exact rfl | refine ⟨_, rfl, ?_⟩)) (by repeat (first | exact True.intro | refine And.intro ?_ ?_ | exact DLead.same | exact rfl | refine ⟨_, _, rfl, rfl, ?_⟩ | refine ⟨_, rfl, ?_⟩ | refine ⟨_, _, rfl, ?_, ?_⟩)) rfl rfl
theorem en_newBr : Enters Tryz.prog 57 := enters_of Tryz.func57 rfl rfl
end Go.Proofs.YtknfdlakkbmdcaaGreat
