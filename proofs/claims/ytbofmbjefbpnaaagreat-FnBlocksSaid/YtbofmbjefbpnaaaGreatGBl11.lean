/- Contracts of the functions of the program and of the reference, each proved by a walk through its code. -/
import Derived.Test.YtbofmbjefbpnaaaGreatGBl10
set_option linter.all false
set_option maxRecDepth 20000
namespace Go.Proofs.YtbofmbjefbpnaaaGreat
open Go.RowKit
theorem isLb_dec (x : Lab) (a : Ar) : isLb x a = decide (a.sig = x.sig ∧ a.up = x.up) := by unfold isLb; rw [Bool.decide_and]
theorem labelOfArc_spec (a : Ar) : ASpec Tryz.prog 79 [arA a] [] (Pure1 (.agg [aI a.sig, aT a.up])) := by
 refine ASpec.of Tryz.func79 rfl rfl fun C hC => ?_
 refine AC.seq (AC.region ?_);refine kD ?_;refine kE ?_;refine AL.nil (th_n (AC.seq (AC.region ?_)));refine zf ?_;refine zr ?_;refine zf ?_;refine zr ?_;refine AL.p (by exact g_build rfl rfl rfl) rfl ?_;refine zs ?_;refine AL.nil (th_n (AC.ret (bq_r ?_)));exact ret0 rfl (by repeat (first | exact DLead.same | exact rfl | refine ⟨_, rfl, ?_⟩ | refine ⟨_, _, rfl, ?_, ?_⟩))
theorem en_labelOfArc : Enters Tryz.prog 79 := enters_of Tryz.func79 rfl rfl
noncomputable def sigQ (c : SG) (g : Int) : Bool := validC c && (decide (0 ≤ g) && decide (g ≤ (c.sigs.length : Int) - 1))
theorem hasSignal_spec (c : SG) (g : Int) (hc : SgL c) : ASpec Tryz.prog 56 [sgA c, aI g] [] (Pure1 (aT (sigQ c g))) := by
 have hV := iValidSg_spec c hc;have hW := within_spec g 0 ((c.sigs.length : Int) - 1);have hn := hc.sg;have hR : sigQ c g = (validC c && (decide (0 ≤ g) && decide (g ≤ (c.sigs.length : Int) - 1))) := rfl;obtain ⟨b, hb⟩ := eqx (validC c);rw [← hb] at hV hR;obtain ⟨d, hd⟩ := eqx ((decide (0 ≤ g) && decide (g ≤ (c.sigs.length : Int) - 1)));rw [← hd] at hW hR;rw [hR];clear hR hb hd;refine ASpec.of Tryz.func56 rfl rfl fun C hC => ?_
 refine AC.seq (AC.region ?_);refine kD ?_;refine za ?_;refine AL.nil (th_n (AC.seq (AC.region ?_)));refine kG ?_;refine kV en_iValidSg hV ?_;refine zm ?_;refine AL.caseGB rfl rfl (fun h0 => ?_) (fun h0 => ?_)
 ·refine zy ?_;refine zm ?_;refine zy ?_;refine zf ?_;refine zy ?_;refine zr ?_;refine zy ?_;refine kI c.sigs.length (List.length_map _) ?_;refine zy ?_;refine zA ?_;refine zy ?_;refine kV en_within hW ?_;refine zQ ?_;refine za ?_;refine AL.nil (th_n (AC.ret (bq_r ?_)))
  (have q := ‹b = true›; exact ret1 rfl (by rw [q, Bool.true_and]))
 refine zn ?_;refine zn ?_;refine zn ?_;refine zn ?_;refine zn ?_;refine zn ?_;refine zP ?_;refine za ?_;refine AL.nil (th_n (AC.ret (bq_r ?_)))
 (have q := ‹b = false›; exact ret1 rfl (by rw [q]; rfl))
theorem en_hasSignal : Enters Tryz.prog 56 := enters_of Tryz.func56 rfl rfl
def swT (c : SG) (x : Lab) (j : Nat) : List Int := ((c.arcs.take j).filter (isLb x)).map Ar.to_
def swL (c : SG) (x : Lab) : List Int := setP (swT c x c.arcs.length)
theorem swT_succ {c : SG} {x : Lab} {j : Nat} (hj : j < c.arcs.length) : swT c x (j + 1) = swT c x j ++ (if isLb x c.arcs[j] = true then [c.arcs[j].to_] else []) := by
 unfold swT;rw [filter_snoc _ hj, List.map_append];congr 1
 split <;> rfl
theorem swT_len (c : SG) (x : Lab) (j : Nat) : (swT c x j).length ≤ j := by
 unfold swT;rw [List.length_map];have := List.length_filter_le (isLb x) (c.arcs.take j);rw [List.length_take] at this;omega
theorem swL_mem {c : SG} {x : Lab} {t : Int} : t ∈ swL c x ↔ ∃ a, a ∈ c.arcs ∧ isLb x a = true ∧ a.to_ = t := by
 unfold swL swT;rw [(setP_srtd _).2, List.take_length, List.mem_map];constructor
 ·rintro ⟨a, ha, rfl⟩;rw [List.mem_filter] at ha;exact ⟨a, ha.1, ha.2, rfl⟩
 rintro ⟨a, h1, h2, rfl⟩;exact ⟨a, List.mem_filter.2 ⟨h1, h2⟩, rfl⟩
set_option maxHeartbeats 4000000 in
theorem switchedI_spec (c : SG) (x : Lab) (hl : c.arcs.length ≤ 1000000) : ASpec Tryz.prog 60 [sgA c, labA x] [] (Fun1 (.own 0 (swL c x).length) [(0, .arr 3 1 (ints (swL c x)))]) := by
 have hT := fun j (hj : j < c.arcs.length) => swT_succ (x := x) hj
 have hTl := swT_len c x;have hTd := tidy_spec (swT c x c.arcs.length) (by have := hTl c.arcs.length; omega);have hR : swL c x = setP (swT c x c.arcs.length) := rfl;rw [← hR] at hTd;obtain ⟨K, hK⟩ := eqx (swL c x);rw [← hK] at hTd ⊢;clear hR hK;refine ASpec.of Tryz.func60 rfl rfl fun C hC => ?_
 refine AC.seq (AC.region ?_);refine kD ?_;refine kD ?_;refine za ?_;refine AL.nil (th_n (AC.seq (AC.region ?_)));refine AL.q (by exact h_lit rfl rfl rfl rfl rfl rfl rfl rfl) rfl ?_;refine AL.p (by exact as2 rfl) rfl ?_;refine AL.nil (th_n (AC.seq (AC.seq (AC.region ?_))));refine zf ?_;refine zr ?_;refine kI c.arcs.length (arL_len _) ?_;refine zm ?_;refine AL.nil (th_n (AC.block ?_));refine AC.loop (ι := Nat) (fun j => ⟨28, 300, [(2, .d (.ref (sgD c))), (3, .d (.ref [dI x.sig, dT x.up])), (5, .own 100 (swT c x j).length), (10, .d (vArs c.arcs)), (11, aI c.arcs.length), (12, aI j)], [(100, some (.arr 3 1 (ints (swT c x j))))]⟩) (fun j => j ≤ c.arcs.length) (fun j => c.arcs.length - j) (0) ?_ (Nat.zero_le _) ?_
 ·exact zw [(100, _)] hC
 intro j hj;refine AC.seq (AC.region ?_);refine zc ?_;refine AL.nil (th_n (AC.seq ?_));refine AC.condD rfl (fun h0 => ?_) (fun h0 => ?_)
 ·refine AC.skip (th_n (AC.seq (AC.block (AC.seq ?_))));have hj1 : j < c.arcs.length := by omega
  have hget := arL_get hj1;have hTj := hT j hj1;have hTlj := hTl j;rw [isLb_dec] at hTj;obtain ⟨a, ha⟩ := eqx (c.arcs[j]);rw [← ha] at hget hTj;clear ha;have hLo := labelOfArc_spec a;obtain ⟨T, hTT⟩ := eqx (swT c x j);rw [← hTT] at hTj hTlj ⊢;clear hTT;refine AC.region ?_;refine AL.p (by exact g_ia_view rfl rfl rfl rfl rfl (by rfl) (by assumption)) rfl ?_;refine kG ?_;refine kE ?_;refine zs ?_;refine AL.nil (th_n (AC.seq ?_));refine AC.drawn' mixed_ok [[], [0], [], [0,1,2]] (by decide) ?_;refine zd 0 [] 4 (by exact g_load_ptrN rfl rfl rfl rfl rfl) ?_;refine zh 1 [0] 4 (by exact h_pure en_labelOfArc rfl rfl (by repeat (first | exact rfl | exact DLead.same | refine ⟨_, _, rfl, ?_, ?_⟩ | refine ⟨_, rfl, ?_⟩)) hLo rfl) ?_;refine zd 2 [] 4 (by exact g_load_refN rfl rfl rfl rfl) ?_;refine zd 3 [0,1,2] 4 (by exact g_eqIB (r := decide (a.sig = x.sig ∧ a.up = x.up)) (by decide +kernel) rfl rfl rfl) ?_;refine zj 4 ?_;refine th_n ?_;refine AC.condD rfl (fun h1 => ?_) (fun h1 => ?_)
  ·refine AC.region ?_;refine kB ?_;refine zF ?_;refine zl ?_;refine AL.q (by exact h_litF rfl rfl rfl rfl rfl rfl rfl rfl) rfl ?_;refine AL.q (by exact h_appendI T [a.to_] (.own rfl rfl (ints_len _).symm) (.view rfl) (by rw [List.length_append]; simp only [List.length_cons, List.length_nil]; omega) (by simp)) rfl ?_;refine AL.p (by exact as2 rfl) rfl ?_;refine AL.nil (ib_n (th_n (AC.region ?_)));refine zA ?_;refine zm ?_;refine AL.nil (th_n ?_)
   (have q := ‹a.sig = x.sig ∧ a.up = x.up›; rw [decide_eq_true q, if_pos rfl] at hTj; exact ⟨j + 1, by omega, by omega, zw [(100, _)] hC (by rw [hTj]; repeat (first | exact True.intro | refine And.intro ?_ ?_ | exact DLead.same | exact rfl | refine ⟨_, rfl, ?_⟩)) (by rw [hTj]; repeat (first | exact True.intro | refine And.intro ?_ ?_ | exact rfl | refine ⟨_, _, rfl, rfl, ?_⟩))⟩)
  refine AC.skip (ib_n (th_n (AC.region ?_)));refine zA ?_;refine zm ?_;refine AL.nil (th_n ?_)
  (have q := ‹¬ (a.sig = x.sig ∧ a.up = x.up)›; rw [decide_eq_false q, if_neg (by decide), List.append_nil] at hTj; exact ⟨j + 1, by omega, by omega, zw [(100, 100)] hC (by rw [hTj]; repeat (first | exact True.intro | refine And.intro ?_ ?_ | exact DLead.same | exact rfl | refine ⟨_, rfl, ?_⟩)) (by rw [hTj]; repeat (first | exact True.intro | refine And.intro ?_ ?_ | exact rfl | refine ⟨_, _, rfl, rfl, ?_⟩))⟩)
 refine AC.exit (th_e (th_e (ib_y (th_n (AC.seq ?_)))));have hjj : j = c.arcs.length := by omega
 rw [hjj];refine AC.region ?_;refine kB ?_;refine kU [100] en_tidy hTd ?_;refine AL.p (by exact as2 rfl) rfl ?_;refine AL.nil (th_n (AC.ret (bq_r ?_)));exact retN [(0, _)] rfl (by repeat (first | exact rfl | refine ⟨_, rfl, ?_⟩)) (by repeat (first | exact True.intro | refine And.intro ?_ ?_ | exact rfl | refine ⟨_, _, rfl, rfl, ?_⟩)) rfl rfl
theorem en_switchedI : Enters Tryz.prog 60 := enters_of Tryz.func60 rfl rfl
def mkM (l : List Int) (n : Nat) : List Bool := (List.range n).map fun (v : Nat) => decide ((v : Int) ∈ l)
theorem mkM_len (l : List Int) (n : Nat) : (mkM l n).length = n := by unfold mkM; simp
theorem mkM_get {l : List Int} {n v : Nat} (h : v < n) : vW (mkM l n) v = decide ((v : Int) ∈ l) := by
 unfold vW mkM;rw [List.getD_eq_getElem?_getD, List.getElem?_map, List.getElem?_range h]; rfl
theorem mkM_el {l : List Int} {n v : Nat} (h : v < n) : (mkM l n)[v]? = some (decide ((v : Int) ∈ l)) := by
 unfold mkM;rw [List.getElem?_map, List.getElem?_range h]; rfl
theorem mkM_ext {l : List Int} {n : Nat} {W : List Bool} (hl : W.length = n) (h : ∀ v, v < n → W[v]? = some (decide ((v : Int) ∈ l))) : W = mkM l n := by
 refine List.ext_getElem? fun v => ?_
 by_cases hv : v < n
 ·rw [h v hv, mkM_el hv]
 rw [List.getElem?_eq_none (by omega), List.getElem?_eq_none (by rw [mkM_len]; omega)]
theorem mkM_set {l : List Int} {n v : Nat} (h : v < n) : (mkM l n).set v true = mkM (l ++ [(v : Int)]) n := by
 refine mkM_ext (by rw [List.length_set, mkM_len]) fun i hi => ?_
 rw [List.getElem?_set]
 by_cases e : v = i
 ·subst e; rw [if_pos rfl, if_pos (by rw [mkM_len]; exact h)]; congr 1; symm; exact decide_eq_true (by simp)
 rw [if_neg e, mkM_el hi];congr 1;refine decide_eq_decide.2 ⟨fun q => List.mem_append.2 (.inl q), fun q => ?_⟩;rcases List.mem_append.1 q with q | q
 ·exact q
 have := List.mem_singleton.1 q; omega
theorem mkM_nil (n : Nat) : mkM [] n = List.replicate n false := (mkM_ext List.length_replicate fun v hv => by rw [List.getElem?_replicate, if_pos hv]; simp).symm
theorem boolW_get {W : List Bool} {v : Nat} (h : v < W.length) : (boolL W)[v]? = some [dT (vW W v)] := boolL_get h
theorem mkM_bget {l : List Int} {n v : Nat} (h : v < n) : (boolL (mkM l n))[v]? = some [dT (decide ((v : Int) ∈ l))] := by rw [boolW_get (by rw [mkM_len]; exact h), mkM_get h]
structure BfB (L : List Ar) (q : Ar → Bool) (S : Nat → Prop) (n : Nat) (out : List Int) (at_ p : Nat) : Prop where
 nd : out.Nodup
 inn : ∀ x, x ∈ out → ∃ v : Nat, x = (v : Int) ∧ v < n ∧ Rch (ArR L q) S v
 bas : ∀ v, S v → (v : Int) ∈ out
 al : at_ ≤ out.length
 cls : ∀ a, a ∈ L → q a = true → a.from_ ∈ out.take at_ → a.to_ ∈ out
 cur : ∀ (h : at_ < out.length) i, i ∈ (nextL (fromE L) out[at_].toNat).take p → ∀ hi : i < L.length, q L[i] = true → L[i].to_ ∈ out
theorem BfB.len {L : List Ar} {q : Ar → Bool} {S : Nat → Prop} {n at_ p : Nat} {out : List Int} (h : BfB L q S n out at_ p) : out.length ≤ n := by
 have := nodup_len (nI (List.range n)) out h.nd (fun x hx => by obtain ⟨v, rfl, hv, _⟩ := h.inn x hx; exact List.mem_map.2 ⟨v, List.mem_range.2 hv, rfl⟩)
 rwa [nI_len, List.length_range] at this
theorem mem_take_s {l : List Nat} {p : Nat} (hp : p < l.length) {i : Nat} (h : i ∈ l.take (p + 1)) : i ∈ l.take p ∨ i = l[p] := by
 rw [List.take_add_one, List.getElem?_eq_getElem hp, List.mem_append] at h;rcases h with h | h
 ·exact .inl h
 exact .inr (by simpa using h)
theorem BfB.no {L : List Ar} {q : Ar → Bool} {S : Nat → Prop} {n at_ p : Nat} {out : List Int} (h : BfB L q S n out at_ p) (ha : at_ < out.length) {i : Nat} (hp : p < (nextL (fromE L) out[at_].toNat).length) (hi : (nextL (fromE L) out[at_].toNat)[p] = i) (hq : ∀ hi : i < L.length, q L[i] = true → L[i].to_ ∈ out) : BfB L q S n out at_ (p + 1) := by
 refine ⟨h.nd, h.inn, h.bas, h.al, h.cls, fun h1 k hk hkl hqk => ?_⟩;rcases mem_take_s hp hk with g | g
 ·exact h.cur h1 k g hkl hqk
 rw [hi] at g; subst g; exact hq hkl hqk
theorem BfB.yes {L : List Ar} {q : Ar → Bool} {S : Nat → Prop} {n at_ p : Nat} {out : List Int} (h : BfB L q S n out at_ p) (ha : at_ < out.length) {i : Nat} (hp : p < (nextL (fromE L) out[at_].toNat).length) (hi : (nextL (fromE L) out[at_].toNat)[p] = i) (hil : i < L.length) (hq : q L[i] = true) (hn : ¬ L[i].to_ ∈ out) (hA : ArIn n L[i]) : BfB L q S n (out ++ [L[i].to_]) at_ (p + 1) := by
 unfold ArIn at hA;have hin : i ∈ nextL (fromE L) out[at_].toNat := by rw [← hi]; exact List.getElem_mem hp
 rw [fromE_next, List.mem_filter, decide_eq_true_eq, arAt_nat hil] at hin;obtain ⟨u, hu, hun, hr⟩ := h.inn _ (List.getElem_mem ha);have hf : L[i].from_ = (u : Int) := by rw [hu] at hin; omega
 have hget : (out ++ [L[i].to_])[at_]'(by rw [List.length_append]; omega) = out[at_] := List.getElem_append_left ha;refine ⟨?_, fun x hx => ?_, fun v hv => List.mem_append.2 (.inl (h.bas v hv)), by have := h.al; rw [List.length_append]; omega, fun a ham hqa hfa => ?_, fun h1 k hk hkl hqk => ?_⟩
 ·rw [List.nodup_append];refine ⟨h.nd, by simp, fun a ha b hb => ?_⟩;rw [List.mem_singleton] at hb;rintro rfl;exact hn (hb ▸ ha)
 ·rcases List.mem_append.1 hx with g | g
  ·exact h.inn x g
  rw [List.mem_singleton] at g;exact ⟨L[i].to_.toNat, by omega, by omega, .step hr ⟨L[i], List.getElem_mem hil, hq, hf, by omega⟩⟩
 ·rw [List.take_append_of_le_length (by omega)] at hfa;exact List.mem_append.2 (.inl (h.cls a ham hqa hfa))
 rw [hget] at hk;rcases mem_take_s hp hk with g | g
 ·exact List.mem_append.2 (.inl (h.cur ha k g hkl hqk))
 rw [hi] at g; subst g; exact List.mem_append.2 (.inr (by simp))
theorem BfB.next {L : List Ar} {q : Ar → Bool} {S : Nat → Prop} {n at_ p : Nat} {out : List Int} (h : BfB L q S n out at_ p) (ha : at_ < out.length) (hp : (nextL (fromE L) out[at_].toNat).length ≤ p) (hin : ∀ a, a ∈ L → ArIn n a) : BfB L q S n out (at_ + 1) 0 := by
 refine ⟨h.nd, h.inn, h.bas, ha, fun a ham hqa hfa => ?_, fun h1 k hk => by simp at hk⟩;rw [List.take_add_one, List.getElem?_eq_getElem ha, List.mem_append] at hfa;rcases hfa with g | g
 ·exact h.cls a ham hqa g
 have g : a.from_ = out[at_] := by simpa using g
 obtain ⟨i, hi, rfl⟩ := List.getElem_of_mem ham;have := hin _ ham;unfold ArIn at this;refine h.cur ha i ?_ hi hqa;rw [List.take_of_length_le hp, fromE_next, List.mem_filter, decide_eq_true_eq, arAt_nat hi];exact ⟨List.mem_range.2 hi, by rw [g]⟩
theorem BfB.end_ {L : List Ar} {q : Ar → Bool} {S : Nat → Prop} {n : Nat} {out : List Int} (h : BfB L q S n out out.length 0) : setP out = reaL (ArR L q) S n := by
 have hs := setP_srtd out;refine reaL_eq hs.1 (fun x hx => h.inn x ((hs.2 x).1 hx)) (fun v hv => (hs.2 _).2 (h.bas v hv)) fun u v hu ⟨a, ha, hq, h1, h2⟩ => ?_
 rw [hs.2] at hu ⊢;rw [← h2];refine h.cls a ha hq ?_;rw [List.take_length, h1];exact hu
theorem BfB.start {c : SG} {x : Lab} {q : Ar → Bool} (hin : ∀ a, a ∈ c.arcs → ArIn c.codes.length a) : BfB c.arcs q (blkS c x) c.codes.length (swL c x) 0 0 := by
 refine ⟨srtd_nodup (setP_srtd _).1, fun t ht => ?_, fun v ⟨a, h1, h2, h3⟩ => swL_mem.2 ⟨a, h1, h2, h3⟩, Nat.zero_le _, fun a _ _ h => by simp at h, fun h i hi => by simp at hi⟩;obtain ⟨a, h1, h2, rfl⟩ := swL_mem.1 ht;have := hin a h1;unfold ArIn at this;exact ⟨a.to_.toNat, by omega, by omega, .base ⟨a, h1, h2, by omega⟩⟩
set_option maxHeartbeats 16000000 in
theorem setBlock_spec (c : SG) (x y : Lab) (hv : validC c = true) : ASpec Tryz.prog 106 [sgA c, labA x, labA y] [] (Pure1 (.d (vI (blkL c x y)))) := by
 obtain ⟨hn, hal, hin, _⟩ := validC_at hv;have hSw := switchedI_spec c x (by omega);have hN := nextArcs_spec c (by omega) (by omega) hin;have hB0 := BfB.start (x := x) (q := fun a => !isLb y a) hin;have hBL : blkL c x y = reaL (ArR c.arcs fun a => !isLb y a) (blkS c x) c.codes.length := rfl;have hnl := fun k => nextL_len (fromE c.arcs) k
 rw [fromE_len] at hnl;have hnm : ∀ k i, i ∈ nextL (fromE c.arcs) k → i < c.arcs.length := fun k i h => by rw [fromE_next] at h; exact List.mem_range.1 (List.mem_filter.1 h).1
 obtain ⟨S, hS⟩ := eqx (blkS c x);rw [← hS] at hB0 hBL;obtain ⟨l0, hl0⟩ := eqx (swL c x);rw [← hl0] at hSw hB0;obtain ⟨n, hnn⟩ := eqx c.codes.length;rw [← hnn] at hn hin hN hB0 hBL;have hl0l := hB0.len;rw [hBL];clear hS hl0 hBL hv;refine ASpec.of Tryz.func106 rfl rfl fun C hC => ?_
 refine AC.seq (AC.region ?_);refine kD ?_;refine kD ?_;refine kD ?_;refine za ?_;refine AL.nil (th_n (AC.seq ?_));refine AC.drawn' mixed_ok [[], [], [0,1], [], [3], [3,4], [3,4,5], [], [0,1,2,7], [0,1,2,7,8], [0,1,2,3,4,5,6,7,8,9], [0,1,2,3,4,5,6,7,8,9,10]] (by decide) ?_;refine zd 0 [] 12 (by exact g_load_refN rfl rfl rfl rfl) ?_;refine zd 1 [] 12 (by exact g_load_refN rfl rfl rfl rfl) ?_;refine zh 2 [0,1] 12 (by exact h_fun (cs := []) en_switchedI rfl rfl (by repeat (first | exact rfl | exact DLead.same | refine ⟨_, _, rfl, ?_, ?_⟩ | refine ⟨_, rfl, ?_⟩)) (by repeat (exact True.intro)) hSw rfl rfl rfl rfl) ?_;refine zd 3 [] 12 (by exact g_fa_ref rfl rfl rfl rfl rfl rfl) ?_;refine zd 4 [3] 12 (by exact g_load_ref rfl rfl rfl) ?_;refine zd 5 [3,4] 12 (by exact g_len_view (k := n) rfl rfl (by rw [hnn]; exact tsX_len _)) ?_;refine zh 6 [3,4,5] 12 (by exact h_make (k := n) rfl rfl rfl rfl rfl rfl rfl rfl (by show 1 * n ≤ _; omega) (by omega)) ?_;refine zd 7 [] 12 (by exact g_load_refN rfl rfl rfl rfl) ?_;refine zh 8 [0,1,2,7] 12 (by exact h_pure en_nextArcs rfl rfl (by repeat (first | exact rfl | exact DLead.same | refine ⟨_, _, rfl, ?_, ?_⟩ | refine ⟨_, rfl, ?_⟩)) hN rfl) ?_;refine zd 9 [0,1,2,7,8] 12 (by exact as2 rfl) ?_;refine zd 10 (List.range 10) 12 (by exact as2 rfl) ?_;refine zd 11 (List.range 11) 12 (by exact as1 rfl) ?_;refine zj 12 ?_;refine th_n (AC.seq (AC.seq ?_));refine AC.weak (t := ⟨82, 300, [(3, .d (.ref (sgD c))), (5, .d (.ref [dI y.sig, dT y.up])), (7, .own 100 l0.length), (8, .own 101 n), (9, .d (.view 30 1 (nxtR (fromE c.arcs) n)))], [(100, some (.arr 3 1 (ints l0))), (101, some (.arr 4 1 (boolL (mkM [] n))))]⟩) (zw [(100, 40), (101, 72)] hC (b := by rw [mkM_nil, ← boolL_rep]; repeat (first | exact True.intro | refine And.intro ?_ ?_ | exact rfl | refine ⟨_, _, rfl, rfl, ?_⟩))) ?_;refine AC.region ?_;refine kB ?_;refine AL.p (by exact g_len_own (sz := 1) (els := []) (e' := 0) rfl rfl (by simp only [maxLen]; omega)) rfl ?_;refine zm ?_;refine AL.nil (th_n (AC.block ?_));refine AC.loop (ι := Nat) (fun p => ⟨82, 600, [(3, .d (.ref (sgD c))), (5, .d (.ref [dI y.sig, dT y.up])), (7, .own 100 l0.length), (8, .own 101 n), (9, .d (.view 30 1 (nxtR (fromE c.arcs) n))), (25, .own 100 l0.length), (26, aI l0.length), (27, aI p)], [(100, some (.arr 3 1 (ints l0))), (101, some (.arr 4 1 (boolL (mkM (l0.take p) n))))]⟩) (fun p => p ≤ l0.length) (fun p => l0.length - p) (0) ?_ (Nat.zero_le _) ?_
 ·exact zw [(100, 100), (101, 101)] hC
 intro p hp;refine AC.seq (AC.region ?_);refine zc ?_;refine AL.nil (th_n (AC.seq ?_));refine AC.condD rfl (fun h0 => ?_) (fun h0 => ?_)
 ·refine AC.skip (th_n (AC.seq (AC.block (AC.seq ?_))));have hp1 : p < l0.length := by omega
  have hgl := ints_at hp1;obtain ⟨v, hve, hvn, _⟩ := hB0.inn _ (List.getElem_mem hp1);rw [hve] at hgl;have hst := mkM_set (l := l0.take p) hvn;have htk : l0.take (p + 1) = l0.take p ++ [(v : Int)] := by rw [List.take_add_one, List.getElem?_eq_getElem hp1, hve]; rfl
  rw [← htk] at hst;have hbg := mkM_bget (l := l0.take p) hvn;clear hve;refine AC.region ?_;refine kO p l0.length hp1 ?_;refine AL.p (by exact g_load_arr1 rfl rfl rfl rfl (by rw [Nat.mul_one]; exact hgl)) rfl ?_;refine za ?_;refine AL.nil (th_n (AC.region ?_));refine kB ?_;refine zm ?_;refine kO v n hvn ?_;refine AL.q (by exact h_store_arr (i := v) (j := 0) (d := dT true) rfl rfl rfl rfl .same rfl hbg (by decide)) rfl ?_;refine AL.nil (ib_n (th_n (AC.region ?_)));refine zA ?_;refine zm ?_;refine AL.nil (th_n ?_);exact ⟨p + 1, by omega, by omega, zw [(100, 100), (101, 101)] hC (b := by rw [← hst, boolL_set]; repeat (first | exact True.intro | refine And.intro ?_ ?_ | exact rfl | refine ⟨_, _, rfl, rfl, ?_⟩))⟩
 refine AC.exit (th_e (th_e (ib_y (th_n (AC.seq (AC.seq ?_))))));have hpp : p = l0.length := by omega
 rw [hpp, List.take_length];refine AC.region ?_;refine za ?_;refine AL.nil (th_n (AC.block ?_));refine AC.loop (ι := Nat × List Int) (fun z => ⟨82, 900, [(3, .d (.ref (sgD c))), (5, .d (.ref [dI y.sig, dT y.up])), (7, .own 100 z.2.length), (8, .own 101 n), (9, .d (.view 30 1 (nxtR (fromE c.arcs) n))), (12, aI z.1)], [(100, some (.arr 3 1 (ints z.2))), (101, some (.arr 4 1 (boolL (mkM z.2 n))))]⟩) (fun z => BfB c.arcs (fun a => !isLb y a) S n z.2 z.1 0) (fun z => n - z.1) ((0, l0)) ?_ (hB0) ?_
 ·exact zw [(100, 100), (101, 101)] hC
 rintro ⟨at_, out⟩ hI;dsimp only at hI ⊢;have hol := hI.len;have hale := hI.al;refine AC.seq (AC.seq (AC.region ?_));refine zm ?_;refine kB ?_;refine AL.p (by exact g_len_own (sz := 1) (els := []) (e' := 0) rfl rfl (by simp only [maxLen]; omega)) rfl ?_;refine zc ?_;refine AL.nil (th_n ?_);refine AC.condD rfl (fun h1 => ?_) (fun h1 => ?_)
 ·refine AC.skip (th_n (AC.seq (AC.block (AC.seq ?_))));have ha1 : at_ < out.length := by omega
  have hgo := ints_at ha1;obtain ⟨u, hue, hun, _⟩ := hI.inn _ (List.getElem_mem ha1);rw [hue] at hgo;have hnr := nxtR_get (E := fromE c.arcs) hun;have hnlu := hnl u;have hnmu := hnm u;obtain ⟨N, hNe⟩ := eqx (nextL (fromE c.arcs) u);rw [← hNe] at hnr hnlu hnmu;have hNu : nextL (fromE c.arcs) out[at_].toNat = N := by rw [hue, Int.toNat_natCast, hNe]
  refine AC.region ?_;refine zm ?_;refine kB ?_;refine zm ?_;refine kO at_ out.length ha1 ?_;refine AL.p (by exact g_load_arr1 rfl rfl rfl rfl (by rw [Nat.mul_one]; exact hgo)) rfl ?_;refine AL.p (by exact g_ia_view (i := u) rfl rfl rfl rfl rfl rfl hnr) rfl ?_;refine zr ?_;refine AL.p (by exact g_len_view (k := N.length) rfl rfl (by rw [ints_len, nI_len])) rfl ?_;refine zm ?_;refine AL.nil (th_n (AC.block ?_));refine AC.loop (ι := Nat × List Int) (fun z => ⟨82, 1200, [(3, .d (.ref (sgD c))), (5, .d (.ref [dI y.sig, dT y.up])), (7, .own 100 z.2.length), (8, .own 101 n), (9, .d (.view 30 1 (nxtR (fromE c.arcs) n))), (12, aI at_), (47, .d (vI (nI N))), (48, aI N.length), (49, aI z.1)], [(100, some (.arr 3 1 (ints z.2))), (101, some (.arr 4 1 (boolL (mkM z.2 n))))]⟩) (fun z => BfB c.arcs (fun a => !isLb y a) S n z.2 at_ z.1 ∧ z.1 ≤ N.length ∧ ∃ h : at_ < z.2.length, nextL (fromE c.arcs) z.2[at_].toNat = N) (fun z => N.length - z.1) ((0, out)) ?_ (⟨hI, Nat.zero_le _, ha1, hNu⟩) ?_
  ·exact zw [(100, 100), (101, 101)] hC
  rintro ⟨p, out⟩ ⟨hI, hp, ha1, hNu⟩;dsimp only at hI hp ha1 hNu ⊢;have hol := hI.len;refine AC.seq (AC.region ?_);refine zc ?_;refine AL.nil (th_n (AC.seq ?_));refine AC.condD rfl (fun h2 => ?_) (fun h2 => ?_)
  ·refine AC.skip (th_n (AC.seq (AC.block (AC.seq ?_))));have hp1 : p < N.length := by omega
   have hget := nI_get hp1;have hi := hnmu _ (List.getElem_mem hp1);have hpN : p < (nextL (fromE c.arcs) out[at_].toNat).length := by rw [hNu]; exact hp1
   have hNp : (nextL (fromE c.arcs) out[at_].toNat)[p] = N[p] := getElem_congr_coll hNu;obtain ⟨i, hie⟩ := eqx (N[p]);rw [← hie] at hget hi hNp;have hrow := arL_get hi;have hA := hin _ (List.getElem_mem hi);have hno := hI.no ha1 hpN hNp;have hye := fun h1 h2 => hI.yes ha1 hpN hNp hi h1 h2 hA
   have hql : ∀ z : Ar, (!isLb y z) = !decide (z.sig = y.sig ∧ z.up = y.up) := fun z => by rw [isLb_dec]
   simp only [hql] at hno hye;unfold ArIn at hA;have hno2 : ((!decide (c.arcs[i].sig = y.sig ∧ c.arcs[i].up = y.up)) = true → c.arcs[i].to_ ∈ out) → BfB c.arcs (fun a => !isLb y a) S n out at_ (p + 1) := fun h => by have := hno (fun _ => h); simpa only [hql] using this
   have hye2 : (!decide (c.arcs[i].sig = y.sig ∧ c.arcs[i].up = y.up)) = true → ¬ c.arcs[i].to_ ∈ out → BfB c.arcs (fun a => !isLb y a) S n (out ++ [c.arcs[i].to_]) at_ (p + 1) := fun h1 h2 => by have := hye h1 h2; simpa only [hql] using this
   obtain ⟨a, ha⟩ := eqx (c.arcs[i]);rw [← ha] at hrow hA hno2 hye2;obtain ⟨t, ht⟩ := eqx a.to_.toNat;have hto : a.to_ = (t : Int) := by omega
   rw [hto] at hrow hno2 hye2;have htn : t < n := by omega
   have hbg := mkM_bget (l := out) htn;have hst := mkM_set (l := out) htn;have hN2 : nextL (fromE c.arcs) ((out ++ [(t : Int)])[at_]'(by rw [List.length_append]; omega)).toNat = N := by rw [List.getElem_append_left ha1]; exact hNu
   clear hno hye ha hie hNp ht;refine AC.region ?_;refine AL.p (by exact g_ia_view (i := p) rfl rfl rfl rfl rfl rfl hget) rfl ?_;refine zr ?_;refine za ?_;refine AL.nil (th_n (AC.seq (AC.region ?_)));refine zf ?_;refine zr ?_;refine zm ?_;refine AL.p (by exact g_ia_view (i := i) rfl rfl rfl rfl rfl rfl hrow) rfl ?_;refine kG ?_;refine kE ?_;refine zs ?_;refine AL.nil (th_n (AC.seq ?_));refine AC.drawn' mixed_ok [[], [0], [], [0,1,2], [0,1,2,3], [0,1,2,3,4], [0,1,2,3,4], [0,1,2,3,4,6], [0,1,2,3,4,5,6,7], [0,1,2,3,4,5,6,7,8], [0,1,2,3,4,5,6,7,8,9], [0,1,2,3,4,5,6,7,8,9,10]] (by decide) ?_;refine zd 0 [] 12 (by exact g_load_ptrN rfl rfl rfl rfl rfl) ?_;refine zh 1 [0] 12 (by exact h_pure en_labelOfArc rfl rfl (by exact ⟨_, _, rfl, ⟨_, rfl, _, _, rfl, .same, _, _, rfl, .same, _, _, rfl, .same, _, _, rfl, .same, rfl⟩, rfl⟩) (labelOfArc_spec ⟨a.from_, a.sig, a.up, (t : Int)⟩) rfl) ?_;refine zd 2 [] 12 (by exact g_load_refN rfl rfl rfl rfl) ?_;refine zd 3 [0,1,2] 12 (by exact g_eqIB (r := !decide (a.sig = y.sig ∧ a.up = y.up)) (by decide +kernel) rfl rfl rfl) ?_;refine zd 4 [0,1,2,3] 12 (by exact mv1 rfl) ?_;refine DF.caseB 4 rfl (fun h3 => ?_) (fun h3 => ?_)
   ·refine ze 5 [0,1,2,3,4] 12 (by exact mv2 rfl) ?_;refine ze 6 [0,1,2,3,4] 12 (by exact g_fa_ptr rfl rfl rfl rfl rfl) ?_;refine ze 7 [0,1,2,3,4,6] 12 (by exact g_load_ptr rfl rfl rfl rfl rfl) ?_;refine ze 8 [0,1,2,3,4,5,6,7] 12 (by exact g_ia_own (i := t) (l := n) rfl rfl rfl rfl rfl rfl htn rfl) ?_;refine ze 9 (List.range 9) 12 (by exact g_load_arr1 rfl rfl rfl rfl (by rw [Nat.mul_one]; exact hbg)) ?_;refine ze 10 (List.range 10) 12 (by exact g_not rfl) ?_;refine zd 11 (List.range 11) 12 (by exact g_pickT (r := .d _) rfl rfl) ?_;refine zj 12 ?_;refine th_n ?_;refine AC.condND rfl (fun h4 => ?_) (fun h4 => ?_)
    ·refine AC.seq (AC.region ?_);refine kB ?_;refine zF ?_;refine zl ?_;refine kO t n htn ?_;refine AL.q (by exact h_store_arr (i := t) (j := 0) (d := dT true) rfl rfl rfl rfl .same rfl hbg (by decide)) rfl ?_;refine AL.nil (th_n (AC.region ?_));refine kB ?_;refine zF ?_;refine zl ?_;refine AL.q (by exact h_litF rfl rfl rfl rfl rfl rfl rfl rfl) rfl ?_;refine AL.q (by exact h_appendI out [(t : Int)] (.own rfl rfl (ints_len _).symm) (.view rfl) (by rw [List.length_append]; simp only [List.length_cons, List.length_nil]; omega) (by simp)) rfl ?_;refine AL.p (by exact as2 rfl) rfl ?_;refine AL.nil (ib_n (th_n (AC.region ?_)));refine zA ?_;refine zm ?_;refine AL.nil (th_n ?_)
     (have q1 := ‹(!decide (a.sig = y.sig ∧ a.up = y.up)) = true›; have q3 := ‹¬ (t : Int) ∈ out›; have e := hye2 q1 q3; exact ⟨(p + 1, out ++ [(t : Int)]), ⟨e, by dsimp only; omega, by dsimp only; rw [List.length_append]; omega, hN2⟩, by dsimp only; omega, zw [(100, _), (101, 101)] hC (b := by rw [← hst, boolL_set]; repeat (first | exact True.intro | refine And.intro ?_ ?_ | exact rfl | refine ⟨_, _, rfl, rfl, ?_⟩))⟩)
    refine AC.skip (ib_n (th_n (AC.region ?_)));refine zA ?_;refine zm ?_;refine AL.nil (th_n ?_)
    (have e := hno2 (fun g => by exact ‹(t : Int) ∈ out›); exact ⟨(p + 1, out), ⟨e, by dsimp only; omega, ha1, hNu⟩, by dsimp only; omega, zw [(100, 100), (101, 101)] hC⟩)
   refine zg 5 [0,1,2,3,4] 12 ?_;refine zg 6 [0,1,2,3,4] 12 ?_;refine zg 7 [0,1,2,3,4,6] 12 ?_;refine zg 8 [0,1,2,3,4,5,6,7] 12 ?_;refine zg 9 (List.range 9) 12 ?_;refine zg 10 (List.range 10) 12 ?_;refine zd 11 (List.range 11) 12 (by exact g_pickF (r := .d _) rfl rfl) ?_;refine zj 12 ?_;refine th_n ?_;refine AC.condF rfl ?_;refine AC.skip (ib_n (th_n (AC.region ?_)));refine zA ?_;refine zm ?_;refine AL.nil (th_n ?_)
   (have e := hno2 (fun g => by (have q1 := ‹(!decide (a.sig = y.sig ∧ a.up = y.up)) = false›; rw [q1] at g; cases g)); exact ⟨(p + 1, out), ⟨e, by dsimp only; omega, ha1, hNu⟩, by dsimp only; omega, zw [(100, 100), (101, 101)] hC⟩)
  refine AC.exit (th_e (th_e (ib_y (ib_n (th_n (AC.region ?_))))));refine zm ?_;refine zA ?_;refine za ?_;refine AL.nil (th_n ?_);have e := hI.next ha1 (by rw [hNu]; omega) hin;exact ⟨(at_ + 1, out), e, by dsimp only; omega, zw [(100, 100), (101, 101)] hC⟩
 refine AC.exit (th_e (th_e (ib_y (th_n (AC.seq ?_)))));have haa : at_ = out.length := by omega
 rw [haa] at hI;have hE := hI.end_;have hTd := tidy_spec out (by omega);rw [hE] at hTd;obtain ⟨K, hK⟩ := eqx (reaL (ArR c.arcs fun a => !isLb y a) S n);rw [← hK] at hTd ⊢;clear hK hE;refine AC.region ?_;refine kB ?_;refine kU [100] en_tidy hTd ?_;refine AL.p (by exact as2 rfl) rfl ?_;refine AL.nil (th_n ?_);refine AC.weak (Weak.freeze (i := 6) rfl rfl (Nat.le_of_eq (ints_len _).symm) (List.take_of_length_le (Nat.le_of_eq (ints_len _)))) ?_;refine AC.ret (bq_r ?_);exact ret1 rfl rfl
theorem en_setBlock : Enters Tryz.prog 106 := enters_of Tryz.func106 rfl rfl
theorem two_txt (x y a b : UInt8) : decide (bstr [x, y] = ⟨#[a, b]⟩) = (decide (x = a) && decide (y = b)) := by
 rw [← Bool.decide_and];refine decide_eq_decide.2 ⟨fun h => ?_, fun h => by rw [h.1, h.2]; rfl⟩;have h2 : [x, y] = [a, b] := congrArg (fun z : ByteArray => z.data.toList) h;simpa using h2
theorem u8_dec (x y : UInt8) : decide ((x.toNat : Int) = (y.toNat : Int)) = decide (x = y) := decide_eq_decide.2 ⟨fun h => UInt8.toNat_inj.1 (by omega), fun h => by rw [h]⟩
theorem mayFollow_spec (x y : UInt8) : ASpec Tryz.prog 125 [aB x, aB y] [] (Pure1 (aT (nxtB x y))) := by
 have hR : nxtB x y = (decide (x = y) || ((decide (x = 48) && decide (y = 43)) || (decide (x = 43) && decide (y = 49)) || (decide (x = 49) && decide (y = 45)) || (decide (x = 45) && decide (y = 48)) || (decide (x = 43) && decide (y = 45)) || (decide (x = 45) && decide (y = 43)))) := rfl;have z1 := two_txt x y 48 43;have z2 := two_txt x y 43 49;have z3 := two_txt x y 49 45;have z4 := two_txt x y 45 48;have z5 := two_txt x y 43 45;have z6 := two_txt x y 45 43;have z0 := u8_dec x y;obtain ⟨b0, e0⟩ := eqx (decide (x = y));obtain ⟨b1, e1⟩ := eqx ((decide (x = 48) && decide (y = 43)));obtain ⟨b2, e2⟩ := eqx ((decide (x = 43) && decide (y = 49)));obtain ⟨b3, e3⟩ := eqx ((decide (x = 49) && decide (y = 45)));obtain ⟨b4, e4⟩ := eqx ((decide (x = 45) && decide (y = 48)));obtain ⟨b5, e5⟩ := eqx ((decide (x = 43) && decide (y = 45)));obtain ⟨b6, e6⟩ := eqx ((decide (x = 45) && decide (y = 43)));rw [← e0] at z0 hR;rw [← e1] at z1 hR;rw [← e2] at z2 hR;rw [← e3] at z3 hR;rw [← e4] at z4 hR;rw [← e5] at z5 hR;rw [← e6] at z6 hR;rw [hR];clear e0 e1 e2 e3 e4 e5 e6 hR;refine ASpec.of Tryz.func125 rfl rfl fun C hC => ?_
 refine AC.seq (AC.region ?_);refine za ?_;refine AL.nil (th_n (AC.seq (AC.seq (AC.region ?_))));refine zm ?_;refine zm ?_;refine AL.q (by exact h_lit rfl rfl rfl rfl rfl rfl rfl rfl) rfl ?_;refine AL.p (by exact g_strOfBytes (l := [x, y]) rfl rfl rfl rfl rfl rfl rfl) rfl ?_;refine AL.nil (th_n (AC.block (AC.seq (AC.seq (AC.region ?_)))));refine AL.p (by exact g_scmp (r := b1) rfl rfl (by show some (decide _) = _; rw [z1])) rfl ?_;refine za ?_;refine AL.nil (th_n ?_);refine AC.condB rfl (fun h0 => ?_) (fun h0 => ?_)
 ·refine AC.skip (th_n ?_);refine AC.condB rfl (fun h1 => ?_) (fun h1 => ?_)
  ·refine AC.seq (AC.region ?_);refine za ?_;refine AL.nil (th_n (AC.ret (ib_r (th_r (bq_r ?_)))));exact ret1 rfl (by clear z0 z1 z2 z3 z4 z5 z6; simp_all)
  refine AC.skip (ib_n (th_n (AC.seq (AC.region ?_))));refine zm ?_;refine zm ?_;refine AL.p (by exact g_cmp (r := b0) rfl rfl (by show some (decide _) = _; rw [z0])) rfl ?_;refine za ?_;refine AL.nil (th_n (AC.ret (bq_r ?_)));exact ret1 rfl (by clear z0 z1 z2 z3 z4 z5 z6; simp_all)
 refine AC.seq (AC.region ?_);refine AL.p (by exact g_scmp (r := b2) rfl rfl (by show some (decide _) = _; rw [z2])) rfl ?_;refine za ?_;refine AL.nil (th_n ?_);refine AC.condB rfl (fun h1 => ?_) (fun h1 => ?_)
 ·refine AC.skip (th_n ?_);refine AC.condB rfl (fun h2 => ?_) (fun h2 => ?_)
  ·refine AC.seq (AC.region ?_);refine za ?_;refine AL.nil (th_n (AC.ret (ib_r (th_r (bq_r ?_)))));exact ret1 rfl (by clear z0 z1 z2 z3 z4 z5 z6; simp_all)
  refine AC.skip (ib_n (th_n (AC.seq (AC.region ?_))));refine zm ?_;refine zm ?_;refine AL.p (by exact g_cmp (r := b0) rfl rfl (by show some (decide _) = _; rw [z0])) rfl ?_;refine za ?_;refine AL.nil (th_n (AC.ret (bq_r ?_)));exact ret1 rfl (by clear z0 z1 z2 z3 z4 z5 z6; simp_all)
 refine AC.seq (AC.region ?_);refine AL.p (by exact g_scmp (r := b3) rfl rfl (by show some (decide _) = _; rw [z3])) rfl ?_;refine za ?_;refine AL.nil (th_n ?_);refine AC.condB rfl (fun h2 => ?_) (fun h2 => ?_)
 ·refine AC.skip (th_n ?_);refine AC.condB rfl (fun h3 => ?_) (fun h3 => ?_)
  ·refine AC.seq (AC.region ?_);refine za ?_;refine AL.nil (th_n (AC.ret (ib_r (th_r (bq_r ?_)))));exact ret1 rfl (by clear z0 z1 z2 z3 z4 z5 z6; simp_all)
  refine AC.skip (ib_n (th_n (AC.seq (AC.region ?_))));refine zm ?_;refine zm ?_;refine AL.p (by exact g_cmp (r := b0) rfl rfl (by show some (decide _) = _; rw [z0])) rfl ?_;refine za ?_;refine AL.nil (th_n (AC.ret (bq_r ?_)));exact ret1 rfl (by clear z0 z1 z2 z3 z4 z5 z6; simp_all)
 refine AC.seq (AC.region ?_);refine AL.p (by exact g_scmp (r := b4) rfl rfl (by show some (decide _) = _; rw [z4])) rfl ?_;refine za ?_;refine AL.nil (th_n ?_);refine AC.condB rfl (fun h3 => ?_) (fun h3 => ?_)
 ·refine AC.skip (th_n ?_);refine AC.condB rfl (fun h4 => ?_) (fun h4 => ?_)
  ·refine AC.seq (AC.region ?_);refine za ?_;refine AL.nil (th_n (AC.ret (ib_r (th_r (bq_r ?_)))));exact ret1 rfl (by clear z0 z1 z2 z3 z4 z5 z6; simp_all)
  refine AC.skip (ib_n (th_n (AC.seq (AC.region ?_))));refine zm ?_;refine zm ?_;refine AL.p (by exact g_cmp (r := b0) rfl rfl (by show some (decide _) = _; rw [z0])) rfl ?_;refine za ?_;refine AL.nil (th_n (AC.ret (bq_r ?_)));exact ret1 rfl (by clear z0 z1 z2 z3 z4 z5 z6; simp_all)
 refine AC.seq (AC.region ?_);refine AL.p (by exact g_scmp (r := b5) rfl rfl (by show some (decide _) = _; rw [z5])) rfl ?_;refine za ?_;refine AL.nil (th_n ?_);refine AC.condB rfl (fun h4 => ?_) (fun h4 => ?_)
 ·refine AC.skip (th_n ?_);refine AC.condB rfl (fun h5 => ?_) (fun h5 => ?_)
  ·refine AC.seq (AC.region ?_);refine za ?_;refine AL.nil (th_n (AC.ret (ib_r (th_r (bq_r ?_)))));exact ret1 rfl (by clear z0 z1 z2 z3 z4 z5 z6; simp_all)
  refine AC.skip (ib_n (th_n (AC.seq (AC.region ?_))));refine zm ?_;refine zm ?_;refine AL.p (by exact g_cmp (r := b0) rfl rfl (by show some (decide _) = _; rw [z0])) rfl ?_;refine za ?_;refine AL.nil (th_n (AC.ret (bq_r ?_)));exact ret1 rfl (by clear z0 z1 z2 z3 z4 z5 z6; simp_all)
 refine AC.region ?_;refine AL.p (by exact g_scmp (r := b6) rfl rfl (by show some (decide _) = _; rw [z6])) rfl ?_;refine za ?_;refine AL.nil (th_n ?_);refine AC.condB rfl (fun h5 => ?_) (fun h5 => ?_)
 ·refine AC.seq (AC.region ?_);refine za ?_;refine AL.nil (th_n (AC.ret (ib_r (th_r (bq_r ?_)))));exact ret1 rfl (by clear z0 z1 z2 z3 z4 z5 z6; simp_all)
 refine AC.skip (ib_n (th_n (AC.seq (AC.region ?_))));refine zm ?_;refine zm ?_;refine AL.p (by exact g_cmp (r := b0) rfl rfl (by show some (decide _) = _; rw [z0])) rfl ?_;refine za ?_;refine AL.nil (th_n (AC.ret (bq_r ?_)));exact ret1 rfl (by clear z0 z1 z2 z3 z4 z5 z6; simp_all)
theorem en_mayFollow : Enters Tryz.prog 125 := enters_of Tryz.func125 rfl rfl
theorem isPartition1_spec (a : Ar) (w : List UInt8) (ha : ArIn w.length a) : ASpec Tryz.prog 124 [arA a, .d (.ref [dS (bstr w)])] [] (Pure1 (aT (!nxtB (w.getD a.from_.toNat 0) (w.getD a.to_.toNat 0)))) := by
 unfold ArIn at ha;obtain ⟨f, hf⟩ := eqx a.from_.toNat;obtain ⟨t, ht⟩ := eqx a.to_.toNat;have hfi : a.from_ = (f : Int) := by omega
 have hti : a.to_ = (t : Int) := by omega
 have h1 := bstr_getD (l := w) (k := f) (by omega);have h2 := bstr_getD (l := w) (k := t) (by omega);have hM := mayFollow_spec (w.getD f 0) (w.getD t 0);rw [← hf, ← ht];refine ASpec.of Tryz.func124 rfl rfl fun C hC => ?_
 refine AC.seq (AC.region ?_);refine kD ?_;refine za ?_;refine AL.nil (th_n (AC.seq ?_));refine AC.drawn' mixed_ok [[], [], [1], [0,1,2], [], [], [5], [4,5,6], [0,1,2,3,4,5,6,7], [0,1,2,3,4,5,6,7,8], [0,1,2,3,4,5,6,7,8,9]] (by decide) ?_;refine zd 0 [] 11 (by exact g_load_ref rfl rfl rfl) ?_;refine zd 1 [] 11 (by exact g_fa_ref rfl rfl rfl rfl rfl rfl) ?_;refine zd 2 [1] 11 (by exact g_load_ref rfl rfl rfl) ?_;refine zd 3 [0,1,2] 11 (by exact g_index (i := f) rfl rfl rfl hfi h1) ?_;refine zd 4 [] 11 (by exact g_load_ref rfl rfl rfl) ?_;refine zd 5 [] 11 (by exact g_fa_ref rfl rfl rfl rfl rfl rfl) ?_;refine zd 6 [5] 11 (by exact g_load_ref rfl rfl rfl) ?_;refine zd 7 [4,5,6] 11 (by exact g_index (i := t) rfl rfl rfl hti h2) ?_;refine zh 8 [0,1,2,3,4,5,6,7] 11 (by exact h_pure en_mayFollow rfl rfl (by repeat (first | exact rfl | exact DLead.same | refine ⟨_, _, rfl, ?_, ?_⟩)) hM rfl) ?_;refine zd 9 (List.range 9) 11 (by exact g_not rfl) ?_;refine zd 10 (List.range 10) 11 (by exact as1 rfl) ?_;refine zj 11 ?_;refine th_n (AC.ret (bq_r ?_));exact ret1 rfl rfl
theorem en_isPartition1 : Enters Tryz.prog 124 := enters_of Tryz.func124 rfl rfl
theorem isPartition_spec (c : SG) (w : List UInt8) (hl : c.arcs.length ≤ 1000000) (hin : ∀ a, a ∈ c.arcs → ArIn w.length a) : ASpec Tryz.prog 69 [sgA c, aS (bstr w)] [] (Pure1 (aT (parB c w))) := by
 have hCf := cfAr_spec c.arcs hl 124 [.ref [dS (bstr w)]] en_isPartition1 (fun a => !nxtB (w.getD a.from_.toNat 0) (w.getD a.to_.toNat 0)) (fun a h => isPartition1_spec a w (hin a h))
 have hR : (!c.arcs.any fun a => !nxtB (w.getD a.from_.toNat 0) (w.getD a.to_.toNat 0)) = parB c w := by
  unfold parB;rw [List.all_eq_not_any_not]
 refine ASpec.of Tryz.func69 rfl rfl fun C hC => ?_
 refine AC.seq (AC.region ?_);refine kD ?_;refine kD ?_;refine za ?_;refine AL.nil (th_n (AC.seq (AC.region ?_)));refine zf ?_;refine zr ?_;refine AL.p (by exact g_fn rfl) rfl ?_;refine AL.q (by exact h_pure en_cfAr rfl rfl (by exact ⟨_, _, rfl, .same, _, _, rfl, ⟨_, rfl, leadsL_data _ [.ref [dS (bstr w)]]⟩, rfl⟩) hCf rfl) rfl ?_;refine kC ?_;refine za ?_;refine AL.nil (th_n (AC.ret (bq_r ?_)));exact ret1 rfl (by rw [hR])
theorem en_isPartition : Enters Tryz.prog 69 := enters_of Tryz.func69 rfl rfl
def okSg (b : UInt8) : Bool := decide (b = 48) || decide (b = 43) || decide (b = 49) || decide (b = 45)
noncomputable def areS (c : SG) (w : List UInt8) : Bool := w.all okSg && (decide (w.length = c.codes.length) && validC c)
set_option maxHeartbeats 2000000 in
theorem areSigns_spec (c : SG) (w : List UInt8) (hw : w.length ≤ 1000000) (hc : SgL c) : ASpec Tryz.prog 68 [sgA c, aS (bstr w)] [] (Pure1 (aT (areS c w))) := by
 have hV := iValidSg_spec c hc;have hn := hc.n;have hR : areS c w = (w.all okSg && (decide (w.length = c.codes.length) && validC c)) := rfl;obtain ⟨v, hv⟩ := eqx (validC c);rw [← hv] at hV hR;clear hv;rw [hR];clear hR;refine ASpec.of Tryz.func68 rfl rfl fun C hC => ?_
 refine AC.seq (AC.region ?_);refine kD ?_;refine za ?_;refine AL.nil (th_n (AC.seq (AC.seq (AC.region ?_))));refine za ?_;refine AL.nil (th_n (AC.block ?_));refine AC.loop (ι := Nat) (fun i => ⟨40, 300, [(1, aS (bstr w)), (2, .d (.ref (sgD c))), (5, aI i)], []⟩) (fun i => i ≤ w.length ∧ (w.take i).all okSg = true) (fun i => w.length - i) (0) ?_ (⟨Nat.zero_le _, rfl⟩) ?_
 ·exact Weak.ren _ [] hC rfl (by repeat (first | exact True.intro | refine And.intro ?_ ?_ | exact DLead.same)) (by repeat (exact True.intro)) rfl rfl rfl
 rintro i ⟨hi, hal⟩;refine AC.seq (AC.seq (AC.region ?_));refine zm ?_;refine zm ?_;refine AL.p (by exact g_len_str (k := w.length) rfl rfl (bstr_size _)) rfl ?_;refine zc ?_;refine AL.nil (th_n ?_);refine AC.condD rfl (fun h0 => ?_) (fun h0 => ?_)
 ·refine AC.skip (th_n (AC.seq (AC.block (AC.seq ?_))));have hi1 : i < w.length := by omega
  have hg := bstr_at hi1;have hnx : (w.take (i + 1)).all okSg = okSg w[i] := by rw [List.take_add_one, List.getElem?_eq_getElem hi1, List.all_append, hal]; simp
  have hwi : okSg w[i] = false → w.all okSg = false := fun h => List.all_eq_false.2 ⟨_, List.getElem_mem hi1, by rw [h]; decide⟩
  obtain ⟨b, hb⟩ := eqx (w[i]);rw [← hb] at hg hnx hwi;have k1 : decide ((b.toNat : Int) = 48) = decide (b = 48) := u8_dec b 48;have k2 : decide ((b.toNat : Int) = 43) = decide (b = 43) := u8_dec b 43;have k3 : decide ((b.toNat : Int) = 49) = decide (b = 49) := u8_dec b 49;have k4 : decide ((b.toNat : Int) = 45) = decide (b = 45) := u8_dec b 45;have hok : okSg b = (decide (b = 48) || decide (b = 43) || decide (b = 49) || decide (b = 45)) := rfl;refine AC.region ?_;refine zm ?_;refine zm ?_;refine AL.p (by exact g_index (i := i) rfl rfl rfl rfl hg) rfl ?_;refine za ?_;refine AL.nil (th_n (AC.seq (AC.region ?_)));refine zm ?_;refine AL.p (by exact g_cmp (r := !decide (b = 48)) rfl rfl (by show some (!decide _) = _; rw [k1])) rfl ?_;refine zm ?_;refine AL.caseGN rfl rfl (fun h1 => ?_) (fun h1 => ?_)
  ·refine zy ?_;refine zm ?_;refine zy ?_;refine AL.p (by exact g_cmp (r := !decide (b = 43)) rfl rfl (by show some (!decide _) = _; rw [k2])) rfl ?_;refine zQ ?_;refine zm ?_;refine AL.caseGN rfl rfl (fun h2 => ?_) (fun h2 => ?_)
   ·refine zy ?_;refine zm ?_;refine zy ?_;refine AL.p (by exact g_cmp (r := !decide (b = 49)) rfl rfl (by show some (!decide _) = _; rw [k3])) rfl ?_;refine zQ ?_;refine zm ?_;refine AL.caseGN rfl rfl (fun h3 => ?_) (fun h3 => ?_)
    ·refine zy ?_;refine zm ?_;refine zy ?_;refine AL.p (by exact g_cmp (r := !decide (b = 45)) rfl rfl (by show some (!decide _) = _; rw [k4])) rfl ?_;refine zQ ?_;refine AL.nil (th_n ?_);refine AC.condND rfl (fun h4 => ?_) (fun h4 => ?_)
     ·refine AC.seq (AC.region ?_);refine za ?_;refine AL.nil (th_n (AC.ret (ib_r (th_r (th_r (ib_r (th_r (bq_r ?_))))))));exact ret1 rfl (by rw [hwi (by rw [hok]; simp_all), Bool.false_and])
     refine AC.skip (ib_n (th_n (AC.region ?_)));refine zm ?_;refine zA ?_;refine za ?_;refine AL.nil (th_n ?_);exact ⟨i + 1, ⟨by omega, by rw [hnx, hok]; simp_all⟩, by omega, Weak.ren _ [] hC rfl (by repeat (first | exact True.intro | refine And.intro ?_ ?_ | exact DLead.same)) (by repeat (exact True.intro)) rfl rfl rfl⟩
    refine zn ?_;refine zn ?_;refine zP ?_;refine AL.nil (th_n ?_);refine AC.condF rfl ?_;refine AC.skip (ib_n (th_n (AC.region ?_)));refine zm ?_;refine zA ?_;refine za ?_;refine AL.nil (th_n ?_);exact ⟨i + 1, ⟨by omega, by rw [hnx, hok]; simp_all⟩, by omega, Weak.ren _ [] hC rfl (by repeat (first | exact True.intro | refine And.intro ?_ ?_ | exact DLead.same)) (by repeat (exact True.intro)) rfl rfl rfl⟩
   refine zn ?_;refine zn ?_;refine zP ?_;refine zm ?_;refine zn ?_;refine zn ?_;refine zP ?_;refine AL.nil (th_n ?_);refine AC.condF rfl ?_;refine AC.skip (ib_n (th_n (AC.region ?_)));refine zm ?_;refine zA ?_;refine za ?_;refine AL.nil (th_n ?_);exact ⟨i + 1, ⟨by omega, by rw [hnx, hok]; simp_all⟩, by omega, Weak.ren _ [] hC rfl (by repeat (first | exact True.intro | refine And.intro ?_ ?_ | exact DLead.same)) (by repeat (exact True.intro)) rfl rfl rfl⟩
  refine zn ?_;refine zn ?_;refine zP ?_;refine zm ?_;refine zn ?_;refine zn ?_;refine zP ?_;refine zm ?_;refine zn ?_;refine zn ?_;refine zP ?_;refine AL.nil (th_n ?_);refine AC.condF rfl ?_;refine AC.skip (ib_n (th_n (AC.region ?_)));refine zm ?_;refine zA ?_;refine za ?_;refine AL.nil (th_n ?_);exact ⟨i + 1, ⟨by omega, by rw [hnx, hok]; simp_all⟩, by omega, Weak.ren _ [] hC rfl (by repeat (first | exact True.intro | refine And.intro ?_ ?_ | exact DLead.same)) (by repeat (exact True.intro)) rfl rfl rfl⟩
 refine AC.exit (th_e (th_e (ib_y (th_n (AC.seq ?_)))));have hii : i = w.length := by omega
 rw [hii, List.take_length] at hal;have hz : decide ((w.length : Int) = (c.codes.length : Int)) = decide (w.length = c.codes.length) := decide_eq_decide.2 ⟨fun h => by omega, fun h => by omega⟩;refine AC.region ?_;refine zm ?_;refine AL.p (by exact g_len_str (k := w.length) rfl rfl (bstr_size _)) rfl ?_;refine zf ?_;refine zr ?_;refine kI c.codes.length (tsX_len _) ?_;refine AL.p (by exact g_cmp (r := decide (w.length = c.codes.length)) rfl rfl (by show some (decide _) = _; rw [hz])) rfl ?_;refine zm ?_;refine AL.caseG rfl rfl (fun h1 => ?_) (fun h1 => ?_)
 ·refine zy ?_;refine kG ?_;refine zy ?_;refine kV en_iValidSg hV ?_;refine zQ ?_;refine za ?_;refine AL.nil (th_n (AC.ret (bq_r ?_)))
  (have q := ‹w.length = c.codes.length›; exact ret1 rfl (by rw [hal, decide_eq_true q]; rfl))
 refine zn ?_;refine zn ?_;refine zP ?_;refine za ?_;refine AL.nil (th_n (AC.ret (bq_r ?_)))
 (have q := ‹¬ w.length = c.codes.length›; exact ret1 rfl (by rw [hal, decide_eq_false q]; rfl))
theorem en_areSigns : Enters Tryz.prog 68 := enters_of Tryz.func68 rfl rfl
end Go.Proofs.YtbofmbjefbpnaaaGreat
