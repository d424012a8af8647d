/- Contracts of the functions of the program and of the reference, each proved by a walk through its code. -/
import Derived.Test.YtknfdlakkbmdcaaGreatGAe6
set_option linter.all false
set_option maxRecDepth 20000
namespace Go.Proofs.YtknfdlakkbmdcaaGreat
open Go.RowKit
mutual
def AV.solid : AV → Bool
 | .dead => true
 | .und => true
 | .d (.val _) => true
 | .own _ _ => true
 | .ptr _ _ => true
 | .tup cs => AV.solidL cs
 | .agg cs => AV.solidL cs
 | _ => false
def AV.solidL : List AV → Bool
 | [] => true
 | c :: cs => c.solid && AV.solidL cs
end
theorem AV.solidL_get : ∀ {cs : List AV}, AV.solidL cs = true → ∀ (i : Nat) c, cs[i]? = some c → c.solid = true
 | [], _, i, c, h => by simp at h
 | c :: cs, hf, i, c', h => by
  simp only [AV.solidL, Bool.and_eq_true] at hf;cases i with
  | zero => simp at h; subst h; exact hf.1
  | succ i => exact AV.solidL_get hf.2 i c' (by simpa using h)
def Chunk.solid : Chunk → Prop
 | .cells _ cs => AV.solidL cs = true
 | .arr _ _ els => ∀ cs, cs ∈ els → ∀ d, d ∈ cs → d.flat
 | _ => True
theorem ARep.solid {m : Nat → Option (Option Nat × Nat)} {F F' : Nat → Prop} {w : World} {x : AV} {v : Value} (h : ARep m F w x v) : x.solid = true → ARep m F' w x v := by
 induction h with
 | dead => intro _; exact .dead
 | und => intro _; exact .und
 | own h h0 => intro _; exact .own h h0
 | ptr h => intro _; exact .ptr h
 | d h => intro hf; rename_i x v; cases x with
  | val u => exact .d (h.flat trivial)
  | _ => simp [AV.solid] at hf
 | agg h1 _ h3 ih => intro hf; exact .agg h1 (fun i c hc => ih i c hc (AV.solidL_get (by simpa [AV.solid] using hf) i c hc)) h3
 | tup h1 _ ih => intro hf; exact .tup h1 (fun i c hc => ih i c hc (AV.solidL_get (by simpa [AV.solid] using hf) i c hc))
 | _ => intro hf; simp [AV.solid] at hf
theorem CRep.solid {m : Nat → Option (Option Nat × Nat)} {F F' : Nat → Prop} {w : World} {p : Option Nat × Nat} {c : Chunk} (h : CRep m F w p c) (hs : c.solid) : CRep m F' w p c := by
 cases h with
 | cells h1 h2 h3 h4 => exact .cells h1 h2 (fun i c hc => (h3 i c hc).solid (AV.solidL_get hs i c hc)) h4
 | arr h1 h2 h3 h4 h5 h6 h7 h8 => exact .arr h1 h2 h3 h4 h5 h6 h7 (fun i cs j d hi hj => (h8 i cs j d hi hj).flat (hs cs (List.mem_of_getElem? hi) d (List.mem_of_getElem? hj)))
 | nil h => exact .nil h
 | iter h => exact .iter h
 | map h => exact .map h
 | obj h => exact .obj h
 | pred h1 h2 h3 => exact .pred h1 h2 h3
 | lock h => exact .lock h
section
variable {P : Program} [PT P]
variable {s : ASt} {dst : Option Nat} {ty : Nat} {pos : String} {af : Array Edge} {gd : Option (Nat × Bool)} {f : Nat}
theorem h_borrowN (ids : List Nat) {g : FuncId} {caps ys ars : List AV} {fx : Operand} {xs : Array Operand} {ats : Array TypeId} {R : AV → List (Nat × Chunk) → Prop} (hen : Enters P g) (hf : s.ev fx = .clo g caps) (hys : xs.toList.map s.ev ++ caps = ys)
  (hspec : ASpec P g ars [] R) (hlead : BAs ids s ars ys) (hr : ∀ r chs, R r chs → r.solid = true ∧ ∀ id c, getL id chs = some c → c.solid) :
  NOpR P ids s ⟨dst, .call { callee := .value fx, args := xs, argTypes := ats }, ty, pos, af, gd⟩ f (fun u => ∃ r chs', R r chs' ∧ u = callU [] f r chs') := by
 refine ⟨fun s' ha C U U' a w m hR hU hU' hd K Q hK => ?_⟩;have hfx := hR.ev fx;rw [ha.2.1 fx (by simp [Op.operands, Call.operands]), hf] at hfx
 have hblk : ∀ j c p b, s'.chunk j = some c → m j = some p → occ p c b → b < w.heap.size := by
  intro j c p b h1 h2 h3;obtain ⟨q, hq, hr, _⟩ := hR.ch j c h1;rw [h2] at hq;obtain rfl : p = q := by simpa using hq
  exact hr.lt h3
 generalize hfv : a.eval fx = fv at hfx;cases hfx with
 | clo hc1 hc2 =>
  rename_i cv
  have hrun : (execOp a.eval ⟨dst, .call { callee := .value fx, args := xs, argTypes := ats }, ty, pos, af, gd⟩).run P w = .ok (.enter g (xs.map a.eval ++ cv)) w := by
   simp [execOp, resolve, hfv, Deferred.ofValue, invoke, hen (xs.map a.eval ++ cv) w]
  obtain ⟨hl1, hl2⟩ := hlead.get
  have harg : ∀ (i : Nat) y, ys[i]? = some y → ARep m (Fz C m s' w) w y ((xs.map a.eval ++ cv).getD i undef) := by
   intro i y hy;rw [← hys] at hy
   by_cases hi : i < xs.size
   ·rw [List.getElem?_append_left (by simpa using hi), List.getElem?_map, Option.map_eq_some_iff] at hy;obtain ⟨x, hx, rfl⟩ := hy;have hx' : xs[i]? = some x := by simpa using hx
    have := hR.ev x;rw [ha.2.1 x (by simp only [Op.operands, Call.operands, Array.mem_append]; exact .inr (Array.mem_of_getElem? hx'))] at this
    have e : (xs.map a.eval ++ cv).getD i undef = a.eval x := by
     have hxi : xs[i] = x := (Array.getElem?_eq_some_iff.1 hx').2;simp [Array.getD_eq_getD_getElem?, Array.getElem?_append, hi, hxi]
    rw [e]; exact this
   rw [List.getElem?_append_right (by simpa using Nat.le_of_not_lt hi)] at hy;have := hc2 _ y hy
   have e : (xs.map a.eval ++ cv).getD i undef = cv.getD (i - xs.size) undef := by
    simp [Array.getD_eq_getD_getElem?, Array.getElem?_append, hi]
   rw [e]; simpa using this
  have hcall := hspec w (fun _ => none) (fun k => k < w.heap.size) (xs.map a.eval ++ cv) (fun k hk => ⟨hk, fun id c p hc => by simp [getL] at hc⟩) ?_ ?_ (fun id c hc => by simp [getL] at hc) (fun id id' c c' p p' b hc => by simp [getL] at hc) (fun id _ => rfl)
  ·unfold Oper.wp;rw [hrun];simp only [Oper.upon];refine Calls.mono hcall ?_;rintro e w' ⟨v, r, chs', m1, F1, rfl, hRr, -, hn1, hF1, ⟨f1, f2, f3, f4, f5⟩, hv, hc', hi'⟩;obtain ⟨hrs, hcs⟩ := hr r chs' hRr;have hold : ∀ k, k < w.heap.size → w'.heap[k]? = w.heap[k]? := fun k hk => f5 k hk (fun id c p hc => by simp [getL] at hc)
   have hmf : ∀ k, k < 8 → m (f + k) = none := fun k hk => hR.un _ (hU k hk)
   let m2 : Nat → Option (Option Nat × Nat) := fun j => if f ≤ j ∧ j < f + 8 then m1 (j - f) else m j
   have htau : ∀ i, tauC [] f i = f + i := fun i => by simp [tauC]
   have hle : MLe m m2 := by
    intro j p hp
    have : ¬ (f ≤ j ∧ j < f + 8) := fun h => by
     have := hmf (j - f) (by omega);rw [show f + (j - f) = j by omega, hp] at this;cases this
    simp [m2, this, hp]
   have hm12 : ∀ id p, m1 id = some p → m2 (tauC [] f id) = some p := by
    intro id p hp
    have h8 : id < 8 := by
     rcases Nat.lt_or_ge id 8 with h | h
     ·exact h
     have := hn1 id (by simpa using h); rw [hp] at this; cases this
    rw [htau];have hin : f ≤ f + id ∧ f + id < f + 8 := by omega
    simp only [m2, hin, and_self, if_true];rw [show f + id - f = id by omega];exact hp
   have hm2 : ∀ i c0, getL i chs' = some c0 → ∀ p, m2 (tauC [] f i) = some p → m1 i = some p := by
    intro i c0 h1 p hp;obtain ⟨q, hq, _⟩ := hc' i c0 h1;have := hm12 i q hq;rw [hp] at this;rw [hq, this]
   have hgone : ∀ id c, getL id (callU [] f r chs').ch = some (some c) → ∃ i c0, getL i chs' = some c0 ∧ tauC [] f i = id ∧ c = c0.ren (tauC [] f) := by
    intro id c h;simp only [callU, getL_append, noneC] at h;cases hm : getL id (mapC [] f chs') with
    | some o =>
     rw [hm] at h;simp only [Option.some_or, Option.some.injEq] at h;subst h;obtain ⟨i, c0, h1, h2, h3⟩ := getL_mapC hm;exact ⟨i, c0, h1, h2, by simpa using h3⟩
    | none =>
     rw [hm] at h;simp [getL] at h
   have hnewblk : ∀ i c0 p b, getL i chs' = some c0 → m1 i = some p → occ p c0 b → w.heap.size ≤ b := by
    intro i c0 p b h1 h2 h3;obtain ⟨q, hq, _, hl⟩ := hc' i c0 h1;rw [h2] at hq;obtain rfl : p = q := by simpa using hq
    rcases hl b h3 with h | ⟨id0, c1, p0, g1, _⟩
    ·exact h
    simp [getL] at g1
   refine hK _ ⟨r, chs', hRr, rfl⟩ _ _ m2 (hR.step hd hle (fun j hj => ?_) ?_ f4 (fun k hk => ⟨fun id c p h1 h2 h3 => ?_, hold k hk.2.1⟩) (fun id c p b h0 h1 h2 h3 => hold b (hblk id c p b h1 h2 h3)) (fun F' hF hF2 => ?_) (fun id id' c c' p p' b h1 h2 hp hp' hb hb' => ?_))
   ·have := hU' j hj;have h2 : ¬ (f ≤ j ∧ j < f + 8) := by omega
    simp only [m2, h2, if_false];exact hR.un j this.1
   ·refine ⟨f1.trans hR.fr.os, f2.trans hR.fr.tape, f3.trans hR.fr.output, Nat.le_trans hR.fr.size f4, fun k hk hn => ?_⟩;rw [hold k (Nat.lt_of_lt_of_le hk hR.fr.size)];exact hR.fr.block k hk hn
   ·obtain ⟨i, c0, g1, rfl, rfl⟩ := hgone id c h1;have := hnewblk i c0 p k g1 (hm2 i c0 g1 p h2) (occ_ren.1 h3);have := hk.2.1; omega
   ·refine ⟨(hv.solid (F' := fun _ => False) hrs).ren hm12 (fun _ h => h.elim), fun id c h => ?_⟩;obtain ⟨i, c0, g1, rfl, rfl⟩ := hgone id c h;obtain ⟨p, q1, q2, q3⟩ := hc' i c0 g1;refine ⟨p, hm12 i p q1, (q2.solid (F' := fun _ => False) (hcs i c0 g1)).ren hm12 (fun _ h => h.elim), fun b hb => ?_⟩;exact .inr (Nat.le_trans hR.fr.size (hnewblk i c0 p b g1 q1 (occ_ren.1 hb)))
   obtain ⟨i, c0, g1, rfl, rfl⟩ := hgone id c h1;have hp1' := hm2 i c0 g1 p hp;rw [ASt.chunk_app] at h2;cases hg : getL id' (callU [] f r chs').ch with
   | some o =>
    rw [hg] at h2;simp only at h2;subst h2;obtain ⟨i', c0', g1', rfl, rfl⟩ := hgone id' c' hg;have := hi' i i' c0 c0' p p' b g1 g1' hp1' (hm2 i' c0' g1' p' hp') (occ_ren.1 hb) (occ_ren.1 hb');rw [this]
   | none =>
    rw [hg] at h2;simp only at h2;obtain ⟨q, hq, _⟩ := hR.ch id' c' h2;have := hle id' q hq;rw [hp'] at this;obtain rfl : p' = q := by simpa using this
    have hlt := hblk id' c' p' b h2 hq hb';have := hnewblk i c0 p b g1 hp1' (occ_ren.1 hb);omega
  ·have : ys.length = xs.size + caps.length := by rw [← hys]; simp
   simp only [Array.size_append, Array.size_map];omega
  intro i x hx;obtain ⟨y, hy, hxy⟩ := hl2 i x hx;exact hxy.rep hR ha.2.2 (fun k hk => hk) (harg i y hy)
end
theorem TL.congr {w : World} {S S' : Nat → Prop} {L : List DV} {V : List Value} (h : TL w S L V) (he : ∀ k, S k ↔ S' k) : TL w S' L V := by
 have : S = S' := funext fun k => propext (he k)
 subst this; exact h
theorem TL.consFlat {w : World} {S : Nat → Prop} {L : List DV} {V : List Value} {x : Value} (hx : okV x) (h : TL w S L V) : TL w S (.val x :: L) (x :: V) :=
 (TL.cons (S := fun _ => False) (.val (fun _ h => h) hx) h (fun _ h => h.elim)).congr fun k => by simp
def OneT (x : DV) : AV → List (Nat × Chunk) → Prop := fun r chs => ∃ v S, r = .d (.val v) ∧ chs = [(0, .pred S fun w => TRep w S x v)]
def TwoT (x y : DV) : AV → List (Nat × Chunk) → Prop := fun r chs => ∃ v1 v2 S, r = .agg [.d (.val v1), .d (.val v2)] ∧ chs = [(0, .pred S fun w => TL w S [x, y] [v1, v2])]
section
variable {P : Program} [PT P] {C : Ctx} {Q : Exit → ASt → Prop} {s : ASt} {ops : Array Oper}
theorem WeakR.okI (i : Nat) {k : IntKind} {x : Int} (hs : s.get i = .d (.val (.int k x))) : WeakR C s fun t => okV (.int k x) ∧ t = s := by
 refine ⟨fun a w hR => ?_⟩;obtain ⟨m, hm⟩ := hR;have := hm.sl i;rw [hs] at this;refine ⟨s, ⟨?_, rfl⟩, m, hm⟩;generalize a.tmps.getD i undef = u at this;cases this with | d h => cases h with | val h => exact h
theorem retX (ρ : List (Nat × Nat)) {fn : Func} {k : Nat} {R : AV → List (Nat × Chunk) → Prop} {x r : AV} {chs' : List (Nat × Chunk)} (hx : resAV P s fn.results.toList = some x) (hR : R r chs') (h : r.leads (sig k ρ) x) (hc : leadsC (sig k ρ) s (chL chs')) (ha : apartL (sig k ρ) (keysC (chL chs')) = true) (hρ : ρ.all (fun p => Nat.blt p.1 (k + 8)) = true) : RetQ P fn k R s := by
 obtain ⟨x', r', c', ρ', h1, ⟨rfl, rfl⟩, h3, h4, h5, h6⟩ := (retN ρ hx h hc ha hρ : RetQ P fn k (Fun1 r chs') s).out;exact ⟨⟨x', _, _, ρ', h1, hR, h3, h4, h5, h6⟩⟩
theorem h_funR {dst : Option Nat} {ty : Nat} {pos : String} {af : Array Edge} {g : FuncId} {caps ys ars : List AV} {fx : Operand} {xs : Array Operand} {ats : Array TypeId} {chs : List (Nat × Chunk)} {R : AV → List (Nat × Chunk) → Prop} {cs : List Nat} {f : Nat} {gd : Option (Nat × Bool)} (hen : Enters P g) (hf : s.ev fx = .clo g caps) (hys : xs.toList.map s.ev ++ caps = ys)
  (hlead : AV.leadsL (sigC cs) ars ys) (hch : leadsC (sigC cs) s (chL chs)) (hspec : ASpec P g ars chs R) (hkeys : chs.map (·.1) = List.range cs.length) (hlen : chs.length = cs.length) (hnd : nodupB cs = true) :
  NOpR P cs s ⟨dst, .call { callee := .value fx, args := xs, argTypes := ats }, ty, pos, af, gd⟩ f (fun u => ∃ r chs', R r chs' ∧ u = callU cs f r chs') :=
 h_callR (cs := cs) hen hf hys hspec hlead hlen (fun id c h => by
  obtain ⟨⟨j, d, h1, h2, h3⟩, _⟩ := leadsC_get hch id c (by rw [getL_chL]; exact h)
  exact ⟨j, d, h1, h2, h3⟩) (fun id j h => by
  obtain ⟨c, hc⟩ := keys_range hkeys (i := id) (List.mem_range.2 (List.getElem?_eq_some_iff.1 h).1);obtain ⟨⟨j', d, h1, h2, _⟩, _⟩ := leadsC_get hch id c (by rw [getL_chL]; exact hc);have h1' : cs[id]? = some j' := h1;rw [h] at h1';obtain rfl : j = j' := by simpa using h1'
  exact ⟨d, h2⟩) (fun i i' j => nodupB_inj hnd i i' j)
end
theorem ints_flat (l : List Int) : ∀ cs, cs ∈ ints l → ∀ d, d ∈ cs → d.flat := by
 intro cs hc d hd;obtain ⟨x, _, rfl⟩ := List.mem_map.1 hc;obtain rfl := List.mem_singleton.1 hd;exact trivial
set_option maxHeartbeats 1000000 in
theorem toIntS_T (l : List Int) (hl : l.length ≤ 1048576) : ASpec Tryz.prog 30 [.d (vI l)] [] (OneT (vI l)) := by
 refine ASpec.of Tryz.func30 rfl rfl fun C hC => ?_
 refine AC.seq (AC.region ?_);refine za ?_;refine AL.nil (th_n (AC.seq (AC.region ?_)));refine zm ?_;refine kH ?_;refine AL.q (by exact h_make (k := l.length) rfl rfl rfl rfl rfl rfl rfl rfl (by show 8 * l.length ≤ _; omega) (by omega)) rfl ?_;refine AL.p (by exact as2 rfl) rfl ?_;refine AL.nil (th_n (AC.seq (AC.seq (AC.region ?_))));refine za ?_;refine AL.nil (th_n (AC.block ?_));refine AC.loop (ι := Nat) (fun k => ⟨22, 108, [(0, .d (vI l)), (3, .own 100 l.length), (4, aI k)], [(100, some (.arr 3 1 (fillR (ints l) [dI 0] k)))]⟩) (fun k => k ≤ l.length) (fun k => l.length - k) (0) ?_ (Nat.zero_le _) ?_
 ·exact zw [(100, _)] hC (b := by rw [fill_zero, ints_len]; repeat (first | exact True.intro | refine And.intro ?_ ?_ | exact rfl | refine ⟨_, _, rfl, rfl, ?_⟩))
 intro k hk;refine AC.seq (AC.seq (AC.region ?_));refine zm ?_;refine zm ?_;refine kH ?_;refine zc ?_;refine AL.nil (th_n ?_);refine AC.condD rfl (fun h0 => ?_) (fun h0 => ?_)
 ·refine AC.skip (th_n (AC.seq (AC.block ?_)));have hk1 : k < l.length := by omega
  have hget := ints_at hk1;have hfl := fill_len (ints l) [dI 0] (k := k) (by rw [ints_len]; omega);rw [ints_len] at hfl;have hgf := fill_get (R := ints l) (z := [dI 0]) (k := k) (by rw [ints_len]; omega);have hst := fill_set (R := ints l) (z := [dI 0]) (k := k) (by rw [ints_len]; omega) hget;refine AC.region ?_;refine kB ?_;refine zm ?_;refine zm ?_;refine zm ?_;refine AL.p (by exact g_ia_view rfl rfl rfl rfl rfl (by rfl) (by assumption)) rfl ?_;refine zr ?_;refine AL.p (by exact g_ia_own rfl rfl rfl rfl rfl (by rfl) (by omega) (by exact Nat.mul_one _)) rfl ?_;refine AL.q (by exact h_store_arr1 rfl rfl rfl rfl (by exact .same) (by assumption)) rfl ?_;refine AL.nil (ib_n (th_n (AC.region ?_)));refine zm ?_;refine zA ?_;refine za ?_;refine AL.nil (th_n ?_);exact ⟨k + 1, by omega, by omega, zw [(100, _)] hC (b := by rw [← hst]; repeat (first | exact True.intro | refine And.intro ?_ ?_ | exact rfl | refine ⟨_, _, rfl, rfl, ?_⟩))⟩
 refine AC.exit (th_e (th_e (ib_y (th_n (AC.seq ?_)))));have hkk : k = l.length := by omega
 have hfa := fill_all (ints l) [dI 0];rw [ints_len] at hfa;rw [hkk, hfa];refine AC.weakR (WeakR.raw (id := 100) 3 rfl rfl (Nat.le_of_eq (ints_len _).symm) (ints_all _) (ints_flat _)) ?_;rintro _ ⟨v, S, rfl⟩;refine AC.region ?_;refine zm ?_;refine za ?_;refine AL.nil (th_n (AC.ret (bq_r ?_)));exact retX [(0, 108)] rfl ⟨v, S, rfl, rfl⟩ (by repeat (exact DLead.same)) (by repeat (first | exact True.intro | refine And.intro ?_ ?_ | exact rfl | refine ⟨_, _, rfl, rfl, ?_⟩)) rfl rfl
set_option maxHeartbeats 1000000 in
theorem toTn_T (t : Tn) (h1 : t.pre.length ≤ 1048576) (h2 : t.post.length ≤ 1048576) : ASpec Tryz.prog 54 [tnA t] [] (TwoT (vI t.pre) (vI t.post)) := by
 refine ASpec.of Tryz.func54 rfl rfl fun C hC => ?_
 refine AC.seq (AC.region ?_);refine kD ?_;refine kE ?_;refine AL.nil (th_n (AC.seq (AC.region ?_)));refine kE ?_;refine AL.nil (th_n (AC.seq (AC.region ?_)));refine zf ?_;refine zr ?_;refine AL.r (by exact h_funR (cs := []) en_toIntS rfl rfl (by repeat (first | exact rfl | exact DLead.same | refine ⟨_, _, rfl, ?_, ?_⟩)) (by repeat (exact True.intro)) (toIntS_T _ h1) rfl rfl rfl) rfl ?_;rintro _ ⟨_, _, ⟨v1, S1, rfl, rfl⟩, rfl⟩;refine zF ?_;refine zs ?_;refine AL.nil (th_n (AC.seq (AC.region ?_)));refine zf ?_;refine zr ?_;refine AL.r (by exact h_funR (cs := []) en_toIntS rfl rfl (by repeat (first | exact rfl | exact DLead.same | refine ⟨_, _, rfl, ?_, ?_⟩)) (by repeat (exact True.intro)) (toIntS_T _ h2) rfl rfl rfl) rfl ?_;rintro _ ⟨_, _, ⟨v2, S2, rfl, rfl⟩, rfl⟩;refine zF ?_;refine zs ?_;refine AL.nil (th_n (AC.seq ?_));refine AC.weak (Weak.appT 24 40 rfl (fun w h => TL.one h) rfl (fun w h => TL.one h) rfl) ?_;refine AC.region ?_;refine AL.p (by exact g_load_ptrN rfl rfl rfl rfl rfl) rfl ?_;refine zs ?_;refine AL.nil (th_n (AC.ret (bq_r ?_)));exact retX [(0, 24)] rfl ⟨v1, v2, _, rfl, rfl⟩ (by repeat (first | exact DLead.same | exact rfl | refine ⟨_, rfl, ?_⟩ | refine ⟨_, _, rfl, ?_, ?_⟩)) (by repeat (first | exact True.intro | refine And.intro ?_ ?_ | exact rfl | refine ⟨_, _, rfl, rfl, ?_⟩)) rfl rfl
theorem takeR_flat {R : List (List DV)} {k : Nat} {r : List DV} (h : R[k]? = some r) : (R.take (k + 1)).flatten = (R.take k).flatten ++ r := by
 rw [List.take_add_one, h, List.flatten_append]; simp
theorem tsL_row (ts : List Tn) : ∀ cs, cs ∈ tsL ts → cs.length = 2 := by
 intro cs hc;obtain ⟨x, _, rfl⟩ := List.mem_map.1 hc
 rfl
theorem evsL_row (es : List Ev) : ∀ cs, cs ∈ evsL es → cs.length = 2 := by
 intro cs hc;obtain ⟨x, _, rfl⟩ := List.mem_map.1 hc
 rfl
theorem condsL_flat (l : List Cond) : ∀ cs, cs ∈ condsL l → ∀ d, d ∈ cs → d.flat := by
 intro cs hc d hd;obtain ⟨x, _, rfl⟩ := List.mem_map.1 hc;rcases List.mem_cons.1 hd with rfl | hd
 ·exact trivial
 obtain rfl := List.mem_singleton.1 hd;exact trivial
set_option maxHeartbeats 2000000 in
theorem toTnS_T (ts : List Tn) (hl : ts.length ≤ 1048576) (hb : ∀ t, t ∈ ts → t.pre.length ≤ 1048576 ∧ t.post.length ≤ 1048576) : ASpec Tryz.prog 27 [.d (vLTs ts)] [] (OneT (vTs ts)) := by
 have hrl : (tsL ts).length = ts.length := List.length_map _;refine ASpec.of Tryz.func27 rfl rfl fun C hC => ?_
 refine AC.seq (AC.region ?_);refine za ?_;refine AL.nil (th_n (AC.seq (AC.region ?_)));refine zm ?_;refine kH ?_;refine AL.q (by exact h_make (k := ts.length) rfl rfl rfl rfl rfl rfl rfl rfl (by show 48 * ts.length ≤ _; omega) (by omega)) rfl ?_;refine AL.p (by exact as2 rfl) rfl ?_;refine AL.nil (th_n (AC.seq (AC.seq (AC.region ?_))));refine za ?_;refine AL.nil (th_n (AC.block ?_));refine AC.loop (ι := Nat × List Value × (Nat → Prop)) (fun x => ⟨23, 108, [(0, .d (vLTs ts)), (3, .own 100 ts.length), (4, aI x.1)], [(100, some (.arr 91 2 (fillV 2 ts.length x.1 [DV.val (.slice none 0 0), DV.val (.slice none 0 0)] x.2.1))), (101, some (.pred x.2.2 fun w => TL w x.2.2 ((tsL ts).take x.1).flatten x.2.1))]⟩) (fun x => x.1 ≤ ts.length ∧ x.2.1.length = x.1 * 2) (fun x => ts.length - x.1) ((0, [], fun _ => False)) ?_ (⟨Nat.zero_le _, rfl⟩) ?_
 ·exact Weak.trans Weak.emptyT (zw [(100, 0), (101, 8)] hC (b := by dsimp only; rw [fillV_zero]; repeat (first | exact True.intro | refine And.intro ?_ ?_ | exact rfl | refine ⟨_, _, rfl, rfl, ?_⟩)))
 rintro ⟨k, V, S⟩ ⟨hk, hV⟩;refine AC.seq (AC.seq (AC.region ?_));refine zm ?_;refine zm ?_;refine kH ?_;refine zc ?_;refine AL.nil (th_n ?_);refine AC.condD rfl (fun h0 => ?_) (fun h0 => ?_)
 ·refine AC.skip (th_n (AC.seq (AC.block ?_)));dsimp only at hk hV;have hk1 : k < ts.length := by omega
  have hget := tsL_get hk1;have hb1 := (hb _ (List.getElem_mem hk1)).1;have hb2 := (hb _ (List.getElem_mem hk1)).2;have hfl := fillV_len (sz := 2) (z := [DV.val (.slice none 0 0), DV.val (.slice none 0 0)]) (V := V) hk;refine AC.region ?_;refine kB ?_;refine zm ?_;refine zm ?_;refine zm ?_;refine AL.p (by exact g_ia_view rfl rfl rfl rfl rfl (by rfl) (by assumption)) rfl ?_;refine kG ?_;refine AL.r (by exact h_funR (cs := []) en_toTn rfl rfl (by repeat (first | exact rfl | exact DLead.same | refine ⟨_, _, rfl, ?_, ?_⟩ | refine ⟨_, rfl, ?_⟩)) (by repeat (exact True.intro)) (toTn_T _ hb1 hb2) rfl rfl rfl) rfl ?_;rintro _ ⟨_, _, ⟨v1, v2, S1, rfl, rfl⟩, rfl⟩;have hst := fillV_set (z := [DV.val (.slice none 0 0), DV.val (.slice none 0 0)]) (vs := [v1, v2]) hk1 hV rfl;refine AL.p (by exact g_ia_own rfl rfl rfl rfl rfl (by rfl) (by omega) (by rfl)) rfl ?_;refine AL.q (by exact h_store_row (i := k) (ds := [.val v1, .val v2]) rfl rfl rfl rfl rfl rfl rfl (by dsimp only; omega)) rfl ?_;refine AL.nil (ib_n (th_n (AC.region ?_)));refine zm ?_;refine zA ?_;refine za ?_;refine AL.nil (th_n ?_);refine ⟨(k + 1, V ++ [v1, v2], fun q => S q ∨ S1 q), ⟨hk1, by simp; omega⟩, by dsimp only; omega, Weak.trans (Weak.appT 101 108 rfl (fun w h => h) rfl (fun w h => h) rfl) (Weak.ren _ [(100, 100), (101, 101)] hC rfl (by repeat (first | exact True.intro | refine And.intro ?_ ?_ | exact DLead.same | exact rfl | refine ⟨_, rfl, ?_⟩)) ?_ rfl rfl rfl)⟩;dsimp only;rw [takeR_flat hget];rw [← hst]
  repeat (first | exact True.intro | refine And.intro ?_ ?_ | exact rfl | refine ⟨_, _, rfl, rfl, ?_⟩)
 refine AC.exit (th_e (th_e (ib_y (th_n (AC.seq ?_)))));dsimp only at hk hV;obtain rfl : k = ts.length := by omega
 refine AC.weakR (WeakR.closeN (els := tsL ts) (V := V) 3 101 100 rfl hrl.symm rfl (fun w h => by rw [List.take_of_length_le (by omega)] at h; exact h) rfl (by rw [hrl]; exact fillV_all _ _ _ _) (tsL_row ts) rfl) ?_;rintro _ ⟨v, S', rfl⟩;refine AC.region ?_;refine zm ?_;refine za ?_;refine AL.nil (th_n (AC.ret (bq_r ?_)));exact retX [(0, 101)] rfl ⟨v, S', rfl, rfl⟩ (by repeat (exact DLead.same)) (by repeat (first | exact True.intro | refine And.intro ?_ ?_ | exact rfl | refine ⟨_, _, rfl, rfl, ?_⟩)) rfl rfl
set_option maxHeartbeats 1000000 in
theorem toNet_T (n : Net) (hl : n.ts.length ≤ 1048576) (hb : ∀ t, t ∈ n.ts → t.pre.length ≤ 1048576 ∧ t.post.length ≤ 1048576) : ASpec Tryz.prog 8 [lnetA n] [] (TwoT (dI n.places) (vTs n.ts)) := by
 refine ASpec.of Tryz.func8 rfl rfl fun C hC => ?_
 refine AC.seq (AC.region ?_);refine kD ?_;refine kE ?_;refine AL.nil (th_n (AC.seq (AC.region ?_)));refine kE ?_;refine AL.nil (th_n (AC.seq (AC.region ?_)));refine zf ?_;refine zr ?_;refine zF ?_;refine zs ?_;refine AL.nil (th_n (AC.seq (AC.region ?_)));refine zf ?_;refine zr ?_;refine AL.r (by exact h_funR (cs := []) en_toTnS rfl rfl (by repeat (first | exact rfl | exact DLead.same | refine ⟨_, _, rfl, ?_, ?_⟩)) (by repeat (exact True.intro)) (toTnS_T _ hl hb) rfl rfl rfl) rfl ?_;rintro _ ⟨_, _, ⟨v1, S1, rfl, rfl⟩, rfl⟩;refine zF ?_;refine zs ?_;refine AL.nil (th_n (AC.seq ?_));refine AC.weakR (WeakR.okI (k := .i64) (x := n.places) 5 rfl) ?_;rintro _ ⟨hok, rfl⟩;refine AC.weak (Weak.cons 32 (fun w => TL w S1 [dI n.places, vTs n.ts] [.int .i64 n.places, v1]) rfl (fun w h => TL.consFlat hok (TL.one h)) (fun w w' hk h => h.turn hk)) ?_;refine AC.region ?_;refine AL.p (by exact g_load_ptrN rfl rfl rfl rfl rfl) rfl ?_;refine zs ?_;refine AL.nil (th_n (AC.ret (bq_r ?_)));exact retX [(0, 32)] rfl ⟨_, v1, S1, rfl, rfl⟩ (by repeat (first | exact DLead.same | exact rfl | refine ⟨_, rfl, ?_⟩ | refine ⟨_, _, rfl, ?_, ?_⟩)) (by repeat (first | exact True.intro | refine And.intro ?_ ?_ | exact rfl | refine ⟨_, _, rfl, rfl, ?_⟩)) rfl rfl
set_option maxHeartbeats 2000000 in
theorem toCondS_T (cs : List Cond) (hl : cs.length ≤ 1048576) : ASpec Tryz.prog 28 [.d (vLCs cs)] [] (OneT (vCs cs)) := by
 have hrl : (condsL cs).length = cs.length := List.length_map _;refine ASpec.of Tryz.func28 rfl rfl fun C hC => ?_
 refine AC.seq (AC.region ?_);refine za ?_;refine AL.nil (th_n (AC.seq (AC.region ?_)));refine zm ?_;refine kH ?_;refine AL.q (by exact h_make (k := cs.length) rfl rfl rfl rfl rfl rfl rfl rfl (by show 16 * cs.length ≤ _; omega) (by omega)) rfl ?_;refine AL.p (by exact as2 rfl) rfl ?_;refine AL.nil (th_n (AC.seq (AC.seq (AC.region ?_))));refine za ?_;refine AL.nil (th_n (AC.block ?_));refine AC.loop (ι := Nat) (fun k => ⟨23, 108, [(0, .d (vLCs cs)), (3, .own 100 cs.length), (4, aI k)], [(100, some (.arr 88 2 (fillR (condsL cs) [dI 0, dI 0] k)))]⟩) (fun k => k ≤ cs.length) (fun k => cs.length - k) (0) ?_ (Nat.zero_le _) ?_
 ·exact zw [(100, _)] hC (b := by rw [fill_zero, hrl]; repeat (first | exact True.intro | refine And.intro ?_ ?_ | exact rfl | refine ⟨_, _, rfl, rfl, ?_⟩))
 intro k hk;refine AC.seq (AC.seq (AC.region ?_));refine zm ?_;refine zm ?_;refine kH ?_;refine zc ?_;refine AL.nil (th_n ?_);refine AC.condD rfl (fun h0 => ?_) (fun h0 => ?_)
 ·refine AC.skip (th_n (AC.seq (AC.block ?_)));have hk1 : k < cs.length := by omega
  have hget := condsL_get hk1;have hfl := fill_len (condsL cs) [dI 0, dI 0] (k := k) (by omega);have hst := fill_set (R := condsL cs) (z := [dI 0, dI 0]) (k := k) (by omega) hget;refine AC.region ?_;refine kB ?_;refine zm ?_;refine zm ?_;refine zm ?_;refine AL.p (by exact g_ia_view rfl rfl rfl rfl rfl (by rfl) (by assumption)) rfl ?_;refine kG ?_;refine AL.q (by exact h_pure en_toCond rfl rfl (by repeat (first | exact rfl | exact DLead.same | refine ⟨_, _, rfl, ?_, ?_⟩ | refine ⟨_, rfl, ?_⟩)) (toCond_spec _) rfl) rfl ?_;refine AL.p (by exact g_ia_own rfl rfl rfl rfl rfl (by rfl) (by omega) (by rfl)) rfl ?_;refine AL.q (by exact h_store_row (i := k) (ds := condD cs[k]) rfl rfl rfl rfl rfl rfl rfl (by omega)) rfl ?_;refine AL.nil (ib_n (th_n (AC.region ?_)));refine zm ?_;refine zA ?_;refine za ?_;refine AL.nil (th_n ?_);exact ⟨k + 1, by omega, by omega, zw [(100, _)] hC (b := by rw [← hst]; repeat (first | exact True.intro | refine And.intro ?_ ?_ | exact rfl | refine ⟨_, _, rfl, rfl, ?_⟩))⟩
 refine AC.exit (th_e (th_e (ib_y (th_n (AC.seq ?_)))));have hkk : k = cs.length := by omega
 have hfa := fill_all (condsL cs) [dI 0, dI 0];rw [hrl] at hfa;rw [hkk, hfa];refine AC.weakR (WeakR.raw (id := 100) (els' := condsL cs) 3 rfl rfl (by omega) (List.take_of_length_le (by omega)) (condsL_flat _)) ?_;rintro _ ⟨v, S, rfl⟩;refine AC.region ?_;refine zm ?_;refine za ?_;refine AL.nil (th_n (AC.ret (bq_r ?_)));exact retX [(0, 108)] rfl ⟨v, S, rfl, rfl⟩ (by repeat (exact DLead.same)) (by repeat (first | exact True.intro | refine And.intro ?_ ?_ | exact rfl | refine ⟨_, _, rfl, rfl, ?_⟩)) rfl rfl
set_option maxHeartbeats 1000000 in
theorem toEv_T (e : Ev) (h1 : e.pre.length ≤ 1048576) : ASpec Tryz.prog 10 [evA e] [] (TwoT (dI e.t) (vI e.pre)) := by
 refine ASpec.of Tryz.func10 rfl rfl fun C hC => ?_
 refine AC.seq (AC.region ?_);refine kD ?_;refine kE ?_;refine AL.nil (th_n (AC.seq (AC.region ?_)));refine kE ?_;refine AL.nil (th_n (AC.seq (AC.region ?_)));refine zf ?_;refine zr ?_;refine zF ?_;refine zs ?_;refine AL.nil (th_n (AC.seq (AC.region ?_)));refine zf ?_;refine zr ?_;refine AL.r (by exact h_funR (cs := []) en_toIntS rfl rfl (by repeat (first | exact rfl | exact DLead.same | refine ⟨_, _, rfl, ?_, ?_⟩)) (by repeat (exact True.intro)) (toIntS_T _ h1) rfl rfl rfl) rfl ?_;rintro _ ⟨_, _, ⟨v1, S1, rfl, rfl⟩, rfl⟩;refine zF ?_;refine zs ?_;refine AL.nil (th_n (AC.seq ?_));refine AC.weakR (WeakR.okI (k := .i64) (x := e.t) 5 rfl) ?_;rintro _ ⟨hok, rfl⟩;refine AC.weak (Weak.cons 32 (fun w => TL w S1 [dI e.t, vI e.pre] [.int .i64 e.t, v1]) rfl (fun w h => TL.consFlat hok (TL.one h)) (fun w w' hk h => h.turn hk)) ?_;refine AC.region ?_;refine AL.p (by exact g_load_ptrN rfl rfl rfl rfl rfl) rfl ?_;refine zs ?_;refine AL.nil (th_n (AC.ret (bq_r ?_)));exact retX [(0, 32)] rfl ⟨_, v1, S1, rfl, rfl⟩ (by repeat (first | exact DLead.same | exact rfl | refine ⟨_, rfl, ?_⟩ | refine ⟨_, _, rfl, ?_, ?_⟩)) (by repeat (first | exact True.intro | refine And.intro ?_ ?_ | exact rfl | refine ⟨_, _, rfl, rfl, ?_⟩)) rfl rfl
set_option maxHeartbeats 2000000 in
theorem toEvS_T (es : List Ev) (hl : es.length ≤ 1048576) (hb : ∀ t, t ∈ es → t.pre.length ≤ 1048576) : ASpec Tryz.prog 29 [.d (vLEs es)] [] (OneT (vEs es)) := by
 have hrl : (evsL es).length = es.length := List.length_map _;refine ASpec.of Tryz.func29 rfl rfl fun C hC => ?_
 refine AC.seq (AC.region ?_);refine za ?_;refine AL.nil (th_n (AC.seq (AC.region ?_)));refine zm ?_;refine kH ?_;refine AL.q (by exact h_make (k := es.length) rfl rfl rfl rfl rfl rfl rfl rfl (by show 32 * es.length ≤ _; omega) (by omega)) rfl ?_;refine AL.p (by exact as2 rfl) rfl ?_;refine AL.nil (th_n (AC.seq (AC.seq (AC.region ?_))));refine za ?_;refine AL.nil (th_n (AC.block ?_));refine AC.loop (ι := Nat × List Value × (Nat → Prop)) (fun x => ⟨23, 108, [(0, .d (vLEs es)), (3, .own 100 es.length), (4, aI x.1)], [(100, some (.arr 46 2 (fillV 2 es.length x.1 [dI 0, DV.val (.slice none 0 0)] x.2.1))), (101, some (.pred x.2.2 fun w => TL w x.2.2 ((evsL es).take x.1).flatten x.2.1))]⟩) (fun x => x.1 ≤ es.length ∧ x.2.1.length = x.1 * 2) (fun x => es.length - x.1) ((0, [], fun _ => False)) ?_ (⟨Nat.zero_le _, rfl⟩) ?_
 ·exact Weak.trans Weak.emptyT (zw [(100, 0), (101, 8)] hC (b := by dsimp only; rw [fillV_zero]; repeat (first | exact True.intro | refine And.intro ?_ ?_ | exact rfl | refine ⟨_, _, rfl, rfl, ?_⟩)))
 rintro ⟨k, V, S⟩ ⟨hk, hV⟩;refine AC.seq (AC.seq (AC.region ?_));refine zm ?_;refine zm ?_;refine kH ?_;refine zc ?_;refine AL.nil (th_n ?_);refine AC.condD rfl (fun h0 => ?_) (fun h0 => ?_)
 ·refine AC.skip (th_n (AC.seq (AC.block ?_)));dsimp only at hk hV;have hk1 : k < es.length := by omega
  have hget := evsL_get hk1;have hb1 := hb _ (List.getElem_mem hk1);have hfl := fillV_len (sz := 2) (z := [dI 0, DV.val (.slice none 0 0)]) (V := V) hk;refine AC.region ?_;refine kB ?_;refine zm ?_;refine zm ?_;refine zm ?_;refine AL.p (by exact g_ia_view rfl rfl rfl rfl rfl (by rfl) (by assumption)) rfl ?_;refine kG ?_;refine AL.r (by exact h_funR (cs := []) en_toEv rfl rfl (by repeat (first | exact rfl | exact DLead.same | refine ⟨_, _, rfl, ?_, ?_⟩ | refine ⟨_, rfl, ?_⟩)) (by repeat (exact True.intro)) (toEv_T _ hb1) rfl rfl rfl) rfl ?_;rintro _ ⟨_, _, ⟨v1, v2, S1, rfl, rfl⟩, rfl⟩;have hst := fillV_set (z := [dI 0, DV.val (.slice none 0 0)]) (vs := [v1, v2]) hk1 hV rfl;refine AL.p (by exact g_ia_own rfl rfl rfl rfl rfl (by rfl) (by omega) (by rfl)) rfl ?_;refine AL.q (by exact h_store_row (i := k) (ds := [.val v1, .val v2]) rfl rfl rfl rfl rfl rfl rfl (by dsimp only; omega)) rfl ?_;refine AL.nil (ib_n (th_n (AC.region ?_)));refine zm ?_;refine zA ?_;refine za ?_;refine AL.nil (th_n ?_);refine ⟨(k + 1, V ++ [v1, v2], fun q => S q ∨ S1 q), ⟨hk1, by simp; omega⟩, by dsimp only; omega, Weak.trans (Weak.appT 101 108 rfl (fun w h => h) rfl (fun w h => h) rfl) (Weak.ren _ [(100, 100), (101, 101)] hC rfl (by repeat (first | exact True.intro | refine And.intro ?_ ?_ | exact DLead.same | exact rfl | refine ⟨_, rfl, ?_⟩)) ?_ rfl rfl rfl)⟩;dsimp only;rw [takeR_flat hget];rw [← hst]
  repeat (first | exact True.intro | refine And.intro ?_ ?_ | exact rfl | refine ⟨_, _, rfl, rfl, ?_⟩)
 refine AC.exit (th_e (th_e (ib_y (th_n (AC.seq ?_)))));dsimp only at hk hV;obtain rfl : k = es.length := by omega
 refine AC.weakR (WeakR.closeN (els := evsL es) (V := V) 3 101 100 rfl hrl.symm rfl (fun w h => by rw [List.take_of_length_le (by omega)] at h; exact h) rfl (by rw [hrl]; exact fillV_all _ _ _ _) (evsL_row es) rfl) ?_;rintro _ ⟨v, S', rfl⟩;refine AC.region ?_;refine zm ?_;refine za ?_;refine AL.nil (th_n (AC.ret (bq_r ?_)));exact retX [(0, 101)] rfl ⟨v, S', rfl, rfl⟩ (by repeat (exact DLead.same)) (by repeat (first | exact True.intro | refine And.intro ?_ ?_ | exact rfl | refine ⟨_, _, rfl, rfl, ?_⟩)) rfl rfl
set_option maxHeartbeats 1000000 in
theorem toUnf_T (u : Unf) (hc : u.cs.length ≤ 1048576) (hl : u.es.length ≤ 1048576) (hb : ∀ t, t ∈ u.es → t.pre.length ≤ 1048576) : ASpec Tryz.prog 9 [lunfA u] [] (TwoT (vCs u.cs) (vEs u.es)) := by
 refine ASpec.of Tryz.func9 rfl rfl fun C hC => ?_
 refine AC.seq (AC.region ?_);refine kD ?_;refine kE ?_;refine AL.nil (th_n (AC.seq (AC.region ?_)));refine kE ?_;refine AL.nil (th_n (AC.seq (AC.region ?_)));refine zf ?_;refine zr ?_;refine AL.r (by exact h_funR (cs := []) en_toCondS rfl rfl (by repeat (first | exact rfl | exact DLead.same | refine ⟨_, _, rfl, ?_, ?_⟩)) (by repeat (exact True.intro)) (toCondS_T _ hc) rfl rfl rfl) rfl ?_;rintro _ ⟨_, _, ⟨v1, S1, rfl, rfl⟩, rfl⟩;refine zF ?_;refine zs ?_;refine AL.nil (th_n (AC.seq (AC.region ?_)));refine zf ?_;refine zr ?_;refine AL.r (by exact h_funR (cs := []) en_toEvS rfl rfl (by repeat (first | exact rfl | exact DLead.same | refine ⟨_, _, rfl, ?_, ?_⟩)) (by repeat (exact True.intro)) (toEvS_T _ hl hb) rfl rfl rfl) rfl ?_;rintro _ ⟨_, _, ⟨v2, S2, rfl, rfl⟩, rfl⟩;refine zF ?_;refine zs ?_;refine AL.nil (th_n (AC.seq ?_));refine AC.weak (Weak.appT 24 40 rfl (fun w h => TL.one h) rfl (fun w h => TL.one h) rfl) ?_;refine AC.region ?_;refine AL.p (by exact g_load_ptrN rfl rfl rfl rfl rfl) rfl ?_;refine zs ?_;refine AL.nil (th_n (AC.ret (bq_r ?_)));exact retX [(0, 24)] rfl ⟨v1, v2, _, rfl, rfl⟩ (by repeat (first | exact DLead.same | exact rfl | refine ⟨_, rfl, ?_⟩ | refine ⟨_, _, rfl, ?_, ?_⟩)) (by repeat (first | exact True.intro | refine And.intro ?_ ?_ | exact rfl | refine ⟨_, _, rfl, rfl, ?_⟩)) rfl rfl
theorem TL.flatNew {w : World} {S : Nat → Prop} {L : List DV} {V : List Value} (h : TL w S L V) (hL : ∀ d, d ∈ L → d.flat) {Vn : List Value} (hV : ∀ v, v ∈ Vn → okV v) : TL w S (Vn.map .val) Vn := by
 obtain ⟨Ts, h1, h2, h3, h4⟩ := h
 have hS : ∀ k, ¬ S k := by
  intro k hk;obtain ⟨i, hi, hk'⟩ := (h4 k).1 hk;have hd := List.getElem?_eq_getElem hi;have hf := hL _ (List.getElem_mem hi);have hv := List.getElem?_eq_getElem (show i < V.length by omega);have hT := h2 i _ _ hd hv;generalize L[i] = d at hf hT;generalize V[i] = u at hT;cases hT with
  | val h _ => exact h k hk'
  | _ => exact hf.elim
 refine ⟨fun _ _ => False, by simp, fun i d v hd hv => ?_, fun _ _ _ h => h.elim, fun k => ⟨fun h => absurd h (hS k), fun ⟨_, _, h⟩ => h.elim⟩⟩;rw [List.getElem?_map, hv] at hd;simp only [Option.map_some, Option.some.injEq] at hd;subst hd;exact .val (fun _ h => h) (hV v (List.mem_of_getElem? hv))
def seqI (k : Int) (n : Nat) : List Int := (List.range n).map fun i => k + (i : Nat)
theorem seqI_len (k : Int) (n : Nat) : (seqI k n).length = n := by simp [seqI]
def mkI (k : Int) (i : Nat) (l : List Int) : List Int := seqI k i ++ l.drop i
theorem mkI_zero (k : Int) (l : List Int) : mkI k 0 l = l := by simp [mkI, seqI]
theorem mkI_len {k : Int} {i : Nat} {l : List Int} (h : i ≤ l.length) : (mkI k i l).length = l.length := by simp [mkI, seqI]; omega
theorem mkI_all (k : Int) (l : List Int) : mkI k l.length l = seqI k l.length := by simp [mkI]
theorem mkI_set {k : Int} {i : Nat} {l : List Int} (h : i < l.length) : (ints (mkI k i l)).set i [dI (k + i)] = ints (mkI k (i + 1) l) := by
 unfold mkI ints seqI;rw [List.map_append, List.set_append_right _ _ (by simp), List.range_succ];simp only [List.map_append, List.map_cons, List.map_nil, List.append_assoc, List.length_map, List.length_range, Nat.sub_self];congr 1;rw [List.drop_eq_getElem_cons h]
 rfl
theorem rowsV_ints {l : List Int} {V : List Value} (h1 : V.length = l.length) (h : ∀ (c : Nat) x, (ints l).flatten[c]? = some (.val x) → V[c]? = some x) : rowsV 1 l.length V = ints l := by
 have hfl : ∀ l : List Int, (ints l).flatten = l.map dI := by
  intro l
  induction l with
  | nil => rfl
  | cons x l ih => simp only [ints, List.map_cons, List.flatten_cons] at ih ⊢; rw [ih]; rfl
 apply List.ext_getElem?
 intro i
 by_cases hi : i < l.length
 ·rw [rowsV_get hi];have := h i (.int .i64 l[i]) (by rw [hfl]; simp [hi, dI]);simp [ints, hi, this, dI]
 rw [List.getElem?_eq_none (by rw [rowsV_len]; omega), List.getElem?_eq_none (by rw [ints_len]; omega)]
theorem ints_flatten (l : List Int) : (ints l).flatten = (l.map fun x => Value.int .i64 x).map .val := by
 induction l with
 | nil => rfl
 | cons x l ih => simp only [ints, List.map_cons, List.flatten_cons] at ih ⊢; rw [ih]; rfl
theorem rowsV_seq (l : List Int) : rowsV 1 l.length (l.map fun x => Value.int .i64 x) = ints l := by
 refine rowsV_ints (by simp) fun c x hc => ?_
 rw [ints_flatten, List.getElem?_map, Option.map_eq_some_iff] at hc;obtain ⟨y, hy, he⟩ := hc;cases he; exact hy
theorem ints_flat2 (l : List Int) : ∀ d, d ∈ (ints l).flatten → d.flat := by
 intro d hd;obtain ⟨cs, h1, h2⟩ := List.mem_flatten.1 hd;exact ints_flat l cs h1 d h2
theorem ints_row (l : List Int) : ∀ cs, cs ∈ ints l → cs.length = 1 := by
 intro cs hc;obtain ⟨x, _, rfl⟩ := List.mem_map.1 hc
 rfl
theorem seqI_ok {k : Int} {n : Nat} (hk : 0 ≤ k ∧ k ≤ 1073741824) (hn : n ≤ 1048576) : ∀ v, v ∈ (seqI k n).map (fun x => Value.int .i64 x) → okV v := by
 intro v hv;obtain ⟨x, hx, rfl⟩ := List.mem_map.1 hv;obtain ⟨i, hi, rfl⟩ := List.mem_map.1 hx;rw [List.mem_range] at hi;exact wrap_i64 (by omega)
set_option maxHeartbeats 2000000 in
theorem markIntS_T (l : List Int) (k : Int) (hl : l.length ≤ 1048576) (hk : 0 ≤ k ∧ k ≤ 1073741824) (v : Value) (S : Nat → Prop) : ASpec Tryz.prog 42 [.d (.val v), aI k] [(0, .pred S fun w => TRep w S (vI l) v)] (Fun1 (aI (k + l.length)) [(0, .pred S fun w => TRep w S (vI (seqI k l.length)) v)]) := by
 refine ASpec.of Tryz.func42 rfl rfl fun C hC => ?_
 refine AC.seq ?_;refine AC.weakR (WeakR.openT 0 0 rfl rfl (fun w h => h) rfl rfl) ?_;rintro _ ⟨p, V, S', ⟨hv, hp, hV, hrow, hS, hx⟩, rfl⟩;rw [ints_len] at *;rw [rowsV_ints (by omega) hx];refine AC.region ?_;refine za ?_;refine AL.nil (th_n (AC.seq (AC.seq (AC.region ?_))));refine za ?_;refine AL.nil (th_n (AC.block ?_));refine AC.loop (ι := Nat) (fun i => ⟨19, 108, [(0, .own 100 l.length), (1, aI (k + i)), (5, aI i)], [(100, some (.arr 3 1 (ints (mkI k i l)))), (101, some (.lock 100 p)), (0, some (.pred S' fun w => TL w S' (ints l).flatten V))]⟩) (fun i => i ≤ l.length) (fun i => l.length - i) (0) ?_ (Nat.zero_le _) ?_
 ·exact zw [(100, 1), (101, 2)] hC (b := by rw [mkI_zero]; repeat (first | exact True.intro | refine And.intro ?_ ?_ | exact rfl | refine ⟨_, _, rfl, rfl, ?_⟩ | refine ⟨_, rfl, ?_⟩))
 intro i hi;refine AC.seq (AC.seq (AC.region ?_));refine zm ?_;refine kB ?_;refine AL.p (by exact g_len_own (sz := 1) (els := []) (e' := 0) rfl rfl (by simp only [maxLen]; omega)) rfl ?_;refine zc ?_;refine AL.nil (th_n ?_);refine AC.condD rfl (fun h0 => ?_) (fun h0 => ?_)
 ·refine AC.skip (th_n (AC.seq (AC.block (AC.seq ?_))));have hi1 : i < l.length := by omega
  have hlen := ints_len (mkI k i l);rw [mkI_len hi] at hlen;have hgf : (ints (mkI k i l))[i]? = some [dI ((mkI k i l)[i]'(by rw [mkI_len hi]; exact hi1))] := ints_at _;have hst := mkI_set (k := k) hi1;refine AC.region ?_;refine kB ?_;refine zm ?_;refine zm ?_;refine AL.p (by exact g_ia_own rfl rfl rfl rfl rfl (by rfl) (by omega) (by exact Nat.mul_one _)) rfl ?_;refine AL.q (by exact h_store_arr1 rfl rfl rfl rfl (by exact .same) (by assumption)) rfl ?_;refine AL.nil (th_n (AC.region ?_));refine zm ?_;refine zA ?_;refine za ?_;refine AL.nil (ib_n (th_n (AC.region ?_)));refine zm ?_;refine zA ?_;refine za ?_;refine AL.nil (th_n ?_);exact ⟨i + 1, by omega, by omega, zw [(100, 100), (101, 101)] hC (b := by rw [← hst]; repeat (first | exact True.intro | refine And.intro ?_ ?_ | exact rfl | refine ⟨_, _, rfl, rfl, ?_⟩ | refine ⟨_, rfl, ?_⟩))⟩
 refine AC.exit (th_e (th_e (ib_y (th_n (AC.seq ?_)))));obtain rfl : i = l.length := by omega
 rw [mkI_all];refine AC.weak (Weak.closeT (els := ints (seqI k l.length)) (V := (seqI k l.length).map fun x => Value.int .i64 x) (n := 0) (v := v) (S := S) (S' := S') (p := p) 0 0 100 101 (by rw [ints_len, seqI_len] <;> rfl) rfl (fun w h => by rw [ints_flatten]; exact h.flatNew (ints_flat2 l) (seqI_ok hk hl)) (by rw [ints_len, rowsV_seq]; rfl) rfl (by rw [ints_len, seqI_len]; exact hv) (by rw [ints_len, seqI_len]; exact hp) (ints_row _) hS rfl rfl) ?_;refine AC.region ?_;refine zm ?_;refine za ?_;refine AL.nil (th_n (AC.ret (bq_r ?_)));exact retX [] rfl ⟨rfl, rfl⟩ (by repeat (exact DLead.same)) (by repeat (first | exact True.intro | refine And.intro ?_ ?_ | exact rfl | refine ⟨_, _, rfl, rfl, ?_⟩)) rfl rfl
theorem en_markIntS : Enters Tryz.prog 42 := enters_of Tryz.func42 rfl rfl
def mkL {α : Type} (wt : α → Nat) (mk : Int → α → α) : Int → List α → List α
 | _, [] => []
 | k, x :: l => mk k x :: mkL wt mk (k + (wt x : Nat)) l
def sumL {α : Type} (wt : α → Nat) : List α → Nat
 | [] => 0
 | x :: l => wt x + sumL wt l
theorem mkL_len {α : Type} (wt : α → Nat) (mk : Int → α → α) : ∀ (l : List α) (k : Int), (mkL wt mk k l).length = l.length
 | [], _ => rfl
 | x :: l, k => by simp [mkL, mkL_len wt mk l]
theorem mkL_app {α : Type} (wt : α → Nat) (mk : Int → α → α) : ∀ (l m : List α) (k : Int), mkL wt mk k (l ++ m) = mkL wt mk k l ++ mkL wt mk (k + (sumL wt l : Nat)) m
 | [], m, k => by simp [mkL, sumL]
 | x :: l, m, k => by
  simp only [List.cons_append, mkL, mkL_app wt mk l m, sumL, Int.natCast_add, Int.add_assoc]
theorem sumL_app {α : Type} (wt : α → Nat) : ∀ (l m : List α), sumL wt (l ++ m) = sumL wt l + sumL wt m
 | [], m => by simp [sumL]
 | x :: l, m => by simp only [List.cons_append, sumL, sumL_app wt l m]; omega
theorem sumL_take {α : Type} {wt : α → Nat} {l : List α} {i : Nat} (h : i < l.length) : sumL wt (l.take (i + 1)) = sumL wt (l.take i) + wt l[i] := by
 rw [List.take_add_one, List.getElem?_eq_getElem h, sumL_app]; simp [sumL]
theorem sumL_le {α : Type} (wt : α → Nat) (l : List α) (i : Nat) : sumL wt (l.take i) ≤ sumL wt l := by
 have := sumL_app wt (l.take i) (l.drop i);rw [List.take_append_drop] at this;omega
def mkM {α : Type} (wt : α → Nat) (mk : Int → α → α) (k : Int) (i : Nat) (l : List α) : List α := mkL wt mk k (l.take i) ++ l.drop i
theorem mkM_zero {α : Type} (wt : α → Nat) (mk : Int → α → α) (k : Int) (l : List α) : mkM wt mk k 0 l = l := by simp [mkM, mkL]
theorem mkM_all {α : Type} (wt : α → Nat) (mk : Int → α → α) (k : Int) (l : List α) : mkM wt mk k l.length l = mkL wt mk k l := by simp [mkM]
theorem mkM_len {α : Type} {wt : α → Nat} {mk : Int → α → α} {k : Int} {i : Nat} {l : List α} (h : i ≤ l.length) : (mkM wt mk k i l).length = l.length := by simp [mkM, mkL_len]; omega
theorem mkM_get {α : Type} {wt : α → Nat} {mk : Int → α → α} {k : Int} {i : Nat} {l : List α} (h : i < l.length) : (mkM wt mk k i l)[i]? = some l[i] := by
 unfold mkM;have : (mkL wt mk k (l.take i)).length = i := by rw [mkL_len, List.length_take]; omega
 rw [List.getElem?_append_right (by omega), this, Nat.sub_self, List.getElem?_drop, Nat.add_zero, List.getElem?_eq_getElem h]
theorem mkM_set {α : Type} {wt : α → Nat} {mk : Int → α → α} {k : Int} {i : Nat} {l : List α} (h : i < l.length) : (mkM wt mk k i l).set i (mk (k + (sumL wt (l.take i) : Nat)) l[i]) = mkM wt mk k (i + 1) l := by
 unfold mkM;have : (mkL wt mk k (l.take i)).length = i := by rw [mkL_len, List.length_take]; omega
 rw [List.set_append_right _ _ (by omega), this, Nat.sub_self, List.take_add_one, List.getElem?_eq_getElem h, mkL_app, List.append_assoc, List.drop_eq_getElem_cons h]
 rfl
theorem set_flat : ∀ {els : List (List DV)} {sz : Nat} (_ : ∀ cs, cs ∈ els → cs.length = sz) {i j : Nat} {cs : List DV} {d : DV}, els[i]? = some cs → j < sz → els.flatten.set (i * sz + j) d = (els.set i (cs.set j d)).flatten
 | [], sz, _, i, j, cs, d, hi, _ => by simp at hi
 | c :: els, sz, h, i, j, cs, d, hi, hj => by
  have hc := h c (by simp);cases i with
  | zero =>
   simp at hi; subst hi;rw [List.flatten_cons, Nat.zero_mul, Nat.zero_add, List.set_append_left _ _ (by omega), List.set_cons_zero, List.flatten_cons]
  | succ i =>
   rw [List.getElem?_cons_succ] at hi;rw [List.flatten_cons, List.set_append_right _ _ (by rw [hc, Nat.succ_mul]; omega), hc, show (i + 1) * sz + j - sz = i * sz + j by rw [Nat.succ_mul]; omega, set_flat (fun cs hc => h cs (List.mem_cons_of_mem _ hc)) hi hj, List.set_cons_succ, List.flatten_cons]
theorem rowsV2_get {n i : Nat} {V : List Value} {v1 v2 : Value} (hi : i < n) (h1 : V[i * 2]? = some v1) (h2 : V[i * 2 + 1]? = some v2) : (rowsV 2 n V)[i]? = some [.val v1, .val v2] := by
 rw [rowsV_get hi];simp [List.range_succ, h1, h2]
def wT (t : Tn) : Nat := t.pre.length + t.post.length
def mkT (k : Int) (t : Tn) : Tn := ⟨seqI k t.pre.length, seqI (k + t.pre.length) t.post.length⟩
set_option maxHeartbeats 2000000 in
theorem markTnS_T (ts : List Tn) (k : Int) (hl : ts.length ≤ 1048576) (hb : ∀ t, t ∈ ts → t.pre.length ≤ 1048576 ∧ t.post.length ≤ 1048576) (hk : 0 ≤ k ∧ k + (sumL wT ts : Nat) ≤ 1073741824) (v : Value) (S : Nat → Prop) : ASpec Tryz.prog 39 [.d (.val v), aI k] [(0, .pred S fun w => TRep w S (vTs ts) v)] (Fun1 (aI (k + (sumL wT ts : Nat))) [(0, .pred S fun w => TRep w S (vTs (mkL wT mkT k ts)) v)]) := by
 refine ASpec.of Tryz.func39 rfl rfl fun C hC => ?_
 refine AC.seq ?_;refine AC.weakR (WeakR.openT (els := tsL ts) 0 0 rfl rfl (fun w h => h) rfl rfl) ?_;rintro _ ⟨p, V, S', ⟨hv, hp, hV, hrow, hS, hx⟩, rfl⟩;rw [tsL_len] at *;refine AC.region ?_;refine za ?_;refine AL.nil (th_n (AC.seq (AC.seq (AC.region ?_))));refine za ?_;refine AL.nil (th_n (AC.block ?_));refine AC.loop (ι := Nat) (fun i => ⟨27, 108, [(0, .own 100 ts.length), (1, aI (k + (sumL wT (ts.take i) : Nat))), (5, aI i)], [(100, some (.arr 91 2 (rowsV 2 ts.length V))), (101, some (.lock 100 p)), (0, some (.pred S' fun w => TL w S' (tsL (mkM wT mkT k i ts)).flatten V))]⟩) (fun i => i ≤ ts.length) (fun i => ts.length - i) (0) ?_ (Nat.zero_le _) ?_
 ·have hs0 : sumL wT (ts.take 0) = 0 := rfl;exact zw [(100, 1), (101, 2)] hC (b := by rw [mkM_zero]; repeat (first | exact True.intro | refine And.intro ?_ ?_ | exact rfl | refine ⟨_, _, rfl, rfl, ?_⟩ | refine ⟨_, rfl, ?_⟩))
 intro i hi;refine AC.seq (AC.seq (AC.region ?_));refine zm ?_;refine kB ?_;refine AL.p (by exact g_len_own (sz := 1) (els := []) (e' := 0) rfl rfl (by simp only [maxLen]; omega)) rfl ?_;refine zc ?_;refine AL.nil (th_n ?_);refine AC.condD rfl (fun h0 => ?_) (fun h0 => ?_)
 ·refine AC.skip (th_n (AC.seq (AC.block (AC.seq ?_))));have hi1 : i < ts.length := by omega
  have hlr := rowsV_len 2 ts.length V;obtain ⟨v1, hv1⟩ : ∃ v, V[i * 2]? = some v := ⟨_, List.getElem?_eq_getElem (by omega)⟩;obtain ⟨v2, hv2⟩ : ∃ v, V[i * 2 + 1]? = some v := ⟨_, List.getElem?_eq_getElem (by omega)⟩;have hget := rowsV2_get hi1 hv1 hv2;have hb1 := (hb _ (List.getElem_mem hi1)).1;have hb2 := (hb _ (List.getElem_mem hi1)).2;have hM : (tsL (mkM wT mkT k i ts))[i]? = some [vI ts[i].pre, vI ts[i].post] := by unfold tsL; rw [List.getElem?_map, mkM_get hi1]; rfl
  have hrM := tsL_row (mkM wT mkT k i ts);have hL1 := flat_get hrM hM (j := 0) rfl;have hL2 := flat_get hrM hM (j := 1) rfl;have hs1 := sumL_take (wt := wT) hi1;have hs2 := sumL_le wT ts (i + 1);have hw : wT ts[i] = ts[i].pre.length + ts[i].post.length := rfl;have hLl := (List.getElem?_eq_some_iff.1 hL2).1;refine AC.region ?_;refine kB ?_;refine zm ?_;refine AL.p (by exact g_ia_own rfl rfl rfl rfl rfl (by rfl) (by omega) (by rfl)) rfl ?_;refine zF ?_;refine AL.p (by exact g_load_arr rfl rfl rfl rfl (by rfl) (by assumption) (by rfl)) rfl ?_;refine zm ?_;refine AL.weakR (WeakR.splitT 0 (i * 2) (d := vI ts[i].pre) (v := v1) rfl (fun w h => h) hL1 hv1 rfl) ?_;rintro _ ⟨S1, S2, hSS, rfl⟩;refine AL.q (by exact h_fun (cs := [108]) en_markIntS rfl rfl (by repeat (first | exact rfl | exact DLead.same | refine ⟨_, _, rfl, ?_, ?_⟩)) (by repeat (first | exact True.intro | refine And.intro ?_ ?_ | exact rfl | refine ⟨_, _, rfl, rfl, ?_⟩)) (markIntS_T _ _ hb1 (by omega) v1 S1) rfl rfl rfl rfl) rfl ?_;refine AL.weak (Weak.joinT (S := S') (d := vI (seqI (k + (sumL wT (ts.take i) : Nat)) ts[i].pre.length)) (v := v1) 0 108 (i * 2) rfl rfl (fun w h => h) hSS (by omega) hv1 rfl) ?_;refine za ?_;refine AL.nil (th_n (AC.region ?_));refine kB ?_;refine zm ?_;refine AL.p (by exact g_ia_own rfl rfl rfl rfl rfl (by rfl) (by omega) (by rfl)) rfl ?_;refine zF ?_;refine AL.p (by exact g_load_arr rfl rfl rfl rfl (by rfl) (by assumption) (by rfl)) rfl ?_;refine zm ?_;refine AL.weakR (WeakR.splitT 0 (i * 2 + 1) (d := vI ts[i].post) (v := v2) rfl (fun w h => h) (by rw [List.getElem?_set_ne (by omega)]; exact hL2) hv2 rfl) ?_;rintro _ ⟨S3, S4, hSS2, rfl⟩;refine AL.q (by exact h_fun (cs := [124]) en_markIntS rfl rfl (by repeat (first | exact rfl | exact DLead.same | refine ⟨_, _, rfl, ?_, ?_⟩)) (by repeat (first | exact True.intro | refine And.intro ?_ ?_ | exact rfl | refine ⟨_, _, rfl, rfl, ?_⟩)) (markIntS_T _ _ hb2 (by omega) v2 S3) rfl rfl rfl rfl) rfl ?_;refine AL.weak (Weak.joinT (S := S') (d := vI (seqI (k + (sumL wT (ts.take i) : Nat) + ts[i].pre.length) ts[i].post.length)) (v := v2) 0 124 (i * 2 + 1) rfl rfl (fun w h => h) hSS2 (by rw [List.length_set]; omega) hv2 rfl) ?_;refine za ?_;refine AL.nil (ib_n (th_n (AC.region ?_)));refine zm ?_;refine zA ?_;refine za ?_;refine AL.nil (th_n ?_);refine ⟨i + 1, hi1, by omega, Weak.ren _ [(100, 100), (101, 101)] hC rfl (by repeat (first | exact True.intro | refine And.intro ?_ ?_ | exact DLead.same | exact DLead.eqI (by omega) | exact rfl | refine ⟨_, rfl, ?_⟩)) ?_ rfl rfl rfl⟩;rw [← mkM_set hi1];have e1 := set_flat hrM hM (j := 0) (d := vI (seqI (k + (sumL wT (ts.take i) : Nat)) ts[i].pre.length)) (by omega);have e2 : (tsL ((mkM wT mkT k i ts).set i (mkT (k + (sumL wT (ts.take i) : Nat)) ts[i]))).flatten = ((tsL (mkM wT mkT k i ts)).flatten.set (i * 2) (vI (seqI (k + (sumL wT (ts.take i) : Nat)) ts[i].pre.length))).set (i * 2 + 1) (vI (seqI (k + (sumL wT (ts.take i) : Nat) + ts[i].pre.length) ts[i].post.length)) := by rw [Nat.add_zero] at e1; rw [e1, set_flat (cs := [vI (seqI (k + (sumL wT (ts.take i) : Nat)) ts[i].pre.length), vI ts[i].post]) (sz := 2) (fun cs hc => (List.mem_or_eq_of_mem_set hc).elim (hrM cs) (fun e => by rw [e]; rfl)) (by rw [List.getElem?_set_self (List.getElem?_eq_some_iff.1 hM).1]; rfl) (by omega), List.set_set]; unfold tsL; rw [List.map_set]; rfl
  rw [e2]
  repeat (first | exact True.intro | refine And.intro ?_ ?_ | exact rfl | refine ⟨_, _, rfl, rfl, ?_⟩ | refine ⟨_, rfl, ?_⟩)
 refine AC.exit (th_e (th_e (ib_y (th_n (AC.seq ?_)))));obtain rfl : i = ts.length := by omega
 rw [mkM_all, List.take_length];refine AC.weak (Weak.closeT (n := 0) (els := tsL (mkL wT mkT k ts)) (V := V) (v := v) (S := S) (S' := S') (p := p) 0 0 100 101 (by rw [tsL_len, mkL_len]; rfl) rfl (fun w h => h) (by rw [tsL_len, mkL_len]; rfl) rfl (by rw [tsL_len, mkL_len]; exact hv) (by rw [tsL_len, mkL_len]; exact hp) (tsL_row _) hS rfl rfl) ?_;refine AC.region ?_;refine zm ?_;refine za ?_;refine AL.nil (th_n (AC.ret (bq_r ?_)));exact retX [] rfl ⟨rfl, rfl⟩ (by repeat (exact DLead.same)) (by repeat (first | exact True.intro | refine And.intro ?_ ?_ | exact rfl | refine ⟨_, _, rfl, rfl, ?_⟩)) rfl rfl
theorem en_markTnS : Enters Tryz.prog 39 := enters_of Tryz.func39 rfl rfl
def unval : DV → Value
 | .val v => v
 | _ => undef
theorem flat_unval : ∀ {L : List DV}, (∀ d, d ∈ L → d.flat) → (L.map unval).map .val = L
 | [], _ => rfl
 | d :: L, h => by
  have hd := h d (by simp);simp only [List.map_cons, flat_unval (fun d hd => h d (List.mem_cons_of_mem _ hd))];cases d with
  | val v => rfl
  | _ => exact hd.elim
theorem flat_flat {els : List (List DV)} (h : ∀ cs, cs ∈ els → ∀ d, d ∈ cs → d.flat) : ∀ d, d ∈ els.flatten → d.flat := by
 intro d hd;obtain ⟨cs, h1, h2⟩ := List.mem_flatten.1 hd;exact h cs h1 d h2
theorem rowsV_eq {els : List (List DV)} {sz : Nat} {V : List Value} (hrow : ∀ cs, cs ∈ els → cs.length = sz) (hx : ∀ (c : Nat) x, els.flatten[c]? = some (.val x) → V[c]? = some x) (hfl : ∀ cs, cs ∈ els → ∀ d, d ∈ cs → d.flat) : rowsV sz els.length V = els := by
 apply List.ext_getElem?
 intro i
 by_cases hi : i < els.length
 ·rw [rowsV_get hi, List.getElem?_eq_getElem hi];have hl := hrow _ (List.getElem_mem hi);congr 1
  apply List.ext_getElem?
  intro j
  by_cases hj : j < sz
  ·have hj' : j < els[i].length := by omega
   have hg := flat_get hrow (List.getElem?_eq_getElem hi) (List.getElem?_eq_getElem hj');have hf := hfl _ (List.getElem_mem hi) _ (List.getElem_mem hj');rw [List.getElem?_map, List.getElem?_eq_getElem (show j < (List.range sz).length by simpa using hj), List.getElem?_eq_getElem hj'];generalize els[i][j] = d at hg hf;cases d with
   | val x => simp [hx _ x hg]
   | _ => exact hf.elim
  rw [List.getElem?_eq_none (by simpa using hj), List.getElem?_eq_none (by omega)]
 rw [List.getElem?_eq_none (by rw [rowsV_len]; omega), List.getElem?_eq_none (by omega)]
theorem rowsV_unval {els : List (List DV)} {sz : Nat} (hrow : ∀ cs, cs ∈ els → cs.length = sz) (hfl : ∀ cs, cs ∈ els → ∀ d, d ∈ cs → d.flat) : rowsV sz els.length (els.flatten.map unval) = els := by
 refine rowsV_eq hrow (fun c x hc => ?_) hfl;rw [List.getElem?_map, hc]; rfl
theorem rowsV2_set0 {n i : Nat} {V : List Value} {v1 v2 y : Value} (hi : i < n) (hV : V.length = n * 2) (h2 : V[i * 2 + 1]? = some v2) : (rowsV 2 n V).set i (([.val v1, .val v2] : List DV).set 0 (.val y)) = rowsV 2 n (V.set (i * 2) y) := by
 apply List.ext_getElem?
 intro q
 by_cases hq : q < n
 ·rw [rowsV_get hq]
  by_cases hiq : i = q
  ·subst hiq;rw [List.getElem?_set_self (by rw [rowsV_len]; exact hi)];simp only [List.range_succ, List.range_zero, List.nil_append, List.map_append, List.map_cons, List.map_nil, Nat.add_zero, List.cons_append];rw [List.getElem?_set_self (by omega), List.getElem?_set_ne (by omega), h2]; rfl
  rw [List.getElem?_set_ne hiq, rowsV_get hq];simp only [List.range_succ, List.range_zero, List.nil_append, List.map_append, List.map_cons, List.map_nil, Nat.add_zero, List.cons_append];rw [List.getElem?_set_ne (by omega), List.getElem?_set_ne (by omega)]
 rw [List.getElem?_eq_none (by rw [List.length_set, rowsV_len]; omega), List.getElem?_eq_none (by rw [rowsV_len]; omega)]
set_option maxHeartbeats 2000000 in
theorem markNet_T (ts : List Tn) (k : Int) (x1 : DV) (hl : ts.length ≤ 1048576) (hb : ∀ t, t ∈ ts → t.pre.length ≤ 1048576 ∧ t.post.length ≤ 1048576) (hk : 0 ≤ k ∧ k + (sumL wT ts : Nat) ≤ 1073741824) (v1 v2 : Value) (S : Nat → Prop) : ASpec Tryz.prog 15 [.agg [.d (.val v1), .d (.val v2)], aI k] [(0, .pred S fun w => TL w S [x1, vTs ts] [v1, v2])] (Fun1 (aI (k + (sumL wT ts : Nat))) [(0, .pred S fun w => TL w S [x1, vTs (mkL wT mkT k ts)] [v1, v2])]) := by
 refine ASpec.of Tryz.func15 rfl rfl fun C hC => ?_
 refine AC.seq (AC.region ?_);refine kD ?_;refine za ?_;refine AL.nil (th_n (AC.seq (AC.region ?_)));refine zf ?_;refine zr ?_;refine zm ?_;refine AL.weakR (WeakR.splitT 0 1 (d := vTs ts) (v := v2) rfl (fun w h => h) rfl rfl rfl) ?_;rintro _ ⟨S1, S2, hSS, rfl⟩;refine kU [9] en_markTnS (markTnS_T ts k hl hb hk v2 S1) ?_;refine AL.weak (Weak.joinT (S := S) (d := vTs (mkL wT mkT k ts)) (v := v2) 0 9 1 rfl rfl (fun w h => h) hSS (by simp) rfl rfl) ?_;refine za ?_;refine AL.nil (th_n (AC.seq (AC.region ?_)));refine zm ?_;refine za ?_;refine AL.nil (th_n (AC.ret (bq_r ?_)));exact retX [] rfl ⟨rfl, rfl⟩ (by repeat (exact DLead.same)) (by repeat (first | exact True.intro | refine And.intro ?_ ?_ | exact rfl | refine ⟨_, _, rfl, rfl, ?_⟩)) rfl rfl
theorem en_markNet : Enters Tryz.prog 15 := enters_of Tryz.func15 rfl rfl
def wC (_ : Cond) : Nat := 2
def mkC (k : Int) (_ : Cond) : Cond := ⟨k, k + 1⟩
theorem condsL_row (l : List Cond) : ∀ cs, cs ∈ condsL l → cs.length = 2 := by
 intro cs hc;obtain ⟨x, _, rfl⟩ := List.mem_map.1 hc
 rfl
theorem mkC_ok : ∀ (l : List Cond) (k : Int), 0 ≤ k → k + (sumL wC l : Nat) ≤ 1073741824 → ∀ v, v ∈ (condsL (mkL wC mkC k l)).flatten.map unval → okV v
 | [], k, _, _, v, hv => by simp [condsL, mkL] at hv
 | c :: l, k, h1, h2, v, hv => by
  simp only [sumL, wC] at h2;simp only [condsL, mkL, List.map_cons, List.flatten_cons, List.map_append, List.mem_append] at hv;rcases hv with hv | hv
  ·simp only [List.map_cons, List.map_nil, List.mem_cons, List.not_mem_nil, or_false] at hv;rcases hv with rfl | rfl
   ·exact wrap_i64 (by show _ ≤ k ∧ k ≤ _; omega)
   exact wrap_i64 (by show _ ≤ k + 1 ∧ k + 1 ≤ _; omega)
  exact mkC_ok l (k + (wC c : Nat)) (by simp only [wC]; omega) (by simp only [wC]; omega) v hv
set_option maxHeartbeats 2000000 in
theorem markCondS_T (ts : List Cond) (k : Int) (hl : ts.length ≤ 1048576) (hk : 0 ≤ k ∧ k + (sumL wC ts : Nat) ≤ 1073741824) (v : Value) (S : Nat → Prop) : ASpec Tryz.prog 40 [.d (.val v), aI k] [(0, .pred S fun w => TRep w S (vCs ts) v)] (Fun1 (aI (k + (sumL wC ts : Nat))) [(0, .pred S fun w => TRep w S (vCs (mkL wC mkC k ts)) v)]) := by
 refine ASpec.of Tryz.func40 rfl rfl fun C hC => ?_
 refine AC.seq ?_;refine AC.weakR (WeakR.openT (els := condsL ts) 0 0 rfl rfl (fun w h => h) rfl rfl) ?_;rintro _ ⟨p, V, S', ⟨hv, hp, hV, hrow, hS, hx⟩, rfl⟩;rw [rowsV_eq hrow hx (condsL_flat _)];rw [condsL_len] at *;refine AC.region ?_;refine za ?_;refine AL.nil (th_n (AC.seq (AC.seq (AC.region ?_))));refine za ?_;refine AL.nil (th_n (AC.block ?_));refine AC.loop (ι := Nat) (fun i => ⟨27, 108, [(0, .own 100 ts.length), (1, aI (k + (sumL wC (ts.take i) : Nat))), (5, aI i)], [(100, some (.arr 88 2 (condsL (mkM wC mkC k i ts)))), (101, some (.lock 100 p)), (0, some (.pred S' fun w => TL w S' (condsL ts).flatten V))]⟩) (fun i => i ≤ ts.length) (fun i => ts.length - i) (0) ?_ (Nat.zero_le _) ?_
 ·have hs0 : sumL wC (ts.take 0) = 0 := rfl;exact zw [(100, 1), (101, 2)] hC (b := by rw [mkM_zero]; repeat (first | exact True.intro | refine And.intro ?_ ?_ | exact rfl | refine ⟨_, _, rfl, rfl, ?_⟩ | refine ⟨_, rfl, ?_⟩))
 intro i hi;refine AC.seq (AC.seq (AC.region ?_));refine zm ?_;refine kB ?_;refine AL.p (by exact g_len_own (sz := 1) (els := []) (e' := 0) rfl rfl (by simp only [maxLen]; omega)) rfl ?_;refine zc ?_;refine AL.nil (th_n ?_);refine AC.condD rfl (fun h0 => ?_) (fun h0 => ?_)
 ·refine AC.skip (th_n (AC.seq (AC.block (AC.seq ?_))));have hi1 : i < ts.length := by omega
  have hlr := condsL_len (mkM wC mkC k i ts);rw [mkM_len hi] at hlr;have hget : (condsL (mkM wC mkC k i ts))[i]? = some [dI ts[i].place, dI ts[i].by_] := by unfold condsL; rw [List.getElem?_map, mkM_get hi1]; rfl
  have hs1 := sumL_take (wt := wC) hi1;have hs2 := sumL_le wC ts (i + 1);have hw : wC ts[i] = 2 := rfl;have hget2 : ((condsL (mkM wC mkC k i ts)).set i (([dI ts[i].place, dI ts[i].by_] : List DV).set 0 (dI (k + (sumL wC (ts.take i) : Nat)))))[i]? = some [dI (k + (sumL wC (ts.take i) : Nat)), dI ts[i].by_] := by rw [List.getElem?_set_self (by omega)]; rfl
  have hl2 : ((condsL (mkM wC mkC k i ts)).set i (([dI ts[i].place, dI ts[i].by_] : List DV).set 0 (dI (k + (sumL wC (ts.take i) : Nat))))).length = ts.length := by rw [List.length_set]; exact hlr
  refine AC.region ?_;refine kB ?_;refine zm ?_;refine zm ?_;refine AL.p (by exact g_ia_own rfl rfl rfl rfl rfl (by rfl) (by omega) (by rfl)) rfl ?_;refine zF ?_;refine AL.q (by exact h_store_arr (i := i) (j := 0) (cs := [dI ts[i].place, dI ts[i].by_]) (d := dI (k + (sumL wC (ts.take i) : Nat))) rfl rfl rfl rfl .same rfl hget (by simp)) rfl ?_;refine AL.nil (th_n (AC.seq (AC.region ?_)));refine zm ?_;refine zA ?_;refine za ?_;refine AL.nil (th_n (AC.seq (AC.region ?_)));refine kB ?_;refine zm ?_;refine zm ?_;refine AL.p (by exact g_ia_own rfl rfl rfl rfl rfl (by rfl) (by omega) (by rfl)) rfl ?_;refine zF ?_;refine AL.q (by exact h_store_arr (i := i) (j := 1) (cs := [dI (k + (sumL wC (ts.take i) : Nat)), dI ts[i].by_]) (d := dI (k + (sumL wC (ts.take i) : Nat) + 1)) rfl rfl rfl rfl .same rfl hget2 (by simp)) rfl ?_;refine AL.nil (th_n (AC.region ?_));refine zm ?_;refine zA ?_;refine za ?_;refine AL.nil (ib_n (th_n (AC.region ?_)));refine zm ?_;refine zA ?_;refine za ?_;refine AL.nil (th_n ?_);refine ⟨i + 1, hi1, by omega, Weak.ren _ [(100, 100), (101, 101)] hC rfl (by repeat (first | exact True.intro | refine And.intro ?_ ?_ | exact DLead.same | exact DLead.eqI (by omega) | exact rfl | refine ⟨_, rfl, ?_⟩)) ?_ rfl rfl rfl⟩;have e2 : condsL (mkM wC mkC k (i + 1) ts) = ((condsL (mkM wC mkC k i ts)).set i (([dI ts[i].place, dI ts[i].by_] : List DV).set 0 (dI (k + (sumL wC (ts.take i) : Nat))))).set i (([dI (k + (sumL wC (ts.take i) : Nat)), dI ts[i].by_] : List DV).set 1 (dI (k + (sumL wC (ts.take i) : Nat) + 1))) := by rw [← mkM_set hi1, List.set_set]; unfold condsL; rw [List.map_set]; rfl
  rw [e2]
  repeat (first | exact True.intro | refine And.intro ?_ ?_ | exact rfl | refine ⟨_, _, rfl, rfl, ?_⟩ | refine ⟨_, rfl, ?_⟩)
 refine AC.exit (th_e (th_e (ib_y (th_n (AC.seq ?_)))));obtain rfl : i = ts.length := by omega
 rw [mkM_all, List.take_length];refine AC.weak (Weak.closeT (n := 0) (els := condsL (mkL wC mkC k ts)) (V := (condsL (mkL wC mkC k ts)).flatten.map unval) (v := v) (S := S) (S' := S') (p := p) 0 0 100 101 (by rw [condsL_len, mkL_len]; rfl) rfl (fun w h => by have := h.flatNew (flat_flat (condsL_flat ts)) (mkC_ok ts k hk.1 hk.2); rwa [flat_unval (flat_flat (condsL_flat _))] at this) (by rw [rowsV_unval (condsL_row _) (condsL_flat _)]; rfl) rfl (by rw [condsL_len, mkL_len]; exact hv) (by rw [condsL_len, mkL_len]; exact hp) (condsL_row _) hS rfl rfl) ?_;refine AC.region ?_;refine zm ?_;refine za ?_;refine AL.nil (th_n (AC.ret (bq_r ?_)));exact retX [] rfl ⟨rfl, rfl⟩ (by repeat (exact DLead.same)) (by repeat (first | exact True.intro | refine And.intro ?_ ?_ | exact rfl | refine ⟨_, _, rfl, rfl, ?_⟩)) rfl rfl
theorem en_markCondS : Enters Tryz.prog 40 := enters_of Tryz.func40 rfl rfl
def wE (e : Ev) : Nat := 1 + e.pre.length
def mkE (k : Int) (e : Ev) : Ev := ⟨k, seqI (k + 1) e.pre.length⟩
set_option maxHeartbeats 2000000 in
theorem markEvS_T (ts : List Ev) (k : Int) (hl : ts.length ≤ 1048576) (hb : ∀ t, t ∈ ts → t.pre.length ≤ 1048576) (hk : 0 ≤ k ∧ k + (sumL wE ts : Nat) ≤ 1073741824) (v : Value) (S : Nat → Prop) : ASpec Tryz.prog 41 [.d (.val v), aI k] [(0, .pred S fun w => TRep w S (vEs ts) v)] (Fun1 (aI (k + (sumL wE ts : Nat))) [(0, .pred S fun w => TRep w S (vEs (mkL wE mkE k ts)) v)]) := by
 refine ASpec.of Tryz.func41 rfl rfl fun C hC => ?_
 refine AC.seq ?_;refine AC.weakR (WeakR.openT (els := evsL ts) 0 0 rfl rfl (fun w h => h) rfl rfl) ?_;rintro _ ⟨p, V0, S', ⟨hv, hp, hV0, hrow, hS, hx⟩, rfl⟩;rw [evsL_len] at *;refine AC.region ?_;refine za ?_;refine AL.nil (th_n (AC.seq (AC.seq (AC.region ?_))));refine za ?_;refine AL.nil (th_n (AC.block ?_));refine AC.loop (ι := Nat × List Value) (fun ⟨i, V⟩ => ⟨27, 108, [(0, .own 100 ts.length), (1, aI (k + (sumL wE (ts.take i) : Nat))), (5, aI i)], [(100, some (.arr 46 2 (rowsV 2 ts.length V))), (101, some (.lock 100 p)), (0, some (.pred S' fun w => TL w S' (evsL (mkM wE mkE k i ts)).flatten V))]⟩) (fun x => x.1 ≤ ts.length ∧ x.2.length = ts.length * 2) (fun x => ts.length - x.1) ((0, V0)) ?_ (⟨Nat.zero_le _, hV0⟩) ?_
 ·have hs0 : sumL wE (ts.take 0) = 0 := rfl;exact Weak.ren _ [(100, 1), (101, 2)] hC rfl (by dsimp only; repeat (first | exact True.intro | refine And.intro ?_ ?_ | exact DLead.same | exact DLead.eqI (by omega) | exact rfl | refine ⟨_, rfl, ?_⟩)) (by dsimp only; rw [mkM_zero]; repeat (first | exact True.intro | refine And.intro ?_ ?_ | exact rfl | refine ⟨_, _, rfl, rfl, ?_⟩ | refine ⟨_, rfl, ?_⟩)) rfl rfl rfl
 rintro ⟨i, V⟩ ⟨hi, hV⟩;refine AC.seq (AC.seq (AC.region ?_));refine zm ?_;refine kB ?_;refine AL.p (by exact g_len_own (sz := 1) (els := []) (e' := 0) rfl rfl (by simp only [maxLen]; omega)) rfl ?_;refine zc ?_;refine AL.nil (th_n ?_);refine AC.condD rfl (fun h0 => ?_) (fun h0 => ?_)
 ·refine AC.skip (th_n (AC.seq (AC.block (AC.seq ?_))));dsimp only at hi hV;have hi1 : i < ts.length := by omega
  have hlr := rowsV_len 2 ts.length V;obtain ⟨v1, hv1⟩ : ∃ v, V[i * 2]? = some v := ⟨_, List.getElem?_eq_getElem (by omega)⟩;obtain ⟨v2, hv2⟩ : ∃ v, V[i * 2 + 1]? = some v := ⟨_, List.getElem?_eq_getElem (by omega)⟩;have hget := rowsV2_get hi1 hv1 hv2;have hb1 := hb _ (List.getElem_mem hi1);have hM : (evsL (mkM wE mkE k i ts))[i]? = some [dI ts[i].t, vI ts[i].pre] := by unfold evsL; rw [List.getElem?_map, mkM_get hi1]; rfl
  have hrM := evsL_row (mkM wE mkE k i ts);have hL1 := flat_get hrM hM (j := 0) rfl;have hL2 := flat_get hrM hM (j := 1) rfl;have hs1 := sumL_take (wt := wE) hi1;have hs2 := sumL_le wE ts (i + 1);have hw : wE ts[i] = 1 + ts[i].pre.length := rfl;have hLl := (List.getElem?_eq_some_iff.1 hL2).1;have hset := rowsV2_set0 (v1 := v1) (y := .int .i64 (k + (sumL wE (ts.take i) : Nat))) hi1 hV hv2;have hv1' : (V.set (i * 2) (.int .i64 (k + (sumL wE (ts.take i) : Nat))))[i * 2]? = some (.int .i64 (k + (sumL wE (ts.take i) : Nat))) := by rw [List.getElem?_set_self (by omega)]
  have hv2' : (V.set (i * 2) (.int .i64 (k + (sumL wE (ts.take i) : Nat))))[i * 2 + 1]? = some v2 := by rw [List.getElem?_set_ne (by omega)]; exact hv2
  have hget2 := rowsV2_get hi1 hv1' hv2';have hlr2 := rowsV_len 2 ts.length (V.set (i * 2) (.int .i64 (k + (sumL wE (ts.take i) : Nat))));refine AC.region ?_;refine kB ?_;refine zm ?_;refine zm ?_;refine AL.p (by exact g_ia_own rfl rfl rfl rfl rfl (by rfl) (by omega) (by rfl)) rfl ?_;refine zF ?_;refine AL.q (by exact h_store_arr (i := i) (j := 0) (cs := [.val v1, .val v2]) (d := dI (k + (sumL wE (ts.take i) : Nat))) rfl rfl rfl rfl .same rfl hget (by simp)) rfl ?_;refine AL.weak (Weak.cons 0 (fun w => TL w S' ((evsL (mkM wE mkE k i ts)).flatten.set (i * 2) (dI (k + (sumL wE (ts.take i) : Nat)))) (V.set (i * 2) (.int .i64 (k + (sumL wE (ts.take i) : Nat))))) rfl (fun w h => h.setFlat hL1 (wrap_i64 (by omega))) (fun w w' hk h => h.turn hk)) ?_;rw [show dI (k + (sumL wE (ts.take i) : Nat)) = DV.val (.int .i64 (k + (sumL wE (ts.take i) : Nat))) from rfl];rw [hset];refine AL.nil (th_n (AC.seq (AC.region ?_)));refine zm ?_;refine zA ?_;refine za ?_;refine AL.nil (th_n (AC.region ?_));refine kB ?_;refine zm ?_;refine AL.p (by exact g_ia_own rfl rfl rfl rfl rfl (by rfl) (by omega) (by rfl)) rfl ?_;refine zF ?_;refine AL.p (by exact g_load_arr rfl rfl rfl rfl (by rfl) (by assumption) (by rfl)) rfl ?_;refine zm ?_;refine AL.weakR (WeakR.splitT 0 (i * 2 + 1) (d := vI ts[i].pre) (v := v2) rfl (fun w h => h) (by rw [List.getElem?_set_ne (by omega)]; exact hL2) hv2' rfl) ?_;rintro _ ⟨S3, S4, hSS2, rfl⟩;refine AL.q (by exact h_fun (cs := [116]) en_markIntS rfl rfl (by repeat (first | exact rfl | exact DLead.same | refine ⟨_, _, rfl, ?_, ?_⟩)) (by repeat (first | exact True.intro | refine And.intro ?_ ?_ | exact rfl | refine ⟨_, _, rfl, rfl, ?_⟩)) (markIntS_T _ _ hb1 (by omega) v2 S3) rfl rfl rfl rfl) rfl ?_;refine AL.weak (Weak.joinT (S := S') (d := vI (seqI (k + (sumL wE (ts.take i) : Nat) + 1) ts[i].pre.length)) (v := v2) 0 116 (i * 2 + 1) rfl rfl (fun w h => h) hSS2 (by rw [List.length_set]; omega) hv2' rfl) ?_;refine za ?_;refine AL.nil (ib_n (th_n (AC.region ?_)));refine zm ?_;refine zA ?_;refine za ?_;refine AL.nil (th_n ?_);refine ⟨(i + 1, V.set (i * 2) (.int .i64 (k + (sumL wE (ts.take i) : Nat)))), ⟨hi1, by rw [List.length_set]; exact hV⟩, by dsimp only; omega, Weak.ren _ [(100, 100), (101, 101)] hC rfl (by dsimp only; repeat (first | exact True.intro | refine And.intro ?_ ?_ | exact DLead.same | exact DLead.eqI (by omega) | exact rfl | refine ⟨_, rfl, ?_⟩)) ?_ rfl rfl rfl⟩;dsimp only;have e1 := set_flat hrM hM (j := 0) (d := dI (k + (sumL wE (ts.take i) : Nat))) (by omega);have e2 : (evsL (mkM wE mkE k (i + 1) ts)).flatten = ((evsL (mkM wE mkE k i ts)).flatten.set (i * 2) (dI (k + (sumL wE (ts.take i) : Nat)))).set (i * 2 + 1) (vI (seqI (k + (sumL wE (ts.take i) : Nat) + 1) ts[i].pre.length)) := by rw [← mkM_set hi1]; rw [Nat.add_zero] at e1; rw [e1, set_flat (cs := [dI (k + (sumL wE (ts.take i) : Nat)), vI ts[i].pre]) (sz := 2) (fun cs hc => (List.mem_or_eq_of_mem_set hc).elim (hrM cs) (fun e => by rw [e]; rfl)) (by rw [List.getElem?_set_self (List.getElem?_eq_some_iff.1 hM).1]; rfl) (by omega), List.set_set]; unfold evsL; rw [List.map_set]; rfl
  rw [e2]
  repeat (first | exact True.intro | refine And.intro ?_ ?_ | exact rfl | refine ⟨_, _, rfl, rfl, ?_⟩ | refine ⟨_, rfl, ?_⟩)
 refine AC.exit (th_e (th_e (ib_y (th_n (AC.seq ?_)))));dsimp only at hi hV ⊢;obtain rfl : i = ts.length := by omega
 rw [mkM_all, List.take_length];refine AC.weak (Weak.closeT (n := 0) (els := evsL (mkL wE mkE k ts)) (V := V) (v := v) (S := S) (S' := S') (p := p) 0 0 100 101 (by rw [evsL_len, mkL_len]; rfl) rfl (fun w h => h) (by rw [evsL_len, mkL_len]; rfl) rfl (by rw [evsL_len, mkL_len]; exact hv) (by rw [evsL_len, mkL_len]; exact hp) (evsL_row _) hS rfl rfl) ?_;refine AC.region ?_;refine zm ?_;refine za ?_;refine AL.nil (th_n (AC.ret (bq_r ?_)));exact retX [] rfl ⟨rfl, rfl⟩ (by repeat (exact DLead.same)) (by repeat (first | exact True.intro | refine And.intro ?_ ?_ | exact rfl | refine ⟨_, _, rfl, rfl, ?_⟩)) rfl rfl
theorem en_markEvS : Enters Tryz.prog 41 := enters_of Tryz.func41 rfl rfl
set_option maxHeartbeats 2000000 in
theorem markUnf_T (cs : List Cond) (es : List Ev) (k : Int) (hc : cs.length ≤ 1048576) (hl : es.length ≤ 1048576) (hb : ∀ t, t ∈ es → t.pre.length ≤ 1048576) (hk : 0 ≤ k ∧ k + (sumL wC cs : Nat) + (sumL wE es : Nat) ≤ 1073741824) (v1 v2 : Value) (S : Nat → Prop) : ASpec Tryz.prog 16 [.agg [.d (.val v1), .d (.val v2)], aI k] [(0, .pred S fun w => TL w S [vCs cs, vEs es] [v1, v2])] (Fun1 (aI (k + (sumL wC cs : Nat) + (sumL wE es : Nat))) [(0, .pred S fun w => TL w S [vCs (mkL wC mkC k cs), vEs (mkL wE mkE (k + (sumL wC cs : Nat)) es)] [v1, v2])]) := by
 refine ASpec.of Tryz.func16 rfl rfl fun C hC => ?_
 refine AC.seq (AC.region ?_);refine kD ?_;refine za ?_;refine AL.nil (th_n (AC.seq (AC.region ?_)));refine zf ?_;refine zr ?_;refine zm ?_;refine AL.weakR (WeakR.splitT 0 0 (d := vCs cs) (v := v1) rfl (fun w h => h) rfl rfl rfl) ?_;rintro _ ⟨S1, S2, hSS, rfl⟩;refine AL.q (by exact h_fun (cs := [9]) en_markCondS rfl rfl (by repeat (first | exact rfl | exact DLead.same | refine ⟨_, _, rfl, ?_, ?_⟩)) (by repeat (first | exact True.intro | refine And.intro ?_ ?_ | exact rfl | refine ⟨_, _, rfl, rfl, ?_⟩)) (markCondS_T cs k hc (by omega) v1 S1) rfl rfl rfl rfl) rfl ?_;refine AL.weak (Weak.joinT (S := S) (d := vCs (mkL wC mkC k cs)) (v := v1) 0 9 0 rfl rfl (fun w h => h) hSS (by simp) rfl rfl) ?_;refine za ?_;refine AL.nil (th_n (AC.seq (AC.region ?_)));refine zf ?_;refine zr ?_;refine zm ?_;refine AL.weakR (WeakR.splitT 0 1 (d := vEs es) (v := v2) rfl (fun w h => h) rfl rfl rfl) ?_;rintro _ ⟨S3, S4, hSS2, rfl⟩;refine AL.q (by exact h_fun (cs := [25]) en_markEvS rfl rfl (by repeat (first | exact rfl | exact DLead.same | refine ⟨_, _, rfl, ?_, ?_⟩)) (by repeat (first | exact True.intro | refine And.intro ?_ ?_ | exact rfl | refine ⟨_, _, rfl, rfl, ?_⟩)) (markEvS_T es _ hl hb (by omega) v2 S3) rfl rfl rfl rfl) rfl ?_;refine AL.weak (Weak.joinT (S := S) (d := vEs (mkL wE mkE (k + (sumL wC cs : Nat)) es)) (v := v2) 0 25 1 rfl rfl (fun w h => h) hSS2 (by simp) rfl rfl) ?_;refine za ?_;refine AL.nil (th_n (AC.seq (AC.region ?_)));refine zm ?_;refine za ?_;refine AL.nil (th_n (AC.ret (bq_r ?_)));exact retX [] rfl ⟨rfl, rfl⟩ (by repeat (exact DLead.same)) (by repeat (first | exact True.intro | refine And.intro ?_ ?_ | exact rfl | refine ⟨_, _, rfl, rfl, ?_⟩)) rfl rfl
theorem en_markUnf : Enters Tryz.prog 16 := enters_of Tryz.func16 rfl rfl
def PL (N : Net) (u : Unf) : Prop := ∀ c, c ∈ u.cs → 0 ≤ c.place ∧ c.place < N.places
theorem run_pl {N : Net} (hN : NetS N) : ∀ (hs : List Ev) (u now : Unf), PL N u → runI N u hs = some now → PL N now
 | [], u, now, hp, h => by rw [runI] at h; cases h; exact hp
 | x :: hs, u, now, hp, h => by
  rw [runI] at h
  split at h
  ·rename_i hf;refine run_pl hN hs _ now ?_ h;intro c hc;rcases List.mem_append.1 hc with h1 | h1
   ·exact hp c h1
   obtain ⟨p, hp', rfl⟩ := List.mem_map.1 h1;have := rising_in (hN.t _ (tAt_mem (fits_inR hf))).2.2.2.2 p hp';show 0 ≤ p ∧ p < _;omega
  cases h
theorem Good.pl {N : Net} {m : List UInt8} {u : Unf} (h : Good N m u) : PL N u := by
 refine run_pl h.n _ _ _ ?_ h.r;intro c hc;obtain ⟨p, hp, rfl⟩ := List.mem_map.1 hc;have := List.mem_range.1 (List.mem_filter.1 hp).1;have := h.n.p;show 0 ≤ (p : Int) ∧ (p : Int) < _;omega
theorem c1 {q b1 b2 : Bool} (hq : q = ((true || b1) && !b2)) (h : (!b2) = true) : q = true := by rw [hq, h]; rfl
theorem c2 {q b1 b2 : Bool} (hq : q = ((true || b1) && !b2)) (h : (!b2) = false) : q = false := by rw [hq, h]; rfl
set_option maxHeartbeats 1000000 in
theorem heldIntS_spec (k : Int) (n : Nat) (hn : n ≤ 1048576) (hk : 0 ≤ k ∧ k ≤ 1073741824) : ASpec Tryz.prog 69 [.d (vI (seqI k n)), aI k] [] (Pure1 (aI (k + n))) := by
 have hl := seqI_len k n;refine ASpec.of Tryz.func69 rfl rfl fun C hC => ?_
 refine AC.seq (AC.region ?_);refine za ?_;refine AL.nil (th_n (AC.seq (AC.seq (AC.region ?_))));refine za ?_;refine AL.nil (th_n (AC.block ?_));refine AC.loop (ι := Nat) (fun i => ⟨21, 0, [(0, .d (vI (seqI k n))), (1, aI (k + i)), (5, aI i)], []⟩) (fun i => i ≤ n) (fun i => n - i) (0) ?_ (Nat.zero_le _) ?_
 ·refine Weak.ren _ [] hC rfl ?_ ?_ rfl rfl rfl <;> repeat (first | exact True.intro | refine And.intro ?_ ?_ | exact DLead.same | exact DLead.eqI (by omega))
 intro i hi;refine AC.seq (AC.seq (AC.region ?_));refine zm ?_;refine zm ?_;refine kH ?_;refine zc ?_;refine AL.nil (th_n ?_);refine AC.condD rfl (fun h0 => ?_) (fun h0 => ?_)
 ·refine AC.skip (th_n (AC.seq (AC.block (AC.seq (AC.seq ?_)))));have hi1 : i < n := by omega
  have hget : (ints (seqI k n))[i]? = some [dI (k + i)] := by simp [ints, seqI, hi1]
  refine AC.region ?_;refine zm ?_;refine zm ?_;refine AL.p (by exact g_ia_view rfl rfl rfl rfl rfl (by rfl) (by assumption)) rfl ?_;refine zr ?_;refine zm ?_;refine zc ?_;refine AL.nil (th_n ?_);refine AC.condND rfl (fun h1 => ?_) (fun h1 => ?_)
  ·refine AC.seq ?_;exact absurd h1 (by simp)
  refine AC.skip (th_n (AC.region ?_));refine zm ?_;refine zA ?_;refine za ?_;refine AL.nil (ib_n (th_n (AC.region ?_)));refine zm ?_;refine zA ?_;refine za ?_;refine AL.nil (th_n ?_);exact ⟨i + 1, hi1, by omega, Weak.ren _ [] hC rfl (by repeat (first | exact True.intro | refine And.intro ?_ ?_ | exact DLead.same | exact DLead.eqI (by omega))) (by repeat (exact True.intro)) rfl rfl rfl⟩
 refine AC.exit (th_e (th_e (ib_y (th_n (AC.seq (AC.region ?_))))));refine zm ?_;refine za ?_;refine AL.nil (th_n (AC.ret (bq_r ?_)));obtain rfl : i = n := by omega
 exact ret1 rfl rfl
theorem en_heldIntS : Enters Tryz.prog 69 := enters_of Tryz.func69 rfl rfl
def TupT (l : List Int) (b : Bool) : AV → List (Nat × Chunk) → Prop := fun r chs => ∃ v S, r = .tup [.d (.val v), aT b] ∧ chs = [(0, .pred S fun w => TRep w S (vI l) v)]
theorem Weak.nilT {C : Ctx} {s : ASt} : Weak C s { n := s.n, nx := s.nx + 8, sl := s.sl, ch := (s.nx, some (.pred (fun _ => False) fun w => TRep w (fun _ => False) (vI []) (.slice none 0 0))) :: (s.nx, some (.pred (fun _ => False) fun w => TL w (fun _ => False) [] [])) :: s.ch } :=
 Weak.emptyT.trans (Weak.cons (K := fun w => TL w (fun _ => False) [] []) s.nx (s := { n := s.n, nx := s.nx + 8, sl := s.sl, ch := (s.nx, some (.pred (fun _ => False) fun w => TL w (fun _ => False) [] [])) :: s.ch }) _ (by simp [ASt.chunk, getL_cons]) (fun w _ => .nil fun _ h => h) (fun w w' hk h => h.turn hk))
section
variable {P : Program} [PT P] {C : Ctx} {Q : Exit → ASt → Prop} {s : ASt} {ops : Array Oper}
theorem WeakR.fact (id : Nat) {S : Nat → Prop} {K : World → Prop} {p : Prop} (hc : s.chunk id = some (.pred S K)) (hp : ∀ w, K w → p) : WeakR C s fun t => p ∧ t = s := by
 refine ⟨fun a w hR => ?_⟩;obtain ⟨m, hm⟩ := hR;obtain ⟨q0, q1, c1, l1⟩ := hm.ch id _ hc;obtain ⟨rfl, k1, _, _⟩ := c1.predAt;exact ⟨s, ⟨hp w k1, rfl⟩, m, hm⟩
theorem TX.gone {w : World} {S : Nat → Prop} {c : Nat} {L : List DV} {V : List Value} {v : Value} (h : TX w S c L V) (hc : c < L.length) (hv : V[c]? = some v) (hok : okV v) : TL w S (L.set c (.val v)) V := by
 have := h.join (S1 := fun _ => False) (.val (fun _ h => h) hok) hc hv (fun _ h => h.elim);exact this.congr fun k => by simp
end
theorem goS_agree {L : Nat → Bool} : ∀ (os : List Oper) (rs rs' : List ORec) (k : Nat) (a : List (Nat × AV)), rs.length = rs'.length → (∀ i, i < os.length → L (k + i) = true → rs[i]? = rs'[i]?) → goS L k os rs a = goS L k os rs' a
 | [], rs, rs', k, a, _, _ => by cases rs <;> cases rs' <;> simp [goS]
 | o :: os, [], [], k, a, _, _ => rfl
 | o :: os, [], _ :: _, k, a, h, _ => by simp at h
 | o :: os, _ :: _, [], k, a, h, _ => by simp at h
 | o :: os, r :: rs, r' :: rs', k, a, hl, h => by
  simp only [goS];have ih := fun a => goS_agree os rs rs' (k + 1) a (by simpa using hl) (fun i hi hL => by have := h (i + 1) (by simpa using hi) (by rw [show k + (i + 1) = k + 1 + i by omega]; exact hL); simpa using this)
  cases hL : L k with
  | false => cases o.dst <;> exact ih _
  | true =>
   have e := h 0 (by simp) (by rwa [Nat.add_zero]);simp only [List.getElem?_cons_zero, Option.some.injEq] at e;subst e;cases o.dst <;> exact ih _
theorem goC_agree {L : Nat → Bool} : ∀ (os : List Oper) (rs rs' : List ORec) (k : Nat) (a : List (Nat × Option Chunk)), rs.length = rs'.length → (∀ i, i < os.length → L (k + i) = true → rs[i]? = rs'[i]?) → goC L k os rs a = goC L k os rs' a
 | [], rs, rs', k, a, _, _ => by cases rs <;> cases rs' <;> simp [goC]
 | o :: os, [], [], k, a, _, _ => rfl
 | o :: os, [], _ :: _, k, a, h, _ => by simp at h
 | o :: os, _ :: _, [], k, a, h, _ => by simp at h
 | o :: os, r :: rs, r' :: rs', k, a, hl, h => by
  simp only [goC];have ih := fun a => goC_agree os rs rs' (k + 1) a (by simpa using hl) (fun i hi hL => by have := h (i + 1) (by simpa using hi) (by rw [show k + (i + 1) = k + 1 + i by omega]; exact hL); simpa using this)
  cases hL : L k with
  | false => exact ih _
  | true =>
   have e := h 0 (by simp) (by rwa [Nat.add_zero]);simp only [List.getElem?_cons_zero, Option.some.injEq] at e;subst e;exact ih _
section
variable {P : Program} {C : Ctx} {Q : Exit → ASt → Prop} {s : ASt} {ops : List Oper} {anc : List (List Nat)}
def StepX (P : Program) (ops : List Oper) (anc : List (List Nat)) (s : ASt) (F : List ORec → Prop) (R : List ORec) (i : Nat) (o : Oper) (r : ORec) : Prop :=
 StepOk P ops (mkS s (fun k => memL k (ancAt anc i)) ops (R.take i)) o r.2 (s.nx + 8 * i) r.1 ∨
 (o.guard = none ∧ ∃ T : Upd → Prop, NOpR P r.2 (mkS s (fun k => memL k (ancAt anc i)) ops (R.take i)) o (s.nx + 8 * i) T ∧ ∀ u, T u → ∃ R', F R' ∧ R'[i]? = some (u, r.2) ∧ ∀ j, j ≠ i → i ∉ ancAt anc j → R'[j]? = R[j]?)
set_option maxHeartbeats 1000000 in
theorem dr_anyX {F : List ORec → Prop} (hanc : ancOk ops anc = true) (hF : ∀ R, F R → R.length = ops.length ∧ indepOk ops anc R = true ∧ Q .normal (mkS s (fun _ => true) ops R))
  (hstep : ∀ R, F R → ∀ i o r, ops[i]? = some o → R[i]? = some r → dstOk o.dst s.n = true ∧ StepX P ops anc s F R i o r) :
  ∀ (fuel : Nat) (listed : Array Bool) (recs : List ORec), F recs → ∀ (a : Act) (w : World) (m : Nat → Option (Option Nat × Nat)), listed.size = ops.length → cntF (fun i => listed.getD i false) ops.length = fuel → (∀ i o, ops[i]? = some o → listed.getD i false = true → ∀ d, d ∈ deps o → listed.getD d false = true) →
   RelM C (UL s ops.length (fun i => listed.getD i false)) (mkS s (fun i => listed.getD i false) ops recs) a w m → wpAny P .any ops.toArray (Qc C Q) fuel listed a w := by
 have hready : ∀ (listed : Array Bool), listed.size = ops.length → ∀ i, i ∈ Region.ready .any ops.toArray listed ↔ ∃ o, ops[i]? = some o ∧ listed.getD i false = false ∧ ∀ d, d ∈ deps o → listed.getD d false = true := by
  intro listed hsz i;rw [mem_ready];have hg : ∀ i, i < ops.length → listed.getD i true = listed.getD i false := fun i hi => by simp [Array.getD_eq_getD_getElem?, show i < listed.size by omega]
  constructor
  ·rintro ⟨h0, o, ho, hall⟩;have ho' : ops[i]? = some o := by simpa using ho
   refine ⟨o, ho', by rw [← hg i (List.getElem?_eq_some_iff.1 ho').1]; exact h0, fun d hd => ?_⟩;simp only [deps, List.mem_map, List.mem_filter] at hd;obtain ⟨e, ⟨he, hb⟩, rfl⟩ := hd;exact hall e (by simpa using he) hb
  rintro ⟨o, ho, h0, hall⟩;refine ⟨by rw [hg i (List.getElem?_eq_some_iff.1 ho).1]; exact h0, o, by simpa using ho, fun e he hb => hall e.on ?_⟩;simp only [deps, List.mem_map, List.mem_filter];exact ⟨e, ⟨by simpa using he, hb⟩, rfl⟩
 have hnone : ∀ (listed : Array Bool), listed.size = ops.length → Region.ready .any ops.toArray listed = [] → ∀ i, i < ops.length → listed.getD i false = true := by
  intro listed hsz hr i
  induction i using Nat.strongRecOn with
  | _ i ih =>
   intro hi;cases hL : listed.getD i false with
   | true => rfl
   | false =>
    have ho := List.getElem?_eq_getElem hi;have : i ∈ Region.ready .any ops.toArray listed := (hready listed hsz i).2 ⟨_, ho, hL, fun d hd => ih d (deps_lt hanc ho hd) (by have := deps_lt hanc ho hd; omega)⟩;rw [hr] at this; cases this
 have hend : ∀ (recs : List ORec), F recs → ∀ (listed : Array Bool) a w m, (∀ i, i < ops.length → listed.getD i false = true) → RelM C (UL s ops.length (fun i => listed.getD i false)) (mkS s (fun i => listed.getD i false) ops recs) a w m → Qc C Q .normal a w := by
  intro recs hFr listed a w m hall hR;obtain ⟨hlen, hind, hfin⟩ := hF recs hFr;refine ⟨mkS s (fun _ => true) ops recs, ⟨m, hR.weaken (s' := mkS s (fun _ => true) ops recs) rfl (fun t => .inr ?_) (fun id c hc => ?_) (fun j hj => .inl hj)⟩, hfin⟩
  ·show (getL t (goS _ 0 ops recs s.sl)).getD .dead = (getL t (goS _ 0 ops recs s.sl)).getD .dead;rw [goS_same (L := fun _ => true) (L' := fun i => listed.getD i false) ops recs 0 s.sl s.sl (fun i o hi _ => by simp only [Nat.zero_add]; exact (hall i (List.getElem?_eq_some_iff.1 hi).1).symm) rfl]
  have : (mkS s (fun _ => true) ops recs).chunk id = (mkS s (fun i => listed.getD i false) ops recs).chunk id := by
   show (getL id (goC _ 0 ops recs s.ch)).getD none = (getL id (goC _ 0 ops recs s.ch)).getD none;rw [goC_same (L := fun _ => true) (L' := fun i => listed.getD i false) ops recs 0 s.ch s.ch (fun i r hi _ => by simp only [Nat.zero_add]; exact (hall i (by have := (List.getElem?_eq_some_iff.1 hi).1; omega)).symm) rfl]
  rw [← this]; exact hc
 intro fuel
 induction fuel with
 | zero =>
  intro listed recs hFr a w m hsz hcnt hcl hR;have hall : ∀ i, i < ops.length → listed.getD i false = true := fun i hi => cntF_zero hcnt i hi
  refine ⟨?_, hend recs hFr listed a w m hall hR⟩;cases hr : Region.ready .any ops.toArray listed with
  | nil => rfl
  | cons i l =>
   obtain ⟨o, ho, h0, _⟩ := (hready listed hsz i).1 (by rw [hr]; simp);rw [hall i (List.getElem?_eq_some_iff.1 ho).1] at h0; cases h0
 | succ fuel ih =>
  intro listed recs hFr a w m hsz hcnt hcl hR;obtain ⟨hlen, hind, hfin⟩ := hF recs hFr;refine ⟨fun hr => hend recs hFr listed a w m (hnone listed hsz hr) hR, fun i hi => ?_⟩;obtain ⟨o, ho, h0, hd⟩ := (hready listed hsz i).1 hi;have hil := (List.getElem?_eq_some_iff.1 ho).1;obtain ⟨r, hr⟩ : ∃ r, recs[i]? = some r := ⟨_, List.getElem?_eq_getElem (by omega)⟩;obtain ⟨hdst, hst⟩ := hstep recs hFr i o r ho hr;have hanci : ∀ j, j ∈ ancAt anc i → listed.getD j false = true := anc_in (L := fun i => listed.getD i false) hanc hcl (i + 1) i o (by omega) ho hd
  have hdesc : ∀ j, j < ops.length → i ∈ ancAt anc j → listed.getD j false = false := by
   intro j hj hij;cases hL : listed.getD j false with
   | false => rfl
   | true =>
    have hoj := List.getElem?_eq_getElem hj;have := anc_in (L := fun i => listed.getD i false) hanc hcl (j + 1) j _ (by omega) hoj (hcl j _ hoj hL) i hij;rw [h0] at this; cases this
  have hL' : ∀ j, (listed.setIfInBounds i true).getD j false = (listed.getD j false || j == i) := by
   intro j
   by_cases hj : j = i
   ·subst hj; simp [Array.getD_eq_getD_getElem?, show j < listed.size by omega]
   simp [Array.getD_eq_getD_getElem?, Array.getElem?_setIfInBounds_ne (Ne.symm hj), hj]
  have hlt : ∀ k, memL k (ancAt anc i) = true → k < i := fun k hk => anc_lt hanc hil (memL_iff.1 hk)
  have hsame : ∀ k, k < ops.length → (k ∉ ancAt anc i → i ∉ ancAt anc k → k ≠ i → False) → listed.getD k false = memL k (ancAt anc i) := by
   intro k hkl hex
   by_cases hka : k ∈ ancAt anc i
   ·rw [hanci k hka]; exact (memL_iff.2 hka).symm
   have e1 : memL k (ancAt anc i) = false := memL_not.2 hka;rw [e1]
   by_cases hki : k = i
   ·subst hki; exact h0
   by_cases hik : i ∈ ancAt anc k
   ·exact hdesc k hkl hik
   exact (hex hka hik hki).elim
  have hagr : AgrT ops r.2 o (mkS s (fun k => memL k (ancAt anc i)) ops (recs.take i)) (mkS s (fun i => listed.getD i false) ops recs) := by
   refine ⟨rfl, fun t ht => ?_, fun id hid => ?_⟩
   ·show (getL t (goS _ 0 ops recs s.sl)).getD .dead = (getL t (goS _ 0 ops (recs.take i) s.sl)).getD .dead;have := goS_cut hlt ops recs 0 s.sl;rw [Nat.sub_zero] at this;rw [this, goS_same (L := fun i => listed.getD i false) (L' := fun k => memL k (ancAt anc i)) ops recs 0 s.sl s.sl (fun k ok hk hdk => ?_) rfl];simp only [Nat.zero_add];have hkl := (List.getElem?_eq_some_iff.1 hk).1;refine hsame k hkl (fun hka hik hki => ?_);obtain ⟨rk, hrk⟩ : ∃ rk, recs[k]? = some rk := ⟨_, List.getElem?_eq_getElem (by omega)⟩;exact absurd ht ((indep_of hind ho hk hr hrk (Ne.symm hki) hka hik).1 t hdk).1
   show (getL id (goC _ 0 ops recs s.ch)).getD none = (getL id (goC _ 0 ops (recs.take i) s.ch)).getD none;have := goC_cut hlt ops recs 0 s.ch;rw [Nat.sub_zero] at this;rw [this, goC_same (L := fun i => listed.getD i false) (L' := fun k => memL k (ancAt anc i)) ops recs 0 s.ch s.ch (fun k rk hrk hdk => ?_) rfl];simp only [Nat.zero_add];have hkl : k < ops.length := by have := (List.getElem?_eq_some_iff.1 hrk).1; omega
   refine hsame k hkl (fun hka hik hki => ?_);exact absurd hid ((indep_of hind ho (List.getElem?_eq_getElem hkl) hr hrk (Ne.symm hki) hka hik).2 id (keysU_of hdk)).1
  have hnext0 : ∀ recs, F recs → ∀ r, recs[i]? = some r → ∀ a' w' m', RelM C (UL s ops.length (fun j => (listed.setIfInBounds i true).getD j false)) ((mkS s (fun i => listed.getD i false) ops recs).app o.dst r.1) a' w' m' → wpAny P .any ops.toArray (Qc C Q) fuel (listed.setIfInBounds i true) a' w' := by
   intro recs hFr r hr a' w' m' hR';obtain ⟨hlen, hind, hfin⟩ := hF recs hFr;refine ih (listed.setIfInBounds i true) recs hFr a' w' m' (by simpa using hsz) ?_ ?_ ?_
   ·have := (cntF_set (L := fun i => listed.getD i false) (L' := fun j => (listed.setIfInBounds i true).getD j false) (i := i) h0 (by simp only [hL']; simp) (fun j hj => by simp only [hL']; simp [hj]) ops.length).1 hil;omega
   ·intro k ok hk hLk d hdd;rw [hL'] at hLk ⊢;simp only [Bool.or_eq_true, beq_iff_eq] at hLk ⊢;rcases hLk with h | h
    ·exact .inl (hcl k ok hk h d hdd)
    subst h;rw [ho] at hk;obtain rfl : o = ok := by simpa using hk
    exact .inl (hd d hdd)
   have e1 : (fun j => (listed.setIfInBounds i true).getD j false) = (fun j => (fun k => listed.getD k false) j || j == i) := funext hL';refine hR'.weaken (by rw [ASt.n_app]; rfl) (fun t => .inr ?_) (fun id c hc => ?_) (fun j hj => hj)
   ·rw [ASt.get_app];show (getL t (goS (fun j => (listed.setIfInBounds i true).getD j false) 0 ops recs s.sl)).getD .dead = _;rw [e1, goS_more (L := fun k => listed.getD k false) (i := i) (r0 := r) ops recs 0 s.sl o (Nat.zero_le _) (by simpa using ho) (by simpa using hr) (fun j oj hj hij hLj hdj hdi => ?_)]
    ·by_cases hdt : o.dst = some t
     ·rw [if_pos hdt, if_pos hdt]; rfl
     rw [if_neg hdt, if_neg hdt]; rfl
    rw [Nat.zero_add] at hij hLj;have hjl := (List.getElem?_eq_some_iff.1 hj).1;obtain ⟨rj, hrj⟩ : ∃ rj, recs[j]? = some rj := ⟨_, List.getElem?_eq_getElem (by omega)⟩
    by_cases hja : j ∈ ancAt anc i
    ·have := anc_lt hanc hil hja; omega
    by_cases hij2 : i ∈ ancAt anc j
    ·rw [hdesc j hjl hij2] at hLj; cases hLj
    exact ((indep_of hind ho hj hr hrj (by omega) hja hij2).1 t hdj).2 hdi
   rw [ASt.chunk_app];have hc2 : (getL id (goC (fun j => (listed.setIfInBounds i true).getD j false) 0 ops recs s.ch)).getD none = some c := hc;rw [e1, goC_more (t := id) (L := fun k => listed.getD k false) (i := i) (r0 := r) ops recs 0 s.ch hlen.symm (Nat.zero_le _) (by simpa using hr) (fun j rj hrj hij hLj hdj => ?_)] at hc2
   ·cases hg : getL id r.1.ch with
    | some x => rw [hg] at hc2; simpa using hc2
    | none => rw [hg] at hc2; rw [Option.none_or] at hc2; exact hc2
   rw [Nat.zero_add] at hij hLj;have hjl : j < ops.length := by have := (List.getElem?_eq_some_iff.1 hrj).1; omega
   by_cases hja : j ∈ ancAt anc i
   ·have := anc_lt hanc hil hja; omega
   by_cases hij2 : i ∈ ancAt anc j
   ·rw [hdesc j hjl hij2] at hLj; cases hLj
   exact keysU_none ((indep_of hind ho (List.getElem?_eq_getElem hjl) hr hrj (by omega) hja hij2).2 id (keysU_of hdj)).2
  have hnext := hnext0 recs hFr r hr;have hU1 : ∀ k, k < 8 → UL s ops.length (fun i => listed.getD i false) (s.nx + 8 * i + k) := fun k hk => .inr ⟨i, hil, h0, by omega, by omega⟩
  have hU2 : ∀ j, UL s ops.length (fun j => (listed.setIfInBounds i true).getD j false) j → UL s ops.length (fun i => listed.getD i false) j ∧ (j < s.nx + 8 * i ∨ s.nx + 8 * i + 8 ≤ j) := by
   rintro j (hj | ⟨k, hk, hLk, h1, h2⟩)
   ·exact ⟨.inl hj, .inr (by omega)⟩
   have hLk' : (listed.getD k false || k == i) = false := by rw [← hL']; exact hLk
   simp only [Bool.or_eq_false_iff, beq_eq_false_iff_ne] at hLk';exact ⟨.inr ⟨k, hk, hLk'.1, h1, h2⟩, by omega⟩
  have hoa : ops.toArray[i]? = some o := by simpa using ho
  have hrun : NOp P r.2 (mkS s (fun k => memL k (ancAt anc i)) ops (recs.take i)) o (s.nx + 8 * i) r.1 → o.wp P a w (wpAny P .any ops.toArray (Qc C Q) fuel (listed.setIfInBounds i true)) (Qc C Q) := fun hn =>
   hn.run _ hagr.agr C _ _ a w m hR hU1 hU2 hdst _ _ hnext
  have hyield : ∀ j t b, ((ops[j]?).bind (·.dst)) = some t → Nat.blt t s.n = true → (mkS s (fun i => listed.getD i false) ops recs).get t = aT b → yielded ops.toArray a.tmps j = some b := by
   intro j t b h1 h2 h3;have := hR.sl t;rw [h3] at this;have hv := this.val_eq.1;have hlt : t < a.tmps.size := by rw [hR.sz]; simpa [mkS] using h2
   have h4 : a.tmps[t]? = some (.bool b) := by
    rw [Array.getElem?_eq_getElem hlt];rw [Array.getD_eq_getD_getElem?, Array.getElem?_eq_getElem hlt] at hv;simpa using hv
   simp [yielded, h1, h4]
  have hskip : r.1 = ⟨.und, []⟩ → wpAny P .any ops.toArray (Qc C Q) fuel (listed.setIfInBounds i true) (a.put o.dst undef) w := by
   intro hu;refine hnext _ _ m ?_;rw [hu];exact (hR.setSlot (x := .und) (v := undef) hdst .und).weaken rfl (fun _ => .inr rfl) (fun _ _ h => h) (fun j hj => (hU2 j hj).1)
  have hlook : ∀ j w t, o.guard = some (j, w) → ((ops[j]?).bind (·.dst)) = some t → t ∈ looksT ops o := by
   intro j w t h1 h2;refine List.mem_append_right _ ?_;rw [h1]; simp [h2]
  unfold wpOp;rw [hoa];simp only;rcases hst with hst | ⟨hg, T, hn, hT⟩
  rotate_left
  ·rw [if_pos (by simp [Region.wanted, hg])];refine .inl (hn.run _ hagr.agr C _ _ a w m hR hU1 hU2 hdst _ _ (fun u hu a' w' m' hR' => ?_));obtain ⟨R', hFR, hRi, hag⟩ := hT u hu
   have he : mkS s (fun i => listed.getD i false) ops recs = mkS s (fun i => listed.getD i false) ops R' := by
    have hlR := (hF R' hFR).1;have key : ∀ j, j < ops.length → listed.getD j false = true → recs[j]? = R'[j]? := fun j hj hL => (hag j (fun e => by rw [e, h0] at hL; cases hL) (fun hij => by rw [hdesc j hj hij] at hL; cases hL)).symm
    unfold mkS;rw [goS_agree ops recs R' 0 s.sl (by omega) (fun j hj hL => key j hj (by rwa [Nat.zero_add] at hL)), goC_agree ops recs R' 0 s.ch (by omega) (fun j hj hL => key j hj (by rwa [Nat.zero_add] at hL))]
   rw [he] at hR';exact hnext0 R' hFR _ hRi a' w' m' hR'
  cases hst with
  | free hg hn => rw [if_pos (by simp [Region.wanted, hg])]; exact .inl (hrun hn)
  | @yes j t b hg ht htn hs hn =>
   rw [if_pos (by simp [Region.wanted, hg, hyield j t b ht htn ((hagr.get t (hlook j b t hg ht)).trans hs)])];exact .inl (hrun hn)
  | @no j t b b' hg ht htn hs hb hu =>
   rw [if_neg (by simp [Region.wanted, hg, hyield j t b' ht htn ((hagr.get t (hlook j b t hg ht)).trans hs), hb])];exact hskip hu
  | @noU j t b hg ht hs hu =>
   have hux := hR.sl t;rw [(hagr.get t (hlook j b t hg ht)).trans hs] at hux
   have hy : yielded ops.toArray a.tmps j = none := by
    generalize hv : a.tmps.getD t undef = v at hux;cases hux;have ht' : ((ops.toArray[j]?).bind (·.dst)) = some t := by simpa using ht
    unfold yielded;rw [ht'];rw [Array.getD_eq_getD_getElem?] at hv;simp only [Option.bind_some];cases hq : a.tmps[t]? with
    | none => rfl
    | some v => rw [hq] at hv; simp only [Option.getD_some] at hv; subst hv; rfl
   rw [if_neg (by simp [Region.wanted, hg, hy])];exact hskip hu
inductive DX (P : Program) (ops : List Oper) (anc : List (List Nat)) (s : ASt) (Q : Exit → ASt → Prop) : List FRec → (List ORec → Prop) → Prop
 | fin {l : List FRec} {ps : List (Nat × Nat)} : Nat.beq l.length ops.length = true → coverOk ops.length anc ps = true → slotOk ops ps = true → idsF l ps = true → Q .normal (mkAll s ops.length l) → DX P ops anc s Q l (fun R => R = fwd l)
 | op {l : List FRec} {o : Oper} {ids : List Nat} {u : Upd} {F : List ORec → Prop} : ops[l.length]? = some o → StepOk P ops (mkF s ops.length (ancAt anc l.length) l) o ids (s.nx + 8 * l.length) u → dstOk o.dst s.n = true → DX P ops anc s Q ((l.length, o.dst, u, ids) :: l) F → DX P ops anc s Q l F
 | opX {l : List FRec} {o : Oper} {ids : List Nat} {ι : Type} {us : ι → Upd} {F : ι → List ORec → Prop} (x₀ : ι) : ops[l.length]? = some o → o.guard = none → NOpR P ids (mkF s ops.length (ancAt anc l.length) l) o (s.nx + 8 * l.length) (fun u => ∃ x, u = us x) → dstOk o.dst s.n = true → (∀ x, DX P ops anc s Q ((l.length, o.dst, us x, ids) :: l) (F x)) →
   (∀ x y R R', F x R → F y R' → ∀ j, l.length < j → l.length ∉ ancAt anc j → R'[j]? = R[j]?) → DX P ops anc s Q l (fun R => ∃ x, F x R)
theorem DX.ex {l : List FRec} {F : List ORec → Prop} (h : DX P ops anc s Q l F) : ∃ R, F R := by
 induction h with
 | fin => exact ⟨_, rfl⟩
 | op _ _ _ _ ih => exact ih
 | opX x₀ _ _ _ _ _ _ ih => obtain ⟨R, hR⟩ := ih x₀; exact ⟨R, x₀, hR⟩
theorem FOk.pre {ops : List Oper} {i : Nat} {d : Option Nat} {u : Upd} {ids : List Nat} {l : List FRec} : fwd l <+: fwd ((i, d, u, ids) :: l) := by rw [fwd_cons]; exact List.prefix_append _ _
theorem DX.facts {l : List FRec} {F : List ORec → Prop} (h : DX P ops anc s Q l F) : FOk ops l → ∀ R, F R → fwd l <+: R ∧ (R.length = ops.length ∧ indepOk ops anc R = true ∧ Q .normal (mkS s (fun _ => true) ops R)) ∧ ∀ i o r, l.length ≤ i → ops[i]? = some o → R[i]? = some r → dstOk o.dst s.n = true ∧ StepX P ops anc s F R i o r := by
 induction h with
 | @fin l ps h1 h2 h3 h4 h5 =>
  rintro hf R rfl;have hlen : l.length = ops.length := by simpa using h1
  refine ⟨List.prefix_rfl, ⟨by rw [fwd_len, hlen], indep_parts h2 h3 (idsF_ok hf hlen h3 h4), ?_⟩, fun i o r hi ho => by have := (List.getElem?_eq_some_iff.1 ho).1; omega⟩;have : mkS s (fun _ => true) ops (fwd l) = mkAll s ops.length l := by simp [mkS, mkAll, goS_A hf, goC_A hf]
  rw [this]; exact h5
 | @op l o ids u F h1 h2 h3 _ ih =>
  intro hf R hR;obtain ⟨g1, g2, g3⟩ := ih ⟨rfl, ⟨o, h1, rfl⟩, hf⟩ R hR;have hpre : fwd l <+: R := (FOk.pre (ops := ops)).trans g1;refine ⟨hpre, g2, fun i o' r hi ho hr => ?_⟩
  by_cases hi2 : l.length + 1 ≤ i
  ·exact g3 i o' r (by simpa using hi2) ho hr
  have : i = l.length := by omega
  subst this;rw [h1] at ho;obtain rfl : o = o' := by simpa using ho
  have hr2 : R[l.length]? = some (u, ids) := by
   obtain ⟨tl, rfl⟩ := g1;rw [fwd_cons, List.append_assoc, List.getElem?_append_right (by rw [fwd_len]; exact Nat.le_refl _), fwd_len]; simp
  rw [hr2] at hr;obtain rfl : (u, ids) = r := by simpa using hr
  refine ⟨h3, .inl ?_⟩
  have : R.take l.length = fwd l := by
   obtain ⟨tl, rfl⟩ := hpre;rw [List.take_append_of_le_length (by rw [fwd_len]; exact Nat.le_refl _), List.take_of_length_le (by rw [fwd_len]; exact Nat.le_refl _)]
  rw [this, show mkS s (fun k => memL k (ancAt anc l.length)) ops (fwd l) = mkF s ops.length (ancAt anc l.length) l by simp [mkS, mkF, goS_F _ hf, goC_F _ hf]];exact h2
 | @opX l o ids ι us F x₀ h1 h2 h3 h4 h5 h6 ih =>
  rintro hf R ⟨x, hR⟩;obtain ⟨g1, g2, g3⟩ := ih x ⟨rfl, ⟨o, h1, rfl⟩, hf⟩ R hR;have hpre : fwd l <+: R := (FOk.pre (ops := ops)).trans g1;refine ⟨hpre, g2, fun i o' r hi ho hr => ?_⟩
  by_cases hi2 : l.length + 1 ≤ i
  ·obtain ⟨q1, q2⟩ := g3 i o' r (by simpa using hi2) ho hr;refine ⟨q1, ?_⟩;rcases q2 with q2 | ⟨q3, T, q4, q5⟩
   ·exact .inl q2
   exact .inr ⟨q3, T, q4, fun u hu => by obtain ⟨R', k1, k2⟩ := q5 u hu; exact ⟨R', ⟨x, k1⟩, k2⟩⟩
  have : i = l.length := by omega
  subst this;rw [h1] at ho;obtain rfl : o = o' := by simpa using ho
  have hat : ∀ y R', F y R' → R'[l.length]? = some (us y, ids) := by
   intro y R' hy;obtain ⟨q1, _⟩ := ih y ⟨rfl, ⟨o, h1, rfl⟩, hf⟩ R' hy;obtain ⟨tl, rfl⟩ := q1;rw [fwd_cons, List.append_assoc, List.getElem?_append_right (by rw [fwd_len]; exact Nat.le_refl _), fwd_len]; simp
  rw [hat x R hR] at hr;obtain rfl : (us x, ids) = r := by simpa using hr
  refine ⟨h4, .inr ⟨h2, (fun u => ∃ y, u = us y), ?_, ?_⟩⟩
  ·have : R.take l.length = fwd l := by
    obtain ⟨tl, rfl⟩ := hpre;rw [List.take_append_of_le_length (by rw [fwd_len]; exact Nat.le_refl _), List.take_of_length_le (by rw [fwd_len]; exact Nat.le_refl _)]
   rw [this, show mkS s (fun k => memL k (ancAt anc l.length)) ops (fwd l) = mkF s ops.length (ancAt anc l.length) l by simp [mkS, mkF, goS_F _ hf, goC_F _ hf]];exact h3
  rintro _ ⟨y, rfl⟩;obtain ⟨R', hR'⟩ := (h5 y).ex;refine ⟨R', ⟨y, hR'⟩, hat y R' hR', fun j hj hnj => ?_⟩;rcases Nat.lt_trichotomy j l.length with hlt | heq | hgt
  ·have p1 := (ih y ⟨rfl, ⟨o, h1, rfl⟩, hf⟩ R' hR').1;have p2 : fwd l <+: R' := (FOk.pre (ops := ops)).trans p1;obtain ⟨t1, rfl⟩ := hpre;obtain ⟨t2, rfl⟩ := p2;rw [List.getElem?_append_left (by rw [fwd_len]; exact hlt), List.getElem?_append_left (by rw [fwd_len]; exact hlt)]
  ·exact absurd heq hj
  exact h6 x y R R' hR hR' j hgt hnj
theorem AC.drawnX {id : Nat} (hm : P.follows .mixedOrders = true) (anc : List (List Nat)) (hanc : ancOk ops anc = true) {F : List ORec → Prop} (h : DX P ops anc s Q [] F) : ACode P C (.region id ops.toArray true) Q s := by
 refine ⟨fun a w hR => ?_⟩;obtain ⟨m, hR⟩ := hR;obtain ⟨full, hfull⟩ := h.ex;have hfacts := h.facts trivial;refine wp_region_any hm ?_
 have hrep : ∀ i, (Array.replicate ops.toArray.size false).getD i false = false := fun i => by
  simp only [Array.getD_eq_getD_getElem?, Array.getElem?_replicate]
  split <;> rfl
 have e1 : (fun i => (Array.replicate ops.toArray.size false).getD i false) = (fun _ => false) := funext hrep;refine dr_anyX (F := F) (anc := anc) hanc (fun R hR => (hfacts R hR).2.1) (fun R hR i o r ho hr => (hfacts R hR).2.2 i o r (Nat.zero_le _) ho hr) ops.toArray.size _ full hfull a _ m (by simp) (by rw [e1, cntF_full _ (fun _ => rfl)]; simp) (fun i o _ h => by rw [hrep] at h; cases h) ?_;rw [e1]
 have hS : ∀ (os : List Oper) (rs : List ORec) (k : Nat) (x : List (Nat × AV)), goS (fun _ => false) k os rs x = x := by
  intro os
  induction os with
  | nil => intro rs k x; simp [goS]
  | cons o os ih => intro rs k x; cases rs <;> simp [goS, ih]
 have hC : ∀ (os : List Oper) (rs : List ORec) (k : Nat) (x : List (Nat × Option Chunk)), goC (fun _ => false) k os rs x = x := by
  intro os
  induction os with
  | nil => intro rs k x; simp [goC]
  | cons o os ih => intro rs k x; cases rs <;> simp [goC, ih]
 have := hR.drewN 1;refine RelM.weaken (s := s) (U := fun id => s.nx ≤ id) (w := { w with drawn := w.drawn + 1 }) this rfl (fun t => .inr ?_) (fun id c hc => ?_) (fun j hj => ?_)
 ·show (getL t (goS _ 0 ops full s.sl)).getD .dead = _;rw [hS]; rfl
 ·have h2 : (getL id (goC (fun _ => false) 0 ops full s.ch)).getD none = some c := hc;rw [hC] at h2; exact h2
 rcases hj with h | ⟨i, _, _, h1, _⟩
 ·show s.nx ≤ j; omega
 show s.nx ≤ j; omega
structure DG (P : Program) (ops : List Oper) (anc : List (List Nat)) (s : ASt) (Q : Exit → ASt → Prop) (rest : List Oper) (l : List FRec) (F : List ORec → Prop) : Prop where
 dx : ops.drop l.length = rest → DX P ops anc s Q l F
theorem drop_hd {rest : List Oper} {o : Oper} {k : Nat} (hr : ops.drop k = o :: rest) : ops[k]? = some o ∧ ops.drop (k + 1) = rest := by
 constructor
 ·have := congrArg (fun x => x[0]?) hr;simpa using this
 have := congrArg List.tail hr;simpa using this
theorem DG.fin {l : List FRec} {ps : List (Nat × Nat)} (n : Nat) (hn : Nat.beq ops.length n = true) (hl : Nat.beq l.length n = true) (h1 : coverOk n anc ps = true) (h2 : slotOk ops ps = true) (h3 : idsF l ps = true) (h : Q .normal (mkAll s n l)) : DG P ops anc s Q [] l (fun R => R = fwd l) := by
 refine ⟨fun _ => ?_⟩;have hn : ops.length = n := by simpa using hn
 subst hn;exact .fin hl h1 h2 h3 h
theorem DG.op {l : List FRec} {rest : List Oper} {o : Oper} {F : List ORec → Prop} (i : Nat) (row : List Nat) {ids : List Nat} {u : Upd} (n : Nat) (hi : Nat.beq l.length i = true) (hn : Nat.beq ops.length n = true) (hrow : ancAt anc i = row) (hst : StepOk P ops (mkF s n row l) o ids (s.nx + 8 * i) u) (hd : dstOk o.dst s.n = true) (h : DG P ops anc s Q rest ((i, o.dst, u, ids) :: l) F) : DG P ops anc s Q (o :: rest) l F := by
 refine ⟨fun hr => ?_⟩;have hi : l.length = i := by simpa using hi
 have hn : ops.length = n := by simpa using hn
 subst hi; subst hn; subst hrow;obtain ⟨h1, h2⟩ := drop_hd hr;exact .op h1 hst hd (h.dx h2)
theorem DG.opX {l : List FRec} {rest : List Oper} {o : Oper} {ι : Type} {us : ι → Upd} {F : ι → List ORec → Prop} (i : Nat) (row : List Nat) {ids : List Nat} (n : Nat) (x₀ : ι) (hi : Nat.beq l.length i = true) (hn : Nat.beq ops.length n = true) (hrow : ancAt anc i = row) (hg : o.guard = none) (hst : NOpR P ids (mkF s n row l) o (s.nx + 8 * i) (fun u => ∃ x, u = us x)) (hd : dstOk o.dst s.n = true)
  (h : ∀ x, DG P ops anc s Q rest ((i, o.dst, us x, ids) :: l) (F x)) (hs : ∀ x y R R', F x R → F y R' → ∀ j, i < j → i ∉ ancAt anc j → R'[j]? = R[j]?) : DG P ops anc s Q (o :: rest) l (fun R => ∃ x, F x R) := by
 refine ⟨fun hr => ?_⟩;have hi : l.length = i := by simpa using hi
 have hn : ops.length = n := by simpa using hn
 subst hi; subst hn; subst hrow;obtain ⟨h1, h2⟩ := drop_hd hr;exact .opX x₀ h1 hg hst hd (fun x => (h x).dx h2) hs
theorem DG.caseD {l : List FRec} {rest : List Oper} {F : List ORec → Prop} (j : Nat) {p : Prop} [Decidable p] (h : getF j l = some (aT (decide p))) (hp : p) (hT : DG P ops anc s Q rest (setF j (aT true) l) F) : DG P ops anc s Q rest l F := by
 rwa [setF_same (by rw [h]; simp [hp])] at hT
theorem AC.drawnG {id : Nat} (hm : P.follows .mixedOrders = true) (anc : List (List Nat)) (hanc : ancOk ops anc = true) {F : List ORec → Prop} (h : DG P ops anc s Q ops [] F) : ACode P C (.region id ops.toArray true) Q s := AC.drawnX hm anc hanc (h.dx rfl)
def behindAll (anc : List (List Nat)) (i n : Nat) : Bool := (List.range n).all fun j => Nat.ble j i || memL i (ancAt anc j)
theorem behind_same {ι : Type} {F : ι → List ORec → Prop} {n i : Nat} (hlen : ∀ x R, F x R → R.length = n) (h : behindAll anc i n = true) : ∀ x y R R', F x R → F y R' → ∀ j, i < j → i ∉ ancAt anc j → R'[j]? = R[j]? := by
 intro x y R R' h1 h2 j hj hnj;rcases Nat.lt_or_ge j n with hlt | hge
 ·simp only [behindAll, List.all_eq_true, List.mem_range, Bool.or_eq_true] at h;rcases h j hlt with g | g
  ·have : j ≤ i := by simpa using g
   omega
  exact absurd (memL_iff.1 g) hnj
 rw [List.getElem?_eq_none (by rw [hlen y R' h2]; exact hge), List.getElem?_eq_none (by rw [hlen x R h1]; exact hge)]
end
section
variable {P : Program} [PT P] {C : Ctx} {Q : Exit → ASt → Prop} {s : ASt} {ops : List Oper} {anc : List (List Nat)}
def DE (P : Program) (ops : List Oper) (anc : List (List Nat)) (s : ASt) (Q : Exit → ASt → Prop) (rest : List Oper) (l : List FRec) : Prop := ∃ F : List ORec → Prop, DG P ops anc s Q rest l F ∧ ∀ R, F R → R.length = ops.length
theorem DE.fin {l : List FRec} {ps : List (Nat × Nat)} (n : Nat) (hn : Nat.beq ops.length n = true) (hl : Nat.beq l.length n = true) (h1 : coverOk n anc ps = true) (h2 : slotOk ops ps = true) (h3 : idsF l ps = true) (h : Q .normal (mkAll s n l)) : DE P ops anc s Q [] l :=
 ⟨_, DG.fin n hn hl h1 h2 h3 h, fun R e => by
  subst e;rw [fwd_len];have h1 : ops.length = n := by simpa using hn
  have h2 : l.length = n := by simpa using hl
  omega⟩
theorem DE.op {l : List FRec} {rest : List Oper} {o : Oper} (i : Nat) (row : List Nat) {ids : List Nat} {u : Upd} (n : Nat) (hi : Nat.beq l.length i = true) (hn : Nat.beq ops.length n = true) (hrow : ancAt anc i = row) (hst : StepOk P ops (mkF s n row l) o ids (s.nx + 8 * i) u) (hd : dstOk o.dst s.n = true) (h : DE P ops anc s Q rest ((i, o.dst, u, ids) :: l)) : DE P ops anc s Q (o :: rest) l := by
 obtain ⟨F, h1, h2⟩ := h;exact ⟨F, DG.op i row n hi hn hrow hst hd h1, h2⟩
theorem DE.opX {l : List FRec} {rest : List Oper} {o : Oper} {ι : Type} {us : ι → Upd} (i : Nat) (row : List Nat) {ids : List Nat} (n : Nat) (x₀ : ι) (hi : Nat.beq l.length i = true) (hn : Nat.beq ops.length n = true) (hrow : ancAt anc i = row) (hg : o.guard = none) (hst : NOpR P ids (mkF s n row l) o (s.nx + 8 * i) (fun u => ∃ x, u = us x)) (hd : dstOk o.dst s.n = true) (hb : behindAll anc i n = true)
  (h : ∀ x, DE P ops anc s Q rest ((i, o.dst, us x, ids) :: l)) : DE P ops anc s Q (o :: rest) l := by
 have hn' : ops.length = n := by simpa using hn
 refine ⟨fun R => ∃ x, Classical.choose (h x) R, DG.opX i row n x₀ hi hn hrow hg hst hd (fun x => (Classical.choose_spec (h x)).1) (behind_same (fun x R hR => by rw [← hn']; exact (Classical.choose_spec (h x)).2 R hR) hb), fun R ⟨x, hR⟩ => (Classical.choose_spec (h x)).2 R hR⟩
theorem AC.drawnE {id : Nat} (hm : P.follows .mixedOrders = true) (anc : List (List Nat)) (hanc : ancOk ops anc = true) (h : DE P ops anc s Q ops []) : ACode P C (.region id ops.toArray true) Q s := by
 obtain ⟨F, h1, _⟩ := h;exact AC.drawnG hm anc hanc h1
end
theorem RelM.raw {U U' : Nat → Prop} {s : ASt} {a : Act} {w : World} {m : Nat → Option (Option Nat × Nat)} {C : Ctx} (hR : RelM C U s a w m) (j g : Nat) {id n e sz : Nat} {els els' : List (List DV)} (hs : s.get j = .own id n) (hc : s.chunk id = some (.arr e sz els)) (hn : n ≤ els.length) (he : els.take n = els') (hfl : ∀ cs, cs ∈ els → ∀ d, d ∈ cs → d.flat) (hg : U g) (hU' : ∀ i, U' i → U i ∧ i ≠ g) :
  ∃ v S m', RelM C U' { s with sl := (j, .d (.val v)) :: s.sl, ch := (g, some (.pred S fun w => TRep w S (.view e sz els') v)) :: (id, none) :: s.ch } a w m' := by
 subst he;have hv := hR.sl j;rw [hs] at hv;obtain ⟨p, hp, hC, hloc⟩ := hR.ch id _ hc
 have key : ∃ S, (∀ b, S b → occ p (.arr e sz els) b) ∧ TRep w S (.view e sz (els.take n)) (a.tmps.getD j undef) ∧ okV (a.tmps.getD j undef) := by
  generalize a.tmps.getD j undef = v at hv;cases hv with
  | own hq h0 =>
   rename_i cap b;rw [hp] at hq;obtain rfl : p = (b, cap) := by simpa using hq
   cases hC with
   | nil h =>
    obtain rfl : n = 0 := by simpa using hn
    exact ⟨fun _ => False, fun b hb => hb.elim, .nil (fun _ h => h), trivial⟩
   | arr hb hf hsz hl hm h0' hrow hel =>
    rename_i b arr fz;have hlen : (els.take n).length = n := by simp; omega
    have hsub : ∀ (i : Nat) cs, (els.take n)[i]? = some cs → els[i]? = some cs := by
     intro i cs hi;rw [List.getElem?_take] at hi
     split at hi
     ·exact hi
     cases hi
    have := TRep.view (w := w) (S := fun k => k = b) (e := e) (sz := sz) (els := els.take n) (b := b) (cap := cap) (fun _ _ => False) hb hf hsz (by omega) hm h0' (fun i cs hi => hrow i cs (hsub i cs hi)) (fun i cs q d hi hj => ?_) (fun _ h => h) (fun _ _ _ h => h.elim) (fun k => ⟨fun h => .inl h, fun h => h.elim (fun h => h) fun ⟨_, _, h⟩ => h.elim⟩)
    ·rw [hlen] at this;exact ⟨_, fun k hk => by subst hk; exact .inl rfl, this, trivial⟩
    have h1 := hel i cs q d (hsub i cs hi) hj;have h2 := hfl cs (List.mem_of_getElem? (hsub i cs hi)) d (List.mem_of_getElem? hj);cases d with
    | val u =>
     generalize arr.getD (i * sz + q) undef = u' at h1 ⊢;cases h1 with
     | val h3 => exact .val (fun _ h => h) h3
    | _ => exact h2.elim
 obtain ⟨S, hS, hT, hok⟩ := key;refine ⟨a.tmps.getD j undef, S, _, hR.repack (U' := U') [(g, .pred S fun w => TRep w S (.view e sz (els.take n)) (a.tmps.getD j undef))] (fun _ => (none, 0)) [id] rfl (fun i c h => ?_) (fun i c h => .inl ?_) (fun i hi => ⟨(hU' i hi).1, ?_⟩) (fun i c b h hb => ?_) (fun i i' c c' b h h' _ _ => ?_) (fun F' _ i c h => ?_) (fun hle F' hF i => ?_)⟩
 ·change (getL i (_ :: _ :: _)).getD none = _ at h
  rw [getL_cons] at h;rw [getL_cons]
  split at h
  ·rename_i ei; rw [if_pos ei]; exact .inl (by simpa using h)
  rename_i ei;rw [if_neg ei];rw [getL_cons] at h
  split at h
  ·cases h
  rename_i ei'; exact .inr ⟨rfl, by simpa using ei', h⟩
 ·obtain ⟨rfl, _⟩ := getL_one h; exact hg
 ·rw [getL_cons, if_neg (hU' i hi).2]; rfl
 ·obtain ⟨rfl, rfl⟩ := getL_one h;exact ⟨id, _, p, by simp, hc, hp, hS b (occ_pred' hb)⟩
 ·rw [(getL_one h).1, (getL_one h').1]
 ·obtain ⟨rfl, rfl⟩ := getL_one h;exact .pred hT (fun w w' hk h => h.turn hk) hT.lt
 change ARep _ _ _ ((getL i (_ :: _)).getD .dead) _
 rw [getL_cons]
 by_cases hij : i = j
 ·subst hij; rw [if_pos rfl]; exact .d (.val hok)
 rw [if_neg hij]; exact (hR.sl i).turn hle (fun k hk _ => ⟨hF k hk, rfl⟩)
section
variable {P : Program} [PT P] {s : ASt} {dst : Option Nat} {ty : Nat} {pos : String} {af : Array Edge} {gd : Option (Nat × Bool)} {t f : Nat} {x y : Operand}
theorem h_appendRaw {i : Nat} {e e2 tx n bt n2 bt2 sz k : Nat} {zs zs2 : List ZK} {te : TS} {els new : List (List DV)} {ids ids2 : List Nat} {gone : List (Nat × Option Chunk)} (ht : PT.ty P t = some ⟨.slice e, n, bt, zs⟩) (htx : PT.ty P tx = some ⟨.slice e2, n2, bt2, zs2⟩) (he : PT.ty P e = some te) (hs : te.size = sz) (hz0 : te.zero.length = te.size) (h0 : Nat.beq sz 0 = false)
  (hto : AppTo s x e sz els ids gone) (harg : AppArg s y sz new ids2) (hk : els.length + new.length = k) (hml : k ≤ 1125899906842624) (hbytes : k * te.bytes ≤ 140737488355328) (hnew : gone = [] → 0 < new.length) (hfl : ∀ cs, cs ∈ els ++ new → ∀ d, d ∈ cs → d.flat) :
  NOpR P (ids ++ ids2) s ⟨some i, .call { callee := .builtin .append, args := #[x, y], argTypes := #[t, tx] }, ty, pos, af, gd⟩ f (fun u => ∃ z : Value × (Nat → Prop), u = ⟨.d (.val z.1), (f + 1, some (.pred z.2 fun w => TRep w z.2 (.view e sz (els ++ new)) z.1)) :: (f, none) :: gone⟩) := by
 refine ⟨fun s' ha C U U' a w m hR hU hU' hd K Q hK => ?_⟩;have hUf : U f := by simpa using hU 0 (by omega)
 have hUg : U (f + 1) := hU 1 (by omega);obtain ⟨v, w', m', hrun, hR1⟩ := append_run (dst := some i) (ty := ty) (pos := pos) (af := af) (gd := gd) ht htx he hs hz0 h0 hto harg hk hml hbytes hnew s' ha C U (fun j => U' j ∨ j = f + 1) a w m hR hUf (fun j hj => by rcases hj with h | rfl; exact ⟨(hU' j h).1, by have := (hU' j h).2; omega⟩; exact ⟨hUg, by omega⟩) hd;obtain ⟨v2, S, m2, hR2⟩ := hR1.raw (U' := U') i (f + 1) (id := f) (n := k) (e := e) (sz := sz) (els := els ++ new) (els' := els ++ new) (by rw [ASt.get_app, if_pos rfl]) (by rw [ASt.chunk_app]; simp [getL_cons]) (by rw [List.length_append]; omega) (List.take_of_length_le (by rw [List.length_append]; omega)) hfl (.inr rfl) (fun j hj => ⟨.inl hj, by have := (hU' j hj).2; omega⟩);unfold Oper.wp;rw [hrun];refine hK _ ⟨(v2, S), rfl⟩ _ _ m2 (hR2.weaken rfl (fun j => .inr ?_) (fun id c hc => ?_) (fun _ h => h))
 ·rw [ASt.get_app];simp only [ASt.app, ASt.get, getL_cons, Option.some.injEq]
  by_cases hj : j = i
  ·subst hj; simp
  rw [if_neg hj, if_neg (Ne.symm hj), if_neg hj]
 rw [ASt.chunk_app] at hc;simp only [ASt.app, ASt.chunk, getL_cons, List.cons_append, getL_append];simp only [getL_cons] at hc
 by_cases h1 : id = f + 1
 ·subst h1; simp at hc ⊢; exact hc
 rw [if_neg h1] at hc ⊢
 by_cases h2 : id = f
 ·subst h2; simp at hc
 rw [if_neg h2] at hc ⊢;rw [if_neg h2];cases hg : getL id gone with
 | none => rw [hg] at hc; exact hc
 | some o => rw [hg] at hc; simp only at hc; subst hc; rfl
end
end Go.Proofs.YtknfdlakkbmdcaaGreat
