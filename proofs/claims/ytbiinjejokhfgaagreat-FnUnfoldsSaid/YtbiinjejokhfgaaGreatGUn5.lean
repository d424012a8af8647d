/- Contracts of the functions of the program and of the reference, each proved by a walk through its code. -/
import Derived.Sort.Grow
import Derived.Shelf.Sort.Plain
import Derived.Shelf.Slices.In.SortNone
import Derived.Test.YtbiinjejokhfgaaGreatRows
import Derived.Test.YtbiinjejokhfgaaGreatGUn4
set_option linter.all false
set_option maxRecDepth 20000
namespace Go.Proofs.YtbiinjejokhfgaaGreat
open Go.RowKit
inductive BL1 (ids : List Nat) (s : ASt) : DV → AV → Prop
 | d {x : DV} : BL1 ids s x (.d x)
 | nil {e sz : Nat} : BL1 ids s (.view e sz []) (.d (.val (.slice none 0 0)))
 | own {id n e sz : Nat} {els els' : List (List DV)} : ids.contains id = true → s.chunk id = some (.arr e sz els) → n ≤ els.length → els.take n = els' → BL1 ids s (.view e sz els') (.own id n)
 | pred {id : Nat} {x : DV} {v : Value} {S : Nat → Prop} {K : World → Prop} : ids.contains id = true → s.chunk id = some (.pred S K) → (∀ w, K w → DRep S w x v) → BL1 ids s x (.d (.val v))
inductive BLs (ids : List Nat) (s : ASt) : List DV → List AV → Prop
 | nil : BLs ids s [] []
 | cons {d : DV} {c : AV} {ds : List DV} {cs : List AV} : BL1 ids s d c → BLs ids s ds cs → BLs ids s (d :: ds) (c :: cs)
inductive BP (ids : List Nat) (s : ASt) : DV → AV → Prop
 | of {x : DV} {y : AV} : BL1 ids s x y → BP ids s x y
 | ptr {id t : Nat} {cs : List AV} {ds : List DV} : ids.contains id = true → s.chunk id = some (.cells t cs) → BLs ids s ds cs → BP ids s (.ref ds) (.ptr id 0)
inductive BPs (ids : List Nat) (s : ASt) : List DV → List AV → Prop
 | nil : BPs ids s [] []
 | cons {d : DV} {c : AV} {ds : List DV} {cs : List AV} : BP ids s d c → BPs ids s ds cs → BPs ids s (d :: ds) (c :: cs)
theorem BPs.get {ids : List Nat} {s : ASt} {ds : List DV} {cs : List AV} (h : BPs ids s ds cs) : ds.length = cs.length ∧ ∀ (i : Nat) c, cs[i]? = some c → ∃ d, ds[i]? = some d ∧ BP ids s d c := by
 induction h with
 | nil => exact ⟨rfl, fun i c h => by simp at h⟩
 | cons h _ ih =>
  refine ⟨by simp [ih.1], fun i c hc => ?_⟩;cases i with
  | zero => simp at hc; subst hc; exact ⟨_, rfl, h⟩
  | succ i => simpa using ih.2 i c (by simpa using hc)
inductive BL (ids : List Nat) (s : ASt) : AV → AV → Prop
 | cloB {f : FuncId} {ds : List DV} {cs : List AV} : BPs ids s ds cs → BL ids s (.clo f (ds.map .d)) (.clo f cs)
 | of {x : DV} {y : AV} : BL1 ids s x y → BL ids s (.d x) y
 | clo {f : FuncId} {ds : List DV} : BL ids s (.clo f (ds.map .d)) (.clo f (ds.map .d))
 | agg {ds : List DV} : BL ids s (.agg (ds.map .d)) (.agg (ds.map .d))
 | ptr {id t : Nat} {cs : List AV} {ds : List DV} : ids.contains id = true → s.chunk id = some (.cells t cs) → BLs ids s ds cs → BL ids s (.d (.ref ds)) (.ptr id 0)
 | aggs {cs : List AV} {ds : List DV} : BLs ids s ds cs → BL ids s (.agg (ds.map .d)) (.agg cs)
inductive BAs (ids : List Nat) (s : ASt) : List AV → List AV → Prop
 | nil : BAs ids s [] []
 | cons {x y : AV} {xs ys : List AV} : BL ids s x y → BAs ids s xs ys → BAs ids s (x :: xs) (y :: ys)
theorem BLs.get {ids : List Nat} {s : ASt} {ds : List DV} {cs : List AV} (h : BLs ids s ds cs) : ds.length = cs.length ∧ ∀ (i : Nat) d, ds[i]? = some d → ∃ c, cs[i]? = some c ∧ BL1 ids s d c := by
 induction h with
 | nil => exact ⟨rfl, fun i d h => by simp at h⟩
 | cons h _ ih =>
  refine ⟨by simp [ih.1], fun i d hd => ?_⟩;cases i with
  | zero => simp at hd; subst hd; exact ⟨_, rfl, h⟩
  | succ i => simpa using ih.2 i d (by simpa using hd)
theorem BAs.get {ids : List Nat} {s : ASt} {xs ys : List AV} (h : BAs ids s xs ys) : xs.length = ys.length ∧ ∀ (i : Nat) x, xs[i]? = some x → ∃ y, ys[i]? = some y ∧ BL ids s x y := by
 induction h with
 | nil => exact ⟨rfl, fun i d h => by simp at h⟩
 | cons h _ ih =>
  refine ⟨by simp [ih.1], fun i d hd => ?_⟩;cases i with
  | zero => simp at hd; subst hd; exact ⟨_, rfl, h⟩
  | succ i => simpa using ih.2 i d (by simpa using hd)
mutual
def AV.flat : AV → Bool
 | .d (.val _) => true
 | .tup cs => AV.flatL cs
 | .agg cs => AV.flatL cs
 | _ => false
def AV.flatL : List AV → Bool
 | [] => true
 | c :: cs => c.flat && AV.flatL cs
end
theorem AV.flatL_get : ∀ {cs : List AV}, AV.flatL cs = true → ∀ (i : Nat) c, cs[i]? = some c → c.flat = true
 | [], _, i, c, h => by simp at h
 | c :: cs, hf, i, c', h => by
  simp only [AV.flatL, Bool.and_eq_true] at hf;cases i with
  | zero => simp at h; subst h; exact hf.1
  | succ i => exact AV.flatL_get hf.2 i c' (by simpa using h)
theorem ARep.flat {m m' : Nat → Option (Option Nat × Nat)} {F F' : Nat → Prop} {w w' : World} {x : AV} {v : Value} (h : ARep m F w x v) : x.flat = true → ARep m' F' w' x v := by
 induction h with
 | d h => intro hf; rename_i x v; cases x with
  | val u => exact .d (h.flat trivial)
  | _ => simp [AV.flat] at hf
 | agg h1 _ h3 ih => intro hf; exact .agg h1 (fun i c hc => ih i c hc (AV.flatL_get (by simpa [AV.flat] using hf) i c hc)) h3
 | tup h1 _ ih => intro hf; exact .tup h1 (fun i c hc => ih i c hc (AV.flatL_get (by simpa [AV.flat] using hf) i c hc))
 | _ => intro hf; simp [AV.flat] at hf
section
variable {P : Program} [PT P]
variable {s : ASt} {dst : Option Nat} {ty : Nat} {pos : String} {af : Array Edge} {gd : Option (Nat × Bool)} {f : Nat}
theorem BL1.rep {C : Ctx} {U : Nat → Prop} {ids : List Nat} {s' : ASt} {a : Act} {w : World} {m : Nat → Option (Option Nat × Nat)} (hR : RelM C U s' a w m) (hch : ∀ id, id ∈ ids → s'.chunk id = s.chunk id) {F : Nat → Prop} (hF : ∀ k, k < w.heap.size → F k) {x : DV} {y : AV} {v : Value} (h : BL1 ids s x y) (hy : ARep m (Fz C m s' w) w y v) : DRep F w x v := by
 have hFz : ∀ q, Fz C m s' w q → F q := fun q hq => hF q hq.2.1
 cases h with
 | d => cases hy with | d h => exact h.mono hFz
 | nil => cases hy with | d h => cases h; exact .nil
 | @own id n e sz els els' hid hc hn he =>
  subst he;have hc' : s'.chunk id = some (.arr e sz els) := by rw [hch id (by simpa using hid)]; exact hc
  obtain ⟨p, hp, hr, _⟩ := hR.ch id _ hc';exact own_view hy hp hr hn hFz (fun b hb => hF b (hr.lt (.inl hb)))
 | @pred id _ u S K hid hc hK =>
  have hc' : s'.chunk id = some (.pred S K) := by rw [hch id (by simpa using hid)]; exact hc
  obtain ⟨p, hp, hr, _⟩ := hR.ch id _ hc';have hv : v = u := by cases hy with | d h => cases h; rfl
  subst hv;cases hr with
  | pred h1 h2 h3 => exact (hK w h1).mono fun k hk => hF k (h3 k hk)
theorem BP.rep {C : Ctx} {U : Nat → Prop} {ids : List Nat} {s' : ASt} {a : Act} {w : World} {m : Nat → Option (Option Nat × Nat)} (hR : RelM C U s' a w m) (hch : ∀ id, id ∈ ids → s'.chunk id = s.chunk id) {F : Nat → Prop} (hF : ∀ k, k < w.heap.size → F k) {x : DV} {y : AV} {v : Value} (h : BP ids s x y) (hy : ARep m (Fz C m s' w) w y v) : DRep F w x v := by
 have hFz : ∀ q, Fz C m s' w q → F q := fun q hq => hF q hq.2.1
 cases h with
 | of h => exact h.rep hR hch hF hy
 | ptr hid hc hcs =>
  rename_i id t cs ds;have hc' : s'.chunk id = some (.cells t cs) := by rw [hch id (by simpa using hid)]; exact hc
  cases hy with
  | ptr hp =>
   obtain ⟨hl, hg⟩ := hcs.get;cases hR.chunkAt hc' hp with
   | cells hb hs hv h1 =>
    refine .ref (hF _ (lt_of_block hb)) hb (by omega) (fun j d hd => ?_);obtain ⟨c, hc, hdc⟩ := hg j d hd;rw [Nat.zero_add];exact hdc.rep hR hch hF (hv j c hc)
theorem BL.rep {C : Ctx} {U : Nat → Prop} {ids : List Nat} {s' : ASt} {a : Act} {w : World} {m m0 : Nat → Option (Option Nat × Nat)} (hR : RelM C U s' a w m) (hch : ∀ id, id ∈ ids → s'.chunk id = s.chunk id) {F : Nat → Prop} (hF : ∀ k, k < w.heap.size → F k) {x y : AV} {v : Value} (h : BL ids s x y) (hy : ARep m (Fz C m s' w) w y v) : ARep m0 F w x v := by
 have hFz : ∀ q, Fz C m s' w q → F q := fun q hq => hF q hq.2.1
 have hds : ∀ (ds : List DV) (i : Nat) c v, (ds.map AV.d)[i]? = some c → ARep m (Fz C m s' w) w c v → ARep m0 F w c v := by
  intro ds i c v hc hv;rw [List.getElem?_map, Option.map_eq_some_iff] at hc;obtain ⟨d, _, rfl⟩ := hc;cases hv with | d h => exact .d (h.mono hFz)
 cases h with
 | cloB hcs =>
  obtain ⟨hl, hg⟩ := hcs.get;cases hy with
  | clo h1 h2 =>
   refine .clo (by rw [h1, List.length_map, hl]) (fun i c hc => ?_);rw [List.getElem?_map, Option.map_eq_some_iff] at hc;obtain ⟨d, hd, rfl⟩ := hc;have hi : i < _ := (List.getElem?_eq_some_iff.1 hd).1;obtain ⟨d', hd', hb⟩ := hg i _ (List.getElem?_eq_getElem (by omega));rw [hd] at hd';cases hd';exact .d (hb.rep hR hch hF (h2 i _ (List.getElem?_eq_getElem (by omega))))
 | of h => exact .d (h.rep hR hch hF hy)
 | clo => cases hy with | clo h1 h2 => exact .clo h1 (fun i c hc => hds _ i c _ hc (h2 i c hc))
 | agg => cases hy with | agg h1 h2 h3 => exact .agg h1 (fun i c hc => hds _ i c _ hc (h2 i c hc)) h3
 | aggs hcs =>
  obtain ⟨hl, hg⟩ := hcs.get;cases hy with
  | agg h1 h2 h3 =>
   refine .agg (by rw [h1, List.length_map, hl]) (fun i c hc => ?_) h3;rw [List.getElem?_map, Option.map_eq_some_iff] at hc;obtain ⟨d, hd, rfl⟩ := hc;obtain ⟨c', hc', hdc⟩ := hg i d hd;exact .d (hdc.rep hR hch hF (h2 i c' hc'))
 | ptr hid hc hcs =>
  rename_i id t cs ds;have hc' : s'.chunk id = some (.cells t cs) := by rw [hch id (by simpa using hid)]; exact hc
  cases hy with
  | ptr hp =>
   obtain ⟨hl, hg⟩ := hcs.get;cases hR.chunkAt hc' hp with
   | cells hb hs hv h1 =>
    refine .d (.ref (hF _ (lt_of_block hb)) hb (by omega) (fun j d hd => ?_));obtain ⟨c, hc, hdc⟩ := hg j d hd;rw [Nat.zero_add];exact hdc.rep hR hch hF (hv j c hc)
theorem h_borrow (ids : List Nat) {g : FuncId} {caps ys ars : List AV} {fx : Operand} {xs : Array Operand} {ats : Array TypeId} {r : AV} (hen : Enters P g) (hf : s.ev fx = .clo g caps) (hys : xs.toList.map s.ev ++ caps = ys)
  (hspec : ASpec P g ars [] (Pure1 r)) (hlead : BAs ids s ars ys) (hr : r.flat = true) :
  NOp P ids s ⟨dst, .call { callee := .value fx, args := xs, argTypes := ats }, ty, pos, af, gd⟩ f ⟨r, []⟩ := by
 refine ⟨fun s' ha C U U' a w m hR hU hU' hd K Q hK => ?_⟩;have hfx := hR.ev fx;rw [ha.2.1 fx (by simp [Op.operands, Call.operands]), hf] at hfx;generalize hfv : a.eval fx = fv at hfx;cases hfx with
 | clo hc1 hc2 =>
  rename_i cv
  have hrun : (execOp a.eval ⟨dst, .call { callee := .value fx, args := xs, argTypes := ats }, ty, pos, af, gd⟩).run P w = .ok (.enter g (xs.map a.eval ++ cv)) w := by
   simp [execOp, resolve, hfv, Deferred.ofValue, invoke, hen (xs.map a.eval ++ cv) w]
  obtain ⟨hl1, hl2⟩ := hlead.get
  have harg : ∀ (i : Nat) y, ys[i]? = some y → ARep m (Fz C m s' w) w y ((xs.map a.eval ++ cv).getD i undef) := by
   intro i y hy;rw [← hys] at hy
   by_cases hi : i < xs.size
   ·rw [List.getElem?_append_left (by simpa using hi), List.getElem?_map, Option.map_eq_some_iff] at hy;obtain ⟨x, hx, rfl⟩ := hy;have hx' : xs[i]? = some x := by simpa using hx
    have := hR.ev x;rw [ha.2.1 x (by simp only [Op.operands, Call.operands, Array.mem_append]; exact .inr (Array.mem_of_getElem? hx'))] at this
    have e : (xs.map a.eval ++ cv).getD i undef = a.eval x := by
     have hxi : xs[i] = x := (Array.getElem?_eq_some_iff.1 hx').2;simp [Array.getD_eq_getD_getElem?, Array.getElem?_append, hi, hxi]
    rw [e]; exact this
   rw [List.getElem?_append_right (by simpa using Nat.le_of_not_lt hi)] at hy;have := hc2 _ y hy
   have e : (xs.map a.eval ++ cv).getD i undef = cv.getD (i - xs.size) undef := by
    simp [Array.getD_eq_getD_getElem?, Array.getElem?_append, hi]
   rw [e]; simpa using this
  have hcall := hspec w (fun _ => none) (fun k => k < w.heap.size) (xs.map a.eval ++ cv) (fun k hk => ⟨hk, fun id c p hc => by simp [getL] at hc⟩) ?_ ?_ (fun id c hc => by simp [getL] at hc) (fun id id' c c' p p' b hc => by simp [getL] at hc) (fun id _ => rfl)
  ·unfold Oper.wp;rw [hrun];simp only [Oper.upon];refine Calls.mono hcall ?_;rintro e w' ⟨v, r', chs', m1, F1, rfl, ⟨rfl, rfl⟩, -, -, -, ⟨f1, f2, f3, f4, f5⟩, hv, -, -⟩;have hold : ∀ k, k < w.heap.size → w'.heap[k]? = w.heap[k]? := fun k hk => f5 k hk (fun id c p hc => by simp [getL] at hc)
   refine hK _ _ m (hR.step hd (MLe.refl m) (fun j hj => hR.un j (hU' j hj).1) ?_ f4 (fun k hk => ⟨fun id c p hc => by simp [getL] at hc, hold k hk.2.1⟩) (fun id c p b h0 h1 h2 h3 => ?_) (fun F' hF hF2 => ⟨hv.flat hr, fun id c hc => by simp [getL] at hc⟩) (fun id id' c c' p p' b hc => by simp [getL] at hc))
   ·refine ⟨f1.trans hR.fr.os, f2.trans hR.fr.tape, f3.trans hR.fr.output, Nat.le_trans hR.fr.size f4, fun k hk hn => ?_⟩;rw [hold k (Nat.lt_of_lt_of_le hk hR.fr.size)];exact hR.fr.block k hk hn
   refine hold b ?_;obtain ⟨q, hq, hr', _⟩ := hR.ch id c h1;rw [h2] at hq;obtain rfl : p = q := by simpa using hq
   exact hr'.lt h3
  ·have : ys.length = xs.size + caps.length := by rw [← hys]; simp
   simp only [Array.size_append, Array.size_map];omega
  intro i x hx;obtain ⟨y, hy, hxy⟩ := hl2 i x hx;exact hxy.rep hR ha.2.2 (fun k hk => hk) (harg i y hy)
theorem Weak.freezeRef {C : Ctx} (i : Nat) {id t : Nat} {ds : List DV} (hs : s.get i = .ptr id 0) (hc : s.chunk id = some (.cells t (ds.map .d))) : Weak C s { s with sl := (i, .d (.ref ds)) :: s.sl, ch := (id, none) :: s.ch } := by
 refine ⟨?_⟩;rintro a w ⟨m, hR⟩
 have hch : ∀ j c, (getL j ((id, none) :: s.ch)).getD none = some c → j ≠ id ∧ s.chunk j = some c := by
  intro j c h;rw [getL_cons] at h
  split at h
  ·simp at h
  rename_i e; exact ⟨e, h⟩
 have hF : ∀ q, Fz C m s w q → Fz C m { s with sl := (i, .d (.ref ds)) :: s.sl, ch := (id, none) :: s.ch } w q := fun q hq => ⟨hq.1, hq.2.1, fun j c p h1 h2 => hq.2.2 j c p (hch j c h1).2 h2⟩
 refine ⟨m, hR.fr, hR.fin, hR.sz, fun j => ?_, fun j c h1 => ?_, fun j j' c c' p p' h1 h2 hp hp' b hb hb' => hR.inj j j' c c' p p' (hch j c h1).2 (hch j' c' h2).2 hp hp' b hb hb', hR.un, hR.defers, hR.m0, hR.m0k⟩
 ·show ARep _ _ _ ((getL j ((i, .d (.ref ds)) :: s.sl)).getD .dead) _;rw [getL_cons]
  by_cases hj : j = i
  ·subst hj;rw [if_pos rfl];have hv := hR.sl j;rw [hs] at hv;generalize a.tmps.getD j undef = v at hv;simp only [Option.getD_some];cases hv with
   | ptr hp =>
    rename_i b cap;have hC := hR.chunkAt hc hp;cases hC with
    | cells hb hsz hv h1 =>
     obtain ⟨q, hq, hr, hloc⟩ := hR.ch id _ hc;rw [hp] at hq;obtain rfl : (some b, cap) = q := by simpa using hq
     have hFb : Fz C m { s with sl := (j, .d (.ref ds)) :: s.sl, ch := (id, none) :: s.ch } w b := by
      refine ⟨.inr (hloc b (.inl rfl)), lt_of_block hb, fun j' c p h1 h2 h3 => ?_⟩;obtain ⟨hne, h4⟩ := hch j' c h1;exact hne (hR.inj j' id c _ p _ h4 hc h2 hp b h3 (.inl rfl))
     refine .d (.ref hFb hb (by simp at hsz; omega) (fun k d hd => ?_));have := hv k (.d d) (by simp [hd]);rw [Nat.zero_add];cases this with | d h => exact h.mono hF
  rw [if_neg hj];exact (hR.sl j).turn (MLe.refl m) (fun k hk _ => ⟨hF k hk, rfl⟩)
 obtain ⟨_, h2⟩ := hch j c h1;obtain ⟨p, hp, hr, hl⟩ := hR.ch j c h2;exact ⟨p, hp, hr.turn (MLe.refl m) (fun k hk _ => ⟨hF k hk, rfl⟩) (fun _ _ => rfl), hl⟩
theorem RelM.freeze {C : Ctx} {U : Nat → Prop} {a : Act} {w : World} {m : Nat → Option (Option Nat × Nat)} (hR : RelM C U s a w m) {i id n e sz : Nat} {els els' : List (List DV)} (hs : s.get i = .own id n) (hc : s.chunk id = some (.arr e sz els)) (hn : n ≤ els.length) (he : els.take n = els') : RelM C U { s with sl := (i, .d (.view e sz els')) :: s.sl, ch := (id, none) :: s.ch } a w m := by
 subst he
 have hch : ∀ j c, (getL j ((id, none) :: s.ch)).getD none = some c → j ≠ id ∧ s.chunk j = some c := by
  intro j c h;rw [getL_cons] at h
  split at h
  ·simp at h
  rename_i e; exact ⟨e, h⟩
 have hF : ∀ q, Fz C m s w q → Fz C m { s with sl := (i, .d (.view e sz (els.take n))) :: s.sl, ch := (id, none) :: s.ch } w q := fun q hq => ⟨hq.1, hq.2.1, fun j c p h1 h2 => hq.2.2 j c p (hch j c h1).2 h2⟩
 refine ⟨hR.fr, hR.fin, hR.sz, fun j => ?_, fun j c h1 => ?_, fun j j' c c' p p' h1 h2 hp hp' b hb hb' => hR.inj j j' c c' p p' (hch j c h1).2 (hch j' c' h2).2 hp hp' b hb hb', hR.un, hR.defers, hR.m0, hR.m0k⟩
 ·show ARep _ _ _ ((getL j ((i, .d (.view e sz (els.take n))) :: s.sl)).getD .dead) _;rw [getL_cons]
  by_cases hj : j = i
  ·subst hj;rw [if_pos rfl];have hv := hR.sl j;rw [hs] at hv;generalize a.tmps.getD j undef = v at hv;simp only [Option.getD_some];cases hv with
   | own hp h0 =>
    rename_i cap b;have hC := hR.chunkAt hc hp;cases hC with
    | nil h =>
     have : n = 0 := by simpa using hn
     subst this;exact .d .nil
    | arr hb hf hsz hl hm h0' hrow hel =>
     rename_i b arr fz;have hlen : (els.take n).length = n := by simp; omega
     have hsub : ∀ (i : Nat) cs, (els.take n)[i]? = some cs → els[i]? = some cs := by
      intro i cs hi;rw [List.getElem?_take] at hi
      split at hi
      ·exact hi
      cases hi
     obtain ⟨q, hq, hr, hloc⟩ := hR.ch id _ hc;rw [hp] at hq;obtain rfl : (some b, cap) = q := by simpa using hq
     have hFb : Fz C m { s with sl := (j, .d (.view e sz (els.take n))) :: s.sl, ch := (id, none) :: s.ch } w b := by
      refine ⟨.inr (hloc b (.inl rfl)), lt_of_block hb, fun j' c p h1 h2 h3 => ?_⟩;obtain ⟨hne, h4⟩ := hch j' c h1;exact hne (hR.inj j' id c _ p _ h4 hc h2 hp b h3 (.inl rfl))
     have := DRep.view (F := Fz C m { s with sl := (j, .d (.view e sz (els.take n))) :: s.sl, ch := (id, none) :: s.ch } w) (e := e) (sz := sz) (els := els.take n) (off := 0) (cap := cap) hFb hb (by omega) hm (by omega) (fun i cs hi => hrow i cs (hsub i cs hi)) (fun i cs j d hi hj => by rw [Nat.zero_add]; exact (hel i cs j d (hsub i cs hi) hj).mono hF);rw [hlen] at this;exact .d this
  rw [if_neg hj];exact (hR.sl j).turn (MLe.refl m) (fun k hk _ => ⟨hF k hk, rfl⟩)
 obtain ⟨_, h2⟩ := hch j c h1;obtain ⟨p, hp, hr, hl⟩ := hR.ch j c h2;exact ⟨p, hp, hr.turn (MLe.refl m) (fun k hk _ => ⟨hF k hk, rfl⟩) (fun _ _ => rfl), hl⟩
theorem NOp.frz {ids : List Nat} {o : Oper} {i n e sz : Nat} {els els' : List (List DV)} {gone : List (Nat × Option Chunk)} (h : NOp P ids s o f ⟨.own f n, (f, some (.arr e sz els)) :: gone⟩) (hd : o.dst = some i) (hn : n ≤ els.length) (he : els.take n = els') : NOp P ids s o f ⟨.d (.view e sz els'), (f, none) :: gone⟩ := by
 refine ⟨fun s' ha C U U' a w m hR hU hU' hdd K Q hK => h.run s' ha C U U' a w m hR hU hU' hdd K Q fun a' w' m' hR' => hK a' w' m' ?_⟩;rw [hd] at hR' ⊢;have h2 := hR'.freeze (i := i) (id := f) (n := n) (e := e) (sz := sz) (els := els) (els' := els') (by rw [ASt.get_app, if_pos rfl]) (by rw [ASt.chunk_app]; simp [getL_cons]) hn he;refine h2.weaken rfl (fun j => .inr ?_) (fun id c hc => ?_) (fun _ h => h)
 ·rw [ASt.get_app];simp only [ASt.app, ASt.get, getL_cons, Option.some.injEq]
  by_cases hj : j = i
  ·subst hj; simp
  rw [if_neg hj, if_neg (Ne.symm hj), if_neg hj]
 rw [ASt.chunk_app] at hc;simp only [ASt.app, ASt.chunk, getL_cons, List.cons_append, getL_append];simp only [getL_cons] at hc
 by_cases hj : id = f
 ·subst hj; simp at hc
 rw [if_neg hj] at hc ⊢;rw [if_neg hj];cases hg : getL id gone with
 | none => rw [hg] at hc; exact hc
 | some o => rw [hg] at hc; simp only at hc; subst hc; rfl
theorem g_load_arrN {t : Nat} {ts : TS} {x : Operand} {id k e sz i : Nat} {els : List (List DV)} {cs : List DV} (ht : PT.ty P t = some ts) (hr : ts.kind.isRow = true) (hs : ts.size = sz) (h : s.ev x = .ptr id k) (hc : s.chunk id = some (.arr e sz els)) (hk : k = i * sz) (hi : els[i]? = some cs) : GOp P [id] s ⟨dst, .load t x, ty, pos, af, gd⟩ (.agg (cs.map .d)) := by
 refine ⟨fun s' ha C U a w m hR => ?_⟩;have hx := hR.ev x;rw [ha.2.1 x (by simp [Op.operands]), h] at hx;have hc' : s'.chunk id = some (.arr e sz els) := by rw [ha.2.2 id (by simp)]; exact hc
 generalize hv : a.eval x = v at hx;cases hx with
 | ptr hp =>
  have hC := hR.chunkAt hc' hp;cases hC with
  | arr hb hf hsz hl hm h0 hrow hel =>
   rename_i b cap arr fz;have h2 := (List.getElem?_eq_some_iff.1 hi).1;have hcs := hrow i cs hi
   have hle : k + ts.size ≤ arr.size := by
    have : (i + 1) * sz ≤ cap * sz := Nat.mul_le_mul_right _ (by omega);rw [Nat.succ_mul] at this;omega
   obtain ⟨r1, r2, r3⟩ := range_of (off := k) (n := ts.size) hb hle;refine ⟨_, ?_, .agg (vs := _) (by rw [← List.size_toArray] at r1; rw [r1]; simp; omega) (fun j c hc => ?_) (fun j hj => ?_)⟩
   ·simp only [execOp, Sem.run_bind, hv, run_loadN ht hr r1 r2, Result.andThen_ok, Sem.run_pure]
   ·rw [List.getElem?_map, Option.map_eq_some_iff] at hc;obtain ⟨d, hd, rfl⟩ := hc;have hj := (List.getElem?_eq_some_iff.1 hd).1;rw [r3 j (by omega), hk];exact .d (hel i cs j d hi hd)
   have hj' : j < ts.size := by rw [← r1]; simpa using hj
   rw [r3 j hj', hk];have hjc : j < cs.length := by omega
   exact (hel i cs j cs[j] hi (List.getElem?_eq_getElem hjc)).one
end
def sortI (l : List Int) : List Int := l.mergeSort (fun x y => decide (x ≤ y))
theorem sortI_len (l : List Int) : (sortI l).length = l.length := List.length_mergeSort _
theorem sortI_nil : sortI [] = [] := by simp [sortI]
theorem DRep.val_is {F : Nat → Prop} {w : World} {u v : Value} (h : DRep F w (.val u) v) : v = u ∧ okV u := by
 cases h with
 | val h => exact ⟨rfl, h⟩
theorem ASpec.ofSort {P : Program} {g : FuncId} {t : Nat} (zs : List Int) (hz : zs.length ≤ 1000000)
  (h : ∀ (blk off cap : Nat) (w : World), Sort.Holds (Value.int .i64) w blk off zs.toArray → blk < w.heap.size → zs.length < 4611686018427387904 → Calls P g #[.slice (some ⟨blk, off, none⟩) zs.length cap] w fun e w' =>
   e = .returned (.tuple #[]) ∧ ∃ n os, w' = Sort.grow (Sort.putRow (Value.int .i64) (Sort.ahead w n) blk off (zs.mergeSort fun x y => decide (x ≤ y)).toArray) os)
  (h0 : ∀ (p : Option Addr) (cap : Nat) (w : World), Calls P g #[.slice p 0 cap] w fun e w' => e = .returned (.tuple #[]) ∧ w' = w) :
  ASpec P g [.own 0 zs.length] [(0, .arr t 1 (zs.map fun x => [dI x]))] (Fun1 (.tup []) [(0, .arr t 1 ((sortI zs).map fun x => [dI x]))]) := by
 intro w m Fin vs hfin hn ha hch hinj hm;have ha0 := ha 0 _ rfl
 have hvs : vs = #[vs.getD 0 undef] := by
  apply Array.ext
  ·rw [hn]; rfl
  intro i hi1 hi2
  match i with
  | 0 => simp [Array.getD_eq_getD_getElem?, Array.getElem?_eq_getElem hi1]
  | i + 1 => simp at hi2
 obtain ⟨-, p, hp, hr⟩ := hch 0 _ rfl
 have hone : ∀ (id : Nat) (c d : Chunk), getL id [((0 : Nat), d)] = some c → id = 0 ∧ c = d := by
  intro id c d hc;rw [getL_cons] at hc
  split at hc
  ·rename_i e; simp at hc; exact ⟨e, hc.symm⟩
  simp [getL] at hc
 generalize hv0 : vs.getD 0 undef = v0 at ha0;rw [hv0] at hvs;subst hvs
 by_cases hz0 : zs = []
 ·subst hz0;rw [sortI_nil];cases ha0 with
  | own hq hq0 =>
   rename_i cap b;refine (h0 _ cap w).mono ?_;rintro e w' ⟨rfl, rfl⟩;refine ⟨_, _, _, m, fun k => (Fin k ∨ (∃ id c p, getL id [((0 : Nat), Chunk.arr t 1 (([] : List Int).map fun x => [dI x]))] = some c ∧ m id = some p ∧ occ p c k) ∨ w'.heap.size ≤ k) ∧ k < w'.heap.size ∧ ∀ id c p, getL id [((0 : Nat), Chunk.arr t 1 (([] : List Int).map fun x => [dI x]))] = some c → m id = some p → ¬ occ p c k, rfl, ⟨rfl, rfl⟩, fun _ _ _ h => h, fun id hid => hm id (by simp only [List.length_singleton] at hid ⊢; omega), fun k => Iff.rfl, ⟨rfl, rfl, rfl, Nat.le_refl _, fun _ _ _ => rfl⟩, .tup rfl (fun i c hc => by simp at hc), fun id c hc => ?_, fun id id' c c' p p' b hc hc' => ?_⟩
   ·obtain ⟨rfl, rfl⟩ := hone _ _ _ hc;refine ⟨p, hp, hr.turn (MLe.refl m) (fun k hk hlt => And.intro ⟨.inl hk, hlt, fun id c q hc hq5 => by obtain ⟨rfl, rfl⟩ := hone _ _ _ hc; exact (hfin k hk).2 0 _ q rfl hq5⟩ rfl) (fun _ _ => rfl), fun b hb => .inr ⟨0, _, p, rfl, hp, hb⟩⟩
   rw [(hone _ _ _ hc).1, (hone _ _ _ hc').1]; exact fun _ _ _ _ => rfl
 have hpos : 0 < zs.length := List.length_pos_iff.2 hz0;cases ha0 with
 | own hq hq0 =>
  rename_i cap b;cases b with
  | none => have := hq0 rfl; omega
  | some blk =>
   rw [hp] at hq;obtain rfl : p = (some blk, cap) := by simpa using hq
   cases hr with
   | arr hb hf hsz hl hmx h0' hrow hel =>
    rename_i arr fz;have hl' : zs.length ≤ cap := by simpa using hl
    have hcell : ∀ j (hj : j < zs.length), arr.getD j undef = .int .i64 zs[j] := by
     intro j hj;have := hel j [dI zs[j]] 0 (dI zs[j]) (by simp [List.getElem?_eq_getElem hj]) rfl;have e5 := this.val_is.1
     rwa [Nat.mul_one, Nat.add_zero] at e5
    have hH : Sort.Holds (Value.int .i64) w blk 0 zs.toArray := by
     intro j hj;have hj' : j < zs.length := by simpa using hj
     have hja : j < arr.size := by omega
     constructor
     ·unfold World.cell?;simp only [hb, Nat.zero_add, Option.isSome_none, Bool.false_eq_true, if_false];have := hcell j hj';rw [Array.getD_eq_getD_getElem?, Array.getElem?_eq_getElem hja] at this;rw [Array.getElem?_eq_getElem hja];simp only [Option.getD_some] at this;rw [this];congr 2;rw [getElem!_pos _ j hj]; rfl
     unfold World.frozen?;simp only [hb, Nat.zero_add];have := hf j hja;obtain ⟨lo, hi⟩ := fz;simp only [not_and, Nat.not_lt] at this ⊢;simpa using this
    refine (h blk 0 cap w hH (lt_of_block hb) (by omega)).mono ?_;rintro e w' ⟨rfl, n, os, rfl⟩;have hbw := lt_of_block hb
    have hheap : ∀ k, k < w.heap.size → (Sort.grow (Sort.putRow (Value.int .i64) (Sort.ahead w n) blk 0 (sortI zs).toArray) os).heap[k]? = if blk = k then some (.cells (Sort.putCells (Value.int .i64) 0 (sortI zs).toArray arr) t fz) else w.heap[k]? := by
     intro k hk;unfold Sort.grow Sort.putRow Sort.mapBlock Sort.ahead;simp only;rw [Array.getElem?_append_left (by simpa using hk), Array.getElem?_modify]
     by_cases e : blk = k
     ·subst e; rw [if_pos rfl, if_pos rfl, hb]; rfl
     rw [if_neg e, if_neg e]
    have hsize : w.heap.size ≤ (Sort.grow (Sort.putRow (Value.int .i64) (Sort.ahead w n) blk 0 (sortI zs).toArray) os).heap.size := by
     rw [Sort.size_grow, Sort.size_putRow]; exact Nat.le_add_right _ _
    have hold : ∀ k, Fin k → k < w.heap.size → (Sort.grow (Sort.putRow (Value.int .i64) (Sort.ahead w n) blk 0 (sortI zs).toArray) os).heap[k]? = w.heap[k]? := by
     intro k hk hlt;rw [hheap k hlt, if_neg];rintro rfl;exact (hfin blk hk).2 0 _ _ rfl hp (.inl rfl)
    refine ⟨_, _, _, m, fun k => (Fin k ∨ (∃ id c p, getL id [((0 : Nat), Chunk.arr t 1 (zs.map fun x => [dI x]))] = some c ∧ m id = some p ∧ occ p c k) ∨ w.heap.size ≤ k) ∧ k < (Sort.grow (Sort.putRow (Value.int .i64) (Sort.ahead w n) blk 0 (sortI zs).toArray) os).heap.size ∧ ∀ id c p, getL id [((0 : Nat), Chunk.arr t 1 ((sortI zs).map fun x => [dI x]))] = some c → m id = some p → ¬ occ p c k, rfl, ⟨rfl, rfl⟩, fun _ _ _ h => h, fun id hid => hm id (by simp only [List.length_singleton] at hid ⊢; omega), fun k => Iff.rfl, ⟨rfl, rfl, rfl, hsize, fun k hk hne => ?_⟩, .tup rfl (fun i c hc => by simp at hc), fun id c hc => ?_, fun id id' c c' p p' b hc hc' => ?_⟩
    ·exact (hheap k hk).trans (if_neg (fun e => hne 0 _ _ rfl hp (.inl (congrArg some e))))
    ·obtain ⟨rfl, rfl⟩ := hone _ _ _ hc;refine ⟨_, hp, .arr ((hheap blk hbw).trans (if_pos rfl)) (fun i hi => hf i (by simpa [Sort.putCells] using hi)) (by simpa [Sort.putCells] using hsz) (by rw [List.length_map, sortI_len]; exact hl') hmx h0' (fun i cs hi => ?_) (fun i cs j d hi hj => ?_), fun b hb' => .inr ⟨0, _, _, rfl, hp, hb'⟩⟩
     ·rw [List.getElem?_map, Option.map_eq_some_iff] at hi;obtain ⟨x, _, rfl⟩ := hi; rfl
     rw [List.getElem?_map, Option.map_eq_some_iff] at hi;obtain ⟨x, hx, rfl⟩ := hi;cases j with
     | succ j => simp at hj
     | zero =>
      simp at hj; subst hj;have hi' : i < (sortI zs).length := (List.getElem?_eq_some_iff.1 hx).1;have hi2 : i < arr.size := by rw [sortI_len] at hi'; omega
      have hd := hel i [dI (zs[i]'(by rw [sortI_len] at hi'; exact hi'))] 0 _ (by simp [List.getElem?_eq_getElem (show i < zs.length by rw [sortI_len] at hi'; exact hi')]) rfl;have hxx : (sortI zs)[i] = x := (List.getElem?_eq_some_iff.1 hx).2;have hxm : x ∈ zs := (List.mergeSort_perm zs _).mem_iff.1 (by rw [← hxx]; exact List.getElem_mem hi');obtain ⟨q, hq', hqx⟩ := List.getElem_of_mem hxm;have hdq := hel q [dI zs[q]] 0 (dI zs[q]) (by simp [List.getElem?_eq_getElem hq']) rfl
      have hok : okV (.int .i64 x) := by
       rw [hqx] at hdq;exact hdq.val_is.2
      have hval : (Sort.putCells (Value.int .i64) 0 (sortI zs).toArray arr).getD (i * 1 + 0) undef = .int .i64 x := by
       rw [Nat.mul_one, Nat.add_zero, Array.getD_eq_getD_getElem?];unfold Sort.putCells;rw [Array.getElem?_mapIdx, Array.getElem?_eq_getElem hi2];simp only [Option.map_some, Option.getD_some, Nat.zero_le, true_and, Nat.zero_add, Nat.sub_zero];rw [if_pos (by simpa using hi'), getElem!_pos _ i (by simpa using hi')];simp [hxx]
      rw [hval];exact .val hok
    rw [(hone _ _ _ hc).1, (hone _ _ _ hc').1]; exact fun _ _ _ _ => rfl
end Go.Proofs.YtbiinjejokhfgaaGreat
namespace Go.Proofs
open Go.Shelf
def Tryz.lays189_ren : Go.Shelf.Ren := ⟨fun | 189 => 151 | 125 => 161 | 257 => 168 | 128 => 179 | 129 => 180 | 294 => 185 | 295 => 186 | 296 => 187 | 297 => 188 | 298 => 189 | 299 => 190 | 216 => 191 | 300 => 192 | 301 => 193 | 328 => 199 | 329 => 195 | 330 => 196 | 331 => 200 | 332 => 201 | 215 => 181 | 343 => 203 | n => n, fun | 28 => 36 | 3 => 3 | 46 => 177 | 0 => 0 | 51 => 197 | 53 => 86 | 4 => 4 | 183 => 191 | 182 => 190 | 131 => 32 | 5 => 5 | 9 => 9 | 218 => 207 | 222 => 211 | 228 => 215 | 229 => 216 | n => n, fun | n => n⟩
theorem Tryz.lays189 : Go.Proofs.Lays.n189 Tryz.prog Tryz.lays189_ren := {
 mixed := by kernel_rfl
 f125 := Tryz.func161.trans (congrArg some (by kernel_rfl))
 f128 := Tryz.func179.trans (congrArg some (by kernel_rfl))
 f129 := Tryz.func180.trans (congrArg some (by kernel_rfl))
 f189 := Tryz.func151.trans (congrArg some (by kernel_rfl))
 f215 := Tryz.func181.trans (congrArg some (by kernel_rfl))
 f216 := Tryz.func191.trans (congrArg some (by kernel_rfl))
 f257 := Tryz.func168.trans (congrArg some (by kernel_rfl))
 f294 := Tryz.func185.trans (congrArg some (by kernel_rfl))
 f295 := Tryz.func186.trans (congrArg some (by kernel_rfl))
 f296 := Tryz.func187.trans (congrArg some (by kernel_rfl))
 f297 := Tryz.func188.trans (congrArg some (by kernel_rfl))
 f298 := Tryz.func189.trans (congrArg some (by kernel_rfl))
 f299 := Tryz.func190.trans (congrArg some (by kernel_rfl))
 f300 := Tryz.func192.trans (congrArg some (by kernel_rfl))
 f301 := Tryz.func193.trans (congrArg some (by kernel_rfl))
 f328 := Tryz.func199.trans (congrArg some (by kernel_rfl))
 f329 := Tryz.func195.trans (congrArg some (by kernel_rfl))
 f330 := Tryz.func196.trans (congrArg some (by kernel_rfl))
 f331 := Tryz.func200.trans (congrArg some (by kernel_rfl))
 f332 := Tryz.func201.trans (congrArg some (by kernel_rfl))
 f343 := Tryz.func203.trans (congrArg some (by kernel_rfl))
 t0 := Tryz.underlying0
 a0 := Tryz.isAgg0
 z0 := Tryz.sizeOf0
 v0 := Tryz.zeroValue0
 t3 := Tryz.underlying3
 a3 := Tryz.isAgg3
 z3 := Tryz.sizeOf3
 v3 := Tryz.zeroValue3
 t4 := Tryz.underlying4
 a4 := Tryz.isAgg4
 z4 := Tryz.sizeOf4
 v4 := Tryz.zeroValue4
 t5 := Tryz.underlying5
 a5 := Tryz.isAgg5
 z5 := Tryz.sizeOf5
 v5 := Tryz.zeroValue5
 t9 := Tryz.underlying9
 a9 := Tryz.isAgg9
 z9 := Tryz.sizeOf9
 v9 := Tryz.zeroValue9
 t28 := Tryz.underlying36
 a28 := Tryz.isAgg36
 z28 := Tryz.sizeOf36
 v28 := Tryz.zeroValue36
 t46 := Tryz.underlying177
 a46 := Tryz.isAgg177
 z46 := Tryz.sizeOf177
 v46 := Tryz.zeroValue177
 t51 := Tryz.underlying197
 a51 := Tryz.isAgg197
 z51 := Tryz.sizeOf197
 v51 := Tryz.zeroValue197
 t53 := Tryz.underlying86
 a53 := Tryz.isAgg86
 z53 := Tryz.sizeOf86
 v53 := Tryz.zeroValue86
 t131 := Tryz.underlying32
 a131 := Tryz.isAgg32
 z131 := Tryz.sizeOf32
 v131 := Tryz.zeroValue32
 t182 := Tryz.underlying190
 a182 := Tryz.isAgg190
 z182 := Tryz.sizeOf190
 v182 := Tryz.zeroValue190
 t183 := Tryz.underlying191
 a183 := Tryz.isAgg191
 z183 := Tryz.sizeOf191
 v183 := Tryz.zeroValue191
 t218 := Tryz.underlying207
 a218 := Tryz.isAgg207
 z218 := Tryz.sizeOf207
 v218 := Tryz.zeroValue207
 t222 := Tryz.underlying211
 a222 := Tryz.isAgg211
 z222 := Tryz.sizeOf211
 v222 := Tryz.zeroValue211
 t228 := Tryz.underlying215
 a228 := Tryz.isAgg215
 z228 := Tryz.sizeOf215
 v228 := Tryz.zeroValue215
 t229 := Tryz.underlying216
 a229 := Tryz.isAgg216
 z229 := Tryz.sizeOf216
 v229 := Tryz.zeroValue216 }
open Go.Sort Go.RowKit in
theorem Tryz.slices_Sort_int (blk off cap : Nat) (zs : List Int) (w : World) (hH : Holds (Value.int .i64) w blk off zs.toArray) (hblk : blk < w.heap.size) (hsz : zs.length < 4611686018427387904) :
  Calls Tryz.prog 151 #[.slice (some ⟨blk, off, none⟩) zs.length cap] w fun e w' =>
   e = .returned (.tuple #[]) ∧ ∃ n os, w' = grow (putRow (Value.int .i64) (Sort.ahead w n) blk off (zs.mergeSort fun x y => decide (x ≤ y)).toArray) os := Any.slices_Sort_int Tryz.lays189 blk off cap zs w hH hblk hsz
open Go.RowKit Go.Sort in
theorem Tryz.slices_Sort_int_none (p : Option Addr) (cap : Nat) (w : World) :
  Calls Tryz.prog 151 #[.slice p 0 cap] w fun e w' => e = .returned (.tuple #[]) ∧ w' = w := Any.slices_Sort_int_none Tryz.lays189 p cap w
end Go.Proofs
namespace Go.Proofs.YtbiinjejokhfgaaGreat
open Go.RowKit
abbrev ES := BitVec 64
abbrev vES (l : List ES) : DV := .view 97 1 (l.map fun b => [dU b])
abbrev brD (N : Net) (u : Unf) (L A : List ES) : List DV := [dI N.places, vTs N.ts, vCs u.cs, vEs u.es, vES L, vES A]
theorem vES_get {l : List ES} {k : Nat} (h : k < l.length) : (l.map fun b => [dU b])[k]? = some [dU l[k]] := by simp [List.getElem?_map, List.getElem?_eq_getElem h]
def subU (s : ES) (n : Nat) : Prop := ∀ e, s.getLsbD e = true → e < n
structure WB (u : Unf) (L A : List ES) : Prop where
 w : WF u
 e : u.es.length ≤ 64
 l : L.length = u.es.length
 a : A.length = u.es.length
 s : ∀ x, x ∈ L → subU x u.es.length
theorem esHas_spec (s : ES) (e : Nat) (he : e < 64) : ASpec Tryz.prog 108 [aU s, aI e] [] (Pure1 (aT (s.getLsbD e))) := by
 refine ASpec.of Tryz.func108 rfl rfl fun C hC => ?_
 refine AC.seq (AC.region ?_);refine za ?_;refine AL.nil (th_n (AC.seq (AC.region ?_)));refine zm ?_;refine zm ?_;refine AL.p (by exact g_shr64 rfl rfl he) rfl ?_;refine AL.p (by exact g_and64 (b := 1#64) rfl rfl) rfl ?_;refine zc ?_;refine za ?_;refine AL.nil (th_n (AC.ret (bq_r ?_)));exact ret1 rfl (by rw [← bit_at s e he])
theorem en_esHas : Enters Tryz.prog 108 := enters_of Tryz.func108 rfl rfl
def listK (s : ES) (k : Nat) : List Int := ((List.range k).filter (fun e => s.getLsbD e)).map (fun (e : Nat) => (e : Int))
def listI (s : ES) : List Int := listK s 64
theorem listK_succ (s : ES) (k : Nat) : listK s (k + 1) = listK s k ++ (if s.getLsbD k = true then [(k : Int)] else []) := by
 unfold listK;rw [List.range_succ, List.filter_append, List.map_append];congr 1;rw [List.filter_cons, List.filter_nil]
 split <;> rfl
theorem listK_len (s : ES) (k : Nat) : (listK s k).length ≤ k := by
 unfold listK;rw [List.length_map];exact Nat.le_trans (List.length_filter_le _ _) (by simp)
theorem listK_t {s : ES} {k : Nat} (h : s.getLsbD k = true) : listK s (k + 1) = listK s k ++ [(k : Int)] := by rw [listK_succ, if_pos h]
theorem listK_f {s : ES} {k : Nat} (h : s.getLsbD k = false) : listK s (k + 1) = listK s k := by rw [listK_succ, h, if_neg Bool.false_ne_true, List.append_nil]
theorem mem_listI {s : ES} {e : Int} : e ∈ listI s ↔ ∃ k : Nat, e = k ∧ s.getLsbD k = true := by
 unfold listI listK;rw [List.mem_map];constructor
 ·rintro ⟨k, hk, rfl⟩;exact ⟨k, rfl, (List.mem_filter.1 hk).2⟩
 rintro ⟨k, rfl, hk⟩;exact ⟨k, List.mem_filter.2 ⟨List.mem_range.2 (BitVec.lt_of_getLsbD hk), hk⟩, rfl⟩
set_option maxHeartbeats 1000000 in
theorem esList_spec (s : ES) : ASpec Tryz.prog 55 [aU s] [] (Pure1 (.d (vI (listI s)))) := by
 refine ASpec.of Tryz.func55 rfl rfl fun C hC => ?_
 refine AC.seq (AC.region ?_);refine za ?_;refine AL.nil (th_n (AC.seq (AC.region ?_)));refine AL.q (by exact h_lit rfl rfl rfl rfl rfl rfl rfl rfl) rfl ?_;refine AL.p (by exact as2 rfl) rfl ?_;refine AL.nil (th_n (AC.seq (AC.seq (AC.region ?_))));refine zm ?_;refine AL.nil (th_n (AC.block ?_));refine AC.loop (ι := Nat) (fun k => ⟨18, 108, [(0, aU s), (3, .own 100 (listK s k).length), (6, aI k)], [(100, some (.arr 3 1 (ints (listK s k))))]⟩) (fun k => k ≤ 64) (fun k => 64 - k) (0) ?_ (Nat.zero_le _) ?_
 ·exact zw [(100, 0)] hC
 intro k hk;refine AC.seq (AC.region ?_);refine zc ?_;refine AL.nil (th_n (AC.seq ?_));refine AC.condD rfl (fun h0 => ?_) (fun h0 => ?_)
 ·refine AC.skip (th_n (AC.seq (AC.block (AC.seq ?_))));have hk1 : k < 64 := by omega
  have hln := listK_len s k;have hHas := esHas_spec s k hk1;obtain ⟨hb, hhb⟩ := eqx (s.getLsbD k);rw [← hhb] at hHas;refine AC.region ?_;refine zm ?_;refine za ?_;refine AL.nil (th_n (AC.seq (AC.region ?_)));refine zm ?_;refine zm ?_;refine kV en_esHas hHas ?_;refine AL.nil (th_n ?_);refine AC.condB rfl (fun h1 => ?_) (fun h1 => ?_)
  ·refine AC.region ?_;refine kB ?_;refine zm ?_;refine AL.q (by exact h_litF rfl rfl rfl rfl rfl rfl rfl rfl) rfl ?_;refine AL.q (by exact h_appendI (listK s k) [(k : Int)] (.own rfl rfl (ints_len _).symm) (.view rfl) (by simp; omega) (by simp)) rfl ?_;refine AL.p (by exact as2 rfl) rfl ?_;refine AL.nil (ib_n (th_n (AC.region ?_)));refine zA ?_;refine zm ?_;refine AL.nil (th_n ?_)
   (have e := listK_t (hhb.symm.trans h1); exact ⟨k + 1, by omega, by omega, zw [(100, _)] hC (by rw [e]; repeat (first | exact True.intro | refine And.intro ?_ ?_ | exact DLead.same | exact rfl | refine ⟨_, rfl, ?_⟩)) (by rw [e]; repeat (first | exact True.intro | refine And.intro ?_ ?_ | exact rfl | refine ⟨_, _, rfl, rfl, ?_⟩))⟩)
  refine AC.skip (ib_n (th_n (AC.region ?_)));refine zA ?_;refine zm ?_;refine AL.nil (th_n ?_)
  (have e := listK_f (hhb.symm.trans h1); exact ⟨k + 1, by omega, by omega, zw [(100, _)] hC (by rw [e]; repeat (first | exact True.intro | refine And.intro ?_ ?_ | exact DLead.same | exact rfl | refine ⟨_, rfl, ?_⟩)) (by rw [e]; repeat (first | exact True.intro | refine And.intro ?_ ?_ | exact rfl | refine ⟨_, _, rfl, rfl, ?_⟩))⟩)
 refine AC.exit (th_e (th_e (ib_y (th_n (AC.seq ?_)))));have hk64 : k = 64 := by omega
 subst hk64;refine AC.weak (Weak.freeze (i := 3) rfl rfl (Nat.le_of_eq (ints_len _).symm) (ints_all _)) ?_;refine AC.region ?_;refine zm ?_;refine za ?_;refine AL.nil (th_n (AC.ret (bq_r ?_)));exact ret1 rfl rfl
theorem en_esList : Enters Tryz.prog 55 := enters_of Tryz.func55 rfl rfl
def clashAt (A : List ES) (s : ES) (e : Int) : Bool := !decide (((((A.getD e.toNat 0) &&& s).toNat : Nat) : Int) = 0)
theorem brClash1_spec (N : Net) (u : Unf) (L A : List ES) (s : ES) (e : Int) (h0 : 0 ≤ e) (he : e < A.length) (ha : A.length ≤ 1000) : ASpec Tryz.prog 148 [aI e, .d (.ref [.ref (brD N u L A)]), .d (.ref [dU s])] [] (Pure1 (aT (clashAt A s e))) := by
 obtain ⟨i, rfl⟩ : ∃ i : Nat, e = (i : Int) := ⟨e.toNat, by omega⟩;have hi : i < A.length := by omega
 have hget := vES_get hi;have hA : A.getD i 0 = A[i] := by rw [List.getD_eq_getElem?_getD, List.getElem?_eq_getElem hi]; rfl
 refine ASpec.of Tryz.func148 rfl rfl fun C hC => ?_
 refine AC.seq (AC.region ?_);refine za ?_;refine AL.nil (th_n (AC.seq ?_));refine AC.drawn' mixed_ok [[], [0], [0,1], [0,1,2], [], [0,1,2,3,4], [0,1,2,3,4,5], [], [0,1,2,3,4,5,6,7], [0,1,2,3,4,5,6,7,8], [0,1,2,3,4,5,6,7,8,9]] (by decide) ?_;refine zd 0 [] 11 (by exact g_load_ref rfl rfl rfl) ?_;refine zd 1 [0] 11 (by exact g_nilR rfl) ?_;refine zd 2 [0,1] 11 (by exact g_fa_ref rfl rfl rfl rfl rfl rfl) ?_;refine zd 3 [0,1,2] 11 (by exact g_load_ref rfl rfl rfl) ?_;refine zd 4 [] 11 (by exact mv1 rfl) ?_;refine zd 5 [0,1,2,3,4] 11 (by exact g_ia_view rfl rfl rfl rfl rfl (by rfl) (by assumption)) ?_;refine zd 6 [0,1,2,3,4,5] 11 (by exact g_load_ref rfl rfl rfl) ?_;refine zd 7 [] 11 (by exact g_load_ref rfl rfl rfl) ?_;refine zd 8 [0,1,2,3,4,5,6,7] 11 (by exact g_and64 rfl rfl) ?_;refine zd 9 (List.range 9) 11 (by exact g_cmp rfl rfl rfl) ?_;refine zd 10 (List.range 10) 11 (by exact as1 rfl) ?_;refine zj 11 ?_;refine th_n (AC.ret (bq_r ?_));exact ret1 rfl (by rw [clashAt, Int.toNat_natCast, hA])
theorem en_brClash1 : Enters Tryz.prog 148 := enters_of Tryz.func148 rfl rfl
def clashI (A : List ES) (s : ES) : Bool := (listI s).any (clashAt A s)
theorem listI_len (s : ES) : (listI s).length ≤ 64 := listK_len s 64
theorem listI_sub {s : ES} {n : Nat} (h : subU s n) : ∀ e, e ∈ listI s → 0 ≤ e ∧ e < n := by
 intro e he;obtain ⟨k, rfl, hk⟩ := mem_listI.1 he;have := h k hk;omega
set_option maxHeartbeats 1000000 in
theorem brClash_spec (N : Net) (u : Unf) (L A : List ES) (s : ES) (hs : subU s A.length) (ha : A.length ≤ 1000) : ASpec Tryz.prog 109 [.d (.ref (brD N u L A)), aU s] [] (Pure1 (aT (clashI A s))) := by
 have hl := listI_len s;refine ASpec.of Tryz.func109 rfl rfl fun C hC => ?_
 refine AC.seq (AC.region ?_);refine kD ?_;refine kD ?_;refine za ?_;refine AL.nil (th_n (AC.seq (AC.region ?_)));refine zr ?_;refine kV en_esList (esList_spec s) ?_;refine AL.p (by exact g_fn rfl) rfl ?_;refine AL.q (by exact h_pure en_containsInt rfl rfl (by repeat (first | exact rfl | exact DLead.same | refine ⟨_, _, rfl, ?_, ?_⟩ | refine ⟨_, rfl, ?_⟩)) (containsInt_spec (listI s) (by omega) 148 [.ref [.ref (brD N u L A)], .ref [dU s]] en_brClash1 (clashAt A s) (fun p h => brClash1_spec N u L A s p (listI_sub hs p h).1 (listI_sub hs p h).2 ha)) rfl) rfl ?_;refine za ?_;refine AL.nil (th_n (AC.ret (bq_r ?_)));exact ret1 rfl rfl
theorem en_brClash : Enters Tryz.prog 109 := enters_of Tryz.func109 rfl rfl
def usesAt (u : Unf) (c e : Int) : Bool := (evAt u e).any (fun x => decide (c = x))
theorem brConsumed1_spec (N : Net) (u : Unf) (L A : List ES) (c e : Int) (hw : WF u) (h0 : 0 ≤ e) (he : e < u.es.length) : ASpec Tryz.prog 158 [aI e, .d (.ref [.ref (brD N u L A)]), .d (.ref [dI c])] [] (Pure1 (aT (usesAt u c e))) := by
 obtain ⟨i, rfl⟩ : ∃ i : Nat, e = (i : Int) := ⟨e.toNat, by omega⟩;have hi : i < u.es.length := by omega
 have hget := evsL_get hi;have hel := hw.l _ (List.getElem_mem hi);have hA : evAt u (i : Int) = u.es[i].pre := evAt_nat hi;refine ASpec.of Tryz.func158 rfl rfl fun C hC => ?_
 refine AC.seq (AC.region ?_);refine za ?_;refine AL.nil (th_n (AC.seq ?_));refine AC.drawn' mixed_ok [[], [0], [0,1], [0,1,2], [0,1,2,3], [], [0,1,2,3,4,5], [0,1,2,3,4,5,6], [0,1,2,3,4,5,6,7], [], [0,1,2,3,4,5,6,7,8,9], [0,1,2,3,4,5,6,7,8,9,10]] (by decide) ?_;refine zd 0 [] 12 (by exact g_load_ref rfl rfl rfl) ?_;refine zd 1 [0] 12 (by exact g_nilR rfl) ?_;refine zd 2 [0,1] 12 (by exact g_fa_ref rfl rfl rfl rfl rfl rfl) ?_;refine zd 3 [0,1,2] 12 (by exact g_fa_ref rfl rfl rfl rfl rfl rfl) ?_;refine zd 4 [0,1,2,3] 12 (by exact g_load_ref rfl rfl rfl) ?_;refine zd 5 [] 12 (by exact mv1 rfl) ?_;refine zd 6 [0,1,2,3,4,5] 12 (by exact g_ia_view rfl rfl rfl rfl rfl (by rfl) (by assumption)) ?_;refine zd 7 [0,1,2,3,4,5,6] 12 (by exact g_fa_ref rfl rfl rfl rfl rfl rfl) ?_;refine zd 8 [0,1,2,3,4,5,6,7] 12 (by exact g_load_ref rfl rfl rfl) ?_;refine zd 9 [] 12 (by exact g_load_ref rfl rfl rfl) ?_;refine zh 10 (List.range 10) 12 (by exact h_pure en_Contains rfl rfl (by repeat (first | exact rfl | exact DLead.same | refine ⟨_, _, rfl, ?_, ?_⟩)) (Contains_spec u.es[i].pre (by omega) c) rfl) ?_;refine zd 11 (List.range 11) 12 (by exact as1 rfl) ?_;refine zj 12 ?_;refine th_n (AC.ret (bq_r ?_));exact ret1 rfl (by rw [usesAt, hA])
theorem en_brConsumed1 : Enters Tryz.prog 158 := enters_of Tryz.func158 rfl rfl
def consI (u : Unf) (s : ES) (c : Int) : Bool := (listI s).any (usesAt u c)
set_option maxHeartbeats 1000000 in
theorem brConsumed_spec (N : Net) (u : Unf) (L A : List ES) (s : ES) (c : Int) (hw : WF u) (hs : subU s u.es.length) : ASpec Tryz.prog 132 [.d (.ref (brD N u L A)), aU s, aI c] [] (Pure1 (aT (consI u s c))) := by
 have hl := listI_len s;refine ASpec.of Tryz.func132 rfl rfl fun C hC => ?_
 refine AC.seq (AC.region ?_);refine kD ?_;refine kD ?_;refine za ?_;refine AL.nil (th_n (AC.seq (AC.region ?_)));refine zm ?_;refine kV en_esList (esList_spec s) ?_;refine AL.p (by exact g_fn rfl) rfl ?_;refine AL.q (by exact h_pure en_containsInt rfl rfl (by repeat (first | exact rfl | exact DLead.same | refine ⟨_, _, rfl, ?_, ?_⟩ | refine ⟨_, rfl, ?_⟩)) (containsInt_spec (listI s) (by omega) 158 [.ref [.ref (brD N u L A)], .ref [dI c]] en_brConsumed1 (usesAt u c) (fun p h => brConsumed1_spec N u L A c p hw (listI_sub hs p h).1 (listI_sub hs p h).2)) rfl) rfl ?_;refine za ?_;refine AL.nil (th_n (AC.ret (bq_r ?_)));exact ret1 rfl rfl
theorem en_brConsumed : Enters Tryz.prog 132 := enters_of Tryz.func132 rfl rfl
def prodI (u : Unf) (L : List ES) (c : Int) : ES := if 0 ≤ (cAt u c).by_ then L.getD (cAt u c).by_.toNat 0 else 0
theorem prodI_sub {u : Unf} {L A : List ES} (hW : WB u L A) (c : Int) : subU (prodI u L c) u.es.length := by
 unfold prodI
 split
 ·rw [List.getD_eq_getElem?_getD];cases h : L[(cAt u c).by_.toNat]? with
  | none => intro e he; simp at he
  | some x => exact hW.s x (List.mem_of_getElem? h)
 intro e he; simp at he
set_option maxHeartbeats 1000000 in
theorem brProducer_spec (N : Net) (u : Unf) (L A : List ES) (c : Int) (hW : WB u L A) (h0 : 0 ≤ c) (hc : c < u.cs.length) : ASpec Tryz.prog 126 [.d (.ref (brD N u L A)), aI c] [] (Pure1 (aU (prodI u L c))) := by
 obtain ⟨i, rfl⟩ : ∃ i : Nat, c = (i : Int) := ⟨c.toNat, by omega⟩;have hi : i < u.cs.length := by omega
 have hget := condsL_get hi;have hcl := hW.w.c;have hll := hW.l;have hb := hW.w.b _ (List.getElem_mem hi);have hA : cAt u (i : Int) = u.cs[i] := cAt_nat hi;refine ASpec.of Tryz.func126 rfl rfl fun C hC => ?_
 refine AC.seq (AC.region ?_);refine za ?_;refine AL.nil (th_n (AC.seq (AC.seq (AC.region ?_))));refine zm ?_;refine AL.p (by exact g_nilR rfl) rfl ?_;refine zf ?_;refine zf ?_;refine zr ?_;refine zm ?_;refine AL.p (by exact g_ia_view rfl rfl rfl rfl rfl (by rfl) (by assumption)) rfl ?_;refine zf ?_;refine zr ?_;refine za ?_;refine AL.nil (th_n (AC.seq (AC.region ?_)));refine zm ?_;refine zc ?_;refine AL.nil (th_n ?_);refine AC.condD rfl (fun h0 => ?_) (fun h0 => ?_)
 ·refine AC.seq ?_;obtain ⟨j, hj⟩ : ∃ j : Nat, u.cs[i].by_ = (j : Int) := ⟨u.cs[i].by_.toNat, by omega⟩;have hjl : j < L.length := by omega
  have hgetL := vES_get hjl;have hel := hW.e;rw [hj];refine AC.region ?_;refine zm ?_;refine AL.p (by exact g_nilR rfl) rfl ?_;refine zf ?_;refine zr ?_;refine zm ?_;refine AL.p (by exact g_ia_view rfl rfl rfl rfl rfl (by rfl) (by assumption)) rfl ?_;refine zr ?_;refine za ?_;refine AL.nil (th_n (AC.ret (th_r (bq_r ?_))));exact ret1 rfl (by rw [prodI, hA, if_pos h0, hj, Int.toNat_natCast, List.getD_eq_getElem?_getD, List.getElem?_eq_getElem hjl]; rfl)
 refine AC.skip (th_n (AC.seq (AC.region ?_)));refine za ?_;refine AL.nil (th_n (AC.ret (bq_r ?_)));exact ret1 rfl (by rw [prodI, hA, if_neg h0]; rfl)
theorem en_brProducer : Enters Tryz.prog 126 := enters_of Tryz.func126 rfl rfl
def allB (u : Unf) (L : List ES) (l : List Int) : ES := l.foldl (fun a c => a ||| prodI u L c) 0
theorem allB_take {u : Unf} {L : List ES} {l : List Int} {k : Nat} (hk : k < l.length) : allB u L (l.take (k + 1)) = allB u L (l.take k) ||| prodI u L l[k] := by
 unfold allB;rw [List.take_add_one, List.getElem?_eq_getElem hk, List.foldl_append]; rfl
theorem subU_or {a b : ES} {n : Nat} (ha : subU a n) (hb : subU b n) : subU (a ||| b) n := by
 intro e he;rw [BitVec.getLsbD_or, Bool.or_eq_true] at he;rcases he with h | h
 ·exact ha e h
 exact hb e h
theorem allB_sub {u : Unf} {L A : List ES} (hW : WB u L A) (l : List Int) : subU (allB u L l) u.es.length := by
 suffices h : ∀ (l : List Int) (a : ES), subU a u.es.length → subU (l.foldl (fun a c => a ||| prodI u L c) a) u.es.length from h l 0 (fun e he => by simp at he)
 intro l
 induction l with
 | nil => intro a ha; exact ha
 | cons c l ih => intro a ha; exact ih _ (subU_or ha (prodI_sub hW c))
theorem nodup_of {l : List Int} (h : ∀ j (hj : j < l.length), (l.take j).any (fun x => decide (l[j] = x)) = false) : l.Nodup := by
 rw [List.Nodup, List.pairwise_iff_getElem];intro i j hi hj hij e;have := List.any_eq_false.1 (h j hj) l[i] (by rw [List.mem_take_iff_getElem]; exact ⟨i, by omega, rfl⟩);rw [e] at this;simp at this
theorem not_nodup {l : List Int} {j : Nat} (hj : j < l.length) (h : (l.take j).any (fun x => decide (l[j] = x)) = true) : ¬ l.Nodup := by
 intro hn;obtain ⟨x, hx, he⟩ := List.any_eq_true.1 h;obtain ⟨i, hi, rfl⟩ := List.mem_take_iff_getElem.1 hx;rw [List.Nodup, List.pairwise_iff_getElem] at hn;exact hn i j (by omega) hj (by omega) (by simpa using (of_decide_eq_true he).symm)
def cosetI (u : Unf) (L A : List ES) (l : List Int) : Bool := decide l.Nodup && (!clashI A (allB u L l) && !l.any (fun c => consI u (allB u L l) c))
theorem brIsCoSet1_spec (N : Net) (u : Unf) (L A : List ES) (s : ES) (c : Int) (hw : WF u) (hs : subU s u.es.length) : ASpec Tryz.prog 153 [aI c, .d (.ref [.ref (brD N u L A)]), .d (.ref [dU s])] [] (Pure1 (aT (consI u s c))) := by
 have hK := brConsumed_spec N u L A s c hw hs;obtain ⟨b, hb⟩ := eqx (consI u s c);rw [← hb] at hK ⊢;refine ASpec.of Tryz.func153 rfl rfl fun C hC => ?_
 refine AC.seq (AC.region ?_);refine za ?_;refine AL.nil (th_n (AC.seq (AC.region ?_)));refine zr ?_;refine zr ?_;refine zm ?_;refine kV en_brConsumed hK ?_;refine za ?_;refine AL.nil (th_n (AC.ret (bq_r ?_)));exact ret1 rfl rfl
theorem en_brIsCoSet1 : Enters Tryz.prog 153 := enters_of Tryz.func153 rfl rfl
set_option maxHeartbeats 2000000 in
theorem brIsCoSet_spec (N : Net) (u : Unf) (L A : List ES) (l : List Int) (hW : WB u L A) (hl : l.length ≤ 1000000) (hin : ∀ c, c ∈ l → 0 ≤ c ∧ c < u.cs.length) : ASpec Tryz.prog 124 [.d (.ref (brD N u L A)), .d (vI l)] [] (Pure1 (aT (cosetI u L A l))) := by
 have hsub := allB_sub hW l;have hal := hW.a;have hel := hW.e;have hCl := brClash_spec N u L A (allB u L l) (by rw [hal]; exact hsub) (by omega);have hC1 := fun p (h : p ∈ l) => brIsCoSet1_spec N u L A (allB u L l) p hW.w hsub
 obtain ⟨S, hS⟩ := eqx (allB u L l);have hco : cosetI u L A l = (decide l.Nodup && (!clashI A S && !l.any (fun c => consI u S c))) := by rw [hS]; rfl
 rw [← hS] at hCl hC1 hsub;obtain ⟨cl, hcl⟩ := eqx (clashI A S);rw [← hcl] at hCl hco;have hCC := containsInt_spec l (by omega) 153 [.ref [.ref (brD N u L A)], .ref [dU S]] en_brIsCoSet1 (fun c => consI u S c) hC1;obtain ⟨co, hcoo⟩ := eqx (l.any (fun c => consI u S c));rw [← hcoo] at hCC hco;refine ASpec.of Tryz.func124 rfl rfl fun C hC => ?_
 refine AC.seq (AC.region ?_);refine kD ?_;refine za ?_;refine AL.nil (th_n (AC.seq (AC.region ?_)));refine kE ?_;refine zs ?_;refine AL.nil (th_n (AC.seq (AC.seq (AC.region ?_))));refine zm ?_;refine kH ?_;refine zm ?_;refine AL.nil (th_n (AC.block ?_));refine AC.loop (ι := Nat) (fun k => ⟨36, 108, [(1, .d (vI l)), (2, .d (.ref [.ref (brD N u L A)])), (5, .ptr 100 0), (8, .d (vI l)), (9, aI l.length), (10, aI k)], [(100, some (.cells 97 [aU (allB u L (l.take k))]))]⟩) (fun k => k ≤ l.length ∧ ∀ j (hj : j < l.length), j < k → (l.take j).any (fun x => decide (l[j] = x)) = false) (fun k => l.length - k) (0) ?_ (⟨Nat.zero_le _, fun j _ hj => by omega⟩) ?_
 ·exact zw [(100, _)] hC
 intro k ⟨hk, hall⟩;refine AC.seq (AC.region ?_);refine zc ?_;refine AL.nil (th_n (AC.seq ?_));refine AC.condD rfl (fun h0 => ?_) (fun h0 => ?_)
 ·refine AC.skip (th_n (AC.seq (AC.block (AC.seq ?_))));have hk1 : k < l.length := by omega
  have hget := ints_at hk1;have hinc := hin _ (List.getElem_mem hk1);have hkl : k ≤ (ints l).length := by rw [ints_len]; exact hk
  have htk : ((ints l).take k).drop 0 = ints (l.take k) := by simp [List.map_take]
  have hCo := Contains_spec (l.take k) (by rw [List.length_take]; omega) l[k];have hP := brProducer_spec N u L A l[k] hW hinc.1 hinc.2;have hat := allB_take (u := u) (L := L) hk1;obtain ⟨ct, hct⟩ := eqx ((l.take k).any (fun x => decide (l[k] = x)));rw [← hct] at hCo;refine AC.region ?_;refine zm ?_;refine AL.p (by exact g_ia_view rfl rfl rfl rfl rfl (by rfl) (by assumption)) rfl ?_;refine zr ?_;refine za ?_;refine za ?_;refine AL.nil (th_n (AC.seq (AC.seq (AC.region ?_))));refine zm ?_;refine zm ?_;refine AL.p (by exact g_slice_view (r := ints (l.take k)) (l := 0) (h := k) rfl rfl rfl rfl .none (.some rfl rfl) (Nat.zero_le _) hkl htk) rfl ?_;refine zm ?_;refine kV en_Contains hCo ?_;refine AL.nil (th_n ?_);refine AC.condB rfl (fun h1 => ?_) (fun h1 => ?_)
  ·refine AC.seq (AC.region ?_);refine za ?_;refine AL.nil (th_n (AC.ret (th_r (ib_r (th_r (th_r (ib_r (th_r (bq_r ?_)))))))));have hz := not_nodup hk1 (hct.symm.trans h1);exact ret1 rfl (by rw [hco, decide_eq_false hz]; rfl)
  refine AC.skip (th_n ?_);refine AC.drawn' mixed_ok [[], [], [], [1,2], [0,1,2,3], [0,1,2,3,4]] (by decide) ?_;refine zd 0 [] 6 (by exact g_load_ptr rfl rfl rfl rfl rfl) ?_;refine zd 1 [] 6 (by exact g_load_ref rfl rfl rfl) ?_;refine zd 2 [] 6 (by exact mv1 rfl) ?_;refine zh 3 [1,2] 6 (by exact h_pure en_brProducer rfl rfl (by repeat (first | exact rfl | exact DLead.same | refine ⟨_, _, rfl, ?_, ?_⟩)) hP rfl) ?_;refine zd 4 [0,1,2,3] 6 (by exact g_or64 rfl rfl) ?_;refine zh 5 [0,1,2,3,4] 6 (by exact h_store rfl rfl rfl rfl rfl rfl) ?_;refine zj 6 ?_;refine ib_n (th_n (AC.region ?_));refine zA ?_;refine zm ?_;refine AL.nil (th_n ?_);exact ⟨k + 1, ⟨by omega, fun j hj hj2 => by rcases Nat.lt_succ_iff_lt_or_eq.1 hj2 with h | rfl; exact hall j hj h; exact hct.symm.trans h1⟩, by omega, zw [(100, _)] hC (b := by rw [hat]; repeat (first | exact True.intro | refine And.intro ?_ ?_ | exact DLead.same | exact rfl | refine ⟨_, _, rfl, rfl, ?_⟩ | refine ⟨_, rfl, ?_⟩ | refine ⟨_, _, rfl, ?_, ?_⟩))⟩
 refine AC.exit (th_e (th_e (ib_y (th_n (AC.seq ?_)))));have hkk : k = l.length := by omega
 subst hkk;rw [List.take_length, ← hS];have hnd : decide l.Nodup = true := decide_eq_true (nodup_of fun j hj => hall j hj hj);refine AC.weak (Weak.freezeRef (ds := [dU S]) 5 rfl rfl) ?_;refine AC.region ?_;refine zr ?_;refine zr ?_;refine kV en_brClash hCl ?_;refine kC ?_;refine zm ?_;refine AL.caseGB rfl rfl (fun h1 => ?_) (fun h1 => ?_)
 ·refine zy ?_;refine zm ?_;refine zy ?_;refine AL.p (by exact g_fn rfl) rfl ?_;refine zy ?_;refine kV en_containsInt hCC ?_;refine zy ?_;refine kC ?_;refine zQ ?_;refine za ?_;refine AL.nil (th_n (AC.ret (bq_r ?_)));exact ret1 rfl (by rw [hco, hnd, h1]; rfl)
 refine zn ?_;refine zn ?_;refine zn ?_;refine zn ?_;refine zP ?_;refine za ?_;refine AL.nil (th_n (AC.ret (bq_r ?_)));exact ret1 rfl (by rw [hco, hnd, h1]; rfl)
theorem en_brIsCoSet : Enters Tryz.prog 124 := enters_of Tryz.func124 rfl rfl
def sameEv (x h : Ev) : Bool := decide (x.t = h.t) && decide (x.pre = h.pre)
theorem equalEvents_spec (x h : Ev) (h1 : x.pre.length ≤ 1000000) (h2 : h.pre.length ≤ 1000000) : ASpec Tryz.prog 156 [evA x, evA h] [] (Pure1 (aT (sameEv x h))) := by
 refine ASpec.of Tryz.func156 rfl rfl fun C hC => ?_
 refine AC.seq (AC.region ?_);refine kD ?_;refine kD ?_;refine za ?_;refine AL.nil (th_n (AC.seq (AC.region ?_)));refine zf ?_;refine zr ?_;refine zf ?_;refine zr ?_;refine zc ?_;refine zm ?_;refine AL.caseG rfl rfl (fun h0 => ?_) (fun h0 => ?_)
 ·refine zy ?_;refine zf ?_;refine zy ?_;refine zr ?_;refine zy ?_;refine zf ?_;refine zy ?_;refine zr ?_;refine zy ?_;refine AL.q (by exact h_pure en_slEqual rfl rfl (by repeat (first | exact rfl | exact DLead.same | refine ⟨_, _, rfl, ?_, ?_⟩)) (slEqual_spec _ _ (by assumption) (by assumption)) rfl) rfl ?_;refine zQ ?_;refine za ?_;refine AL.nil (th_n (AC.ret (bq_r ?_)));exact ret1 rfl (by rw [sameEv, decide_eq_true h0]; rfl)
 refine zn ?_;refine zn ?_;refine zn ?_;refine zn ?_;refine zn ?_;refine zP ?_;refine za ?_;refine AL.nil (th_n (AC.ret (bq_r ?_)));exact ret1 rfl (by rw [sameEv, decide_eq_false h0]; rfl)
theorem en_equalEvents : Enters Tryz.prog 156 := enters_of Tryz.func156 rfl rfl
theorem brIsIn1_spec (x h : Ev) (h1 : x.pre.length ≤ 1000000) (h2 : h.pre.length ≤ 1000000) : ASpec Tryz.prog 155 [evA x, .d (.ref (evD h))] [] (Pure1 (aT (sameEv x h))) := by
 refine ASpec.of Tryz.func155 rfl rfl fun C hC => ?_
 refine AC.seq (AC.region ?_);refine kD ?_;refine za ?_;refine AL.nil (th_n (AC.seq (AC.region ?_)));refine kG ?_;refine kG ?_;refine kV en_equalEvents (equalEvents_spec x h h1 h2) ?_;refine za ?_;refine AL.nil (th_n (AC.ret (bq_r ?_)));exact ret1 rfl rfl
theorem en_brIsIn1 : Enters Tryz.prog 155 := enters_of Tryz.func155 rfl rfl
set_option maxHeartbeats 1000000 in
theorem indexEv_spec (l : List Ev) (hl : l.length ≤ 2000000) (g : FuncId) (ds : List DV) (hen : Enters Tryz.prog g) (p : Ev → Bool) (hp : ∀ t, t ∈ l → ASpec Tryz.prog g (evA t :: ds.map .d) [] (Pure1 (aT (p t)))) : ASpec Tryz.prog 170 [.d (vEs l), .clo g (ds.map .d)] [] (Pure1 (aI (findI p l))) := by
 refine ASpec.of Tryz.func170 rfl rfl fun C hC => ?_
 refine AC.seq (AC.region ?_);refine za ?_;refine AL.nil (th_n (AC.seq (AC.seq (AC.region ?_))));refine zm ?_;refine kH ?_;refine zm ?_;refine AL.nil (th_n (AC.block ?_));refine AC.loop (ι := Nat) (fun k => ⟨19, 0, [(0, .d (vEs l)), (1, .clo g (ds.map .d)), (6, .d (vEs l)), (7, aI l.length), (8, aI k)], []⟩) (fun k => k ≤ l.length ∧ ∀ j (hj : j < l.length), j < k → p l[j] = false) (fun k => l.length - k) (0) ?_ (⟨Nat.zero_le _, fun j _ hj => by omega⟩) ?_
 ·refine Weak.ren _ [] hC rfl ⟨.same, ⟨_, rfl, leadsL_data _ ds⟩, ?_⟩ trivial rfl rfl rfl; repeat (first | exact True.intro | refine And.intro ?_ ?_ | exact DLead.same)
 intro k ⟨hk, hall⟩;refine AC.seq (AC.region ?_);refine zc ?_;refine AL.nil (th_n (AC.seq ?_));refine AC.condD rfl (fun h0 => ?_) (fun h0 => ?_)
 ·refine AC.skip (th_n (AC.seq (AC.block (AC.seq ?_))));have hk1 : k < l.length := by omega
  have hget := evsL_get hk1;refine AC.region ?_;refine zm ?_;refine za ?_;refine AL.nil (th_n (AC.seq (AC.region ?_)));refine AL.p (by exact mv6 rfl) rfl ?_;refine zm ?_;refine zm ?_;refine AL.p (by exact g_ia_view rfl rfl rfl rfl rfl (by rfl) (by assumption)) rfl ?_;refine kG ?_;refine AL.q (by exact h_pure hen rfl rfl (by exact ⟨_, _, rfl, ⟨_, rfl, _, _, rfl, .same, _, _, rfl, .same, rfl⟩, leadsL_data _ ds⟩) (hp l[k] (List.getElem_mem hk1)) rfl) rfl ?_;refine AL.nil (th_n ?_);refine AC.condB rfl (fun h1 => ?_) (fun h1 => ?_)
  ·refine AC.seq (AC.region ?_);refine zm ?_;refine za ?_;refine AL.nil (th_n (AC.ret (ib_r (th_r (th_r (ib_r (th_r (bq_r ?_))))))));exact ret1 rfl (by rw [findI_at hk1 h1 (fun j hj => hall j (by omega) hj)])
  refine AC.skip (ib_n (th_n (AC.region ?_)));refine zA ?_;refine zm ?_;refine AL.nil (th_n ?_);exact ⟨k + 1, ⟨by omega, fun j hj hj2 => by rcases Nat.lt_succ_iff_lt_or_eq.1 hj2 with h | rfl; exact hall j hj h; exact h1⟩, by omega, Weak.ren _ [] hC rfl ⟨.same, ⟨_, rfl, leadsL_data _ ds⟩, by repeat (first | exact True.intro | refine And.intro ?_ ?_ | exact DLead.same)⟩ trivial rfl rfl rfl⟩
 refine AC.exit (th_e (th_e (ib_y (th_n (AC.seq (AC.region ?_))))));refine za ?_;refine AL.nil (th_n (AC.ret (bq_r ?_)));exact ret1 rfl (by rw [findI_none (fun j hj => hall j hj (by omega))])
theorem en_indexEv : Enters Tryz.prog 170 := enters_of Tryz.func170 rfl rfl
theorem containsEv_spec (l : List Ev) (hl : l.length ≤ 2000000) (g : FuncId) (ds : List DV) (hen : Enters Tryz.prog g) (p : Ev → Bool) (hp : ∀ t, t ∈ l → ASpec Tryz.prog g (evA t :: ds.map .d) [] (Pure1 (aT (p t)))) : ASpec Tryz.prog 154 [.d (vEs l), .clo g (ds.map .d)] [] (Pure1 (aT (l.any p))) := by
 refine ASpec.of Tryz.func154 rfl rfl fun C hC => ?_
 refine AC.seq (AC.region ?_);refine za ?_;refine AL.nil (th_n (AC.seq (AC.region ?_)));refine zm ?_;refine AL.p (by exact mv6 rfl) rfl ?_;refine AL.q (by exact h_pure en_indexEv rfl rfl (by exact ⟨_, _, rfl, .same, _, _, rfl, ⟨_, rfl, leadsL_data _ ds⟩, rfl⟩) (indexEv_spec l hl g ds hen p hp) rfl) rfl ?_;refine zc ?_;refine za ?_;refine AL.nil (th_n (AC.ret (bq_r ?_)));exact ret1 rfl (by rw [findI_any])
theorem en_containsEv : Enters Tryz.prog 154 := enters_of Tryz.func154 rfl rfl
theorem brIsIn_spec (N : Net) (u : Unf) (L A : List ES) (h : Ev) (hw : WF u) (h2 : h.pre.length ≤ 1000000) : ASpec Tryz.prog 125 [.d (.ref (brD N u L A)), evA h] [] (Pure1 (aT (fitB u h))) := by
 have hel := hw.e;have hCC := containsEv_spec u.es (by omega) 155 [.ref (evD h)] en_brIsIn1 (fun x => sameEv x h) (fun x hx => brIsIn1_spec x h (hw.l x hx) h2);refine ASpec.of Tryz.func125 rfl rfl fun C hC => ?_
 refine AC.seq (AC.region ?_);refine kD ?_;refine za ?_;refine AL.nil (th_n (AC.seq (AC.region ?_)));refine zm ?_;refine AL.p (by exact g_nilR rfl) rfl ?_;refine zf ?_;refine zf ?_;refine zr ?_;refine AL.p (by exact g_fn rfl) rfl ?_;refine kV en_containsEv hCC ?_;refine za ?_;refine AL.nil (th_n (AC.ret (bq_r ?_)));exact ret1 rfl rfl
theorem en_brIsIn : Enters Tryz.prog 125 := enters_of Tryz.func125 rfl rfl
theorem en_slSort : Enters Tryz.prog 151 := enters_of Tryz.func151 rfl rfl
theorem slSort_spec (l : List Int) (hl : l.length ≤ 1000000) : ASpec Tryz.prog 151 [.own 0 l.length] [(0, .arr 3 1 (ints l))] (Fun1 (.tup []) [(0, .arr 3 1 (ints (sortI l)))]) :=
 ASpec.ofSort l hl (fun blk off cap w h1 h2 h3 => Tryz.slices_Sort_int blk off cap l w h1 h2 h3) (fun p cap w => Tryz.slices_Sort_int_none p cap w)
def plK (u : Unf) (l : List Int) : List Int := l.map (fun c => (cAt u c).place)
theorem plK_take {u : Unf} {l : List Int} {k : Nat} (hk : k < l.length) : plK u (l.take (k + 1)) = plK u (l.take k) ++ [(cAt u l[k]).place] := by
 unfold plK;rw [List.take_add_one, List.getElem?_eq_getElem hk, List.map_append]; rfl
theorem plK_len (u : Unf) (l : List Int) : (plK u l).length = l.length := List.length_map _
set_option maxHeartbeats 1000000 in
theorem brPlacesOf_spec (N : Net) (u : Unf) (L A : List ES) (l : List Int) (hw : WF u) (hl : l.length ≤ 1000000) (hin : ∀ c, c ∈ l → 0 ≤ c ∧ c < u.cs.length) : ASpec Tryz.prog 123 [.d (.ref (brD N u L A)), .d (vI l)] [] (Pure1 (.d (vI (sortI (plK u l))))) := by
 refine ASpec.of Tryz.func123 rfl rfl fun C hC => ?_
 refine AC.seq (AC.region ?_);refine za ?_;refine AL.nil (th_n (AC.seq (AC.region ?_)));refine AL.q (by exact h_lit rfl rfl rfl rfl rfl rfl rfl rfl) rfl ?_;refine AL.p (by exact as2 rfl) rfl ?_;refine AL.nil (th_n (AC.seq (AC.seq (AC.region ?_))));refine zm ?_;refine kH ?_;refine zm ?_;refine AL.nil (th_n (AC.block ?_));refine AC.loop (ι := Nat) (fun k => ⟨31, 108, [(0, .d (.ref (brD N u L A))), (5, .own 100 k), (9, .d (vI l)), (10, aI l.length), (11, aI k)], [(100, some (.arr 3 1 (ints (plK u (l.take k)))))]⟩) (fun k => k ≤ l.length) (fun k => l.length - k) (0) ?_ (Nat.zero_le _) ?_
 ·exact zw [(100, 0)] hC
 intro k hk;refine AC.seq (AC.region ?_);refine zc ?_;refine AL.nil (th_n (AC.seq ?_));refine AC.condD rfl (fun h0 => ?_) (fun h0 => ?_)
 ·refine AC.skip (th_n (AC.seq (AC.block (AC.seq ?_))));have hk1 : k < l.length := by omega
  have hget := ints_at hk1;have hi0 := hin _ (List.getElem_mem hk1);obtain ⟨i, hi⟩ : ∃ i : Nat, l[k] = (i : Int) := ⟨l[k].toNat, by omega⟩;have hic : i < u.cs.length := by omega
  have hgetc := condsL_get hic;have hcl := hw.c;have hcv : cAt u l[k] = u.cs[i] := by rw [hi]; exact cAt_nat hic
  have hpt := plK_take (u := u) hk1;rw [hcv] at hpt;have hpl : (plK u (l.take k)).length = k := by rw [plK_len, List.length_take]; omega
  rw [hi] at hget;refine AC.region ?_;refine AL.p (by exact g_ia_view rfl rfl rfl rfl rfl (by rfl) (by assumption)) rfl ?_;refine zr ?_;refine za ?_;refine AL.nil (th_n (AC.region ?_));refine kB ?_;refine zm ?_;refine AL.p (by exact g_nilR rfl) rfl ?_;refine zf ?_;refine zf ?_;refine zr ?_;refine zm ?_;refine AL.p (by exact g_ia_view rfl rfl rfl rfl rfl (by rfl) (by assumption)) rfl ?_;refine zf ?_;refine zr ?_;refine AL.q (by exact h_litF rfl rfl rfl rfl rfl rfl rfl rfl) rfl ?_;refine AL.q (by exact h_appendI (plK u (l.take k)) [u.cs[i].place] (.own rfl rfl (by rw [ints_len, hpl])) (.view rfl) (by simp; omega) (by simp)) rfl ?_;refine AL.p (by exact as2 rfl) rfl ?_;refine AL.nil (ib_n (th_n (AC.region ?_)));refine zA ?_;refine zm ?_;refine AL.nil (th_n ?_);have hl5 : (plK u (l.take k) ++ [u.cs[i].place]).length = k + 1 := by rw [List.length_append, hpl]; rfl
  exact ⟨k + 1, by omega, by omega, zw [(100, _)] hC (by rw [← hl5]; repeat (first | exact True.intro | refine And.intro ?_ ?_ | exact DLead.same | exact DLead.eqI (by omega) | exact rfl | refine ⟨_, rfl, ?_⟩)) (by rw [hpt]; repeat (first | exact True.intro | refine And.intro ?_ ?_ | exact rfl | refine ⟨_, _, rfl, rfl, ?_⟩))⟩
 refine AC.exit (th_e (th_e (ib_y (th_n (AC.seq ?_)))));have hkk : k = l.length := by omega
 subst hkk;rw [List.take_length];have hpl := plK_len u l;have hSo := slSort_spec (plK u l) (by omega);rw [hpl] at hSo;have hsl : (sortI (plK u l)).length = l.length := by rw [sortI_len, hpl]
 refine AC.region ?_;refine kB ?_;refine kU [100] en_slSort hSo ?_;refine AL.nil (th_n (AC.seq ?_));refine AC.weak (Weak.freeze (i := 5) (els' := ints (sortI (plK u l))) rfl rfl (by rw [ints_len, hsl]; exact Nat.le_refl _) (List.take_of_length_le (by rw [ints_len, hsl]; exact Nat.le_refl _))) ?_;refine AC.region ?_;refine zm ?_;refine za ?_;refine AL.nil (th_n (AC.ret (bq_r ?_)));exact ret1 rfl rfl
theorem en_brPlacesOf : Enters Tryz.prog 123 := enters_of Tryz.func123 rfl rfl
def fitA1 (N : Net) (u : Unf) (h : Ev) : Bool := inR N h.t && rising h.pre 0 ((u.cs.length : Int) - 1)
def fitsJ (N : Net) (u : Unf) (L A : List ES) (h : Ev) : Bool := fitA1 N u h && (decide (sortI (plK u h.pre) = (tAt N h.t).pre) && (cosetI u L A h.pre && !fitB u h))
theorem fitA1_f0 {N : Net} {u : Unf} {h : Ev} (h0 : (!(decide (0 ≤ h.t) && decide (h.t ≤ (N.ts.length : Int) - 1))) = true) : fitA1 N u h = false := by
 have : inR N h.t = false := (Bool.not_eq_true' _).mp h0;rw [fitA1, this]; rfl
theorem fitA1_f1 {N : Net} {u : Unf} {h : Ev} (h1 : (!rising h.pre 0 ((u.cs.length : Int) - 1)) = true) : fitA1 N u h = false := by
 rw [fitA1, (Bool.not_eq_true' _).mp h1, Bool.and_false]
theorem fitA1_t {N : Net} {u : Unf} {h : Ev} (h0 : (!(decide (0 ≤ h.t) && decide (h.t ≤ (N.ts.length : Int) - 1))) = false) (h1 : (!rising h.pre 0 ((u.cs.length : Int) - 1)) = false) : fitA1 N u h = true := by
 have : inR N h.t = true := (Bool.not_eq_false' _).mp h0;rw [fitA1, this, (Bool.not_eq_false' _).mp h1]; rfl
set_option maxRecDepth 20000 in
set_option maxHeartbeats 4000000 in
theorem brFits_spec (N : Net) (u : Unf) (L A : List ES) (h : Ev) (hB : NetB N) (hW : WB u L A) (hh2 : h.pre.length ≤ 2000000) : ASpec Tryz.prog 71 [.d (.ref (brD N u L A)), evA h] [] (Pure1 (aT (fitsJ N u L A h))) := by
 have hcl := hW.w.c;have hnl := hB.l;have hTi : (!(decide (0 ≤ h.t) && decide (h.t ≤ (N.ts.length : Int) - 1))) = false → h.t = (h.t.toNat : Int) := by intro q; simp at q; omega
 have hTg : (!(decide (0 ≤ h.t) && decide (h.t ≤ (N.ts.length : Int) - 1))) = false → (tsL N.ts)[h.t.toNat]? = some (tnD (tAt N h.t)) := by
  intro q;have q2 : h.t.toNat < N.ts.length := by simp at q; omega
  have := tsL_get q2;unfold tAt;rw [List.getD_eq_getElem?_getD, List.getElem?_eq_getElem q2]; exact this
 refine ASpec.of Tryz.func71 rfl rfl fun C hC => ?_
 refine AC.seq (AC.region ?_);refine kD ?_;refine za ?_;refine AL.nil (th_n (AC.seq (AC.seq ?_)));refine AC.drawn' mixed_ok [[], [0], [], [2], [2,3], [2,3,4], [2,3,4,5], [2,3,4,5,6], [2,3,4,5,6,7], [0,1,2,3,4,5,6,7,8], [0,1,2,3,4,5,6,7,8,9], [0,1,2,3,4,5,6,7,8,9,10], [0,1,2,3,4,5,6,7,8,9,10,11], [0,1,2,3,4,5,6,7,8,9,10,11,12], [0,1,2,3,4,5,6,7,8,9,10,11], [0,1,2,3,4,5,6,7,8,9,10,11,14], [0,1,2,3,4,5,6,7,8,9,10,11,14,15], [0,1,2,3,4,5,6,7,8,9,10,11,14,15,16], [0,1,2,3,4,5,6,7,8,9,10,11,14,15,16,17], [0,1,2,3,4,5,6,7,8,9,10,11,14,15,16,17,18], [0,1,2,3,4,5,6,7,8,9,10,11,12,13,14,15,16,17,18,19], [0,1,2,3,4,5,6,7,8,9,10,11,12,13,14,15,16,17,18,19,20], [0,1,2,3,4,5,6,7,8,9,10,11,12,13,14,15,16,17,18,19,20,21]] (by decide) ?_;refine zd 0 [] 23 (by exact g_fa_ref rfl rfl rfl rfl rfl rfl) ?_;refine zd 1 [0] 23 (by exact g_load_ref rfl rfl rfl) ?_;refine zd 2 [] 23 (by exact mv1 rfl) ?_;refine zd 3 [2] 23 (by exact g_nilR rfl) ?_;refine zd 4 [2,3] 23 (by exact g_fa_ref rfl rfl rfl rfl rfl rfl) ?_;refine zd 5 [2,3,4] 23 (by exact g_fa_ref rfl rfl rfl rfl rfl rfl) ?_;refine zd 6 [2,3,4,5] 23 (by exact g_load_ref rfl rfl rfl) ?_;refine zd 7 [2,3,4,5,6] 23 (by exact g_len_view rfl rfl (by exact List.length_map _)) ?_;refine zd 8 [2,3,4,5,6,7] 23 (by exact g_arith rfl rfl rfl (by exact wrap_i64 (by omega))) ?_;refine zh 9 (List.range 9) 23 (by exact h_pure en_within rfl rfl (by repeat (first | exact rfl | exact DLead.same | refine ⟨_, _, rfl, ?_, ?_⟩)) (within_spec _ _ _) rfl) ?_;refine zd 10 (List.range 10) 23 (by exact g_not rfl) ?_;refine zd 11 (List.range 11) 23 (by exact mv1 rfl) ?_;refine DF.caseB 11 rfl (fun h0 => ?_) (fun h0 => ?_)
 ·refine zg 12 (List.range 12) 23 ?_;refine zg 13 (List.range 13) 23 ?_;refine zg 14 (List.range 12) 23 ?_;refine zg 15 [0,1,2,3,4,5,6,7,8,9,10,11,14] 23 ?_;refine zg 16 [0,1,2,3,4,5,6,7,8,9,10,11,14,15] 23 ?_;refine zg 17 [0,1,2,3,4,5,6,7,8,9,10,11,14,15,16] 23 ?_;refine zg 18 [0,1,2,3,4,5,6,7,8,9,10,11,14,15,16,17] 23 ?_;refine zg 19 [0,1,2,3,4,5,6,7,8,9,10,11,14,15,16,17,18] 23 ?_;refine zg 20 (List.range 20) 23 ?_;refine zg 21 (List.range 21) 23 ?_;refine zd 22 (List.range 22) 23 (by exact g_pickT (r := .d _) rfl rfl) ?_;refine zj 23 ?_;refine th_n ?_;refine AC.condT rfl ?_;refine AC.seq (AC.region ?_);refine za ?_;refine AL.nil (th_n (AC.ret (th_r (bq_r ?_))));have hA := fitA1_f0 (u := u) h0;exact ret1 rfl (by rw [fitsJ, hA]; rfl)
 refine ze 12 (List.range 12) 23 (by exact g_fa_ref rfl rfl rfl rfl rfl rfl) ?_;refine ze 13 (List.range 13) 23 (by exact g_load_ref rfl rfl rfl) ?_;refine ze 14 (List.range 12) 23 (by exact mv1 rfl) ?_;refine ze 15 [0,1,2,3,4,5,6,7,8,9,10,11,14] 23 (by exact g_nilR rfl) ?_;refine ze 16 [0,1,2,3,4,5,6,7,8,9,10,11,14,15] 23 (by exact g_fa_ref rfl rfl rfl rfl rfl rfl) ?_;refine ze 17 [0,1,2,3,4,5,6,7,8,9,10,11,14,15,16] 23 (by exact g_fa_ref rfl rfl rfl rfl rfl rfl) ?_;refine ze 18 [0,1,2,3,4,5,6,7,8,9,10,11,14,15,16,17] 23 (by exact g_load_ref rfl rfl rfl) ?_;refine ze 19 [0,1,2,3,4,5,6,7,8,9,10,11,14,15,16,17,18] 23 (by exact g_len_view rfl rfl (by exact List.length_map _)) ?_;refine zi 20 (List.range 20) 23 (by exact h_pure en_isIncreasing rfl rfl (by repeat (first | exact rfl | exact DLead.same | refine ⟨_, _, rfl, ?_, ?_⟩)) (isIncreasing_spec _ _ (by assumption) (by omega)) rfl) ?_;refine ze 21 (List.range 21) 23 (by exact g_not rfl) ?_;refine zd 22 (List.range 22) 23 (by exact g_pickF (r := .d _) rfl rfl) ?_;refine zj 23 ?_;refine th_n ?_;refine AC.condB rfl (fun h1 => ?_) (fun h1 => ?_)
 ·refine AC.seq (AC.region ?_);refine za ?_;refine AL.nil (th_n (AC.ret (th_r (bq_r ?_))));have hA := fitA1_f1 (N := N) h1;exact ret1 rfl (by rw [fitsJ, hA]; rfl)
 refine AC.skip (th_n (AC.seq ?_));have hA := fitA1_t (u := u) h0 h1;have hh : h.pre.length ≤ 1000000 := by have := rising_len ((Bool.not_eq_false' _).mp h1); omega
 have hT0 := hTi h0;have hTt : h.t.toNat < N.ts.length := by have := h0; simp at this; omega
 have hTm : tAt N h.t ∈ N.ts := by rw [hT0, tAt_nat hTt]; exact List.getElem_mem hTt
 have hTl := (hB.t _ hTm).1;have hpi : ∀ c, c ∈ h.pre → 0 ≤ c ∧ c < u.cs.length := fun c hc => by have := rising_in ((Bool.not_eq_false' _).mp h1) c hc; omega
 have hPl := brPlacesOf_spec N u L A h.pre hW.w hh hpi;have hCo := brIsCoSet_spec N u L A h.pre hW hh hpi;have hIs := brIsIn_spec N u L A h hW.w hh;have hpll : (sortI (plK u h.pre)).length ≤ 1000000 := by rw [sortI_len, plK_len]; exact hh
 obtain ⟨pl, hple⟩ := eqx (sortI (plK u h.pre));obtain ⟨co, hco⟩ := eqx (cosetI u L A h.pre);obtain ⟨isn, hisn⟩ := eqx (fitB u h);have hJ : fitsJ N u L A h = (decide (pl = (tAt N h.t).pre) && (co && !isn)) := by rw [fitsJ, hA, hple, hco, hisn]; rfl
 rw [← hple] at hPl hpll;rw [← hco] at hCo;rw [← hisn] at hIs;refine AC.drawn' mixed_ok [[], [], [1], [0,1,2], [], [4], [4,5], [4,5,6], [4,5,6,7], [], [9], [4,5,6,7,8,9,10], [4,5,6,7,8,9,10,11], [4,5,6,7,8,9,10,11,12], [0,1,2,3,4,5,6,7,8,9,10,11,12,13], [0,1,2,3,4,5,6,7,8,9,10,11,12,13,14], [0,1,2,3,4,5,6,7,8,9,10,11,12,13,14,15], [0,1,2,3,4,5,6,7,8,9,10,11,12,13,14,15], [0,1,2,3,4,5,6,7,8,9,10,11,12,13,14,15,17], [0,1,2,3,4,5,6,7,8,9,10,11,12,13,14,15,16,17,18], [0,1,2,3,4,5,6,7,8,9,10,11,12,13,14,15,16,17,18,19], [0,1,2,3,4,5,6,7,8,9,10,11,12,13,14,15,16,17,18,19,20], [0,1,2,3,4,5,6,7,8,9,10,11,12,13,14,15,16,17,18,19,20,21], [0,1,2,3,4,5,6,7,8,9,10,11,12,13,14,15,16,17,18,19,20,21], [0,1,2,3,4,5,6,7,8,9,10,11,12,13,14,15,16,17,18,19,20,21,22,23], [0,1,2,3,4,5,6,7,8,9,10,11,12,13,14,15,16,17,18,19,20,21,22,23,24], [0,1,2,3,4,5,6,7,8,9,10,11,12,13,14,15,16,17,18,19,20,21,22,23,24,25], [0,1,2,3,4,5,6,7,8,9,10,11,12,13,14,15,16,17,18,19,20,21,22,23,24,25,26]] (by decide) ?_;refine zd 0 [] 28 (by exact mv1 rfl) ?_;refine zd 1 [] 28 (by exact g_fa_ref rfl rfl rfl rfl rfl rfl) ?_;refine zd 2 [1] 28 (by exact g_load_ref rfl rfl rfl) ?_;refine zh 3 [0,1,2] 28 (by exact h_pure en_brPlacesOf rfl rfl (by repeat (first | exact rfl | exact DLead.same | refine ⟨_, _, rfl, ?_, ?_⟩)) hPl rfl) ?_;refine zd 4 [] 28 (by exact mv1 rfl) ?_;refine zd 5 [4] 28 (by exact g_nilR rfl) ?_;refine zd 6 [4,5] 28 (by exact g_fa_ref rfl rfl rfl rfl rfl rfl) ?_;refine zd 7 [4,5,6] 28 (by exact g_fa_ref rfl rfl rfl rfl rfl rfl) ?_;refine zd 8 [4,5,6,7] 28 (by exact g_load_ref rfl rfl rfl) ?_;refine zd 9 [] 28 (by exact g_fa_ref rfl rfl rfl rfl rfl rfl) ?_;refine zd 10 [9] 28 (by exact g_load_ref rfl rfl rfl) ?_;refine zd 11 [4,5,6,7,8,9,10] 28 (by exact g_ia_view (i := h.t.toNat) rfl rfl rfl rfl rfl (hTi h0) (hTg h0)) ?_;refine zd 12 [4,5,6,7,8,9,10,11] 28 (by exact g_fa_ref rfl rfl rfl rfl rfl rfl) ?_;refine zd 13 [4,5,6,7,8,9,10,11,12] 28 (by exact g_load_ref rfl rfl rfl) ?_;refine zh 14 (List.range 14) 28 (by exact h_pure en_slEqual rfl rfl (by repeat (first | exact rfl | exact DLead.same | refine ⟨_, _, rfl, ?_, ?_⟩)) (slEqual_spec _ _ (by assumption) (by assumption)) rfl) ?_;refine zd 15 (List.range 15) 28 (by exact mv1 rfl) ?_;refine DF.caseD 15 rfl (fun h2 => ?_) (fun h2 => ?_)
 ·refine ze 16 (List.range 16) 28 (by exact mv1 rfl) ?_;refine ze 17 (List.range 16) 28 (by exact g_fa_ref rfl rfl rfl rfl rfl rfl) ?_;refine ze 18 [0,1,2,3,4,5,6,7,8,9,10,11,12,13,14,15,17] 28 (by exact g_load_ref rfl rfl rfl) ?_;refine zi 19 (List.range 19) 28 (by exact h_pure en_brIsCoSet rfl rfl (by repeat (first | exact rfl | exact DLead.same | refine ⟨_, _, rfl, ?_, ?_⟩)) hCo rfl) ?_;refine zd 20 (List.range 20) 28 (by exact g_pickT (r := .d _) rfl rfl) ?_;refine zd 21 (List.range 21) 28 (by exact mv1 rfl) ?_;refine DF.caseB 21 rfl (fun h3 => ?_) (fun h3 => ?_)
  ·refine ze 22 (List.range 22) 28 (by exact mv1 rfl) ?_;refine ze 23 (List.range 22) 28 (by exact g_load_refN rfl rfl rfl rfl) ?_;refine zi 24 (List.range 24) 28 (by exact h_pure en_brIsIn rfl rfl (by repeat (first | exact rfl | exact DLead.same | refine ⟨_, _, rfl, ?_, ?_⟩ | refine ⟨_, rfl, ?_⟩)) hIs rfl) ?_;refine ze 25 (List.range 25) 28 (by exact g_not rfl) ?_;refine zd 26 (List.range 26) 28 (by exact g_pickT (r := .d _) rfl rfl) ?_;refine zd 27 (List.range 27) 28 (by exact as1 rfl) ?_;refine zj 28 ?_;refine th_n (AC.ret (bq_r ?_));exact ret1 rfl (by rw [hJ, decide_eq_true h2, h3]; rfl)
  refine zg 22 (List.range 22) 28 ?_;refine zg 23 (List.range 22) 28 ?_;refine zg 24 (List.range 24) 28 ?_;refine zg 25 (List.range 25) 28 ?_;refine zd 26 (List.range 26) 28 (by exact g_pickF (r := .d _) rfl rfl) ?_;refine zd 27 (List.range 27) 28 (by exact as1 rfl) ?_;refine zj 28 ?_;refine th_n (AC.ret (bq_r ?_));exact ret1 rfl (by rw [hJ, decide_eq_true h2, h3]; rfl)
 refine zg 16 (List.range 16) 28 ?_;refine zg 17 (List.range 16) 28 ?_;refine zg 18 [0,1,2,3,4,5,6,7,8,9,10,11,12,13,14,15,17] 28 ?_;refine zg 19 (List.range 19) 28 ?_;refine zd 20 (List.range 20) 28 (by exact g_pickF (r := .d _) rfl rfl) ?_;refine zd 21 (List.range 21) 28 (by exact mv1 rfl) ?_;refine zg 22 (List.range 22) 28 ?_;refine zg 23 (List.range 22) 28 ?_;refine zg 24 (List.range 24) 28 ?_;refine zg 25 (List.range 25) 28 ?_;refine zd 26 (List.range 26) 28 (by exact g_pickF (r := .d _) rfl rfl) ?_;refine zd 27 (List.range 27) 28 (by exact as1 rfl) ?_;refine zj 28 ?_;refine th_n (AC.ret (bq_r ?_));exact ret1 rfl (by rw [hJ, decide_eq_false h2]; rfl)
theorem en_brFits : Enters Tryz.prog 71 := enters_of Tryz.func71 rfl rfl
theorem full_t {a b : Nat} (h : 60 < (a : Int)) : (!(decide ((a : Int) ≤ 60) && decide ((b : Int) ≤ 200))) = true := by rw [decide_eq_false (by omega)]; rfl
theorem full_f {a b : Nat} (h : ¬ 60 < (a : Int)) : (!(decide ((a : Int) ≤ 60) && decide ((b : Int) ≤ 200))) = decide (200 < (b : Int)) := by
 rw [decide_eq_true (by omega : (a : Int) ≤ 60), Bool.true_and]
 by_cases hb : 200 < (b : Int)
 ·rw [decide_eq_true hb, decide_eq_false (by omega)]; rfl
 rw [decide_eq_false hb, decide_eq_true (by omega)]; rfl
theorem isFull_spec (u : Unf) (h1 : u.es.length ≤ 1048576) (h2 : u.cs.length ≤ 1048576) : ASpec Tryz.prog 73 [unfA u] [] (Pure1 (aT (!limB u))) := by
 refine ASpec.of Tryz.func73 rfl rfl fun C hC => ?_
 refine AC.seq (AC.region ?_);refine kD ?_;refine za ?_;refine AL.nil (th_n (AC.seq (AC.region ?_)));refine zf ?_;refine zr ?_;refine kH ?_;refine zc ?_;refine zm ?_;refine AL.caseG rfl rfl (fun h0 => ?_) (fun h0 => ?_)
 ·refine zn ?_;refine zn ?_;refine zn ?_;refine zn ?_;refine zQ ?_;refine za ?_;refine AL.nil (th_n (AC.ret (bq_r ?_)));have e := full_t (b := u.cs.length) h0;exact ret1 rfl (by rw [limB, e])
 refine zy ?_;refine zf ?_;refine zy ?_;refine zr ?_;refine zy ?_;refine kH ?_;refine zy ?_;refine zc ?_;refine zP ?_;refine za ?_;refine AL.nil (th_n (AC.ret (bq_r ?_)));have e := full_f (b := u.cs.length) h0;exact ret1 rfl (by rw [limB, e])
theorem en_isFull : Enters Tryz.prog 73 := enters_of Tryz.func73 rfl rfl
abbrev brC (N : Net) (i1 n1 i2 n2 i3 n3 i4 n4 : Nat) : Chunk := .cells 100 [.d (dI N.places), .d (vTs N.ts), .own i1 n1, .own i2 n2, .own i3 n3, .own i4 n4]
abbrev esL (l : List ES) : List (List DV) := l.map fun b => [dU b]
theorem esL_len (l : List ES) : (esL l).length = l.length := List.length_map _
abbrev brChs (N : Net) (u : Unf) (L A : List ES) : List (Nat × Chunk) := [(0, brC N 1 u.cs.length 2 u.es.length 3 L.length 4 A.length), (1, .arr 143 2 (condsL u.cs)), (2, .arr 59 2 (evsL u.es)), (3, .arr 97 1 (esL L)), (4, .arr 97 1 (esL A))]
set_option maxHeartbeats 2000000 in
theorem newBr_spec (N : Net) (m : List UInt8) (hN : NetS N) (hm : (m.length : Int) = N.places) : ASpec Tryz.prog 102 [netA N, aS (bstr m)] [] (Fun1 (.ptr 0 0) (brChs N ⟨madeI N m, []⟩ [] [])) := by
 have hpl := hN.p;obtain ⟨P, hP⟩ : ∃ P : Nat, N.places = (P : Int) := ⟨N.places.toNat, by omega⟩;have hmd : madeI N m = madeL m P := by unfold madeI; rw [hP, Int.toNat_natCast]
 rw [hmd];refine ASpec.of Tryz.func102 rfl rfl fun C hC => ?_
 refine AC.seq (AC.region ?_);refine kD ?_;refine za ?_;refine AL.nil (th_n (AC.seq (AC.region ?_)));refine kG ?_;refine AL.p (by exact g_build rfl rfl rfl) rfl ?_;refine AL.q (by exact h_box rfl) rfl ?_;refine AL.p (by exact as3 rfl) rfl ?_;refine AL.nil (th_n (AC.seq (AC.seq (AC.region ?_))));refine zf ?_;refine zr ?_;refine zm ?_;refine AL.nil (th_n (AC.block ?_));refine AC.loop (ι := Nat) (fun k => ⟨34, 136, [(1, aS (bstr m)), (5, .ptr 100 0), (11, aI N.places), (12, aI k)], [(100, some (.cells 100 [.d (dI N.places), .d (vTs N.ts), .own 101 (madeL m k).length, .d (.val (.slice none 0 0)), .d (.val (.slice none 0 0)), .d (.val (.slice none 0 0))])), (101, some (.arr 143 2 (condsL (madeL m k))))]⟩) (fun k => k ≤ P) (fun k => P - k) (0) ?_ (Nat.zero_le _) ?_
 ·exact (Weak.nilOwnP 5 2 (e := 143) (sz := 2) rfl rfl rfl rfl rfl).trans (zw [(100, _), (101, _)] hC)
 intro k hk;refine AC.seq (AC.region ?_);refine zc ?_;refine AL.nil (th_n (AC.seq ?_));refine AC.condD rfl (fun h0 => ?_) (fun h0 => ?_)
 ·refine AC.skip (th_n (AC.seq (AC.block (AC.seq ?_))));have hk1 : k < m.length := by omega
  have hget := bstr_at hk1;have hgd : m.getD k 0 = m[k] := by rw [List.getD_eq_getElem?_getD, List.getElem?_eq_getElem hk1]; rfl
  have hln := madeL_len m k;refine AC.region ?_;refine zm ?_;refine za ?_;refine AL.nil (th_n (AC.seq (AC.region ?_)));refine zm ?_;refine zm ?_;refine AL.p (by exact g_index rfl rfl rfl (by rfl) (by assumption)) rfl ?_;refine zc ?_;refine AL.nil (th_n ?_);refine AC.condD rfl (fun h1 => ?_) (fun h1 => ?_)
  ·refine AC.region ?_;refine AL.p (by exact mv3 rfl) rfl ?_;refine AL.p (by exact mv3 rfl) rfl ?_;refine AL.p (by exact g_nilP rfl) rfl ?_;refine zF ?_;refine zF ?_;refine zl ?_;refine zm ?_;refine AL.p (by exact g_build rfl rfl rfl) rfl ?_;refine AL.q (by exact h_litF rfl rfl rfl rfl rfl rfl rfl rfl) rfl ?_;refine AL.q (by exact h_appendC (madeL m k) [⟨(k : Int), -1⟩] (.own rfl rfl (condsL_len _).symm) (.view rfl) (by simp; omega) (by simp)) rfl ?_;refine AL.p (by exact g_nilP rfl) rfl ?_;refine zF ?_;refine zF ?_;refine zs ?_;refine AL.nil (ib_n (th_n (AC.region ?_)));refine zA ?_;refine zm ?_;refine AL.nil (th_n ?_)
   (have e := madeL_t (m := m) (k := k) (mk_t hgd h1); exact ⟨k + 1, by omega, by omega, zw [(100, _), (101, _)] hC (b := by rw [e]; repeat (first | exact True.intro | refine And.intro ?_ ?_ | exact DLead.same | exact rfl | refine ⟨_, _, rfl, rfl, ?_⟩ | refine ⟨_, rfl, ?_⟩ | refine ⟨_, _, rfl, ?_, ?_⟩))⟩)
  refine AC.skip (ib_n (th_n (AC.region ?_)));refine zA ?_;refine zm ?_;refine AL.nil (th_n ?_)
  (have e := madeL_f (m := m) (k := k) (mk_f hgd h1); exact ⟨k + 1, by omega, by omega, zw [(100, _), (101, _)] hC (b := by rw [e]; repeat (first | exact True.intro | refine And.intro ?_ ?_ | exact DLead.same | exact rfl | refine ⟨_, _, rfl, rfl, ?_⟩ | refine ⟨_, rfl, ?_⟩ | refine ⟨_, _, rfl, ?_, ?_⟩))⟩)
 refine AC.exit (th_e (th_e (ib_y (th_n (AC.seq ?_)))));have hkP : k = P := by omega
 subst hkP;refine AC.weak (Weak.nilOwnP 5 3 (e := 59) (sz := 2) rfl rfl rfl rfl rfl) ?_;refine AC.weak (Weak.nilOwnP 5 4 (e := 97) (sz := 1) rfl rfl rfl rfl rfl) ?_;refine AC.weak (Weak.nilOwnP 5 5 (e := 97) (sz := 1) rfl rfl rfl rfl rfl) ?_;refine AC.region ?_;refine AL.p (by exact mv3 rfl) rfl ?_;refine AL.p (by exact as3 rfl) rfl ?_;refine AL.nil (th_n (AC.ret (bq_r ?_)));exact retN [(0, _), (1, _), (2, _), (3, _), (4, _)] rfl (by repeat (first | exact rfl | refine ⟨_, rfl, ?_⟩)) (by repeat (first | exact True.intro | refine And.intro ?_ ?_ | exact DLead.same | exact rfl | refine ⟨_, _, rfl, rfl, ?_⟩ | refine ⟨_, rfl, ?_⟩ | refine ⟨_, _, rfl, ?_, ?_⟩)) rfl rfl
theorem en_newBr : Enters Tryz.prog 102 := enters_of Tryz.func102 rfl rfl
theorem own_le {α : Type} (l : List α) (f : α → List DV) : l.length ≤ (l.map f).length := Nat.le_of_eq (List.length_map _).symm
theorem own_take {α : Type} (l : List α) (f : α → List DV) : (l.map f).take l.length = l.map f := List.take_of_length_le (Nat.le_of_eq (List.length_map _))
theorem br_lent {s : ASt} {N : Net} {u : Unf} {L A : List ES} (ids : List Nat) (i0 i1 i2 i3 i4 : Nat) {xs ys : List AV} (hi0 : ids.contains i0 = true) (hi1 : ids.contains i1 = true) (hi2 : ids.contains i2 = true) (hi3 : ids.contains i3 = true) (hi4 : ids.contains i4 = true) (h0 : s.chunk i0 = some (brC N i1 u.cs.length i2 u.es.length i3 L.length i4 A.length)) (h1 : s.chunk i1 = some (.arr 143 2 (condsL u.cs))) (h2 : s.chunk i2 = some (.arr 59 2 (evsL u.es))) (h3 : s.chunk i3 = some (.arr 97 1 (esL L))) (h4 : s.chunk i4 = some (.arr 97 1 (esL A))) (hr : BAs ids s xs ys) : BAs ids s (.d (.ref (brD N u L A)) :: xs) (.ptr i0 0 :: ys) :=
 .cons (.ptr hi0 h0 (.cons .d (.cons .d (.cons (.own hi1 h1 (own_le _ _) (own_take _ _)) (.cons (.own hi2 h2 (own_le _ _) (own_take _ _)) (.cons (.own hi3 h3 (own_le _ _) (own_take _ _)) (.cons (.own hi4 h4 (own_le _ _) (own_take _ _)) .nil))))))) hr
def agK (u : Unf) (h : Ev) : Nat → ES
 | 0 => 0
 | k + 1 => if shareI (evAt u (k : Int)) h.pre = true then agK u h k ||| bitU k else agK u h k
def agA (u : Unf) (h : Ev) (A : List ES) : Nat → List ES
 | 0 => A
 | k + 1 => if shareI (evAt u (k : Int)) h.pre = true then (agA u h A k).set k (A.getD k 0 ||| bitU u.es.length) else agA u h A k
theorem agA_len (u : Unf) (h : Ev) (A : List ES) : ∀ k, (agA u h A k).length = A.length
 | 0 => rfl
 | k + 1 => by rw [agA]; split; rw [List.length_set, agA_len u h A k]; exact agA_len u h A k
theorem agA_get (u : Unf) (h : Ev) (A : List ES) : ∀ k i, k ≤ i → (agA u h A k)[i]? = A[i]?
 | 0, i, _ => rfl
 | k + 1, i, hi => by
  rw [agA]
  split
  ·rw [List.getElem?_set_ne (by omega)]; exact agA_get u h A k i (by omega)
  exact agA_get u h A k i (by omega)
def addL (u : Unf) (L : List ES) (h : Ev) : List ES := L ++ [allB u L h.pre ||| bitU u.es.length]
def addA (u : Unf) (A : List ES) (h : Ev) : List ES := agA u h A u.es.length ++ [agK u h u.es.length]
theorem vES_getI {l : List ES} {k : Nat} {x : ES} (h : l[k]? = some x) : (esL l)[k]? = some [dU x] := by rw [List.getElem?_map, h]; rfl
theorem esL_set (l : List ES) (i : Nat) (b : ES) : (esL l).set i [dU b] = esL (l.set i b) := by simp [esL, List.map_set]
theorem h_appendS (acc new : List ES) {s : ASt} {dst : Option Nat} {ty : Nat} {pos : String} {af : Array Edge} {gd : Option (Nat × Bool)} {x y : Operand} {f : Nat} {ids ids2 : List Nat} {gone : List (Nat × Option Chunk)}
  (hto : AppTo s x 97 1 (esL acc) ids gone) (harg : AppArg s y 1 (esL new) ids2) (h : (acc ++ new).length ≤ 100000000) (hnew : gone = [] → 0 < new.length) :
  NOp Tryz.prog (ids ++ ids2) s ⟨dst, .call { callee := .builtin .append, args := #[x, y], argTypes := #[98, 98] }, ty, pos, af, gd⟩ f ⟨.own f (acc ++ new).length, (f, some (.arr 97 1 (esL (acc ++ new)))) :: gone⟩ := by
 have := h_append (P := Tryz.prog) (s := s) (dst := dst) (ty := ty) (pos := pos) (af := af) (gd := gd) (x := x) (y := y) (f := f) (t := 98) (tx := 98) (k := (acc ++ new).length) rfl rfl rfl rfl rfl rfl hto harg (by simp) (by omega) (by show (acc ++ new).length * 8 ≤ _; omega) (fun h => by rw [esL_len]; exact hnew h)
 rwa [← List.map_append] at this
theorem bne_t {b : Bool} (h : b = false) : ¬ b = true := by rw [h]; exact Bool.false_ne_true
set_option maxRecDepth 20000 in
set_option maxHeartbeats 8000000 in
theorem brAdd_spec (N : Net) (u : Unf) (L A : List ES) (h : Ev) (hB : NetB N) (hW : WB u L A) (he : u.es.length < 64) (hh : h.pre.length ≤ 1000000) (hr : inR N h.t = true) (hin : ∀ c, c ∈ h.pre → 0 ≤ c ∧ c < u.cs.length) : ASpec Tryz.prog 72 [.ptr 0 0, evA h] (brChs N u L A) (Fun1 (.tup []) [(0, brC N 5 (withI N u h).cs.length 6 (withI N u h).es.length 7 (addL u L h).length 8 (addA u A h).length), (5, .arr 143 2 (condsL (withI N u h).cs)), (6, .arr 59 2 (evsL (withI N u h).es)), (7, .arr 97 1 (esL (addL u L h))), (8, .arr 97 1 (esL (addA u A h)))]) := by
 have hcl := hW.w.c;have hll := hW.l;have hal := hW.a;obtain ⟨i, hi, hin2⟩ := inR_nat hr;have hgetT := tsL_get hin2;have hpl := (hB.t _ (List.getElem_mem hin2)).2;have hwi : withI N u h = ⟨withC u N.ts[i].post, u.es ++ [h]⟩ := by unfold withI; rw [hi, tAt_nat hin2]
 refine ASpec.of Tryz.func72 rfl rfl fun C hC => ?_
 refine AC.seq (AC.region ?_);refine kD ?_;refine AL.nil (th_n (AC.seq (AC.region ?_)));refine AL.p (by exact mv3 rfl) rfl ?_;refine AL.p (by exact g_nilP rfl) rfl ?_;refine zF ?_;refine zF ?_;refine zl ?_;refine AL.p (by exact g_len_own (sz := 1) (els := []) (e' := 0) rfl rfl (by simp only [maxLen]; omega)) rfl ?_;refine za ?_;refine za ?_;refine za ?_;refine AL.nil (th_n (AC.seq (AC.seq (AC.region ?_))));refine zf ?_;refine zr ?_;refine kH ?_;refine zm ?_;refine AL.nil (th_n (AC.block ?_));refine AC.loop (ι := Nat) (fun k => ⟨135, 136, [(0, .ptr 0 0), (3, .d (.ref (evD h))), (4, aI u.es.length), (5, aU (allB u L (h.pre.take k))), (6, aU 0), (20, .d (vI h.pre)), (21, aI h.pre.length), (22, aI k)], chL (brChs N u L A)⟩) (fun k => k ≤ h.pre.length) (fun k => h.pre.length - k) (0) ?_ (Nat.zero_le _) ?_
 ·exact zw [] hC
 intro k hk;refine AC.seq (AC.region ?_);refine zc ?_;refine AL.nil (th_n (AC.seq ?_));refine AC.condD rfl (fun h0 => ?_) (fun h0 => ?_)
 ·refine AC.skip (th_n (AC.seq (AC.block (AC.seq ?_))));have hk1 : k < h.pre.length := by omega
  have hget := ints_at hk1;have hinc := hin _ (List.getElem_mem hk1);have hP := brProducer_spec N u L A h.pre[k] hW hinc.1 hinc.2;have hat := allB_take (u := u) (L := L) hk1;refine AC.region ?_;refine AL.p (by exact g_ia_view rfl rfl rfl rfl rfl (by rfl) (by assumption)) rfl ?_;refine zr ?_;refine za ?_;refine AL.nil (th_n (AC.region ?_));refine zm ?_;refine AL.p (by exact mv3 rfl) rfl ?_;refine zm ?_;refine AL.q (by exact h_borrow [0, 1, 2, 3, 4] en_brProducer rfl rfl hP (br_lent [0, 1, 2, 3, 4] 0 1 2 3 4 rfl rfl rfl rfl rfl rfl rfl rfl rfl rfl (.cons (.of .d) .nil)) rfl) rfl ?_;refine AL.p (by exact g_or64 rfl rfl) rfl ?_;refine za ?_;refine AL.nil (ib_n (th_n (AC.region ?_)));refine zA ?_;refine zm ?_;refine AL.nil (th_n ?_);exact ⟨k + 1, by omega, by omega, Weak.ren _ [] hC rfl (by rw [hat]; repeat (first | exact True.intro | refine And.intro ?_ ?_ | exact DLead.same | exact rfl | refine ⟨_, rfl, ?_⟩)) (by repeat (first | exact True.intro | refine And.intro ?_ ?_ | exact DLead.same | exact rfl | refine ⟨_, _, rfl, rfl, ?_⟩ | refine ⟨_, rfl, ?_⟩ | refine ⟨_, _, rfl, ?_, ?_⟩)) rfl rfl rfl⟩
 refine AC.exit (th_e (th_e (ib_y (th_n (AC.seq (AC.seq ?_))))));have hkk : k = h.pre.length := by omega
 subst hkk;rw [List.take_length];refine AC.region ?_;refine AL.p (by exact mv3 rfl) rfl ?_;refine AL.p (by exact g_nilP rfl) rfl ?_;refine zF ?_;refine zF ?_;refine zl ?_;refine AL.p (by exact g_len_own (sz := 1) (els := []) (e' := 0) rfl rfl (by simp only [maxLen]; omega)) rfl ?_;refine zm ?_;refine AL.nil (th_n (AC.block ?_));refine AC.loop (ι := Nat) (fun k => ⟨135, 136, [(0, .ptr 0 0), (3, .d (.ref (evD h))), (4, aI u.es.length), (5, aU (allB u L h.pre)), (6, aU (agK u h k)), (36, .own 2 u.es.length), (37, aI u.es.length), (38, aI k)], chL [(0, brC N 1 u.cs.length 2 u.es.length 3 L.length 4 A.length), (1, .arr 143 2 (condsL u.cs)), (2, .arr 59 2 (evsL u.es)), (3, .arr 97 1 (esL L)), (4, .arr 97 1 (esL (agA u h A k)))]⟩) (fun k => k ≤ u.es.length) (fun k => u.es.length - k) (0) ?_ (Nat.zero_le _) ?_
 ·exact zw [] hC
 intro k hk;refine AC.seq (AC.region ?_);refine zc ?_;refine AL.nil (th_n (AC.seq ?_));refine AC.condD rfl (fun h1 => ?_) (fun h1 => ?_)
 ·refine AC.skip (th_n (AC.seq (AC.block (AC.seq ?_))));have hk1 : k < u.es.length := by omega
  have hgete := evsL_get hk1;have hel := hW.w.l _ (List.getElem_mem hk1);have hev : evAt u (k : Int) = u.es[k].pre := evAt_nat hk1;have hSh := share_spec u.es[k].pre h.pre hel hh;have hka : k < A.length := by omega
  have hgA : (agA u h A k)[k]? = some A[k] := by rw [agA_get u h A k k (Nat.le_refl _), List.getElem?_eq_getElem hka]
  have hgetA := vES_getI hgA;have hAd : A.getD k 0 = A[k] := by rw [List.getD_eq_getElem?_getD, List.getElem?_eq_getElem hka]; rfl
  have hKs : agK u h (k + 1) = if shareI u.es[k].pre h.pre = true then agK u h k ||| bitU k else agK u h k := by rw [agK, hev]
  have hAs : agA u h A (k + 1) = if shareI u.es[k].pre h.pre = true then (agA u h A k).set k (A[k] ||| bitU u.es.length) else agA u h A k := by rw [agA, hev, hAd]
  obtain ⟨sh, hsh⟩ := eqx (shareI u.es[k].pre h.pre);rw [← hsh] at hSh hKs hAs;refine AC.region ?_;refine zm ?_;refine AL.p (by exact g_ia_own rfl rfl rfl rfl rfl (by rfl) (by omega) (by rfl)) rfl ?_;refine AL.p (by exact g_load_arrN rfl rfl rfl rfl rfl rfl hgete) rfl ?_;refine kE ?_;refine za ?_;refine zs ?_;refine AL.nil (th_n (AC.seq (AC.region ?_)));refine zF ?_;refine zl ?_;refine zf ?_;refine zr ?_;refine kV en_share hSh ?_;refine AL.nil (th_n ?_);refine AC.condB rfl (fun h2 => ?_) (fun h2 => ?_)
  ·refine AC.seq (AC.region ?_);refine zm ?_;refine zm ?_;refine AL.p (by exact g_shl64 rfl rfl (by omega)) rfl ?_;refine AL.p (by exact g_or64 rfl rfl) rfl ?_;refine za ?_;refine AL.nil (th_n ?_);refine AC.drawn' mixed_ok [[], [0], [0,1], [0,1,2], [], [0,1,2,3,4], [0,1,2,3,4,5], [], [7], [0,1,2,3,4,5,6,7,8], [0,1,2,3,4,5,6,7,8,9], [0,1,2,3,4,5,6,7,8,9,10]] (by decide) ?_;refine zd 0 [] 12 (by exact mv3 rfl) ?_;refine zd 1 [0] 12 (by exact g_nilP rfl) ?_;refine zd 2 [0,1] 12 (by exact g_fa_ptr rfl rfl rfl rfl rfl) ?_;refine zd 3 [0,1,2] 12 (by exact g_load_ptr rfl rfl rfl rfl rfl) ?_;refine zd 4 [] 12 (by exact mv1 rfl) ?_;refine zd 5 [0,1,2,3,4] 12 (by exact g_ia_own rfl rfl rfl rfl rfl (by rfl) (by omega) (by exact Nat.mul_one _)) ?_;refine zd 6 [0,1,2,3,4,5] 12 (by exact g_load_arr1 rfl rfl rfl rfl (by assumption)) ?_;refine zd 7 [] 12 (by exact mv1 rfl) ?_;refine zd 8 [7] 12 (by exact g_shl64 rfl rfl he) ?_;refine zd 9 (List.range 9) 12 (by exact g_or64 rfl rfl) ?_;refine zd 10 (List.range 10) 12 (by exact g_ia_own rfl rfl rfl rfl rfl (by rfl) (by omega) (by exact Nat.mul_one _)) ?_;refine zh 11 (List.range 11) 12 (by exact h_store_arr1 rfl rfl rfl rfl (by exact .same) (by assumption)) ?_;refine zj 12 ?_;refine ib_n (th_n (AC.region ?_));refine zA ?_;refine zm ?_;refine AL.nil (th_n ?_)
   (have e1 := hKs.trans (if_pos h2); have e2 := hAs.trans (if_pos h2); exact ⟨k + 1, by omega, by omega, zw [] hC (by rw [e1]; repeat (first | exact True.intro | refine And.intro ?_ ?_ | exact DLead.same | exact rfl | refine ⟨_, rfl, ?_⟩)) (by rw [e2, ← esL_set]; repeat (first | exact True.intro | refine And.intro ?_ ?_ | exact DLead.same | exact rfl | refine ⟨_, _, rfl, rfl, ?_⟩ | refine ⟨_, rfl, ?_⟩ | refine ⟨_, _, rfl, ?_, ?_⟩))⟩)
  refine AC.skip (ib_n (th_n (AC.region ?_)));refine zA ?_;refine zm ?_;refine AL.nil (th_n ?_)
  (have e1 := hKs.trans (if_neg (bne_t h2)); have e2 := hAs.trans (if_neg (bne_t h2)); exact ⟨k + 1, by omega, by omega, zw [] hC (by rw [e1]; repeat (first | exact True.intro | refine And.intro ?_ ?_ | exact DLead.same | exact rfl | refine ⟨_, rfl, ?_⟩)) (by rw [e2]; repeat (first | exact True.intro | refine And.intro ?_ ?_ | exact DLead.same | exact rfl | refine ⟨_, _, rfl, rfl, ?_⟩ | refine ⟨_, rfl, ?_⟩ | refine ⟨_, _, rfl, ?_, ?_⟩))⟩)
 refine AC.exit (th_e (th_e (ib_y (th_n (AC.seq ?_)))));have hkk : k = u.es.length := by omega
 subst hkk;have hAl := agA_len u h A u.es.length;obtain ⟨A1, hA1⟩ := eqx (agA u h A u.es.length);obtain ⟨k1, hk1⟩ := eqx (agK u h u.es.length);obtain ⟨l1, hl1⟩ := eqx (allB u L h.pre);have haL : addL u L h = L ++ [l1 ||| bitU u.es.length] := by rw [hl1]; rfl
 have haA : addA u A h = A1 ++ [k1] := by rw [hA1, hk1]; rfl
 rw [← hA1] at hAl ⊢;rw [← hk1, ← hl1];refine AC.drawn' mixed_ok [[], [], [1], [1,2], [1,2,3], [1,2,3,4], [], [6], [], [], [9], [8,9,10], [6,7,8,9,10,11], [6,7,8,9,10,11,12], [1,2,3,4,5,6,7,8,9,10,11,12,13], [0,1,2,3,4,5,6,7,8,9,10,11,12,13,14], [0,1,2,3,4,5,6,7,8,9,10,11,12,13,14,15], [0,1,2,3,4,5,6,7,8,9,10,11,12,13,14,15,16], [0,1,2,3,4,5,6,7,8,9,10,11,12,13,14,15,16,17]] (by decide) ?_;refine zd 0 [] 19 (by exact mv3 rfl) ?_;refine zd 1 [] 19 (by exact mv3 rfl) ?_;refine zd 2 [1] 19 (by exact g_nilP rfl) ?_;refine zd 3 [1,2] 19 (by exact g_fa_ptr rfl rfl rfl rfl rfl) ?_;refine zd 4 [1,2,3] 19 (by exact g_fa_ptr rfl rfl rfl rfl rfl) ?_;refine zd 5 [1,2,3,4] 19 (by exact g_load_ptr rfl rfl rfl rfl rfl) ?_;refine zd 6 [] 19 (by exact g_fa_ref rfl rfl rfl rfl rfl rfl) ?_;refine zd 7 [6] 19 (by exact g_load_ref rfl rfl rfl) ?_;refine zh 8 [] 19 (by exact h_lit rfl rfl rfl rfl rfl rfl rfl rfl) ?_;refine zd 9 [] 19 (by exact g_fa_ref rfl rfl rfl rfl rfl rfl) ?_;refine zd 10 [9] 19 (by exact g_load_ref rfl rfl rfl) ?_;refine zh 11 [8,9,10] 19 (by exact NOp.frz (h_appendI [] h.pre (.own rfl rfl rfl) (.view rfl) (by simp; omega) (by simp)) rfl (Nat.le_of_eq (ints_len _).symm) (ints_all _)) ?_;refine zd 12 [6,7,8,9,10,11] 19 (by exact g_build rfl rfl rfl) ?_;refine zh 13 [6,7,8,9,10,11,12] 19 (by exact h_litF rfl rfl rfl rfl rfl rfl rfl rfl) ?_;refine zh 14 [1,2,3,4,5,6,7,8,9,10,11,12,13] 19 (by exact h_appendE u.es [h] (.own rfl rfl (evsL_len _).symm) (.view rfl) (by simp; omega) (by simp)) ?_;refine zd 15 (List.range 15) 19 (by exact g_nilP rfl) ?_;refine zd 16 (List.range 16) 19 (by exact g_fa_ptr rfl rfl rfl rfl rfl) ?_;refine zd 17 (List.range 17) 19 (by exact g_fa_ptr rfl rfl rfl rfl rfl) ?_;refine zh 18 (List.range 18) 19 (by exact h_store rfl rfl rfl rfl rfl rfl) ?_;refine zj 19 ?_;refine th_n (AC.seq ?_);refine AC.drawn' mixed_ok [[], [], [], [2], [2,3], [2,3,4], [], [], [7], [6,7,8], [6,7,8,9], [2,3,4,5,6,7,8,9,10], [], [12], [12,13], [12,13,14], [], [16], [2,3,4,5,6,7,8,9,10,11,12,13,14,15,16,17], [0,2,3,4,5,6,7,8,9,10,11,12,13,14,15,16,17,18], [0,2,3,4,5,6,7,8,9,10,11,12,13,14,15,16,17,18,19], [0,2,3,4,5,6,7,8,9,10,11,12,13,14,15,16,17,18,19,20], [0,1,2,3,4,5,6,7,8,9,10,11,12,13,14,15,16,17,18,19,20,21], [0,1,2,3,4,5,6,7,8,9,10,11,12,13,14,15,16,17,18,19,20,21,22], [0,1,2,3,4,5,6,7,8,9,10,11,12,13,14,15,16,17,18,19,20,21,22,23]] (by decide) ?_;refine zd 0 [] 25 (by exact mv3 rfl) ?_;refine zd 1 [] 25 (by exact mv3 rfl) ?_;refine zd 2 [] 25 (by exact mv3 rfl) ?_;refine zd 3 [2] 25 (by exact g_nilP rfl) ?_;refine zd 4 [2,3] 25 (by exact g_fa_ptr rfl rfl rfl rfl rfl) ?_;refine zd 5 [2,3,4] 25 (by exact g_load_ptr rfl rfl rfl rfl rfl) ?_;refine zd 6 [] 25 (by exact mv1 rfl) ?_;refine zd 7 [] 25 (by exact mv1 rfl) ?_;refine zd 8 [7] 25 (by exact g_shl64 rfl rfl he) ?_;refine zd 9 [6,7,8] 25 (by exact g_or64 rfl rfl) ?_;refine zh 10 [6,7,8,9] 25 (by exact h_litF rfl rfl rfl rfl rfl rfl rfl rfl) ?_;refine zh 11 [2,3,4,5,6,7,8,9,10] 25 (by exact h_appendS L [l1 ||| bitU u.es.length] (.own rfl rfl (esL_len _).symm) (.view rfl) (by simp; omega) (by simp)) ?_;refine zd 12 [] 25 (by exact mv3 rfl) ?_;refine zd 13 [12] 25 (by exact g_nilP rfl) ?_;refine zd 14 [12,13] 25 (by exact g_fa_ptr rfl rfl rfl rfl rfl) ?_;refine zd 15 [12,13,14] 25 (by exact g_load_ptr rfl rfl rfl rfl rfl) ?_;refine zd 16 [] 25 (by exact mv1 rfl) ?_;refine zh 17 [16] 25 (by exact h_litF rfl rfl rfl rfl rfl rfl rfl rfl) ?_;refine zh 18 [2,3,4,5,6,7,8,9,10,11,12,13,14,15,16,17] 25 (by exact h_appendS A1 [k1] (.own rfl rfl (by rw [esL_len, hAl])) (.view rfl) (by simp; omega) (by simp)) ?_;refine zd 19 [0,2,3,4,5,6,7,8,9,10,11,12,13,14,15,16,17,18] 25 (by exact g_nilP rfl) ?_;refine zd 20 [0,2,3,4,5,6,7,8,9,10,11,12,13,14,15,16,17,18,19] 25 (by exact g_fa_ptr rfl rfl rfl rfl rfl) ?_;refine zh 21 [0,2,3,4,5,6,7,8,9,10,11,12,13,14,15,16,17,18,19,20] 25 (by exact h_store rfl rfl rfl rfl rfl rfl) ?_;refine zd 22 (List.range 22) 25 (by exact g_nilP rfl) ?_;refine zd 23 (List.range 23) 25 (by exact g_fa_ptr rfl rfl rfl rfl rfl) ?_
 refine zh 24 (List.range 24) 25 (by exact h_store rfl rfl rfl rfl rfl rfl) ?_;refine zj 25 ?_;refine th_n (AC.seq ?_);refine AC.drawn' mixed_ok [[], [0], [0,1], [0,1,2], [0,1,2,3], [], [5], [0,1,2,3,4,5,6], [0,1,2,3,4,5,6,7], [0,1,2,3,4,5,6,7,8], [0,1,2,3,4,5,6,7,8,9], []] (by decide) ?_;refine zd 0 [] 12 (by exact mv3 rfl) ?_;refine zd 1 [0] 12 (by exact g_nilP rfl) ?_;refine zd 2 [0,1] 12 (by exact g_fa_ptr rfl rfl rfl rfl rfl) ?_;refine zd 3 [0,1,2] 12 (by exact g_fa_ptr rfl rfl rfl rfl rfl) ?_;refine zd 4 [0,1,2,3] 12 (by exact g_load_ptr rfl rfl rfl rfl rfl) ?_;refine zd 5 [] 12 (by exact g_fa_ref rfl rfl rfl rfl rfl rfl) ?_;refine zd 6 [5] 12 (by exact g_load_ref rfl rfl rfl) ?_;refine zd 7 [0,1,2,3,4,5,6] 12 (by exact g_ia_view (i := i) rfl rfl rfl rfl rfl hi hgetT) ?_;refine zd 8 [0,1,2,3,4,5,6,7] 12 (by exact g_fa_ref rfl rfl rfl rfl rfl rfl) ?_;refine zd 9 (List.range 9) 12 (by exact g_load_ref rfl rfl rfl) ?_;refine zd 10 (List.range 10) 12 (by exact g_len_view rfl rfl (by exact List.length_map _)) ?_;refine zd 11 [] 12 (by exact mv1 rfl) ?_;refine zj 12 ?_;refine th_n (AC.block ?_);refine AC.loop (ι := Nat) (fun k => ⟨135, 136, [(0, .ptr 0 0), (4, aI u.es.length), (114, .d (vI N.ts[i].post)), (115, aI N.ts[i].post.length), (116, aI k)], [(0, some (brC N 101 (u.cs.length + k) 102 (u.es ++ [h]).length 103 (L ++ [l1 ||| bitU u.es.length]).length 104 (A1 ++ [k1]).length)), (101, some (.arr 143 2 (condsL (withC u (N.ts[i].post.take k))))), (102, some (.arr 59 2 (evsL (u.es ++ [h])))), (103, some (.arr 97 1 (esL (L ++ [l1 ||| bitU u.es.length])))), (104, some (.arr 97 1 (esL (A1 ++ [k1]))))]⟩) (fun k => k ≤ N.ts[i].post.length) (fun k => N.ts[i].post.length - k) (0) ?_ (Nat.zero_le _) ?_
 ·exact Weak.ren _ [(101, _), (102, _), (103, _), (104, _)] hC rfl (by repeat (first | exact True.intro | refine And.intro ?_ ?_ | exact DLead.same | exact rfl | refine ⟨_, rfl, ?_⟩)) (by rw [show withC u (N.ts[i].post.take 0) = u.cs from List.append_nil _]; repeat (first | exact True.intro | refine And.intro ?_ ?_ | exact DLead.same | exact rfl | refine ⟨_, _, rfl, rfl, ?_⟩ | refine ⟨_, rfl, ?_⟩ | refine ⟨_, _, rfl, ?_, ?_⟩)) rfl rfl rfl
 intro k hk;refine AC.seq (AC.region ?_);refine zc ?_;refine AL.nil (th_n (AC.seq ?_));refine AC.condD rfl (fun h2 => ?_) (fun h2 => ?_)
 ·refine AC.skip (th_n (AC.seq (AC.block (AC.seq ?_))));have hkp : k < N.ts[i].post.length := by omega
  have hgetp := ints_at hkp;have hwt := withC_take (u := u) hkp;have hwl : (withC u (N.ts[i].post.take k)).length = u.cs.length + k := by rw [withC_len, List.length_take]; omega
  refine AC.region ?_;refine AL.p (by exact g_ia_view rfl rfl rfl rfl rfl (by rfl) (by assumption)) rfl ?_;refine zr ?_;refine za ?_;refine AL.nil (th_n (AC.region ?_));refine AL.p (by exact mv3 rfl) rfl ?_;refine AL.p (by exact mv3 rfl) rfl ?_;refine AL.p (by exact g_nilP rfl) rfl ?_;refine zF ?_;refine zF ?_;refine zl ?_;refine zm ?_;refine zm ?_;refine AL.p (by exact g_build rfl rfl rfl) rfl ?_;refine AL.q (by exact h_litF rfl rfl rfl rfl rfl rfl rfl rfl) rfl ?_;refine AL.q (by exact h_appendC (withC u (N.ts[i].post.take k)) [⟨N.ts[i].post[k], (u.es.length : Int)⟩] (.own rfl rfl (by rw [condsL_len, hwl])) (.view rfl) (by rw [List.length_append, hwl]; show u.cs.length + k + 1 ≤ _; omega) (by simp)) rfl ?_;refine AL.p (by exact g_nilP rfl) rfl ?_;refine zF ?_;refine zF ?_;refine zs ?_;refine AL.nil (ib_n (th_n (AC.region ?_)));refine zA ?_;refine zm ?_;refine AL.nil (th_n ?_);have hl5 : (withC u (N.ts[i].post.take k) ++ [(⟨N.ts[i].post[k], (u.es.length : Int)⟩ : Cond)]).length = u.cs.length + (k + 1) := by rw [List.length_append, hwl]; rfl
  exact ⟨k + 1, by omega, by omega, zw [(101, _), (102, _), (103, _), (104, _)] hC (b := by rw [hwt, ← hl5]; repeat (first | exact True.intro | refine And.intro ?_ ?_ | exact DLead.same | exact rfl | refine ⟨_, _, rfl, rfl, ?_⟩ | refine ⟨_, rfl, ?_⟩ | refine ⟨_, _, rfl, ?_, ?_⟩))⟩
 refine AC.exit (th_e (th_e (ib_y (bq_n ?_))));have hkk : k = N.ts[i].post.length := by omega
 subst hkk;rw [List.take_length];have hwl : (withC u N.ts[i].post).length = u.cs.length + N.ts[i].post.length := withC_len _ _;exact retN [(5, _), (6, _), (7, _), (8, _)] rfl (by repeat (first | exact rfl | refine ⟨_, rfl, ?_⟩)) (by rw [hwi, haL, haA]; simp only [hwl]; repeat (first | exact True.intro | refine And.intro ?_ ?_ | exact DLead.same | exact rfl | refine ⟨_, _, rfl, rfl, ?_⟩ | refine ⟨_, rfl, ?_⟩ | refine ⟨_, _, rfl, ?_, ?_⟩)) rfl rfl
theorem en_brAdd : Enters Tryz.prog 72 := enters_of Tryz.func72 rfl rfl
theorem getD_setB (fl : List Bool) (i j : Nat) : (fl.set i true).getD j false = ((decide (i = j) && decide (i < fl.length)) || fl.getD j false) := by
 rw [List.getD_eq_getElem?_getD, List.getD_eq_getElem?_getD, List.getElem?_set]
 by_cases h : i = j
 ·subst h
  by_cases h2 : i < fl.length
  ·simp [h2]
  simp [h2, List.getElem?_eq_none (show fl.length ≤ i by omega)]
 simp [h]
inductive Rch (u : Unf) (S : List Int) : Nat → Prop
 | base {e : Nat} : (e : Int) ∈ S → e < u.es.length → Rch u S e
 | step {e f : Nat} {c : Int} : Rch u S e → c ∈ evAt u (e : Int) → (cAt u c).by_ = (f : Int) → Rch u S f
def Ord (u : Unf) : Prop := ∀ (e : Nat) c, e < u.es.length → c ∈ evAt u (e : Int) → (cAt u c).by_ < e
theorem Rch.lt {u : Unf} {S : List Int} (ho : Ord u) {f : Nat} (h : Rch u S f) : f < u.es.length := by
 induction h with
 | base _ h => exact h
 | step _ hc hb ih => have := ho _ _ ih hc; omega
theorem Rch.one {u : Unf} {S : List Int} {f : Nat} (h : Rch u S f) : ∃ s, s ∈ S ∧ Rch u [s] f := by
 induction h with
 | base h1 h2 => exact ⟨_, h1, .base (List.mem_singleton.2 rfl) h2⟩
 | step _ hc hb ih => obtain ⟨s, hs, hr⟩ := ih; exact ⟨s, hs, hr.step hc hb⟩
theorem Rch.mono {u : Unf} {S T : List Int} {f : Nat} (hST : ∀ s, s ∈ S → 0 ≤ s → s ∈ T) (h : Rch u S f) : Rch u T f := by
 induction h with
 | base h1 h2 => exact .base (hST _ h1 (by omega)) h2
 | step _ hc hb ih => exact ih.step hc hb
theorem stepF_get (u : Unf) (e : Nat) : ∀ (l : List Int) (fl : List Bool), (∀ c, c ∈ l → (cAt u c).by_ < e) → e ≤ fl.length → ∀ j, (l.foldl (stepC u e) fl).getD j false = (fl.getD j false || (fl.getD e false && l.any (fun c => decide ((cAt u c).by_ = (j : Int)))))
 | [], fl, h, hl, j => by simp
 | c :: l, fl, h, hl, j => by
  have hc := h c List.mem_cons_self;have hle : (stepC u e fl c).length = fl.length := stepC_len u e fl c;rw [List.foldl_cons, stepF_get u e l (stepC u e fl c) (fun c' hc' => h c' (List.mem_cons_of_mem _ hc')) (by omega)]
  have key : ∀ j, (stepC u e fl c).getD j false = (fl.getD j false || (fl.getD e false && decide ((cAt u c).by_ = (j : Int)))) := by
   intro j;unfold stepC
   by_cases h1 : fl.getD e false = true ∧ 0 ≤ (cAt u c).by_
   ·rw [if_pos h1, getD_setB, h1.1, Bool.true_and]
    have : (decide ((cAt u c).by_.toNat = j) && decide ((cAt u c).by_.toNat < fl.length)) = decide ((cAt u c).by_ = (j : Int)) := by
     rw [← Bool.decide_and]; apply decide_eq_decide.2; constructor
     ·intro ⟨a, _⟩; omega
     intro a; omega
    rw [this, Bool.or_comm]
   rw [if_neg h1]
   by_cases h2 : fl.getD e false = true
   ·have : ¬ (cAt u c).by_ = (j : Int) := fun h3 => h1 ⟨h2, by omega⟩
    rw [decide_eq_false this, Bool.and_false, Bool.or_false]
   rw [Bool.not_eq_true] at h2; rw [h2, Bool.false_and, Bool.or_false]
  have ke : (stepC u e fl c).getD e false = fl.getD e false := by
   rw [key e, decide_eq_false (by omega), Bool.and_false, Bool.or_false]
  rw [ke, key j, List.any_cons];cases fl.getD j false <;> cases fl.getD e false <;> simp
theorem stepE_get {u : Unf} (ho : Ord u) {e : Nat} {fl : List Bool} (he : e < u.es.length) (hl : fl.length = u.es.length) (j : Nat) : (stepE u e fl).getD j false = (fl.getD j false || (fl.getD e false && (evAt u (e : Int)).any (fun c => decide ((cAt u c).by_ = (j : Int))))) :=
 stepF_get u e _ fl (fun c hc => ho e c he hc) (by omega) j
theorem stepE_len' {u : Unf} {e : Nat} {fl : List Bool} (hl : fl.length = u.es.length) : (stepE u e fl).length = u.es.length := by rw [stepE_len]; exact hl
theorem downE_rch {u : Unf} (ho : Ord u) {S : List Int} : ∀ (k : Nat) (fl : List Bool), k ≤ u.es.length → fl.length = u.es.length → (∀ f, fl.getD f false = true → Rch u S f) → (∀ e : Nat, (e : Int) ∈ S → e < u.es.length → fl.getD e false = true) → (∀ (e f : Nat) c, k ≤ e → fl.getD e false = true → c ∈ evAt u (e : Int) → (cAt u c).by_ = (f : Int) → fl.getD f false = true) → ∀ f, (downE u k fl).getD f false = true ↔ Rch u S f
 | 0, fl, hk, hl, h1, h2, h3, f => by
  refine ⟨h1 f, fun h => ?_⟩
  induction h with
  | base a b => exact h2 _ a b
  | step _ hc hb ih => exact h3 _ _ _ (Nat.zero_le _) ih hc hb
 | k + 1, fl, hk, hl, h1, h2, h3, f => by
  have hg := stepE_get ho (show k < u.es.length by omega) hl;refine downE_rch ho k (stepE u k fl) (by omega) (stepE_len' hl) ?_ ?_ ?_ f
  ·intro f hf;rw [hg, Bool.or_eq_true, Bool.and_eq_true] at hf;rcases hf with h | ⟨h, h'⟩
   ·exact h1 f h
   obtain ⟨c, hc, hd⟩ := List.any_eq_true.1 h';exact (h1 k h).step hc (of_decide_eq_true hd)
  ·intro e he hlt;rw [hg, h2 e he hlt, Bool.true_or]
  intro e f c hke he hc hb
  have he' : fl.getD e false = true := by
   rw [hg, Bool.or_eq_true, Bool.and_eq_true] at he;rcases he with h | ⟨_, h'⟩
   ·exact h
   obtain ⟨c', hc', hd⟩ := List.any_eq_true.1 h';have := ho k c' (by omega) hc';have := of_decide_eq_true hd;omega
  rw [hg]
  by_cases h : k + 1 ≤ e
  ·rw [h3 e f c h he' hc hb, Bool.true_or]
  have : e = k := by omega
  subst this;rw [he', Bool.true_and, Bool.or_eq_true];exact .inr (List.any_eq_true.2 ⟨c, hc, decide_eq_true hb⟩)
theorem getD_rep (n i : Nat) : (List.replicate n false).getD i false = false := by
 rw [List.getD_eq_getElem?_getD, List.getElem?_replicate]; split <;> rfl
theorem mark0_get (n : Nat) (S : List Int) : ∀ f, (mark0 n S).getD f false = true ↔ ((f : Int) ∈ S ∧ f < n) := by
 suffices h : ∀ (S : List Int) (fl : List Bool), fl.length = n → ∀ f, (S.foldl (fun fl e => if 0 ≤ e then fl.set e.toNat true else fl) fl).getD f false = true ↔ (((f : Int) ∈ S ∧ f < n) ∨ fl.getD f false = true) by
  intro f;have := h S (List.replicate n false) List.length_replicate f;rw [getD_rep] at this;unfold mark0;rw [this]; simp
 intro S
 induction S with
 | nil => intro fl _ f; simp
 | cons e S ih =>
  intro fl hl f;rw [List.foldl_cons, ih _ (by split; rw [List.length_set]; exact hl; exact hl) f]
  by_cases h : 0 ≤ e
  ·rw [if_pos h, getD_setB, Bool.or_eq_true, Bool.and_eq_true, decide_eq_true_eq, decide_eq_true_eq, List.mem_cons];constructor
   ·rintro (⟨h1, h2⟩ | ⟨h1, h2⟩ | h1)
    ·exact .inl ⟨.inr h1, h2⟩
    ·exact .inl ⟨.inl (by omega), by omega⟩
    exact .inr h1
   rintro (⟨h1 | h1, h2⟩ | h1)
   ·exact .inr (.inl ⟨by omega, by omega⟩)
   ·exact .inl ⟨h1, h2⟩
   exact .inr (.inr h1)
  rw [if_neg h, List.mem_cons];constructor
  ·rintro (⟨h1, h2⟩ | h1)
   ·exact .inl ⟨.inr h1, h2⟩
   exact .inr h1
  rintro (⟨h1 | h1, h2⟩ | h1)
  ·omega
  ·exact .inl ⟨h1, h2⟩
  exact .inr h1
theorem pastFl_get {u : Unf} (ho : Ord u) (S : List Int) (f : Nat) : (pastFl u S).getD f false = true ↔ Rch u S f := by
 unfold pastFl;refine downE_rch ho _ _ (Nat.le_refl _) (mark0_len _ _) ?_ ?_ ?_ f
 ·intro f hf;rw [mark0_get] at hf;exact .base hf.1 hf.2
 ·intro e he hl;rw [mark0_get]; exact ⟨he, hl⟩
 intro e f c hk he;rw [mark0_get] at he; omega
theorem mem_past {u : Unf} (ho : Ord u) {S : List Int} {x : Int} : x ∈ pastI u S ↔ ∃ f : Nat, x = f ∧ Rch u S f := by
 unfold pastI flagL;rw [List.mem_map];constructor
 ·rintro ⟨k, hk, rfl⟩;exact ⟨k, rfl, (pastFl_get ho S k).1 (List.mem_filter.1 hk).2⟩
 rintro ⟨k, rfl, hk⟩;exact ⟨k, List.mem_filter.2 ⟨List.mem_range.2 (hk.lt ho), (pastFl_get ho S k).2 hk⟩, rfl⟩
theorem past_nodup (u : Unf) (S : List Int) : (pastI u S).Nodup := by
 unfold pastI flagL;rw [List.Nodup, List.pairwise_map];refine ((List.nodup_range (n := u.es.length)).filter _).imp ?_;intro a b h;omega
theorem filter_range_le {p : Nat → Bool} {n m : Nat} (hnm : n ≤ m) (h : ∀ i, p i = true → i < n) : (List.range m).filter p = (List.range n).filter p := by
 obtain ⟨d, rfl⟩ : ∃ d, m = n + d := ⟨m - n, by omega⟩;rw [List.range_add, List.filter_append]
 have : ((List.range d).map (n + ·)).filter p = [] := by
  rw [List.filter_eq_nil_iff];intro a ha hp;obtain ⟨i, _, rfl⟩ := List.mem_map.1 ha;have := h _ hp;omega
 rw [this, List.append_nil]
theorem list_past {u : Unf} (ho : Ord u) (hn : u.es.length ≤ 64) {s : ES} {S : List Int} (h : ∀ f, s.getLsbD f = true ↔ Rch u S f) : listI s = pastI u S := by
 unfold listI listK pastI flagL;rw [filter_range_le hn (fun i hi => ((h i).1 hi).lt ho)];congr 1;refine List.filter_congr fun i _ => ?_
 have := h i;rw [← pastFl_get ho] at this;cases h1 : s.getLsbD i <;> cases h2 : (pastFl u S).getD i false <;> simp_all
structure Tru (u : Unf) (L A : List ES) : Prop where
 w : WB u L A
 o : Ord u
 d : ∀ e, e ∈ u.es → e.pre.Nodup
 l : ∀ e, e < u.es.length → ∀ f, (L.getD e 0).getLsbD f = true ↔ Rch u [(e : Int)] f
 a : ∀ e, e < u.es.length → ∀ f, (A.getD e 0).getLsbD f = true ↔ (f < u.es.length ∧ e ≠ f ∧ shareI (evAt u (e : Int)) (evAt u (f : Int)) = true)
theorem rch_neg {u : Unf} {x : Int} (hx : x < 0) {f : Nat} : ¬ Rch u [x] f := by
 intro h
 induction h with
 | base h _ => have := List.mem_singleton.1 h; omega
 | step _ _ _ ih => exact ih
theorem prod_bit {u : Unf} {L A : List ES} (hT : Tru u L A) {c : Int} (h0 : 0 ≤ c) (hc : c < u.cs.length) (f : Nat) : (prodI u L c).getLsbD f = true ↔ Rch u [(cAt u c).by_] f := by
 obtain ⟨i, rfl⟩ : ∃ i : Nat, c = i := ⟨c.toNat, by omega⟩;have hb := hT.w.w.b _ (List.getElem_mem (show i < u.cs.length by omega));rw [← cAt_nat] at hb;unfold prodI
 by_cases h : 0 ≤ (cAt u (i : Int)).by_
 ·obtain ⟨j, hj⟩ : ∃ j : Nat, (cAt u (i : Int)).by_ = j := ⟨(cAt u (i : Int)).by_.toNat, by omega⟩;rw [if_pos h, hj, Int.toNat_natCast];exact hT.l j (by omega) f
 rw [if_neg h];constructor
 ·intro h; simp at h
 intro h2; exact absurd h2 (rch_neg (by omega))
theorem fold_bit {u : Unf} {L : List ES} (f : Nat) : ∀ (l : List Int) (a : ES), (l.foldl (fun a c => a ||| prodI u L c) a).getLsbD f = true ↔ (a.getLsbD f = true ∨ ∃ c, c ∈ l ∧ (prodI u L c).getLsbD f = true)
 | [], a => by simp
 | c :: l, a => by
  rw [List.foldl_cons, fold_bit f l, BitVec.getLsbD_or, Bool.or_eq_true];simp [or_assoc]
theorem all_bit {u : Unf} {L A : List ES} (hT : Tru u L A) {l : List Int} (hin : ∀ c, c ∈ l → 0 ≤ c ∧ c < u.cs.length) (f : Nat) : (allB u L l).getLsbD f = true ↔ Rch u (byL u l) f := by
 unfold allB;rw [fold_bit];constructor
 ·rintro (h | ⟨c, hc, h⟩)
  ·simp at h
  have := (prod_bit hT (hin c hc).1 (hin c hc).2 f).1 h;exact this.mono fun s hs _ => by rw [List.mem_singleton] at hs; rw [hs]; exact List.mem_map.2 ⟨c, hc, rfl⟩
 intro h;obtain ⟨s, hs, hr⟩ := h.one;obtain ⟨c, hc, rfl⟩ := List.mem_map.1 hs;exact .inr ⟨c, hc, (prod_bit hT (hin c hc).1 (hin c hc).2 f).2 hr⟩
theorem uses_has (u : Unf) (c e : Int) : usesAt u c e = hasI (evAt u e) c := by
 unfold usesAt hasI;congr 1
 funext x
 exact decide_eq_decide.2 eq_comm
theorem cons_used {u : Unf} (ho : Ord u) (hn : u.es.length ≤ 64) {s : ES} {S : List Int} (h : ∀ f, s.getLsbD f = true ↔ Rch u S f) (c : Int) : consI u s c = usedI u (pastI u S) c := by
 unfold consI usedI;rw [list_past ho hn h];congr 1
 funext e
 exact uses_has u c e
theorem share_iff {a b : List Int} : shareI a b = true ↔ ∃ x, x ∈ a ∧ x ∈ b := by
 unfold shareI;rw [List.any_eq_true];constructor
 ·rintro ⟨x, hx, h⟩;obtain ⟨y, hy, e⟩ := List.any_eq_true.1 h;have := of_decide_eq_true e; subst this;exact ⟨x, hx, hy⟩
 rintro ⟨x, hx, hy⟩;exact ⟨x, hx, List.any_eq_true.2 ⟨x, hy, by simp⟩⟩
theorem share_symm {a b : List Int} (h : shareI a b = true) : shareI b a = true := by
 rw [share_iff] at h ⊢;obtain ⟨x, h1, h2⟩ := h;exact ⟨x, h2, h1⟩
theorem and_ne {n : Nat} (x y : BitVec n) : (!decide ((((x &&& y).toNat : Nat) : Int) = 0)) = true ↔ ∃ f, x.getLsbD f = true ∧ y.getLsbD f = true := by
 rw [Bool.not_eq_true', decide_eq_false_iff_not];constructor
 ·intro h;have hx : ¬ (x &&& y) = 0 := by intro e; rw [e] at h; simp at h
  apply Classical.byContradiction
  intro hn
  apply hx
  apply BitVec.eq_of_getLsbD_eq
  intro i hi;rw [BitVec.getLsbD_and];rw [show (0 : BitVec n).getLsbD i = false from BitVec.getLsbD_zero];cases h1 : x.getLsbD i <;> cases h2 : y.getLsbD i <;> first | rfl | exact absurd ⟨i, h1, h2⟩ hn
 rintro ⟨f, h1, h2⟩ e;have : (x &&& y).getLsbD f = true := by rw [BitVec.getLsbD_and, h1, h2]; rfl
 have e2 : (x &&& y) = 0 := by apply BitVec.eq_of_toNat_eq; simpa using e
 rw [e2] at this;simp at this
theorem clash_iff {u : Unf} {L A : List ES} (hT : Tru u L A) {s : ES} (hs : subU s u.es.length) : clashI A s = true ↔ ∃ e f, s.getLsbD e = true ∧ s.getLsbD f = true ∧ e ≠ f ∧ shareI (evAt u (e : Int)) (evAt u (f : Int)) = true := by
 unfold clashI;rw [List.any_eq_true];constructor
 ·rintro ⟨x, hx, h⟩;obtain ⟨e, rfl, he⟩ := mem_listI.1 hx;unfold clashAt at h;rw [Int.toNat_natCast, and_ne] at h;obtain ⟨f, h1, h2⟩ := h;have := (hT.a e (hs e he) f).1 h1;exact ⟨e, f, he, h2, this.2.1, this.2.2⟩
 rintro ⟨e, f, he, hf, hne, hsh⟩;refine ⟨e, mem_listI.2 ⟨e, rfl, he⟩, ?_⟩;unfold clashAt;rw [Int.toNat_natCast, and_ne];exact ⟨f, (hT.a e (hs e he) f).2 ⟨hs f hf, hne, hsh⟩, hf⟩
theorem freeF_iff : ∀ (l : List Int) (fl : List Bool), (∀ c, c ∈ l → 0 ≤ c ∧ c < fl.length) → (freeF fl l = true ↔ (l.Nodup ∧ ∀ c, c ∈ l → fl.getD c.toNat false = false))
 | [], fl, _ => by simp [freeF]
 | c :: l, fl, hin => by
  have hc := hin c List.mem_cons_self;rw [freeF]
  by_cases h : fl.getD c.toNat false = true
  ·rw [if_pos h];constructor
   ·intro h2; cases h2
   rintro ⟨_, h2⟩; rw [h2 c List.mem_cons_self] at h; cases h
  rw [if_neg h, freeF_iff l _ (fun c' hc' => by rw [List.length_set]; exact hin c' (List.mem_cons_of_mem _ hc')), List.nodup_cons];rw [Bool.not_eq_true] at h;constructor
  ·rintro ⟨h1, h2⟩
   have h3 : ∀ c', c' ∈ l → ¬ c' = c ∧ fl.getD c'.toNat false = false := by
    intro c' hc';have := h2 c' hc';rw [getD_setB, Bool.or_eq_false_iff, Bool.and_eq_false_iff] at this;refine ⟨fun e => ?_, this.2⟩;subst e;rcases this.1 with q | q
    ·simp at q
    have := of_decide_eq_false q; omega
   exact ⟨⟨fun hm => (h3 c hm).1 rfl, h1⟩, fun c' hc' => by rcases List.mem_cons.1 hc' with rfl | hc'; exact h; exact (h3 c' hc').2⟩
  rintro ⟨⟨h1, h2⟩, h3⟩;refine ⟨h2, fun c' hc' => ?_⟩;have hc2 := hin c' (List.mem_cons_of_mem _ hc');rw [getD_setB, h3 c' (List.mem_cons_of_mem _ hc'), Bool.or_false, Bool.and_eq_false_iff];left
  apply decide_eq_false
  intro e
  apply h1
  have : c' = c := by omega
  rw [← this]; exact hc'
theorem free_iff {u : Unf} (hw : WF u) (hd : ∀ e, e ∈ u.es → e.pre.Nodup) {l : List Int} (hl : l.Nodup) (hin : ∀ e, e ∈ l → 0 ≤ e ∧ e < u.es.length) : freeI u l = true ↔ ∀ e f, e ∈ l → f ∈ l → e ≠ f → shareI (evAt u e) (evAt u f) = false := by
 have hmem : ∀ e : Int, 0 ≤ e ∧ e < u.es.length → ∃ x, x ∈ u.es ∧ evAt u e = x.pre := by
  intro e he;obtain ⟨i, rfl⟩ : ∃ i : Nat, e = i := ⟨e.toNat, by omega⟩;have hi : i < u.es.length := by omega
  exact ⟨_, List.getElem_mem hi, evAt_nat hi⟩
 unfold freeI;rw [freeF_iff]
 rotate_left
 ·intro c hc;obtain ⟨e, he, hc⟩ := List.mem_flatMap.1 hc;obtain ⟨x, hx, e2⟩ := hmem e (hin e he);rw [e2] at hc;rw [List.length_replicate];exact hw.p x hx c hc
 have h0 : (∀ c, c ∈ l.flatMap (evAt u) → (List.replicate u.cs.length false).getD c.toNat false = false) ↔ True := ⟨fun _ => trivial, fun _ c _ => getD_rep _ _⟩;rw [h0, and_true, List.Nodup, List.pairwise_flatMap];constructor
 ·rintro ⟨_, h⟩ e f he hf hne;obtain ⟨i, hi, rfl⟩ := List.getElem_of_mem he;obtain ⟨j, hj, rfl⟩ := List.getElem_of_mem hf;rw [List.pairwise_iff_getElem] at h;rw [← Bool.not_eq_true];intro hs;obtain ⟨x, hx, hy⟩ := share_iff.1 hs;rcases Nat.lt_trichotomy i j with hij | hij | hij
  ·exact h i j hi hj hij x hx x hy rfl
  ·subst hij; exact hne rfl
  exact h j i hj hi hij x hy x hx rfl
 intro h;refine ⟨fun e he => ?_, ?_⟩
 ·obtain ⟨x, hx, e2⟩ := hmem e (hin e he);rw [e2]; exact hd x hx
 refine List.Pairwise.imp_of_mem ?_ hl;intro e f he hf hne x hx y hy exy;subst exy;have := h e f he hf hne;rw [← Bool.not_eq_true] at this;exact this (share_iff.2 ⟨x, hx, hy⟩)
theorem past_in {u : Unf} (S : List Int) : ∀ e, e ∈ pastI u S → 0 ≤ e ∧ e < u.es.length := fun e he => flagL_mem he
theorem clash_free {u : Unf} {L A : List ES} (hT : Tru u L A) {s : ES} {S : List Int} (h : ∀ f, s.getLsbD f = true ↔ Rch u S f) : clashI A s = !freeI u (pastI u S) := by
 have h1 := clash_iff hT (s := s) (fun e he => ((h e).1 he).lt hT.o);have h2 := free_iff hT.w.w hT.d (past_nodup u S) (past_in S)
 have h3 : clashI A s = true ↔ ¬ freeI u (pastI u S) = true := by
  rw [h1, h2];constructor
  ·rintro ⟨e, f, he, hf, hne, hsh⟩ hall;have := hall e f ((mem_past hT.o).2 ⟨e, rfl, (h e).1 he⟩) ((mem_past hT.o).2 ⟨f, rfl, (h f).1 hf⟩) (by omega);rw [this] at hsh; cases hsh
  intro hn
  apply Classical.byContradiction
  intro hno
  apply hn
  intro e f he hf hne;obtain ⟨e, rfl, he2⟩ := (mem_past hT.o).1 he;obtain ⟨f, rfl, hf2⟩ := (mem_past hT.o).1 hf;rw [← Bool.not_eq_true];intro hsh;exact hno ⟨e, f, (h e).2 he2, (h f).2 hf2, by omega, hsh⟩
 cases hc : clashI A s <;> cases hf : freeI u (pastI u S) <;> simp_all
theorem coset_tog {u : Unf} {L A : List ES} (hT : Tru u L A) {l : List Int} (hin : ∀ c, c ∈ l → 0 ≤ c ∧ c < u.cs.length) (hn : l.Nodup) : cosetI u L A l = togI u l := by
 unfold cosetI togI;have hb := all_bit hT hin;rw [decide_eq_true hn, Bool.true_and, clash_free hT hb, Bool.not_not, Bool.and_comm];congr 1;rw [List.not_any_eq_all_not];congr 1
 funext c
 rw [cons_used hT.o hT.w.e hb]
end Go.Proofs.YtbiinjejokhfgaaGreat
