/- Contracts of the functions of the program and of the reference, each proved by a walk through its code. -/
import Derived.Laws.StructEq
import Derived.ChangeKeysEq
import Derived.Sort.Grow
import Derived.Shelf.Strings.Builder1
import Derived.Shelf.Strings.Builder2
import Derived.Shelf.Strings.BuilderF
import Derived.Shelf.Strings.Prefix
import Derived.Shelf.Bits.Mul64
import Derived.Shelf.Strings.Repeat
import Derived.Shelf.Slices.Turned
import Derived.Ground.Names2Prog
import Derived.Shelf.Slices.Clone
import Derived.Ground.SlgnProg
import Derived.Shelf.SlicesE.Clone
import Derived.Test.YteakkoiflbaleaaGreatRows
import Derived.Test.YteakkoiflbaleaaGreatChecked
import Derived.Laws.Small
import Derived.Test.YteakkoiflbaleaaGreatGMs2
set_option linter.all false
set_option maxRecDepth 20000
namespace Go.Proofs.YteakkoiflbaleaaGreat
open Go.RowKit
def freeF : List Bool → List Int → Bool
 | _, [] => true
 | fl, c :: cs => if fl.getD c.toNat false = true then false else freeF (fl.set c.toNat true) cs
def freeI (u : Unf) (list : List Int) : Bool := freeF (List.replicate u.cs.length false) (list.flatMap (evAt u))
def mark0 (n : Nat) (list : List Int) : List Bool := list.foldl (fun fl e => if 0 ≤ e then fl.set e.toNat true else fl) (List.replicate n false)
def stepC (u : Unf) (e : Nat) (fl : List Bool) (c : Int) : List Bool := if fl.getD e false = true ∧ 0 ≤ (cAt u c).by_ then fl.set (cAt u c).by_.toNat true else fl
def stepE (u : Unf) (e : Nat) (fl : List Bool) : List Bool := (evAt u (e : Int)).foldl (stepC u e) fl
def downE (u : Unf) : Nat → List Bool → List Bool
 | 0, fl => fl
 | e + 1, fl => downE u e (stepE u e fl)
def pastFl (u : Unf) (list : List Int) : List Bool := downE u u.es.length (mark0 u.es.length list)
def flagL (fl : List Bool) (k : Nat) : List Int := ((List.range k).filter (fun i => fl.getD i false)).map (fun (i : Nat) => (i : Int))
def pastI (u : Unf) (list : List Int) : List Int := flagL (pastFl u list) u.es.length
def byL (u : Unf) (l : List Int) : List Int := l.map (fun c => (cAt u c).by_)
def togI (u : Unf) (l : List Int) : Bool := l.all (fun c => !usedI u (pastI u (byL u l)) c) && freeI u (pastI u (byL u l))
def tAt (N : Net) (t : Int) : Tn := N.ts.getD t.toNat ⟨[], []⟩
theorem tAt_nat {N : Net} {k : Nat} (h : k < N.ts.length) : tAt N (k : Int) = N.ts[k] := by unfold tAt; rw [Int.toNat_natCast, List.getD_eq_getElem?_getD, List.getElem?_eq_getElem h]; rfl
def fitA (N : Net) (u : Unf) (h : Ev) : Bool := inR N h.t && (rising h.pre 0 ((u.cs.length : Int) - 1) && decide ((h.pre.length : Int) = (tAt N h.t).pre.length))
def fitB (u : Unf) (h : Ev) : Bool := u.es.any (fun x => decide (x.t = h.t) && decide (x.pre = h.pre))
def fitC (N : Net) (u : Unf) (h : Ev) : Bool := decide (placesI u h.pre = (tAt N h.t).pre) && togI u h.pre
def fitsI (N : Net) (u : Unf) (h : Ev) : Bool := fitA N u h && (!fitB u h && fitC N u h)
theorem inR_nat {N : Net} {t : Int} (h : inR N t = true) : ∃ i : Nat, t = i ∧ i < N.ts.length := by
 simp only [inR, Bool.and_eq_true, decide_eq_true_eq] at h;exact ⟨t.toNat, by omega, by omega⟩
def withC (u : Unf) (post : List Int) : List Cond := u.cs ++ post.map (fun p => ⟨p, (u.es.length : Int)⟩)
def withI (N : Net) (u : Unf) (h : Ev) : Unf := ⟨withC u (tAt N h.t).post, u.es ++ [h]⟩
theorem withC_len (u : Unf) (l : List Int) : (withC u l).length = u.cs.length + l.length := by unfold withC; rw [List.length_append, List.length_map]
def eqOf (op : BinOp) (b : Bool) : Option Bool :=
 match op with
 | .eql => some b
 | .neq => some (!b)
 | _ => none
section
variable {P : Program} [PT P]
variable {s : ASt} {dst : Option Nat} {ty : Nat} {pos : String} {af : Array Edge} {gd : Option (Nat × Bool)} {x y : Operand} {xt yt : Nat}
def bitU (e : Nat) : BitVec 64 := BitVec.twoPow 64 e
end
theorem rise_lt {l : List Int} {lo hi : Int} (h : rising l lo hi = true) : ∀ (j i : Nat) (hj : j < l.length) (hi : i < j), l[i] < l[j]
 | 0, i, hj, hij => by omega
 | j + 1, i, hj, hij => by
  have h2 : l[j] < l[j + 1] := by
   unfold rising allN at h;have := List.all_eq_true.1 h (j + 1) (List.mem_range.2 hj);simp only [riseAt, Bool.and_eq_true, Bool.not_eq_true', Bool.and_eq_false_iff, decide_eq_true_eq, decide_eq_false_iff_not] at this;have h3 := this.2;rw [getD_at hj, show j + 1 - 1 = j from rfl, getD_at (by omega)] at h3;omega
  by_cases e : i = j
  ·subst e; exact h2
  exact Int.lt_trans (rise_lt h j i (by omega) (by omega)) h2
theorem rising_ge {l : List Int} {lo hi : Int} (h : rising l lo hi = true) : ∀ (j : Nat) (hj : j < l.length), lo + (j : Int) ≤ l[j]
 | 0, hj => by have := (rising_in h _ (List.getElem_mem hj)).1; omega
 | j + 1, hj => by
  have h1 := rising_ge h j (by omega);have h2 := rise_lt h (j + 1) j hj (by omega);omega
theorem rising_len {l : List Int} {lo hi : Int} (h : rising l lo hi = true) : (l.length : Int) ≤ hi - lo + 1 ∨ l.length = 0 := by
 by_cases h0 : l.length = 0
 ·exact .inr h0
 left;have hj : l.length - 1 < l.length := by omega
 have h1 := rising_ge h _ hj;have h2 := (rising_in h _ (List.getElem_mem hj)).2;omega
structure NetS (n : Net) : Prop where
 p : 1 ≤ n.places ∧ n.places ≤ 30
 l : n.ts.length ≤ 24
 t : ∀ t, t ∈ n.ts → 0 < t.pre.length ∧ t.pre.length ≤ 30 ∧ t.post.length ≤ 30 ∧ rising t.pre 0 (n.places - 1) = true ∧ rising t.post 0 (n.places - 1) = true
theorem NetS.B {n : Net} (h : NetS n) : NetB n := ⟨by have := h.p; omega, by have := h.l; omega, fun t ht => by have := h.t t ht; omega⟩
theorem fits_inR {N : Net} {u : Unf} {h : Ev} (hf : fitsI N u h = true) : inR N h.t = true := by
 simp only [fitsI, fitA, Bool.and_eq_true] at hf; exact hf.1.1
theorem fits_rising {N : Net} {u : Unf} {h : Ev} (hf : fitsI N u h = true) : rising h.pre 0 ((u.cs.length : Int) - 1) = true := by
 simp only [fitsI, fitA, Bool.and_eq_true] at hf; exact hf.1.2.1
theorem tAt_mem {N : Net} {t : Int} (h : inR N t = true) : tAt N t ∈ N.ts := by
 obtain ⟨i, rfl, hi⟩ := inR_nat h;rw [tAt_nat hi]; exact List.getElem_mem hi
structure Now (N : Net) (k : Nat) (u : Unf) : Prop where
 w : WF u
 n : u.es.length = k
 c : u.cs.length ≤ 30 + 30 * k
theorem Now.fit {N : Net} {k : Nat} {u : Unf} {h : Ev} (hN : NetS N) (hk : k < 100) (hn : Now N k u) (hf : fitsI N u h = true) : Now N (k + 1) (withI N u h) ∧ h.pre.length ≤ 10000 := by
 have hr := fits_rising hf;have hl := rising_len hr;have hc := hn.c;have hpl := (hN.t _ (tAt_mem (fits_inR hf))).2.2.1;have hcl : (withI N u h).cs.length = u.cs.length + (tAt N h.t).post.length := withC_len _ _;have hel : (withI N u h).es.length = u.es.length + 1 := by show (u.es ++ [h]).length = _; rw [List.length_append]; rfl
 have hnn := hn.n;refine ⟨⟨⟨?_, ?_, ?_, by omega, by omega⟩, by omega, by omega⟩, by omega⟩
 ·intro e he c hc';rcases List.mem_append.1 he with h1 | h1
  ·have := hn.w.p e h1 c hc'; omega
  rw [List.mem_singleton] at h1; subst h1;have := rising_in hr c hc'; omega
 ·intro c hc';rcases List.mem_append.1 hc' with h1 | h1
  ·have := hn.w.b c h1; omega
  obtain ⟨p, hp, rfl⟩ := List.mem_map.1 h1;show -1 ≤ (u.es.length : Int) ∧ (u.es.length : Int) < _;omega
 intro e he;rcases List.mem_append.1 he with h1 | h1
 ·exact hn.w.l e h1
 rw [List.mem_singleton] at h1; subst h1; omega
def madeL (m : List UInt8) (k : Nat) : List Cond := ((List.range k).filter (fun p => m.getD p 0 == 49)).map (fun (p : Nat) => ⟨(p : Int), -1⟩)
def madeI (N : Net) (m : List UInt8) : List Cond := madeL m N.places.toNat
theorem madeL_len (m : List UInt8) (k : Nat) : (madeL m k).length ≤ k := by
 unfold madeL;rw [List.length_map];exact Nat.le_trans (List.length_filter_le _ _) (by simp)
theorem Now.zero {N : Net} (hN : NetS N) (m : List UInt8) : Now N 0 ⟨madeI N m, []⟩ := by
 have hl := madeL_len m N.places.toNat;have hp := hN.p;have hl' : (madeI N m).length ≤ 30 := by unfold madeI; omega
 refine ⟨⟨fun e he => absurd he List.not_mem_nil, fun c hc => ?_, fun e he => absurd he List.not_mem_nil, by show 0 ≤ _; omega, by show (madeI N m).length ≤ _; omega⟩, rfl, by show (madeI N m).length ≤ _; omega⟩;obtain ⟨p, hp, rfl⟩ := List.mem_map.1 hc;exact ⟨by show (-1 : Int) ≤ -1; omega, by show (-1 : Int) < ((0 : Nat) : Int); omega⟩
def runI (N : Net) : Unf → List Ev → Option Unf
 | u, [] => some u
 | u, h :: hs => if fitsI N u h = true then runI N (withI N u h) hs else none
inductive BL1 (ids : List Nat) (s : ASt) : DV → AV → Prop
 | d {x : DV} : BL1 ids s x (.d x)
 | nil {e sz : Nat} : BL1 ids s (.view e sz []) (.d (.val (.slice none 0 0)))
 | own {id n e sz : Nat} {els els' : List (List DV)} : ids.contains id = true → s.chunk id = some (.arr e sz els) → n ≤ els.length → els.take n = els' → BL1 ids s (.view e sz els') (.own id n)
 | pred {id : Nat} {x : DV} {v : Value} {S : Nat → Prop} {K : World → Prop} : ids.contains id = true → s.chunk id = some (.pred S K) → (∀ w, K w → DRep S w x v) → BL1 ids s x (.d (.val v))
 | rows {id id2 n e sz : Nat} {els rws : List (List DV)} {S : Nat → Prop} {K : World → Prop} : ids.contains id = true → ids.contains id2 = true → s.chunk id = some (.arr e sz rws) → s.chunk id2 = some (.pred S K) → rws.length = n → els.length = n → (∀ (i : Nat) cs, els[i]? = some cs → cs.length = sz) →
   (∀ w, K w → ∀ (i j : Nat) cs d, els[i]? = some cs → cs[j]? = some d → ∃ ds u, rws[i]? = some ds ∧ ds[j]? = some (.val u) ∧ DRep S w d u) → BL1 ids s (.view e sz els) (.own id n)
inductive BLs (ids : List Nat) (s : ASt) : List DV → List AV → Prop
 | nil : BLs ids s [] []
 | cons {d : DV} {c : AV} {ds : List DV} {cs : List AV} : BL1 ids s d c → BLs ids s ds cs → BLs ids s (d :: ds) (c :: cs)
inductive BP (ids : List Nat) (s : ASt) : DV → AV → Prop
 | of {x : DV} {y : AV} : BL1 ids s x y → BP ids s x y
 | ptr {id t : Nat} {cs : List AV} {ds : List DV} : ids.contains id = true → s.chunk id = some (.cells t cs) → BLs ids s ds cs → BP ids s (.ref ds) (.ptr id 0)
inductive BPs (ids : List Nat) (s : ASt) : List DV → List AV → Prop
 | nil : BPs ids s [] []
 | cons {d : DV} {c : AV} {ds : List DV} {cs : List AV} : BP ids s d c → BPs ids s ds cs → BPs ids s (d :: ds) (c :: cs)
theorem BPs.get {ids : List Nat} {s : ASt} {ds : List DV} {cs : List AV} (h : BPs ids s ds cs) : ds.length = cs.length ∧ ∀ (i : Nat) c, cs[i]? = some c → ∃ d, ds[i]? = some d ∧ BP ids s d c := by
 induction h with
 | nil => exact ⟨rfl, fun i c h => by simp at h⟩
 | cons h _ ih =>
  refine ⟨by simp [ih.1], fun i c hc => ?_⟩;cases i with
  | zero => simp at hc; subst hc; exact ⟨_, rfl, h⟩
  | succ i => simpa using ih.2 i c (by simpa using hc)
inductive BL (ids : List Nat) (s : ASt) : AV → AV → Prop
 | cloB {f : FuncId} {ds : List DV} {cs : List AV} : BPs ids s ds cs → BL ids s (.clo f (ds.map .d)) (.clo f cs)
 | of {x : DV} {y : AV} : BL1 ids s x y → BL ids s (.d x) y
 | clo {f : FuncId} {ds : List DV} : BL ids s (.clo f (ds.map .d)) (.clo f (ds.map .d))
 | agg {ds : List DV} : BL ids s (.agg (ds.map .d)) (.agg (ds.map .d))
 | ptr {id t : Nat} {cs : List AV} {ds : List DV} : ids.contains id = true → s.chunk id = some (.cells t cs) → BLs ids s ds cs → BL ids s (.d (.ref ds)) (.ptr id 0)
 | aggs {cs : List AV} {ds : List DV} : BLs ids s ds cs → BL ids s (.agg (ds.map .d)) (.agg cs)
inductive BAs (ids : List Nat) (s : ASt) : List AV → List AV → Prop
 | nil : BAs ids s [] []
 | cons {x y : AV} {xs ys : List AV} : BL ids s x y → BAs ids s xs ys → BAs ids s (x :: xs) (y :: ys)
theorem BLs.get {ids : List Nat} {s : ASt} {ds : List DV} {cs : List AV} (h : BLs ids s ds cs) : ds.length = cs.length ∧ ∀ (i : Nat) d, ds[i]? = some d → ∃ c, cs[i]? = some c ∧ BL1 ids s d c := by
 induction h with
 | nil => exact ⟨rfl, fun i d h => by simp at h⟩
 | cons h _ ih =>
  refine ⟨by simp [ih.1], fun i d hd => ?_⟩;cases i with
  | zero => simp at hd; subst hd; exact ⟨_, rfl, h⟩
  | succ i => simpa using ih.2 i d (by simpa using hd)
theorem BAs.get {ids : List Nat} {s : ASt} {xs ys : List AV} (h : BAs ids s xs ys) : xs.length = ys.length ∧ ∀ (i : Nat) x, xs[i]? = some x → ∃ y, ys[i]? = some y ∧ BL ids s x y := by
 induction h with
 | nil => exact ⟨rfl, fun i d h => by simp at h⟩
 | cons h _ ih =>
  refine ⟨by simp [ih.1], fun i d hd => ?_⟩;cases i with
  | zero => simp at hd; subst hd; exact ⟨_, rfl, h⟩
  | succ i => simpa using ih.2 i d (by simpa using hd)
mutual
def AV.flat : AV → Bool
 | .d (.val _) => true
 | .tup cs => AV.flatL cs
 | .agg cs => AV.flatL cs
 | _ => false
def AV.flatL : List AV → Bool
 | [] => true
 | c :: cs => c.flat && AV.flatL cs
end
theorem AV.flatL_get : ∀ {cs : List AV}, AV.flatL cs = true → ∀ (i : Nat) c, cs[i]? = some c → c.flat = true
 | [], _, i, c, h => by simp at h
 | c :: cs, hf, i, c', h => by
  simp only [AV.flatL, Bool.and_eq_true] at hf;cases i with
  | zero => simp at h; subst h; exact hf.1
  | succ i => exact AV.flatL_get hf.2 i c' (by simpa using h)
theorem ARep.flat {m m' : Nat → Option (Option Nat × Nat)} {F F' : Nat → Prop} {w w' : World} {x : AV} {v : Value} (h : ARep m F w x v) : x.flat = true → ARep m' F' w' x v := by
 induction h with
 | d h => intro hf; rename_i x v; cases x with
  | val u => exact .d (h.flat trivial)
  | _ => simp [AV.flat] at hf
 | agg h1 _ h3 ih => intro hf; exact .agg h1 (fun i c hc => ih i c hc (AV.flatL_get (by simpa [AV.flat] using hf) i c hc)) h3
 | tup h1 _ ih => intro hf; exact .tup h1 (fun i c hc => ih i c hc (AV.flatL_get (by simpa [AV.flat] using hf) i c hc))
 | _ => intro hf; simp [AV.flat] at hf
section
variable {P : Program} [PT P]
variable {s : ASt} {dst : Option Nat} {ty : Nat} {pos : String} {af : Array Edge} {gd : Option (Nat × Bool)} {f : Nat}
theorem BL1.rep {C : Ctx} {U : Nat → Prop} {ids : List Nat} {s' : ASt} {a : Act} {w : World} {m : Nat → Option (Option Nat × Nat)} (hR : RelM C U s' a w m) (hch : ∀ id, id ∈ ids → s'.chunk id = s.chunk id) {F : Nat → Prop} (hF : ∀ k, k < w.heap.size → F k) {x : DV} {y : AV} {v : Value} (h : BL1 ids s x y) (hy : ARep m (Fz C m s' w) w y v) : DRep F w x v := by
 have hFz : ∀ q, Fz C m s' w q → F q := fun q hq => hF q hq.2.1
 cases h with
 | d => cases hy with | d h => exact h.mono hFz
 | nil => cases hy with | d h => cases h; exact .nil
 | @own id n e sz els els' hid hc hn he =>
  subst he;have hc' : s'.chunk id = some (.arr e sz els) := by rw [hch id (by simpa using hid)]; exact hc
  obtain ⟨p, hp, hr, _⟩ := hR.ch id _ hc';exact own_view hy hp hr hn hFz (fun b hb => hF b (hr.lt (.inl hb)))
 | @pred id _ u S K hid hc hK =>
  have hc' : s'.chunk id = some (.pred S K) := by rw [hch id (by simpa using hid)]; exact hc
  obtain ⟨p, hp, hr, _⟩ := hR.ch id _ hc';have hv : v = u := by cases hy with | d h => cases h; rfl
  subst hv;cases hr with
  | pred h1 h2 h3 => exact (hK w h1).mono fun k hk => hF k (h3 k hk)
 | @rows id id2 n e sz els rws S K hid hid2 hc hc2 hn hl hrow hK =>
  have hc' : s'.chunk id = some (.arr e sz rws) := by rw [hch id (by simpa using hid)]; exact hc
  have hc2' : s'.chunk id2 = some (.pred S K) := by rw [hch id2 (by simpa using hid2)]; exact hc2
  obtain ⟨p, hp, hr, _⟩ := hR.ch id _ hc';obtain ⟨p2, _, hr2, _⟩ := hR.ch id2 _ hc2';cases hr2 with
  | pred k1 k2 k3 =>
   cases hy with
   | own hp' h0 =>
    rename_i cap b;rw [hp] at hp';simp only [Option.some.injEq] at hp';subst hp';cases hr with
    | nil h =>
     obtain rfl : n = 0 := by simpa using hn.symm
     obtain rfl : els = [] := List.length_eq_zero_iff.1 hl;exact .nil
    | @arr b _ _ _ _ arr fz hb hf hsz hl' hm h0' hrow' hel =>
     have := DRep.view (F := F) (w := w) (e := e) (sz := sz) (els := els) (off := 0) (cap := cap) (hF b (lt_of_block hb)) hb (by omega) hm (by omega) hrow (fun i cs j d hi hj => by
      obtain ⟨ds, u, g1, g2, g3⟩ := hK w k1 i j cs d hi hj;have hq := hel i ds j _ g1 g2;rw [Nat.zero_add];generalize arr.getD (i * sz + j) undef = q at hq ⊢;cases hq with
      | val _ => exact g3.mono fun k hk => hF k (k3 k hk))
     rw [hl] at this;exact this
theorem BP.rep {C : Ctx} {U : Nat → Prop} {ids : List Nat} {s' : ASt} {a : Act} {w : World} {m : Nat → Option (Option Nat × Nat)} (hR : RelM C U s' a w m) (hch : ∀ id, id ∈ ids → s'.chunk id = s.chunk id) {F : Nat → Prop} (hF : ∀ k, k < w.heap.size → F k) {x : DV} {y : AV} {v : Value} (h : BP ids s x y) (hy : ARep m (Fz C m s' w) w y v) : DRep F w x v := by
 have hFz : ∀ q, Fz C m s' w q → F q := fun q hq => hF q hq.2.1
 cases h with
 | of h => exact h.rep hR hch hF hy
 | ptr hid hc hcs =>
  rename_i id t cs ds;have hc' : s'.chunk id = some (.cells t cs) := by rw [hch id (by simpa using hid)]; exact hc
  cases hy with
  | ptr hp =>
   obtain ⟨hl, hg⟩ := hcs.get;cases hR.chunkAt hc' hp with
   | cells hb hs hv h1 =>
    refine .ref (hF _ (lt_of_block hb)) hb (by omega) (fun j d hd => ?_);obtain ⟨c, hc, hdc⟩ := hg j d hd;rw [Nat.zero_add];exact hdc.rep hR hch hF (hv j c hc)
theorem BL.rep {C : Ctx} {U : Nat → Prop} {ids : List Nat} {s' : ASt} {a : Act} {w : World} {m m0 : Nat → Option (Option Nat × Nat)} (hR : RelM C U s' a w m) (hch : ∀ id, id ∈ ids → s'.chunk id = s.chunk id) {F : Nat → Prop} (hF : ∀ k, k < w.heap.size → F k) {x y : AV} {v : Value} (h : BL ids s x y) (hy : ARep m (Fz C m s' w) w y v) : ARep m0 F w x v := by
 have hFz : ∀ q, Fz C m s' w q → F q := fun q hq => hF q hq.2.1
 have hds : ∀ (ds : List DV) (i : Nat) c v, (ds.map AV.d)[i]? = some c → ARep m (Fz C m s' w) w c v → ARep m0 F w c v := by
  intro ds i c v hc hv;rw [List.getElem?_map, Option.map_eq_some_iff] at hc;obtain ⟨d, _, rfl⟩ := hc;cases hv with | d h => exact .d (h.mono hFz)
 cases h with
 | cloB hcs =>
  obtain ⟨hl, hg⟩ := hcs.get;cases hy with
  | clo h1 h2 =>
   refine .clo (by rw [h1, List.length_map, hl]) (fun i c hc => ?_);rw [List.getElem?_map, Option.map_eq_some_iff] at hc;obtain ⟨d, hd, rfl⟩ := hc;have hi : i < _ := (List.getElem?_eq_some_iff.1 hd).1;obtain ⟨d', hd', hb⟩ := hg i _ (List.getElem?_eq_getElem (by omega));rw [hd] at hd';cases hd';exact .d (hb.rep hR hch hF (h2 i _ (List.getElem?_eq_getElem (by omega))))
 | of h => exact .d (h.rep hR hch hF hy)
 | clo => cases hy with | clo h1 h2 => exact .clo h1 (fun i c hc => hds _ i c _ hc (h2 i c hc))
 | agg => cases hy with | agg h1 h2 h3 => exact .agg h1 (fun i c hc => hds _ i c _ hc (h2 i c hc)) h3
 | aggs hcs =>
  obtain ⟨hl, hg⟩ := hcs.get;cases hy with
  | agg h1 h2 h3 =>
   refine .agg (by rw [h1, List.length_map, hl]) (fun i c hc => ?_) h3;rw [List.getElem?_map, Option.map_eq_some_iff] at hc;obtain ⟨d, hd, rfl⟩ := hc;obtain ⟨c', hc', hdc⟩ := hg i d hd;exact .d (hdc.rep hR hch hF (h2 i c' hc'))
 | ptr hid hc hcs =>
  rename_i id t cs ds;have hc' : s'.chunk id = some (.cells t cs) := by rw [hch id (by simpa using hid)]; exact hc
  cases hy with
  | ptr hp =>
   obtain ⟨hl, hg⟩ := hcs.get;cases hR.chunkAt hc' hp with
   | cells hb hs hv h1 =>
    refine .d (.ref (hF _ (lt_of_block hb)) hb (by omega) (fun j d hd => ?_));obtain ⟨c, hc, hdc⟩ := hg j d hd;rw [Nat.zero_add];exact hdc.rep hR hch hF (hv j c hc)
theorem h_borrow (ids : List Nat) {g : FuncId} {caps ys ars : List AV} {fx : Operand} {xs : Array Operand} {ats : Array TypeId} {r : AV} (hen : Enters P g) (hf : s.ev fx = .clo g caps) (hys : xs.toList.map s.ev ++ caps = ys)
  (hspec : ASpec P g ars [] (Pure1 r)) (hlead : BAs ids s ars ys) (hr : r.flat = true) :
  NOp P ids s ⟨dst, .call { callee := .value fx, args := xs, argTypes := ats }, ty, pos, af, gd⟩ f ⟨r, []⟩ := by
 refine ⟨fun s' ha C U U' a w m hR hU hU' hd K Q hK => ?_⟩;have hfx := hR.ev fx;rw [ha.2.1 fx (by simp [Op.operands, Call.operands]), hf] at hfx;generalize hfv : a.eval fx = fv at hfx;cases hfx with
 | clo hc1 hc2 =>
  rename_i cv
  have hrun : (execOp a.eval ⟨dst, .call { callee := .value fx, args := xs, argTypes := ats }, ty, pos, af, gd⟩).run P w = .ok (.enter g (xs.map a.eval ++ cv)) w := by
   simp [execOp, resolve, hfv, Deferred.ofValue, invoke, hen (xs.map a.eval ++ cv) w]
  obtain ⟨hl1, hl2⟩ := hlead.get
  have harg : ∀ (i : Nat) y, ys[i]? = some y → ARep m (Fz C m s' w) w y ((xs.map a.eval ++ cv).getD i undef) := by
   intro i y hy;rw [← hys] at hy
   by_cases hi : i < xs.size
   ·rw [List.getElem?_append_left (by simpa using hi), List.getElem?_map, Option.map_eq_some_iff] at hy;obtain ⟨x, hx, rfl⟩ := hy;have hx' : xs[i]? = some x := by simpa using hx
    have := hR.ev x;rw [ha.2.1 x (by simp only [Op.operands, Call.operands, Array.mem_append]; exact .inr (Array.mem_of_getElem? hx'))] at this
    have e : (xs.map a.eval ++ cv).getD i undef = a.eval x := by
     have hxi : xs[i] = x := (Array.getElem?_eq_some_iff.1 hx').2;simp [Array.getD_eq_getD_getElem?, Array.getElem?_append, hi, hxi]
    rw [e]; exact this
   rw [List.getElem?_append_right (by simpa using Nat.le_of_not_lt hi)] at hy;have := hc2 _ y hy
   have e : (xs.map a.eval ++ cv).getD i undef = cv.getD (i - xs.size) undef := by
    simp [Array.getD_eq_getD_getElem?, Array.getElem?_append, hi]
   rw [e]; simpa using this
  have hcall := hspec w (fun _ => none) (fun k => k < w.heap.size) (xs.map a.eval ++ cv) (fun k hk => ⟨hk, fun id c p hc => by simp [getL] at hc⟩) ?_ ?_ (fun id c hc => by simp [getL] at hc) (fun id id' c c' p p' b hc => by simp [getL] at hc) (fun id _ => rfl)
  ·unfold Oper.wp;rw [hrun];simp only [Oper.upon];refine Calls.mono hcall ?_;rintro e w' ⟨v, r', chs', m1, F1, rfl, ⟨rfl, rfl⟩, -, -, -, ⟨f1, f2, f3, f4, f5⟩, hv, -, -⟩;have hold : ∀ k, k < w.heap.size → w'.heap[k]? = w.heap[k]? := fun k hk => f5 k hk (fun id c p hc => by simp [getL] at hc)
   refine hK _ _ m (hR.step hd (MLe.refl m) (fun j hj => hR.un j (hU' j hj).1) ?_ f4 (fun k hk => ⟨fun id c p hc => by simp [getL] at hc, hold k hk.2.1⟩) (fun id c p b h0 h1 h2 h3 => ?_) (fun F' hF hF2 => ⟨hv.flat hr, fun id c hc => by simp [getL] at hc⟩) (fun id id' c c' p p' b hc => by simp [getL] at hc))
   ·refine ⟨f1.trans hR.fr.os, f2.trans hR.fr.tape, f3.trans hR.fr.output, Nat.le_trans hR.fr.size f4, fun k hk hn => ?_⟩;rw [hold k (Nat.lt_of_lt_of_le hk hR.fr.size)];exact hR.fr.block k hk hn
   refine hold b ?_;obtain ⟨q, hq, hr', _⟩ := hR.ch id c h1;rw [h2] at hq;obtain rfl : p = q := by simpa using hq
   exact hr'.lt h3
  ·have : ys.length = xs.size + caps.length := by rw [← hys]; simp
   simp only [Array.size_append, Array.size_map];omega
  intro i x hx;obtain ⟨y, hy, hxy⟩ := hl2 i x hx;exact hxy.rep hR ha.2.2 (fun k hk => hk) (harg i y hy)
theorem Weak.freezeRef {C : Ctx} (i : Nat) {id t : Nat} {ds : List DV} (hs : s.get i = .ptr id 0) (hc : s.chunk id = some (.cells t (ds.map .d))) : Weak C s { s with sl := (i, .d (.ref ds)) :: s.sl, ch := (id, none) :: s.ch } := by
 refine ⟨?_⟩;rintro a w ⟨m, hR⟩
 have hch : ∀ j c, (getL j ((id, none) :: s.ch)).getD none = some c → j ≠ id ∧ s.chunk j = some c := by
  intro j c h;rw [getL_cons] at h
  split at h
  ·simp at h
  rename_i e; exact ⟨e, h⟩
 have hF : ∀ q, Fz C m s w q → Fz C m { s with sl := (i, .d (.ref ds)) :: s.sl, ch := (id, none) :: s.ch } w q := fun q hq => ⟨hq.1, hq.2.1, fun j c p h1 h2 => hq.2.2 j c p (hch j c h1).2 h2⟩
 refine ⟨m, hR.fr, hR.fin, hR.sz, fun j => ?_, fun j c h1 => ?_, fun j j' c c' p p' h1 h2 hp hp' b hb hb' => hR.inj j j' c c' p p' (hch j c h1).2 (hch j' c' h2).2 hp hp' b hb hb', hR.un, hR.defers, hR.m0, hR.m0k⟩
 ·show ARep _ _ _ ((getL j ((i, .d (.ref ds)) :: s.sl)).getD .dead) _;rw [getL_cons]
  by_cases hj : j = i
  ·subst hj;rw [if_pos rfl];have hv := hR.sl j;rw [hs] at hv;generalize a.tmps.getD j undef = v at hv;simp only [Option.getD_some];cases hv with
   | ptr hp =>
    rename_i b cap;have hC := hR.chunkAt hc hp;cases hC with
    | cells hb hsz hv h1 =>
     obtain ⟨q, hq, hr, hloc⟩ := hR.ch id _ hc;rw [hp] at hq;obtain rfl : (some b, cap) = q := by simpa using hq
     have hFb : Fz C m { s with sl := (j, .d (.ref ds)) :: s.sl, ch := (id, none) :: s.ch } w b := by
      refine ⟨.inr (hloc b (.inl rfl)), lt_of_block hb, fun j' c p h1 h2 h3 => ?_⟩;obtain ⟨hne, h4⟩ := hch j' c h1;exact hne (hR.inj j' id c _ p _ h4 hc h2 hp b h3 (.inl rfl))
     refine .d (.ref hFb hb (by simp at hsz; omega) (fun k d hd => ?_));have := hv k (.d d) (by simp [hd]);rw [Nat.zero_add];cases this with | d h => exact h.mono hF
  rw [if_neg hj];exact (hR.sl j).turn (MLe.refl m) (fun k hk _ => ⟨hF k hk, rfl⟩)
 obtain ⟨_, h2⟩ := hch j c h1;obtain ⟨p, hp, hr, hl⟩ := hR.ch j c h2;exact ⟨p, hp, hr.turn (MLe.refl m) (fun k hk _ => ⟨hF k hk, rfl⟩) (fun _ _ => rfl), hl⟩
theorem RelM.freeze {C : Ctx} {U : Nat → Prop} {a : Act} {w : World} {m : Nat → Option (Option Nat × Nat)} (hR : RelM C U s a w m) {i id n e sz : Nat} {els els' : List (List DV)} (hs : s.get i = .own id n) (hc : s.chunk id = some (.arr e sz els)) (hn : n ≤ els.length) (he : els.take n = els') : RelM C U { s with sl := (i, .d (.view e sz els')) :: s.sl, ch := (id, none) :: s.ch } a w m := by
 subst he
 have hch : ∀ j c, (getL j ((id, none) :: s.ch)).getD none = some c → j ≠ id ∧ s.chunk j = some c := by
  intro j c h;rw [getL_cons] at h
  split at h
  ·simp at h
  rename_i e; exact ⟨e, h⟩
 have hF : ∀ q, Fz C m s w q → Fz C m { s with sl := (i, .d (.view e sz (els.take n))) :: s.sl, ch := (id, none) :: s.ch } w q := fun q hq => ⟨hq.1, hq.2.1, fun j c p h1 h2 => hq.2.2 j c p (hch j c h1).2 h2⟩
 refine ⟨hR.fr, hR.fin, hR.sz, fun j => ?_, fun j c h1 => ?_, fun j j' c c' p p' h1 h2 hp hp' b hb hb' => hR.inj j j' c c' p p' (hch j c h1).2 (hch j' c' h2).2 hp hp' b hb hb', hR.un, hR.defers, hR.m0, hR.m0k⟩
 ·show ARep _ _ _ ((getL j ((i, .d (.view e sz (els.take n))) :: s.sl)).getD .dead) _;rw [getL_cons]
  by_cases hj : j = i
  ·subst hj;rw [if_pos rfl];have hv := hR.sl j;rw [hs] at hv;generalize a.tmps.getD j undef = v at hv;simp only [Option.getD_some];cases hv with
   | own hp h0 =>
    rename_i cap b;have hC := hR.chunkAt hc hp;cases hC with
    | nil h =>
     have : n = 0 := by simpa using hn
     subst this;exact .d .nil
    | arr hb hf hsz hl hm h0' hrow hel =>
     rename_i b arr fz;have hlen : (els.take n).length = n := by simp; omega
     have hsub : ∀ (i : Nat) cs, (els.take n)[i]? = some cs → els[i]? = some cs := by
      intro i cs hi;rw [List.getElem?_take] at hi
      split at hi
      ·exact hi
      cases hi
     obtain ⟨q, hq, hr, hloc⟩ := hR.ch id _ hc;rw [hp] at hq;obtain rfl : (some b, cap) = q := by simpa using hq
     have hFb : Fz C m { s with sl := (j, .d (.view e sz (els.take n))) :: s.sl, ch := (id, none) :: s.ch } w b := by
      refine ⟨.inr (hloc b (.inl rfl)), lt_of_block hb, fun j' c p h1 h2 h3 => ?_⟩;obtain ⟨hne, h4⟩ := hch j' c h1;exact hne (hR.inj j' id c _ p _ h4 hc h2 hp b h3 (.inl rfl))
     have := DRep.view (F := Fz C m { s with sl := (j, .d (.view e sz (els.take n))) :: s.sl, ch := (id, none) :: s.ch } w) (e := e) (sz := sz) (els := els.take n) (off := 0) (cap := cap) hFb hb (by omega) hm (by omega) (fun i cs hi => hrow i cs (hsub i cs hi)) (fun i cs j d hi hj => by rw [Nat.zero_add]; exact (hel i cs j d (hsub i cs hi) hj).mono hF);rw [hlen] at this;exact .d this
  rw [if_neg hj];exact (hR.sl j).turn (MLe.refl m) (fun k hk _ => ⟨hF k hk, rfl⟩)
 obtain ⟨_, h2⟩ := hch j c h1;obtain ⟨p, hp, hr, hl⟩ := hR.ch j c h2;exact ⟨p, hp, hr.turn (MLe.refl m) (fun k hk _ => ⟨hF k hk, rfl⟩) (fun _ _ => rfl), hl⟩
end
end Go.Proofs.YteakkoiflbaleaaGreat
namespace Go.Proofs
open Go.Shelf
def Tryz.lays105_ren : Go.Shelf.Ren := ⟨fun | 105 => 54 | 212 => 81 | 99 => 82 | 165 => 83 | 166 => 84 | 170 => 85 | 169 => 86 | 263 => 107 | 264 => 108 | 206 => 109 | 240 => 110 | 241 => 111 | 276 => 119 | 277 => 120 | n => n, fun | 9 => 9 | 3 => 3 | 4 => 4 | 20 => 20 | 0 => 0 | 46 => 119 | 109 => 120 | 5 => 5 | 72 => 126 | 76 => 130 | 51 => 148 | 146 => 149 | 53 => 151 | 148 => 152 | 70 => 123 | 37 => 124 | 75 => 129 | 127 => 154 | 164 => 161 | 80 => 133 | n => n, fun | n => n⟩
theorem Tryz.lays105 : Go.Proofs.Lays.n105 Tryz.prog Tryz.lays105_ren := {
 mixed := by kernel_rfl
 f99 := Tryz.func82.trans (congrArg some (by kernel_rfl))
 f105 := Tryz.func54.trans (congrArg some (by kernel_rfl))
 f165 := Tryz.func83.trans (congrArg some (by kernel_rfl))
 f166 := Tryz.func84.trans (congrArg some (by kernel_rfl))
 f169 := Tryz.func86.trans (congrArg some (by kernel_rfl))
 f170 := Tryz.func85.trans (congrArg some (by kernel_rfl))
 f206 := Tryz.func109.trans (congrArg some (by kernel_rfl))
 f212 := Tryz.func81.trans (congrArg some (by kernel_rfl))
 f240 := Tryz.func110.trans (congrArg some (by kernel_rfl))
 f241 := Tryz.func111.trans (congrArg some (by kernel_rfl))
 f263 := Tryz.func107.trans (congrArg some (by kernel_rfl))
 f264 := Tryz.func108.trans (congrArg some (by kernel_rfl))
 f276 := Tryz.func119.trans (congrArg some (by kernel_rfl))
 f277 := Tryz.func120.trans (congrArg some (by kernel_rfl))
 t0 := Tryz.underlying0
 a0 := Tryz.isAgg0
 z0 := Tryz.sizeOf0
 v0 := Tryz.zeroValue0
 t3 := Tryz.underlying3
 a3 := Tryz.isAgg3
 z3 := Tryz.sizeOf3
 v3 := Tryz.zeroValue3
 t4 := Tryz.underlying4
 a4 := Tryz.isAgg4
 z4 := Tryz.sizeOf4
 v4 := Tryz.zeroValue4
 t5 := Tryz.underlying5
 a5 := Tryz.isAgg5
 z5 := Tryz.sizeOf5
 v5 := Tryz.zeroValue5
 t9 := Tryz.underlying9
 a9 := Tryz.isAgg9
 z9 := Tryz.sizeOf9
 v9 := Tryz.zeroValue9
 t20 := Tryz.underlying20
 a20 := Tryz.isAgg20
 z20 := Tryz.sizeOf20
 v20 := Tryz.zeroValue20
 t37 := Tryz.underlying124
 a37 := Tryz.isAgg124
 z37 := Tryz.sizeOf124
 v37 := Tryz.zeroValue124
 t46 := Tryz.underlying119
 a46 := Tryz.isAgg119
 z46 := Tryz.sizeOf119
 v46 := Tryz.zeroValue119
 t51 := Tryz.underlying148
 a51 := Tryz.isAgg148
 z51 := Tryz.sizeOf148
 v51 := Tryz.zeroValue148
 t53 := Tryz.underlying151
 a53 := Tryz.isAgg151
 z53 := Tryz.sizeOf151
 v53 := Tryz.zeroValue151
 t70 := Tryz.underlying123
 a70 := Tryz.isAgg123
 z70 := Tryz.sizeOf123
 v70 := Tryz.zeroValue123
 t72 := Tryz.underlying126
 a72 := Tryz.isAgg126
 z72 := Tryz.sizeOf126
 v72 := Tryz.zeroValue126
 t75 := Tryz.underlying129
 a75 := Tryz.isAgg129
 z75 := Tryz.sizeOf129
 v75 := Tryz.zeroValue129
 t76 := Tryz.underlying130
 a76 := Tryz.isAgg130
 z76 := Tryz.sizeOf130
 v76 := Tryz.zeroValue130
 t109 := Tryz.underlying120
 a109 := Tryz.isAgg120
 z109 := Tryz.sizeOf120
 v109 := Tryz.zeroValue120
 t127 := Tryz.underlying154
 a127 := Tryz.isAgg154
 z127 := Tryz.sizeOf154
 v127 := Tryz.zeroValue154
 t146 := Tryz.underlying149
 a146 := Tryz.isAgg149
 z146 := Tryz.sizeOf149
 v146 := Tryz.zeroValue149
 t148 := Tryz.underlying152
 a148 := Tryz.isAgg152
 z148 := Tryz.sizeOf152
 v148 := Tryz.zeroValue152
 t164 := Tryz.underlying161
 a164 := Tryz.isAgg161
 z164 := Tryz.sizeOf161
 v164 := Tryz.zeroValue161 }
theorem Tryz.Builder_Extra_105 : Builder.Extra Tryz.prog Tryz.lays105_ren := {
 sizeBuilder := by kernel_rfl
 liesBuilder := by kernel_rfl
 t5 := Tryz.underlying5
 a5 := Tryz.isAgg5
 z5 := Tryz.sizeOf5
 v5 := Tryz.zeroValue5
 infoByte := by kernel_rfl
 cellsByte := by kernel_rfl
 sizeByte := by kernel_rfl
 neB5 := by decide }
open Go.RowKit Go.Lib in
theorem Tryz.strings_Repeat (s : ByteArray) (c : Nat) (w : World) (hc : c ≤ 9223372036854775807) (hlen : s.size * c ≤ 140737488355328) :
  Calls Tryz.prog 54 #[.string s, .int .i64 c] w fun e w' => e = .returned (.string ⟨(Lib.repeatL s.data.toList c).toArray⟩) ∧ Below w.heap.size w w' := Any.strings_Repeat Tryz.lays105 Tryz.Builder_Extra_105 s c w hc hlen
end Go.Proofs
namespace Go.Proofs.YteakkoiflbaleaaGreat
open Go.RowKit
abbrev ES := BitVec 64
def subU (s : ES) (n : Nat) : Prop := ∀ e, s.getLsbD e = true → e < n
structure WB (u : Unf) (L A : List ES) : Prop where
 w : WF u
 e : u.es.length ≤ 64
 l : L.length = u.es.length
 a : A.length = u.es.length
 s : ∀ x, x ∈ L → subU x u.es.length
def prodI (u : Unf) (L : List ES) (c : Int) : ES := if 0 ≤ (cAt u c).by_ then L.getD (cAt u c).by_.toNat 0 else 0
def allB (u : Unf) (L : List ES) (l : List Int) : ES := l.foldl (fun a c => a ||| prodI u L c) 0
def agK (u : Unf) (h : Ev) : Nat → ES
 | 0 => 0
 | k + 1 => if shareI (evAt u (k : Int)) h.pre = true then agK u h k ||| bitU k else agK u h k
def agA (u : Unf) (h : Ev) (A : List ES) : Nat → List ES
 | 0 => A
 | k + 1 => if shareI (evAt u (k : Int)) h.pre = true then (agA u h A k).set k (A.getD k 0 ||| bitU u.es.length) else agA u h A k
theorem agA_len (u : Unf) (h : Ev) (A : List ES) : ∀ k, (agA u h A k).length = A.length
 | 0 => rfl
 | k + 1 => by rw [agA]; split; rw [List.length_set, agA_len u h A k]; exact agA_len u h A k
def addL (u : Unf) (L : List ES) (h : Ev) : List ES := L ++ [allB u L h.pre ||| bitU u.es.length]
def addA (u : Unf) (A : List ES) (h : Ev) : List ES := agA u h A u.es.length ++ [agK u h u.es.length]
inductive Rch (u : Unf) (S : List Int) : Nat → Prop
 | base {e : Nat} : (e : Int) ∈ S → e < u.es.length → Rch u S e
 | step {e f : Nat} {c : Int} : Rch u S e → c ∈ evAt u (e : Int) → (cAt u c).by_ = (f : Int) → Rch u S f
def Ord (u : Unf) : Prop := ∀ (e : Nat) c, e < u.es.length → c ∈ evAt u (e : Int) → (cAt u c).by_ < e
theorem Rch.lt {u : Unf} {S : List Int} (ho : Ord u) {f : Nat} (h : Rch u S f) : f < u.es.length := by
 induction h with
 | base _ h => exact h
 | step _ hc hb ih => have := ho _ _ ih hc; omega
theorem Rch.one {u : Unf} {S : List Int} {f : Nat} (h : Rch u S f) : ∃ s, s ∈ S ∧ Rch u [s] f := by
 induction h with
 | base h1 h2 => exact ⟨_, h1, .base (List.mem_singleton.2 rfl) h2⟩
 | step _ hc hb ih => obtain ⟨s, hs, hr⟩ := ih; exact ⟨s, hs, hr.step hc hb⟩
theorem Rch.mono {u : Unf} {S T : List Int} {f : Nat} (hST : ∀ s, s ∈ S → 0 ≤ s → s ∈ T) (h : Rch u S f) : Rch u T f := by
 induction h with
 | base h1 h2 => exact .base (hST _ h1 (by omega)) h2
 | step _ hc hb ih => exact ih.step hc hb
structure Tru (u : Unf) (L A : List ES) : Prop where
 w : WB u L A
 o : Ord u
 d : ∀ e, e ∈ u.es → e.pre.Nodup
 l : ∀ e, e < u.es.length → ∀ f, (L.getD e 0).getLsbD f = true ↔ Rch u [(e : Int)] f
 a : ∀ e, e < u.es.length → ∀ f, (A.getD e 0).getLsbD f = true ↔ (f < u.es.length ∧ e ≠ f ∧ shareI (evAt u (e : Int)) (evAt u (f : Int)) = true)
theorem rch_neg {u : Unf} {x : Int} (hx : x < 0) {f : Nat} : ¬ Rch u [x] f := by
 intro h
 induction h with
 | base h _ => have := List.mem_singleton.1 h; omega
 | step _ _ _ ih => exact ih
theorem prod_bit {u : Unf} {L A : List ES} (hT : Tru u L A) {c : Int} (h0 : 0 ≤ c) (hc : c < u.cs.length) (f : Nat) : (prodI u L c).getLsbD f = true ↔ Rch u [(cAt u c).by_] f := by
 obtain ⟨i, rfl⟩ : ∃ i : Nat, c = i := ⟨c.toNat, by omega⟩;have hb := hT.w.w.b _ (List.getElem_mem (show i < u.cs.length by omega));rw [← cAt_nat] at hb;unfold prodI
 by_cases h : 0 ≤ (cAt u (i : Int)).by_
 ·obtain ⟨j, hj⟩ : ∃ j : Nat, (cAt u (i : Int)).by_ = j := ⟨(cAt u (i : Int)).by_.toNat, by omega⟩;rw [if_pos h, hj, Int.toNat_natCast];exact hT.l j (by omega) f
 rw [if_neg h];constructor
 ·intro h; simp at h
 intro h2; exact absurd h2 (rch_neg (by omega))
theorem fold_bit {u : Unf} {L : List ES} (f : Nat) : ∀ (l : List Int) (a : ES), (l.foldl (fun a c => a ||| prodI u L c) a).getLsbD f = true ↔ (a.getLsbD f = true ∨ ∃ c, c ∈ l ∧ (prodI u L c).getLsbD f = true)
 | [], a => by simp
 | c :: l, a => by
  rw [List.foldl_cons, fold_bit f l, BitVec.getLsbD_or, Bool.or_eq_true];simp [or_assoc]
theorem all_bit {u : Unf} {L A : List ES} (hT : Tru u L A) {l : List Int} (hin : ∀ c, c ∈ l → 0 ≤ c ∧ c < u.cs.length) (f : Nat) : (allB u L l).getLsbD f = true ↔ Rch u (byL u l) f := by
 unfold allB;rw [fold_bit];constructor
 ·rintro (h | ⟨c, hc, h⟩)
  ·simp at h
  have := (prod_bit hT (hin c hc).1 (hin c hc).2 f).1 h;exact this.mono fun s hs _ => by rw [List.mem_singleton] at hs; rw [hs]; exact List.mem_map.2 ⟨c, hc, rfl⟩
 intro h;obtain ⟨s, hs, hr⟩ := h.one;obtain ⟨c, hc, rfl⟩ := List.mem_map.1 hs;exact .inr ⟨c, hc, (prod_bit hT (hin c hc).1 (hin c hc).2 f).2 hr⟩
theorem share_iff {a b : List Int} : shareI a b = true ↔ ∃ x, x ∈ a ∧ x ∈ b := by
 unfold shareI;rw [List.any_eq_true];constructor
 ·rintro ⟨x, hx, h⟩;obtain ⟨y, hy, e⟩ := List.any_eq_true.1 h;have := of_decide_eq_true e; subst this;exact ⟨x, hx, hy⟩
 rintro ⟨x, hx, hy⟩;exact ⟨x, hx, List.any_eq_true.2 ⟨x, hy, by simp⟩⟩
theorem share_symm {a b : List Int} (h : shareI a b = true) : shareI b a = true := by
 rw [share_iff] at h ⊢;obtain ⟨x, h1, h2⟩ := h;exact ⟨x, h2, h1⟩
theorem evAt_old {N : Net} {u : Unf} {h : Ev} {e : Nat} (he : e < u.es.length) : evAt (withI N u h) (e : Int) = evAt u (e : Int) := by
 unfold evAt;rw [Int.toNat_natCast, List.getD_eq_getElem?_getD, List.getD_eq_getElem?_getD];show ((u.es ++ [h])[e]?.getD _).pre = _;rw [List.getElem?_append_left he]
theorem evAt_new {N : Net} {u : Unf} {h : Ev} : evAt (withI N u h) (u.es.length : Int) = h.pre := by
 unfold evAt;rw [Int.toNat_natCast, List.getD_eq_getElem?_getD];show ((u.es ++ [h])[u.es.length]?.getD _).pre = _;rw [List.getElem?_append_right (Nat.le_refl _), Nat.sub_self]; rfl
theorem cAt_old {N : Net} {u : Unf} {h : Ev} {c : Int} (h0 : 0 ≤ c) (hc : c < u.cs.length) : cAt (withI N u h) c = cAt u c := by
 unfold cAt;rw [List.getD_eq_getElem?_getD, List.getD_eq_getElem?_getD];show ((u.cs ++ _)[c.toNat]?.getD _) = _;rw [List.getElem?_append_left (by omega)]
theorem es_len {N : Net} {u : Unf} {h : Ev} : (withI N u h).es.length = u.es.length + 1 := by show (u.es ++ [h]).length = _; rw [List.length_append]; rfl
theorem evAt_in {u : Unf} (hw : WF u) {e : Nat} (he : e < u.es.length) : ∀ c, c ∈ evAt u (e : Int) → 0 ≤ c ∧ c < u.cs.length := by
 rw [evAt_nat he]; exact hw.p _ (List.getElem_mem he)
theorem rch_old {N : Net} {u : Unf} {h : Ev} (hw : WF u) (ho : Ord u) {S : List Int} (hS : ∀ s, s ∈ S → s < u.es.length) {f : Nat} : Rch (withI N u h) S f ↔ Rch u S f := by
 constructor
 ·intro hr
  induction hr with
  | base h1 h2 => exact .base h1 (by have := hS _ h1; omega)
  | step _ hc hb ih =>
   have hl := ih.lt ho;rw [evAt_old hl] at hc;have hi := evAt_in hw hl _ hc;rw [cAt_old hi.1 hi.2] at hb;exact ih.step hc hb
 intro hr
 induction hr with
 | base h1 h2 => exact .base h1 (by rw [es_len]; omega)
 | step h1 hc hb ih =>
  have hl := h1.lt ho;have hi := evAt_in hw hl _ hc;exact ih.step (by rw [evAt_old hl]; exact hc) (by rw [cAt_old hi.1 hi.2]; exact hb)
theorem rch_new {N : Net} {u : Unf} {h : Ev} (hw : WF u) (ho : Ord u) (hin : ∀ c, c ∈ h.pre → 0 ≤ c ∧ c < u.cs.length) {f : Nat} : Rch (withI N u h) [(u.es.length : Int)] f ↔ (f = u.es.length ∨ Rch u (byL u h.pre) f) := by
 have hby : ∀ c : Int, 0 ≤ c ∧ c < u.cs.length → (cAt u c).by_ < u.es.length := by
  intro c hc;obtain ⟨i, rfl⟩ : ∃ i : Nat, c = i := ⟨c.toNat, by omega⟩;have hi : i < u.cs.length := by omega
  rw [cAt_nat hi]; exact (hw.b _ (List.getElem_mem hi)).2
 constructor
 ·intro hr
  induction hr with
  | base h1 h2 => have := List.mem_singleton.1 h1; exact .inl (by omega)
  | @step e f c _ hc hb ih =>
   right;rcases ih with ih | ih
   ·subst ih;rw [evAt_new] at hc;have hi := hin _ hc;rw [cAt_old hi.1 hi.2] at hb;have := hby c hi;exact .base (List.mem_map.2 ⟨c, hc, hb⟩) (by omega)
   have hl := ih.lt ho;rw [evAt_old hl] at hc;have hi := evAt_in hw hl _ hc;rw [cAt_old hi.1 hi.2] at hb;exact ih.step hc hb
 rintro (rfl | hr)
 ·exact .base (List.mem_singleton.2 rfl) (by rw [es_len]; omega)
 have h0 : Rch (withI N u h) [(u.es.length : Int)] u.es.length := .base (List.mem_singleton.2 rfl) (by rw [es_len]; omega)
 induction hr with
 | base h1 h2 =>
  obtain ⟨c, hc, hb⟩ := List.mem_map.1 h1;have hi := hin _ hc;exact h0.step (by rw [evAt_new]; exact hc) (by rw [cAt_old hi.1 hi.2]; exact hb)
 | step h1 hc hb ih =>
  have hl := h1.lt ho;have hi := evAt_in hw hl _ hc;exact ih.step (by rw [evAt_old hl]; exact hc) (by rw [cAt_old hi.1 hi.2]; exact hb)
theorem bitU_get {k f : Nat} (hk : k < 64) : (bitU k).getLsbD f = decide (f = k) := by
 unfold bitU;rw [BitVec.getLsbD_twoPow]
 by_cases h : k = f
 ·subst h; simp [hk]
 rw [decide_eq_false h, Bool.and_false, decide_eq_false (fun e => h e.symm)]
theorem getD_app_l {α : Type} {L : List α} {x d : α} {e : Nat} (h : e < L.length) : (L ++ [x]).getD e d = L.getD e d := by
 rw [List.getD_eq_getElem?_getD, List.getD_eq_getElem?_getD, List.getElem?_append_left h]
theorem getD_app_r {α : Type} {L : List α} {x d : α} {e : Nat} (h : e = L.length) : (L ++ [x]).getD e d = x := by
 subst h;rw [List.getD_eq_getElem?_getD, List.getElem?_append_right (Nat.le_refl _), Nat.sub_self]; rfl
theorem agK_bit (u : Unf) (h : Ev) (f : Nat) : ∀ k, k ≤ 64 → ((agK u h k).getLsbD f = true ↔ (f < k ∧ shareI (evAt u (f : Int)) h.pre = true))
 | 0, _ => by simp [agK]
 | k + 1, hk => by
  rw [agK];have ih := agK_bit u h f k (by omega)
  split
  ·rename_i hs;rw [BitVec.getLsbD_or, Bool.or_eq_true, bitU_get (by omega), decide_eq_true_eq, ih];constructor
   ·rintro (⟨h1, h2⟩ | h1)
    ·exact ⟨by omega, h2⟩
    subst h1; exact ⟨by omega, hs⟩
   rintro ⟨h1, h2⟩
   by_cases e : f = k
   ·exact .inr e
   exact .inl ⟨by omega, h2⟩
  rename_i hs;rw [ih];constructor
  ·rintro ⟨h1, h2⟩; exact ⟨by omega, h2⟩
  rintro ⟨h1, h2⟩;refine ⟨?_, h2⟩
  by_cases e : f = k
  ·subst e; exact absurd h2 hs
  omega
theorem agA_at (u : Unf) (h : Ev) (A : List ES) (e : Nat) (he : e < A.length) : ∀ k, (agA u h A k).getD e 0 = if e < k ∧ shareI (evAt u (e : Int)) h.pre = true then A.getD e 0 ||| bitU u.es.length else A.getD e 0
 | 0 => by rw [agA, if_neg (by omega)]
 | k + 1 => by
  rw [agA];have ih := agA_at u h A e he k
  split
  ·rename_i hs;rw [List.getD_eq_getElem?_getD, List.getElem?_set]
   by_cases hke : k = e
   ·subst hke;rw [if_pos rfl, if_pos (by rw [agA_len]; exact he), if_pos ⟨by omega, hs⟩]; rfl
   rw [if_neg hke, ← List.getD_eq_getElem?_getD, ih]
   by_cases h2 : e < k ∧ shareI (evAt u (e : Int)) h.pre = true
   ·rw [if_pos h2, if_pos ⟨by omega, h2.2⟩]
   rw [if_neg h2, if_neg (fun h3 => h2 ⟨by omega, h3.2⟩)]
  rename_i hs;rw [ih]
  by_cases h2 : e < k ∧ shareI (evAt u (e : Int)) h.pre = true
  ·rw [if_pos h2, if_pos ⟨by omega, h2.2⟩]
  rw [if_neg h2, if_neg (fun h3 => h2 ⟨by
   by_cases e2 : e = k
   ·subst e2; exact absurd h3.2 hs
   omega, h3.2⟩)]
theorem Tru.zero {N : Net} (hN : NetS N) (m : List UInt8) : Tru ⟨madeI N m, []⟩ [] [] :=
 ⟨⟨(Now.zero hN m).w, Nat.zero_le _, rfl, rfl, fun x hx => absurd hx List.not_mem_nil⟩, fun e c he => absurd he (Nat.not_lt_zero _), fun e he => absurd he List.not_mem_nil, fun e he => absurd he (Nat.not_lt_zero _), fun e he => absurd he (Nat.not_lt_zero _)⟩
theorem Tru.add {N : Net} {u : Unf} {L A : List ES} {h : Ev} (hT : Tru u L A) (hw' : WF (withI N u h)) (he : u.es.length < 64) (hin : ∀ c, c ∈ h.pre → 0 ≤ c ∧ c < u.cs.length) (hnd : h.pre.Nodup) : Tru (withI N u h) (addL u L h) (addA u A h) := by
 have hw := hT.w.w;have hLl := hT.w.l;have hAl := hT.w.a;have hel := es_len (N := N) (u := u) (h := h)
 have hby : ∀ c : Int, 0 ≤ c ∧ c < u.cs.length → (cAt u c).by_ < u.es.length := by
  intro c hc;obtain ⟨i, rfl⟩ : ∃ i : Nat, c = i := ⟨c.toNat, by omega⟩;have hi : i < u.cs.length := by omega
  rw [cAt_nat hi]; exact (hw.b _ (List.getElem_mem hi)).2
 have hO : Ord (withI N u h) := by
  intro e c he' hc;rw [hel] at he'
  by_cases h1 : e < u.es.length
  ·rw [evAt_old h1] at hc;have hi := evAt_in hw h1 _ hc;rw [cAt_old hi.1 hi.2];exact hT.o e c h1 hc
  have : e = u.es.length := by omega
  subst this;rw [evAt_new] at hc;have hi := hin _ hc;rw [cAt_old hi.1 hi.2];exact hby c hi
 have hLb : ∀ e, e < (withI N u h).es.length → ∀ f, ((addL u L h).getD e 0).getLsbD f = true ↔ Rch (withI N u h) [(e : Int)] f := by
  intro e he' f;rw [hel] at he';unfold addL
  by_cases h1 : e < u.es.length
  ·rw [getD_app_l (by omega), rch_old hw hT.o (fun s hs => by rw [List.mem_singleton] at hs; omega)];exact hT.l e h1 f
  have : e = u.es.length := by omega
  subst this;rw [getD_app_r (by omega), rch_new hw hT.o hin, BitVec.getLsbD_or, Bool.or_eq_true, bitU_get he, decide_eq_true_eq, all_bit hT hin, or_comm]
 have hAb : ∀ e, e < (withI N u h).es.length → ∀ f, ((addA u A h).getD e 0).getLsbD f = true ↔ (f < (withI N u h).es.length ∧ e ≠ f ∧ shareI (evAt (withI N u h) (e : Int)) (evAt (withI N u h) (f : Int)) = true) := by
  intro e he' f;rw [hel] at he' ⊢;unfold addA
  by_cases h1 : e < u.es.length
  ·rw [getD_app_l (by rw [agA_len]; omega), agA_at u h A e (by omega), evAt_old h1];have ha := hT.a e h1 f
   by_cases h2 : e < u.es.length ∧ shareI (evAt u (e : Int)) h.pre = true
   ·rw [if_pos h2, BitVec.getLsbD_or, Bool.or_eq_true, bitU_get he, decide_eq_true_eq, ha];constructor
    ·rintro (⟨q1, q2, q3⟩ | rfl)
     ·exact ⟨by omega, q2, by rw [evAt_old q1]; exact q3⟩
     exact ⟨by omega, by omega, by rw [evAt_new]; exact h2.2⟩
    rintro ⟨q1, q2, q3⟩
    by_cases q : f = u.es.length
    ·exact .inr q
    have q1' : f < u.es.length := by omega
    rw [evAt_old q1'] at q3;exact .inl ⟨q1', q2, q3⟩
   rw [if_neg h2, ha];constructor
   ·rintro ⟨q1, q2, q3⟩;exact ⟨by omega, q2, by rw [evAt_old q1]; exact q3⟩
   rintro ⟨q1, q2, q3⟩
   by_cases q : f = u.es.length
   ·subst q; rw [evAt_new] at q3; exact absurd ⟨h1, q3⟩ h2
   have q1' : f < u.es.length := by omega
   rw [evAt_old q1'] at q3;exact ⟨q1', q2, q3⟩
  have : e = u.es.length := by omega
  subst this;rw [getD_app_r (by rw [agA_len]; omega), agK_bit u h f _ (by omega), evAt_new];constructor
  ·rintro ⟨q1, q2⟩;exact ⟨by omega, by omega, by rw [evAt_old q1]; exact share_symm q2⟩
  rintro ⟨q1, q2, q3⟩;have q1' : f < u.es.length := by omega
  rw [evAt_old q1'] at q3;exact ⟨q1', share_symm q3⟩
 refine ⟨⟨hw', by omega, ?_, ?_, ?_⟩, hO, ?_, hLb, hAb⟩
 ·unfold addL; rw [List.length_append, hel, hLl]; rfl
 ·unfold addA; rw [List.length_append, agA_len, hel, hAl]; rfl
 ·intro x hx f hf;obtain ⟨i, hi, rfl⟩ := List.getElem_of_mem hx
  have hi' : i < (withI N u h).es.length := by
   have : (addL u L h).length = u.es.length + 1 := by unfold addL; rw [List.length_append, hLl]; rfl
   omega
  have := (hLb i hi' f).1 (by rw [List.getD_eq_getElem?_getD, List.getElem?_eq_getElem hi]; exact hf);exact this.lt hO
 intro e he';rcases List.mem_append.1 he' with h1 | h1
 ·exact hT.d e h1
 rw [List.mem_singleton] at h1; subst h1; exact hnd
structure Good (N : Net) (m : List UInt8) (u : Unf) : Prop where
 n : NetS N
 q : (m.length : Int) = N.places
 b : bitsB m N.places = true
 e : u.es.length ≤ 60
 c : u.cs.length ≤ 200
 r : runI N ⟨madeI N m, []⟩ u.es = some u
open Go.ChangeShapes Go.WideShapes Go.ChangeAt Go.RowKit
section
variable {H : Type} {enc : TypeId × Value → H} {P : Program}
structure RT (enc : TypeId × Value → H) (P : Program) (t : TypeId) (k : Nat) {α : Type} (f : α → List DV) (ok : α → Prop) : Prop where
 rd : ∀ (W : World) (fuel : Nat) (cs : List Value) (x : DataW H × List MemPlace), DataW.trod enc P W 0 (fun _ => true) true fuel t cs = some x →
  cs.length = k ∧ ∃ a, ok a ∧ (f a).length = k ∧ ∀ j d, (f a)[j]? = some d → DRep (fun k => k < W.heap.size) W d (cs.getD j undef)
theorem get1 {x d : DV} {j : Nat} (h : [x][j]? = some d) : j = 0 ∧ d = x := by
 cases j with
 | zero => simp at h; exact ⟨rfl, h.symm⟩
 | succ j => simp at h
def okI (n : Int) : Prop := -9223372036854775808 ≤ n ∧ n ≤ 9223372036854775807
theorem RT.int {t : TypeId} (ht : P.underlying t = some (.int .i64)) : RT enc P t 1 (fun n : Int => [dI n]) okI := by
 refine ⟨fun W fuel cs x h => ?_⟩;obtain ⟨n, rfl, rfl, hwf⟩ := DataW.trod_int ht h;have hb := bounds_i64 hwf;refine ⟨rfl, n, hb, rfl, fun j d hj => ?_⟩;obtain ⟨rfl, rfl⟩ := get1 hj;refine .val ?_;show IntKind.i64.wrap n = n;exact wrap_i64 hb
theorem RT.bool {t : TypeId} (ht : P.underlying t = some .bool) : RT enc P t 1 (fun b : Bool => [dT b]) (fun _ => True) := by
 refine ⟨fun W fuel cs x h => ?_⟩;obtain ⟨b, rfl, rfl⟩ := DataW.trod_bool ht h;exact ⟨rfl, b, trivial, rfl, fun j d hj => by obtain ⟨rfl, rfl⟩ := get1 hj; exact .val trivial⟩
theorem RT.str {t : TypeId} (ht : P.underlying t = some .string) : RT enc P t 1 (fun s : List UInt8 => [dS (bstr s)]) (fun s => s.length ≤ 9223372036854775807) := by
 refine ⟨fun W fuel cs x h => ?_⟩;obtain ⟨s, rfl, rfl, hm⟩ := DataW.trod_string ht h;have hsz : s.data.toList.length = s.size := by simp
 have he : bstr s.data.toList = s := by
  apply ByteArray.ext
  simp [bstr]
 refine ⟨rfl, s.data.toList, by rw [hsz]; exact hm, rfl, fun j d hj => ?_⟩;simp only [he] at hj;obtain ⟨rfl, rfl⟩ := get1 hj;exact .val hm
theorem list_of {α : Type} {n : Nat} {Q : Nat → α → Prop} (h : ∀ i, i < n → ∃ a, Q i a) : ∃ l : List α, l.length = n ∧ ∀ i a, l[i]? = some a → Q i a := by
 induction n with
 | zero => exact ⟨[], rfl, fun i a h => by simp at h⟩
 | succ n ih =>
  obtain ⟨l, hl, hq⟩ := ih fun i hi => h i (by omega)
  obtain ⟨a, ha⟩ := h n (by omega);refine ⟨l ++ [a], by simp [hl], fun i b hb => ?_⟩
  by_cases hi : i < l.length
  ·rw [List.getElem?_append_left hi] at hb; exact hq i b hb
  rw [List.getElem?_append_right (by omega)] at hb
  have h0 : i - l.length = 0 := by
   by_cases e : i - l.length = 0
   ·exact e
   rw [List.getElem?_eq_none (by simp; omega)] at hb; cases hb
  rw [h0] at hb;simp at hb; subst hb;have : i = n := by omega
  subst this; exact ha
theorem RT.slice {t e : TypeId} {k : Nat} {α : Type} {f : α → List DV} {ok : α → Prop} (te : Nat) (ht : P.underlying t = some (.slice e)) (hc : P.cellsOf e = k) (hk : 0 < k) (hr : RT enc P e k f ok) :
  RT enc P t 1 (fun l : List α => [.view te k (l.map f)]) (fun l => l.length ≤ 9223372036854775807 ∧ ∀ a, a ∈ l → ok a) := by
 refine ⟨fun W fuel cs x h => ?_⟩;rcases DataW.trod_slice ht h with ⟨rfl, _⟩ | ⟨a, len, cap, elems, rest, n, _, rfl, _, _, hl, hm, hlen, hel, hsp, _⟩
 ·exact ⟨rfl, [], ⟨Nat.zero_le _, fun a ha => absurd ha List.not_mem_nil⟩, rfl, fun j d hj => by obtain ⟨rfl, rfl⟩ := get1 hj; exact .nil⟩
 refine ⟨rfl, ?_⟩;rw [hc] at hel hsp;obtain ⟨hrl, hrs⟩ := hsp rfl
 -- every element up to the capacity is there
 have hcell : ∀ i, i < cap → ∃ cs', W.cells? 0 (a.add (i * k)) k = some cs' ∧ ∃ y, DataW.trod enc P W 0 (fun _ => true) true n e cs' = some y := by
  intro i hi
  by_cases hil : i < len
  ·have h1 := hel i hil;rw [List.getElem?_eq_getElem (by omega)] at h1;obtain ⟨cs', h2, h3⟩ := Option.bind_eq_some_iff.1 h1;exact ⟨cs', h2, _, h3⟩
  have h1 := hrs (i - len) (by omega);rw [show len + (i - len) = i by omega, List.getElem?_eq_getElem (by omega)] at h1;obtain ⟨cs', h2, h3⟩ := Option.bind_eq_some_iff.1 h1;exact ⟨cs', h2, _, h3⟩
 by_cases hc0 : cap = 0
 ·subst hc0;have : len = 0 := by omega
  subst this;exact ⟨[], ⟨Nat.zero_le _, fun a ha => absurd ha List.not_mem_nil⟩, rfl, fun j d hj => by obtain ⟨rfl, rfl⟩ := get1 hj; exact .empty⟩
 obtain ⟨b, off, sp⟩ := a
 have hrow : ∀ i, i < cap → ∀ j, j < k → ∃ v, W.cell? (((⟨b, off, sp⟩ : Addr).add (i * k)).add j) = some v := by
  intro i hi j hj;obtain ⟨cs', h1, _⟩ := hcell i hi;obtain ⟨_, h2, h3⟩ := World.cells?_some h1;rw [h3 j hj, List.getElem?_eq_getElem (by omega)];exact ⟨_, rfl⟩
 have h00 := hrow 0 (by omega) 0 hk
 have hsp0 : sp = none := by
  obtain ⟨v, hv⟩ := h00;cases sp with
  | none => rfl
  | some q =>
   unfold World.cell? Addr.add at hv
   split at hv
   ·split at hv <;> simp_all
   cases hv
 subst hsp0;have hadd : ∀ i j, ((⟨b, off, none⟩ : Addr).add (i * k)).add j = ⟨b, off + i * k + j, none⟩ := fun i j => by rw [Addr.add_mid, Addr.add_mid]
 simp only [hadd] at hrow
 obtain ⟨arr, e2, fz, hb⟩ : ∃ arr e2 fz, W.heap[b]? = some (.cells arr e2 fz) := by
  obtain ⟨v, hv⟩ := hrow 0 (by omega) 0 hk;unfold World.cell? at hv
  split at hv
  ·rename_i c e2 fz hb; exact ⟨c, e2, fz, hb⟩
  cases hv
 have hget : ∀ q, W.cell? ⟨b, q, none⟩ = arr[q]? := by intro q; simp [World.cell?, hb]
 have hsz : off + cap * k ≤ arr.size := by
  obtain ⟨v, hv⟩ := hrow (cap - 1) (by omega) (k - 1) (by omega);rw [hget] at hv;have := (Array.getElem?_eq_some_iff.1 hv).1;obtain ⟨c, rfl⟩ : ∃ c, cap = c + 1 := ⟨cap - 1, by omega⟩;rw [Nat.add_sub_cancel] at this;rw [Nat.succ_mul]; omega
 have hall : ∀ i, i < len → ∃ a, ok a ∧ (f a).length = k ∧ ∀ j d, (f a)[j]? = some d → DRep (fun k => k < W.heap.size) W d (arr.getD (off + i * k + j) undef) := by
  intro i hi;obtain ⟨cs', h1, y, h2⟩ := hcell i (by omega);obtain ⟨h3, a, h4, h5, h6⟩ := hr.rd W n cs' y h2;obtain ⟨_, h7, h8⟩ := World.cells?_some h1;refine ⟨a, h4, h5, fun j d hj => ?_⟩;have hj1 := (List.getElem?_eq_some_iff.1 hj).1;have h9 := h8 j (by omega);rw [hadd, hget] at h9
  have : arr.getD (off + i * k + j) undef = cs'.getD j undef := by
   rw [Array.getD_eq_getD_getElem?, h9, List.getD_eq_getElem?_getD]
  rw [this];exact h6 j d hj
 obtain ⟨l, hll, hq⟩ := list_of hall
 have hin : ∀ a, a ∈ l → ok a ∧ (f a).length = k := by
  intro a ha;obtain ⟨i, hi⟩ := List.getElem?_of_mem ha;exact ⟨(hq i a hi).1, (hq i a hi).2.1⟩
 refine ⟨l, ⟨by have : cap ≤ 9223372036854775807 := hm; omega, fun a ha => (hin a ha).1⟩, rfl, fun j d hj => ?_⟩;obtain ⟨rfl, rfl⟩ := get1 hj;have hle : (l.map f).length = len := by rw [List.length_map, hll]
 have hv := DRep.view (F := fun k => k < W.heap.size) (w := W) (e := te) (sz := k) (els := l.map f) (b := b) (off := off) (cap := cap) (arr := arr) (lt_of_block hb) hb (by omega) hm hsz (fun i cs hi => ?_) (fun i cs j d hi hj => ?_)
 ·rw [hle] at hv; exact hv
 ·rw [List.getElem?_map, Option.map_eq_some_iff] at hi;obtain ⟨a, ha, rfl⟩ := hi;exact (hin a (List.mem_of_getElem? ha)).2
 rw [List.getElem?_map, Option.map_eq_some_iff] at hi;obtain ⟨a, ha, rfl⟩ := hi;exact (hq i a ha).2.2 j d hj
theorem RT.struct2 {t : TypeId} {f1 f2 : Field} {k1 k2 : Nat} {α β γ : Type} {fa : α → List DV} {fb : β → List DV} {oa : α → Prop} {ob : β → Prop} {fg : γ → List DV} {og : γ → Prop} (g : α → β → γ)
  (ht : P.underlying t = some (.struct #[f1, f2])) (h1 : f1.offset = 0) (h2 : f2.offset = k1) (hc1 : P.cellsOf f1.type = k1) (hc2 : P.cellsOf f2.type = k2) (hct : P.cellsOf t = k1 + k2)
  (r1 : RT enc P f1.type k1 fa oa) (r2 : RT enc P f2.type k2 fb ob) (hf : ∀ a b, fg (g a b) = fa a ++ fb b) (hg : ∀ a b, oa a → ob b → og (g a b)) : RT enc P t (k1 + k2) fg og := by
 refine ⟨fun W fuel cs x h => ?_⟩;obtain ⟨xs, n, _, _, hl, hxl, hx⟩ := DataW.trod_struct ht h;have hxl2 : xs.length = 2 := hxl;have e1 := hx 0 f1 rfl;have e2 := hx 1 f2 rfl;rw [List.getElem?_eq_getElem (by omega)] at e1 e2;rw [h1, hc1] at e1;rw [h2, hc2] at e2;obtain ⟨l1, a, ha, la, ra⟩ := r1.rd W n _ _ e1;obtain ⟨l2, b, hb, lb, rb⟩ := r2.rd W n _ _ e2;refine ⟨by omega, g a b, hg a b ha hb, by rw [hf, List.length_append]; omega, fun j d hj => ?_⟩;rw [hf] at hj
 by_cases hj1 : j < k1
 ·rw [List.getElem?_append_left (by omega)] at hj;have := ra j d hj
  have e : ((cs.drop 0).take k1).getD j undef = cs.getD j undef := by
   rw [List.getD_eq_getElem?_getD, List.getD_eq_getElem?_getD, List.getElem?_take, if_pos hj1, List.drop_zero]
  rwa [e] at this
 rw [List.getElem?_append_right (by omega), la] at hj;have := rb _ d hj;have hj2 := (List.getElem?_eq_some_iff.1 hj).1
 have e : ((cs.drop k1).take k2).getD (j - k1) undef = cs.getD j undef := by
  rw [List.getD_eq_getElem?_getD, List.getD_eq_getElem?_getD, List.getElem?_take, if_pos (by omega), List.getElem?_drop, show k1 + (j - k1) = j by omega]
 rwa [e] at this
theorem RT.imp {t : TypeId} {k : Nat} {α β : Type} {f : α → List DV} {ok : α → Prop} {f' : β → List DV} {ok' : β → Prop} (h : RT enc P t k f ok) (g : α → β) (hf : ∀ a, ok a → f' (g a) = f a) (ho : ∀ a, ok a → ok' (g a)) : RT enc P t k f' ok' :=
 ⟨fun W fuel cs x hx => by
  obtain ⟨h1, a, h2, h3, h4⟩ := h.rd W fuel cs x hx
  exact ⟨h1, g a, ho a h2, by rw [hf a h2]; exact h3, by rw [hf a h2]; exact h4⟩⟩
theorem RT.argS {m : Nat → Option (Option Nat × Nat)} {W : World} {t : TypeId} {k : Nat} {α : Type} {f : α → List DV} {ok : α → Prop} {cs : Array Value} {d : DataW H} {ps : List MemPlace} (h : RT enc P t k f ok) (ht : DataW.Trod enc P W 0 (fun _ => true) true t (.agg cs) d ps) :
  ∃ a, ok a ∧ ARep m (fun k => k < W.heap.size) W (.agg ((f a).map .d)) (.agg cs) := by
 obtain ⟨fuel, ht⟩ := ht;obtain ⟨h0, a, h1, h2, h3⟩ := h.rd W fuel _ _ ht;have h0' : cs.toList.length = k := h0
 have hd : ∀ j d, (f a)[j]? = some d → DRep (fun k => k < W.heap.size) W d (cs.getD j undef) := by
  intro j d hj;have := h3 j d hj
  have e : (Value.agg cs).cells.toList.getD j undef = cs.getD j undef := by
   show cs.toList.getD j undef = _;simp [List.getD_eq_getElem?_getD, Array.getD_eq_getD_getElem?]
  rwa [e] at this
 have hsz : cs.size = k := by simpa using h0'
 refine ⟨a, h1, .agg (by simp; omega) (fun i c hi => ?_) (fun i hi => ?_)⟩
 ·rw [List.getElem?_map, Option.map_eq_some_iff] at hi;obtain ⟨d, hd', rfl⟩ := hi;exact .d (hd i d hd')
 exact (hd i _ (List.getElem?_eq_getElem (by omega))).one
end
inductive AReps (m : Nat → Option (Option Nat × Nat)) (F : Nat → Prop) (W : World) : List AV → List Value → Prop
 | nil : AReps m F W [] []
 | cons {x : AV} {v : Value} {xs : List AV} {vs : List Value} : ARep m F W x v → AReps m F W xs vs → AReps m F W (x :: xs) (v :: vs)
theorem AReps.at {m : Nat → Option (Option Nat × Nat)} {F : Nat → Prop} {W : World} {xs : List AV} {vs : List Value} (h : AReps m F W xs vs) : ∀ (i : Nat) a, xs[i]? = some a → ARep m F W a (vs.toArray.getD i undef) := by
 have key : ∀ (i : Nat) a, xs[i]? = some a → ARep m F W a (vs.getD i undef) := by
  induction h with
  | nil => intro i a h; simp at h
  | cons h _ ih =>
   intro i a hi;cases i with
   | zero => simp at hi; subst hi; exact h
   | succ i => simp at hi; exact ih i a hi
 intro i a hi;have := key i a hi;have e : vs.toArray.getD i undef = vs.getD i undef := by simp [List.getD_eq_getElem?_getD, Array.getD_eq_getD_getElem?]
 rwa [e]
set_option maxRecDepth 100000
section
variable {H : Type} {enc : TypeId × Value → H}
theorem rt_int : RT enc Tryz.prog 3 1 (fun n : Int => [dI n]) okI := RT.int Tryz.underlying3
theorem rt_str : RT enc Tryz.prog 9 1 (fun s : List UInt8 => [dS (bstr s)]) (fun s => s.length ≤ 9223372036854775807) := RT.str Tryz.underlying9
end
section
variable {H : Type} {enc : TypeId × Value → H} {P : Program}
theorem cell1 (cs : List Value) (i : Nat) : ((cs.drop i).take 1).getD 0 undef = cs.getD i undef := by
 rw [List.getD_eq_getElem?_getD, List.getD_eq_getElem?_getD, List.getElem?_take, if_pos (by omega), List.getElem?_drop, Nat.add_zero]
theorem RT.struct4 {t : TypeId} {f1 f2 f3 f4 : Field} {α β γ δ ε : Type} {fa : α → DV} {fb : β → DV} {fc : γ → DV} {fd : δ → DV} {oa : α → Prop} {ob : β → Prop} {oc : γ → Prop} {od : δ → Prop} {fg : ε → List DV} {og : ε → Prop} (g : α → β → γ → δ → ε)
  (ht : P.underlying t = some (.struct #[f1, f2, f3, f4])) (h1 : f1.offset = 0) (h2 : f2.offset = 1) (h3 : f3.offset = 2) (h4 : f4.offset = 3) (hc1 : P.cellsOf f1.type = 1) (hc2 : P.cellsOf f2.type = 1) (hc3 : P.cellsOf f3.type = 1) (hc4 : P.cellsOf f4.type = 1) (hct : P.cellsOf t = 4)
  (r1 : RT enc P f1.type 1 (fun a => [fa a]) oa) (r2 : RT enc P f2.type 1 (fun a => [fb a]) ob) (r3 : RT enc P f3.type 1 (fun a => [fc a]) oc) (r4 : RT enc P f4.type 1 (fun a => [fd a]) od) (hf : ∀ a b c d, fg (g a b c d) = [fa a, fb b, fc c, fd d]) (hg : ∀ a b c d, oa a → ob b → oc c → od d → og (g a b c d)) : RT enc P t 4 fg og := by
 refine ⟨fun W fuel cs x h => ?_⟩;obtain ⟨xs, n, _, _, hl, hxl, hx⟩ := DataW.trod_struct ht h;have hxl2 : xs.length = 4 := hxl;have e1 := hx 0 f1 rfl;have e2 := hx 1 f2 rfl;have e3 := hx 2 f3 rfl;have e4 := hx 3 f4 rfl;rw [List.getElem?_eq_getElem (by omega)] at e1 e2 e3 e4;rw [h1, hc1] at e1;rw [h2, hc2] at e2;rw [h3, hc3] at e3;rw [h4, hc4] at e4;obtain ⟨l1, a, ha, la, ra⟩ := r1.rd W n _ _ e1;obtain ⟨l2, b, hb, lb, rb⟩ := r2.rd W n _ _ e2;obtain ⟨l3, c, hc, lc, rc⟩ := r3.rd W n _ _ e3;obtain ⟨l4, d, hd, ld, rd⟩ := r4.rd W n _ _ e4;refine ⟨by omega, g a b c d, hg a b c d ha hb hc hd, by rw [hf]; rfl, fun j y hj => ?_⟩;rw [hf] at hj
 match j, hj with
 | 0, hj => have := ra 0 y hj; rwa [cell1] at this
 | 1, hj => have := rb 0 y hj; rwa [cell1] at this
 | 2, hj => have := rc 0 y hj; rwa [cell1] at this
 | 3, hj => have := rd 0 y hj; rwa [cell1] at this
 | j + 4, hj => simp at hj
end
inductive TRep (w : World) : (Nat → Prop) → DV → Value → Prop
 | val {S : Nat → Prop} {v : Value} : (∀ k, ¬ S k) → okV v → TRep w S (.val v) v
 | nil {S : Nat → Prop} {e sz : Nat} : (∀ k, ¬ S k) → TRep w S (.view e sz []) (.slice none 0 0)
 | view {S : Nat → Prop} {e sz : Nat} {els : List (List DV)} {b cap : Nat} {vs : Array Value} {fz : Nat × Nat} (Ts : Nat → Nat → Prop) : w.heap[b]? = some (.cells vs e fz) → (∀ (i : Nat), i < vs.size → ¬ (fz.1 ≤ i ∧ i < fz.2)) → vs.size = cap * sz → els.length ≤ cap → cap ≤ maxLen → 0 < sz →
   (∀ (i : Nat) (cs : List DV), els[i]? = some cs → cs.length = sz) → (∀ (i : Nat) (cs : List DV) (j : Nat) (d : DV), els[i]? = some cs → cs[j]? = some d → TRep w (Ts (i * sz + j)) d (vs.getD (i * sz + j) undef)) →
   (∀ c, ¬ Ts c b) → (∀ c c' k, Ts c k → Ts c' k → c = c') → (∀ k, S k ↔ k = b ∨ ∃ c, c < els.length * sz ∧ Ts c k) → TRep w S (.view e sz els) (.slice (some ⟨b, 0, none⟩) els.length cap)
theorem TRep.lt {w : World} {S : Nat → Prop} {x : DV} {v : Value} (h : TRep w S x v) : ∀ k, S k → k < w.heap.size := by
 induction h with
 | val h _ => intro k h'; exact absurd h' (h k)
 | nil h => intro k h'; exact absurd h' (h k)
 | @view S e sz els b cap vs fz Ts hb _ _ _ _ hz hr _ _ _ hS ih =>
  intro k hk;rcases (hS k).1 hk with rfl | ⟨c, hc, hk⟩
  ·exact lt_of_block hb
  have h1 : c / sz < els.length := Nat.div_lt_of_lt_mul (by rw [Nat.mul_comm]; exact hc);have h2 : c % sz < sz := Nat.mod_lt _ hz;have e1 := List.getElem?_eq_getElem h1;have h3 := hr _ _ e1;have e2 : c / sz * sz + c % sz = c := Nat.div_add_mod' c sz;have := ih _ _ _ _ e1 (List.getElem?_eq_getElem (by rw [h3]; exact h2)) k;rw [e2] at this;exact this hk
theorem TRep.turn {w w' : World} {S : Nat → Prop} {x : DV} {v : Value} (h : TRep w S x v) : (∀ k, S k → w'.heap[k]? = w.heap[k]?) → TRep w' S x v := by
 induction h with
 | val h0 h => intro _; exact .val h0 h
 | nil h0 => intro _; exact .nil h0
 | @view S e sz els b cap vs fz Ts hb h1 h2 h3 h4 h5 h6 h7 h8 h9 h10 ih =>
  intro hk;refine .view Ts ((hk _ ((h10 _).2 (.inl rfl))).trans hb) h1 h2 h3 h4 h5 h6 (fun i cs j d hi hj => ih i cs j d hi hj (fun k hk' => hk k ((h10 k).2 (.inr ⟨_, ?_, hk'⟩)))) h8 h9 h10;have hi1 := (List.getElem?_eq_some_iff.1 hi).1;have hj1 := (List.getElem?_eq_some_iff.1 hj).1;rw [h6 i cs hi] at hj1;have h := Nat.mul_le_mul_right sz hi1;rw [Nat.succ_mul] at h;omega
theorem TRep.data {w : World} {S : Nat → Prop} {x : DV} {v : Value} (h : TRep w S x v) : DRep S w x v := by
 induction h with
 | val _ h => exact .val h
 | nil _ => exact .nil
 | @view S e sz els b cap vs fz Ts hb h1 h2 h3 h4 h5 h6 h7 h8 h9 h10 ih =>
  refine .view ((h10 _).2 (.inl rfl)) hb h3 h4 (by rw [Nat.zero_add, h2]; exact Nat.le_refl _) h6 (fun i cs j d hi hj => ?_);rw [Nat.zero_add];refine (ih i cs j d hi hj).mono fun k hk => (h10 k).2 (.inr ⟨_, ?_, hk⟩)
  have hi1 := (List.getElem?_eq_some_iff.1 hi).1;have hj1 := (List.getElem?_eq_some_iff.1 hj).1;rw [h6 i cs hi] at hj1;have h := Nat.mul_le_mul_right sz hi1;rw [Nat.succ_mul] at h;omega
theorem TRep.congr {w : World} {S S' : Nat → Prop} {x : DV} {v : Value} (h : TRep w S x v) (he : ∀ k, S k ↔ S' k) : TRep w S' x v := by
 have : S = S' := funext fun k => propext (he k)
 subst this; exact h
def TL (w : World) (S : Nat → Prop) (L : List DV) (V : List Value) : Prop :=
 ∃ Ts : Nat → Nat → Prop, V.length = L.length ∧ (∀ i d v, L[i]? = some d → V[i]? = some v → TRep w (Ts i) d v) ∧ (∀ i j k, Ts i k → Ts j k → i = j) ∧ ∀ k, S k ↔ ∃ i, i < L.length ∧ Ts i k
theorem TL.turn {w w' : World} {S : Nat → Prop} {L : List DV} {V : List Value} (h : TL w S L V) (hk : ∀ k, S k → w'.heap[k]? = w.heap[k]?) : TL w' S L V := by
 obtain ⟨Ts, h1, h2, h3, h4⟩ := h;exact ⟨Ts, h1, fun i d v hd hv => (h2 i d v hd hv).turn fun k hk' => hk k ((h4 k).2 ⟨i, (List.getElem?_eq_some_iff.1 hd).1, hk'⟩), h3, h4⟩
theorem TL.lt {w : World} {S : Nat → Prop} {L : List DV} {V : List Value} (h : TL w S L V) (k : Nat) (hk : S k) : k < w.heap.size := by
 obtain ⟨Ts, h1, h2, h3, h4⟩ := h;obtain ⟨i, hi, hk'⟩ := (h4 k).1 hk;exact (h2 i _ _ (List.getElem?_eq_getElem hi) (List.getElem?_eq_getElem (by omega))).lt k hk'
theorem TL.data {w : World} {S : Nat → Prop} {L : List DV} {V : List Value} (h : TL w S L V) (i : Nat) {d : DV} {v : Value} (hd : L[i]? = some d) (hv : V[i]? = some v) : DRep S w d v := by
 obtain ⟨Ts, h1, h2, h3, h4⟩ := h;exact (h2 i d v hd hv).data.mono fun k hk => (h4 k).2 ⟨i, (List.getElem?_eq_some_iff.1 hd).1, hk⟩
theorem TL.len {w : World} {S : Nat → Prop} {L : List DV} {V : List Value} (h : TL w S L V) : V.length = L.length := h.choose_spec.1
theorem TL.nil (w : World) : TL w (fun _ => False) [] [] := ⟨fun _ _ => False, rfl, fun i d v h => by simp at h, fun _ _ _ h => h.elim, fun k => ⟨fun h => h.elim, fun ⟨_, h, _⟩ => by simp at h⟩⟩
theorem TL.one {w : World} {S : Nat → Prop} {d : DV} {v : Value} (h : TRep w S d v) : TL w S [d] [v] := by
 refine ⟨fun i k => i = 0 ∧ S k, rfl, fun i d' v' hd hv => ?_, fun i j k h1 h2 => h1.1.trans h2.1.symm, fun k => ⟨fun h => ⟨0, by simp, rfl, h⟩, fun ⟨_, _, h⟩ => h.2⟩⟩;cases i with
 | zero =>
  simp at hd hv; subst hd; subst hv;exact h.congr fun k => by simp
 | succ i => simp at hd
theorem TL.app {w : World} {S S' : Nat → Prop} {L L' : List DV} {V V' : List Value} (h : TL w S L V) (h' : TL w S' L' V') (hd : ∀ k, S k → ¬ S' k) : TL w (fun k => S k ∨ S' k) (L ++ L') (V ++ V') := by
 obtain ⟨Ts, h1, h2, h3, h4⟩ := h;obtain ⟨Ts', g1, g2, g3, g4⟩ := h';refine ⟨fun i k => (i < L.length ∧ Ts i k) ∨ (L.length ≤ i ∧ i < L.length + L'.length ∧ Ts' (i - L.length) k), by simp [h1, g1], fun i d v hd' hv => ?_, fun i j k hi hj => ?_, fun k => ⟨fun h => ?_, fun h => ?_⟩⟩
 ·by_cases hi : i < L.length
  ·rw [List.getElem?_append_left hi] at hd';rw [List.getElem?_append_left (by omega)] at hv;exact (h2 i d v hd' hv).congr fun k => by simp [hi, Nat.not_le.2 hi]
  have hlt := (List.getElem?_eq_some_iff.1 hd').1;rw [List.length_append] at hlt;rw [List.getElem?_append_right (by omega)] at hd' hv;rw [h1] at hv;exact (g2 _ d v hd' hv).congr fun k => by simp [hi, hlt, Nat.le_of_not_lt hi]
 ·rcases hi with ⟨a1, a2⟩ | ⟨a1, a2, a3⟩ <;> rcases hj with ⟨b1, b2⟩ | ⟨b1, b2, b3⟩
  ·exact h3 i j k a2 b2
  ·exact absurd ((g4 k).2 ⟨_, by omega, b3⟩) (hd k ((h4 k).2 ⟨i, a1, a2⟩))
  ·exact absurd ((g4 k).2 ⟨_, by omega, a3⟩) (hd k ((h4 k).2 ⟨j, b1, b2⟩))
  have := g3 _ _ k a3 b3; omega
 ·rcases h with h | h
  ·obtain ⟨i, hi, hk⟩ := (h4 k).1 h;exact ⟨i, by rw [List.length_append]; omega, .inl ⟨hi, hk⟩⟩
  obtain ⟨i, hi, hk⟩ := (g4 k).1 h;refine ⟨L.length + i, by rw [List.length_append]; omega, .inr ⟨by omega, by omega, ?_⟩⟩;rw [show L.length + i - L.length = i by omega]; exact hk
 obtain ⟨i, _, ⟨a1, a2⟩ | ⟨a1, a2, a3⟩⟩ := h
 ·exact .inl ((h4 k).2 ⟨i, a1, a2⟩)
 exact .inr ((g4 k).2 ⟨_, by omega, a3⟩)
theorem TL.cons {w : World} {S S' : Nat → Prop} {d : DV} {v : Value} {L : List DV} {V : List Value} (h : TRep w S d v) (h' : TL w S' L V) (hd : ∀ k, S k → ¬ S' k) : TL w (fun k => S k ∨ S' k) (d :: L) (v :: V) := (TL.one h).app h' hd
def TX (w : World) (S : Nat → Prop) (c : Nat) (L : List DV) (V : List Value) : Prop :=
 ∃ Ts : Nat → Nat → Prop, V.length = L.length ∧ (∀ i d v, i ≠ c → L[i]? = some d → V[i]? = some v → TRep w (Ts i) d v) ∧ (∀ i j k, Ts i k → Ts j k → i = j) ∧ (∀ k, ¬ Ts c k) ∧ ∀ k, S k ↔ ∃ i, i < L.length ∧ Ts i k
theorem TX.turn {w w' : World} {S : Nat → Prop} {c : Nat} {L : List DV} {V : List Value} (h : TX w S c L V) (hk : ∀ k, S k → w'.heap[k]? = w.heap[k]?) : TX w' S c L V := by
 obtain ⟨Ts, h1, h2, h3, h4, h5⟩ := h;exact ⟨Ts, h1, fun i d v hi hd hv => (h2 i d v hi hd hv).turn fun k hk' => hk k ((h5 k).2 ⟨i, (List.getElem?_eq_some_iff.1 hd).1, hk'⟩), h3, h4, h5⟩
theorem TL.split {w : World} {S : Nat → Prop} {L : List DV} {V : List Value} (h : TL w S L V) {c : Nat} {d : DV} {v : Value} (hd : L[c]? = some d) (hv : V[c]? = some v) : ∃ S1 S2, TRep w S1 d v ∧ TX w S2 c L V ∧ (∀ k, S1 k → ¬ S2 k) ∧ ∀ k, S k ↔ S1 k ∨ S2 k := by
 obtain ⟨Ts, h1, h2, h3, h4⟩ := h;have hlt := (List.getElem?_eq_some_iff.1 hd).1;refine ⟨Ts c, fun k => ∃ i, i < L.length ∧ i ≠ c ∧ Ts i k, h2 c d v hd hv, ⟨fun i k => i ≠ c ∧ Ts i k, h1, fun i d v hi hd hv => ?_, fun i j k hi hj => h3 i j k hi.2 hj.2, fun k hk => hk.1 rfl, fun k => Iff.rfl⟩, fun k hk ⟨i, _, hi, hk'⟩ => hi (h3 i c k hk' hk), fun k => ⟨fun hk => ?_, fun hk => ?_⟩⟩
 ·exact (h2 i d v hd hv).congr fun k => by simp [hi]
 ·obtain ⟨i, hi, hk⟩ := (h4 k).1 hk
  by_cases hic : i = c
  ·subst hic; exact .inl hk
  exact .inr ⟨i, hi, hic, hk⟩
 rcases hk with hk | ⟨i, hi, _, hk⟩
 ·exact (h4 k).2 ⟨c, hlt, hk⟩
 exact (h4 k).2 ⟨i, hi, hk⟩
theorem TX.join {w : World} {S1 S2 : Nat → Prop} {c : Nat} {L : List DV} {V : List Value} {d : DV} {v : Value} (h : TX w S2 c L V) (h1 : TRep w S1 d v) (hc : c < L.length) (hv : V[c]? = some v) (hd : ∀ k, S1 k → ¬ S2 k) : TL w (fun k => S1 k ∨ S2 k) (L.set c d) V := by
 obtain ⟨Ts, g1, g2, g3, g4, g5⟩ := h;refine ⟨fun i k => (i = c ∧ S1 k) ∨ (i < L.length ∧ Ts i k), by simpa using g1, fun i d' v' hd' hv' => ?_, fun i j k hi hj => ?_, fun k => ⟨fun hk => ?_, fun hk => ?_⟩⟩
 ·by_cases hi : c = i
  ·subst hi;rw [List.getElem?_set_self hc] at hd';rw [hv] at hv';simp only [Option.some.injEq] at hd' hv';subst hd'; subst hv';exact h1.congr fun k => by simp [g4]
  rw [List.getElem?_set_ne hi] at hd';have hl := (List.getElem?_eq_some_iff.1 hd').1;have hi' : ¬ i = c := fun e => hi e.symm
  exact (g2 i d' v' hi' hd' hv').congr fun k => by simp [hi', hl]
 ·rcases hi with ⟨a1, a2⟩ | ⟨a1, a2⟩ <;> rcases hj with ⟨b1, b2⟩ | ⟨b1, b2⟩
  ·rw [a1, b1]
  ·exact absurd ((g5 k).2 ⟨j, b1, b2⟩) (hd k a2)
  ·exact absurd ((g5 k).2 ⟨i, a1, a2⟩) (hd k b2)
  exact g3 i j k a2 b2
 ·rcases hk with hk | hk
  ·exact ⟨c, by simpa using hc, .inl ⟨rfl, hk⟩⟩
  obtain ⟨i, hi, hk⟩ := (g5 k).1 hk;exact ⟨i, by simpa using hi, .inr ⟨hi, hk⟩⟩
 obtain ⟨i, _, ⟨_, hk⟩ | ⟨hi, hk⟩⟩ := hk
 ·exact .inl hk
 exact .inr ((g5 k).2 ⟨i, hi, hk⟩)
section
variable {P : Program} [PT P] {C : Ctx} {Q : Exit → ASt → Prop} {s : ASt} {ops : Array Oper} {U U' : Nat → Prop} {a : Act} {w : World} {m : Nat → Option (Option Nat × Nat)}
def mNew (m : Nat → Option (Option Nat × Nat)) (new : List (Nat × Chunk)) (pm : Nat → Option Nat × Nat) (j : Nat) : Option (Option Nat × Nat) :=
 match getL j new with
 | some _ => some (pm j)
 | none => m j
theorem mNew_some {new : List (Nat × Chunk)} {pm : Nat → Option Nat × Nat} {j : Nat} {c : Chunk} (h : getL j new = some c) : mNew m new pm j = some (pm j) := by simp [mNew, h]
theorem mNew_none {new : List (Nat × Chunk)} {pm : Nat → Option Nat × Nat} {j : Nat} (h : getL j new = none) : mNew m new pm j = m j := by simp [mNew, h]
theorem RelM.repack (h : RelM C U s a w m) {t : ASt} (new : List (Nat × Chunk)) (pm : Nat → Option Nat × Nat) (gone : List Nat) (hn : t.n = s.n)
  (ht : ∀ id c, t.chunk id = some c → getL id new = some c ∨ (getL id new = none ∧ id ∉ gone ∧ s.chunk id = some c))
  (hU : ∀ id c, getL id new = some c → U id ∨ m id = some (pm id))
  (hU' : ∀ j, U' j → U j ∧ getL j new = none)
  (hocc : ∀ id c b, getL id new = some c → occ (pm id) c b → ∃ j c0 q, j ∈ gone ∧ s.chunk j = some c0 ∧ m j = some q ∧ occ q c0 b)
  (hdis : ∀ id id' c c' b, getL id new = some c → getL id' new = some c' → occ (pm id) c b → occ (pm id') c' b → id = id')
  (hrep : ∀ F', (∀ k, Fz C m s w k → F' k) → ∀ id c, getL id new = some c → CRep (mNew m new pm) F' w (pm id) c)
  (hsl : MLe m (mNew m new pm) → ∀ F', (∀ k, Fz C m s w k → F' k) → ∀ i, ARep (mNew m new pm) F' w (t.get i) (a.tmps.getD i undef)) : RelM C U' t a w (mNew m new pm) := by
 have hle : MLe m (mNew m new pm) := by
  intro j p hp;cases hg : getL j new with
  | none => rw [mNew_none hg]; exact hp
  | some c =>
   rcases hU j c hg with h1 | h1
   ·rw [h.un j h1] at hp; cases hp
   rw [hp] at h1; rw [mNew_some hg, h1]
 have hF : ∀ k, Fz C m s w k → Fz C (mNew m new pm) t w k := by
  intro k hk;refine ⟨hk.1, hk.2.1, fun id c p h1 h2 ho => ?_⟩;rcases ht id c h1 with g | ⟨g, _, g3⟩
  ·rw [mNew_some g] at h2;obtain rfl : pm id = p := by simpa using h2
   obtain ⟨j, c0, q, _, q2, q3, q4⟩ := hocc id c k g ho;exact hk.2.2 j c0 q q2 q3 q4
  rw [mNew_none g] at h2;exact hk.2.2 id c p g3 h2 ho
 refine ⟨h.fr, h.fin, by rw [hn]; exact h.sz, hsl hle _ hF, fun id c h1 => ?_, fun id id' c c' p p' h1 h2 hp hp' b hb hb' => ?_, fun j hj => ?_, h.defers, fun id p hp => hle id p (h.m0 id p hp), h.m0k⟩
 ·rcases ht id c h1 with g | ⟨g, _, g3⟩
  ·refine ⟨pm id, mNew_some g, hrep _ hF id c g, fun b hb => ?_⟩;obtain ⟨j, c0, q, _, q2, q3, q4⟩ := hocc id c b g hb;obtain ⟨q', hq', _, hl⟩ := h.ch j c0 q2;rw [q3] at hq';obtain rfl : q = q' := by simpa using hq'
   exact hl b q4
  obtain ⟨p, hp, hr, hl⟩ := h.ch id c g3;exact ⟨p, hle _ _ hp, hr.turn hle (fun k hk _ => ⟨hF k hk, rfl⟩) (fun _ _ => rfl), hl⟩
 ·rcases ht id c h1 with g | ⟨g, g2, g3⟩ <;> rcases ht id' c' h2 with g' | ⟨g', g2', g3'⟩
  ·rw [mNew_some g] at hp;rw [mNew_some g'] at hp';obtain rfl : pm id = p := by simpa using hp
   obtain rfl : pm id' = p' := by simpa using hp'
   exact hdis id id' c c' b g g' hb hb'
  ·rw [mNew_some g] at hp;rw [mNew_none g'] at hp';obtain rfl : pm id = p := by simpa using hp
   obtain ⟨j, c0, q, q1, q2, q3, q4⟩ := hocc id c b g hb;have := h.inj j id' c0 c' q p' q2 g3' q3 hp' b q4 hb';subst this;exact absurd q1 g2'
  ·rw [mNew_none g] at hp;rw [mNew_some g'] at hp';obtain rfl : pm id' = p' := by simpa using hp'
   obtain ⟨j, c0, q, q1, q2, q3, q4⟩ := hocc id' c' b g' hb';have := h.inj j id c0 c q p q2 g3 q3 hp b q4 hb;subst this;exact absurd q1 g2
  rw [mNew_none g] at hp;rw [mNew_none g'] at hp';exact h.inj id id' c c' p p' g3 g3' hp hp' b hb hb'
 obtain ⟨h1, h2⟩ := hU' j hj;rw [mNew_none h2];exact h.un j h1
structure WeakR (C : Ctx) (s : ASt) (T : ASt → Prop) : Prop where
 run : ∀ a w, Rel C s a w → ∃ t, T t ∧ Rel C t a w
theorem AC.weakR {T : ASt → Prop} {c : Code} (h : WeakR C s T) (k : ∀ t, T t → ACode P C c Q t) : ACode P C c Q s := ⟨fun a w hR => by
 obtain ⟨t, ht, hR'⟩ := h.run a w hR
 exact (k t ht).run a w hR'⟩
theorem AL.weakR {T : ASt → Prop} {l : List Oper} (h : WeakR C s T) (k : ∀ t, T t → AL P C ops l Q t) : AL P C ops l Q s := ⟨fun a w hR => by
 obtain ⟨t, ht, hR'⟩ := h.run a w hR
 exact (k t ht).run a w hR'⟩
theorem CRep.predAt {F : Nat → Prop} {p : Option Nat × Nat} {S : Nat → Prop} {K : World → Prop} (h : CRep m F w p (.pred S K)) : p = (none, 0) ∧ K w ∧ (∀ w w', (∀ k, S k → w'.heap[k]? = w.heap[k]?) → K w → K w') ∧ ∀ k, S k → k < w.heap.size := by
 cases h with
 | pred h1 h2 h3 => exact ⟨rfl, h1, h2, h3⟩
theorem occ_pred' {S : Nat → Prop} {K : World → Prop} {k : Nat} (h : occ (none, 0) (.pred S K) k) : S k := by
 rcases h with h | h
 ·cases h
 exact h
theorem WeakR.raw (j : Nat) {id n e sz : Nat} {els els' : List (List DV)} (hs : s.get j = .own id n) (hc : s.chunk id = some (.arr e sz els)) (hn : n ≤ els.length) (he : els.take n = els') (hfl : ∀ cs, cs ∈ els → ∀ d, d ∈ cs → d.flat) :
  WeakR C s fun t => ∃ v S, t = { n := s.n, nx := s.nx + 8, sl := (j, .d (.val v)) :: s.sl, ch := (s.nx, some (.pred S fun w => TRep w S (.view e sz els') v)) :: (id, none) :: s.ch } := by
 subst he;refine ⟨?_⟩;rintro a w ⟨m, hR⟩;have hv := hR.sl j;rw [hs] at hv;obtain ⟨p, hp, hC, hloc⟩ := hR.ch id _ hc
 have key : ∃ S, (∀ b, S b → occ p (.arr e sz els) b) ∧ TRep w S (.view e sz (els.take n)) (a.tmps.getD j undef) ∧ okV (a.tmps.getD j undef) := by
  generalize a.tmps.getD j undef = v at hv;cases hv with
  | own hq h0 =>
   rename_i cap b;rw [hp] at hq;obtain rfl : p = (b, cap) := by simpa using hq
   cases hC with
   | nil h =>
    obtain rfl : n = 0 := by simpa using hn
    exact ⟨fun _ => False, fun b hb => hb.elim, .nil (fun _ h => h), trivial⟩
   | arr hb hf hsz hl hm h0' hrow hel =>
    rename_i b arr fz;have hlen : (els.take n).length = n := by simp; omega
    have hsub : ∀ (i : Nat) cs, (els.take n)[i]? = some cs → els[i]? = some cs := by
     intro i cs hi;rw [List.getElem?_take] at hi
     split at hi
     ·exact hi
     cases hi
    have := TRep.view (w := w) (S := fun k => k = b) (e := e) (sz := sz) (els := els.take n) (b := b) (cap := cap) (fun _ _ => False) hb hf hsz (by omega) hm h0' (fun i cs hi => hrow i cs (hsub i cs hi)) (fun i cs q d hi hj => ?_) (fun _ h => h) (fun _ _ _ h => h.elim) (fun k => ⟨fun h => .inl h, fun h => h.elim (fun h => h) fun ⟨_, _, h⟩ => h.elim⟩)
    ·rw [hlen] at this;exact ⟨_, fun k hk => by subst hk; exact .inl rfl, this, trivial⟩
    have h1 := hel i cs q d (hsub i cs hi) hj;have h2 := hfl cs (List.mem_of_getElem? (hsub i cs hi)) d (List.mem_of_getElem? hj);cases d with
    | val u =>
     generalize arr.getD (i * sz + q) undef = u' at h1 ⊢;cases h1 with
     | val h3 => exact .val (fun _ h => h) h3
    | _ => exact h2.elim
 obtain ⟨S, hS, hT, hok⟩ := key;refine ⟨_, ⟨a.tmps.getD j undef, S, rfl⟩, _, hR.repack (U' := fun i => s.nx + 8 ≤ i) [(s.nx, .pred S fun w => TRep w S (.view e sz (els.take n)) (a.tmps.getD j undef))] (fun _ => (none, 0)) [id] rfl (fun i c h => ?_) (fun i c h => .inl ?_) (fun i hi => ⟨by omega, ?_⟩) (fun i c b h hb => ?_) (fun i i' c c' b h h' _ _ => ?_) (fun F' _ i c h => ?_) (fun hle F' hF i => ?_)⟩
 ·change (getL i (_ :: _ :: _)).getD none = _ at h
  rw [getL_cons] at h;rw [getL_cons]
  split at h
  ·rename_i ei; rw [if_pos ei]; exact .inl (by simpa using h)
  rename_i ei;rw [if_neg ei];rw [getL_cons] at h
  split at h
  ·cases h
  rename_i ei'; exact .inr ⟨rfl, by simpa using ei', h⟩
 ·obtain ⟨rfl, _⟩ := getL_one h; exact Nat.le_refl _
 ·rw [getL_cons, if_neg (by omega)]; rfl
 ·obtain ⟨rfl, rfl⟩ := getL_one h;exact ⟨id, _, p, by simp, hc, hp, hS b (occ_pred' hb)⟩
 ·rw [(getL_one h).1, (getL_one h').1]
 ·obtain ⟨rfl, rfl⟩ := getL_one h;exact .pred hT (fun w w' hk h => h.turn hk) hT.lt
 change ARep _ _ _ ((getL i (_ :: _)).getD .dead) _
 rw [getL_cons]
 by_cases hij : i = j
 ·subst hij; rw [if_pos rfl]; exact .d (.val hok)
 rw [if_neg hij]; exact (hR.sl i).turn hle (fun k hk _ => ⟨hF k hk, rfl⟩)
theorem Weak.join (id1 id2 : Nat) {S1 S2 : Nat → Prop} {K1 K2 : World → Prop} (K : World → Prop) (h1 : s.chunk id1 = some (.pred S1 K1)) (h2 : s.chunk id2 = some (.pred S2 K2)) (hne : Nat.beq id1 id2 = false)
  (hK : ∀ w, K1 w → K2 w → (∀ k, S1 k → ¬ S2 k) → K w) (hcl : ∀ w w', (∀ k, S1 k ∨ S2 k → w'.heap[k]? = w.heap[k]?) → K w → K w') :
  Weak C s { n := s.n, nx := s.nx, sl := s.sl, ch := (id1, some (.pred (fun k => S1 k ∨ S2 k) K)) :: (id2, none) :: s.ch } := by
 refine ⟨?_⟩;rintro a w ⟨m, hR⟩;have hne : id1 ≠ id2 := Nat.ne_of_beq_eq_false hne;obtain ⟨p1, q1, c1, l1⟩ := hR.ch id1 _ h1;obtain ⟨p2, q2, c2, l2⟩ := hR.ch id2 _ h2;obtain ⟨rfl, k1, cl1, lt1⟩ := c1.predAt;obtain ⟨rfl, k2, cl2, lt2⟩ := c2.predAt;have hd : ∀ k, S1 k → ¬ S2 k := fun k g1 g2 => hne (hR.inj id1 id2 _ _ _ _ h1 h2 q1 q2 k (.inr g1) (.inr g2))
 refine ⟨_, hR.repack (U' := fun i => s.nx ≤ i) [(id1, .pred (fun k => S1 k ∨ S2 k) K)] (fun _ => (none, 0)) [id1, id2] rfl (fun i c h => ?_) (fun i c h => .inr ?_) (fun i hi => ⟨hi, ?_⟩) (fun i c b h hb => ?_) (fun i i' c c' b h h' _ _ => ?_) (fun F' _ i c h => ?_) (fun hle F' hF i => (hR.sl i).turn hle (fun k hk _ => ⟨hF k hk, rfl⟩))⟩
 ·change (getL i (_ :: _ :: _)).getD none = _ at h
  rw [getL_cons] at h;rw [getL_cons]
  split at h
  ·rename_i ei; rw [if_pos ei]; exact .inl (by simpa using h)
  rename_i ei;rw [if_neg ei];rw [getL_cons] at h
  split at h
  ·cases h
  rename_i ei'; exact .inr ⟨rfl, by simp [ei, ei'], h⟩
 ·obtain ⟨rfl, _⟩ := getL_one h; exact q1
 ·rw [getL_cons]
  split
  ·rename_i ei; subst ei; have := hR.un i hi; rw [q1] at this; cases this
  rfl
 ·obtain ⟨rfl, rfl⟩ := getL_one h;rcases occ_pred' hb with g | g
  ·exact ⟨i, _, _, by simp, h1, q1, .inr g⟩
  exact ⟨id2, _, _, by simp, h2, q2, .inr g⟩
 ·rw [(getL_one h).1, (getL_one h').1]
 obtain ⟨rfl, rfl⟩ := getL_one h;exact .pred (hK w k1 k2 hd) hcl (fun k hk => hk.elim (lt1 k) (lt2 k))
theorem Weak.cons (id : Nat) {S : Nat → Prop} {K : World → Prop} (K' : World → Prop) (h0 : s.chunk id = some (.pred S K)) (hK : ∀ w, K w → K' w) (hcl : ∀ w w', (∀ k, S k → w'.heap[k]? = w.heap[k]?) → K' w → K' w') :
  Weak C s { n := s.n, nx := s.nx, sl := s.sl, ch := (id, some (.pred S K')) :: s.ch } := by
 refine ⟨?_⟩;rintro a w ⟨m, hR⟩;obtain ⟨p1, q1, c1, l1⟩ := hR.ch id _ h0;obtain ⟨rfl, k1, cl1, lt1⟩ := c1.predAt;refine ⟨_, hR.repack (U' := fun i => s.nx ≤ i) [(id, .pred S K')] (fun _ => (none, 0)) [id] rfl (fun i c h => ?_) (fun i c h => .inr ?_) (fun i hi => ⟨hi, ?_⟩) (fun i c b h hb => ?_) (fun i i' c c' b h h' _ _ => ?_) (fun F' _ i c h => ?_) (fun hle F' hF i => (hR.sl i).turn hle (fun k hk _ => ⟨hF k hk, rfl⟩))⟩
 ·change (getL i (_ :: _)).getD none = _ at h
  rw [getL_cons] at h;rw [getL_cons]
  split at h
  ·rename_i ei; rw [if_pos ei]; exact .inl (by simpa using h)
  rename_i ei;rw [if_neg ei];exact .inr ⟨rfl, by simpa using ei, h⟩
 ·obtain ⟨rfl, _⟩ := getL_one h; exact q1
 ·rw [getL_cons]
  split
  ·rename_i ei; subst ei; have := hR.un i hi; rw [q1] at this; cases this
  rfl
 ·obtain ⟨rfl, rfl⟩ := getL_one h;exact ⟨_, _, _, by simp, h0, q1, .inr (occ_pred' hb)⟩
 ·rw [(getL_one h).1, (getL_one h').1]
 obtain ⟨rfl, rfl⟩ := getL_one h;exact .pred (hK w k1) hcl lt1
end
def rowsV (sz n : Nat) (V : List Value) : List (List DV) := (List.range n).map fun i => (List.range sz).map fun j => DV.val ((V[i * sz + j]?).getD undef)
theorem rowsV_len (sz n : Nat) (V : List Value) : (rowsV sz n V).length = n := by simp [rowsV]
theorem rowsV_get {sz n : Nat} {V : List Value} {i : Nat} (h : i < n) : (rowsV sz n V)[i]? = some ((List.range sz).map fun j => DV.val ((V[i * sz + j]?).getD undef)) := by simp [rowsV, h]
theorem rowsV_row {sz n : Nat} {V : List Value} {i : Nat} {cs : List DV} (h : (rowsV sz n V)[i]? = some cs) : i < n ∧ cs.length = sz ∧ ∀ (j : Nat) d, cs[j]? = some d → j < sz ∧ d = .val ((V[i * sz + j]?).getD undef) := by
 have hi := (List.getElem?_eq_some_iff.1 h).1;rw [rowsV_len] at hi;rw [rowsV_get hi] at h;simp only [Option.some.injEq] at h;subst h;refine ⟨hi, by simp, fun j d hd => ?_⟩;rw [List.getElem?_map, Option.map_eq_some_iff] at hd;obtain ⟨q, hq, rfl⟩ := hd;have := (List.getElem?_eq_some_iff.1 hq).1
 have h2 : q = j := by
  have := (List.getElem?_eq_some_iff.1 hq).2;simpa using this.symm
 subst h2;exact ⟨by simpa using this, rfl⟩
theorem row_lt {i j n sz : Nat} (hi : i < n) (hj : j < sz) : i * sz + j < n * sz := by
 have h := Nat.mul_le_mul_right sz hi;rw [Nat.succ_mul] at h;omega
theorem flat_len : ∀ {els : List (List DV)} {sz : Nat}, (∀ cs, cs ∈ els → cs.length = sz) → els.flatten.length = els.length * sz
 | [], sz, _ => by simp
 | c :: els, sz, h => by
  rw [List.flatten_cons, List.length_append, flat_len (els := els) (fun cs hc => h cs (List.mem_cons_of_mem _ hc)), h c (by simp), List.length_cons, Nat.succ_mul]; omega
theorem flat_get : ∀ {els : List (List DV)} {sz : Nat} (_ : ∀ cs, cs ∈ els → cs.length = sz) {i j : Nat} {cs : List DV} {d : DV}, els[i]? = some cs → cs[j]? = some d → els.flatten[i * sz + j]? = some d
 | [], sz, _, i, j, cs, d, hi, _ => by simp at hi
 | c :: els, sz, h, i, j, cs, d, hi, hj => by
  have hc := h c (by simp);have hlt := (List.getElem?_eq_some_iff.1 hj).1;cases i with
  | zero =>
   simp at hi; subst hi;rw [List.flatten_cons, Nat.zero_mul, Nat.zero_add, List.getElem?_append_left hlt]; exact hj
  | succ i =>
   rw [List.getElem?_cons_succ] at hi;rw [List.flatten_cons, List.getElem?_append_right (by rw [hc, Nat.succ_mul]; omega), hc, show (i + 1) * sz + j - sz = i * sz + j by rw [Nat.succ_mul]; omega];exact flat_get (fun cs hc => h cs (List.mem_cons_of_mem _ hc)) hi hj
theorem rowsV_flat {els : List (List DV)} {sz : Nat} (h : ∀ cs, cs ∈ els → cs.length = sz) (hz : 0 < sz) {c : Nat} (hc : c < els.flatten.length) : ∃ i j cs d, els[i]? = some cs ∧ cs[j]? = some d ∧ c = i * sz + j ∧ els.flatten[c]? = some d := by
 rw [flat_len h] at hc;have h1 : c / sz < els.length := Nat.div_lt_of_lt_mul (by rw [Nat.mul_comm]; exact hc);have h2 : c % sz < sz := Nat.mod_lt _ hz;have e1 := List.getElem?_eq_getElem h1;have h3 := h _ (List.mem_of_getElem? e1);have e2 : c = c / sz * sz + c % sz := (Nat.div_add_mod' c sz).symm;have e3 := List.getElem?_eq_getElem (show c % sz < (els[c / sz]).length by omega);refine ⟨_, _, _, _, e1, e3, e2, ?_⟩;have := flat_get h e1 e3
 rwa [← e2] at this
theorem TRep.parts {w : World} {S : Nat → Prop} {e sz : Nat} {els : List (List DV)} {v : Value} (h : TRep w S (.view e sz els) v) (hz : 0 < sz) : ∃ (p : Option Nat × Nat) (V : List Value) (S' : Nat → Prop),
  v = .slice (p.1.map fun b => ⟨b, 0, none⟩) els.length p.2 ∧ (p.1 = none → els.length = 0 ∧ p.2 = 0) ∧ V.length = els.length * sz ∧ (∀ cs, cs ∈ els → cs.length = sz) ∧ TL w S' els.flatten V ∧ (∀ k, S k ↔ p.1 = some k ∨ S' k) ∧ (∀ k, p.1 = some k → ¬ S' k) ∧
  (∀ (c : Nat) x, els.flatten[c]? = some (.val x) → V[c]? = some x) ∧ ∀ m F, CRep m F w p (.arr e sz (rowsV sz els.length V)) := by
 cases h with
 | nil h => exact ⟨(none, 0), [], S, rfl, fun _ => ⟨rfl, rfl⟩, by simp, fun cs hc => by simp at hc, ⟨fun _ _ => False, rfl, fun i d v h => by simp at h, fun _ _ _ h => h.elim, fun k => ⟨fun h' => absurd h' (h k), fun ⟨_, h, _⟩ => by simp at h⟩⟩, fun k => by simp, fun k h => by simp at h, fun c x hc => by simp at hc, fun m F => .nil hz⟩
 | @view _ _ _ _ b cap vs fz Ts hb h1 h2 h3 h4 h5 h6 h7 h8 h9 h10 =>
  have hrow : ∀ cs, cs ∈ els → cs.length = sz := fun cs hc => by
   obtain ⟨i, hi⟩ := List.mem_iff_getElem?.1 hc;exact h6 i cs hi
  have hfl := flat_len hrow;have hcap := Nat.mul_le_mul_right sz h3;have hV : ∀ c, c < els.length * sz → ((List.range (els.length * sz)).map fun c => vs.getD c undef)[c]? = some (vs.getD c undef) := fun c hc => by simp [hc]
  have hT : ∀ c d, els.flatten[c]? = some d → TRep w (Ts c) d (vs.getD c undef) := by
   intro c d hd;obtain ⟨i, j, cs, d', e1, e2, rfl, e3⟩ := rowsV_flat hrow h5 (List.getElem?_eq_some_iff.1 hd).1;rw [e3] at hd;obtain rfl : d' = d := by simpa using hd
   exact h7 i cs j d' e1 e2
  refine ⟨(some b, cap), (List.range (els.length * sz)).map fun c => vs.getD c undef, fun k => ∃ c, c < els.length * sz ∧ Ts c k, rfl, fun h => by simp at h, by simp, hrow, ⟨Ts, by simp [hfl], fun c d v hd hv => ?_, h9, fun k => by rw [hfl]⟩, fun k => by rw [h10 k]; simp [eq_comm], fun k hk => ?_, fun c x hc => ?_, fun m F => .arr hb h1 h2 (by rw [rowsV_len]; exact h3) h4 h5 (fun i cs hi => (rowsV_row hi).2.1) (fun i cs j d hi hj => ?_)⟩
  ·have hlt := (List.getElem?_eq_some_iff.1 hd).1;rw [hfl] at hlt;rw [hV c hlt] at hv;simp only [Option.some.injEq] at hv;subst hv;exact hT c d hd
  ·simp only [Option.some.injEq] at hk;subst hk;rintro ⟨c, _, hc⟩;exact h8 c hc
  ·have hlt := (List.getElem?_eq_some_iff.1 hc).1;rw [hfl] at hlt;rw [hV c hlt];have := hT c _ hc;generalize vs.getD c undef = u at this;cases this; rfl
  obtain ⟨hi1, _, hrw⟩ := rowsV_row hi;obtain ⟨hj1, rfl⟩ := hrw j d hj;have hlt := row_lt hi1 hj1;rw [hV _ hlt, Option.getD_some];refine .val ?_;have hlt' : i * sz + j < els.flatten.length := by rw [hfl]; exact hlt
  have hE := List.getElem?_eq_getElem hlt';generalize els.flatten[i * sz + j] = dd at hE;have := hT _ _ hE;generalize vs.getD (i * sz + j) undef = u at this;cases this <;> first | assumption | trivial
theorem TRep.whole {w : World} {m : Nat → Option (Option Nat × Nat)} {F S' : Nat → Prop} {e sz : Nat} {els : List (List DV)} {V : List Value} {p : Option Nat × Nat} (hp : p.1 = none → els.length = 0 ∧ p.2 = 0) (hrow : ∀ cs, cs ∈ els → cs.length = sz) (hL : TL w S' els.flatten V) (hS : ∀ k, p.1 = some k → ¬ S' k)
  (hC : CRep m F w p (.arr e sz (rowsV sz els.length V))) : TRep w (fun k => p.1 = some k ∨ S' k) (.view e sz els) (.slice (p.1.map fun b => ⟨b, 0, none⟩) els.length p.2) := by
 have hfl := flat_len hrow;obtain ⟨Ts, g1, g2, g3, g4⟩ := hL;generalize hE : rowsV sz els.length V = E at hC;cases hC with
 | nil h =>
  have : els = [] := by
   have h2 := congrArg List.length hE;rw [rowsV_len] at h2;exact List.eq_nil_of_length_eq_zero h2
  subst this;refine .nil fun k hk => ?_
  rcases hk with hk | hk
  ·simp at hk
  obtain ⟨i, hi, _⟩ := (g4 k).1 hk;simp at hi
 | @arr b cap _ _ _ vs fz hb hf hsz hl hm h0' hrw hel =>
  subst hE;rw [rowsV_len] at hl;refine .view (fun c k => c < els.length * sz ∧ Ts c k) hb hf hsz hl hm h0' (fun i cs hi => hrow cs (List.mem_of_getElem? hi)) (fun i cs j d hi hj => ?_) (fun c hc => hS b rfl ((g4 b).2 ⟨c, by rw [hfl]; exact hc.1, hc.2⟩)) (fun c c' k h1 h2 => g3 c c' k h1.2 h2.2) (fun k => ?_)
  ·have hi1 := (List.getElem?_eq_some_iff.1 hi).1;have hj1 := (List.getElem?_eq_some_iff.1 hj).1;rw [hrow cs (List.mem_of_getElem? hi)] at hj1;have hlt := row_lt hi1 hj1;have hx := hel i _ j (DV.val ((V[i * sz + j]?).getD undef)) (rowsV_get hi1) (by simp [hj1]);have hfg := flat_get hrow hi hj;have hv := List.getElem?_eq_getElem (show i * sz + j < V.length by omega);have := g2 _ _ _ hfg hv;rw [hv, Option.getD_some] at hx;generalize vs.getD (i * sz + j) undef = u at hx;cases hx;exact this.congr fun k => by simp [hlt]
  rw [g4 k, hfl];constructor
  ·rintro (h | ⟨c, hc, hk⟩)
   ·simp only [Option.some.injEq] at h; exact .inl h.symm
   exact .inr ⟨c, hc, hc, hk⟩
  rintro (rfl | ⟨c, hc, _, hk⟩)
  ·exact .inl rfl
  exact .inr ⟨c, hc, hk⟩
section
variable {P : Program} [PT P] {C : Ctx} {Q : Exit → ASt → Prop} {s : ASt} {ops : Array Oper} {U U' : Nat → Prop} {a : Act} {w : World} {m : Nat → Option (Option Nat × Nat)}
theorem occ_lock {id : Nat} {q : Option Nat × Nat} {k : Nat} (h : occ (none, 0) (.lock id q) k) : False := by
 rcases h with h | h
 ·cases h
 exact h
theorem WeakR.openT (j id : Nat) {e sz : Nat} {els : List (List DV)} {v : Value} {S : Nat → Prop} {K : World → Prop} (hs : s.get j = .d (.val v)) (hc : s.chunk id = some (.pred S K)) (hK : ∀ w, K w → TRep w S (.view e sz els) v) (h0 : Nat.ble 1 sz = true) (hid : Nat.blt id s.nx = true) :
  WeakR C s fun t => ∃ p V S', (v = .slice (p.1.map fun b => ⟨b, 0, none⟩) els.length p.2 ∧ (p.1 = none → els.length = 0 ∧ p.2 = 0) ∧ V.length = els.length * sz ∧ (∀ cs, cs ∈ els → cs.length = sz) ∧ (∀ k, S k ↔ p.1 = some k ∨ S' k) ∧ (∀ (c : Nat) x, els.flatten[c]? = some (.val x) → V[c]? = some x)) ∧
   t = { n := s.n, nx := s.nx + 8, sl := (j, .own s.nx els.length) :: s.sl, ch := (s.nx, some (.arr e sz (rowsV sz els.length V))) :: (s.nx + 1, some (.lock s.nx p)) :: (id, some (.pred S' fun w => TL w S' els.flatten V)) :: s.ch } := by
 refine ⟨?_⟩;rintro a w ⟨m, hR⟩;have hid : id < s.nx := by simpa using hid
 obtain ⟨q0, q1, c1, l1⟩ := hR.ch id _ hc;obtain ⟨rfl, k1, cl1, lt1⟩ := c1.predAt;obtain ⟨p, V, S', hv, hp, hV, hrow, hL, hS, hd, hx, hC⟩ := (hK w k1).parts (Nat.le_of_ble_eq_true h0);have hsl := hR.sl j;rw [hs] at hsl
 let new : List (Nat × Chunk) := [(s.nx, .arr e sz (rowsV sz els.length V)), (s.nx + 1, .lock s.nx p), (id, .pred S' fun w => TL w S' els.flatten V)]
 let pm : Nat → Option Nat × Nat := fun i => if i = s.nx then p else (none, 0)
 have hnew : ∀ i c, getL i new = some c → (i = s.nx ∧ c = .arr e sz (rowsV sz els.length V)) ∨ (i = s.nx + 1 ∧ c = .lock s.nx p) ∨ (i = id ∧ c = .pred S' fun w => TL w S' els.flatten V) := by
  intro i c h;simp only [new, getL_cons] at h
  split at h
  ·rename_i ei; exact .inl ⟨ei, by simpa using h.symm⟩
  split at h
  ·rename_i ei; exact .inr (.inl ⟨ei, by simpa using h.symm⟩)
  split at h
  ·rename_i ei; exact .inr (.inr ⟨ei, by simpa using h.symm⟩)
  simp [getL] at h
 have hpm1 : pm s.nx = p := by simp [pm]
 have hpm2 : pm (s.nx + 1) = (none, 0) := by simp [pm]
 have hpm3 : pm id = (none, 0) := by simp [pm, Nat.ne_of_lt hid]
 refine ⟨_, ⟨p, V, S', ⟨hv, hp, hV, hrow, hS, hx⟩, rfl⟩, _, hR.repack (U' := fun i => s.nx + 8 ≤ i) new pm [id] rfl (fun i c h => ?_) (fun i c h => ?_) (fun i hi => ⟨by omega, ?_⟩) (fun i c b h hb => ?_) (fun i i' c c' b h h' hb hb' => ?_) (fun F' _ i c h => ?_) (fun hle F' hF i => ?_)⟩
 ·change (getL i (_ :: _ :: _ :: _)).getD none = _ at h
  simp only [getL_cons] at h;simp only [new, getL_cons]
  split at h
  ·rename_i ei; rw [if_pos ei]; exact .inl (by simpa using h)
  rename_i ei;rw [if_neg ei]
  split at h
  ·rename_i ei; rw [if_pos ei]; exact .inl (by simpa using h)
  rename_i ei;rw [if_neg ei]
  split at h
  ·rename_i ei; rw [if_pos ei]; exact .inl (by simpa using h)
  rename_i ei;rw [if_neg ei];exact .inr ⟨rfl, by simpa using ei, h⟩
 ·rcases hnew i c h with ⟨rfl, _⟩ | ⟨rfl, _⟩ | ⟨rfl, _⟩
  ·exact .inl (Nat.le_refl _)
  ·exact .inl (Nat.le_succ _)
  exact .inr (by rw [hpm3]; exact q1)
 ·simp only [new, getL_cons];rw [if_neg (by omega), if_neg (by omega), if_neg (by omega)]; rfl
 ·rcases hnew i c h with ⟨rfl, rfl⟩ | ⟨rfl, rfl⟩ | ⟨rfl, rfl⟩
  ·rw [hpm1] at hb;exact ⟨id, _, _, by simp, hc, q1, .inr ((hS b).2 (.inl hb.one_arr))⟩
  ·rw [hpm2] at hb;exact (occ_lock hb).elim
  rw [hpm3] at hb;exact ⟨i, _, _, by simp, hc, q1, .inr ((hS b).2 (.inr (occ_pred' hb)))⟩
 ·rcases hnew i c h with ⟨rfl, rfl⟩ | ⟨rfl, rfl⟩ | ⟨rfl, rfl⟩ <;> rcases hnew i' c' h' with ⟨rfl, rfl⟩ | ⟨rfl, rfl⟩ | ⟨rfl, rfl⟩
  all_goals first | rfl | skip
  ·rw [hpm2] at hb'; exact (occ_lock hb').elim
  ·rw [hpm1] at hb; rw [hpm3] at hb'; exact absurd (occ_pred' hb') (hd b hb.one_arr)
  ·rw [hpm2] at hb; exact (occ_lock hb).elim
  ·rw [hpm2] at hb; exact (occ_lock hb).elim
  ·rw [hpm1] at hb'; rw [hpm3] at hb; exact absurd (occ_pred' hb) (hd b hb'.one_arr)
  rw [hpm2] at hb'; exact (occ_lock hb').elim
 ·rcases hnew i c h with ⟨rfl, rfl⟩ | ⟨rfl, rfl⟩ | ⟨rfl, rfl⟩
  ·rw [hpm1]; exact hC _ _
  ·rw [hpm2];refine .lock ?_;rw [mNew_some (c := .arr e sz (rowsV sz els.length V)) (by simp [new, getL_cons]), hpm1]
  rw [hpm3];exact .pred hL (fun w w' hk h => h.turn hk) hL.lt
 change ARep _ _ _ ((getL i (_ :: _)).getD .dead) _
 rw [getL_cons]
 by_cases hij : i = j
 ·subst hij;rw [if_pos rfl]
  have : a.tmps.getD i undef = v := by
   generalize a.tmps.getD i undef = u at hsl;cases hsl with | d h => cases h; rfl
  rw [this, hv];exact .own (m := mNew m new pm) (id := s.nx) (b := p.1) (cap := p.2) (by rw [mNew_some (c := .arr e sz (rowsV sz els.length V)) (by simp [new, getL_cons]), hpm1]) hp
 rw [if_neg hij]; exact (hR.sl i).turn hle (fun k hk _ => ⟨hF k hk, rfl⟩)
theorem Weak.closeT (j id ia il : Nat) {e sz n : Nat} {els : List (List DV)} {V : List Value} {v : Value} {S S' : Nat → Prop} {K : World → Prop} {p : Option Nat × Nat} (hs : s.get j = .own ia els.length) (hc : s.chunk id = some (.pred S' K)) (hK : ∀ w, K w → TL w S' els.flatten V) (ha : s.chunk ia = some (.arr e sz (rowsV sz els.length V))) (hl : s.chunk il = some (.lock ia p))
  (hv : v = .slice (p.1.map fun b => ⟨b, 0, none⟩) els.length p.2) (hp : p.1 = none → els.length = 0 ∧ p.2 = 0) (hrow : ∀ cs, cs ∈ els → cs.length = sz) (hS : ∀ k, S k ↔ p.1 = some k ∨ S' k) (h12 : Nat.beq id ia = false) (h13 : Nat.beq id il = false) :
  Weak C s { n := s.n, nx := s.nx, sl := (j, .d (.val v)) :: s.sl, ch := (id, some (.pred S fun w => TRep w S (.view e sz els) v)) :: (ia, none) :: (il, none) :: s.ch } := by
 refine ⟨?_⟩;rintro a w ⟨m, hR⟩;obtain ⟨q0, q1, c1, l1⟩ := hR.ch id _ hc;obtain ⟨rfl, k1, cl1, lt1⟩ := c1.predAt;obtain ⟨pa, qa, ca, la⟩ := hR.ch ia _ ha;obtain ⟨pl, ql, cl, ll⟩ := hR.ch il _ hl
 have hpa : pa = p := by
  cases cl with | lock h => rw [qa] at h; simpa using h
 subst hpa;have h12 : id ≠ ia := Nat.ne_of_beq_eq_false h12;have hd : ∀ k, pa.1 = some k → ¬ S' k := fun k g1 g2 => h12 (hR.inj id ia _ _ _ _ hc ha q1 qa k (.inr g2) (.inl g1))
 have hT : TRep w S (.view e sz els) v := by
  rw [hv];exact (TRep.whole hp hrow (hK w k1) hd ca).congr fun k => (hS k).symm
 have hsl := hR.sl j;rw [hs] at hsl;refine ⟨_, hR.repack (U' := fun i => s.nx ≤ i) [(id, .pred S fun w => TRep w S (.view e sz els) v)] (fun _ => (none, 0)) [id, ia, il] rfl (fun i c h => ?_) (fun i c h => .inr ?_) (fun i hi => ⟨hi, ?_⟩) (fun i c b h hb => ?_) (fun i i' c c' b h h' _ _ => ?_) (fun F' _ i c h => ?_) (fun hle F' hF i => ?_)⟩
 ·change (getL i (_ :: _ :: _ :: _)).getD none = _ at h
  simp only [getL_cons] at h;rw [getL_cons]
  split at h
  ·rename_i ei; rw [if_pos ei]; exact .inl (by simpa using h)
  rename_i e1;rw [if_neg e1]
  split at h
  ·cases h
  rename_i e2
  split at h
  ·cases h
  rename_i e3;exact .inr ⟨rfl, by simp [e1, e2, e3], h⟩
 ·obtain ⟨rfl, _⟩ := getL_one h; exact q1
 ·rw [getL_cons]
  split
  ·rename_i ei; subst ei; have := hR.un i hi; rw [q1] at this; cases this
  rfl
 ·obtain ⟨rfl, rfl⟩ := getL_one h;rcases (hS b).1 (occ_pred' hb) with g | g
  ·exact ⟨ia, _, _, by simp, ha, qa, .inl g⟩
  exact ⟨i, _, _, by simp, hc, q1, .inr g⟩
 ·rw [(getL_one h).1, (getL_one h').1]
 ·obtain ⟨rfl, rfl⟩ := getL_one h;exact .pred hT (fun w w' hk h => h.turn hk) hT.lt
 change ARep _ _ _ ((getL i (_ :: _)).getD .dead) _
 rw [getL_cons]
 by_cases hij : i = j
 ·subst hij;rw [if_pos rfl]
  have : a.tmps.getD i undef = v := by
   generalize a.tmps.getD i undef = u at hsl;cases hsl with
   | own h1 h2 =>
    rw [qa] at h1;simp only [Option.some.injEq] at h1;subst h1;rw [hv]
  rw [this, hv];exact .d (.val trivial)
 rw [if_neg hij]; exact (hR.sl i).turn hle (fun k hk _ => ⟨hF k hk, rfl⟩)
end
section
variable {P : Program} [PT P] {C : Ctx} {Q : Exit → ASt → Prop} {s : ASt} {ops : Array Oper} {U U' : Nat → Prop} {a : Act} {w : World} {m : Nat → Option (Option Nat × Nat)}
theorem Weak.emptyT : Weak C s { n := s.n, nx := s.nx + 8, sl := s.sl, ch := (s.nx, some (.pred (fun _ => False) fun w => TL w (fun _ => False) [] [])) :: s.ch } := by
 refine ⟨?_⟩;rintro a w ⟨m, hR⟩;refine ⟨_, hR.repack (U' := fun i => s.nx + 8 ≤ i) [(s.nx, .pred (fun _ => False) fun w => TL w (fun _ => False) [] [])] (fun _ => (none, 0)) [] rfl (fun i c h => ?_) (fun i c h => .inl ?_) (fun i hi => ⟨by omega, ?_⟩) (fun i c b h hb => ?_) (fun i i' c c' b h h' _ _ => ?_) (fun F' _ i c h => ?_) (fun hle F' hF i => (hR.sl i).turn hle (fun k hk _ => ⟨hF k hk, rfl⟩))⟩
 ·change (getL i (_ :: _)).getD none = _ at h
  rw [getL_cons] at h;rw [getL_cons]
  split at h
  ·rename_i ei; rw [if_pos ei]; exact .inl (by simpa using h)
  rename_i ei;rw [if_neg ei];exact .inr ⟨rfl, by simp, h⟩
 ·obtain ⟨rfl, _⟩ := getL_one h; exact Nat.le_refl _
 ·rw [getL_cons, if_neg (by omega)]; rfl
 ·obtain ⟨rfl, rfl⟩ := getL_one h;exact (occ_pred' hb).elim
 ·rw [(getL_one h).1, (getL_one h').1]
 obtain ⟨rfl, rfl⟩ := getL_one h;exact .pred (TL.nil w) (fun w w' hk h => h.turn hk) (fun k hk => hk.elim)
theorem WeakR.splitT (id c : Nat) {L : List DV} {V : List Value} {d : DV} {v : Value} {S : Nat → Prop} {K : World → Prop} (hc : s.chunk id = some (.pred S K)) (hK : ∀ w, K w → TL w S L V) (hd : L[c]? = some d) (hv : V[c]? = some v) (hid : Nat.blt id s.nx = true) :
  WeakR C s fun t => ∃ S1 S2, (∀ k, S k ↔ S2 k ∨ S1 k) ∧ t = { n := s.n, nx := s.nx + 8, sl := s.sl, ch := (s.nx, some (.pred S1 fun w => TRep w S1 d v)) :: (id, some (.pred S2 fun w => TX w S2 c L V)) :: s.ch } := by
 refine ⟨?_⟩;rintro a w ⟨m, hR⟩;have hid : id < s.nx := by simpa using hid
 obtain ⟨q0, q1, c1, l1⟩ := hR.ch id _ hc;obtain ⟨rfl, k1, cl1, lt1⟩ := c1.predAt;obtain ⟨S1, S2, hT, hX, hdj, hS⟩ := (hK w k1).split hd hv
 have hnew : ∀ i c0, getL i [(s.nx, Chunk.pred S1 fun w => TRep w S1 d v), (id, .pred S2 fun w => TX w S2 c L V)] = some c0 → (i = s.nx ∧ c0 = .pred S1 fun w => TRep w S1 d v) ∨ (i = id ∧ c0 = .pred S2 fun w => TX w S2 c L V) := by
  intro i c0 h;simp only [getL_cons] at h
  split at h
  ·rename_i ei; exact .inl ⟨ei, by simpa using h.symm⟩
  split at h
  ·rename_i ei; exact .inr ⟨ei, by simpa using h.symm⟩
  simp [getL] at h
 refine ⟨_, ⟨S1, S2, fun k => by rw [hS k, Or.comm], rfl⟩, _, hR.repack (U' := fun i => s.nx + 8 ≤ i) [(s.nx, .pred S1 fun w => TRep w S1 d v), (id, .pred S2 fun w => TX w S2 c L V)] (fun _ => (none, 0)) [id] rfl (fun i c h => ?_) (fun i c h => ?_) (fun i hi => ⟨by omega, ?_⟩) (fun i c b h hb => ?_) (fun i i' c c' b h h' hb hb' => ?_) (fun F' _ i c h => ?_) (fun hle F' hF i => (hR.sl i).turn hle (fun k hk _ => ⟨hF k hk, rfl⟩))⟩
 ·change (getL i (_ :: _ :: _)).getD none = _ at h
  simp only [getL_cons] at h;simp only [getL_cons]
  split at h
  ·rename_i ei; rw [if_pos ei]; exact .inl (by simpa using h)
  rename_i ei;rw [if_neg ei]
  split at h
  ·rename_i ei; rw [if_pos ei]; exact .inl (by simpa using h)
  rename_i ei;rw [if_neg ei];exact .inr ⟨rfl, by simpa using ei, h⟩
 ·rcases hnew i c h with ⟨rfl, _⟩ | ⟨rfl, _⟩
  ·exact .inl (Nat.le_refl _)
  exact .inr q1
 ·simp only [getL_cons];rw [if_neg (by omega), if_neg (by omega)]; rfl
 ·rcases hnew i c h with ⟨rfl, rfl⟩ | ⟨rfl, rfl⟩
  ·exact ⟨id, _, _, by simp, hc, q1, .inr ((hS b).2 (.inl (occ_pred' hb)))⟩
  exact ⟨i, _, _, by simp, hc, q1, .inr ((hS b).2 (.inr (occ_pred' hb)))⟩
 ·rcases hnew i c h with ⟨rfl, rfl⟩ | ⟨rfl, rfl⟩ <;> rcases hnew i' c' h' with ⟨rfl, rfl⟩ | ⟨rfl, rfl⟩
  ·rfl
  ·exact absurd (occ_pred' hb') (hdj b (occ_pred' hb))
  ·exact absurd (occ_pred' hb) (hdj b (occ_pred' hb'))
  rfl
 rcases hnew i c h with ⟨rfl, rfl⟩ | ⟨rfl, rfl⟩
 ·exact .pred hT (fun w w' hk h => h.turn hk) hT.lt
 exact .pred hX (fun w w' hk h => h.turn hk) (fun k hk => lt1 k ((hS k).2 (.inr hk)))
theorem Weak.joinT (id i1 c : Nat) {L : List DV} {V : List Value} {d : DV} {v : Value} {S S1 S2 : Nat → Prop} {K1 : World → Prop} (h2 : s.chunk id = some (.pred S2 fun w => TX w S2 c L V)) (h1 : s.chunk i1 = some (.pred S1 K1)) (hK : ∀ w, K1 w → TRep w S1 d v) (hS : ∀ k, S k ↔ S2 k ∨ S1 k) (hc : c < L.length) (hv : V[c]? = some v) (hne : Nat.beq id i1 = false) :
  Weak C s { n := s.n, nx := s.nx, sl := s.sl, ch := (id, some (.pred S fun w => TL w S (L.set c d) V)) :: (i1, none) :: s.ch } := by
 obtain rfl : S = fun k => S2 k ∨ S1 k := funext fun k => propext (hS k)
 refine Weak.join id i1 _ h2 h1 hne (fun w hX k1 hd => ?_) (fun w w' hk h => h.turn hk);have := hX.join (hK w k1) hc hv (fun k g1 g2 => hd k g2 g1);have e : (fun k => S1 k ∨ S2 k) = fun k => S2 k ∨ S1 k := funext fun k => propext Or.comm
 rw [e] at this;exact this
theorem Weak.appT (id i1 : Nat) {L L1 : List DV} {V V1 : List Value} {S S1 : Nat → Prop} {K K1 : World → Prop} (h : s.chunk id = some (.pred S K)) (hK : ∀ w, K w → TL w S L V) (h1 : s.chunk i1 = some (.pred S1 K1)) (hK1 : ∀ w, K1 w → TL w S1 L1 V1) (hne : Nat.beq id i1 = false) :
  Weak C s { n := s.n, nx := s.nx, sl := s.sl, ch := (id, some (.pred (fun k => S k ∨ S1 k) fun w => TL w (fun k => S k ∨ S1 k) (L ++ L1) (V ++ V1))) :: (i1, none) :: s.ch } :=
 Weak.join id i1 _ h h1 hne (fun w k1 k2 hd => (hK w k1).app (hK1 w k2) hd) (fun w w' hk h => h.turn hk)
theorem WeakR.closeN (j id ia : Nat) {e sz n : Nat} {els : List (List DV)} {rows : List (List DV)} {V : List Value} {S' : Nat → Prop} {K : World → Prop} (hs : s.get j = .own ia n) (hn : n = els.length) (hc : s.chunk id = some (.pred S' K)) (hK : ∀ w, K w → TL w S' els.flatten V) (ha : s.chunk ia = some (.arr e sz rows)) (hr : rows = rowsV sz els.length V)
  (hrow : ∀ cs, cs ∈ els → cs.length = sz) (h12 : Nat.beq id ia = false) :
  WeakR C s fun t => ∃ v S, t = { n := s.n, nx := s.nx, sl := (j, .d (.val v)) :: s.sl, ch := (id, some (.pred S fun w => TRep w S (.view e sz els) v)) :: (ia, none) :: s.ch } := by
 subst hn; subst hr;refine ⟨?_⟩;rintro a w ⟨m, hR⟩;obtain ⟨q0, q1, c1, l1⟩ := hR.ch id _ hc;obtain ⟨rfl, k1, cl1, lt1⟩ := c1.predAt;obtain ⟨pa, qa, ca, la⟩ := hR.ch ia _ ha;have h12 : id ≠ ia := Nat.ne_of_beq_eq_false h12;have hd : ∀ k, pa.1 = some k → ¬ S' k := fun k g1 g2 => h12 (hR.inj id ia _ _ _ _ hc ha q1 qa k (.inr g2) (.inl g1))
 have hsl := hR.sl j;rw [hs] at hsl
 obtain ⟨hv, hp⟩ : a.tmps.getD j undef = .slice (pa.1.map fun b => ⟨b, 0, none⟩) els.length pa.2 ∧ (pa.1 = none → els.length = 0 ∧ pa.2 = 0) := by
  generalize a.tmps.getD j undef = u at hsl;cases hsl with
  | own h1 h2 =>
   rw [qa] at h1;simp only [Option.some.injEq] at h1;subst h1;exact ⟨rfl, h2⟩
 have hT : TRep w (fun k => pa.1 = some k ∨ S' k) (.view e sz els) (a.tmps.getD j undef) := by
  rw [hv];exact TRep.whole hp hrow (hK w k1) hd ca
 refine ⟨_, ⟨a.tmps.getD j undef, (fun k => pa.1 = some k ∨ S' k), rfl⟩, _, hR.repack (U' := fun i => s.nx ≤ i) [(id, .pred (fun k => pa.1 = some k ∨ S' k) fun w => TRep w (fun k => pa.1 = some k ∨ S' k) (.view e sz els) (a.tmps.getD j undef))] (fun _ => (none, 0)) [id, ia] rfl (fun i c h => ?_) (fun i c h => .inr ?_) (fun i hi => ⟨hi, ?_⟩) (fun i c b h hb => ?_) (fun i i' c c' b h h' _ _ => ?_) (fun F' _ i c h => ?_) (fun hle F' hF i => ?_)⟩
 ·change (getL i (_ :: _ :: _)).getD none = _ at h
  simp only [getL_cons] at h;rw [getL_cons]
  split at h
  ·rename_i ei; rw [if_pos ei]; exact .inl (by simpa using h)
  rename_i e1;rw [if_neg e1]
  split at h
  ·cases h
  rename_i e2;exact .inr ⟨rfl, by simp [e1, e2], h⟩
 ·obtain ⟨rfl, _⟩ := getL_one h; exact q1
 ·rw [getL_cons]
  split
  ·rename_i ei; subst ei; have := hR.un i hi; rw [q1] at this; cases this
  rfl
 ·obtain ⟨rfl, rfl⟩ := getL_one h;rcases occ_pred' hb with g | g
  ·exact ⟨ia, _, _, by simp, ha, qa, .inl g⟩
  exact ⟨i, _, _, by simp, hc, q1, .inr g⟩
 ·rw [(getL_one h).1, (getL_one h').1]
 ·obtain ⟨rfl, rfl⟩ := getL_one h;exact .pred hT (fun w w' hk h => h.turn hk) hT.lt
 change ARep _ _ _ ((getL i (_ :: _)).getD .dead) _
 rw [getL_cons]
 by_cases hij : i = j
 ·subst hij;rw [if_pos rfl];rw [hv];exact .d (.val trivial)
 rw [if_neg hij]; exact (hR.sl i).turn hle (fun k hk _ => ⟨hF k hk, rfl⟩)
end
def fillV (sz n k : Nat) (z : List DV) (V : List Value) : List (List DV) := rowsV sz k V ++ List.replicate (n - k) z
theorem fillV_len {sz n k : Nat} {z : List DV} {V : List Value} (h : k ≤ n) : (fillV sz n k z V).length = n := by simp [fillV, rowsV_len]; omega
theorem fillV_zero (sz n : Nat) (z : List DV) (V : List Value) : fillV sz n 0 z V = List.replicate n z := by simp [fillV, rowsV]
theorem fillV_all (sz n : Nat) (z : List DV) (V : List Value) : fillV sz n n z V = rowsV sz n V := by simp [fillV]
theorem rowsV_app {sz k : Nat} {V vs : List Value} (h1 : V.length = k * sz) (h2 : vs.length = sz) : rowsV sz (k + 1) (V ++ vs) = rowsV sz k V ++ [vs.map .val] := by
 unfold rowsV;rw [List.range_succ, List.map_append, List.map_singleton];congr 1
 ·refine List.map_congr_left fun i hi => List.map_congr_left fun j hj => ?_
  rw [List.mem_range] at hi hj;have := row_lt hi hj;rw [List.getElem?_append_left (by omega)]
 congr 1
 apply List.ext_getElem?
 intro j;rw [List.getElem?_map, List.getElem?_map]
 by_cases hj : j < sz
 ·rw [List.getElem?_eq_getElem (show j < (List.range sz).length by simpa using hj), List.getElem?_eq_getElem (show j < vs.length by omega)];simp only [Option.map_some, List.getElem_range];rw [List.getElem?_append_right (by omega), h1, show k * sz + j - k * sz = j by omega, List.getElem?_eq_getElem (show j < vs.length by omega)]; rfl
 rw [List.getElem?_eq_none (show (List.range sz).length ≤ j by simpa using hj), List.getElem?_eq_none (show vs.length ≤ j by omega)]; rfl
theorem fillV_set {sz n k : Nat} {z : List DV} {V vs : List Value} (hk : k < n) (h1 : V.length = k * sz) (h2 : vs.length = sz) : (fillV sz n k z V).set k (vs.map .val) = fillV sz n (k + 1) z (V ++ vs) := by
 unfold fillV;rw [rowsV_app h1 h2, List.set_append_right _ _ (by rw [rowsV_len]; exact Nat.le_refl _), rowsV_len, Nat.sub_self];rw [show n - k = (n - (k + 1)) + 1 by omega, List.replicate_succ, List.set_cons_zero, List.append_assoc, List.singleton_append]
mutual
def AV.solid : AV → Bool
 | .dead => true
 | .und => true
 | .d (.val _) => true
 | .own _ _ => true
 | .ptr _ _ => true
 | .tup cs => AV.solidL cs
 | .agg cs => AV.solidL cs
 | _ => false
def AV.solidL : List AV → Bool
 | [] => true
 | c :: cs => c.solid && AV.solidL cs
end
theorem AV.solidL_get : ∀ {cs : List AV}, AV.solidL cs = true → ∀ (i : Nat) c, cs[i]? = some c → c.solid = true
 | [], _, i, c, h => by simp at h
 | c :: cs, hf, i, c', h => by
  simp only [AV.solidL, Bool.and_eq_true] at hf;cases i with
  | zero => simp at h; subst h; exact hf.1
  | succ i => exact AV.solidL_get hf.2 i c' (by simpa using h)
def Chunk.solid : Chunk → Prop
 | .cells _ cs => AV.solidL cs = true
 | .arr _ _ els => ∀ cs, cs ∈ els → ∀ d, d ∈ cs → d.flat
 | _ => True
theorem ARep.solid {m : Nat → Option (Option Nat × Nat)} {F F' : Nat → Prop} {w : World} {x : AV} {v : Value} (h : ARep m F w x v) : x.solid = true → ARep m F' w x v := by
 induction h with
 | dead => intro _; exact .dead
 | und => intro _; exact .und
 | own h h0 => intro _; exact .own h h0
 | ptr h => intro _; exact .ptr h
 | d h => intro hf; rename_i x v; cases x with
  | val u => exact .d (h.flat trivial)
  | _ => simp [AV.solid] at hf
 | agg h1 _ h3 ih => intro hf; exact .agg h1 (fun i c hc => ih i c hc (AV.solidL_get (by simpa [AV.solid] using hf) i c hc)) h3
 | tup h1 _ ih => intro hf; exact .tup h1 (fun i c hc => ih i c hc (AV.solidL_get (by simpa [AV.solid] using hf) i c hc))
 | _ => intro hf; simp [AV.solid] at hf
theorem CRep.solid {m : Nat → Option (Option Nat × Nat)} {F F' : Nat → Prop} {w : World} {p : Option Nat × Nat} {c : Chunk} (h : CRep m F w p c) (hs : c.solid) : CRep m F' w p c := by
 cases h with
 | cells h1 h2 h3 h4 => exact .cells h1 h2 (fun i c hc => (h3 i c hc).solid (AV.solidL_get hs i c hc)) h4
 | arr h1 h2 h3 h4 h5 h6 h7 h8 => exact .arr h1 h2 h3 h4 h5 h6 h7 (fun i cs j d hi hj => (h8 i cs j d hi hj).flat (hs cs (List.mem_of_getElem? hi) d (List.mem_of_getElem? hj)))
 | nil h => exact .nil h
 | iter h => exact .iter h
 | map h => exact .map h
 | obj h => exact .obj h
 | pred h1 h2 h3 => exact .pred h1 h2 h3
 | lock h => exact .lock h
section
variable {P : Program} [PT P]
variable {s : ASt} {dst : Option Nat} {ty : Nat} {pos : String} {af : Array Edge} {gd : Option (Nat × Bool)} {f : Nat}
theorem h_borrowN (ids : List Nat) {g : FuncId} {caps ys ars : List AV} {fx : Operand} {xs : Array Operand} {ats : Array TypeId} {R : AV → List (Nat × Chunk) → Prop} (hen : Enters P g) (hf : s.ev fx = .clo g caps) (hys : xs.toList.map s.ev ++ caps = ys)
  (hspec : ASpec P g ars [] R) (hlead : BAs ids s ars ys) (hr : ∀ r chs, R r chs → r.solid = true ∧ ∀ id c, getL id chs = some c → c.solid) :
  NOpR P ids s ⟨dst, .call { callee := .value fx, args := xs, argTypes := ats }, ty, pos, af, gd⟩ f (fun u => ∃ r chs', R r chs' ∧ u = callU [] f r chs') := by
 refine ⟨fun s' ha C U U' a w m hR hU hU' hd K Q hK => ?_⟩;have hfx := hR.ev fx;rw [ha.2.1 fx (by simp [Op.operands, Call.operands]), hf] at hfx
 have hblk : ∀ j c p b, s'.chunk j = some c → m j = some p → occ p c b → b < w.heap.size := by
  intro j c p b h1 h2 h3;obtain ⟨q, hq, hr, _⟩ := hR.ch j c h1;rw [h2] at hq;obtain rfl : p = q := by simpa using hq
  exact hr.lt h3
 generalize hfv : a.eval fx = fv at hfx;cases hfx with
 | clo hc1 hc2 =>
  rename_i cv
  have hrun : (execOp a.eval ⟨dst, .call { callee := .value fx, args := xs, argTypes := ats }, ty, pos, af, gd⟩).run P w = .ok (.enter g (xs.map a.eval ++ cv)) w := by
   simp [execOp, resolve, hfv, Deferred.ofValue, invoke, hen (xs.map a.eval ++ cv) w]
  obtain ⟨hl1, hl2⟩ := hlead.get
  have harg : ∀ (i : Nat) y, ys[i]? = some y → ARep m (Fz C m s' w) w y ((xs.map a.eval ++ cv).getD i undef) := by
   intro i y hy;rw [← hys] at hy
   by_cases hi : i < xs.size
   ·rw [List.getElem?_append_left (by simpa using hi), List.getElem?_map, Option.map_eq_some_iff] at hy;obtain ⟨x, hx, rfl⟩ := hy;have hx' : xs[i]? = some x := by simpa using hx
    have := hR.ev x;rw [ha.2.1 x (by simp only [Op.operands, Call.operands, Array.mem_append]; exact .inr (Array.mem_of_getElem? hx'))] at this
    have e : (xs.map a.eval ++ cv).getD i undef = a.eval x := by
     have hxi : xs[i] = x := (Array.getElem?_eq_some_iff.1 hx').2;simp [Array.getD_eq_getD_getElem?, Array.getElem?_append, hi, hxi]
    rw [e]; exact this
   rw [List.getElem?_append_right (by simpa using Nat.le_of_not_lt hi)] at hy;have := hc2 _ y hy
   have e : (xs.map a.eval ++ cv).getD i undef = cv.getD (i - xs.size) undef := by
    simp [Array.getD_eq_getD_getElem?, Array.getElem?_append, hi]
   rw [e]; simpa using this
  have hcall := hspec w (fun _ => none) (fun k => k < w.heap.size) (xs.map a.eval ++ cv) (fun k hk => ⟨hk, fun id c p hc => by simp [getL] at hc⟩) ?_ ?_ (fun id c hc => by simp [getL] at hc) (fun id id' c c' p p' b hc => by simp [getL] at hc) (fun id _ => rfl)
  ·unfold Oper.wp;rw [hrun];simp only [Oper.upon];refine Calls.mono hcall ?_;rintro e w' ⟨v, r, chs', m1, F1, rfl, hRr, -, hn1, hF1, ⟨f1, f2, f3, f4, f5⟩, hv, hc', hi'⟩;obtain ⟨hrs, hcs⟩ := hr r chs' hRr;have hold : ∀ k, k < w.heap.size → w'.heap[k]? = w.heap[k]? := fun k hk => f5 k hk (fun id c p hc => by simp [getL] at hc)
   have hmf : ∀ k, k < 8 → m (f + k) = none := fun k hk => hR.un _ (hU k hk)
   let m2 : Nat → Option (Option Nat × Nat) := fun j => if f ≤ j ∧ j < f + 8 then m1 (j - f) else m j
   have htau : ∀ i, tauC [] f i = f + i := fun i => by simp [tauC]
   have hle : MLe m m2 := by
    intro j p hp
    have : ¬ (f ≤ j ∧ j < f + 8) := fun h => by
     have := hmf (j - f) (by omega);rw [show f + (j - f) = j by omega, hp] at this;cases this
    simp [m2, this, hp]
   have hm12 : ∀ id p, m1 id = some p → m2 (tauC [] f id) = some p := by
    intro id p hp
    have h8 : id < 8 := by
     rcases Nat.lt_or_ge id 8 with h | h
     ·exact h
     have := hn1 id (by simpa using h); rw [hp] at this; cases this
    rw [htau];have hin : f ≤ f + id ∧ f + id < f + 8 := by omega
    simp only [m2, hin, and_self, if_true];rw [show f + id - f = id by omega];exact hp
   have hm2 : ∀ i c0, getL i chs' = some c0 → ∀ p, m2 (tauC [] f i) = some p → m1 i = some p := by
    intro i c0 h1 p hp;obtain ⟨q, hq, _⟩ := hc' i c0 h1;have := hm12 i q hq;rw [hp] at this;rw [hq, this]
   have hgone : ∀ id c, getL id (callU [] f r chs').ch = some (some c) → ∃ i c0, getL i chs' = some c0 ∧ tauC [] f i = id ∧ c = c0.ren (tauC [] f) := by
    intro id c h;simp only [callU, getL_append, noneC] at h;cases hm : getL id (mapC [] f chs') with
    | some o =>
     rw [hm] at h;simp only [Option.some_or, Option.some.injEq] at h;subst h;obtain ⟨i, c0, h1, h2, h3⟩ := getL_mapC hm;exact ⟨i, c0, h1, h2, by simpa using h3⟩
    | none =>
     rw [hm] at h;simp [getL] at h
   have hnewblk : ∀ i c0 p b, getL i chs' = some c0 → m1 i = some p → occ p c0 b → w.heap.size ≤ b := by
    intro i c0 p b h1 h2 h3;obtain ⟨q, hq, _, hl⟩ := hc' i c0 h1;rw [h2] at hq;obtain rfl : p = q := by simpa using hq
    rcases hl b h3 with h | ⟨id0, c1, p0, g1, _⟩
    ·exact h
    simp [getL] at g1
   refine hK _ ⟨r, chs', hRr, rfl⟩ _ _ m2 (hR.step hd hle (fun j hj => ?_) ?_ f4 (fun k hk => ⟨fun id c p h1 h2 h3 => ?_, hold k hk.2.1⟩) (fun id c p b h0 h1 h2 h3 => hold b (hblk id c p b h1 h2 h3)) (fun F' hF hF2 => ?_) (fun id id' c c' p p' b h1 h2 hp hp' hb hb' => ?_))
   ·have := hU' j hj;have h2 : ¬ (f ≤ j ∧ j < f + 8) := by omega
    simp only [m2, h2, if_false];exact hR.un j this.1
   ·refine ⟨f1.trans hR.fr.os, f2.trans hR.fr.tape, f3.trans hR.fr.output, Nat.le_trans hR.fr.size f4, fun k hk hn => ?_⟩;rw [hold k (Nat.lt_of_lt_of_le hk hR.fr.size)];exact hR.fr.block k hk hn
   ·obtain ⟨i, c0, g1, rfl, rfl⟩ := hgone id c h1;have := hnewblk i c0 p k g1 (hm2 i c0 g1 p h2) (occ_ren.1 h3);have := hk.2.1; omega
   ·refine ⟨(hv.solid (F' := fun _ => False) hrs).ren hm12 (fun _ h => h.elim), fun id c h => ?_⟩;obtain ⟨i, c0, g1, rfl, rfl⟩ := hgone id c h;obtain ⟨p, q1, q2, q3⟩ := hc' i c0 g1;refine ⟨p, hm12 i p q1, (q2.solid (F' := fun _ => False) (hcs i c0 g1)).ren hm12 (fun _ h => h.elim), fun b hb => ?_⟩;exact .inr (Nat.le_trans hR.fr.size (hnewblk i c0 p b g1 q1 (occ_ren.1 hb)))
   obtain ⟨i, c0, g1, rfl, rfl⟩ := hgone id c h1;have hp1' := hm2 i c0 g1 p hp;rw [ASt.chunk_app] at h2;cases hg : getL id' (callU [] f r chs').ch with
   | some o =>
    rw [hg] at h2;simp only at h2;subst h2;obtain ⟨i', c0', g1', rfl, rfl⟩ := hgone id' c' hg;have := hi' i i' c0 c0' p p' b g1 g1' hp1' (hm2 i' c0' g1' p' hp') (occ_ren.1 hb) (occ_ren.1 hb');rw [this]
   | none =>
    rw [hg] at h2;simp only at h2;obtain ⟨q, hq, _⟩ := hR.ch id' c' h2;have := hle id' q hq;rw [hp'] at this;obtain rfl : p' = q := by simpa using this
    have hlt := hblk id' c' p' b h2 hq hb';have := hnewblk i c0 p b g1 hp1' (occ_ren.1 hb);omega
  ·have : ys.length = xs.size + caps.length := by rw [← hys]; simp
   simp only [Array.size_append, Array.size_map];omega
  intro i x hx;obtain ⟨y, hy, hxy⟩ := hl2 i x hx;exact hxy.rep hR ha.2.2 (fun k hk => hk) (harg i y hy)
end
theorem TL.congr {w : World} {S S' : Nat → Prop} {L : List DV} {V : List Value} (h : TL w S L V) (he : ∀ k, S k ↔ S' k) : TL w S' L V := by
 have : S = S' := funext fun k => propext (he k)
 subst this; exact h
theorem TL.consFlat {w : World} {S : Nat → Prop} {L : List DV} {V : List Value} {x : Value} (hx : okV x) (h : TL w S L V) : TL w S (.val x :: L) (x :: V) :=
 (TL.cons (S := fun _ => False) (.val (fun _ h => h) hx) h (fun _ h => h.elim)).congr fun k => by simp
theorem TL.snocFlat {w : World} {S : Nat → Prop} {L : List DV} {V : List Value} {x : Value} (hx : okV x) (h : TL w S L V) : TL w S (L ++ [.val x]) (V ++ [x]) :=
 (h.app (TL.one (S := fun _ => False) (.val (fun _ h => h) hx)) (fun _ _ h => h.elim)).congr fun k => by simp
def OneT (x : DV) : AV → List (Nat × Chunk) → Prop := fun r chs => ∃ v S, r = .d (.val v) ∧ chs = [(0, .pred S fun w => TRep w S x v)]
def FourT (x y z u : DV) : AV → List (Nat × Chunk) → Prop := fun r chs => ∃ v1 v2 v3 v4 S, r = .agg [.d (.val v1), .d (.val v2), .d (.val v3), .d (.val v4)] ∧ chs = [(0, .pred S fun w => TL w S [x, y, z, u] [v1, v2, v3, v4])]
section
variable {P : Program} [PT P] {C : Ctx} {Q : Exit → ASt → Prop} {s : ASt} {ops : Array Oper}
theorem WeakR.okI (i : Nat) {k : IntKind} {x : Int} (hs : s.get i = .d (.val (.int k x))) : WeakR C s fun t => okV (.int k x) ∧ t = s := by
 refine ⟨fun a w hR => ?_⟩;obtain ⟨m, hm⟩ := hR;have := hm.sl i;rw [hs] at this;refine ⟨s, ⟨?_, rfl⟩, m, hm⟩;generalize a.tmps.getD i undef = u at this;cases this with | d h => cases h with | val h => exact h
theorem retX (ρ : List (Nat × Nat)) {fn : Func} {k : Nat} {R : AV → List (Nat × Chunk) → Prop} {x r : AV} {chs' : List (Nat × Chunk)} (hx : resAV P s fn.results.toList = some x) (hR : R r chs') (h : r.leads (sig k ρ) x) (hc : leadsC (sig k ρ) s (chL chs')) (ha : apartL (sig k ρ) (keysC (chL chs')) = true) (hρ : ρ.all (fun p => Nat.blt p.1 (k + 8)) = true) : RetQ P fn k R s := by
 obtain ⟨x', r', c', ρ', h1, ⟨rfl, rfl⟩, h3, h4, h5, h6⟩ := (retN ρ hx h hc ha hρ : RetQ P fn k (Fun1 r chs') s).out;exact ⟨⟨x', _, _, ρ', h1, hR, h3, h4, h5, h6⟩⟩
theorem h_funR {dst : Option Nat} {ty : Nat} {pos : String} {af : Array Edge} {g : FuncId} {caps ys ars : List AV} {fx : Operand} {xs : Array Operand} {ats : Array TypeId} {chs : List (Nat × Chunk)} {R : AV → List (Nat × Chunk) → Prop} {cs : List Nat} {f : Nat} {gd : Option (Nat × Bool)} (hen : Enters P g) (hf : s.ev fx = .clo g caps) (hys : xs.toList.map s.ev ++ caps = ys)
  (hlead : AV.leadsL (sigC cs) ars ys) (hch : leadsC (sigC cs) s (chL chs)) (hspec : ASpec P g ars chs R) (hkeys : chs.map (·.1) = List.range cs.length) (hlen : chs.length = cs.length) (hnd : nodupB cs = true) :
  NOpR P cs s ⟨dst, .call { callee := .value fx, args := xs, argTypes := ats }, ty, pos, af, gd⟩ f (fun u => ∃ r chs', R r chs' ∧ u = callU cs f r chs') :=
 h_callR (cs := cs) hen hf hys hspec hlead hlen (fun id c h => by
  obtain ⟨⟨j, d, h1, h2, h3⟩, _⟩ := leadsC_get hch id c (by rw [getL_chL]; exact h)
  exact ⟨j, d, h1, h2, h3⟩) (fun id j h => by
  obtain ⟨c, hc⟩ := keys_range hkeys (i := id) (List.mem_range.2 (List.getElem?_eq_some_iff.1 h).1);obtain ⟨⟨j', d, h1, h2, _⟩, _⟩ := leadsC_get hch id c (by rw [getL_chL]; exact hc);have h1' : cs[id]? = some j' := h1;rw [h] at h1';obtain rfl : j = j' := by simpa using h1'
  exact ⟨d, h2⟩) (fun i i' j => nodupB_inj hnd i i' j)
end
theorem ints_flat (l : List Int) : ∀ cs, cs ∈ ints l → ∀ d, d ∈ cs → d.flat := by
 intro cs hc d hd;obtain ⟨x, _, rfl⟩ := List.mem_map.1 hc;obtain rfl := List.mem_singleton.1 hd;exact trivial
theorem takeR_flat {R : List (List DV)} {k : Nat} {r : List DV} (h : R[k]? = some r) : (R.take (k + 1)).flatten = (R.take k).flatten ++ r := by
 rw [List.take_add_one, h, List.flatten_append]; simp
theorem tsL_row (ts : List Tn) : ∀ cs, cs ∈ tsL ts → cs.length = 2 := by
 intro cs hc;obtain ⟨x, _, rfl⟩ := List.mem_map.1 hc
 rfl
theorem TL.flatNew {w : World} {S : Nat → Prop} {L : List DV} {V : List Value} (h : TL w S L V) (hL : ∀ d, d ∈ L → d.flat) {Vn : List Value} (hV : ∀ v, v ∈ Vn → okV v) : TL w S (Vn.map .val) Vn := by
 obtain ⟨Ts, h1, h2, h3, h4⟩ := h
 have hS : ∀ k, ¬ S k := by
  intro k hk;obtain ⟨i, hi, hk'⟩ := (h4 k).1 hk;have hd := List.getElem?_eq_getElem hi;have hf := hL _ (List.getElem_mem hi);have hv := List.getElem?_eq_getElem (show i < V.length by omega);have hT := h2 i _ _ hd hv;generalize L[i] = d at hf hT;generalize V[i] = u at hT;cases hT with
  | val h _ => exact h k hk'
  | _ => exact hf.elim
 refine ⟨fun _ _ => False, by simp, fun i d v hd hv => ?_, fun _ _ _ h => h.elim, fun k => ⟨fun h => absurd h (hS k), fun ⟨_, _, h⟩ => h.elim⟩⟩;rw [List.getElem?_map, hv] at hd;simp only [Option.map_some, Option.some.injEq] at hd;subst hd;exact .val (fun _ h => h) (hV v (List.mem_of_getElem? hv))
def seqI (k : Int) (n : Nat) : List Int := (List.range n).map fun i => k + (i : Nat)
theorem seqI_len (k : Int) (n : Nat) : (seqI k n).length = n := by simp [seqI]
def mkI (k : Int) (i : Nat) (l : List Int) : List Int := seqI k i ++ l.drop i
theorem mkI_zero (k : Int) (l : List Int) : mkI k 0 l = l := by simp [mkI, seqI]
theorem mkI_len {k : Int} {i : Nat} {l : List Int} (h : i ≤ l.length) : (mkI k i l).length = l.length := by simp [mkI, seqI]; omega
theorem mkI_all (k : Int) (l : List Int) : mkI k l.length l = seqI k l.length := by simp [mkI]
theorem mkI_set {k : Int} {i : Nat} {l : List Int} (h : i < l.length) : (ints (mkI k i l)).set i [dI (k + i)] = ints (mkI k (i + 1) l) := by
 unfold mkI ints seqI;rw [List.map_append, List.set_append_right _ _ (by simp), List.range_succ];simp only [List.map_append, List.map_cons, List.map_nil, List.append_assoc, List.length_map, List.length_range, Nat.sub_self];congr 1;rw [List.drop_eq_getElem_cons h]
 rfl
theorem rowsV_ints {l : List Int} {V : List Value} (h1 : V.length = l.length) (h : ∀ (c : Nat) x, (ints l).flatten[c]? = some (.val x) → V[c]? = some x) : rowsV 1 l.length V = ints l := by
 have hfl : ∀ l : List Int, (ints l).flatten = l.map dI := by
  intro l
  induction l with
  | nil => rfl
  | cons x l ih => simp only [ints, List.map_cons, List.flatten_cons] at ih ⊢; rw [ih]; rfl
 apply List.ext_getElem?
 intro i
 by_cases hi : i < l.length
 ·rw [rowsV_get hi];have := h i (.int .i64 l[i]) (by rw [hfl]; simp [hi, dI]);simp [ints, hi, this, dI]
 rw [List.getElem?_eq_none (by rw [rowsV_len]; omega), List.getElem?_eq_none (by rw [ints_len]; omega)]
theorem ints_flatten (l : List Int) : (ints l).flatten = (l.map fun x => Value.int .i64 x).map .val := by
 induction l with
 | nil => rfl
 | cons x l ih => simp only [ints, List.map_cons, List.flatten_cons] at ih ⊢; rw [ih]; rfl
theorem rowsV_seq (l : List Int) : rowsV 1 l.length (l.map fun x => Value.int .i64 x) = ints l := by
 refine rowsV_ints (by simp) fun c x hc => ?_
 rw [ints_flatten, List.getElem?_map, Option.map_eq_some_iff] at hc;obtain ⟨y, hy, he⟩ := hc;cases he; exact hy
theorem ints_flat2 (l : List Int) : ∀ d, d ∈ (ints l).flatten → d.flat := by
 intro d hd;obtain ⟨cs, h1, h2⟩ := List.mem_flatten.1 hd;exact ints_flat l cs h1 d h2
theorem ints_row (l : List Int) : ∀ cs, cs ∈ ints l → cs.length = 1 := by
 intro cs hc;obtain ⟨x, _, rfl⟩ := List.mem_map.1 hc
 rfl
theorem seqI_ok {k : Int} {n : Nat} (hk : 0 ≤ k ∧ k ≤ 1073741824) (hn : n ≤ 1048576) : ∀ v, v ∈ (seqI k n).map (fun x => Value.int .i64 x) → okV v := by
 intro v hv;obtain ⟨x, hx, rfl⟩ := List.mem_map.1 hv;obtain ⟨i, hi, rfl⟩ := List.mem_map.1 hx;rw [List.mem_range] at hi;exact wrap_i64 (by omega)
set_option maxHeartbeats 2000000 in
theorem markIntS_T (l : List Int) (k : Int) (hl : l.length ≤ 1048576) (hk : 0 ≤ k ∧ k ≤ 1073741824) (v : Value) (S : Nat → Prop) : ASpec Tryz.prog 88 [.d (.val v), aI k] [(0, .pred S fun w => TRep w S (vI l) v)] (Fun1 (aI (k + l.length)) [(0, .pred S fun w => TRep w S (vI (seqI k l.length)) v)]) := by
 refine ASpec.of Tryz.func88 rfl rfl fun C hC => ?_
 refine AC.seq ?_;refine AC.weakR (WeakR.openT 0 0 rfl rfl (fun w h => h) rfl rfl) ?_;rintro _ ⟨p, V, S', ⟨hv, hp, hV, hrow, hS, hx⟩, rfl⟩;rw [ints_len] at *;rw [rowsV_ints (by omega) hx];refine AC.region ?_;refine za ?_;refine AL.nil (th_n (AC.seq (AC.seq (AC.region ?_))));refine za ?_;refine AL.nil (th_n (AC.block ?_));refine AC.loop (ι := Nat) (fun i => ⟨19, 108, [(0, .own 100 l.length), (1, aI (k + i)), (5, aI i)], [(100, some (.arr 3 1 (ints (mkI k i l)))), (101, some (.lock 100 p)), (0, some (.pred S' fun w => TL w S' (ints l).flatten V))]⟩) (fun i => i ≤ l.length) (fun i => l.length - i) (0) ?_ (Nat.zero_le _) ?_
 ·exact zw [(100, 1), (101, 2)] hC (b := by rw [mkI_zero]; repeat (first | exact True.intro | refine And.intro ?_ ?_ | exact rfl | refine ⟨_, _, rfl, rfl, ?_⟩ | refine ⟨_, rfl, ?_⟩))
 intro i hi;refine AC.seq (AC.seq (AC.region ?_));refine zm ?_;refine kB ?_;refine AL.p (by exact g_len_own (sz := 1) (els := []) (e' := 0) rfl rfl (by simp only [maxLen]; omega)) rfl ?_;refine zc ?_;refine AL.nil (th_n ?_);refine AC.condD rfl (fun h0 => ?_) (fun h0 => ?_)
 ·refine AC.skip (th_n (AC.seq (AC.block (AC.seq ?_))));have hi1 : i < l.length := by omega
  have hlen := ints_len (mkI k i l);rw [mkI_len hi] at hlen;have hgf : (ints (mkI k i l))[i]? = some [dI ((mkI k i l)[i]'(by rw [mkI_len hi]; exact hi1))] := ints_at _;have hst := mkI_set (k := k) hi1;refine AC.region ?_;refine kB ?_;refine zm ?_;refine zm ?_;refine AL.p (by exact g_ia_own rfl rfl rfl rfl rfl (by rfl) (by omega) (by exact Nat.mul_one _)) rfl ?_;refine AL.q (by exact h_store_arr1 rfl rfl rfl rfl (by exact .same) (by assumption)) rfl ?_;refine AL.nil (th_n (AC.region ?_));refine zm ?_;refine zA ?_;refine za ?_;refine AL.nil (ib_n (th_n (AC.region ?_)));refine zm ?_;refine zA ?_;refine za ?_;refine AL.nil (th_n ?_);exact ⟨i + 1, by omega, by omega, zw [(100, 100), (101, 101)] hC (b := by rw [← hst]; repeat (first | exact True.intro | refine And.intro ?_ ?_ | exact rfl | refine ⟨_, _, rfl, rfl, ?_⟩ | refine ⟨_, rfl, ?_⟩))⟩
 refine AC.exit (th_e (th_e (ib_y (th_n (AC.seq ?_)))));obtain rfl : i = l.length := by omega
 rw [mkI_all];refine AC.weak (Weak.closeT (els := ints (seqI k l.length)) (V := (seqI k l.length).map fun x => Value.int .i64 x) (n := 0) (v := v) (S := S) (S' := S') (p := p) 0 0 100 101 (by rw [ints_len, seqI_len] <;> rfl) rfl (fun w h => by rw [ints_flatten]; exact h.flatNew (ints_flat2 l) (seqI_ok hk hl)) (by rw [ints_len, rowsV_seq]; rfl) rfl (by rw [ints_len, seqI_len]; exact hv) (by rw [ints_len, seqI_len]; exact hp) (ints_row _) hS rfl rfl) ?_;refine AC.region ?_;refine zm ?_;refine za ?_;refine AL.nil (th_n (AC.ret (bq_r ?_)));exact retX [] rfl ⟨rfl, rfl⟩ (by repeat (exact DLead.same)) (by repeat (first | exact True.intro | refine And.intro ?_ ?_ | exact rfl | refine ⟨_, _, rfl, rfl, ?_⟩)) rfl rfl
theorem en_markIntS : Enters Tryz.prog 88 := enters_of Tryz.func88 rfl rfl
def mkL {α : Type} (wt : α → Nat) (mk : Int → α → α) : Int → List α → List α
 | _, [] => []
 | k, x :: l => mk k x :: mkL wt mk (k + (wt x : Nat)) l
def sumL {α : Type} (wt : α → Nat) : List α → Nat
 | [] => 0
 | x :: l => wt x + sumL wt l
theorem mkL_len {α : Type} (wt : α → Nat) (mk : Int → α → α) : ∀ (l : List α) (k : Int), (mkL wt mk k l).length = l.length
 | [], _ => rfl
 | x :: l, k => by simp [mkL, mkL_len wt mk l]
theorem mkL_app {α : Type} (wt : α → Nat) (mk : Int → α → α) : ∀ (l m : List α) (k : Int), mkL wt mk k (l ++ m) = mkL wt mk k l ++ mkL wt mk (k + (sumL wt l : Nat)) m
 | [], m, k => by simp [mkL, sumL]
 | x :: l, m, k => by
  simp only [List.cons_append, mkL, mkL_app wt mk l m, sumL, Int.natCast_add, Int.add_assoc]
theorem sumL_app {α : Type} (wt : α → Nat) : ∀ (l m : List α), sumL wt (l ++ m) = sumL wt l + sumL wt m
 | [], m => by simp [sumL]
 | x :: l, m => by simp only [List.cons_append, sumL, sumL_app wt l m]; omega
theorem sumL_take {α : Type} {wt : α → Nat} {l : List α} {i : Nat} (h : i < l.length) : sumL wt (l.take (i + 1)) = sumL wt (l.take i) + wt l[i] := by
 rw [List.take_add_one, List.getElem?_eq_getElem h, sumL_app]; simp [sumL]
theorem sumL_le {α : Type} (wt : α → Nat) (l : List α) (i : Nat) : sumL wt (l.take i) ≤ sumL wt l := by
 have := sumL_app wt (l.take i) (l.drop i);rw [List.take_append_drop] at this;omega
def mkM {α : Type} (wt : α → Nat) (mk : Int → α → α) (k : Int) (i : Nat) (l : List α) : List α := mkL wt mk k (l.take i) ++ l.drop i
theorem mkM_zero {α : Type} (wt : α → Nat) (mk : Int → α → α) (k : Int) (l : List α) : mkM wt mk k 0 l = l := by simp [mkM, mkL]
theorem mkM_all {α : Type} (wt : α → Nat) (mk : Int → α → α) (k : Int) (l : List α) : mkM wt mk k l.length l = mkL wt mk k l := by simp [mkM]
theorem mkM_get {α : Type} {wt : α → Nat} {mk : Int → α → α} {k : Int} {i : Nat} {l : List α} (h : i < l.length) : (mkM wt mk k i l)[i]? = some l[i] := by
 unfold mkM;have : (mkL wt mk k (l.take i)).length = i := by rw [mkL_len, List.length_take]; omega
 rw [List.getElem?_append_right (by omega), this, Nat.sub_self, List.getElem?_drop, Nat.add_zero, List.getElem?_eq_getElem h]
theorem mkM_set {α : Type} {wt : α → Nat} {mk : Int → α → α} {k : Int} {i : Nat} {l : List α} (h : i < l.length) : (mkM wt mk k i l).set i (mk (k + (sumL wt (l.take i) : Nat)) l[i]) = mkM wt mk k (i + 1) l := by
 unfold mkM;have : (mkL wt mk k (l.take i)).length = i := by rw [mkL_len, List.length_take]; omega
 rw [List.set_append_right _ _ (by omega), this, Nat.sub_self, List.take_add_one, List.getElem?_eq_getElem h, mkL_app, List.append_assoc, List.drop_eq_getElem_cons h]
 rfl
theorem set_flat : ∀ {els : List (List DV)} {sz : Nat} (_ : ∀ cs, cs ∈ els → cs.length = sz) {i j : Nat} {cs : List DV} {d : DV}, els[i]? = some cs → j < sz → els.flatten.set (i * sz + j) d = (els.set i (cs.set j d)).flatten
 | [], sz, _, i, j, cs, d, hi, _ => by simp at hi
 | c :: els, sz, h, i, j, cs, d, hi, hj => by
  have hc := h c (by simp);cases i with
  | zero =>
   simp at hi; subst hi;rw [List.flatten_cons, Nat.zero_mul, Nat.zero_add, List.set_append_left _ _ (by omega), List.set_cons_zero, List.flatten_cons]
  | succ i =>
   rw [List.getElem?_cons_succ] at hi;rw [List.flatten_cons, List.set_append_right _ _ (by rw [hc, Nat.succ_mul]; omega), hc, show (i + 1) * sz + j - sz = i * sz + j by rw [Nat.succ_mul]; omega, set_flat (fun cs hc => h cs (List.mem_cons_of_mem _ hc)) hi hj, List.set_cons_succ, List.flatten_cons]
theorem rowsV2_get {n i : Nat} {V : List Value} {v1 v2 : Value} (hi : i < n) (h1 : V[i * 2]? = some v1) (h2 : V[i * 2 + 1]? = some v2) : (rowsV 2 n V)[i]? = some [.val v1, .val v2] := by
 rw [rowsV_get hi];simp [List.range_succ, h1, h2]
def wT (t : Tn) : Nat := t.pre.length + t.post.length
def mkT (k : Int) (t : Tn) : Tn := ⟨seqI k t.pre.length, seqI (k + t.pre.length) t.post.length⟩
set_option maxHeartbeats 2000000 in
theorem markTnS_T (ts : List Tn) (k : Int) (hl : ts.length ≤ 1048576) (hb : ∀ t, t ∈ ts → t.pre.length ≤ 1048576 ∧ t.post.length ≤ 1048576) (hk : 0 ≤ k ∧ k + (sumL wT ts : Nat) ≤ 1073741824) (v : Value) (S : Nat → Prop) : ASpec Tryz.prog 60 [.d (.val v), aI k] [(0, .pred S fun w => TRep w S (vTs ts) v)] (Fun1 (aI (k + (sumL wT ts : Nat))) [(0, .pred S fun w => TRep w S (vTs (mkL wT mkT k ts)) v)]) := by
 refine ASpec.of Tryz.func60 rfl rfl fun C hC => ?_
 refine AC.seq ?_;refine AC.weakR (WeakR.openT (els := tsL ts) 0 0 rfl rfl (fun w h => h) rfl rfl) ?_;rintro _ ⟨p, V, S', ⟨hv, hp, hV, hrow, hS, hx⟩, rfl⟩;rw [tsL_len] at *;refine AC.region ?_;refine za ?_;refine AL.nil (th_n (AC.seq (AC.seq (AC.region ?_))));refine za ?_;refine AL.nil (th_n (AC.block ?_));refine AC.loop (ι := Nat) (fun i => ⟨27, 108, [(0, .own 100 ts.length), (1, aI (k + (sumL wT (ts.take i) : Nat))), (5, aI i)], [(100, some (.arr 96 2 (rowsV 2 ts.length V))), (101, some (.lock 100 p)), (0, some (.pred S' fun w => TL w S' (tsL (mkM wT mkT k i ts)).flatten V))]⟩) (fun i => i ≤ ts.length) (fun i => ts.length - i) (0) ?_ (Nat.zero_le _) ?_
 ·have hs0 : sumL wT (ts.take 0) = 0 := rfl;exact zw [(100, 1), (101, 2)] hC (b := by rw [mkM_zero]; repeat (first | exact True.intro | refine And.intro ?_ ?_ | exact rfl | refine ⟨_, _, rfl, rfl, ?_⟩ | refine ⟨_, rfl, ?_⟩))
 intro i hi;refine AC.seq (AC.seq (AC.region ?_));refine zm ?_;refine kB ?_;refine AL.p (by exact g_len_own (sz := 1) (els := []) (e' := 0) rfl rfl (by simp only [maxLen]; omega)) rfl ?_;refine zc ?_;refine AL.nil (th_n ?_);refine AC.condD rfl (fun h0 => ?_) (fun h0 => ?_)
 ·refine AC.skip (th_n (AC.seq (AC.block (AC.seq ?_))));have hi1 : i < ts.length := by omega
  have hlr := rowsV_len 2 ts.length V;obtain ⟨v1, hv1⟩ : ∃ v, V[i * 2]? = some v := ⟨_, List.getElem?_eq_getElem (by omega)⟩;obtain ⟨v2, hv2⟩ : ∃ v, V[i * 2 + 1]? = some v := ⟨_, List.getElem?_eq_getElem (by omega)⟩;have hget := rowsV2_get hi1 hv1 hv2;have hb1 := (hb _ (List.getElem_mem hi1)).1;have hb2 := (hb _ (List.getElem_mem hi1)).2;have hM : (tsL (mkM wT mkT k i ts))[i]? = some [vI ts[i].pre, vI ts[i].post] := by unfold tsL; rw [List.getElem?_map, mkM_get hi1]; rfl
  have hrM := tsL_row (mkM wT mkT k i ts);have hL1 := flat_get hrM hM (j := 0) rfl;have hL2 := flat_get hrM hM (j := 1) rfl;have hs1 := sumL_take (wt := wT) hi1;have hs2 := sumL_le wT ts (i + 1);have hw : wT ts[i] = ts[i].pre.length + ts[i].post.length := rfl;have hLl := (List.getElem?_eq_some_iff.1 hL2).1;refine AC.region ?_;refine kB ?_;refine zm ?_;refine AL.p (by exact g_ia_own rfl rfl rfl rfl rfl (by rfl) (by omega) (by rfl)) rfl ?_;refine zF ?_;refine AL.p (by exact g_load_arr rfl rfl rfl rfl (by rfl) (by assumption) (by rfl)) rfl ?_;refine zm ?_;refine AL.weakR (WeakR.splitT 0 (i * 2) (d := vI ts[i].pre) (v := v1) rfl (fun w h => h) hL1 hv1 rfl) ?_;rintro _ ⟨S1, S2, hSS, rfl⟩;refine AL.q (by exact h_fun (cs := [108]) en_markIntS rfl rfl (by repeat (first | exact rfl | exact DLead.same | refine ⟨_, _, rfl, ?_, ?_⟩)) (by repeat (first | exact True.intro | refine And.intro ?_ ?_ | exact rfl | refine ⟨_, _, rfl, rfl, ?_⟩)) (markIntS_T _ _ hb1 (by omega) v1 S1) rfl rfl rfl rfl) rfl ?_;refine AL.weak (Weak.joinT (S := S') (d := vI (seqI (k + (sumL wT (ts.take i) : Nat)) ts[i].pre.length)) (v := v1) 0 108 (i * 2) rfl rfl (fun w h => h) hSS (by omega) hv1 rfl) ?_;refine za ?_;refine AL.nil (th_n (AC.region ?_));refine kB ?_;refine zm ?_;refine AL.p (by exact g_ia_own rfl rfl rfl rfl rfl (by rfl) (by omega) (by rfl)) rfl ?_;refine zF ?_;refine AL.p (by exact g_load_arr rfl rfl rfl rfl (by rfl) (by assumption) (by rfl)) rfl ?_;refine zm ?_;refine AL.weakR (WeakR.splitT 0 (i * 2 + 1) (d := vI ts[i].post) (v := v2) rfl (fun w h => h) (by rw [List.getElem?_set_ne (by omega)]; exact hL2) hv2 rfl) ?_;rintro _ ⟨S3, S4, hSS2, rfl⟩;refine AL.q (by exact h_fun (cs := [124]) en_markIntS rfl rfl (by repeat (first | exact rfl | exact DLead.same | refine ⟨_, _, rfl, ?_, ?_⟩)) (by repeat (first | exact True.intro | refine And.intro ?_ ?_ | exact rfl | refine ⟨_, _, rfl, rfl, ?_⟩)) (markIntS_T _ _ hb2 (by omega) v2 S3) rfl rfl rfl rfl) rfl ?_;refine AL.weak (Weak.joinT (S := S') (d := vI (seqI (k + (sumL wT (ts.take i) : Nat) + ts[i].pre.length) ts[i].post.length)) (v := v2) 0 124 (i * 2 + 1) rfl rfl (fun w h => h) hSS2 (by rw [List.length_set]; omega) hv2 rfl) ?_;refine za ?_;refine AL.nil (ib_n (th_n (AC.region ?_)));refine zm ?_;refine zA ?_;refine za ?_;refine AL.nil (th_n ?_);refine ⟨i + 1, hi1, by omega, Weak.ren _ [(100, 100), (101, 101)] hC rfl (by repeat (first | exact True.intro | refine And.intro ?_ ?_ | exact DLead.same | exact DLead.eqI (by omega) | exact rfl | refine ⟨_, rfl, ?_⟩)) ?_ rfl rfl rfl⟩;rw [← mkM_set hi1];have e1 := set_flat hrM hM (j := 0) (d := vI (seqI (k + (sumL wT (ts.take i) : Nat)) ts[i].pre.length)) (by omega);have e2 : (tsL ((mkM wT mkT k i ts).set i (mkT (k + (sumL wT (ts.take i) : Nat)) ts[i]))).flatten = ((tsL (mkM wT mkT k i ts)).flatten.set (i * 2) (vI (seqI (k + (sumL wT (ts.take i) : Nat)) ts[i].pre.length))).set (i * 2 + 1) (vI (seqI (k + (sumL wT (ts.take i) : Nat) + ts[i].pre.length) ts[i].post.length)) := by rw [Nat.add_zero] at e1; rw [e1, set_flat (cs := [vI (seqI (k + (sumL wT (ts.take i) : Nat)) ts[i].pre.length), vI ts[i].post]) (sz := 2) (fun cs hc => (List.mem_or_eq_of_mem_set hc).elim (hrM cs) (fun e => by rw [e]; rfl)) (by rw [List.getElem?_set_self (List.getElem?_eq_some_iff.1 hM).1]; rfl) (by omega), List.set_set]; unfold tsL; rw [List.map_set]; rfl
  rw [e2]
  repeat (first | exact True.intro | refine And.intro ?_ ?_ | exact rfl | refine ⟨_, _, rfl, rfl, ?_⟩ | refine ⟨_, rfl, ?_⟩)
 refine AC.exit (th_e (th_e (ib_y (th_n (AC.seq ?_)))));obtain rfl : i = ts.length := by omega
 rw [mkM_all, List.take_length];refine AC.weak (Weak.closeT (n := 0) (els := tsL (mkL wT mkT k ts)) (V := V) (v := v) (S := S) (S' := S') (p := p) 0 0 100 101 (by rw [tsL_len, mkL_len]; rfl) rfl (fun w h => h) (by rw [tsL_len, mkL_len]; rfl) rfl (by rw [tsL_len, mkL_len]; exact hv) (by rw [tsL_len, mkL_len]; exact hp) (tsL_row _) hS rfl rfl) ?_;refine AC.region ?_;refine zm ?_;refine za ?_;refine AL.nil (th_n (AC.ret (bq_r ?_)));exact retX [] rfl ⟨rfl, rfl⟩ (by repeat (exact DLead.same)) (by repeat (first | exact True.intro | refine And.intro ?_ ?_ | exact rfl | refine ⟨_, _, rfl, rfl, ?_⟩)) rfl rfl
theorem en_markTnS : Enters Tryz.prog 60 := enters_of Tryz.func60 rfl rfl
theorem en_markNet : Enters Tryz.prog 32 := enters_of Tryz.func32 rfl rfl
def PL (N : Net) (u : Unf) : Prop := ∀ c, c ∈ u.cs → 0 ≤ c.place ∧ c.place < N.places
theorem run_pl {N : Net} (hN : NetS N) : ∀ (hs : List Ev) (u now : Unf), PL N u → runI N u hs = some now → PL N now
 | [], u, now, hp, h => by rw [runI] at h; cases h; exact hp
 | x :: hs, u, now, hp, h => by
  rw [runI] at h
  split at h
  ·rename_i hf;refine run_pl hN hs _ now ?_ h;intro c hc;rcases List.mem_append.1 hc with h1 | h1
   ·exact hp c h1
   obtain ⟨p, hp', rfl⟩ := List.mem_map.1 h1;have := rising_in (hN.t _ (tAt_mem (fits_inR hf))).2.2.2.2 p hp';show 0 ≤ p ∧ p < _;omega
  cases h
theorem Good.pl {N : Net} {m : List UInt8} {u : Unf} (h : Good N m u) : PL N u := by
 refine run_pl h.n _ _ _ ?_ h.r;intro c hc;obtain ⟨p, hp, rfl⟩ := List.mem_map.1 hc;have := List.mem_range.1 (List.mem_filter.1 hp).1;have := h.n.p;show 0 ≤ (p : Int) ∧ (p : Int) < _;omega
theorem c1 {q b1 b2 : Bool} (hq : q = ((true || b1) && !b2)) (h : (!b2) = true) : q = true := by rw [hq, h]; rfl
theorem c2 {q b1 b2 : Bool} (hq : q = ((true || b1) && !b2)) (h : (!b2) = false) : q = false := by rw [hq, h]; rfl
set_option maxHeartbeats 1000000 in
theorem heldIntS_spec (k : Int) (n : Nat) (hn : n ≤ 1048576) (hk : 0 ≤ k ∧ k ≤ 1073741824) : ASpec Tryz.prog 89 [.d (vI (seqI k n)), aI k] [] (Pure1 (aI (k + n))) := by
 have hl := seqI_len k n;refine ASpec.of Tryz.func89 rfl rfl fun C hC => ?_
 refine AC.seq (AC.region ?_);refine za ?_;refine AL.nil (th_n (AC.seq (AC.seq (AC.region ?_))));refine za ?_;refine AL.nil (th_n (AC.block ?_));refine AC.loop (ι := Nat) (fun i => ⟨21, 0, [(0, .d (vI (seqI k n))), (1, aI (k + i)), (5, aI i)], []⟩) (fun i => i ≤ n) (fun i => n - i) (0) ?_ (Nat.zero_le _) ?_
 ·refine Weak.ren _ [] hC rfl ?_ ?_ rfl rfl rfl <;> repeat (first | exact True.intro | refine And.intro ?_ ?_ | exact DLead.same | exact DLead.eqI (by omega))
 intro i hi;refine AC.seq (AC.seq (AC.region ?_));refine zm ?_;refine zm ?_;refine kH ?_;refine zc ?_;refine AL.nil (th_n ?_);refine AC.condD rfl (fun h0 => ?_) (fun h0 => ?_)
 ·refine AC.skip (th_n (AC.seq (AC.block (AC.seq (AC.seq ?_)))));have hi1 : i < n := by omega
  have hget : (ints (seqI k n))[i]? = some [dI (k + i)] := by simp [ints, seqI, hi1]
  refine AC.region ?_;refine zm ?_;refine zm ?_;refine AL.p (by exact g_ia_view rfl rfl rfl rfl rfl (by rfl) (by assumption)) rfl ?_;refine zr ?_;refine zm ?_;refine zc ?_;refine AL.nil (th_n ?_);refine AC.condND rfl (fun h1 => ?_) (fun h1 => ?_)
  ·refine AC.seq ?_;exact absurd h1 (by simp)
  refine AC.skip (th_n (AC.region ?_));refine zm ?_;refine zA ?_;refine za ?_;refine AL.nil (ib_n (th_n (AC.region ?_)));refine zm ?_;refine zA ?_;refine za ?_;refine AL.nil (th_n ?_);exact ⟨i + 1, hi1, by omega, Weak.ren _ [] hC rfl (by repeat (first | exact True.intro | refine And.intro ?_ ?_ | exact DLead.same | exact DLead.eqI (by omega))) (by repeat (exact True.intro)) rfl rfl rfl⟩
 refine AC.exit (th_e (th_e (ib_y (th_n (AC.seq (AC.region ?_))))));refine zm ?_;refine za ?_;refine AL.nil (th_n (AC.ret (bq_r ?_)));obtain rfl : i = n := by omega
 exact ret1 rfl rfl
theorem en_heldIntS : Enters Tryz.prog 89 := enters_of Tryz.func89 rfl rfl
def TupT (l : List Int) (b : Bool) : AV → List (Nat × Chunk) → Prop := fun r chs => ∃ v S, r = .tup [.d (.val v), aT b] ∧ chs = [(0, .pred S fun w => TRep w S (vI l) v)]
theorem TupT.solid {l : List Int} {b : Bool} (r : AV) (chs : List (Nat × Chunk)) (h : TupT l b r chs) : r.solid = true ∧ ∀ id c, getL id chs = some c → c.solid := by
 obtain ⟨v, S, rfl, rfl⟩ := h;refine ⟨rfl, fun id c hc => ?_⟩;obtain ⟨_, rfl⟩ := getL_one hc;exact trivial
structure Sig where
 name : List UInt8
 kind : Int
 deriving DecidableEq
structure Lab where
 sig : Int
 up : Bool
 deriving DecidableEq
structure Bur where
 from_ : Int
 inn : List Lab
 out : List Lab
 to_ : Int
 deriving DecidableEq
structure Mach where
 sigs : List Sig
 states : Int
 burs : List Bur
 first : List UInt8
 deriving DecidableEq
abbrev sigD (s : Sig) : List DV := [dS (bstr s.name), dI s.kind]
abbrev sigA (s : Sig) : AV := .agg [aS (bstr s.name), aI s.kind]
abbrev labD (l : Lab) : List DV := [dI l.sig, dT l.up]
abbrev labA (l : Lab) : AV := .agg [aI l.sig, aT l.up]
abbrev sigsL (l : List Sig) : List (List DV) := l.map sigD
abbrev labsL (l : List Lab) : List (List DV) := l.map labD
abbrev vSigs (l : List Sig) : DV := .view 91 2 (sigsL l)
abbrev vLabs (l : List Lab) : DV := .view 63 2 (labsL l)
abbrev vLSigs (l : List Sig) : DV := .view 77 2 (sigsL l)
abbrev vLLabs (l : List Lab) : DV := .view 141 2 (labsL l)
abbrev burD (b : Bur) : List DV := [dI b.from_, vLabs b.inn, vLabs b.out, dI b.to_]
abbrev burA (b : Bur) : AV := .agg [aI b.from_, .d (vLabs b.inn), .d (vLabs b.out), aI b.to_]
abbrev burLD (b : Bur) : List DV := [dI b.from_, vLLabs b.inn, vLLabs b.out, dI b.to_]
abbrev burLA (b : Bur) : AV := .agg [aI b.from_, .d (vLLabs b.inn), .d (vLLabs b.out), aI b.to_]
abbrev bursL (l : List Bur) : List (List DV) := l.map burD
abbrev bursLL (l : List Bur) : List (List DV) := l.map burLD
abbrev vBurs (l : List Bur) : DV := .view 54 4 (bursL l)
abbrev vLBurs (l : List Bur) : DV := .view 81 4 (bursLL l)
abbrev machD (m : Mach) : List DV := [vSigs m.sigs, dI m.states, vBurs m.burs, dS (bstr m.first)]
abbrev machA (m : Mach) : AV := .agg [.d (vSigs m.sigs), aI m.states, .d (vBurs m.burs), aS (bstr m.first)]
abbrev machLD (m : Mach) : List DV := [vLSigs m.sigs, dI m.states, vLBurs m.burs, dS (bstr m.first)]
abbrev machLA (m : Mach) : AV := .agg [.d (vLSigs m.sigs), aI m.states, .d (vLBurs m.burs), aS (bstr m.first)]
theorem sigsL_len (l : List Sig) : (sigsL l).length = l.length := List.length_map _
theorem sigsL_get {l : List Sig} {k : Nat} (h : k < l.length) : (sigsL l)[k]? = some (sigD l[k]) := by unfold sigsL; rw [List.getElem?_map, List.getElem?_eq_getElem h]; rfl
theorem labsL_len (l : List Lab) : (labsL l).length = l.length := List.length_map _
theorem labsL_get {l : List Lab} {k : Nat} (h : k < l.length) : (labsL l)[k]? = some (labD l[k]) := by unfold labsL; rw [List.getElem?_map, List.getElem?_eq_getElem h]; rfl
theorem bursL_len (l : List Bur) : (bursL l).length = l.length := List.length_map _
theorem bursL_get {l : List Bur} {k : Nat} (h : k < l.length) : (bursL l)[k]? = some (burD l[k]) := by unfold bursL; rw [List.getElem?_map, List.getElem?_eq_getElem h]; rfl
theorem bursLL_get {l : List Bur} {k : Nat} (h : k < l.length) : (bursLL l)[k]? = some (burLD l[k]) := by unfold bursLL; rw [List.getElem?_map, List.getElem?_eq_getElem h]; rfl
theorem bstr_iff {a b : List UInt8} : bstr a = bstr b ↔ a = b := ⟨bstr_inj, fun h => by rw [h]⟩
theorem szI_neg {n m : Nat} {left : Int} (h : left - n < 0) (hm : n ≤ m) : szI m left = -1 := by rw [szI, if_pos (by omega)]
theorem szI_pos {n : Nat} {left : Int} (h : 0 ≤ szI n left) : szI n left = left - n := by
 unfold szI at h ⊢
 split at h
 ·omega
 rename_i h1; rw [if_neg h1]
theorem szI_le {n : Nat} {left : Int} (h : 0 ≤ szI n left) : szI n left + n ≤ left := by rw [szI_pos h]; omega
theorem szI_c {n m : Nat} {left : Int} (h : 0 ≤ szI n left) : szI m (szI n left) = szI (n + m) left := by
 rw [szI_pos h];unfold szI
 by_cases h1 : left - n - m < 0
 ·rw [if_pos h1, if_pos (by omega)]
 rw [if_neg h1, if_neg (by omega)]; omega
theorem szI_c0 {n m : Nat} {left : Int} (h : szI n left < 0) : szI (n + m) left = -1 := by
 refine szI_neg (n := n) ?_ (by omega);unfold szI at h
 split at h
 ·assumption
 assumption
def szSg (s : Sig) : Nat := s.name.length
def szSgs (l : List Sig) : Nat := l.length + sumL szSg l
def szBr (b : Bur) : Nat := b.inn.length + b.out.length
def szBrs (l : List Bur) : Nat := l.length + sumL szBr l
def szMc (m : Mach) : Nat := szSgs m.sigs + szBrs m.burs + m.first.length
set_option maxHeartbeats 1000000 in
theorem szSig_spec (s : Sig) (left : Int) (h : 0 ≤ left ∧ left ≤ 1048576) (hl : s.name.length ≤ 9223372036854775807) : ASpec Tryz.prog 37 [sigA s, aI left] [] (Pure1 (aI (szI (szSg s) left))) := by
 have hsz := bstr_size s.name;unfold szSg;refine ASpec.of Tryz.func37 rfl rfl fun C hC => ?_
 refine AC.seq (AC.region ?_);refine kD ?_;refine za ?_;refine AL.nil (th_n (AC.seq (AC.region ?_)));refine zm ?_;refine zf ?_;refine zr ?_;refine AL.p (by exact g_len_str rfl rfl rfl) rfl ?_;refine zA ?_;refine za ?_;refine AL.nil (th_n (AC.seq (AC.seq (AC.region ?_))));refine zm ?_;refine zc ?_;refine AL.nil (th_n ?_);refine AC.condD rfl (fun h0 => ?_) (fun h0 => ?_)
 ·refine AC.seq (AC.region ?_);refine za ?_;refine AL.nil (th_n (AC.ret (th_r (bq_r ?_))));exact ret1 rfl (by rw [szI, if_pos (by omega)])
 refine AC.skip (th_n (AC.seq (AC.region ?_)));refine zm ?_;refine za ?_;refine AL.nil (th_n (AC.ret (bq_r ?_)));exact ret1 rfl (by rw [szI, if_neg (by omega), hsz])
theorem en_szSig : Enters Tryz.prog 37 := enters_of Tryz.func37 rfl rfl
theorem szLabS_spec (l : List Lab) (left : Int) (h : 0 ≤ left ∧ left ≤ 1048576) (hl : l.length ≤ 9223372036854775807) : ASpec Tryz.prog 62 [.d (vLLabs l), aI left] [] (Pure1 (aI (szI l.length left))) := by
 refine ASpec.of Tryz.func62 rfl rfl fun C hC => ?_
 refine AC.seq (AC.region ?_);refine za ?_;refine AL.nil (th_n (AC.seq (AC.region ?_)));refine zm ?_;refine zm ?_;refine kH ?_;refine zA ?_;refine za ?_;refine AL.nil (th_n (AC.seq (AC.seq (AC.region ?_))));refine zm ?_;refine zc ?_;refine AL.nil (th_n ?_);refine AC.condD rfl (fun h0 => ?_) (fun h0 => ?_)
 ·refine AC.seq (AC.region ?_);refine za ?_;refine AL.nil (th_n (AC.ret (th_r (bq_r ?_))));exact ret1 rfl (by rw [szI, if_pos h0])
 refine AC.skip (th_n (AC.seq (AC.region ?_)));refine zm ?_;refine za ?_;refine AL.nil (th_n (AC.ret (bq_r ?_)));exact ret1 rfl (by rw [szI, if_neg h0])
theorem en_szLabS : Enters Tryz.prog 62 := enters_of Tryz.func62 rfl rfl
set_option maxHeartbeats 1000000 in
theorem szBur_spec (b : Bur) (left : Int) (h : 0 ≤ left ∧ left ≤ 1048576) (h1 : b.inn.length ≤ 9223372036854775807) (h2 : b.out.length ≤ 9223372036854775807) : ASpec Tryz.prog 38 [burLA b, aI left] [] (Pure1 (aI (szI (szBr b) left))) := by
 have hin := szI_in (n := b.inn.length) h;have hK1 := szLabS_spec b.inn left h h1;have hc := szI_c (n := b.inn.length) (m := b.out.length) (left := left);have hc0 := szI_c0 (n := b.inn.length) (m := b.out.length) (left := left);obtain ⟨a, ha⟩ := eqx (szI b.inn.length left);unfold szBr;rw [← ha] at hin hK1 hc hc0;refine ASpec.of Tryz.func38 rfl rfl fun C hC => ?_
 refine AC.seq (AC.region ?_);refine kD ?_;refine za ?_;refine AL.nil (th_n (AC.seq (AC.region ?_)));refine zf ?_;refine zr ?_;refine zm ?_;refine kV en_szLabS hK1 ?_;refine za ?_;refine AL.nil (th_n (AC.seq (AC.seq (AC.region ?_))));refine zm ?_;refine zc ?_;refine AL.nil (th_n ?_);refine AC.condD rfl (fun h0 => ?_) (fun h0 => ?_)
 ·refine AC.seq (AC.region ?_);refine za ?_;refine AL.nil (th_n (AC.ret (th_r (bq_r ?_))));exact ret1 rfl (by rw [hc0 h0])
 refine AC.skip (th_n (AC.seq ?_));have hK2 := szLabS_spec b.out a ⟨by omega, by omega⟩ h2;have hin2 := szI_in (n := b.out.length) (left := a) ⟨by omega, by omega⟩;rw [hc (by omega)] at hK2 hin2;refine AC.region ?_;refine zf ?_;refine zr ?_;refine zm ?_;refine kV en_szLabS hK2 ?_;refine za ?_;refine AL.nil (th_n (AC.seq (AC.seq (AC.region ?_))));refine zm ?_;refine zc ?_;refine AL.nil (th_n ?_);refine AC.condD rfl (fun h1 => ?_) (fun h1 => ?_)
 ·refine AC.seq (AC.region ?_);refine za ?_;refine AL.nil (th_n (AC.ret (th_r (bq_r ?_))));exact ret1 rfl (by rw [show szI (b.inn.length + b.out.length) left = -1 by omega])
 refine AC.skip (th_n (AC.seq (AC.region ?_)));refine zm ?_;refine za ?_;refine AL.nil (th_n (AC.ret (bq_r ?_)));exact ret1 rfl rfl
theorem en_szBur : Enters Tryz.prog 38 := enters_of Tryz.func38 rfl rfl
set_option maxHeartbeats 1000000 in
theorem szSigS_spec (l : List Sig) (left : Int) (h : 0 ≤ left ∧ left ≤ 1048576) (hl : l.length ≤ 9223372036854775807) (hb : ∀ t, t ∈ l → t.name.length ≤ 9223372036854775807) : ASpec Tryz.prog 13 [.d (vLSigs l), aI left] [] (Pure1 (aI (szI (szSgs l) left))) := by
 have htot : szSgs l = l.length + sumL szSg l := rfl;refine ASpec.of Tryz.func13 rfl rfl fun C hC => ?_
 refine AC.seq (AC.region ?_);refine za ?_;refine AL.nil (th_n (AC.seq (AC.region ?_)));refine zm ?_;refine zm ?_;refine kH ?_;refine zA ?_;refine za ?_;refine AL.nil (th_n (AC.seq (AC.seq (AC.region ?_))));refine zm ?_;refine zc ?_;refine AL.nil (th_n ?_);refine AC.condD rfl (fun h0 => ?_) (fun h0 => ?_)
 ·refine AC.seq (AC.region ?_);refine za ?_;refine AL.nil (th_n (AC.ret (th_r (bq_r ?_))));exact ret1 rfl (by rw [szI_neg (n := l.length) h0 (by omega)])
 refine AC.skip (th_n (AC.seq (AC.seq (AC.region ?_))));refine za ?_;refine AL.nil (th_n (AC.block ?_));refine AC.loop (ι := Nat) (fun k => ⟨27, 0, [(0, .d (vLSigs l)), (1, aI (left - (l.length + sumL szSg (l.take k) : Nat))), (5, aI k)], []⟩) (fun k => k ≤ l.length ∧ 0 ≤ left - (l.length + sumL szSg (l.take k) : Nat)) (fun k => l.length - k) (0) ?_ (⟨Nat.zero_le _, by have : sumL szSg (l.take 0) = 0 := rfl; omega⟩) ?_
 ·have hs0 : sumL szSg (l.take 0) = 0 := rfl;exact Weak.ren _ [] hC rfl (by repeat (first | exact True.intro | refine And.intro ?_ ?_ | exact DLead.same)) (by repeat (exact True.intro)) rfl rfl rfl
 rintro k ⟨hk, hlf⟩;refine AC.seq (AC.seq (AC.region ?_));refine zm ?_;refine zm ?_;refine kH ?_;refine zc ?_;refine AL.nil (th_n ?_);refine AC.condD rfl (fun h1 => ?_) (fun h1 => ?_)
 ·refine AC.skip (th_n (AC.seq (AC.block (AC.seq ?_))));have hk1 : k < l.length := by omega
  have hget := sigsL_get hk1;have hbk := hb _ (List.getElem_mem hk1);have hsum := sumL_take (wt := szSg) hk1;have hle := sumL_le szSg l (k + 1);have hK := szSig_spec l[k] (left - (l.length + sumL szSg (l.take k) : Nat)) ⟨hlf, by omega⟩ hbk;have hin := szI_in (n := szSg l[k]) (left := left - (l.length + sumL szSg (l.take k) : Nat)) ⟨hlf, by omega⟩;have hpos := szI_pos (n := szSg l[k]) (left := left - (l.length + sumL szSg (l.take k) : Nat));obtain ⟨a, ha⟩ := eqx (szI (szSg l[k]) (left - (l.length + sumL szSg (l.take k) : Nat)));have hna : a < 0 → left - (l.length + sumL szSg (l.take (k + 1)) : Nat) < 0 := fun hx => by rw [ha] at hx; unfold szI at hx; split at hx <;> omega
  rw [← ha] at hK hin hpos;refine AC.region ?_;refine zm ?_;refine zm ?_;refine AL.p (by exact g_ia_view rfl rfl rfl rfl rfl (by rfl) (by assumption)) rfl ?_;refine kG ?_;refine zm ?_;refine kV en_szSig hK ?_;refine za ?_;refine AL.nil (th_n (AC.seq (AC.region ?_)));refine zm ?_;refine zc ?_;refine AL.nil (th_n ?_);refine AC.condD rfl (fun h2 => ?_) (fun h2 => ?_)
  ·refine AC.seq (AC.region ?_);refine za ?_;refine AL.nil (th_n (AC.ret (ib_r (th_r (th_r (ib_r (th_r (bq_r ?_))))))));exact ret1 rfl (by rw [szI_neg (n := l.length + sumL szSg (l.take (k + 1))) (hna h2) (by omega)])
  refine AC.skip (ib_n (th_n (AC.region ?_)));refine zm ?_;refine zA ?_;refine za ?_;refine AL.nil (th_n ?_);exact ⟨k + 1, ⟨by omega, by have := hpos (by omega); omega⟩, by omega, Weak.ren _ [] hC rfl (by rw [show left - (l.length + sumL szSg (l.take (k + 1)) : Nat) = a by have := hpos (by omega); omega]; repeat (first | exact True.intro | refine And.intro ?_ ?_ | exact DLead.same)) (by repeat (exact True.intro)) rfl rfl rfl⟩
 refine AC.exit (th_e (th_e (ib_y (th_n (AC.seq (AC.region ?_))))));refine zm ?_;refine za ?_;refine AL.nil (th_n (AC.ret (bq_r ?_)));have hkk : k = l.length := by omega
 rw [hkk, List.take_length];rw [hkk, List.take_length] at hlf;exact ret1 rfl (by rw [htot, szI, if_neg (by omega)])
theorem en_szSigS : Enters Tryz.prog 13 := enters_of Tryz.func13 rfl rfl
set_option maxHeartbeats 1000000 in
theorem szBurS_spec (l : List Bur) (left : Int) (h : 0 ≤ left ∧ left ≤ 1048576) (hl : l.length ≤ 9223372036854775807) (hb : ∀ t, t ∈ l → t.inn.length ≤ 9223372036854775807 ∧ t.out.length ≤ 9223372036854775807) : ASpec Tryz.prog 14 [.d (vLBurs l), aI left] [] (Pure1 (aI (szI (szBrs l) left))) := by
 have htot : szBrs l = l.length + sumL szBr l := rfl;refine ASpec.of Tryz.func14 rfl rfl fun C hC => ?_
 refine AC.seq (AC.region ?_);refine za ?_;refine AL.nil (th_n (AC.seq (AC.region ?_)));refine zm ?_;refine zm ?_;refine kH ?_;refine zA ?_;refine za ?_;refine AL.nil (th_n (AC.seq (AC.seq (AC.region ?_))));refine zm ?_;refine zc ?_;refine AL.nil (th_n ?_);refine AC.condD rfl (fun h0 => ?_) (fun h0 => ?_)
 ·refine AC.seq (AC.region ?_);refine za ?_;refine AL.nil (th_n (AC.ret (th_r (bq_r ?_))));exact ret1 rfl (by rw [szI_neg (n := l.length) h0 (by omega)])
 refine AC.skip (th_n (AC.seq (AC.seq (AC.region ?_))));refine za ?_;refine AL.nil (th_n (AC.block ?_));refine AC.loop (ι := Nat) (fun k => ⟨27, 0, [(0, .d (vLBurs l)), (1, aI (left - (l.length + sumL szBr (l.take k) : Nat))), (5, aI k)], []⟩) (fun k => k ≤ l.length ∧ 0 ≤ left - (l.length + sumL szBr (l.take k) : Nat)) (fun k => l.length - k) (0) ?_ (⟨Nat.zero_le _, by have : sumL szBr (l.take 0) = 0 := rfl; omega⟩) ?_
 ·have hs0 : sumL szBr (l.take 0) = 0 := rfl;exact Weak.ren _ [] hC rfl (by repeat (first | exact True.intro | refine And.intro ?_ ?_ | exact DLead.same)) (by repeat (exact True.intro)) rfl rfl rfl
 rintro k ⟨hk, hlf⟩;refine AC.seq (AC.seq (AC.region ?_));refine zm ?_;refine zm ?_;refine kH ?_;refine zc ?_;refine AL.nil (th_n ?_);refine AC.condD rfl (fun h1 => ?_) (fun h1 => ?_)
 ·refine AC.skip (th_n (AC.seq (AC.block (AC.seq ?_))));have hk1 : k < l.length := by omega
  have hget := bursLL_get hk1;have hbk := hb _ (List.getElem_mem hk1);have hsum := sumL_take (wt := szBr) hk1;have hle := sumL_le szBr l (k + 1);have hK := szBur_spec l[k] (left - (l.length + sumL szBr (l.take k) : Nat)) ⟨hlf, by omega⟩ hbk.1 hbk.2;have hin := szI_in (n := szBr l[k]) (left := left - (l.length + sumL szBr (l.take k) : Nat)) ⟨hlf, by omega⟩;have hpos := szI_pos (n := szBr l[k]) (left := left - (l.length + sumL szBr (l.take k) : Nat));obtain ⟨a, ha⟩ := eqx (szI (szBr l[k]) (left - (l.length + sumL szBr (l.take k) : Nat)));have hna : a < 0 → left - (l.length + sumL szBr (l.take (k + 1)) : Nat) < 0 := fun hx => by rw [ha] at hx; unfold szI at hx; split at hx <;> omega
  rw [← ha] at hK hin hpos;refine AC.region ?_;refine zm ?_;refine zm ?_;refine AL.p (by exact g_ia_view rfl rfl rfl rfl rfl (by rfl) (by assumption)) rfl ?_;refine kG ?_;refine zm ?_;refine kV en_szBur hK ?_;refine za ?_;refine AL.nil (th_n (AC.seq (AC.region ?_)));refine zm ?_;refine zc ?_;refine AL.nil (th_n ?_);refine AC.condD rfl (fun h2 => ?_) (fun h2 => ?_)
  ·refine AC.seq (AC.region ?_);refine za ?_;refine AL.nil (th_n (AC.ret (ib_r (th_r (th_r (ib_r (th_r (bq_r ?_))))))));exact ret1 rfl (by rw [szI_neg (n := l.length + sumL szBr (l.take (k + 1))) (hna h2) (by omega)])
  refine AC.skip (ib_n (th_n (AC.region ?_)));refine zm ?_;refine zA ?_;refine za ?_;refine AL.nil (th_n ?_);exact ⟨k + 1, ⟨by omega, by have := hpos (by omega); omega⟩, by omega, Weak.ren _ [] hC rfl (by rw [show left - (l.length + sumL szBr (l.take (k + 1)) : Nat) = a by have := hpos (by omega); omega]; repeat (first | exact True.intro | refine And.intro ?_ ?_ | exact DLead.same)) (by repeat (exact True.intro)) rfl rfl rfl⟩
 refine AC.exit (th_e (th_e (ib_y (th_n (AC.seq (AC.region ?_))))));refine zm ?_;refine za ?_;refine AL.nil (th_n (AC.ret (bq_r ?_)));have hkk : k = l.length := by omega
 rw [hkk, List.take_length];rw [hkk, List.take_length] at hlf;exact ret1 rfl (by rw [htot, szI, if_neg (by omega)])
theorem en_szBurS : Enters Tryz.prog 14 := enters_of Tryz.func14 rfl rfl
structure ArgM (m : Mach) : Prop where
 s : m.sigs.length ≤ 9223372036854775807
 sn : ∀ t, t ∈ m.sigs → t.name.length ≤ 9223372036854775807
 st : okI m.states
 b : m.burs.length ≤ 9223372036854775807
 bl : ∀ t, t ∈ m.burs → t.inn.length ≤ 9223372036854775807 ∧ t.out.length ≤ 9223372036854775807
 f : m.first.length ≤ 9223372036854775807
set_option maxHeartbeats 1000000 in
theorem szMach_spec (m : Mach) (left : Int) (h : 0 ≤ left ∧ left ≤ 1048576) (hm : ArgM m) : ASpec Tryz.prog 4 [machLA m, aI left] [] (Pure1 (aI (szI (szMc m) left))) := by
 have hsz := bstr_size m.first;have hfl := hm.f;have hin := szI_in (n := szSgs m.sigs) h;have hK1 := szSigS_spec m.sigs left h hm.s hm.sn;have hc := szI_c (n := szSgs m.sigs) (m := szBrs m.burs) (left := left);have hc0 := szI_c0 (n := szSgs m.sigs) (m := szBrs m.burs + m.first.length) (left := left);have hd := szI_pos (n := szSgs m.sigs + szBrs m.burs) (left := left);have hd0 := szI_c0 (n := szSgs m.sigs + szBrs m.burs) (m := m.first.length) (left := left);have htot : szMc m = szSgs m.sigs + szBrs m.burs + m.first.length := rfl;obtain ⟨a, ha⟩ := eqx (szI (szSgs m.sigs) left);rw [← ha] at hin hK1 hc hc0;refine ASpec.of Tryz.func4 rfl rfl fun C hC => ?_
 refine AC.seq (AC.region ?_);refine kD ?_;refine za ?_;refine AL.nil (th_n (AC.seq (AC.region ?_)));refine zf ?_;refine zr ?_;refine zm ?_;refine kV en_szSigS hK1 ?_;refine za ?_;refine AL.nil (th_n (AC.seq (AC.seq (AC.region ?_))));refine zm ?_;refine zc ?_;refine AL.nil (th_n ?_);refine AC.condD rfl (fun h0 => ?_) (fun h0 => ?_)
 ·refine AC.seq (AC.region ?_);refine za ?_;refine AL.nil (th_n (AC.ret (th_r (bq_r ?_))));exact ret1 rfl (by rw [htot, Nat.add_assoc, hc0 h0])
 refine AC.skip (th_n (AC.seq ?_));have hK2 := szBurS_spec m.burs a ⟨by omega, by omega⟩ hm.b hm.bl;have hin2 := szI_in (n := szBrs m.burs) (left := a) ⟨by omega, by omega⟩;rw [hc (by omega)] at hK2 hin2;obtain ⟨b, hb⟩ := eqx (szI (szSgs m.sigs + szBrs m.burs) left);rw [← hb] at hK2 hin2 hd hd0;refine AC.region ?_;refine zf ?_;refine zr ?_;refine zm ?_;refine kV en_szBurS hK2 ?_;refine za ?_;refine AL.nil (th_n (AC.seq (AC.seq (AC.region ?_))));refine zm ?_;refine zc ?_;refine AL.nil (th_n ?_);refine AC.condD rfl (fun h1 => ?_) (fun h1 => ?_)
 ·refine AC.seq (AC.region ?_);refine za ?_;refine AL.nil (th_n (AC.ret (th_r (bq_r ?_))));exact ret1 rfl (by rw [htot, hd0 h1])
 refine AC.skip (th_n (AC.seq (AC.region ?_)));refine zm ?_;refine zf ?_;refine zr ?_;refine AL.p (by exact g_len_str rfl rfl rfl) rfl ?_;refine zA ?_;refine za ?_;refine AL.nil (th_n (AC.seq (AC.seq (AC.region ?_))));refine zm ?_;refine zc ?_;refine AL.nil (th_n ?_);refine AC.condD rfl (fun h2 => ?_) (fun h2 => ?_)
 ·refine AC.seq (AC.region ?_);refine za ?_;refine AL.nil (th_n (AC.ret (th_r (bq_r ?_))));have := hd (by omega);exact ret1 rfl (by rw [htot, szI, if_pos (by omega)])
 refine AC.skip (th_n (AC.seq (AC.region ?_)));refine zm ?_;refine za ?_;refine AL.nil (th_n (AC.ret (bq_r ?_)));have := hd (by omega);exact ret1 rfl (by rw [htot, szI, if_neg (by omega), show left - ((szSgs m.sigs + szBrs m.burs + m.first.length : Nat) : Int) = b - (bstr m.first).size by omega])
theorem en_szMach : Enters Tryz.prog 4 := enters_of Tryz.func4 rfl rfl
section
variable {H : Type} {enc : TypeId × Value → H}
theorem rt_bool : RT enc Tryz.prog 4 1 (fun b : Bool => [dT b]) (fun _ => True) := RT.bool Tryz.underlying4
theorem rt_sig : RT enc Tryz.prog 77 2 (fun s : Sig => sigD s) (fun s => s.name.length ≤ 9223372036854775807) :=
 RT.struct2 (k1 := 1) (k2 := 1) (fun a b => (⟨a, b⟩ : Sig)) Tryz.underlying77 rfl rfl (by kernel_rfl) (by kernel_rfl) (by kernel_rfl) rt_str rt_int (fun _ _ => rfl) (fun _ _ h1 _ => h1)
theorem rt_sigs : RT enc Tryz.prog 22 1 (fun l : List Sig => [vLSigs l]) (fun l => l.length ≤ 9223372036854775807 ∧ ∀ t, t ∈ l → t.name.length ≤ 9223372036854775807) :=
 RT.slice 77 Tryz.underlying22 (by kernel_rfl) (by decide) rt_sig
theorem rt_lab : RT enc Tryz.prog 141 2 (fun s : Lab => labD s) (fun _ => True) :=
 RT.struct2 (k1 := 1) (k2 := 1) (fun a b => (⟨a, b⟩ : Lab)) Tryz.underlying141 rfl rfl (by kernel_rfl) (by kernel_rfl) (by kernel_rfl) rt_int rt_bool (fun _ _ => rfl) (fun _ _ _ _ => trivial)
theorem rt_labs : RT enc Tryz.prog 79 1 (fun l : List Lab => [vLLabs l]) (fun l => l.length ≤ 9223372036854775807) :=
 (RT.slice 141 Tryz.underlying79 (by kernel_rfl) (by decide) rt_lab).imp id (fun _ _ => rfl) (fun _ h => h.1)
theorem rt_bur : RT enc Tryz.prog 81 4 (fun b : Bur => burLD b) (fun b => b.inn.length ≤ 9223372036854775807 ∧ b.out.length ≤ 9223372036854775807) :=
 RT.struct4 (fun a b c d => (⟨a, b, c, d⟩ : Bur)) Tryz.underlying81 rfl rfl rfl rfl (by kernel_rfl) (by kernel_rfl) (by kernel_rfl) (by kernel_rfl) (by kernel_rfl) rt_int rt_labs rt_labs rt_int (fun _ _ _ _ => rfl) (fun _ _ _ _ _ h1 h2 _ => ⟨h1, h2⟩)
theorem rt_burs : RT enc Tryz.prog 23 1 (fun l : List Bur => [vLBurs l]) (fun l => l.length ≤ 9223372036854775807 ∧ ∀ t, t ∈ l → t.inn.length ≤ 9223372036854775807 ∧ t.out.length ≤ 9223372036854775807) :=
 RT.slice 81 Tryz.underlying23 (by kernel_rfl) (by decide) rt_bur
theorem rt_mach : RT enc Tryz.prog 25 4 (fun m : Mach => machLD m) ArgM :=
 RT.struct4 (fun a b c d => (⟨a, b, c, d⟩ : Mach)) Tryz.underlying25 rfl rfl rfl rfl (by kernel_rfl) (by kernel_rfl) (by kernel_rfl) (by kernel_rfl) (by kernel_rfl) rt_sigs rt_int rt_burs rt_str (fun _ _ _ _ => rfl) (fun _ _ _ _ h1 h2 h3 h4 => ⟨h1.1, h1.2, h2, h3.1, h3.2, h4⟩)
theorem arg_mach {m : Nat → Option (Option Nat × Nat)} {base : Nat} {W : World} {v : Value} {d : DataW H} {ps : List MemPlace} (hv : Value.okWide Tryz.prog W .any base 25 v) (h : DataW.Trod enc Tryz.prog W 0 (fun _ => true) true 25 v d ps) : ∃ u : Mach, ArgM u ∧ ARep m (fun k => k < W.heap.size) W (machLA u) v := by
 obtain ⟨cs, rfl, _⟩ := okWide_struct Tryz.underlying25 hv;exact rt_mach.argS h
end
end Go.Proofs.YteakkoiflbaleaaGreat
