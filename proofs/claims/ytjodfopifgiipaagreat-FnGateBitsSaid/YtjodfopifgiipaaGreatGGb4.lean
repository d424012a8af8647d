/- Contracts of the functions of the program and of the reference, each proved by a walk through its code. -/
import Derived.Sort.Grow
import Derived.Laws.RangeString
import Derived.Below
import Derived.Laws.Small
import Derived.Test.YtjodfopifgiipaaGreatGGb3
set_option linter.all false
set_option maxRecDepth 20000
namespace Go.Proofs.YtjodfopifgiipaaGreat
open Go.RowKit
structure Stg where
 net : Net
 sigs : List Sig
 labs : List Lab
 start : List UInt8
abbrev stgD (s : Stg) : List DV := [dI s.net.places, vTs s.net.ts, vSigs s.sigs, vLabs s.labs, dS (bstr s.start)]
abbrev stgA (s : Stg) : AV := .agg [aI s.net.places, .d (vTs s.net.ts), .d (vSigs s.sigs), .d (vLabs s.labs), aS (bstr s.start)]
def labOk (x : Lab) (n : Int) : Bool := (decide (0 ≤ x.sig) && decide (x.sig ≤ n - 1)) || (decide (x.sig = -1) && !x.up)
def goodS (s : Stg) : Bool := (goodN s.net && bitsB s.start s.net.places) && (sigsB s.sigs && (decide ((s.labs.length : Int) = s.net.ts.length) && s.labs.all (fun x => labOk x s.sigs.length)))
structure StgL (s : Stg) : Prop where
 n : NetL s.net
 sg : s.sigs.length ≤ 1048576
 sn : ∀ t, t ∈ s.sigs → t.name.length ≤ 1048576
 l : s.labs.length ≤ 1048576
 st : s.start.length ≤ 2000000
theorem l2Label_spec (x : Lab) (n : Nat) (hn : n ≤ 1048576) : ASpec Tryz.prog 102 [labA x, aI n] [] (Pure1 (aT (labOk x n))) := by
 have hX := l1In_spec x.sig 0 ((n : Int) - 1);have hk : labOk x n = ((decide (0 ≤ x.sig) && decide (x.sig ≤ (n : Int) - 1)) || (decide (x.sig = -1) && !x.up)) := rfl;obtain ⟨b, hb⟩ := eqx ((decide (0 ≤ x.sig) && decide (x.sig ≤ (n : Int) - 1)));rw [← hb] at hX hk;clear hb;refine ASpec.of Tryz.func102 rfl rfl fun C hC => ?_
 refine AC.seq (AC.region ?_);refine kD ?_;refine za ?_;refine AL.nil (th_n (AC.seq (AC.region ?_)));refine zf ?_;refine zr ?_;refine zm ?_;refine zA ?_;refine kV en_l1In hX ?_;refine zm ?_;refine AL.caseGB rfl rfl (fun h0 => ?_) (fun h0 => ?_)
 ·refine zn ?_;refine zn ?_;refine zn ?_;refine zn ?_;refine AL.notU rfl rfl rfl ?_;refine AL.notU rfl rfl rfl ?_;refine AL.notU rfl rfl rfl ?_;refine zn ?_;refine zQ ?_;refine za ?_;refine AL.nil (th_n (AC.ret (bq_r ?_)));exact ret1 rfl (by rw [hk]; simp_all)
 refine zy ?_;refine zf ?_;refine zy ?_;refine zr ?_;refine zy ?_;refine zc ?_;refine zy ?_;refine zm ?_;refine AL.caseG rfl rfl (fun h1 => ?_) (fun h1 => ?_)
 ·refine zy ?_;refine zf ?_;refine zy ?_;refine zr ?_;refine zy ?_;refine kC ?_;refine zy ?_;refine zQ ?_;refine zP ?_;refine za ?_;refine AL.nil (th_n (AC.ret (bq_r ?_)));exact ret1 rfl (by rw [hk]; simp_all)
 refine zn ?_;refine zn ?_;refine zn ?_;refine zy ?_;refine zP ?_;refine zP ?_;refine za ?_;refine AL.nil (th_n (AC.ret (bq_r ?_)));exact ret1 rfl (by rw [hk]; simp_all)
theorem en_l2Label : Enters Tryz.prog 102 := enters_of Tryz.func102 rfl rfl
set_option maxHeartbeats 2000000 in
theorem l2Good_spec (s : Stg) (h : StgL s) : ASpec Tryz.prog 96 [stgA s] [] (Pure1 (aT (goodS s))) := by
 have hM := l1Mark_spec s.net s.start h.st;have hN := l1Good_gen s.net h.n;have hS := l2Signals_spec s.sigs h.sg h.sn;have hll := h.l;have htl := h.n.l;have hg : goodS s = ((goodN s.net && bitsB s.start s.net.places) && (sigsB s.sigs && (decide ((s.labs.length : Int) = s.net.ts.length) && s.labs.all (fun x => labOk x s.sigs.length)))) := rfl;obtain ⟨b1, hb1⟩ := eqx (goodN s.net);obtain ⟨b2, hb2⟩ := eqx (sigsB s.sigs);obtain ⟨b3, hb3⟩ := eqx (bitsB s.start s.net.places);rw [← hb1] at hN hg;rw [← hb2] at hS hg;rw [← hb3] at hM hg;clear hb1 hb2 hb3;refine ASpec.of Tryz.func96 rfl rfl fun C hC => ?_
 refine AC.seq (AC.region ?_);refine kD ?_;refine za ?_;refine AL.nil (th_n (AC.seq (AC.seq (AC.region ?_))));refine zf ?_;refine zr ?_;refine kH ?_;refine zm ?_;refine AL.nil (th_n (AC.block ?_));refine AC.loop (ι := Nat) (fun k => ⟨44, 0, [(1, .d (.ref (stgD s))), (6, .d (vLabs s.labs)), (7, aI s.labs.length), (8, aI k)], []⟩) (fun k => k ≤ s.labs.length ∧ ∀ j (hj : j < s.labs.length), j < k → labOk s.labs[j] s.sigs.length = true) (fun k => s.labs.length - k) (0) ?_ (⟨Nat.zero_le _, fun j _ hj => by omega⟩) ?_
 ·refine Weak.ren _ [] hC rfl ?_ ?_ rfl rfl rfl <;> repeat (first | exact True.intro | refine And.intro ?_ ?_ | exact DLead.same)
 intro k ⟨hk, hall⟩;refine AC.seq (AC.region ?_);refine zc ?_;refine AL.nil (th_n (AC.seq ?_));refine AC.condD rfl (fun h0 => ?_) (fun h0 => ?_)
 ·refine AC.skip (th_n (AC.seq (AC.block (AC.seq ?_))));have hk1 : k < s.labs.length := by omega
  have hget := labsL_get hk1;have hL := l2Label_spec s.labs[k] s.sigs.length h.sg;obtain ⟨c, hc⟩ := eqx (labOk s.labs[k] s.sigs.length);rw [← hc] at hL;refine AC.region ?_;refine AL.p (by exact g_ia_view rfl rfl rfl rfl rfl (by rfl) (by assumption)) rfl ?_;refine kG ?_;refine kE ?_;refine zs ?_;refine AL.nil (th_n (AC.seq ?_));refine AC.weak (Weak.freezeRef (ds := labD s.labs[k]) 4 rfl rfl) ?_;refine AC.region ?_;refine kG ?_;refine zf ?_;refine zr ?_;refine kH ?_;refine kV en_l2Label hL ?_;refine kC ?_;refine AL.nil (th_n ?_);refine AC.condB rfl (fun h1 => ?_) (fun h1 => ?_)
  ·refine AC.seq (AC.region ?_);refine za ?_;refine AL.nil (th_n (AC.ret (ib_r (th_r (th_r (ib_r (th_r (bq_r ?_))))))));have hbad : s.labs.all (fun x => labOk x s.sigs.length) = false := List.all_eq_false.2 ⟨_, List.getElem_mem hk1, by rw [← hc]; simpa using h1⟩;exact ret1 rfl (by rw [hg, hbad]; simp)
  refine AC.skip (ib_n (th_n (AC.region ?_)));refine zA ?_;refine zm ?_;refine AL.nil (th_n ?_);exact ⟨k + 1, ⟨by omega, fun j hj hj2 => by rcases Nat.lt_succ_iff_lt_or_eq.1 hj2 with h | rfl; exact hall j hj h; exact hc.symm.trans (by simpa using h1)⟩, by omega, Weak.ren _ [] hC rfl (by repeat (first | exact True.intro | refine And.intro ?_ ?_ | exact DLead.same)) (by repeat (exact True.intro)) rfl rfl rfl⟩
 refine AC.exit (th_e (th_e (ib_y (th_n (AC.seq ?_)))));have hA : s.labs.all (fun x => labOk x s.sigs.length) = true := List.all_eq_true.2 (fun x hx => by obtain ⟨j, hj, rfl⟩ := List.getElem_of_mem hx; exact hall j hj (by omega));rw [hA, Bool.and_true] at hg;refine AC.region ?_;refine zf ?_;refine kG ?_;refine kV en_l1Good hN ?_;refine zm ?_;refine AL.caseGB rfl rfl (fun h1 => ?_) (fun h1 => ?_)
 ·refine zy ?_;refine zf ?_;refine zy ?_;refine zr ?_;refine zy ?_;refine kV en_l2Signals hS ?_;refine zQ ?_;refine zm ?_;refine AL.caseGB rfl rfl (fun h2 => ?_) (fun h2 => ?_)
  ·refine zy ?_;refine zf ?_;refine zy ?_;refine zr ?_;refine zy ?_;refine kH ?_;refine zy ?_;refine zf ?_;refine zy ?_;refine zf ?_;refine zy ?_;refine zr ?_;refine zy ?_;refine kH ?_;refine zy ?_;refine zc ?_;refine zQ ?_;refine zm ?_;refine AL.caseG rfl rfl (fun h3 => ?_) (fun h3 => ?_)
   ·refine zy ?_;refine zf ?_;refine zy ?_;refine kG ?_;refine zy ?_;refine zf ?_;refine zy ?_;refine zr ?_;refine zy ?_;refine kV en_l1Mark hM ?_;refine zQ ?_;refine za ?_;refine AL.nil (th_n (AC.ret (bq_r ?_)));exact ret1 rfl (by clear hM hN hS hall; rw [hg]; simp_all)
   refine zn ?_;refine zn ?_;refine zn ?_;refine zn ?_;refine zn ?_;refine zP ?_;refine za ?_;refine AL.nil (th_n (AC.ret (bq_r ?_)));exact ret1 rfl (by clear hM hN hS hall; rw [hg]; simp_all)
  refine zn ?_;refine zn ?_;refine zn ?_;refine zn ?_;refine zn ?_;refine zn ?_;refine zn ?_;refine zn ?_;refine zP ?_;refine zm ?_;refine zn ?_;refine zn ?_;refine zn ?_;refine zn ?_;refine zn ?_;refine zP ?_;refine za ?_;refine AL.nil (th_n (AC.ret (bq_r ?_)));exact ret1 rfl (by clear hM hN hS hall; rw [hg]; simp_all)
 refine zn ?_;refine zn ?_;refine zn ?_;refine zP ?_;refine zm ?_;refine zn ?_;refine zn ?_;refine zn ?_;refine zn ?_;refine zn ?_;refine zn ?_;refine zn ?_;refine zn ?_;refine zP ?_;refine zm ?_;refine zn ?_;refine zn ?_;refine zn ?_;refine zn ?_;refine zn ?_;refine zP ?_;refine za ?_;refine AL.nil (th_n (AC.ret (bq_r ?_)));exact ret1 rfl (by clear hM hN hS hall; rw [hg]; simp_all)
theorem en_l2Good : Enters Tryz.prog 96 := enters_of Tryz.func96 rfl rfl
section
variable {P : Program} [PT P] {s : ASt} {dst : Option Nat} {ty : Nat} {pos : String} {af : Array Edge} {gd : Option (Nat × Bool)} {x : Operand} {f t : Nat}
end
theorem ASpec.ofLib2 {P : Program} {g : FuncId} {x y : ByteArray} {b : Bool} (h : ∀ w, Calls P g #[.string x, .string y] w fun e w' => e = .returned (.bool b) ∧ w' = w) : ASpec P g [aS x, aS y] [] (Pure1 (aT b)) := by
 intro w m Fin vs hfin hn ha hch hinj hm;have h0 := ha 0 _ rfl;have h1 := ha 1 _ rfl
 have hv : vs = #[.string x, .string y] := by
  apply Array.ext
  ·rw [hn]; rfl
  intro i hi1 hi2
  match i with
  | 0 => have := h0.val_eq.1; rw [Array.getD_eq_getD_getElem?, Array.getElem?_eq_getElem hi1] at this; simpa using this
  | 1 => have := h1.val_eq.1; rw [Array.getD_eq_getD_getElem?, Array.getElem?_eq_getElem hi1] at this; simpa using this
  | i + 2 => simp at hi2; omega
 subst hv;refine (h w).mono ?_;rintro e w' ⟨rfl, rfl⟩;refine ⟨_, _, [], m, Fin, rfl, ⟨rfl, rfl⟩, fun _ _ _ h => h, fun id hid => hm id (by simp only [List.length_nil] at hid ⊢; omega), fun k => ?_, ⟨rfl, rfl, rfl, Nat.le_refl _, fun _ _ _ => rfl⟩, .d (.val trivial), fun id c hc => by simp [getL] at hc, fun id id' c c' p p' b hc => by simp [getL] at hc⟩;constructor
 ·intro hk;exact ⟨.inl hk, (hfin k hk).1, fun id c p hc => by simp [getL] at hc⟩
 rintro ⟨h | ⟨id, c, p, hc, _⟩ | h, hlt, _⟩
 ·exact h
 ·simp [getL] at hc
 omega
section
variable {P : Program} [PT P]
variable {s : ASt} {dst : Option Nat} {ty : Nat} {pos : String} {af : Array Edge} {gd : Option (Nat × Bool)} {x y : Operand} {t : Nat}
theorem g_saddB {a b : List UInt8} {xt yt : Nat} (hx : s.ev x = aS (bstr a)) (hy : s.ev y = aS (bstr b)) (hl : a.length + b.length ≤ 4611686018427387904) : GOp P [] s ⟨dst, .binOp .add xt x y yt, ty, pos, af, gd⟩ (aS (bstr (a ++ b))) := by
 rw [← bstr_append];exact g_sadd hx hy (by rw [bstr_size, bstr_size]; omega)
end
open Go.ChangeShapes Go.WideShapes Go.ChangeAt Go.RowKit
section
variable {H : Type} {enc : TypeId × Value → H} {P : Program}
structure RT (enc : TypeId × Value → H) (P : Program) (t : TypeId) (k : Nat) {α : Type} (f : α → List DV) (ok : α → Prop) : Prop where
 rd : ∀ (W : World) (fuel : Nat) (cs : List Value) (x : DataW H × List MemPlace), DataW.trod enc P W 0 (fun _ => true) true fuel t cs = some x →
  cs.length = k ∧ ∃ a, ok a ∧ (f a).length = k ∧ ∀ j d, (f a)[j]? = some d → DRep (fun k => k < W.heap.size) W d (cs.getD j undef)
theorem get1 {x d : DV} {j : Nat} (h : [x][j]? = some d) : j = 0 ∧ d = x := by
 cases j with
 | zero => simp at h; exact ⟨rfl, h.symm⟩
 | succ j => simp at h
def okI (n : Int) : Prop := -9223372036854775808 ≤ n ∧ n ≤ 9223372036854775807
theorem RT.int {t : TypeId} (ht : P.underlying t = some (.int .i64)) : RT enc P t 1 (fun n : Int => [dI n]) okI := by
 refine ⟨fun W fuel cs x h => ?_⟩;obtain ⟨n, rfl, rfl, hwf⟩ := DataW.trod_int ht h;have hb := bounds_i64 hwf;refine ⟨rfl, n, hb, rfl, fun j d hj => ?_⟩;obtain ⟨rfl, rfl⟩ := get1 hj;refine .val ?_;show IntKind.i64.wrap n = n;exact wrap_i64 hb
theorem RT.bool {t : TypeId} (ht : P.underlying t = some .bool) : RT enc P t 1 (fun b : Bool => [dT b]) (fun _ => True) := by
 refine ⟨fun W fuel cs x h => ?_⟩;obtain ⟨b, rfl, rfl⟩ := DataW.trod_bool ht h;exact ⟨rfl, b, trivial, rfl, fun j d hj => by obtain ⟨rfl, rfl⟩ := get1 hj; exact .val trivial⟩
theorem RT.str {t : TypeId} (ht : P.underlying t = some .string) : RT enc P t 1 (fun s : List UInt8 => [dS (bstr s)]) (fun s => s.length ≤ 9223372036854775807) := by
 refine ⟨fun W fuel cs x h => ?_⟩;obtain ⟨s, rfl, rfl, hm⟩ := DataW.trod_string ht h;have hsz : s.data.toList.length = s.size := by simp
 have he : bstr s.data.toList = s := by
  apply ByteArray.ext
  simp [bstr]
 refine ⟨rfl, s.data.toList, by rw [hsz]; exact hm, rfl, fun j d hj => ?_⟩;simp only [he] at hj;obtain ⟨rfl, rfl⟩ := get1 hj;exact .val hm
theorem list_of {α : Type} {n : Nat} {Q : Nat → α → Prop} (h : ∀ i, i < n → ∃ a, Q i a) : ∃ l : List α, l.length = n ∧ ∀ i a, l[i]? = some a → Q i a := by
 induction n with
 | zero => exact ⟨[], rfl, fun i a h => by simp at h⟩
 | succ n ih =>
  obtain ⟨l, hl, hq⟩ := ih fun i hi => h i (by omega)
  obtain ⟨a, ha⟩ := h n (by omega);refine ⟨l ++ [a], by simp [hl], fun i b hb => ?_⟩
  by_cases hi : i < l.length
  ·rw [List.getElem?_append_left hi] at hb; exact hq i b hb
  rw [List.getElem?_append_right (by omega)] at hb
  have h0 : i - l.length = 0 := by
   by_cases e : i - l.length = 0
   ·exact e
   rw [List.getElem?_eq_none (by simp; omega)] at hb; cases hb
  rw [h0] at hb;simp at hb; subst hb;have : i = n := by omega
  subst this; exact ha
theorem RT.slice {t e : TypeId} {k : Nat} {α : Type} {f : α → List DV} {ok : α → Prop} (te : Nat) (ht : P.underlying t = some (.slice e)) (hc : P.cellsOf e = k) (hk : 0 < k) (hr : RT enc P e k f ok) :
  RT enc P t 1 (fun l : List α => [.view te k (l.map f)]) (fun l => l.length ≤ 9223372036854775807 ∧ ∀ a, a ∈ l → ok a) := by
 refine ⟨fun W fuel cs x h => ?_⟩;rcases DataW.trod_slice ht h with ⟨rfl, _⟩ | ⟨a, len, cap, elems, rest, n, _, rfl, _, _, hl, hm, hlen, hel, hsp, _⟩
 ·exact ⟨rfl, [], ⟨Nat.zero_le _, fun a ha => absurd ha List.not_mem_nil⟩, rfl, fun j d hj => by obtain ⟨rfl, rfl⟩ := get1 hj; exact .nil⟩
 refine ⟨rfl, ?_⟩;rw [hc] at hel hsp;obtain ⟨hrl, hrs⟩ := hsp rfl
 -- every element up to the capacity is there
 have hcell : ∀ i, i < cap → ∃ cs', W.cells? 0 (a.add (i * k)) k = some cs' ∧ ∃ y, DataW.trod enc P W 0 (fun _ => true) true n e cs' = some y := by
  intro i hi
  by_cases hil : i < len
  ·have h1 := hel i hil;rw [List.getElem?_eq_getElem (by omega)] at h1;obtain ⟨cs', h2, h3⟩ := Option.bind_eq_some_iff.1 h1;exact ⟨cs', h2, _, h3⟩
  have h1 := hrs (i - len) (by omega);rw [show len + (i - len) = i by omega, List.getElem?_eq_getElem (by omega)] at h1;obtain ⟨cs', h2, h3⟩ := Option.bind_eq_some_iff.1 h1;exact ⟨cs', h2, _, h3⟩
 by_cases hc0 : cap = 0
 ·subst hc0;have : len = 0 := by omega
  subst this;exact ⟨[], ⟨Nat.zero_le _, fun a ha => absurd ha List.not_mem_nil⟩, rfl, fun j d hj => by obtain ⟨rfl, rfl⟩ := get1 hj; exact .empty⟩
 obtain ⟨b, off, sp⟩ := a
 have hrow : ∀ i, i < cap → ∀ j, j < k → ∃ v, W.cell? (((⟨b, off, sp⟩ : Addr).add (i * k)).add j) = some v := by
  intro i hi j hj;obtain ⟨cs', h1, _⟩ := hcell i hi;obtain ⟨_, h2, h3⟩ := World.cells?_some h1;rw [h3 j hj, List.getElem?_eq_getElem (by omega)];exact ⟨_, rfl⟩
 have h00 := hrow 0 (by omega) 0 hk
 have hsp0 : sp = none := by
  obtain ⟨v, hv⟩ := h00;cases sp with
  | none => rfl
  | some q =>
   unfold World.cell? Addr.add at hv
   split at hv
   ·split at hv <;> simp_all
   cases hv
 subst hsp0;have hadd : ∀ i j, ((⟨b, off, none⟩ : Addr).add (i * k)).add j = ⟨b, off + i * k + j, none⟩ := fun i j => by rw [Addr.add_mid, Addr.add_mid]
 simp only [hadd] at hrow
 obtain ⟨arr, e2, fz, hb⟩ : ∃ arr e2 fz, W.heap[b]? = some (.cells arr e2 fz) := by
  obtain ⟨v, hv⟩ := hrow 0 (by omega) 0 hk;unfold World.cell? at hv
  split at hv
  ·rename_i c e2 fz hb; exact ⟨c, e2, fz, hb⟩
  cases hv
 have hget : ∀ q, W.cell? ⟨b, q, none⟩ = arr[q]? := by intro q; simp [World.cell?, hb]
 have hsz : off + cap * k ≤ arr.size := by
  obtain ⟨v, hv⟩ := hrow (cap - 1) (by omega) (k - 1) (by omega);rw [hget] at hv;have := (Array.getElem?_eq_some_iff.1 hv).1;obtain ⟨c, rfl⟩ : ∃ c, cap = c + 1 := ⟨cap - 1, by omega⟩;rw [Nat.add_sub_cancel] at this;rw [Nat.succ_mul]; omega
 have hall : ∀ i, i < len → ∃ a, ok a ∧ (f a).length = k ∧ ∀ j d, (f a)[j]? = some d → DRep (fun k => k < W.heap.size) W d (arr.getD (off + i * k + j) undef) := by
  intro i hi;obtain ⟨cs', h1, y, h2⟩ := hcell i (by omega);obtain ⟨h3, a, h4, h5, h6⟩ := hr.rd W n cs' y h2;obtain ⟨_, h7, h8⟩ := World.cells?_some h1;refine ⟨a, h4, h5, fun j d hj => ?_⟩;have hj1 := (List.getElem?_eq_some_iff.1 hj).1;have h9 := h8 j (by omega);rw [hadd, hget] at h9
  have : arr.getD (off + i * k + j) undef = cs'.getD j undef := by
   rw [Array.getD_eq_getD_getElem?, h9, List.getD_eq_getElem?_getD]
  rw [this];exact h6 j d hj
 obtain ⟨l, hll, hq⟩ := list_of hall
 have hin : ∀ a, a ∈ l → ok a ∧ (f a).length = k := by
  intro a ha;obtain ⟨i, hi⟩ := List.getElem?_of_mem ha;exact ⟨(hq i a hi).1, (hq i a hi).2.1⟩
 refine ⟨l, ⟨by have : cap ≤ 9223372036854775807 := hm; omega, fun a ha => (hin a ha).1⟩, rfl, fun j d hj => ?_⟩;obtain ⟨rfl, rfl⟩ := get1 hj;have hle : (l.map f).length = len := by rw [List.length_map, hll]
 have hv := DRep.view (F := fun k => k < W.heap.size) (w := W) (e := te) (sz := k) (els := l.map f) (b := b) (off := off) (cap := cap) (arr := arr) (lt_of_block hb) hb (by omega) hm hsz (fun i cs hi => ?_) (fun i cs j d hi hj => ?_)
 ·rw [hle] at hv; exact hv
 ·rw [List.getElem?_map, Option.map_eq_some_iff] at hi;obtain ⟨a, ha, rfl⟩ := hi;exact (hin a (List.mem_of_getElem? ha)).2
 rw [List.getElem?_map, Option.map_eq_some_iff] at hi;obtain ⟨a, ha, rfl⟩ := hi;exact (hq i a ha).2.2 j d hj
theorem RT.imp {t : TypeId} {k : Nat} {α β : Type} {f : α → List DV} {ok : α → Prop} {f' : β → List DV} {ok' : β → Prop} (h : RT enc P t k f ok) (g : α → β) (hf : ∀ a, ok a → f' (g a) = f a) (ho : ∀ a, ok a → ok' (g a)) : RT enc P t k f' ok' :=
 ⟨fun W fuel cs x hx => by
  obtain ⟨h1, a, h2, h3, h4⟩ := h.rd W fuel cs x hx
  exact ⟨h1, g a, ho a h2, by rw [hf a h2]; exact h3, by rw [hf a h2]; exact h4⟩⟩
end
inductive AReps (m : Nat → Option (Option Nat × Nat)) (F : Nat → Prop) (W : World) : List AV → List Value → Prop
 | nil : AReps m F W [] []
 | cons {x : AV} {v : Value} {xs : List AV} {vs : List Value} : ARep m F W x v → AReps m F W xs vs → AReps m F W (x :: xs) (v :: vs)
theorem AReps.at {m : Nat → Option (Option Nat × Nat)} {F : Nat → Prop} {W : World} {xs : List AV} {vs : List Value} (h : AReps m F W xs vs) : ∀ (i : Nat) a, xs[i]? = some a → ARep m F W a (vs.toArray.getD i undef) := by
 have key : ∀ (i : Nat) a, xs[i]? = some a → ARep m F W a (vs.getD i undef) := by
  induction h with
  | nil => intro i a h; simp at h
  | cons h _ ih =>
   intro i a hi;cases i with
   | zero => simp at hi; subst hi; exact h
   | succ i => simp at hi; exact ih i a hi
 intro i a hi;have := key i a hi;have e : vs.toArray.getD i undef = vs.getD i undef := by simp [List.getD_eq_getElem?_getD, Array.getD_eq_getD_getElem?]
 rwa [e]
inductive TRep (w : World) : (Nat → Prop) → DV → Value → Prop
 | val {S : Nat → Prop} {v : Value} : (∀ k, ¬ S k) → okV v → TRep w S (.val v) v
 | nil {S : Nat → Prop} {e sz : Nat} : (∀ k, ¬ S k) → TRep w S (.view e sz []) (.slice none 0 0)
 | view {S : Nat → Prop} {e sz : Nat} {els : List (List DV)} {b cap : Nat} {vs : Array Value} {fz : Nat × Nat} (Ts : Nat → Nat → Prop) : w.heap[b]? = some (.cells vs e fz) → (∀ (i : Nat), i < vs.size → ¬ (fz.1 ≤ i ∧ i < fz.2)) → vs.size = cap * sz → els.length ≤ cap → cap ≤ maxLen → 0 < sz →
   (∀ (i : Nat) (cs : List DV), els[i]? = some cs → cs.length = sz) → (∀ (i : Nat) (cs : List DV) (j : Nat) (d : DV), els[i]? = some cs → cs[j]? = some d → TRep w (Ts (i * sz + j)) d (vs.getD (i * sz + j) undef)) →
   (∀ c, ¬ Ts c b) → (∀ c c' k, Ts c k → Ts c' k → c = c') → (∀ k, S k ↔ k = b ∨ ∃ c, c < els.length * sz ∧ Ts c k) → TRep w S (.view e sz els) (.slice (some ⟨b, 0, none⟩) els.length cap)
theorem TRep.lt {w : World} {S : Nat → Prop} {x : DV} {v : Value} (h : TRep w S x v) : ∀ k, S k → k < w.heap.size := by
 induction h with
 | val h _ => intro k h'; exact absurd h' (h k)
 | nil h => intro k h'; exact absurd h' (h k)
 | @view S e sz els b cap vs fz Ts hb _ _ _ _ hz hr _ _ _ hS ih =>
  intro k hk;rcases (hS k).1 hk with rfl | ⟨c, hc, hk⟩
  ·exact lt_of_block hb
  have h1 : c / sz < els.length := Nat.div_lt_of_lt_mul (by rw [Nat.mul_comm]; exact hc);have h2 : c % sz < sz := Nat.mod_lt _ hz;have e1 := List.getElem?_eq_getElem h1;have h3 := hr _ _ e1;have e2 : c / sz * sz + c % sz = c := Nat.div_add_mod' c sz;have := ih _ _ _ _ e1 (List.getElem?_eq_getElem (by rw [h3]; exact h2)) k;rw [e2] at this;exact this hk
theorem TRep.turn {w w' : World} {S : Nat → Prop} {x : DV} {v : Value} (h : TRep w S x v) : (∀ k, S k → w'.heap[k]? = w.heap[k]?) → TRep w' S x v := by
 induction h with
 | val h0 h => intro _; exact .val h0 h
 | nil h0 => intro _; exact .nil h0
 | @view S e sz els b cap vs fz Ts hb h1 h2 h3 h4 h5 h6 h7 h8 h9 h10 ih =>
  intro hk;refine .view Ts ((hk _ ((h10 _).2 (.inl rfl))).trans hb) h1 h2 h3 h4 h5 h6 (fun i cs j d hi hj => ih i cs j d hi hj (fun k hk' => hk k ((h10 k).2 (.inr ⟨_, ?_, hk'⟩)))) h8 h9 h10;have hi1 := (List.getElem?_eq_some_iff.1 hi).1;have hj1 := (List.getElem?_eq_some_iff.1 hj).1;rw [h6 i cs hi] at hj1;have h := Nat.mul_le_mul_right sz hi1;rw [Nat.succ_mul] at h;omega
theorem TRep.data {w : World} {S : Nat → Prop} {x : DV} {v : Value} (h : TRep w S x v) : DRep S w x v := by
 induction h with
 | val _ h => exact .val h
 | nil _ => exact .nil
 | @view S e sz els b cap vs fz Ts hb h1 h2 h3 h4 h5 h6 h7 h8 h9 h10 ih =>
  refine .view ((h10 _).2 (.inl rfl)) hb h3 h4 (by rw [Nat.zero_add, h2]; exact Nat.le_refl _) h6 (fun i cs j d hi hj => ?_);rw [Nat.zero_add];refine (ih i cs j d hi hj).mono fun k hk => (h10 k).2 (.inr ⟨_, ?_, hk⟩)
  have hi1 := (List.getElem?_eq_some_iff.1 hi).1;have hj1 := (List.getElem?_eq_some_iff.1 hj).1;rw [h6 i cs hi] at hj1;have h := Nat.mul_le_mul_right sz hi1;rw [Nat.succ_mul] at h;omega
theorem TRep.congr {w : World} {S S' : Nat → Prop} {x : DV} {v : Value} (h : TRep w S x v) (he : ∀ k, S k ↔ S' k) : TRep w S' x v := by
 have : S = S' := funext fun k => propext (he k)
 subst this; exact h
def TL (w : World) (S : Nat → Prop) (L : List DV) (V : List Value) : Prop :=
 ∃ Ts : Nat → Nat → Prop, V.length = L.length ∧ (∀ i d v, L[i]? = some d → V[i]? = some v → TRep w (Ts i) d v) ∧ (∀ i j k, Ts i k → Ts j k → i = j) ∧ ∀ k, S k ↔ ∃ i, i < L.length ∧ Ts i k
theorem TL.turn {w w' : World} {S : Nat → Prop} {L : List DV} {V : List Value} (h : TL w S L V) (hk : ∀ k, S k → w'.heap[k]? = w.heap[k]?) : TL w' S L V := by
 obtain ⟨Ts, h1, h2, h3, h4⟩ := h;exact ⟨Ts, h1, fun i d v hd hv => (h2 i d v hd hv).turn fun k hk' => hk k ((h4 k).2 ⟨i, (List.getElem?_eq_some_iff.1 hd).1, hk'⟩), h3, h4⟩
theorem TL.lt {w : World} {S : Nat → Prop} {L : List DV} {V : List Value} (h : TL w S L V) (k : Nat) (hk : S k) : k < w.heap.size := by
 obtain ⟨Ts, h1, h2, h3, h4⟩ := h;obtain ⟨i, hi, hk'⟩ := (h4 k).1 hk;exact (h2 i _ _ (List.getElem?_eq_getElem hi) (List.getElem?_eq_getElem (by omega))).lt k hk'
theorem TL.data {w : World} {S : Nat → Prop} {L : List DV} {V : List Value} (h : TL w S L V) (i : Nat) {d : DV} {v : Value} (hd : L[i]? = some d) (hv : V[i]? = some v) : DRep S w d v := by
 obtain ⟨Ts, h1, h2, h3, h4⟩ := h;exact (h2 i d v hd hv).data.mono fun k hk => (h4 k).2 ⟨i, (List.getElem?_eq_some_iff.1 hd).1, hk⟩
theorem TL.len {w : World} {S : Nat → Prop} {L : List DV} {V : List Value} (h : TL w S L V) : V.length = L.length := h.choose_spec.1
theorem TL.nil (w : World) : TL w (fun _ => False) [] [] := ⟨fun _ _ => False, rfl, fun i d v h => by simp at h, fun _ _ _ h => h.elim, fun k => ⟨fun h => h.elim, fun ⟨_, h, _⟩ => by simp at h⟩⟩
theorem TL.one {w : World} {S : Nat → Prop} {d : DV} {v : Value} (h : TRep w S d v) : TL w S [d] [v] := by
 refine ⟨fun i k => i = 0 ∧ S k, rfl, fun i d' v' hd hv => ?_, fun i j k h1 h2 => h1.1.trans h2.1.symm, fun k => ⟨fun h => ⟨0, by simp, rfl, h⟩, fun ⟨_, _, h⟩ => h.2⟩⟩;cases i with
 | zero =>
  simp at hd hv; subst hd; subst hv;exact h.congr fun k => by simp
 | succ i => simp at hd
theorem TL.app {w : World} {S S' : Nat → Prop} {L L' : List DV} {V V' : List Value} (h : TL w S L V) (h' : TL w S' L' V') (hd : ∀ k, S k → ¬ S' k) : TL w (fun k => S k ∨ S' k) (L ++ L') (V ++ V') := by
 obtain ⟨Ts, h1, h2, h3, h4⟩ := h;obtain ⟨Ts', g1, g2, g3, g4⟩ := h';refine ⟨fun i k => (i < L.length ∧ Ts i k) ∨ (L.length ≤ i ∧ i < L.length + L'.length ∧ Ts' (i - L.length) k), by simp [h1, g1], fun i d v hd' hv => ?_, fun i j k hi hj => ?_, fun k => ⟨fun h => ?_, fun h => ?_⟩⟩
 ·by_cases hi : i < L.length
  ·rw [List.getElem?_append_left hi] at hd';rw [List.getElem?_append_left (by omega)] at hv;exact (h2 i d v hd' hv).congr fun k => by simp [hi, Nat.not_le.2 hi]
  have hlt := (List.getElem?_eq_some_iff.1 hd').1;rw [List.length_append] at hlt;rw [List.getElem?_append_right (by omega)] at hd' hv;rw [h1] at hv;exact (g2 _ d v hd' hv).congr fun k => by simp [hi, hlt, Nat.le_of_not_lt hi]
 ·rcases hi with ⟨a1, a2⟩ | ⟨a1, a2, a3⟩ <;> rcases hj with ⟨b1, b2⟩ | ⟨b1, b2, b3⟩
  ·exact h3 i j k a2 b2
  ·exact absurd ((g4 k).2 ⟨_, by omega, b3⟩) (hd k ((h4 k).2 ⟨i, a1, a2⟩))
  ·exact absurd ((g4 k).2 ⟨_, by omega, a3⟩) (hd k ((h4 k).2 ⟨j, b1, b2⟩))
  have := g3 _ _ k a3 b3; omega
 ·rcases h with h | h
  ·obtain ⟨i, hi, hk⟩ := (h4 k).1 h;exact ⟨i, by rw [List.length_append]; omega, .inl ⟨hi, hk⟩⟩
  obtain ⟨i, hi, hk⟩ := (g4 k).1 h;refine ⟨L.length + i, by rw [List.length_append]; omega, .inr ⟨by omega, by omega, ?_⟩⟩;rw [show L.length + i - L.length = i by omega]; exact hk
 obtain ⟨i, _, ⟨a1, a2⟩ | ⟨a1, a2, a3⟩⟩ := h
 ·exact .inl ((h4 k).2 ⟨i, a1, a2⟩)
 exact .inr ((g4 k).2 ⟨_, by omega, a3⟩)
theorem TL.cons {w : World} {S S' : Nat → Prop} {d : DV} {v : Value} {L : List DV} {V : List Value} (h : TRep w S d v) (h' : TL w S' L V) (hd : ∀ k, S k → ¬ S' k) : TL w (fun k => S k ∨ S' k) (d :: L) (v :: V) := (TL.one h).app h' hd
def TX (w : World) (S : Nat → Prop) (c : Nat) (L : List DV) (V : List Value) : Prop :=
 ∃ Ts : Nat → Nat → Prop, V.length = L.length ∧ (∀ i d v, i ≠ c → L[i]? = some d → V[i]? = some v → TRep w (Ts i) d v) ∧ (∀ i j k, Ts i k → Ts j k → i = j) ∧ (∀ k, ¬ Ts c k) ∧ ∀ k, S k ↔ ∃ i, i < L.length ∧ Ts i k
theorem TX.turn {w w' : World} {S : Nat → Prop} {c : Nat} {L : List DV} {V : List Value} (h : TX w S c L V) (hk : ∀ k, S k → w'.heap[k]? = w.heap[k]?) : TX w' S c L V := by
 obtain ⟨Ts, h1, h2, h3, h4, h5⟩ := h;exact ⟨Ts, h1, fun i d v hi hd hv => (h2 i d v hi hd hv).turn fun k hk' => hk k ((h5 k).2 ⟨i, (List.getElem?_eq_some_iff.1 hd).1, hk'⟩), h3, h4, h5⟩
theorem TL.split {w : World} {S : Nat → Prop} {L : List DV} {V : List Value} (h : TL w S L V) {c : Nat} {d : DV} {v : Value} (hd : L[c]? = some d) (hv : V[c]? = some v) : ∃ S1 S2, TRep w S1 d v ∧ TX w S2 c L V ∧ (∀ k, S1 k → ¬ S2 k) ∧ ∀ k, S k ↔ S1 k ∨ S2 k := by
 obtain ⟨Ts, h1, h2, h3, h4⟩ := h;have hlt := (List.getElem?_eq_some_iff.1 hd).1;refine ⟨Ts c, fun k => ∃ i, i < L.length ∧ i ≠ c ∧ Ts i k, h2 c d v hd hv, ⟨fun i k => i ≠ c ∧ Ts i k, h1, fun i d v hi hd hv => ?_, fun i j k hi hj => h3 i j k hi.2 hj.2, fun k hk => hk.1 rfl, fun k => Iff.rfl⟩, fun k hk ⟨i, _, hi, hk'⟩ => hi (h3 i c k hk' hk), fun k => ⟨fun hk => ?_, fun hk => ?_⟩⟩
 ·exact (h2 i d v hd hv).congr fun k => by simp [hi]
 ·obtain ⟨i, hi, hk⟩ := (h4 k).1 hk
  by_cases hic : i = c
  ·subst hic; exact .inl hk
  exact .inr ⟨i, hi, hic, hk⟩
 rcases hk with hk | ⟨i, hi, _, hk⟩
 ·exact (h4 k).2 ⟨c, hlt, hk⟩
 exact (h4 k).2 ⟨i, hi, hk⟩
theorem TX.join {w : World} {S1 S2 : Nat → Prop} {c : Nat} {L : List DV} {V : List Value} {d : DV} {v : Value} (h : TX w S2 c L V) (h1 : TRep w S1 d v) (hc : c < L.length) (hv : V[c]? = some v) (hd : ∀ k, S1 k → ¬ S2 k) : TL w (fun k => S1 k ∨ S2 k) (L.set c d) V := by
 obtain ⟨Ts, g1, g2, g3, g4, g5⟩ := h;refine ⟨fun i k => (i = c ∧ S1 k) ∨ (i < L.length ∧ Ts i k), by simpa using g1, fun i d' v' hd' hv' => ?_, fun i j k hi hj => ?_, fun k => ⟨fun hk => ?_, fun hk => ?_⟩⟩
 ·by_cases hi : c = i
  ·subst hi;rw [List.getElem?_set_self hc] at hd';rw [hv] at hv';simp only [Option.some.injEq] at hd' hv';subst hd'; subst hv';exact h1.congr fun k => by simp [g4]
  rw [List.getElem?_set_ne hi] at hd';have hl := (List.getElem?_eq_some_iff.1 hd').1;have hi' : ¬ i = c := fun e => hi e.symm
  exact (g2 i d' v' hi' hd' hv').congr fun k => by simp [hi', hl]
 ·rcases hi with ⟨a1, a2⟩ | ⟨a1, a2⟩ <;> rcases hj with ⟨b1, b2⟩ | ⟨b1, b2⟩
  ·rw [a1, b1]
  ·exact absurd ((g5 k).2 ⟨j, b1, b2⟩) (hd k a2)
  ·exact absurd ((g5 k).2 ⟨i, a1, a2⟩) (hd k b2)
  exact g3 i j k a2 b2
 ·rcases hk with hk | hk
  ·exact ⟨c, by simpa using hc, .inl ⟨rfl, hk⟩⟩
  obtain ⟨i, hi, hk⟩ := (g5 k).1 hk;exact ⟨i, by simpa using hi, .inr ⟨hi, hk⟩⟩
 obtain ⟨i, _, ⟨_, hk⟩ | ⟨hi, hk⟩⟩ := hk
 ·exact .inl hk
 exact .inr ((g5 k).2 ⟨i, hi, hk⟩)
section
variable {P : Program} [PT P] {C : Ctx} {Q : Exit → ASt → Prop} {s : ASt} {ops : Array Oper} {U U' : Nat → Prop} {a : Act} {w : World} {m : Nat → Option (Option Nat × Nat)}
def mNew (m : Nat → Option (Option Nat × Nat)) (new : List (Nat × Chunk)) (pm : Nat → Option Nat × Nat) (j : Nat) : Option (Option Nat × Nat) :=
 match getL j new with
 | some _ => some (pm j)
 | none => m j
theorem mNew_some {new : List (Nat × Chunk)} {pm : Nat → Option Nat × Nat} {j : Nat} {c : Chunk} (h : getL j new = some c) : mNew m new pm j = some (pm j) := by simp [mNew, h]
theorem mNew_none {new : List (Nat × Chunk)} {pm : Nat → Option Nat × Nat} {j : Nat} (h : getL j new = none) : mNew m new pm j = m j := by simp [mNew, h]
theorem RelM.repack (h : RelM C U s a w m) {t : ASt} (new : List (Nat × Chunk)) (pm : Nat → Option Nat × Nat) (gone : List Nat) (hn : t.n = s.n)
  (ht : ∀ id c, t.chunk id = some c → getL id new = some c ∨ (getL id new = none ∧ id ∉ gone ∧ s.chunk id = some c))
  (hU : ∀ id c, getL id new = some c → U id ∨ m id = some (pm id))
  (hU' : ∀ j, U' j → U j ∧ getL j new = none)
  (hocc : ∀ id c b, getL id new = some c → occ (pm id) c b → ∃ j c0 q, j ∈ gone ∧ s.chunk j = some c0 ∧ m j = some q ∧ occ q c0 b)
  (hdis : ∀ id id' c c' b, getL id new = some c → getL id' new = some c' → occ (pm id) c b → occ (pm id') c' b → id = id')
  (hrep : ∀ F', (∀ k, Fz C m s w k → F' k) → ∀ id c, getL id new = some c → CRep (mNew m new pm) F' w (pm id) c)
  (hsl : MLe m (mNew m new pm) → ∀ F', (∀ k, Fz C m s w k → F' k) → ∀ i, ARep (mNew m new pm) F' w (t.get i) (a.tmps.getD i undef)) : RelM C U' t a w (mNew m new pm) := by
 have hle : MLe m (mNew m new pm) := by
  intro j p hp;cases hg : getL j new with
  | none => rw [mNew_none hg]; exact hp
  | some c =>
   rcases hU j c hg with h1 | h1
   ·rw [h.un j h1] at hp; cases hp
   rw [hp] at h1; rw [mNew_some hg, h1]
 have hF : ∀ k, Fz C m s w k → Fz C (mNew m new pm) t w k := by
  intro k hk;refine ⟨hk.1, hk.2.1, fun id c p h1 h2 ho => ?_⟩;rcases ht id c h1 with g | ⟨g, _, g3⟩
  ·rw [mNew_some g] at h2;obtain rfl : pm id = p := by simpa using h2
   obtain ⟨j, c0, q, _, q2, q3, q4⟩ := hocc id c k g ho;exact hk.2.2 j c0 q q2 q3 q4
  rw [mNew_none g] at h2;exact hk.2.2 id c p g3 h2 ho
 refine ⟨h.fr, h.fin, by rw [hn]; exact h.sz, hsl hle _ hF, fun id c h1 => ?_, fun id id' c c' p p' h1 h2 hp hp' b hb hb' => ?_, fun j hj => ?_, h.defers, fun id p hp => hle id p (h.m0 id p hp), h.m0k⟩
 ·rcases ht id c h1 with g | ⟨g, _, g3⟩
  ·refine ⟨pm id, mNew_some g, hrep _ hF id c g, fun b hb => ?_⟩;obtain ⟨j, c0, q, _, q2, q3, q4⟩ := hocc id c b g hb;obtain ⟨q', hq', _, hl⟩ := h.ch j c0 q2;rw [q3] at hq';obtain rfl : q = q' := by simpa using hq'
   exact hl b q4
  obtain ⟨p, hp, hr, hl⟩ := h.ch id c g3;exact ⟨p, hle _ _ hp, hr.turn hle (fun k hk _ => ⟨hF k hk, rfl⟩) (fun _ _ => rfl), hl⟩
 ·rcases ht id c h1 with g | ⟨g, g2, g3⟩ <;> rcases ht id' c' h2 with g' | ⟨g', g2', g3'⟩
  ·rw [mNew_some g] at hp;rw [mNew_some g'] at hp';obtain rfl : pm id = p := by simpa using hp
   obtain rfl : pm id' = p' := by simpa using hp'
   exact hdis id id' c c' b g g' hb hb'
  ·rw [mNew_some g] at hp;rw [mNew_none g'] at hp';obtain rfl : pm id = p := by simpa using hp
   obtain ⟨j, c0, q, q1, q2, q3, q4⟩ := hocc id c b g hb;have := h.inj j id' c0 c' q p' q2 g3' q3 hp' b q4 hb';subst this;exact absurd q1 g2'
  ·rw [mNew_none g] at hp;rw [mNew_some g'] at hp';obtain rfl : pm id' = p' := by simpa using hp'
   obtain ⟨j, c0, q, q1, q2, q3, q4⟩ := hocc id' c' b g' hb';have := h.inj j id c0 c q p q2 g3 q3 hp b q4 hb;subst this;exact absurd q1 g2
  rw [mNew_none g] at hp;rw [mNew_none g'] at hp';exact h.inj id id' c c' p p' g3 g3' hp hp' b hb hb'
 obtain ⟨h1, h2⟩ := hU' j hj;rw [mNew_none h2];exact h.un j h1
structure WeakR (C : Ctx) (s : ASt) (T : ASt → Prop) : Prop where
 run : ∀ a w, Rel C s a w → ∃ t, T t ∧ Rel C t a w
theorem CRep.predAt {F : Nat → Prop} {p : Option Nat × Nat} {S : Nat → Prop} {K : World → Prop} (h : CRep m F w p (.pred S K)) : p = (none, 0) ∧ K w ∧ (∀ w w', (∀ k, S k → w'.heap[k]? = w.heap[k]?) → K w → K w') ∧ ∀ k, S k → k < w.heap.size := by
 cases h with
 | pred h1 h2 h3 => exact ⟨rfl, h1, h2, h3⟩
theorem occ_pred' {S : Nat → Prop} {K : World → Prop} {k : Nat} (h : occ (none, 0) (.pred S K) k) : S k := by
 rcases h with h | h
 ·cases h
 exact h
theorem Weak.join (id1 id2 : Nat) {S1 S2 : Nat → Prop} {K1 K2 : World → Prop} (K : World → Prop) (h1 : s.chunk id1 = some (.pred S1 K1)) (h2 : s.chunk id2 = some (.pred S2 K2)) (hne : Nat.beq id1 id2 = false)
  (hK : ∀ w, K1 w → K2 w → (∀ k, S1 k → ¬ S2 k) → K w) (hcl : ∀ w w', (∀ k, S1 k ∨ S2 k → w'.heap[k]? = w.heap[k]?) → K w → K w') :
  Weak C s { n := s.n, nx := s.nx, sl := s.sl, ch := (id1, some (.pred (fun k => S1 k ∨ S2 k) K)) :: (id2, none) :: s.ch } := by
 refine ⟨?_⟩;rintro a w ⟨m, hR⟩;have hne : id1 ≠ id2 := Nat.ne_of_beq_eq_false hne;obtain ⟨p1, q1, c1, l1⟩ := hR.ch id1 _ h1;obtain ⟨p2, q2, c2, l2⟩ := hR.ch id2 _ h2;obtain ⟨rfl, k1, cl1, lt1⟩ := c1.predAt;obtain ⟨rfl, k2, cl2, lt2⟩ := c2.predAt;have hd : ∀ k, S1 k → ¬ S2 k := fun k g1 g2 => hne (hR.inj id1 id2 _ _ _ _ h1 h2 q1 q2 k (.inr g1) (.inr g2))
 refine ⟨_, hR.repack (U' := fun i => s.nx ≤ i) [(id1, .pred (fun k => S1 k ∨ S2 k) K)] (fun _ => (none, 0)) [id1, id2] rfl (fun i c h => ?_) (fun i c h => .inr ?_) (fun i hi => ⟨hi, ?_⟩) (fun i c b h hb => ?_) (fun i i' c c' b h h' _ _ => ?_) (fun F' _ i c h => ?_) (fun hle F' hF i => (hR.sl i).turn hle (fun k hk _ => ⟨hF k hk, rfl⟩))⟩
 ·change (getL i (_ :: _ :: _)).getD none = _ at h
  rw [getL_cons] at h;rw [getL_cons]
  split at h
  ·rename_i ei; rw [if_pos ei]; exact .inl (by simpa using h)
  rename_i ei;rw [if_neg ei];rw [getL_cons] at h
  split at h
  ·cases h
  rename_i ei'; exact .inr ⟨rfl, by simp [ei, ei'], h⟩
 ·obtain ⟨rfl, _⟩ := getL_one h; exact q1
 ·rw [getL_cons]
  split
  ·rename_i ei; subst ei; have := hR.un i hi; rw [q1] at this; cases this
  rfl
 ·obtain ⟨rfl, rfl⟩ := getL_one h;rcases occ_pred' hb with g | g
  ·exact ⟨i, _, _, by simp, h1, q1, .inr g⟩
  exact ⟨id2, _, _, by simp, h2, q2, .inr g⟩
 ·rw [(getL_one h).1, (getL_one h').1]
 obtain ⟨rfl, rfl⟩ := getL_one h;exact .pred (hK w k1 k2 hd) hcl (fun k hk => hk.elim (lt1 k) (lt2 k))
theorem Weak.cons (id : Nat) {S : Nat → Prop} {K : World → Prop} (K' : World → Prop) (h0 : s.chunk id = some (.pred S K)) (hK : ∀ w, K w → K' w) (hcl : ∀ w w', (∀ k, S k → w'.heap[k]? = w.heap[k]?) → K' w → K' w') :
  Weak C s { n := s.n, nx := s.nx, sl := s.sl, ch := (id, some (.pred S K')) :: s.ch } := by
 refine ⟨?_⟩;rintro a w ⟨m, hR⟩;obtain ⟨p1, q1, c1, l1⟩ := hR.ch id _ h0;obtain ⟨rfl, k1, cl1, lt1⟩ := c1.predAt;refine ⟨_, hR.repack (U' := fun i => s.nx ≤ i) [(id, .pred S K')] (fun _ => (none, 0)) [id] rfl (fun i c h => ?_) (fun i c h => .inr ?_) (fun i hi => ⟨hi, ?_⟩) (fun i c b h hb => ?_) (fun i i' c c' b h h' _ _ => ?_) (fun F' _ i c h => ?_) (fun hle F' hF i => (hR.sl i).turn hle (fun k hk _ => ⟨hF k hk, rfl⟩))⟩
 ·change (getL i (_ :: _)).getD none = _ at h
  rw [getL_cons] at h;rw [getL_cons]
  split at h
  ·rename_i ei; rw [if_pos ei]; exact .inl (by simpa using h)
  rename_i ei;rw [if_neg ei];exact .inr ⟨rfl, by simpa using ei, h⟩
 ·obtain ⟨rfl, _⟩ := getL_one h; exact q1
 ·rw [getL_cons]
  split
  ·rename_i ei; subst ei; have := hR.un i hi; rw [q1] at this; cases this
  rfl
 ·obtain ⟨rfl, rfl⟩ := getL_one h;exact ⟨_, _, _, by simp, h0, q1, .inr (occ_pred' hb)⟩
 ·rw [(getL_one h).1, (getL_one h').1]
 obtain ⟨rfl, rfl⟩ := getL_one h;exact .pred (hK w k1) hcl lt1
end
section
variable {P : Program} [PT P] {C : Ctx} {s : ASt}
def DTo (c d : DV) : Prop := ∀ (F : Nat → Prop) (w : World) (v : Value), DRep F w c v → DRep F w d v
theorem DTo.refl (d : DV) : DTo d d := fun _ _ _ h => h
theorem DTo.nil {e sz : Nat} : DTo (.val (.slice none 0 0)) (.view e sz []) := fun F w v h => by
 cases h;exact .nil
theorem Weak.arrTo (id : Nat) {e sz : Nat} {els els' : List (List DV)} (h0 : s.chunk id = some (.arr e sz els)) (hl : els'.length = els.length) (h : ∀ (i : Nat) (cs' : List DV), els'[i]? = some cs' → ∃ cs, els[i]? = some cs ∧ cs'.length = cs.length ∧ ∀ (j : Nat) (d' : DV), cs'[j]? = some d' → ∃ d, cs[j]? = some d ∧ DTo d d') :
  Weak C s { n := s.n, nx := s.nx, sl := s.sl, ch := (id, some (.arr e sz els')) :: s.ch } := by
 refine ⟨?_⟩;rintro a w ⟨m, hR⟩;obtain ⟨p1, q1, c1, l1⟩ := hR.ch id _ h0
 have hc : ∀ (m' : Nat → Option (Option Nat × Nat)) F', (∀ k, Fz C m s w k → F' k) → CRep m' F' w p1 (.arr e sz els') := by
  intro m' F' hF;cases c1 with
  | arr g1 g2 g3 g4 g5 g6 g7 g8 =>
   refine .arr g1 g2 g3 (by omega) g5 g6 (fun i cs' hi => ?_) (fun i cs' j d' hi hj => ?_)
   ·obtain ⟨cs, k1, k2, _⟩ := h i cs' hi;rw [k2]; exact g7 i cs k1
   obtain ⟨cs, k1, k2, k3⟩ := h i cs' hi;obtain ⟨d, k4, k5⟩ := k3 j d' hj;exact k5 _ _ _ ((g8 i cs j d k1 k4).turn (fun k hk _ => ⟨hF k hk, rfl⟩))
  | nil g =>
   obtain rfl : els' = [] := List.length_eq_zero_iff.1 (by simpa using hl);exact .nil g
 refine ⟨_, hR.repack (U' := fun i => s.nx ≤ i) [(id, .arr e sz els')] (fun _ => p1) [id] rfl (fun i c h => ?_) (fun i c h => .inr ?_) (fun i hi => ⟨hi, ?_⟩) (fun i c b h hb => ?_) (fun i i' c c' b h h' _ _ => ?_) (fun F' hF i c h => ?_) (fun hle F' hF i => (hR.sl i).turn hle (fun k hk _ => ⟨hF k hk, rfl⟩))⟩
 ·change (getL i (_ :: _)).getD none = _ at h
  rw [getL_cons] at h;rw [getL_cons]
  split at h
  ·rename_i ei; rw [if_pos ei]; exact .inl (by simpa using h)
  rename_i ei;rw [if_neg ei];exact .inr ⟨rfl, by simpa using ei, h⟩
 ·obtain ⟨rfl, _⟩ := getL_one h; exact q1
 ·rw [getL_cons]
  split
  ·rename_i ei; subst ei; have := hR.un i hi; rw [q1] at this; cases this
  rfl
 ·obtain ⟨rfl, rfl⟩ := getL_one h;exact ⟨_, _, _, by simp, h0, q1, .inl hb.one_arr⟩
 ·rw [(getL_one h).1, (getL_one h').1]
 obtain ⟨rfl, rfl⟩ := getL_one h;exact hc _ F' hF
end
abbrev sxL (l : List (List UInt8)) : List (List DV) := l.map (fun s => [dS (bstr s)])
abbrev vSx (l : List (List UInt8)) : DV := .view 9 1 (sxL l)
theorem sxL_len (l : List (List UInt8)) : (sxL l).length = l.length := List.length_map _
theorem sxL_get {l : List (List UInt8)} {k : Nat} (h : k < l.length) : (sxL l)[k]? = some [dS (bstr l[k])] := by rw [List.getElem?_map, List.getElem?_eq_getElem h]; rfl
theorem h_appendSx (acc new : List (List UInt8)) {s : ASt} {dst : Option Nat} {ty : Nat} {pos : String} {af : Array Edge} {gd : Option (Nat × Bool)} {x y : Operand} {f : Nat} {ids ids2 : List Nat} {gone : List (Nat × Option Chunk)}
  (hto : AppTo s x 9 1 (sxL acc) ids gone) (harg : AppArg s y 1 (sxL new) ids2) (h : (acc ++ new).length ≤ 100000000) (hnew : gone = [] → 0 < new.length) :
  NOp Tryz.prog (ids ++ ids2) s ⟨dst, .call { callee := .builtin .append, args := #[x, y], argTypes := #[37, 37] }, ty, pos, af, gd⟩ f ⟨.own f (acc ++ new).length, (f, some (.arr 9 1 (sxL (acc ++ new)))) :: gone⟩ := by
 have := h_append (P := Tryz.prog) (s := s) (dst := dst) (ty := ty) (pos := pos) (af := af) (gd := gd) (x := x) (y := y) (f := f) (t := 37) (tx := 37) (k := (acc ++ new).length) rfl rfl rfl rfl rfl rfl hto harg (by simp) (by omega) (by show (acc ++ new).length * 16 ≤ _; omega) (fun h => by rw [sxL_len]; exact hnew h)
 rwa [← List.map_append] at this
theorem h_appendLx (acc new : List Lab) {s : ASt} {dst : Option Nat} {ty : Nat} {pos : String} {af : Array Edge} {gd : Option (Nat × Bool)} {x y : Operand} {f : Nat} {ids ids2 : List Nat} {gone : List (Nat × Option Chunk)}
  (hto : AppTo s x 115 2 (labsL acc) ids gone) (harg : AppArg s y 2 (labsL new) ids2) (h : (acc ++ new).length ≤ 100000000) (hnew : gone = [] → 0 < new.length) :
  NOp Tryz.prog (ids ++ ids2) s ⟨dst, .call { callee := .builtin .append, args := #[x, y], argTypes := #[75, 75] }, ty, pos, af, gd⟩ f ⟨.own f (acc ++ new).length, (f, some (.arr 115 2 (labsL (acc ++ new)))) :: gone⟩ := by
 have := h_append (P := Tryz.prog) (s := s) (dst := dst) (ty := ty) (pos := pos) (af := af) (gd := gd) (x := x) (y := y) (f := f) (t := 75) (tx := 75) (k := (acc ++ new).length) rfl rfl rfl rfl rfl rfl hto harg (by simp) (by omega) (by show (acc ++ new).length * 16 ≤ _; omega) (fun h => by rw [labsL_len]; exact hnew h)
 rwa [← List.map_append] at this
theorem ownl {α : Type} (l : List α) (f : α → List DV) : l.length ≤ (l.map f).length := Nat.le_of_eq (List.length_map _).symm
theorem ownt {α : Type} (l : List α) (f : α → List DV) : (l.map f).take l.length = l.map f := List.take_of_length_le (Nat.le_of_eq (List.length_map _))
def splitK (s : List UInt8) (b : UInt8) : Nat → List (List UInt8) × Nat
 | 0 => ([], 0)
 | k + 1 => if s.getD k 0 = b then ((splitK s b k).1 ++ [(s.take k).drop (splitK s b k).2], k + 1) else splitK s b k
def splitL (s : List UInt8) (b : UInt8) : List (List UInt8) := (splitK s b s.length).1 ++ [s.drop (splitK s b s.length).2]
theorem splitK_in (s : List UInt8) (b : UInt8) : ∀ k, (splitK s b k).2 ≤ k ∧ (splitK s b k).1.length ≤ k
 | 0 => ⟨Nat.le_refl _, Nat.le_refl _⟩
 | k + 1 => by
  have := splitK_in s b k;rw [splitK]
  split
  ·exact ⟨Nat.le_refl _, by rw [List.length_append]; simp only [List.length_cons, List.length_nil]; omega⟩
  omega
theorem splitK_mem (s : List UInt8) (b : UInt8) : ∀ k x, x ∈ (splitK s b k).1 → x.length ≤ s.length
 | 0, x, h => by cases h
 | k + 1, x, h => by
  rw [splitK] at h
  split at h
  ·rcases List.mem_append.1 h with h | h
   ·exact splitK_mem s b k x h
   rw [List.mem_singleton] at h; subst h; rw [List.length_drop, List.length_take]; omega
  exact splitK_mem s b k x h
theorem splitL_mem {s : List UInt8} {b : UInt8} {x : List UInt8} (h : x ∈ splitL s b) : x.length ≤ s.length := by
 rcases List.mem_append.1 h with h | h
 ·exact splitK_mem s b _ x h
 rw [List.mem_singleton] at h; subst h; rw [List.length_drop]; omega
set_option maxHeartbeats 2000000 in
theorem l1Split_spec (s : List UInt8) (b : UInt8) (hs : s.length ≤ 1000000) : ASpec Tryz.prog 66 [aS (bstr s), aB b] [] (Pure1 (.d (vSx (splitL s b)))) := by
 have hsz := bstr_size s;refine ASpec.of Tryz.func66 rfl rfl fun C hC => ?_
 refine AC.seq (AC.region ?_);refine za ?_;refine AL.nil (th_n (AC.seq (AC.region ?_)));refine za ?_;refine AL.nil (th_n (AC.seq (AC.region ?_)));refine za ?_;refine AL.nil (th_n (AC.seq (AC.seq (AC.region ?_))));refine za ?_;refine AL.nil (th_n (AC.block ?_));refine AC.loop (ι := Nat) (fun k => ⟨34, 108, [(0, aS (bstr s)), (1, aB b), (5, .own 100 (splitK s b k).1.length), (6, aI (splitK s b k).2), (7, aI k)], [(100, some (.arr 9 1 (sxL (splitK s b k).1)))]⟩) (fun k => k ≤ s.length) (fun k => s.length - k) (0) ?_ (Nat.zero_le _) ?_
 ·exact (Weak.nilOwn (i := 5) (e := 9) (sz := 1) rfl (by decide)).trans (zw [(100, _)] hC)
 intro k hk;refine AC.seq (AC.seq (AC.region ?_));refine zm ?_;refine zm ?_;refine AL.p (by exact g_len_str rfl rfl rfl) rfl ?_;refine zc ?_;refine AL.nil (th_n ?_);refine AC.condD rfl (fun h0 => ?_) (fun h0 => ?_)
 ·refine AC.skip (th_n (AC.seq (AC.block (AC.seq ?_))));have hk1 : k < s.length := by omega
  have hget : (bstr s).data.toList[k]? = some (s.getD k 0) := bstr_getD hk1;have hin := splitK_in s b k;have hb1 : ((s.getD k 0).toNat : Int) = (b.toNat : Int) → splitK s b (k + 1) = ((splitK s b k).1 ++ [(s.take k).drop (splitK s b k).2], k + 1) := fun h => by rw [splitK, if_pos (UInt8.toNat_inj.1 (by omega))]
  have hb0 : ¬ ((s.getD k 0).toNat : Int) = (b.toNat : Int) → splitK s b (k + 1) = splitK s b k := fun h => by rw [splitK, if_neg (fun e => h (by rw [e]))]
  have hex : (bstr s).extract (splitK s b k).2 k = bstr ((s.take k).drop (splitK s b k).2) := bstr_cut s hin.1 (by omega);refine AC.region ?_;refine zm ?_;refine zm ?_;refine AL.p (by exact g_index rfl rfl rfl (by rfl) (by assumption)) rfl ?_;refine zm ?_;refine zc ?_;refine AL.nil (th_n ?_);refine AC.condD rfl (fun h1 => ?_) (fun h1 => ?_)
  ·refine AC.seq (AC.region ?_);refine kB ?_;refine zm ?_;refine zm ?_;refine zm ?_;refine AL.p (by exact g_slice_str (l := (splitK s b k).2) (h := k) rfl rfl (.some rfl rfl) (.some rfl rfl) hin.1 (by omega) hex) rfl ?_;refine AL.q (by exact h_litF rfl rfl rfl rfl rfl rfl rfl rfl) rfl ?_;refine AL.q (by exact h_appendSx (splitK s b k).1 [(s.take k).drop (splitK s b k).2] (.own rfl rfl (sxL_len _).symm) (.view rfl) (by rw [List.length_append]; simp only [List.length_cons, List.length_nil]; omega) (by simp)) rfl ?_;refine AL.p (by exact as2 rfl) rfl ?_;refine AL.nil (th_n (AC.region ?_));refine zm ?_;refine zA ?_;refine za ?_;refine AL.nil (ib_n (th_n (AC.region ?_)));refine zm ?_;refine zA ?_;refine za ?_;refine AL.nil (th_n ?_)
   (have e := hb1 h1; exact ⟨k + 1, by omega, by omega, zw [(100, _)] hC (by rw [e]; repeat (first | exact True.intro | refine And.intro ?_ ?_ | exact DLead.same | exact rfl | refine ⟨_, rfl, ?_⟩)) (by rw [e]; repeat (first | exact True.intro | refine And.intro ?_ ?_ | exact rfl | refine ⟨_, _, rfl, rfl, ?_⟩))⟩)
  refine AC.skip (ib_n (th_n (AC.region ?_)));refine zm ?_;refine zA ?_;refine za ?_;refine AL.nil (th_n ?_)
  (have e := hb0 h1; exact ⟨k + 1, by omega, by omega, zw [(100, _)] hC (by rw [e]; repeat (first | exact True.intro | refine And.intro ?_ ?_ | exact DLead.same | exact rfl | refine ⟨_, rfl, ?_⟩)) (by rw [e]; repeat (first | exact True.intro | refine And.intro ?_ ?_ | exact rfl | refine ⟨_, _, rfl, rfl, ?_⟩))⟩)
 refine AC.exit (th_e (th_e (ib_y (th_n (AC.seq ?_)))));have hkk : k = s.length := by omega
 subst hkk;have hin := splitK_in s b s.length;have hex : (bstr s).extract (splitK s b s.length).2 (bstr s).size = bstr (s.drop (splitK s b s.length).2) := by rw [hsz, bstr_cut s hin.1 (Nat.le_refl _), List.take_length]
 refine AC.region ?_;refine kB ?_;refine zm ?_;refine zm ?_;refine AL.p (by exact g_slice_str (l := (splitK s b s.length).2) rfl rfl (.some rfl rfl) .none (by omega) (Nat.le_refl _) hex) rfl ?_;refine AL.q (by exact h_litF rfl rfl rfl rfl rfl rfl rfl rfl) rfl ?_;refine AL.q (by exact h_appendSx (splitK s b s.length).1 [s.drop (splitK s b s.length).2] (.own rfl rfl (sxL_len _).symm) (.view rfl) (by rw [List.length_append]; simp only [List.length_cons, List.length_nil]; omega) (by simp)) rfl ?_;refine AL.weak (Weak.freeze (i := 33) rfl rfl (ownl _ _) (ownt _ _)) ?_;refine za ?_;refine AL.nil (th_n (AC.ret (bq_r ?_)));exact ret1 rfl rfl
theorem en_l1Split : Enters Tryz.prog 66 := enters_of Tryz.func66 rfl rfl
set_option maxHeartbeats 1000000 in
theorem l2Signal_spec (l : List Sig) (hl : l.length ≤ 2000000) (nm : List UInt8) : ASpec Tryz.prog 110 [.d (vSigs l), aS (bstr nm)] [] (Pure1 (aI (findI (fun x => decide (x.name = nm)) l))) := by
 refine ASpec.of Tryz.func110 rfl rfl fun C hC => ?_
 refine AC.seq (AC.region ?_);refine za ?_;refine AL.nil (th_n (AC.seq (AC.seq (AC.region ?_))));refine zm ?_;refine kH ?_;refine zm ?_;refine AL.nil (th_n (AC.block ?_));refine AC.loop (ι := Nat) (fun k => ⟨20, 0, [(1, aS (bstr nm)), (7, .d (vSigs l)), (8, aI l.length), (9, aI k)], []⟩) (fun k => k ≤ l.length ∧ ∀ j (hj : j < l.length), j < k → (fun x : Sig => decide (x.name = nm)) l[j] = false) (fun k => l.length - k) (0) ?_ (⟨Nat.zero_le _, fun j _ hj => by omega⟩) ?_
 ·refine Weak.ren _ [] hC rfl ?_ ?_ rfl rfl rfl <;> repeat (first | exact True.intro | refine And.intro ?_ ?_ | exact DLead.same)
 intro k ⟨hk, hall⟩;refine AC.seq (AC.region ?_);refine zc ?_;refine AL.nil (th_n (AC.seq ?_));refine AC.condD rfl (fun h0 => ?_) (fun h0 => ?_)
 ·refine AC.skip (th_n (AC.seq (AC.block (AC.seq ?_))));have hk1 : k < l.length := by omega
  have hget := sigsL_get hk1;refine AC.region ?_;refine zm ?_;refine AL.p (by exact g_ia_view rfl rfl rfl rfl rfl (by rfl) (by assumption)) rfl ?_;refine kG ?_;refine kE ?_;refine za ?_;refine zs ?_;refine AL.nil (th_n (AC.seq ?_));refine AC.weak (Weak.freezeRef (ds := sigD l[k]) 6 rfl rfl) ?_;refine AC.region ?_;refine zf ?_;refine zr ?_;refine zm ?_;refine AL.p (by exact g_scmp rfl rfl rfl) rfl ?_;refine AL.nil (th_n ?_);refine AC.condD rfl (fun h1 => ?_) (fun h1 => ?_)
  ·refine AC.seq (AC.region ?_);refine zm ?_;refine za ?_;refine AL.nil (th_n (AC.ret (ib_r (th_r (th_r (ib_r (th_r (bq_r ?_))))))));exact ret1 rfl (by rw [findI_at hk1 (p := fun x : Sig => decide (x.name = nm)) (decide_eq_true (bstr_inj h1)) (fun j hj => hall j (by omega) hj)])
  refine AC.skip (ib_n (th_n (AC.region ?_)));refine zA ?_;refine zm ?_;refine AL.nil (th_n ?_);exact ⟨k + 1, ⟨by omega, fun j hj hj2 => by rcases Nat.lt_succ_iff_lt_or_eq.1 hj2 with h | rfl; exact hall j hj h; exact decide_eq_false (fun e => h1 (by rw [e]))⟩, by omega, Weak.ren _ [] hC rfl (by repeat (first | exact True.intro | refine And.intro ?_ ?_ | exact DLead.same)) (by repeat (exact True.intro)) rfl rfl rfl⟩
 refine AC.exit (th_e (th_e (ib_y (th_n (AC.seq (AC.region ?_))))));refine za ?_;refine AL.nil (th_n (AC.ret (bq_r ?_)));exact ret1 rfl (by rw [findI_none (fun j hj => hall j hj (by omega))])
theorem en_l2Signal : Enters Tryz.prog 110 := enters_of Tryz.func110 rfl rfl
structure Bs where
 sigs : List Sig
 ts : List Tn
 labs : List Lab
 start : List UInt8
 ps : List (List UInt8)
 ws : List (List UInt8)
abbrev bC (b : Bs) (i1 i2 i3 i4 i5 : Nat) : Chunk := .cells 101 [aI b.ps.length, .own i1 b.ts.length, .own i2 b.sigs.length, .own i3 b.labs.length, aS (bstr b.start), .own i4 b.ps.length, .own i5 b.ws.length]
abbrev bChs (b : Bs) (i1 i2 i3 i4 i5 : Nat) : List (Nat × Chunk) := [(0, bC b i1 i2 i3 i4 i5), (i1, .arr 138 2 (tsL b.ts)), (i2, .arr 87 2 (sigsL b.sigs)), (i3, .arr 115 2 (labsL b.labs)), (i4, .arr 9 1 (sxL b.ps)), (i5, .arr 9 1 (sxL b.ws))]
structure BsL (b : Bs) : Prop where
 s : b.sigs.length ≤ 100000
 t : b.ts.length ≤ 100000
 l : b.labs.length ≤ 100000
 st : b.start.length ≤ 100000
 p : b.ps.length ≤ 100000
 w : b.ws.length ≤ 100000
def placeF (b : Bs) (nm : List UInt8) : Nat × Bs := if b.ps.findIdx (fun x => decide (x = nm)) < b.ps.length then (b.ps.findIdx (fun x => decide (x = nm)), b) else (b.ps.length, { b with ps := b.ps ++ [nm], start := b.start ++ [48] })
theorem placeF_yes {b : Bs} {nm : List UInt8} {k : Nat} (hk : k < b.ps.length) (h : b.ps[k] = nm) (hp : ∀ j (hj : j < b.ps.length), j < k → ¬ b.ps[j] = nm) : placeF b nm = (k, b) := by
 have e : b.ps.findIdx (fun x => decide (x = nm)) = k := (List.findIdx_eq hk).2 ⟨decide_eq_true h, fun j hj => by simpa using hp j (by omega) hj⟩;rw [placeF, e, if_pos hk]
theorem placeF_no {b : Bs} {nm : List UInt8} (hp : ∀ j (hj : j < b.ps.length), ¬ b.ps[j] = nm) : placeF b nm = (b.ps.length, { b with ps := b.ps ++ [nm], start := b.start ++ [48] }) := by
 have e : b.ps.findIdx (fun x => decide (x = nm)) = b.ps.length := List.findIdx_eq_length.2 (fun x hx => by obtain ⟨j, hj, rfl⟩ := List.getElem_of_mem hx; simpa using hp j hj);rw [placeF, e, if_neg (Nat.lt_irrefl _)]
set_option maxHeartbeats 4000000 in
theorem bPlace_spec (b : Bs) (nm : List UInt8) (hb : BsL b) : ASpec Tryz.prog 93 [.ptr 0 0, aS (bstr nm)] (bChs b 1 2 3 4 5) (Fun1 (aI (placeF b nm).1) (bChs (placeF b nm).2 1 2 3 6 5)) := by
 have hps := hb.p;have hss := hb.st;refine ASpec.of Tryz.func93 rfl rfl fun C hC => ?_
 refine AC.seq (AC.region ?_);refine za ?_;refine AL.nil (th_n (AC.seq (AC.seq (AC.region ?_))));refine AL.p (by exact mv3 rfl) rfl ?_;refine AL.p (by exact g_nilP rfl) rfl ?_;refine zF ?_;refine zl ?_;refine AL.p (by exact g_len_own (sz := 1) (els := []) (e' := 0) rfl rfl (by simp only [maxLen]; omega)) rfl ?_;refine zm ?_;refine AL.nil (th_n (AC.block ?_));refine AC.loop (ι := Nat) (fun k => ⟨58, 136, [(0, .ptr 0 0), (1, aS (bstr nm)), (10, .own 4 b.ps.length), (11, aI b.ps.length), (12, aI k)], chL (bChs b 1 2 3 4 5)⟩) (fun k => k ≤ b.ps.length ∧ ∀ j (hj : j < b.ps.length), j < k → ¬ b.ps[j] = nm) (fun k => b.ps.length - k) (0) ?_ (⟨Nat.zero_le _, fun j _ hj => by omega⟩) ?_
 ·exact zw [] hC
 intro k ⟨hk, hall⟩;refine AC.seq (AC.region ?_);refine zc ?_;refine AL.nil (th_n (AC.seq ?_));refine AC.condD rfl (fun h0 => ?_) (fun h0 => ?_)
 ·refine AC.skip (th_n (AC.seq (AC.block (AC.seq ?_))));have hk1 : k < b.ps.length := by omega
  have hget := sxL_get hk1;refine AC.region ?_;refine zm ?_;refine AL.p (by exact g_ia_own rfl rfl rfl rfl rfl (by rfl) (by omega) (by exact Nat.mul_one _)) rfl ?_;refine AL.p (by exact g_load_arr1 rfl rfl rfl rfl (by assumption)) rfl ?_;refine za ?_;refine za ?_;refine AL.nil (th_n (AC.seq (AC.region ?_)));refine zm ?_;refine zm ?_;refine AL.p (by exact g_scmp rfl rfl rfl) rfl ?_;refine AL.nil (th_n ?_);refine AC.condD rfl (fun h1 => ?_) (fun h1 => ?_)
  ·refine AC.seq (AC.region ?_);refine zm ?_;refine za ?_;refine AL.nil (th_n (AC.ret (ib_r (th_r (th_r (ib_r (th_r (bq_r ?_))))))));have e := placeF_yes hk1 (bstr_inj h1) hall;exact retN [(6, 4)] rfl (by rw [e]; repeat (exact DLead.same)) (by rw [e]; repeat (first | exact True.intro | refine And.intro ?_ ?_ | exact DLead.same | exact rfl | refine ⟨_, _, rfl, rfl, ?_⟩ | refine ⟨_, rfl, ?_⟩ | refine ⟨_, _, rfl, ?_, ?_⟩)) rfl rfl
  refine AC.skip (ib_n (th_n (AC.region ?_)));refine zA ?_;refine zm ?_;refine AL.nil (th_n ?_);exact ⟨k + 1, ⟨by omega, fun j hj hj2 => by rcases Nat.lt_succ_iff_lt_or_eq.1 hj2 with h | rfl; exact hall j hj h; exact fun e => h1 (by rw [e])⟩, by omega, zw [] hC⟩
 refine AC.exit (th_e (th_e (ib_y (th_n (AC.seq ?_)))));have e := placeF_no (fun j hj => hall j hj (by omega));have hln : (b.ps ++ [nm]).length = b.ps.length + 1 := by simp
 refine AC.region ?_;refine AL.p (by exact mv3 rfl) rfl ?_;refine AL.p (by exact mv3 rfl) rfl ?_;refine AL.p (by exact g_nilP rfl) rfl ?_;refine zF ?_;refine zl ?_;refine zm ?_;refine AL.q (by exact h_litF rfl rfl rfl rfl rfl rfl rfl rfl) rfl ?_;refine AL.q (by exact h_appendSx b.ps [nm] (.own rfl rfl (sxL_len _).symm) (.view rfl) (by omega) (by simp)) rfl ?_;refine AL.p (by exact g_nilP rfl) rfl ?_;refine zF ?_;refine zs ?_;refine AL.nil (th_n (AC.seq (AC.region ?_)));refine AL.p (by exact mv3 rfl) rfl ?_;refine AL.p (by exact g_nilP rfl) rfl ?_;refine zF ?_;refine zF ?_;refine zl ?_;refine AL.p (by exact g_saddB (a := b.start) (b := [48]) rfl rfl (by simp only [List.length_cons, List.length_nil]; omega)) rfl ?_;refine AL.p (by exact g_nilP rfl) rfl ?_;refine zF ?_;refine zF ?_;refine zs ?_;refine AL.nil (th_n (AC.seq (AC.region ?_)));refine AL.p (by exact mv3 rfl) rfl ?_;refine AL.p (by exact g_nilP rfl) rfl ?_;refine zF ?_;refine zF ?_;refine zF ?_;refine zl ?_;refine zA ?_;refine AL.p (by exact g_nilP rfl) rfl ?_;refine zF ?_;refine zF ?_;refine zF ?_;refine zs ?_;refine AL.nil (th_n (AC.seq (AC.region ?_)));refine AL.p (by exact mv3 rfl) rfl ?_;refine AL.p (by exact g_nilP rfl) rfl ?_;refine zF ?_;refine zl ?_;refine AL.p (by exact g_len_own (sz := 1) (els := []) (e' := 0) rfl rfl (by simp only [maxLen]; omega)) rfl ?_;refine zA ?_;refine za ?_;refine AL.nil (th_n (AC.ret (bq_r ?_)));exact retN [(6, 144)] rfl (by rw [e]; exact DLead.eqI (by omega)) (by rw [e]; dsimp only; repeat (first | exact True.intro | refine And.intro ?_ ?_ | exact DLead.same | exact DLead.eqI (by dsimp only; omega) | exact rfl | refine ⟨_, _, rfl, rfl, ?_⟩ | refine ⟨_, rfl, ?_⟩ | refine ⟨_, _, rfl, ?_, ?_⟩)) rfl rfl
theorem en_bPlace : Enters Tryz.prog 93 := enters_of Tryz.func93 rfl rfl
def nmOf (w : List UInt8) : List UInt8 := (splitL w 47).getD 0 []
def labOf (l : List Sig) (w : List UInt8) : Lab :=
 if (((nmOf w).getD 0 0).toNat : Int) = 126 then ⟨-1, false⟩ else ⟨findI (fun x => decide (x.name = (nmOf w).take ((nmOf w).length - 1))) l, decide ((((nmOf w).getD ((nmOf w).length - 1) 0).toNat : Int) = 43)⟩
def transF (b : Bs) (w : List UInt8) : Nat × Bs :=
 if b.ws.findIdx (fun x => decide (x = w)) < b.ws.length then (b.ws.findIdx (fun x => decide (x = w)), b) else (b.ws.length, { b with ws := b.ws ++ [w], ts := b.ts ++ [⟨[], []⟩], labs := b.labs ++ [labOf b.sigs w] })
theorem transF_yes {b : Bs} {nm : List UInt8} {k : Nat} (hk : k < b.ws.length) (h : b.ws[k] = nm) (hp : ∀ j (hj : j < b.ws.length), j < k → ¬ b.ws[j] = nm) : transF b nm = (k, b) := by
 have e : b.ws.findIdx (fun x => decide (x = nm)) = k := (List.findIdx_eq hk).2 ⟨decide_eq_true h, fun j hj => by simpa using hp j (by omega) hj⟩;rw [transF, e, if_pos hk]
theorem transF_no {b : Bs} {nm : List UInt8} (hp : ∀ j (hj : j < b.ws.length), ¬ b.ws[j] = nm) : transF b nm = (b.ws.length, { b with ws := b.ws ++ [nm], ts := b.ts ++ [⟨[], []⟩], labs := b.labs ++ [labOf b.sigs nm] }) := by
 have e : b.ws.findIdx (fun x => decide (x = nm)) = b.ws.length := List.findIdx_eq_length.2 (fun x hx => by obtain ⟨j, hj, rfl⟩ := List.getElem_of_mem hx; simpa using hp j hj);rw [transF, e, if_neg (Nat.lt_irrefl _)]
theorem splitL_pos (s : List UInt8) (b : UInt8) : 0 < (splitL s b).length := by unfold splitL; rw [List.length_append]; simp
theorem splitL_get0 (s : List UInt8) (b : UInt8) : (sxL (splitL s b))[0]? = some [dS (bstr ((splitL s b).getD 0 []))] := by
 have h := splitL_pos s b;rw [sxL_get h, List.getD_eq_getElem?_getD, List.getElem?_eq_getElem h]; rfl
theorem tsNil (l : List Tn) : ∀ (i : Nat) (cs' : List DV), (tsL (l ++ [⟨[], []⟩]))[i]? = some cs' → ∃ cs, (tsL l ++ [[.val (.slice none 0 0), .val (.slice none 0 0)]])[i]? = some cs ∧ cs'.length = cs.length ∧ ∀ (j : Nat) (d' : DV), cs'[j]? = some d' → ∃ d, cs[j]? = some d ∧ DTo d d' := by
 intro i cs' h;rw [tsL, List.map_append] at h;rcases Nat.lt_or_ge i (tsL l).length with hi | hi
 ·rw [List.getElem?_append_left hi] at h;exact ⟨cs', by rw [List.getElem?_append_left hi]; exact h, rfl, fun j d' hj => ⟨d', hj, .refl _⟩⟩
 rw [List.getElem?_append_right hi] at h;rw [List.getElem?_append_right hi]
 change ([tnD ⟨[], []⟩] : List (List DV))[i - (tsL l).length]? = _ at h
 generalize i - (tsL l).length = q at h ⊢
 match q, h with
 | 0, h =>
  simp only [List.getElem?_cons_zero, Option.some.injEq] at h;subst h;refine ⟨_, rfl, rfl, fun j d' hj => ?_⟩
  match j, hj with
  | 0, hj => simp only [List.getElem?_cons_zero, Option.some.injEq] at hj; subst hj; exact ⟨_, rfl, .nil⟩
  | 1, hj => simp only [List.getElem?_cons_succ, List.getElem?_cons_zero, Option.some.injEq] at hj; subst hj; exact ⟨_, rfl, .nil⟩
set_option maxHeartbeats 4000000 in
theorem bTrans_spec (b : Bs) (w : List UInt8) (hb : BsL b) (hw : w.length ≤ 1000000) (h0 : 0 < (nmOf w).length) : ASpec Tryz.prog 94 [.ptr 0 0, aS (bstr w)] (bChs b 1 2 3 4 5) (Fun1 (aI (transF b w).1) (bChs (transF b w).2 6 2 7 4 8)) := by
 have hws := hb.w;have hts := hb.t;have hls := hb.l;have hsg := hb.s;have hS := l1Split_spec w 47 hw;have hS0 := splitL_get0 w 47
 have hnl : (nmOf w).length ≤ w.length := by
  unfold nmOf splitL;rw [List.getD_eq_getElem?_getD];cases e : ((splitK w 47 w.length).1 ++ [w.drop (splitK w 47 w.length).2])[0]? with
  | none => simp
  | some x => exact splitL_mem (List.mem_of_getElem? e)
 have hn0 : (bstr (nmOf w)).data.toList[0]? = some ((nmOf w).getD 0 0) := bstr_getD h0;have hnz : (bstr (nmOf w)).data.toList[(nmOf w).length - 1]? = some ((nmOf w).getD ((nmOf w).length - 1) 0) := bstr_getD (by omega);have hnc : (bstr (nmOf w)).extract 0 ((nmOf w).length - 1) = bstr ((nmOf w).take ((nmOf w).length - 1)) := bstr_cut _ (Nat.zero_le _) (by omega);have hsz := bstr_size (nmOf w);have hL := l2Signal_spec b.sigs (by omega) ((nmOf w).take ((nmOf w).length - 1));have hlab : labOf b.sigs w = if (((nmOf w).getD 0 0).toNat : Int) = 126 then ⟨-1, false⟩ else ⟨findI (fun x => decide (x.name = (nmOf w).take ((nmOf w).length - 1))) b.sigs, decide ((((nmOf w).getD ((nmOf w).length - 1) 0).toNat : Int) = 43)⟩ := rfl
 have hnm : (splitL w 47).getD 0 [] = nmOf w := rfl;rw [hnm] at hS0;obtain ⟨nm, hnmE⟩ := eqx (nmOf w);rw [← hnmE] at h0 hS0 hnl hn0 hnz hnc hsz hL hlab;obtain ⟨sp, hsp⟩ := eqx (splitL w 47);rw [← hsp] at hS hS0;refine ASpec.of Tryz.func94 rfl rfl fun C hC => ?_
 refine AC.seq (AC.region ?_);refine za ?_;refine AL.nil (th_n (AC.seq (AC.seq (AC.region ?_))));refine AL.p (by exact mv3 rfl) rfl ?_;refine AL.p (by exact g_nilP rfl) rfl ?_;refine zF ?_;refine zl ?_;refine AL.p (by exact g_len_own (sz := 1) (els := []) (e' := 0) rfl rfl (by simp only [maxLen]; omega)) rfl ?_;refine zm ?_;refine AL.nil (th_n (AC.block ?_));refine AC.loop (ι := Nat) (fun k => ⟨92, 136, [(0, .ptr 0 0), (1, aS (bstr w)), (12, .own 5 b.ws.length), (13, aI b.ws.length), (14, aI k)], chL (bChs b 1 2 3 4 5)⟩) (fun k => k ≤ b.ws.length ∧ ∀ j (hj : j < b.ws.length), j < k → ¬ b.ws[j] = w) (fun k => b.ws.length - k) (0) ?_ (⟨Nat.zero_le _, fun j _ hj => by omega⟩) ?_
 ·exact zw [] hC
 intro k ⟨hk, hall⟩;refine AC.seq (AC.region ?_);refine zc ?_;refine AL.nil (th_n (AC.seq ?_));refine AC.condD rfl (fun h0 => ?_) (fun h0 => ?_)
 ·refine AC.skip (th_n (AC.seq (AC.block (AC.seq ?_))));have hk1 : k < b.ws.length := by omega
  have hget := sxL_get hk1;refine AC.region ?_;refine zm ?_;refine AL.p (by exact g_ia_own rfl rfl rfl rfl rfl (by rfl) (by omega) (by exact Nat.mul_one _)) rfl ?_;refine AL.p (by exact g_load_arr1 rfl rfl rfl rfl (by assumption)) rfl ?_;refine za ?_;refine za ?_;refine AL.nil (th_n (AC.seq (AC.region ?_)));refine zm ?_;refine zm ?_;refine AL.p (by exact g_scmp rfl rfl rfl) rfl ?_;refine AL.nil (th_n ?_);refine AC.condD rfl (fun h1 => ?_) (fun h1 => ?_)
  ·refine AC.seq (AC.region ?_);refine zm ?_;refine za ?_;refine AL.nil (th_n (AC.ret (ib_r (th_r (th_r (ib_r (th_r (bq_r ?_))))))));have e := transF_yes hk1 (bstr_inj h1) hall;exact retN [(6, 1), (7, 3), (8, 5)] rfl (by rw [e]; repeat (exact DLead.same)) (by rw [e]; repeat (first | exact True.intro | refine And.intro ?_ ?_ | exact DLead.same | exact rfl | refine ⟨_, _, rfl, rfl, ?_⟩ | refine ⟨_, rfl, ?_⟩ | refine ⟨_, _, rfl, ?_, ?_⟩)) rfl rfl
  refine AC.skip (ib_n (th_n (AC.region ?_)));refine zA ?_;refine zm ?_;refine AL.nil (th_n ?_);exact ⟨k + 1, ⟨by omega, fun j hj hj2 => by rcases Nat.lt_succ_iff_lt_or_eq.1 hj2 with h | rfl; exact hall j hj h; exact fun e => h1 (by rw [e])⟩, by omega, zw [] hC⟩
 refine AC.exit (th_e (th_e (ib_y (th_n (AC.seq ?_)))));have e := transF_no (fun j hj => hall j hj (by omega));have hln : (b.ws ++ [w]).length = b.ws.length + 1 := by simp
 have hlt : (b.ts ++ [(⟨[], []⟩ : Tn)]).length = b.ts.length + 1 := by simp
 refine AC.region ?_;refine AL.p (by exact mv3 rfl) rfl ?_;refine AL.p (by exact mv3 rfl) rfl ?_;refine AL.p (by exact g_nilP rfl) rfl ?_;refine zF ?_;refine zl ?_;refine zm ?_;refine AL.q (by exact h_litF rfl rfl rfl rfl rfl rfl rfl rfl) rfl ?_;refine AL.q (by exact h_appendSx b.ws [w] (.own rfl rfl (sxL_len _).symm) (.view rfl) (by omega) (by simp)) rfl ?_;refine AL.p (by exact g_nilP rfl) rfl ?_;refine zF ?_;refine zs ?_;refine AL.nil (th_n (AC.seq (AC.region ?_)));refine zm ?_;refine kV en_l1Split hS ?_;refine AL.p (by exact g_ia_view (i := 0) rfl rfl rfl rfl rfl rfl hS0) rfl ?_;refine zr ?_;refine za ?_;refine AL.nil (th_n (AC.seq (AC.region ?_)));refine AL.p (by exact g_build rfl rfl rfl) rfl ?_;refine kE ?_;refine zs ?_;refine AL.nil (th_n ?_);refine AC.cut (fun (x : Lab) => ⟨92, 200, [(0, .ptr 0 0), (8, .ptr 101 0)], [(0, some (.cells 101 [aI b.ps.length, .own 1 b.ts.length, .own 2 b.sigs.length, .own 3 b.labs.length, aS (bstr b.start), .own 4 b.ps.length, .own 100 (b.ws ++ [w]).length])), (1, some (.arr 138 2 (tsL b.ts))), (2, some (.arr 87 2 (sigsL b.sigs))), (3, some (.arr 115 2 (labsL b.labs))), (4, some (.arr 9 1 (sxL b.ps))), (100, some (.arr 9 1 (sxL (b.ws ++ [w])))), (101, some (.cells 115 [aI x.sig, aT x.up]))]⟩) (fun x => x = labOf b.sigs w) ?_ ?_
 ·refine AC.seq (AC.region ?_);refine zm ?_;refine AL.p (by exact g_index rfl rfl rfl (by rfl) (by assumption)) rfl ?_;refine zc ?_;refine AL.nil (th_n ?_);refine AC.condND rfl (fun h1 => ?_) (fun h1 => ?_)
  ·refine AC.drawn' mixed_ok [[], [0], [0,1], [0,1,2], [0,1,2,3], [], [], [6], [6,7], [5,6,7,8], [0,1,2,3,4,5,6,7,8,9], [], [], [12], [12,13], [11,12,13,14], [11,12,13,14,15], [0,1,2,3,4,5,6,7,8,9,10,11,12,13,14,15,16], [0,1,2,3,4,5,6,7,8,9,10,11,12,13,14,15,16,17]] (by decide) ?_;refine zd 0 [] 19 (by exact mv3 rfl) ?_;refine zd 1 [0] 19 (by exact g_nilP rfl) ?_;refine zd 2 [0,1] 19 (by exact g_fa_ptr rfl rfl rfl rfl rfl) ?_;refine zd 3 [0,1,2] 19 (by exact g_fa_ptr rfl rfl rfl rfl rfl) ?_;refine zd 4 [0,1,2,3] 19 (by exact g_load_ptr rfl rfl rfl rfl rfl) ?_;refine zd 5 [] 19 (by exact mv1 rfl) ?_;refine zd 6 [] 19 (by exact mv1 rfl) ?_;refine zd 7 [6] 19 (by exact g_len_str (k := nm.length) rfl rfl hsz) ?_;refine zd 8 [6,7] 19 (by exact g_arith rfl rfl rfl (by exact wrap_i64 (by omega))) ?_;refine zd 9 [5,6,7,8] 19 (by exact g_slice_str (l := 0) (h := nm.length - 1) rfl rfl .none (.some rfl (by omega)) (Nat.zero_le _) (by rw [hsz]; omega) hnc) ?_;refine zh 10 (List.range 10) 19 (by exact h_borrow [2] en_l2Signal rfl rfl hL (.cons (.of (.own (id := 2) rfl rfl (ownl _ _) (ownt _ _))) (.cons (.of .d) .nil)) rfl) ?_;refine zd 11 [] 19 (by exact mv1 rfl) ?_;refine zd 12 [] 19 (by exact mv1 rfl) ?_;refine zd 13 [12] 19 (by exact g_len_str (k := nm.length) rfl rfl hsz) ?_;refine zd 14 [12,13] 19 (by exact g_arith rfl rfl rfl (by exact wrap_i64 (by omega))) ?_;refine zd 15 [11,12,13,14] 19 (by exact g_index (i := nm.length - 1) rfl rfl rfl (by omega) hnz) ?_;refine zd 16 [11,12,13,14,15] 19 (by exact g_cmp rfl rfl rfl) ?_;refine zd 17 (List.range 17) 19 (by exact g_build rfl rfl rfl) ?_;refine zh 18 (List.range 18) 19 (by exact h_store rfl rfl rfl rfl rfl rfl) ?_;refine zj 19 ?_;refine th_n ?_
   (have e2 := hlab.trans (if_neg h1); exact ⟨_, e2.symm, zw [(100, 144), (101, 168)] hC⟩)
  refine AC.skip (th_n ?_)
  (have e2 := hlab.trans (if_pos h1); exact ⟨_, e2.symm, zw [(100, 144), (101, 168)] hC⟩)
 rintro x hx;refine AC.seq (AC.region ?_);refine AL.p (by exact mv3 rfl) rfl ?_;refine AL.p (by exact mv3 rfl) rfl ?_;refine AL.p (by exact g_nilP rfl) rfl ?_;refine zF ?_;refine zF ?_;refine zF ?_;refine zl ?_;refine AL.p (by exact g_build rfl rfl rfl) rfl ?_;refine AL.q (by exact h_litF rfl rfl rfl rfl rfl rfl rfl rfl) rfl ?_;refine AL.q (by exact h_append (els := tsL b.ts) (new := [[.val (.slice none 0 0), .val (.slice none 0 0)]]) (k := (b.ts ++ [(⟨[], []⟩ : Tn)]).length) rfl rfl rfl rfl rfl rfl (.own rfl rfl (List.length_map _).symm) (.view rfl) (by simp) (by rw [hlt]; omega) (by rw [hlt]; show (b.ts.length + 1) * 48 ≤ _; omega) (by simp)) rfl ?_;refine AL.weak (Weak.arrTo 208 (els' := tsL (b.ts ++ [⟨[], []⟩])) rfl (by simp) (tsNil b.ts)) ?_;refine AL.p (by exact g_nilP rfl) rfl ?_;refine zF ?_;refine zF ?_;refine zF ?_;refine zs ?_;refine AL.nil (th_n (AC.seq ?_));refine AC.drawn' mixed_ok [[], [], [1], [1,2], [1,2,3], [1,2,3,4], [], [6], [1,2,3,4,5,6,7], [0,1,2,3,4,5,6,7,8], [0,1,2,3,4,5,6,7,8,9], [0,1,2,3,4,5,6,7,8,9,10], [0,1,2,3,4,5,6,7,8,9,10,11]] (by decide) ?_;refine zd 0 [] 13 (by exact mv3 rfl) ?_;refine zd 1 [] 13 (by exact mv3 rfl) ?_;refine zd 2 [1] 13 (by exact g_nilP rfl) ?_;refine zd 3 [1,2] 13 (by exact g_fa_ptr rfl rfl rfl rfl rfl) ?_;refine zd 4 [1,2,3] 13 (by exact g_fa_ptr rfl rfl rfl rfl rfl) ?_;refine zd 5 [1,2,3,4] 13 (by exact g_load_ptr rfl rfl rfl rfl rfl) ?_;refine zd 6 [] 13 (by exact g_load_ptrN rfl rfl rfl rfl rfl) ?_;refine zh 7 [6] 13 (by exact h_litF rfl rfl rfl rfl rfl rfl rfl rfl) ?_;refine zh 8 [1,2,3,4,5,6,7] 13 (by exact h_appendLx b.labs [x] (.own rfl rfl (labsL_len _).symm) (.view rfl) (by rw [List.length_append]; simp only [List.length_cons, List.length_nil]; omega) (by simp)) ?_;refine zd 9 (List.range 9) 13 (by exact g_nilP rfl) ?_;refine zd 10 (List.range 10) 13 (by exact g_fa_ptr rfl rfl rfl rfl rfl) ?_;refine zd 11 (List.range 11) 13 (by exact g_fa_ptr rfl rfl rfl rfl rfl) ?_;refine zh 12 (List.range 12) 13 (by exact h_store rfl rfl rfl rfl rfl rfl) ?_;refine zj 13 ?_;refine th_n (AC.seq (AC.region ?_));refine AL.p (by exact mv3 rfl) rfl ?_;refine AL.p (by exact g_nilP rfl) rfl ?_;refine zF ?_;refine zl ?_;refine AL.p (by exact g_len_own (sz := 1) (els := []) (e' := 0) rfl rfl (by simp only [maxLen]; omega)) rfl ?_;refine zA ?_;refine za ?_;refine AL.nil (th_n (AC.ret (bq_r ?_)));subst hx;exact retN [(6, 208), (7, 288), (8, 100)] rfl (by rw [e]; exact DLead.eqI (by omega)) (by rw [e]; dsimp only; repeat (first | exact True.intro | refine And.intro ?_ ?_ | exact DLead.same | exact rfl | refine ⟨_, _, rfl, rfl, ?_⟩ | refine ⟨_, rfl, ?_⟩ | refine ⟨_, _, rfl, ?_, ?_⟩)) rfl rfl
theorem en_bTrans : Enters Tryz.prog 94 := enters_of Tryz.func94 rfl rfl
structure BsM (n : Nat) (b : Bs) : Prop where
 s : b.sigs.length ≤ n
 t : b.ts.length ≤ n
 l : b.labs.length ≤ n
 st : b.start.length ≤ n
 p : b.ps.length ≤ n
 w : b.ws.length ≤ n
 pp : ∀ t, t ∈ b.ts → t.pre.length ≤ n ∧ t.post.length ≤ n
 wt : b.ws.length = b.ts.length
 lt : b.labs.length = b.ts.length
 sp : b.start.length = b.ps.length
theorem BsM.L {n : Nat} {b : Bs} (h : BsM n b) (hn : n ≤ 100000) : BsL b := ⟨by have := h.s; omega, by have := h.t; omega, by have := h.l; omega, by have := h.st; omega, by have := h.p; omega, by have := h.w; omega⟩
theorem BsM.mono {n m : Nat} {b : Bs} (h : BsM n b) (hm : n ≤ m) : BsM m b := ⟨by have := h.s; omega, by have := h.t; omega, by have := h.l; omega, by have := h.st; omega, by have := h.p; omega, by have := h.w; omega, fun t ht => by have := h.pp t ht; omega, h.wt, h.lt, h.sp⟩
theorem placeF_M {n : Nat} {b : Bs} (h : BsM n b) (nm : List UInt8) : BsM (n + 1) (placeF b nm).2 ∧ (placeF b nm).1 < (placeF b nm).2.ps.length := by
 have h1 := h.s; have h2 := h.t; have h3 := h.l; have h4 := h.st; have h5 := h.p; have h6 := h.w; have h7 := h.wt; have h8 := h.lt; have h9 := h.sp;have hpp : ∀ t, t ∈ b.ts → t.pre.length ≤ n + 1 ∧ t.post.length ≤ n + 1 := fun t ht => by have := h.pp t ht; omega
 unfold placeF
 split
 ·rename_i hk;exact ⟨h.mono (by omega), hk⟩
 exact ⟨⟨by dsimp only; omega, by dsimp only; omega, by dsimp only; omega, by simp; omega, by simp; omega, by dsimp only; omega, hpp, h7, h8, by simp; omega⟩, by simp⟩
theorem transF_M {n : Nat} {b : Bs} (h : BsM n b) (w : List UInt8) : BsM (n + 1) (transF b w).2 ∧ (transF b w).1 < (transF b w).2.ts.length ∧ (transF b w).2.ps = b.ps := by
 have h1 := h.s; have h2 := h.t; have h3 := h.l; have h4 := h.st; have h5 := h.p; have h6 := h.w; have h7 := h.wt; have h8 := h.lt; have h9 := h.sp;have hpp : ∀ t, t ∈ b.ts → t.pre.length ≤ n + 1 ∧ t.post.length ≤ n + 1 := fun t ht => by have := h.pp t ht; omega
 unfold transF
 split
 ·rename_i hk;exact ⟨h.mono (by omega), by dsimp only; omega, rfl⟩
 exact ⟨⟨by dsimp only; omega, by simp; omega, by simp; omega, by dsimp only; omega, by dsimp only; omega, by simp; omega, (fun t ht => by
  rcases List.mem_append.1 ht with ht | ht
  ·exact hpp t ht
  rw [List.mem_singleton] at ht; subst ht; simp), by simp; omega, by simp; omega, h9⟩, by simp; omega, rfl⟩
def tnAt (l : List Tn) (k : Nat) : Tn := l.getD k ⟨[], []⟩
theorem tnAt_nat {l : List Tn} {k : Nat} (h : k < l.length) : tnAt l k = l[k] := by unfold tnAt; rw [List.getD_eq_getElem?_getD, List.getElem?_eq_getElem h]; rfl
def setPoF (b : Bs) (t : Nat) (p : Int) : Bs := { b with ts := b.ts.set t ⟨(tnAt b.ts t).pre, putI (tnAt b.ts t).post p⟩ }
def setPrF (b : Bs) (t : Nat) (p : Int) : Bs := { b with ts := b.ts.set t ⟨putI (tnAt b.ts t).pre p, (tnAt b.ts t).post⟩ }
def postF (b : Bs) (w : List UInt8) (p : Int) : Bs := if ((w.getD 0 0).toNat : Int) = 95 then b else setPoF (transF b w).2 (transF b w).1 p
def preF (b : Bs) (w : List UInt8) (p : Int) : Bs := if ((w.getD 0 0).toNat : Int) = 95 then b else setPrF (transF b w).2 (transF b w).1 p
theorem tnAt_M {n : Nat} {b : Bs} (h : BsM n b) (t : Nat) : (tnAt b.ts t).pre.length ≤ n ∧ (tnAt b.ts t).post.length ≤ n := by
 rcases Nat.lt_or_ge t b.ts.length with ht | ht
 ·rw [tnAt_nat ht]; exact h.pp _ (List.getElem_mem ht)
 unfold tnAt; rw [List.getD_eq_getElem?_getD, List.getElem?_eq_none ht]; simp
theorem setF_M {n : Nat} {b : Bs} (h : BsM n b) (t : Nat) {x : Tn} (hx : x.pre.length ≤ n + 1 ∧ x.post.length ≤ n + 1) : BsM (n + 1) { b with ts := b.ts.set t x } := by
 have h1 := h.s; have h2 := h.t; have h3 := h.l; have h4 := h.st; have h5 := h.p; have h6 := h.w; have h7 := h.wt; have h8 := h.lt; have h9 := h.sp;refine ⟨by dsimp only; omega, by rw [List.length_set]; omega, by dsimp only; omega, by dsimp only; omega, by dsimp only; omega, by dsimp only; omega, fun y hy => ?_, by rw [List.length_set]; exact h7, by rw [List.length_set]; exact h8, h9⟩;rcases List.mem_or_eq_of_mem_set hy with hy | rfl
 ·have := h.pp y hy; omega
 exact hx
theorem postF_M {n : Nat} {b : Bs} (h : BsM n b) (w : List UInt8) (p : Int) : BsM (n + 2) (postF b w p) ∧ (postF b w p).ps = b.ps := by
 unfold postF
 split
 ·exact ⟨h.mono (by omega), rfl⟩
 have ht := transF_M h w;have h2 := tnAt_M ht.1 (transF b w).1;exact ⟨setF_M ht.1 _ ⟨by dsimp only; omega, by have := putI_len (tnAt (transF b w).2.ts (transF b w).1).post p; dsimp only; omega⟩, ht.2.2⟩
theorem preF_M {n : Nat} {b : Bs} (h : BsM n b) (w : List UInt8) (p : Int) : BsM (n + 2) (preF b w p) ∧ (preF b w p).ps = b.ps := by
 unfold preF
 split
 ·exact ⟨h.mono (by omega), rfl⟩
 have ht := transF_M h w;have h2 := tnAt_M ht.1 (transF b w).1;exact ⟨setF_M ht.1 _ ⟨by have := putI_len (tnAt (transF b w).2.ts (transF b w).1).pre p; dsimp only; omega, by dsimp only; omega⟩, ht.2.2⟩
def arcT (t : List UInt8) : List UInt8 := if ((t.getD 0 0).toNat : Int) = 42 then t.drop 1 else t
def arcA (t : List UInt8) : List UInt8 := (splitL (arcT t) 62).getD 0 []
def arcB (t : List UInt8) : List UInt8 := (splitL (arcT t) 62).getD 1 []
def arcM (t : List UInt8) : List UInt8 := if (((arcA t).getD 0 0).toNat : Int) = 95 then arcA t else arcT t
def arcN (t : List UInt8) : List UInt8 := if (((arcB t).getD 0 0).toNat : Int) = 95 then arcB t else arcM t
def markP (m : Bool) (b : Bs) (p : Nat) : Bs := if m = true then { b with start := b.start.take p ++ [49] ++ b.start.drop (p + 1) } else b
def arcF (b : Bs) (t : List UInt8) : Bs :=
 markP (decide (((t.getD 0 0).toNat : Int) = 42)) (preF (postF (placeF b (arcN t)).2 (arcA t) (placeF b (arcN t)).1) (arcB t) (placeF b (arcN t)).1) (placeF b (arcN t)).1
def arcOk (t : List UInt8) : Bool := decide (0 < t.length) && decide (2 ≤ (splitL (arcT t) 62).length) && decide (0 < (arcA t).length) && decide (0 < (arcB t).length) && decide (0 < (nmOf (arcA t)).length) && decide (0 < (nmOf (arcB t)).length)
theorem markP_M {n : Nat} {b : Bs} (h : BsM n b) (m : Bool) {p : Nat} (hp : p < b.ps.length) : BsM n (markP m b p) := by
 unfold markP
 split
 ·have h9 := h.sp;have h10 := h.st;exact ⟨h.s, h.t, h.l, by simp; omega, h.p, h.w, h.pp, h.wt, h.lt, by simp; omega⟩
 exact h
theorem arcF_M {n : Nat} {b : Bs} (h : BsM n b) (t : List UInt8) : BsM (n + 5) (arcF b t) := by
 have h1 := placeF_M h (arcN t);have h2 := postF_M h1.1 (arcA t) (placeF b (arcN t)).1;have h3 := preF_M h2.1 (arcB t) (placeF b (arcN t)).1;exact markP_M h3.1 _ (by rw [h3.2, h2.2]; exact h1.2)
theorem arc_sizes (t : List UInt8) : (arcT t).length ≤ t.length ∧ (arcA t).length ≤ t.length ∧ (arcB t).length ≤ t.length ∧ (arcN t).length ≤ t.length := by
 have h1 : (arcT t).length ≤ t.length := by unfold arcT; split <;> simp
 have hg : ∀ k, ((splitL (arcT t) 62).getD k []).length ≤ (arcT t).length := by
  intro k;rw [List.getD_eq_getElem?_getD];cases e : (splitL (arcT t) 62)[k]? with
  | none => simp
  | some x => exact splitL_mem (List.mem_of_getElem? e)
 have h2 : (arcA t).length ≤ t.length := Nat.le_trans (hg 0) h1;have h3 : (arcB t).length ≤ t.length := Nat.le_trans (hg 1) h1;refine ⟨h1, h2, h3, ?_⟩;unfold arcN arcM
 split
 ·exact h3
 split
 ·exact h2
 exact h1
theorem tsSetPo (b : Bs) {t : Nat} (ht : t < b.ts.length) (p : Int) : (tsL b.ts).set t ([vI b.ts[t].pre, vI b.ts[t].post].set 1 (vI (putI b.ts[t].post p))) = tsL (setPoF b t p).ts := by
 unfold setPoF tsL;rw [tnAt_nat ht, List.map_set]; rfl
theorem tsSetPr (b : Bs) {t : Nat} (ht : t < b.ts.length) (p : Int) : (tsL b.ts).set t ([vI b.ts[t].pre, vI b.ts[t].post].set 0 (vI (putI b.ts[t].pre p))) = tsL (setPrF b t p).ts := by
 unfold setPrF tsL;rw [tnAt_nat ht, List.map_set]; rfl
theorem setPoF_len (b : Bs) (t : Nat) (p : Int) : (setPoF b t p).ts.length = b.ts.length := List.length_set ..
theorem setPrF_len (b : Bs) (t : Nat) (p : Int) : (setPrF b t p).ts.length = b.ts.length := List.length_set ..
set_option maxHeartbeats 8000000 in
theorem bArc_spec (n : Nat) (b : Bs) (t : List UInt8) (hb : BsM n b) (hn : n ≤ 90000) (ht : t.length ≤ 100000) (hok : arcOk t = true) : ASpec Tryz.prog 67 [.ptr 0 0, aS (bstr t)] (bChs b 1 2 3 4 5) (Fun1 (.tup []) (bChs (arcF b t) 6 2 7 8 9)) := by
 have hsizes := arc_sizes t;simp only [arcOk, Bool.and_eq_true, decide_eq_true_eq] at hok;obtain ⟨⟨⟨⟨⟨ho1, ho2⟩, ho3⟩, ho4⟩, ho5⟩, ho6⟩ := hok;have hP := placeF_M hb (arcN t);have hPs := bPlace_spec b (arcN t) (hb.L (by omega));have hQ := postF_M hP.1 (arcA t) (placeF b (arcN t)).1;have hR := preF_M hQ.1 (arcB t) (placeF b (arcN t)).1;have hT1 := transF_M hP.1 (arcA t);have hT1s := bTrans_spec (placeF b (arcN t)).2 (arcA t) (hP.1.L (by omega)) (by omega) ho5;have hT2 := transF_M hQ.1 (arcB t);have hT2s := bTrans_spec (postF (placeF b (arcN t)).2 (arcA t) (placeF b (arcN t)).1) (arcB t) (hQ.1.L (by omega)) (by omega) ho6;have hA : arcF b t = markP (decide (((t.getD 0 0).toNat : Int) = 42)) (preF (postF (placeF b (arcN t)).2 (arcA t) (placeF b (arcN t)).1) (arcB t) (placeF b (arcN t)).1) (placeF b (arcN t)).1 := rfl;have hps : (preF (postF (placeF b (arcN t)).2 (arcA t) (placeF b (arcN t)).1) (arcB t) (placeF b (arcN t)).1).ps = (placeF b (arcN t)).2.ps := by rw [hR.2, hQ.2]
 have hS := l1Split_spec (arcT t) 62 (by omega);have hg0 : (sxL (splitL (arcT t) 62))[0]? = some [dS (bstr (arcA t))] := splitL_get0 _ _;have hg1 : (sxL (splitL (arcT t) 62))[1]? = some [dS (bstr (arcB t))] := by rw [sxL_get (by omega)]; unfold arcB; rw [List.getD_eq_getElem?_getD, List.getElem?_eq_getElem (by omega)]; rfl
 have hi0 : (bstr t).data.toList[0]? = some (t.getD 0 0) := bstr_getD ho1;have hd1 : (bstr t).extract 1 (bstr t).size = bstr (t.drop 1) := by rw [bstr_size, bstr_cut t ho1 (Nat.le_refl _), List.take_length]
 have hia : (bstr (arcA t)).data.toList[0]? = some ((arcA t).getD 0 0) := bstr_getD ho3;have hib : (bstr (arcB t)).data.toList[0]? = some ((arcB t).getD 0 0) := bstr_getD ho4;have hTe : arcT t = if ((t.getD 0 0).toNat : Int) = 42 then t.drop 1 else t := rfl
 have hMe : arcM t = if (((arcA t).getD 0 0).toNat : Int) = 95 then arcA t else arcT t := rfl
 have hNe : arcN t = if (((arcB t).getD 0 0).toNat : Int) = 95 then arcB t else arcM t := rfl
 have hQe : postF (placeF b (arcN t)).2 (arcA t) (placeF b (arcN t)).1 = if (((arcA t).getD 0 0).toNat : Int) = 95 then (placeF b (arcN t)).2 else setPoF (transF (placeF b (arcN t)).2 (arcA t)).2 (transF (placeF b (arcN t)).2 (arcA t)).1 (placeF b (arcN t)).1 := rfl
 have hRe : preF (postF (placeF b (arcN t)).2 (arcA t) (placeF b (arcN t)).1) (arcB t) (placeF b (arcN t)).1 = if (((arcB t).getD 0 0).toNat : Int) = 95 then postF (placeF b (arcN t)).2 (arcA t) (placeF b (arcN t)).1 else setPrF (transF (postF (placeF b (arcN t)).2 (arcA t) (placeF b (arcN t)).1) (arcB t)).2 (transF (postF (placeF b (arcN t)).2 (arcA t) (placeF b (arcN t)).1) (arcB t)).1 (placeF b (arcN t)).1 := rfl
 have hts1 := hT1.1.t;have hts2 := hT2.1.t;have htt1 := tnAt_M hT1.1 (transF (placeF b (arcN t)).2 (arcA t)).1;have htt2 := tnAt_M hT2.1 (transF (postF (placeF b (arcN t)).2 (arcA t) (placeF b (arcN t)).1) (arcB t)).1;have hst := hR.1.st;have hsp := hR.1.sp;have hPp := hP.2;rw [hps] at hsp;obtain ⟨p, hpE⟩ := eqx ((placeF b (arcN t)).1);obtain ⟨b1, hb1E⟩ := eqx ((placeF b (arcN t)).2);rw [← hpE, ← hb1E] at hPs hQ hR hT2 hT2s hA hQe hRe hst hsp hts2 htt2 hPp;rw [← hb1E] at hT1 hT1s hts1 htt1;obtain ⟨b2, hb2E⟩ := eqx (postF b1 (arcA t) p);rw [← hb2E] at hR hT2 hT2s hA hQe hRe hst hsp hts2 htt2;obtain ⟨b3, hb3E⟩ := eqx (preF b2 (arcB t) p);rw [← hb3E] at hA hRe hst hsp;obtain ⟨c1, hc1E⟩ := eqx (transF b1 (arcA t));rw [← hc1E] at hT1 hT1s hts1 htt1 hQe;obtain ⟨c2, hc2E⟩ := eqx (transF b2 (arcB t));rw [← hc2E] at hT2 hT2s hts2 htt2 hRe;obtain ⟨nm, hnmE⟩ := eqx (arcN t);rw [← hnmE] at hPs hNe;obtain ⟨txt, htxt⟩ := eqx (arcT t);rw [← htxt] at hS hg0 hg1 hTe hMe;obtain ⟨fr, hfr⟩ := eqx (arcA t);rw [← hfr] at hg0 hia hMe hQe hT1s;obtain ⟨to, hto⟩ := eqx (arcB t);rw [← hto] at hg1 hib hNe hRe hT2s;obtain ⟨sp, hspE⟩ := eqx (splitL txt 62);rw [← hspE] at hS hg0 hg1;obtain ⟨nn, hnn⟩ := eqx (arcM t);rw [← hnn] at hMe hNe;have hrow1 := tsL_get hT1.2.1;have hrow2 := tsL_get hT2.2.1;have hset1 := tsSetPo c1.2 hT1.2.1 p;have hset2 := tsSetPr c2.2 hT2.2.1 p;have hsl1 := setPoF_len c1.2 c1.1 p;have hsl2 := setPrF_len c2.2 c2.1 p;rw [tnAt_nat hT1.2.1] at htt1;rw [tnAt_nat hT2.2.1] at htt2;clear hpE hb1E hb2E hb3E hc1E hc2E hnmE htxt hfr hto hspE hnn;have hcutA : (bstr b3.start).extract 0 p = bstr (b3.start.take p) := bstr_cut b3.start (Nat.zero_le _) (by omega);have hcutB : (bstr b3.start).extract (p + 1) (bstr b3.start).size = bstr (b3.start.drop (p + 1)) := by rw [bstr_size, bstr_cut b3.start (by omega) (Nat.le_refl _), List.take_length]
 refine ASpec.of Tryz.func67 rfl rfl fun C hC => ?_
 refine AC.seq (AC.region ?_);refine zm ?_;refine AL.p (by exact g_index rfl rfl rfl (by rfl) (by assumption)) rfl ?_;refine zc ?_;refine za ?_;refine AL.nil (th_n ?_);refine AC.cut (fun (_ : Unit) => ⟨114, 100, [(0, .ptr 0 0), (1, aS (bstr txt)), (4, aT (decide (((t.getD 0 0).toNat : Int) = 42)))], chL (bChs b 1 2 3 4 5)⟩) (fun _ => True) ?_ ?_
 ·refine AC.seq (AC.region ?_);refine zm ?_;refine AL.nil (th_n ?_);refine AC.condD rfl (fun h0 => ?_) (fun h0 => ?_)
  ·refine AC.region ?_;refine zm ?_;refine AL.p (by exact g_slice_str (l := 1) (h := (bstr t).size) rfl rfl (.some rfl rfl) .none (by rw [bstr_size]; omega) (Nat.le_refl _) hd1) rfl ?_;refine za ?_;refine AL.nil (th_n ?_)
   (have e := hTe.trans (if_pos h0); exact ⟨(), trivial, Weak.ren _ [] hC rfl (by rw [e, decide_eq_true h0]; repeat (first | exact True.intro | refine And.intro ?_ ?_ | exact DLead.same | exact rfl | refine ⟨_, rfl, ?_⟩)) (by repeat (first | exact True.intro | refine And.intro ?_ ?_ | exact DLead.same | exact rfl | refine ⟨_, _, rfl, rfl, ?_⟩ | refine ⟨_, rfl, ?_⟩ | refine ⟨_, _, rfl, ?_, ?_⟩)) rfl rfl rfl⟩)
  refine AC.skip (th_n ?_)
  (have e := hTe.trans (if_neg h0); exact ⟨(), trivial, Weak.ren _ [] hC rfl (by rw [e, decide_eq_false h0]; repeat (first | exact True.intro | refine And.intro ?_ ?_ | exact DLead.same | exact rfl | refine ⟨_, rfl, ?_⟩)) (by repeat (first | exact True.intro | refine And.intro ?_ ?_ | exact DLead.same | exact rfl | refine ⟨_, _, rfl, rfl, ?_⟩ | refine ⟨_, rfl, ?_⟩ | refine ⟨_, _, rfl, ?_, ?_⟩)) rfl rfl rfl⟩)
 intro _ _;refine AC.seq (AC.region ?_);refine zm ?_;refine kV en_l1Split hS ?_;refine za ?_;refine AL.nil (th_n (AC.seq ?_));refine AC.drawn' mixed_ok [[], [0], [0,1], [], [3], [3,4], [0,1,2], [0,1,2,3,4,5,6]] (by decide) ?_;refine zd 0 [] 8 (by exact mv1 rfl) ?_;refine zd 1 [0] 8 (by exact g_ia_view (i := 0) rfl rfl rfl rfl rfl rfl hg0) ?_;refine zd 2 [0,1] 8 (by exact g_load_ref rfl rfl rfl) ?_;refine zd 3 [] 8 (by exact mv1 rfl) ?_;refine zd 4 [3] 8 (by exact g_ia_view (i := 1) rfl rfl rfl rfl rfl rfl hg1) ?_;refine zd 5 [3,4] 8 (by exact g_load_ref rfl rfl rfl) ?_;refine zd 6 [0,1,2] 8 (by exact as1 rfl) ?_;refine zd 7 [0,1,2,3,4,5,6] 8 (by exact as1 rfl) ?_;refine zj 8 ?_;refine th_n (AC.seq (AC.region ?_));refine zm ?_;refine za ?_;refine AL.nil (th_n ?_);refine AC.cut (fun (_ : Unit) => ⟨114, 200, [(0, .ptr 0 0), (4, aT (decide (((t.getD 0 0).toNat : Int) = 42))), (6, aS (bstr fr)), (7, aS (bstr to)), (8, aS (bstr nn))], chL (bChs b 1 2 3 4 5)⟩) (fun _ => True) ?_ ?_
 ·refine AC.seq (AC.region ?_);refine zm ?_;refine AL.p (by exact g_index rfl rfl rfl (by rfl) (by assumption)) rfl ?_;refine zc ?_;refine AL.nil (th_n ?_);refine AC.condD rfl (fun h0 => ?_) (fun h0 => ?_)
  ·refine AC.region ?_;refine zm ?_;refine za ?_;refine AL.nil (th_n ?_)
   (have e := hMe.trans (if_pos h0); exact ⟨(), trivial, Weak.ren _ [] hC rfl (by rw [e]; repeat (first | exact True.intro | refine And.intro ?_ ?_ | exact DLead.same | exact rfl | refine ⟨_, rfl, ?_⟩)) (by repeat (first | exact True.intro | refine And.intro ?_ ?_ | exact DLead.same | exact rfl | refine ⟨_, _, rfl, rfl, ?_⟩ | refine ⟨_, rfl, ?_⟩ | refine ⟨_, _, rfl, ?_, ?_⟩)) rfl rfl rfl⟩)
  refine AC.skip (th_n ?_)
  (have e := hMe.trans (if_neg h0); exact ⟨(), trivial, Weak.ren _ [] hC rfl (by rw [e]; repeat (first | exact True.intro | refine And.intro ?_ ?_ | exact DLead.same | exact rfl | refine ⟨_, rfl, ?_⟩)) (by repeat (first | exact True.intro | refine And.intro ?_ ?_ | exact DLead.same | exact rfl | refine ⟨_, _, rfl, rfl, ?_⟩ | refine ⟨_, rfl, ?_⟩ | refine ⟨_, _, rfl, ?_, ?_⟩)) rfl rfl rfl⟩)
 intro _ _;refine AC.cut (fun (_ : Unit) => ⟨114, 200, [(0, .ptr 0 0), (4, aT (decide (((t.getD 0 0).toNat : Int) = 42))), (6, aS (bstr fr)), (7, aS (bstr to)), (8, aS (bstr nm))], chL (bChs b 1 2 3 4 5)⟩) (fun _ => True) ?_ ?_
 ·refine AC.seq (AC.region ?_);refine zm ?_;refine AL.p (by exact g_index rfl rfl rfl (by rfl) (by assumption)) rfl ?_;refine zc ?_;refine AL.nil (th_n ?_);refine AC.condD rfl (fun h0 => ?_) (fun h0 => ?_)
  ·refine AC.region ?_;refine zm ?_;refine za ?_;refine AL.nil (th_n ?_)
   (have e := hNe.trans (if_pos h0); exact ⟨(), trivial, Weak.ren _ [] hC rfl (by rw [e]; repeat (first | exact True.intro | refine And.intro ?_ ?_ | exact DLead.same | exact rfl | refine ⟨_, rfl, ?_⟩)) (by repeat (first | exact True.intro | refine And.intro ?_ ?_ | exact DLead.same | exact rfl | refine ⟨_, _, rfl, rfl, ?_⟩ | refine ⟨_, rfl, ?_⟩ | refine ⟨_, _, rfl, ?_, ?_⟩)) rfl rfl rfl⟩)
  refine AC.skip (th_n ?_)
  (have e := hNe.trans (if_neg h0); exact ⟨(), trivial, Weak.ren _ [] hC rfl (by rw [e]; repeat (first | exact True.intro | refine And.intro ?_ ?_ | exact DLead.same | exact rfl | refine ⟨_, rfl, ?_⟩)) (by repeat (first | exact True.intro | refine And.intro ?_ ?_ | exact DLead.same | exact rfl | refine ⟨_, _, rfl, rfl, ?_⟩ | refine ⟨_, rfl, ?_⟩ | refine ⟨_, _, rfl, ?_, ?_⟩)) rfl rfl rfl⟩)
 intro _ _;refine AC.cut (fun (_ : Unit) => ⟨114, 300, [(0, .ptr 0 0), (4, aT (decide (((t.getD 0 0).toNat : Int) = 42))), (6, aS (bstr fr)), (7, aS (bstr to)), (9, aI p)], chL (bChs b1 1 2 3 104 5)⟩) (fun _ => True) ?_ ?_
 ·refine AC.region ?_;refine AL.p (by exact mv3 rfl) rfl ?_;refine zm ?_;refine kU [0, 1, 2, 3, 4, 5] en_bPlace hPs ?_;refine za ?_;refine AL.nil (th_n ?_);exact ⟨(), trivial, zw [(104, 200)] hC⟩
 intro _ _;refine AC.cut (fun (_ : Unit) => ⟨114, 600, [(0, .ptr 0 0), (4, aT (decide (((t.getD 0 0).toNat : Int) = 42))), (7, aS (bstr to)), (9, aI p)], chL (bChs b2 101 2 103 104 105)⟩) (fun _ => True) ?_ ?_
 ·refine AC.seq (AC.region ?_);refine zm ?_;refine AL.p (by exact g_index rfl rfl rfl (by rfl) (by assumption)) rfl ?_;refine zc ?_;refine AL.nil (th_n ?_);refine AC.condND rfl (fun h0 => ?_) (fun h0 => ?_)
  ·refine AC.seq (AC.region ?_);refine AL.p (by exact mv3 rfl) rfl ?_;refine zm ?_;refine kU [0, 1, 2, 3, 104, 5] en_bTrans hT1s ?_;refine za ?_;refine AL.nil (th_n ?_);refine AC.drawn' mixed_ok [[], [0], [0,1], [0,1,2], [0,1,2,3], [0,1,2,3,4], [], [], [7], [7,8], [7,8,9], [7,8,9,10], [7,8,9,10,11], [], [7,8,9,10,11,12,13], [7,8,9,10,11,12,13,14], [7,8,9,10,11,12,13,14,15], [], [7,8,9,10,11,12,13,14,15,16,17], [0,1,2,3,4,5,6,7,8,9,10,11,12,13,14,15,16,17,18], [0,1,2,3,4,5,6,7,8,9,10,11,12,13,14,15,16,17,18,19], [0,1,2,3,4,5,6,7,8,9,10,11,12,13,14,15,16,17,18,19,20]] (by decide) ?_;refine zd 0 [] 22 (by exact mv3 rfl) ?_;refine zd 1 [0] 22 (by exact g_nilP rfl) ?_;refine zd 2 [0,1] 22 (by exact g_fa_ptr rfl rfl rfl rfl rfl) ?_;refine zd 3 [0,1,2] 22 (by exact g_fa_ptr rfl rfl rfl rfl rfl) ?_;refine zd 4 [0,1,2,3] 22 (by exact g_fa_ptr rfl rfl rfl rfl rfl) ?_;refine zd 5 [0,1,2,3,4] 22 (by exact g_load_ptr rfl rfl rfl rfl rfl) ?_;refine zd 6 [] 22 (by exact mv1 rfl) ?_;refine zd 7 [] 22 (by exact mv3 rfl) ?_;refine zd 8 [7] 22 (by exact g_nilP rfl) ?_;refine zd 9 [7,8] 22 (by exact g_fa_ptr rfl rfl rfl rfl rfl) ?_;refine zd 10 [7,8,9] 22 (by exact g_fa_ptr rfl rfl rfl rfl rfl) ?_;refine zd 11 [7,8,9,10] 22 (by exact g_fa_ptr rfl rfl rfl rfl rfl) ?_;refine zd 12 [7,8,9,10,11] 22 (by exact g_load_ptr rfl rfl rfl rfl rfl) ?_;refine zd 13 [] 22 (by exact mv1 rfl) ?_;refine zd 14 [7,8,9,10,11,12,13] 22 (by exact g_ia_own (i := c1.1) (l := c1.2.ts.length) rfl rfl rfl rfl rfl rfl hT1.2.1 rfl) ?_;refine zd 15 [7,8,9,10,11,12,13,14] 22 (by exact g_fa_ptr rfl rfl rfl rfl rfl) ?_;refine zd 16 [7,8,9,10,11,12,13,14,15] 22 (by exact g_load_arr (i := c1.1) (j := 1) rfl rfl rfl rfl rfl hrow1 rfl) ?_;refine zd 17 [] 22 (by exact mv1 rfl) ?_;refine zh 18 [7,8,9,10,11,12,13,14,15,16,17] 22 (by exact h_pure en_l1Put rfl rfl (by repeat (first | exact rfl | exact DLead.same | refine ⟨_, _, rfl, ?_, ?_⟩)) (l1Put_spec c1.2.ts[c1.1].post p (by omega)) rfl) ?_;refine zd 19 (List.range 19) 22 (by exact g_ia_own (i := c1.1) (l := c1.2.ts.length) rfl rfl rfl rfl rfl rfl hT1.2.1 rfl) ?_;refine zd 20 (List.range 20) 22 (by exact g_fa_ptr rfl rfl rfl rfl rfl) ?_;refine zh 21 (List.range 21) 22 (by exact h_store_arr (i := c1.1) (j := 1) (cs := [vI c1.2.ts[c1.1].pre, vI c1.2.ts[c1.1].post]) (d := vI (putI c1.2.ts[c1.1].post p)) rfl rfl rfl rfl .same rfl hrow1 (by decide)) ?_;refine zj 22 ?_;refine th_n ?_;rcases Decidable.em (((fr.getD 0 0).toNat : Int) = 95) with hx | hx
   ·(have e := hQe.trans (if_pos hx); exact absurd hx h0)
   (have e := hQe.trans (if_neg hx); exact ⟨(), trivial, Weak.ren _ [(101, 300), (103, 301), (104, 104), (105, 302)] hC rfl (by repeat (first | exact True.intro | refine And.intro ?_ ?_ | exact DLead.same | exact rfl | refine ⟨_, rfl, ?_⟩)) (by subst e; repeat (first | exact True.intro | refine And.intro ?_ ?_ | exact DLead.same | exact rfl | exact congrArg (AV.own _) hsl1.symm | exact congrArg (Chunk.arr _ _) hset1 | refine ⟨_, _, rfl, rfl, ?_⟩ | refine ⟨_, rfl, ?_⟩ | refine ⟨_, _, rfl, ?_, ?_⟩)) rfl rfl rfl⟩)
  refine AC.skip (th_n ?_);rcases Decidable.em (((fr.getD 0 0).toNat : Int) = 95) with hx | hx
  ·(have e := hQe.trans (if_pos hx); exact ⟨(), trivial, zw [(101, 1), (103, 3), (104, 104), (105, 5)] hC (b := by rw [e]; repeat (first | exact True.intro | refine And.intro ?_ ?_ | exact DLead.same | exact rfl | refine ⟨_, _, rfl, rfl, ?_⟩ | refine ⟨_, rfl, ?_⟩ | refine ⟨_, _, rfl, ?_, ?_⟩))⟩)
  (have e := hQe.trans (if_neg hx); exact absurd h0 hx)
 intro _ _;refine AC.cut (fun (_ : Unit) => ⟨114, 1000, [(0, .ptr 0 0), (4, aT (decide (((t.getD 0 0).toNat : Int) = 42))), (9, aI p)], chL (bChs b3 201 2 203 204 205)⟩) (fun _ => True) ?_ ?_
 ·refine AC.seq (AC.region ?_);refine zm ?_;refine AL.p (by exact g_index rfl rfl rfl (by rfl) (by assumption)) rfl ?_;refine zc ?_;refine AL.nil (th_n ?_);refine AC.condND rfl (fun h0 => ?_) (fun h0 => ?_)
  ·refine AC.seq (AC.region ?_);refine AL.p (by exact mv3 rfl) rfl ?_;refine zm ?_;refine kU [0, 101, 2, 103, 104, 105] en_bTrans hT2s ?_;refine za ?_;refine AL.nil (th_n ?_);refine AC.drawn' mixed_ok [[], [0], [0,1], [0,1,2], [0,1,2,3], [0,1,2,3,4], [], [], [7], [7,8], [7,8,9], [7,8,9,10], [7,8,9,10,11], [], [7,8,9,10,11,12,13], [7,8,9,10,11,12,13,14], [7,8,9,10,11,12,13,14,15], [], [7,8,9,10,11,12,13,14,15,16,17], [0,1,2,3,4,5,6,7,8,9,10,11,12,13,14,15,16,17,18], [0,1,2,3,4,5,6,7,8,9,10,11,12,13,14,15,16,17,18,19], [0,1,2,3,4,5,6,7,8,9,10,11,12,13,14,15,16,17,18,19,20]] (by decide) ?_;refine zd 0 [] 22 (by exact mv3 rfl) ?_;refine zd 1 [0] 22 (by exact g_nilP rfl) ?_;refine zd 2 [0,1] 22 (by exact g_fa_ptr rfl rfl rfl rfl rfl) ?_;refine zd 3 [0,1,2] 22 (by exact g_fa_ptr rfl rfl rfl rfl rfl) ?_;refine zd 4 [0,1,2,3] 22 (by exact g_fa_ptr rfl rfl rfl rfl rfl) ?_;refine zd 5 [0,1,2,3,4] 22 (by exact g_load_ptr rfl rfl rfl rfl rfl) ?_;refine zd 6 [] 22 (by exact mv1 rfl) ?_;refine zd 7 [] 22 (by exact mv3 rfl) ?_;refine zd 8 [7] 22 (by exact g_nilP rfl) ?_;refine zd 9 [7,8] 22 (by exact g_fa_ptr rfl rfl rfl rfl rfl) ?_;refine zd 10 [7,8,9] 22 (by exact g_fa_ptr rfl rfl rfl rfl rfl) ?_;refine zd 11 [7,8,9,10] 22 (by exact g_fa_ptr rfl rfl rfl rfl rfl) ?_;refine zd 12 [7,8,9,10,11] 22 (by exact g_load_ptr rfl rfl rfl rfl rfl) ?_;refine zd 13 [] 22 (by exact mv1 rfl) ?_;refine zd 14 [7,8,9,10,11,12,13] 22 (by exact g_ia_own (i := c2.1) (l := c2.2.ts.length) rfl rfl rfl rfl rfl rfl hT2.2.1 rfl) ?_;refine zd 15 [7,8,9,10,11,12,13,14] 22 (by exact g_fa_ptr rfl rfl rfl rfl rfl) ?_;refine zd 16 [7,8,9,10,11,12,13,14,15] 22 (by exact g_load_arr (i := c2.1) (j := 0) rfl rfl rfl rfl rfl hrow2 rfl) ?_;refine zd 17 [] 22 (by exact mv1 rfl) ?_;refine zh 18 [7,8,9,10,11,12,13,14,15,16,17] 22 (by exact h_pure en_l1Put rfl rfl (by repeat (first | exact rfl | exact DLead.same | refine ⟨_, _, rfl, ?_, ?_⟩)) (l1Put_spec c2.2.ts[c2.1].pre p (by omega)) rfl) ?_;refine zd 19 (List.range 19) 22 (by exact g_ia_own (i := c2.1) (l := c2.2.ts.length) rfl rfl rfl rfl rfl rfl hT2.2.1 rfl) ?_;refine zd 20 (List.range 20) 22 (by exact g_fa_ptr rfl rfl rfl rfl rfl) ?_;refine zh 21 (List.range 21) 22 (by exact h_store_arr (i := c2.1) (j := 0) (cs := [vI c2.2.ts[c2.1].pre, vI c2.2.ts[c2.1].post]) (d := vI (putI c2.2.ts[c2.1].pre p)) rfl rfl rfl rfl .same rfl hrow2 (by decide)) ?_;refine zj 22 ?_;refine th_n ?_;rcases Decidable.em (((to.getD 0 0).toNat : Int) = 95) with hx | hx
   ·(have e := hRe.trans (if_pos hx); exact absurd hx h0)
   (have e := hRe.trans (if_neg hx); exact ⟨(), trivial, Weak.ren _ [(201, 600), (203, 601), (204, 104), (205, 602)] hC rfl (by repeat (first | exact True.intro | refine And.intro ?_ ?_ | exact DLead.same | exact rfl | refine ⟨_, rfl, ?_⟩)) (by subst e; repeat (first | exact True.intro | refine And.intro ?_ ?_ | exact DLead.same | exact rfl | exact congrArg (AV.own _) hsl2.symm | exact congrArg (Chunk.arr _ _) hset2 | refine ⟨_, _, rfl, rfl, ?_⟩ | refine ⟨_, rfl, ?_⟩ | refine ⟨_, _, rfl, ?_, ?_⟩)) rfl rfl rfl⟩)
  refine AC.skip (th_n ?_);rcases Decidable.em (((to.getD 0 0).toNat : Int) = 95) with hx | hx
  ·(have e := hRe.trans (if_pos hx); exact ⟨(), trivial, zw [(201, 101), (203, 103), (204, 104), (205, 105)] hC (b := by rw [e]; repeat (first | exact True.intro | refine And.intro ?_ ?_ | exact DLead.same | exact rfl | refine ⟨_, _, rfl, rfl, ?_⟩ | refine ⟨_, rfl, ?_⟩ | refine ⟨_, _, rfl, ?_, ?_⟩))⟩)
  (have e := hRe.trans (if_neg hx); exact absurd h0 hx)
 intro _ _;refine AC.seq (AC.region ?_);refine zm ?_;refine AL.nil (th_n ?_);refine AC.condD rfl (fun h0 => ?_) (fun h0 => ?_)
 ·refine AC.drawn' mixed_ok [[], [], [1], [1,2], [1,2,3], [1,2,3,4], [], [1,2,3,4,5,6], [1,2,3,4,5,6,7], [], [9], [9,10], [9,10,11], [9,10,11,12], [], [14], [9,10,11,12,13,14,15], [1,2,3,4,5,6,7,8,9,10,11,12,13,14,15,16], [0,1,2,3,4,5,6,7,8,9,10,11,12,13,14,15,16,17], [0,1,2,3,4,5,6,7,8,9,10,11,12,13,14,15,16,17,18], [0,1,2,3,4,5,6,7,8,9,10,11,12,13,14,15,16,17,18,19], [0,1,2,3,4,5,6,7,8,9,10,11,12,13,14,15,16,17,18,19,20]] (by decide) ?_;refine zd 0 [] 22 (by exact mv3 rfl) ?_;refine zd 1 [] 22 (by exact mv3 rfl) ?_;refine zd 2 [1] 22 (by exact g_nilP rfl) ?_;refine zd 3 [1,2] 22 (by exact g_fa_ptr rfl rfl rfl rfl rfl) ?_;refine zd 4 [1,2,3] 22 (by exact g_fa_ptr rfl rfl rfl rfl rfl) ?_;refine zd 5 [1,2,3,4] 22 (by exact g_load_ptr rfl rfl rfl rfl rfl) ?_;refine zd 6 [] 22 (by exact mv1 rfl) ?_;refine zd 7 [1,2,3,4,5,6] 22 (by exact g_slice_str (l := 0) (h := p) rfl rfl .none (.some rfl rfl) (Nat.zero_le _) (by rw [bstr_size]; omega) hcutA) ?_;refine zd 8 [1,2,3,4,5,6,7] 22 (by exact g_saddB (a := b3.start.take p) (b := [49]) rfl rfl (by simp only [List.length_cons, List.length_nil, List.length_take]; omega)) ?_;refine zd 9 [] 22 (by exact mv3 rfl) ?_;refine zd 10 [9] 22 (by exact g_nilP rfl) ?_;refine zd 11 [9,10] 22 (by exact g_fa_ptr rfl rfl rfl rfl rfl) ?_;refine zd 12 [9,10,11] 22 (by exact g_fa_ptr rfl rfl rfl rfl rfl) ?_;refine zd 13 [9,10,11,12] 22 (by exact g_load_ptr rfl rfl rfl rfl rfl) ?_;refine zd 14 [] 22 (by exact mv1 rfl) ?_;refine zd 15 [14] 22 (by exact g_arith rfl rfl rfl (by exact wrap_i64 (by omega))) ?_;refine zd 16 [9,10,11,12,13,14,15] 22 (by exact g_slice_str (l := p + 1) (h := (bstr b3.start).size) rfl rfl (.some rfl rfl) .none (by rw [bstr_size]; omega) (Nat.le_refl _) hcutB) ?_;refine zd 17 [1,2,3,4,5,6,7,8,9,10,11,12,13,14,15,16] 22 (by exact g_saddB (a := b3.start.take p ++ [49]) (b := b3.start.drop (p + 1)) rfl rfl (by simp only [List.length_cons, List.length_nil, List.length_append, List.length_take, List.length_drop]; omega)) ?_;refine zd 18 (List.range 18) 22 (by exact g_nilP rfl) ?_;refine zd 19 (List.range 19) 22 (by exact g_fa_ptr rfl rfl rfl rfl rfl) ?_;refine zd 20 (List.range 20) 22 (by exact g_fa_ptr rfl rfl rfl rfl rfl) ?_;refine zh 21 (List.range 21) 22 (by exact h_store rfl rfl rfl rfl rfl rfl) ?_;refine zj 22 ?_;refine bq_n ?_
  (have e : arcF b t = { b3 with start := b3.start.take p ++ [49] ++ b3.start.drop (p + 1) } := (by rw [hA]; exact if_pos (decide_eq_true h0)); exact retN [(6, 201), (7, 203), (8, 204), (9, 205)] rfl (by repeat (first | exact rfl | refine ⟨_, rfl, ?_⟩)) (by rw [e]; dsimp only [bChs, bC]; repeat (first | exact True.intro | refine And.intro ?_ ?_ | exact DLead.same | exact rfl | refine ⟨_, _, rfl, rfl, ?_⟩ | refine ⟨_, rfl, ?_⟩ | refine ⟨_, _, rfl, ?_, ?_⟩)) rfl rfl)
 refine AC.skip (bq_n ?_)
 (have e : arcF b t = b3 := (by rw [hA]; exact if_neg (by simpa using h0)); exact retN [(6, 201), (7, 203), (8, 204), (9, 205)] rfl (by repeat (first | exact rfl | refine ⟨_, rfl, ?_⟩)) (by rw [e]; repeat (first | exact True.intro | refine And.intro ?_ ?_ | exact DLead.same | exact rfl | refine ⟨_, _, rfl, rfl, ?_⟩ | refine ⟨_, rfl, ?_⟩ | refine ⟨_, _, rfl, ?_, ?_⟩)) rfl rfl)
theorem en_bArc : Enters Tryz.prog 67 := enters_of Tryz.func67 rfl rfl
end Go.Proofs.YtjodfopifgiipaaGreat
