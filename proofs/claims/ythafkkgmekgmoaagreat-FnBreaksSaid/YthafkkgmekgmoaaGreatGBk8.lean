/- Contracts of the functions of the program and of the reference, each proved by a walk through its code. -/
import Derived.WalkKit
import Derived.WalkSpells
import Derived.WalkLawsBesides
import Derived.Deep.Draws
import Derived.Lib.Hide
import Derived.Maps.AppendAt
import Derived.OwnWalk
import Derived.Deep.MidRow
import Derived.Laws.ResultCell
import Derived.Deep.Upon
import Derived.Great.FillDense
import Derived.Laws.Tables
import Derived.Laws.BytesArg
import Derived.Laws.MakeOwn
import Derived.Great.BuildSlice
import Derived.ArgAppend
import Derived.Deep.AppendSrc
import Derived.Test.YthafkkgmekgmoaaGreatProg
import Derived.KernelRfl
import Derived.Orders
import Derived.Laws.IdiomStrings
import Derived.Lib.AppendZerosOnto
import Derived.ProofKit
import Derived.OpenShut
import Derived.Lib.SliceRun
import Derived.Laws.StructEq
import Derived.ChangeKeysEq
import Derived.Sort.Grow
import Derived.Laws.RangeString
import Derived.Below
import Derived.Laws.Small
import Derived.MapKept
import Derived.WideMake
import Derived.Laws.IdiomCopy
import Derived.Shelf.Strings.Builder1
import Derived.Shelf.Strings.Builder2
import Derived.Shelf.Strings.OnBuilder
import Derived.Shelf.Bits.Mul64
import Derived.Test.YthafkkgmekgmoaaGreatRows
import Derived.Test.YthafkkgmekgmoaaGreatGBk7
set_option linter.all false
set_option maxRecDepth 20000
namespace Go.Proofs.YthafkkgmekgmoaaGreat
open Go.RowKit
def encR : Option Bool → UInt8 | none => 63 | some b => bitLb b
def encS (V : List (Option Bool)) : List UInt8 := V.map encR
theorem encS_len (V : List (Option Bool)) : (encS V).length = V.length := List.length_map _
theorem encS_get {V : List (Option Bool)} {i : Nat} (h : i < V.length) : (byteEls (encS V))[i]? = some [dB (encR (vAt V i))] := by
 unfold byteEls encS;rw [List.getElem?_map, List.getElem?_map, List.getElem?_eq_getElem h, vAt_get h]; rfl
theorem encS_set (V : List (Option Bool)) (i : Nat) (x : Option Bool) : encS (V.set i x) = (encS V).set i (encR x) := by unfold encS; rw [List.map_set]
theorem encS_same {V : List (Option Bool)} {i : Nat} (h : i < V.length) : (encS V).set i (encR (vAt V i)) = encS V := by rw [← encS_set, set_same h rfl]
theorem encR_none {x : Option Bool} : ((encR x).toNat : Int) = 63 ↔ x = none := by cases x with | none => simp [encR] | some b => cases b <;> simp [encR, bitLb]
theorem encR_bit {x : Option Bool} {b : Bool} : ((encR x).toNat : Int) = ((bitLb b).toNat : Int) ↔ x = some b := by cases x with | none => cases b <;> simp [encR, bitLb] | some c => cases b <;> cases c <;> simp [encR, bitLb]
theorem encR_inj {x y : Option Bool} : ((encR x).toNat : Int) = ((encR y).toNat : Int) ↔ x = y := by cases x with
 | none => cases y with | none => simp | some c => cases c <;> simp [encR, bitLb]
 | some b => cases y with | none => cases b <;> simp [encR, bitLb] | some c => cases b <;> cases c <;> simp [encR, bitLb]
theorem joinR_ok {W : List (Option Bool)} {f t : Nat} (hf : f < W.length) (ht : t < W.length) {x : Option Bool} (hx : (vAt W f = none ∧ x = vAt W t) ∨ (vAt W f ≠ none ∧ x = vAt W f)) (h : ¬ (x ≠ none ∧ vAt W t ≠ none ∧ vAt W t ≠ x)) : ∃ Y, joinV W f t = some Y ∧ ((encS W).set f (encR x)).set t (encR x) = encS Y := by
 unfold joinV;cases e1 : vAt W f with
 | none =>
  rcases hx with ⟨_, hx⟩ | ⟨q, _⟩
  ·cases e2 : vAt W t with
   | none =>
    rw [e2] at hx; subst hx;refine ⟨W, rfl, ?_⟩;have h1 := encS_same hf;have h2 := encS_same ht;rw [e1] at h1;rw [e2] at h2;rw [h1, h2]
   | some y =>
    rw [e2] at hx; subst hx;refine ⟨_, rfl, ?_⟩;rw [← encS_set, ← encS_set, set_same (by simpa using ht)];rw [vAt_set]
    split
    ·rfl
    exact e2
  exact absurd e1 q
 | some a =>
  rcases hx with ⟨q, _⟩ | ⟨_, hx⟩
  ·rw [e1] at q; cases q
  rw [e1] at hx; subst hx;have h1 := encS_same hf;rw [e1] at h1;cases e2 : vAt W t with
  | none => exact ⟨_, rfl, by rw [h1, ← encS_set]⟩
  | some y =>
   have hay : a = y := by
    refine Classical.byContradiction fun q => h ⟨by simp, by rw [e2]; simp, ?_⟩
    rw [e2];intro g; exact q (Option.some.inj g).symm
   subst hay;have h2 := encS_same ht;rw [e2] at h2;exact ⟨W, by simp, by rw [h1, h2]⟩
theorem joinR_no {W : List (Option Bool)} {f t : Nat} {x : Option Bool} (hx : (vAt W f = none ∧ x = vAt W t) ∨ (vAt W f ≠ none ∧ x = vAt W f)) (h : x ≠ none ∧ vAt W t ≠ none ∧ vAt W t ≠ x) : joinV W f t = none := by
 rcases hx with ⟨_, q⟩ | ⟨_, q⟩
 ·exact absurd q.symm h.2.2
 subst q;unfold joinV;cases e1 : vAt W f with
 | none => exact absurd e1 h.1
 | some a =>
  cases e2 : vAt W t with
  | none => exact absurd e2 h.2.1
  | some b => exact if_neg fun q => h.2.2 (by rw [e1, e2, q])
def valS (sg : Int) (L : List Ar) (n : Nat) : List UInt8 × Bool := match valF sg L n with | some V => (encS V, true) | none => ([], false)
def askZ (n k : Nat) : List UInt8 := List.replicate k 63 ++ List.replicate (n - k) 0
theorem askZ_get {n k : Nat} (h : k < n) : (byteEls (askZ n k))[k]? = some [dB 0] := by
 unfold askZ byteEls;rw [List.getElem?_map, List.getElem?_append_right (by simp), List.length_replicate, Nat.sub_self, List.getElem?_replicate, if_pos (by omega)]; rfl
theorem askZ_set {n k : Nat} (h : k < n) : (byteEls (askZ n k)).set k [dB 63] = byteEls (askZ n (k + 1)) := by
 rw [byteEls_set];congr 1;unfold askZ;obtain ⟨q, hq⟩ : ∃ q, n - k = q + 1 := ⟨n - k - 1, by omega⟩;rw [hq, show n - (k + 1) = q by omega, List.replicate_succ, List.set_append_right _ _ (by simp), List.length_replicate, Nat.sub_self, List.set_cons_zero, List.replicate_succ', List.append_assoc]; rfl
theorem askZ_zero (n : Nat) : byteEls (askZ n 0) = List.replicate n (([ZK.int .u8] : List ZK).map fun z => DV.val z.val) := by unfold askZ byteEls; simp; exact .inr rfl
theorem askZ_all (n : Nat) : askZ n n = encS (List.replicate n none) := by unfold askZ encS; simp; exact .inr rfl
theorem enc_ne {x : Option Bool} {b : Bool} (k1 : ¬ ((encR x).toNat : Int) = 63) (k2 : ¬ ((encR x).toNat : Int) = ((bitLb b).toNat : Int)) : x = some (!b) := by
 cases x with
 | none => exact absurd (encR_none.2 rfl) k1
 | some c => exact congrArg some (nb_ne b fun g => k2 (encR_bit.2 (congrArg some g)))
theorem enc_no {x : Option Bool} {b : Bool} (q : x = some (!b)) : ¬ ((encR x).toNat : Int) = 63 ∧ ¬ ((encR x).toNat : Int) = ((bitLb b).toNat : Int) := by
 subst q;exact ⟨fun g => (by have := encR_none.1 g; cases this), fun g => (by have := Option.some.inj (encR_bit.1 g); cases b <;> cases this)⟩
theorem bstr1_get (b : UInt8) : (bstr [b]).data.toList[0]? = some b := rfl
set_option maxHeartbeats 32000000 in
theorem l5Values_spec (s : Stg) (x : Ex) (sg : Int) (hn1 : 1 ≤ x.marks.length) (hn : x.marks.length ≤ 100000) (h2l : x.moves.length ≤ 1000000) (hb : ∀ v, v ∈ x.moves → 0 ≤ v.by_ ∧ v.by_ < s.labs.length) (hL : ∀ a, a ∈ arcsOf s x → ArIn x.marks.length a) : ASpec Tryz.prog 137 [stgA s, rgA x, aI sg] [] (Pure1 (.tup [aS (bstr (valS sg (arcsOf s x) x.marks.length).1), aT (valS sg (arcsOf s x) x.marks.length).2])) := by
 have hVe := valR_eq (sg := sg) hn1 hL;have hal := arcsOf_len s x;have hag : ∀ j (hj : j < x.moves.length), (arcsOf s x)[j]? = some (arcOf s.labs x.moves[j]) := fun j hj => by unfold arcsOf; rw [List.getElem?_map, List.getElem?_eq_getElem hj]; rfl
 obtain ⟨n, hnn⟩ : ∃ n, n = x.marks.length := ⟨_, rfl⟩;rw [← hnn] at hn1 hn hVe hL ⊢;obtain ⟨A, hA⟩ : ∃ A, A = arcsOf s x := ⟨_, rfl⟩;simp only [← hA] at hVe hal hag hL ⊢;clear hA;have hR : valS sg A n = match valF sg A n with | some V => (encS V, true) | none => ([], false) := rfl
 obtain ⟨F, hFF⟩ : ∃ F, F = valF sg A n := ⟨_, rfl⟩;rw [← hFF] at hVe hR;obtain ⟨R, hRR⟩ : ∃ R, R = valS sg A n := ⟨_, rfl⟩;rw [← hRR] at hR ⊢;have hRn : F = none → R = ([], false) := fun q => by rw [hR, q]
 have hRs : ∀ V, F = some V → R = (encS V, true) := fun V q => by rw [hR, q]
 clear hFF hRR hR;refine ASpec.of Tryz.func137 rfl rfl fun C hC => ?_
 refine AC.seq (AC.region ?_);refine AL.q (by exact h_boxF rfl rfl) rfl ?_;refine AL.q (by exact h_boxF rfl rfl) rfl ?_;refine za ?_;refine za ?_;refine AL.nil (th_n (AC.seq (AC.region ?_)));refine zf ?_;refine zr ?_;refine AL.p (by exact g_len_view (k := n) rfl rfl (by rw [hnn]; exact tsX_len _)) rfl ?_;refine AL.q (by exact h_make (k := n) rfl rfl rfl rfl rfl rfl rfl rfl (by show 1 * n ≤ _; omega) (by omega)) rfl ?_;rw [show (List.replicate n (([ZK.int .u8] : List ZK).map fun z => DV.val z.val)) = byteEls (askZ n 0) from (askZ_zero n).symm];refine AL.p (by exact as2 rfl) rfl ?_;refine AL.nil (th_n (AC.seq (AC.seq (AC.region ?_))));refine AL.p (by exact mv2 rfl) rfl ?_;refine AL.p (by exact g_len_own (sz := 1) (els := []) (e' := 0) rfl rfl (by simp only [maxLen]; omega)) rfl ?_;refine zm ?_;refine AL.nil (th_n (AC.block ?_));refine AC.loop (ι := Nat) (fun k => ⟨149, 300, [(2, aI sg), (3, .d (.ref (stgD s))), (4, .d (.ref (rgD x))), (8, .own 100 n), (22, aI n), (23, aI k)], [(100, some (.arr 5 1 (byteEls (askZ n k))))]⟩) (fun k => k ≤ n) (fun k => n - k) (0) ?_ (Nat.zero_le _) ?_
 ·exact zw [(100, _)] hC
 intro k hk;refine AC.seq (AC.region ?_);refine zc ?_;refine AL.nil (th_n (AC.seq ?_));refine AC.condD rfl (fun h0 => ?_) (fun h0 => ?_)
 ·refine AC.skip (th_n (AC.seq (AC.block (AC.seq ?_))));have hk1 : k < n := by omega
  have hgz := askZ_get hk1;have hsz := askZ_set hk1;refine AC.region ?_;refine zm ?_;refine za ?_;refine AL.nil (th_n (AC.region ?_));refine AL.p (by exact mv2 rfl) rfl ?_;refine zm ?_;refine AL.p (by exact g_ia_own (i := k) (l := n) rfl rfl rfl rfl rfl rfl hk1 rfl) rfl ?_;refine AL.q (by exact h_store_arr (i := k) (j := 0) (d := dB 63) rfl rfl rfl rfl .same rfl hgz (by decide)) rfl ?_;refine AL.nil (ib_n (th_n (AC.region ?_)));refine zA ?_;refine zm ?_;refine AL.nil (th_n ?_);exact ⟨k + 1, by omega, by omega, zw [(100, 100)] hC (b := by rw [← hsz]; repeat (first | exact True.intro | refine And.intro ?_ ?_ | exact rfl | refine ⟨_, _, rfl, rfl, ?_⟩))⟩
 refine AC.exit (th_e (th_e (ib_y (th_n (AC.seq (AC.seq ?_))))));have hkn : k = n := by omega
 rw [hkn, askZ_all];refine AC.region ?_;refine za ?_;refine AL.nil (th_n (AC.block ?_));refine AC.loop (ι := Nat × List (Option Bool)) (fun y => ⟨149, 600, [(2, aI sg), (3, .d (.ref (stgD s))), (4, .d (.ref (rgD x))), (8, .own 100 n), (10, aI y.1)], [(100, some (.arr 5 1 (byteEls (encS y.2))))]⟩) (fun y => y.1 ≤ n + 1 ∧ y.2.length = n ∧ iterR sg A (n + 1 - y.1) y.2 = F) (fun y => n + 1 - y.1) ((0, List.replicate n none)) ?_ (⟨Nat.zero_le _, by simp, hVe⟩) ?_
 ·exact zw [(100, 100)] hC
 rintro ⟨p, V⟩ ⟨hp, hVl, hit⟩;dsimp only at hp hVl hit ⊢;refine AC.seq (AC.seq (AC.region ?_));refine zm ?_;refine zf ?_;refine zr ?_;refine AL.p (by exact g_len_view (k := n) rfl rfl (by rw [hnn]; exact tsX_len _)) rfl ?_;refine zc ?_;refine AL.nil (th_n ?_);refine AC.condD rfl (fun h1 => ?_) (fun h1 => ?_)
 ·refine AC.skip (th_n (AC.seq (AC.block (AC.seq ?_))));obtain ⟨q, hq⟩ : ∃ q, n + 1 - p = q + 1 := ⟨n - p, by omega⟩;rw [hq, iterR] at hit;refine AC.region ?_;refine zf ?_;refine zr ?_;refine AL.p (by exact g_len_view (k := x.moves.length) rfl rfl (mvL_len _)) rfl ?_;refine zm ?_;refine AL.nil (th_n (AC.block ?_));refine AC.loop (ι := Nat × List (Option Bool)) (fun y => ⟨149, 900, [(2, aI sg), (3, .d (.ref (stgD s))), (4, .d (.ref (rgD x))), (8, .own 100 n), (10, aI p), (38, .d (vMvs x.moves)), (39, aI x.moves.length), (40, aI y.1)], [(100, some (.arr 5 1 (byteEls (encS y.2))))]⟩) (fun y => y.1 ≤ x.moves.length ∧ y.2.length = n ∧ passR sg (A.drop y.1) y.2 = passR sg A V) (fun y => x.moves.length - y.1) ((0, V)) ?_ (⟨Nat.zero_le _, hVl, rfl⟩) ?_
  ·exact zw [(100, 100)] hC
  rintro ⟨j, W⟩ ⟨hj, hWl, hps⟩;dsimp only at hj hWl hps ⊢;refine AC.seq (AC.region ?_);refine zc ?_;refine AL.nil (th_n (AC.seq ?_));refine AC.condD rfl (fun h2 => ?_) (fun h2 => ?_)
  ·refine AC.skip (th_n (AC.seq (AC.block (AC.seq ?_))));have hj1 : j < x.moves.length := by omega
   have hget := mvL_get hj1;have hbv := hb _ (List.getElem_mem hj1);have hga := hag j hj1;have hjA : j < A.length := by omega
   have haI := hL _ (List.getElem_mem hjA);rw [List.drop_eq_getElem_cons hjA, passR] at hps;rw [List.getElem?_eq_getElem hjA] at hga;rw [Option.some.inj hga] at haI hps;obtain ⟨v, hv⟩ : ∃ v, v = x.moves[j] := ⟨_, rfl⟩;rw [← hv] at hget hbv haI hps;clear hv hga;obtain ⟨b, hb2⟩ : ∃ b, b = v.by_.toNat := ⟨_, rfl⟩;have e0 : v.by_ = (b : Int) := by omega
   unfold arcOf at haI hps;rw [← hb2] at haI hps;have hlb : b < s.labs.length := by omega
   have hgl : (labsL s.labs)[b]? = some [dI (lAt s.labs b).sig, dT (lAt s.labs b).up] := by rw [lAt_nat hlb, List.getElem?_map, List.getElem?_eq_getElem hlb]; rfl
   obtain ⟨l, hl⟩ : ∃ l, l = lAt s.labs b := ⟨_, rfl⟩;rw [← hl] at hgl haI hps;clear hl;obtain ⟨hf1, ht1⟩ := haI;dsimp only at hf1 ht1;obtain ⟨f, hf⟩ : ∃ f, f = v.from_.toNat := ⟨_, rfl⟩;obtain ⟨t, ht⟩ : ∃ t, t = v.to_.toNat := ⟨_, rfl⟩;have e1 : v.from_ = (f : Int) := by omega
   have e2 : v.to_ = (t : Int) := by omega
   have hfn : f < n := by omega
   have htn : t < n := by omega
   rw [e0, e1, e2] at hget;have hst : stepR sg ⟨v.from_, l.sig, l.up, v.to_⟩ W = if l.sig = sg then (if (vAt W f = some l.up ∨ vAt W t = some (!l.up)) then none else some ((W.set f (some (!l.up))).set t (some l.up))) else joinV W f t := by unfold stepR; dsimp only; rw [hf, ht]
   obtain ⟨S, hS⟩ : ∃ S, S = stepR sg ⟨v.from_, l.sig, l.up, v.to_⟩ W := ⟨_, rfl⟩;rw [← hS] at hps hst;clear hS;have hgf := encS_get (V := W) (i := f) (by omega);have hgt := encS_get (V := W) (i := t) (by omega);have hel := encS_len W;refine AC.region ?_;refine AL.p (by exact g_ia_view rfl rfl rfl rfl rfl (by rfl) (by assumption)) rfl ?_;refine AL.p (by exact g_load_refN rfl rfl rfl rfl) rfl ?_;refine AL.q (by exact h_alloc rfl) rfl ?_;refine zs ?_;refine AL.nil (th_n (AC.seq (AC.region ?_)));refine zf ?_;refine zr ?_;refine zF ?_;refine zl ?_;refine AL.p (by exact g_ia_view (i := b) rfl rfl rfl rfl rfl rfl hgl) rfl ?_;refine AL.p (by exact g_load_refN rfl rfl rfl rfl) rfl ?_;refine AL.q (by exact h_alloc rfl) rfl ?_;refine zs ?_;refine AL.nil (th_n (AC.seq (AC.seq (AC.region ?_))));refine zF ?_;refine zl ?_;refine zm ?_;refine zc ?_;refine AL.nil (th_n ?_);refine AC.condND rfl (fun h3 => ?_) (fun h3 => ?_)
   ·refine AC.seq ?_;have hsig : ¬ l.sig = sg := ‹¬ l.sig = sg›;rw [if_neg hsig] at hst;refine AC.region ?_;refine AL.p (by exact mv2 rfl) rfl ?_;refine zF ?_;refine zl ?_;refine AL.p (by exact g_ia_own (i := f) (l := n) rfl rfl rfl rfl rfl rfl hfn rfl) rfl ?_;refine AL.p (by exact g_load_arr1 rfl rfl rfl rfl (by rw [Nat.mul_one]; exact hgf)) rfl ?_;refine za ?_;refine AL.nil (th_n ?_);refine AC.cut (fun (z : Option Bool) => ⟨149, 1200, [(2, aI sg), (3, .d (.ref (stgD s))), (4, .d (.ref (rgD x))), (8, .own 100 n), (10, aI p), (12, .ptr 201 0), (14, .d (dB (encR z))), (38, .d (vMvs x.moves)), (39, aI x.moves.length), (40, aI j)], [(100, some (.arr 5 1 (byteEls (encS W)))), (201, some (.cells 52 [aI f, aI b, aI t]))]⟩) (fun z => (vAt W f = none ∧ z = vAt W t) ∨ (vAt W f ≠ none ∧ z = vAt W f)) ?_ ?_
    ·refine AC.seq (AC.region ?_);refine zm ?_;refine zc ?_;refine AL.nil (th_n ?_);refine AC.condD rfl (fun h4 => ?_) (fun h4 => ?_)
     ·refine AC.region ?_;refine AL.p (by exact mv2 rfl) rfl ?_;refine zF ?_;refine zl ?_;refine AL.p (by exact g_ia_own (i := t) (l := n) rfl rfl rfl rfl rfl rfl htn rfl) rfl ?_;refine AL.p (by exact g_load_arr1 rfl rfl rfl rfl (by rw [Nat.mul_one]; exact hgt)) rfl ?_;refine za ?_;refine AL.nil (th_n ?_)
      (have k1 := ‹((encR (vAt W f)).toNat : Int) = 63›; exact ⟨vAt W t, .inl ⟨encR_none.1 k1, rfl⟩, zw [(100, 100), (201, _)] hC⟩)
     refine AC.skip (th_n ?_)
     (have k1 := ‹¬ ((encR (vAt W f)).toNat : Int) = 63›; exact ⟨vAt W f, .inr ⟨fun q => k1 (encR_none.2 q), rfl⟩, zw [(100, 100), (201, _)] hC⟩)
    intro z hz;refine AC.seq (AC.seq (AC.region ?_));refine zm ?_;refine zc ?_;refine zm ?_;refine AL.caseGN rfl rfl (fun h4 => ?_) (fun h4 => ?_)
    ·refine zy ?_;refine AL.p (by exact mv2 rfl) rfl ?_;refine zy ?_;refine zF ?_;refine zy ?_;refine zl ?_;refine zy ?_;refine AL.p (by exact g_ia_own (i := t) (l := n) rfl rfl rfl rfl rfl rfl htn rfl) rfl ?_;refine zy ?_;refine AL.p (by exact g_load_arr1 rfl rfl rfl rfl (by rw [Nat.mul_one]; exact hgt)) rfl ?_;refine zy ?_;refine zc ?_;refine zQ ?_;refine zm ?_;refine AL.caseGN rfl rfl (fun h5 => ?_) (fun h5 => ?_)
     ·refine zy ?_;refine AL.p (by exact mv2 rfl) rfl ?_;refine zy ?_;refine zF ?_;refine zy ?_;refine zl ?_;refine zy ?_;refine AL.p (by exact g_ia_own (i := t) (l := n) rfl rfl rfl rfl rfl rfl htn rfl) rfl ?_;refine zy ?_;refine AL.p (by exact g_load_arr1 rfl rfl rfl rfl (by rw [Nat.mul_one]; exact hgt)) rfl ?_;refine zy ?_;refine zm ?_;refine zy ?_;refine zc ?_;refine zQ ?_;refine AL.nil (th_n ?_);refine AC.condND rfl (fun h6 => ?_) (fun h6 => ?_)
      ·refine AC.seq (AC.region ?_);refine za ?_;refine za ?_;refine AL.nil (th_n (AC.ret (th_r (th_r (ib_r (th_r (th_r (ib_r (ib_r (th_r (th_r (ib_r (th_r (bq_r ?_))))))))))))));have k1 : z ≠ none := fun q => ‹¬ ((encR z).toNat : Int) = 63› (encR_none.2 q)
       have k2 : vAt W t ≠ none := fun q => ‹¬ ((encR (vAt W t)).toNat : Int) = 63› (encR_none.2 q)
       have k3 : vAt W t ≠ z := fun q => ‹¬ ((encR (vAt W t)).toNat : Int) = ((encR z).toNat : Int)› (encR_inj.2 q)
       have hpn : passR sg A V = none := by rw [← hps, hst, joinR_no hz ⟨k1, k2, k3⟩]; rfl
       have e := hRn (by rw [← hit, hpn]; rfl);exact ret2 rfl (by rw [e]; rfl) (by rw [e])
      refine AC.skip (th_n (AC.seq ?_));have hno : ¬ (z ≠ none ∧ vAt W t ≠ none ∧ vAt W t ≠ z) := by rintro ⟨q1, q2, q3⟩; exact q3 (encR_inj.1 (by assumption))
      obtain ⟨Y, hY1, hY2⟩ := joinR_ok (by omega) (by omega) hz hno;rw [hst, hY1, Option.bind_some] at hps;have hYl : Y.length = n := by have := congrArg List.length hY2; rw [List.length_set, List.length_set, encS_len, encS_len] at this; omega
      have hgt2 : ∃ c, (byteEls ((encS W).set f (encR z)))[t]? = some [dB c] := ⟨_, byteEls_get (by rw [List.length_set]; omega)⟩;obtain ⟨c, hgc⟩ := hgt2;refine AC.region ?_;refine AL.p (by exact mv2 rfl) rfl ?_;refine zF ?_;refine zl ?_;refine zm ?_;refine AL.p (by exact g_ia_own (i := f) (l := n) rfl rfl rfl rfl rfl rfl hfn rfl) rfl ?_;refine AL.q (by exact h_store_arr (i := f) (j := 0) (d := dB (encR z)) rfl rfl rfl rfl .same rfl hgf (by decide)) rfl ?_;refine AL.nil (th_n (AC.seq (AC.region ?_)));refine AL.p (by exact mv2 rfl) rfl ?_;refine zF ?_;refine zl ?_;refine zm ?_;refine AL.p (by exact g_ia_own (i := t) (l := n) rfl rfl rfl rfl rfl rfl htn rfl) rfl ?_;refine AL.q (by exact h_store_arr (i := t) (j := 0) (d := dB (encR z)) rfl rfl rfl rfl .same rfl (by rw [show [dB (encR (vAt W f))].set 0 (dB (encR z)) = [dB (encR z)] from rfl, byteEls_set]; exact hgc) (by decide)) rfl ?_;refine AL.nil (th_n (AC.exit (th_e (ib_y (th_n (AC.region ?_))))));refine zA ?_;refine zm ?_;refine AL.nil (th_n ?_);exact ⟨(j + 1, Y), ⟨by dsimp only; omega, hYl, hps⟩, by dsimp only; omega, zw [(100, 100)] hC (b := by rw [← hY2, ← byteEls_set, ← byteEls_set]; repeat (first | exact True.intro | refine And.intro ?_ ?_ | exact rfl | refine ⟨_, _, rfl, rfl, ?_⟩))⟩
     refine zn ?_;refine zn ?_;refine zn ?_;refine zn ?_;refine zn ?_;refine zn ?_;refine zn ?_;refine zP ?_;refine AL.nil (th_n ?_);refine AC.condF rfl ?_;refine AC.skip (th_n (AC.seq ?_));have hno : ¬ (z ≠ none ∧ vAt W t ≠ none ∧ vAt W t ≠ z) := by rintro ⟨q1, q2, q3⟩; exact q2 (encR_none.1 (by assumption))
     obtain ⟨Y, hY1, hY2⟩ := joinR_ok (by omega) (by omega) hz hno;rw [hst, hY1, Option.bind_some] at hps;have hYl : Y.length = n := by have := congrArg List.length hY2; rw [List.length_set, List.length_set, encS_len, encS_len] at this; omega
     have hgt2 : ∃ c, (byteEls ((encS W).set f (encR z)))[t]? = some [dB c] := ⟨_, byteEls_get (by rw [List.length_set]; omega)⟩;obtain ⟨c, hgc⟩ := hgt2;refine AC.region ?_;refine AL.p (by exact mv2 rfl) rfl ?_;refine zF ?_;refine zl ?_;refine zm ?_;refine AL.p (by exact g_ia_own (i := f) (l := n) rfl rfl rfl rfl rfl rfl hfn rfl) rfl ?_;refine AL.q (by exact h_store_arr (i := f) (j := 0) (d := dB (encR z)) rfl rfl rfl rfl .same rfl hgf (by decide)) rfl ?_;refine AL.nil (th_n (AC.seq (AC.region ?_)));refine AL.p (by exact mv2 rfl) rfl ?_;refine zF ?_;refine zl ?_;refine zm ?_;refine AL.p (by exact g_ia_own (i := t) (l := n) rfl rfl rfl rfl rfl rfl htn rfl) rfl ?_;refine AL.q (by exact h_store_arr (i := t) (j := 0) (d := dB (encR z)) rfl rfl rfl rfl .same rfl (by rw [show [dB (encR (vAt W f))].set 0 (dB (encR z)) = [dB (encR z)] from rfl, byteEls_set]; exact hgc) (by decide)) rfl ?_;refine AL.nil (th_n (AC.exit (th_e (ib_y (th_n (AC.region ?_))))));refine zA ?_;refine zm ?_;refine AL.nil (th_n ?_);exact ⟨(j + 1, Y), ⟨by dsimp only; omega, hYl, hps⟩, by dsimp only; omega, zw [(100, 100)] hC (b := by rw [← hY2, ← byteEls_set, ← byteEls_set]; repeat (first | exact True.intro | refine And.intro ?_ ?_ | exact rfl | refine ⟨_, _, rfl, rfl, ?_⟩))⟩
    refine zn ?_;refine zn ?_;refine zn ?_;refine zn ?_;refine zn ?_;refine zn ?_;refine zP ?_;refine zm ?_;refine zn ?_;refine zn ?_;refine zn ?_;refine zn ?_;refine zn ?_;refine zn ?_;refine zn ?_;refine zP ?_;refine AL.nil (th_n ?_);refine AC.condF rfl ?_;refine AC.skip (th_n (AC.seq ?_));have hno : ¬ (z ≠ none ∧ vAt W t ≠ none ∧ vAt W t ≠ z) := by rintro ⟨q1, q2, q3⟩; exact q1 (encR_none.1 (by assumption))
    obtain ⟨Y, hY1, hY2⟩ := joinR_ok (by omega) (by omega) hz hno;rw [hst, hY1, Option.bind_some] at hps;have hYl : Y.length = n := by have := congrArg List.length hY2; rw [List.length_set, List.length_set, encS_len, encS_len] at this; omega
    have hgt2 : ∃ c, (byteEls ((encS W).set f (encR z)))[t]? = some [dB c] := ⟨_, byteEls_get (by rw [List.length_set]; omega)⟩;obtain ⟨c, hgc⟩ := hgt2;refine AC.region ?_;refine AL.p (by exact mv2 rfl) rfl ?_;refine zF ?_;refine zl ?_;refine zm ?_;refine AL.p (by exact g_ia_own (i := f) (l := n) rfl rfl rfl rfl rfl rfl hfn rfl) rfl ?_;refine AL.q (by exact h_store_arr (i := f) (j := 0) (d := dB (encR z)) rfl rfl rfl rfl .same rfl hgf (by decide)) rfl ?_;refine AL.nil (th_n (AC.seq (AC.region ?_)));refine AL.p (by exact mv2 rfl) rfl ?_;refine zF ?_;refine zl ?_;refine zm ?_;refine AL.p (by exact g_ia_own (i := t) (l := n) rfl rfl rfl rfl rfl rfl htn rfl) rfl ?_;refine AL.q (by exact h_store_arr (i := t) (j := 0) (d := dB (encR z)) rfl rfl rfl rfl .same rfl (by rw [show [dB (encR (vAt W f))].set 0 (dB (encR z)) = [dB (encR z)] from rfl, byteEls_set]; exact hgc) (by decide)) rfl ?_;refine AL.nil (th_n (AC.exit (th_e (ib_y (th_n (AC.region ?_))))));refine zA ?_;refine zm ?_;refine AL.nil (th_n ?_);exact ⟨(j + 1, Y), ⟨by dsimp only; omega, hYl, hps⟩, by dsimp only; omega, zw [(100, 100)] hC (b := by rw [← hY2, ← byteEls_set, ← byteEls_set]; repeat (first | exact True.intro | refine And.intro ?_ ?_ | exact rfl | refine ⟨_, _, rfl, rfl, ?_⟩))⟩
   refine AC.skip (th_n (AC.seq ?_));have hsig : l.sig = sg := ‹l.sig = sg›;rw [if_pos hsig] at hst;refine AC.drawn' mixed_ok [[], [0], [0,1], [0,1,2], [0,1,2,3], [], [5], [0,1,2,3,5,6], [0,1,2,3,5,6,7], [0,1,2,3,4,5,6,7], [0,1,2,3,4,5,6,7,8,9]] (by decide) ?_;refine zd 0 [] 11 (by exact g_fa_ptr rfl rfl rfl rfl rfl) ?_;refine zd 1 [0] 11 (by exact g_load_ptr rfl rfl rfl rfl rfl) ?_;refine zd 2 [0,1] 11 (by exact g_not rfl) ?_;refine zh 3 [0,1,2] 11 (by exact h_pure en_l5Bit rfl rfl (by repeat (first | exact rfl | exact DLead.same | refine ⟨_, _, rfl, ?_, ?_⟩)) (l5Bit_spec (!l.up)) rfl) ?_;refine zd 4 [0,1,2,3] 11 (by exact g_index (i := 0) rfl rfl rfl rfl (bstr1_get _)) ?_;refine zd 5 [] 11 (by exact g_fa_ptr rfl rfl rfl rfl rfl) ?_;refine zd 6 [5] 11 (by exact g_load_ptr rfl rfl rfl rfl rfl) ?_;refine zh 7 [0,1,2,3,5,6] 11 (by exact h_pure en_l5Bit rfl rfl (by repeat (first | exact rfl | exact DLead.same | refine ⟨_, _, rfl, ?_, ?_⟩)) (l5Bit_spec l.up) rfl) ?_;refine zd 8 [0,1,2,3,5,6,7] 11 (by exact g_index (i := 0) rfl rfl rfl rfl (bstr1_get _)) ?_;refine zd 9 [0,1,2,3,4,5,6,7] 11 (by exact as1 rfl) ?_;refine zd 10 (List.range 10) 11 (by exact as1 rfl) ?_;refine zj 11 ?_;refine th_n (AC.seq (AC.seq ?_));refine AC.weak (t := ⟨149, 1500, [(2, aI sg), (3, .d (.ref (stgD s))), (4, .d (.ref (rgD x))), (8, .own 100 n), (10, aI p), (12, .ptr 201 0), (15, .d (dB (bitLb (!l.up)))), (16, .d (dB (bitLb l.up))), (38, .d (vMvs x.moves)), (39, aI x.moves.length), (40, aI j)], [(100, some (.arr 5 1 (byteEls (encS W)))), (201, some (.cells 52 [aI f, aI b, aI t]))]⟩) (zw [(100, 100), (201, _)] hC) ?_;refine AC.region ?_;refine AL.p (by exact mv2 rfl) rfl ?_;refine zF ?_;refine zl ?_;refine AL.p (by exact g_ia_own (i := f) (l := n) rfl rfl rfl rfl rfl rfl hfn rfl) rfl ?_;refine AL.p (by exact g_load_arr1 rfl rfl rfl rfl (by rw [Nat.mul_one]; exact hgf)) rfl ?_;refine zc ?_;refine zm ?_;refine AL.caseGN rfl rfl (fun h4 => ?_) (fun h4 => ?_)
   ·refine zy ?_;refine AL.p (by exact mv2 rfl) rfl ?_;refine zy ?_;refine zF ?_;refine zy ?_;refine zl ?_;refine zy ?_;refine AL.p (by exact g_ia_own (i := f) (l := n) rfl rfl rfl rfl rfl rfl hfn rfl) rfl ?_;refine zy ?_;refine AL.p (by exact g_load_arr1 rfl rfl rfl rfl (by rw [Nat.mul_one]; exact hgf)) rfl ?_;refine zy ?_;refine zm ?_;refine zy ?_;refine zc ?_;refine zQ ?_;refine zm ?_;refine AL.caseGN rfl rfl (fun h5 => ?_) (fun h5 => ?_)
    ·refine zn ?_;refine zn ?_;refine zn ?_;refine zn ?_;refine zn ?_;refine zn ?_;refine zn ?_;refine AL.notU rfl rfl rfl ?_;refine AL.notU rfl rfl rfl ?_;refine AL.notU rfl rfl rfl ?_;refine AL.notU rfl rfl rfl ?_;refine AL.notU rfl rfl rfl ?_;refine AL.notU rfl rfl rfl ?_;refine AL.notU rfl rfl rfl ?_;refine zn ?_;refine zQ ?_;refine AL.nil (th_n ?_);refine AC.condT rfl ?_;refine AC.seq (AC.region ?_);refine za ?_;refine za ?_;refine AL.nil (th_n (AC.ret (th_r (ib_r (th_r (th_r (ib_r (ib_r (th_r (th_r (ib_r (th_r (bq_r ?_)))))))))))));have hsn : S = none := by rw [hst]; refine if_pos ?_; (have q1 := enc_ne ‹¬ ((encR (vAt W f)).toNat : Int) = 63› ‹¬ ((encR (vAt W f)).toNat : Int) = ((bitLb (!l.up)).toNat : Int)›; rw [Bool.not_not] at q1; exact .inl q1)
     have hpn : passR sg A V = none := by rw [← hps, hsn]; rfl
     have e := hRn (by rw [← hit, hpn]; rfl);exact ret2 rfl (by rw [e]; rfl) (by rw [e])
    refine zy ?_;refine AL.p (by exact mv2 rfl) rfl ?_;refine zy ?_;refine zF ?_;refine zy ?_;refine zl ?_;refine zy ?_;refine AL.p (by exact g_ia_own (i := t) (l := n) rfl rfl rfl rfl rfl rfl htn rfl) rfl ?_;refine zy ?_;refine AL.p (by exact g_load_arr1 rfl rfl rfl rfl (by rw [Nat.mul_one]; exact hgt)) rfl ?_;refine zy ?_;refine zc ?_;refine zy ?_;refine zm ?_;refine AL.caseGN rfl rfl (fun h6 => ?_) (fun h6 => ?_)
    ·refine zy ?_;refine AL.p (by exact mv2 rfl) rfl ?_;refine zy ?_;refine zF ?_;refine zy ?_;refine zl ?_;refine zy ?_;refine AL.p (by exact g_ia_own (i := t) (l := n) rfl rfl rfl rfl rfl rfl htn rfl) rfl ?_;refine zy ?_;refine AL.p (by exact g_load_arr1 rfl rfl rfl rfl (by rw [Nat.mul_one]; exact hgt)) rfl ?_;refine zy ?_;refine zm ?_;refine zy ?_;refine zc ?_;refine zy ?_;refine zQ ?_;refine zP ?_;refine AL.nil (th_n ?_);refine AC.condND rfl (fun h7 => ?_) (fun h7 => ?_)
     ·refine AC.seq (AC.region ?_);refine za ?_;refine za ?_;refine AL.nil (th_n (AC.ret (th_r (ib_r (th_r (th_r (ib_r (ib_r (th_r (th_r (ib_r (th_r (bq_r ?_)))))))))))));have hsn : S = none := by rw [hst]; refine if_pos ?_; exact .inr (enc_ne ‹¬ ((encR (vAt W t)).toNat : Int) = 63› ‹¬ ((encR (vAt W t)).toNat : Int) = ((bitLb l.up).toNat : Int)›)
      have hpn : passR sg A V = none := by rw [← hps, hsn]; rfl
      have e := hRn (by rw [← hit, hpn]; rfl);exact ret2 rfl (by rw [e]; rfl) (by rw [e])
     refine AC.skip (th_n (AC.seq ?_));have hnf : ¬ vAt W f = some l.up := fun q => by rw [← Bool.not_not l.up] at q; exact (enc_no q).2 (by assumption)
     have hnt : ¬ vAt W t = some (!l.up) := fun q => by exact (enc_no q).2 (by assumption)
     rw [if_neg (by rintro (q | q); exact hnf q; exact hnt q)] at hst;rw [hst, Option.bind_some] at hps;have hgt2 : ∃ c, (byteEls ((encS W).set f (bitLb (!l.up))))[t]? = some [dB c] := ⟨_, byteEls_get (by rw [List.length_set]; omega)⟩;obtain ⟨c, hgc⟩ := hgt2;refine AC.region ?_;refine AL.p (by exact mv2 rfl) rfl ?_;refine zF ?_;refine zl ?_;refine zm ?_;refine AL.p (by exact g_ia_own (i := f) (l := n) rfl rfl rfl rfl rfl rfl hfn rfl) rfl ?_;refine AL.q (by exact h_store_arr (i := f) (j := 0) (d := dB (bitLb (!l.up))) rfl rfl rfl rfl .same rfl hgf (by decide)) rfl ?_;refine AL.nil (th_n (AC.region ?_));refine AL.p (by exact mv2 rfl) rfl ?_;refine zF ?_;refine zl ?_;refine zm ?_;refine AL.p (by exact g_ia_own (i := t) (l := n) rfl rfl rfl rfl rfl rfl htn rfl) rfl ?_;refine AL.q (by exact h_store_arr (i := t) (j := 0) (d := dB (bitLb l.up)) rfl rfl rfl rfl .same rfl (by rw [show [dB (encR (vAt W f))].set 0 (dB (bitLb (!l.up))) = [dB (bitLb (!l.up))] from rfl, byteEls_set]; exact hgc) (by decide)) rfl ?_;refine AL.nil (ib_n (th_n (AC.region ?_)));refine zA ?_;refine zm ?_;refine AL.nil (th_n ?_);exact ⟨(j + 1, (W.set f (some (!l.up))).set t (some l.up)), ⟨by dsimp only; omega, by dsimp only; rw [List.length_set, List.length_set]; exact hWl, hps⟩, by dsimp only; omega, zw [(100, 100)] hC (b := by rw [encS_set, encS_set, ← byteEls_set, ← byteEls_set]; repeat (first | exact True.intro | refine And.intro ?_ ?_ | exact rfl | refine ⟨_, _, rfl, rfl, ?_⟩))⟩
    refine zn ?_;refine zn ?_;refine zn ?_;refine zn ?_;refine zn ?_;refine zn ?_;refine zn ?_;refine zy ?_;refine zP ?_;refine zP ?_;refine AL.nil (th_n ?_);refine AC.condF rfl ?_;refine AC.skip (th_n (AC.seq ?_));have hnf : ¬ vAt W f = some l.up := fun q => by rw [← Bool.not_not l.up] at q; exact (enc_no q).2 (by assumption)
    have hnt : ¬ vAt W t = some (!l.up) := fun q => by exact (enc_no q).1 (by assumption)
    rw [if_neg (by rintro (q | q); exact hnf q; exact hnt q)] at hst;rw [hst, Option.bind_some] at hps;have hgt2 : ∃ c, (byteEls ((encS W).set f (bitLb (!l.up))))[t]? = some [dB c] := ⟨_, byteEls_get (by rw [List.length_set]; omega)⟩;obtain ⟨c, hgc⟩ := hgt2;refine AC.region ?_;refine AL.p (by exact mv2 rfl) rfl ?_;refine zF ?_;refine zl ?_;refine zm ?_;refine AL.p (by exact g_ia_own (i := f) (l := n) rfl rfl rfl rfl rfl rfl hfn rfl) rfl ?_;refine AL.q (by exact h_store_arr (i := f) (j := 0) (d := dB (bitLb (!l.up))) rfl rfl rfl rfl .same rfl hgf (by decide)) rfl ?_;refine AL.nil (th_n (AC.region ?_));refine AL.p (by exact mv2 rfl) rfl ?_;refine zF ?_;refine zl ?_;refine zm ?_;refine AL.p (by exact g_ia_own (i := t) (l := n) rfl rfl rfl rfl rfl rfl htn rfl) rfl ?_;refine AL.q (by exact h_store_arr (i := t) (j := 0) (d := dB (bitLb l.up)) rfl rfl rfl rfl .same rfl (by rw [show [dB (encR (vAt W f))].set 0 (dB (bitLb (!l.up))) = [dB (bitLb (!l.up))] from rfl, byteEls_set]; exact hgc) (by decide)) rfl ?_;refine AL.nil (ib_n (th_n (AC.region ?_)));refine zA ?_;refine zm ?_;refine AL.nil (th_n ?_);exact ⟨(j + 1, (W.set f (some (!l.up))).set t (some l.up)), ⟨by dsimp only; omega, by dsimp only; rw [List.length_set, List.length_set]; exact hWl, hps⟩, by dsimp only; omega, zw [(100, 100)] hC (b := by rw [encS_set, encS_set, ← byteEls_set, ← byteEls_set]; repeat (first | exact True.intro | refine And.intro ?_ ?_ | exact rfl | refine ⟨_, _, rfl, rfl, ?_⟩))⟩
   refine zn ?_;refine zn ?_;refine zn ?_;refine zn ?_;refine zn ?_;refine zn ?_;refine zn ?_;refine zP ?_;refine zm ?_;refine zy ?_;refine AL.p (by exact mv2 rfl) rfl ?_;refine zy ?_;refine zF ?_;refine zy ?_;refine zl ?_;refine zy ?_;refine AL.p (by exact g_ia_own (i := t) (l := n) rfl rfl rfl rfl rfl rfl htn rfl) rfl ?_;refine zy ?_;refine AL.p (by exact g_load_arr1 rfl rfl rfl rfl (by rw [Nat.mul_one]; exact hgt)) rfl ?_;refine zy ?_;refine zc ?_;refine zy ?_;refine zm ?_;refine AL.caseGN rfl rfl (fun h5 => ?_) (fun h5 => ?_)
   ·refine zy ?_;refine AL.p (by exact mv2 rfl) rfl ?_;refine zy ?_;refine zF ?_;refine zy ?_;refine zl ?_;refine zy ?_;refine AL.p (by exact g_ia_own (i := t) (l := n) rfl rfl rfl rfl rfl rfl htn rfl) rfl ?_;refine zy ?_;refine AL.p (by exact g_load_arr1 rfl rfl rfl rfl (by rw [Nat.mul_one]; exact hgt)) rfl ?_;refine zy ?_;refine zm ?_;refine zy ?_;refine zc ?_;refine zy ?_;refine zQ ?_;refine zP ?_;refine AL.nil (th_n ?_);refine AC.condND rfl (fun h6 => ?_) (fun h6 => ?_)
    ·refine AC.seq (AC.region ?_);refine za ?_;refine za ?_;refine AL.nil (th_n (AC.ret (th_r (ib_r (th_r (th_r (ib_r (ib_r (th_r (th_r (ib_r (th_r (bq_r ?_)))))))))))));have hsn : S = none := by rw [hst]; refine if_pos ?_; exact .inr (enc_ne ‹¬ ((encR (vAt W t)).toNat : Int) = 63› ‹¬ ((encR (vAt W t)).toNat : Int) = ((bitLb l.up).toNat : Int)›)
     have hpn : passR sg A V = none := by rw [← hps, hsn]; rfl
     have e := hRn (by rw [← hit, hpn]; rfl);exact ret2 rfl (by rw [e]; rfl) (by rw [e])
    refine AC.skip (th_n (AC.seq ?_));have hnf : ¬ vAt W f = some l.up := fun q => by rw [← Bool.not_not l.up] at q; exact (enc_no q).1 (by assumption)
    have hnt : ¬ vAt W t = some (!l.up) := fun q => by exact (enc_no q).2 (by assumption)
    rw [if_neg (by rintro (q | q); exact hnf q; exact hnt q)] at hst;rw [hst, Option.bind_some] at hps;have hgt2 : ∃ c, (byteEls ((encS W).set f (bitLb (!l.up))))[t]? = some [dB c] := ⟨_, byteEls_get (by rw [List.length_set]; omega)⟩;obtain ⟨c, hgc⟩ := hgt2;refine AC.region ?_;refine AL.p (by exact mv2 rfl) rfl ?_;refine zF ?_;refine zl ?_;refine zm ?_;refine AL.p (by exact g_ia_own (i := f) (l := n) rfl rfl rfl rfl rfl rfl hfn rfl) rfl ?_;refine AL.q (by exact h_store_arr (i := f) (j := 0) (d := dB (bitLb (!l.up))) rfl rfl rfl rfl .same rfl hgf (by decide)) rfl ?_;refine AL.nil (th_n (AC.region ?_));refine AL.p (by exact mv2 rfl) rfl ?_;refine zF ?_;refine zl ?_;refine zm ?_;refine AL.p (by exact g_ia_own (i := t) (l := n) rfl rfl rfl rfl rfl rfl htn rfl) rfl ?_;refine AL.q (by exact h_store_arr (i := t) (j := 0) (d := dB (bitLb l.up)) rfl rfl rfl rfl .same rfl (by rw [show [dB (encR (vAt W f))].set 0 (dB (bitLb (!l.up))) = [dB (bitLb (!l.up))] from rfl, byteEls_set]; exact hgc) (by decide)) rfl ?_;refine AL.nil (ib_n (th_n (AC.region ?_)));refine zA ?_;refine zm ?_;refine AL.nil (th_n ?_);exact ⟨(j + 1, (W.set f (some (!l.up))).set t (some l.up)), ⟨by dsimp only; omega, by dsimp only; rw [List.length_set, List.length_set]; exact hWl, hps⟩, by dsimp only; omega, zw [(100, 100)] hC (b := by rw [encS_set, encS_set, ← byteEls_set, ← byteEls_set]; repeat (first | exact True.intro | refine And.intro ?_ ?_ | exact rfl | refine ⟨_, _, rfl, rfl, ?_⟩))⟩
   refine zn ?_;refine zn ?_;refine zn ?_;refine zn ?_;refine zn ?_;refine zn ?_;refine zn ?_;refine zy ?_;refine zP ?_;refine zP ?_;refine AL.nil (th_n ?_);refine AC.condF rfl ?_;refine AC.skip (th_n (AC.seq ?_));have hnf : ¬ vAt W f = some l.up := fun q => by rw [← Bool.not_not l.up] at q; exact (enc_no q).1 (by assumption)
   have hnt : ¬ vAt W t = some (!l.up) := fun q => by exact (enc_no q).1 (by assumption)
   rw [if_neg (by rintro (q | q); exact hnf q; exact hnt q)] at hst;rw [hst, Option.bind_some] at hps;have hgt2 : ∃ c, (byteEls ((encS W).set f (bitLb (!l.up))))[t]? = some [dB c] := ⟨_, byteEls_get (by rw [List.length_set]; omega)⟩;obtain ⟨c, hgc⟩ := hgt2;refine AC.region ?_;refine AL.p (by exact mv2 rfl) rfl ?_;refine zF ?_;refine zl ?_;refine zm ?_;refine AL.p (by exact g_ia_own (i := f) (l := n) rfl rfl rfl rfl rfl rfl hfn rfl) rfl ?_;refine AL.q (by exact h_store_arr (i := f) (j := 0) (d := dB (bitLb (!l.up))) rfl rfl rfl rfl .same rfl hgf (by decide)) rfl ?_;refine AL.nil (th_n (AC.region ?_));refine AL.p (by exact mv2 rfl) rfl ?_;refine zF ?_;refine zl ?_;refine zm ?_;refine AL.p (by exact g_ia_own (i := t) (l := n) rfl rfl rfl rfl rfl rfl htn rfl) rfl ?_;refine AL.q (by exact h_store_arr (i := t) (j := 0) (d := dB (bitLb l.up)) rfl rfl rfl rfl .same rfl (by rw [show [dB (encR (vAt W f))].set 0 (dB (bitLb (!l.up))) = [dB (bitLb (!l.up))] from rfl, byteEls_set]; exact hgc) (by decide)) rfl ?_;refine AL.nil (ib_n (th_n (AC.region ?_)));refine zA ?_;refine zm ?_;refine AL.nil (th_n ?_);exact ⟨(j + 1, (W.set f (some (!l.up))).set t (some l.up)), ⟨by dsimp only; omega, by dsimp only; rw [List.length_set, List.length_set]; exact hWl, hps⟩, by dsimp only; omega, zw [(100, 100)] hC (b := by rw [encS_set, encS_set, ← byteEls_set, ← byteEls_set]; repeat (first | exact True.intro | refine And.intro ?_ ?_ | exact rfl | refine ⟨_, _, rfl, rfl, ?_⟩))⟩
  refine AC.exit (th_e (th_e (ib_y (ib_n (th_n (AC.region ?_))))));refine zm ?_;refine zA ?_;refine za ?_;refine AL.nil (th_n ?_);have hjj : j = A.length := by omega
  rw [hjj, List.drop_length, passR] at hps;rw [← hps, Option.bind_some] at hit;exact ⟨(p + 1, W), ⟨by dsimp only; omega, hWl, by rw [show n + 1 - (p + 1) = q by omega]; exact hit⟩, by dsimp only; omega, zw [(100, 100)] hC⟩
 refine AC.exit (th_e (th_e (ib_y (th_n (AC.seq ?_)))));have hz : n + 1 - p = 0 := by omega
 rw [hz, iterR] at hit;have e := hRs V hit.symm;have hel := encS_len V;refine AC.region ?_;refine AL.p (by exact mv2 rfl) rfl ?_;refine AL.p (by exact g_strOfBytes (l := encS V) rfl rfl rfl rfl rfl rfl (by rw [hel, hVl])) rfl ?_;refine za ?_;refine za ?_;refine AL.nil (th_n (AC.ret (bq_r ?_)));exact ret2 rfl (by rw [e]) (by rw [e])
theorem en_l5Values : Enters Tryz.prog 137 := enters_of Tryz.func137 rfl rfl
def swapE (E : List (Nat × Nat)) : List (Nat × Nat) := E.map fun e => (e.2, e.1)
theorem swapE_mem {E : List (Nat × Nat)} {f t : Nat} : (f, t) ∈ swapE E ↔ (t, f) ∈ E := by
 unfold swapE;rw [List.mem_map];constructor
 ·rintro ⟨⟨a, b⟩, h, e⟩;obtain ⟨rfl, rfl⟩ := Prod.mk.inj e;exact h
 intro h; exact ⟨(t, f), h, rfl⟩
theorem swapE_len (E : List (Nat × Nat)) : (swapE E).length = E.length := List.length_map _
abbrev canAt (c : List Bool) (v : Nat) : Bool := c.getD v false
theorem canAt_set {c : List Bool} {v u : Nat} : canAt (c.set v true) u = true ↔ canAt c u = true ∨ (u = v ∧ v < c.length) := by
 unfold canAt;rw [List.getD_eq_getElem?_getD, List.getD_eq_getElem?_getD, List.getElem?_set]
 by_cases e : v = u
 ·subst e;rw [if_pos rfl]
  by_cases h : v < c.length
  ·rw [if_pos h]; simp [h]
  rw [if_neg h, List.getElem?_eq_none (by omega)]; simp [h]
 rw [if_neg e];constructor
 ·exact .inl
 rintro (g | ⟨rfl, _⟩)
 ·exact g
 exact absurd rfl e
structure BackI (E : List (Nat × Nat)) (n s : Nat) (o : List Int) (c : List Bool) (r j : Nat) : Prop where
 len : c.length = n
 snd : ∀ v, canAt c v = true → 0 ≤ oa o v
 cmp : ∀ v, 0 ≤ oa o v → oa o v ≤ r → canAt c v = true
 part : ∀ f t, (f, t) ∈ E.take j → 0 ≤ oa o t → oa o t ≤ r → canAt c f = true
theorem BackI.start {E : List (Nat × Nat)} {n s : Nat} {o : List Int} (hs : s < n) (h : DistOf (swapE E) n s o) : BackI E n s o ((List.replicate n false).set s true) 0 0 := by
 refine ⟨by simp, fun v hv => ?_, fun v h0 h1 => ?_, fun f t hm => by simp at hm⟩
 ·rcases canAt_set.1 hv with g | ⟨rfl, _⟩
  ·unfold canAt at g; rw [List.getD_eq_getElem?_getD, List.getElem?_replicate] at g; split at g <;> cases g
  rw [h.st]; exact Int.le_refl _
 have hw := h.wk v 0 (by omega);cases hw;exact canAt_set.2 (.inr ⟨rfl, by simpa using hs⟩)
theorem BackI.no {E : List (Nat × Nat)} {n s : Nat} {o : List Int} {c : List Bool} {r j : Nat} (h : BackI E n s o c r j) (hj : j < E.length) (hb : canAt c E[j].2 = false) : BackI E n s o c r (j + 1) := by
 refine ⟨h.len, h.snd, h.cmp, fun f t hm h0 h1 => ?_⟩;rcases mem_takeE hj hm with g | g
 ·exact h.part f t g h0 h1
 rw [← g] at hb;have := h.cmp t h0 h1;rw [hb] at this; cases this
theorem BackI.yes {E : List (Nat × Nat)} {n s : Nat} {o : List Int} {c : List Bool} {r j : Nat} (hd : DistOf (swapE E) n s o) (h : BackI E n s o c r j) (hj : j < E.length) (hf : E[j].1 < n) (hb : canAt c E[j].2 = true) : BackI E n s o (c.set E[j].1 true) r (j + 1) := by
 refine ⟨by rw [List.length_set]; exact h.len, fun v hv => ?_, fun v h0 h1 => canAt_set.2 (.inl (h.cmp v h0 h1)), fun f t hm h0 h1 => ?_⟩
 ·rcases canAt_set.1 hv with g | ⟨rfl, _⟩
  ·exact h.snd v g
  exact (hd.ed E[j].2 E[j].1 (swapE_mem.2 (List.getElem_mem hj)) (h.snd _ hb)).1
 rcases mem_takeE hj hm with g | g
 ·exact canAt_set.2 (.inl (h.part f t g h0 h1))
 rw [← g]; exact canAt_set.2 (.inr ⟨rfl, by rw [h.len, g]; exact hf⟩)
theorem BackI.next {E : List (Nat × Nat)} {n s : Nat} {o : List Int} {c : List Bool} {r j : Nat} (hd : DistOf (swapE E) n s o) (h : BackI E n s o c r j) (hj : j = E.length) : BackI E n s o c (r + 1) 0 := by
 refine ⟨h.len, h.snd, fun v h0 h1 => ?_, fun f t hm => by simp at hm⟩;rcases Int.lt_or_le (oa o v) ((r : Int) + 1) with g | g
 ·exact h.cmp v h0 (by omega)
 have hv : oa o v = ((r + 1 : Nat) : Int) := by omega
 have hw := hd.wk v (r + 1) hv;cases hw with
 | @step _ u _ w e =>
  have h2 := hd.walk w;have h3 := hd.ed u v e h2.1;exact h.part v u (by rw [hj, List.take_length]; exact swapE_mem.1 e) h2.1 (by omega)
theorem BackI.all {E : List (Nat × Nat)} {n s : Nat} {o : List Int} {c : List Bool} (h : BackI E n s o c n 0) (hle : ∀ v, oa o v ≤ n) (v : Nat) : canAt c v = decide (0 ≤ oa o v) := by
 rw [Bool.eq_iff_iff, decide_eq_true_eq];exact ⟨h.snd v, fun g => h.cmp v g (hle v)⟩
def cutM (M a : Int) : Int := if a < M then a else M
def addC (M : Int) (now : List Int) : List Mv → List Int → List Int
 | [], nx => nx
 | v :: l, nx => addC M now l (nx.set v.to_.toNat (cutM M (nx.getD v.to_.toNat 0 + now.getD v.from_.toNat 0)))
structure CapI (a b : List Int) : Prop where
 len : a.length = b.length
 lo : ∀ v, 0 ≤ a.getD v 0 ∧ a.getD v 0 ≤ 2000000
 cap : ∀ v, b.getD v 0 = cutM 1000001 (a.getD v 0)
theorem iget_set {l : List Int} {i v : Nat} {x : Int} : (l.set i x).getD v 0 = if v = i ∧ i < l.length then x else l.getD v 0 := by
 rw [List.getD_eq_getElem?_getD, List.getD_eq_getElem?_getD, List.getElem?_set]
 by_cases e : i = v
 ·subst e
  by_cases h : i < l.length
  ·rw [if_pos rfl, if_pos h, if_pos ⟨rfl, h⟩]; rfl
  rw [if_pos rfl, if_neg h, if_neg (fun q => h q.2), List.getElem?_eq_none (by omega)]
 rw [if_neg e, if_neg (fun q => e q.1.symm)]
theorem iget_rep (n v : Nat) : (List.replicate n (0 : Int)).getD v 0 = 0 := by
 rw [List.getD_eq_getElem?_getD, List.getElem?_replicate]; split <;> rfl
theorem CapI.zero (n : Nat) : CapI (List.replicate n 0) (List.replicate n 0) := ⟨rfl, fun v => by rw [iget_rep]; decide, fun v => by rw [iget_rep]; decide⟩
theorem CapI.add {now now' : List Int} (hn : CapI now now') : ∀ (L : List Mv) {a b : List Int}, CapI a b → CapI (addC 2000000 now L a) (addC 1000001 now' L b)
 | [], a, b, h => h
 | v :: L, a, b, h => by
  rw [addC, addC];refine CapI.add hn L ⟨by rw [List.length_set, List.length_set]; exact h.len, fun u => ?_, fun u => ?_⟩
  ·rw [iget_set];have h1 := h.lo v.to_.toNat;have h2 := hn.lo v.from_.toNat;have h3 := h.lo u;unfold cutM
   split
   ·split <;> omega
   exact h3
  rw [iget_set, iget_set, ← h.len];have h1 := h.lo v.to_.toNat;have h2 := hn.lo v.from_.toNat;have h3 := h.cap v.to_.toNat;have h4 := hn.cap v.from_.toNat
  split
  ·rw [h3, h4];unfold cutM
   repeat' split
   all_goals omega
  exact h.cap u
abbrev boolL (c : List Bool) : List (List DV) := c.map fun b => [dT b]
theorem boolL_len (c : List Bool) : (boolL c).length = c.length := List.length_map _
theorem boolL_get {c : List Bool} {v : Nat} (h : v < c.length) : (boolL c)[v]? = some [dT (canAt c v)] := by
 rw [List.getElem?_map, List.getElem?_eq_getElem h];unfold canAt;rw [List.getD_eq_getElem?_getD, List.getElem?_eq_getElem h]; rfl
theorem boolL_set (c : List Bool) (v : Nat) : boolL (c.set v true) = (boolL c).set v [dT true] := by unfold boolL; rw [List.map_set]
theorem boolL_rep (n : Nat) : List.replicate n (([ZK.bool] : List ZK).map fun z => DV.val z.val) = boolL (List.replicate n false) := by unfold boolL; rw [List.map_replicate]; rfl
def allU (o : List Int) (i : Nat) : Bool := (List.range i).all fun v => decide (0 ≤ oa o v)
def clB (s : Stg) (x : Ex) (k : Nat) : Bool := (valF (k : Int) (arcsOf s x) x.marks.length).isNone
def clL (s : Stg) (x : Ex) (n : Nat) : List Int := nI ((List.range n).filter (clB s x))
theorem clL_succ (s : Stg) (x : Ex) (n : Nat) : clL s x (n + 1) = clL s x n ++ (if clB s x n = true then [(n : Int)] else []) := by
 unfold clL nI;rw [List.range_succ, List.filter_append, List.map_append];congr 1;cases h : clB s x n <;> simp [h]
theorem clL_len (s : Stg) (x : Ex) (n : Nat) : (clL s x n).length ≤ n := by
 unfold clL nI;rw [List.length_map];have := List.length_filter_le (clB s x) (List.range n)
 rwa [List.length_range] at this
theorem clB_S (s : Stg) (x : Ex) (k : Nat) : (valS (k : Int) (arcsOf s x) x.marks.length).2 = !clB s x k := by
 unfold valS clB;cases valF (k : Int) (arcsOf s x) x.marks.length <;> rfl
structure CodI (s : Stg) (x : Ex) : Prop where
 n1 : 1 ≤ x.marks.length
 n : x.marks.length ≤ 300
 m : x.moves.length ≤ 10000
 b : ∀ v, v ∈ x.moves → 0 ≤ v.by_ ∧ v.by_ < s.labs.length
 a : ∀ a, a ∈ arcsOf s x → ArIn x.marks.length a
theorem codI {s : Stg} (h : (explS s).2 = true) : CodI s (explS s).1 := by
 obtain ⟨hg, hE⟩ := explS_Expl h;have hl := (goodS_sigs hg).2.2.2;refine ⟨hE.n.1, hE.n.2, (explS_in s).2, fun v hv => ?_, fun a ha => ?_⟩
 ·have := hE.inn v hv;rw [hl]; exact this.2.2.2.2
 unfold arcsOf at ha;obtain ⟨v, hv, rfl⟩ := List.mem_map.1 ha;have := hE.inn v hv;exact ⟨⟨this.1, this.2.1⟩, this.2.2.1, this.2.2.2.1⟩
set_option maxHeartbeats 4000000 in
theorem l5Clash_spec (s : Stg) (x : Ex) (hsg : s.sigs.length ≤ 100000) (hx : CodI s x) : ASpec Tryz.prog 136 [stgA s, rgA x] [] (Pure1 (.d (vI (clL s x s.sigs.length)))) := by
 have hHs := clL_succ s x;have hHl := clL_len s x;have hV := fun k : Nat => l5Values_spec s x k hx.n1 (by have := hx.n; omega) (by have := hx.m; omega) hx.b hx.a
 simp only [clB_S] at hV;refine ASpec.of Tryz.func136 rfl rfl fun C hC => ?_
 refine AC.seq (AC.region ?_);refine AL.q (by exact h_boxF rfl rfl) rfl ?_;refine AL.q (by exact h_boxF rfl rfl) rfl ?_;refine za ?_;refine AL.nil (th_n (AC.seq (AC.region ?_)));refine za ?_;refine AL.nil (th_n (AC.seq (AC.seq (AC.region ?_))));refine zf ?_;refine zr ?_;refine AL.p (by exact g_len_view (k := s.sigs.length) rfl rfl (sigsL_len _)) rfl ?_;refine zm ?_;refine AL.nil (th_n (AC.block ?_));refine AC.loop (ι := Nat) (fun k => ⟨30, 600, [(2, .d (.ref (stgD s))), (3, .d (.ref (rgD x))), (5, .own 100 (clL s x k).length), (11, aI s.sigs.length), (12, aI k)], [(100, some (.arr 3 1 (ints (clL s x k))))]⟩) (fun k => k ≤ s.sigs.length) (fun k => s.sigs.length - k) (0) ?_ (Nat.zero_le _) ?_
 ·exact (Weak.nilOwn (i := 5) (e := 3) (sz := 1) rfl (by decide)).trans (zw [(100, _)] hC)
 intro k hk;refine AC.seq (AC.region ?_);refine zc ?_;refine AL.nil (th_n (AC.seq ?_));refine AC.condD rfl (fun h0 => ?_) (fun h0 => ?_)
 ·refine AC.skip (th_n (AC.seq (AC.block (AC.seq ?_))));have hk1 : k < s.sigs.length := by omega
  have hHk := hHs k;have hHlk := hHl k;have hVk := hV k;obtain ⟨h, hh⟩ : ∃ h, h = clB s x k := ⟨_, rfl⟩;rw [← hh] at hVk hHk;clear hh;refine AC.region ?_;refine zm ?_;refine za ?_;refine AL.nil (th_n (AC.seq (AC.region ?_)));refine AL.p (by exact g_load_refN rfl rfl rfl rfl) rfl ?_;refine AL.p (by exact g_load_refN rfl rfl rfl rfl) rfl ?_;refine zm ?_;refine AL.q (by exact h_pure en_l5Values rfl rfl (by repeat (first | exact rfl | exact DLead.same | refine ⟨_, _, rfl, ?_, ?_⟩ | refine ⟨_, rfl, ?_⟩)) hVk rfl) rfl ?_;refine AL.p (by exact mv5 rfl) rfl ?_;refine AL.p (by exact g_extract (r := .d _) rfl rfl) rfl ?_;refine AL.p (by exact g_extract (r := .d _) rfl rfl) rfl ?_;refine za ?_;refine za ?_;refine AL.nil (th_n (AC.seq (AC.region ?_)));refine zm ?_;refine AL.p (by exact g_not rfl) rfl ?_;refine AL.nil (th_n ?_);refine AC.condB rfl (fun h1 => ?_) (fun h1 => ?_)
  ·refine AC.region ?_;refine AL.p (by exact mv2 rfl) rfl ?_;refine zm ?_;refine AL.q (by exact h_litF rfl rfl rfl rfl rfl rfl rfl rfl) rfl ?_;refine AL.q (by exact h_appendI (clL s x k) [(k : Int)] (.own rfl rfl (ints_len _).symm) (.view rfl) (by rw [List.length_append]; simp only [List.length_cons, List.length_nil]; omega) (by simp)) rfl ?_;refine AL.p (by exact as2 rfl) rfl ?_;refine AL.nil (ib_n (th_n (AC.region ?_)));refine zA ?_;refine zm ?_;refine AL.nil (th_n ?_)
   (have e : h = true := (by simpa using ‹(!!h) = true›); rw [if_pos e] at hHk; exact ⟨k + 1, by omega, by omega, zw [(100, _)] hC (by rw [hHk]; repeat (first | exact True.intro | refine And.intro ?_ ?_ | exact DLead.same | exact rfl | refine ⟨_, rfl, ?_⟩)) (by rw [hHk]; repeat (first | exact True.intro | refine And.intro ?_ ?_ | exact rfl | refine ⟨_, _, rfl, rfl, ?_⟩))⟩)
  refine AC.skip (ib_n (th_n (AC.region ?_)));refine zA ?_;refine zm ?_;refine AL.nil (th_n ?_)
  (have e : ¬ h = true := (by simpa using ‹(!!h) = false›); rw [if_neg e, List.append_nil] at hHk; exact ⟨k + 1, by omega, by omega, zw [(100, 100)] hC (by rw [hHk]; repeat (first | exact True.intro | refine And.intro ?_ ?_ | exact DLead.same | exact rfl | refine ⟨_, rfl, ?_⟩)) (by rw [hHk]; repeat (first | exact True.intro | refine And.intro ?_ ?_ | exact rfl | refine ⟨_, _, rfl, rfl, ?_⟩))⟩)
 refine AC.exit (th_e (th_e (ib_y (th_n (AC.seq ?_)))));have hkk : k = s.sigs.length := by omega
 rw [hkk];refine AC.weak (Weak.freeze (i := 5) rfl rfl (Nat.le_of_eq (ints_len _).symm) (List.take_of_length_le (Nat.le_of_eq (ints_len _)))) ?_;refine AC.region ?_;refine zm ?_;refine za ?_;refine AL.nil (th_n (AC.ret (bq_r ?_)));exact ret0 rfl (by repeat (exact DLead.same))
theorem en_l5Clash : Enters Tryz.prog 136 := enters_of Tryz.func136 rfl rfl
structure SG where
 sigs : List Sig
 codes : List (List UInt8)
 arcs : List Ar
abbrev sgD (c : SG) : List DV := [vSigs c.sigs, .view 9 1 (tsX c.codes), vArs c.arcs]
abbrev sgC (c : SG) : List AV := [.d (vSigs c.sigs), .d (.view 9 1 (tsX c.codes)), .d (vArs c.arcs)]
abbrev sgA (c : SG) : AV := .agg [.d (vSigs c.sigs), .d (.view 9 1 (tsX c.codes)), .d (vArs c.arcs)]
abbrev zSG : List AV := [.d (.val (.slice none 0 0)), .d (.val (.slice none 0 0)), .d (.val (.slice none 0 0))]
theorem iterV_len {sg : Int} {L : List Ar} {n : Nat} (hL : ∀ a, a ∈ L → ArIn n a) : ∀ (k : Nat) {V W : List (Option Bool)}, V.length = n → iterV sg L k V = some W → W.length = n
 | 0, V, W, hV, h => by cases h; exact hV
 | k + 1, V, W, hV, h => by
  rw [iterV] at h;cases hp : passV sg L V with
  | none => rw [hp] at h; cases h
  | some U =>
   rw [hp, Option.bind_some] at h;exact iterV_len hL k ((passV_ups hV hL hp).1.trans hV) h
theorem valF_len {sg : Int} {L : List Ar} {n : Nat} {V : List (Option Bool)} (hL : ∀ a, a ∈ L → ArIn n a) (h : valF sg L n = some V) : V.length = n := iterV_len hL _ (by simp) h
def colC (s : Stg) (x : Ex) (j i : Nat) : UInt8 := chB (vAt ((valF (j : Int) (arcsOf s x) x.marks.length).getD []) i)
def codeC (s : Stg) (x : Ex) (k i : Nat) : List UInt8 := (List.range k).map fun j => colC s x j i
def mixC (s : Stg) (x : Ex) (k i : Nat) : List (List UInt8) := (List.range x.marks.length).map fun a => codeC s x (if a < i then k + 1 else k) a
theorem codeC_len (s : Stg) (x : Ex) (k i : Nat) : (codeC s x k i).length = k := by unfold codeC; simp
theorem codeC_succ (s : Stg) (x : Ex) (k i : Nat) : codeC s x (k + 1) i = codeC s x k i ++ [colC s x k i] := by unfold codeC; rw [List.range_succ, List.map_append]; rfl
theorem mixC_len (s : Stg) (x : Ex) (k i : Nat) : (mixC s x k i).length = x.marks.length := by unfold mixC; simp
theorem mixC_next (s : Stg) (x : Ex) (k : Nat) : mixC s x k x.marks.length = mixC s x (k + 1) 0 := by
 unfold mixC;refine List.map_congr_left fun a ha => ?_
 rw [if_pos (List.mem_range.1 ha), if_neg (Nat.not_lt_zero _)]
theorem mixC_get {s : Stg} {x : Ex} {k i : Nat} (h : i < x.marks.length) : (tsX (mixC s x k i))[i]? = some [dS (bstr (codeC s x k i))] := by
 unfold mixC;rw [List.getElem?_map, List.getElem?_map, List.getElem?_range h, Option.map_some, Option.map_some, if_neg (Nat.lt_irrefl _)]
theorem mixC_set {s : Stg} {x : Ex} {k i : Nat} (h : i < x.marks.length) : (tsX (mixC s x k i)).set i [dS (bstr (codeC s x k i) ++ bstr [colC s x k i])] = tsX (mixC s x k (i + 1)) := by
 rw [bstr_append, ← codeC_succ];unfold mixC;refine List.ext_getElem? fun a => ?_
 rw [List.getElem?_set]
 by_cases e : i = a
 ·subst e;rw [if_pos rfl, if_pos (by simpa using h), List.getElem?_map, List.getElem?_map, List.getElem?_range h, Option.map_some, Option.map_some, if_pos (Nat.lt_succ_self _)]
 rw [if_neg e]
 by_cases ha : a < x.marks.length
 ·rw [List.getElem?_map, List.getElem?_map, List.getElem?_map, List.getElem?_map, List.getElem?_range ha];simp only [Option.map_some];congr 5
  by_cases q : a < i
  ·rw [if_pos q, if_pos (by omega)]
  rw [if_neg q, if_neg (by omega)]
 rw [List.getElem?_eq_none (by simpa using ha), List.getElem?_eq_none (by simpa using ha)]
theorem mixC_zero (s : Stg) (x : Ex) : tsX (mixC s x 0 0) = List.replicate x.marks.length (([ZK.str] : List ZK).map fun z => DV.val z.val) := by
 unfold mixC;refine List.ext_getElem? fun a => ?_
 by_cases ha : a < x.marks.length
 ·rw [List.getElem?_map, List.getElem?_map, List.getElem?_range ha, List.getElem?_replicate, if_pos ha]; rfl
 rw [List.getElem?_eq_none (by simpa using ha), List.getElem?_eq_none (by simpa using ha)]
def codeS (s : Stg) : SG × Bool := if (explS s).2 = true ∧ (clL s (explS s).1 s.sigs.length).length = 0 ∧ (explS s).1.moves.length ≤ 4000 then (⟨s.sigs, mixC s (explS s).1 s.sigs.length 0, arcsOf s (explS s).1⟩, true) else (⟨[], [], []⟩, false)
theorem clL_zero {s : Stg} {x : Ex} {n : Nat} : (clL s x n).length = 0 ↔ ∀ k, k < n → clB s x k = false := by
 unfold clL nI;rw [List.length_map, List.length_eq_zero_iff, List.filter_eq_nil_iff];exact ⟨fun h k hk => by have := h k (List.mem_range.2 hk); simpa using this, fun h k hk => by rw [h k (List.mem_range.1 hk)]; decide⟩
theorem cut1 {c : List UInt8} {i : Nat} (h : i < c.length) : (bstr c).extract i (i + 1) = bstr [c.getD i 0] := by
 rw [bstr_cut c (Nat.le_succ _) (by omega)];congr 1;rw [List.take_add_one, List.drop_append, List.drop_of_length_le (by rw [List.length_take]; omega), List.nil_append, List.getElem?_eq_getElem h, List.length_take, Nat.min_eq_left (Nat.le_of_lt h), Nat.sub_self, List.drop_zero, List.getD_eq_getElem?_getD, List.getElem?_eq_getElem h]; rfl
theorem one63 {v : UInt8} : bstr [v] = bstr [63] ↔ v = 63 := by
 constructor
 ·intro h;have := bstr_inj h;simpa using this
 rintro rfl; rfl
theorem valS_col {s : Stg} {x : Ex} {k : Nat} (hL : ∀ a, a ∈ arcsOf s x → ArIn x.marks.length a) (h : clB s x k = false) : (valS (k : Int) (arcsOf s x) x.marks.length).1.length = x.marks.length ∧ ∀ i, i < x.marks.length → ((valS (k : Int) (arcsOf s x) x.marks.length).1.getD i 0 = 63 → colC s x k i = 48) ∧ (¬ (valS (k : Int) (arcsOf s x) x.marks.length).1.getD i 0 = 63 → colC s x k i = (valS (k : Int) (arcsOf s x) x.marks.length).1.getD i 0) := by
 unfold clB at h;unfold valS colC;cases hv : valF (k : Int) (arcsOf s x) x.marks.length with
 | none => rw [hv] at h; cases h
 | some V =>
  have hl := valF_len hL hv;refine ⟨by simp [encS_len, hl], fun i hi => ?_⟩;show ((encS V).getD i 0 = 63 → chB (vAt V i) = 48) ∧ (¬ (encS V).getD i 0 = 63 → chB (vAt V i) = (encS V).getD i 0)
  have e : (encS V).getD i 0 = encR (vAt V i) := by
   unfold encS;rw [List.getD_eq_getElem?_getD, List.getElem?_map, List.getElem?_eq_getElem (by omega), vAt_get (by omega)]; rfl
  rw [e];cases vAt V i with
  | none => exact ⟨fun _ => rfl, fun q => absurd rfl q⟩
  | some b => cases b <;> exact ⟨fun q => absurd q (by decide), fun _ => rfl⟩
set_option maxHeartbeats 16000000 in
theorem sBuild_spec (s : Stg) (hB : StgB s) : ASpec Tryz.prog 44 [stgA s] [] (Fun1 (.tup [.agg [.d (vSigs (codeS s).1.sigs), .own 0 (codeS s).1.codes.length, .own 1 (codeS s).1.arcs.length], aT (codeS s).2]) [(0, .arr 9 1 (tsX (codeS s).1.codes)), (1, .arr 75 4 (arL (codeS s).1.arcs))]) := by
 have hX := sExplore_spec s hB;have hXi := explS_in s;have hR : codeS s = if (explS s).2 = true ∧ (clL s (explS s).1 s.sigs.length).length = 0 ∧ (explS s).1.moves.length ≤ 4000 then (⟨s.sigs, mixC s (explS s).1 s.sigs.length 0, arcsOf s (explS s).1⟩, true) else (⟨[], [], []⟩, false) := rfl
 have hI : (explS s).2 = true → CodI s (explS s).1 := codI;obtain ⟨R, hRR⟩ : ∃ R, R = codeS s := ⟨_, rfl⟩;rw [← hRR] at hR ⊢;obtain ⟨X, hXX⟩ : ∃ X, X = explS s := ⟨_, rfl⟩;rw [← hXX] at hX hXi hR hI;clear hXX hRR;obtain ⟨x, ok⟩ := X;dsimp only at hX hXi hR hI;have hsg := hB.sg;have hm0 := mixC_zero s x;have hml := mixC_len s x;have hgt := fun (k i : Nat) (h : i < x.marks.length) => mixC_get (s := s) (k := k) h
 have hst := fun (k i : Nat) (h : i < x.marks.length) => mixC_set (s := s) (k := k) h
 have hnx := mixC_next s x;have hcl := fun k i => codeC_len s x k i
 have hz : (clL s x s.sigs.length).length = 0 ↔ ∀ k, k < s.sigs.length → clB s x k = false := clL_zero;have hzl := clL_len s x s.sigs.length;have hCl := fun h : ok = true => l5Clash_spec s x hsg (hI h)
 refine ASpec.of Tryz.func44 rfl rfl fun C hC => ?_
 refine AC.seq (AC.region ?_);refine AL.q (by exact h_boxF rfl rfl) rfl ?_;refine AL.q (by exact h_alloc rfl) rfl ?_;refine za ?_;refine AL.nil (th_n (AC.seq (AC.region ?_)));refine AL.p (by exact g_load_refN rfl rfl rfl rfl) rfl ?_;refine AL.q (by exact h_fun (cs := []) en_sExplore rfl rfl (by repeat (first | exact rfl | exact DLead.same | refine ⟨_, _, rfl, ?_, ?_⟩ | refine ⟨_, rfl, ?_⟩)) (by repeat (exact True.intro)) hX rfl rfl rfl rfl) rfl ?_;refine AL.p (by exact mv5 rfl) rfl ?_;refine AL.p (by exact g_extract (r := .agg _) rfl rfl) rfl ?_;refine AL.p (by exact g_extract (r := .d _) rfl rfl) rfl ?_;refine AL.q (by exact h_alloc rfl) rfl ?_;refine zs ?_;refine za ?_;refine AL.nil (th_n (AC.seq (AC.seq ?_)));refine AC.weak (Weak.freezeP (els' := tsX x.marks) 4 0 rfl rfl rfl rfl (by rw [tsX_len]; exact Nat.le_refl _) (List.take_of_length_le (by rw [tsX_len]; exact Nat.le_refl _)) rfl) ?_;refine AC.weak (Weak.freezeP (els' := mvL x.moves) 4 1 rfl rfl rfl rfl (by rw [mvL_len]; exact Nat.le_refl _) (List.take_of_length_le (by rw [mvL_len]; exact Nat.le_refl _)) rfl) ?_;refine AC.weak (t := ⟨110, 400, [(1, .d (.ref (stgD s))), (2, .ptr 202 0), (3, aT false), (4, .ptr 201 0), (5, aT ok)], [(201, some (.cells 35 (rgC x))), (202, some (.cells 68 zSG))]⟩) (zw [(201, _), (202, _)] hC) ?_;refine AC.region ?_;refine zm ?_;refine AL.p (by exact g_not rfl) rfl ?_;refine zm ?_;refine AL.caseGB rfl rfl (fun h0 => ?_) (fun h0 => ?_)
 ·refine zn ?_;refine zn ?_;refine zn ?_;refine zn ?_;refine zn ?_;refine zQ ?_;refine zm ?_;refine zn ?_;refine zn ?_;refine zn ?_;refine zn ?_;refine zQ ?_;refine AL.nil (th_n ?_);refine AC.condT rfl ?_;refine AC.seq (AC.region ?_);refine AL.p (by exact g_build rfl rfl rfl) rfl ?_;refine zs ?_;refine za ?_;refine AL.nil (th_n ?_);refine AC.weak ((Weak.nilOwnP 2 1 (e := 9) (sz := 1) rfl rfl rfl rfl rfl).trans (Weak.nilOwnP 2 2 (e := 75) (sz := 4) rfl rfl rfl rfl rfl)) ?_;refine AC.ret (th_r (bq_r ?_));have e : R = (⟨[], [], []⟩, false) := hR.trans (if_neg fun q => by have q1 := q.1; have q2 := q.2.1; have q3 := q.2.2; simp_all);exact retN [(0, _), (1, _)] rfl (by rw [e]; show AV.leads _ (.tup [.agg [.d (vSigs []), .own 0 0, .own 1 0], aT false]) _; repeat (first | exact DLead.same | exact DLead.nil | exact rfl | refine ⟨_, rfl, ?_⟩ | refine ⟨_, _, rfl, ?_, ?_⟩)) (by rw [e]; repeat (first | exact True.intro | refine And.intro ?_ ?_ | exact rfl | refine ⟨_, _, rfl, rfl, ?_⟩)) rfl rfl
 refine zy ?_;refine AL.p (by exact g_load_refN rfl rfl rfl rfl) rfl ?_;refine zy ?_;refine AL.p (by exact g_load_ptrN rfl rfl rfl rfl rfl) rfl ?_;refine zy ?_;refine AL.q (by exact h_pure en_l5Clash rfl rfl (by repeat (first | exact rfl | exact DLead.same | refine ⟨_, _, rfl, ?_, ?_⟩ | refine ⟨_, rfl, ?_⟩)) (hCl (by simp_all)) rfl) rfl ?_;refine zy ?_;refine AL.p (by exact g_len_view (k := (clL s x s.sigs.length).length) rfl rfl (ints_len _)) rfl ?_;refine zy ?_;refine zc ?_;refine zP ?_;refine zm ?_;refine AL.caseG rfl rfl (fun h1 => ?_) (fun h1 => ?_)
 ·refine zn ?_;refine zn ?_;refine zn ?_;refine zn ?_;refine zQ ?_;refine AL.nil (th_n ?_);refine AC.condT rfl ?_;refine AC.seq (AC.region ?_);refine AL.p (by exact g_build rfl rfl rfl) rfl ?_;refine zs ?_;refine za ?_;refine AL.nil (th_n ?_);refine AC.weak ((Weak.nilOwnP 2 1 (e := 9) (sz := 1) rfl rfl rfl rfl rfl).trans (Weak.nilOwnP 2 2 (e := 75) (sz := 4) rfl rfl rfl rfl rfl)) ?_;refine AC.ret (th_r (bq_r ?_));have e : R = (⟨[], [], []⟩, false) := hR.trans (if_neg fun q => by have q1 := q.1; have q2 := q.2.1; have q3 := q.2.2; (have := ‹((clL s x s.sigs.length).length : Int) > 0›; omega));exact retN [(0, _), (1, _)] rfl (by rw [e]; show AV.leads _ (.tup [.agg [.d (vSigs []), .own 0 0, .own 1 0], aT false]) _; repeat (first | exact DLead.same | exact DLead.nil | exact rfl | refine ⟨_, rfl, ?_⟩ | refine ⟨_, _, rfl, ?_, ?_⟩)) (by rw [e]; repeat (first | exact True.intro | refine And.intro ?_ ?_ | exact rfl | refine ⟨_, _, rfl, rfl, ?_⟩)) rfl rfl
 refine zy ?_;refine zF ?_;refine zy ?_;refine zl ?_;refine zy ?_;refine AL.p (by exact g_len_view (k := x.moves.length) rfl rfl (mvL_len _)) rfl ?_;refine zy ?_;refine zc ?_;refine zP ?_;refine AL.nil (th_n ?_);refine AC.condD rfl (fun h2 => ?_) (fun h2 => ?_)
 ·refine AC.seq (AC.region ?_);refine AL.p (by exact g_build rfl rfl rfl) rfl ?_;refine zs ?_;refine za ?_;refine AL.nil (th_n ?_);refine AC.weak ((Weak.nilOwnP 2 1 (e := 9) (sz := 1) rfl rfl rfl rfl rfl).trans (Weak.nilOwnP 2 2 (e := 75) (sz := 4) rfl rfl rfl rfl rfl)) ?_;refine AC.ret (th_r (bq_r ?_));have e : R = (⟨[], [], []⟩, false) := hR.trans (if_neg fun q => by have q1 := q.1; have q2 := q.2.1; have q3 := q.2.2; (have := ‹(x.moves.length : Int) > 4000›; omega));exact retN [(0, _), (1, _)] rfl (by rw [e]; show AV.leads _ (.tup [.agg [.d (vSigs []), .own 0 0, .own 1 0], aT false]) _; repeat (first | exact DLead.same | exact DLead.nil | exact rfl | refine ⟨_, rfl, ?_⟩ | refine ⟨_, _, rfl, ?_, ?_⟩)) (by rw [e]; repeat (first | exact True.intro | refine And.intro ?_ ?_ | exact rfl | refine ⟨_, _, rfl, rfl, ?_⟩)) rfl rfl
 refine AC.skip (th_n (AC.seq ?_));have hok : ok = true := by simp_all
 have hmv : x.moves.length ≤ 4000 := by have := ‹¬ (x.moves.length : Int) > 4000›; omega
 have hc0 : (clL s x s.sigs.length).length = 0 := by have := ‹¬ ((clL s x s.sigs.length).length : Int) > 0›; omega
 have hfine := hz.1 hc0;have hx := hI hok;have hV := fun k : Nat => l5Values_spec s x k hx.n1 (by omega) (by omega) hx.b hx.a
 have hcol := fun (k : Nat) (h : clB s x k = false) => valS_col hx.a h
 have hAl := arcsOf_len s x;have hat := fun j (hj : j < x.moves.length) => arcsOf_take (s := s) hj
 have hbb := hx.b;have e : R = (⟨s.sigs, mixC s x s.sigs.length 0, arcsOf s x⟩, true) := hR.trans (if_pos ⟨hok, hc0, hmv⟩);obtain ⟨A, hA⟩ : ∃ A, A = arcsOf s x := ⟨_, rfl⟩;simp only [← hA] at e hV hcol hAl hat;clear hR hI hX hCl hz hx hA;refine AC.drawn' mixed_ok [[], [], [1], [0,1,2], [], [4], [4,5], [4,5,6], [0,1,2,3,4,5,6,7], [], [0,1,2,3,4,5,6,7,8,9]] (by decide) ?_;refine zh 0 [] 11 (by exact h_lit rfl rfl rfl rfl rfl rfl rfl rfl) ?_;refine zd 1 [] 11 (by exact g_fa_ref rfl rfl rfl rfl rfl rfl) ?_;refine zd 2 [1] 11 (by exact g_load_ref rfl rfl rfl) ?_;refine zh 3 [0,1,2] 11 (by exact h_appendSg [] s.sigs (.own rfl rfl rfl) (.view rfl) (by simp; omega) (by simp)) ?_;refine zd 4 [] 11 (by exact g_fa_ptr rfl rfl rfl rfl rfl) ?_;refine zd 5 [4] 11 (by exact g_load_ptr rfl rfl rfl rfl rfl) ?_;refine zd 6 [4,5] 11 (by exact g_len_view (k := x.marks.length) rfl rfl (tsX_len _)) ?_;refine zh 7 [4,5,6] 11 (by exact h_make (k := x.marks.length) rfl rfl rfl rfl rfl rfl rfl rfl (by show 16 * x.marks.length ≤ _; omega) (by omega)) ?_;refine zd 8 [0,1,2,3,4,5,6,7] 11 (by exact g_build rfl rfl rfl) ?_;refine zh 9 [] 11 (by exact h_alloc rfl) ?_;refine zh 10 (List.range 10) 11 (by exact h_store rfl rfl rfl rfl rfl rfl) ?_;refine zj 11 ?_;refine th_n (AC.seq (AC.seq ?_));refine AC.weak (Weak.freezeP (els' := sigsL s.sigs) 6 0 rfl rfl rfl rfl (Nat.le_of_eq (sigsL_len _).symm) (List.take_of_length_le (Nat.le_of_eq (sigsL_len _))) rfl) ?_;refine AC.region ?_;refine zf ?_;refine zr ?_;refine AL.p (by exact g_len_view (k := s.sigs.length) rfl rfl (sigsL_len _)) rfl ?_;refine zm ?_;refine AL.nil (th_n (AC.block ?_));refine AC.loop (ι := Nat) (fun k => ⟨110, 600, [(1, .d (.ref (stgD s))), (2, .ptr 202 0), (4, .ptr 201 0), (6, .ptr 203 0), (47, aI s.sigs.length), (48, aI k)], [(201, some (.cells 35 (rgC x))), (202, some (.cells 68 zSG)), (203, some (.cells 68 [.d (vSigs s.sigs), .own 100 x.marks.length, .d (.val (.slice none 0 0))])), (100, some (.arr 9 1 (tsX (mixC s x k 0))))]⟩) (fun k => k ≤ s.sigs.length) (fun k => s.sigs.length - k) (0) ?_ (Nat.zero_le _) ?_
 ·exact zw [(201, _), (202, _), (203, _), (100, _)] hC (b := by rw [hm0]; repeat (first | exact True.intro | refine And.intro ?_ ?_ | exact DLead.same | exact rfl | refine ⟨_, _, rfl, rfl, ?_⟩ | refine ⟨_, rfl, ?_⟩ | refine ⟨_, _, rfl, ?_, ?_⟩))
 rintro k hk;refine AC.seq (AC.region ?_);refine zc ?_;refine AL.nil (th_n (AC.seq ?_));refine AC.condD rfl (fun h3 => ?_) (fun h3 => ?_)
 ·refine AC.skip (th_n (AC.seq (AC.block (AC.seq ?_))));have hk1 : k < s.sigs.length := by omega
  have hVk := hV k;obtain ⟨hBl, hBg⟩ := hcol k (hfine k hk1);obtain ⟨B, hBB⟩ : ∃ B, B = valS (k : Int) A x.marks.length := ⟨_, rfl⟩;rw [← hBB] at hVk hBl;simp only [← hBB] at hBg;clear hBB;refine AC.region ?_;refine zm ?_;refine za ?_;refine AL.nil (th_n (AC.seq (AC.region ?_)));refine AL.p (by exact g_load_refN rfl rfl rfl rfl) rfl ?_;refine AL.p (by exact g_load_ptrN rfl rfl rfl rfl rfl) rfl ?_;refine zm ?_;refine AL.q (by exact h_pure en_l5Values rfl rfl (by repeat (first | exact rfl | exact DLead.same | refine ⟨_, _, rfl, ?_, ?_⟩ | refine ⟨_, rfl, ?_⟩)) hVk rfl) rfl ?_;refine AL.p (by exact mv5 rfl) rfl ?_;refine AL.p (by exact g_extract (r := .d _) rfl rfl) rfl ?_;refine AL.p (by exact g_extract (r := .d _) rfl rfl) rfl ?_;refine za ?_;refine za ?_;refine AL.nil (th_n (AC.seq (AC.region ?_)));refine zF ?_;refine zl ?_;refine AL.p (by exact g_len_own (sz := 1) (els := []) (e' := 0) rfl rfl (by simp only [maxLen]; omega)) rfl ?_;refine zm ?_;refine AL.nil (th_n (AC.block ?_));refine AC.loop (ι := Nat) (fun i => ⟨110, 900, [(1, .d (.ref (stgD s))), (2, .ptr 202 0), (4, .ptr 201 0), (6, .ptr 203 0), (8, aS (bstr B.1)), (47, aI s.sigs.length), (48, aI k), (60, aI x.marks.length), (61, aI i)], [(201, some (.cells 35 (rgC x))), (202, some (.cells 68 zSG)), (203, some (.cells 68 [.d (vSigs s.sigs), .own 100 x.marks.length, .d (.val (.slice none 0 0))])), (100, some (.arr 9 1 (tsX (mixC s x k i))))]⟩) (fun i => i ≤ x.marks.length) (fun i => x.marks.length - i) (0) ?_ (Nat.zero_le _) ?_
  ·exact zw [(201, 201), (202, 202), (203, 203), (100, 100)] hC
  intro i hi;refine AC.seq (AC.region ?_);refine zc ?_;refine AL.nil (th_n (AC.seq ?_));refine AC.condD rfl (fun h4 => ?_) (fun h4 => ?_)
  ·refine AC.skip (th_n (AC.seq (AC.block (AC.seq ?_))));have hi1 : i < x.marks.length := by omega
   have hcut := cut1 (c := B.1) (i := i) (by omega);have hgb := hBg i hi1;have hrow := hgt k i hi1;have hset := hst k i hi1;have hcki := hcl k i;have hsz : (bstr B.1).size = x.marks.length := by rw [bstr_size, hBl]
   obtain ⟨c, hc⟩ : ∃ c, c = colC s x k i := ⟨_, rfl⟩;obtain ⟨w, hw⟩ : ∃ w, w = codeC s x k i := ⟨_, rfl⟩;obtain ⟨v, hv⟩ : ∃ v, v = B.1.getD i 0 := ⟨_, rfl⟩;rw [← hc, ← hv] at hgb;rw [← hc] at hset;rw [← hw] at hrow hset hcki;rw [← hv] at hcut;refine AC.region ?_;refine zm ?_;refine za ?_;refine AL.nil (th_n (AC.seq (AC.region ?_)));refine zm ?_;refine zm ?_;refine zm ?_;refine zA ?_;refine AL.p (by exact g_slice_str (l := i) (h := i + 1) rfl rfl (.some rfl rfl) (.some rfl rfl) (Nat.le_succ _) (by omega) hcut) rfl ?_;refine za ?_;refine AL.nil (th_n ?_);refine AC.cut (fun (z : UInt8) => ⟨110, 1200, [(1, .d (.ref (stgD s))), (2, .ptr 202 0), (4, .ptr 201 0), (6, .ptr 203 0), (8, aS (bstr B.1)), (10, aI i), (11, aS (bstr [z])), (47, aI s.sigs.length), (48, aI k), (60, aI x.marks.length), (61, aI i)], [(201, some (.cells 35 (rgC x))), (202, some (.cells 68 zSG)), (203, some (.cells 68 [.d (vSigs s.sigs), .own 100 x.marks.length, .d (.val (.slice none 0 0))])), (100, some (.arr 9 1 (tsX (mixC s x k i))))]⟩) (fun z => z = c) ?_ ?_
   ·refine AC.seq (AC.region ?_);refine zm ?_;refine AL.p (by exact g_scmp rfl rfl rfl) rfl ?_;refine AL.nil (th_n ?_);refine AC.condD rfl (fun h5 => ?_) (fun h5 => ?_)
    ·refine AC.region ?_;refine za ?_;refine AL.nil (th_n ?_)
     (have q := ‹bstr [v] = bstr [63]›; exact ⟨48, (hgb.1 (one63.1 q)).symm, zw [(201, 201), (202, 202), (203, 203), (100, 100)] hC⟩)
    refine AC.skip (th_n ?_)
    (have q := ‹¬ bstr [v] = bstr [63]›; exact ⟨v, (hgb.2 fun g => q (one63.2 g)).symm, zw [(201, 201), (202, 202), (203, 203), (100, 100)] hC⟩)
   rintro z rfl;refine AC.region ?_;refine zF ?_;refine zl ?_;refine zm ?_;refine AL.p (by exact g_ia_own (i := i) (l := x.marks.length) rfl rfl rfl rfl rfl rfl hi1 rfl) rfl ?_;refine AL.p (by exact g_load_arr1 rfl rfl rfl rfl (by rw [Nat.mul_one]; exact hrow)) rfl ?_;refine zm ?_;refine AL.p (by exact g_sadd rfl rfl (by simp only [ByteArray.size_append, bstr_size, List.length_cons, List.length_nil]; omega)) rfl ?_;refine AL.p (by exact g_ia_own (i := i) (l := x.marks.length) rfl rfl rfl rfl rfl rfl hi1 rfl) rfl ?_;refine AL.q (by exact h_store_arr (i := i) (j := 0) (d := dS (bstr w ++ bstr [z])) rfl rfl rfl rfl .same rfl hrow (by decide)) rfl ?_;refine AL.nil (ib_n (th_n (AC.region ?_)));refine zA ?_;refine zm ?_;refine AL.nil (th_n ?_);exact ⟨i + 1, by omega, by omega, zw [(201, 201), (202, 202), (203, 203), (100, 100)] hC (b := by rw [← hset]; repeat (first | exact True.intro | refine And.intro ?_ ?_ | exact DLead.same | exact rfl | refine ⟨_, _, rfl, rfl, ?_⟩ | refine ⟨_, rfl, ?_⟩ | refine ⟨_, _, rfl, ?_, ?_⟩))⟩
  refine AC.exit (th_e (th_e (ib_y (ib_n (th_n (AC.region ?_))))));refine zA ?_;refine zm ?_;refine AL.nil (th_n ?_);have hii : i = x.marks.length := by omega
  exact ⟨k + 1, by omega, by omega, zw [(201, 201), (202, 202), (203, 203), (100, 100)] hC (b := by rw [← hnx, ← hii]; repeat (first | exact True.intro | refine And.intro ?_ ?_ | exact DLead.same | exact rfl | refine ⟨_, _, rfl, rfl, ?_⟩ | refine ⟨_, rfl, ?_⟩ | refine ⟨_, _, rfl, ?_, ?_⟩))⟩
 refine AC.exit (th_e (th_e (ib_y (th_n (AC.seq (AC.seq ?_))))));have hkk : k = s.sigs.length := by omega
 rw [hkk];refine AC.region ?_;refine zF ?_;refine zl ?_;refine AL.p (by exact g_len_view (k := x.moves.length) rfl rfl (mvL_len _)) rfl ?_;refine zm ?_;refine AL.nil (th_n (AC.block ?_));refine AC.loop (ι := Nat) (fun j => ⟨110, 900, [(1, .d (.ref (stgD s))), (2, .ptr 202 0), (6, .ptr 203 0), (82, .d (vMvs x.moves)), (83, aI x.moves.length), (84, aI j)], [(202, some (.cells 68 zSG)), (203, some (.cells 68 [.d (vSigs s.sigs), .own 100 x.marks.length, .own 101 j])), (100, some (.arr 9 1 (tsX (mixC s x s.sigs.length 0)))), (101, some (.arr 75 4 (arL (A.take j))))]⟩) (fun j => j ≤ x.moves.length) (fun j => x.moves.length - j) (0) ?_ (Nat.zero_le _) ?_
 ·exact (Weak.nilOwnP 6 2 (e := 75) (sz := 4) rfl rfl rfl rfl rfl).trans (zw [(202, 202), (203, 203), (100, 100), (101, _)] hC)
 intro j hj;refine AC.seq (AC.region ?_);refine zc ?_;refine AL.nil (th_n (AC.seq ?_));refine AC.condD rfl (fun h4 => ?_) (fun h4 => ?_)
 ·refine AC.skip (th_n (AC.seq (AC.block (AC.seq ?_))));have hj1 : j < x.moves.length := by omega
  have hget := mvL_get hj1;have hbv := hbb _ (List.getElem_mem hj1);have hstj := hat j hj1;have htl : (A.take j).length = j := by rw [List.length_take]; omega
  obtain ⟨v, hv⟩ : ∃ v, v = x.moves[j] := ⟨_, rfl⟩;rw [← hv] at hget hbv hstj;clear hv;obtain ⟨t, ht⟩ : ∃ t, t = v.by_.toNat := ⟨_, rfl⟩;have e1 : v.by_ = (t : Int) := by omega
  unfold arcOf at hstj;rw [← ht] at hstj;rw [e1] at hget;have hlt : t < s.labs.length := by omega
  have hgl : (labsL s.labs)[t]? = some [dI (lAt s.labs t).sig, dT (lAt s.labs t).up] := by rw [lAt_nat hlt, List.getElem?_map, List.getElem?_eq_getElem hlt]; rfl
  obtain ⟨l, hl⟩ : ∃ l, l = lAt s.labs t := ⟨_, rfl⟩;rw [← hl] at hstj hgl;clear hl;refine AC.region ?_;refine AL.p (by exact g_ia_view rfl rfl rfl rfl rfl (by rfl) (by assumption)) rfl ?_;refine AL.p (by exact g_load_refN rfl rfl rfl rfl) rfl ?_;refine AL.q (by exact h_alloc rfl) rfl ?_;refine zs ?_;refine AL.nil (th_n (AC.seq (AC.region ?_)));refine zf ?_;refine zr ?_;refine zF ?_;refine zl ?_;refine AL.p (by exact g_ia_view (i := t) rfl rfl rfl rfl rfl rfl hgl) rfl ?_;refine AL.p (by exact g_load_refN rfl rfl rfl rfl) rfl ?_;refine AL.q (by exact h_alloc rfl) rfl ?_;refine zs ?_;refine AL.nil (th_n (AC.region ?_));refine zF ?_;refine zl ?_;refine zF ?_;refine zl ?_;refine zF ?_;refine zl ?_;refine zF ?_;refine zl ?_;refine zF ?_;refine zl ?_;refine AL.p (by exact g_build rfl rfl rfl) rfl ?_;refine AL.q (by exact h_litF rfl rfl rfl rfl rfl rfl rfl rfl) rfl ?_;refine AL.q (by exact h_appendAr (A.take j) [⟨v.from_, l.sig, l.up, v.to_⟩] (.own rfl rfl (by rw [arL_len, htl])) (.view rfl) (by rw [List.length_append, htl]; simp only [List.length_cons, List.length_nil]; omega) (by simp)) rfl ?_;refine zF ?_;refine zs ?_;refine AL.nil (ib_n (th_n (AC.region ?_)));refine zA ?_;refine zm ?_;refine AL.nil (th_n ?_);exact ⟨j + 1, by omega, by omega, zw [(202, 202), (203, 203), (100, 100), (101, _)] hC (b := by rw [List.length_append, htl, hstj]; repeat (first | exact True.intro | refine And.intro ?_ ?_ | exact DLead.same | exact rfl | refine ⟨_, _, rfl, rfl, ?_⟩ | refine ⟨_, rfl, ?_⟩ | refine ⟨_, _, rfl, ?_, ?_⟩))⟩
 refine AC.exit (th_e (th_e (ib_y (th_n (AC.seq ?_)))));have hjj : j = x.moves.length := by omega
 rw [hjj, ← hAl, List.take_length];refine AC.region ?_;refine AL.p (by exact g_load_ptrN rfl rfl rfl rfl rfl) rfl ?_;refine zs ?_;refine za ?_;refine AL.nil (th_n (AC.ret (bq_r ?_)));exact retN [(0, 100), (1, 101)] rfl (by rw [e]; show AV.leads _ (.tup [.agg [.d (vSigs s.sigs), .own 0 (mixC s x s.sigs.length 0).length, .own 1 A.length], aT true]) _; rw [hml]; repeat (first | exact DLead.same | exact rfl | refine ⟨_, rfl, ?_⟩ | refine ⟨_, _, rfl, ?_, ?_⟩)) (by rw [e]; repeat (first | exact True.intro | refine And.intro ?_ ?_ | exact rfl | refine ⟨_, _, rfl, rfl, ?_⟩)) rfl rfl
theorem en_sBuild : Enters Tryz.prog 44 := enters_of Tryz.func44 rfl rfl
end Go.Proofs.YthafkkgmekgmoaaGreat
