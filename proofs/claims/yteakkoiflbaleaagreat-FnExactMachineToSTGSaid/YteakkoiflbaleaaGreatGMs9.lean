/- Contracts of the functions of the program and of the reference, each proved by a walk through its code. -/
import Derived.Test.YteakkoiflbaleaaGreatGMs8
set_option linter.all false
set_option maxRecDepth 20000
namespace Go.Proofs.YteakkoiflbaleaaGreat
open Go.RowKit
structure Bd where
 p : Nat
 ts : List Tn
 labs : List Lab
def quiet : Lab := ⟨-1, false⟩
def rngI (p n : Nat) : List Int := (List.range n).map fun i : Nat => ((p + i : Nat) : Int)
def addT (s : Bd) (pre post : List Int) (l : Lab) : Bd := ⟨s.p, s.ts ++ [⟨pre, post⟩], s.labs ++ [l]⟩
def frs (s : Bd) (n : Nat) : Bd := ⟨s.p + n, s.ts, s.labs⟩
def eachB (s : Bd) (l : List Lab) (x y : Nat) : Nat → Bd
 | 0 => s
 | k + 1 => addT (eachB s l x y k) [((x + k : Nat) : Int)] [((y + k : Nat) : Int)] (l.getD k quiet)
def burN (s : Bd) (b : Bur) : Bd :=
 let s2 := addT (frs (frs (frs (frs s b.inn.length) b.inn.length) b.out.length) b.out.length) [b.from_] (rngI s.p b.inn.length) quiet
 let s3 := eachB s2 b.inn s.p (s.p + b.inn.length) b.inn.length
 if b.out.length = 0 then addT s3 (rngI (s.p + b.inn.length) b.inn.length) [b.to_] quiet
 else addT (eachB (addT s3 (rngI (s.p + b.inn.length) b.inn.length) (rngI (s.p + b.inn.length + b.inn.length) b.out.length) quiet) b.out (s.p + b.inn.length + b.inn.length) (s.p + b.inn.length + b.inn.length + b.out.length) b.out.length) (rngI (s.p + b.inn.length + b.inn.length + b.out.length) b.out.length) [b.to_] quiet
def burK (s : Bd) (l : List Bur) : Nat → Bd
 | 0 => s
 | k + 1 => burN (burK s l k) (l.getD k ⟨0, [], [], 0⟩)
def mkBd (m : Mach) : Bd := burK ⟨m.states.toNat, [], []⟩ m.burs m.burs.length
def stgOf (m : Mach) : Stg := ⟨⟨((mkBd m).p : Int), (mkBd m).ts⟩, m.sigs, (mkBd m).labs, 49 :: List.replicate ((mkBd m).p - 1) 48⟩
def noStg : Stg := ⟨⟨0, []⟩, [], [], []⟩
def msR (m : Mach) : Stg × Bool := if goodM m = true ∧ goodS (stgOf m) = true then (stgOf m, true) else (noStg, false)
theorem rngI_len (p n : Nat) : (rngI p n).length = n := by simp [rngI]
theorem rngI_succ (p n : Nat) : rngI p (n + 1) = rngI p n ++ [((p + n : Nat) : Int)] := by simp [rngI, List.range_succ]
theorem rngI_cut {p n k : Nat} (h : k < n) : ((ints (rngI p n)).take (k + 1)).drop k = ints [((p + k : Nat) : Int)] := by
 have hl : k < (ints (rngI p n)).length := by rw [ints_len, rngI_len]; exact h
 have hg : (ints (rngI p n))[k]? = some [dI ((p + k : Nat) : Int)] := by rw [List.getElem?_map, rngI, List.getElem?_map, List.getElem?_range h]; rfl
 rw [List.take_add_one, hg, List.drop_append, List.drop_of_length_le (by rw [List.length_take]; omega), List.length_take, show k - min k (ints (rngI p n)).length = 0 by omega]
 rfl
structure BdL (s : Bd) : Prop where
 p : s.p ≤ 100000
 t : s.ts.length ≤ 100000
 l : s.labs.length ≤ 100000
theorem h_appendTns (acc new : List Tn) {s : ASt} {dst : Option Nat} {ty : Nat} {pos : String} {af : Array Edge} {gd : Option (Nat × Bool)} {x y : Operand} {f : Nat} {ids ids2 : List Nat} {gone : List (Nat × Option Chunk)}
  (hto : AppTo s x 96 2 (tsL acc) ids gone) (harg : AppArg s y 2 (tsL new) ids2) (h : (acc ++ new).length ≤ 100000000) (hnew : gone = [] → 0 < new.length) :
  NOp Tryz.prog (ids ++ ids2) s ⟨dst, .call { callee := .builtin .append, args := #[x, y], argTypes := #[27, 27] }, ty, pos, af, gd⟩ f ⟨.own f (acc ++ new).length, (f, some (.arr 96 2 (tsL (acc ++ new)))) :: gone⟩ := by
 have := h_append (P := Tryz.prog) (s := s) (dst := dst) (ty := ty) (pos := pos) (af := af) (gd := gd) (x := x) (y := y) (f := f) (t := 27) (tx := 27) (k := (acc ++ new).length) rfl rfl rfl rfl rfl rfl hto harg (by simp) (by omega) (by show (acc ++ new).length * 48 ≤ _; omega) (fun h => by rw [List.length_map]; exact hnew h);rw [show tsL acc ++ tsL new = tsL (acc ++ new) by simp] at this;exact this
theorem h_appendBl (acc new : List Lab) {s : ASt} {dst : Option Nat} {ty : Nat} {pos : String} {af : Array Edge} {gd : Option (Nat × Bool)} {x y : Operand} {f : Nat} {ids ids2 : List Nat} {gone : List (Nat × Option Chunk)}
  (hto : AppTo s x 63 2 (labsL acc) ids gone) (harg : AppArg s y 2 (labsL new) ids2) (h : (acc ++ new).length ≤ 100000000) (hnew : gone = [] → 0 < new.length) :
  NOp Tryz.prog (ids ++ ids2) s ⟨dst, .call { callee := .builtin .append, args := #[x, y], argTypes := #[31, 31] }, ty, pos, af, gd⟩ f ⟨.own f (acc ++ new).length, (f, some (.arr 63 2 (labsL (acc ++ new)))) :: gone⟩ := by
 have := h_append (P := Tryz.prog) (s := s) (dst := dst) (ty := ty) (pos := pos) (af := af) (gd := gd) (x := x) (y := y) (f := f) (t := 31) (tx := 31) (k := (acc ++ new).length) rfl rfl rfl rfl rfl rfl hto harg (by simp) (by omega) (by show (acc ++ new).length * 16 ≤ _; omega) (fun h => by rw [List.length_map]; exact hnew h);rw [show labsL acc ++ labsL new = labsL (acc ++ new) by simp] at this;exact this
theorem labOwn_le (l : List Lab) : l.length ≤ (labsL l).length := Nat.le_of_eq (List.length_map _).symm
theorem labOwn_take (l : List Lab) : (labsL l).take l.length = labsL l := List.take_of_length_le (Nat.le_of_eq (List.length_map _))
theorem tnOwn_le (l : List Tn) : l.length ≤ (tsL l).length := Nat.le_of_eq (List.length_map _).symm
theorem tnOwn_take (l : List Tn) : (tsL l).take l.length = tsL l := List.take_of_length_le (Nat.le_of_eq (List.length_map _))
abbrev nC (s : Bd) (g : List Sig) (i1 i2 : Nat) : Chunk := .cells 50 [aI s.p, .own i1 s.ts.length, .d (vSigs g), .own i2 s.labs.length, aS (bstr (List.replicate s.p 48))]
abbrev nChs (s : Bd) (g : List Sig) (i1 i2 : Nat) : List (Nat × Chunk) := [(0, nC s g i1 i2), (i1, .arr 96 2 (tsL s.ts)), (i2, .arr 63 2 (labsL s.labs))]
theorem rep48 (n : Nat) : List.replicate n (48 : UInt8) ++ [48] = List.replicate (n + 1) 48 := by rw [List.replicate_succ']
set_option maxHeartbeats 4000000 in
theorem l24Places_spec (s : Bd) (g : List Sig) (n : Nat) (hs : BdL s) (hn : n ≤ 1000) : ASpec Tryz.prog 16 [.ptr 0 0, aI n] (nChs s g 1 2) (Fun1 (.d (vI (rngI s.p n))) (nChs (frs s n) g 1 2)) := by
 have hp := hs.p;refine ASpec.of Tryz.func16 rfl rfl fun C hC => ?_
 refine AC.seq (AC.region ?_);refine za ?_;refine AL.nil (th_n (AC.seq (AC.region ?_)));refine za ?_;refine AL.nil (th_n (AC.seq (AC.block ?_)));refine AC.loop (ι := Nat) (fun k => ⟨40, 208, [(0, .ptr 0 0), (1, aI ((n : Int) - k)), (5, .own 100 (rngI s.p k).length)], chL (nChs (frs s k) g 1 2) ++ [(100, some (.arr 3 1 (ints (rngI s.p k))))]⟩) (fun k => k ≤ n) (fun k => n - k) (0) ?_ (Nat.zero_le _) ?_
 ·exact (Weak.nilOwn (i := 5) (e := 3) (sz := 1) rfl (by decide)).trans (Weak.ren _ [(100, _)] hC rfl (by rw [show (n : Int) - ((0 : Nat) : Int) = n by omega]; repeat (first | exact True.intro | refine And.intro ?_ ?_ | exact DLead.same | exact rfl | refine ⟨_, rfl, ?_⟩)) (by repeat (first | exact True.intro | refine And.intro ?_ ?_ | exact DLead.same | exact rfl | refine ⟨_, _, rfl, rfl, ?_⟩ | refine ⟨_, rfl, ?_⟩ | refine ⟨_, _, rfl, ?_, ?_⟩)) rfl rfl rfl)
 intro k hk;refine AC.seq (AC.seq (AC.region ?_));refine zm ?_;refine zc ?_;refine AL.nil (th_n ?_);refine AC.condD rfl (fun h0 => ?_) (fun h0 => ?_)
 ·refine AC.skip (th_n (AC.seq (AC.block (AC.seq ?_))));have hk1 : k < n := by omega
  have hrl := rngI_len s.p k;have hrs := rngI_succ s.p k;have hrp : List.replicate (s.p + (k + 1)) (48 : UInt8) = List.replicate (s.p + k) 48 ++ [48] := (rep48 (s.p + k)).symm;refine AC.region ?_;refine kB ?_;refine AL.p (by exact mv3 rfl) rfl ?_;refine AL.p (by exact g_nilP rfl) rfl ?_;refine zF ?_;refine zF ?_;refine zF ?_;refine zl ?_;refine AL.q (by exact h_litF rfl rfl rfl rfl rfl rfl rfl rfl) rfl ?_;refine AL.q (by exact h_appendI (rngI s.p k) [((s.p + k : Nat) : Int)] (.own rfl rfl (by rw [ints_len])) (.view rfl) (by rw [List.length_append, hrl]; simp only [List.length_cons, List.length_nil]; omega) (by simp)) rfl ?_;refine AL.p (by exact as2 rfl) rfl ?_;refine AL.nil (th_n (AC.seq (AC.region ?_)));refine AL.p (by exact mv3 rfl) rfl ?_;refine AL.p (by exact g_nilP rfl) rfl ?_;refine zF ?_;refine zF ?_;refine zF ?_;refine zl ?_;refine AL.p (by exact g_arith (e := ((s.p + (k + 1) : Nat) : Int)) rfl rfl rfl (by show IntKind.i64.wrap (((s.p + k : Nat) : Int) + 1) = _; rw [show ((s.p + k : Nat) : Int) + 1 = ((s.p + (k + 1) : Nat) : Int) by omega]; exact wrap_i64 (by omega))) rfl ?_;refine AL.p (by exact g_nilP rfl) rfl ?_;refine zF ?_;refine zF ?_;refine zF ?_;refine zs ?_;refine AL.nil (th_n (AC.region ?_));refine AL.p (by exact mv3 rfl) rfl ?_;refine AL.p (by exact g_nilP rfl) rfl ?_;refine zF ?_;refine zF ?_;refine zl ?_;refine AL.p (by exact g_saddB (a := List.replicate (s.p + k) 48) (b := [48]) rfl rfl (by simp only [List.length_replicate, List.length_cons, List.length_nil]; omega)) rfl ?_;refine AL.p (by exact g_nilP rfl) rfl ?_;refine zF ?_;refine zF ?_;refine zs ?_;refine AL.nil (ib_n (th_n (AC.region ?_)));refine zm ?_;refine zA ?_;refine za ?_;refine AL.nil (th_n ?_);exact ⟨k + 1, hk1, by omega, by dsimp only [nChs, nC, frs]; rw [hrs, hrp]; exact Weak.ren _ [(100, _)] hC rfl (by rw [show (n : Int) - ((k + 1 : Nat) : Int) = (n : Int) - k - 1 by omega]; repeat (first | exact True.intro | refine And.intro ?_ ?_ | exact DLead.same | exact rfl | refine ⟨_, rfl, ?_⟩)) (by repeat (first | exact True.intro | refine And.intro ?_ ?_ | exact DLead.same | exact rfl | refine ⟨_, _, rfl, rfl, ?_⟩ | refine ⟨_, rfl, ?_⟩ | refine ⟨_, _, rfl, ?_, ?_⟩)) rfl rfl rfl⟩
 refine AC.exit (th_e (th_e (ib_y (th_n (AC.seq ?_)))));obtain rfl : k = n := by omega
 refine AC.weak (Weak.freeze (i := 5) rfl rfl (Nat.le_of_eq (ints_len _).symm) (ints_all _)) ?_;refine AC.region ?_;refine zm ?_;refine za ?_;refine AL.nil (th_n (AC.ret (bq_r ?_)));exact retX [] rfl ⟨rfl, rfl⟩ (by repeat (exact DLead.same)) (by repeat (first | exact True.intro | refine And.intro ?_ ?_ | exact DLead.same | exact rfl | refine ⟨_, _, rfl, rfl, ?_⟩ | refine ⟨_, rfl, ?_⟩ | refine ⟨_, _, rfl, ?_, ?_⟩)) rfl rfl
theorem en_l24Places : Enters Tryz.prog 16 := enters_of Tryz.func16 rfl rfl
set_option maxHeartbeats 4000000 in
theorem l24Trans_spec (s : Bd) (g : List Sig) (pre post : List Int) (l : Lab) (hs : BdL s) (h1 : pre.length ≤ 1000) (h2 : post.length ≤ 1000) : ASpec Tryz.prog 43 [.ptr 0 0, .d (vI pre), .d (vI post), labA l] (nChs s g 1 2) (Fun1 (.tup []) (nChs (addT s pre post l) g 3 4)) := by
 have ht := hs.t;have hl := hs.l;have o1 := l1Own_spec pre (by omega);have o2 := l1Own_spec post (by omega);refine ASpec.of Tryz.func43 rfl rfl fun C hC => ?_
 refine AC.seq (AC.region ?_);refine kD ?_;refine AL.nil (th_n (AC.seq ?_));refine AC.drawn' mixed_ok [[], [], [1], [1,2], [1,2,3], [1,2,3,4], [1,2,3,4,5], [], [7], [], [7,8,9], [7,8,9,10], [7,8,9,10,11], [1,2,3,4,5,6,7,8,9,10,11,12], [0,1,2,3,4,5,6,7,8,9,10,11,12,13], [0,1,2,3,4,5,6,7,8,9,10,11,12,13,14], [0,1,2,3,4,5,6,7,8,9,10,11,12,13,14,15], [0,1,2,3,4,5,6,7,8,9,10,11,12,13,14,15,16], [0,1,2,3,4,5,6,7,8,9,10,11,12,13,14,15,16,17]] (by decide) ?_;refine zd 0 [] 19 (by exact mv3 rfl) ?_;refine zd 1 [] 19 (by exact mv3 rfl) ?_;refine zd 2 [1] 19 (by exact g_nilP rfl) ?_;refine zd 3 [1,2] 19 (by exact g_fa_ptr rfl rfl rfl rfl rfl) ?_;refine zd 4 [1,2,3] 19 (by exact g_fa_ptr rfl rfl rfl rfl rfl) ?_;refine zd 5 [1,2,3,4] 19 (by exact g_fa_ptr rfl rfl rfl rfl rfl) ?_;refine zd 6 [1,2,3,4,5] 19 (by exact g_load_ptr rfl rfl rfl rfl rfl) ?_;refine zd 7 [] 19 (by exact mv1 rfl) ?_;refine zh 8 [7] 19 (by exact h_pure en_l1Own rfl rfl (by repeat (first | exact rfl | exact DLead.same | refine ⟨_, _, rfl, ?_, ?_⟩)) o1 rfl) ?_;refine zd 9 [] 19 (by exact mv1 rfl) ?_;refine zh 10 [7,8,9] 19 (by exact h_pure en_l1Own rfl rfl (by repeat (first | exact rfl | exact DLead.same | refine ⟨_, _, rfl, ?_, ?_⟩)) o2 rfl) ?_;refine zd 11 [7,8,9,10] 19 (by exact g_build rfl rfl rfl) ?_;refine zh 12 [7,8,9,10,11] 19 (by exact h_litF rfl rfl rfl rfl rfl rfl rfl rfl) ?_;refine zh 13 [1,2,3,4,5,6,7,8,9,10,11,12] 19 (by exact h_appendTns s.ts [⟨pre, post⟩] (.own rfl rfl (by rw [List.length_map])) (.view rfl) (by rw [List.length_append]; simp only [List.length_cons, List.length_nil]; omega) (by simp)) ?_;refine zd 14 (List.range 14) 19 (by exact g_nilP rfl) ?_;refine zd 15 (List.range 15) 19 (by exact g_fa_ptr rfl rfl rfl rfl rfl) ?_;refine zd 16 (List.range 16) 19 (by exact g_fa_ptr rfl rfl rfl rfl rfl) ?_;refine zd 17 (List.range 17) 19 (by exact g_fa_ptr rfl rfl rfl rfl rfl) ?_;refine zh 18 (List.range 18) 19 (by exact h_store rfl rfl rfl rfl rfl rfl) ?_;refine zj 19 ?_;refine th_n ?_;refine AC.drawn' mixed_ok [[], [], [1], [1,2], [1,2,3], [1,2,3,4], [], [6], [1,2,3,4,5,6,7], [0,1,2,3,4,5,6,7,8], [0,1,2,3,4,5,6,7,8,9], [0,1,2,3,4,5,6,7,8,9,10], [0,1,2,3,4,5,6,7,8,9,10,11]] (by decide) ?_;refine zd 0 [] 13 (by exact mv3 rfl) ?_;refine zd 1 [] 13 (by exact mv3 rfl) ?_;refine zd 2 [1] 13 (by exact g_nilP rfl) ?_;refine zd 3 [1,2] 13 (by exact g_fa_ptr rfl rfl rfl rfl rfl) ?_;refine zd 4 [1,2,3] 13 (by exact g_fa_ptr rfl rfl rfl rfl rfl) ?_;refine zd 5 [1,2,3,4] 13 (by exact g_load_ptr rfl rfl rfl rfl rfl) ?_;refine zd 6 [] 13 (by exact g_load_refN rfl rfl rfl rfl) ?_;refine zh 7 [6] 13 (by exact h_litF rfl rfl rfl rfl rfl rfl rfl rfl) ?_;refine zh 8 [1,2,3,4,5,6,7] 13 (by exact h_appendBl s.labs [l] (.own rfl rfl (by rw [List.length_map])) (.view rfl) (by rw [List.length_append]; simp only [List.length_cons, List.length_nil]; omega) (by simp)) ?_;refine zd 9 (List.range 9) 13 (by exact g_nilP rfl) ?_;refine zd 10 (List.range 10) 13 (by exact g_fa_ptr rfl rfl rfl rfl rfl) ?_;refine zd 11 (List.range 11) 13 (by exact g_fa_ptr rfl rfl rfl rfl rfl) ?_;refine zh 12 (List.range 12) 13 (by exact h_store rfl rfl rfl rfl rfl rfl) ?_;refine zj 13 ?_;refine bq_n ?_;exact retX [(3, 115), (4, 227)] rfl ⟨rfl, rfl⟩ (by repeat (first | exact rfl | refine ⟨_, rfl, ?_⟩)) (by repeat (first | exact True.intro | refine And.intro ?_ ?_ | exact DLead.same | exact rfl | refine ⟨_, _, rfl, rfl, ?_⟩ | refine ⟨_, rfl, ?_⟩ | refine ⟨_, _, rfl, ?_, ?_⟩)) rfl rfl
theorem en_l24Trans : Enters Tryz.prog 43 := enters_of Tryz.func43 rfl rfl
theorem eachB_len (s : Bd) (l : List Lab) (x y : Nat) : ∀ k, (eachB s l x y k).p = s.p ∧ (eachB s l x y k).ts.length = s.ts.length + k ∧ (eachB s l x y k).labs.length = s.labs.length + k
 | 0 => ⟨rfl, rfl, rfl⟩
 | k + 1 => by
  obtain ⟨h1, h2, h3⟩ := eachB_len s l x y k;refine ⟨h1, ?_, ?_⟩
  ·show ((eachB s l x y k).ts ++ [_]).length = _;rw [List.length_append, h2]; rfl
  show ((eachB s l x y k).labs ++ [_]).length = _;rw [List.length_append, h3]; rfl
theorem eachB_succ {s : Bd} {l : List Lab} {x y k : Nat} (h : k < l.length) : eachB s l x y (k + 1) = addT (eachB s l x y k) [((x + k : Nat) : Int)] [((y + k : Nat) : Int)] l[k] := by
 rw [eachB, List.getD_eq_getElem?_getD, List.getElem?_eq_getElem h]; rfl
structure BdM (s : Bd) : Prop where
 p : s.p ≤ 90000
 t : s.ts.length ≤ 90000
 l : s.labs.length ≤ 90000
set_option maxRecDepth 20000 in
set_option maxHeartbeats 8000000 in
theorem l24Burst_spec (s : Bd) (g : List Sig) (b : Bur) (hs : BdM s) (hi : b.inn.length ≤ 100) (ho : b.out.length ≤ 100) (hf : okI b.from_) (ht : okI b.to_) : ASpec Tryz.prog 17 [.ptr 0 0, burA b] (nChs s g 1 2) (Fun1 (.tup []) (nChs (burN s b) g 3 4)) := by
 have hsp := hs.p;have hst := hs.t;have hsl := hs.l;have hP1 := l24Places_spec s g b.inn.length ⟨by omega, by omega, by omega⟩ (by omega);have hP2 := l24Places_spec (frs s b.inn.length) g b.inn.length ⟨by show s.p + b.inn.length ≤ _; omega, by show s.ts.length ≤ _; omega, by show s.labs.length ≤ _; omega⟩ (by omega);have hP3 := l24Places_spec (frs (frs s b.inn.length) b.inn.length) g b.out.length ⟨by show s.p + b.inn.length + b.inn.length ≤ _; omega, by show s.ts.length ≤ _; omega, by show s.labs.length ≤ _; omega⟩ (by omega);have hP4 := l24Places_spec (frs (frs (frs s b.inn.length) b.inn.length) b.out.length) g b.out.length ⟨by show s.p + b.inn.length + b.inn.length + b.out.length ≤ _; omega, by show s.ts.length ≤ _; omega, by show s.labs.length ≤ _; omega⟩ (by omega);obtain ⟨s4, hs4⟩ := eqx (frs (frs (frs (frs s b.inn.length) b.inn.length) b.out.length) b.out.length);have h4p : s4.p ≤ 91000 := by rw [hs4]; show s.p + b.inn.length + b.inn.length + b.out.length + b.out.length ≤ _; omega
 have h4t : s4.ts.length ≤ 90000 := by rw [hs4]; exact hst
 have h4l : s4.labs.length ≤ 90000 := by rw [hs4]; exact hsl
 have hbn : burN s b = let s2 := addT s4 [b.from_] (rngI s.p b.inn.length) quiet
   let s3 := eachB s2 b.inn s.p (s.p + b.inn.length) b.inn.length
   if b.out.length = 0 then addT s3 (rngI (s.p + b.inn.length) b.inn.length) [b.to_] quiet
   else addT (eachB (addT s3 (rngI (s.p + b.inn.length) b.inn.length) (rngI (s.p + b.inn.length + b.inn.length) b.out.length) quiet) b.out (s.p + b.inn.length + b.inn.length) (s.p + b.inn.length + b.inn.length + b.out.length) b.out.length) (rngI (s.p + b.inn.length + b.inn.length + b.out.length) b.out.length) [b.to_] quiet := by rw [hs4]; rfl
 rw [← hs4] at hP4;have hT1 := l24Trans_spec s4 g [b.from_] (rngI s.p b.inn.length) quiet ⟨by omega, by omega, by omega⟩ (by simp) (by rw [rngI_len]; omega);obtain ⟨s5, hs5⟩ := eqx (addT s4 [b.from_] (rngI s.p b.inn.length) quiet);have h5p : s5.p = s4.p := by rw [hs5]; rfl
 have h5t : s5.ts.length = s4.ts.length + 1 := by rw [hs5]; exact List.length_append
 have h5l : s5.labs.length = s4.labs.length + 1 := by rw [hs5]; exact List.length_append
 rw [← hs5] at hT1 hbn;refine ASpec.of Tryz.func17 rfl rfl fun C hC => ?_
 refine AC.seq (AC.region ?_);refine kD ?_;refine AL.nil (th_n (AC.seq (AC.region ?_)));refine AL.p (by exact g_build rfl rfl rfl) rfl ?_;refine kE ?_;refine zs ?_;refine AL.nil (th_n (AC.seq ?_));refine AC.drawn' mixed_ok [[], [0], [0,1], [], [3], [3,4], [0,1,2], [0,1,2,3,4,5,6]] (by decide) ?_;refine zd 0 [] 8 (by exact g_fa_ref rfl rfl rfl rfl rfl rfl) ?_;refine zd 1 [0] 8 (by exact g_load_ref rfl rfl rfl) ?_;refine zh 2 [0,1] 8 (by exact h_litF rfl rfl rfl rfl rfl rfl rfl rfl) ?_;refine zd 3 [] 8 (by exact g_fa_ref rfl rfl rfl rfl rfl rfl) ?_;refine zd 4 [3] 8 (by exact g_load_ref rfl rfl rfl) ?_;refine zh 5 [3,4] 8 (by exact h_litF rfl rfl rfl rfl rfl rfl rfl rfl) ?_;refine zd 6 [0,1,2] 8 (by exact as1 rfl) ?_;refine zd 7 [0,1,2,3,4,5,6] 8 (by exact as1 rfl) ?_;refine zj 8 ?_;refine th_n (AC.seq ?_);refine AC.drawn' mixed_ok [[], [], [1], [1,2], [0,1,2,3], [], [], [6], [6,7], [0,1,2,3,4,5,6,7,8], [0,1,2,3,4,5,6,7,8,9], [0,1,2,3,4,5,6,7,8,9,10]] (by decide) ?_;refine zd 0 [] 12 (by exact mv3 rfl) ?_;refine zd 1 [] 12 (by exact g_fa_ref rfl rfl rfl rfl rfl rfl) ?_;refine zd 2 [1] 12 (by exact g_load_ref rfl rfl rfl) ?_;refine zd 3 [1,2] 12 (by exact g_len_view (k := b.inn.length) rfl rfl (labsL_len _)) ?_;refine zh 4 [0,1,2,3] 12 (by exact h_fun (cs := [0, 1, 2]) en_l24Places rfl rfl (by repeat (first | exact rfl | exact DLead.same | refine ⟨_, _, rfl, ?_, ?_⟩ | refine ⟨_, rfl, ?_⟩)) (by repeat (first | exact True.intro | refine And.intro ?_ ?_ | exact DLead.same | exact rfl | refine ⟨_, _, rfl, rfl, ?_⟩ | refine ⟨_, rfl, ?_⟩ | refine ⟨_, _, rfl, ?_, ?_⟩)) hP1 rfl rfl rfl rfl) ?_;refine zd 5 [] 12 (by exact mv3 rfl) ?_;refine zd 6 [] 12 (by exact g_fa_ref rfl rfl rfl rfl rfl rfl) ?_;refine zd 7 [6] 12 (by exact g_load_ref rfl rfl rfl) ?_;refine zd 8 [6,7] 12 (by exact g_len_view (k := b.inn.length) rfl rfl (labsL_len _)) ?_;refine zh 9 (List.range 9) 12 (by exact h_fun (cs := [0, 1, 2]) en_l24Places rfl rfl (by repeat (first | exact rfl | exact DLead.same | refine ⟨_, _, rfl, ?_, ?_⟩ | refine ⟨_, rfl, ?_⟩)) (by repeat (first | exact True.intro | refine And.intro ?_ ?_ | exact DLead.same | exact rfl | refine ⟨_, _, rfl, rfl, ?_⟩ | refine ⟨_, rfl, ?_⟩ | refine ⟨_, _, rfl, ?_, ?_⟩)) hP2 rfl rfl rfl rfl) ?_;refine zd 10 (List.range 10) 12 (by exact as1 rfl) ?_;refine zd 11 (List.range 11) 12 (by exact as1 rfl) ?_;refine zj 12 ?_;refine th_n (AC.seq ?_);refine AC.drawn' mixed_ok [[], [], [1], [1,2], [0,1,2,3], [], [], [6], [6,7], [0,1,2,3,4,5,6,7,8], [0,1,2,3,4,5,6,7,8,9], [0,1,2,3,4,5,6,7,8,9,10]] (by decide) ?_;refine zd 0 [] 12 (by exact mv3 rfl) ?_;refine zd 1 [] 12 (by exact g_fa_ref rfl rfl rfl rfl rfl rfl) ?_;refine zd 2 [1] 12 (by exact g_load_ref rfl rfl rfl) ?_;refine zd 3 [1,2] 12 (by exact g_len_view (k := b.out.length) rfl rfl (labsL_len _)) ?_;refine zh 4 [0,1,2,3] 12 (by exact h_fun (cs := [0, 1, 2]) en_l24Places rfl rfl (by repeat (first | exact rfl | exact DLead.same | refine ⟨_, _, rfl, ?_, ?_⟩ | refine ⟨_, rfl, ?_⟩)) (by repeat (first | exact True.intro | refine And.intro ?_ ?_ | exact DLead.same | exact rfl | refine ⟨_, _, rfl, rfl, ?_⟩ | refine ⟨_, rfl, ?_⟩ | refine ⟨_, _, rfl, ?_, ?_⟩)) hP3 rfl rfl rfl rfl) ?_;refine zd 5 [] 12 (by exact mv3 rfl) ?_;refine zd 6 [] 12 (by exact g_fa_ref rfl rfl rfl rfl rfl rfl) ?_;refine zd 7 [6] 12 (by exact g_load_ref rfl rfl rfl) ?_;refine zd 8 [6,7] 12 (by exact g_len_view (k := b.out.length) rfl rfl (labsL_len _)) ?_;refine zh 9 (List.range 9) 12 (by exact h_fun (cs := [0, 1, 2]) en_l24Places rfl rfl (by repeat (first | exact rfl | exact DLead.same | refine ⟨_, _, rfl, ?_, ?_⟩ | refine ⟨_, rfl, ?_⟩)) (by repeat (first | exact True.intro | refine And.intro ?_ ?_ | exact DLead.same | exact rfl | refine ⟨_, _, rfl, rfl, ?_⟩ | refine ⟨_, rfl, ?_⟩ | refine ⟨_, _, rfl, ?_, ?_⟩)) hP4 rfl rfl rfl rfl) ?_;refine zd 10 (List.range 10) 12 (by exact as1 rfl) ?_;refine zd 11 (List.range 11) 12 (by exact as1 rfl) ?_;refine zj 12 ?_
 refine th_n (AC.seq ?_);obtain ⟨A, hA⟩ := eqx (rngI s.p b.inn.length);obtain ⟨CC, hCC⟩ := eqx (rngI (s.p + b.inn.length) b.inn.length);obtain ⟨DD, hDD⟩ := eqx (rngI (s.p + b.inn.length + b.inn.length) b.out.length);obtain ⟨EE, hEE⟩ := eqx (rngI (s.p + b.inn.length + b.inn.length + b.out.length) b.out.length);refine AC.weak (t := ⟨110, 308, [(0, .ptr 0 0), (3, .d (.ref (burD b))), (4, .ptr 103 0), (5, .d (vI [b.from_])), (6, .d (vI [b.to_])), (7, .d (vI A)), (8, .d (vI CC)), (9, .d (vI DD)), (10, .d (vI EE))], chL (nChs s4 g 1 2) ++ [(103, some (.cells 63 [aI (-1), aT false]))]⟩) (Weak.ren _ [(103, _)] hC rfl (by rw [hA, hCC, hDD, hEE]; repeat (first | exact True.intro | refine And.intro ?_ ?_ | exact DLead.same | exact rfl | refine ⟨_, rfl, ?_⟩)) (by repeat (first | exact True.intro | refine And.intro ?_ ?_ | exact DLead.same | exact rfl | refine ⟨_, _, rfl, rfl, ?_⟩ | refine ⟨_, rfl, ?_⟩ | refine ⟨_, _, rfl, ?_, ?_⟩)) rfl rfl rfl) ?_;rw [← hA] at hT1;rw [← hCC, ← hDD, ← hEE] at hbn;have hAl : A.length = b.inn.length := by rw [hA, rngI_len]
 have hCl : CC.length = b.inn.length := by rw [hCC, rngI_len]
 have hDl : DD.length = b.out.length := by rw [hDD, rngI_len]
 have hEl : EE.length = b.out.length := by rw [hEE, rngI_len]
 refine AC.region ?_;refine AL.p (by exact mv3 rfl) rfl ?_;refine zm ?_;refine zm ?_;refine AL.p (by exact g_load_ptrN rfl rfl rfl rfl rfl) rfl ?_;refine kU [0, 1, 2] en_l24Trans hT1 ?_;refine AL.nil (th_n (AC.seq (AC.seq (AC.region ?_))));refine zf ?_;refine zr ?_;refine kI b.inn.length (labsL_len _) ?_;refine zm ?_;refine AL.nil (th_n (AC.block ?_));refine AC.loop (ι := Nat) (fun k => ⟨110, 508, [(0, .ptr 0 0), (3, .d (.ref (burD b))), (4, .ptr 103 0), (6, .d (vI [b.to_])), (7, .d (vI A)), (8, .d (vI CC)), (9, .d (vI DD)), (10, .d (vI EE)), (48, .d (vLabs b.inn)), (49, aI b.inn.length), (50, aI k)], chL (nChs (eachB s5 b.inn s.p (s.p + b.inn.length) k) g 101 102) ++ [(103, some (.cells 63 [aI (-1), aT false]))]⟩) (fun k => k ≤ b.inn.length) (fun k => b.inn.length - k) (0) ?_ (Nat.zero_le _) ?_
 ·exact zw [(101, 308), (102, 309), (103, 103)] hC
 intro k hk;refine AC.seq (AC.region ?_);refine zc ?_;refine AL.nil (th_n (AC.seq ?_));refine AC.condD rfl (fun h0 => ?_) (fun h0 => ?_)
 ·refine AC.skip (th_n (AC.seq (AC.block (AC.seq ?_))));have hk1 : k < b.inn.length := by omega
  have hget := labsL_get hk1;have hel := eachB_len s5 b.inn s.p (s.p + b.inn.length) k;have hes := eachB_succ (s := s5) (x := s.p) (y := s.p + b.inn.length) hk1;obtain ⟨sk, hsk⟩ := eqx (eachB s5 b.inn s.p (s.p + b.inn.length) k);rw [← hsk] at hel hes ⊢;have hTk := l24Trans_spec sk g [((s.p + k : Nat) : Int)] [((s.p + b.inn.length + k : Nat) : Int)] b.inn[k] ⟨by omega, by omega, by omega⟩ (by simp) (by simp);have hwk : IntKind.i64.wrap ((k : Int) + 1) = ((k + 1 : Nat) : Int) := by rw [show (k : Int) + 1 = ((k + 1 : Nat) : Int) by omega]; exact wrap_i64 (by omega)
  have hcA : ((ints A).take (k + 1)).drop k = ints [((s.p + k : Nat) : Int)] := by rw [hA]; exact rngI_cut hk1
  have hcC : ((ints CC).take (k + 1)).drop k = ints [((s.p + b.inn.length + k : Nat) : Int)] := by rw [hCC]; exact rngI_cut hk1
  refine AC.region ?_;refine zm ?_;refine AL.p (by exact g_ia_view rfl rfl rfl rfl rfl (by rfl) (by assumption)) rfl ?_;refine kG ?_;refine kE ?_;refine za ?_;refine zs ?_;refine AL.nil (th_n ?_);refine AC.drawn' mixed_ok [[], [], [], [], [3], [1,2,3,4], [], [], [], [8], [6,7,8,9], [], [0,1,2,3,4,5,6,7,8,9,10,11]] (by decide) ?_;refine zd 0 [] 13 (by exact mv3 rfl) ?_;refine zd 1 [] 13 (by exact mv1 rfl) ?_;refine zd 2 [] 13 (by exact mv1 rfl) ?_;refine zd 3 [] 13 (by exact mv1 rfl) ?_;refine zd 4 [3] 13 (by exact g_arith (e := ((k + 1 : Nat) : Int)) rfl rfl rfl hwk) ?_;refine zd 5 [1,2,3,4] 13 (by exact g_slice_view (l := k) (h := k + 1) rfl rfl rfl rfl (.some rfl rfl) (.some rfl rfl) (by omega) (by rw [ints_len, hAl]; omega) hcA) ?_;refine zd 6 [] 13 (by exact mv1 rfl) ?_;refine zd 7 [] 13 (by exact mv1 rfl) ?_;refine zd 8 [] 13 (by exact mv1 rfl) ?_;refine zd 9 [8] 13 (by exact g_arith (e := ((k + 1 : Nat) : Int)) rfl rfl rfl hwk) ?_;refine zd 10 [6,7,8,9] 13 (by exact g_slice_view (l := k) (h := k + 1) rfl rfl rfl rfl (.some rfl rfl) (.some rfl rfl) (by omega) (by rw [ints_len, hCl]; omega) hcC) ?_;refine zd 11 [] 13 (by exact g_load_ptrN rfl rfl rfl rfl rfl) ?_;refine zh 12 (List.range 12) 13 (by exact h_fun (cs := [0, 101, 102]) en_l24Trans rfl rfl (by repeat (first | exact rfl | exact DLead.same | refine ⟨_, _, rfl, ?_, ?_⟩ | refine ⟨_, rfl, ?_⟩)) (by repeat (first | exact True.intro | refine And.intro ?_ ?_ | exact DLead.same | exact rfl | refine ⟨_, _, rfl, rfl, ?_⟩ | refine ⟨_, rfl, ?_⟩ | refine ⟨_, _, rfl, ?_, ?_⟩)) hTk rfl rfl rfl rfl) ?_;refine zj 13 ?_;refine ib_n (th_n (AC.region ?_));refine zA ?_;refine zm ?_;refine AL.nil (th_n ?_);exact ⟨k + 1, hk1, by omega, by dsimp only; rw [hes]; exact zw [(101, _), (102, _), (103, _)] hC⟩
 refine AC.exit (th_e (th_e (ib_y (th_n (AC.seq (AC.seq ?_))))));obtain rfl : k = b.inn.length := by omega
 have hel := eachB_len s5 b.inn s.p (s.p + b.inn.length) b.inn.length;obtain ⟨s6, hs6⟩ := eqx (eachB s5 b.inn s.p (s.p + b.inn.length) b.inn.length);dsimp only at hbn;rw [← hs6] at hel hbn ⊢;have hTa := l24Trans_spec s6 g CC [b.to_] quiet ⟨by omega, by omega, by omega⟩ (by omega) (by simp);have hTb := l24Trans_spec s6 g CC DD quiet ⟨by omega, by omega, by omega⟩ (by omega) (by omega);obtain ⟨s7, hs7⟩ := eqx (addT s6 CC DD quiet);have h7p : s7.p = s6.p := by rw [hs7]; rfl
 have h7t : s7.ts.length = s6.ts.length + 1 := by rw [hs7]; exact List.length_append
 have h7l : s7.labs.length = s6.labs.length + 1 := by rw [hs7]; exact List.length_append
 rw [← hs7] at hTb hbn;refine AC.region ?_;refine zf ?_;refine zr ?_;refine kI b.out.length (labsL_len _) ?_;refine zc ?_;refine AL.nil (th_n ?_);refine AC.condD rfl (fun h1 => ?_) (fun h1 => ?_)
 ·refine AC.seq (AC.region ?_);refine AL.p (by exact mv3 rfl) rfl ?_;refine zm ?_;refine zm ?_;refine AL.p (by exact g_load_ptrN rfl rfl rfl rfl rfl) rfl ?_;refine kU [0, 101, 102] en_l24Trans hTa ?_;refine AL.nil (th_n (AC.ret (th_r (bq_r ?_))));rw [if_pos (by omega)] at hbn;rw [hbn];exact retX [(3, 508), (4, 509)] rfl ⟨rfl, rfl⟩ (by repeat (first | exact rfl | refine ⟨_, rfl, ?_⟩)) (by repeat (first | exact True.intro | refine And.intro ?_ ?_ | exact DLead.same | exact rfl | refine ⟨_, _, rfl, rfl, ?_⟩ | refine ⟨_, rfl, ?_⟩ | refine ⟨_, _, rfl, ?_, ?_⟩)) rfl rfl
 refine AC.skip (th_n (AC.seq (AC.region ?_)));refine AL.p (by exact mv3 rfl) rfl ?_;refine zm ?_;refine zm ?_;refine AL.p (by exact g_load_ptrN rfl rfl rfl rfl rfl) rfl ?_;refine kU [0, 101, 102] en_l24Trans hTb ?_;refine AL.nil (th_n (AC.seq (AC.seq (AC.region ?_))));refine zf ?_;refine zr ?_;refine kI b.out.length (labsL_len _) ?_;refine zm ?_;refine AL.nil (th_n (AC.block ?_));refine AC.loop (ι := Nat) (fun k => ⟨110, 508, [(0, .ptr 0 0), (3, .d (.ref (burD b))), (4, .ptr 103 0), (6, .d (vI [b.to_])), (7, .d (vI A)), (8, .d (vI CC)), (9, .d (vI DD)), (10, .d (vI EE)), (84, .d (vLabs b.out)), (85, aI b.out.length), (86, aI k)], chL (nChs (eachB s7 b.out (s.p + b.inn.length + b.inn.length) (s.p + b.inn.length + b.inn.length + b.out.length) k) g 101 102) ++ [(103, some (.cells 63 [aI (-1), aT false]))]⟩) (fun k => k ≤ b.out.length) (fun k => b.out.length - k) (0) ?_ (Nat.zero_le _) ?_
 ·exact zw [(101, 508), (102, 509), (103, 103)] hC
 intro k hk;refine AC.seq (AC.region ?_);refine zc ?_;refine AL.nil (th_n (AC.seq ?_));refine AC.condD rfl (fun h2 => ?_) (fun h2 => ?_)
 ·refine AC.skip (th_n (AC.seq (AC.block (AC.seq ?_))));have hk1 : k < b.out.length := by omega
  have hget := labsL_get hk1;have hel2 := eachB_len s7 b.out (s.p + b.inn.length + b.inn.length) (s.p + b.inn.length + b.inn.length + b.out.length) k;have hes := eachB_succ (s := s7) (x := s.p + b.inn.length + b.inn.length) (y := s.p + b.inn.length + b.inn.length + b.out.length) hk1;obtain ⟨sk, hsk⟩ := eqx (eachB s7 b.out (s.p + b.inn.length + b.inn.length) (s.p + b.inn.length + b.inn.length + b.out.length) k);rw [← hsk] at hel2 hes ⊢;have hTk := l24Trans_spec sk g [((s.p + b.inn.length + b.inn.length + k : Nat) : Int)] [((s.p + b.inn.length + b.inn.length + b.out.length + k : Nat) : Int)] b.out[k] ⟨by omega, by omega, by omega⟩ (by simp) (by simp);have hwk : IntKind.i64.wrap ((k : Int) + 1) = ((k + 1 : Nat) : Int) := by rw [show (k : Int) + 1 = ((k + 1 : Nat) : Int) by omega]; exact wrap_i64 (by omega)
  have hcA : ((ints DD).take (k + 1)).drop k = ints [((s.p + b.inn.length + b.inn.length + k : Nat) : Int)] := by rw [hDD]; exact rngI_cut hk1
  have hcC : ((ints EE).take (k + 1)).drop k = ints [((s.p + b.inn.length + b.inn.length + b.out.length + k : Nat) : Int)] := by rw [hEE]; exact rngI_cut hk1
  refine AC.region ?_;refine zm ?_;refine AL.p (by exact g_ia_view rfl rfl rfl rfl rfl (by rfl) (by assumption)) rfl ?_;refine kG ?_;refine kE ?_;refine za ?_;refine zs ?_;refine AL.nil (th_n ?_);refine AC.drawn' mixed_ok [[], [], [], [], [3], [1,2,3,4], [], [], [], [8], [6,7,8,9], [], [0,1,2,3,4,5,6,7,8,9,10,11]] (by decide) ?_;refine zd 0 [] 13 (by exact mv3 rfl) ?_;refine zd 1 [] 13 (by exact mv1 rfl) ?_;refine zd 2 [] 13 (by exact mv1 rfl) ?_;refine zd 3 [] 13 (by exact mv1 rfl) ?_;refine zd 4 [3] 13 (by exact g_arith (e := ((k + 1 : Nat) : Int)) rfl rfl rfl hwk) ?_;refine zd 5 [1,2,3,4] 13 (by exact g_slice_view (l := k) (h := k + 1) rfl rfl rfl rfl (.some rfl rfl) (.some rfl rfl) (by omega) (by rw [ints_len, hDl]; omega) hcA) ?_;refine zd 6 [] 13 (by exact mv1 rfl) ?_;refine zd 7 [] 13 (by exact mv1 rfl) ?_;refine zd 8 [] 13 (by exact mv1 rfl) ?_;refine zd 9 [8] 13 (by exact g_arith (e := ((k + 1 : Nat) : Int)) rfl rfl rfl hwk) ?_;refine zd 10 [6,7,8,9] 13 (by exact g_slice_view (l := k) (h := k + 1) rfl rfl rfl rfl (.some rfl rfl) (.some rfl rfl) (by omega) (by rw [ints_len, hEl]; omega) hcC) ?_;refine zd 11 [] 13 (by exact g_load_ptrN rfl rfl rfl rfl rfl) ?_;refine zh 12 (List.range 12) 13 (by exact h_fun (cs := [0, 101, 102]) en_l24Trans rfl rfl (by repeat (first | exact rfl | exact DLead.same | refine ⟨_, _, rfl, ?_, ?_⟩ | refine ⟨_, rfl, ?_⟩)) (by repeat (first | exact True.intro | refine And.intro ?_ ?_ | exact DLead.same | exact rfl | refine ⟨_, _, rfl, rfl, ?_⟩ | refine ⟨_, rfl, ?_⟩ | refine ⟨_, _, rfl, ?_, ?_⟩)) hTk rfl rfl rfl rfl) ?_;refine zj 13 ?_;refine ib_n (th_n (AC.region ?_));refine zA ?_;refine zm ?_;refine AL.nil (th_n ?_);exact ⟨k + 1, hk1, by omega, by dsimp only; rw [hes]; exact zw [(101, _), (102, _), (103, _)] hC⟩
 refine AC.exit (th_e (th_e (ib_y (th_n ?_))));obtain rfl : k = b.out.length := by omega
 have hel2 := eachB_len s7 b.out (s.p + b.inn.length + b.inn.length) (s.p + b.inn.length + b.inn.length + b.out.length) b.out.length;obtain ⟨s8, hs8⟩ := eqx (eachB s7 b.out (s.p + b.inn.length + b.inn.length) (s.p + b.inn.length + b.inn.length + b.out.length) b.out.length);rw [← hs8] at hel2 hbn ⊢;have hTc := l24Trans_spec s8 g EE [b.to_] quiet ⟨by omega, by omega, by omega⟩ (by omega) (by simp);refine AC.region ?_;refine AL.p (by exact mv3 rfl) rfl ?_;refine zm ?_;refine zm ?_;refine AL.p (by exact g_load_ptrN rfl rfl rfl rfl rfl) rfl ?_;refine kU [0, 101, 102] en_l24Trans hTc ?_;refine AL.nil (bq_n ?_);rw [if_neg (by omega)] at hbn;rw [hbn];exact retX [(3, 508), (4, 509)] rfl ⟨rfl, rfl⟩ (by repeat (first | exact rfl | refine ⟨_, rfl, ?_⟩)) (by repeat (first | exact True.intro | refine And.intro ?_ ?_ | exact DLead.same | exact rfl | refine ⟨_, _, rfl, rfl, ?_⟩ | refine ⟨_, rfl, ?_⟩ | refine ⟨_, _, rfl, ?_, ?_⟩)) rfl rfl
theorem en_l24Burst : Enters Tryz.prog 17 := enters_of Tryz.func17 rfl rfl
structure BdO (s : Bd) (P T : Nat) : Prop where
 p : s.p ≤ P
 t : s.ts.length ≤ T
 l : s.labs.length = s.ts.length
 b : ∀ t, t ∈ s.ts → t.pre.length ≤ 8 ∧ t.post.length ≤ 8
theorem BdO.addT {s : Bd} {P T : Nat} (h : BdO s P T) {pre post : List Int} {l : Lab} (h1 : pre.length ≤ 8) (h2 : post.length ≤ 8) : BdO (addT s pre post l) P (T + 1) := by
 refine ⟨h.p, ?_, ?_, fun t ht => ?_⟩
 ·show (s.ts ++ [_]).length ≤ _;have := h.t;rw [List.length_append]; simp only [List.length_cons, List.length_nil]; omega
 ·show (s.labs ++ [_]).length = (s.ts ++ [_]).length;rw [List.length_append, List.length_append, h.l]; rfl
 rcases List.mem_append.1 ht with ht | ht
 ·exact h.b t ht
 rw [List.mem_singleton] at ht; subst ht; exact ⟨h1, h2⟩
theorem BdO.each {s : Bd} {P T : Nat} (h : BdO s P T) (l : List Lab) (x y : Nat) : ∀ k, BdO (eachB s l x y k) P (T + k)
 | 0 => h
 | k + 1 => (BdO.each h l x y k).addT (by simp) (by simp)
theorem BdO.frs {s : Bd} {P T : Nat} (h : BdO s P T) (n : Nat) : BdO (frs s n) (P + n) T := ⟨by have := h.p; show s.p + n ≤ _; omega, h.t, h.l, h.b⟩
theorem BdO.mono {s : Bd} {P T P' T' : Nat} (h : BdO s P T) (hp : P ≤ P') (ht : T ≤ T') : BdO s P' T' := ⟨by have := h.p; omega, by have := h.t; omega, h.l, h.b⟩
theorem BdO.bur {s : Bd} {P T : Nat} (h : BdO s P T) (b : Bur) (hi : b.inn.length ≤ 8) (ho : b.out.length ≤ 8) : BdO (burN s b) (P + 32) (T + 19) := by
 have h1 := ((((h.frs b.inn.length).frs b.inn.length).frs b.out.length).frs b.out.length).addT (pre := [b.from_]) (post := rngI s.p b.inn.length) (l := quiet) (by simp) (by rw [rngI_len]; exact hi);have h2 := h1.each b.inn s.p (s.p + b.inn.length) b.inn.length;unfold burN;dsimp only
 split
 ·exact (h2.addT (by rw [rngI_len]; exact hi) (by simp)).mono (by omega) (by omega)
 exact (((h2.addT (by rw [rngI_len]; exact hi) (by rw [rngI_len]; exact ho)).each b.out _ _ b.out.length).addT (by rw [rngI_len]; exact ho) (by simp)).mono (by omega) (by omega)
theorem bur_in {m : Mach} (hF : FormM m) {b : Bur} (hb : b ∈ m.burs) : b.inn.length ≤ 8 ∧ b.out.length ≤ 8 ∧ okI b.from_ ∧ okI b.to_ := by
 obtain ⟨⟨h1, h2⟩, ⟨h3, h4⟩, _, h5, h6⟩ := burB_iff (hF.b b hb);have := labsB_len h5;have := labsB_len h6;have := hF.sl;have := hF.st;exact ⟨by omega, by omega, ⟨by omega, by omega⟩, ⟨by omega, by omega⟩⟩
theorem BdO.burK {m : Mach} (hF : FormM m) {s : Bd} {P T : Nat} (h : BdO s P T) : ∀ k, k ≤ m.burs.length → BdO (burK s m.burs k) (P + 32 * k) (T + 19 * k)
 | 0, _ => h
 | k + 1, hk => by
  have h1 := BdO.burK hF h k (by omega);have hg : m.burs.getD k ⟨0, [], [], 0⟩ = m.burs[k] := by rw [List.getD_eq_getElem?_getD, List.getElem?_eq_getElem (by omega)]; rfl
  have h2 := bur_in hF (List.getElem_mem (show k < m.burs.length by omega));show BdO (burN _ (m.burs.getD k ⟨0, [], [], 0⟩)) _ _;rw [hg];exact (h1.bur _ h2.1 h2.2.1).mono (by omega) (by omega)
theorem burK_succ {s : Bd} {l : List Bur} {k : Nat} (h : k < l.length) : burK s l (k + 1) = burN (burK s l k) l[k] := by
 rw [burK, List.getD_eq_getElem?_getD, List.getElem?_eq_getElem h]; rfl
def s0B (m : Mach) : Bd := ⟨m.states.toNat, [], []⟩
theorem s0_ok {m : Mach} (hF : FormM m) : BdO (s0B m) 6 0 := ⟨by have := hF.st; show m.states.toNat ≤ 6; omega, Nat.le_refl _, rfl, fun t ht => absurd ht List.not_mem_nil⟩
theorem burK_p {s : Bd} {l : List Bur} : ∀ k, s.p ≤ (burK s l k).p
 | 0 => Nat.le_refl _
 | k + 1 => by
  have h1 := burK_p (s := s) (l := l) k
  have h2 : ∀ (s : Bd) (b : Bur), s.p ≤ (burN s b).p := fun s b => by
   unfold burN;dsimp only;have e1 := eachB_len (addT (frs (frs (frs (frs s b.inn.length) b.inn.length) b.out.length) b.out.length) [b.from_] (rngI s.p b.inn.length) quiet) b.inn s.p (s.p + b.inn.length) b.inn.length;have e0 : (addT (frs (frs (frs (frs s b.inn.length) b.inn.length) b.out.length) b.out.length) [b.from_] (rngI s.p b.inn.length) quiet).p = s.p + b.inn.length + b.inn.length + b.out.length + b.out.length := rfl
   split
   ·show s.p ≤ (eachB _ _ _ _ _).p;omega
   show s.p ≤ (eachB _ _ _ _ _).p;rw [(eachB_len _ _ _ _ _).1];show s.p ≤ (eachB _ _ _ _ _).p;omega
  exact Nat.le_trans h1 (h2 _ _)
theorem mkBd_ok {m : Mach} (hF : FormM m) : BdO (mkBd m) 198 114 ∧ 1 ≤ (mkBd m).p := by
 have h1 := BdO.burK hF (s0_ok hF) m.burs.length (Nat.le_refl _);have h2 := hF.bl;have h3 := burK_p (s := s0B m) (l := m.burs) m.burs.length;have h4 : (s0B m).p = m.states.toNat := rfl;have := hF.st;exact ⟨h1.mono (by omega) (by omega), by show 1 ≤ (burK (s0B m) m.burs m.burs.length).p; omega⟩
theorem stgOf_L {m : Mach} (hF : FormM m) (hS : SmM m) : StgL (stgOf m) := by
 obtain ⟨h, hp⟩ := mkBd_ok hF;have h1 := h.p;have h2 := h.t;have h3 := h.l;refine ⟨⟨by show -9223372036854775808 ≤ ((mkBd m).p : Int) ∧ ((mkBd m).p : Int) ≤ _; omega, by show (mkBd m).ts.length ≤ _; omega, fun t ht => by have := h.b t ht; omega⟩, hS.s, hS.sn, by show (mkBd m).labs.length ≤ _; omega, ?_⟩;show (49 :: List.replicate ((mkBd m).p - 1) (48 : UInt8)).length ≤ _;simp only [List.length_cons, List.length_replicate]; omega
theorem h_appendSgs (acc new : List Sig) {s : ASt} {dst : Option Nat} {ty : Nat} {pos : String} {af : Array Edge} {gd : Option (Nat × Bool)} {x y : Operand} {f : Nat} {ids ids2 : List Nat} {gone : List (Nat × Option Chunk)}
  (hto : AppTo s x 91 2 (sigsL acc) ids gone) (harg : AppArg s y 2 (sigsL new) ids2) (h : (acc ++ new).length ≤ 100000000) (hnew : gone = [] → 0 < new.length) :
  NOp Tryz.prog (ids ++ ids2) s ⟨dst, .call { callee := .builtin .append, args := #[x, y], argTypes := #[30, 30] }, ty, pos, af, gd⟩ f ⟨.own f (acc ++ new).length, (f, some (.arr 91 2 (sigsL (acc ++ new)))) :: gone⟩ := by
 have := h_append (P := Tryz.prog) (s := s) (dst := dst) (ty := ty) (pos := pos) (af := af) (gd := gd) (x := x) (y := y) (f := f) (t := 30) (tx := 30) (k := (acc ++ new).length) rfl rfl rfl rfl rfl rfl hto harg (by simp) (by omega) (by show (acc ++ new).length * 24 ≤ _; omega) (fun h => by rw [List.length_map]; exact hnew h);rw [show sigsL acc ++ sigsL new = sigsL (acc ++ new) by simp] at this;exact this
theorem sgOwn_le (l : List Sig) : l.length ≤ (sigsL l).length := Nat.le_of_eq (List.length_map _).symm
theorem sgOwn_take (l : List Sig) : (sigsL l).take l.length = sigsL l := List.take_of_length_le (Nat.le_of_eq (List.length_map _))
abbrev nChsA (s : Bd) (g : List Sig) (i0 i1 i2 : Nat) : List (Nat × Chunk) := [(i0, nC s g i1 i2), (i1, .arr 96 2 (tsL s.ts)), (i2, .arr 63 2 (labsL s.labs))]
abbrev zStg : Chunk := .cells 33 [aI 0, .d (.val (.slice none 0 0)), .d (.val (.slice none 0 0)), .d (.val (.slice none 0 0)), aS ByteArray.empty]
theorem msR_f {m : Mach} (h : goodM m = false) : msR m = (noStg, false) := if_neg (fun q => by rw [h] at q; cases q.1)
theorem msR_t {m : Mach} (h : goodM m = true) : msR m = if goodS (stgOf m) = true then (stgOf m, true) else (noStg, false) := by
 unfold msR
 by_cases q : goodS (stgOf m) = true
 ·rw [if_pos ⟨h, q⟩, if_pos q]
 rw [if_neg (fun z => q z.2), if_neg q]
theorem cut_rep (p : Nat) (hp : 1 ≤ p) : (bstr (List.replicate p 48)).extract 1 (bstr (List.replicate p 48)).size = bstr (List.replicate (p - 1) 48) := by
 have e : ((bstr (List.replicate p 48)).extract 1 (bstr (List.replicate p 48)).size).data.toList = List.replicate (p - 1) (48 : UInt8) := by
  rw [bstr_size];simp [bstr, ByteArray.data_extract, List.extract_eq_drop_take]
 rw [← bstr_of ((bstr (List.replicate p 48)).extract 1 _), e]
set_option maxRecDepth 20000 in
set_option maxHeartbeats 8000000 in
theorem sMachSTG_spec (m : Mach) (hS : SmM m) : ASpec Tryz.prog 5 [machA m] [] (Pure1 (.tup [stgA (msR m).1, aT (msR m).2])) := by
 have hG := l24Good_spec m hS;have hf := msR_f (m := m);have ht := msR_t (m := m);have hfm := goodM_form (m := m);obtain ⟨b, hb⟩ := eqx (goodM m);rw [← hb] at hG hf ht hfm;refine ASpec.of Tryz.func5 rfl rfl fun C hC => ?_
 refine AC.seq (AC.region ?_);refine kD ?_;refine kE ?_;refine za ?_;refine AL.nil (th_n (AC.seq (AC.seq (AC.region ?_))));refine kG ?_;refine kV en_l24Good hG ?_;refine kC ?_;refine AL.nil (th_n ?_);refine AC.condB rfl (fun h0 => ?_) (fun h0 => ?_)
 ·refine AC.seq (AC.region ?_);refine AL.p (by exact g_build rfl rfl rfl) rfl ?_;refine zs ?_;refine za ?_;refine AL.nil (th_n (AC.ret (th_r (bq_r ?_))));rw [hf ((Bool.not_eq_true' b).mp ‹(!b) = true›)];exact ret0 rfl (by repeat (first | exact rfl | exact DLead.same | exact DLead.nil | refine ⟨_, _, rfl, ?_, ?_⟩ | refine ⟨_, rfl, ?_⟩))
 refine AC.skip (th_n (AC.seq ?_));have hbt := (Bool.not_eq_false' b).mp ‹(!b) = false›;have hF := hfm hbt;have hR := ht hbt;have hss := hS.s;have hst := hF.st;obtain ⟨n0, hn0⟩ : ∃ n : Nat, m.states = n := ⟨m.states.toNat, by omega⟩;refine AC.region ?_;refine AL.q (by exact h_lit rfl rfl rfl rfl rfl rfl rfl rfl) rfl ?_;refine zf ?_;refine zr ?_;refine AL.q (by exact h_appendSgs [] m.sigs (.own rfl rfl rfl) (.view rfl) (by simp; omega) (by simp)) rfl ?_;refine AL.weak (Weak.freeze (i := 14) rfl rfl (sgOwn_le _) (sgOwn_take _)) ?_;refine AL.p (by exact g_build rfl rfl rfl) rfl ?_;refine AL.p (by exact g_build rfl rfl rfl) rfl ?_;refine AL.q (by exact h_box rfl) rfl ?_;refine AL.p (by exact as3 rfl) rfl ?_;refine AL.nil (th_n (AC.seq ?_));refine AC.weak (t := ⟨55, 300, [(1, .d (.ref (machD m))), (2, .ptr 200 0), (4, .ptr 100 0)], [(100, some (.cells 50 [aI 0, .d (.val (.slice none 0 0)), .d (vSigs m.sigs), .d (.val (.slice none 0 0)), aS ByteArray.empty])), (200, some zStg)]⟩) (zw [(100, _), (200, _)] hC) ?_;refine AC.weak (Weak.nilOwnP 4 1 (e := 96) (sz := 2) rfl rfl rfl rfl rfl) ?_;refine AC.weak (t := ⟨55, 308, [(1, .d (.ref (machD m))), (2, .ptr 200 0), (4, .ptr 100 0)], [(100, some (.cells 50 [aI 0, .own 300 0, .d (vSigs m.sigs), .d (.val (.slice none 0 0)), aS ByteArray.empty])), (300, some (.arr 96 2 [])), (200, some zStg)]⟩) (zw [(100, 100), (300, 300), (200, 200)] hC) ?_;refine AC.weak (Weak.nilOwnP 4 3 (e := 63) (sz := 2) rfl rfl rfl rfl rfl) ?_;refine AC.weak (t := ⟨55, 408, [(1, .d (.ref (machD m))), (2, .ptr 200 0), (4, .ptr 100 0)], chL (nChsA ⟨0, [], []⟩ m.sigs 100 101 102) ++ [(200, some zStg)]⟩) (zw [(100, 100), (101, 300), (102, 308), (200, 200)] hC) ?_;have hP := l24Places_spec ⟨0, [], []⟩ m.sigs n0 ⟨Nat.zero_le _, Nat.zero_le _, Nat.zero_le _⟩ (by omega);have hs1 : frs ⟨0, [], []⟩ n0 = s0B m := by unfold frs s0B; rw [hn0]; simp
 rw [hs1, ← hn0] at hP;refine AC.region ?_;refine AL.p (by exact mv3 rfl) rfl ?_;refine zf ?_;refine zr ?_;refine kU [100, 101, 102] en_l24Places hP ?_;refine AL.nil (th_n (AC.seq (AC.seq (AC.region ?_))));refine zf ?_;refine zr ?_;refine kI m.burs.length (bursL_len _) ?_;refine zm ?_;refine AL.nil (th_n (AC.block ?_));refine AC.loop (ι := Nat) (fun k => ⟨55, 508, [(1, .d (.ref (machD m))), (2, .ptr 200 0), (4, .ptr 100 0), (23, .d (vBurs m.burs)), (24, aI m.burs.length), (25, aI k)], chL (nChsA (burK (s0B m) m.burs k) m.sigs 100 101 102) ++ [(200, some zStg)]⟩) (fun k => k ≤ m.burs.length) (fun k => m.burs.length - k) (0) ?_ (Nat.zero_le _) ?_
 ·exact zw [(100, 100), (101, 101), (102, 102), (200, 200)] hC
 intro k hk;refine AC.seq (AC.region ?_);refine zc ?_;refine AL.nil (th_n (AC.seq ?_));refine AC.condD rfl (fun h1 => ?_) (fun h1 => ?_)
 ·refine AC.skip (th_n (AC.seq (AC.block (AC.seq ?_))));have hk1 : k < m.burs.length := by omega
  have hget := bursL_get hk1;have hbk := BdO.burK hF (s0_ok hF) k hk;have hin := bur_in hF (List.getElem_mem hk1);have hsu := burK_succ (s := s0B m) hk1;have hbl := hF.bl;obtain ⟨sk, hsk⟩ := eqx (burK (s0B m) m.burs k);rw [← hsk] at hbk hsu ⊢;have hB := l24Burst_spec sk m.sigs m.burs[k] ⟨by have := hbk.p; omega, by have := hbk.t; omega, by have := hbk.t; have := hbk.l; omega⟩ (by omega) (by omega) hin.2.2.1 hin.2.2.2;refine AC.region ?_;refine AL.p (by exact g_ia_view rfl rfl rfl rfl rfl (by rfl) (by assumption)) rfl ?_;refine kG ?_;refine kE ?_;refine zs ?_;refine AL.nil (th_n (AC.region ?_));refine AL.p (by exact mv3 rfl) rfl ?_;refine AL.p (by exact g_load_ptrN rfl rfl rfl rfl rfl) rfl ?_;refine kU [100, 101, 102] en_l24Burst hB ?_;refine AL.nil (ib_n (th_n (AC.region ?_)));refine zA ?_;refine zm ?_;refine AL.nil (th_n ?_);exact ⟨k + 1, hk1, by omega, by dsimp only; rw [hsu]; exact zw [(100, _), (101, _), (102, _), (200, _)] hC⟩
 refine AC.exit (th_e (th_e (ib_y (th_n (AC.seq ?_)))));obtain rfl : k = m.burs.length := by omega
 obtain ⟨hok, hp1⟩ := mkBd_ok hF;have hL := stgOf_L hF hS;have hV := l2Good_spec (stgOf m) hL;have hso : stgOf m = ⟨⟨((mkBd m).p : Int), (mkBd m).ts⟩, m.sigs, (mkBd m).labs, 49 :: List.replicate ((mkBd m).p - 1) 48⟩ := rfl;rw [hso] at hV hR;have hbp := hok.p;have hBe : burK (s0B m) m.burs m.burs.length = mkBd m := rfl;rw [hBe];obtain ⟨B, hBB⟩ := eqx (mkBd m);rw [← hBB] at hV hR hbp hp1 ⊢;have hcu := cut_rep B.p hp1;have hbsz := bstr_size (List.replicate B.p (48 : UInt8));rw [List.length_replicate] at hbsz;clear hBe hso hL hok hBB;obtain ⟨q, hq⟩ := eqx (goodS ⟨⟨(B.p : Int), B.ts⟩, m.sigs, B.labs, 49 :: List.replicate (B.p - 1) 48⟩);rw [← hq] at hV hR;refine AC.region ?_;refine AL.p (by exact mv3 rfl) rfl ?_;refine AL.p (by exact mv3 rfl) rfl ?_;refine AL.p (by exact g_nilP rfl) rfl ?_;refine zF ?_;refine zF ?_;refine zl ?_;refine AL.p (by exact g_slice_str (l := 1) rfl rfl (.some rfl rfl) .none (by omega) (Nat.le_refl _) hcu) rfl ?_;refine AL.p (by exact g_saddB (a := [49]) (b := List.replicate (B.p - 1) 48) rfl rfl (by simp only [List.length_replicate, List.length_cons, List.length_nil]; omega)) rfl ?_;refine AL.p (by exact g_nilP rfl) rfl ?_;refine zF ?_;refine zF ?_;refine zs ?_;refine AL.nil (th_n (AC.seq (AC.seq (AC.region ?_))));refine AL.p (by exact mv3 rfl) rfl ?_;refine AL.p (by exact g_nilP rfl) rfl ?_;refine zF ?_;refine AL.p (by exact g_load_ptrN rfl rfl rfl rfl rfl) rfl ?_;refine AL.q (by exact h_borrow [101, 102] en_l2Good rfl rfl hV (.cons (.aggs (ds := stgD ⟨⟨(B.p : Int), B.ts⟩, m.sigs, B.labs, 49 :: List.replicate (B.p - 1) 48⟩) (.cons .d (.cons (.own rfl rfl (tnOwn_le _) (tnOwn_take _)) (.cons .d (.cons (.own rfl rfl (labOwn_le _) (labOwn_take _)) (.cons .d .nil)))))) .nil) rfl) rfl ?_;refine kC ?_;refine AL.nil (th_n ?_);refine AC.condB rfl (fun h2 => ?_) (fun h2 => ?_)
 ·refine AC.seq (AC.region ?_);refine AL.p (by exact g_build rfl rfl rfl) rfl ?_;refine zs ?_;refine za ?_;refine AL.nil (th_n (AC.ret (th_r (bq_r ?_))));have hqf := (Bool.not_eq_true' q).mp ‹(!q) = true›;rw [hqf, if_neg Bool.false_ne_true] at hR;rw [hR];exact ret0 rfl (by repeat (first | exact rfl | exact DLead.same | exact DLead.nil | refine ⟨_, _, rfl, ?_, ?_⟩ | refine ⟨_, rfl, ?_⟩))
 refine AC.skip (th_n (AC.seq ?_));have hqt := (Bool.not_eq_false' q).mp ‹(!q) = false›;rw [hqt, if_pos rfl] at hR;refine AC.weak (Weak.freezeP 4 1 rfl rfl rfl rfl (tnOwn_le _) (tnOwn_take _) rfl) ?_;refine AC.weak (Weak.freezeP 4 3 rfl rfl rfl rfl (labOwn_le _) (labOwn_take _) rfl) ?_;refine AC.weak (t := ⟨55, 800, [(2, .ptr 200 0), (4, .ptr 100 0)], [(100, some (.cells 50 [aI B.p, .d (vTs B.ts), .d (vSigs m.sigs), .d (vLabs B.labs), aS (bstr (49 :: List.replicate (B.p - 1) 48))])), (200, some zStg)]⟩) (zw [(100, 100), (200, 200)] hC) ?_;refine AC.region ?_;refine AL.p (by exact mv3 rfl) rfl ?_;refine AL.p (by exact g_nilP rfl) rfl ?_;refine zF ?_;refine AL.p (by exact g_load_ptrN rfl rfl rfl rfl rfl) rfl ?_;refine zs ?_;refine za ?_;refine AL.nil (th_n (AC.ret (bq_r ?_)));rw [hR];exact ret0 rfl (by repeat (first | exact rfl | exact DLead.same | refine ⟨_, _, rfl, ?_, ?_⟩ | refine ⟨_, rfl, ?_⟩))
theorem en_sMachSTG : Enters Tryz.prog 5 := enters_of Tryz.func5 rfl rfl
theorem goS_agree {L : Nat → Bool} : ∀ (os : List Oper) (rs rs' : List ORec) (k : Nat) (a : List (Nat × AV)), rs.length = rs'.length → (∀ i, i < os.length → L (k + i) = true → rs[i]? = rs'[i]?) → goS L k os rs a = goS L k os rs' a
 | [], rs, rs', k, a, _, _ => by cases rs <;> cases rs' <;> simp [goS]
 | o :: os, [], [], k, a, _, _ => rfl
 | o :: os, [], _ :: _, k, a, h, _ => by simp at h
 | o :: os, _ :: _, [], k, a, h, _ => by simp at h
 | o :: os, r :: rs, r' :: rs', k, a, hl, h => by
  simp only [goS];have ih := fun a => goS_agree os rs rs' (k + 1) a (by simpa using hl) (fun i hi hL => by have := h (i + 1) (by simpa using hi) (by rw [show k + (i + 1) = k + 1 + i by omega]; exact hL); simpa using this)
  cases hL : L k with
  | false => cases o.dst <;> exact ih _
  | true =>
   have e := h 0 (by simp) (by rwa [Nat.add_zero]);simp only [List.getElem?_cons_zero, Option.some.injEq] at e;subst e;cases o.dst <;> exact ih _
theorem goC_agree {L : Nat → Bool} : ∀ (os : List Oper) (rs rs' : List ORec) (k : Nat) (a : List (Nat × Option Chunk)), rs.length = rs'.length → (∀ i, i < os.length → L (k + i) = true → rs[i]? = rs'[i]?) → goC L k os rs a = goC L k os rs' a
 | [], rs, rs', k, a, _, _ => by cases rs <;> cases rs' <;> simp [goC]
 | o :: os, [], [], k, a, _, _ => rfl
 | o :: os, [], _ :: _, k, a, h, _ => by simp at h
 | o :: os, _ :: _, [], k, a, h, _ => by simp at h
 | o :: os, r :: rs, r' :: rs', k, a, hl, h => by
  simp only [goC];have ih := fun a => goC_agree os rs rs' (k + 1) a (by simpa using hl) (fun i hi hL => by have := h (i + 1) (by simpa using hi) (by rw [show k + (i + 1) = k + 1 + i by omega]; exact hL); simpa using this)
  cases hL : L k with
  | false => exact ih _
  | true =>
   have e := h 0 (by simp) (by rwa [Nat.add_zero]);simp only [List.getElem?_cons_zero, Option.some.injEq] at e;subst e;exact ih _
section
variable {P : Program} {C : Ctx} {Q : Exit → ASt → Prop} {s : ASt} {ops : List Oper} {anc : List (List Nat)}
def StepX (P : Program) (ops : List Oper) (anc : List (List Nat)) (s : ASt) (F : List ORec → Prop) (R : List ORec) (i : Nat) (o : Oper) (r : ORec) : Prop :=
 StepOk P ops (mkS s (fun k => memL k (ancAt anc i)) ops (R.take i)) o r.2 (s.nx + 8 * i) r.1 ∨
 (o.guard = none ∧ ∃ T : Upd → Prop, NOpR P r.2 (mkS s (fun k => memL k (ancAt anc i)) ops (R.take i)) o (s.nx + 8 * i) T ∧ ∀ u, T u → ∃ R', F R' ∧ R'[i]? = some (u, r.2) ∧ ∀ j, j ≠ i → i ∉ ancAt anc j → R'[j]? = R[j]?)
set_option maxHeartbeats 1000000 in
theorem dr_anyX {F : List ORec → Prop} (hanc : ancOk ops anc = true) (hF : ∀ R, F R → R.length = ops.length ∧ indepOk ops anc R = true ∧ Q .normal (mkS s (fun _ => true) ops R))
  (hstep : ∀ R, F R → ∀ i o r, ops[i]? = some o → R[i]? = some r → dstOk o.dst s.n = true ∧ StepX P ops anc s F R i o r) :
  ∀ (fuel : Nat) (listed : Array Bool) (recs : List ORec), F recs → ∀ (a : Act) (w : World) (m : Nat → Option (Option Nat × Nat)), listed.size = ops.length → cntF (fun i => listed.getD i false) ops.length = fuel → (∀ i o, ops[i]? = some o → listed.getD i false = true → ∀ d, d ∈ deps o → listed.getD d false = true) →
   RelM C (UL s ops.length (fun i => listed.getD i false)) (mkS s (fun i => listed.getD i false) ops recs) a w m → wpAny P .any ops.toArray (Qc C Q) fuel listed a w := by
 have hready : ∀ (listed : Array Bool), listed.size = ops.length → ∀ i, i ∈ Region.ready .any ops.toArray listed ↔ ∃ o, ops[i]? = some o ∧ listed.getD i false = false ∧ ∀ d, d ∈ deps o → listed.getD d false = true := by
  intro listed hsz i;rw [mem_ready];have hg : ∀ i, i < ops.length → listed.getD i true = listed.getD i false := fun i hi => by simp [Array.getD_eq_getD_getElem?, show i < listed.size by omega]
  constructor
  ·rintro ⟨h0, o, ho, hall⟩;have ho' : ops[i]? = some o := by simpa using ho
   refine ⟨o, ho', by rw [← hg i (List.getElem?_eq_some_iff.1 ho').1]; exact h0, fun d hd => ?_⟩;simp only [deps, List.mem_map, List.mem_filter] at hd;obtain ⟨e, ⟨he, hb⟩, rfl⟩ := hd;exact hall e (by simpa using he) hb
  rintro ⟨o, ho, h0, hall⟩;refine ⟨by rw [hg i (List.getElem?_eq_some_iff.1 ho).1]; exact h0, o, by simpa using ho, fun e he hb => hall e.on ?_⟩;simp only [deps, List.mem_map, List.mem_filter];exact ⟨e, ⟨by simpa using he, hb⟩, rfl⟩
 have hnone : ∀ (listed : Array Bool), listed.size = ops.length → Region.ready .any ops.toArray listed = [] → ∀ i, i < ops.length → listed.getD i false = true := by
  intro listed hsz hr i
  induction i using Nat.strongRecOn with
  | _ i ih =>
   intro hi;cases hL : listed.getD i false with
   | true => rfl
   | false =>
    have ho := List.getElem?_eq_getElem hi;have : i ∈ Region.ready .any ops.toArray listed := (hready listed hsz i).2 ⟨_, ho, hL, fun d hd => ih d (deps_lt hanc ho hd) (by have := deps_lt hanc ho hd; omega)⟩;rw [hr] at this; cases this
 have hend : ∀ (recs : List ORec), F recs → ∀ (listed : Array Bool) a w m, (∀ i, i < ops.length → listed.getD i false = true) → RelM C (UL s ops.length (fun i => listed.getD i false)) (mkS s (fun i => listed.getD i false) ops recs) a w m → Qc C Q .normal a w := by
  intro recs hFr listed a w m hall hR;obtain ⟨hlen, hind, hfin⟩ := hF recs hFr;refine ⟨mkS s (fun _ => true) ops recs, ⟨m, hR.weaken (s' := mkS s (fun _ => true) ops recs) rfl (fun t => .inr ?_) (fun id c hc => ?_) (fun j hj => .inl hj)⟩, hfin⟩
  ·show (getL t (goS _ 0 ops recs s.sl)).getD .dead = (getL t (goS _ 0 ops recs s.sl)).getD .dead;rw [goS_same (L := fun _ => true) (L' := fun i => listed.getD i false) ops recs 0 s.sl s.sl (fun i o hi _ => by simp only [Nat.zero_add]; exact (hall i (List.getElem?_eq_some_iff.1 hi).1).symm) rfl]
  have : (mkS s (fun _ => true) ops recs).chunk id = (mkS s (fun i => listed.getD i false) ops recs).chunk id := by
   show (getL id (goC _ 0 ops recs s.ch)).getD none = (getL id (goC _ 0 ops recs s.ch)).getD none;rw [goC_same (L := fun _ => true) (L' := fun i => listed.getD i false) ops recs 0 s.ch s.ch (fun i r hi _ => by simp only [Nat.zero_add]; exact (hall i (by have := (List.getElem?_eq_some_iff.1 hi).1; omega)).symm) rfl]
  rw [← this]; exact hc
 intro fuel
 induction fuel with
 | zero =>
  intro listed recs hFr a w m hsz hcnt hcl hR;have hall : ∀ i, i < ops.length → listed.getD i false = true := fun i hi => cntF_zero hcnt i hi
  refine ⟨?_, hend recs hFr listed a w m hall hR⟩;cases hr : Region.ready .any ops.toArray listed with
  | nil => rfl
  | cons i l =>
   obtain ⟨o, ho, h0, _⟩ := (hready listed hsz i).1 (by rw [hr]; simp);rw [hall i (List.getElem?_eq_some_iff.1 ho).1] at h0; cases h0
 | succ fuel ih =>
  intro listed recs hFr a w m hsz hcnt hcl hR;obtain ⟨hlen, hind, hfin⟩ := hF recs hFr;refine ⟨fun hr => hend recs hFr listed a w m (hnone listed hsz hr) hR, fun i hi => ?_⟩;obtain ⟨o, ho, h0, hd⟩ := (hready listed hsz i).1 hi;have hil := (List.getElem?_eq_some_iff.1 ho).1;obtain ⟨r, hr⟩ : ∃ r, recs[i]? = some r := ⟨_, List.getElem?_eq_getElem (by omega)⟩;obtain ⟨hdst, hst⟩ := hstep recs hFr i o r ho hr;have hanci : ∀ j, j ∈ ancAt anc i → listed.getD j false = true := anc_in (L := fun i => listed.getD i false) hanc hcl (i + 1) i o (by omega) ho hd
  have hdesc : ∀ j, j < ops.length → i ∈ ancAt anc j → listed.getD j false = false := by
   intro j hj hij;cases hL : listed.getD j false with
   | false => rfl
   | true =>
    have hoj := List.getElem?_eq_getElem hj;have := anc_in (L := fun i => listed.getD i false) hanc hcl (j + 1) j _ (by omega) hoj (hcl j _ hoj hL) i hij;rw [h0] at this; cases this
  have hL' : ∀ j, (listed.setIfInBounds i true).getD j false = (listed.getD j false || j == i) := by
   intro j
   by_cases hj : j = i
   ·subst hj; simp [Array.getD_eq_getD_getElem?, show j < listed.size by omega]
   simp [Array.getD_eq_getD_getElem?, Array.getElem?_setIfInBounds_ne (Ne.symm hj), hj]
  have hlt : ∀ k, memL k (ancAt anc i) = true → k < i := fun k hk => anc_lt hanc hil (memL_iff.1 hk)
  have hsame : ∀ k, k < ops.length → (k ∉ ancAt anc i → i ∉ ancAt anc k → k ≠ i → False) → listed.getD k false = memL k (ancAt anc i) := by
   intro k hkl hex
   by_cases hka : k ∈ ancAt anc i
   ·rw [hanci k hka]; exact (memL_iff.2 hka).symm
   have e1 : memL k (ancAt anc i) = false := memL_not.2 hka;rw [e1]
   by_cases hki : k = i
   ·subst hki; exact h0
   by_cases hik : i ∈ ancAt anc k
   ·exact hdesc k hkl hik
   exact (hex hka hik hki).elim
  have hagr : AgrT ops r.2 o (mkS s (fun k => memL k (ancAt anc i)) ops (recs.take i)) (mkS s (fun i => listed.getD i false) ops recs) := by
   refine ⟨rfl, fun t ht => ?_, fun id hid => ?_⟩
   ·show (getL t (goS _ 0 ops recs s.sl)).getD .dead = (getL t (goS _ 0 ops (recs.take i) s.sl)).getD .dead;have := goS_cut hlt ops recs 0 s.sl;rw [Nat.sub_zero] at this;rw [this, goS_same (L := fun i => listed.getD i false) (L' := fun k => memL k (ancAt anc i)) ops recs 0 s.sl s.sl (fun k ok hk hdk => ?_) rfl];simp only [Nat.zero_add];have hkl := (List.getElem?_eq_some_iff.1 hk).1;refine hsame k hkl (fun hka hik hki => ?_);obtain ⟨rk, hrk⟩ : ∃ rk, recs[k]? = some rk := ⟨_, List.getElem?_eq_getElem (by omega)⟩;exact absurd ht ((indep_of hind ho hk hr hrk (Ne.symm hki) hka hik).1 t hdk).1
   show (getL id (goC _ 0 ops recs s.ch)).getD none = (getL id (goC _ 0 ops (recs.take i) s.ch)).getD none;have := goC_cut hlt ops recs 0 s.ch;rw [Nat.sub_zero] at this;rw [this, goC_same (L := fun i => listed.getD i false) (L' := fun k => memL k (ancAt anc i)) ops recs 0 s.ch s.ch (fun k rk hrk hdk => ?_) rfl];simp only [Nat.zero_add];have hkl : k < ops.length := by have := (List.getElem?_eq_some_iff.1 hrk).1; omega
   refine hsame k hkl (fun hka hik hki => ?_);exact absurd hid ((indep_of hind ho (List.getElem?_eq_getElem hkl) hr hrk (Ne.symm hki) hka hik).2 id (keysU_of hdk)).1
  have hnext0 : ∀ recs, F recs → ∀ r, recs[i]? = some r → ∀ a' w' m', RelM C (UL s ops.length (fun j => (listed.setIfInBounds i true).getD j false)) ((mkS s (fun i => listed.getD i false) ops recs).app o.dst r.1) a' w' m' → wpAny P .any ops.toArray (Qc C Q) fuel (listed.setIfInBounds i true) a' w' := by
   intro recs hFr r hr a' w' m' hR';obtain ⟨hlen, hind, hfin⟩ := hF recs hFr;refine ih (listed.setIfInBounds i true) recs hFr a' w' m' (by simpa using hsz) ?_ ?_ ?_
   ·have := (cntF_set (L := fun i => listed.getD i false) (L' := fun j => (listed.setIfInBounds i true).getD j false) (i := i) h0 (by simp only [hL']; simp) (fun j hj => by simp only [hL']; simp [hj]) ops.length).1 hil;omega
   ·intro k ok hk hLk d hdd;rw [hL'] at hLk ⊢;simp only [Bool.or_eq_true, beq_iff_eq] at hLk ⊢;rcases hLk with h | h
    ·exact .inl (hcl k ok hk h d hdd)
    subst h;rw [ho] at hk;obtain rfl : o = ok := by simpa using hk
    exact .inl (hd d hdd)
   have e1 : (fun j => (listed.setIfInBounds i true).getD j false) = (fun j => (fun k => listed.getD k false) j || j == i) := funext hL';refine hR'.weaken (by rw [ASt.n_app]; rfl) (fun t => .inr ?_) (fun id c hc => ?_) (fun j hj => hj)
   ·rw [ASt.get_app];show (getL t (goS (fun j => (listed.setIfInBounds i true).getD j false) 0 ops recs s.sl)).getD .dead = _;rw [e1, goS_more (L := fun k => listed.getD k false) (i := i) (r0 := r) ops recs 0 s.sl o (Nat.zero_le _) (by simpa using ho) (by simpa using hr) (fun j oj hj hij hLj hdj hdi => ?_)]
    ·by_cases hdt : o.dst = some t
     ·rw [if_pos hdt, if_pos hdt]; rfl
     rw [if_neg hdt, if_neg hdt]; rfl
    rw [Nat.zero_add] at hij hLj;have hjl := (List.getElem?_eq_some_iff.1 hj).1;obtain ⟨rj, hrj⟩ : ∃ rj, recs[j]? = some rj := ⟨_, List.getElem?_eq_getElem (by omega)⟩
    by_cases hja : j ∈ ancAt anc i
    ·have := anc_lt hanc hil hja; omega
    by_cases hij2 : i ∈ ancAt anc j
    ·rw [hdesc j hjl hij2] at hLj; cases hLj
    exact ((indep_of hind ho hj hr hrj (by omega) hja hij2).1 t hdj).2 hdi
   rw [ASt.chunk_app];have hc2 : (getL id (goC (fun j => (listed.setIfInBounds i true).getD j false) 0 ops recs s.ch)).getD none = some c := hc;rw [e1, goC_more (t := id) (L := fun k => listed.getD k false) (i := i) (r0 := r) ops recs 0 s.ch hlen.symm (Nat.zero_le _) (by simpa using hr) (fun j rj hrj hij hLj hdj => ?_)] at hc2
   ·cases hg : getL id r.1.ch with
    | some x => rw [hg] at hc2; simpa using hc2
    | none => rw [hg] at hc2; rw [Option.none_or] at hc2; exact hc2
   rw [Nat.zero_add] at hij hLj;have hjl : j < ops.length := by have := (List.getElem?_eq_some_iff.1 hrj).1; omega
   by_cases hja : j ∈ ancAt anc i
   ·have := anc_lt hanc hil hja; omega
   by_cases hij2 : i ∈ ancAt anc j
   ·rw [hdesc j hjl hij2] at hLj; cases hLj
   exact keysU_none ((indep_of hind ho (List.getElem?_eq_getElem hjl) hr hrj (by omega) hja hij2).2 id (keysU_of hdj)).2
  have hnext := hnext0 recs hFr r hr;have hU1 : ∀ k, k < 8 → UL s ops.length (fun i => listed.getD i false) (s.nx + 8 * i + k) := fun k hk => .inr ⟨i, hil, h0, by omega, by omega⟩
  have hU2 : ∀ j, UL s ops.length (fun j => (listed.setIfInBounds i true).getD j false) j → UL s ops.length (fun i => listed.getD i false) j ∧ (j < s.nx + 8 * i ∨ s.nx + 8 * i + 8 ≤ j) := by
   rintro j (hj | ⟨k, hk, hLk, h1, h2⟩)
   ·exact ⟨.inl hj, .inr (by omega)⟩
   have hLk' : (listed.getD k false || k == i) = false := by rw [← hL']; exact hLk
   simp only [Bool.or_eq_false_iff, beq_eq_false_iff_ne] at hLk';exact ⟨.inr ⟨k, hk, hLk'.1, h1, h2⟩, by omega⟩
  have hoa : ops.toArray[i]? = some o := by simpa using ho
  have hrun : NOp P r.2 (mkS s (fun k => memL k (ancAt anc i)) ops (recs.take i)) o (s.nx + 8 * i) r.1 → o.wp P a w (wpAny P .any ops.toArray (Qc C Q) fuel (listed.setIfInBounds i true)) (Qc C Q) := fun hn =>
   hn.run _ hagr.agr C _ _ a w m hR hU1 hU2 hdst _ _ hnext
  have hyield : ∀ j t b, ((ops[j]?).bind (·.dst)) = some t → Nat.blt t s.n = true → (mkS s (fun i => listed.getD i false) ops recs).get t = aT b → yielded ops.toArray a.tmps j = some b := by
   intro j t b h1 h2 h3;have := hR.sl t;rw [h3] at this;have hv := this.val_eq.1;have hlt : t < a.tmps.size := by rw [hR.sz]; simpa [mkS] using h2
   have h4 : a.tmps[t]? = some (.bool b) := by
    rw [Array.getElem?_eq_getElem hlt];rw [Array.getD_eq_getD_getElem?, Array.getElem?_eq_getElem hlt] at hv;simpa using hv
   simp [yielded, h1, h4]
  have hskip : r.1 = ⟨.und, []⟩ → wpAny P .any ops.toArray (Qc C Q) fuel (listed.setIfInBounds i true) (a.put o.dst undef) w := by
   intro hu;refine hnext _ _ m ?_;rw [hu];exact (hR.setSlot (x := .und) (v := undef) hdst .und).weaken rfl (fun _ => .inr rfl) (fun _ _ h => h) (fun j hj => (hU2 j hj).1)
  have hlook : ∀ j w t, o.guard = some (j, w) → ((ops[j]?).bind (·.dst)) = some t → t ∈ looksT ops o := by
   intro j w t h1 h2;refine List.mem_append_right _ ?_;rw [h1]; simp [h2]
  unfold wpOp;rw [hoa];simp only;rcases hst with hst | ⟨hg, T, hn, hT⟩
  rotate_left
  ·rw [if_pos (by simp [Region.wanted, hg])];refine .inl (hn.run _ hagr.agr C _ _ a w m hR hU1 hU2 hdst _ _ (fun u hu a' w' m' hR' => ?_));obtain ⟨R', hFR, hRi, hag⟩ := hT u hu
   have he : mkS s (fun i => listed.getD i false) ops recs = mkS s (fun i => listed.getD i false) ops R' := by
    have hlR := (hF R' hFR).1;have key : ∀ j, j < ops.length → listed.getD j false = true → recs[j]? = R'[j]? := fun j hj hL => (hag j (fun e => by rw [e, h0] at hL; cases hL) (fun hij => by rw [hdesc j hj hij] at hL; cases hL)).symm
    unfold mkS;rw [goS_agree ops recs R' 0 s.sl (by omega) (fun j hj hL => key j hj (by rwa [Nat.zero_add] at hL)), goC_agree ops recs R' 0 s.ch (by omega) (fun j hj hL => key j hj (by rwa [Nat.zero_add] at hL))]
   rw [he] at hR';exact hnext0 R' hFR _ hRi a' w' m' hR'
  cases hst with
  | free hg hn => rw [if_pos (by simp [Region.wanted, hg])]; exact .inl (hrun hn)
  | @yes j t b hg ht htn hs hn =>
   rw [if_pos (by simp [Region.wanted, hg, hyield j t b ht htn ((hagr.get t (hlook j b t hg ht)).trans hs)])];exact .inl (hrun hn)
  | @no j t b b' hg ht htn hs hb hu =>
   rw [if_neg (by simp [Region.wanted, hg, hyield j t b' ht htn ((hagr.get t (hlook j b t hg ht)).trans hs), hb])];exact hskip hu
  | @noU j t b hg ht hs hu =>
   have hux := hR.sl t;rw [(hagr.get t (hlook j b t hg ht)).trans hs] at hux
   have hy : yielded ops.toArray a.tmps j = none := by
    generalize hv : a.tmps.getD t undef = v at hux;cases hux;have ht' : ((ops.toArray[j]?).bind (·.dst)) = some t := by simpa using ht
    unfold yielded;rw [ht'];rw [Array.getD_eq_getD_getElem?] at hv;simp only [Option.bind_some];cases hq : a.tmps[t]? with
    | none => rfl
    | some v => rw [hq] at hv; simp only [Option.getD_some] at hv; subst hv; rfl
   rw [if_neg (by simp [Region.wanted, hg, hy])];exact hskip hu
inductive DX (P : Program) (ops : List Oper) (anc : List (List Nat)) (s : ASt) (Q : Exit → ASt → Prop) : List FRec → (List ORec → Prop) → Prop
 | fin {l : List FRec} {ps : List (Nat × Nat)} : Nat.beq l.length ops.length = true → coverOk ops.length anc ps = true → slotOk ops ps = true → idsF l ps = true → Q .normal (mkAll s ops.length l) → DX P ops anc s Q l (fun R => R = fwd l)
 | op {l : List FRec} {o : Oper} {ids : List Nat} {u : Upd} {F : List ORec → Prop} : ops[l.length]? = some o → StepOk P ops (mkF s ops.length (ancAt anc l.length) l) o ids (s.nx + 8 * l.length) u → dstOk o.dst s.n = true → DX P ops anc s Q ((l.length, o.dst, u, ids) :: l) F → DX P ops anc s Q l F
 | opX {l : List FRec} {o : Oper} {ids : List Nat} {ι : Type} {us : ι → Upd} {F : ι → List ORec → Prop} (x₀ : ι) : ops[l.length]? = some o → o.guard = none → NOpR P ids (mkF s ops.length (ancAt anc l.length) l) o (s.nx + 8 * l.length) (fun u => ∃ x, u = us x) → dstOk o.dst s.n = true → (∀ x, DX P ops anc s Q ((l.length, o.dst, us x, ids) :: l) (F x)) →
   (∀ x y R R', F x R → F y R' → ∀ j, l.length < j → l.length ∉ ancAt anc j → R'[j]? = R[j]?) → DX P ops anc s Q l (fun R => ∃ x, F x R)
theorem DX.ex {l : List FRec} {F : List ORec → Prop} (h : DX P ops anc s Q l F) : ∃ R, F R := by
 induction h with
 | fin => exact ⟨_, rfl⟩
 | op _ _ _ _ ih => exact ih
 | opX x₀ _ _ _ _ _ _ ih => obtain ⟨R, hR⟩ := ih x₀; exact ⟨R, x₀, hR⟩
theorem FOk.pre {ops : List Oper} {i : Nat} {d : Option Nat} {u : Upd} {ids : List Nat} {l : List FRec} : fwd l <+: fwd ((i, d, u, ids) :: l) := by rw [fwd_cons]; exact List.prefix_append _ _
theorem DX.facts {l : List FRec} {F : List ORec → Prop} (h : DX P ops anc s Q l F) : FOk ops l → ∀ R, F R → fwd l <+: R ∧ (R.length = ops.length ∧ indepOk ops anc R = true ∧ Q .normal (mkS s (fun _ => true) ops R)) ∧ ∀ i o r, l.length ≤ i → ops[i]? = some o → R[i]? = some r → dstOk o.dst s.n = true ∧ StepX P ops anc s F R i o r := by
 induction h with
 | @fin l ps h1 h2 h3 h4 h5 =>
  rintro hf R rfl;have hlen : l.length = ops.length := by simpa using h1
  refine ⟨List.prefix_rfl, ⟨by rw [fwd_len, hlen], indep_parts h2 h3 (idsF_ok hf hlen h3 h4), ?_⟩, fun i o r hi ho => by have := (List.getElem?_eq_some_iff.1 ho).1; omega⟩;have : mkS s (fun _ => true) ops (fwd l) = mkAll s ops.length l := by simp [mkS, mkAll, goS_A hf, goC_A hf]
  rw [this]; exact h5
 | @op l o ids u F h1 h2 h3 _ ih =>
  intro hf R hR;obtain ⟨g1, g2, g3⟩ := ih ⟨rfl, ⟨o, h1, rfl⟩, hf⟩ R hR;have hpre : fwd l <+: R := (FOk.pre (ops := ops)).trans g1;refine ⟨hpre, g2, fun i o' r hi ho hr => ?_⟩
  by_cases hi2 : l.length + 1 ≤ i
  ·exact g3 i o' r (by simpa using hi2) ho hr
  have : i = l.length := by omega
  subst this;rw [h1] at ho;obtain rfl : o = o' := by simpa using ho
  have hr2 : R[l.length]? = some (u, ids) := by
   obtain ⟨tl, rfl⟩ := g1;rw [fwd_cons, List.append_assoc, List.getElem?_append_right (by rw [fwd_len]; exact Nat.le_refl _), fwd_len]; simp
  rw [hr2] at hr;obtain rfl : (u, ids) = r := by simpa using hr
  refine ⟨h3, .inl ?_⟩
  have : R.take l.length = fwd l := by
   obtain ⟨tl, rfl⟩ := hpre;rw [List.take_append_of_le_length (by rw [fwd_len]; exact Nat.le_refl _), List.take_of_length_le (by rw [fwd_len]; exact Nat.le_refl _)]
  rw [this, show mkS s (fun k => memL k (ancAt anc l.length)) ops (fwd l) = mkF s ops.length (ancAt anc l.length) l by simp [mkS, mkF, goS_F _ hf, goC_F _ hf]];exact h2
 | @opX l o ids ι us F x₀ h1 h2 h3 h4 h5 h6 ih =>
  rintro hf R ⟨x, hR⟩;obtain ⟨g1, g2, g3⟩ := ih x ⟨rfl, ⟨o, h1, rfl⟩, hf⟩ R hR;have hpre : fwd l <+: R := (FOk.pre (ops := ops)).trans g1;refine ⟨hpre, g2, fun i o' r hi ho hr => ?_⟩
  by_cases hi2 : l.length + 1 ≤ i
  ·obtain ⟨q1, q2⟩ := g3 i o' r (by simpa using hi2) ho hr;refine ⟨q1, ?_⟩;rcases q2 with q2 | ⟨q3, T, q4, q5⟩
   ·exact .inl q2
   exact .inr ⟨q3, T, q4, fun u hu => by obtain ⟨R', k1, k2⟩ := q5 u hu; exact ⟨R', ⟨x, k1⟩, k2⟩⟩
  have : i = l.length := by omega
  subst this;rw [h1] at ho;obtain rfl : o = o' := by simpa using ho
  have hat : ∀ y R', F y R' → R'[l.length]? = some (us y, ids) := by
   intro y R' hy;obtain ⟨q1, _⟩ := ih y ⟨rfl, ⟨o, h1, rfl⟩, hf⟩ R' hy;obtain ⟨tl, rfl⟩ := q1;rw [fwd_cons, List.append_assoc, List.getElem?_append_right (by rw [fwd_len]; exact Nat.le_refl _), fwd_len]; simp
  rw [hat x R hR] at hr;obtain rfl : (us x, ids) = r := by simpa using hr
  refine ⟨h4, .inr ⟨h2, (fun u => ∃ y, u = us y), ?_, ?_⟩⟩
  ·have : R.take l.length = fwd l := by
    obtain ⟨tl, rfl⟩ := hpre;rw [List.take_append_of_le_length (by rw [fwd_len]; exact Nat.le_refl _), List.take_of_length_le (by rw [fwd_len]; exact Nat.le_refl _)]
   rw [this, show mkS s (fun k => memL k (ancAt anc l.length)) ops (fwd l) = mkF s ops.length (ancAt anc l.length) l by simp [mkS, mkF, goS_F _ hf, goC_F _ hf]];exact h3
  rintro _ ⟨y, rfl⟩;obtain ⟨R', hR'⟩ := (h5 y).ex;refine ⟨R', ⟨y, hR'⟩, hat y R' hR', fun j hj hnj => ?_⟩;rcases Nat.lt_trichotomy j l.length with hlt | heq | hgt
  ·have p1 := (ih y ⟨rfl, ⟨o, h1, rfl⟩, hf⟩ R' hR').1;have p2 : fwd l <+: R' := (FOk.pre (ops := ops)).trans p1;obtain ⟨t1, rfl⟩ := hpre;obtain ⟨t2, rfl⟩ := p2;rw [List.getElem?_append_left (by rw [fwd_len]; exact hlt), List.getElem?_append_left (by rw [fwd_len]; exact hlt)]
  ·exact absurd heq hj
  exact h6 x y R R' hR hR' j hgt hnj
theorem AC.drawnX {id : Nat} (hm : P.follows .mixedOrders = true) (anc : List (List Nat)) (hanc : ancOk ops anc = true) {F : List ORec → Prop} (h : DX P ops anc s Q [] F) : ACode P C (.region id ops.toArray true) Q s := by
 refine ⟨fun a w hR => ?_⟩;obtain ⟨m, hR⟩ := hR;obtain ⟨full, hfull⟩ := h.ex;have hfacts := h.facts trivial;refine wp_region_any hm ?_
 have hrep : ∀ i, (Array.replicate ops.toArray.size false).getD i false = false := fun i => by
  simp only [Array.getD_eq_getD_getElem?, Array.getElem?_replicate]
  split <;> rfl
 have e1 : (fun i => (Array.replicate ops.toArray.size false).getD i false) = (fun _ => false) := funext hrep;refine dr_anyX (F := F) (anc := anc) hanc (fun R hR => (hfacts R hR).2.1) (fun R hR i o r ho hr => (hfacts R hR).2.2 i o r (Nat.zero_le _) ho hr) ops.toArray.size _ full hfull a _ m (by simp) (by rw [e1, cntF_full _ (fun _ => rfl)]; simp) (fun i o _ h => by rw [hrep] at h; cases h) ?_;rw [e1]
 have hS : ∀ (os : List Oper) (rs : List ORec) (k : Nat) (x : List (Nat × AV)), goS (fun _ => false) k os rs x = x := by
  intro os
  induction os with
  | nil => intro rs k x; simp [goS]
  | cons o os ih => intro rs k x; cases rs <;> simp [goS, ih]
 have hC : ∀ (os : List Oper) (rs : List ORec) (k : Nat) (x : List (Nat × Option Chunk)), goC (fun _ => false) k os rs x = x := by
  intro os
  induction os with
  | nil => intro rs k x; simp [goC]
  | cons o os ih => intro rs k x; cases rs <;> simp [goC, ih]
 have := hR.drewN 1;refine RelM.weaken (s := s) (U := fun id => s.nx ≤ id) (w := { w with drawn := w.drawn + 1 }) this rfl (fun t => .inr ?_) (fun id c hc => ?_) (fun j hj => ?_)
 ·show (getL t (goS _ 0 ops full s.sl)).getD .dead = _;rw [hS]; rfl
 ·have h2 : (getL id (goC (fun _ => false) 0 ops full s.ch)).getD none = some c := hc;rw [hC] at h2; exact h2
 rcases hj with h | ⟨i, _, _, h1, _⟩
 ·show s.nx ≤ j; omega
 show s.nx ≤ j; omega
structure DG (P : Program) (ops : List Oper) (anc : List (List Nat)) (s : ASt) (Q : Exit → ASt → Prop) (rest : List Oper) (l : List FRec) (F : List ORec → Prop) : Prop where
 dx : ops.drop l.length = rest → DX P ops anc s Q l F
theorem drop_hd {rest : List Oper} {o : Oper} {k : Nat} (hr : ops.drop k = o :: rest) : ops[k]? = some o ∧ ops.drop (k + 1) = rest := by
 constructor
 ·have := congrArg (fun x => x[0]?) hr;simpa using this
 have := congrArg List.tail hr;simpa using this
theorem DG.fin {l : List FRec} {ps : List (Nat × Nat)} (n : Nat) (hn : Nat.beq ops.length n = true) (hl : Nat.beq l.length n = true) (h1 : coverOk n anc ps = true) (h2 : slotOk ops ps = true) (h3 : idsF l ps = true) (h : Q .normal (mkAll s n l)) : DG P ops anc s Q [] l (fun R => R = fwd l) := by
 refine ⟨fun _ => ?_⟩;have hn : ops.length = n := by simpa using hn
 subst hn;exact .fin hl h1 h2 h3 h
theorem DG.op {l : List FRec} {rest : List Oper} {o : Oper} {F : List ORec → Prop} (i : Nat) (row : List Nat) {ids : List Nat} {u : Upd} (n : Nat) (hi : Nat.beq l.length i = true) (hn : Nat.beq ops.length n = true) (hrow : ancAt anc i = row) (hst : StepOk P ops (mkF s n row l) o ids (s.nx + 8 * i) u) (hd : dstOk o.dst s.n = true) (h : DG P ops anc s Q rest ((i, o.dst, u, ids) :: l) F) : DG P ops anc s Q (o :: rest) l F := by
 refine ⟨fun hr => ?_⟩;have hi : l.length = i := by simpa using hi
 have hn : ops.length = n := by simpa using hn
 subst hi; subst hn; subst hrow;obtain ⟨h1, h2⟩ := drop_hd hr;exact .op h1 hst hd (h.dx h2)
theorem DG.opX {l : List FRec} {rest : List Oper} {o : Oper} {ι : Type} {us : ι → Upd} {F : ι → List ORec → Prop} (i : Nat) (row : List Nat) {ids : List Nat} (n : Nat) (x₀ : ι) (hi : Nat.beq l.length i = true) (hn : Nat.beq ops.length n = true) (hrow : ancAt anc i = row) (hg : o.guard = none) (hst : NOpR P ids (mkF s n row l) o (s.nx + 8 * i) (fun u => ∃ x, u = us x)) (hd : dstOk o.dst s.n = true)
  (h : ∀ x, DG P ops anc s Q rest ((i, o.dst, us x, ids) :: l) (F x)) (hs : ∀ x y R R', F x R → F y R' → ∀ j, i < j → i ∉ ancAt anc j → R'[j]? = R[j]?) : DG P ops anc s Q (o :: rest) l (fun R => ∃ x, F x R) := by
 refine ⟨fun hr => ?_⟩;have hi : l.length = i := by simpa using hi
 have hn : ops.length = n := by simpa using hn
 subst hi; subst hn; subst hrow;obtain ⟨h1, h2⟩ := drop_hd hr;exact .opX x₀ h1 hg hst hd (fun x => (h x).dx h2) hs
theorem DG.caseD {l : List FRec} {rest : List Oper} {F : List ORec → Prop} (j : Nat) {p : Prop} [Decidable p] (h : getF j l = some (aT (decide p))) (hp : p) (hT : DG P ops anc s Q rest (setF j (aT true) l) F) : DG P ops anc s Q rest l F := by
 rwa [setF_same (by rw [h]; simp [hp])] at hT
theorem AC.drawnG {id : Nat} (hm : P.follows .mixedOrders = true) (anc : List (List Nat)) (hanc : ancOk ops anc = true) {F : List ORec → Prop} (h : DG P ops anc s Q ops [] F) : ACode P C (.region id ops.toArray true) Q s := AC.drawnX hm anc hanc (h.dx rfl)
def behindAll (anc : List (List Nat)) (i n : Nat) : Bool := (List.range n).all fun j => Nat.ble j i || memL i (ancAt anc j)
theorem behind_same {ι : Type} {F : ι → List ORec → Prop} {n i : Nat} (hlen : ∀ x R, F x R → R.length = n) (h : behindAll anc i n = true) : ∀ x y R R', F x R → F y R' → ∀ j, i < j → i ∉ ancAt anc j → R'[j]? = R[j]? := by
 intro x y R R' h1 h2 j hj hnj;rcases Nat.lt_or_ge j n with hlt | hge
 ·simp only [behindAll, List.all_eq_true, List.mem_range, Bool.or_eq_true] at h;rcases h j hlt with g | g
  ·have : j ≤ i := by simpa using g
   omega
  exact absurd (memL_iff.1 g) hnj
 rw [List.getElem?_eq_none (by rw [hlen y R' h2]; exact hge), List.getElem?_eq_none (by rw [hlen x R h1]; exact hge)]
end
section
variable {P : Program} [PT P] {C : Ctx} {Q : Exit → ASt → Prop} {s : ASt} {ops : List Oper} {anc : List (List Nat)}
def DE (P : Program) (ops : List Oper) (anc : List (List Nat)) (s : ASt) (Q : Exit → ASt → Prop) (rest : List Oper) (l : List FRec) : Prop := ∃ F : List ORec → Prop, DG P ops anc s Q rest l F ∧ ∀ R, F R → R.length = ops.length
theorem DE.fin {l : List FRec} {ps : List (Nat × Nat)} (n : Nat) (hn : Nat.beq ops.length n = true) (hl : Nat.beq l.length n = true) (h1 : coverOk n anc ps = true) (h2 : slotOk ops ps = true) (h3 : idsF l ps = true) (h : Q .normal (mkAll s n l)) : DE P ops anc s Q [] l :=
 ⟨_, DG.fin n hn hl h1 h2 h3 h, fun R e => by
  subst e;rw [fwd_len];have h1 : ops.length = n := by simpa using hn
  have h2 : l.length = n := by simpa using hl
  omega⟩
theorem DE.op {l : List FRec} {rest : List Oper} {o : Oper} (i : Nat) (row : List Nat) {ids : List Nat} {u : Upd} (n : Nat) (hi : Nat.beq l.length i = true) (hn : Nat.beq ops.length n = true) (hrow : ancAt anc i = row) (hst : StepOk P ops (mkF s n row l) o ids (s.nx + 8 * i) u) (hd : dstOk o.dst s.n = true) (h : DE P ops anc s Q rest ((i, o.dst, u, ids) :: l)) : DE P ops anc s Q (o :: rest) l := by
 obtain ⟨F, h1, h2⟩ := h;exact ⟨F, DG.op i row n hi hn hrow hst hd h1, h2⟩
theorem DE.opX {l : List FRec} {rest : List Oper} {o : Oper} {ι : Type} {us : ι → Upd} (i : Nat) (row : List Nat) {ids : List Nat} (n : Nat) (x₀ : ι) (hi : Nat.beq l.length i = true) (hn : Nat.beq ops.length n = true) (hrow : ancAt anc i = row) (hg : o.guard = none) (hst : NOpR P ids (mkF s n row l) o (s.nx + 8 * i) (fun u => ∃ x, u = us x)) (hd : dstOk o.dst s.n = true) (hb : behindAll anc i n = true)
  (h : ∀ x, DE P ops anc s Q rest ((i, o.dst, us x, ids) :: l)) : DE P ops anc s Q (o :: rest) l := by
 have hn' : ops.length = n := by simpa using hn
 refine ⟨fun R => ∃ x, Classical.choose (h x) R, DG.opX i row n x₀ hi hn hrow hg hst hd (fun x => (Classical.choose_spec (h x)).1) (behind_same (fun x R hR => by rw [← hn']; exact (Classical.choose_spec (h x)).2 R hR) hb), fun R ⟨x, hR⟩ => (Classical.choose_spec (h x)).2 R hR⟩
theorem AC.drawnE {id : Nat} (hm : P.follows .mixedOrders = true) (anc : List (List Nat)) (hanc : ancOk ops anc = true) (h : DE P ops anc s Q ops []) : ACode P C (.region id ops.toArray true) Q s := by
 obtain ⟨F, h1, _⟩ := h;exact AC.drawnG hm anc hanc h1
end
theorem RelM.raw {U U' : Nat → Prop} {s : ASt} {a : Act} {w : World} {m : Nat → Option (Option Nat × Nat)} {C : Ctx} (hR : RelM C U s a w m) (j g : Nat) {id n e sz : Nat} {els els' : List (List DV)} (hs : s.get j = .own id n) (hc : s.chunk id = some (.arr e sz els)) (hn : n ≤ els.length) (he : els.take n = els') (hfl : ∀ cs, cs ∈ els → ∀ d, d ∈ cs → d.flat) (hg : U g) (hU' : ∀ i, U' i → U i ∧ i ≠ g) :
  ∃ v S m', RelM C U' { s with sl := (j, .d (.val v)) :: s.sl, ch := (g, some (.pred S fun w => TRep w S (.view e sz els') v)) :: (id, none) :: s.ch } a w m' := by
 subst he;have hv := hR.sl j;rw [hs] at hv;obtain ⟨p, hp, hC, hloc⟩ := hR.ch id _ hc
 have key : ∃ S, (∀ b, S b → occ p (.arr e sz els) b) ∧ TRep w S (.view e sz (els.take n)) (a.tmps.getD j undef) ∧ okV (a.tmps.getD j undef) := by
  generalize a.tmps.getD j undef = v at hv;cases hv with
  | own hq h0 =>
   rename_i cap b;rw [hp] at hq;obtain rfl : p = (b, cap) := by simpa using hq
   cases hC with
   | nil h =>
    obtain rfl : n = 0 := by simpa using hn
    exact ⟨fun _ => False, fun b hb => hb.elim, .nil (fun _ h => h), trivial⟩
   | arr hb hf hsz hl hm h0' hrow hel =>
    rename_i b arr fz;have hlen : (els.take n).length = n := by simp; omega
    have hsub : ∀ (i : Nat) cs, (els.take n)[i]? = some cs → els[i]? = some cs := by
     intro i cs hi;rw [List.getElem?_take] at hi
     split at hi
     ·exact hi
     cases hi
    have := TRep.view (w := w) (S := fun k => k = b) (e := e) (sz := sz) (els := els.take n) (b := b) (cap := cap) (fun _ _ => False) hb hf hsz (by omega) hm h0' (fun i cs hi => hrow i cs (hsub i cs hi)) (fun i cs q d hi hj => ?_) (fun _ h => h) (fun _ _ _ h => h.elim) (fun k => ⟨fun h => .inl h, fun h => h.elim (fun h => h) fun ⟨_, _, h⟩ => h.elim⟩)
    ·rw [hlen] at this;exact ⟨_, fun k hk => by subst hk; exact .inl rfl, this, trivial⟩
    have h1 := hel i cs q d (hsub i cs hi) hj;have h2 := hfl cs (List.mem_of_getElem? (hsub i cs hi)) d (List.mem_of_getElem? hj);cases d with
    | val u =>
     generalize arr.getD (i * sz + q) undef = u' at h1 ⊢;cases h1 with
     | val h3 => exact .val (fun _ h => h) h3
    | _ => exact h2.elim
 obtain ⟨S, hS, hT, hok⟩ := key;refine ⟨a.tmps.getD j undef, S, _, hR.repack (U' := U') [(g, .pred S fun w => TRep w S (.view e sz (els.take n)) (a.tmps.getD j undef))] (fun _ => (none, 0)) [id] rfl (fun i c h => ?_) (fun i c h => .inl ?_) (fun i hi => ⟨(hU' i hi).1, ?_⟩) (fun i c b h hb => ?_) (fun i i' c c' b h h' _ _ => ?_) (fun F' _ i c h => ?_) (fun hle F' hF i => ?_)⟩
 ·change (getL i (_ :: _ :: _)).getD none = _ at h
  rw [getL_cons] at h;rw [getL_cons]
  split at h
  ·rename_i ei; rw [if_pos ei]; exact .inl (by simpa using h)
  rename_i ei;rw [if_neg ei];rw [getL_cons] at h
  split at h
  ·cases h
  rename_i ei'; exact .inr ⟨rfl, by simpa using ei', h⟩
 ·obtain ⟨rfl, _⟩ := getL_one h; exact hg
 ·rw [getL_cons, if_neg (hU' i hi).2]; rfl
 ·obtain ⟨rfl, rfl⟩ := getL_one h;exact ⟨id, _, p, by simp, hc, hp, hS b (occ_pred' hb)⟩
 ·rw [(getL_one h).1, (getL_one h').1]
 ·obtain ⟨rfl, rfl⟩ := getL_one h;exact .pred hT (fun w w' hk h => h.turn hk) hT.lt
 change ARep _ _ _ ((getL i (_ :: _)).getD .dead) _
 rw [getL_cons]
 by_cases hij : i = j
 ·subst hij; rw [if_pos rfl]; exact .d (.val hok)
 rw [if_neg hij]; exact (hR.sl i).turn hle (fun k hk _ => ⟨hF k hk, rfl⟩)
section
variable {P : Program} [PT P] {s : ASt} {dst : Option Nat} {ty : Nat} {pos : String} {af : Array Edge} {gd : Option (Nat × Bool)} {t f : Nat} {x y : Operand}
end
section
variable {P : Program} [PT P] {C : Ctx} {Q : Exit → ASt → Prop} {s : ASt} {ops : List Oper} {anc : List (List Nat)} {J : List (Nat × ORec)}
def DJ (J : List (Nat × ORec)) (P : Program) (ops : List Oper) (anc : List (List Nat)) (s : ASt) (Q : Exit → ASt → Prop) (rest : List Oper) (l : List FRec) : Prop := ∃ F : List ORec → Prop, DG P ops anc s Q rest l F ∧ ∀ R, F R → R.length = ops.length ∧ ∀ p, p ∈ J → R[p.1]? = some p.2
theorem DJ.fin {l : List FRec} {ps : List (Nat × Nat)} (n : Nat) (hn : Nat.beq ops.length n = true) (hl : Nat.beq l.length n = true) (h1 : coverOk n anc ps = true) (h2 : slotOk ops ps = true) (h3 : idsF l ps = true) (hJ : J.map (fun p => (fwd l)[p.1]?) = J.map (fun p => some p.2)) (h : Q .normal (mkAll s n l)) : DJ J P ops anc s Q [] l :=
 ⟨_, DG.fin n hn hl h1 h2 h3 h, fun R e => by
  subst e;rw [fwd_len];have h1 : ops.length = n := by simpa using hn
  have h2 : l.length = n := by simpa using hl
  refine ⟨by omega, fun p hp => ?_⟩
  exact List.map_inj_left.1 hJ p hp⟩
theorem DJ.op {l : List FRec} {rest : List Oper} {o : Oper} (i : Nat) (row : List Nat) {ids : List Nat} {u : Upd} (n : Nat) (hi : Nat.beq l.length i = true) (hn : Nat.beq ops.length n = true) (hrow : ancAt anc i = row) (hst : StepOk P ops (mkF s n row l) o ids (s.nx + 8 * i) u) (hd : dstOk o.dst s.n = true) (h : DJ J P ops anc s Q rest ((i, o.dst, u, ids) :: l)) : DJ J P ops anc s Q (o :: rest) l := by
 obtain ⟨F, h1, h2⟩ := h;exact ⟨F, DG.op i row n hi hn hrow hst hd h1, h2⟩
def behindBut (anc : List (List Nat)) (i n : Nat) (js : List Nat) : Bool := (List.range n).all fun j => Nat.ble j i || memL i (ancAt anc j) || memL j js
theorem DJ.opX {l : List FRec} {rest : List Oper} {o : Oper} {ι : Type} {us : ι → Upd} (i : Nat) (row : List Nat) {ids : List Nat} (n : Nat) (x₀ : ι) (hi : Nat.beq l.length i = true) (hn : Nat.beq ops.length n = true) (hrow : ancAt anc i = row) (hg : o.guard = none) (hst : NOpR P ids (mkF s n row l) o (s.nx + 8 * i) (fun u => ∃ x, u = us x)) (hd : dstOk o.dst s.n = true) (hb : behindBut anc i n (J.map Prod.fst) = true)
  (h : ∀ x, DJ J P ops anc s Q rest ((i, o.dst, us x, ids) :: l)) : DJ J P ops anc s Q (o :: rest) l := by
 have hn' : ops.length = n := by simpa using hn
 have hF := fun x => Classical.choose_spec (h x)
 refine ⟨fun R => ∃ x, Classical.choose (h x) R, DG.opX i row n x₀ hi hn hrow hg hst hd (fun x => (hF x).1) (fun x y R R' h1 h2 j hj hnj => ?_), fun R ⟨x, hR⟩ => (hF x).2 R hR⟩;have a1 := (hF x).2 R h1;have a2 := (hF y).2 R' h2;rcases Nat.lt_or_ge j n with hlt | hge
 ·simp only [behindBut, List.all_eq_true, List.mem_range, Bool.or_eq_true] at hb;rcases hb j hlt with (g | g) | g
  ·have := Nat.le_of_ble_eq_true g; omega
  ·exact absurd (memL_iff.1 g) hnj
  obtain ⟨p, hp, rfl⟩ := List.mem_map.1 (memL_iff.1 g);rw [a1.2 p hp, a2.2 p hp]
 rw [List.getElem?_eq_none (by omega), List.getElem?_eq_none (by omega)]
theorem AC.drawnJ (J : List (Nat × ORec)) {id : Nat} (hm : P.follows .mixedOrders = true) (anc : List (List Nat)) (hanc : ancOk ops anc = true) (h : DJ J P ops anc s Q ops []) : ACode P C (.region id ops.toArray true) Q s := by
 obtain ⟨F, h1, _⟩ := h;exact AC.drawnG hm anc hanc h1
end
section
variable {P : Program} [PT P]
variable {s : ASt} {dst : Option Nat} {ty : Nat} {pos : String} {af : Array Edge} {gd : Option (Nat × Bool)} {x y : Operand} {t f : Nat}
theorem NOpR.ix {ids : List Nat} {o : Oper} {T : Upd → Prop} {ι : Type} {us : ι → Upd} (h : NOpR P ids s o f T) (hT : ∀ u, T u → ∃ x, u = us x) : NOpR P ids s o f (fun u => ∃ x, u = us x) := ⟨fun s' ha C U U' a w m hR hU hU' hd K Q hK => h.run s' ha C U U' a w m hR hU hU' hd K Q fun u hu => hK u (hT u hu)⟩
end
section
variable {P : Program} [PT P] {C : Ctx} {s : ASt}
theorem AC.tail {c : Code} {fn : Func} {k : Nat} {R : AV → List (Nat × Chunk) → Prop} (h : ACode P C c (fun e s => e = .normal ∧ ∃ t, Weak C s t ∧ BodyQ P fn k R .normal t) s) : ACode P C c (BodyQ P fn k R) s := ⟨fun a w hR => Go.wp_mono (h.run a w hR) fun e a w ⟨s, hR, he, t, hw, hq⟩ => ⟨t, hw.run a w hR, he ▸ hq⟩⟩
end
set_option maxHeartbeats 2000000 in
theorem clone_T (l : List Int) (hl : l.length ≤ 1000000) : ASpec Tryz.prog 51 [.d (vI l)] [] (OneT (vI l)) := by
 refine ASpec.of Tryz.func51 rfl rfl fun C hC => ?_
 refine AC.seq (AC.region ?_);refine za ?_;refine AL.nil (th_n (AC.seq (AC.seq (AC.region ?_))));refine zm ?_;refine AL.eqNil (ht := rfl) (hx := rfl) rfl (fun b hb => ?_);refine AL.nil (th_n ?_);refine AC.condB rfl (fun h0 => ?_) (fun h0 => ?_)
 ·refine AC.seq (AC.region ?_);refine za ?_;refine AL.nil (th_n ?_);refine AC.weak (t := ⟨8, 2000, [(2, .d (.val (.slice none 0 0)))], []⟩) (Weak.ren _ [] hC rfl (by repeat (first | exact True.intro | refine And.intro ?_ ?_ | exact DLead.same)) (by repeat (exact True.intro)) rfl rfl rfl) ?_;refine AC.weak Weak.emptyT ?_;refine AC.weak (Weak.cons 2000 (fun w => TRep w (fun _ => False) (vI []) (.slice none 0 0)) rfl (fun w _ => .nil (fun _ h => h)) (fun w w' hk h => h.turn hk)) ?_;refine AC.ret (th_r (bq_r ?_));have e : l = [] := by have := hb h0; simpa [ints] using this
  subst e;exact retX [(0, 2000)] rfl ⟨_, _, rfl, rfl⟩ (by repeat (exact DLead.same)) (by repeat (first | exact True.intro | refine And.intro ?_ ?_ | exact rfl | refine ⟨_, _, rfl, rfl, ?_⟩)) rfl rfl
 refine AC.skip (th_n (AC.seq (AC.region ?_)));refine AL.q (by exact h_lit rfl rfl rfl rfl rfl rfl rfl rfl) rfl ?_;refine zm ?_;refine AL.q (by exact h_appendI [] l (.own rfl rfl rfl) (.view rfl) (by simp; omega) (by simp)) rfl ?_;refine AL.weak (t := ⟨8, 2000, [(7, .own 100 l.length)], [(100, some (.arr 3 1 (ints l)))]⟩) (zw [(100, _)] hC) ?_;refine AL.weakR (WeakR.raw (id := 100) 7 rfl rfl (Nat.le_of_eq (ints_len _).symm) (ints_all _) (ints_flat _)) ?_;rintro _ ⟨v, S, rfl⟩;refine za ?_;refine AL.nil (th_n (AC.ret (bq_r ?_)));exact retX [(0, 2000)] rfl ⟨v, S, rfl, rfl⟩ (by repeat (exact DLead.same)) (by repeat (first | exact True.intro | refine And.intro ?_ ?_ | exact rfl | refine ⟨_, _, rfl, rfl, ?_⟩)) rfl rfl
abbrev tC (s : Bd) (i1 i2 : Nat) : Chunk := .cells 61 [aI s.p, .own i1 s.ts.length, .own i2 s.labs.length]
abbrev bTs (s : Bd) (V : List Value) (S : Nat → Prop) (i0 i1 i2 i3 : Nat) : List (Nat × Chunk) := [(i0, tC s i1 i2), (i1, .arr 96 2 (rowsV 2 s.ts.length V)), (i2, .arr 63 2 (labsL s.labs)), (i3, .pred S fun w => TL w S (tsL s.ts).flatten V)]
set_option maxHeartbeats 4000000 in
theorem nbFresh_T (s : Bd) (V : List Value) (S : Nat → Prop) (n : Nat) (hs : BdL s) (hn : n ≤ 1000) : ASpec Tryz.prog 22 [.ptr 0 0, aI n] (bTs s V S 0 1 2 3) (Fun1 (.d (vI (rngI s.p n))) (bTs (frs s n) V S 0 1 2 3)) := by
 have hp := hs.p;refine ASpec.of Tryz.func22 rfl rfl fun C hC => ?_
 refine AC.seq (AC.region ?_);refine za ?_;refine AL.nil (th_n (AC.seq (AC.region ?_)));refine AL.q (by exact h_lit rfl rfl rfl rfl rfl rfl rfl rfl) rfl ?_;refine AL.p (by exact as2 rfl) rfl ?_;refine AL.nil (th_n (AC.seq (AC.seq (AC.region ?_))));refine zm ?_;refine zm ?_;refine AL.nil (th_n (AC.block ?_));refine AC.loop (ι := Nat) (fun k => ⟨26, 208, [(0, .ptr 0 0), (5, .own 100 (rngI s.p k).length), (7, aI n), (8, aI k)], chL (bTs (frs s k) V S 0 1 2 3) ++ [(100, some (.arr 3 1 (ints (rngI s.p k))))]⟩) (fun k => k ≤ n) (fun k => n - k) (0) ?_ (Nat.zero_le _) ?_
 ·exact zw [(100, _)] hC
 intro k hk;refine AC.seq (AC.region ?_);refine zc ?_;refine AL.nil (th_n (AC.seq ?_));refine AC.condD rfl (fun h0 => ?_) (fun h0 => ?_)
 ·refine AC.skip (th_n (AC.seq (AC.block (AC.seq ?_))));have hk1 : k < n := by omega
  have hrl := rngI_len s.p k;have hrs := rngI_succ s.p k;refine AC.region ?_;refine kB ?_;refine AL.p (by exact mv3 rfl) rfl ?_;refine AL.p (by exact g_nilP rfl) rfl ?_;refine zF ?_;refine zl ?_;refine AL.q (by exact h_litF rfl rfl rfl rfl rfl rfl rfl rfl) rfl ?_;refine AL.q (by exact h_appendI (rngI s.p k) [((s.p + k : Nat) : Int)] (.own rfl rfl (by rw [ints_len])) (.view rfl) (by rw [List.length_append, hrl]; simp only [List.length_cons, List.length_nil]; omega) (by simp)) rfl ?_;refine AL.p (by exact as2 rfl) rfl ?_;refine AL.nil (th_n (AC.region ?_));refine AL.p (by exact mv3 rfl) rfl ?_;refine AL.p (by exact g_nilP rfl) rfl ?_;refine zF ?_;refine zl ?_;refine AL.p (by exact g_arith (e := ((s.p + (k + 1) : Nat) : Int)) rfl rfl rfl (by show IntKind.i64.wrap (((s.p + k : Nat) : Int) + 1) = _; rw [show ((s.p + k : Nat) : Int) + 1 = ((s.p + (k + 1) : Nat) : Int) by omega]; exact wrap_i64 (by omega))) rfl ?_;refine AL.p (by exact g_nilP rfl) rfl ?_;refine zF ?_;refine zs ?_;refine AL.nil (ib_n (th_n (AC.region ?_)));refine zA ?_;refine zm ?_;refine AL.nil (th_n ?_);exact ⟨k + 1, hk1, by omega, by dsimp only [bTs, tC, frs]; rw [hrs]; exact zw [(100, _)] hC⟩
 refine AC.exit (th_e (th_e (ib_y (th_n (AC.seq ?_)))));obtain rfl : k = n := by omega
 refine AC.weak (Weak.freeze (i := 5) rfl rfl (Nat.le_of_eq (ints_len _).symm) (ints_all _)) ?_;refine AC.region ?_;refine zm ?_;refine za ?_;refine AL.nil (th_n (AC.ret (bq_r ?_)));exact retX [] rfl ⟨rfl, rfl⟩ (by repeat (exact DLead.same)) (by repeat (first | exact True.intro | refine And.intro ?_ ?_ | exact DLead.same | exact rfl | refine ⟨_, _, rfl, rfl, ?_⟩ | refine ⟨_, rfl, ?_⟩ | refine ⟨_, _, rfl, ?_, ?_⟩)) rfl rfl
theorem en_nbFresh : Enters Tryz.prog 22 := enters_of Tryz.func22 rfl rfl
def NbT (s : Bd) : AV → List (Nat × Chunk) → Prop := fun r chs => ∃ (V : List Value) (S : Nat → Prop), V.length = s.ts.length * 2 ∧ r = .tup [] ∧ chs = [(0, tC s 4 5), (3, .pred S fun w => TL w S (tsL s.ts).flatten V), (4, .arr 96 2 (rowsV 2 s.ts.length V)), (5, .arr 63 2 (labsL s.labs))]
set_option maxRecDepth 20000 in
set_option maxHeartbeats 8000000 in
theorem nbAdd_T (s : Bd) (V : List Value) (S : Nat → Prop) (pre post : List Int) (l : Lab) (hs : BdL s) (hV : V.length = s.ts.length * 2) (h1 : pre.length ≤ 1000) (h2 : post.length ≤ 1000) : ASpec Tryz.prog 23 [.ptr 0 0, labA l, .d (vI pre), .d (vI post)] (bTs s V S 0 1 2 3) (NbT (addT s pre post l)) := by
 have ht := hs.t;have hl := hs.l;have hC1 := clone_T pre (by omega);have hC2 := clone_T post (by omega);refine ASpec.of Tryz.func23 rfl rfl fun C hC => ?_
 refine AC.seq (AC.region ?_);refine kD ?_;refine AL.nil (th_n (AC.seq ?_));refine AC.drawn' mixed_ok [[], [], [1], [1,2], [1,2,3], [], [5], [1,2,3,4,5,6], [0,1,2,3,4,5,6,7], [0,1,2,3,4,5,6,7,8], [0,1,2,3,4,5,6,7,8,9]] (by decide) ?_;refine zd 0 [] 11 (by exact mv3 rfl) ?_;refine zd 1 [] 11 (by exact mv3 rfl) ?_;refine zd 2 [1] 11 (by exact g_nilP rfl) ?_;refine zd 3 [1,2] 11 (by exact g_fa_ptr rfl rfl rfl rfl rfl) ?_;refine zd 4 [1,2,3] 11 (by exact g_load_ptr rfl rfl rfl rfl rfl) ?_;refine zd 5 [] 11 (by exact g_load_refN rfl rfl rfl rfl) ?_;refine zh 6 [5] 11 (by exact h_litF rfl rfl rfl rfl rfl rfl rfl rfl) ?_;refine zh 7 [1,2,3,4,5,6] 11 (by exact h_appendBl s.labs [l] (.own rfl rfl (by rw [List.length_map])) (.view rfl) (by rw [List.length_append]; simp only [List.length_cons, List.length_nil]; omega) (by simp)) ?_;refine zd 8 [0,1,2,3,4,5,6,7] 11 (by exact g_nilP rfl) ?_;refine zd 9 (List.range 9) 11 (by exact g_fa_ptr rfl rfl rfl rfl rfl) ?_;refine zh 10 (List.range 10) 11 (by exact h_store rfl rfl rfl rfl rfl rfl) ?_;refine zj 11 ?_;refine th_n ?_;refine AC.tail ?_;refine AC.drawnJ ([(7, (⟨.d (vI post), []⟩, []))]) mixed_ok [[], [], [1], [1,2], [1,2,3], [], [5], [], [5,6,7], [5,6,7,8], [5,6,7,8,9], [1,2,3,4,5,6,7,8,9,10], [0,1,2,3,4,5,6,7,8,9,10,11], [0,1,2,3,4,5,6,7,8,9,10,11,12], [0,1,2,3,4,5,6,7,8,9,10,11,12,13]] (by decide) ?_;refine DJ.op 0 [] 15 rfl rfl rfl (.free rfl (NOp.of (by exact mv3 rfl))) rfl ?_;refine DJ.op 1 [] 15 rfl rfl rfl (.free rfl (NOp.of (by exact mv3 rfl))) rfl ?_;refine DJ.op 2 [1] 15 rfl rfl rfl (.free rfl (NOp.of (by exact g_nilP rfl))) rfl ?_;refine DJ.op 3 [1,2] 15 rfl rfl rfl (.free rfl (NOp.of (by exact g_fa_ptr rfl rfl rfl rfl rfl))) rfl ?_;refine DJ.op 4 [1,2,3] 15 rfl rfl rfl (.free rfl (NOp.of (by exact g_load_ptr rfl rfl rfl rfl rfl))) rfl ?_;refine DJ.op 5 [] 15 rfl rfl rfl (.free rfl (NOp.of (by exact mv1 rfl))) rfl ?_;refine DJ.opX 6 [5] 15 (((.slice none 0 0, fun _ => False) : Value × (Nat → Prop))) rfl rfl rfl rfl (NOpR.ix (us := fun z : Value × (Nat → Prop) => callU [] _ (.d (.val z.1)) [(0, .pred z.2 fun w => TRep w z.2 (vI pre) z.1)]) (h_funR (cs := []) en_clone rfl rfl (by repeat (first | exact rfl | exact DLead.same | refine ⟨_, _, rfl, ?_, ?_⟩)) (by repeat (exact True.intro)) hC1 rfl rfl rfl) (fun u hu => by obtain ⟨r, chs', ⟨v, S, e1, e2⟩, e3⟩ := hu; exact ⟨(v, S), by rw [e3, e1, e2]⟩)) rfl (by rfl) ?_;rintro ⟨w1, S1⟩;refine DJ.op 7 [] 15 rfl rfl rfl (.free rfl (NOp.of (by exact mv1 rfl))) rfl ?_;refine DJ.opX 8 [5,6,7] 15 (((.slice none 0 0, fun _ => False) : Value × (Nat → Prop))) rfl rfl rfl rfl (NOpR.ix (us := fun z : Value × (Nat → Prop) => callU [] _ (.d (.val z.1)) [(0, .pred z.2 fun w => TRep w z.2 (vI post) z.1)]) (h_funR (cs := []) en_clone rfl rfl (by repeat (first | exact rfl | exact DLead.same | refine ⟨_, _, rfl, ?_, ?_⟩)) (by repeat (exact True.intro)) hC2 rfl rfl rfl) (fun u hu => by obtain ⟨r, chs', ⟨v, S, e1, e2⟩, e3⟩ := hu; exact ⟨(v, S), by rw [e3, e1, e2]⟩)) rfl (by rfl) ?_;rintro ⟨w2, S2⟩;refine DJ.op 9 [5,6,7,8] 15 rfl rfl rfl (.free rfl (NOp.of (by exact g_build rfl rfl rfl))) rfl ?_;refine DJ.op 10 [5,6,7,8,9] 15 rfl rfl rfl (.free rfl (by exact h_litF rfl rfl rfl rfl rfl rfl rfl rfl)) rfl ?_;refine DJ.op 11 [1,2,3,4,5,6,7,8,9,10] 15 rfl rfl rfl (.free rfl (by exact h_append (k := s.ts.length + 1) (els := rowsV 2 s.ts.length V) (new := [[.val w1, .val w2]]) rfl rfl rfl rfl rfl rfl (.own rfl rfl (by rw [rowsV_len])) (.view rfl) (by rw [rowsV_len]; rfl) (by omega) (by show (s.ts.length + 1) * 48 ≤ _; omega) (by simp))) rfl ?_;refine DJ.op 12 [0,1,2,3,4,5,6,7,8,9,10,11] 15 rfl rfl rfl (.free rfl (NOp.of (by exact g_nilP rfl))) rfl ?_;refine DJ.op 13 [0,1,2,3,4,5,6,7,8,9,10,11,12] 15 rfl rfl rfl (.free rfl (NOp.of (by exact g_fa_ptr rfl rfl rfl rfl rfl))) rfl ?_;refine DJ.op 14 [0,1,2,3,4,5,6,7,8,9,10,11,12,13] 15 rfl rfl rfl (.free rfl (by exact h_store rfl rfl rfl rfl rfl rfl)) rfl ?_;refine DJ.fin (ps := [(0,1),(0,2),(0,3),(0,4),(0,5),(0,6),(0,7),(0,8),(0,9),(0,10),(0,11),(1,0),(1,5),(1,6),(1,7),(1,8),(1,9),(1,10),(2,0),(2,5),(2,6),(2,7),(2,8),(2,9),(2,10),(3,0),(3,5),(3,6),(3,7),(3,8),(3,9),(3,10),(4,0),(4,5),(4,6),(4,7),(4,8),(4,9),(4,10),(5,0),(5,1),(5,2),(5,3),(5,4),(5,7),(6,0),(6,1),(6,2),(6,3),(6,4),(6,7),(7,0),(7,1),(7,2),(7,3),(7,4),(7,5),(7,6),(8,0),(8,1),(8,2),(8,3),(8,4),(9,0),(9,1),(9,2),(9,3),(9,4),(10,0),(10,1),(10,2),(10,3),(10,4),(11,0)]) 15 rfl rfl (by decide +kernel) (by decide +kernel) (by rfl) (by rfl) ?_
 refine ⟨rfl, _, Weak.trans (Weak.cons 148 (fun w => TL w S1 [vI pre] [w1]) rfl (fun w h => TL.one h) (fun w w' hk h => h.turn hk)) (Weak.trans (Weak.cons 164 (fun w => TL w S2 [vI post] [w2]) rfl (fun w h => TL.one h) (fun w w' hk h => h.turn hk)) (Weak.trans (Weak.appT 148 164 rfl (fun w h => h) rfl (fun w h => h) rfl) (Weak.appT 3 148 rfl (fun w h => h) rfl (fun w h => h) rfl))), bq_n ?_⟩;have hfl : (tsL (s.ts ++ [(⟨pre, post⟩ : Tn)])).flatten = (tsL s.ts).flatten ++ ([vI pre] ++ [vI post]) := by simp
 have hrw : rowsV 2 s.ts.length V ++ [[DV.val w1, DV.val w2]] = rowsV 2 (s.ts.length + 1) (V ++ ([w1] ++ [w2])) := (rowsV_app (vs := [w1, w2]) hV rfl).symm;have hln : (s.ts ++ [(⟨pre, post⟩ : Tn)]).length = s.ts.length + 1 := List.length_append;have hll : (s.labs ++ [l]).length = s.labs.length + 1 := List.length_append;rw [← hfl, hrw];exact retX [(4, 188), (5, 68)] rfl ⟨V ++ ([w1] ++ [w2]), _, by show _ = (s.ts ++ [_]).length * 2; rw [hln, List.length_append, hV]; simp only [List.length_append, List.length_cons, List.length_nil]; omega, rfl, rfl⟩ (by repeat (first | exact rfl | refine ⟨_, rfl, ?_⟩)) (by dsimp only [tC, addT]; rw [hln]; repeat (first | exact True.intro | refine And.intro ?_ ?_ | exact DLead.same | exact rfl | refine ⟨_, _, rfl, rfl, ?_⟩ | refine ⟨_, rfl, ?_⟩ | refine ⟨_, _, rfl, ?_, ?_⟩)) rfl rfl
theorem en_nbAdd : Enters Tryz.prog 23 := enters_of Tryz.func23 rfl rfl
section
variable {P : Program} [PT P] {C : Ctx} {s : ASt}
theorem getL_two {α : Type} {i j k : Nat} {x y c : α} (h : getL i [(j, x), (k, y)] = some c) : (i = j ∧ c = x) ∨ (i ≠ j ∧ i = k ∧ c = y) := by
 rw [getL_cons] at h
 split at h
 ·rename_i e; exact .inl ⟨e, by simpa using h.symm⟩
 rename_i e; obtain ⟨h1, h2⟩ := getL_one h; exact .inr ⟨e, h1, h2⟩
theorem WeakR.closeC (id0 k id ia : Nat) {cs : List AV} {tt e sz n : Nat} {els : List (List DV)} {rows : List (List DV)} {V : List Value} {S' : Nat → Prop} {K : World → Prop} (h0 : s.chunk id0 = some (.cells tt cs)) (hk : cs[k]? = some (.own ia n)) (hn : n = els.length) (hc : s.chunk id = some (.pred S' K)) (hK : ∀ w, K w → TL w S' els.flatten V) (ha : s.chunk ia = some (.arr e sz rows)) (hr : rows = rowsV sz els.length V)
  (hrow : ∀ cs, cs ∈ els → cs.length = sz) (h12 : Nat.beq id ia = false) (h01 : Nat.beq id0 ia = false) (h02 : Nat.beq id0 id = false) :
  WeakR C s fun t => ∃ v S, t = { n := s.n, nx := s.nx, sl := s.sl, ch := (id0, some (.cells tt (cs.set k (.d (.val v))))) :: (id, some (.pred S fun w => TRep w S (.view e sz els) v)) :: (ia, none) :: s.ch } := by
 subst hn; subst hr;refine ⟨?_⟩;rintro a w ⟨m, hR⟩;obtain ⟨q0, q1, c1, l1⟩ := hR.ch id _ hc;obtain ⟨rfl, k1, cl1, lt1⟩ := c1.predAt;obtain ⟨pa, qa, ca, la⟩ := hR.ch ia _ ha;obtain ⟨p0, qp, cp, lp⟩ := hR.ch id0 _ h0;have h12 : id ≠ ia := Nat.ne_of_beq_eq_false h12;have h01 : id0 ≠ ia := Nat.ne_of_beq_eq_false h01;have h02 : id0 ≠ id := Nat.ne_of_beq_eq_false h02;have hd : ∀ k, pa.1 = some k → ¬ S' k := fun k g1 g2 => h12 (hR.inj id ia _ _ _ _ hc ha q1 qa k (.inr g2) (.inl g1))
 have hd0 : ∀ k, p0.1 = some k → ¬ (pa.1 = some k ∨ S' k) := fun k g1 g2 => by
  rcases g2 with g2 | g2
  ·exact h01 (hR.inj id0 ia _ _ _ _ h0 ha qp qa k (.inl g1) (.inl g2))
  exact h02 (hR.inj id0 id _ _ _ _ h0 hc qp q1 k (.inl g1) (.inr g2))
 cases cp with
 | cells g1 g2 g3 g4 =>
 rename_i b0 cap0 vs;obtain ⟨v0, hv0⟩ := eqx (vs.getD k undef);have hvk := g3 k _ hk;rw [← hv0] at hvk
 obtain ⟨hv, hp⟩ : v0 = .slice (pa.1.map fun b => ⟨b, 0, none⟩) els.length pa.2 ∧ (pa.1 = none → els.length = 0 ∧ pa.2 = 0) := by
  generalize v0 = u at hvk;cases hvk with
  | own h1 h2 =>
   rw [qa] at h1;simp only [Option.some.injEq] at h1;subst h1;exact ⟨rfl, h2⟩
 have hT : TRep w (fun k => pa.1 = some k ∨ S' k) (.view e sz els) v0 := by
  rw [hv];exact TRep.whole hp hrow (hK w k1) hd ca
 have hpm : ∀ i c, getL i [(id0, Chunk.cells tt (cs.set k (.d (.val v0)))), (id, Chunk.pred (fun k => pa.1 = some k ∨ S' k) fun w => TRep w (fun k => pa.1 = some k ∨ S' k) (.view e sz els) v0)] = some c → m i = some (if i = id0 then (some b0, cap0) else (none, 0)) := fun i c h => by
  rcases getL_two h with ⟨rfl, _⟩ | ⟨_, rfl, _⟩
  ·rw [if_pos rfl]; exact qp
  rw [if_neg (Ne.symm h02)]; exact q1
 have hle : MLe m (mNew m [(id0, Chunk.cells tt (cs.set k (.d (.val v0)))), (id, Chunk.pred (fun k => pa.1 = some k ∨ S' k) fun w => TRep w (fun k => pa.1 = some k ∨ S' k) (.view e sz els) v0)] (fun i => if i = id0 then (some b0, cap0) else (none, 0))) := by
  intro j p hj;cases hg : getL j [(id0, Chunk.cells tt (cs.set k (.d (.val v0)))), (id, Chunk.pred (fun k => pa.1 = some k ∨ S' k) fun w => TRep w (fun k => pa.1 = some k ∨ S' k) (.view e sz els) v0)] with
  | none => rw [mNew_none hg]; exact hj
  | some c =>
   have := hpm j c hg;rw [hj] at this;rw [mNew_some hg, ← this]
 refine ⟨_, ⟨v0, (fun k => pa.1 = some k ∨ S' k), rfl⟩, _, hR.repack (U' := fun i => s.nx ≤ i) [(id0, .cells tt (cs.set k (.d (.val v0)))), (id, .pred (fun k => pa.1 = some k ∨ S' k) fun w => TRep w (fun k => pa.1 = some k ∨ S' k) (.view e sz els) v0)] (fun i => if i = id0 then (some b0, cap0) else (none, 0)) [id0, id, ia] rfl (fun i c h => ?_) (fun i c h => .inr (hpm i c h)) (fun i hi => ⟨hi, ?_⟩) (fun i c b h hb => ?_) (fun i i' c c' b h h' hb hb' => ?_) (fun F' hF i c h => ?_) (fun _ F' hF i => (hR.sl i).turn hle (fun k hk _ => ⟨hF k hk, rfl⟩))⟩
 ·change (getL i (_ :: _ :: _ :: _)).getD none = _ at h
  simp only [getL_cons] at h;rw [getL_cons, getL_cons]
  split at h
  ·rename_i ei; rw [if_pos ei]; exact .inl (by simpa using h)
  rename_i e0;rw [if_neg e0]
  split at h
  ·rename_i ei; rw [if_pos ei]; exact .inl (by simpa using h)
  rename_i e1;rw [if_neg e1]
  split at h
  ·cases h
  rename_i e2;exact .inr ⟨rfl, by simp [e0, e1, e2], h⟩
 ·cases hg : getL i [(id0, Chunk.cells tt (cs.set k (.d (.val v0)))), (id, Chunk.pred (fun k => pa.1 = some k ∨ S' k) fun w => TRep w (fun k => pa.1 = some k ∨ S' k) (.view e sz els) v0)] with
  | none => rfl
  | some c => have := hpm i c hg; rw [hR.un i hi] at this; cases this
 ·rcases getL_two h with ⟨rfl, rfl⟩ | ⟨hne, rfl, rfl⟩
  ·rw [if_pos rfl] at hb;exact ⟨i, _, _, by simp, h0, qp, .inl hb.one_cells⟩
  rw [if_neg hne] at hb;rcases occ_pred' hb with g | g
  ·exact ⟨ia, _, _, by simp, ha, qa, .inl g⟩
  exact ⟨i, _, _, by simp, hc, q1, .inr g⟩
 ·rcases getL_two h with ⟨e1, rfl⟩ | ⟨n1, e1, rfl⟩ <;> rcases getL_two h' with ⟨e2, rfl⟩ | ⟨n2, e2, rfl⟩
  ·rw [e1, e2]
  ·rw [if_pos e1] at hb;rw [if_neg n2] at hb';exact absurd (occ_pred' hb') (hd0 b hb.one_cells)
  ·rw [if_neg n1] at hb;rw [if_pos e2] at hb';exact absurd (occ_pred' hb) (hd0 b hb'.one_cells)
  rw [e1, e2]
 rcases getL_two h with ⟨rfl, rfl⟩ | ⟨hne, rfl, rfl⟩
 ·rw [if_pos rfl];refine .cells g1 (by rw [List.length_set]; exact g2) (fun i' c hc' => ?_) g4
  by_cases hik : k = i'
  ·subst hik;rw [List.getElem?_set_self (List.getElem?_eq_some_iff.1 hk).1] at hc';simp only [Option.some.injEq] at hc';subst hc';rw [← hv0];exact .d (.val (by rw [hv]; trivial))
  rw [List.getElem?_set_ne hik] at hc';exact (g3 i' c hc').turn hle (fun k hk _ => ⟨hF k hk, rfl⟩)
 rw [if_neg hne];exact .pred hT (fun w w' hk h => h.turn hk) hT.lt
end
theorem ASpec.ofRep {P : Program} {g : FuncId} {x b : ByteArray} {n : Int} (hb : b.size ≤ 1000000) (h : ∀ w, Calls P g #[.string x, .int .i64 n] w fun e w' => e = .returned (.string b) ∧ Below w.heap.size w w') : ASpec P g [aS x, aI n] [] (Pure1 (aS b)) := by
 intro w m Fin vs hfin hn ha hch hinj hm;have h0 := ha 0 _ rfl;have h1 := ha 1 _ rfl
 have hv : vs = #[.string x, .int .i64 n] := by
  apply Array.ext
  ·rw [hn]; rfl
  intro i hi1 hi2
  match i with
  | 0 => have := h0.val_eq.1; rw [Array.getD_eq_getD_getElem?, Array.getElem?_eq_getElem hi1] at this; simpa using this
  | 1 => have := h1.val_eq.1; rw [Array.getD_eq_getD_getElem?, Array.getElem?_eq_getElem hi1] at this; simpa using this
  | i + 2 => simp at hi2; omega
 subst hv;refine (h w).mono ?_;rintro e w' ⟨rfl, hB⟩;exact ⟨_, _, [], m, fun k => (Fin k ∨ (∃ id c p, getL id ([] : List (Nat × Chunk)) = some c ∧ m id = some p ∧ occ p c k) ∨ w.heap.size ≤ k) ∧ k < w'.heap.size ∧ ∀ id c p, getL id ([] : List (Nat × Chunk)) = some c → m id = some p → ¬ occ p c k, rfl, ⟨rfl, rfl⟩, fun _ _ _ h => h, fun id hid => hm id (by simp only [List.length_nil] at hid ⊢; omega), fun k => Iff.rfl, ⟨hB.os, hB.tape, hB.output, hB.size, fun k hk _ => hB.block k hk⟩, .d (.val (by show b.size ≤ maxLen; simp only [maxLen]; omega)), fun id c hc => by simp [getL] at hc, fun id id' c c' p p' b hc => by simp [getL] at hc⟩
theorem repeatL_one (c : UInt8) : ∀ n, Lib.repeatL [c] n = List.replicate n c
 | 0 => rfl
 | n + 1 => by rw [Lib.repeatL, repeatL_one c n, List.replicate_succ]; rfl
theorem repeats_spec (c : UInt8) (n : Nat) (hn : n ≤ 100000) : ASpec Tryz.prog 54 [aS (bstr [c]), aI n] [] (Pure1 (aS (bstr (List.replicate n c)))) := by
 have e1 : (bstr [c]).size = 1 := rfl;refine ASpec.ofRep (by rw [bstr_size, List.length_replicate]; omega) fun w => ?_
 have := Tryz.strings_Repeat (bstr [c]) n w (by omega) (by rw [e1]; omega);rw [show (bstr [c]).data.toList = [c] from rfl, repeatL_one] at this;exact this
theorem en_Repeats : Enters Tryz.prog 54 := enters_of Tryz.func54 rfl rfl
theorem cloneSig_O (l : List Sig) (hl : l.length ≤ 10000000) : ASpec Tryz.prog 53 [.d (vSigs l)] [] (Fun1 (.own 0 l.length) [(0, .arr 91 2 (sigsL l))]) := by
 refine ASpec.of Tryz.func53 rfl rfl fun C hC => ?_
 refine AC.seq (AC.region ?_);refine za ?_;refine AL.nil (th_n (AC.seq (AC.seq (AC.region ?_))));refine zm ?_;refine AL.eqNil (ht := rfl) (hx := rfl) rfl (fun b hb => ?_);refine AL.nil (th_n ?_);refine AC.condB rfl (fun h0 => ?_) (fun h0 => ?_)
 ·refine AC.seq (AC.region ?_);refine za ?_;refine AL.nil (th_n ?_);have e : l = [] := by have := hb h0; simpa [sigsL] using this
  subst e;refine AC.weak (Weak.nilOwn (i := 2) (e := 91) (sz := 2) rfl (by decide)) ?_;refine AC.ret (th_r (bq_r ?_));exact retN [(0, _)] rfl (by repeat (first | exact rfl | refine ⟨_, rfl, ?_⟩)) (by repeat (first | exact True.intro | refine And.intro ?_ ?_ | exact rfl | refine ⟨_, _, rfl, rfl, ?_⟩)) rfl rfl
 refine AC.skip (th_n (AC.seq (AC.region ?_)));refine AL.q (by exact h_lit rfl rfl rfl rfl rfl rfl rfl rfl) rfl ?_;refine zm ?_;refine AL.q (by exact h_appendSgs [] l (.own rfl rfl rfl) (.view rfl) (by simp; omega) (by simp)) rfl ?_;refine AL.p (by exact as2 rfl) rfl ?_;refine AL.nil (th_n (AC.ret (bq_r ?_)));exact retN [(0, _)] rfl (by repeat (first | exact rfl | refine ⟨_, rfl, ?_⟩)) (by repeat (first | exact True.intro | refine And.intro ?_ ?_ | exact rfl | refine ⟨_, _, rfl, rfl, ?_⟩)) rfl rfl
theorem en_cloneSig : Enters Tryz.prog 53 := enters_of Tryz.func53 rfl rfl
set_option maxRecDepth 20000 in
set_option maxHeartbeats 8000000 in
theorem nbEach_T (s : Bd) (V : List Value) (S : Nat → Prop) (l : List Lab) (x0 y0 : Nat) (hs : BdM s) (hV : V.length = s.ts.length * 2) (hl : l.length ≤ 100) : ASpec Tryz.prog 24 [.ptr 0 0, .d (vLabs l), .d (vI (rngI x0 l.length)), .d (vI (rngI y0 l.length))] (bTs s V S 0 1 2 3) (NbT (eachB s l x0 y0 l.length)) := by
 have hsp := hs.p;have hst := hs.t;have hsl := hs.l;obtain ⟨A, hA⟩ := eqx (rngI x0 l.length);obtain ⟨B, hB⟩ := eqx (rngI y0 l.length);rw [← hA, ← hB];have hAl : A.length = l.length := by rw [hA, rngI_len]
 have hBl : B.length = l.length := by rw [hB, rngI_len]
 refine ASpec.of Tryz.func24 rfl rfl fun C hC => ?_
 refine AC.seq (AC.region ?_);refine zm ?_;refine kI l.length (labsL_len _) ?_;refine zm ?_;refine AL.nil (th_n (AC.block ?_));refine AC.loop (ι := Nat × List Value × (Nat → Prop)) (fun z => ⟨31, 208, [(0, .ptr 0 0), (2, .d (vI A)), (3, .d (vI B)), (10, .d (vLabs l)), (11, aI l.length), (12, aI z.1)], [(0, some (tC (eachB s l x0 y0 z.1) 101 102)), (101, some (.arr 96 2 (rowsV 2 (eachB s l x0 y0 z.1).ts.length z.2.1))), (102, some (.arr 63 2 (labsL (eachB s l x0 y0 z.1).labs))), (3, some (.pred z.2.2 fun w => TL w z.2.2 (tsL (eachB s l x0 y0 z.1).ts).flatten z.2.1))]⟩) (fun z => z.1 ≤ l.length ∧ z.2.1.length = (eachB s l x0 y0 z.1).ts.length * 2) (fun z => l.length - z.1) ((0, V, S)) ?_ (⟨Nat.zero_le _, hV⟩) ?_
 ·exact zw [(101, 1), (102, 2)] hC
 rintro ⟨k, V1, S1⟩ ⟨hk, hV1⟩;refine AC.seq (AC.region ?_);refine zc ?_;refine AL.nil (th_n (AC.seq ?_));refine AC.condD rfl (fun h0 => ?_) (fun h0 => ?_)
 ·refine AC.skip (th_n (AC.seq (AC.block (AC.seq ?_))));dsimp only at hk hV1;have hk1 : k < l.length := by omega
  have hget := labsL_get hk1;have hel := eachB_len s l x0 y0 k;have hes := eachB_succ (s := s) (x := x0) (y := y0) hk1;obtain ⟨sk, hsk⟩ := eqx (eachB s l x0 y0 k);rw [← hsk] at hel hes hV1;dsimp only;rw [← hsk];have hAd := nbAdd_T sk V1 S1 [((x0 + k : Nat) : Int)] [((y0 + k : Nat) : Int)] l[k] ⟨by omega, by omega, by omega⟩ hV1 (by simp) (by simp);rw [← hes] at hAd;obtain ⟨sn, hsn⟩ := eqx (eachB s l x0 y0 (k + 1));rw [← hsn] at hAd;have hwk : IntKind.i64.wrap ((k : Int) + 1) = ((k + 1 : Nat) : Int) := by rw [show (k : Int) + 1 = ((k + 1 : Nat) : Int) by omega]; exact wrap_i64 (by omega)
  have hcA : ((ints A).take (k + 1)).drop k = ints [((x0 + k : Nat) : Int)] := by rw [hA]; exact rngI_cut hk1
  have hcB : ((ints B).take (k + 1)).drop k = ints [((y0 + k : Nat) : Int)] := by rw [hB]; exact rngI_cut hk1
  unfold NbT at hAd;refine AC.region ?_;refine zm ?_;refine AL.p (by exact g_ia_view rfl rfl rfl rfl rfl (by rfl) (by assumption)) rfl ?_;refine kG ?_;refine kE ?_;refine za ?_;refine zs ?_;refine AL.nil (th_n ?_);refine AC.drawnE mixed_ok [[], [], [], [], [], [4], [2,3,4,5], [], [], [], [9], [7,8,9,10], [0,1,2,3,4,5,6,7,8,9,10,11]] (by decide) ?_;refine DE.op 0 [] 13 rfl rfl rfl (.free rfl (NOp.of (by exact mv3 rfl))) rfl ?_;refine DE.op 1 [] 13 rfl rfl rfl (.free rfl (NOp.of (by exact g_load_ptrN rfl rfl rfl rfl rfl))) rfl ?_;refine DE.op 2 [] 13 rfl rfl rfl (.free rfl (NOp.of (by exact mv1 rfl))) rfl ?_;refine DE.op 3 [] 13 rfl rfl rfl (.free rfl (NOp.of (by exact mv1 rfl))) rfl ?_;refine DE.op 4 [] 13 rfl rfl rfl (.free rfl (NOp.of (by exact mv1 rfl))) rfl ?_;refine DE.op 5 [4] 13 rfl rfl rfl (.free rfl (NOp.of (by exact g_arith (e := ((k + 1 : Nat) : Int)) rfl rfl rfl hwk))) rfl ?_;refine DE.op 6 [2,3,4,5] 13 rfl rfl rfl (.free rfl (NOp.of (by exact g_slice_view (l := k) (h := k + 1) rfl rfl rfl rfl (.some rfl rfl) (.some rfl rfl) (by omega) (by rw [ints_len, hAl]; omega) hcA))) rfl ?_;refine DE.op 7 [] 13 rfl rfl rfl (.free rfl (NOp.of (by exact mv1 rfl))) rfl ?_;refine DE.op 8 [] 13 rfl rfl rfl (.free rfl (NOp.of (by exact mv1 rfl))) rfl ?_;refine DE.op 9 [] 13 rfl rfl rfl (.free rfl (NOp.of (by exact mv1 rfl))) rfl ?_;refine DE.op 10 [9] 13 rfl rfl rfl (.free rfl (NOp.of (by exact g_arith (e := ((k + 1 : Nat) : Int)) rfl rfl rfl hwk))) rfl ?_;refine DE.op 11 [7,8,9,10] 13 rfl rfl rfl (.free rfl (NOp.of (by exact g_slice_view (l := k) (h := k + 1) rfl rfl rfl rfl (.some rfl rfl) (.some rfl rfl) (by omega) (by rw [ints_len, hBl]; omega) hcB))) rfl ?_;refine DE.opX 12 [0,1,2,3,4,5,6,7,8,9,10,11] 13 ((⟨(List.replicate (sn.ts.length * 2) (.bool false), fun _ => False), List.length_replicate⟩ : { z : List Value × (Nat → Prop) // z.1.length = sn.ts.length * 2 })) rfl rfl rfl rfl (NOpR.ix (us := fun z : { z : List Value × (Nat → Prop) // z.1.length = sn.ts.length * 2 } => callU [0, 101, 102, 3] _ (.tup []) [(0, tC sn 4 5), (3, .pred z.1.2 fun w => TL w z.1.2 (tsL sn.ts).flatten z.1.1), (4, .arr 96 2 (rowsV 2 sn.ts.length z.1.1)), (5, .arr 63 2 (labsL sn.labs))]) (h_funR (cs := [0, 101, 102, 3]) en_nbAdd rfl rfl (by repeat (first | exact rfl | exact DLead.same | refine ⟨_, _, rfl, ?_, ?_⟩ | refine ⟨_, rfl, ?_⟩)) (by repeat (first | exact True.intro | refine And.intro ?_ ?_ | exact DLead.same | exact rfl | refine ⟨_, _, rfl, rfl, ?_⟩ | refine ⟨_, rfl, ?_⟩ | refine ⟨_, _, rfl, ?_, ?_⟩)) hAd rfl rfl rfl) (fun u hu => by obtain ⟨r, chs', ⟨V', S', hl, e1, e2⟩, e3⟩ := hu; exact ⟨⟨(V', S'), hl⟩, by rw [e3, e1, e2]⟩)) rfl (by decide) ?_;rintro ⟨⟨V2, S2⟩, hV2⟩;refine DE.fin (ps := [(0,1),(0,2),(0,3),(0,4),(0,5),(0,6),(0,7),(0,8),(0,9),(0,10),(0,11),(1,0),(1,2),(1,3),(1,4),(1,5),(1,6),(1,7),(1,8),(1,9),(1,10),(1,11),(2,0),(2,1),(2,3),(2,4),(2,5),(2,7),(2,8),(2,9),(2,10),(2,11),(3,0),(3,1),(3,2),(3,4),(3,5),(3,7),(3,8),(3,9),(3,10),(3,11),(4,0),(4,1),(4,2),(4,3),(4,7),(4,8),(4,9),(4,10),(4,11),(5,0),(5,1),(5,2),(5,3),(5,7),(5,8),(5,9),(5,10),(5,11),(6,0),(6,1),(6,7),(6,8),(6,9),(6,10),(6,11),(7,0),(7,1),(7,2),(7,3),(7,4),(7,5),(7,6),(7,8),(7,9),(7,10),(8,0),(8,1),(8,2),(8,3),(8,4),(8,5),(8,6),(8,7),(8,9),(8,10),(9,0),(9,1),(9,2),(9,3),(9,4),(9,5),(9,6),(9,7),(9,8),(10,0),(10,1),(10,2),(10,3),(10,4),(10,5),(10,6),(10,7),(10,8),(11,0),(11,1),(11,2),(11,3),(11,4),(11,5),(11,6)]) 13 rfl rfl (by decide +kernel) (by decide +kernel) (by rfl) ?_;refine ib_n (th_n (AC.region ?_));refine zA ?_;refine zm ?_;refine AL.nil (th_n ?_);exact ⟨(k + 1, V2, S2), ⟨hk1, by rw [← hsn]; exact hV2⟩, by dsimp only; omega, by dsimp only; rw [← hsn]; exact zw [(101, _), (102, _)] hC⟩
 refine AC.exit (th_e (th_e (ib_y (bq_n ?_))));dsimp only at hk hV1;obtain rfl : k = l.length := by omega
 exact retX [(4, 101), (5, 102)] rfl ⟨V1, S1, hV1, rfl, rfl⟩ (by repeat (first | exact rfl | refine ⟨_, rfl, ?_⟩)) (by repeat (first | exact True.intro | refine And.intro ?_ ?_ | exact DLead.same | exact rfl | refine ⟨_, _, rfl, rfl, ?_⟩ | refine ⟨_, rfl, ?_⟩ | refine ⟨_, _, rfl, ?_, ?_⟩)) rfl rfl
theorem en_nbEach : Enters Tryz.prog 24 := enters_of Tryz.func24 rfl rfl
abbrev stA (s : Stg) (v : Value) (i1 i2 : Nat) : AV := .agg [aI s.net.places, .d (.val v), .own i1 s.sigs.length, .own i2 s.labs.length, aS (bstr s.start)]
abbrev stCh (s : Stg) (v : Value) (S : Nat → Prop) (i0 i1 i2 : Nat) : List (Nat × Chunk) := [(i0, .pred S fun w => TRep w S (vTs s.net.ts) v), (i1, .arr 91 2 (sigsL s.sigs)), (i2, .arr 63 2 (labsL s.labs))]
theorem st_lead {s0 : ASt} {s : Stg} {v : Value} {S : Nat → Prop} (ids : List Nat) (i0 i1 i2 : Nat) {xs ys : List AV} (hi0 : ids.contains i0 = true) (hi1 : ids.contains i1 = true) (hi2 : ids.contains i2 = true) (h0 : s0.chunk i0 = some (.pred S fun w => TRep w S (vTs s.net.ts) v)) (h1 : s0.chunk i1 = some (.arr 91 2 (sigsL s.sigs))) (h2 : s0.chunk i2 = some (.arr 63 2 (labsL s.labs))) (hr : BAs ids s0 xs ys) : BAs ids s0 (stgA s :: xs) (stA s v i1 i2 :: ys) :=
 .cons (.aggs (ds := stgD s) (.cons .d (.cons (.pred (id := i0) hi0 h0 (fun w h => TRep.data h)) (.cons (.own hi1 h1 (sgOwn_le _) (sgOwn_take _)) (.cons (.own hi2 h2 (labOwn_le _) (labOwn_take _)) (.cons .d .nil)))))) hr
set_option maxHeartbeats 4000000 in
theorem stgIf_Tt (s : Stg) (v : Value) (S : Nat → Prop) (h : StgL s) (hg : goodS s = true) : ASpec Tryz.prog 52 [stA s v 1 2] (stCh s v S 0 1 2) (Fun1 (.tup [stA s v 1 2, aT true]) (stCh s v S 0 1 2)) := by
 have hV := iIsValidSTG_spec s h;rw [hg] at hV;refine ASpec.of Tryz.func52 rfl rfl fun C hC => ?_
 refine AC.seq (AC.region ?_);refine AL.q (by exact h_box rfl) rfl ?_;refine kE ?_;refine za ?_;refine AL.nil (th_n (AC.seq (AC.seq (AC.region ?_))));refine AL.p (by exact g_load_ptrN rfl rfl rfl rfl rfl) rfl ?_;refine AL.q (by exact h_borrow [0, 1, 2] en_iIsValidSTG rfl rfl hV (st_lead [0, 1, 2] 0 1 2 rfl rfl rfl rfl rfl rfl .nil) rfl) rfl ?_;refine kC ?_;refine AL.nil (th_n ?_);refine AC.condF rfl ?_;refine AC.skip (th_n (AC.seq (AC.region ?_)));refine AL.p (by exact g_load_ptrN rfl rfl rfl rfl rfl) rfl ?_;refine zs ?_;refine za ?_;refine AL.nil (th_n (AC.ret (bq_r ?_)));exact retX [] rfl ⟨rfl, rfl⟩ (by repeat (first | exact rfl | exact DLead.same | refine ⟨_, _, rfl, ?_, ?_⟩ | refine ⟨_, rfl, ?_⟩)) (by repeat (first | exact True.intro | refine And.intro ?_ ?_ | exact rfl | refine ⟨_, _, rfl, rfl, ?_⟩)) rfl rfl
set_option maxHeartbeats 4000000 in
theorem stgIf_Tf (s : Stg) (v : Value) (S : Nat → Prop) (h : StgL s) (hg : goodS s = false) : ASpec Tryz.prog 52 [stA s v 1 2] (stCh s v S 0 1 2) (Fun1 (.tup [.agg [aI 0, .d (.val (.slice none 0 0)), .d (.val (.slice none 0 0)), .d (.val (.slice none 0 0)), aS ByteArray.empty], aT false]) []) := by
 have hV := iIsValidSTG_spec s h;rw [hg] at hV;refine ASpec.of Tryz.func52 rfl rfl fun C hC => ?_
 refine AC.seq (AC.region ?_);refine AL.q (by exact h_box rfl) rfl ?_;refine kE ?_;refine za ?_;refine AL.nil (th_n (AC.seq (AC.seq (AC.region ?_))));refine AL.p (by exact g_load_ptrN rfl rfl rfl rfl rfl) rfl ?_;refine AL.q (by exact h_borrow [0, 1, 2] en_iIsValidSTG rfl rfl hV (st_lead [0, 1, 2] 0 1 2 rfl rfl rfl rfl rfl rfl .nil) rfl) rfl ?_;refine kC ?_;refine AL.nil (th_n ?_);refine AC.condT rfl ?_;refine AC.seq (AC.region ?_);refine AL.p (by exact g_build rfl rfl rfl) rfl ?_;refine zs ?_;refine za ?_;refine AL.nil (th_n (AC.ret (th_r (bq_r ?_))));exact retX [] rfl ⟨rfl, rfl⟩ (by repeat (first | exact rfl | exact DLead.same | refine ⟨_, _, rfl, ?_, ?_⟩ | refine ⟨_, rfl, ?_⟩)) (by repeat (exact True.intro)) rfl rfl
theorem en_stgIf : Enters Tryz.prog 52 := enters_of Tryz.func52 rfl rfl
def StT (s : Stg) (b : Bool) (i0 i1 i2 : Nat) : AV → List (Nat × Chunk) → Prop := fun r chs => ∃ v S, r = .tup [stA s v i1 i2, aT b] ∧ chs = stCh s v S i0 i1 i2
abbrev stgB (s : Bd) (g : List Sig) : Stg := ⟨⟨(s.p : Int), s.ts⟩, g, s.labs, 49 :: List.replicate (s.p - 1) 48⟩
set_option maxRecDepth 20000 in
set_option maxHeartbeats 8000000 in
theorem nbStg_Tt (s : Bd) (g : List Sig) (V : List Value) (S : Nat → Prop) (hs : BdL s) (hp : 1 ≤ s.p) (hg : g.length ≤ 1048576) (hV : V.length = s.ts.length * 2) (hL : StgL (stgB s g)) (hgd : goodS (stgB s g) = true) : ASpec Tryz.prog 25 [.ptr 0 0, .d (vSigs g)] (bTs s V S 0 1 2 3) (StT (stgB s g) true 4 5 6) := by
 have hpp := hs.p;have hR := repeats_spec 48 (s.p - 1) (by omega);have hC1 := cloneSig_O g (by omega);have htl := tsL_len s.ts;refine ASpec.of Tryz.func25 rfl rfl fun C hC => ?_
 refine AC.seq (AC.region ?_);refine kE ?_;refine za ?_;refine AL.nil (th_n (AC.seq ?_));refine AC.weakR (WeakR.closeC (id0 := 0) (k := 1) (id := 3) (ia := 1) (els := tsL s.ts) rfl rfl htl.symm rfl (fun w h => h) rfl (by rw [htl]) (fun cs hcs => by obtain ⟨t, _, rfl⟩ := List.mem_map.1 hcs; rfl) rfl rfl rfl) ?_;rintro _ ⟨v, S2, rfl⟩;have hI := stgIf_Tt (stgB s g) v S2 hL hgd;refine AC.drawn' mixed_ok [[], [0], [0,1], [0,1,2], [], [4], [4,5], [4,5,6], [0,1,2,3,4,5,6,7], [], [9], [], [11], [11,12], [11,12,13], [], [15], [15,16], [15,16,17], [15,16,17,18], [9,10,15,16,17,18,19], [9,10,15,16,17,18,19,20], [0,1,2,3,4,5,6,7,8,9,10,11,12,13,14,15,16,17,18,19,20,21], [0,1,2,3,4,5,6,7,8,9,10,11,12,13,14,15,16,17,18,19,20,21,22], [0,1,2,3,4,5,6,7,8,9,10,11,12,13,14,15,16,17,18,19,20,21,22,23], [0,1,2,3,4,5,6,7,8,9,10,11,12,13,14,15,16,17,18,19,20,21,22,23], [0,1,2,3,4,5,6,7,8,9,10,11,12,13,14,15,16,17,18,19,20,21,22,23,24,25], [0,1,2,3,4,5,6,7,8,9,10,11,12,13,14,15,16,17,18,19,20,21,22,23,24,25,26]] (by decide) ?_;refine zd 0 [] 28 (by exact mv3 rfl) ?_;refine zd 1 [0] 28 (by exact g_nilP rfl) ?_;refine zd 2 [0,1] 28 (by exact g_fa_ptr rfl rfl rfl rfl rfl) ?_;refine zd 3 [0,1,2] 28 (by exact g_load_ptr rfl rfl rfl rfl rfl) ?_;refine zd 4 [] 28 (by exact mv3 rfl) ?_;refine zd 5 [4] 28 (by exact g_nilP rfl) ?_;refine zd 6 [4,5] 28 (by exact g_fa_ptr rfl rfl rfl rfl rfl) ?_;refine zd 7 [4,5,6] 28 (by exact g_load_ptr rfl rfl rfl rfl rfl) ?_;refine zd 8 [0,1,2,3,4,5,6,7] 28 (by exact g_build rfl rfl rfl) ?_;refine zd 9 [] 28 (by exact mv1 rfl) ?_;refine zh 10 [9] 28 (by exact h_fun (cs := []) en_cloneSig rfl rfl (by repeat (first | exact rfl | exact DLead.same | refine ⟨_, _, rfl, ?_, ?_⟩)) (by repeat (exact True.intro)) hC1 rfl rfl rfl rfl) ?_;refine zd 11 [] 28 (by exact mv3 rfl) ?_;refine zd 12 [11] 28 (by exact g_nilP rfl) ?_;refine zd 13 [11,12] 28 (by exact g_fa_ptr rfl rfl rfl rfl rfl) ?_;refine zd 14 [11,12,13] 28 (by exact g_load_ptr rfl rfl rfl rfl rfl) ?_;refine zd 15 [] 28 (by exact mv3 rfl) ?_;refine zd 16 [15] 28 (by exact g_nilP rfl) ?_;refine zd 17 [15,16] 28 (by exact g_fa_ptr rfl rfl rfl rfl rfl) ?_;refine zd 18 [15,16,17] 28 (by exact g_load_ptr rfl rfl rfl rfl rfl) ?_;refine zd 19 [15,16,17,18] 28 (by exact g_arith (e := ((s.p - 1 : Nat) : Int)) rfl rfl rfl (by show IntKind.i64.wrap ((s.p : Int) - 1) = _; rw [show (s.p : Int) - 1 = ((s.p - 1 : Nat) : Int) by omega]; exact wrap_i64 (by omega))) ?_;refine zh 20 [9,10,15,16,17,18,19] 28 (by exact h_pure en_Repeats rfl rfl (by repeat (first | exact rfl | exact DLead.same | refine ⟨_, _, rfl, ?_, ?_⟩)) hR rfl) ?_;refine zd 21 [9,10,15,16,17,18,19,20] 28 (by exact g_saddB (a := [49]) (b := List.replicate (s.p - 1) 48) rfl rfl (by simp only [List.length_replicate, List.length_cons, List.length_nil]; omega)) ?_;refine zd 22 (List.range 22) 28 (by exact g_build rfl rfl rfl) ?_;refine zh 23 (List.range 23) 28 (by exact h_fun (cs := [3, 92, 2]) en_stgIf rfl rfl (by repeat (first | exact rfl | exact DLead.same | refine ⟨_, _, rfl, ?_, ?_⟩ | refine ⟨_, rfl, ?_⟩)) (by repeat (first | exact True.intro | refine And.intro ?_ ?_ | exact rfl | refine ⟨_, _, rfl, rfl, ?_⟩)) hI rfl rfl rfl rfl) ?_;refine zd 24 (List.range 24) 28 (by exact g_extract (r := .agg _) rfl rfl) ?_;refine zd 25 (List.range 24) 28 (by exact g_extract (r := .d _) rfl rfl) ?_;refine zh 26 (List.range 26) 28 (by exact h_store rfl rfl rfl rfl rfl rfl) ?_;refine zd 27 (List.range 27) 28 (by exact as1 rfl) ?_;refine zj 28 ?_;refine th_n (AC.ret (bq_r ?_));exact retX [(4, 3), (5, 92), (6, 2)] rfl ⟨v, S2, rfl, rfl⟩ (by repeat (first | exact rfl | exact DLead.same | refine ⟨_, _, rfl, ?_, ?_⟩ | refine ⟨_, rfl, ?_⟩)) (by repeat (first | exact True.intro | refine And.intro ?_ ?_ | exact rfl | refine ⟨_, _, rfl, rfl, ?_⟩)) rfl rfl
set_option maxRecDepth 20000 in
set_option maxHeartbeats 8000000 in
theorem nbStg_Tf (s : Bd) (g : List Sig) (V : List Value) (S : Nat → Prop) (hs : BdL s) (hp : 1 ≤ s.p) (hg : g.length ≤ 1048576) (hV : V.length = s.ts.length * 2) (hL : StgL (stgB s g)) (hgd : goodS (stgB s g) = false) : ASpec Tryz.prog 25 [.ptr 0 0, .d (vSigs g)] (bTs s V S 0 1 2 3) (StT noStg false 4 5 6) := by
 have hpp := hs.p;have hR := repeats_spec 48 (s.p - 1) (by omega);have hC1 := cloneSig_O g (by omega);have htl := tsL_len s.ts;refine ASpec.of Tryz.func25 rfl rfl fun C hC => ?_
 refine AC.seq (AC.region ?_);refine kE ?_;refine za ?_;refine AL.nil (th_n (AC.seq ?_));refine AC.weakR (WeakR.closeC (id0 := 0) (k := 1) (id := 3) (ia := 1) (els := tsL s.ts) rfl rfl htl.symm rfl (fun w h => h) rfl (by rw [htl]) (fun cs hcs => by obtain ⟨t, _, rfl⟩ := List.mem_map.1 hcs; rfl) rfl rfl rfl) ?_;rintro _ ⟨v, S2, rfl⟩;have hI := stgIf_Tf (stgB s g) v S2 hL hgd;refine AC.drawn' mixed_ok [[], [0], [0,1], [0,1,2], [], [4], [4,5], [4,5,6], [0,1,2,3,4,5,6,7], [], [9], [], [11], [11,12], [11,12,13], [], [15], [15,16], [15,16,17], [15,16,17,18], [9,10,15,16,17,18,19], [9,10,15,16,17,18,19,20], [0,1,2,3,4,5,6,7,8,9,10,11,12,13,14,15,16,17,18,19,20,21], [0,1,2,3,4,5,6,7,8,9,10,11,12,13,14,15,16,17,18,19,20,21,22], [0,1,2,3,4,5,6,7,8,9,10,11,12,13,14,15,16,17,18,19,20,21,22,23], [0,1,2,3,4,5,6,7,8,9,10,11,12,13,14,15,16,17,18,19,20,21,22,23], [0,1,2,3,4,5,6,7,8,9,10,11,12,13,14,15,16,17,18,19,20,21,22,23,24,25], [0,1,2,3,4,5,6,7,8,9,10,11,12,13,14,15,16,17,18,19,20,21,22,23,24,25,26]] (by decide) ?_;refine zd 0 [] 28 (by exact mv3 rfl) ?_;refine zd 1 [0] 28 (by exact g_nilP rfl) ?_;refine zd 2 [0,1] 28 (by exact g_fa_ptr rfl rfl rfl rfl rfl) ?_;refine zd 3 [0,1,2] 28 (by exact g_load_ptr rfl rfl rfl rfl rfl) ?_;refine zd 4 [] 28 (by exact mv3 rfl) ?_;refine zd 5 [4] 28 (by exact g_nilP rfl) ?_;refine zd 6 [4,5] 28 (by exact g_fa_ptr rfl rfl rfl rfl rfl) ?_;refine zd 7 [4,5,6] 28 (by exact g_load_ptr rfl rfl rfl rfl rfl) ?_;refine zd 8 [0,1,2,3,4,5,6,7] 28 (by exact g_build rfl rfl rfl) ?_;refine zd 9 [] 28 (by exact mv1 rfl) ?_;refine zh 10 [9] 28 (by exact h_fun (cs := []) en_cloneSig rfl rfl (by repeat (first | exact rfl | exact DLead.same | refine ⟨_, _, rfl, ?_, ?_⟩)) (by repeat (exact True.intro)) hC1 rfl rfl rfl rfl) ?_;refine zd 11 [] 28 (by exact mv3 rfl) ?_;refine zd 12 [11] 28 (by exact g_nilP rfl) ?_;refine zd 13 [11,12] 28 (by exact g_fa_ptr rfl rfl rfl rfl rfl) ?_;refine zd 14 [11,12,13] 28 (by exact g_load_ptr rfl rfl rfl rfl rfl) ?_;refine zd 15 [] 28 (by exact mv3 rfl) ?_;refine zd 16 [15] 28 (by exact g_nilP rfl) ?_;refine zd 17 [15,16] 28 (by exact g_fa_ptr rfl rfl rfl rfl rfl) ?_;refine zd 18 [15,16,17] 28 (by exact g_load_ptr rfl rfl rfl rfl rfl) ?_;refine zd 19 [15,16,17,18] 28 (by exact g_arith (e := ((s.p - 1 : Nat) : Int)) rfl rfl rfl (by show IntKind.i64.wrap ((s.p : Int) - 1) = _; rw [show (s.p : Int) - 1 = ((s.p - 1 : Nat) : Int) by omega]; exact wrap_i64 (by omega))) ?_;refine zh 20 [9,10,15,16,17,18,19] 28 (by exact h_pure en_Repeats rfl rfl (by repeat (first | exact rfl | exact DLead.same | refine ⟨_, _, rfl, ?_, ?_⟩)) hR rfl) ?_;refine zd 21 [9,10,15,16,17,18,19,20] 28 (by exact g_saddB (a := [49]) (b := List.replicate (s.p - 1) 48) rfl rfl (by simp only [List.length_replicate, List.length_cons, List.length_nil]; omega)) ?_;refine zd 22 (List.range 22) 28 (by exact g_build rfl rfl rfl) ?_;refine zh 23 (List.range 23) 28 (by exact h_fun (cs := [3, 92, 2]) en_stgIf rfl rfl (by repeat (first | exact rfl | exact DLead.same | refine ⟨_, _, rfl, ?_, ?_⟩ | refine ⟨_, rfl, ?_⟩)) (by repeat (first | exact True.intro | refine And.intro ?_ ?_ | exact rfl | refine ⟨_, _, rfl, rfl, ?_⟩)) hI rfl rfl rfl rfl) ?_;refine zd 24 (List.range 24) 28 (by exact g_extract (r := .agg _) rfl rfl) ?_;refine zd 25 (List.range 24) 28 (by exact g_extract (r := .d _) rfl rfl) ?_;refine zh 26 (List.range 26) 28 (by exact h_store rfl rfl rfl rfl rfl rfl) ?_;refine zd 27 (List.range 27) 28 (by exact as1 rfl) ?_;refine zj 28 ?_;refine th_n ?_;refine AC.weak (t := ⟨32, 2000, [(4, .ptr 100 0), (5, aT false)], [(100, some zStg)]⟩) (zw [(100, _)] hC) ?_;refine AC.weak Weak.emptyT ?_;refine AC.weak (Weak.cons 2000 (fun w => TRep w (fun _ => False) (vTs []) (.slice none 0 0)) rfl (fun w _ => .nil (fun _ h => h)) (fun w w' hk h => h.turn hk)) ?_;refine AC.weak (Weak.nilOwnP 4 2 (e := 91) (sz := 2) rfl rfl rfl rfl rfl) ?_;refine AC.weak (Weak.nilOwnP 4 3 (e := 63) (sz := 2) rfl rfl rfl rfl rfl) ?_;refine AC.ret (bq_r ?_)
 exact retX [(4, 2000), (5, 2008), (6, 2016)] rfl ⟨.slice none 0 0, fun _ => False, rfl, rfl⟩ (by repeat (first | exact rfl | exact DLead.same | refine ⟨_, _, rfl, ?_, ?_⟩ | refine ⟨_, rfl, ?_⟩)) (by repeat (first | exact True.intro | refine And.intro ?_ ?_ | exact rfl | refine ⟨_, _, rfl, rfl, ?_⟩)) rfl rfl
theorem en_nbStg : Enters Tryz.prog 25 := enters_of Tryz.func25 rfl rfl
end Go.Proofs.YteakkoiflbaleaaGreat
