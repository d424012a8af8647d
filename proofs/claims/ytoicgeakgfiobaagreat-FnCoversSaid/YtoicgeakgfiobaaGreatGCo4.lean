/- Contracts of the functions of the program and of the reference, each proved by a walk through its code. -/
import Derived.WalkKit
import Derived.WalkSpells
import Derived.WalkLawsBesides
import Derived.Deep.Draws
import Derived.Lib.Hide
import Derived.Maps.AppendAt
import Derived.OwnWalk
import Derived.Deep.MidRow
import Derived.Laws.ResultCell
import Derived.Deep.Upon
import Derived.Great.FillDense
import Derived.Laws.Tables
import Derived.Laws.BytesArg
import Derived.Laws.MakeOwn
import Derived.Great.BuildSlice
import Derived.ArgAppend
import Derived.Deep.AppendSrc
import Derived.Test.YtoicgeakgfiobaaGreatProg
import Derived.KernelRfl
import Derived.Orders
import Derived.Laws.IdiomStrings
import Derived.Lib.AppendZerosOnto
import Derived.ProofKit
import Derived.OpenShut
import Derived.Lib.SliceRun
import Derived.Laws.RangeString
import Derived.Shelf.Strings.Builder1
import Derived.Shelf.Strings.Builder2
import Derived.Shelf.Strings.OnBuilder
import Derived.Shelf.Strings.Search1
import Derived.Shelf.Strings.Search2
import Derived.Shelf.Strings.Search3
import Derived.Shelf.LaysM
import Derived.Shelf.Strings.Shaped
import Derived.Test.YtoicgeakgfiobaaGreatRows
import Derived.Lib.IndexAny
import Derived.Laws.StructEq
import Derived.ChangeKeysEq
import Derived.Sort.Grow
import Derived.Below
import Derived.Laws.Small
import Derived.Laws.IdiomCopy
import Derived.Test.YtoicgeakgfiobaaGreatGCo3
set_option linter.all false
set_option maxRecDepth 20000
namespace Go.Proofs.YtoicgeakgfiobaaGreat
open Go.RowKit
structure Stg where
 net : Net
 sigs : List Sig
 labs : List Lab
 start : List UInt8
abbrev stgD (s : Stg) : List DV := [dI s.net.places, vTs s.net.ts, vSigs s.sigs, vLabs s.labs, dS (bstr s.start)]
abbrev stgA (s : Stg) : AV := .agg [aI s.net.places, .d (vTs s.net.ts), .d (vSigs s.sigs), .d (vLabs s.labs), aS (bstr s.start)]
def labOk (x : Lab) (n : Int) : Bool := (decide (0 ≤ x.sig) && decide (x.sig ≤ n - 1)) || (decide (x.sig = -1) && !x.up)
def goodS (s : Stg) : Bool := (goodN s.net && bitsB s.start s.net.places) && (sigsB s.sigs && (decide ((s.labs.length : Int) = s.net.ts.length) && s.labs.all (fun x => labOk x s.sigs.length)))
structure StgL (s : Stg) : Prop where
 n : NetL s.net
 sg : s.sigs.length ≤ 1048576
 sn : ∀ t, t ∈ s.sigs → t.name.length ≤ 1048576
 l : s.labs.length ≤ 1048576
 st : s.start.length ≤ 2000000
theorem l2Label_spec (x : Lab) (n : Nat) (hn : n ≤ 1048576) : ASpec Tryz.prog 92 [labA x, aI n] [] (Pure1 (aT (labOk x n))) := by
 have hX := l1In_spec x.sig 0 ((n : Int) - 1)
 have hk : labOk x n = ((decide (0 ≤ x.sig) && decide (x.sig ≤ (n : Int) - 1)) || (decide (x.sig = -1) && !x.up)) := rfl
 obtain ⟨b, hb⟩ : ∃ b, b = (decide (0 ≤ x.sig) && decide (x.sig ≤ (n : Int) - 1)) := ⟨_, rfl⟩
 rw [← hb] at hX hk
 clear hb
 refine ASpec.of Tryz.func92 rfl rfl fun C hC => ?_
 refine AC.seq (AC.region ?_)
 refine AL.q (by exact h_boxF rfl rfl) rfl ?_
 refine AL.p (by exact as1 rfl) rfl ?_
 refine AL.nil (th_n (AC.seq (AC.region ?_)))
 refine AL.p (by exact g_fa_ref rfl rfl rfl rfl rfl rfl) rfl ?_
 refine AL.p (by exact g_load_ref rfl rfl rfl) rfl ?_
 refine AL.p (by exact mv1 rfl) rfl ?_
 refine AL.p (by exact g_arith rfl rfl rfl (by exact wrap_i64 (by omega))) rfl ?_
 refine AL.q (by exact h_pure en_l1In rfl rfl (by repeat (first | exact rfl | exact DLead.same | refine ⟨_, _, rfl, ?_, ?_⟩)) hX rfl) rfl ?_
 refine AL.p (by exact mv1 rfl) rfl ?_
 refine AL.caseGB rfl rfl (fun h0 => ?_) (fun h0 => ?_)
 ·refine AL.not rfl rfl rfl rfl rfl ?_
  refine AL.not rfl rfl rfl rfl rfl ?_
  refine AL.not rfl rfl rfl rfl rfl ?_
  refine AL.not rfl rfl rfl rfl rfl ?_
  refine AL.notU rfl rfl rfl ?_
  refine AL.notU rfl rfl rfl ?_
  refine AL.notU rfl rfl rfl ?_
  refine AL.not rfl rfl rfl rfl rfl ?_
  refine AL.p (by exact g_pickT (r := .d _) rfl rfl) rfl ?_
  refine AL.p (by exact as1 rfl) rfl ?_
  refine AL.nil (th_n (AC.ret (bq_r ?_)))
  exact ret1 rfl (by rw [hk]; simp_all)
 ·refine AL.yes rfl rfl rfl ?_
  refine AL.p (by exact g_fa_ref rfl rfl rfl rfl rfl rfl) rfl ?_
  refine AL.yes rfl rfl rfl ?_
  refine AL.p (by exact g_load_ref rfl rfl rfl) rfl ?_
  refine AL.yes rfl rfl rfl ?_
  refine AL.p (by exact g_cmp rfl rfl rfl) rfl ?_
  refine AL.yes rfl rfl rfl ?_
  refine AL.p (by exact mv1 rfl) rfl ?_
  refine AL.caseG rfl rfl (fun h1 => ?_) (fun h1 => ?_)
  ·refine AL.yes rfl rfl rfl ?_
   refine AL.p (by exact g_fa_ref rfl rfl rfl rfl rfl rfl) rfl ?_
   refine AL.yes rfl rfl rfl ?_
   refine AL.p (by exact g_load_ref rfl rfl rfl) rfl ?_
   refine AL.yes rfl rfl rfl ?_
   refine AL.p (by exact g_not rfl) rfl ?_
   refine AL.yes rfl rfl rfl ?_
   refine AL.p (by exact g_pickT (r := .d _) rfl rfl) rfl ?_
   refine AL.p (by exact g_pickF (r := .d _) rfl rfl) rfl ?_
   refine AL.p (by exact as1 rfl) rfl ?_
   refine AL.nil (th_n (AC.ret (bq_r ?_)))
   exact ret1 rfl (by rw [hk]; simp_all)
  ·refine AL.not rfl rfl rfl rfl rfl ?_
   refine AL.not rfl rfl rfl rfl rfl ?_
   refine AL.not rfl rfl rfl rfl rfl ?_
   refine AL.yes rfl rfl rfl ?_
   refine AL.p (by exact g_pickF (r := .d _) rfl rfl) rfl ?_
   refine AL.p (by exact g_pickF (r := .d _) rfl rfl) rfl ?_
   refine AL.p (by exact as1 rfl) rfl ?_
   refine AL.nil (th_n (AC.ret (bq_r ?_)))
   exact ret1 rfl (by rw [hk]; simp_all)
theorem en_l2Label : Enters Tryz.prog 92 := enters_of Tryz.func92 rfl rfl
set_option maxHeartbeats 2000000 in
theorem l2Good_spec (s : Stg) (h : StgL s) : ASpec Tryz.prog 80 [stgA s] [] (Pure1 (aT (goodS s))) := by
 have hM := l1Mark_spec s.net s.start h.st
 have hN := l1Good_gen s.net h.n
 have hS := l2Signals_spec s.sigs h.sg h.sn
 have hll := h.l
 have htl := h.n.l
 have hg : goodS s = ((goodN s.net && bitsB s.start s.net.places) && (sigsB s.sigs && (decide ((s.labs.length : Int) = s.net.ts.length) && s.labs.all (fun x => labOk x s.sigs.length)))) := rfl
 obtain ⟨b1, hb1⟩ : ∃ b, b = goodN s.net := ⟨_, rfl⟩
 obtain ⟨b2, hb2⟩ : ∃ b, b = sigsB s.sigs := ⟨_, rfl⟩
 obtain ⟨b3, hb3⟩ : ∃ b, b = bitsB s.start s.net.places := ⟨_, rfl⟩
 rw [← hb1] at hN hg
 rw [← hb2] at hS hg
 rw [← hb3] at hM hg
 clear hb1 hb2 hb3
 refine ASpec.of Tryz.func80 rfl rfl fun C hC => ?_
 refine AC.seq (AC.region ?_)
 refine AL.q (by exact h_boxF rfl rfl) rfl ?_
 refine AL.p (by exact as1 rfl) rfl ?_
 refine AL.nil (th_n (AC.seq (AC.seq (AC.region ?_))))
 refine AL.p (by exact g_fa_ref rfl rfl rfl rfl rfl rfl) rfl ?_
 refine AL.p (by exact g_load_ref rfl rfl rfl) rfl ?_
 refine AL.p (by exact g_len_view rfl rfl (by exact List.length_map _)) rfl ?_
 refine AL.p (by exact mv1 rfl) rfl ?_
 refine AL.nil (th_n (AC.block ?_))
 refine AC.loop (ι := Nat) (fun k => ⟨44, 0, [(1, .d (.ref (stgD s))), (6, .d (vLabs s.labs)), (7, aI s.labs.length), (8, aI k)], []⟩) (fun k => k ≤ s.labs.length ∧ ∀ j (hj : j < s.labs.length), j < k → labOk s.labs[j] s.sigs.length = true) (fun k => s.labs.length - k) (0) ?_ (⟨Nat.zero_le _, fun j _ hj => by omega⟩) ?_
 ·refine Weak.ren _ [] hC rfl ?_ ?_ rfl rfl rfl <;> repeat (first | exact True.intro | refine And.intro ?_ ?_ | exact DLead.same)
 ·intro k ⟨hk, hall⟩
  refine AC.seq (AC.region ?_)
  refine AL.p (by exact g_cmp rfl rfl rfl) rfl ?_
  refine AL.nil (th_n (AC.seq ?_))
  refine AC.condD rfl (fun h0 => ?_) (fun h0 => ?_)
  ·refine AC.skip (th_n (AC.seq (AC.block (AC.seq ?_))))
   have hk1 : k < s.labs.length := by omega
   have hget := labsL_get hk1
   have hL := l2Label_spec s.labs[k] s.sigs.length h.sg
   obtain ⟨c, hc⟩ : ∃ c, c = labOk s.labs[k] s.sigs.length := ⟨_, rfl⟩
   rw [← hc] at hL
   refine AC.region ?_
   refine AL.p (by exact g_ia_view rfl rfl rfl rfl rfl (by rfl) (by assumption)) rfl ?_
   refine AL.p (by exact g_load_refN rfl rfl rfl rfl) rfl ?_
   refine AL.q (by exact h_alloc rfl) rfl ?_
   refine AL.q (by exact h_store rfl rfl rfl rfl rfl rfl) rfl ?_
   refine AL.nil (th_n (AC.seq ?_))
   refine AC.weak (Weak.freezeRef (ds := labD s.labs[k]) 4 rfl rfl) ?_
   refine AC.region ?_
   refine AL.p (by exact g_load_refN rfl rfl rfl rfl) rfl ?_
   refine AL.p (by exact g_fa_ref rfl rfl rfl rfl rfl rfl) rfl ?_
   refine AL.p (by exact g_load_ref rfl rfl rfl) rfl ?_
   refine AL.p (by exact g_len_view rfl rfl (by exact List.length_map _)) rfl ?_
   refine AL.q (by exact h_pure en_l2Label rfl rfl (by repeat (first | exact rfl | exact DLead.same | refine ⟨_, _, rfl, ?_, ?_⟩ | refine ⟨_, rfl, ?_⟩)) hL rfl) rfl ?_
   refine AL.p (by exact g_not rfl) rfl ?_
   refine AL.nil (th_n ?_)
   refine AC.condB rfl (fun h1 => ?_) (fun h1 => ?_)
   ·refine AC.seq (AC.region ?_)
    refine AL.p (by exact as1 rfl) rfl ?_
    refine AL.nil (th_n (AC.ret (ib_r (th_r (th_r (ib_r (th_r (bq_r ?_))))))))
    have hbad : s.labs.all (fun x => labOk x s.sigs.length) = false := List.all_eq_false.2 ⟨_, List.getElem_mem hk1, by rw [← hc]; simpa using h1⟩
    exact ret1 rfl (by rw [hg, hbad]; simp)
   ·refine AC.skip (ib_n (th_n (AC.region ?_)))
    refine AL.p (by exact g_arith rfl rfl rfl (by exact wrap_i64 (by omega))) rfl ?_
    refine AL.p (by exact mv1 rfl) rfl ?_
    refine AL.nil (th_n ?_)
    exact ⟨k + 1, ⟨by omega, fun j hj hj2 => by rcases Nat.lt_succ_iff_lt_or_eq.1 hj2 with h | rfl; exact hall j hj h; exact hc.symm.trans (by simpa using h1)⟩, by omega, Weak.ren _ [] hC rfl (by repeat (first | exact True.intro | refine And.intro ?_ ?_ | exact DLead.same)) (by repeat (exact True.intro)) rfl rfl rfl⟩
  ·refine AC.exit (th_e (th_e (ib_y (th_n (AC.seq ?_)))))
   have hA : s.labs.all (fun x => labOk x s.sigs.length) = true := List.all_eq_true.2 (fun x hx => by obtain ⟨j, hj, rfl⟩ := List.getElem_of_mem hx; exact hall j hj (by omega))
   rw [hA, Bool.and_true] at hg
   refine AC.region ?_
   refine AL.p (by exact g_fa_ref rfl rfl rfl rfl rfl rfl) rfl ?_
   refine AL.p (by exact g_load_refN rfl rfl rfl rfl) rfl ?_
   refine AL.q (by exact h_pure en_l1Good rfl rfl (by repeat (first | exact rfl | exact DLead.same | refine ⟨_, _, rfl, ?_, ?_⟩ | refine ⟨_, rfl, ?_⟩)) hN rfl) rfl ?_
   refine AL.p (by exact mv1 rfl) rfl ?_
   refine AL.caseGB rfl rfl (fun h1 => ?_) (fun h1 => ?_)
   ·refine AL.yes rfl rfl rfl ?_
    refine AL.p (by exact g_fa_ref rfl rfl rfl rfl rfl rfl) rfl ?_
    refine AL.yes rfl rfl rfl ?_
    refine AL.p (by exact g_load_ref rfl rfl rfl) rfl ?_
    refine AL.yes rfl rfl rfl ?_
    refine AL.q (by exact h_pure en_l2Signals rfl rfl (by repeat (first | exact rfl | exact DLead.same | refine ⟨_, _, rfl, ?_, ?_⟩)) hS rfl) rfl ?_
    refine AL.p (by exact g_pickT (r := .d _) rfl rfl) rfl ?_
    refine AL.p (by exact mv1 rfl) rfl ?_
    refine AL.caseGB rfl rfl (fun h2 => ?_) (fun h2 => ?_)
    ·refine AL.yes rfl rfl rfl ?_
     refine AL.p (by exact g_fa_ref rfl rfl rfl rfl rfl rfl) rfl ?_
     refine AL.yes rfl rfl rfl ?_
     refine AL.p (by exact g_load_ref rfl rfl rfl) rfl ?_
     refine AL.yes rfl rfl rfl ?_
     refine AL.p (by exact g_len_view rfl rfl (by exact List.length_map _)) rfl ?_
     refine AL.yes rfl rfl rfl ?_
     refine AL.p (by exact g_fa_ref rfl rfl rfl rfl rfl rfl) rfl ?_
     refine AL.yes rfl rfl rfl ?_
     refine AL.p (by exact g_fa_ref rfl rfl rfl rfl rfl rfl) rfl ?_
     refine AL.yes rfl rfl rfl ?_
     refine AL.p (by exact g_load_ref rfl rfl rfl) rfl ?_
     refine AL.yes rfl rfl rfl ?_
     refine AL.p (by exact g_len_view rfl rfl (by exact List.length_map _)) rfl ?_
     refine AL.yes rfl rfl rfl ?_
     refine AL.p (by exact g_cmp rfl rfl rfl) rfl ?_
     refine AL.p (by exact g_pickT (r := .d _) rfl rfl) rfl ?_
     refine AL.p (by exact mv1 rfl) rfl ?_
     refine AL.caseG rfl rfl (fun h3 => ?_) (fun h3 => ?_)
     ·refine AL.yes rfl rfl rfl ?_
      refine AL.p (by exact g_fa_ref rfl rfl rfl rfl rfl rfl) rfl ?_
      refine AL.yes rfl rfl rfl ?_
      refine AL.p (by exact g_load_refN rfl rfl rfl rfl) rfl ?_
      refine AL.yes rfl rfl rfl ?_
      refine AL.p (by exact g_fa_ref rfl rfl rfl rfl rfl rfl) rfl ?_
      refine AL.yes rfl rfl rfl ?_
      refine AL.p (by exact g_load_ref rfl rfl rfl) rfl ?_
      refine AL.yes rfl rfl rfl ?_
      refine AL.q (by exact h_pure en_l1Mark rfl rfl (by repeat (first | exact rfl | exact DLead.same | refine ⟨_, _, rfl, ?_, ?_⟩ | refine ⟨_, rfl, ?_⟩)) hM rfl) rfl ?_
      refine AL.p (by exact g_pickT (r := .d _) rfl rfl) rfl ?_
      refine AL.p (by exact as1 rfl) rfl ?_
      refine AL.nil (th_n (AC.ret (bq_r ?_)))
      exact ret1 rfl (by clear hM hN hS hall; rw [hg]; simp_all)
     ·refine AL.not rfl rfl rfl rfl rfl ?_
      refine AL.not rfl rfl rfl rfl rfl ?_
      refine AL.not rfl rfl rfl rfl rfl ?_
      refine AL.not rfl rfl rfl rfl rfl ?_
      refine AL.not rfl rfl rfl rfl rfl ?_
      refine AL.p (by exact g_pickF (r := .d _) rfl rfl) rfl ?_
      refine AL.p (by exact as1 rfl) rfl ?_
      refine AL.nil (th_n (AC.ret (bq_r ?_)))
      exact ret1 rfl (by clear hM hN hS hall; rw [hg]; simp_all)
    ·refine AL.not rfl rfl rfl rfl rfl ?_
     refine AL.not rfl rfl rfl rfl rfl ?_
     refine AL.not rfl rfl rfl rfl rfl ?_
     refine AL.not rfl rfl rfl rfl rfl ?_
     refine AL.not rfl rfl rfl rfl rfl ?_
     refine AL.not rfl rfl rfl rfl rfl ?_
     refine AL.not rfl rfl rfl rfl rfl ?_
     refine AL.not rfl rfl rfl rfl rfl ?_
     refine AL.p (by exact g_pickF (r := .d _) rfl rfl) rfl ?_
     refine AL.p (by exact mv1 rfl) rfl ?_
     refine AL.not rfl rfl rfl rfl rfl ?_
     refine AL.not rfl rfl rfl rfl rfl ?_
     refine AL.not rfl rfl rfl rfl rfl ?_
     refine AL.not rfl rfl rfl rfl rfl ?_
     refine AL.not rfl rfl rfl rfl rfl ?_
     refine AL.p (by exact g_pickF (r := .d _) rfl rfl) rfl ?_
     refine AL.p (by exact as1 rfl) rfl ?_
     refine AL.nil (th_n (AC.ret (bq_r ?_)))
     exact ret1 rfl (by clear hM hN hS hall; rw [hg]; simp_all)
   ·refine AL.not rfl rfl rfl rfl rfl ?_
    refine AL.not rfl rfl rfl rfl rfl ?_
    refine AL.not rfl rfl rfl rfl rfl ?_
    refine AL.p (by exact g_pickF (r := .d _) rfl rfl) rfl ?_
    refine AL.p (by exact mv1 rfl) rfl ?_
    refine AL.not rfl rfl rfl rfl rfl ?_
    refine AL.not rfl rfl rfl rfl rfl ?_
    refine AL.not rfl rfl rfl rfl rfl ?_
    refine AL.not rfl rfl rfl rfl rfl ?_
    refine AL.not rfl rfl rfl rfl rfl ?_
    refine AL.not rfl rfl rfl rfl rfl ?_
    refine AL.not rfl rfl rfl rfl rfl ?_
    refine AL.not rfl rfl rfl rfl rfl ?_
    refine AL.p (by exact g_pickF (r := .d _) rfl rfl) rfl ?_
    refine AL.p (by exact mv1 rfl) rfl ?_
    refine AL.not rfl rfl rfl rfl rfl ?_
    refine AL.not rfl rfl rfl rfl rfl ?_
    refine AL.not rfl rfl rfl rfl rfl ?_
    refine AL.not rfl rfl rfl rfl rfl ?_
    refine AL.not rfl rfl rfl rfl rfl ?_
    refine AL.p (by exact g_pickF (r := .d _) rfl rfl) rfl ?_
    refine AL.p (by exact as1 rfl) rfl ?_
    refine AL.nil (th_n (AC.ret (bq_r ?_)))
    exact ret1 rfl (by clear hM hN hS hall; rw [hg]; simp_all)
theorem en_l2Good : Enters Tryz.prog 80 := enters_of Tryz.func80 rfl rfl
theorem DRep.val_is {F : Nat → Prop} {w : World} {u v : Value} (h : DRep F w (.val u) v) : v = u ∧ okV u := by
 cases h with
 | val h => exact ⟨rfl, h⟩
section
variable {P : Program} [PT P]
variable {s : ASt} {dst : Option Nat} {ty : Nat} {pos : String} {af : Array Edge} {gd : Option (Nat × Bool)} {x y : Operand} {t : Nat}
theorem g_saddB {a b : List UInt8} {xt yt : Nat} (hx : s.ev x = aS (bstr a)) (hy : s.ev y = aS (bstr b)) (hl : a.length + b.length ≤ 4611686018427387904) : GOp P [] s ⟨dst, .binOp .add xt x y yt, ty, pos, af, gd⟩ (aS (bstr (a ++ b))) := by
 rw [← bstr_append]
 exact g_sadd hx hy (by rw [bstr_size, bstr_size]; omega)
end
theorem ASpec.ofJoin {P : Program} {g : FuncId} {te : Nat} {xs : List ByteArray} {sep b : ByteArray} (h0 : xs ≠ []) (hx : xs.length ≤ 1000000) (hb : b.size ≤ 70368744177664)
  (h : ∀ (bk o c : Nat) (w : World), (∀ (j : Nat) x, xs[j]? = some x → w.cell? ⟨bk, o + j, none⟩ = some (.string x)) → bk < w.heap.size → xs.length ≤ 140737488355328 → xs.length ≤ c → Calls P g #[.slice (some ⟨bk, o, none⟩) xs.length c, .string sep] w fun e w' => e = .returned (.string b) ∧ Below w.heap.size w w') :
  ASpec P g [.d (.view te 1 (xs.map fun x => [dS x])), aS sep] [] (Pure1 (aS b)) := by
 intro w m Fin vs hfin hn ha hch hinj hm
 have hv0 := ha 0 _ rfl
 have hv1 := ha 1 _ rfl
 have hv : vs = #[vs.getD 0 undef, .string sep] := by
  apply Array.ext
  ·rw [hn]; rfl
  ·intro i hi1 hi2
   match i with
   | 0 => simp [Array.getD_eq_getD_getElem?, Array.getElem?_eq_getElem hi1]
   | 1 => have := hv1.val_eq.1; rw [Array.getD_eq_getD_getElem?, Array.getElem?_eq_getElem hi1] at this; simpa using this
   | i + 2 => simp at hi2; omega
 generalize vs.getD 0 undef = v0 at hv0 hv
 subst hv
 have hpos : 0 < xs.length := List.length_pos_iff.2 h0
 cases hv0 with
 | d hd =>
  generalize hels : (xs.map fun x => [dS x]) = els at hd
  have hlen : els.length = xs.length := by rw [← hels, List.length_map]
  cases hd with
  | nil => rw [List.length_nil] at hlen; omega
  | empty => rw [List.length_nil] at hlen; omega
  | view hF hbk g1 g2 g3 g4 g5 =>
   rename_i e2 bk off cap arr fz
   have hcells : ∀ (j : Nat) x, xs[j]? = some x → w.cell? ⟨bk, off + j, none⟩ = some (.string x) := by
    intro j x hj
    have hjl := (List.getElem?_eq_some_iff.1 hj).1
    have hd := g5 j [dS x] 0 (dS x) (by rw [← hels, List.getElem?_map, hj]; rfl) rfl
    have e5 := hd.val_is.1
    rw [Nat.mul_one, Nat.add_zero] at e5
    have hlt : off + j < arr.size := by omega
    unfold World.cell?
    simp only [hbk, Option.isSome_none, Bool.false_eq_true, if_false]
    rw [Array.getD_eq_getD_getElem?, Array.getElem?_eq_getElem hlt] at e5
    rw [Array.getElem?_eq_getElem hlt]
    simp only [Option.getD_some] at e5
    rw [e5]
   have hblt : bk < w.heap.size := lt_of_block hbk
   have hcap : xs.length ≤ cap := by omega
   have := h bk off cap w hcells hblt (by omega) hcap
   rw [← hlen] at this
   refine this.mono ?_
   rintro e w' ⟨rfl, hB⟩
   refine ⟨_, _, [], m, fun k => (Fin k ∨ (∃ id c p, getL id ([] : List (Nat × Chunk)) = some c ∧ m id = some p ∧ occ p c k) ∨ w.heap.size ≤ k) ∧ k < w'.heap.size ∧ ∀ id c p, getL id ([] : List (Nat × Chunk)) = some c → m id = some p → ¬ occ p c k, rfl, ⟨rfl, rfl⟩, fun _ _ _ h => h, fun id hid => hm id (by simp only [List.length_nil] at hid ⊢; omega), fun k => Iff.rfl, ⟨hB.os, hB.tape, hB.output, hB.size, fun k hk _ => hB.block k hk⟩, .d (.val (by show b.size ≤ maxLen; simp only [maxLen]; omega)), fun id c hc => by simp [getL] at hc, fun id id' c c' p p' b hc => by simp [getL] at hc⟩
open Go.ChangeShapes Go.WideShapes Go.ChangeAt Go.RowKit
section
variable {H : Type} {enc : TypeId × Value → H} {P : Program}
structure RT (enc : TypeId × Value → H) (P : Program) (t : TypeId) (k : Nat) {α : Type} (f : α → List DV) (ok : α → Prop) : Prop where
 rd : ∀ (W : World) (fuel : Nat) (cs : List Value) (x : DataW H × List MemPlace), DataW.trod enc P W 0 (fun _ => true) true fuel t cs = some x →
  cs.length = k ∧ ∃ a, ok a ∧ (f a).length = k ∧ ∀ j d, (f a)[j]? = some d → DRep (fun k => k < W.heap.size) W d (cs.getD j undef)
theorem get1 {x d : DV} {j : Nat} (h : [x][j]? = some d) : j = 0 ∧ d = x := by
 cases j with
 | zero => simp at h; exact ⟨rfl, h.symm⟩
 | succ j => simp at h
def okI (n : Int) : Prop := -9223372036854775808 ≤ n ∧ n ≤ 9223372036854775807
theorem RT.int {t : TypeId} (ht : P.underlying t = some (.int .i64)) : RT enc P t 1 (fun n : Int => [dI n]) okI := by
 refine ⟨fun W fuel cs x h => ?_⟩
 obtain ⟨n, rfl, rfl, hwf⟩ := DataW.trod_int ht h
 have hb := bounds_i64 hwf
 refine ⟨rfl, n, hb, rfl, fun j d hj => ?_⟩
 obtain ⟨rfl, rfl⟩ := get1 hj
 refine .val ?_
 show IntKind.i64.wrap n = n
 exact wrap_i64 hb
theorem RT.bool {t : TypeId} (ht : P.underlying t = some .bool) : RT enc P t 1 (fun b : Bool => [dT b]) (fun _ => True) := by
 refine ⟨fun W fuel cs x h => ?_⟩
 obtain ⟨b, rfl, rfl⟩ := DataW.trod_bool ht h
 exact ⟨rfl, b, trivial, rfl, fun j d hj => by obtain ⟨rfl, rfl⟩ := get1 hj; exact .val trivial⟩
theorem RT.str {t : TypeId} (ht : P.underlying t = some .string) : RT enc P t 1 (fun s : List UInt8 => [dS (bstr s)]) (fun s => s.length ≤ 9223372036854775807) := by
 refine ⟨fun W fuel cs x h => ?_⟩
 obtain ⟨s, rfl, rfl, hm⟩ := DataW.trod_string ht h
 have hsz : s.data.toList.length = s.size := by simp
 have he : bstr s.data.toList = s := by
  apply ByteArray.ext
  simp [bstr]
 refine ⟨rfl, s.data.toList, by rw [hsz]; exact hm, rfl, fun j d hj => ?_⟩
 simp only [he] at hj
 obtain ⟨rfl, rfl⟩ := get1 hj
 exact .val hm
theorem list_of {α : Type} {n : Nat} {Q : Nat → α → Prop} (h : ∀ i, i < n → ∃ a, Q i a) : ∃ l : List α, l.length = n ∧ ∀ i a, l[i]? = some a → Q i a := by
 induction n with
 | zero => exact ⟨[], rfl, fun i a h => by simp at h⟩
 | succ n ih =>
  obtain ⟨l, hl, hq⟩ := ih fun i hi => h i (by omega)
  obtain ⟨a, ha⟩ := h n (by omega)
  refine ⟨l ++ [a], by simp [hl], fun i b hb => ?_⟩
  by_cases hi : i < l.length
  ·rw [List.getElem?_append_left hi] at hb; exact hq i b hb
  ·rw [List.getElem?_append_right (by omega)] at hb
   have h0 : i - l.length = 0 := by
    by_cases e : i - l.length = 0
    ·exact e
    ·rw [List.getElem?_eq_none (by simp; omega)] at hb; cases hb
   rw [h0] at hb
   simp at hb; subst hb
   have : i = n := by omega
   subst this; exact ha
theorem RT.slice {t e : TypeId} {k : Nat} {α : Type} {f : α → List DV} {ok : α → Prop} (te : Nat) (ht : P.underlying t = some (.slice e)) (hc : P.cellsOf e = k) (hk : 0 < k) (hr : RT enc P e k f ok) :
  RT enc P t 1 (fun l : List α => [.view te k (l.map f)]) (fun l => l.length ≤ 9223372036854775807 ∧ ∀ a, a ∈ l → ok a) := by
 refine ⟨fun W fuel cs x h => ?_⟩
 rcases DataW.trod_slice ht h with ⟨rfl, _⟩ | ⟨a, len, cap, elems, rest, n, _, rfl, _, _, hl, hm, hlen, hel, hsp, _⟩
 ·exact ⟨rfl, [], ⟨Nat.zero_le _, fun a ha => absurd ha List.not_mem_nil⟩, rfl, fun j d hj => by obtain ⟨rfl, rfl⟩ := get1 hj; exact .nil⟩
 ·refine ⟨rfl, ?_⟩
  rw [hc] at hel hsp
  obtain ⟨hrl, hrs⟩ := hsp rfl
  -- every element up to the capacity is there
  have hcell : ∀ i, i < cap → ∃ cs', W.cells? 0 (a.add (i * k)) k = some cs' ∧ ∃ y, DataW.trod enc P W 0 (fun _ => true) true n e cs' = some y := by
   intro i hi
   by_cases hil : i < len
   ·have h1 := hel i hil
    rw [List.getElem?_eq_getElem (by omega)] at h1
    obtain ⟨cs', h2, h3⟩ := Option.bind_eq_some_iff.1 h1
    exact ⟨cs', h2, _, h3⟩
   ·have h1 := hrs (i - len) (by omega)
    rw [show len + (i - len) = i by omega, List.getElem?_eq_getElem (by omega)] at h1
    obtain ⟨cs', h2, h3⟩ := Option.bind_eq_some_iff.1 h1
    exact ⟨cs', h2, _, h3⟩
  by_cases hc0 : cap = 0
  ·subst hc0
   have : len = 0 := by omega
   subst this
   exact ⟨[], ⟨Nat.zero_le _, fun a ha => absurd ha List.not_mem_nil⟩, rfl, fun j d hj => by obtain ⟨rfl, rfl⟩ := get1 hj; exact .empty⟩
  ·obtain ⟨b, off, sp⟩ := a
   have hrow : ∀ i, i < cap → ∀ j, j < k → ∃ v, W.cell? (((⟨b, off, sp⟩ : Addr).add (i * k)).add j) = some v := by
    intro i hi j hj
    obtain ⟨cs', h1, _⟩ := hcell i hi
    obtain ⟨_, h2, h3⟩ := World.cells?_some h1
    rw [h3 j hj, List.getElem?_eq_getElem (by omega)]
    exact ⟨_, rfl⟩
   have h00 := hrow 0 (by omega) 0 hk
   have hsp0 : sp = none := by
    obtain ⟨v, hv⟩ := h00
    cases sp with
    | none => rfl
    | some q =>
     unfold World.cell? Addr.add at hv
     split at hv
     ·split at hv <;> simp_all
     ·cases hv
   subst hsp0
   have hadd : ∀ i j, ((⟨b, off, none⟩ : Addr).add (i * k)).add j = ⟨b, off + i * k + j, none⟩ := fun i j => by rw [Addr.add_mid, Addr.add_mid]
   simp only [hadd] at hrow
   obtain ⟨arr, e2, fz, hb⟩ : ∃ arr e2 fz, W.heap[b]? = some (.cells arr e2 fz) := by
    obtain ⟨v, hv⟩ := hrow 0 (by omega) 0 hk
    unfold World.cell? at hv
    split at hv
    ·rename_i c e2 fz hb; exact ⟨c, e2, fz, hb⟩
    ·cases hv
   have hget : ∀ q, W.cell? ⟨b, q, none⟩ = arr[q]? := by intro q; simp [World.cell?, hb]
   have hsz : off + cap * k ≤ arr.size := by
    obtain ⟨v, hv⟩ := hrow (cap - 1) (by omega) (k - 1) (by omega)
    rw [hget] at hv
    have := (Array.getElem?_eq_some_iff.1 hv).1
    obtain ⟨c, rfl⟩ : ∃ c, cap = c + 1 := ⟨cap - 1, by omega⟩
    rw [Nat.add_sub_cancel] at this
    rw [Nat.succ_mul]; omega
   have hall : ∀ i, i < len → ∃ a, ok a ∧ (f a).length = k ∧ ∀ j d, (f a)[j]? = some d → DRep (fun k => k < W.heap.size) W d (arr.getD (off + i * k + j) undef) := by
    intro i hi
    obtain ⟨cs', h1, y, h2⟩ := hcell i (by omega)
    obtain ⟨h3, a, h4, h5, h6⟩ := hr.rd W n cs' y h2
    obtain ⟨_, h7, h8⟩ := World.cells?_some h1
    refine ⟨a, h4, h5, fun j d hj => ?_⟩
    have hj1 := (List.getElem?_eq_some_iff.1 hj).1
    have h9 := h8 j (by omega)
    rw [hadd, hget] at h9
    have : arr.getD (off + i * k + j) undef = cs'.getD j undef := by
     rw [Array.getD_eq_getD_getElem?, h9, List.getD_eq_getElem?_getD]
    rw [this]
    exact h6 j d hj
   obtain ⟨l, hll, hq⟩ := list_of hall
   have hin : ∀ a, a ∈ l → ok a ∧ (f a).length = k := by
    intro a ha
    obtain ⟨i, hi⟩ := List.getElem?_of_mem ha
    exact ⟨(hq i a hi).1, (hq i a hi).2.1⟩
   refine ⟨l, ⟨by have : cap ≤ 9223372036854775807 := hm; omega, fun a ha => (hin a ha).1⟩, rfl, fun j d hj => ?_⟩
   obtain ⟨rfl, rfl⟩ := get1 hj
   have hle : (l.map f).length = len := by rw [List.length_map, hll]
   have hv := DRep.view (F := fun k => k < W.heap.size) (w := W) (e := te) (sz := k) (els := l.map f) (b := b) (off := off) (cap := cap) (arr := arr) (lt_of_block hb) hb (by omega) hm hsz (fun i cs hi => ?_) (fun i cs j d hi hj => ?_)
   ·rw [hle] at hv; exact hv
   ·rw [List.getElem?_map, Option.map_eq_some_iff] at hi
    obtain ⟨a, ha, rfl⟩ := hi
    exact (hin a (List.mem_of_getElem? ha)).2
   ·rw [List.getElem?_map, Option.map_eq_some_iff] at hi
    obtain ⟨a, ha, rfl⟩ := hi
    exact (hq i a ha).2.2 j d hj
theorem RT.imp {t : TypeId} {k : Nat} {α β : Type} {f : α → List DV} {ok : α → Prop} {f' : β → List DV} {ok' : β → Prop} (h : RT enc P t k f ok) (g : α → β) (hf : ∀ a, ok a → f' (g a) = f a) (ho : ∀ a, ok a → ok' (g a)) : RT enc P t k f' ok' :=
 ⟨fun W fuel cs x hx => by
  obtain ⟨h1, a, h2, h3, h4⟩ := h.rd W fuel cs x hx
  exact ⟨h1, g a, ho a h2, by rw [hf a h2]; exact h3, by rw [hf a h2]; exact h4⟩⟩
end
inductive AReps (m : Nat → Option (Option Nat × Nat)) (F : Nat → Prop) (W : World) : List AV → List Value → Prop
 | nil : AReps m F W [] []
 | cons {x : AV} {v : Value} {xs : List AV} {vs : List Value} : ARep m F W x v → AReps m F W xs vs → AReps m F W (x :: xs) (v :: vs)
theorem AReps.at {m : Nat → Option (Option Nat × Nat)} {F : Nat → Prop} {W : World} {xs : List AV} {vs : List Value} (h : AReps m F W xs vs) : ∀ (i : Nat) a, xs[i]? = some a → ARep m F W a (vs.toArray.getD i undef) := by
 have key : ∀ (i : Nat) a, xs[i]? = some a → ARep m F W a (vs.getD i undef) := by
  induction h with
  | nil => intro i a h; simp at h
  | cons h _ ih =>
   intro i a hi
   cases i with
   | zero => simp at hi; subst hi; exact h
   | succ i => simp at hi; exact ih i a hi
 intro i a hi
 have := key i a hi
 have e : vs.toArray.getD i undef = vs.getD i undef := by simp [List.getD_eq_getElem?_getD, Array.getD_eq_getD_getElem?]
 rwa [e]
inductive TRep (w : World) : (Nat → Prop) → DV → Value → Prop
 | val {S : Nat → Prop} {v : Value} : (∀ k, ¬ S k) → okV v → TRep w S (.val v) v
 | nil {S : Nat → Prop} {e sz : Nat} : (∀ k, ¬ S k) → TRep w S (.view e sz []) (.slice none 0 0)
 | view {S : Nat → Prop} {e sz : Nat} {els : List (List DV)} {b cap : Nat} {vs : Array Value} {fz : Nat × Nat} (Ts : Nat → Nat → Prop) : w.heap[b]? = some (.cells vs e fz) → (∀ (i : Nat), i < vs.size → ¬ (fz.1 ≤ i ∧ i < fz.2)) → vs.size = cap * sz → els.length ≤ cap → cap ≤ maxLen → 0 < sz →
   (∀ (i : Nat) (cs : List DV), els[i]? = some cs → cs.length = sz) → (∀ (i : Nat) (cs : List DV) (j : Nat) (d : DV), els[i]? = some cs → cs[j]? = some d → TRep w (Ts (i * sz + j)) d (vs.getD (i * sz + j) undef)) →
   (∀ c, ¬ Ts c b) → (∀ c c' k, Ts c k → Ts c' k → c = c') → (∀ k, S k ↔ k = b ∨ ∃ c, c < els.length * sz ∧ Ts c k) → TRep w S (.view e sz els) (.slice (some ⟨b, 0, none⟩) els.length cap)
theorem TRep.lt {w : World} {S : Nat → Prop} {x : DV} {v : Value} (h : TRep w S x v) : ∀ k, S k → k < w.heap.size := by
 induction h with
 | val h _ => intro k h'; exact absurd h' (h k)
 | nil h => intro k h'; exact absurd h' (h k)
 | @view S e sz els b cap vs fz Ts hb _ _ _ _ hz hr _ _ _ hS ih =>
  intro k hk
  rcases (hS k).1 hk with rfl | ⟨c, hc, hk⟩
  ·exact lt_of_block hb
  ·have h1 : c / sz < els.length := Nat.div_lt_of_lt_mul (by rw [Nat.mul_comm]; exact hc)
   have h2 : c % sz < sz := Nat.mod_lt _ hz
   have e1 := List.getElem?_eq_getElem h1
   have h3 := hr _ _ e1
   have e2 : c / sz * sz + c % sz = c := Nat.div_add_mod' c sz
   have := ih _ _ _ _ e1 (List.getElem?_eq_getElem (by rw [h3]; exact h2)) k
   rw [e2] at this
   exact this hk
theorem TRep.turn {w w' : World} {S : Nat → Prop} {x : DV} {v : Value} (h : TRep w S x v) : (∀ k, S k → w'.heap[k]? = w.heap[k]?) → TRep w' S x v := by
 induction h with
 | val h0 h => intro _; exact .val h0 h
 | nil h0 => intro _; exact .nil h0
 | @view S e sz els b cap vs fz Ts hb h1 h2 h3 h4 h5 h6 h7 h8 h9 h10 ih =>
  intro hk
  refine .view Ts ((hk _ ((h10 _).2 (.inl rfl))).trans hb) h1 h2 h3 h4 h5 h6 (fun i cs j d hi hj => ih i cs j d hi hj (fun k hk' => hk k ((h10 k).2 (.inr ⟨_, ?_, hk'⟩)))) h8 h9 h10
  have hi1 := (List.getElem?_eq_some_iff.1 hi).1
  have hj1 := (List.getElem?_eq_some_iff.1 hj).1
  rw [h6 i cs hi] at hj1
  have h := Nat.mul_le_mul_right sz hi1
  rw [Nat.succ_mul] at h
  omega
theorem TRep.data {w : World} {S : Nat → Prop} {x : DV} {v : Value} (h : TRep w S x v) : DRep S w x v := by
 induction h with
 | val _ h => exact .val h
 | nil _ => exact .nil
 | @view S e sz els b cap vs fz Ts hb h1 h2 h3 h4 h5 h6 h7 h8 h9 h10 ih =>
  refine .view ((h10 _).2 (.inl rfl)) hb h3 h4 (by rw [Nat.zero_add, h2]; exact Nat.le_refl _) h6 (fun i cs j d hi hj => ?_)
  rw [Nat.zero_add]
  refine (ih i cs j d hi hj).mono fun k hk => (h10 k).2 (.inr ⟨_, ?_, hk⟩)
  have hi1 := (List.getElem?_eq_some_iff.1 hi).1
  have hj1 := (List.getElem?_eq_some_iff.1 hj).1
  rw [h6 i cs hi] at hj1
  have h := Nat.mul_le_mul_right sz hi1
  rw [Nat.succ_mul] at h
  omega
theorem TRep.congr {w : World} {S S' : Nat → Prop} {x : DV} {v : Value} (h : TRep w S x v) (he : ∀ k, S k ↔ S' k) : TRep w S' x v := by
 have : S = S' := funext fun k => propext (he k)
 subst this; exact h
def TL (w : World) (S : Nat → Prop) (L : List DV) (V : List Value) : Prop :=
 ∃ Ts : Nat → Nat → Prop, V.length = L.length ∧ (∀ i d v, L[i]? = some d → V[i]? = some v → TRep w (Ts i) d v) ∧ (∀ i j k, Ts i k → Ts j k → i = j) ∧ ∀ k, S k ↔ ∃ i, i < L.length ∧ Ts i k
theorem TL.turn {w w' : World} {S : Nat → Prop} {L : List DV} {V : List Value} (h : TL w S L V) (hk : ∀ k, S k → w'.heap[k]? = w.heap[k]?) : TL w' S L V := by
 obtain ⟨Ts, h1, h2, h3, h4⟩ := h
 exact ⟨Ts, h1, fun i d v hd hv => (h2 i d v hd hv).turn fun k hk' => hk k ((h4 k).2 ⟨i, (List.getElem?_eq_some_iff.1 hd).1, hk'⟩), h3, h4⟩
theorem TL.lt {w : World} {S : Nat → Prop} {L : List DV} {V : List Value} (h : TL w S L V) (k : Nat) (hk : S k) : k < w.heap.size := by
 obtain ⟨Ts, h1, h2, h3, h4⟩ := h
 obtain ⟨i, hi, hk'⟩ := (h4 k).1 hk
 exact (h2 i _ _ (List.getElem?_eq_getElem hi) (List.getElem?_eq_getElem (by omega))).lt k hk'
theorem TL.data {w : World} {S : Nat → Prop} {L : List DV} {V : List Value} (h : TL w S L V) (i : Nat) {d : DV} {v : Value} (hd : L[i]? = some d) (hv : V[i]? = some v) : DRep S w d v := by
 obtain ⟨Ts, h1, h2, h3, h4⟩ := h
 exact (h2 i d v hd hv).data.mono fun k hk => (h4 k).2 ⟨i, (List.getElem?_eq_some_iff.1 hd).1, hk⟩
theorem TL.len {w : World} {S : Nat → Prop} {L : List DV} {V : List Value} (h : TL w S L V) : V.length = L.length := h.choose_spec.1
theorem TL.nil (w : World) : TL w (fun _ => False) [] [] := ⟨fun _ _ => False, rfl, fun i d v h => by simp at h, fun _ _ _ h => h.elim, fun k => ⟨fun h => h.elim, fun ⟨_, h, _⟩ => by simp at h⟩⟩
theorem TL.one {w : World} {S : Nat → Prop} {d : DV} {v : Value} (h : TRep w S d v) : TL w S [d] [v] := by
 refine ⟨fun i k => i = 0 ∧ S k, rfl, fun i d' v' hd hv => ?_, fun i j k h1 h2 => h1.1.trans h2.1.symm, fun k => ⟨fun h => ⟨0, by simp, rfl, h⟩, fun ⟨_, _, h⟩ => h.2⟩⟩
 cases i with
 | zero =>
  simp at hd hv; subst hd; subst hv
  exact h.congr fun k => by simp
 | succ i => simp at hd
theorem TL.app {w : World} {S S' : Nat → Prop} {L L' : List DV} {V V' : List Value} (h : TL w S L V) (h' : TL w S' L' V') (hd : ∀ k, S k → ¬ S' k) : TL w (fun k => S k ∨ S' k) (L ++ L') (V ++ V') := by
 obtain ⟨Ts, h1, h2, h3, h4⟩ := h
 obtain ⟨Ts', g1, g2, g3, g4⟩ := h'
 refine ⟨fun i k => (i < L.length ∧ Ts i k) ∨ (L.length ≤ i ∧ i < L.length + L'.length ∧ Ts' (i - L.length) k), by simp [h1, g1], fun i d v hd' hv => ?_, fun i j k hi hj => ?_, fun k => ⟨fun h => ?_, fun h => ?_⟩⟩
 ·by_cases hi : i < L.length
  ·rw [List.getElem?_append_left hi] at hd'
   rw [List.getElem?_append_left (by omega)] at hv
   exact (h2 i d v hd' hv).congr fun k => by simp [hi, Nat.not_le.2 hi]
  ·have hlt := (List.getElem?_eq_some_iff.1 hd').1
   rw [List.length_append] at hlt
   rw [List.getElem?_append_right (by omega)] at hd' hv
   rw [h1] at hv
   exact (g2 _ d v hd' hv).congr fun k => by simp [hi, hlt, Nat.le_of_not_lt hi]
 ·rcases hi with ⟨a1, a2⟩ | ⟨a1, a2, a3⟩ <;> rcases hj with ⟨b1, b2⟩ | ⟨b1, b2, b3⟩
  ·exact h3 i j k a2 b2
  ·exact absurd ((g4 k).2 ⟨_, by omega, b3⟩) (hd k ((h4 k).2 ⟨i, a1, a2⟩))
  ·exact absurd ((g4 k).2 ⟨_, by omega, a3⟩) (hd k ((h4 k).2 ⟨j, b1, b2⟩))
  ·have := g3 _ _ k a3 b3; omega
 ·rcases h with h | h
  ·obtain ⟨i, hi, hk⟩ := (h4 k).1 h
   exact ⟨i, by rw [List.length_append]; omega, .inl ⟨hi, hk⟩⟩
  ·obtain ⟨i, hi, hk⟩ := (g4 k).1 h
   refine ⟨L.length + i, by rw [List.length_append]; omega, .inr ⟨by omega, by omega, ?_⟩⟩
   rw [show L.length + i - L.length = i by omega]; exact hk
 ·obtain ⟨i, _, ⟨a1, a2⟩ | ⟨a1, a2, a3⟩⟩ := h
  ·exact .inl ((h4 k).2 ⟨i, a1, a2⟩)
  ·exact .inr ((g4 k).2 ⟨_, by omega, a3⟩)
theorem TL.cons {w : World} {S S' : Nat → Prop} {d : DV} {v : Value} {L : List DV} {V : List Value} (h : TRep w S d v) (h' : TL w S' L V) (hd : ∀ k, S k → ¬ S' k) : TL w (fun k => S k ∨ S' k) (d :: L) (v :: V) := (TL.one h).app h' hd
def TX (w : World) (S : Nat → Prop) (c : Nat) (L : List DV) (V : List Value) : Prop :=
 ∃ Ts : Nat → Nat → Prop, V.length = L.length ∧ (∀ i d v, i ≠ c → L[i]? = some d → V[i]? = some v → TRep w (Ts i) d v) ∧ (∀ i j k, Ts i k → Ts j k → i = j) ∧ (∀ k, ¬ Ts c k) ∧ ∀ k, S k ↔ ∃ i, i < L.length ∧ Ts i k
theorem TX.turn {w w' : World} {S : Nat → Prop} {c : Nat} {L : List DV} {V : List Value} (h : TX w S c L V) (hk : ∀ k, S k → w'.heap[k]? = w.heap[k]?) : TX w' S c L V := by
 obtain ⟨Ts, h1, h2, h3, h4, h5⟩ := h
 exact ⟨Ts, h1, fun i d v hi hd hv => (h2 i d v hi hd hv).turn fun k hk' => hk k ((h5 k).2 ⟨i, (List.getElem?_eq_some_iff.1 hd).1, hk'⟩), h3, h4, h5⟩
theorem TL.split {w : World} {S : Nat → Prop} {L : List DV} {V : List Value} (h : TL w S L V) {c : Nat} {d : DV} {v : Value} (hd : L[c]? = some d) (hv : V[c]? = some v) : ∃ S1 S2, TRep w S1 d v ∧ TX w S2 c L V ∧ (∀ k, S1 k → ¬ S2 k) ∧ ∀ k, S k ↔ S1 k ∨ S2 k := by
 obtain ⟨Ts, h1, h2, h3, h4⟩ := h
 have hlt := (List.getElem?_eq_some_iff.1 hd).1
 refine ⟨Ts c, fun k => ∃ i, i < L.length ∧ i ≠ c ∧ Ts i k, h2 c d v hd hv, ⟨fun i k => i ≠ c ∧ Ts i k, h1, fun i d v hi hd hv => ?_, fun i j k hi hj => h3 i j k hi.2 hj.2, fun k hk => hk.1 rfl, fun k => Iff.rfl⟩, fun k hk ⟨i, _, hi, hk'⟩ => hi (h3 i c k hk' hk), fun k => ⟨fun hk => ?_, fun hk => ?_⟩⟩
 ·exact (h2 i d v hd hv).congr fun k => by simp [hi]
 ·obtain ⟨i, hi, hk⟩ := (h4 k).1 hk
  by_cases hic : i = c
  ·subst hic; exact .inl hk
  ·exact .inr ⟨i, hi, hic, hk⟩
 ·rcases hk with hk | ⟨i, hi, _, hk⟩
  ·exact (h4 k).2 ⟨c, hlt, hk⟩
  ·exact (h4 k).2 ⟨i, hi, hk⟩
theorem TX.join {w : World} {S1 S2 : Nat → Prop} {c : Nat} {L : List DV} {V : List Value} {d : DV} {v : Value} (h : TX w S2 c L V) (h1 : TRep w S1 d v) (hc : c < L.length) (hv : V[c]? = some v) (hd : ∀ k, S1 k → ¬ S2 k) : TL w (fun k => S1 k ∨ S2 k) (L.set c d) V := by
 obtain ⟨Ts, g1, g2, g3, g4, g5⟩ := h
 refine ⟨fun i k => (i = c ∧ S1 k) ∨ (i < L.length ∧ Ts i k), by simpa using g1, fun i d' v' hd' hv' => ?_, fun i j k hi hj => ?_, fun k => ⟨fun hk => ?_, fun hk => ?_⟩⟩
 ·by_cases hi : c = i
  ·subst hi
   rw [List.getElem?_set_self hc] at hd'
   rw [hv] at hv'
   simp only [Option.some.injEq] at hd' hv'
   subst hd'; subst hv'
   exact h1.congr fun k => by simp [g4]
  ·rw [List.getElem?_set_ne hi] at hd'
   have hl := (List.getElem?_eq_some_iff.1 hd').1
   have hi' : ¬ i = c := fun e => hi e.symm
   exact (g2 i d' v' hi' hd' hv').congr fun k => by simp [hi', hl]
 ·rcases hi with ⟨a1, a2⟩ | ⟨a1, a2⟩ <;> rcases hj with ⟨b1, b2⟩ | ⟨b1, b2⟩
  ·rw [a1, b1]
  ·exact absurd ((g5 k).2 ⟨j, b1, b2⟩) (hd k a2)
  ·exact absurd ((g5 k).2 ⟨i, a1, a2⟩) (hd k b2)
  ·exact g3 i j k a2 b2
 ·rcases hk with hk | hk
  ·exact ⟨c, by simpa using hc, .inl ⟨rfl, hk⟩⟩
  ·obtain ⟨i, hi, hk⟩ := (g5 k).1 hk
   exact ⟨i, by simpa using hi, .inr ⟨hi, hk⟩⟩
 ·obtain ⟨i, _, ⟨_, hk⟩ | ⟨hi, hk⟩⟩ := hk
  ·exact .inl hk
  ·exact .inr ((g5 k).2 ⟨i, hi, hk⟩)
section
variable {P : Program} [PT P] {C : Ctx} {Q : Exit → ASt → Prop} {s : ASt} {ops : Array Oper} {U U' : Nat → Prop} {a : Act} {w : World} {m : Nat → Option (Option Nat × Nat)}
def mNew (m : Nat → Option (Option Nat × Nat)) (new : List (Nat × Chunk)) (pm : Nat → Option Nat × Nat) (j : Nat) : Option (Option Nat × Nat) :=
 match getL j new with
 | some _ => some (pm j)
 | none => m j
theorem mNew_some {new : List (Nat × Chunk)} {pm : Nat → Option Nat × Nat} {j : Nat} {c : Chunk} (h : getL j new = some c) : mNew m new pm j = some (pm j) := by simp [mNew, h]
theorem mNew_none {new : List (Nat × Chunk)} {pm : Nat → Option Nat × Nat} {j : Nat} (h : getL j new = none) : mNew m new pm j = m j := by simp [mNew, h]
theorem RelM.repack (h : RelM C U s a w m) {t : ASt} (new : List (Nat × Chunk)) (pm : Nat → Option Nat × Nat) (gone : List Nat) (hn : t.n = s.n)
  (ht : ∀ id c, t.chunk id = some c → getL id new = some c ∨ (getL id new = none ∧ id ∉ gone ∧ s.chunk id = some c))
  (hU : ∀ id c, getL id new = some c → U id ∨ m id = some (pm id))
  (hU' : ∀ j, U' j → U j ∧ getL j new = none)
  (hocc : ∀ id c b, getL id new = some c → occ (pm id) c b → ∃ j c0 q, j ∈ gone ∧ s.chunk j = some c0 ∧ m j = some q ∧ occ q c0 b)
  (hdis : ∀ id id' c c' b, getL id new = some c → getL id' new = some c' → occ (pm id) c b → occ (pm id') c' b → id = id')
  (hrep : ∀ F', (∀ k, Fz C m s w k → F' k) → ∀ id c, getL id new = some c → CRep (mNew m new pm) F' w (pm id) c)
  (hsl : MLe m (mNew m new pm) → ∀ F', (∀ k, Fz C m s w k → F' k) → ∀ i, ARep (mNew m new pm) F' w (t.get i) (a.tmps.getD i undef)) : RelM C U' t a w (mNew m new pm) := by
 have hle : MLe m (mNew m new pm) := by
  intro j p hp
  cases hg : getL j new with
  | none => rw [mNew_none hg]; exact hp
  | some c =>
   rcases hU j c hg with h1 | h1
   ·rw [h.un j h1] at hp; cases hp
   ·rw [hp] at h1; rw [mNew_some hg, h1]
 have hF : ∀ k, Fz C m s w k → Fz C (mNew m new pm) t w k := by
  intro k hk
  refine ⟨hk.1, hk.2.1, fun id c p h1 h2 ho => ?_⟩
  rcases ht id c h1 with g | ⟨g, _, g3⟩
  ·rw [mNew_some g] at h2
   obtain rfl : pm id = p := by simpa using h2
   obtain ⟨j, c0, q, _, q2, q3, q4⟩ := hocc id c k g ho
   exact hk.2.2 j c0 q q2 q3 q4
  ·rw [mNew_none g] at h2
   exact hk.2.2 id c p g3 h2 ho
 refine ⟨h.fr, h.fin, by rw [hn]; exact h.sz, hsl hle _ hF, fun id c h1 => ?_, fun id id' c c' p p' h1 h2 hp hp' b hb hb' => ?_, fun j hj => ?_, h.defers, fun id p hp => hle id p (h.m0 id p hp), h.m0k⟩
 ·rcases ht id c h1 with g | ⟨g, _, g3⟩
  ·refine ⟨pm id, mNew_some g, hrep _ hF id c g, fun b hb => ?_⟩
   obtain ⟨j, c0, q, _, q2, q3, q4⟩ := hocc id c b g hb
   obtain ⟨q', hq', _, hl⟩ := h.ch j c0 q2
   rw [q3] at hq'
   obtain rfl : q = q' := by simpa using hq'
   exact hl b q4
  ·obtain ⟨p, hp, hr, hl⟩ := h.ch id c g3
   exact ⟨p, hle _ _ hp, hr.turn hle (fun k hk _ => ⟨hF k hk, rfl⟩) (fun _ _ => rfl), hl⟩
 ·rcases ht id c h1 with g | ⟨g, g2, g3⟩ <;> rcases ht id' c' h2 with g' | ⟨g', g2', g3'⟩
  ·rw [mNew_some g] at hp
   rw [mNew_some g'] at hp'
   obtain rfl : pm id = p := by simpa using hp
   obtain rfl : pm id' = p' := by simpa using hp'
   exact hdis id id' c c' b g g' hb hb'
  ·rw [mNew_some g] at hp
   rw [mNew_none g'] at hp'
   obtain rfl : pm id = p := by simpa using hp
   obtain ⟨j, c0, q, q1, q2, q3, q4⟩ := hocc id c b g hb
   have := h.inj j id' c0 c' q p' q2 g3' q3 hp' b q4 hb'
   subst this
   exact absurd q1 g2'
  ·rw [mNew_none g] at hp
   rw [mNew_some g'] at hp'
   obtain rfl : pm id' = p' := by simpa using hp'
   obtain ⟨j, c0, q, q1, q2, q3, q4⟩ := hocc id' c' b g' hb'
   have := h.inj j id c0 c q p q2 g3 q3 hp b q4 hb
   subst this
   exact absurd q1 g2
  ·rw [mNew_none g] at hp
   rw [mNew_none g'] at hp'
   exact h.inj id id' c c' p p' g3 g3' hp hp' b hb hb'
 ·obtain ⟨h1, h2⟩ := hU' j hj
  rw [mNew_none h2]
  exact h.un j h1
theorem CRep.predAt {F : Nat → Prop} {p : Option Nat × Nat} {S : Nat → Prop} {K : World → Prop} (h : CRep m F w p (.pred S K)) : p = (none, 0) ∧ K w ∧ (∀ w w', (∀ k, S k → w'.heap[k]? = w.heap[k]?) → K w → K w') ∧ ∀ k, S k → k < w.heap.size := by
 cases h with
 | pred h1 h2 h3 => exact ⟨rfl, h1, h2, h3⟩
theorem occ_pred' {S : Nat → Prop} {K : World → Prop} {k : Nat} (h : occ (none, 0) (.pred S K) k) : S k := by
 rcases h with h | h
 ·cases h
 ·exact h
theorem Weak.join (id1 id2 : Nat) {S1 S2 : Nat → Prop} {K1 K2 : World → Prop} (K : World → Prop) (h1 : s.chunk id1 = some (.pred S1 K1)) (h2 : s.chunk id2 = some (.pred S2 K2)) (hne : Nat.beq id1 id2 = false)
  (hK : ∀ w, K1 w → K2 w → (∀ k, S1 k → ¬ S2 k) → K w) (hcl : ∀ w w', (∀ k, S1 k ∨ S2 k → w'.heap[k]? = w.heap[k]?) → K w → K w') :
  Weak C s { n := s.n, nx := s.nx, sl := s.sl, ch := (id1, some (.pred (fun k => S1 k ∨ S2 k) K)) :: (id2, none) :: s.ch } := by
 refine ⟨?_⟩
 rintro a w ⟨m, hR⟩
 have hne : id1 ≠ id2 := Nat.ne_of_beq_eq_false hne
 obtain ⟨p1, q1, c1, l1⟩ := hR.ch id1 _ h1
 obtain ⟨p2, q2, c2, l2⟩ := hR.ch id2 _ h2
 obtain ⟨rfl, k1, cl1, lt1⟩ := c1.predAt
 obtain ⟨rfl, k2, cl2, lt2⟩ := c2.predAt
 have hd : ∀ k, S1 k → ¬ S2 k := fun k g1 g2 => hne (hR.inj id1 id2 _ _ _ _ h1 h2 q1 q2 k (.inr g1) (.inr g2))
 refine ⟨_, hR.repack (U' := fun i => s.nx ≤ i) [(id1, .pred (fun k => S1 k ∨ S2 k) K)] (fun _ => (none, 0)) [id1, id2] rfl (fun i c h => ?_) (fun i c h => .inr ?_) (fun i hi => ⟨hi, ?_⟩) (fun i c b h hb => ?_) (fun i i' c c' b h h' _ _ => ?_) (fun F' _ i c h => ?_) (fun hle F' hF i => (hR.sl i).turn hle (fun k hk _ => ⟨hF k hk, rfl⟩))⟩
 ·change (getL i (_ :: _ :: _)).getD none = _ at h
  rw [getL_cons] at h
  rw [getL_cons]
  split at h
  ·rename_i ei; rw [if_pos ei]; exact .inl (by simpa using h)
  ·rename_i ei
   rw [if_neg ei]
   rw [getL_cons] at h
   split at h
   ·cases h
   ·rename_i ei'; exact .inr ⟨rfl, by simp [ei, ei'], h⟩
 ·obtain ⟨rfl, _⟩ := getL_one h; exact q1
 ·rw [getL_cons]
  split
  ·rename_i ei; subst ei; have := hR.un i hi; rw [q1] at this; cases this
  ·rfl
 ·obtain ⟨rfl, rfl⟩ := getL_one h
  rcases occ_pred' hb with g | g
  ·exact ⟨i, _, _, by simp, h1, q1, .inr g⟩
  ·exact ⟨id2, _, _, by simp, h2, q2, .inr g⟩
 ·rw [(getL_one h).1, (getL_one h').1]
 ·obtain ⟨rfl, rfl⟩ := getL_one h
  exact .pred (hK w k1 k2 hd) hcl (fun k hk => hk.elim (lt1 k) (lt2 k))
theorem Weak.cons (id : Nat) {S : Nat → Prop} {K : World → Prop} (K' : World → Prop) (h0 : s.chunk id = some (.pred S K)) (hK : ∀ w, K w → K' w) (hcl : ∀ w w', (∀ k, S k → w'.heap[k]? = w.heap[k]?) → K' w → K' w') :
  Weak C s { n := s.n, nx := s.nx, sl := s.sl, ch := (id, some (.pred S K')) :: s.ch } := by
 refine ⟨?_⟩
 rintro a w ⟨m, hR⟩
 obtain ⟨p1, q1, c1, l1⟩ := hR.ch id _ h0
 obtain ⟨rfl, k1, cl1, lt1⟩ := c1.predAt
 refine ⟨_, hR.repack (U' := fun i => s.nx ≤ i) [(id, .pred S K')] (fun _ => (none, 0)) [id] rfl (fun i c h => ?_) (fun i c h => .inr ?_) (fun i hi => ⟨hi, ?_⟩) (fun i c b h hb => ?_) (fun i i' c c' b h h' _ _ => ?_) (fun F' _ i c h => ?_) (fun hle F' hF i => (hR.sl i).turn hle (fun k hk _ => ⟨hF k hk, rfl⟩))⟩
 ·change (getL i (_ :: _)).getD none = _ at h
  rw [getL_cons] at h
  rw [getL_cons]
  split at h
  ·rename_i ei; rw [if_pos ei]; exact .inl (by simpa using h)
  ·rename_i ei
   rw [if_neg ei]
   exact .inr ⟨rfl, by simpa using ei, h⟩
 ·obtain ⟨rfl, _⟩ := getL_one h; exact q1
 ·rw [getL_cons]
  split
  ·rename_i ei; subst ei; have := hR.un i hi; rw [q1] at this; cases this
  ·rfl
 ·obtain ⟨rfl, rfl⟩ := getL_one h
  exact ⟨_, _, _, by simp, h0, q1, .inr (occ_pred' hb)⟩
 ·rw [(getL_one h).1, (getL_one h').1]
 ·obtain ⟨rfl, rfl⟩ := getL_one h
  exact .pred (hK w k1) hcl lt1
end
section
variable {P : Program} [PT P] {C : Ctx} {s : ASt}
def DTo (c d : DV) : Prop := ∀ (F : Nat → Prop) (w : World) (v : Value), DRep F w c v → DRep F w d v
theorem DTo.refl (d : DV) : DTo d d := fun _ _ _ h => h
theorem DTo.nil {e sz : Nat} : DTo (.val (.slice none 0 0)) (.view e sz []) := fun F w v h => by
 cases h
 exact .nil
theorem Weak.arrTo (id : Nat) {e sz : Nat} {els els' : List (List DV)} (h0 : s.chunk id = some (.arr e sz els)) (hl : els'.length = els.length) (h : ∀ (i : Nat) (cs' : List DV), els'[i]? = some cs' → ∃ cs, els[i]? = some cs ∧ cs'.length = cs.length ∧ ∀ (j : Nat) (d' : DV), cs'[j]? = some d' → ∃ d, cs[j]? = some d ∧ DTo d d') :
  Weak C s { n := s.n, nx := s.nx, sl := s.sl, ch := (id, some (.arr e sz els')) :: s.ch } := by
 refine ⟨?_⟩
 rintro a w ⟨m, hR⟩
 obtain ⟨p1, q1, c1, l1⟩ := hR.ch id _ h0
 have hc : ∀ (m' : Nat → Option (Option Nat × Nat)) F', (∀ k, Fz C m s w k → F' k) → CRep m' F' w p1 (.arr e sz els') := by
  intro m' F' hF
  cases c1 with
  | arr g1 g2 g3 g4 g5 g6 g7 g8 =>
   refine .arr g1 g2 g3 (by omega) g5 g6 (fun i cs' hi => ?_) (fun i cs' j d' hi hj => ?_)
   ·obtain ⟨cs, k1, k2, _⟩ := h i cs' hi
    rw [k2]; exact g7 i cs k1
   ·obtain ⟨cs, k1, k2, k3⟩ := h i cs' hi
    obtain ⟨d, k4, k5⟩ := k3 j d' hj
    exact k5 _ _ _ ((g8 i cs j d k1 k4).turn (fun k hk _ => ⟨hF k hk, rfl⟩))
  | nil g =>
   obtain rfl : els' = [] := List.length_eq_zero_iff.1 (by simpa using hl)
   exact .nil g
 refine ⟨_, hR.repack (U' := fun i => s.nx ≤ i) [(id, .arr e sz els')] (fun _ => p1) [id] rfl (fun i c h => ?_) (fun i c h => .inr ?_) (fun i hi => ⟨hi, ?_⟩) (fun i c b h hb => ?_) (fun i i' c c' b h h' _ _ => ?_) (fun F' hF i c h => ?_) (fun hle F' hF i => (hR.sl i).turn hle (fun k hk _ => ⟨hF k hk, rfl⟩))⟩
 ·change (getL i (_ :: _)).getD none = _ at h
  rw [getL_cons] at h
  rw [getL_cons]
  split at h
  ·rename_i ei; rw [if_pos ei]; exact .inl (by simpa using h)
  ·rename_i ei
   rw [if_neg ei]
   exact .inr ⟨rfl, by simpa using ei, h⟩
 ·obtain ⟨rfl, _⟩ := getL_one h; exact q1
 ·rw [getL_cons]
  split
  ·rename_i ei; subst ei; have := hR.un i hi; rw [q1] at this; cases this
  ·rfl
 ·obtain ⟨rfl, rfl⟩ := getL_one h
  exact ⟨_, _, _, by simp, h0, q1, .inl hb.one_arr⟩
 ·rw [(getL_one h).1, (getL_one h').1]
 ·obtain ⟨rfl, rfl⟩ := getL_one h
  exact hc _ F' hF
end
abbrev sxL (l : List (List UInt8)) : List (List DV) := l.map (fun s => [dS (bstr s)])
abbrev vSx (l : List (List UInt8)) : DV := .view 9 1 (sxL l)
theorem sxL_len (l : List (List UInt8)) : (sxL l).length = l.length := List.length_map _
theorem sxL_get {l : List (List UInt8)} {k : Nat} (h : k < l.length) : (sxL l)[k]? = some [dS (bstr l[k])] := by rw [List.getElem?_map, List.getElem?_eq_getElem h]; rfl
theorem h_appendSx (acc new : List (List UInt8)) {s : ASt} {dst : Option Nat} {ty : Nat} {pos : String} {af : Array Edge} {gd : Option (Nat × Bool)} {x y : Operand} {f : Nat} {ids ids2 : List Nat} {gone : List (Nat × Option Chunk)}
  (hto : AppTo s x 9 1 (sxL acc) ids gone) (harg : AppArg s y 1 (sxL new) ids2) (h : (acc ++ new).length ≤ 100000000) (hnew : gone = [] → 0 < new.length) :
  NOp Tryz.prog (ids ++ ids2) s ⟨dst, .call { callee := .builtin .append, args := #[x, y], argTypes := #[24, 24] }, ty, pos, af, gd⟩ f ⟨.own f (acc ++ new).length, (f, some (.arr 9 1 (sxL (acc ++ new)))) :: gone⟩ := by
 have := h_append (P := Tryz.prog) (s := s) (dst := dst) (ty := ty) (pos := pos) (af := af) (gd := gd) (x := x) (y := y) (f := f) (t := 24) (tx := 24) (k := (acc ++ new).length) rfl rfl rfl rfl rfl rfl hto harg (by simp) (by omega) (by show (acc ++ new).length * 16 ≤ _; omega) (fun h => by rw [sxL_len]; exact hnew h)
 rwa [← List.map_append] at this
theorem h_appendLx (acc new : List Lab) {s : ASt} {dst : Option Nat} {ty : Nat} {pos : String} {af : Array Edge} {gd : Option (Nat × Bool)} {x y : Operand} {f : Nat} {ids ids2 : List Nat} {gone : List (Nat × Option Chunk)}
  (hto : AppTo s x 99 2 (labsL acc) ids gone) (harg : AppArg s y 2 (labsL new) ids2) (h : (acc ++ new).length ≤ 100000000) (hnew : gone = [] → 0 < new.length) :
  NOp Tryz.prog (ids ++ ids2) s ⟨dst, .call { callee := .builtin .append, args := #[x, y], argTypes := #[68, 68] }, ty, pos, af, gd⟩ f ⟨.own f (acc ++ new).length, (f, some (.arr 99 2 (labsL (acc ++ new)))) :: gone⟩ := by
 have := h_append (P := Tryz.prog) (s := s) (dst := dst) (ty := ty) (pos := pos) (af := af) (gd := gd) (x := x) (y := y) (f := f) (t := 68) (tx := 68) (k := (acc ++ new).length) rfl rfl rfl rfl rfl rfl hto harg (by simp) (by omega) (by show (acc ++ new).length * 16 ≤ _; omega) (fun h => by rw [labsL_len]; exact hnew h)
 rwa [← List.map_append] at this
theorem ownl {α : Type} (l : List α) (f : α → List DV) : l.length ≤ (l.map f).length := Nat.le_of_eq (List.length_map _).symm
theorem ownt {α : Type} (l : List α) (f : α → List DV) : (l.map f).take l.length = l.map f := List.take_of_length_le (Nat.le_of_eq (List.length_map _))
def splitK (s : List UInt8) (b : UInt8) : Nat → List (List UInt8) × Nat
 | 0 => ([], 0)
 | k + 1 => if s.getD k 0 = b then ((splitK s b k).1 ++ [(s.take k).drop (splitK s b k).2], k + 1) else splitK s b k
def splitL (s : List UInt8) (b : UInt8) : List (List UInt8) := (splitK s b s.length).1 ++ [s.drop (splitK s b s.length).2]
theorem splitK_in (s : List UInt8) (b : UInt8) : ∀ k, (splitK s b k).2 ≤ k ∧ (splitK s b k).1.length ≤ k
 | 0 => ⟨Nat.le_refl _, Nat.le_refl _⟩
 | k + 1 => by
  have := splitK_in s b k
  rw [splitK]
  split
  ·exact ⟨Nat.le_refl _, by rw [List.length_append]; simp only [List.length_cons, List.length_nil]; omega⟩
  ·omega
theorem splitK_mem (s : List UInt8) (b : UInt8) : ∀ k x, x ∈ (splitK s b k).1 → x.length ≤ s.length
 | 0, x, h => by cases h
 | k + 1, x, h => by
  rw [splitK] at h
  split at h
  ·rcases List.mem_append.1 h with h | h
   ·exact splitK_mem s b k x h
   ·rw [List.mem_singleton] at h; subst h; rw [List.length_drop, List.length_take]; omega
  ·exact splitK_mem s b k x h
theorem splitL_mem {s : List UInt8} {b : UInt8} {x : List UInt8} (h : x ∈ splitL s b) : x.length ≤ s.length := by
 rcases List.mem_append.1 h with h | h
 ·exact splitK_mem s b _ x h
 ·rw [List.mem_singleton] at h; subst h; rw [List.length_drop]; omega
set_option maxHeartbeats 2000000 in
theorem l1Split_spec (s : List UInt8) (b : UInt8) (hs : s.length ≤ 1000000) : ASpec Tryz.prog 77 [aS (bstr s), aB b] [] (Pure1 (.d (vSx (splitL s b)))) := by
 have hsz := bstr_size s
 refine ASpec.of Tryz.func77 rfl rfl fun C hC => ?_
 refine AC.seq (AC.region ?_)
 refine AL.p (by exact as1 rfl) rfl ?_
 refine AL.nil (th_n (AC.seq (AC.region ?_)))
 refine AL.p (by exact as1 rfl) rfl ?_
 refine AL.nil (th_n (AC.seq (AC.region ?_)))
 refine AL.p (by exact as1 rfl) rfl ?_
 refine AL.nil (th_n (AC.seq (AC.seq (AC.region ?_))))
 refine AL.p (by exact as1 rfl) rfl ?_
 refine AL.nil (th_n (AC.block ?_))
 refine AC.loop (ι := Nat) (fun k => ⟨34, 108, [(0, aS (bstr s)), (1, aB b), (5, .own 100 (splitK s b k).1.length), (6, aI (splitK s b k).2), (7, aI k)], [(100, some (.arr 9 1 (sxL (splitK s b k).1)))]⟩) (fun k => k ≤ s.length) (fun k => s.length - k) (0) ?_ (Nat.zero_le _) ?_
 ·exact (Weak.nilOwn (i := 5) (e := 9) (sz := 1) rfl (by decide)).trans (Weak.ren _ [(100, _)] hC rfl (by repeat (first | exact True.intro | refine And.intro ?_ ?_ | exact DLead.same | exact rfl | refine ⟨_, rfl, ?_⟩)) (by repeat (first | exact True.intro | refine And.intro ?_ ?_ | exact rfl | refine ⟨_, _, rfl, rfl, ?_⟩)) rfl rfl rfl)
 ·intro k hk
  refine AC.seq (AC.seq (AC.region ?_))
  refine AL.p (by exact mv1 rfl) rfl ?_
  refine AL.p (by exact mv1 rfl) rfl ?_
  refine AL.p (by exact g_len_str rfl rfl rfl) rfl ?_
  refine AL.p (by exact g_cmp rfl rfl rfl) rfl ?_
  refine AL.nil (th_n ?_)
  refine AC.condD rfl (fun h0 => ?_) (fun h0 => ?_)
  ·refine AC.skip (th_n (AC.seq (AC.block (AC.seq ?_))))
   have hk1 : k < s.length := by omega
   have hget : (bstr s).data.toList[k]? = some (s.getD k 0) := bstr_getD hk1
   have hin := splitK_in s b k
   have hb1 : ((s.getD k 0).toNat : Int) = (b.toNat : Int) → splitK s b (k + 1) = ((splitK s b k).1 ++ [(s.take k).drop (splitK s b k).2], k + 1) := fun h => by rw [splitK, if_pos (UInt8.toNat_inj.1 (by omega))]
   have hb0 : ¬ ((s.getD k 0).toNat : Int) = (b.toNat : Int) → splitK s b (k + 1) = splitK s b k := fun h => by rw [splitK, if_neg (fun e => h (by rw [e]))]
   have hex : (bstr s).extract (splitK s b k).2 k = bstr ((s.take k).drop (splitK s b k).2) := bstr_cut s hin.1 (by omega)
   refine AC.region ?_
   refine AL.p (by exact mv1 rfl) rfl ?_
   refine AL.p (by exact mv1 rfl) rfl ?_
   refine AL.p (by exact g_index rfl rfl rfl (by rfl) (by assumption)) rfl ?_
   refine AL.p (by exact mv1 rfl) rfl ?_
   refine AL.p (by exact g_cmp rfl rfl rfl) rfl ?_
   refine AL.nil (th_n ?_)
   refine AC.condD rfl (fun h1 => ?_) (fun h1 => ?_)
   ·refine AC.seq (AC.region ?_)
    refine AL.p (by exact mv2 rfl) rfl ?_
    refine AL.p (by exact mv1 rfl) rfl ?_
    refine AL.p (by exact mv1 rfl) rfl ?_
    refine AL.p (by exact mv1 rfl) rfl ?_
    refine AL.p (by exact g_slice_str (l := (splitK s b k).2) (h := k) rfl rfl (.some rfl rfl) (.some rfl rfl) hin.1 (by omega) hex) rfl ?_
    refine AL.q (by exact h_litF rfl rfl rfl rfl rfl rfl rfl rfl) rfl ?_
    refine AL.q (by exact h_appendSx (splitK s b k).1 [(s.take k).drop (splitK s b k).2] (.own rfl rfl (sxL_len _).symm) (.view rfl) (by rw [List.length_append]; simp only [List.length_cons, List.length_nil]; omega) (by simp)) rfl ?_
    refine AL.p (by exact as2 rfl) rfl ?_
    refine AL.nil (th_n (AC.region ?_))
    refine AL.p (by exact mv1 rfl) rfl ?_
    refine AL.p (by exact g_arith rfl rfl rfl (by exact wrap_i64 (by omega))) rfl ?_
    refine AL.p (by exact as1 rfl) rfl ?_
    refine AL.nil (ib_n (th_n (AC.region ?_)))
    refine AL.p (by exact mv1 rfl) rfl ?_
    refine AL.p (by exact g_arith rfl rfl rfl (by exact wrap_i64 (by omega))) rfl ?_
    refine AL.p (by exact as1 rfl) rfl ?_
    refine AL.nil (th_n ?_)
    (have e := hb1 h1; exact ⟨k + 1, by omega, by omega, Weak.ren _ [(100, _)] hC rfl (by rw [e]; repeat (first | exact True.intro | refine And.intro ?_ ?_ | exact DLead.same | exact rfl | refine ⟨_, rfl, ?_⟩)) (by rw [e]; repeat (first | exact True.intro | refine And.intro ?_ ?_ | exact rfl | refine ⟨_, _, rfl, rfl, ?_⟩)) rfl rfl rfl⟩)
   ·refine AC.skip (ib_n (th_n (AC.region ?_)))
    refine AL.p (by exact mv1 rfl) rfl ?_
    refine AL.p (by exact g_arith rfl rfl rfl (by exact wrap_i64 (by omega))) rfl ?_
    refine AL.p (by exact as1 rfl) rfl ?_
    refine AL.nil (th_n ?_)
    (have e := hb0 h1; exact ⟨k + 1, by omega, by omega, Weak.ren _ [(100, _)] hC rfl (by rw [e]; repeat (first | exact True.intro | refine And.intro ?_ ?_ | exact DLead.same | exact rfl | refine ⟨_, rfl, ?_⟩)) (by rw [e]; repeat (first | exact True.intro | refine And.intro ?_ ?_ | exact rfl | refine ⟨_, _, rfl, rfl, ?_⟩)) rfl rfl rfl⟩)
  ·refine AC.exit (th_e (th_e (ib_y (th_n (AC.seq ?_)))))
   have hkk : k = s.length := by omega
   subst hkk
   have hin := splitK_in s b s.length
   have hex : (bstr s).extract (splitK s b s.length).2 (bstr s).size = bstr (s.drop (splitK s b s.length).2) := by rw [hsz, bstr_cut s hin.1 (Nat.le_refl _), List.take_length]
   refine AC.region ?_
   refine AL.p (by exact mv2 rfl) rfl ?_
   refine AL.p (by exact mv1 rfl) rfl ?_
   refine AL.p (by exact mv1 rfl) rfl ?_
   refine AL.p (by exact g_slice_str (l := (splitK s b s.length).2) rfl rfl (.some rfl rfl) .none (by omega) (Nat.le_refl _) hex) rfl ?_
   refine AL.q (by exact h_litF rfl rfl rfl rfl rfl rfl rfl rfl) rfl ?_
   refine AL.q (by exact h_appendSx (splitK s b s.length).1 [s.drop (splitK s b s.length).2] (.own rfl rfl (sxL_len _).symm) (.view rfl) (by rw [List.length_append]; simp only [List.length_cons, List.length_nil]; omega) (by simp)) rfl ?_
   refine AL.weak (Weak.freeze (i := 33) rfl rfl (ownl _ _) (ownt _ _)) ?_
   refine AL.p (by exact as1 rfl) rfl ?_
   refine AL.nil (th_n (AC.ret (bq_r ?_)))
   exact ret1 rfl rfl
theorem en_l1Split : Enters Tryz.prog 77 := enters_of Tryz.func77 rfl rfl
set_option maxHeartbeats 1000000 in
theorem l2Signal_spec (l : List Sig) (hl : l.length ≤ 2000000) (nm : List UInt8) : ASpec Tryz.prog 100 [.d (vSigs l), aS (bstr nm)] [] (Pure1 (aI (findI (fun x => decide (x.name = nm)) l))) := by
 refine ASpec.of Tryz.func100 rfl rfl fun C hC => ?_
 refine AC.seq (AC.region ?_)
 refine AL.p (by exact as1 rfl) rfl ?_
 refine AL.nil (th_n (AC.seq (AC.seq (AC.region ?_))))
 refine AL.p (by exact mv1 rfl) rfl ?_
 refine AL.p (by exact g_len_view rfl rfl (by exact List.length_map _)) rfl ?_
 refine AL.p (by exact mv1 rfl) rfl ?_
 refine AL.nil (th_n (AC.block ?_))
 refine AC.loop (ι := Nat) (fun k => ⟨20, 0, [(1, aS (bstr nm)), (7, .d (vSigs l)), (8, aI l.length), (9, aI k)], []⟩) (fun k => k ≤ l.length ∧ ∀ j (hj : j < l.length), j < k → (fun x : Sig => decide (x.name = nm)) l[j] = false) (fun k => l.length - k) (0) ?_ (⟨Nat.zero_le _, fun j _ hj => by omega⟩) ?_
 ·refine Weak.ren _ [] hC rfl ?_ ?_ rfl rfl rfl <;> repeat (first | exact True.intro | refine And.intro ?_ ?_ | exact DLead.same)
 ·intro k ⟨hk, hall⟩
  refine AC.seq (AC.region ?_)
  refine AL.p (by exact g_cmp rfl rfl rfl) rfl ?_
  refine AL.nil (th_n (AC.seq ?_))
  refine AC.condD rfl (fun h0 => ?_) (fun h0 => ?_)
  ·refine AC.skip (th_n (AC.seq (AC.block (AC.seq ?_))))
   have hk1 : k < l.length := by omega
   have hget := sigsL_get hk1
   refine AC.region ?_
   refine AL.p (by exact mv1 rfl) rfl ?_
   refine AL.p (by exact g_ia_view rfl rfl rfl rfl rfl (by rfl) (by assumption)) rfl ?_
   refine AL.p (by exact g_load_refN rfl rfl rfl rfl) rfl ?_
   refine AL.q (by exact h_alloc rfl) rfl ?_
   refine AL.p (by exact as1 rfl) rfl ?_
   refine AL.q (by exact h_store rfl rfl rfl rfl rfl rfl) rfl ?_
   refine AL.nil (th_n (AC.seq ?_))
   refine AC.weak (Weak.freezeRef (ds := sigD l[k]) 6 rfl rfl) ?_
   refine AC.region ?_
   refine AL.p (by exact g_fa_ref rfl rfl rfl rfl rfl rfl) rfl ?_
   refine AL.p (by exact g_load_ref rfl rfl rfl) rfl ?_
   refine AL.p (by exact mv1 rfl) rfl ?_
   refine AL.p (by exact g_scmp rfl rfl rfl) rfl ?_
   refine AL.nil (th_n ?_)
   refine AC.condD rfl (fun h1 => ?_) (fun h1 => ?_)
   ·refine AC.seq (AC.region ?_)
    refine AL.p (by exact mv1 rfl) rfl ?_
    refine AL.p (by exact as1 rfl) rfl ?_
    refine AL.nil (th_n (AC.ret (ib_r (th_r (th_r (ib_r (th_r (bq_r ?_))))))))
    exact ret1 rfl (by rw [findI_at hk1 (p := fun x : Sig => decide (x.name = nm)) (decide_eq_true (bstr_inj h1)) (fun j hj => hall j (by omega) hj)])
   ·refine AC.skip (ib_n (th_n (AC.region ?_)))
    refine AL.p (by exact g_arith rfl rfl rfl (by exact wrap_i64 (by omega))) rfl ?_
    refine AL.p (by exact mv1 rfl) rfl ?_
    refine AL.nil (th_n ?_)
    exact ⟨k + 1, ⟨by omega, fun j hj hj2 => by rcases Nat.lt_succ_iff_lt_or_eq.1 hj2 with h | rfl; exact hall j hj h; exact decide_eq_false (fun e => h1 (by rw [e]))⟩, by omega, Weak.ren _ [] hC rfl (by repeat (first | exact True.intro | refine And.intro ?_ ?_ | exact DLead.same)) (by repeat (exact True.intro)) rfl rfl rfl⟩
  ·refine AC.exit (th_e (th_e (ib_y (th_n (AC.seq (AC.region ?_))))))
   refine AL.p (by exact as1 rfl) rfl ?_
   refine AL.nil (th_n (AC.ret (bq_r ?_)))
   exact ret1 rfl (by rw [findI_none (fun j hj => hall j hj (by omega))])
theorem en_l2Signal : Enters Tryz.prog 100 := enters_of Tryz.func100 rfl rfl
structure Bs where
 sigs : List Sig
 ts : List Tn
 labs : List Lab
 start : List UInt8
 ps : List (List UInt8)
 ws : List (List UInt8)
abbrev bC (b : Bs) (i1 i2 i3 i4 i5 : Nat) : Chunk := .cells 92 [aI b.ps.length, .own i1 b.ts.length, .own i2 b.sigs.length, .own i3 b.labs.length, aS (bstr b.start), .own i4 b.ps.length, .own i5 b.ws.length]
abbrev bChs (b : Bs) (i1 i2 i3 i4 i5 : Nat) : List (Nat × Chunk) := [(0, bC b i1 i2 i3 i4 i5), (i1, .arr 114 2 (tsL b.ts)), (i2, .arr 83 2 (sigsL b.sigs)), (i3, .arr 99 2 (labsL b.labs)), (i4, .arr 9 1 (sxL b.ps)), (i5, .arr 9 1 (sxL b.ws))]
structure BsL (b : Bs) : Prop where
 s : b.sigs.length ≤ 100000
 t : b.ts.length ≤ 100000
 l : b.labs.length ≤ 100000
 st : b.start.length ≤ 100000
 p : b.ps.length ≤ 100000
 w : b.ws.length ≤ 100000
def placeF (b : Bs) (nm : List UInt8) : Nat × Bs := if b.ps.findIdx (fun x => decide (x = nm)) < b.ps.length then (b.ps.findIdx (fun x => decide (x = nm)), b) else (b.ps.length, { b with ps := b.ps ++ [nm], start := b.start ++ [48] })
theorem placeF_yes {b : Bs} {nm : List UInt8} {k : Nat} (hk : k < b.ps.length) (h : b.ps[k] = nm) (hp : ∀ j (hj : j < b.ps.length), j < k → ¬ b.ps[j] = nm) : placeF b nm = (k, b) := by
 have e : b.ps.findIdx (fun x => decide (x = nm)) = k := (List.findIdx_eq hk).2 ⟨decide_eq_true h, fun j hj => by simpa using hp j (by omega) hj⟩
 rw [placeF, e, if_pos hk]
theorem placeF_no {b : Bs} {nm : List UInt8} (hp : ∀ j (hj : j < b.ps.length), ¬ b.ps[j] = nm) : placeF b nm = (b.ps.length, { b with ps := b.ps ++ [nm], start := b.start ++ [48] }) := by
 have e : b.ps.findIdx (fun x => decide (x = nm)) = b.ps.length := List.findIdx_eq_length.2 (fun x hx => by obtain ⟨j, hj, rfl⟩ := List.getElem_of_mem hx; simpa using hp j hj)
 rw [placeF, e, if_neg (Nat.lt_irrefl _)]
set_option maxHeartbeats 4000000 in
theorem bPlace_spec (b : Bs) (nm : List UInt8) (hb : BsL b) : ASpec Tryz.prog 86 [.ptr 0 0, aS (bstr nm)] (bChs b 1 2 3 4 5) (Fun1 (aI (placeF b nm).1) (bChs (placeF b nm).2 1 2 3 6 5)) := by
 have hps := hb.p
 have hss := hb.st
 refine ASpec.of Tryz.func86 rfl rfl fun C hC => ?_
 refine AC.seq (AC.region ?_)
 refine AL.p (by exact as1 rfl) rfl ?_
 refine AL.nil (th_n (AC.seq (AC.seq (AC.region ?_))))
 refine AL.p (by exact mv3 rfl) rfl ?_
 refine AL.p (by exact g_nilP rfl) rfl ?_
 refine AL.p (by exact g_fa_ptr rfl rfl rfl rfl rfl) rfl ?_
 refine AL.p (by exact g_load_ptr rfl rfl rfl rfl rfl) rfl ?_
 refine AL.p (by exact g_len_own (sz := 1) (els := []) (e' := 0) rfl rfl (by simp only [maxLen]; omega)) rfl ?_
 refine AL.p (by exact mv1 rfl) rfl ?_
 refine AL.nil (th_n (AC.block ?_))
 refine AC.loop (ι := Nat) (fun k => ⟨58, 136, [(0, .ptr 0 0), (1, aS (bstr nm)), (10, .own 4 b.ps.length), (11, aI b.ps.length), (12, aI k)], chL (bChs b 1 2 3 4 5)⟩) (fun k => k ≤ b.ps.length ∧ ∀ j (hj : j < b.ps.length), j < k → ¬ b.ps[j] = nm) (fun k => b.ps.length - k) (0) ?_ (⟨Nat.zero_le _, fun j _ hj => by omega⟩) ?_
 ·exact Weak.ren _ [] hC rfl (by repeat (first | exact True.intro | refine And.intro ?_ ?_ | exact DLead.same | exact rfl | refine ⟨_, rfl, ?_⟩)) (by repeat (first | exact True.intro | refine And.intro ?_ ?_ | exact DLead.same | exact rfl | refine ⟨_, _, rfl, rfl, ?_⟩ | refine ⟨_, rfl, ?_⟩ | refine ⟨_, _, rfl, ?_, ?_⟩)) rfl rfl rfl
 ·intro k ⟨hk, hall⟩
  refine AC.seq (AC.region ?_)
  refine AL.p (by exact g_cmp rfl rfl rfl) rfl ?_
  refine AL.nil (th_n (AC.seq ?_))
  refine AC.condD rfl (fun h0 => ?_) (fun h0 => ?_)
  ·refine AC.skip (th_n (AC.seq (AC.block (AC.seq ?_))))
   have hk1 : k < b.ps.length := by omega
   have hget := sxL_get hk1
   refine AC.region ?_
   refine AL.p (by exact mv1 rfl) rfl ?_
   refine AL.p (by exact g_ia_own rfl rfl rfl rfl rfl (by rfl) (by omega) (by exact Nat.mul_one _)) rfl ?_
   refine AL.p (by exact g_load_arr1 rfl rfl rfl rfl (by assumption)) rfl ?_
   refine AL.p (by exact as1 rfl) rfl ?_
   refine AL.p (by exact as1 rfl) rfl ?_
   refine AL.nil (th_n (AC.seq (AC.region ?_)))
   refine AL.p (by exact mv1 rfl) rfl ?_
   refine AL.p (by exact mv1 rfl) rfl ?_
   refine AL.p (by exact g_scmp rfl rfl rfl) rfl ?_
   refine AL.nil (th_n ?_)
   refine AC.condD rfl (fun h1 => ?_) (fun h1 => ?_)
   ·refine AC.seq (AC.region ?_)
    refine AL.p (by exact mv1 rfl) rfl ?_
    refine AL.p (by exact as1 rfl) rfl ?_
    refine AL.nil (th_n (AC.ret (ib_r (th_r (th_r (ib_r (th_r (bq_r ?_))))))))
    have e := placeF_yes hk1 (bstr_inj h1) hall
    exact retN [(6, 4)] rfl (by rw [e]; repeat (exact DLead.same)) (by rw [e]; repeat (first | exact True.intro | refine And.intro ?_ ?_ | exact DLead.same | exact rfl | refine ⟨_, _, rfl, rfl, ?_⟩ | refine ⟨_, rfl, ?_⟩ | refine ⟨_, _, rfl, ?_, ?_⟩)) rfl rfl
   ·refine AC.skip (ib_n (th_n (AC.region ?_)))
    refine AL.p (by exact g_arith rfl rfl rfl (by exact wrap_i64 (by omega))) rfl ?_
    refine AL.p (by exact mv1 rfl) rfl ?_
    refine AL.nil (th_n ?_)
    exact ⟨k + 1, ⟨by omega, fun j hj hj2 => by rcases Nat.lt_succ_iff_lt_or_eq.1 hj2 with h | rfl; exact hall j hj h; exact fun e => h1 (by rw [e])⟩, by omega, Weak.ren _ [] hC rfl (by repeat (first | exact True.intro | refine And.intro ?_ ?_ | exact DLead.same | exact rfl | refine ⟨_, rfl, ?_⟩)) (by repeat (first | exact True.intro | refine And.intro ?_ ?_ | exact DLead.same | exact rfl | refine ⟨_, _, rfl, rfl, ?_⟩ | refine ⟨_, rfl, ?_⟩ | refine ⟨_, _, rfl, ?_, ?_⟩)) rfl rfl rfl⟩
  ·refine AC.exit (th_e (th_e (ib_y (th_n (AC.seq ?_)))))
   have e := placeF_no (fun j hj => hall j hj (by omega))
   have hln : (b.ps ++ [nm]).length = b.ps.length + 1 := by simp
   refine AC.region ?_
   refine AL.p (by exact mv3 rfl) rfl ?_
   refine AL.p (by exact mv3 rfl) rfl ?_
   refine AL.p (by exact g_nilP rfl) rfl ?_
   refine AL.p (by exact g_fa_ptr rfl rfl rfl rfl rfl) rfl ?_
   refine AL.p (by exact g_load_ptr rfl rfl rfl rfl rfl) rfl ?_
   refine AL.p (by exact mv1 rfl) rfl ?_
   refine AL.q (by exact h_litF rfl rfl rfl rfl rfl rfl rfl rfl) rfl ?_
   refine AL.q (by exact h_appendSx b.ps [nm] (.own rfl rfl (sxL_len _).symm) (.view rfl) (by omega) (by simp)) rfl ?_
   refine AL.p (by exact g_nilP rfl) rfl ?_
   refine AL.p (by exact g_fa_ptr rfl rfl rfl rfl rfl) rfl ?_
   refine AL.q (by exact h_store rfl rfl rfl rfl rfl rfl) rfl ?_
   refine AL.nil (th_n (AC.seq (AC.region ?_)))
   refine AL.p (by exact mv3 rfl) rfl ?_
   refine AL.p (by exact g_nilP rfl) rfl ?_
   refine AL.p (by exact g_fa_ptr rfl rfl rfl rfl rfl) rfl ?_
   refine AL.p (by exact g_fa_ptr rfl rfl rfl rfl rfl) rfl ?_
   refine AL.p (by exact g_load_ptr rfl rfl rfl rfl rfl) rfl ?_
   refine AL.p (by exact g_saddB (a := b.start) (b := [48]) rfl rfl (by simp only [List.length_cons, List.length_nil]; omega)) rfl ?_
   refine AL.p (by exact g_nilP rfl) rfl ?_
   refine AL.p (by exact g_fa_ptr rfl rfl rfl rfl rfl) rfl ?_
   refine AL.p (by exact g_fa_ptr rfl rfl rfl rfl rfl) rfl ?_
   refine AL.q (by exact h_store rfl rfl rfl rfl rfl rfl) rfl ?_
   refine AL.nil (th_n (AC.seq (AC.region ?_)))
   refine AL.p (by exact mv3 rfl) rfl ?_
   refine AL.p (by exact g_nilP rfl) rfl ?_
   refine AL.p (by exact g_fa_ptr rfl rfl rfl rfl rfl) rfl ?_
   refine AL.p (by exact g_fa_ptr rfl rfl rfl rfl rfl) rfl ?_
   refine AL.p (by exact g_fa_ptr rfl rfl rfl rfl rfl) rfl ?_
   refine AL.p (by exact g_load_ptr rfl rfl rfl rfl rfl) rfl ?_
   refine AL.p (by exact g_arith rfl rfl rfl (by exact wrap_i64 (by omega))) rfl ?_
   refine AL.p (by exact g_nilP rfl) rfl ?_
   refine AL.p (by exact g_fa_ptr rfl rfl rfl rfl rfl) rfl ?_
   refine AL.p (by exact g_fa_ptr rfl rfl rfl rfl rfl) rfl ?_
   refine AL.p (by exact g_fa_ptr rfl rfl rfl rfl rfl) rfl ?_
   refine AL.q (by exact h_store rfl rfl rfl rfl rfl rfl) rfl ?_
   refine AL.nil (th_n (AC.seq (AC.region ?_)))
   refine AL.p (by exact mv3 rfl) rfl ?_
   refine AL.p (by exact g_nilP rfl) rfl ?_
   refine AL.p (by exact g_fa_ptr rfl rfl rfl rfl rfl) rfl ?_
   refine AL.p (by exact g_load_ptr rfl rfl rfl rfl rfl) rfl ?_
   refine AL.p (by exact g_len_own (sz := 1) (els := []) (e' := 0) rfl rfl (by simp only [maxLen]; omega)) rfl ?_
   refine AL.p (by exact g_arith rfl rfl rfl (by exact wrap_i64 (by omega))) rfl ?_
   refine AL.p (by exact as1 rfl) rfl ?_
   refine AL.nil (th_n (AC.ret (bq_r ?_)))
   exact retN [(6, 144)] rfl (by rw [e]; exact DLead.eqI (by omega)) (by rw [e]; dsimp only; repeat (first | exact True.intro | refine And.intro ?_ ?_ | exact DLead.same | exact DLead.eqI (by dsimp only; omega) | exact rfl | refine ⟨_, _, rfl, rfl, ?_⟩ | refine ⟨_, rfl, ?_⟩ | refine ⟨_, _, rfl, ?_, ?_⟩)) rfl rfl
theorem en_bPlace : Enters Tryz.prog 86 := enters_of Tryz.func86 rfl rfl
section
variable {P : Program} [PT P] {s : ASt} {dst : Option Nat} {ty : Nat} {pos : String} {af : Array Edge} {gd : Option (Nat × Bool)} {x y : Operand} {f t : Nat}
theorem g_slice_part {e n bt sz id k l h o : Nat} {zs : List ZK} {te : TS} {lo hi : Option Operand} (ht : PT.ty P t = some ⟨.slice e, n, bt, zs⟩) (he : PT.ty P e = some te) (hs : te.size = sz) {els : List (List DV)} {e' : Nat} (hx : s.ev x = .own id k) (hc : s.chunk id = some (.arr e' sz els)) (hlo : OptEv s lo 0 l) (hhi : OptEv s hi k h) (h1 : l ≤ h) (h2 : h ≤ els.length) (ho : l * sz = o) {q : Nat} (hq : h - l = q) :
  GOp P [id] s ⟨dst, .slice t x lo hi none, ty, pos, af, gd⟩ (.part id o q) := by
 subst ho hq
 refine ⟨fun s' ha C U a w m hR => ?_⟩
 have hv := hR.ev x
 rw [ha.2.1 x (by simp [Op.operands]), hx] at hv
 have hc' : s'.chunk id = some (.arr e' sz els) := by rw [ha.2.2 id (by simp)]; exact hc
 have olo := optEv_run ha hR hlo (by rintro x rfl; simp [Op.operands])
 have ohi := optEv_run ha hR hhi (by rintro x rfl; cases lo <;> simp [Op.operands])
 generalize hvv : a.eval x = v at hv
 cases hv with
 | own hp h0 =>
  rename_i cap b
  have hle : els.length ≤ cap ∧ (0 < els.length → ∃ k, b = some k) := by
   cases hR.chunkAt hc' hp with
   | arr _ _ _ h _ => exact ⟨h, fun _ => ⟨_, rfl⟩⟩
   | nil => simp
  have hb := run_bounds (P := P) (isS := true) (len := k) (cap := cap) (mx := none) (l := l) (mm := cap) olo ohi (.inl ⟨rfl, rfl⟩) h1 (by omega) (Nat.le_refl _) w
  refine ⟨_, ?_, .part (b := b) (cap := cap) (a := if cap = l then b.map (fun b => ⟨b, 0, none⟩) else (b.map (fun b => (⟨b, 0, none⟩ : Addr))).map (·.add (l * sz))) (c := cap - l) hp (fun hpos => ?_)⟩
  ·simp only [execOp, Sem.run_bind, hvv, Option.map_none, run_sliceS ht he hs hb, Result.andThen_ok, Sem.run_pure]
  ·obtain ⟨q, rfl⟩ := hle.2 (by omega)
   refine ⟨q, rfl, ?_⟩
   rw [if_neg (by omega)]
   simp [addr_add]
end
section
variable {P : Program} [PT P] {s : ASt} {dst : Option Nat} {ty : Nat} {pos : String} {af : Array Edge} {gd : Option (Nat × Bool)} {x y : Operand} {f t : Nat}
theorem h_clear {e n bt id sz i q : Nat} {zs : List ZK} {te : TS} {els : List (List DV)} {e' : Nat} (ht : PT.ty P t = some ⟨.slice e, n, bt, zs⟩) (he : PT.ty P e = some te) (hs : te.size = sz) (hz0 : te.zero.length = te.size) (hx : s.ev x = .part id (i * sz) q) (hc : s.chunk id = some (.arr e' sz els)) (hq : 0 < q) (hik : i + q ≤ els.length) :
  NOp P [id] s ⟨dst, .call { callee := .builtin .clear, args := #[x], argTypes := #[t] }, ty, pos, af, gd⟩ f ⟨.dead, [(id, some (.arr e' sz (els.take i)))]⟩ := by
 refine ⟨fun s' hag C U U' a w m hR hU hU' hd K Q hK => ?_⟩
 have hc' : s'.chunk id = some (.arr e' sz els) := by rw [hag.2.2 id (by simp)]; exact hc
 have hxr := hR.ev x
 rw [hag.2.1 x (by simp [Op.operands, Call.operands]), hx] at hxr
 obtain ⟨p, hp, hC, hloc⟩ := hR.ch id _ hc'
 obtain ⟨i0, _, z, hi0, _, _, hsz0, _, hiz, hzc⟩ := PT.facts he
 have hinfo : i0.size = sz := by rw [hsz0]; exact hs
 have hzs : z.cells.size = sz := by rw [hzc]; simp [hz0, hs]
 generalize hvx : a.eval x = xv at hxr
 cases hC with
 | nil _ => simp at hik; omega
 | arr hb hf hsz hl hm h0 hrow hel =>
  rename_i b cap arr fz
  cases hxr with
  | part hp' hn0 =>
   rename_i cap' c' bo ad
   rw [hp] at hp'
   simp only [Option.some.injEq] at hp'
   obtain ⟨bb, hbb, rfl⟩ := hn0 hq
   have hbb2 : b = bb := by
    have h9 : (some b : Option Nat) = bo := congrArg Prod.fst hp'
    rw [hbb] at h9; simpa using h9
   subst hbb2
   have hin : (i + q) * sz ≤ arr.size := by rw [hsz]; exact Nat.mul_le_mul_right _ (by omega)
   rw [Nat.add_mul] at hin
   obtain ⟨cs, hcs⟩ : ∃ cs, cs = (Builtin.zeroCells z.cells q).toList := ⟨_, rfl⟩
   have hcl : cs.length = q * sz := by rw [hcs]; simp [Builtin.zeroCells, hzs]
   have hone : ∀ v ∈ cs, v.oneCell' = true := by
    intro v hv
    rw [hcs] at hv
    simp only [Builtin.zeroCells, Array.toList_map, List.mem_map, Array.toList_range, List.mem_range] at hv
    obtain ⟨j, hj, rfl⟩ := hv
    have hlt : j % z.cells.size < z.cells.size := Nat.mod_lt _ (by rw [hzs]; omega)
    have hv2 : z.cells[j % z.cells.size]! ∈ z.cells := by
     rw [getElem!_pos z.cells _ hlt]; exact Array.getElem_mem hlt
    have key : ∀ v, v ∈ z.cells → v.oneCell' = true := by
     intro v hv
     rw [hzc] at hv
     simp only [List.mem_toArray, List.mem_map] at hv
     obtain ⟨zz, _, rfl⟩ := hv
     cases zz <;> rfl
    exact key _ hv2
   have hst := run_storeCells_cells (P := P) b (i * sz) cs 0 w (fun j hj => by rw [Nat.add_zero, cell_getD hb (by omega)]; rfl) (fun j hj => by
    have := hf (i * sz + j) (by omega)
    simp only [World.frozen?, hb]
    simpa using this) hone
   simp only [Nat.add_zero] at hst
   have hrun : (Builtin.clear_ #[t] ty #[.slice (some ⟨b, i * sz, none⟩) q c']).run P w = .ok (.tuple #[]) (w.setCells b (i * sz) cs) := by
    obtain ⟨q', rfl⟩ : ∃ q', q = q' + 1 := ⟨q - 1, by omega⟩
    have hzv : (zeroValue e).run P w = .ok z w := by simp [zeroValue, typeInfo, hi0, hiz]
    rw [hcs] at hst
    simp [Builtin.clear_, run_underlying (PT.slice ht), hzv, hst, Result.andThen, hcs]
   have hg : ∀ r, r < i * sz → (setSeg arr (i * sz) cs).getD r undef = arr.getD r undef := by
    intro r hr
    rw [setSeg_get _ _ _ (by omega) r, if_neg (by omega)]
   have hR' := hR.turned (i := dst) (r := .dead) (v := .tuple #[]) (w' := w.setCells b (i * sz) cs) (c' := .arr e' sz (els.take i)) hd hc' hp (fr_setCells _ w _) (fun F' hF => ⟨.dead, .arr (heap_setCells_at _ w _ _ hb) (by rw [setSeg_size]; exact hf) (by rw [setSeg_size]; exact hsz) (by rw [List.length_take]; omega) hm h0 (fun r row hr => ?_) (fun r row j dd hr hj => ?_)⟩)
   ·unfold Oper.wp
    simp only [execOp, resolve, invoke, builtin, Sem.run_bind, Sem.run_pure, Result.andThen_ok, Oper.upon]
    simp [hvx, hrun, Result.andThen]
    exact hK _ _ m (hR'.weaken rfl (fun _ => .inr rfl) (fun _ _ h => h) (fun j hj => (hU' j hj).1))
   ·rw [List.getElem?_take] at hr
    split at hr
    ·exact hrow _ _ hr
    ·cases hr
   ·rw [List.getElem?_take] at hr
    split at hr
    ·rename_i h2
     have hj2 : j < sz := by
      have := hrow _ _ hr
      have := (List.getElem?_eq_some_iff.1 hj).1
      omega
     have e2 : (r + 1) * sz ≤ i * sz := Nat.mul_le_mul_right _ h2
     rw [Nat.succ_mul] at e2
     rw [hg _ (by omega)]
     exact (hel r row j dd hr hj).turn (fun k hk _ => hF k hk)
    ·cases hr
end
theorem strsL_len (l : List (List UInt8)) : (strsL l).length = l.length := List.length_map _
theorem h_appendSt (acc new : List (List UInt8)) {s : ASt} {dst : Option Nat} {ty : Nat} {pos : String} {af : Array Edge} {gd : Option (Nat × Bool)} {x y : Operand} {f : Nat} {ids ids2 : List Nat} {gone : List (Nat × Option Chunk)}
  (hto : AppTo s x 9 1 (strsL acc) ids gone) (harg : AppArg s y 1 (strsL new) ids2) (h : (acc ++ new).length ≤ 100000000) (hnew : gone = [] → 0 < new.length) :
  NOp Tryz.prog (ids ++ ids2) s ⟨dst, .call { callee := .builtin .append, args := #[x, y], argTypes := #[24, 24] }, ty, pos, af, gd⟩ f ⟨.own f (acc ++ new).length, (f, some (.arr 9 1 (strsL (acc ++ new)))) :: gone⟩ := by
 have := h_append (P := Tryz.prog) (s := s) (dst := dst) (ty := ty) (pos := pos) (af := af) (gd := gd) (x := x) (y := y) (f := f) (t := 24) (tx := 24) (k := (acc ++ new).length) rfl rfl rfl rfl rfl rfl hto harg (by simp) (by omega) (by show (acc ++ new).length * 16 ≤ _; omega) (fun h => by rw [strsL_len]; exact hnew h)
 rwa [← List.map_append] at this
def cvB (n : Int) (l : List (List UInt8)) : Bool := (decide (1 ≤ n) && decide (n ≤ 8)) && (decide ((l.length : Int) ≤ 60) && l.all fun c => cubeB c n)
def covB (l : List (List UInt8)) (x : List UInt8) : Bool := l.any fun c => hasC c x
theorem cubeB_in3 {c : List UInt8} {n : Int} (h : cubeB c n = true) : (c.length : Int) = n ∧ 1 ≤ n ∧ n ≤ 8 := by
 simp only [cubeB, Bool.and_eq_true, decide_eq_true_eq] at h
 exact h.2
theorem cvB_in {n : Int} {l : List (List UInt8)} (h : cvB n l = true) : (1 ≤ n ∧ n ≤ 8) ∧ l.length ≤ 60 ∧ ∀ c, c ∈ l → cubeB c n = true := by
 simp only [cvB, Bool.and_eq_true, decide_eq_true_eq, List.all_eq_true] at h
 exact ⟨h.1, by omega, h.2.2⟩
theorem iCov1_spec (c : List UInt8) (n : Int) (hc : c.length ≤ 2000000) : ASpec Tryz.prog 33 [aS (bstr c), .d (.ref [dI n])] [] (Pure1 (aT (!cubeB c n))) := by
 have hK := isCube_spec c n hc
 refine ASpec.of Tryz.func33 rfl rfl fun C hC => ?_
 refine AC.seq (AC.region ?_)
 refine AL.p (by exact as1 rfl) rfl ?_
 refine AL.nil (th_n (AC.seq (AC.region ?_)))
 refine AL.p (by exact mv1 rfl) rfl ?_
 refine AL.p (by exact g_load_ref rfl rfl rfl) rfl ?_
 refine AL.q (by exact h_pure en_isCube rfl rfl (by repeat (first | exact rfl | exact DLead.same | refine ⟨_, _, rfl, ?_, ?_⟩)) hK rfl) rfl ?_
 refine AL.p (by exact g_not rfl) rfl ?_
 refine AL.p (by exact as1 rfl) rfl ?_
 refine AL.nil (th_n (AC.ret (bq_r ?_)))
 exact ret1 rfl rfl
theorem en_iCov1 : Enters Tryz.prog 33 := enters_of Tryz.func33 rfl rfl
theorem iCov_spec (n : Int) (l : List (List UInt8)) (hl : l.length ≤ 1000000) (hb : ∀ c, c ∈ l → c.length ≤ 2000000) : ASpec Tryz.prog 11 [aI n, .d (vSs l)] [] (Pure1 (aT (cvB n l))) := by
 have hW := within_spec n 1 8
 have hF := cfStr_spec l hl 33 [.ref [dI n]] en_iCov1 (fun c => !cubeB c n) (fun c h => iCov1_spec c n (hb c h))
 have hR : cvB n l = ((decide (1 ≤ n) && decide (n ≤ 8)) && (decide ((l.length : Int) ≤ 60) && !l.any fun c => !cubeB c n)) := by unfold cvB; rw [List.all_eq_not_any_not]
 obtain ⟨b1, hb1⟩ : ∃ b, b = (decide (1 ≤ n) && decide (n ≤ 8)) := ⟨_, rfl⟩
 obtain ⟨b2, hb2⟩ : ∃ b, b = l.any fun c => !cubeB c n := ⟨_, rfl⟩
 rw [← hb1] at hW hR
 rw [← hb2] at hF hR
 clear hb1 hb2
 refine ASpec.of Tryz.func11 rfl rfl fun C hC => ?_
 refine AC.seq (AC.region ?_)
 refine AL.q (by exact h_boxF rfl rfl) rfl ?_
 refine AL.p (by exact as1 rfl) rfl ?_
 refine AL.nil (th_n (AC.seq (AC.region ?_)))
 refine AL.p (by exact g_load_ref rfl rfl rfl) rfl ?_
 refine AL.q (by exact h_pure en_within rfl rfl (by repeat (first | exact rfl | exact DLead.same | refine ⟨_, _, rfl, ?_, ?_⟩)) hW rfl) rfl ?_
 refine AL.p (by exact mv1 rfl) rfl ?_
 refine AL.caseGB rfl rfl (fun h0 => ?_) (fun h0 => ?_)
 ·refine AL.yes rfl rfl rfl ?_
  refine AL.p (by exact mv1 rfl) rfl ?_
  refine AL.yes rfl rfl rfl ?_
  refine AL.p (by exact g_len_view (k := l.length) rfl rfl (strsL_len _)) rfl ?_
  refine AL.yes rfl rfl rfl ?_
  refine AL.p (by exact g_cmp rfl rfl rfl) rfl ?_
  refine AL.p (by exact g_pickT (r := .d _) rfl rfl) rfl ?_
  refine AL.p (by exact mv1 rfl) rfl ?_
  refine AL.caseG rfl rfl (fun h1 => ?_) (fun h1 => ?_)
  ·refine AL.yes rfl rfl rfl ?_
   refine AL.p (by exact mv1 rfl) rfl ?_
   refine AL.yes rfl rfl rfl ?_
   refine AL.p (by exact g_fn rfl) rfl ?_
   refine AL.yes rfl rfl rfl ?_
   refine AL.q (by exact h_pure en_cfStr rfl rfl (by repeat (first | exact rfl | exact DLead.same | refine ⟨_, _, rfl, ?_, ?_⟩ | refine ⟨_, rfl, ?_⟩)) hF rfl) rfl ?_
   refine AL.yes rfl rfl rfl ?_
   refine AL.p (by exact g_not rfl) rfl ?_
   refine AL.p (by exact g_pickT (r := .d _) rfl rfl) rfl ?_
   refine AL.p (by exact as1 rfl) rfl ?_
   refine AL.nil (th_n (AC.ret (bq_r ?_)))
   exact ret1 rfl (by clear hW hF hC; rw [hR]; simp_all <;> omega)
  ·refine AL.not rfl rfl rfl rfl rfl ?_
   refine AL.not rfl rfl rfl rfl rfl ?_
   refine AL.not rfl rfl rfl rfl rfl ?_
   refine AL.not rfl rfl rfl rfl rfl ?_
   refine AL.p (by exact g_pickF (r := .d _) rfl rfl) rfl ?_
   refine AL.p (by exact as1 rfl) rfl ?_
   refine AL.nil (th_n (AC.ret (bq_r ?_)))
   exact ret1 rfl (by clear hW hF hC; rw [hR]; simp_all <;> omega)
 ·refine AL.not rfl rfl rfl rfl rfl ?_
  refine AL.not rfl rfl rfl rfl rfl ?_
  refine AL.not rfl rfl rfl rfl rfl ?_
  refine AL.p (by exact g_pickF (r := .d _) rfl rfl) rfl ?_
  refine AL.p (by exact mv1 rfl) rfl ?_
  refine AL.not rfl rfl rfl rfl rfl ?_
  refine AL.not rfl rfl rfl rfl rfl ?_
  refine AL.not rfl rfl rfl rfl rfl ?_
  refine AL.not rfl rfl rfl rfl rfl ?_
  refine AL.p (by exact g_pickF (r := .d _) rfl rfl) rfl ?_
  refine AL.p (by exact as1 rfl) rfl ?_
  refine AL.nil (th_n (AC.ret (bq_r ?_)))
  exact ret1 rfl (by clear hW hF hC; rw [hR]; simp_all <;> omega)
theorem en_iCov : Enters Tryz.prog 11 := enters_of Tryz.func11 rfl rfl
theorem cubeB_ne {c : List UInt8} {n : Int} (h : (c.length : Int) ≠ n) : cubeB c n = false := by
 unfold cubeB
 rw [decide_eq_false h, Bool.false_and, Bool.and_false]
set_option maxHeartbeats 1000000 in
theorem l13Good_spec (n : Int) (l : List (List UInt8)) (hl : l.length ≤ 1000000) (hb : ∀ c, c ∈ l → c.length ≤ 2000000) : ASpec Tryz.prog 28 [aI n, .d (vSs l)] [] (Pure1 (aT (cvB n l))) := by
 have hW := l1In_spec n 1 8
 have hR : cvB n l = ((decide (1 ≤ n) && decide (n ≤ 8)) && (decide ((l.length : Int) ≤ 60) && l.all fun c => cubeB c n)) := rfl
 obtain ⟨b1, hb1⟩ : ∃ b, b = (decide (1 ≤ n) && decide (n ≤ 8)) := ⟨_, rfl⟩
 rw [← hb1] at hW hR
 obtain ⟨G, hG⟩ : ∃ G, G = cvB n l := ⟨_, rfl⟩
 rw [← hG] at hR ⊢
 clear hb1 hG
 refine ASpec.of Tryz.func28 rfl rfl fun C hC => ?_
 refine AC.seq (AC.region ?_)
 refine AL.p (by exact as1 rfl) rfl ?_
 refine AL.nil (th_n (AC.seq (AC.seq (AC.region ?_))))
 refine AL.p (by exact mv1 rfl) rfl ?_
 refine AL.p (by exact g_len_view (k := l.length) rfl rfl (strsL_len _)) rfl ?_
 refine AL.p (by exact mv1 rfl) rfl ?_
 refine AL.nil (th_n (AC.block ?_))
 refine AC.loop (ι := Nat) (fun k => ⟨30, 100, [(0, aI n), (1, .d (vSs l)), (7, .d (vSs l)), (8, aI l.length), (9, aI k)], []⟩) (fun k => k ≤ l.length ∧ ∀ j (hj : j < l.length), j < k → cubeB l[j] n = true) (fun k => l.length - k) (0) ?_ (⟨Nat.zero_le _, fun j _ hj => by omega⟩) ?_
 ·refine Weak.ren _ [] hC rfl ?_ ?_ rfl rfl rfl <;> repeat (first | exact True.intro | refine And.intro ?_ ?_ | exact DLead.same)
 ·intro k ⟨hk, hall⟩
  refine AC.seq (AC.region ?_)
  refine AL.p (by exact g_cmp rfl rfl rfl) rfl ?_
  refine AL.nil (th_n (AC.seq ?_))
  refine AC.condD rfl (fun h0 => ?_) (fun h0 => ?_)
  ·refine AC.skip (th_n (AC.seq (AC.block (AC.seq ?_))))
   have hk1 : k < l.length := by omega
   have hget := strs_at hk1
   have hcl := hb _ (List.getElem_mem hk1)
   have hno : cubeB l[k] n = false → G = false := fun q => hR.trans (by rw [List.all_eq_false.2 ⟨_, List.getElem_mem hk1, by rw [q]; simp⟩, Bool.and_false, Bool.and_false])
   have hall2 : cubeB l[k] n = true → ∀ j (hj : j < l.length), j < k + 1 → cubeB l[j] n = true := fun h j hj hj2 => by rcases Nat.lt_succ_iff_lt_or_eq.1 hj2 with q | rfl; exact hall j hj q; exact h
   obtain ⟨c, hc⟩ : ∃ c, c = l[k] := ⟨_, rfl⟩
   rw [← hc] at hget hcl hno hall2
   have hK := l13Cube_spec c hcl
   have hsz := bstr_size c
   refine AC.region ?_
   refine AL.p (by exact g_ia_view rfl rfl rfl rfl rfl (by rfl) (by assumption)) rfl ?_
   refine AL.p (by exact g_load_ref rfl rfl rfl) rfl ?_
   refine AL.p (by exact as1 rfl) rfl ?_
   refine AL.nil (th_n (AC.seq (AC.region ?_)))
   refine AL.p (by exact mv1 rfl) rfl ?_
   refine AL.q (by exact h_pure en_l13Cube rfl rfl (by repeat (first | exact rfl | exact DLead.same | refine ⟨_, _, rfl, ?_, ?_⟩)) hK rfl) rfl ?_
   refine AL.p (by exact g_not rfl) rfl ?_
   refine AL.p (by exact mv1 rfl) rfl ?_
   refine AL.caseGB rfl rfl (fun h1 => ?_) (fun h1 => ?_)
   ·refine AL.not rfl rfl rfl rfl rfl ?_
    refine AL.not rfl rfl rfl rfl rfl ?_
    refine AL.not rfl rfl rfl rfl rfl ?_
    refine AL.not rfl rfl rfl rfl rfl ?_
    refine AL.p (by exact g_pickT (r := .d _) rfl rfl) rfl ?_
    refine AL.nil (th_n ?_)
    refine AC.condT rfl ?_
    refine AC.seq (AC.region ?_)
    refine AL.p (by exact as1 rfl) rfl ?_
    refine AL.nil (th_n (AC.ret (ib_r (th_r (th_r (ib_r (th_r (bq_r ?_))))))))
    have e := hno (by (have q : cubeB c c.length = false := (by simpa using h1); by_cases e : (c.length : Int) = n; (rw [← e]; exact q); exact cubeB_ne e))
    exact ret1 rfl (by rw [e])
   ·refine AL.yes rfl rfl rfl ?_
    refine AL.p (by exact mv1 rfl) rfl ?_
    refine AL.yes rfl rfl rfl ?_
    refine AL.p (by exact g_len_str (k := c.length) rfl rfl hsz) rfl ?_
    refine AL.yes rfl rfl rfl ?_
    refine AL.p (by exact mv1 rfl) rfl ?_
    refine AL.yes rfl rfl rfl ?_
    refine AL.p (by exact g_cmp rfl rfl rfl) rfl ?_
    refine AL.p (by exact g_pickF (r := .d _) rfl rfl) rfl ?_
    refine AL.nil (th_n ?_)
    refine AC.condND rfl (fun h2 => ?_) (fun h2 => ?_)
    ·refine AC.seq (AC.region ?_)
     refine AL.p (by exact as1 rfl) rfl ?_
     refine AL.nil (th_n (AC.ret (ib_r (th_r (th_r (ib_r (th_r (bq_r ?_))))))))
     have e := hno (by exact cubeB_ne h2)
     exact ret1 rfl (by rw [e])
    ·refine AC.skip (ib_n (th_n (AC.region ?_)))
     refine AL.p (by exact g_arith rfl rfl rfl (by exact wrap_i64 (by omega))) rfl ?_
     refine AL.p (by exact mv1 rfl) rfl ?_
     refine AL.nil (th_n ?_)
     have e := hall2 (by have q : cubeB c c.length = true := (by simpa using h1); rwa [show ((c.length : Nat) : Int) = n from h2] at q)
     exact ⟨k + 1, ⟨by omega, e⟩, by omega, Weak.ren _ [] hC rfl (by repeat (first | exact True.intro | refine And.intro ?_ ?_ | exact DLead.same)) (by repeat (exact True.intro)) rfl rfl rfl⟩
  ·refine AC.exit (th_e (th_e (ib_y (th_n (AC.seq ?_)))))
   have e : G = (b1 && decide ((l.length : Int) ≤ 60)) := hR.trans (by rw [List.all_eq_true.2 (fun x hx => by obtain ⟨j, hj, rfl⟩ := List.getElem_of_mem hx; exact hall j hj (by omega)), Bool.and_true])
   refine AC.region ?_
   refine AL.p (by exact mv1 rfl) rfl ?_
   refine AL.q (by exact h_pure en_l1In rfl rfl (by repeat (first | exact rfl | exact DLead.same | refine ⟨_, _, rfl, ?_, ?_⟩)) hW rfl) rfl ?_
   refine AL.p (by exact mv1 rfl) rfl ?_
   refine AL.caseGB rfl rfl (fun h1 => ?_) (fun h1 => ?_)
   ·refine AL.yes rfl rfl rfl ?_
    refine AL.p (by exact mv1 rfl) rfl ?_
    refine AL.yes rfl rfl rfl ?_
    refine AL.p (by exact g_len_view (k := l.length) rfl rfl (strsL_len _)) rfl ?_
    refine AL.yes rfl rfl rfl ?_
    refine AL.p (by exact g_cmp rfl rfl rfl) rfl ?_
    refine AL.p (by exact g_pickT (r := .d _) rfl rfl) rfl ?_
    refine AL.p (by exact as1 rfl) rfl ?_
    refine AL.nil (th_n (AC.ret (bq_r ?_)))
    exact ret1 rfl (by clear hW hC hR; rw [e]; simp_all)
   ·refine AL.not rfl rfl rfl rfl rfl ?_
    refine AL.not rfl rfl rfl rfl rfl ?_
    refine AL.not rfl rfl rfl rfl rfl ?_
    refine AL.p (by exact g_pickF (r := .d _) rfl rfl) rfl ?_
    refine AL.p (by exact as1 rfl) rfl ?_
    refine AL.nil (th_n (AC.ret (bq_r ?_)))
    exact ret1 rfl (by clear hW hC hR; rw [e]; simp_all)
theorem en_l13Good : Enters Tryz.prog 28 := enters_of Tryz.func28 rfl rfl
theorem sCov_spec (n : Int) (l : List (List UInt8)) (hl : l.length ≤ 1000000) (hb : ∀ c, c ∈ l → c.length ≤ 2000000) : ASpec Tryz.prog 12 [aI n, .d (vSs l)] [] (Pure1 (aT (cvB n l))) := by
 have hG := l13Good_spec n l hl hb
 refine ASpec.of Tryz.func12 rfl rfl fun C hC => ?_
 refine AC.seq (AC.region ?_)
 refine AL.p (by exact as1 rfl) rfl ?_
 refine AL.nil (th_n (AC.seq (AC.region ?_)))
 refine AL.p (by exact mv1 rfl) rfl ?_
 refine AL.p (by exact mv1 rfl) rfl ?_
 refine AL.q (by exact h_pure en_l13Good rfl rfl (by repeat (first | exact rfl | exact DLead.same | refine ⟨_, _, rfl, ?_, ?_⟩)) hG rfl) rfl ?_
 refine AL.p (by exact as1 rfl) rfl ?_
 refine AL.nil (th_n (AC.ret (bq_r ?_)))
 exact ret1 rfl rfl
theorem en_sCov : Enters Tryz.prog 12 := enters_of Tryz.func12 rfl rfl
theorem coversI1_spec (c x : List UInt8) (hc : c.length ≤ 2000000) (hx : x.length = c.length) : ASpec Tryz.prog 60 [aS (bstr c), .d (.ref [dS (bstr x)])] [] (Pure1 (aT (hasC c x))) := by
 have hK := contains_spec c x hc hx
 refine ASpec.of Tryz.func60 rfl rfl fun C hC => ?_
 refine AC.seq (AC.region ?_)
 refine AL.p (by exact as1 rfl) rfl ?_
 refine AL.nil (th_n (AC.seq (AC.region ?_)))
 refine AL.p (by exact mv1 rfl) rfl ?_
 refine AL.p (by exact g_load_ref rfl rfl rfl) rfl ?_
 refine AL.q (by exact h_pure en_contains rfl rfl (by repeat (first | exact rfl | exact DLead.same | refine ⟨_, _, rfl, ?_, ?_⟩)) hK rfl) rfl ?_
 refine AL.p (by exact as1 rfl) rfl ?_
 refine AL.nil (th_n (AC.ret (bq_r ?_)))
 exact ret1 rfl rfl
theorem en_coversI1 : Enters Tryz.prog 60 := enters_of Tryz.func60 rfl rfl
theorem coversI_spec (l : List (List UInt8)) (x : List UInt8) (hl : l.length ≤ 1000000) (hx : x.length ≤ 2000000) (hb : ∀ c, c ∈ l → x.length = c.length) : ASpec Tryz.prog 37 [.d (vSs l), aS (bstr x)] [] (Pure1 (aT (covB l x))) := by
 have hF := cfStr_spec l hl 60 [.ref [dS (bstr x)]] en_coversI1 (fun c => hasC c x) (fun c h => coversI1_spec c x (by have := hb c h; omega) (hb c h))
 refine ASpec.of Tryz.func37 rfl rfl fun C hC => ?_
 refine AC.seq (AC.region ?_)
 refine AL.q (by exact h_boxF rfl rfl) rfl ?_
 refine AL.p (by exact as1 rfl) rfl ?_
 refine AL.nil (th_n (AC.seq (AC.region ?_)))
 refine AL.p (by exact mv1 rfl) rfl ?_
 refine AL.p (by exact g_fn rfl) rfl ?_
 refine AL.q (by exact h_pure en_cfStr rfl rfl (by repeat (first | exact rfl | exact DLead.same | refine ⟨_, _, rfl, ?_, ?_⟩ | refine ⟨_, rfl, ?_⟩)) hF rfl) rfl ?_
 refine AL.p (by exact as1 rfl) rfl ?_
 refine AL.nil (th_n (AC.ret (bq_r ?_)))
 exact ret1 rfl rfl
theorem en_coversI : Enters Tryz.prog 37 := enters_of Tryz.func37 rfl rfl
set_option maxHeartbeats 1000000 in
theorem l13In_spec (l : List (List UInt8)) (x : List UInt8) (hl : l.length ≤ 1000000) (hx : x.length ≤ 2000000) (hb : ∀ c, c ∈ l → x.length = c.length) : ASpec Tryz.prog 47 [.d (vSs l), aS (bstr x)] [] (Pure1 (aT (covB l x))) := by
 refine ASpec.of Tryz.func47 rfl rfl fun C hC => ?_
 refine AC.seq (AC.region ?_)
 refine AL.p (by exact as1 rfl) rfl ?_
 refine AL.nil (th_n (AC.seq (AC.seq (AC.region ?_))))
 refine AL.p (by exact mv1 rfl) rfl ?_
 refine AL.p (by exact g_len_view (k := l.length) rfl rfl (strsL_len _)) rfl ?_
 refine AL.p (by exact mv1 rfl) rfl ?_
 refine AL.nil (th_n (AC.block ?_))
 refine AC.loop (ι := Nat) (fun k => ⟨17, 100, [(0, .d (vSs l)), (1, aS (bstr x)), (7, .d (vSs l)), (8, aI l.length), (9, aI k)], []⟩) (fun k => k ≤ l.length ∧ ∀ j (hj : j < l.length), j < k → hasC l[j] x = false) (fun k => l.length - k) (0) ?_ (⟨Nat.zero_le _, fun j _ hj => by omega⟩) ?_
 ·refine Weak.ren _ [] hC rfl ?_ ?_ rfl rfl rfl <;> repeat (first | exact True.intro | refine And.intro ?_ ?_ | exact DLead.same)
 ·intro k ⟨hk, hall⟩
  refine AC.seq (AC.region ?_)
  refine AL.p (by exact g_cmp rfl rfl rfl) rfl ?_
  refine AL.nil (th_n (AC.seq ?_))
  refine AC.condD rfl (fun h0 => ?_) (fun h0 => ?_)
  ·refine AC.skip (th_n (AC.seq (AC.block (AC.seq ?_))))
   have hk1 : k < l.length := by omega
   have hget := strs_at hk1
   have hcl := hb _ (List.getElem_mem hk1)
   have hyes : hasC l[k] x = true → covB l x = true := fun q => List.any_eq_true.2 ⟨_, List.getElem_mem hk1, q⟩
   have hall2 : hasC l[k] x = false → ∀ j (hj : j < l.length), j < k + 1 → hasC l[j] x = false := fun h j hj hj2 => by rcases Nat.lt_succ_iff_lt_or_eq.1 hj2 with q | rfl; exact hall j hj q; exact h
   have hK := l13Has_spec l[k] x (by omega) hcl
   obtain ⟨b, hbb⟩ : ∃ b, b = hasC l[k] x := ⟨_, rfl⟩
   rw [← hbb] at hK hyes hall2
   refine AC.region ?_
   refine AL.p (by exact g_ia_view rfl rfl rfl rfl rfl (by rfl) (by assumption)) rfl ?_
   refine AL.p (by exact g_load_ref rfl rfl rfl) rfl ?_
   refine AL.p (by exact as1 rfl) rfl ?_
   refine AL.nil (th_n (AC.seq (AC.region ?_)))
   refine AL.p (by exact mv1 rfl) rfl ?_
   refine AL.p (by exact mv1 rfl) rfl ?_
   refine AL.q (by exact h_pure en_l13Has rfl rfl (by repeat (first | exact rfl | exact DLead.same | refine ⟨_, _, rfl, ?_, ?_⟩)) hK rfl) rfl ?_
   refine AL.nil (th_n ?_)
   refine AC.condB rfl (fun h1 => ?_) (fun h1 => ?_)
   ·refine AC.seq (AC.region ?_)
    refine AL.p (by exact as1 rfl) rfl ?_
    refine AL.nil (th_n (AC.ret (ib_r (th_r (th_r (ib_r (th_r (bq_r ?_))))))))
    exact ret1 rfl (by rw [hyes h1])
   ·refine AC.skip (ib_n (th_n (AC.region ?_)))
    refine AL.p (by exact g_arith rfl rfl rfl (by exact wrap_i64 (by omega))) rfl ?_
    refine AL.p (by exact mv1 rfl) rfl ?_
    refine AL.nil (th_n ?_)
    exact ⟨k + 1, ⟨by omega, hall2 h1⟩, by omega, Weak.ren _ [] hC rfl (by repeat (first | exact True.intro | refine And.intro ?_ ?_ | exact DLead.same)) (by repeat (exact True.intro)) rfl rfl rfl⟩
  ·refine AC.exit (th_e (th_e (ib_y (th_n (AC.seq (AC.region ?_))))))
   refine AL.p (by exact as1 rfl) rfl ?_
   refine AL.nil (th_n (AC.ret (bq_r ?_)))
   have e : covB l x = false := List.any_eq_false.2 fun c hc => by obtain ⟨j, hj, rfl⟩ := List.getElem_of_mem hc; rw [hall j hj (by omega)]; simp
   exact ret1 rfl (by rw [e])
theorem en_l13In : Enters Tryz.prog 47 := enters_of Tryz.func47 rfl rfl
def codesN : Nat → List (List UInt8)
 | 0 => [[]]
 | n + 1 => (codesN n).flatMap fun c => [c ++ [48], c ++ [49]]
def nxtN (L : List (List UInt8)) (j : Nat) : List (List UInt8) := (L.take j).flatMap fun c => [c ++ [48], c ++ [49]]
theorem nxtN_succ {L : List (List UInt8)} {j : Nat} (hj : j < L.length) : nxtN L (j + 1) = nxtN L j ++ [L[j] ++ [48], L[j] ++ [49]] := by
 unfold nxtN
 rw [List.take_add_one, List.getElem?_eq_getElem hj, List.flatMap_append]
 rfl
theorem nxtN_len {L : List (List UInt8)} : ∀ j, j ≤ L.length → (nxtN L j).length = 2 * j
 | 0, _ => rfl
 | j + 1, h => by
  rw [nxtN_succ (by omega), List.length_append, nxtN_len j (by omega)]
  simp only [List.length_cons, List.length_nil]; omega
theorem nxtN_all (n : Nat) : nxtN (codesN n) (codesN n).length = codesN (n + 1) := by unfold nxtN; rw [List.take_length]; rfl
theorem codesN_len : ∀ n, (codesN n).length = 2 ^ n
 | 0 => rfl
 | n + 1 => by rw [← nxtN_all, nxtN_len _ (Nat.le_refl _), codesN_len n, Nat.pow_succ]; omega
theorem codesN_mem : ∀ (n : Nat) (x : List UInt8), x ∈ codesN n → x.length = n ∧ ∀ b, b ∈ x → b = 48 ∨ b = 49
 | 0, x, h => by rw [List.mem_singleton.1 h]; exact ⟨rfl, fun b hb => absurd hb List.not_mem_nil⟩
 | n + 1, x, h => by
  obtain ⟨c, hc, hx⟩ := List.mem_flatMap.1 h
  have ih := codesN_mem n c hc
  have hx2 : x = c ++ [48] ∨ x = c ++ [49] := by simpa using hx
  rcases hx2 with rfl | rfl
  ·refine ⟨by rw [List.length_append, ih.1]; rfl, fun b hb => ?_⟩
   rcases List.mem_append.1 hb with h | h
   ·exact ih.2 b h
   ·left; simpa using h
  ·refine ⟨by rw [List.length_append, ih.1]; rfl, fun b hb => ?_⟩
   rcases List.mem_append.1 hb with h | h
   ·exact ih.2 b h
   ·right; simpa using h
theorem pow_le256 {k n : Nat} (hk : k ≤ n) (hn : n ≤ 8) : 2 ^ k ≤ 256 := Nat.le_trans (Nat.pow_le_pow_right (by omega) (Nat.le_trans hk hn)) (by decide)
set_option maxHeartbeats 4000000 in
theorem allCodes_spec (n : Nat) (hn : n ≤ 8) : ASpec Tryz.prog 55 [aI n] [] (Fun1 (.own 0 (codesN n).length) [(0, .arr 9 1 (strsL (codesN n)))]) := by
 refine ASpec.of Tryz.func55 rfl rfl fun C hC => ?_
 refine AC.seq (AC.region ?_)
 refine AL.p (by exact as1 rfl) rfl ?_
 refine AL.nil (th_n (AC.seq (AC.region ?_)))
 refine AL.q (by exact h_lit rfl rfl rfl rfl rfl rfl rfl rfl) rfl ?_
 refine AL.p (by exact as2 rfl) rfl ?_
 refine AL.nil (th_n (AC.seq (AC.seq (AC.region ?_))))
 refine AL.p (by exact mv1 rfl) rfl ?_
 refine AL.p (by exact mv1 rfl) rfl ?_
 refine AL.nil (th_n (AC.block ?_))
 refine AC.loop (ι := Nat) (fun k => ⟨29, 300, [(3, .own 100 (codesN k).length), (8, aI n), (9, aI k)], [(100, some (.arr 9 1 (strsL (codesN k))))]⟩) (fun k => k ≤ n) (fun k => n - k) (0) ?_ (Nat.zero_le _) ?_
 ·exact Weak.ren _ [(100, _)] hC rfl (by repeat (first | exact True.intro | refine And.intro ?_ ?_ | exact DLead.same | exact rfl | refine ⟨_, rfl, ?_⟩)) (by repeat (first | exact True.intro | refine And.intro ?_ ?_ | exact rfl | refine ⟨_, _, rfl, rfl, ?_⟩)) rfl rfl rfl
 ·intro k hk
  have hcl := codesN_len k
  have hp2 := pow_le256 hk hn
  refine AC.seq (AC.region ?_)
  refine AL.p (by exact g_cmp rfl rfl rfl) rfl ?_
  refine AL.nil (th_n (AC.seq ?_))
  refine AC.condD rfl (fun h0 => ?_) (fun h0 => ?_)
  ·refine AC.skip (th_n (AC.seq (AC.block (AC.seq (AC.region ?_)))))
   refine AL.q (by exact h_lit rfl rfl rfl rfl rfl rfl rfl rfl) rfl ?_
   refine AL.p (by exact as2 rfl) rfl ?_
   refine AL.nil (th_n (AC.seq (AC.seq (AC.region ?_))))
   refine AL.p (by exact mv2 rfl) rfl ?_
   refine AL.p (by exact g_len_own (sz := 1) (els := []) (e' := 0) rfl rfl (by simp only [maxLen]; omega)) rfl ?_
   refine AL.p (by exact mv1 rfl) rfl ?_
   refine AL.nil (th_n (AC.block ?_))
   refine AC.loop (ι := Nat) (fun j => ⟨29, 600, [(4, .own 101 (nxtN (codesN k) j).length), (8, aI n), (9, aI k), (12, .own 100 (codesN k).length), (13, aI (codesN k).length), (14, aI j)], [(100, some (.arr 9 1 (strsL (codesN k)))), (101, some (.arr 9 1 (strsL (nxtN (codesN k) j))))]⟩) (fun j => j ≤ (codesN k).length) (fun j => (codesN k).length - j) (0) ?_ (Nat.zero_le _) ?_
   ·exact Weak.ren _ [(100, 100), (101, _)] hC rfl (by repeat (first | exact True.intro | refine And.intro ?_ ?_ | exact DLead.same | exact rfl | refine ⟨_, rfl, ?_⟩)) (by repeat (first | exact True.intro | refine And.intro ?_ ?_ | exact rfl | refine ⟨_, _, rfl, rfl, ?_⟩)) rfl rfl rfl
   ·intro j hj
    refine AC.seq (AC.region ?_)
    refine AL.p (by exact g_cmp rfl rfl rfl) rfl ?_
    refine AL.nil (th_n (AC.seq ?_))
    refine AC.condD rfl (fun h1 => ?_) (fun h1 => ?_)
    ·refine AC.skip (th_n (AC.seq (AC.block (AC.seq ?_))))
     have hj1 : j < (codesN k).length := by omega
     have hrow : (strsL (codesN k))[j]? = some [dS (bstr (codesN k)[j])] := strs_at hj1
     have hnx := nxtN_succ hj1
     have hnl := nxtN_len (L := codesN k) j (by omega)
     have hcm := (codesN_mem k _ (List.getElem_mem hj1)).1
     obtain ⟨c, hc⟩ : ∃ c, c = (codesN k)[j] := ⟨_, rfl⟩
     rw [← hc] at hrow hnx hcm
     refine AC.region ?_
     refine AL.p (by exact g_ia_own (i := j) (l := (codesN k).length) rfl rfl rfl rfl rfl rfl hj1 rfl) rfl ?_
     refine AL.p (by exact g_load_arr1 rfl rfl rfl rfl (by rw [Nat.mul_one]; exact hrow)) rfl ?_
     refine AL.p (by exact as1 rfl) rfl ?_
     refine AL.nil (th_n (AC.region ?_))
     refine AL.p (by exact mv2 rfl) rfl ?_
     refine AL.p (by exact mv1 rfl) rfl ?_
     refine AL.p (by exact g_saddB (a := c) (b := [48]) rfl rfl (by simp only [List.length_cons, List.length_nil]; omega)) rfl ?_
     refine AL.p (by exact mv1 rfl) rfl ?_
     refine AL.p (by exact g_saddB (a := c) (b := [49]) rfl rfl (by simp only [List.length_cons, List.length_nil]; omega)) rfl ?_
     refine AL.q (by exact h_litF rfl rfl rfl rfl rfl rfl rfl rfl) rfl ?_
     refine AL.q (by exact h_appendSt (nxtN (codesN k) j) [c ++ [48], c ++ [49]] (.own rfl rfl (strsL_len _).symm) (.view rfl) (by rw [List.length_append, hnl]; simp only [List.length_cons, List.length_nil]; omega) (by simp)) rfl ?_
     refine AL.p (by exact as2 rfl) rfl ?_
     refine AL.nil (ib_n (th_n (AC.region ?_)))
     refine AL.p (by exact g_arith rfl rfl rfl (by exact wrap_i64 (by omega))) rfl ?_
     refine AL.p (by exact mv1 rfl) rfl ?_
     refine AL.nil (th_n ?_)
     exact ⟨j + 1, by omega, by omega, Weak.ren _ [(100, 100), (101, _)] hC rfl (by rw [hnx]; repeat (first | exact True.intro | refine And.intro ?_ ?_ | exact DLead.same | exact rfl | refine ⟨_, rfl, ?_⟩)) (by rw [hnx]; repeat (first | exact True.intro | refine And.intro ?_ ?_ | exact rfl | refine ⟨_, _, rfl, rfl, ?_⟩)) rfl rfl rfl⟩
    ·refine AC.exit (th_e (th_e (ib_y (th_n (AC.region ?_)))))
     refine AL.p (by exact mv2 rfl) rfl ?_
     refine AL.p (by exact as2 rfl) rfl ?_
     refine AL.nil (ib_n (th_n (AC.region ?_)))
     refine AL.p (by exact g_arith rfl rfl rfl (by exact wrap_i64 (by omega))) rfl ?_
     refine AL.p (by exact mv1 rfl) rfl ?_
     refine AL.nil (th_n ?_)
     have hjj : j = (codesN k).length := by omega
     subst hjj
     exact ⟨k + 1, by omega, by omega, Weak.ren _ [(100, 101)] hC rfl (by rw [← nxtN_all]; repeat (first | exact True.intro | refine And.intro ?_ ?_ | exact DLead.same | exact rfl | refine ⟨_, rfl, ?_⟩)) (by rw [← nxtN_all]; repeat (first | exact True.intro | refine And.intro ?_ ?_ | exact rfl | refine ⟨_, _, rfl, rfl, ?_⟩)) rfl rfl rfl⟩
  ·refine AC.exit (th_e (th_e (ib_y (th_n (AC.seq (AC.region ?_))))))
   refine AL.p (by exact mv2 rfl) rfl ?_
   refine AL.p (by exact as2 rfl) rfl ?_
   refine AL.nil (th_n (AC.ret (bq_r ?_)))
   have hkk : k = n := by omega
   subst hkk
   exact retN [(0, 100)] rfl (by repeat (first | exact rfl | refine ⟨_, rfl, ?_⟩)) (by repeat (first | exact True.intro | refine And.intro ?_ ?_ | exact rfl | refine ⟨_, _, rfl, rfl, ?_⟩)) rfl rfl
theorem en_allCodes : Enters Tryz.prog 55 := enters_of Tryz.func55 rfl rfl
set_option maxHeartbeats 4000000 in
theorem l13Codes_spec (n : Nat) (hn : n ≤ 8) : ASpec Tryz.prog 30 [aI n] [] (Fun1 (.own 0 (codesN n).length) [(0, .arr 9 1 (strsL (codesN n)))]) := by
 refine ASpec.of Tryz.func30 rfl rfl fun C hC => ?_
 refine AC.seq (AC.region ?_)
 refine AL.p (by exact as1 rfl) rfl ?_
 refine AL.nil (th_n (AC.seq (AC.region ?_)))
 refine AL.q (by exact h_lit rfl rfl rfl rfl rfl rfl rfl rfl) rfl ?_
 refine AL.p (by exact as2 rfl) rfl ?_
 refine AL.nil (th_n (AC.seq (AC.block ?_)))
 refine AC.loop (ι := Nat) (fun k => ⟨28, 300, [(0, aI ((n : Int) - k)), (3, .own 100 (codesN k).length)], [(100, some (.arr 9 1 (strsL (codesN k))))]⟩) (fun k => k ≤ n) (fun k => n - k) (0) ?_ (Nat.zero_le _) ?_
 ·exact Weak.ren _ [(100, _)] hC rfl (by repeat (first | exact True.intro | refine And.intro ?_ ?_ | exact DLead.same | exact rfl | refine ⟨_, rfl, ?_⟩)) (by repeat (first | exact True.intro | refine And.intro ?_ ?_ | exact rfl | refine ⟨_, _, rfl, rfl, ?_⟩)) rfl rfl rfl
 ·intro k hk
  have hcl := codesN_len k
  have hp2 := pow_le256 hk hn
  refine AC.seq (AC.seq (AC.region ?_))
  refine AL.p (by exact mv1 rfl) rfl ?_
  refine AL.p (by exact g_cmp rfl rfl rfl) rfl ?_
  refine AL.nil (th_n ?_)
  refine AC.condD rfl (fun h0 => ?_) (fun h0 => ?_)
  ·refine AC.skip (th_n (AC.seq (AC.block (AC.seq (AC.region ?_)))))
   refine AL.p (by exact as1 rfl) rfl ?_
   refine AL.nil (th_n (AC.seq (AC.seq (AC.region ?_))))
   refine AL.p (by exact mv2 rfl) rfl ?_
   refine AL.p (by exact g_len_own (sz := 1) (els := []) (e' := 0) rfl rfl (by simp only [maxLen]; omega)) rfl ?_
   refine AL.p (by exact mv1 rfl) rfl ?_
   refine AL.nil (th_n (AC.block ?_))
   refine AC.loop (ι := Nat) (fun j => ⟨28, 600, [(0, aI ((n : Int) - k)), (4, .own 101 (nxtN (codesN k) j).length), (12, .own 100 (codesN k).length), (13, aI (codesN k).length), (14, aI j)], [(100, some (.arr 9 1 (strsL (codesN k)))), (101, some (.arr 9 1 (strsL (nxtN (codesN k) j))))]⟩) (fun j => j ≤ (codesN k).length) (fun j => (codesN k).length - j) (0) ?_ (Nat.zero_le _) ?_
   ·exact (Weak.nilOwn (i := 4) (e := 9) (sz := 1) rfl (by decide)).trans (Weak.ren _ [(100, 100), (101, _)] hC rfl (by repeat (first | exact True.intro | refine And.intro ?_ ?_ | exact DLead.same | exact rfl | refine ⟨_, rfl, ?_⟩)) (by repeat (first | exact True.intro | refine And.intro ?_ ?_ | exact rfl | refine ⟨_, _, rfl, rfl, ?_⟩)) rfl rfl rfl)
   ·intro j hj
    refine AC.seq (AC.region ?_)
    refine AL.p (by exact g_cmp rfl rfl rfl) rfl ?_
    refine AL.nil (th_n (AC.seq ?_))
    refine AC.condD rfl (fun h1 => ?_) (fun h1 => ?_)
    ·refine AC.skip (th_n (AC.seq (AC.block (AC.seq ?_))))
     have hj1 : j < (codesN k).length := by omega
     have hrow : (strsL (codesN k))[j]? = some [dS (bstr (codesN k)[j])] := strs_at hj1
     have hnx := nxtN_succ hj1
     have hnl := nxtN_len (L := codesN k) j (by omega)
     have hcm := (codesN_mem k _ (List.getElem_mem hj1)).1
     obtain ⟨c, hc⟩ : ∃ c, c = (codesN k)[j] := ⟨_, rfl⟩
     rw [← hc] at hrow hnx hcm
     refine AC.region ?_
     refine AL.p (by exact g_ia_own (i := j) (l := (codesN k).length) rfl rfl rfl rfl rfl rfl hj1 rfl) rfl ?_
     refine AL.p (by exact g_load_arr1 rfl rfl rfl rfl (by rw [Nat.mul_one]; exact hrow)) rfl ?_
     refine AL.p (by exact as1 rfl) rfl ?_
     refine AL.nil (th_n (AC.region ?_))
     refine AL.p (by exact mv2 rfl) rfl ?_
     refine AL.p (by exact mv1 rfl) rfl ?_
     refine AL.p (by exact g_saddB (a := c) (b := [48]) rfl rfl (by simp only [List.length_cons, List.length_nil]; omega)) rfl ?_
     refine AL.p (by exact mv1 rfl) rfl ?_
     refine AL.p (by exact g_saddB (a := c) (b := [49]) rfl rfl (by simp only [List.length_cons, List.length_nil]; omega)) rfl ?_
     refine AL.q (by exact h_litF rfl rfl rfl rfl rfl rfl rfl rfl) rfl ?_
     refine AL.q (by exact h_appendSt (nxtN (codesN k) j) [c ++ [48], c ++ [49]] (.own rfl rfl (strsL_len _).symm) (.view rfl) (by rw [List.length_append, hnl]; simp only [List.length_cons, List.length_nil]; omega) (by simp)) rfl ?_
     refine AL.p (by exact as2 rfl) rfl ?_
     refine AL.nil (ib_n (th_n (AC.region ?_)))
     refine AL.p (by exact g_arith rfl rfl rfl (by exact wrap_i64 (by omega))) rfl ?_
     refine AL.p (by exact mv1 rfl) rfl ?_
     refine AL.nil (th_n ?_)
     exact ⟨j + 1, by omega, by omega, Weak.ren _ [(100, 100), (101, _)] hC rfl (by rw [hnx]; repeat (first | exact True.intro | refine And.intro ?_ ?_ | exact DLead.same | exact rfl | refine ⟨_, rfl, ?_⟩)) (by rw [hnx]; repeat (first | exact True.intro | refine And.intro ?_ ?_ | exact rfl | refine ⟨_, _, rfl, rfl, ?_⟩)) rfl rfl rfl⟩
    ·refine AC.exit (th_e (th_e (ib_y (th_n (AC.region ?_)))))
     refine AL.p (by exact mv2 rfl) rfl ?_
     refine AL.p (by exact as2 rfl) rfl ?_
     refine AL.nil (ib_n (th_n (AC.region ?_)))
     refine AL.p (by exact mv1 rfl) rfl ?_
     refine AL.p (by exact g_arith rfl rfl rfl (by exact wrap_i64 (by omega))) rfl ?_
     refine AL.p (by exact as1 rfl) rfl ?_
     refine AL.nil (th_n ?_)
     have hjj : j = (codesN k).length := by omega
     subst hjj
     exact ⟨k + 1, by omega, by omega, Weak.ren _ [(100, 101)] hC rfl (by rw [← nxtN_all]; repeat (first | exact True.intro | refine And.intro ?_ ?_ | exact DLead.eqI (by omega) | exact rfl | refine ⟨_, rfl, ?_⟩)) (by rw [← nxtN_all]; repeat (first | exact True.intro | refine And.intro ?_ ?_ | exact rfl | refine ⟨_, _, rfl, rfl, ?_⟩)) rfl rfl rfl⟩
  ·refine AC.exit (th_e (th_e (ib_y (th_n (AC.seq (AC.region ?_))))))
   refine AL.p (by exact mv2 rfl) rfl ?_
   refine AL.p (by exact as2 rfl) rfl ?_
   refine AL.nil (th_n (AC.ret (bq_r ?_)))
   have hkk : k = n := by omega
   subst hkk
   exact retN [(0, 100)] rfl (by repeat (first | exact rfl | refine ⟨_, rfl, ?_⟩)) (by repeat (first | exact True.intro | refine And.intro ?_ ?_ | exact rfl | refine ⟨_, _, rfl, rfl, ?_⟩)) rfl rfl
theorem en_l13Codes : Enters Tryz.prog 30 := enters_of Tryz.func30 rfl rfl
section
variable {P : Program} [PT P] {s : ASt} {dst : Option Nat} {ty : Nat} {pos : String} {af : Array Edge} {gd : Option (Nat × Bool)} {x y : Operand} {xt yt : Nat}
theorem g_eqBr {a : Bool} {n bt : Nat} {zs : List ZK} (ht : PT.ty P xt = some ⟨.bool, n, bt, zs⟩) (hx : s.ev x = aT a) (hy : s.ev y = aT a) : GOp P [] s ⟨dst, .binOp .eql xt x y yt, ty, pos, af, gd⟩ (aT true) := by
 have h := g_eqB (P := P) (dst := dst) (ty := ty) (pos := pos) (af := af) (gd := gd) (yt := yt) ht hx hy
 rwa [beq_self_eq_true] at h
theorem g_neBr {a : Bool} {n bt : Nat} {zs : List ZK} (ht : PT.ty P xt = some ⟨.bool, n, bt, zs⟩) (hx : s.ev x = aT a) (hy : s.ev y = aT a) : GOp P [] s ⟨dst, .binOp .neq xt x y yt, ty, pos, af, gd⟩ (aT false) := by
 have h := g_neB (P := P) (dst := dst) (ty := ty) (pos := pos) (af := af) (gd := gd) (yt := yt) ht hx hy
 rwa [beq_self_eq_true] at h
theorem g_neIr {k : IntKind} {a b : Int} (hx : s.ev x = .d (.val (.int k a))) (hy : s.ev y = .d (.val (.int k b))) (h : a = b) : GOp P [] s ⟨dst, .binOp .neq xt x y yt, ty, pos, af, gd⟩ (aT false) := g_cmp hx hy (by show some (!decide (a = b)) = _; rw [decide_eq_true h]; rfl)
theorem g_neSr {a b : ByteArray} (hx : s.ev x = aS a) (hy : s.ev y = aS b) (h : a = b) : GOp P [] s ⟨dst, .binOp .neq xt x y yt, ty, pos, af, gd⟩ (aT false) := g_scmp hx hy (by show some (!decide (a = b)) = _; rw [decide_eq_true h]; rfl)
end
theorem findI_or {α : Type} (p : α → Bool) (l : List α) : (findI p l = -1 ∧ ∀ j (hj : j < l.length), p l[j] = false) ∨ ∃ k, ∃ hk : k < l.length, findI p l = (k : Int) ∧ p l[k] = true ∧ ∀ j (hj : j < l.length), j < k → p l[j] = false := by
 by_cases h : l.findIdx p < l.length
 ·right
  refine ⟨l.findIdx p, h, ?_, List.findIdx_getElem, fun j hj hjk => by simpa using List.not_of_lt_findIdx hjk⟩
  unfold findI
  rw [if_pos h]
 ·left
  have e : l.findIdx p = l.length := by have := List.findIdx_le_length (p := p) (xs := l); omega
  refine ⟨by unfold findI; rw [if_neg h], fun j hj => ?_⟩
  have := List.findIdx_eq_length.1 e l[j] (List.getElem_mem hj)
  simpa using this
theorem filter_no {α : Type} {p : α → Bool} {l : List α} (h : ∀ j (hj : j < l.length), p l[j] = false) : l.filter (fun x => !p x) = l := by
 rw [List.filter_eq_self]
 intro x hx
 obtain ⟨j, hj, rfl⟩ := List.getElem_of_mem hx
 rw [h j hj]; rfl
theorem filt_take {α : Type} {p : α → Bool} {l : List α} {k : Nat} (hk : k < l.length) : (l.take (k + 1)).filter (fun x => !p x) = (l.take k).filter (fun x => !p x) ++ (if p l[k] = true then [] else [l[k]]) := by
 rw [List.take_add_one, List.getElem?_eq_getElem hk, List.filter_append]
 congr 1
 cases h : p l[k] <;> simp [h]
structure DelI {α : Type} (p : α → Bool) (l : List α) (i j : Nat) (e : List α) : Prop where
 len : e.length = l.length
 lt : i < j
 le : j ≤ l.length
 kept : e.take i = (l.take j).filter fun x => !p x
 rest : e.drop j = l.drop j
theorem DelI.get {α : Type} {p : α → Bool} {l e : List α} {i j : Nat} (h : DelI p l i j e) (hj : j < l.length) : e[j]? = some l[j] := by
 have : (e.drop j)[0]? = (l.drop j)[0]? := by rw [h.rest]
 rw [List.getElem?_drop, List.getElem?_drop, Nat.add_zero, List.getElem?_eq_getElem hj] at this
 exact this
theorem DelI.skip {α : Type} {p : α → Bool} {l e : List α} {i j : Nat} (h : DelI p l i j e) (hj : j < l.length) (hp : p l[j] = true) : DelI p l i (j + 1) e :=
 ⟨h.len, by have := h.lt; omega, hj, by rw [filt_take hj, if_pos hp, List.append_nil]; exact h.kept, by
  have : (e.drop j).drop 1 = (l.drop j).drop 1 := by rw [h.rest]
  rwa [List.drop_drop, List.drop_drop] at this⟩
theorem DelI.move {α : Type} {p : α → Bool} {l e : List α} {i j : Nat} (h : DelI p l i j e) (hj : j < l.length) (hp : p l[j] = false) : DelI p l (i + 1) (j + 1) (e.set i l[j]) := by
 have h1 := h.len
 have h2 := h.lt
 refine ⟨by rw [List.length_set]; exact h1, by omega, hj, ?_, ?_⟩
 ·rw [filt_take hj, if_neg (by rw [hp]; simp), ← h.kept, List.take_add_one, List.take_set_of_le (Nat.le_refl _), List.getElem?_set_self (by omega)]
  rfl
 ·rw [List.drop_set_of_lt (by omega)]
  have : (e.drop j).drop 1 = (l.drop j).drop 1 := by rw [h.rest]
  rwa [List.drop_drop, List.drop_drop] at this
set_option maxHeartbeats 4000000 in
theorem delStr_spec (l : List (List UInt8)) (hl : l.length ≤ 1000000) (g : FuncId) (ds : List DV) (hen : Enters Tryz.prog g) (p : List UInt8 → Bool) (hp : ∀ t, t ∈ l → ASpec Tryz.prog g (aS (bstr t) :: ds.map .d) [] (Pure1 (aT (p t)))) :
  ASpec Tryz.prog 54 [.own 0 l.length, .clo g (ds.map .d)] [(0, .arr 9 1 (strsL l))] (Fun1 (.own 0 (l.filter fun x => !p x).length) [(0, .arr 9 1 (strsL (l.filter fun x => !p x)))]) := by
 have hIf := ifStr_spec l hl g ds hen p hp
 have hor := findI_or p l
 obtain ⟨F, hF⟩ : ∃ F, F = findI p l := ⟨_, rfl⟩
 rw [← hF] at hIf hor
 have hFb : -1 ≤ F ∧ F ≤ 1000000 := by rcases hor with ⟨e, _⟩ | ⟨k, hk, e, _⟩ <;> omega
 clear hF
 refine ASpec.of Tryz.func54 rfl rfl fun C hC => ?_
 refine AC.seq (AC.region ?_)
 refine AL.p (by exact as1 rfl) rfl ?_
 refine AL.nil (th_n (AC.seq (AC.region ?_)))
 refine AL.p (by exact mv2 rfl) rfl ?_
 refine AL.p (by exact mv6 rfl) rfl ?_
 refine AL.q (by exact h_borrow [0] en_ifStr rfl rfl hIf (.cons (.of (.own (id := 0) rfl rfl (ownl _ _) (ownt _ _))) (.cons .clo .nil)) rfl) rfl ?_
 refine AL.p (by exact as1 rfl) rfl ?_
 refine AL.nil (th_n (AC.seq (AC.seq (AC.region ?_))))
 refine AL.p (by exact mv1 rfl) rfl ?_
 refine AL.p (by exact g_cmp rfl rfl rfl) rfl ?_
 refine AL.nil (th_n ?_)
 refine AC.condD rfl (fun h0 => ?_) (fun h0 => ?_)
 ·refine AC.seq (AC.region ?_)
  refine AL.p (by exact mv2 rfl) rfl ?_
  refine AL.p (by exact as2 rfl) rfl ?_
  refine AL.nil (th_n (AC.ret (th_r (bq_r ?_))))
  have e := filter_no (hor.elim (fun h => h.2) (fun ⟨k, _, h, _⟩ => absurd h (by omega)))
  exact retN [] rfl (by rw [e]; repeat (first | exact rfl | refine ⟨_, rfl, ?_⟩)) (by rw [e]; repeat (first | exact True.intro | refine And.intro ?_ ?_ | exact rfl | refine ⟨_, _, rfl, rfl, ?_⟩)) rfl rfl
 ·refine AC.skip (th_n (AC.seq (AC.seq ?_)))
  obtain ⟨k0, hk0, rfl, hpk, hbef⟩ := hor.resolve_left fun h => h0 h.1
  have hI0 : DelI p l k0 (k0 + 1) l := ⟨rfl, Nat.lt_succ_self _, hk0, by rw [filt_take hk0, if_pos hpk, List.append_nil]; exact (List.filter_eq_self.2 fun x hx => by obtain ⟨j, hj, rfl⟩ := List.mem_take_iff_getElem.1 hx; rw [hbef j (by omega) (by omega)]; rfl).symm, rfl⟩
  refine AC.region ?_
  refine AL.p (by exact mv1 rfl) rfl ?_
  refine AL.p (by exact g_arith rfl rfl rfl (by exact wrap_i64 (by omega))) rfl ?_
  refine AL.p (by exact as1 rfl) rfl ?_
  refine AL.nil (th_n (AC.block ?_))
  refine AC.loop (ι := Nat × Nat × List (List UInt8)) (fun x => ⟨42, 300, [(0, .own 0 l.length), (1, .clo g (ds.map .d)), (5, aI x.1), (6, aI x.2.1)], [(0, some (.arr 9 1 (strsL x.2.2)))]⟩) (fun x => DelI p l x.1 x.2.1 x.2.2) (fun x => l.length - x.2.1) ((k0, k0 + 1, l)) ?_ (hI0) ?_
  ·exact Weak.ren _ [] hC rfl ⟨⟨_, rfl, rfl⟩, ⟨_, rfl, leadsL_data _ ds⟩, by repeat (first | exact True.intro | refine And.intro ?_ ?_ | exact DLead.same)⟩ (by repeat (first | exact True.intro | refine And.intro ?_ ?_ | exact rfl | refine ⟨_, _, rfl, rfl, ?_⟩)) rfl rfl rfl
  ·rintro ⟨i, j, e⟩ hI
   dsimp only at hI ⊢
   have hlt := hI.lt
   have hle := hI.le
   have hel := hI.len
   refine AC.seq (AC.seq (AC.region ?_))
   refine AL.p (by exact mv1 rfl) rfl ?_
   refine AL.p (by exact mv2 rfl) rfl ?_
   refine AL.p (by exact g_len_own (sz := 1) (els := []) (e' := 0) rfl rfl (by simp only [maxLen]; omega)) rfl ?_
   refine AL.p (by exact g_cmp rfl rfl rfl) rfl ?_
   refine AL.nil (th_n ?_)
   refine AC.condD rfl (fun h1 => ?_) (fun h1 => ?_)
   ·refine AC.skip (th_n (AC.seq (AC.block (AC.seq ?_))))
    have hj1 : j < l.length := by omega
    have hrow : (strsL e)[j]? = some [dS (bstr l[j])] := by rw [List.getElem?_map, hI.get hj1]; rfl
    have hG := hp l[j] (List.getElem_mem hj1)
    have hsk := hI.skip hj1
    have hmv := hI.move hj1
    obtain ⟨x, hx⟩ : ∃ x, x = l[j] := ⟨_, rfl⟩
    rw [← hx] at hrow hG hsk hmv
    obtain ⟨b, hb⟩ : ∃ b, b = p x := ⟨_, rfl⟩
    rw [← hb] at hG hsk hmv
    have hrow2 : (strsL e)[i]? = some [dS (bstr e[i])] := strs_at (by omega)
    refine AC.region ?_
    refine AL.p (by exact mv2 rfl) rfl ?_
    refine AL.p (by exact mv1 rfl) rfl ?_
    refine AL.p (by exact g_ia_own (i := j) (l := l.length) rfl rfl rfl rfl rfl rfl hj1 rfl) rfl ?_
    refine AL.p (by exact g_load_arr1 rfl rfl rfl rfl (by rw [Nat.mul_one]; exact hrow)) rfl ?_
    refine AL.p (by exact as1 rfl) rfl ?_
    refine AL.nil (th_n (AC.seq (AC.region ?_)))
    refine AL.p (by exact mv6 rfl) rfl ?_
    refine AL.p (by exact mv1 rfl) rfl ?_
    refine AL.q (by exact h_pure hen rfl rfl (by exact ⟨_, _, rfl, .same, leadsL_data _ ds⟩) hG rfl) rfl ?_
    refine AL.p (by exact g_not rfl) rfl ?_
    refine AL.nil (th_n ?_)
    refine AC.condB rfl (fun h2 => ?_) (fun h2 => ?_)
    ·refine AC.seq (AC.region ?_)
     refine AL.p (by exact mv2 rfl) rfl ?_
     refine AL.p (by exact mv1 rfl) rfl ?_
     refine AL.p (by exact mv1 rfl) rfl ?_
     refine AL.p (by exact g_ia_own (i := i) (l := l.length) rfl rfl rfl rfl rfl rfl (by omega) rfl) rfl ?_
     refine AL.q (by exact h_store_arr (i := i) (j := 0) (d := dS (bstr x)) rfl rfl rfl rfl .same rfl hrow2 (by decide)) rfl ?_
     refine AL.nil (th_n (AC.region ?_))
     refine AL.p (by exact mv1 rfl) rfl ?_
     refine AL.p (by exact g_arith rfl rfl rfl (by exact wrap_i64 (by omega))) rfl ?_
     refine AL.p (by exact as1 rfl) rfl ?_
     refine AL.nil (ib_n (th_n (AC.region ?_)))
     refine AL.p (by exact mv1 rfl) rfl ?_
     refine AL.p (by exact g_arith rfl rfl rfl (by exact wrap_i64 (by omega))) rfl ?_
     refine AL.p (by exact as1 rfl) rfl ?_
     refine AL.nil (th_n ?_)
     (have e2 := hmv (by simpa using ‹(!b) = true›); exact ⟨(i + 1, j + 1, e.set i x), e2, by dsimp only; omega, Weak.ren _ [] hC rfl ⟨⟨_, rfl, rfl⟩, ⟨_, rfl, leadsL_data _ ds⟩, by repeat (first | exact True.intro | refine And.intro ?_ ?_ | exact DLead.same)⟩ (by rw [show strsL (e.set i x) = (strsL e).set i [dS (bstr x)] by unfold strsL; rw [List.map_set]]; repeat (first | exact True.intro | refine And.intro ?_ ?_ | exact rfl | refine ⟨_, _, rfl, rfl, ?_⟩)) rfl rfl rfl⟩)
    ·refine AC.skip (ib_n (th_n (AC.region ?_)))
     refine AL.p (by exact mv1 rfl) rfl ?_
     refine AL.p (by exact g_arith rfl rfl rfl (by exact wrap_i64 (by omega))) rfl ?_
     refine AL.p (by exact as1 rfl) rfl ?_
     refine AL.nil (th_n ?_)
     (have e2 := hsk (by simpa using ‹(!b) = false›); exact ⟨(i, j + 1, e), e2, by dsimp only; omega, Weak.ren _ [] hC rfl ⟨⟨_, rfl, rfl⟩, ⟨_, rfl, leadsL_data _ ds⟩, by repeat (first | exact True.intro | refine And.intro ?_ ?_ | exact DLead.same)⟩ (by repeat (first | exact True.intro | refine And.intro ?_ ?_ | exact rfl | refine ⟨_, _, rfl, rfl, ?_⟩)) rfl rfl rfl⟩)
   ·refine AC.exit (th_e (th_e (ib_y (th_n (AC.seq ?_)))))
    have hjj : j = l.length := by omega
    subst hjj
    have hkept := hI.kept
    rw [List.take_length] at hkept
    have hfl : (l.filter fun x => !p x).length = i := by rw [← hkept, List.length_take]; omega
    have hst : (strsL e).take i = strsL (l.filter fun x => !p x) := by rw [← hkept]; unfold strsL; rw [List.map_take]
    refine AC.region ?_
    refine AL.p (by exact mv2 rfl) rfl ?_
    refine AL.p (by exact mv1 rfl) rfl ?_
    refine AL.p (by exact g_slice_part (els := strsL e) (e' := 9) (sz := 1) (l := i) (h := l.length) rfl rfl rfl rfl rfl (.some rfl rfl) .none (by omega) (by rw [strsL_len]; omega) rfl rfl) rfl ?_
    refine AL.q (by exact h_clear (i := i) (q := l.length - i) (els := strsL e) (e' := 9) (sz := 1) rfl rfl rfl rfl rfl rfl (by omega) (by rw [strsL_len]; omega)) rfl ?_
    refine AL.nil (th_n (AC.seq (AC.region ?_)))
    refine AL.p (by exact mv2 rfl) rfl ?_
    refine AL.p (by exact mv1 rfl) rfl ?_
    refine AL.p (by exact g_slice_own (els := (strsL e).take i) (e' := 9) (sz := 1) rfl rfl rfl rfl (.some rfl rfl) (by rw [List.length_take, strsL_len]; omega)) rfl ?_
    refine AL.p (by exact as2 rfl) rfl ?_
    refine AL.nil (th_n (AC.ret (bq_r ?_)))
    exact retN [] rfl (by rw [hfl]; repeat (first | exact rfl | refine ⟨_, rfl, ?_⟩)) (by rw [← hst]; repeat (first | exact True.intro | refine And.intro ?_ ?_ | exact rfl | refine ⟨_, _, rfl, rfl, ?_⟩)) rfl rfl
theorem en_delStr : Enters Tryz.prog 54 := enters_of Tryz.func54 rfl rfl
def mintL (n : Nat) (l : List (List UInt8)) : List (List UInt8) := (codesN n).filter (covB l)
theorem mintL_len (n : Nat) (l : List (List UInt8)) : (mintL n l).length ≤ 2 ^ n := by
 have := List.length_filter_le (covB l) (codesN n)
 rwa [codesN_len] at this
theorem minterms1_spec (l : List (List UInt8)) (x : List UInt8) (hl : l.length ≤ 1000000) (hx : x.length ≤ 2000000) (hb : ∀ c, c ∈ l → x.length = c.length) : ASpec Tryz.prog 56 [aS (bstr x), .d (.ref [vSs l])] [] (Pure1 (aT (!covB l x))) := by
 have hK := coversI_spec l x hl hx hb
 refine ASpec.of Tryz.func56 rfl rfl fun C hC => ?_
 refine AC.seq (AC.region ?_)
 refine AL.p (by exact as1 rfl) rfl ?_
 refine AL.nil (th_n (AC.seq (AC.region ?_)))
 refine AL.p (by exact g_load_ref rfl rfl rfl) rfl ?_
 refine AL.p (by exact mv1 rfl) rfl ?_
 refine AL.q (by exact h_pure en_coversI rfl rfl (by repeat (first | exact rfl | exact DLead.same | refine ⟨_, _, rfl, ?_, ?_⟩)) hK rfl) rfl ?_
 refine AL.p (by exact g_not rfl) rfl ?_
 refine AL.p (by exact as1 rfl) rfl ?_
 refine AL.nil (th_n (AC.ret (bq_r ?_)))
 exact ret1 rfl rfl
theorem en_minterms1 : Enters Tryz.prog 56 := enters_of Tryz.func56 rfl rfl
set_option maxHeartbeats 2000000 in
theorem minterms_spec (n : Nat) (l : List (List UInt8)) (hn : n ≤ 8) (hl : l.length ≤ 1000000) (hb : ∀ c, c ∈ l → c.length = n) : ASpec Tryz.prog 27 [aI n, .d (vSs l)] [] (Pure1 (.d (vSs (mintL n l)))) := by
 have hA := allCodes_spec n hn
 have hcl := codesN_len n
 have hp2 := pow_le256 (Nat.le_refl n) hn
 have hD := delStr_spec (codesN n) (by omega) 56 [.ref [vSs l]] en_minterms1 (fun x => !covB l x) (fun x hx => minterms1_spec l x hl (by have := (codesN_mem n x hx).1; omega) (fun c hc => by have := (codesN_mem n x hx).1; have := hb c hc; omega))
 have e : (codesN n).filter (fun x => !!covB l x) = mintL n l := by unfold mintL; simp only [Bool.not_not]
 rw [e] at hD
 obtain ⟨L, hL⟩ : ∃ L, L = codesN n := ⟨_, rfl⟩
 rw [← hL] at hA hD hcl
 clear hL e
 refine ASpec.of Tryz.func27 rfl rfl fun C hC => ?_
 refine AC.seq (AC.region ?_)
 refine AL.q (by exact h_boxF rfl rfl) rfl ?_
 refine AL.p (by exact as1 rfl) rfl ?_
 refine AL.nil (th_n (AC.seq (AC.region ?_)))
 refine AL.p (by exact mv1 rfl) rfl ?_
 refine AL.q (by exact h_fun (cs := []) en_allCodes rfl rfl (by repeat (first | exact rfl | exact DLead.same | refine ⟨_, _, rfl, ?_, ?_⟩)) (by repeat (exact True.intro)) hA rfl rfl rfl rfl) rfl ?_
 refine AL.weak (t := ⟨9, 200, [(3, .d (.ref [vSs l])), (6, .own 100 L.length)], [(100, some (.arr 9 1 (strsL L)))]⟩) (Weak.ren _ [(100, _)] hC rfl (by repeat (first | exact True.intro | refine And.intro ?_ ?_ | exact DLead.same | exact rfl | refine ⟨_, rfl, ?_⟩)) (by repeat (first | exact True.intro | refine And.intro ?_ ?_ | exact rfl | refine ⟨_, _, rfl, rfl, ?_⟩)) rfl rfl rfl) ?_
 refine AL.p (by exact g_fn rfl) rfl ?_
 refine AL.q (by exact h_fun (cs := [100]) en_delStr rfl rfl (by exact ⟨_, _, rfl, ⟨_, rfl, rfl⟩, _, _, rfl, ⟨_, rfl, leadsL_data _ _⟩, rfl⟩) (by repeat (first | exact True.intro | refine And.intro ?_ ?_ | exact rfl | refine ⟨_, _, rfl, rfl, ?_⟩)) hD rfl rfl rfl rfl) rfl ?_
 refine AL.p (by exact as2 rfl) rfl ?_
 refine AL.nil (th_n ?_)
 refine AC.weak (Weak.freeze (i := 4) rfl rfl (ownl _ _) (ownt _ _)) ?_
 refine AC.ret (bq_r ?_)
 exact ret1 rfl rfl
theorem en_minterms : Enters Tryz.prog 27 := enters_of Tryz.func27 rfl rfl
set_option maxHeartbeats 2000000 in
theorem l13CodesIn_spec (n : Nat) (l : List (List UInt8)) (hn : n ≤ 8) (hl : l.length ≤ 1000000) (hb : ∀ c, c ∈ l → c.length = n) : ASpec Tryz.prog 29 [aI n, .d (vSs l)] [] (Pure1 (.d (vSs (mintL n l)))) := by
 have hA := l13Codes_spec n hn
 have hcl := codesN_len n
 have hp2 := pow_le256 (Nat.le_refl n) hn
 have hM : mintL n l = (codesN n).filter (covB l) := rfl
 have hmem := codesN_mem n
 obtain ⟨L, hL⟩ : ∃ L, L = codesN n := ⟨_, rfl⟩
 rw [← hL] at hA hM hcl hmem
 obtain ⟨G, hG⟩ : ∃ G, G = mintL n l := ⟨_, rfl⟩
 rw [← hG] at hM ⊢
 clear hL hG
 refine ASpec.of Tryz.func29 rfl rfl fun C hC => ?_
 refine AC.seq (AC.region ?_)
 refine AL.p (by exact as1 rfl) rfl ?_
 refine AL.nil (th_n (AC.seq (AC.region ?_)))
 refine AL.p (by exact as1 rfl) rfl ?_
 refine AL.nil (th_n (AC.seq (AC.seq (AC.region ?_))))
 refine AL.p (by exact mv1 rfl) rfl ?_
 refine AL.q (by exact h_fun (cs := []) en_l13Codes rfl rfl (by repeat (first | exact rfl | exact DLead.same | refine ⟨_, _, rfl, ?_, ?_⟩)) (by repeat (exact True.intro)) hA rfl rfl rfl rfl) rfl ?_
 refine AL.weak (Weak.freeze (i := 9) rfl rfl (ownl _ _) (ownt _ _)) ?_
 refine AL.p (by exact g_len_view (k := L.length) rfl rfl (strsL_len _)) rfl ?_
 refine AL.p (by exact mv1 rfl) rfl ?_
 refine AL.nil (th_n (AC.block ?_))
 refine AC.loop (ι := Nat) (fun k => ⟨24, 300, [(0, aI n), (1, .d (vSs l)), (5, .own 100 ((L.take k).filter (covB l)).length), (9, .d (vSs L)), (10, aI L.length), (11, aI k)], [(100, some (.arr 9 1 (strsL ((L.take k).filter (covB l)))))]⟩) (fun k => k ≤ L.length) (fun k => L.length - k) (0) ?_ (Nat.zero_le _) ?_
 ·exact (Weak.nilOwn (i := 5) (e := 9) (sz := 1) rfl (by decide)).trans (Weak.ren _ [(100, _)] hC rfl (by repeat (first | exact True.intro | refine And.intro ?_ ?_ | exact DLead.same | exact rfl | refine ⟨_, rfl, ?_⟩)) (by repeat (first | exact True.intro | refine And.intro ?_ ?_ | exact rfl | refine ⟨_, _, rfl, rfl, ?_⟩)) rfl rfl rfl)
 ·intro k hk
  refine AC.seq (AC.region ?_)
  refine AL.p (by exact g_cmp rfl rfl rfl) rfl ?_
  refine AL.nil (th_n (AC.seq ?_))
  refine AC.condD rfl (fun h0 => ?_) (fun h0 => ?_)
  ·refine AC.skip (th_n (AC.seq (AC.block (AC.seq ?_))))
   have hk1 : k < L.length := by omega
   have hget := strs_at hk1
   have hxl := (hmem _ (List.getElem_mem hk1)).1
   have hK := l13In_spec l L[k] hl (by omega) (fun c hc => by have := hb c hc; omega)
   have hft : (L.take (k + 1)).filter (covB l) = (L.take k).filter (covB l) ++ (if covB l L[k] = true then [L[k]] else []) := by rw [List.take_add_one, List.getElem?_eq_getElem hk1, List.filter_append]; congr 1; cases h : covB l L[k] <;> simp [h]
   have hfl : ((L.take k).filter (covB l)).length ≤ k := Nat.le_trans (List.length_filter_le _ _) (by rw [List.length_take]; omega)
   obtain ⟨b, hb2⟩ : ∃ b, b = covB l L[k] := ⟨_, rfl⟩
   rw [← hb2] at hK hft
   refine AC.region ?_
   refine AL.p (by exact g_ia_view rfl rfl rfl rfl rfl (by rfl) (by assumption)) rfl ?_
   refine AL.p (by exact g_load_ref rfl rfl rfl) rfl ?_
   refine AL.p (by exact as1 rfl) rfl ?_
   refine AL.nil (th_n (AC.seq (AC.region ?_)))
   refine AL.p (by exact mv1 rfl) rfl ?_
   refine AL.p (by exact mv1 rfl) rfl ?_
   refine AL.q (by exact h_pure en_l13In rfl rfl (by repeat (first | exact rfl | exact DLead.same | refine ⟨_, _, rfl, ?_, ?_⟩)) hK rfl) rfl ?_
   refine AL.nil (th_n ?_)
   refine AC.condB rfl (fun h1 => ?_) (fun h1 => ?_)
   ·refine AC.region ?_
    refine AL.p (by exact mv2 rfl) rfl ?_
    refine AL.p (by exact mv1 rfl) rfl ?_
    refine AL.q (by exact h_litF rfl rfl rfl rfl rfl rfl rfl rfl) rfl ?_
    refine AL.q (by exact h_appendSt ((L.take k).filter (covB l)) [L[k]] (.own rfl rfl (strsL_len _).symm) (.view rfl) (by rw [List.length_append]; simp only [List.length_cons, List.length_nil]; omega) (by simp)) rfl ?_
    refine AL.p (by exact as2 rfl) rfl ?_
    refine AL.nil (ib_n (th_n (AC.region ?_)))
    refine AL.p (by exact g_arith rfl rfl rfl (by exact wrap_i64 (by omega))) rfl ?_
    refine AL.p (by exact mv1 rfl) rfl ?_
    refine AL.nil (th_n ?_)
    (have e := hft.trans (by rw [if_pos ‹b = true›]); exact ⟨k + 1, by omega, by omega, Weak.ren _ [(100, _)] hC rfl (by rw [e]; repeat (first | exact True.intro | refine And.intro ?_ ?_ | exact DLead.same | exact rfl | refine ⟨_, rfl, ?_⟩)) (by rw [e]; repeat (first | exact True.intro | refine And.intro ?_ ?_ | exact rfl | refine ⟨_, _, rfl, rfl, ?_⟩)) rfl rfl rfl⟩)
   ·refine AC.skip (ib_n (th_n (AC.region ?_)))
    refine AL.p (by exact g_arith rfl rfl rfl (by exact wrap_i64 (by omega))) rfl ?_
    refine AL.p (by exact mv1 rfl) rfl ?_
    refine AL.nil (th_n ?_)
    (have e := hft.trans (by rw [if_neg (by rw [‹b = false›]; simp), List.append_nil ((L.take k).filter (covB l))]); exact ⟨k + 1, by omega, by omega, Weak.ren _ [(100, _)] hC rfl (by rw [e]; repeat (first | exact True.intro | refine And.intro ?_ ?_ | exact DLead.same | exact rfl | refine ⟨_, rfl, ?_⟩)) (by rw [e]; repeat (first | exact True.intro | refine And.intro ?_ ?_ | exact rfl | refine ⟨_, _, rfl, rfl, ?_⟩)) rfl rfl rfl⟩)
  ·refine AC.exit (th_e (th_e (ib_y (th_n (AC.seq ?_)))))
   have hkk : k = L.length := by omega
   subst hkk
   rw [List.take_length, ← hM]
   refine AC.weak (Weak.freeze (i := 5) rfl rfl (ownl _ _) (ownt _ _)) ?_
   refine AC.region ?_
   refine AL.p (by exact mv1 rfl) rfl ?_
   refine AL.p (by exact as1 rfl) rfl ?_
   refine AL.nil (th_n (AC.ret (bq_r ?_)))
   exact ret1 rfl rfl
theorem en_l13CodesIn : Enters Tryz.prog 29 := enters_of Tryz.func29 rfl rfl
def mintR (n : Int) (l : List (List UInt8)) : List (List UInt8) × Bool := if cvB n l = true then (mintL n.toNat l, true) else ([], false)
def tautR (n : Int) (l : List (List UInt8)) : Bool × Bool := if cvB n l = true then (decide (((mintL n.toNat l).length : Int) = ((codesN n.toNat).length : Int)), true) else (false, false)
theorem cvB_n {n : Int} {l : List (List UInt8)} (h : cvB n l = true) : ∃ m : Nat, n = m ∧ 1 ≤ m ∧ m ≤ 8 ∧ ∀ c, c ∈ l → c.length = m := by
 obtain ⟨h1, h2, h3⟩ := cvB_in h
 refine ⟨n.toNat, by omega, by omega, by omega, fun c hc => ?_⟩
 have := (cubeB_in3 (h3 c hc)).1
 omega
set_option maxHeartbeats 1000000 in
theorem iMint_spec (n : Int) (l : List (List UInt8)) (hl : l.length ≤ 1000000) (hb : ∀ c, c ∈ l → c.length ≤ 2000000) : ASpec Tryz.prog 6 [aI n, .d (vSs l)] [] (Pure1 (.tup [.d (vSs (mintR n l).1), aT (mintR n l).2])) := by
 have hV := iCov_spec n l hl hb
 have hR : mintR n l = if cvB n l = true then (mintL n.toNat l, true) else ([], false) := rfl
 have hin := cvB_n (n := n) (l := l)
 obtain ⟨b, hbb⟩ : ∃ b, b = cvB n l := ⟨_, rfl⟩
 rw [← hbb] at hV hR hin
 obtain ⟨G, hG⟩ : ∃ G, G = mintR n l := ⟨_, rfl⟩
 rw [← hG] at hR ⊢
 clear hG hbb
 refine ASpec.of Tryz.func6 rfl rfl fun C hC => ?_
 refine AC.seq (AC.region ?_)
 refine AL.p (by exact as1 rfl) rfl ?_
 refine AL.p (by exact as1 rfl) rfl ?_
 refine AL.nil (th_n (AC.seq (AC.seq (AC.region ?_))))
 refine AL.p (by exact mv1 rfl) rfl ?_
 refine AL.p (by exact mv1 rfl) rfl ?_
 refine AL.q (by exact h_pure en_iCov rfl rfl (by repeat (first | exact rfl | exact DLead.same | refine ⟨_, _, rfl, ?_, ?_⟩)) hV rfl) rfl ?_
 refine AL.p (by exact g_not rfl) rfl ?_
 refine AL.nil (th_n ?_)
 refine AC.condB rfl (fun h0 => ?_) (fun h0 => ?_)
 ·refine AC.seq (AC.region ?_)
  refine AL.p (by exact as1 rfl) rfl ?_
  refine AL.p (by exact as1 rfl) rfl ?_
  refine AL.nil (th_n (AC.ret (th_r (bq_r ?_))))
  have e : G = ([], false) := hR.trans (if_neg (by rw [show b = false by simpa using h0]; simp))
  exact ret0 rfl (by rw [e]; repeat (first | exact rfl | exact DLead.same | exact DLead.nil | refine ⟨_, _, rfl, ?_, ?_⟩ | refine ⟨_, rfl, ?_⟩))
 ·refine AC.skip (th_n (AC.seq ?_))
  have q1 : b = true := by simpa using h0
  obtain ⟨m, rfl, hm1, hm2, hml⟩ := hin q1
  have hM := minterms_spec m l hm2 hl hml
  refine AC.region ?_
  refine AL.p (by exact mv1 rfl) rfl ?_
  refine AL.p (by exact mv1 rfl) rfl ?_
  refine AL.q (by exact h_pure en_minterms rfl rfl (by repeat (first | exact rfl | exact DLead.same | refine ⟨_, _, rfl, ?_, ?_⟩)) hM rfl) rfl ?_
  refine AL.p (by exact as1 rfl) rfl ?_
  refine AL.p (by exact as1 rfl) rfl ?_
  refine AL.nil (th_n (AC.ret (bq_r ?_)))
  have e : G = (mintL m l, true) := hR.trans (if_pos q1)
  exact ret0 rfl (by rw [e]; repeat (first | exact rfl | exact DLead.same | refine ⟨_, _, rfl, ?_, ?_⟩ | refine ⟨_, rfl, ?_⟩))
theorem en_iMint : Enters Tryz.prog 6 := enters_of Tryz.func6 rfl rfl
set_option maxHeartbeats 1000000 in
theorem sMint_spec (n : Int) (l : List (List UInt8)) (hl : l.length ≤ 1000000) (hb : ∀ c, c ∈ l → c.length ≤ 2000000) : ASpec Tryz.prog 7 [aI n, .d (vSs l)] [] (Pure1 (.tup [.d (vSs (mintR n l).1), aT (mintR n l).2])) := by
 have hV := l13Good_spec n l hl hb
 have hR : mintR n l = if cvB n l = true then (mintL n.toNat l, true) else ([], false) := rfl
 have hin := cvB_n (n := n) (l := l)
 obtain ⟨b, hbb⟩ : ∃ b, b = cvB n l := ⟨_, rfl⟩
 rw [← hbb] at hV hR hin
 obtain ⟨G, hG⟩ : ∃ G, G = mintR n l := ⟨_, rfl⟩
 rw [← hG] at hR ⊢
 clear hG hbb
 refine ASpec.of Tryz.func7 rfl rfl fun C hC => ?_
 refine AC.seq (AC.region ?_)
 refine AL.p (by exact as1 rfl) rfl ?_
 refine AL.p (by exact as1 rfl) rfl ?_
 refine AL.nil (th_n (AC.seq (AC.seq (AC.region ?_))))
 refine AL.p (by exact mv1 rfl) rfl ?_
 refine AL.p (by exact mv1 rfl) rfl ?_
 refine AL.q (by exact h_pure en_l13Good rfl rfl (by repeat (first | exact rfl | exact DLead.same | refine ⟨_, _, rfl, ?_, ?_⟩)) hV rfl) rfl ?_
 refine AL.p (by exact g_not rfl) rfl ?_
 refine AL.nil (th_n ?_)
 refine AC.condB rfl (fun h0 => ?_) (fun h0 => ?_)
 ·refine AC.seq (AC.region ?_)
  refine AL.p (by exact as1 rfl) rfl ?_
  refine AL.p (by exact as1 rfl) rfl ?_
  refine AL.nil (th_n (AC.ret (th_r (bq_r ?_))))
  have e : G = ([], false) := hR.trans (if_neg (by rw [show b = false by simpa using h0]; simp))
  exact ret0 rfl (by rw [e]; repeat (first | exact rfl | exact DLead.same | exact DLead.nil | refine ⟨_, _, rfl, ?_, ?_⟩ | refine ⟨_, rfl, ?_⟩))
 ·refine AC.skip (th_n (AC.seq ?_))
  have q1 : b = true := by simpa using h0
  obtain ⟨m, rfl, hm1, hm2, hml⟩ := hin q1
  have hM := l13CodesIn_spec m l hm2 hl hml
  refine AC.region ?_
  refine AL.p (by exact mv1 rfl) rfl ?_
  refine AL.p (by exact mv1 rfl) rfl ?_
  refine AL.q (by exact h_pure en_l13CodesIn rfl rfl (by repeat (first | exact rfl | exact DLead.same | refine ⟨_, _, rfl, ?_, ?_⟩)) hM rfl) rfl ?_
  refine AL.p (by exact as1 rfl) rfl ?_
  refine AL.p (by exact as1 rfl) rfl ?_
  refine AL.nil (th_n (AC.ret (bq_r ?_)))
  have e : G = (mintL m l, true) := hR.trans (if_pos q1)
  exact ret0 rfl (by rw [e]; repeat (first | exact rfl | exact DLead.same | refine ⟨_, _, rfl, ?_, ?_⟩ | refine ⟨_, rfl, ?_⟩))
theorem en_sMint : Enters Tryz.prog 7 := enters_of Tryz.func7 rfl rfl
theorem shl1 {m : Nat} (h : m ≤ 8) : IntKind.i64.wrap (1 * 2 ^ (min ((m : Nat) : Int).toNat IntKind.i64.bits)) = ((2 ^ m : Nat) : Int) := by
 have : m = 0 ∨ m = 1 ∨ m = 2 ∨ m = 3 ∨ m = 4 ∨ m = 5 ∨ m = 6 ∨ m = 7 ∨ m = 8 := by omega
 rcases this with rfl | rfl | rfl | rfl | rfl | rfl | rfl | rfl | rfl <;> rfl
set_option maxHeartbeats 1000000 in
theorem iTaut_spec (n : Int) (l : List (List UInt8)) (hl : l.length ≤ 1000000) (hb : ∀ c, c ∈ l → c.length ≤ 2000000) : ASpec Tryz.prog 8 [aI n, .d (vSs l)] [] (Pure1 (.tup [aT (tautR n l).1, aT (tautR n l).2])) := by
 have hV := iCov_spec n l hl hb
 have hR : tautR n l = if cvB n l = true then (decide (((mintL n.toNat l).length : Int) = ((codesN n.toNat).length : Int)), true) else (false, false) := rfl
 have hin := cvB_n (n := n) (l := l)
 obtain ⟨b, hbb⟩ : ∃ b, b = cvB n l := ⟨_, rfl⟩
 rw [← hbb] at hV hR hin
 obtain ⟨G, hG⟩ : ∃ G, G = tautR n l := ⟨_, rfl⟩
 rw [← hG] at hR ⊢
 clear hG hbb
 refine ASpec.of Tryz.func8 rfl rfl fun C hC => ?_
 refine AC.seq (AC.region ?_)
 refine AL.p (by exact as1 rfl) rfl ?_
 refine AL.p (by exact as1 rfl) rfl ?_
 refine AL.nil (th_n (AC.seq (AC.seq (AC.region ?_))))
 refine AL.p (by exact mv1 rfl) rfl ?_
 refine AL.p (by exact mv1 rfl) rfl ?_
 refine AL.q (by exact h_pure en_iCov rfl rfl (by repeat (first | exact rfl | exact DLead.same | refine ⟨_, _, rfl, ?_, ?_⟩)) hV rfl) rfl ?_
 refine AL.p (by exact g_not rfl) rfl ?_
 refine AL.nil (th_n ?_)
 refine AC.condB rfl (fun h0 => ?_) (fun h0 => ?_)
 ·refine AC.seq (AC.region ?_)
  refine AL.p (by exact as1 rfl) rfl ?_
  refine AL.p (by exact as1 rfl) rfl ?_
  refine AL.nil (th_n (AC.ret (th_r (bq_r ?_))))
  have e : G = (false, false) := hR.trans (if_neg (by rw [show b = false by simpa using h0]; simp))
  exact ret2 rfl (by rw [e]) (by rw [e])
 ·refine AC.skip (th_n (AC.seq ?_))
  have q1 : b = true := by simpa using h0
  obtain ⟨m, rfl, hm1, hm2, hml⟩ := hin q1
  have hM := minterms_spec m l hm2 hl hml
  have hcl := codesN_len m
  have hp2 := pow_le256 (Nat.le_refl m) hm2
  refine AC.drawn' mixed_ok [[], [], [0,1], [0,1,2], [], [4], [0,1,2,3,4,5], [0,1,2,3,4,5,6], [0,1,2,3,4,5,6,7]] (by decide) ?_
  refine DF.op 0 [] 9 rfl rfl rfl (.free rfl (NOp.of (by exact mv1 rfl))) rfl ?_
  refine DF.op 1 [] 9 rfl rfl rfl (.free rfl (NOp.of (by exact mv1 rfl))) rfl ?_
  refine DF.op 2 [0,1] 9 rfl rfl rfl (.free rfl (by exact h_pure en_minterms rfl rfl (by repeat (first | exact rfl | exact DLead.same | refine ⟨_, _, rfl, ?_, ?_⟩)) hM rfl)) rfl ?_
  refine DF.op 3 [0,1,2] 9 rfl rfl rfl (.free rfl (NOp.of (by exact g_len_view (k := (mintL m l).length) rfl rfl (strsL_len _)))) rfl ?_
  refine DF.op 4 [] 9 rfl rfl rfl (.free rfl (NOp.of (by exact mv1 rfl))) rfl ?_
  refine DF.op 5 [4] 9 rfl rfl rfl (.free rfl (NOp.of (by exact g_shl (c := ((codesN m).length : Int)) rfl rfl (by omega) (by rw [hcl]; exact shl1 hm2)))) rfl ?_
  refine DF.op 6 [0,1,2,3,4,5] 9 rfl rfl rfl (.free rfl (NOp.of (by exact g_cmp rfl rfl rfl))) rfl ?_
  refine DF.op 7 [0,1,2,3,4,5,6] 9 rfl rfl rfl (.free rfl (NOp.of (by exact as1 rfl))) rfl ?_
  refine DF.op 8 [0,1,2,3,4,5,6,7] 9 rfl rfl rfl (.free rfl (NOp.of (by exact as1 rfl))) rfl ?_
  refine DF.fin (ps := [(0,1),(0,4),(0,5),(1,0),(1,4),(1,5),(2,4),(2,5),(3,4),(3,5),(4,0),(4,1),(4,2),(4,3),(5,0),(5,1),(5,2),(5,3)]) 9 rfl (by decide +kernel) (by decide +kernel) (by rfl) ?_
  refine th_n (AC.ret (bq_r ?_))
  have e : G = (decide (((mintL m l).length : Int) = ((codesN m).length : Int)), true) := hR.trans (if_pos q1)
  exact ret2 rfl (by rw [e]) (by rw [e])
theorem en_iTaut : Enters Tryz.prog 8 := enters_of Tryz.func8 rfl rfl
set_option maxHeartbeats 1000000 in
theorem sTaut_spec (n : Int) (l : List (List UInt8)) (hl : l.length ≤ 1000000) (hb : ∀ c, c ∈ l → c.length ≤ 2000000) : ASpec Tryz.prog 9 [aI n, .d (vSs l)] [] (Pure1 (.tup [aT (tautR n l).1, aT (tautR n l).2])) := by
 have hV := l13Good_spec n l hl hb
 have hR : tautR n l = if cvB n l = true then (decide (((mintL n.toNat l).length : Int) = ((codesN n.toNat).length : Int)), true) else (false, false) := rfl
 have hin := cvB_n (n := n) (l := l)
 obtain ⟨b, hbb⟩ : ∃ b, b = cvB n l := ⟨_, rfl⟩
 rw [← hbb] at hV hR hin
 obtain ⟨G, hG⟩ : ∃ G, G = tautR n l := ⟨_, rfl⟩
 rw [← hG] at hR ⊢
 clear hG hbb
 refine ASpec.of Tryz.func9 rfl rfl fun C hC => ?_
 refine AC.seq (AC.region ?_)
 refine AL.p (by exact as1 rfl) rfl ?_
 refine AL.p (by exact as1 rfl) rfl ?_
 refine AL.nil (th_n (AC.seq (AC.seq (AC.region ?_))))
 refine AL.p (by exact mv1 rfl) rfl ?_
 refine AL.p (by exact mv1 rfl) rfl ?_
 refine AL.q (by exact h_pure en_l13Good rfl rfl (by repeat (first | exact rfl | exact DLead.same | refine ⟨_, _, rfl, ?_, ?_⟩)) hV rfl) rfl ?_
 refine AL.p (by exact g_not rfl) rfl ?_
 refine AL.nil (th_n ?_)
 refine AC.condB rfl (fun h0 => ?_) (fun h0 => ?_)
 ·refine AC.seq (AC.region ?_)
  refine AL.p (by exact as1 rfl) rfl ?_
  refine AL.p (by exact as1 rfl) rfl ?_
  refine AL.nil (th_n (AC.ret (th_r (bq_r ?_))))
  have e : G = (false, false) := hR.trans (if_neg (by rw [show b = false by simpa using h0]; simp))
  exact ret2 rfl (by rw [e]) (by rw [e])
 ·refine AC.skip (th_n (AC.seq ?_))
  have q1 : b = true := by simpa using h0
  obtain ⟨m, rfl, hm1, hm2, hml⟩ := hin q1
  have hM := l13CodesIn_spec m l hm2 hl hml
  have hcl := codesN_len m
  have hp2 := pow_le256 (Nat.le_refl m) hm2
  have hA := l13Codes_spec m hm2
  refine AC.region ?_
  refine AL.p (by exact mv1 rfl) rfl ?_
  refine AL.p (by exact mv1 rfl) rfl ?_
  refine AL.q (by exact h_pure en_l13CodesIn rfl rfl (by repeat (first | exact rfl | exact DLead.same | refine ⟨_, _, rfl, ?_, ?_⟩)) hM rfl) rfl ?_
  refine AL.p (by exact g_len_view (k := (mintL m l).length) rfl rfl (strsL_len _)) rfl ?_
  refine AL.p (by exact mv1 rfl) rfl ?_
  refine AL.q (by exact h_fun (cs := []) en_l13Codes rfl rfl (by repeat (first | exact rfl | exact DLead.same | refine ⟨_, _, rfl, ?_, ?_⟩)) (by repeat (exact True.intro)) hA rfl rfl rfl rfl) rfl ?_
  refine AL.p (by exact g_len_own (sz := 1) (els := []) (e' := 0) rfl rfl (by simp only [maxLen]; omega)) rfl ?_
  refine AL.p (by exact g_cmp rfl rfl rfl) rfl ?_
  refine AL.p (by exact as1 rfl) rfl ?_
  refine AL.p (by exact as1 rfl) rfl ?_
  refine AL.nil (th_n (AC.ret (bq_r ?_)))
  have e : G = (decide (((mintL m l).length : Int) = ((codesN m).length : Int)), true) := hR.trans (if_pos q1)
  exact ret2 rfl (by rw [e]) (by rw [e])
theorem en_sTaut : Enters Tryz.prog 9 := enters_of Tryz.func9 rfl rfl
theorem bit_lit (x : UInt8) : bit x = (lit3 x && !(x == 45)) := by
 by_cases h48 : (x.toNat : Int) = 48
 ·have : x = 48 := UInt8.toNat_inj.1 (by show x.toNat = 48; omega)
  subst this; decide
 ·by_cases h49 : (x.toNat : Int) = 49
  ·have : x = 49 := UInt8.toNat_inj.1 (by show x.toNat = 49; omega)
   subst this; decide
  ·by_cases h45 : (x.toNat : Int) = 45
   ·have : x = 45 := UInt8.toNat_inj.1 (by show x.toNat = 45; omega)
    subst this; decide
   ·unfold bit lit3
    rw [decide_eq_false h48, decide_eq_false h49, decide_eq_false h45]; rfl
theorem bits_lits (l : List UInt8) : l.all bit = (l.all lit3 && !l.contains 45) := by
 induction l with
 | nil => rfl
 | cons x l ih =>
  rw [List.all_cons, List.all_cons, ih, bit_lit, List.contains_cons]
  have e : (45 == x) = (x == 45) := by rw [Bool.eq_iff_iff, beq_iff_eq, beq_iff_eq]; exact eq_comm
  rw [e]
  cases lit3 x <;> cases (x == 45) <;> cases l.all lit3 <;> cases l.contains 45 <;> rfl
theorem codeB_eq (c : List UInt8) (n : Int) : codeB c n = (bitsB c n && (decide (1 ≤ n) && decide (n ≤ 8))) := by
 unfold codeB bitsB cubeB
 rw [bits_lits]
 cases c.all lit3 <;> cases c.contains 45 <;> cases decide ((c.length : Int) = n) <;> cases decide (1 ≤ n) <;> cases decide (n ≤ 8) <;> rfl
end Go.Proofs.YtoicgeakgfiobaaGreat
