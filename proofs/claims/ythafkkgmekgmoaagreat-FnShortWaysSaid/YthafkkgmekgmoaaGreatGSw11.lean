/- Contracts of the functions of the program and of the reference, each proved by a walk through its code. -/
import Derived.WalkKit
import Derived.WalkSpells
import Derived.WalkLawsBesides
import Derived.Deep.Draws
import Derived.Lib.Hide
import Derived.Maps.AppendAt
import Derived.OwnWalk
import Derived.Deep.MidRow
import Derived.Laws.ResultCell
import Derived.Deep.Upon
import Derived.Great.FillDense
import Derived.Laws.Tables
import Derived.Laws.BytesArg
import Derived.Laws.MakeOwn
import Derived.Great.BuildSlice
import Derived.ArgAppend
import Derived.Deep.AppendSrc
import Derived.Test.YthafkkgmekgmoaaGreatProg
import Derived.KernelRfl
import Derived.Orders
import Derived.Laws.IdiomStrings
import Derived.Lib.AppendZerosOnto
import Derived.ProofKit
import Derived.OpenShut
import Derived.Lib.SliceRun
import Derived.Laws.StructEq
import Derived.ChangeKeysEq
import Derived.Sort.Grow
import Derived.Laws.RangeString
import Derived.Below
import Derived.Laws.Small
import Derived.MapKept
import Derived.WideMake
import Derived.Laws.IdiomCopy
import Derived.Shelf.Strings.Builder1
import Derived.Shelf.Strings.Builder2
import Derived.Shelf.Strings.OnBuilder
import Derived.Shelf.Bits.Mul64
import Derived.Test.YthafkkgmekgmoaaGreatRows
import Derived.Test.YthafkkgmekgmoaaGreatGSw10
set_option linter.all false
set_option maxRecDepth 20000
namespace Go.Proofs.YthafkkgmekgmoaaGreat
open Go.RowKit
theorem isExc1_spec (v : Ar) (k g : Int) : ASpec Tryz.prog 225 [arA v, .d (.ref [dI k]), .d (.ref [dI g])] [] (Pure1 (aT (decide (v.from_ = k) && decide (v.sig = g)))) := by
 refine ASpec.of Tryz.func225 rfl rfl fun C hC => ?_
 refine AC.seq (AC.region ?_)
 refine AL.q (by exact h_boxF rfl rfl) rfl ?_
 refine za ?_
 refine AL.nil (th_n (AC.seq (AC.region ?_)))
 refine zf ?_
 refine zr ?_
 refine zr ?_
 refine zc ?_
 refine zm ?_
 refine AL.caseG rfl rfl (fun h0 => ?_) (fun h0 => ?_)
 ·refine zy ?_
  refine zf ?_
  refine zy ?_
  refine zr ?_
  refine zy ?_
  refine zr ?_
  refine zy ?_
  refine zc ?_
  refine zQ ?_
  refine za ?_
  refine AL.nil (th_n (AC.ret (bq_r ?_)))
  (have q := ‹v.from_ = k›; exact ret1 rfl (by rw [decide_eq_true q, Bool.true_and]))
 ·refine zn ?_
  refine zn ?_
  refine zn ?_
  refine zn ?_
  refine zP ?_
  refine za ?_
  refine AL.nil (th_n (AC.ret (bq_r ?_)))
  (have q := ‹¬ v.from_ = k›; exact ret1 rfl (by rw [decide_eq_false q]; rfl))
theorem en_isExc1 : Enters Tryz.prog 225 := enters_of Tryz.func225 rfl rfl
def excB (c : SG) (k g : Int) : Bool := c.arcs.any fun v => decide (v.from_ = k) && decide (v.sig = g)
theorem isExc_spec (c : SG) (k g : Int) (hl : c.arcs.length ≤ 1000000) : ASpec Tryz.prog 169 [sgA c, aI k, aI g] [] (Pure1 (aT (excB c k g))) := by
 have hCf := cfAr_spec c.arcs hl 225 [.ref [dI k], .ref [dI g]] en_isExc1 (fun v => decide (v.from_ = k) && decide (v.sig = g)) (fun v _ => isExc1_spec v k g)
 have hR : excB c k g = c.arcs.any fun v => decide (v.from_ = k) && decide (v.sig = g) := rfl
 rw [← hR] at hCf
 refine ASpec.of Tryz.func169 rfl rfl fun C hC => ?_
 refine AC.seq (AC.region ?_)
 refine AL.q (by exact h_boxF rfl rfl) rfl ?_
 refine AL.q (by exact h_boxF rfl rfl) rfl ?_
 refine AL.q (by exact h_boxF rfl rfl) rfl ?_
 refine za ?_
 refine AL.nil (th_n (AC.seq (AC.region ?_)))
 refine zf ?_
 refine zr ?_
 refine AL.p (by exact g_fn rfl) rfl ?_
 refine AL.q (by exact h_pure en_cfAr rfl rfl (by exact ⟨_, _, rfl, .same, _, _, rfl, ⟨_, rfl, leadsL_data _ [.ref [dI k], .ref [dI g]]⟩, rfl⟩) hCf rfl) rfl ?_
 refine za ?_
 refine AL.nil (th_n (AC.ret (bq_r ?_)))
 exact ret1 rfl rfl
theorem en_isExc : Enters Tryz.prog 169 := enters_of Tryz.func169 rfl rfl
theorem exc_no {c : SG} {k g : Int} (h : ∀ j (hj : j < c.arcs.length), ¬ (c.arcs[j].from_ = k ∧ c.arcs[j].sig = g)) : excB c k g = false := by
 refine List.any_eq_false.2 fun a ha => ?_
 obtain ⟨j, hj, rfl⟩ := List.getElem_of_mem ha
 rw [Bool.and_eq_true, decide_eq_true_eq, decide_eq_true_eq]; exact h j hj
theorem exc_yes {c : SG} {k g : Int} {j : Nat} (hj : j < c.arcs.length) (h : c.arcs[j].from_ = k ∧ c.arcs[j].sig = g) : excB c k g = true := List.any_eq_true.2 ⟨_, List.getElem_mem hj, by rw [Bool.and_eq_true, decide_eq_true_eq, decide_eq_true_eq]; exact h⟩
set_option maxHeartbeats 2000000 in
theorem l5Exc_spec (c : SG) (k g : Int) (hl : c.arcs.length ≤ 1000000) : ASpec Tryz.prog 170 [sgA c, aI k, aI g] [] (Pure1 (aT (excB c k g))) := by
 refine ASpec.of Tryz.func170 rfl rfl fun C hC => ?_
 refine AC.seq (AC.region ?_)
 refine AL.q (by exact h_boxF rfl rfl) rfl ?_
 refine za ?_
 refine AL.nil (th_n (AC.seq (AC.seq (AC.region ?_))))
 refine zf ?_
 refine zr ?_
 refine AL.p (by exact g_len_view (k := c.arcs.length) rfl rfl (arL_len _)) rfl ?_
 refine zm ?_
 refine AL.nil (th_n (AC.block ?_))
 refine AC.loop (ι := Nat) (fun j => ⟨27, 300, [(1, aI k), (2, aI g), (10, .d (vArs c.arcs)), (11, aI c.arcs.length), (12, aI j)], []⟩) (fun j => j ≤ c.arcs.length ∧ ∀ i (hi : i < c.arcs.length), i < j → ¬ (c.arcs[i].from_ = k ∧ c.arcs[i].sig = g)) (fun j => c.arcs.length - j) (0) ?_ (⟨Nat.zero_le _, fun i _ hi => absurd hi (Nat.not_lt_zero _)⟩) ?_
 ·exact Weak.ren _ [] hC rfl (by repeat (first | exact True.intro | refine And.intro ?_ ?_ | exact DLead.same)) (by repeat (exact True.intro)) rfl rfl rfl
 ·rintro j ⟨hj, hall⟩
  refine AC.seq (AC.region ?_)
  refine zc ?_
  refine AL.nil (th_n (AC.seq ?_))
  refine AC.condD rfl (fun h0 => ?_) (fun h0 => ?_)
  ·refine AC.skip (th_n (AC.seq (AC.block (AC.seq ?_))))
   have hj1 : j < c.arcs.length := by omega
   have hget := arL_get hj1
   have hy := exc_yes (k := k) (g := g) hj1
   have hnx : ¬ (c.arcs[j].from_ = k ∧ c.arcs[j].sig = g) → ∀ i (hi : i < c.arcs.length), i < j + 1 → ¬ (c.arcs[i].from_ = k ∧ c.arcs[i].sig = g) := fun q i hi h2 => by rcases Nat.lt_succ_iff_lt_or_eq.1 h2 with h | rfl; exact hall i hi h; exact q
   obtain ⟨v, hv⟩ : ∃ v, v = c.arcs[j] := ⟨_, rfl⟩
   rw [← hv] at hget hy hnx
   clear hv
   refine AC.region ?_
   refine AL.p (by exact g_ia_view rfl rfl rfl rfl rfl (by rfl) (by assumption)) rfl ?_
   refine AL.p (by exact g_load_refN rfl rfl rfl rfl) rfl ?_
   refine AL.q (by exact h_alloc rfl) rfl ?_
   refine zs ?_
   refine AL.nil (th_n (AC.seq (AC.region ?_)))
   refine zF ?_
   refine zl ?_
   refine zm ?_
   refine zc ?_
   refine zm ?_
   refine AL.caseG rfl rfl (fun h1 => ?_) (fun h1 => ?_)
   ·refine zy ?_
    refine zF ?_
    refine zy ?_
    refine zl ?_
    refine zy ?_
    refine zm ?_
    refine zy ?_
    refine zc ?_
    refine zQ ?_
    refine AL.nil (th_n ?_)
    refine AC.condD rfl (fun h2 => ?_) (fun h2 => ?_)
    ·refine AC.seq (AC.region ?_)
     refine za ?_
     refine AL.nil (th_n (AC.ret (ib_r (th_r (th_r (ib_r (th_r (bq_r ?_))))))))
     exact ret1 rfl (by rw [hy ⟨‹v.from_ = k›, ‹v.sig = g›⟩])
    ·refine AC.skip (ib_n (th_n (AC.region ?_)))
     refine zA ?_
     refine zm ?_
     refine AL.nil (th_n ?_)
     exact ⟨j + 1, ⟨by omega, hnx (by rintro ⟨q1, q2⟩; exact absurd q2 (by assumption))⟩, by omega, Weak.ren _ [] hC rfl (by repeat (first | exact True.intro | refine And.intro ?_ ?_ | exact DLead.same)) (by repeat (exact True.intro)) rfl rfl rfl⟩
   ·refine zn ?_
    refine zn ?_
    refine zn ?_
    refine zn ?_
    refine zP ?_
    refine AL.nil (th_n ?_)
    refine AC.condF rfl ?_
    refine AC.skip (ib_n (th_n (AC.region ?_)))
    refine zA ?_
    refine zm ?_
    refine AL.nil (th_n ?_)
    exact ⟨j + 1, ⟨by omega, hnx (by rintro ⟨q1, q2⟩; exact absurd q1 (by assumption))⟩, by omega, Weak.ren _ [] hC rfl (by repeat (first | exact True.intro | refine And.intro ?_ ?_ | exact DLead.same)) (by repeat (exact True.intro)) rfl rfl rfl⟩
  ·refine AC.exit (th_e (th_e (ib_y (th_n (AC.seq (AC.region ?_))))))
   refine za ?_
   refine AL.nil (th_n (AC.ret (bq_r ?_)))
   exact ret1 rfl (by rw [exc_no fun i hi => hall i hi (by omega)])
theorem en_l5Exc : Enters Tryz.prog 170 := enters_of Tryz.func170 rfl rfl
noncomputable def excR (c : SG) (k g : Int) : Bool × Bool := if (stateB c k && (decide (0 ≤ g) && decide (g ≤ (c.sigs.length : Int) - 1))) = true then (excB c k g, true) else (false, false)
set_option maxHeartbeats 2000000 in
theorem iIsExc_spec (c : SG) (k g : Int) (hc : SgL c) : ASpec Tryz.prog 80 [sgA c, aI k, aI g] [] (Pure1 (.tup [aT (excR c k g).1, aT (excR c k g).2])) := by
 have hV := iValidSg_spec c hc
 have hW := within_spec k 0 ((c.codes.length : Int) - 1)
 have hW2 := within_spec g 0 ((c.sigs.length : Int) - 1)
 have hA := isExc_spec c k g hc.a
 have hn := hc.n
 have hsg := hc.sg
 have hR : excR c k g = if ((validC c && (decide (0 ≤ k) && decide (k ≤ (c.codes.length : Int) - 1))) && (decide (0 ≤ g) && decide (g ≤ (c.sigs.length : Int) - 1))) = true then (excB c k g, true) else (false, false) := rfl
 obtain ⟨b, hb⟩ : ∃ b, b = validC c := ⟨_, rfl⟩
 rw [← hb] at hV hR
 obtain ⟨d, hd⟩ : ∃ d, d = (decide (0 ≤ k) && decide (k ≤ (c.codes.length : Int) - 1)) := ⟨_, rfl⟩
 rw [← hd] at hW hR
 obtain ⟨d2, hd2⟩ : ∃ d, d = (decide (0 ≤ g) && decide (g ≤ (c.sigs.length : Int) - 1)) := ⟨_, rfl⟩
 rw [← hd2] at hW2 hR
 obtain ⟨R, hRR⟩ : ∃ R, R = excR c k g := ⟨_, rfl⟩
 rw [← hRR] at hR ⊢
 clear hb hd hd2 hRR
 have hN : b = false ∨ d = false ∨ d2 = false → R = (false, false) := fun h => hR.trans (if_neg (by rcases h with h | h | h <;> rw [h] <;> simp))
 have hY : b = true → d = true → d2 = true → R = (excB c k g, true) := fun h1 h2 h3 => hR.trans (if_pos (by rw [h1, h2, h3]; rfl))
 refine ASpec.of Tryz.func80 rfl rfl fun C hC => ?_
 refine AC.seq (AC.region ?_)
 refine AL.q (by exact h_boxF rfl rfl) rfl ?_
 refine za ?_
 refine za ?_
 refine AL.nil (th_n (AC.seq (AC.seq (AC.region ?_))))
 refine AL.p (by exact g_load_refN rfl rfl rfl rfl) rfl ?_
 refine AL.q (by exact h_pure en_iValidSg rfl rfl (by repeat (first | exact rfl | exact DLead.same | refine ⟨_, _, rfl, ?_, ?_⟩ | refine ⟨_, rfl, ?_⟩)) hV rfl) rfl ?_
 refine AL.p (by exact g_not rfl) rfl ?_
 refine zm ?_
 refine AL.caseGB rfl rfl (fun h0 => ?_) (fun h0 => ?_)
 ·refine zn ?_
  refine zn ?_
  refine zn ?_
  refine zn ?_
  refine zn ?_
  refine zn ?_
  refine zn ?_
  refine zQ ?_
  refine zm ?_
  refine zn ?_
  refine zn ?_
  refine zn ?_
  refine zn ?_
  refine zn ?_
  refine zn ?_
  refine zn ?_
  refine zQ ?_
  refine AL.nil (th_n ?_)
  refine AC.condT rfl ?_
  refine AC.seq (AC.region ?_)
  refine za ?_
  refine za ?_
  refine AL.nil (th_n (AC.ret (th_r (bq_r ?_))))
  have e : R = (false, false) := hN (by exact .inl (by simpa using ‹(!b) = true›))
  exact ret2 rfl (by rw [e]) (by rw [e])
 ·refine zy ?_
  refine zm ?_
  refine zy ?_
  refine zf ?_
  refine zy ?_
  refine zr ?_
  refine zy ?_
  refine AL.p (by exact g_len_view (k := c.codes.length) rfl rfl (tsX_len _)) rfl ?_
  refine zy ?_
  refine zA ?_
  refine zy ?_
  refine AL.q (by exact h_pure en_within rfl rfl (by repeat (first | exact rfl | exact DLead.same | refine ⟨_, _, rfl, ?_, ?_⟩)) hW rfl) rfl ?_
  refine zy ?_
  refine AL.p (by exact g_not rfl) rfl ?_
  refine zP ?_
  refine zm ?_
  refine AL.caseGB rfl rfl (fun h1 => ?_) (fun h1 => ?_)
  ·refine zn ?_
   refine zn ?_
   refine zn ?_
   refine zn ?_
   refine zn ?_
   refine zn ?_
   refine zn ?_
   refine zQ ?_
   refine AL.nil (th_n ?_)
   refine AC.condT rfl ?_
   refine AC.seq (AC.region ?_)
   refine za ?_
   refine za ?_
   refine AL.nil (th_n (AC.ret (th_r (bq_r ?_))))
   have e : R = (false, false) := hN (by exact .inr (.inl (by simpa using ‹(!d) = true›)))
   exact ret2 rfl (by rw [e]) (by rw [e])
  ·refine zy ?_
   refine zm ?_
   refine zy ?_
   refine zf ?_
   refine zy ?_
   refine zr ?_
   refine zy ?_
   refine AL.p (by exact g_len_view (k := c.sigs.length) rfl rfl (sigsL_len _)) rfl ?_
   refine zy ?_
   refine zA ?_
   refine zy ?_
   refine AL.q (by exact h_pure en_within rfl rfl (by repeat (first | exact rfl | exact DLead.same | refine ⟨_, _, rfl, ?_, ?_⟩)) hW2 rfl) rfl ?_
   refine zy ?_
   refine AL.p (by exact g_not rfl) rfl ?_
   refine zP ?_
   refine AL.nil (th_n ?_)
   refine AC.condB rfl (fun h2 => ?_) (fun h2 => ?_)
   ·refine AC.seq (AC.region ?_)
    refine za ?_
    refine za ?_
    refine AL.nil (th_n (AC.ret (th_r (bq_r ?_))))
    have e : R = (false, false) := hN (by exact .inr (.inr (by simpa using ‹(!d2) = true›)))
    exact ret2 rfl (by rw [e]) (by rw [e])
   ·refine AC.skip (th_n (AC.seq (AC.region ?_)))
    refine AL.p (by exact g_load_refN rfl rfl rfl rfl) rfl ?_
    refine zm ?_
    refine zm ?_
    refine AL.q (by exact h_pure en_isExc rfl rfl (by repeat (first | exact rfl | exact DLead.same | refine ⟨_, _, rfl, ?_, ?_⟩ | refine ⟨_, rfl, ?_⟩)) hA rfl) rfl ?_
    refine za ?_
    refine za ?_
    refine AL.nil (th_n (AC.ret (bq_r ?_)))
    have e := hY (by simpa using ‹(!b) = false›) (by simpa using ‹(!d) = false›) (by simpa using ‹(!d2) = false›)
    exact ret2 rfl (by rw [e]) (by rw [e])
theorem en_iIsExc : Enters Tryz.prog 80 := enters_of Tryz.func80 rfl rfl
set_option maxHeartbeats 2000000 in
theorem sIsExc_spec (c : SG) (k g : Int) (hc : SgL c) : ASpec Tryz.prog 81 [sgA c, aI k, aI g] [] (Pure1 (.tup [aT (excR c k g).1, aT (excR c k g).2])) := by
 have hV := l5State_spec c k hc
 have hW2 := l1In_spec g 0 ((c.sigs.length : Int) - 1)
 have hA := l5Exc_spec c k g hc.a
 have hsg := hc.sg
 have hR : excR c k g = if (stateB c k && (decide (0 ≤ g) && decide (g ≤ (c.sigs.length : Int) - 1))) = true then (excB c k g, true) else (false, false) := rfl
 obtain ⟨b, hb⟩ : ∃ b, b = stateB c k := ⟨_, rfl⟩
 rw [← hb] at hV hR
 obtain ⟨d2, hd2⟩ : ∃ d, d = (decide (0 ≤ g) && decide (g ≤ (c.sigs.length : Int) - 1)) := ⟨_, rfl⟩
 rw [← hd2] at hW2 hR
 obtain ⟨R, hRR⟩ : ∃ R, R = excR c k g := ⟨_, rfl⟩
 rw [← hRR] at hR ⊢
 clear hb hd2 hRR
 have hN : b = false ∨ d2 = false → R = (false, false) := fun h => hR.trans (if_neg (by rcases h with h | h <;> rw [h] <;> simp))
 have hY : b = true → d2 = true → R = (excB c k g, true) := fun h1 h3 => hR.trans (if_pos (by rw [h1, h3]; rfl))
 refine ASpec.of Tryz.func81 rfl rfl fun C hC => ?_
 refine AC.seq (AC.region ?_)
 refine AL.q (by exact h_boxF rfl rfl) rfl ?_
 refine za ?_
 refine za ?_
 refine AL.nil (th_n (AC.seq (AC.seq (AC.region ?_))))
 refine AL.p (by exact g_load_refN rfl rfl rfl rfl) rfl ?_
 refine zm ?_
 refine AL.q (by exact h_pure en_l5State rfl rfl (by repeat (first | exact rfl | exact DLead.same | refine ⟨_, _, rfl, ?_, ?_⟩ | refine ⟨_, rfl, ?_⟩)) hV rfl) rfl ?_
 refine AL.p (by exact g_not rfl) rfl ?_
 refine zm ?_
 refine AL.caseGB rfl rfl (fun h0 => ?_) (fun h0 => ?_)
 ·refine zn ?_
  refine zn ?_
  refine zn ?_
  refine zn ?_
  refine zn ?_
  refine zn ?_
  refine zn ?_
  refine zQ ?_
  refine AL.nil (th_n ?_)
  refine AC.condT rfl ?_
  refine AC.seq (AC.region ?_)
  refine za ?_
  refine za ?_
  refine AL.nil (th_n (AC.ret (th_r (bq_r ?_))))
  have e : R = (false, false) := hN (by exact .inl (by simpa using ‹(!b) = true›))
  exact ret2 rfl (by rw [e]) (by rw [e])
 ·refine zy ?_
  refine zm ?_
  refine zy ?_
  refine zf ?_
  refine zy ?_
  refine zr ?_
  refine zy ?_
  refine AL.p (by exact g_len_view (k := c.sigs.length) rfl rfl (sigsL_len _)) rfl ?_
  refine zy ?_
  refine zA ?_
  refine zy ?_
  refine AL.q (by exact h_pure en_l1In rfl rfl (by repeat (first | exact rfl | exact DLead.same | refine ⟨_, _, rfl, ?_, ?_⟩)) hW2 rfl) rfl ?_
  refine zy ?_
  refine AL.p (by exact g_not rfl) rfl ?_
  refine zP ?_
  refine AL.nil (th_n ?_)
  refine AC.condB rfl (fun h1 => ?_) (fun h1 => ?_)
  ·refine AC.seq (AC.region ?_)
   refine za ?_
   refine za ?_
   refine AL.nil (th_n (AC.ret (th_r (bq_r ?_))))
   have e : R = (false, false) := hN (by exact .inr (by simpa using ‹(!d2) = true›))
   exact ret2 rfl (by rw [e]) (by rw [e])
  ·refine AC.skip (th_n (AC.seq (AC.region ?_)))
   refine AL.p (by exact g_load_refN rfl rfl rfl rfl) rfl ?_
   refine zm ?_
   refine zm ?_
   refine AL.q (by exact h_pure en_l5Exc rfl rfl (by repeat (first | exact rfl | exact DLead.same | refine ⟨_, _, rfl, ?_, ?_⟩ | refine ⟨_, rfl, ?_⟩)) hA rfl) rfl ?_
   refine za ?_
   refine za ?_
   refine AL.nil (th_n (AC.ret (bq_r ?_)))
   have e := hY (by simpa using ‹(!b) = false›) (by simpa using ‹(!d2) = false›)
   exact ret2 rfl (by rw [e]) (by rw [e])
theorem en_sIsExc : Enters Tryz.prog 81 := enters_of Tryz.func81 rfl rfl
def withB (c : SG) (w : List UInt8) (k : Nat) : Bool := decide (bstr (cAtS c k) = bstr w)
def withL (c : SG) (w : List UInt8) (n : Nat) : List Int := nI ((List.range n).filter (withB c w))
theorem withL_succ (c : SG) (w : List UInt8) (n : Nat) : withL c w (n + 1) = withL c w n ++ (if withB c w n = true then [(n : Int)] else []) := by
 unfold withL nI
 rw [List.range_succ, List.filter_append, List.map_append]
 congr 1
 cases h : withB c w n <;> simp [h]
theorem withL_len (c : SG) (w : List UInt8) (n : Nat) : (withL c w n).length ≤ n := by
 unfold withL nI
 rw [List.length_map]
 have := List.length_filter_le (withB c w) (List.range n)
 rwa [List.length_range] at this
noncomputable def withR (c : SG) (w : List UInt8) : List Int × Bool := if validC c = true then (withL c w c.codes.length, true) else ([], false)
set_option maxHeartbeats 2000000 in
theorem iStates_spec (c : SG) (w : List UInt8) (hc : SgL c) : ASpec Tryz.prog 76 [sgA c, aS (bstr w)] [] (Pure1 (.tup [.d (vI (withR c w).1), aT (withR c w).2])) := by
 have hV := iValidSg_spec c hc
 have hR : withR c w = if validC c = true then (withL c w c.codes.length, true) else ([], false) := rfl
 have hHs := withL_succ c w
 have hHl := withL_len c w
 have hB : ∀ k, withB c w k = decide (bstr (cAtS c k) = bstr w) := fun k => rfl
 have hn := hc.n
 obtain ⟨b, hb⟩ : ∃ b, b = validC c := ⟨_, rfl⟩
 rw [← hb] at hV hR
 obtain ⟨R, hRR⟩ : ∃ R, R = withR c w := ⟨_, rfl⟩
 rw [← hRR] at hR ⊢
 clear hb hRR
 refine ASpec.of Tryz.func76 rfl rfl fun C hC => ?_
 refine AC.seq (AC.region ?_)
 refine AL.q (by exact h_boxF rfl rfl) rfl ?_
 refine za ?_
 refine za ?_
 refine AL.nil (th_n (AC.seq (AC.seq (AC.region ?_))))
 refine AL.p (by exact g_load_refN rfl rfl rfl rfl) rfl ?_
 refine AL.q (by exact h_pure en_iValidSg rfl rfl (by repeat (first | exact rfl | exact DLead.same | refine ⟨_, _, rfl, ?_, ?_⟩ | refine ⟨_, rfl, ?_⟩)) hV rfl) rfl ?_
 refine AL.p (by exact g_not rfl) rfl ?_
 refine AL.nil (th_n ?_)
 refine AC.condB rfl (fun h0 => ?_) (fun h0 => ?_)
 ·refine AC.seq (AC.region ?_)
  refine za ?_
  refine za ?_
  refine AL.nil (th_n (AC.ret (th_r (bq_r ?_))))
  have e : R = ([], false) := hR.trans (if_neg (by simpa using ‹(!b) = true›))
  exact ret0 rfl (by rw [e]; show AV.leads _ (.tup [.d (vI []), aT false]) _; repeat (first | exact DLead.same | exact DLead.nil | exact rfl | refine ⟨_, rfl, ?_⟩ | refine ⟨_, _, rfl, ?_, ?_⟩))
 ·refine AC.skip (th_n (AC.seq (AC.region ?_)))
  refine AL.q (by exact h_lit rfl rfl rfl rfl rfl rfl rfl rfl) rfl ?_
  refine AL.p (by exact as2 rfl) rfl ?_
  refine AL.nil (th_n (AC.seq (AC.seq (AC.region ?_))))
  refine zf ?_
  refine zr ?_
  refine AL.p (by exact g_len_view (k := c.codes.length) rfl rfl (tsX_len _)) rfl ?_
  refine zm ?_
  refine AL.nil (th_n (AC.block ?_))
  refine AC.loop (ι := Nat) (fun k => ⟨30, 600, [(1, aS (bstr w)), (2, .d (.ref (sgD c))), (6, .own 100 (withL c w k).length), (14, .d (.view 9 1 (tsX c.codes))), (15, aI c.codes.length), (16, aI k)], [(100, some (.arr 3 1 (ints (withL c w k))))]⟩) (fun k => k ≤ c.codes.length) (fun k => c.codes.length - k) (0) ?_ (Nat.zero_le _) ?_
  ·exact zw [(100, _)] hC
  ·intro k hk
   refine AC.seq (AC.region ?_)
   refine zc ?_
   refine AL.nil (th_n (AC.seq ?_))
   refine AC.condD rfl (fun h1 => ?_) (fun h1 => ?_)
   ·refine AC.skip (th_n (AC.seq (AC.block (AC.seq ?_))))
    have hk1 : k < c.codes.length := by omega
    have hget := cAtS_get hk1
    have hHk := hHs k
    have hHlk := hHl k
    rw [hB k] at hHk
    obtain ⟨x, hx⟩ : ∃ x, x = cAtS c k := ⟨_, rfl⟩
    rw [← hx] at hget hHk
    refine AC.region ?_
    refine zm ?_
    refine AL.p (by exact g_ia_view (i := k) rfl rfl rfl rfl rfl rfl hget) rfl ?_
    refine zr ?_
    refine za ?_
    refine za ?_
    refine AL.nil (th_n (AC.seq (AC.region ?_)))
    refine zm ?_
    refine zm ?_
    refine AL.p (by exact g_scmp rfl rfl rfl) rfl ?_
    refine AL.nil (th_n ?_)
    refine AC.condD rfl (fun h2 => ?_) (fun h2 => ?_)
    ·refine AC.region ?_
     refine AL.p (by exact mv2 rfl) rfl ?_
     refine zm ?_
     refine AL.q (by exact h_litF rfl rfl rfl rfl rfl rfl rfl rfl) rfl ?_
     refine AL.q (by exact h_appendI (withL c w k) [(k : Int)] (.own rfl rfl (ints_len _).symm) (.view rfl) (by rw [List.length_append]; simp only [List.length_cons, List.length_nil]; omega) (by simp)) rfl ?_
     refine AL.p (by exact as2 rfl) rfl ?_
     refine AL.nil (ib_n (th_n (AC.region ?_)))
     refine zA ?_
     refine zm ?_
     refine AL.nil (th_n ?_)
     (have q := ‹bstr x = bstr w›; rw [decide_eq_true q, if_pos rfl] at hHk; exact ⟨k + 1, by omega, by omega, zw [(100, _)] hC (by rw [hHk]; repeat (first | exact True.intro | refine And.intro ?_ ?_ | exact DLead.same | exact rfl | refine ⟨_, rfl, ?_⟩)) (by rw [hHk]; repeat (first | exact True.intro | refine And.intro ?_ ?_ | exact rfl | refine ⟨_, _, rfl, rfl, ?_⟩))⟩)
    ·refine AC.skip (ib_n (th_n (AC.region ?_)))
     refine zA ?_
     refine zm ?_
     refine AL.nil (th_n ?_)
     (have q := ‹¬ bstr x = bstr w›; rw [decide_eq_false q, if_neg (by decide), List.append_nil] at hHk; exact ⟨k + 1, by omega, by omega, zw [(100, 100)] hC (by rw [hHk]; repeat (first | exact True.intro | refine And.intro ?_ ?_ | exact DLead.same | exact rfl | refine ⟨_, rfl, ?_⟩)) (by rw [hHk]; repeat (first | exact True.intro | refine And.intro ?_ ?_ | exact rfl | refine ⟨_, _, rfl, rfl, ?_⟩))⟩)
   ·refine AC.exit (th_e (th_e (ib_y (th_n (AC.seq ?_)))))
    have hkk : k = c.codes.length := by omega
    rw [hkk]
    refine AC.weak (Weak.freeze (i := 6) rfl rfl (Nat.le_of_eq (ints_len _).symm) (List.take_of_length_le (Nat.le_of_eq (ints_len _)))) ?_
    refine AC.region ?_
    refine zm ?_
    refine za ?_
    refine za ?_
    refine AL.nil (th_n (AC.ret (bq_r ?_)))
    have e : R = (withL c w c.codes.length, true) := hR.trans (if_pos (by simpa using ‹(!b) = false›))
    exact ret0 rfl (by rw [e]; show AV.leads _ (.tup [.d (vI (withL c w c.codes.length)), aT true]) _; repeat (first | exact DLead.same | exact rfl | refine ⟨_, rfl, ?_⟩ | refine ⟨_, _, rfl, ?_, ?_⟩))
theorem en_iStates : Enters Tryz.prog 76 := enters_of Tryz.func76 rfl rfl
set_option maxHeartbeats 2000000 in
theorem sStates_spec (c : SG) (w : List UInt8) (hc : SgL c) : ASpec Tryz.prog 83 [sgA c, aS (bstr w)] [] (Pure1 (.tup [.d (vI (withR c w).1), aT (withR c w).2])) := by
 have hV := l5Good_spec c hc
 have hR : withR c w = if validC c = true then (withL c w c.codes.length, true) else ([], false) := rfl
 have hHs := withL_succ c w
 have hHl := withL_len c w
 have hB : ∀ k, withB c w k = decide (bstr (cAtS c k) = bstr w) := fun k => rfl
 have hn := hc.n
 obtain ⟨b, hb⟩ : ∃ b, b = validC c := ⟨_, rfl⟩
 rw [← hb] at hV hR
 obtain ⟨R, hRR⟩ : ∃ R, R = withR c w := ⟨_, rfl⟩
 rw [← hRR] at hR ⊢
 clear hb hRR
 refine ASpec.of Tryz.func83 rfl rfl fun C hC => ?_
 refine AC.seq (AC.region ?_)
 refine AL.q (by exact h_boxF rfl rfl) rfl ?_
 refine za ?_
 refine za ?_
 refine AL.nil (th_n (AC.seq (AC.seq (AC.region ?_))))
 refine AL.p (by exact g_load_refN rfl rfl rfl rfl) rfl ?_
 refine AL.q (by exact h_pure en_l5Good rfl rfl (by repeat (first | exact rfl | exact DLead.same | refine ⟨_, _, rfl, ?_, ?_⟩ | refine ⟨_, rfl, ?_⟩)) hV rfl) rfl ?_
 refine AL.p (by exact g_not rfl) rfl ?_
 refine AL.nil (th_n ?_)
 refine AC.condB rfl (fun h0 => ?_) (fun h0 => ?_)
 ·refine AC.seq (AC.region ?_)
  refine za ?_
  refine za ?_
  refine AL.nil (th_n (AC.ret (th_r (bq_r ?_))))
  have e : R = ([], false) := hR.trans (if_neg (by simpa using ‹(!b) = true›))
  exact ret0 rfl (by rw [e]; show AV.leads _ (.tup [.d (vI []), aT false]) _; repeat (first | exact DLead.same | exact DLead.nil | exact rfl | refine ⟨_, rfl, ?_⟩ | refine ⟨_, _, rfl, ?_, ?_⟩))
 ·refine AC.skip (th_n (AC.seq (AC.region ?_)))
  refine za ?_
  refine AL.nil (th_n (AC.seq (AC.seq (AC.region ?_))))
  refine zf ?_
  refine zr ?_
  refine AL.p (by exact g_len_view (k := c.codes.length) rfl rfl (tsX_len _)) rfl ?_
  refine zm ?_
  refine AL.nil (th_n (AC.block ?_))
  refine AC.loop (ι := Nat) (fun k => ⟨29, 600, [(1, aS (bstr w)), (2, .d (.ref (sgD c))), (6, .own 100 (withL c w k).length), (13, .d (.view 9 1 (tsX c.codes))), (14, aI c.codes.length), (15, aI k)], [(100, some (.arr 3 1 (ints (withL c w k))))]⟩) (fun k => k ≤ c.codes.length) (fun k => c.codes.length - k) (0) ?_ (Nat.zero_le _) ?_
  ·exact (Weak.nilOwn (i := 6) (e := 3) (sz := 1) rfl (by decide)).trans (zw [(100, _)] hC)
  ·intro k hk
   refine AC.seq (AC.region ?_)
   refine zc ?_
   refine AL.nil (th_n (AC.seq ?_))
   refine AC.condD rfl (fun h1 => ?_) (fun h1 => ?_)
   ·refine AC.skip (th_n (AC.seq (AC.block (AC.seq ?_))))
    have hk1 : k < c.codes.length := by omega
    have hget := cAtS_get hk1
    have hHk := hHs k
    have hHlk := hHl k
    rw [hB k] at hHk
    obtain ⟨x, hx⟩ : ∃ x, x = cAtS c k := ⟨_, rfl⟩
    rw [← hx] at hget hHk
    refine AC.region ?_
    refine zm ?_
    refine AL.p (by exact g_ia_view (i := k) rfl rfl rfl rfl rfl rfl hget) rfl ?_
    refine zr ?_
    refine za ?_
    refine za ?_
    refine AL.nil (th_n (AC.seq (AC.region ?_)))
    refine zm ?_
    refine zm ?_
    refine AL.p (by exact g_scmp rfl rfl rfl) rfl ?_
    refine AL.nil (th_n ?_)
    refine AC.condD rfl (fun h2 => ?_) (fun h2 => ?_)
    ·refine AC.region ?_
     refine AL.p (by exact mv2 rfl) rfl ?_
     refine zm ?_
     refine AL.q (by exact h_litF rfl rfl rfl rfl rfl rfl rfl rfl) rfl ?_
     refine AL.q (by exact h_appendI (withL c w k) [(k : Int)] (.own rfl rfl (ints_len _).symm) (.view rfl) (by rw [List.length_append]; simp only [List.length_cons, List.length_nil]; omega) (by simp)) rfl ?_
     refine AL.p (by exact as2 rfl) rfl ?_
     refine AL.nil (ib_n (th_n (AC.region ?_)))
     refine zA ?_
     refine zm ?_
     refine AL.nil (th_n ?_)
     (have q := ‹bstr x = bstr w›; rw [decide_eq_true q, if_pos rfl] at hHk; exact ⟨k + 1, by omega, by omega, zw [(100, _)] hC (by rw [hHk]; repeat (first | exact True.intro | refine And.intro ?_ ?_ | exact DLead.same | exact rfl | refine ⟨_, rfl, ?_⟩)) (by rw [hHk]; repeat (first | exact True.intro | refine And.intro ?_ ?_ | exact rfl | refine ⟨_, _, rfl, rfl, ?_⟩))⟩)
    ·refine AC.skip (ib_n (th_n (AC.region ?_)))
     refine zA ?_
     refine zm ?_
     refine AL.nil (th_n ?_)
     (have q := ‹¬ bstr x = bstr w›; rw [decide_eq_false q, if_neg (by decide), List.append_nil] at hHk; exact ⟨k + 1, by omega, by omega, zw [(100, 100)] hC (by rw [hHk]; repeat (first | exact True.intro | refine And.intro ?_ ?_ | exact DLead.same | exact rfl | refine ⟨_, rfl, ?_⟩)) (by rw [hHk]; repeat (first | exact True.intro | refine And.intro ?_ ?_ | exact rfl | refine ⟨_, _, rfl, rfl, ?_⟩))⟩)
   ·refine AC.exit (th_e (th_e (ib_y (th_n (AC.seq ?_)))))
    have hkk : k = c.codes.length := by omega
    rw [hkk]
    refine AC.weak (Weak.freeze (i := 6) rfl rfl (Nat.le_of_eq (ints_len _).symm) (List.take_of_length_le (Nat.le_of_eq (ints_len _)))) ?_
    refine AC.region ?_
    refine zm ?_
    refine za ?_
    refine za ?_
    refine AL.nil (th_n (AC.ret (bq_r ?_)))
    have e : R = (withL c w c.codes.length, true) := hR.trans (if_pos (by simpa using ‹(!b) = false›))
    exact ret0 rfl (by rw [e]; show AV.leads _ (.tup [.d (vI (withL c w c.codes.length)), aT true]) _; repeat (first | exact DLead.same | exact rfl | refine ⟨_, rfl, ?_⟩ | refine ⟨_, _, rfl, ?_, ?_⟩))
theorem en_sStates : Enters Tryz.prog 83 := enters_of Tryz.func83 rfl rfl
def arAt (L : List Ar) (i : Nat) : Ar := L.getD i ⟨0, 0, false, 0⟩
theorem arAt_nat {L : List Ar} {i : Nat} (h : i < L.length) : arAt L i = L[i] := by unfold arAt; rw [List.getD_eq_getElem?_getD, List.getElem?_eq_getElem h]; rfl
theorem arAt_get {L : List Ar} {i : Nat} (h : i < L.length) : (arL L)[i]? = some (arD (arAt L i)) := by rw [arAt_nat h]; exact arL_get h
def movesC (L : List Ar) : List Mv := (List.range L.length).map fun j => ⟨(arAt L j).from_, j, (arAt L j).to_⟩
def exC (c : SG) : Ex := ⟨List.replicate c.codes.length [], movesC c.arcs⟩
theorem movesC_len (L : List Ar) : (movesC L).length = L.length := by unfold movesC; simp
theorem movesC_get {L : List Ar} {j : Nat} (h : j < L.length) : (movesC L)[j]'(by rw [movesC_len]; exact h) = ⟨L[j].from_, j, L[j].to_⟩ := by
 unfold movesC
 rw [List.getElem_map, List.getElem_range, arAt_nat h]
theorem movesC_take {L : List Ar} {j : Nat} (h : j < L.length) : (movesC L).take (j + 1) = (movesC L).take j ++ [⟨L[j].from_, j, L[j].to_⟩] := by
 rw [List.take_add_one, List.getElem?_eq_getElem (by rw [movesC_len]; exact h), movesC_get h]; rfl
theorem movesC_edges (c : SG) : edgesR (exC c) = arcE c.arcs := by
 unfold edgesR exC arcE
 refine List.ext_getElem (by simp [movesC_len]) fun i h1 h2 => ?_
 rw [List.getElem_map, List.getElem_map]
 have hi : i < c.arcs.length := by simpa using h2
 have hm : i < (movesC c.arcs).length := by rw [movesC_len]; exact hi
 show ((movesC c.arcs)[i].from_.toNat, (movesC c.arcs)[i].to_.toNat) = _
 rw [movesC_get hi]
theorem repS (n : Nat) : List.replicate n (([ZK.str] : List ZK).map fun z => DV.val z.val) = tsX (List.replicate n []) := by unfold tsX; rw [List.map_replicate]; rfl
set_option maxHeartbeats 4000000 in
theorem l5Moves_spec (c : SG) (hn : c.codes.length ≤ 100000) (hl : c.arcs.length ≤ 1000000) : ASpec Tryz.prog 217 [sgA c] [] (Pure1 (rgA (exC c))) := by
 have hml := movesC_len c.arcs
 have hmt := fun j (hj : j < c.arcs.length) => movesC_take hj
 have hex : exC c = ⟨List.replicate c.codes.length [], movesC c.arcs⟩ := rfl
 obtain ⟨M, hM⟩ : ∃ M, M = movesC c.arcs := ⟨_, rfl⟩
 simp only [← hM] at hml hmt hex
 clear hM
 obtain ⟨n, hnn⟩ : ∃ n, n = c.codes.length := ⟨_, rfl⟩
 rw [← hnn] at hn hex
 rw [hex]
 refine ASpec.of Tryz.func217 rfl rfl fun C hC => ?_
 refine AC.seq (AC.region ?_)
 refine AL.q (by exact h_boxF rfl rfl) rfl ?_
 refine AL.q (by exact h_alloc rfl) rfl ?_
 refine AL.nil (th_n (AC.seq (AC.region ?_)))
 refine zf ?_
 refine zr ?_
 refine AL.p (by exact g_len_view (k := n) rfl rfl (by rw [hnn]; exact tsX_len _)) rfl ?_
 refine AL.q (by exact h_make (k := n) rfl rfl rfl rfl rfl rfl rfl rfl (by show 16 * n ≤ _; omega) (by omega)) rfl ?_
 refine AL.p (by exact g_build rfl rfl rfl) rfl ?_
 refine AL.q (by exact h_alloc rfl) rfl ?_
 refine zs ?_
 refine AL.nil (th_n (AC.seq (AC.seq (AC.region ?_))))
 refine zf ?_
 refine zr ?_
 refine AL.p (by exact g_len_view (k := c.arcs.length) rfl rfl (arL_len _)) rfl ?_
 refine zm ?_
 refine AL.nil (th_n (AC.block ?_))
 refine AC.loop (ι := Nat) (fun j => ⟨32, 400, [(1, .d (.ref (sgD c))), (2, .ptr 202 0), (3, .ptr 203 0), (12, .d (vArs c.arcs)), (13, aI c.arcs.length), (14, aI j)], [(202, some (.cells 35 zRG)), (203, some (.cells 35 [.own 100 n, .own 101 j])), (100, some (.arr 9 1 (tsX (List.replicate n [])))), (101, some (.arr 52 3 (mvL (M.take j))))]⟩) (fun j => j ≤ c.arcs.length) (fun j => c.arcs.length - j) (0) ?_ (Nat.zero_le _) ?_
 ·exact (Weak.nilOwnP 3 1 (e := 52) (sz := 3) rfl rfl rfl rfl rfl).trans (zw [(202, _), (203, _), (100, _), (101, _)] hC (b := by rw [← repS]; repeat (first | exact True.intro | refine And.intro ?_ ?_ | exact DLead.same | exact rfl | refine ⟨_, _, rfl, rfl, ?_⟩ | refine ⟨_, rfl, ?_⟩ | refine ⟨_, _, rfl, ?_, ?_⟩)))
 ·intro j hj
  refine AC.seq (AC.region ?_)
  refine zc ?_
  refine AL.nil (th_n (AC.seq ?_))
  refine AC.condD rfl (fun h0 => ?_) (fun h0 => ?_)
  ·refine AC.skip (th_n (AC.seq (AC.block (AC.seq ?_))))
   have hj1 : j < c.arcs.length := by omega
   have hget := arL_get hj1
   have hst := hmt j hj1
   have htl : (M.take j).length = j := by rw [List.length_take]; omega
   obtain ⟨v, hv⟩ : ∃ v, v = c.arcs[j] := ⟨_, rfl⟩
   rw [← hv] at hget hst
   clear hv
   refine AC.region ?_
   refine zm ?_
   refine AL.p (by exact g_ia_view rfl rfl rfl rfl rfl (by rfl) (by assumption)) rfl ?_
   refine AL.p (by exact g_load_refN rfl rfl rfl rfl) rfl ?_
   refine AL.q (by exact h_alloc rfl) rfl ?_
   refine za ?_
   refine zs ?_
   refine AL.nil (th_n (AC.region ?_))
   refine zF ?_
   refine zl ?_
   refine zF ?_
   refine zl ?_
   refine zm ?_
   refine zF ?_
   refine zl ?_
   refine AL.p (by exact g_build rfl rfl rfl) rfl ?_
   refine AL.q (by exact h_litF rfl rfl rfl rfl rfl rfl rfl rfl) rfl ?_
   refine AL.q (by exact h_appendMv (M.take j) [⟨v.from_, j, v.to_⟩] (.own rfl rfl (by rw [mvL_len, htl])) (.view rfl) (by rw [List.length_append, htl]; simp only [List.length_cons, List.length_nil]; omega) (by simp)) rfl ?_
   refine zF ?_
   refine zs ?_
   refine AL.nil (ib_n (th_n (AC.region ?_)))
   refine zA ?_
   refine zm ?_
   refine AL.nil (th_n ?_)
   exact ⟨j + 1, by omega, by omega, zw [(202, 202), (203, 203), (100, 100), (101, _)] hC (b := by rw [List.length_append, htl, hst]; repeat (first | exact True.intro | refine And.intro ?_ ?_ | exact DLead.same | exact rfl | refine ⟨_, _, rfl, rfl, ?_⟩ | refine ⟨_, rfl, ?_⟩ | refine ⟨_, _, rfl, ?_, ?_⟩))⟩
  ·refine AC.exit (th_e (th_e (ib_y (th_n (AC.seq ?_)))))
   have hjj : j = c.arcs.length := by omega
   rw [hjj, ← hml, List.take_length]
   refine AC.weak (Weak.freezeP (els' := tsX (List.replicate n [])) 3 0 rfl rfl rfl rfl (by rw [tsX_len, List.length_replicate]; exact Nat.le_refl _) (List.take_of_length_le (by rw [tsX_len, List.length_replicate]; exact Nat.le_refl _)) rfl) ?_
   refine AC.weak (Weak.freezeP (els' := mvL M) 3 1 rfl rfl rfl rfl (by rw [mvL_len]; exact Nat.le_refl _) (List.take_of_length_le (by rw [mvL_len]; exact Nat.le_refl _)) rfl) ?_
   refine AC.region ?_
   refine AL.p (by exact g_load_ptrN rfl rfl rfl rfl rfl) rfl ?_
   refine zs ?_
   refine AL.nil (th_n (AC.ret (bq_r ?_)))
   exact ret0 rfl (by repeat (first | exact DLead.same | exact rfl | refine ⟨_, rfl, ?_⟩ | refine ⟨_, _, rfl, ?_, ?_⟩))
theorem en_l5Moves : Enters Tryz.prog 217 := enters_of Tryz.func217 rfl rfl
noncomputable def pathL (c : SG) (k : Nat) : List Ar := (backI (arcE c.arcs) (distF (arcE c.arcs) c.codes.length 0) (oa (distF (arcE c.arcs) c.codes.length 0) k).toNat k).reverse.map (arAt c.arcs)
noncomputable def pathR (c : SG) (k : Int) : List Ar × Bool := if stateB c k = true then (pathL c k.toNat, true) else ([], false)
theorem validC_at {c : SG} (h : validC c = true) : (1 ≤ c.codes.length ∧ c.codes.length ≤ 300) ∧ c.arcs.length ≤ 4000 ∧ (∀ a, a ∈ c.arcs → ArIn c.codes.length a) ∧ ∀ v, v < c.codes.length → 0 ≤ oa (distF (arcE c.arcs) c.codes.length 0) v := by
 unfold validC at h
 simp only [Bool.and_eq_true, decide_eq_true_eq, List.all_eq_true] at h
 obtain ⟨⟨⟨⟨⟨_, h2⟩, h3⟩, _⟩, h5⟩, h6⟩ := h
 refine ⟨by omega, h3, fun a ha => arcG_in (h5 a ha), fun v hv => ?_⟩
 unfold allU at h6
 have := List.all_eq_true.1 h6 v (List.mem_range.2 hv)
 exact of_decide_eq_true this
set_option maxHeartbeats 4000000 in
theorem pathTo_spec (c : SG) (k : Nat) (hv : validC c = true) (hk : k < c.codes.length) : ASpec Tryz.prog 161 [sgA c, aI k] [] (Pure1 (.d (vArs (pathL c k)))) := by
 obtain ⟨hn, hal, hin, hfar⟩ := validC_at hv
 have hE := arcE_in hin
 have hAS := arcSteps_spec c.arcs (by omega) (fun v hv => by have := hin v hv; unfold ArIn at this; omega)
 have hT := shortestI_spec (arcE c.arcs) c.codes.length k hk (by omega) (by rw [arcE_len]; omega) hE
 have hD := dist_ex (s := 0) (by omega) hE
 have hle := (distF_le (s := 0) (by omega) hE k).2
 have hf := hfar k hk
 have hBi := backI_in hD (oa (distF (arcE c.arcs) c.codes.length 0) k).toNat k (by omega)
 have hSh : shortF (arcE c.arcs) c.codes.length k = ((nI (backI (arcE c.arcs) (distF (arcE c.arcs) c.codes.length 0) (oa (distF (arcE c.arcs) c.codes.length 0) k).toNat k)).reverse, true) := if_neg (by omega)
 rw [hSh] at hT
 have hP : pathL c k = (backI (arcE c.arcs) (distF (arcE c.arcs) c.codes.length 0) (oa (distF (arcE c.arcs) c.codes.length 0) k).toNat k).reverse.map (arAt c.arcs) := rfl
 have hWl : (backI (arcE c.arcs) (distF (arcE c.arcs) c.codes.length 0) (oa (distF (arcE c.arcs) c.codes.length 0) k).toNat k).length ≤ 1000 := by rw [backI_len]; omega
 rw [arcE_len] at hBi
 obtain ⟨W, hW⟩ : ∃ W, W = (backI (arcE c.arcs) (distF (arcE c.arcs) c.codes.length 0) (oa (distF (arcE c.arcs) c.codes.length 0) k).toNat k).reverse := ⟨_, rfl⟩
 have hrev : (nI (backI (arcE c.arcs) (distF (arcE c.arcs) c.codes.length 0) (oa (distF (arcE c.arcs) c.codes.length 0) k).toNat k)).reverse = nI W := by rw [hW]; unfold nI; rw [List.map_reverse]
 have hWin : ∀ i, i ∈ W → i < c.arcs.length := fun i hi => hBi i (by rw [hW] at hi; exact List.mem_reverse.1 hi)
 have hWl2 : W.length ≤ 1000 := by rw [hW, List.length_reverse]; exact hWl
 rw [hrev] at hT
 rw [← hW] at hP
 rw [hP]
 clear hSh hBi hrev hW hP hWl hf hle hD hfar
 refine ASpec.of Tryz.func161 rfl rfl fun C hC => ?_
 refine AC.seq (AC.region ?_)
 refine AL.q (by exact h_boxF rfl rfl) rfl ?_
 refine za ?_
 refine AL.nil (th_n (AC.seq (AC.region ?_)))
 refine AL.q (by exact h_lit rfl rfl rfl rfl rfl rfl rfl rfl) rfl ?_
 refine AL.p (by exact as2 rfl) rfl ?_
 refine AL.nil (th_n (AC.seq ?_))
 refine AC.drawn' mixed_ok [[], [0], [0,1], [], [3], [3,4], [], [0,1,2,3,4,5,6], [0,1,2,3,4,5,6,7], [0,1,2,3,4,5,6,7,8], [0,1,2,3,4,5,6,7,8], [0,1,2,3,4,5,6,7,8,9], [0,1,2,3,4,5,6,7,8,9,10,11]] (by decide) ?_
 refine DF.op 0 [] 13 rfl rfl rfl (.free rfl (NOp.of (by exact g_fa_ref rfl rfl rfl rfl rfl rfl))) rfl ?_
 refine DF.op 1 [0] 13 rfl rfl rfl (.free rfl (NOp.of (by exact g_load_ref rfl rfl rfl))) rfl ?_
 refine DF.op 2 [0,1] 13 rfl rfl rfl (.free rfl (NOp.of (by exact g_len_view (k := c.codes.length) rfl rfl (tsX_len _)))) rfl ?_
 refine DF.op 3 [] 13 rfl rfl rfl (.free rfl (NOp.of (by exact g_fa_ref rfl rfl rfl rfl rfl rfl))) rfl ?_
 refine DF.op 4 [3] 13 rfl rfl rfl (.free rfl (NOp.of (by exact g_load_ref rfl rfl rfl))) rfl ?_
 refine DF.op 5 [3,4] 13 rfl rfl rfl (.free rfl (by exact h_pure en_arcSteps rfl rfl (by repeat (first | exact rfl | exact DLead.same | refine ⟨_, _, rfl, ?_, ?_⟩)) hAS rfl)) rfl ?_
 refine DF.op 6 [] 13 rfl rfl rfl (.free rfl (NOp.of (by exact mv1 rfl))) rfl ?_
 refine DF.op 7 [0,1,2,3,4,5,6] 13 rfl rfl rfl (.free rfl (by exact h_pure en_shortestI rfl rfl (by repeat (first | exact rfl | exact DLead.same | refine ⟨_, _, rfl, ?_, ?_⟩)) hT rfl)) rfl ?_
 refine DF.op 8 [0,1,2,3,4,5,6,7] 13 rfl rfl rfl (.free rfl (NOp.of (by exact mv5 rfl))) rfl ?_
 refine DF.op 9 (List.range 9) 13 rfl rfl rfl (.free rfl (NOp.of (by exact g_extract (r := .d _) rfl rfl))) rfl ?_
 refine DF.op 10 (List.range 9) 13 rfl rfl rfl (.free rfl (NOp.of (by exact g_extract (r := .d _) rfl rfl))) rfl ?_
 refine DF.op 11 (List.range 10) 13 rfl rfl rfl (.free rfl (NOp.of (by exact as1 rfl))) rfl ?_
 refine DF.op 12 (List.range 12) 13 rfl rfl rfl (.free rfl (NOp.of (by exact as1 rfl))) rfl ?_
 refine DF.fin (ps := [(0,3),(0,4),(0,5),(0,6),(1,3),(1,4),(1,5),(1,6),(2,3),(2,4),(2,5),(2,6),(3,0),(3,1),(3,2),(3,6),(4,0),(4,1),(4,2),(4,6),(5,0),(5,1),(5,2),(5,6),(6,0),(6,1),(6,2),(6,3),(6,4),(6,5),(9,10),(10,9),(10,11),(11,10)]) 13 rfl (by decide +kernel) (by decide +kernel) (by rfl) ?_
 refine th_n (AC.seq (AC.seq (AC.region ?_)))
 refine zm ?_
 refine AL.p (by exact g_len_view (k := W.length) rfl rfl (by rw [ints_len, nI_len])) rfl ?_
 refine zm ?_
 refine AL.nil (th_n (AC.block ?_))
 refine AC.loop (ι := Nat) (fun j => ⟨38, 400, [(2, .d (.ref (sgD c))), (5, .own 100 j), (22, .d (vI (nI W))), (23, aI W.length), (24, aI j)], [(100, some (.arr 75 4 (arL ((W.take j).map (arAt c.arcs)))))]⟩) (fun j => j ≤ W.length) (fun j => W.length - j) (0) ?_ (Nat.zero_le _) ?_
 ·exact zw [(100, _)] hC
 ·intro j hj
  refine AC.seq (AC.region ?_)
  refine zc ?_
  refine AL.nil (th_n (AC.seq ?_))
  refine AC.condD rfl (fun h0 => ?_) (fun h0 => ?_)
  ·refine AC.skip (th_n (AC.seq (AC.block (AC.seq ?_))))
   have hj1 : j < W.length := by omega
   have hget := nI_get hj1
   have hst := map_take_snoc (f := arAt c.arcs) hj1
   have hWi := hWin _ (List.getElem_mem hj1)
   have htl : ((W.take j).map (arAt c.arcs)).length = j := by rw [List.length_map, List.length_take]; omega
   obtain ⟨i, hi⟩ : ∃ i, i = W[j] := ⟨_, rfl⟩
   rw [← hi] at hget hst hWi
   have hrow := arAt_get hWi
   clear hi
   refine AC.region ?_
   refine AL.p (by exact g_ia_view (i := j) rfl rfl rfl rfl rfl rfl hget) rfl ?_
   refine zr ?_
   refine za ?_
   refine AL.nil (th_n (AC.region ?_))
   refine AL.p (by exact mv2 rfl) rfl ?_
   refine zf ?_
   refine zr ?_
   refine zm ?_
   refine AL.p (by exact g_ia_view (i := i) rfl rfl rfl rfl rfl rfl hrow) rfl ?_
   refine AL.p (by exact g_load_refN rfl rfl rfl rfl) rfl ?_
   refine AL.q (by exact h_litF rfl rfl rfl rfl rfl rfl rfl rfl) rfl ?_
   refine AL.q (by exact h_appendAr ((W.take j).map (arAt c.arcs)) [arAt c.arcs i] (.own rfl rfl (by rw [arL_len, htl])) (.view rfl) (by rw [List.length_append, htl]; simp only [List.length_cons, List.length_nil]; omega) (by simp)) rfl ?_
   refine AL.p (by exact as2 rfl) rfl ?_
   refine AL.nil (ib_n (th_n (AC.region ?_)))
   refine zA ?_
   refine zm ?_
   refine AL.nil (th_n ?_)
   exact ⟨j + 1, by omega, by omega, zw [(100, _)] hC (by rw [List.length_append, htl]; repeat (first | exact True.intro | refine And.intro ?_ ?_ | exact DLead.same | exact rfl | refine ⟨_, rfl, ?_⟩)) (by rw [hst]; repeat (first | exact True.intro | refine And.intro ?_ ?_ | exact rfl | refine ⟨_, _, rfl, rfl, ?_⟩))⟩
  ·refine AC.exit (th_e (th_e (ib_y (th_n (AC.seq ?_)))))
   have hjj : j = W.length := by omega
   have hWm : (W.map (arAt c.arcs)).length = W.length := List.length_map _
   rw [hjj, List.take_length, ← hWm]
   refine AC.weak (Weak.freeze (i := 5) rfl rfl (Nat.le_of_eq (arL_len _).symm) (List.take_of_length_le (Nat.le_of_eq (arL_len _)))) ?_
   refine AC.region ?_
   refine zm ?_
   refine za ?_
   refine AL.nil (th_n (AC.ret (bq_r ?_)))
   exact ret1 rfl rfl
theorem en_pathTo : Enters Tryz.prog 161 := enters_of Tryz.func161 rfl rfl
inductive Chn (L : List Ar) : List Ar → Nat → Prop
 | nil : Chn L [] 0
 | snoc {p : List Ar} {f : Nat} {a : Ar} {v : Nat} : Chn L p f → a ∈ L → a.from_ = (f : Int) → a.to_ = (v : Int) → Chn L (p ++ [a]) v
def atP (p : List Ar) (j : Nat) : Int := match j with | 0 => 0 | j + 1 => (arAt p j).to_
theorem Chn.facts {L p : List Ar} {v : Nat} (h : Chn L p v) : (∀ j (hj : j < p.length), p[j] ∈ L ∧ p[j].from_ = atP p j) ∧ atP p p.length = (v : Int) := by
 induction h with
 | nil => exact ⟨fun j hj => by simp at hj, rfl⟩
 | snoc h ha hf ht ih =>
  rename_i p f a v
  obtain ⟨h1, h2⟩ := ih
  have hat : ∀ j, j ≤ p.length → atP (p ++ [a]) j = atP p j := by
   intro j hj
   cases j with
   | zero => rfl
   | succ j => show (arAt (p ++ [a]) j).to_ = (arAt p j).to_; rw [arAt_nat (by simp; omega), arAt_nat (by omega), List.getElem_append_left (by omega)]
  refine ⟨fun j hj => ?_, ?_⟩
  ·rw [List.length_append] at hj
   simp only [List.length_cons, List.length_nil] at hj
   rw [hat j (by omega)]
   rcases Nat.lt_or_ge j p.length with g | g
   ·have := h1 j g
    rw [List.getElem_append_left g]
    exact ⟨this.1, this.2⟩
   ·obtain rfl : j = p.length := by omega
    rw [List.getElem_concat_length rfl, h2]
    exact ⟨ha, hf⟩
  ·rw [List.length_append]
   show (arAt (p ++ [a]) p.length).to_ = _
   rw [arAt_nat (by simp), List.getElem_concat_length rfl, ht]
theorem backI_chn {L : List Ar} {n : Nat} {o : List Int} (h : DistOf (arcE L) n 0 o) (hin : ∀ a, a ∈ L → ArIn n a) : ∀ (d v : Nat), oa o v = (d : Int) → Chn L ((backI (arcE L) o d v).reverse.map (arAt L)) v
 | 0, v, hv => by have hw := h.wk v 0 hv; cases hw; exact .nil
 | d + 1, v, hv => by
  obtain ⟨i, hi, _, hbk, hoi, hnr, _⟩ := near_find h (v := v) (d := d) (by omega)
  have ih := backI_chn h hin d _ hoi
  have hi2 : i < L.length := by rw [arcE_len] at hi; exact hi
  have hI := hin _ (List.getElem_mem hi2)
  unfold ArIn at hI
  rw [hbk, List.reverse_cons, List.map_append]
  have e := arcE_get hi2
  unfold nearB at hnr
  rw [decide_eq_true_eq, e] at hnr
  rw [e] at ih ⊢
  refine .snoc ih ?_ ?_ ?_
  ·rw [arAt_nat hi2]; exact List.getElem_mem hi2
  ·rw [arAt_nat hi2]; show _ = ((L[i].from_.toNat : Nat) : Int); omega
  ·rw [arAt_nat hi2, ← hnr.1]; show _ = ((L[i].to_.toNat : Nat) : Int); omega
theorem pathL_chn {c : SG} (hv : validC c = true) {k : Nat} (hk : k < c.codes.length) : Chn c.arcs (pathL c k) k := by
 obtain ⟨hn, hal, hin, hfar⟩ := validC_at hv
 have hf := hfar k hk
 exact backI_chn (dist_ex (by omega) (arcE_in hin)) hin _ k (by omega)
theorem pathL_len {c : SG} (hv : validC c = true) (k : Nat) : (pathL c k).length ≤ 300 := by
 obtain ⟨hn, hal, hin, hfar⟩ := validC_at hv
 have hle := (distF_le (s := 0) (by omega) (arcE_in hin) k).2
 unfold pathL
 rw [List.length_map, List.length_reverse, backI_len]
 omega
theorem validC_arc {c : SG} (h : validC c = true) {a : Ar} (ha : a ∈ c.arcs) : ((0 ≤ a.from_ ∧ a.from_ < c.codes.length) ∧ 0 ≤ a.to_ ∧ a.to_ < c.codes.length) ∧ labOk ⟨a.sig, a.up⟩ c.sigs.length = true ∧ fitS a (cAtS c a.from_.toNat) (cAtS c a.to_.toNat) = true := by
 obtain ⟨_, _, hin, _⟩ := validC_at h
 unfold validC at h
 simp only [Bool.and_eq_true, List.all_eq_true] at h
 obtain ⟨⟨_, h5⟩, _⟩ := h
 have := h5 a ha
 unfold arcG at this
 simp only [Bool.and_eq_true] at this
 exact ⟨hin a ha, this.1.2, this.2⟩
theorem validC_code {c : SG} (h : validC c = true) {i : Nat} (hi : i < c.codes.length) : (cAtS c i).length = c.sigs.length := by
 unfold validC at h
 simp only [Bool.and_eq_true, List.all_eq_true] at h
 obtain ⟨⟨⟨_, h4⟩, _⟩, _⟩ := h
 have := h4 _ (cAtS_mem hi)
 unfold bitsB at this
 simp only [Bool.and_eq_true, decide_eq_true_eq] at this
 omega
theorem arc_turn {c : SG} (h : validC c = true) {a : Ar} (ha : a ∈ c.arcs) : cAtS c a.to_.toNat = if a.sig < 0 then cAtS c a.from_.toNat else (cAtS c a.from_.toNat).set a.sig.toNat (bitLb a.up) := by
 obtain ⟨_, _, hf⟩ := validC_arc h ha
 unfold fitS at hf
 split at hf
 ·rename_i q; rw [if_pos q]; exact (bstr_inj (of_decide_eq_true hf)).symm
 ·rename_i q
  rw [if_neg q]
  rw [Bool.and_eq_true, decide_eq_true_eq, decide_eq_true_eq] at hf
  exact bstr_inj hf.2
theorem movesC_in {L : List Ar} {n : Nat} (h : ∀ a, a ∈ L → ArIn n a) : ∀ v, v ∈ movesC L → (0 ≤ v.from_ ∧ v.from_ < n) ∧ 0 ≤ v.to_ ∧ v.to_ < n := fun v hv => by
 obtain ⟨j, hj, rfl⟩ := List.getElem_of_mem hv
 have hj2 : j < L.length := by rw [movesC_len] at hj; exact hj
 rw [movesC_get hj2]
 exact h _ (List.getElem_mem hj2)
set_option maxHeartbeats 8000000 in
theorem l5Way_spec (c : SG) (k0 : Nat) (hv : validC c = true) (hk : k0 < c.codes.length) : ASpec Tryz.prog 163 [sgA c, aI k0] [] (Pure1 (.d (vArs (pathL c k0)))) := by
 obtain ⟨hn, hal, hin, hfar⟩ := validC_at hv
 have hE := arcE_in hin
 have hM := l5Moves_spec c (by omega) (by omega)
 have hxm : (exC c).marks.length = c.codes.length := List.length_replicate
 have hxl : (exC c).moves.length = c.arcs.length := movesC_len _
 have hMg : ∀ j (hj : j < c.arcs.length), (exC c).moves[j]'(by rw [hxl]; exact hj) = ⟨c.arcs[j].from_, j, c.arcs[j].to_⟩ := fun j hj => movesC_get hj
 have hF := sFar_spec (exC c) 0 (by omega) (by omega) (by omega) (by rw [hxm]; exact movesC_in hin)
 rw [movesC_edges, hxm] at hF
 have hO := dist_ex (s := 0) (by omega) hE
 have hD := fun v => distF_le (s := 0) (by omega) hE v
 have hW : pathL c k0 = (backI (arcE c.arcs) (distF (arcE c.arcs) c.codes.length 0) (oa (distF (arcE c.arcs) c.codes.length 0) k0).toNat k0).reverse.map (arAt c.arcs) := rfl
 have hf0 := hfar k0 hk
 have hpl := pathL_len hv k0
 have hel := arcE_len c.arcs
 have hEg : ∀ j (hj : j < c.arcs.length), (arcE c.arcs)[j]'(by rw [hel]; exact hj) = (c.arcs[j].from_.toNat, c.arcs[j].to_.toNat) := fun j hj => arcE_get hj
 obtain ⟨X, hX⟩ : ∃ X, X = exC c := ⟨_, rfl⟩
 simp only [← hX] at hM hxm hxl hMg hF
 obtain ⟨E, hEE⟩ : ∃ E, E = arcE c.arcs := ⟨_, rfl⟩
 simp only [← hEE] at hF hO hD hW hf0 hel hEg hE
 obtain ⟨o, ho⟩ : ∃ o, o = distF E c.codes.length 0 := ⟨_, rfl⟩
 simp only [← ho] at hF hO hD hW hf0
 clear ho hfar
 have hol := hO.len
 have hDk := hD k0
 refine ASpec.of Tryz.func163 rfl rfl fun C hC => ?_
 refine AC.seq (AC.region ?_)
 refine AL.q (by exact h_boxF rfl rfl) rfl ?_
 refine za ?_
 refine AL.nil (th_n (AC.seq (AC.region ?_)))
 refine AL.p (by exact g_load_refN rfl rfl rfl rfl) rfl ?_
 refine AL.q (by exact h_pure en_l5Moves rfl rfl (by repeat (first | exact rfl | exact DLead.same | refine ⟨_, _, rfl, ?_, ?_⟩ | refine ⟨_, rfl, ?_⟩)) hM rfl) rfl ?_
 refine AL.q (by exact h_alloc rfl) rfl ?_
 refine zs ?_
 refine AL.nil (th_n (AC.seq ?_))
 refine AC.weak (t := ⟨61, 300, [(1, aI k0), (2, .d (.ref (sgD c))), (5, .ptr 200 0)], [(200, some (.cells 35 (rgC X)))]⟩) (zw [(200, _)] hC) ?_
 refine AC.region ?_
 refine AL.p (by exact g_load_ptrN rfl rfl rfl rfl rfl) rfl ?_
 refine AL.q (by exact h_pure en_sFar rfl rfl (by repeat (first | exact rfl | exact DLead.same | refine ⟨_, _, rfl, ?_, ?_⟩ | refine ⟨_, rfl, ?_⟩)) hF rfl) rfl ?_
 refine za ?_
 refine AL.nil (th_n (AC.seq (AC.region ?_)))
 refine za ?_
 refine AL.nil (th_n (AC.seq (AC.block ?_)))
 refine AC.loop (ι := Nat × Nat × List Ar) (fun y => ⟨61, 600, [(1, aI y.2.1), (2, .d (.ref (sgD c))), (5, .ptr 200 0), (6, .d (vI o)), (7, .own 100 y.2.2.length)], [(200, some (.cells 35 (rgC X))), (100, some (.arr 75 4 (arL y.2.2)))]⟩) (fun y => oa o y.2.1 = (y.1 : Int) ∧ ((backI E o y.1 y.2.1).reverse.map (arAt c.arcs)) ++ y.2.2 = pathL c k0) (fun y => y.1) (((oa o k0).toNat, k0, [])) ?_ (⟨by dsimp only; omega, by rw [hW, List.append_nil]⟩) ?_
 ·exact (Weak.nilOwn (i := 7) (e := 75) (sz := 4) rfl (by decide)).trans (zw [(200, 200), (100, _)] hC)
 ·rintro ⟨d, q, acc⟩ ⟨hd, hacc⟩
  dsimp only at hd hacc ⊢
  have hqn := hO.lt (v := q) (by omega)
  have hqo := ints_oa (o := o) (v := q) (by omega)
  have hlen := congrArg List.length hacc
  rw [List.length_append, List.length_map, List.length_reverse, backI_len] at hlen
  refine AC.seq (AC.seq (AC.region ?_))
  refine zm ?_
  refine zc ?_
  refine AL.nil (th_n ?_)
  refine AC.condND rfl (fun h0 => ?_) (fun h0 => ?_)
  ·refine AC.skip (th_n (AC.block (AC.seq ?_)))
   have hd0 : d ≠ 0 := by rintro rfl; have hw := hO.wk q 0 hd; cases hw; omega
   obtain ⟨d', rfl⟩ : ∃ d', d = d' + 1 := ⟨d - 1, by omega⟩
   obtain ⟨i, hi, hfi, hbk, hoi, hnr, hbf⟩ := near_find hO (v := q) (d := d') (by omega)
   rw [hbk, List.reverse_cons, List.map_append, List.append_assoc] at hacc
   refine AC.region ?_
   refine zF ?_
   refine zl ?_
   refine AL.p (by exact g_len_view (k := X.moves.length) rfl rfl (mvL_len _)) rfl ?_
   refine zm ?_
   refine AL.nil (th_n (AC.block ?_))
   refine AC.loop (ι := Nat) (fun j => ⟨61, 900, [(1, aI q), (2, .d (.ref (sgD c))), (5, .ptr 200 0), (6, .d (vI o)), (7, .own 100 acc.length), (17, .d (vMvs X.moves)), (18, aI X.moves.length), (19, aI j)], [(200, some (.cells 35 (rgC X))), (100, some (.arr 75 4 (arL acc)))]⟩) (fun j => j ≤ i) (fun j => X.moves.length - j) (0) ?_ (Nat.zero_le _) ?_
   ·exact zw [(200, 200), (100, 100)] hC
   ·intro j hj
    refine AC.seq (AC.region ?_)
    refine zc ?_
    refine AL.nil (th_n (AC.seq ?_))
    refine AC.condD rfl (fun h1 => ?_) (fun h1 => ?_)
    ·refine AC.skip (th_n (AC.seq (AC.block (AC.seq ?_))))
     have hj1 : j < X.moves.length := by omega
     have hj2 : j < c.arcs.length := by omega
     have hget := mvL_get hj1
     rw [hMg j hj2] at hget
     have hpv := hin _ (List.getElem_mem hj2)
     unfold ArIn at hpv
     have hrow := arAt_get hj2
     have heg := hEg j hj2
     have hnj : nearB o q E[j] = decide (c.arcs[j].to_.toNat = q ∧ oa o c.arcs[j].from_.toNat = oa o q - 1) := by rw [heg]; rfl
     have hEj1 : E[j].1 = c.arcs[j].from_.toNat := by rw [heg]
     have hij : nearB o q E[j] = true → j = i := fun h => by rcases Nat.lt_or_ge j i with g | g; (have := hbf j (by omega) g; rw [this] at h; cases h); omega
     have hji : nearB o q E[j] = false → j + 1 ≤ i := fun h => by rcases Nat.lt_or_ge j i with g | g; exact g; (have e : j = i := (by omega); subst e; rw [hnr] at h; cases h)
     obtain ⟨v, hv2⟩ : ∃ v, v = c.arcs[j] := ⟨_, rfl⟩
     rw [← hv2] at hget hpv hnj hEj1
     clear hv2 heg
     obtain ⟨f, hf⟩ : ∃ f, f = v.from_.toNat := ⟨_, rfl⟩
     obtain ⟨t, ht⟩ : ∃ t, t = v.to_.toNat := ⟨_, rfl⟩
     rw [← hf] at hnj hEj1
     rw [← ht] at hnj
     have e1 : v.from_ = (f : Int) := by omega
     have e2 : v.to_ = (t : Int) := by omega
     dsimp only at hget
     rw [e1, e2] at hget
     have hof := ints_oa (o := o) (v := f) (by omega)
     have hDq := hD q
     refine AC.region ?_
     refine AL.p (by exact g_ia_view rfl rfl rfl rfl rfl (by rfl) (by assumption)) rfl ?_
     refine AL.p (by exact g_load_refN rfl rfl rfl rfl) rfl ?_
     refine AL.q (by exact h_alloc rfl) rfl ?_
     refine zs ?_
     refine AL.nil (th_n (AC.seq ?_))
     refine AC.drawn' mixed_ok [[], [0], [], [0,1,2], [0,1,2,3], [0,1,2,3,4], [0,1,2,3,4], [0,1,2,3,4,6], [0,1,2,3,4,5,6,7], [0,1,2,3,4,5,6,7,8], [0,1,2,3,4,5,6,7,8,9], [0,1,2,3,4,5,6,7,8,9,10], [0,1,2,3,4,5,6,7,8,9,10,11], [0,1,2,3,4,5,6,7,8,9,10,11,12], [0,1,2,3,4,5,6,7,8,9,10,11,12], [0,1,2,3,4,5,6,7,8,9,10,11,12,14], [0,1,2,3,4,5,6,7,8,9,10,11,12,13,14,15], [0,1,2,3,4,5,6,7,8,9,10,11,12,13,14,15,16], [0,1,2,3,4,5,6,7,8,9,10,11,12], [0,1,2,3,4,5,6,7,8,9,10,11,12], [0,1,2,3,4,5,6,7,8,9,10,11,12,18,19], [0,1,2,3,4,5,6,7,8,9,10,11,12,18,19,20], [0,1,2,3,4,5,6,7,8,9,10,11,12,18,19,20,21], [0,1,2,3,4,5,6,7,8,9,10,11,12,13,14,15,16,17,18,19,20,21,22], [0,1,2,3,4,5,6,7,8,9,10,11,12,13,14,15,16,17,18,19,20,21,22,23]] (by decide) ?_
     refine DF.op 0 [] 25 rfl rfl rfl (.free rfl (NOp.of (by exact g_fa_ptr rfl rfl rfl rfl rfl))) rfl ?_
     refine DF.op 1 [0] 25 rfl rfl rfl (.free rfl (NOp.of (by exact g_load_ptr rfl rfl rfl rfl rfl))) rfl ?_
     refine DF.op 2 [] 25 rfl rfl rfl (.free rfl (NOp.of (by exact mv1 rfl))) rfl ?_
     refine DF.op 3 [0,1,2] 25 rfl rfl rfl (.free rfl (NOp.of (by exact g_cmp rfl rfl rfl))) rfl ?_
     refine DF.op 4 [0,1,2,3] 25 rfl rfl rfl (.free rfl (NOp.of (by exact mv1 rfl))) rfl ?_
     refine DF.caseD 4 rfl (fun h2 => ?_) (fun h2 => ?_)
     ·refine DF.op 5 [0,1,2,3,4] 25 rfl rfl rfl (.yes rfl rfl rfl rfl (NOp.of (by exact mv1 rfl))) rfl ?_
      refine DF.op 6 [0,1,2,3,4] 25 rfl rfl rfl (.yes rfl rfl rfl rfl (NOp.of (by exact g_fa_ptr rfl rfl rfl rfl rfl))) rfl ?_
      refine DF.op 7 [0,1,2,3,4,6] 25 rfl rfl rfl (.yes rfl rfl rfl rfl (NOp.of (by exact g_load_ptr rfl rfl rfl rfl rfl))) rfl ?_
      refine DF.op 8 [0,1,2,3,4,5,6,7] 25 rfl rfl rfl (.yes rfl rfl rfl rfl (NOp.of (by exact g_ia_view (i := f) rfl rfl rfl rfl rfl rfl hof))) rfl ?_
      refine DF.op 9 (List.range 9) 25 rfl rfl rfl (.yes rfl rfl rfl rfl (NOp.of (by exact g_load_ref rfl rfl rfl))) rfl ?_
      refine DF.op 10 (List.range 10) 25 rfl rfl rfl (.yes rfl rfl rfl rfl (NOp.of (by exact g_cmp rfl rfl rfl))) rfl ?_
      refine DF.op 11 (List.range 11) 25 rfl rfl rfl (.free rfl (NOp.of (by exact g_pickT (r := .d _) rfl rfl))) rfl ?_
      refine DF.op 12 (List.range 12) 25 rfl rfl rfl (.free rfl (NOp.of (by exact mv1 rfl))) rfl ?_
      refine DF.caseD 12 rfl (fun h3 => ?_) (fun h3 => ?_)
      ·refine DF.op 13 (List.range 13) 25 rfl rfl rfl (.yes rfl rfl rfl rfl (NOp.of (by exact mv1 rfl))) rfl ?_
       refine DF.op 14 (List.range 13) 25 rfl rfl rfl (.yes rfl rfl rfl rfl (NOp.of (by exact g_fa_ptr rfl rfl rfl rfl rfl))) rfl ?_
       refine DF.op 15 [0,1,2,3,4,5,6,7,8,9,10,11,12,14] 25 rfl rfl rfl (.yes rfl rfl rfl rfl (NOp.of (by exact g_load_ptr rfl rfl rfl rfl rfl))) rfl ?_
       refine DF.op 16 (List.range 16) 25 rfl rfl rfl (.yes rfl rfl rfl rfl (NOp.of (by exact g_ia_view (i := f) rfl rfl rfl rfl rfl rfl hof))) rfl ?_
       refine DF.op 17 (List.range 17) 25 rfl rfl rfl (.yes rfl rfl rfl rfl (NOp.of (by exact g_load_ref rfl rfl rfl))) rfl ?_
       refine DF.op 18 (List.range 13) 25 rfl rfl rfl (.yes rfl rfl rfl rfl (NOp.of (by exact mv1 rfl))) rfl ?_
       refine DF.op 19 (List.range 13) 25 rfl rfl rfl (.yes rfl rfl rfl rfl (NOp.of (by exact mv1 rfl))) rfl ?_
       refine DF.op 20 [0,1,2,3,4,5,6,7,8,9,10,11,12,18,19] 25 rfl rfl rfl (.yes rfl rfl rfl rfl (NOp.of (by exact g_ia_view (i := q) rfl rfl rfl rfl rfl rfl hqo))) rfl ?_
       refine DF.op 21 [0,1,2,3,4,5,6,7,8,9,10,11,12,18,19,20] 25 rfl rfl rfl (.yes rfl rfl rfl rfl (NOp.of (by exact g_load_ref rfl rfl rfl))) rfl ?_
       refine DF.op 22 [0,1,2,3,4,5,6,7,8,9,10,11,12,18,19,20,21] 25 rfl rfl rfl (.yes rfl rfl rfl rfl (NOp.of (by exact g_arith rfl rfl rfl (by exact wrap_i64 (by omega))))) rfl ?_
       refine DF.op 23 (List.range 23) 25 rfl rfl rfl (.yes rfl rfl rfl rfl (NOp.of (by exact g_cmp rfl rfl rfl))) rfl ?_
       refine DF.op 24 (List.range 24) 25 rfl rfl rfl (.free rfl (NOp.of (by exact g_pickT (r := .d _) rfl rfl))) rfl ?_
       refine DF.fin (ps := [(0,2),(1,2),(2,0),(2,1),(5,6),(5,7),(6,5),(7,5),(13,14),(13,15),(13,18),(13,19),(13,20),(13,21),(13,22),(14,13),(14,18),(14,19),(14,20),(14,21),(14,22),(15,13),(15,18),(15,19),(15,20),(15,21),(15,22),(16,18),(16,19),(16,20),(16,21),(16,22),(17,18),(17,19),(17,20),(17,21),(17,22),(18,13),(18,14),(18,15),(18,16),(18,17),(18,19),(19,13),(19,14),(19,15),(19,16),(19,17),(19,18),(20,13),(20,14),(20,15),(20,16),(20,17),(21,13),(21,14),(21,15),(21,16),(21,17),(22,13),(22,14),(22,15),(22,16),(22,17)]) 25 rfl (by decide +kernel) (by decide +kernel) (by rfl) ?_
       refine th_n ?_
       refine AC.condD rfl (fun h4 => ?_) (fun h4 => ?_)
       ·refine AC.seq (AC.region ?_)
        refine zf ?_
        refine zr ?_
        refine zF ?_
        refine zl ?_
        refine AL.p (by exact g_ia_view (i := j) rfl rfl rfl rfl rfl rfl hrow) rfl ?_
        refine AL.p (by exact g_load_refN rfl rfl rfl rfl) rfl ?_
        refine AL.q (by exact h_lit rfl rfl rfl rfl rfl rfl rfl rfl) rfl ?_
        refine AL.p (by exact mv2 rfl) rfl ?_
        refine AL.q (by exact h_appendAr [arAt c.arcs j] acc (.own rfl rfl rfl) (.own rfl rfl (Nat.le_of_eq (arL_len _).symm) (List.take_of_length_le (Nat.le_of_eq (arL_len _)))) (by rw [List.length_append]; simp only [List.length_cons, List.length_nil]; omega) (by simp)) rfl ?_
        refine AL.p (by exact as2 rfl) rfl ?_
        refine AL.nil (th_n (AC.seq (AC.region ?_)))
        refine zF ?_
        refine zl ?_
        refine za ?_
        refine AL.nil (th_n (AC.exit ?_))
        refine ib_no rfl ?_
        refine th_e (th_e (ib_y (ib_n (th_n ?_))))
        (have hy : nearB o q E[j] = true := (by rw [hnj, decide_eq_true_eq]; exact ⟨by omega, by assumption⟩); have hji2 := hij hy; subst hji2; rw [hEj1] at hoi hacc; simp only [List.map_cons, List.map_nil] at hacc; exact ⟨(d', f, [arAt c.arcs j] ++ acc), ⟨hoi, hacc⟩, by dsimp only; omega, zw [(200, 200), (100, _)] hC⟩)
       ·refine AC.skip (ib_n (th_n (AC.region ?_)))
        refine zA ?_
        refine zm ?_
        refine AL.nil (th_n ?_)
        have hy := hji (by rw [hnj, decide_eq_false_iff_not]; rintro ⟨q1, q2⟩; omega)
        exact ⟨j + 1, hy, by omega, zw [(200, 200), (100, 100)] hC⟩
      ·refine DF.op (ids := []) 13 (List.range 13) 25 rfl rfl rfl (.no rfl rfl rfl rfl rfl rfl) rfl ?_
       refine DF.op (ids := []) 14 (List.range 13) 25 rfl rfl rfl (.no rfl rfl rfl rfl rfl rfl) rfl ?_
       refine DF.op (ids := []) 15 [0,1,2,3,4,5,6,7,8,9,10,11,12,14] 25 rfl rfl rfl (.no rfl rfl rfl rfl rfl rfl) rfl ?_
       refine DF.op (ids := []) 16 (List.range 16) 25 rfl rfl rfl (.no rfl rfl rfl rfl rfl rfl) rfl ?_
       refine DF.op (ids := []) 17 (List.range 17) 25 rfl rfl rfl (.no rfl rfl rfl rfl rfl rfl) rfl ?_
       refine DF.op (ids := []) 18 (List.range 13) 25 rfl rfl rfl (.no rfl rfl rfl rfl rfl rfl) rfl ?_
       refine DF.op (ids := []) 19 (List.range 13) 25 rfl rfl rfl (.no rfl rfl rfl rfl rfl rfl) rfl ?_
       refine DF.op (ids := []) 20 [0,1,2,3,4,5,6,7,8,9,10,11,12,18,19] 25 rfl rfl rfl (.no rfl rfl rfl rfl rfl rfl) rfl ?_
       refine DF.op (ids := []) 21 [0,1,2,3,4,5,6,7,8,9,10,11,12,18,19,20] 25 rfl rfl rfl (.no rfl rfl rfl rfl rfl rfl) rfl ?_
       refine DF.op (ids := []) 22 [0,1,2,3,4,5,6,7,8,9,10,11,12,18,19,20,21] 25 rfl rfl rfl (.no rfl rfl rfl rfl rfl rfl) rfl ?_
       refine DF.op (ids := []) 23 (List.range 23) 25 rfl rfl rfl (.no rfl rfl rfl rfl rfl rfl) rfl ?_
       refine DF.op 24 (List.range 24) 25 rfl rfl rfl (.free rfl (NOp.of (by exact g_pickF (r := .d _) rfl rfl))) rfl ?_
       refine DF.fin (ps := [(0,2),(1,2),(2,0),(2,1),(5,6),(5,7),(6,5),(7,5),(13,14),(13,15),(13,18),(13,19),(13,20),(13,21),(13,22),(14,13),(14,18),(14,19),(14,20),(14,21),(14,22),(15,13),(15,18),(15,19),(15,20),(15,21),(15,22),(16,18),(16,19),(16,20),(16,21),(16,22),(17,18),(17,19),(17,20),(17,21),(17,22),(18,13),(18,14),(18,15),(18,16),(18,17),(18,19),(19,13),(19,14),(19,15),(19,16),(19,17),(19,18),(20,13),(20,14),(20,15),(20,16),(20,17),(21,13),(21,14),(21,15),(21,16),(21,17),(22,13),(22,14),(22,15),(22,16),(22,17)]) 25 rfl (by decide +kernel) (by decide +kernel) (by rfl) ?_
       refine th_n ?_
       refine AC.condF rfl ?_
       refine AC.skip (ib_n (th_n (AC.region ?_)))
       refine zA ?_
       refine zm ?_
       refine AL.nil (th_n ?_)
       have hy := hji (by rw [hnj, decide_eq_false_iff_not]; rintro ⟨q1, q2⟩; omega)
       exact ⟨j + 1, hy, by omega, zw [(200, 200), (100, 100)] hC⟩
     ·refine DF.op (ids := []) 5 [0,1,2,3,4] 25 rfl rfl rfl (.no rfl rfl rfl rfl rfl rfl) rfl ?_
      refine DF.op (ids := []) 6 [0,1,2,3,4] 25 rfl rfl rfl (.no rfl rfl rfl rfl rfl rfl) rfl ?_
      refine DF.op (ids := []) 7 [0,1,2,3,4,6] 25 rfl rfl rfl (.no rfl rfl rfl rfl rfl rfl) rfl ?_
      refine DF.op (ids := []) 8 [0,1,2,3,4,5,6,7] 25 rfl rfl rfl (.no rfl rfl rfl rfl rfl rfl) rfl ?_
      refine DF.op (ids := []) 9 (List.range 9) 25 rfl rfl rfl (.no rfl rfl rfl rfl rfl rfl) rfl ?_
      refine DF.op (ids := []) 10 (List.range 10) 25 rfl rfl rfl (.no rfl rfl rfl rfl rfl rfl) rfl ?_
      refine DF.op 11 (List.range 11) 25 rfl rfl rfl (.free rfl (NOp.of (by exact g_pickF (r := .d _) rfl rfl))) rfl ?_
      refine DF.op 12 (List.range 12) 25 rfl rfl rfl (.free rfl (NOp.of (by exact mv1 rfl))) rfl ?_
      refine DF.op (ids := []) 13 (List.range 13) 25 rfl rfl rfl (.no rfl rfl rfl rfl rfl rfl) rfl ?_
      refine DF.op (ids := []) 14 (List.range 13) 25 rfl rfl rfl (.no rfl rfl rfl rfl rfl rfl) rfl ?_
      refine DF.op (ids := []) 15 [0,1,2,3,4,5,6,7,8,9,10,11,12,14] 25 rfl rfl rfl (.no rfl rfl rfl rfl rfl rfl) rfl ?_
      refine DF.op (ids := []) 16 (List.range 16) 25 rfl rfl rfl (.no rfl rfl rfl rfl rfl rfl) rfl ?_
      refine DF.op (ids := []) 17 (List.range 17) 25 rfl rfl rfl (.no rfl rfl rfl rfl rfl rfl) rfl ?_
      refine DF.op (ids := []) 18 (List.range 13) 25 rfl rfl rfl (.no rfl rfl rfl rfl rfl rfl) rfl ?_
      refine DF.op (ids := []) 19 (List.range 13) 25 rfl rfl rfl (.no rfl rfl rfl rfl rfl rfl) rfl ?_
      refine DF.op (ids := []) 20 [0,1,2,3,4,5,6,7,8,9,10,11,12,18,19] 25 rfl rfl rfl (.no rfl rfl rfl rfl rfl rfl) rfl ?_
      refine DF.op (ids := []) 21 [0,1,2,3,4,5,6,7,8,9,10,11,12,18,19,20] 25 rfl rfl rfl (.no rfl rfl rfl rfl rfl rfl) rfl ?_
      refine DF.op (ids := []) 22 [0,1,2,3,4,5,6,7,8,9,10,11,12,18,19,20,21] 25 rfl rfl rfl (.no rfl rfl rfl rfl rfl rfl) rfl ?_
      refine DF.op (ids := []) 23 (List.range 23) 25 rfl rfl rfl (.no rfl rfl rfl rfl rfl rfl) rfl ?_
      refine DF.op 24 (List.range 24) 25 rfl rfl rfl (.free rfl (NOp.of (by exact g_pickF (r := .d _) rfl rfl))) rfl ?_
      refine DF.fin (ps := [(0,2),(1,2),(2,0),(2,1),(5,6),(5,7),(6,5),(7,5),(13,14),(13,15),(13,18),(13,19),(13,20),(13,21),(13,22),(14,13),(14,18),(14,19),(14,20),(14,21),(14,22),(15,13),(15,18),(15,19),(15,20),(15,21),(15,22),(16,18),(16,19),(16,20),(16,21),(16,22),(17,18),(17,19),(17,20),(17,21),(17,22),(18,13),(18,14),(18,15),(18,16),(18,17),(18,19),(19,13),(19,14),(19,15),(19,16),(19,17),(19,18),(20,13),(20,14),(20,15),(20,16),(20,17),(21,13),(21,14),(21,15),(21,16),(21,17),(22,13),(22,14),(22,15),(22,16),(22,17)]) 25 rfl (by decide +kernel) (by decide +kernel) (by rfl) ?_
      refine th_n ?_
      refine AC.condF rfl ?_
      refine AC.skip (ib_n (th_n (AC.region ?_)))
      refine zA ?_
      refine zm ?_
      refine AL.nil (th_n ?_)
      have hy := hji (by rw [hnj, decide_eq_false_iff_not]; rintro ⟨q1, q2⟩; omega)
      exact ⟨j + 1, hy, by omega, zw [(200, 200), (100, 100)] hC⟩
    ·refine AC.exit (th_e (th_e (ib_y (ib_n (th_n ?_)))))
     (exfalso; omega)
  ·refine AC.exit (th_e (th_e (ib_y (th_n (AC.seq ?_)))))
   have hq0 : q = 0 := by omega
   have hd0 : d = 0 := by have := hO.st; rw [hq0] at hd; omega
   subst hd0
   rw [backI, List.reverse_nil, List.map_nil, List.nil_append] at hacc
   rw [← hacc]
   refine AC.weak (Weak.freeze (i := 7) rfl rfl (Nat.le_of_eq (arL_len _).symm) (List.take_of_length_le (Nat.le_of_eq (arL_len _)))) ?_
   refine AC.region ?_
   refine zm ?_
   refine za ?_
   refine AL.nil (th_n (AC.ret (bq_r ?_)))
   exact ret1 rfl rfl
theorem en_l5Way : Enters Tryz.prog 163 := enters_of Tryz.func163 rfl rfl
theorem stateB_at {c : SG} {k : Int} (h : stateB c k = true) : validC c = true ∧ k.toNat < c.codes.length ∧ k = ((k.toNat : Nat) : Int) := by
 unfold stateB at h
 simp only [Bool.and_eq_true, decide_eq_true_eq] at h
 exact ⟨h.1, by omega, by omega⟩
set_option maxHeartbeats 2000000 in
theorem iShortP_spec (c : SG) (k : Int) (hc : SgL c) : ASpec Tryz.prog 71 [sgA c, aI k] [] (Pure1 (.tup [.d (vArs (pathR c k).1), aT (pathR c k).2])) := by
 have hV := iValidSg_spec c hc
 have hW := within_spec k 0 ((c.codes.length : Int) - 1)
 have hA := fun (h : stateB c k = true) => pathTo_spec c k.toNat (stateB_at h).1 (stateB_at h).2.1
 have hk := fun (h : stateB c k = true) => (stateB_at h).2.2
 have hn := hc.n
 have hR : pathR c k = if stateB c k = true then (pathL c k.toNat, true) else ([], false) := rfl
 have hS : stateB c k = (validC c && (decide (0 ≤ k) && decide (k ≤ (c.codes.length : Int) - 1))) := rfl
 obtain ⟨b, hb⟩ : ∃ b, b = validC c := ⟨_, rfl⟩
 rw [← hb] at hV hS
 obtain ⟨d, hd⟩ : ∃ d, d = (decide (0 ≤ k) && decide (k ≤ (c.codes.length : Int) - 1)) := ⟨_, rfl⟩
 rw [← hd] at hW hS
 obtain ⟨R, hRR⟩ : ∃ R, R = pathR c k := ⟨_, rfl⟩
 rw [← hRR] at hR ⊢
 obtain ⟨q, hq⟩ : ∃ q, q = stateB c k := ⟨_, rfl⟩
 rw [← hq] at hA hk hR hS
 clear hb hd hRR hq
 refine ASpec.of Tryz.func71 rfl rfl fun C hC => ?_
 refine AC.seq (AC.region ?_)
 refine AL.q (by exact h_boxF rfl rfl) rfl ?_
 refine za ?_
 refine za ?_
 refine AL.nil (th_n (AC.seq (AC.seq (AC.region ?_))))
 refine AL.p (by exact g_load_refN rfl rfl rfl rfl) rfl ?_
 refine AL.q (by exact h_pure en_iValidSg rfl rfl (by repeat (first | exact rfl | exact DLead.same | refine ⟨_, _, rfl, ?_, ?_⟩ | refine ⟨_, rfl, ?_⟩)) hV rfl) rfl ?_
 refine AL.p (by exact g_not rfl) rfl ?_
 refine zm ?_
 refine AL.caseGB rfl rfl (fun h0 => ?_) (fun h0 => ?_)
 ·refine zn ?_
  refine zn ?_
  refine zn ?_
  refine zn ?_
  refine zn ?_
  refine zn ?_
  refine zn ?_
  refine zQ ?_
  refine AL.nil (th_n ?_)
  refine AC.condT rfl ?_
  refine AC.seq (AC.region ?_)
  refine za ?_
  refine za ?_
  refine AL.nil (th_n (AC.ret (th_r (bq_r ?_))))
  have e : R = ([], false) := hR.trans (if_neg (by clear hA hk; simp_all))
  exact ret0 rfl (by rw [e]; show AV.leads _ (.tup [.d (vArs []), aT false]) _; repeat (first | exact DLead.same | exact DLead.nil | exact rfl | refine ⟨_, rfl, ?_⟩ | refine ⟨_, _, rfl, ?_, ?_⟩))
 ·refine zy ?_
  refine zm ?_
  refine zy ?_
  refine zf ?_
  refine zy ?_
  refine zr ?_
  refine zy ?_
  refine AL.p (by exact g_len_view (k := c.codes.length) rfl rfl (tsX_len _)) rfl ?_
  refine zy ?_
  refine zA ?_
  refine zy ?_
  refine AL.q (by exact h_pure en_within rfl rfl (by repeat (first | exact rfl | exact DLead.same | refine ⟨_, _, rfl, ?_, ?_⟩)) hW rfl) rfl ?_
  refine zy ?_
  refine AL.p (by exact g_not rfl) rfl ?_
  refine zP ?_
  refine AL.nil (th_n ?_)
  refine AC.condB rfl (fun h1 => ?_) (fun h1 => ?_)
  ·refine AC.seq (AC.region ?_)
   refine za ?_
   refine za ?_
   refine AL.nil (th_n (AC.ret (th_r (bq_r ?_))))
   have e : R = ([], false) := hR.trans (if_neg (by clear hA hk; simp_all))
   exact ret0 rfl (by rw [e]; show AV.leads _ (.tup [.d (vArs []), aT false]) _; repeat (first | exact DLead.same | exact DLead.nil | exact rfl | refine ⟨_, rfl, ?_⟩ | refine ⟨_, _, rfl, ?_, ?_⟩))
  ·refine AC.skip (th_n (AC.seq ?_))
   have hq1 : q = true := by clear hA hk; simp_all
   have hA1 := hA hq1
   rw [← hk hq1] at hA1
   have e : R = (pathL c k.toNat, true) := hR.trans (if_pos hq1)
   clear hA hk hR
   refine AC.region ?_
   refine AL.p (by exact g_load_refN rfl rfl rfl rfl) rfl ?_
   refine zm ?_
   refine AL.q (by exact h_pure en_pathTo rfl rfl (by repeat (first | exact rfl | exact DLead.same | refine ⟨_, _, rfl, ?_, ?_⟩ | refine ⟨_, rfl, ?_⟩)) hA1 rfl) rfl ?_
   refine za ?_
   refine za ?_
   refine AL.nil (th_n (AC.ret (bq_r ?_)))
   exact ret0 rfl (by rw [e]; show AV.leads _ (.tup [.d (vArs (pathL c k.toNat)), aT true]) _; repeat (first | exact DLead.same | exact rfl | refine ⟨_, rfl, ?_⟩ | refine ⟨_, _, rfl, ?_, ?_⟩))
theorem en_iShortP : Enters Tryz.prog 71 := enters_of Tryz.func71 rfl rfl
set_option maxHeartbeats 2000000 in
theorem sShortP_spec (c : SG) (k : Int) (hc : SgL c) : ASpec Tryz.prog 72 [sgA c, aI k] [] (Pure1 (.tup [.d (vArs (pathR c k).1), aT (pathR c k).2])) := by
 have hV := l5State_spec c k hc
 have hA := fun (h : stateB c k = true) => l5Way_spec c k.toNat (stateB_at h).1 (stateB_at h).2.1
 have hk := fun (h : stateB c k = true) => (stateB_at h).2.2
 have hR : pathR c k = if stateB c k = true then (pathL c k.toNat, true) else ([], false) := rfl
 obtain ⟨R, hRR⟩ : ∃ R, R = pathR c k := ⟨_, rfl⟩
 rw [← hRR] at hR ⊢
 obtain ⟨q, hq⟩ : ∃ q, q = stateB c k := ⟨_, rfl⟩
 rw [← hq] at hA hk hR hV
 clear hRR hq
 refine ASpec.of Tryz.func72 rfl rfl fun C hC => ?_
 refine AC.seq (AC.region ?_)
 refine AL.q (by exact h_boxF rfl rfl) rfl ?_
 refine za ?_
 refine za ?_
 refine AL.nil (th_n (AC.seq (AC.seq (AC.region ?_))))
 refine AL.p (by exact g_load_refN rfl rfl rfl rfl) rfl ?_
 refine zm ?_
 refine AL.q (by exact h_pure en_l5State rfl rfl (by repeat (first | exact rfl | exact DLead.same | refine ⟨_, _, rfl, ?_, ?_⟩ | refine ⟨_, rfl, ?_⟩)) hV rfl) rfl ?_
 refine AL.p (by exact g_not rfl) rfl ?_
 refine AL.nil (th_n ?_)
 refine AC.condB rfl (fun h0 => ?_) (fun h0 => ?_)
 ·refine AC.seq (AC.region ?_)
  refine za ?_
  refine za ?_
  refine AL.nil (th_n (AC.ret (th_r (bq_r ?_))))
  have e : R = ([], false) := hR.trans (if_neg (by clear hA hk; simp_all))
  exact ret0 rfl (by rw [e]; show AV.leads _ (.tup [.d (vArs []), aT false]) _; repeat (first | exact DLead.same | exact DLead.nil | exact rfl | refine ⟨_, rfl, ?_⟩ | refine ⟨_, _, rfl, ?_, ?_⟩))
 ·refine AC.skip (th_n (AC.seq ?_))
  have hq1 : q = true := by clear hA hk; simp_all
  have hA1 := hA hq1
  rw [← hk hq1] at hA1
  have e : R = (pathL c k.toNat, true) := hR.trans (if_pos hq1)
  clear hA hk hR
  refine AC.region ?_
  refine AL.p (by exact g_load_refN rfl rfl rfl rfl) rfl ?_
  refine zm ?_
  refine AL.q (by exact h_pure en_l5Way rfl rfl (by repeat (first | exact rfl | exact DLead.same | refine ⟨_, _, rfl, ?_, ?_⟩ | refine ⟨_, rfl, ?_⟩)) hA1 rfl) rfl ?_
  refine za ?_
  refine za ?_
  refine AL.nil (th_n (AC.ret (bq_r ?_)))
  exact ret0 rfl (by rw [e]; show AV.leads _ (.tup [.d (vArs (pathL c k.toNat)), aT true]) _; repeat (first | exact DLead.same | exact rfl | refine ⟨_, rfl, ?_⟩ | refine ⟨_, _, rfl, ?_, ?_⟩))
theorem en_sShortP : Enters Tryz.prog 72 := enters_of Tryz.func72 rfl rfl
theorem en_sJoin : Enters Tryz.prog 167 := enters_of Tryz.func167 rfl rfl
theorem sJoinL_spec (l : List (List UInt8)) (sep : List UInt8) (h0 : l ≠ []) (hl : l.length ≤ 1000000) (hb : (Lib.join l sep).length ≤ 70368744177664) : ASpec Tryz.prog 167 [.d (.view 9 1 (l.map fun x => [dS (bstr x)])), aS (bstr sep)] [] (Pure1 (aS (bstr (Lib.join l sep)))) := by
 have e1 : (l.map fun x => [dS (bstr x)]) = (l.map bstr).map fun x => [dS x] := by simp
 have e2 : ((l.map bstr).map (·.data.toList)) = l := by { rw [List.map_map]; have : ((fun x : ByteArray => x.data.toList) ∘ bstr) = id := funext fun x => rfl; rw [this, List.map_id] }
 rw [e1]
 refine ASpec.ofJoin (by cases l with | nil => exact absurd rfl h0 | cons _ _ => simp) (by simp; omega) (by rw [bstr_size]; exact hb) fun bk o c w hc hb2 hN hcap => ?_
 have := Tryz.strings_Join bk o c (l.map bstr) (bstr sep) w hc hb2 hN hcap (by rw [e2]; show (Lib.join l sep).length ≤ _; omega)
 rw [e2] at this
 exact this
theorem sJoin0_spec (sep : List UInt8) : ASpec Tryz.prog 167 [.d (.view 9 1 []), aS (bstr sep)] [] (Pure1 (aS (bstr []))) := by
 intro w m Fin vs hfin hn ha hch hinj hm
 have hv0 := ha 0 _ rfl
 have hv1 := ha 1 _ rfl
 have hv : vs = #[vs.getD 0 undef, .string (bstr sep)] := by
  apply Array.ext
  ·rw [hn]; rfl
  ·intro i hi1 hi2
   match i with
   | 0 => simp [Array.getD_eq_getD_getElem?, Array.getElem?_eq_getElem hi1]
   | 1 => have := hv1.val_eq.1; rw [Array.getD_eq_getD_getElem?, Array.getElem?_eq_getElem hi1] at this; simpa using this
   | i + 2 => simp at hi2; omega
 generalize vs.getD 0 undef = v0 at hv0 hv
 subst hv
 have hs : ∃ a c, v0 = .slice a 0 c := by
  cases hv0 with
  | d hd => cases hd with
   | nil => exact ⟨_, _, rfl⟩
   | empty => exact ⟨_, _, rfl⟩
   | view => exact ⟨_, _, rfl⟩
 obtain ⟨a, c, rfl⟩ := hs
 refine (Tryz.strings_Join_none a c (bstr sep) w).mono ?_
 rintro e w' ⟨rfl, rfl⟩
 refine ⟨_, _, [], m, Fin, rfl, ⟨rfl, rfl⟩, fun _ _ _ h => h, fun id hid => hm id (by simp only [List.length_nil] at hid ⊢; omega), fun k => ?_, ⟨rfl, rfl, rfl, Nat.le_refl _, fun _ _ _ => rfl⟩, .d (.val (by show (0 : Nat) ≤ maxLen; simp only [maxLen]; omega)), fun id c hc => by simp [getL] at hc, fun id id' c c' p p' b hc => by simp [getL] at hc⟩
 constructor
 ·intro hk
  exact ⟨.inl hk, (hfin k hk).1, fun id c p hc => by simp [getL] at hc⟩
 ·rintro ⟨h | ⟨id, c, p, hc, _⟩ | h, hlt, _⟩
  ·exact h
  ·simp [getL] at hc
  ·omega
theorem sJoinA_spec (l : List (List UInt8)) (sep : List UInt8) (hl : l.length ≤ 1000000) (hb : (Lib.join l sep).length ≤ 70368744177664) : ASpec Tryz.prog 167 [.d (.view 9 1 (l.map fun x => [dS (bstr x)])), aS (bstr sep)] [] (Pure1 (aS (bstr (Lib.join l sep)))) := by
 cases l with
 | nil => exact sJoin0_spec sep
 | cons x l => exact sJoinL_spec _ sep (by simp) hl hb
theorem join_succ {l : List (List UInt8)} {sep : List UInt8} {k : Nat} (hk : k < l.length) : Lib.join (l.take (k + 1)) sep = Lib.join (l.take k) sep ++ (if 0 < k then sep else []) ++ l[k] := by
 cases l with
 | nil => simp at hk
 | cons x r =>
  rcases Nat.eq_zero_or_pos k with rfl | h0
  ·simp [Lib.join_one, Lib.join_nil]
  ·obtain ⟨q, rfl⟩ : ∃ q, k = q + 1 := ⟨k - 1, by omega⟩
   have hq : q < r.length := by simpa using hk
   rw [if_pos h0, List.take_succ_cons, List.take_succ_cons, Lib.join_cons, Lib.join_cons, Lib.joinTail_take_succ _ _ _ _ (List.getElem?_eq_getElem hq)]
   simp [List.append_assoc]
theorem join_ne {l : List (List UInt8)} {sep : List UInt8} (h : ∀ x, x ∈ l → 1 ≤ x.length) : Lib.join l sep = [] ↔ l = [] := by
 cases l with
 | nil => simp [Lib.join_nil]
 | cons x l =>
  have hx := h x (by simp)
  rw [Lib.join_cons]
  constructor
  ·intro e
   have := congrArg List.length e
   simp only [List.length_append, List.length_nil] at this
   omega
  ·intro e; cases e
theorem join_len3 {sep : List UInt8} {c : Nat} (hs : sep.length ≤ 3) : ∀ {l : List (List UInt8)} (_ : ∀ x, x ∈ l → x.length ≤ c) (k : Nat), k ≤ l.length → (Lib.join (l.take k) sep).length ≤ (c + 3) * k
 | l, h, 0, _ => by simp [Lib.join_nil]
 | l, h, k + 1, hk => by
  have ih := join_len3 hs h k (by omega)
  have hx := h _ (List.getElem_mem (show k < l.length by omega))
  rw [join_succ (by omega), List.length_append, List.length_append, Nat.mul_succ]
  have : (if 0 < k then sep else []).length ≤ 3 := by { split; exact hs; simp }
  omega
theorem sJoinV_spec (l : List (List UInt8)) (sep : List UInt8) (hl : l.length ≤ 1000000) (hb : (Lib.join l sep).length ≤ 70368744177664) : ASpec Tryz.prog 167 [.d (.view 9 1 (tsX l)), aS (bstr sep)] [] (Pure1 (aS (bstr (Lib.join l sep)))) := sJoinA_spec l sep hl hb
structure SigOk (s : List Sig) : Prop where
 l : 1 ≤ s.length ∧ s.length ≤ 8
 n : ∀ x, x ∈ s → 1 ≤ x.name.length ∧ x.name.length ≤ 6
theorem SigOk.of {s : List Sig} (h : sigsB s = true) : SigOk s := by
 unfold sigsB at h
 rw [Bool.and_eq_true] at h
 have hl := inI_iff.1 h.2
 refine ⟨by omega, fun x hx => ?_⟩
 obtain ⟨j, hj, rfl⟩ := List.getElem_of_mem hx
 have := allK_iff.1 h.1 j hj
 unfold sigK at this
 rw [sAt_nat hj, Bool.and_eq_true] at this
 have h1 := this.1
 unfold nameB at h1
 rw [Bool.and_eq_true] at h1
 have := inI_iff.1 h1.2
 omega
def labT (s : List Sig) (x : Lab) : List UInt8 := if x.sig < 0 then [126] else (sAt s x.sig.toNat).name ++ [bif x.up then 43 else 45]
theorem labT_len {s : List Sig} (hn : ∀ t, t ∈ s → t.name.length ≤ 1000) (x : Lab) : (labT s x).length ≤ 1001 := by
 unfold labT
 split
 ·simp
 ·rw [List.length_append]
  have : (sAt s x.sig.toNat).name.length ≤ 1000 := by
   unfold sAt
   rw [List.getD_eq_getElem?_getD]
   cases e : s[x.sig.toNat]? with
   | none => simp
   | some y => exact hn y (List.mem_of_getElem? e)
  simp only [List.length_cons, List.length_nil]; omega
set_option maxHeartbeats 2000000 in
theorem edgeTextG_spec (s : List Sig) (x : Lab) (hx : x.sig < s.length) (hn : ∀ t, t ∈ s → t.name.length ≤ 1000) : ASpec Tryz.prog 166 [.d (vSigs s), labA x] [] (Pure1 (aS (bstr (labT s x)))) := by
 have hI : ¬ x.sig < 0 → x.sig = ((x.sig.toNat : Nat) : Int) := by omega
 have hget : ¬ x.sig < 0 → (sigsL s)[x.sig.toNat]? = some (sigD (sAt s x.sig.toNat)) := by intro h; have h2 : x.sig.toNat < s.length := by { omega }; rw [sAt_nat h2]; exact sigsL_get h2
 have hnl : ¬ x.sig < 0 → (sAt s x.sig.toNat).name.length ≤ 1000 := by intro h; have h2 : x.sig.toNat < s.length := by { omega }; rw [sAt_nat h2]; exact hn _ (List.getElem_mem h2)
 have hT : labT s x = if x.sig < 0 then [126] else (sAt s x.sig.toNat).name ++ [bif x.up then 43 else 45] := rfl
 refine ASpec.of Tryz.func166 rfl rfl fun C hC => ?_
 refine AC.seq (AC.region ?_)
 refine AL.q (by exact h_boxF rfl rfl) rfl ?_
 refine za ?_
 refine AL.nil (th_n (AC.seq (AC.block (AC.seq (AC.region ?_)))))
 refine zf ?_
 refine zr ?_
 refine zc ?_
 refine za ?_
 refine AL.nil (th_n ?_)
 refine AC.condD rfl (fun h0 => ?_) (fun h0 => ?_)
 ·refine AC.seq (AC.region ?_)
  refine za ?_
  refine AL.nil (th_n (AC.ret (ib_r (th_r (bq_r ?_)))))
  exact ret1 rfl (by rw [hT, if_pos h0]; rfl)
 ·refine AC.seq (AC.region ?_)
  refine zf ?_
  refine zr ?_
  refine za ?_
  refine AL.nil (th_n ?_)
  refine AC.condB rfl (fun h1 => ?_) (fun h1 => ?_)
  ·refine AC.seq ?_
   have hI1 := hI h0
   have hget1 := hget h0
   have hnl1 := hnl h0
   refine AC.region ?_
   refine zm ?_
   refine zf ?_
   refine zr ?_
   refine AL.p (by exact g_ia_view rfl rfl rfl rfl rfl (by assumption) (by assumption)) rfl ?_
   refine zf ?_
   refine zr ?_
   refine AL.p (by exact g_saddB (a := (sAt s x.sig.toNat).name) (b := [43]) rfl rfl (by simp only [List.length_cons, List.length_nil]; omega)) rfl ?_
   refine za ?_
   refine AL.nil (th_n (AC.ret (ib_r (th_r (bq_r ?_)))))
   exact ret1 rfl (by rw [hT, if_neg h0, h1]; rfl)
  ·refine AC.skip (ib_n (th_n (AC.seq ?_)))
   have hI1 := hI h0
   have hget1 := hget h0
   have hnl1 := hnl h0
   refine AC.region ?_
   refine zm ?_
   refine zf ?_
   refine zr ?_
   refine AL.p (by exact g_ia_view rfl rfl rfl rfl rfl (by assumption) (by assumption)) rfl ?_
   refine zf ?_
   refine zr ?_
   refine AL.p (by exact g_saddB (a := (sAt s x.sig.toNat).name) (b := [45]) rfl rfl (by simp only [List.length_cons, List.length_nil]; omega)) rfl ?_
   refine za ?_
   refine AL.nil (th_n (AC.ret (bq_r ?_)))
   exact ret1 rfl (by rw [hT, if_neg h0, h1]; rfl)
theorem en_edgeText : Enters Tryz.prog 166 := enters_of Tryz.func166 rfl rfl
set_option maxHeartbeats 2000000 in
theorem pSameArcs_spec (a b : List Ar) (ha : a.length ≤ 1000000) (hb : b.length ≤ 1000000) : ASpec Tryz.prog 73 [.d (vArs a), .d (vArs b)] [] (Pure1 (aT (eqL eqArB a b))) := by
 have hL := eqL_len (f := eqArB) (a := a) (b := b)
 have hNo := fun k => eqL_no (f := eqArB) (a := a) (b := b) (k := k)
 have hYes := eqL_yes (f := eqArB) (a := a) (b := b)
 obtain ⟨G, hG⟩ : ∃ G, G = eqL eqArB a b := ⟨_, rfl⟩
 rw [← hG] at hL hNo hYes ⊢
 clear hG
 refine ASpec.of Tryz.func73 rfl rfl fun C hC => ?_
 refine AC.seq (AC.region ?_)
 refine za ?_
 refine AL.nil (th_n (AC.seq (AC.seq (AC.region ?_))))
 refine zm ?_
 refine AL.p (by exact g_len_view (k := a.length) rfl rfl (arL_len _)) rfl ?_
 refine zm ?_
 refine AL.p (by exact g_len_view (k := b.length) rfl rfl (arL_len _)) rfl ?_
 refine zc ?_
 refine AL.nil (th_n ?_)
 refine AC.condND rfl (fun h0 => ?_) (fun h0 => ?_)
 ·refine AC.seq (AC.region ?_)
  refine za ?_
  refine AL.nil (th_n (AC.ret (th_r (bq_r ?_))))
  have e := hL (by omega)
  exact ret1 rfl (by rw [e])
 ·refine AC.skip (th_n (AC.seq (AC.seq ?_)))
  have hl : a.length = b.length := by omega
  refine AC.region ?_
  refine zm ?_
  refine AL.p (by exact g_len_view (k := a.length) rfl rfl (arL_len _)) rfl ?_
  refine zm ?_
  refine AL.nil (th_n (AC.block ?_))
  refine AC.loop (ι := Nat) (fun k => ⟨26, 100, [(0, .d (vArs a)), (1, .d (vArs b)), (12, aI a.length), (13, aI k)], []⟩) (fun k => k ≤ a.length ∧ ∀ j (hj : j < a.length) (hj2 : j < b.length), j < k → eqArB a[j] b[j] = true) (fun k => a.length - k) (0) ?_ (⟨Nat.zero_le _, fun j _ _ hj => by omega⟩) ?_
  ·refine Weak.ren _ [] hC rfl ?_ ?_ rfl rfl rfl <;> repeat (first | exact True.intro | refine And.intro ?_ ?_ | exact DLead.same)
  ·intro k ⟨hk, hall⟩
   refine AC.seq (AC.region ?_)
   refine zc ?_
   refine AL.nil (th_n (AC.seq ?_))
   refine AC.condD rfl (fun h1 => ?_) (fun h1 => ?_)
   ·refine AC.skip (th_n (AC.seq (AC.block (AC.seq ?_))))
    have hk1 : k < a.length := by omega
    have hk2 : k < b.length := by omega
    have hget := arL_get hk1
    have hget2 := arL_get hk2
    have hNk := hNo k hk1 hk2
    have hall2 : eqArB a[k] b[k] = true → ∀ j (hj : j < a.length) (hj2 : j < b.length), j < k + 1 → eqArB a[j] b[j] = true := fun h j hj hj2 hj3 => by rcases Nat.lt_succ_iff_lt_or_eq.1 hj3 with q | rfl; exact hall j hj hj2 q; exact h
    obtain ⟨x, hx⟩ : ∃ x, x = a[k] := ⟨_, rfl⟩
    obtain ⟨y, hy⟩ : ∃ y, y = b[k] := ⟨_, rfl⟩
    rw [← hx, ← hy] at hNk hall2
    rw [← hx] at hget
    rw [← hy] at hget2
    refine AC.region ?_
    refine zm ?_
    refine za ?_
    refine AL.nil (th_n (AC.seq ?_))
    refine AC.drawn' mixed_ok [[], [], [0,1], [0,1,2], [], [], [4,5], [4,5,6], [0,1,2,3,4,5,6,7]] (by decide) ?_
    refine DF.op 0 [] 9 rfl rfl rfl (.free rfl (NOp.of (by exact mv1 rfl))) rfl ?_
    refine DF.op 1 [] 9 rfl rfl rfl (.free rfl (NOp.of (by exact mv1 rfl))) rfl ?_
    refine DF.op 2 [0,1] 9 rfl rfl rfl (.free rfl (NOp.of (by exact g_ia_view (i := k) rfl rfl rfl rfl rfl rfl hget))) rfl ?_
    refine DF.op 3 [0,1,2] 9 rfl rfl rfl (.free rfl (NOp.of (by exact g_load_refN rfl rfl rfl rfl))) rfl ?_
    refine DF.op 4 [] 9 rfl rfl rfl (.free rfl (NOp.of (by exact mv1 rfl))) rfl ?_
    refine DF.op 5 [] 9 rfl rfl rfl (.free rfl (NOp.of (by exact mv1 rfl))) rfl ?_
    refine DF.op 6 [4,5] 9 rfl rfl rfl (.free rfl (NOp.of (by exact g_ia_view (i := k) rfl rfl rfl rfl rfl rfl hget2))) rfl ?_
    refine DF.op 7 [4,5,6] 9 rfl rfl rfl (.free rfl (NOp.of (by exact g_load_refN rfl rfl rfl rfl))) rfl ?_
    refine DF.op 8 [0,1,2,3,4,5,6,7] 9 rfl rfl rfl (.free rfl (NOp.of (by exact g_eq4 (r := !decide (x.from_ = y.from_ ∧ x.sig = y.sig ∧ x.up = y.up ∧ x.to_ = y.to_)) (by decide +kernel) rfl rfl rfl))) rfl ?_
    refine DF.fin (ps := [(0,1),(0,4),(0,5),(0,6),(0,7),(1,0),(1,4),(1,5),(1,6),(1,7),(2,4),(2,5),(2,6),(2,7),(3,4),(3,5),(3,6),(3,7),(4,0),(4,1),(4,2),(4,3),(4,5),(5,0),(5,1),(5,2),(5,3),(5,4),(6,0),(6,1),(6,2),(6,3),(7,0),(7,1),(7,2),(7,3)]) 9 rfl (by decide +kernel) (by decide +kernel) (by rfl) ?_
    refine th_n ?_
    refine AC.condND rfl (fun h2 => ?_) (fun h2 => ?_)
    ·refine AC.seq (AC.region ?_)
     refine za ?_
     refine AL.nil (th_n (AC.ret (ib_r (th_r (th_r (ib_r (th_r (bq_r ?_))))))))
     have e := hNk (by show decide _ = false; exact decide_eq_false h2)
     exact ret1 rfl (by rw [e])
    ·refine AC.skip (ib_n (th_n (AC.region ?_)))
     refine zA ?_
     refine zm ?_
     refine AL.nil (th_n ?_)
     exact ⟨k + 1, ⟨by omega, hall2 (by show decide _ = true; exact decide_eq_true h2)⟩, by omega, Weak.ren _ [] hC rfl (by repeat (first | exact True.intro | refine And.intro ?_ ?_ | exact DLead.same)) (by repeat (exact True.intro)) rfl rfl rfl⟩
   ·refine AC.exit (th_e (th_e (ib_y (th_n (AC.seq (AC.region ?_))))))
    refine za ?_
    refine AL.nil (th_n (AC.ret (bq_r ?_)))
    have e := hYes hl (fun j hj hj2 => hall j hj hj2 (by omega))
    exact ret1 rfl (by rw [e])
theorem en_pSameArcs : Enters Tryz.prog 73 := enters_of Tryz.func73 rfl rfl
theorem eqAL_self (l : List Ar) : eqL eqArB l l = true := eqL_yes rfl fun j _ _ => decide_eq_true ⟨rfl, rfl, rfl, rfl⟩
set_option maxHeartbeats 2000000 in
theorem ixAr_spec (l : List Ar) (a : Ar) (hl : l.length ≤ 1000000) : ASpec Tryz.prog 221 [.d (vArs l), arA a] [] (Pure1 (aI (findI (eqArB a) l))) := by
 refine ASpec.of Tryz.func221 rfl rfl fun C hC => ?_
 refine AC.seq (AC.region ?_)
 refine AL.q (by exact h_boxF rfl rfl) rfl ?_
 refine za ?_
 refine AL.nil (th_n (AC.seq (AC.seq (AC.region ?_))))
 refine zm ?_
 refine AL.p (by exact g_len_view (k := l.length) rfl rfl (arL_len _)) rfl ?_
 refine zm ?_
 refine AL.nil (th_n (AC.block ?_))
 refine AC.loop (ι := Nat) (fun k => ⟨19, 100, [(0, .d (vArs l)), (3, .d (.ref (arD a))), (7, aI l.length), (8, aI k)], []⟩) (fun k => k ≤ l.length ∧ ∀ j (hj : j < l.length), j < k → eqArB a l[j] = false) (fun k => l.length - k) (0) ?_ (⟨Nat.zero_le _, fun j _ hj => by omega⟩) ?_
 ·exact Weak.ren _ [] hC rfl (by repeat (first | exact True.intro | refine And.intro ?_ ?_ | exact DLead.same)) (by repeat (exact True.intro)) rfl rfl rfl
 ·intro k ⟨hk, hall⟩
  refine AC.seq (AC.region ?_)
  refine zc ?_
  refine AL.nil (th_n (AC.seq ?_))
  refine AC.condD rfl (fun h0 => ?_) (fun h0 => ?_)
  ·refine AC.skip (th_n (AC.seq (AC.block (AC.seq ?_))))
   have hk1 : k < l.length := by omega
   have hget := arL_get hk1
   have hfi := fun h => findI_at (p := eqArB a) hk1 h (fun j hj => hall j (by omega) hj)
   have hnx : eqArB a l[k] = false → ∀ j (hj : j < l.length), j < k + 1 → eqArB a l[j] = false := fun q j hj hj2 => by rcases Nat.lt_succ_iff_lt_or_eq.1 hj2 with h | rfl; exact hall j hj h; exact q
   obtain ⟨y, hy⟩ : ∃ y, y = l[k] := ⟨_, rfl⟩
   rw [← hy] at hget hfi hnx
   refine AC.region ?_
   refine zm ?_
   refine za ?_
   refine AL.nil (th_n (AC.seq ?_))
   refine AC.drawn' mixed_ok [[], [], [], [1,2], [1,2,3], [0,1,2,3,4]] (by decide) ?_
   refine DF.op 0 [] 6 rfl rfl rfl (.free rfl (NOp.of (by exact g_load_refN rfl rfl rfl rfl))) rfl ?_
   refine DF.op 1 [] 6 rfl rfl rfl (.free rfl (NOp.of (by exact mv1 rfl))) rfl ?_
   refine DF.op 2 [] 6 rfl rfl rfl (.free rfl (NOp.of (by exact mv1 rfl))) rfl ?_
   refine DF.op 3 [1,2] 6 rfl rfl rfl (.free rfl (NOp.of (by exact g_ia_view (i := k) rfl rfl rfl rfl rfl rfl hget))) rfl ?_
   refine DF.op 4 [1,2,3] 6 rfl rfl rfl (.free rfl (NOp.of (by exact g_load_refN rfl rfl rfl rfl))) rfl ?_
   refine DF.op 5 [0,1,2,3,4] 6 rfl rfl rfl (.free rfl (NOp.of (by exact g_eq4 (r := decide (a.from_ = y.from_ ∧ a.sig = y.sig ∧ a.up = y.up ∧ a.to_ = y.to_)) (by decide +kernel) rfl rfl rfl))) rfl ?_
   refine DF.fin (ps := [(0,1),(0,2),(0,3),(0,4),(1,0),(1,2),(2,0),(2,1),(3,0),(4,0)]) 6 rfl (by decide +kernel) (by decide +kernel) (by rfl) ?_
   refine th_n ?_
   refine AC.condD rfl (fun h1 => ?_) (fun h1 => ?_)
   ·refine AC.seq (AC.region ?_)
    refine zm ?_
    refine za ?_
    refine AL.nil (th_n (AC.ret (ib_r (th_r (th_r (ib_r (th_r (bq_r ?_))))))))
    exact ret1 rfl (by rw [hfi (decide_eq_true (by assumption))])
   ·refine AC.skip (ib_n (th_n (AC.region ?_)))
    refine zA ?_
    refine zm ?_
    refine AL.nil (th_n ?_)
    exact ⟨k + 1, ⟨by omega, hnx (decide_eq_false (by assumption))⟩, by omega, Weak.ren _ [] hC rfl (by repeat (first | exact True.intro | refine And.intro ?_ ?_ | exact DLead.same)) (by repeat (exact True.intro)) rfl rfl rfl⟩
  ·refine AC.exit (th_e (th_e (ib_y (th_n (AC.seq (AC.region ?_))))))
   refine za ?_
   refine AL.nil (th_n (AC.ret (bq_r ?_)))
   exact ret1 rfl (by rw [findI_none (fun j hj => hall j hj (by omega))])
theorem en_ixAr : Enters Tryz.prog 221 := enters_of Tryz.func221 rfl rfl
theorem conAr_spec (l : List Ar) (a : Ar) (hl : l.length ≤ 1000000) : ASpec Tryz.prog 165 [.d (vArs l), arA a] [] (Pure1 (aT (l.any (eqArB a)))) := by
 have hI := ixAr_spec l a hl
 refine ASpec.of Tryz.func165 rfl rfl fun C hC => ?_
 refine AC.seq (AC.region ?_)
 refine AL.q (by exact h_boxF rfl rfl) rfl ?_
 refine za ?_
 refine AL.nil (th_n (AC.seq (AC.region ?_)))
 refine zm ?_
 refine AL.p (by exact g_load_refN rfl rfl rfl rfl) rfl ?_
 refine AL.q (by exact h_pure en_ixAr rfl rfl (by repeat (first | exact rfl | exact DLead.same | refine ⟨_, _, rfl, ?_, ?_⟩ | refine ⟨_, rfl, ?_⟩)) hI rfl) rfl ?_
 refine zc ?_
 refine za ?_
 refine AL.nil (th_n (AC.ret (bq_r ?_)))
 exact ret1 rfl (by rw [findI_any])
theorem en_conAr : Enters Tryz.prog 165 := enters_of Tryz.func165 rfl rfl
theorem eqAr_iff {a b : Ar} : eqArB a b = true ↔ a = b := by
 unfold eqArB
 rw [decide_eq_true_eq]
 constructor
 ·rintro ⟨h1, h2, h3, h4⟩; cases a; cases b; simp_all
 ·rintro rfl; exact ⟨rfl, rfl, rfl, rfl⟩
theorem conAr_iff {l : List Ar} {a : Ar} : l.any (eqArB a) = true ↔ a ∈ l := by
 rw [List.any_eq_true]
 constructor
 ·rintro ⟨x, hx, h⟩; rw [eqAr_iff.1 h]; exact hx
 ·exact fun h => ⟨a, h, eqAr_iff.2 rfl⟩
def wrdA (s : List Sig) (a : Ar) : List UInt8 := labT s ⟨a.sig, a.up⟩
def trcT (s : List Sig) (l : List Ar) : List UInt8 := Lib.join (l.map (wrdA s)) [32]
def chJ (L l : List Ar) (i : Nat) : Bool := decide ((arAt l i).from_ = atP l i) && L.any (eqArB (arAt l i))
def chnL (L l : List Ar) : Bool := allK (chJ L l) l.length
noncomputable def trcR (c : SG) (l : List Ar) : List UInt8 × Bool := if ((validC c && decide (l.length ≤ 4000)) && chnL c.arcs l) = true then (trcT c.sigs l, true) else ([], false)
theorem wrdA_len {s : List Sig} (hn : ∀ t, t ∈ s → t.name.length ≤ 1000) (a : Ar) : (wrdA s a).length ≤ 1001 := labT_len hn _
theorem wrdA_pos (s : List Sig) (a : Ar) : 1 ≤ (wrdA s a).length := by
 unfold wrdA labT
 split
 ·simp
 ·rw [List.length_append]; simp only [List.length_cons, List.length_nil]; omega
theorem wrdL_len (s : List Sig) (hn : ∀ t, t ∈ s → t.name.length ≤ 1000) (l : List Ar) {k : Nat} (hk : k ≤ l.length) : (Lib.join ((l.take k).map (wrdA s)) [32]).length ≤ 1004 * k := by
 have := join_len3 (sep := [32]) (c := 1001) (by simp) (l := l.map (wrdA s)) (fun x hx => by obtain ⟨a, _, rfl⟩ := List.mem_map.1 hx; exact wrdA_len hn a) k (by rw [List.length_map]; exact hk)
 rw [← List.map_take] at this
 exact this
theorem sig_names {c : SG} (h : validC c = true) : (1 ≤ c.sigs.length ∧ c.sigs.length ≤ 8) ∧ ∀ t, t ∈ c.sigs → t.name.length ≤ 1000 := by
 unfold validC at h
 simp only [Bool.and_eq_true] at h
 have hs := SigOk.of h.1.1.1.1.1
 exact ⟨hs.l, fun t ht => by have := hs.n t ht; omega⟩
theorem arc_sig {c : SG} (h : validC c = true) {a : Ar} (ha : a ∈ c.arcs) : a.sig < c.sigs.length ∧ a.sig < 8 ∧ -1 ≤ a.sig := by
 have := (validC_arc h ha).2.1
 have h8 := (sig_names h).1
 unfold labOk at this
 simp only [Bool.or_eq_true, Bool.and_eq_true, decide_eq_true_eq] at this
 omega
theorem chnL_no {L l : List Ar} {j : Nat} (hj : j < l.length) (h : chJ L l j = false) : chnL L l = false := allK_no hj h
theorem chnL_yes {L l : List Ar} (h : ∀ j, j < l.length → chJ L l j = true) : chnL L l = true := allK_yes h
theorem any_take {L : List Ar} {p : Ar → Bool} {i : Nat} (hi : i < L.length) : (L.take (i + 1)).any p = ((L.take i).any p || p L[i]) := by
 rw [List.take_add_one, List.getElem?_eq_getElem hi, List.any_append]; simp
set_option maxHeartbeats 8000000 in
theorem iFmt_spec (c : SG) (l : List Ar) (hc : SgL c) (hl : l.length ≤ 1000000) : ASpec Tryz.prog 75 [sgA c, .d (vArs l)] [] (Pure1 (.tup [aS (bstr (trcR c l).1), aT (trcR c l).2])) := by
 have hV := iValidSg_spec c hc
 have hA := hc.a
 have hR : trcR c l = if ((validC c && decide (l.length ≤ 4000)) && chnL c.arcs l) = true then (trcT c.sigs l, true) else ([], false) := rfl
 have hnm := fun (h : validC c = true) => (sig_names h).2
 have hsg := fun (h : validC c = true) a (ha : a ∈ c.arcs) => (arc_sig h ha).1
 have hno := fun j (hj : j < l.length) => chnL_no (L := c.arcs) hj
 have hye := chnL_yes (L := c.arcs) (l := l)
 obtain ⟨b, hb⟩ : ∃ b, b = validC c := ⟨_, rfl⟩
 rw [← hb] at hV hR hnm hsg
 obtain ⟨R, hRR⟩ : ∃ R, R = trcR c l := ⟨_, rfl⟩
 rw [← hRR] at hR ⊢
 obtain ⟨H, hH⟩ : ∃ H, H = chnL c.arcs l := ⟨_, rfl⟩
 rw [← hH] at hno hye hR
 clear hb hRR hH
 refine ASpec.of Tryz.func75 rfl rfl fun C hC => ?_
 refine AC.seq (AC.region ?_)
 refine AL.q (by exact h_boxF rfl rfl) rfl ?_
 refine za ?_
 refine za ?_
 refine AL.nil (th_n (AC.seq (AC.seq (AC.region ?_))))
 refine AL.p (by exact g_load_refN rfl rfl rfl rfl) rfl ?_
 refine AL.q (by exact h_pure en_iValidSg rfl rfl (by repeat (first | exact rfl | exact DLead.same | refine ⟨_, _, rfl, ?_, ?_⟩ | refine ⟨_, rfl, ?_⟩)) hV rfl) rfl ?_
 refine AL.p (by exact g_not rfl) rfl ?_
 refine zm ?_
 refine AL.caseGB rfl rfl (fun h0 => ?_) (fun h0 => ?_)
 ·refine zn ?_
  refine zn ?_
  refine zn ?_
  refine zQ ?_
  refine AL.nil (th_n ?_)
  refine AC.condT rfl ?_
  refine AC.seq (AC.region ?_)
  refine za ?_
  refine za ?_
  refine AL.nil (th_n (AC.ret (th_r (bq_r ?_))))
  have e : R = ([], false) := hR.trans (if_neg (by clear hnm hsg hno hye hR; (have q := ‹(!b) = true›; have q2 : b = false := (by simpa using q); rw [q2, Bool.false_and, Bool.false_and]; decide)))
  exact ret0 rfl (by rw [e]; show AV.leads _ (.tup [aS (bstr []), aT false]) _; repeat (first | exact DLead.same | exact rfl | refine ⟨_, rfl, ?_⟩ | refine ⟨_, _, rfl, ?_, ?_⟩))
 ·refine zy ?_
  refine zm ?_
  refine zy ?_
  refine AL.p (by exact g_len_view (k := l.length) rfl rfl (arL_len _)) rfl ?_
  refine zy ?_
  refine zc ?_
  refine zP ?_
  refine AL.nil (th_n ?_)
  refine AC.condD rfl (fun h1 => ?_) (fun h1 => ?_)
  ·refine AC.seq (AC.region ?_)
   refine za ?_
   refine za ?_
   refine AL.nil (th_n (AC.ret (th_r (bq_r ?_))))
   have e : R = ([], false) := hR.trans (if_neg (by clear hnm hsg hno hye hR; (rw [decide_eq_false (by omega : ¬ l.length ≤ 4000), Bool.and_false, Bool.false_and]; decide)))
   exact ret0 rfl (by rw [e]; show AV.leads _ (.tup [aS (bstr []), aT false]) _; repeat (first | exact DLead.same | exact rfl | refine ⟨_, rfl, ?_⟩ | refine ⟨_, _, rfl, ?_, ?_⟩))
  ·refine AC.skip (th_n (AC.seq ?_))
   have hb1 : b = true := by clear hnm hsg hno hye hR; simp_all
   have hl1 : l.length ≤ 4000 := by omega
   have hnm1 := hnm hb1
   have hsg1 := hsg hb1
   rw [hb1, decide_eq_true hl1, Bool.true_and, Bool.true_and] at hR
   have hwl := fun k (hk : k ≤ l.length) => wrdL_len c.sigs hnm1 l hk
   clear hnm hsg hV
   refine AC.region ?_
   refine AL.q (by exact h_lit rfl rfl rfl rfl rfl rfl rfl rfl) rfl ?_
   refine AL.p (by exact as2 rfl) rfl ?_
   refine za ?_
   refine AL.nil (th_n (AC.seq (AC.seq (AC.region ?_))))
   refine zm ?_
   refine AL.p (by exact g_len_view (k := l.length) rfl rfl (arL_len _)) rfl ?_
   refine zm ?_
   refine AL.nil (th_n (AC.block ?_))
   refine AC.loop (ι := Nat) (fun j => ⟨52, 300, [(2, .d (.ref (sgD c))), (6, .own 100 j), (7, aI (atP l j)), (19, .d (vArs l)), (20, aI l.length), (21, aI j)], [(100, some (.arr 9 1 (tsX ((l.take j).map (wrdA c.sigs)))))]⟩) (fun j => j ≤ l.length ∧ ∀ i, i < j → chJ c.arcs l i = true) (fun j => l.length - j) (0) ?_ (⟨Nat.zero_le _, fun i hi => absurd hi (Nat.not_lt_zero _)⟩) ?_
   ·exact zw [(100, _)] hC
   ·rintro j ⟨hj, hall⟩
    refine AC.seq (AC.region ?_)
    refine zc ?_
    refine AL.nil (th_n (AC.seq ?_))
    refine AC.condD rfl (fun h2 => ?_) (fun h2 => ?_)
    ·refine AC.skip (th_n (AC.seq (AC.block (AC.seq ?_))))
     have hj1 : j < l.length := by omega
     have hget := arL_get hj1
     have haj := arAt_nat hj1
     have hcj : chJ c.arcs l j = (decide ((arAt l j).from_ = atP l j) && c.arcs.any (eqArB (arAt l j))) := rfl
     have hto : atP l (j + 1) = (arAt l j).to_ := rfl
     have hst := map_take_snoc (f := wrdA c.sigs) hj1
     have htl : ((l.take j).map (wrdA c.sigs)).length = j := by rw [List.length_map, List.length_take]; omega
     have hnoj := hno j hj1
     have hnx : chJ c.arcs l j = true → ∀ i, i < j + 1 → chJ c.arcs l i = true := fun q i hi => by rcases Nat.lt_succ_iff_lt_or_eq.1 hi with h | rfl; exact hall i h; exact q
     rw [haj] at hcj hto
     obtain ⟨a, ha⟩ : ∃ a, a = l[j] := ⟨_, rfl⟩
     rw [← ha] at hget hcj hto hst
     have hK := conAr_spec c.arcs a hA
     have hEd := fun (h : c.arcs.any (eqArB a) = true) => edgeTextG_spec c.sigs ⟨a.sig, a.up⟩ (hsg1 a (conAr_iff.1 h)) hnm1
     have hwd : labT c.sigs ⟨a.sig, a.up⟩ = wrdA c.sigs a := rfl
     rw [hwd] at hEd
     obtain ⟨m, hm⟩ : ∃ m, m = c.arcs.any (eqArB a) := ⟨_, rfl⟩
     rw [← hm] at hcj hK hEd
     obtain ⟨P, hP⟩ : ∃ P, P = atP l j := ⟨_, rfl⟩
     rw [← hP] at hcj ⊢
     obtain ⟨Q, hQ⟩ : ∃ Q, Q = chJ c.arcs l j := ⟨_, rfl⟩
     rw [← hQ] at hcj hnoj hnx
     obtain ⟨w, hw⟩ : ∃ w, w = wrdA c.sigs a := ⟨_, rfl⟩
     rw [← hw] at hst hEd
     obtain ⟨z, hz⟩ : ∃ z, z = (l.take j).map (wrdA c.sigs) := ⟨_, rfl⟩
     rw [← hz] at hst htl ⊢
     clear hm hP hQ hw hz hwd ha
     refine AC.region ?_
     refine AL.p (by exact g_ia_view rfl rfl rfl rfl rfl (by rfl) (by assumption)) rfl ?_
     refine AL.p (by exact g_load_refN rfl rfl rfl rfl) rfl ?_
     refine AL.q (by exact h_alloc rfl) rfl ?_
     refine zs ?_
     refine AL.nil (th_n (AC.seq (AC.seq (AC.region ?_))))
     refine zF ?_
     refine zl ?_
     refine zm ?_
     refine zc ?_
     refine zm ?_
     refine AL.caseGN rfl rfl (fun h3 => ?_) (fun h3 => ?_)
     ·refine zn ?_
      refine zn ?_
      refine zn ?_
      refine zn ?_
      refine zn ?_
      refine zQ ?_
      refine AL.nil (th_n ?_)
      refine AC.condT rfl ?_
      refine AC.seq (AC.region ?_)
      refine za ?_
      refine za ?_
      refine AL.nil (th_n (AC.ret (th_r (ib_r (th_r (th_r (ib_r (th_r (bq_r ?_)))))))))
      have e : R = ([], false) := hR.trans (if_neg (by rw [hnoj (by rw [hcj]; (rw [decide_eq_false (by omega), Bool.false_and]))]; decide))
      exact ret0 rfl (by rw [e]; show AV.leads _ (.tup [aS (bstr []), aT false]) _; repeat (first | exact DLead.same | exact rfl | refine ⟨_, rfl, ?_⟩ | refine ⟨_, _, rfl, ?_, ?_⟩))
     ·refine zy ?_
      refine zf ?_
      refine zy ?_
      refine zr ?_
      refine zy ?_
      refine AL.p (by exact g_load_ptrN rfl rfl rfl rfl rfl) rfl ?_
      refine zy ?_
      refine AL.q (by exact h_pure en_conAr rfl rfl (by repeat (first | exact rfl | exact DLead.same | refine ⟨_, _, rfl, ?_, ?_⟩ | refine ⟨_, rfl, ?_⟩)) hK rfl) rfl ?_
      refine zy ?_
      refine AL.p (by exact g_not rfl) rfl ?_
      refine zP ?_
      refine AL.nil (th_n ?_)
      refine AC.condB rfl (fun h4 => ?_) (fun h4 => ?_)
      ·refine AC.seq (AC.region ?_)
       refine za ?_
       refine za ?_
       refine AL.nil (th_n (AC.ret (th_r (ib_r (th_r (th_r (ib_r (th_r (bq_r ?_)))))))))
       have e : R = ([], false) := hR.trans (if_neg (by rw [hnoj (by rw [hcj]; (have q := ‹(!m) = true›; have q2 : m = false := (by simpa using q); rw [q2, Bool.and_false]))]; decide))
       exact ret0 rfl (by rw [e]; show AV.leads _ (.tup [aS (bstr []), aT false]) _; repeat (first | exact DLead.same | exact rfl | refine ⟨_, rfl, ?_⟩ | refine ⟨_, _, rfl, ?_, ?_⟩))
      ·refine AC.skip (th_n ?_)
       have hm1 : m = true := by have q := ‹(!m) = false›; simpa using q
       have hEd1 := hEd hm1
       refine AC.drawn' mixed_ok [[], [], [1], [], [3], [], [5], [3,4,5,6], [1,2,3,4,5,6,7], [1,2,3,4,5,6,7,8], [0,1,2,3,4,5,6,7,8,9], [], [11], [0,1,2,3,4,5,6,7,8,9,10], [0,1,2,3,4,5,6,7,8,9,10,11,12,13]] (by decide) ?_
       refine DF.op 0 [] 15 rfl rfl rfl (.free rfl (NOp.of (by exact mv2 rfl))) rfl ?_
       refine DF.op 1 [] 15 rfl rfl rfl (.free rfl (NOp.of (by exact g_fa_ref rfl rfl rfl rfl rfl rfl))) rfl ?_
       refine DF.op 2 [1] 15 rfl rfl rfl (.free rfl (NOp.of (by exact g_load_ref rfl rfl rfl))) rfl ?_
       refine DF.op 3 [] 15 rfl rfl rfl (.free rfl (NOp.of (by exact g_fa_ptr rfl rfl rfl rfl rfl))) rfl ?_
       refine DF.op 4 [3] 15 rfl rfl rfl (.free rfl (NOp.of (by exact g_load_ptr rfl rfl rfl rfl rfl))) rfl ?_
       refine DF.op 5 [] 15 rfl rfl rfl (.free rfl (NOp.of (by exact g_fa_ptr rfl rfl rfl rfl rfl))) rfl ?_
       refine DF.op 6 [5] 15 rfl rfl rfl (.free rfl (NOp.of (by exact g_load_ptr rfl rfl rfl rfl rfl))) rfl ?_
       refine DF.op 7 [3,4,5,6] 15 rfl rfl rfl (.free rfl (NOp.of (by exact g_build rfl rfl rfl))) rfl ?_
       refine DF.op 8 [1,2,3,4,5,6,7] 15 rfl rfl rfl (.free rfl (by exact h_pure en_edgeText rfl rfl (by repeat (first | exact rfl | exact DLead.same | refine ⟨_, _, rfl, ?_, ?_⟩ | refine ⟨_, rfl, ?_⟩)) hEd1 rfl)) rfl ?_
       refine DF.op 9 [1,2,3,4,5,6,7,8] 15 rfl rfl rfl (.free rfl (by exact h_litF rfl rfl rfl rfl rfl rfl rfl rfl)) rfl ?_
       refine DF.op 10 (List.range 10) 15 rfl rfl rfl (.free rfl (by exact h_appendX z [w] (.own rfl rfl (by rw [tsX_len, htl])) (.view rfl) (by rw [List.length_append, htl]; simp only [List.length_cons, List.length_nil]; omega) (by simp))) rfl ?_
       refine DF.op 11 [] 15 rfl rfl rfl (.free rfl (NOp.of (by exact g_fa_ptr rfl rfl rfl rfl rfl))) rfl ?_
       refine DF.op 12 [11] 15 rfl rfl rfl (.free rfl (NOp.of (by exact g_load_ptr rfl rfl rfl rfl rfl))) rfl ?_
       refine DF.op 13 (List.range 11) 15 rfl rfl rfl (.free rfl (NOp.of (by exact as2 rfl))) rfl ?_
       refine DF.op 14 (List.range 14) 15 rfl rfl rfl (.free rfl (NOp.of (by exact as1 rfl))) rfl ?_
       refine DF.fin (ps := [(0,1),(0,2),(0,3),(0,4),(0,5),(0,6),(0,7),(0,8),(0,9),(0,11),(0,12),(1,0),(1,3),(1,4),(1,5),(1,6),(1,7),(1,11),(1,12),(2,0),(2,3),(2,4),(2,5),(2,6),(2,7),(2,11),(2,12),(3,0),(3,1),(3,2),(3,5),(3,6),(3,11),(3,12),(4,0),(4,1),(4,2),(4,5),(4,6),(4,11),(4,12),(5,0),(5,1),(5,2),(5,3),(5,4),(5,11),(5,12),(6,0),(6,1),(6,2),(6,3),(6,4),(6,11),(6,12),(7,0),(7,1),(7,2),(7,11),(7,12),(8,0),(8,11),(8,12),(9,0),(9,11),(9,12),(10,11),(10,12),(11,0),(11,1),(11,2),(11,3),(11,4),(11,5),(11,6),(11,7),(11,8),(11,9),(11,10),(11,13),(12,0),(12,1),(12,2),(12,3),(12,4),(12,5),(12,6),(12,7),(12,8),(12,9),(12,10),(12,13),(13,11),(13,12)]) 15 rfl (by decide +kernel) (by decide +kernel) (by rfl) ?_
       refine ib_n (th_n (AC.region ?_))
       refine zA ?_
       refine zm ?_
       refine AL.nil (th_n ?_)
       have hQ1 : Q = true := by rw [hcj, hm1, Bool.and_true]; exact decide_eq_true (by omega)
       exact ⟨j + 1, ⟨by omega, hnx hQ1⟩, by omega, zw [(100, _)] hC (by rw [hto, List.length_append, htl]; repeat (first | exact True.intro | refine And.intro ?_ ?_ | exact DLead.same | exact rfl | refine ⟨_, rfl, ?_⟩)) (by rw [hst]; repeat (first | exact True.intro | refine And.intro ?_ ?_ | exact rfl | refine ⟨_, _, rfl, rfl, ?_⟩))⟩
    ·refine AC.exit (th_e (th_e (ib_y (th_n (AC.seq ?_)))))
     have hjj : j = l.length := by omega
     have hH1 := hye (fun i hi => hall i (by omega))
     have hwll := hwl l.length (Nat.le_refl _)
     rw [List.take_length] at hwll
     rw [hjj, List.take_length]
     have hJ := sJoinV_spec (l.map (wrdA c.sigs)) [32] (by rw [List.length_map]; omega) (by omega)
     have e : R = (trcT c.sigs l, true) := hR.trans (if_pos hH1)
     have hTe : trcT c.sigs l = Lib.join (l.map (wrdA c.sigs)) [32] := rfl
     rw [hTe] at e
     obtain ⟨T, hT⟩ : ∃ T, T = Lib.join (l.map (wrdA c.sigs)) [32] := ⟨_, rfl⟩
     rw [← hT] at hJ e
     obtain ⟨z, hz⟩ : ∃ z, z = l.map (wrdA c.sigs) := ⟨_, rfl⟩
     have hzl : z.length = l.length := by rw [hz, List.length_map]
     rw [← hz] at hJ ⊢
     rw [← hzl]
     clear hT hTe hz hwll hwl
     refine AC.weak (Weak.freeze (i := 6) rfl rfl (Nat.le_of_eq (tsX_len _).symm) (List.take_of_length_le (Nat.le_of_eq (tsX_len _)))) ?_
     refine AC.region ?_
     refine zm ?_
     refine AL.q (by exact h_pure en_sJoin rfl rfl (by repeat (first | exact rfl | exact DLead.same | refine ⟨_, _, rfl, ?_, ?_⟩)) hJ rfl) rfl ?_
     refine za ?_
     refine za ?_
     refine AL.nil (th_n (AC.ret (bq_r ?_)))
     exact ret0 rfl (by rw [e]; show AV.leads _ (.tup [aS (bstr T), aT true]) _; repeat (first | exact DLead.same | exact rfl | refine ⟨_, rfl, ?_⟩ | refine ⟨_, _, rfl, ?_, ?_⟩))
theorem en_iFmt : Enters Tryz.prog 75 := enters_of Tryz.func75 rfl rfl
end Go.Proofs.YthafkkgmekgmoaaGreat
