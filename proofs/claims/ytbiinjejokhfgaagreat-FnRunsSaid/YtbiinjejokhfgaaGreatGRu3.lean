/- Contracts of the functions of the program and of the reference, each proved by a walk through its code. -/
import Derived.Lib.AppendZerosOnto
import Derived.ProofKit
import Derived.OpenShut
import Derived.Lib.SliceRun
import Derived.Test.YtbiinjejokhfgaaGreatGRu2
set_option linter.all false
set_option maxRecDepth 20000
namespace Go.Proofs.YtbiinjejokhfgaaGreat
open Go.RowKit
theorem rising_in {l : List Int} {lo hi : Int} (h : rising l lo hi = true) : ∀ p, p ∈ l → lo ≤ p ∧ p ≤ hi := by
 intro p hp;obtain ⟨j, hj, rfl⟩ := List.getElem_of_mem hp;unfold rising allN at h;have := List.all_eq_true.1 h j (List.mem_range.2 hj);simp [riseAt, List.getD, List.getElem?_eq_getElem hj] at this;exact this.1
theorem good_netM {N : Net} {m : List UInt8} (hg : goodN N = true) (hb : bitsB m N.places = true) : NetM N m := by
 intro x hx;simp only [goodN, Bool.and_eq_true, Bool.not_eq_true', List.any_eq_false, decide_eq_true_eq] at hg;have h1 := hg.2 x hx;simp only [badT, Bool.or_eq_true, decide_eq_true_eq, not_or, Bool.not_eq_true', Bool.not_eq_false] at h1;simp only [bitsB, Bool.and_eq_true, decide_eq_true_eq] at hb;exact ⟨fun p hp => by have := rising_in h1.1.2 p hp; omega, fun p hp => by have := rising_in h1.2 p hp; omega⟩
theorem bits_at {m : List UInt8} {n : Int} {p : Int} (hb : bitsB m n = true) (hp : 0 ≤ p ∧ p < m.length) : at0 m p = 48 ∨ at0 m p = 49 := by
 simp only [bitsB, Bool.and_eq_true, List.all_eq_true] at hb;have hl : p.toNat < m.length := by omega
 have := hb.1 m[p.toNat] (List.getElem_mem hl);simp only [bit, Bool.or_eq_true, decide_eq_true_eq] at this;simpa [at0, List.getD, List.getElem?_eq_getElem hl] using this
theorem ready_enabled {t : Tn} {m : List UInt8} {n : Int} (hb : bitsB m n = true) (hp : InM t.pre m) : readyS t m = enabledI t m := by
 unfold readyS enabledI;rw [List.any_eq_not_all_not, Bool.not_not]
 have : ∀ p, p ∈ t.pre → decide (at0 m p = 49) = !decide (at0 m p = 48) := by
  intro p h;rcases bits_at hb (hp p h) with e | e <;> rw [e] <;> decide
 rw [Bool.eq_iff_iff, List.all_eq_true, List.all_eq_true];constructor
 ·intro h p hp; rw [← this p hp]; exact h p hp
 intro h p hp; rw [this p hp]; exact h p hp
theorem bits_len {m : List UInt8} {n : Int} (h : bitsB m n = true) : (m.length : Int) = n := by
 simp only [bitsB, Bool.and_eq_true, decide_eq_true_eq] at h; exact h.2
theorem good_places {N : Net} (h : goodN N = true) : 1 ≤ N.places ∧ N.places ≤ 30 ∧ N.ts.length ≤ 24 := by
 simp only [goodN, Bool.and_eq_true, decide_eq_true_eq] at h; omega
def FireI (N : Net) (m : List UInt8) (t : Int) : List UInt8 × Bool := if goodN N && bitsB m N.places then fireI N m t else ([], false)
theorem FireI_no {N : Net} {m : List UInt8} {t : Int} (h : (goodN N && bitsB m N.places) = false) : FireI N m t = ([], false) := by rw [FireI, h]; rfl
theorem FireI_yes {N : Net} {m : List UInt8} {t : Int} (h : (goodN N && bitsB m N.places) = true) : FireI N m t = fireI N m t := by rw [FireI, h]; rfl
set_option maxHeartbeats 1000000 in
theorem sFire_spec (N : Net) (m : List UInt8) (t : Int) (hB : NetB N) (hm : m.length ≤ 2000000) : ASpec Tryz.prog 96 [netA N, aS (bstr m), aI t] [] (Pure1 (.tup [aS (bstr (FireI N m t).1), aT (FireI N m t).2])) := by
 have hl := hB.l;refine ASpec.of Tryz.func96 rfl rfl fun C hC => ?_
 refine AC.seq (AC.region ?_);refine kD ?_;refine za ?_;refine za ?_;refine AL.nil (th_n (AC.seq (AC.seq (AC.region ?_))));refine kG ?_;refine AL.q (by exact h_pure en_l1Good rfl rfl (by repeat (first | exact rfl | exact DLead.same | refine ⟨_, _, rfl, ?_, ?_⟩ | refine ⟨_, rfl, ?_⟩)) (l1Good_spec _ (by assumption)) rfl) rfl ?_;refine kC ?_;refine zm ?_;refine AL.caseGB rfl rfl (fun h0 => ?_) (fun h0 => ?_)
 ·refine zn ?_;refine zn ?_;refine zn ?_;refine zn ?_;refine zQ ?_;refine zm ?_;refine zn ?_;refine zn ?_;refine zn ?_;refine zn ?_;refine zn ?_;refine zn ?_;refine zn ?_;refine zQ ?_;refine zm ?_;refine zn ?_;refine zn ?_;refine zn ?_;refine zn ?_;refine zn ?_;refine zQ ?_;refine AL.nil (th_n ?_);refine AC.condT rfl ?_;refine AC.seq (AC.region ?_);refine za ?_;refine za ?_;refine AL.nil (th_n (AC.ret (th_r (bq_r ?_))))
  (have hz := (Bool.not_eq_true' _).mp h0; exact ret2 rfl (by rw [FireI_no (by rw [hz, Bool.false_and])]; rfl) (by rw [FireI_no (by rw [hz, Bool.false_and])]))
 refine zy ?_;refine kG ?_;refine zy ?_;refine zm ?_;refine zy ?_;refine AL.q (by exact h_pure en_l1Mark rfl rfl (by repeat (first | exact rfl | exact DLead.same | refine ⟨_, _, rfl, ?_, ?_⟩ | refine ⟨_, rfl, ?_⟩)) (l1Mark_spec _ _ (by assumption)) rfl) rfl ?_;refine zy ?_;refine kC ?_;refine zP ?_;refine zm ?_;refine AL.caseGB rfl rfl (fun h1 => ?_) (fun h1 => ?_)
 ·refine zn ?_;refine zn ?_;refine zn ?_;refine zn ?_;refine zn ?_;refine zn ?_;refine zn ?_;refine zQ ?_;refine zm ?_;refine zn ?_;refine zn ?_;refine zn ?_;refine zn ?_;refine zn ?_;refine zQ ?_;refine AL.nil (th_n ?_);refine AC.condT rfl ?_;refine AC.seq (AC.region ?_);refine za ?_;refine za ?_;refine AL.nil (th_n (AC.ret (th_r (bq_r ?_))))
  (have hz := (Bool.not_eq_true' _).mp h1; exact ret2 rfl (by rw [FireI_no (by rw [hz, Bool.and_false])]; rfl) (by rw [FireI_no (by rw [hz, Bool.and_false])]))
 refine zy ?_;have hg1 : goodN N = true := (Bool.not_eq_false' _).mp h0;have hg2 : bitsB m N.places = true := (Bool.not_eq_false' _).mp h1;have hg : (goodN N && bitsB m N.places) = true := by rw [hg1, hg2]; rfl
 have hM : NetM N m := good_netM hg1 hg2;refine zm ?_;refine zy ?_;refine zf ?_;refine zy ?_;refine zr ?_;refine zy ?_;refine kH ?_;refine zy ?_;refine zA ?_;refine zy ?_;refine AL.q (by exact h_pure en_l1In rfl rfl (by repeat (first | exact rfl | exact DLead.same | refine ⟨_, _, rfl, ?_, ?_⟩)) (l1In_spec _ _ _) rfl) rfl ?_;refine zy ?_;refine kC ?_;refine zP ?_;refine zm ?_;refine AL.caseGB rfl rfl (fun h2 => ?_) (fun h2 => ?_)
 ·refine zn ?_;refine zn ?_;refine zn ?_;refine zn ?_;refine zn ?_;refine zQ ?_;refine AL.nil (th_n ?_);refine AC.condT rfl ?_;refine AC.seq (AC.region ?_);refine za ?_;refine za ?_;refine AL.nil (th_n (AC.ret (th_r (bq_r ?_))))
  (have hz := hg; exact ret2 rfl (by rw [FireI_yes hg, fireI_out ((Bool.not_eq_true' _).mp h2)]; rfl) (by rw [FireI_yes hg, fireI_out ((Bool.not_eq_true' _).mp h2)]))
 refine zy ?_;refine kG ?_;refine zy ?_;refine zm ?_;refine zy ?_;refine zm ?_;refine zy ?_;have hr := (Bool.not_eq_false' _).mp h2;obtain ⟨i, rfl⟩ : ∃ i : Nat, t = i := ⟨t.toNat, by simp at hr; omega⟩;have ht : i < N.ts.length := by simp at hr; omega
 have hl1 := (hB.t _ (List.getElem_mem ht)).1;have hl2 := (hB.t _ (List.getElem_mem ht)).2;have hp1 := (hM _ (List.getElem_mem ht)).1;have hp2 := (hM _ (List.getElem_mem ht)).2;have hre := ready_enabled hg2 hp1;refine AL.q (by exact h_pure en_l1Ready rfl rfl (by repeat (first | exact rfl | exact DLead.same | refine ⟨_, _, rfl, ?_, ?_⟩ | refine ⟨_, rfl, ?_⟩)) (l1Ready_spec _ _ _ (by assumption) (by assumption) (by assumption)) rfl) rfl ?_;refine zy ?_;refine kC ?_;refine zP ?_;refine AL.nil (th_n ?_);refine AC.condB rfl (fun h3 => ?_) (fun h3 => ?_)
 ·refine AC.seq (AC.region ?_);refine za ?_;refine za ?_;refine AL.nil (th_n (AC.ret (th_r (bq_r ?_))))
  (have hz := hre.symm.trans ((Bool.not_eq_true' _).mp h3); exact ret2 rfl (by rw [FireI_yes hg, fireI_at ht, hz]; rfl) (by rw [FireI_yes hg, fireI_at ht, hz]; rfl))
 refine AC.skip (th_n (AC.seq (AC.region ?_)));refine kG ?_;refine zm ?_;refine zm ?_;refine AL.q (by exact h_pure en_l1Fire rfl rfl (by repeat (first | exact rfl | exact DLead.same | refine ⟨_, _, rfl, ?_, ?_⟩ | refine ⟨_, rfl, ?_⟩)) (l1Fire_spec _ _ _ (by assumption) (by assumption) (by assumption) (by assumption) (by assumption) (by assumption)) rfl) rfl ?_;refine AL.p (by exact g_extract (r := .d _) rfl rfl) rfl ?_;refine AL.p (by exact g_extract (r := .d _) rfl rfl) rfl ?_;refine za ?_;refine za ?_;refine AL.nil (th_n (AC.ret (bq_r ?_)));have hz := hre.symm.trans ((Bool.not_eq_false' _).mp h3);exact ret2 rfl (by rw [FireI_yes hg, fireI_at ht, if_pos hz]) (by rw [FireI_yes hg, fireI_at ht, if_pos hz])
theorem en_sFire : Enters Tryz.prog 96 := enters_of Tryz.func96 rfl rfl
structure Cur where
 code : List UInt8
 pos : Nat
 seed : Int
abbrev bytesL (l : List UInt8) : List (List DV) := l.map fun b => [dB b]
abbrev vB (l : List UInt8) : DV := .view 5 1 (bytesL l)
abbrev curC (c : Cur) : Chunk := .cells 88 [.d (vB c.code), aI c.pos, .d (.val (.int .u64 c.seed))]
def cur0 (code : List UInt8) : Cur := ⟨code, 0, 0⟩
theorem bytes_get {l : List UInt8} {k : Nat} (h : k < l.length) : (bytesL l)[k]? = some [dB (l.getD k 0)] := by
 simp [bytesL, List.getElem?_map, List.getElem?_eq_getElem h, List.getD]
def Cur.byte (c : Cur) : Int := if c.pos < c.code.length then ((c.code.getD c.pos 0).toNat : Int) else 0
def Cur.turn (c : Cur) : Int := IntKind.u64.wrap (IntKind.u64.wrap (IntKind.u64.wrap (c.seed * 6364136223846793005) + c.byte) + 1442695040888963407)
def drawn (seed : Int) : Int := IntKind.i64.wrap (IntKind.u64.wrap (BitVec.ofInt 64 (seed.fdiv (2 ^ (min (40 : Int).toNat 64))) &&& BitVec.ofInt 64 255).toNat)
def Cur.after (c : Cur) : Cur := ⟨c.code, c.pos + 1, c.turn⟩
def Cur.next (c : Cur) : Int := if c.pos + 1 ≤ c.code.length then c.byte else drawn c.turn
theorem Cur.byte_in (c : Cur) : 0 ≤ c.byte ∧ c.byte ≤ 255 := by
 unfold Cur.byte
 split
 ·have := (c.code.getD c.pos 0).toNat_lt; omega
 omega
set_option maxHeartbeats 1000000 in
theorem next_spec (c : Cur) (hp : c.pos ≤ 1000000000000000) : ASpec Tryz.prog 106 [.ptr 0 0] [(0, curC c)] (Fun1 (aI c.next) [(0, curC c.after)]) := by
 refine ASpec.of Tryz.func106 rfl rfl fun C hC => ?_
 refine AC.seq (AC.region ?_);refine za ?_;refine AL.nil (th_n (AC.seq (AC.region ?_)));refine za ?_;refine AL.nil (th_n ?_);refine AC.cut (fun (_ : Unit) => ⟨62, 1, [(0, .ptr 0 0), (3, aI c.byte)], [(0, some (curC c))]⟩) (fun _ => True) ?_ ?_
 ·refine AC.seq ?_;refine AC.drawn' mixed_ok [[], [0], [0,1], [0,1,2], [], [4], [4,5], [4,5,6], [4,5,6,7], [0,1,2,3,4,5,6,7,8]] (by decide) ?_;refine zd 0 [] 10 (by exact mv3 rfl) ?_;refine zd 1 [0] 10 (by exact g_nilP rfl) ?_;refine zd 2 [0,1] 10 (by exact g_fa_ptr rfl rfl rfl rfl rfl) ?_;refine zd 3 [0,1,2] 10 (by exact g_load_ptr rfl rfl rfl rfl rfl) ?_;refine zd 4 [] 10 (by exact mv3 rfl) ?_;refine zd 5 [4] 10 (by exact g_nilP rfl) ?_;refine zd 6 [4,5] 10 (by exact g_fa_ptr rfl rfl rfl rfl rfl) ?_;refine zd 7 [4,5,6] 10 (by exact g_load_ptr rfl rfl rfl rfl rfl) ?_;refine zd 8 [4,5,6,7] 10 (by exact g_len_view rfl rfl (by exact List.length_map _)) ?_;refine zd 9 (List.range 9) 10 (by exact g_cmp rfl rfl rfl) ?_;refine zj 10 ?_;refine th_n ?_;refine AC.condD rfl (fun h0 => ?_) (fun h0 => ?_)
  ·have hk : c.pos < c.code.length := by omega
   have hget : (bytesL c.code)[c.pos]? = some [dB (c.code.getD c.pos 0)] := bytes_get hk;have hlt := (c.code.getD c.pos 0).toNat_lt;refine AC.drawn' mixed_ok [[], [0], [0,1], [0,1,2], [], [4], [4,5], [4,5,6], [0,1,2,3,4,5,6,7], [0,1,2,3,4,5,6,7,8], [0,1,2,3,4,5,6,7,8,9], [0,1,2,3,4,5,6,7,8,9,10]] (by decide) ?_;refine zd 0 [] 12 (by exact mv3 rfl) ?_;refine zd 1 [0] 12 (by exact g_nilP rfl) ?_;refine zd 2 [0,1] 12 (by exact g_fa_ptr rfl rfl rfl rfl rfl) ?_;refine zd 3 [0,1,2] 12 (by exact g_load_ptr rfl rfl rfl rfl rfl) ?_;refine zd 4 [] 12 (by exact mv3 rfl) ?_;refine zd 5 [4] 12 (by exact g_nilP rfl) ?_;refine zd 6 [4,5] 12 (by exact g_fa_ptr rfl rfl rfl rfl rfl) ?_;refine zd 7 [4,5,6] 12 (by exact g_load_ptr rfl rfl rfl rfl rfl) ?_;refine zd 8 [0,1,2,3,4,5,6,7] 12 (by exact g_ia_view rfl rfl rfl rfl rfl (by rfl) (by assumption)) ?_;refine zd 9 (List.range 9) 12 (by exact g_load_ref rfl rfl rfl) ?_;refine zd 10 (List.range 10) 12 (by exact g_convI rfl rfl rfl (by exact wrap_i64 (by omega))) ?_;refine zd 11 (List.range 11) 12 (by exact as1 rfl) ?_;refine zj 12 ?_;refine th_n ?_;have hb : c.byte = if c.pos < c.code.length then ((c.code.getD c.pos 0).toNat : Int) else 0 := rfl
   exact ⟨(), trivial, Weak.ren _ [] hC rfl (by refine ⟨?_, ?_, ?_⟩; repeat (refine ⟨_, rfl, ?_⟩); (try (exact DLead.eqI (by rw [hb]; split <;> omega))); repeat (first | exact True.intro | exact DLead.eqI (by omega) | exact rfl)) (by repeat (first | exact True.intro | refine And.intro ?_ ?_ | exact DLead.same | exact rfl | refine ⟨_, _, rfl, rfl, ?_⟩ | refine ⟨_, rfl, ?_⟩ | refine ⟨_, _, rfl, ?_, ?_⟩)) rfl rfl rfl⟩
  refine AC.skip (th_n ?_);have hb : c.byte = if c.pos < c.code.length then ((c.code.getD c.pos 0).toNat : Int) else 0 := rfl
  exact ⟨(), trivial, Weak.ren _ [] hC rfl (by refine ⟨?_, ?_, ?_⟩; repeat (refine ⟨_, rfl, ?_⟩); (try (exact DLead.eqI (by rw [hb]; split <;> omega))); repeat (first | exact True.intro | exact DLead.eqI (by omega) | exact rfl)) (by repeat (first | exact True.intro | refine And.intro ?_ ?_ | exact DLead.same | exact rfl | refine ⟨_, _, rfl, rfl, ?_⟩ | refine ⟨_, rfl, ?_⟩ | refine ⟨_, _, rfl, ?_, ?_⟩)) rfl rfl rfl⟩
 intro _ _;have hbi := c.byte_in;refine AC.seq (AC.region ?_);refine AL.p (by exact mv3 rfl) rfl ?_;refine AL.p (by exact g_nilP rfl) rfl ?_;refine zF ?_;refine zl ?_;refine zA ?_;refine AL.p (by exact g_nilP rfl) rfl ?_;refine zF ?_;refine zs ?_;refine AL.nil (th_n (AC.seq (AC.region ?_)));refine AL.p (by exact mv3 rfl) rfl ?_;refine AL.p (by exact mv3 rfl) rfl ?_;refine AL.p (by exact g_nilP rfl) rfl ?_;refine zF ?_;refine zl ?_;refine AL.p (by exact g_arith rfl rfl rfl (by rfl)) rfl ?_;refine zm ?_;refine AL.p (by exact g_convI rfl rfl rfl (by exact wrap_u64 (by omega))) rfl ?_;refine AL.p (by exact g_arith rfl rfl rfl (by rfl)) rfl ?_;refine AL.p (by exact g_arith rfl rfl rfl (by rfl)) rfl ?_;refine AL.p (by exact g_nilP rfl) rfl ?_;refine zF ?_;refine zs ?_;refine AL.nil (th_n (AC.seq (AC.seq ?_)));refine AC.drawn' mixed_ok [[], [0], [0,1], [0,1,2], [], [4], [4,5], [4,5,6], [4,5,6,7], [0,1,2,3,4,5,6,7,8]] (by decide) ?_;refine zd 0 [] 10 (by exact mv3 rfl) ?_;refine zd 1 [0] 10 (by exact g_nilP rfl) ?_;refine zd 2 [0,1] 10 (by exact g_fa_ptr rfl rfl rfl rfl rfl) ?_;refine zd 3 [0,1,2] 10 (by exact g_load_ptr rfl rfl rfl rfl rfl) ?_;refine zd 4 [] 10 (by exact mv3 rfl) ?_;refine zd 5 [4] 10 (by exact g_nilP rfl) ?_;refine zd 6 [4,5] 10 (by exact g_fa_ptr rfl rfl rfl rfl rfl) ?_;refine zd 7 [4,5,6] 10 (by exact g_load_ptr rfl rfl rfl rfl rfl) ?_;refine zd 8 [4,5,6,7] 10 (by exact g_len_view rfl rfl (by exact List.length_map _)) ?_;refine zd 9 (List.range 9) 10 (by exact g_cmp rfl rfl rfl) ?_;refine zj 10 ?_;refine th_n ?_;refine AC.condD rfl (fun h0 => ?_) (fun h0 => ?_)
 ·refine AC.seq (AC.region ?_);refine zm ?_;refine za ?_;refine AL.nil (th_n (AC.ret (th_r (bq_r ?_))));exact retF rfl (by show DLead _ _; exact DLead.eqI (by unfold Cur.next; rw [if_pos (by omega)])) (by repeat (first | exact True.intro | refine And.intro ?_ ?_ | exact DLead.same | exact rfl | refine ⟨_, _, rfl, rfl, ?_⟩ | refine ⟨_, rfl, ?_⟩ | refine ⟨_, _, rfl, ?_, ?_⟩)) rfl
 refine AC.skip (th_n (AC.seq (AC.region ?_)));refine AL.p (by exact mv3 rfl) rfl ?_;refine AL.p (by exact g_nilP rfl) rfl ?_;refine zF ?_;refine zl ?_;refine AL.p (by exact g_shr rfl rfl (by decide) (by rfl)) rfl ?_;refine AL.p (by exact g_bits rfl rfl rfl) rfl ?_;refine AL.p (by exact g_convI rfl rfl rfl (by rfl)) rfl ?_;refine za ?_;refine AL.nil (th_n (AC.ret (bq_r ?_)));exact retF rfl (by show DLead _ _; exact DLead.eqI (by unfold Cur.next; rw [if_neg (by omega)]; rfl)) (by repeat (first | exact True.intro | refine And.intro ?_ ?_ | exact DLead.same | exact rfl | refine ⟨_, _, rfl, rfl, ?_⟩ | refine ⟨_, rfl, ?_⟩ | refine ⟨_, _, rfl, ?_, ?_⟩)) rfl
theorem en_next : Enters Tryz.prog 106 := enters_of Tryz.func106 rfl rfl
theorem all_set {m : List UInt8} {p : Nat} {b : UInt8} (h : m.all bit = true) (hb : bit b = true) : (m.set p b).all bit = true := by
 rw [List.all_eq_true] at h ⊢;intro x hx;rcases List.mem_or_eq_of_mem_set hx with h' | rfl
 ·exact h x h'
 exact hb
theorem clear_bits (ps : List Int) : ∀ {m : List UInt8}, m.all bit = true → (clearAll ps m).all bit = true := by
 induction ps with
 | nil => intro m h; exact h
 | cons p ps ih => intro m h; exact ih (all_set h (by decide))
theorem put_bits : ∀ (ps : List Int) {m m' : List UInt8}, m.all bit = true → putAll ps m = some m' → m'.all bit = true ∧ m'.length = m.length
 | [], m, m', h, e => by simp only [putAll, Option.some.injEq] at e; subst e; exact ⟨h, rfl⟩
 | p :: ps, m, m', h, e => by
  simp only [putAll] at e
  split at e
  ·cases e
  have := put_bits ps (all_set (p := p.toNat) h (by decide : bit 49 = true)) e;exact ⟨this.1, by rw [this.2, List.length_set]⟩
theorem fireT_bits {t : Tn} {m : List UInt8} {n : Int} (h : bitsB m n = true) (ho : (fireT t m).2 = true) : bitsB (fireT t m).1 n = true := by
 simp only [bitsB, Bool.and_eq_true, decide_eq_true_eq] at h ⊢;unfold fireT at ho ⊢
 split at ho
 ·rename_i m' e;have := put_bits _ (clear_bits t.pre h.1) e;exact ⟨this.1, by rw [this.2, clear_len]; exact h.2⟩
 cases ho
theorem fireI_bits {N : Net} {m : List UInt8} {t n : Int} (h : bitsB m n = true) (ho : (fireI N m t).2 = true) : bitsB (fireI N m t).1 n = true := by
 unfold fireI at ho ⊢
 split at ho
 ·rename_i x e
  split at ho
  ·rename_i hc;rw [if_pos hc]; exact fireT_bits h ho
  cases ho
 cases ho
def fireSeq (N : Net) : List UInt8 → List Int → Int → List UInt8 × Int × Bool
 | m, [], k => (m, k, true)
 | m, t :: ts, k => if (fireI N m t).2 then fireSeq N (fireI N m t).1 ts (k + 1) else (m, k, false)
def SeqI (N : Net) (m : List UInt8) (ts : List Int) : List UInt8 × Int × Bool := if (goodN N && bitsB m N.places) && decide ((ts.length : Int) ≤ 200) then fireSeq N m ts 0 else ([], 0, false)
theorem SeqI_yes {N : Net} {m : List UInt8} {ts : List Int} (h : ((goodN N && bitsB m N.places) && decide ((ts.length : Int) ≤ 200)) = true) : SeqI N m ts = fireSeq N m ts 0 := by rw [SeqI, h]; rfl
theorem SeqI_no {N : Net} {m : List UInt8} {ts : List Int} (h : ((goodN N && bitsB m N.places) && decide ((ts.length : Int) ≤ 200)) = false) : SeqI N m ts = ([], 0, false) := by rw [SeqI, h]; rfl
set_option maxHeartbeats 2000000 in
theorem sFireSeq_spec (N : Net) (m : List UInt8) (ts : List Int) (hB : NetB N) (hm : m.length ≤ 2000000) (hts : ts.length ≤ 1000000) : ASpec Tryz.prog 37 [netA N, aS (bstr m), .d (vI ts)] [] (Pure1 (.tup [aS (bstr (SeqI N m ts).1), aI (SeqI N m ts).2.1, aT (SeqI N m ts).2.2])) := by
 refine ASpec.of Tryz.func37 rfl rfl fun C hC => ?_
 refine AC.seq (AC.region ?_);refine kD ?_;refine za ?_;refine za ?_;refine za ?_;refine AL.nil (th_n (AC.seq (AC.seq (AC.region ?_))));refine kG ?_;refine AL.q (by exact h_pure en_l1Good rfl rfl (by repeat (first | exact rfl | exact DLead.same | refine ⟨_, _, rfl, ?_, ?_⟩ | refine ⟨_, rfl, ?_⟩)) (l1Good_spec _ (by assumption)) rfl) rfl ?_;refine kC ?_;refine zm ?_;refine AL.caseGB rfl rfl (fun h0 => ?_) (fun h0 => ?_)
 ·refine zn ?_;refine zn ?_;refine zn ?_;refine zn ?_;refine zQ ?_;refine zm ?_;refine zn ?_;refine zn ?_;refine zn ?_;refine zQ ?_;refine AL.nil (th_n ?_);refine AC.condT rfl ?_;refine AC.seq (AC.region ?_);refine za ?_;refine za ?_;refine za ?_;refine AL.nil (th_n (AC.ret (th_r (bq_r ?_))));have hz : ((goodN N && bitsB m N.places) && decide ((ts.length : Int) ≤ 200)) = false := by (rw [(Bool.not_eq_true' _).mp h0]; rfl)
  have hs := SeqI_no hz;exact ret3 rfl (by rw [hs]; rfl) (by rw [hs]) (by rw [hs])
 refine zy ?_;refine kG ?_;refine zy ?_;refine zm ?_;refine zy ?_;refine AL.q (by exact h_pure en_l1Mark rfl rfl (by repeat (first | exact rfl | exact DLead.same | refine ⟨_, _, rfl, ?_, ?_⟩ | refine ⟨_, rfl, ?_⟩)) (l1Mark_spec _ _ (by assumption)) rfl) rfl ?_;refine zy ?_;refine kC ?_;refine zP ?_;refine zm ?_;refine AL.caseGB rfl rfl (fun h1 => ?_) (fun h1 => ?_)
 ·refine zn ?_;refine zn ?_;refine zn ?_;refine zQ ?_;refine AL.nil (th_n ?_);refine AC.condT rfl ?_;refine AC.seq (AC.region ?_);refine za ?_;refine za ?_;refine za ?_;refine AL.nil (th_n (AC.ret (th_r (bq_r ?_))));have hz : ((goodN N && bitsB m N.places) && decide ((ts.length : Int) ≤ 200)) = false := by (have hz := (Bool.not_eq_true' _).mp h1; rw [hz, Bool.and_false]; rfl)
  have hs := SeqI_no hz;exact ret3 rfl (by rw [hs]; rfl) (by rw [hs]) (by rw [hs])
 refine zy ?_;have hg1 : goodN N = true := (Bool.not_eq_false' _).mp h0;have hg2 : bitsB m N.places = true := (Bool.not_eq_false' _).mp h1;have hg : (goodN N && bitsB m N.places) = true := by rw [hg1, hg2]; rfl
 refine zm ?_;refine zy ?_;refine kH ?_;refine zy ?_;refine zc ?_;refine zP ?_;refine AL.nil (th_n ?_);refine AC.condD rfl (fun h2 => ?_) (fun h2 => ?_)
 ·refine AC.seq (AC.region ?_);refine za ?_;refine za ?_;refine za ?_;refine AL.nil (th_n (AC.ret (th_r (bq_r ?_))));have hz : ((goodN N && bitsB m N.places) && decide ((ts.length : Int) ≤ 200)) = false := by (have hz := h2; rw [Bool.and_eq_false_iff]; exact .inr (by simp; omega))
  have hs := SeqI_no hz;exact ret3 rfl (by rw [hs]; rfl) (by rw [hs]) (by rw [hs])
 refine AC.skip (th_n (AC.seq (AC.seq ?_)));have hpl := good_places hg1;have hz : ((goodN N && bitsB m N.places) && decide ((ts.length : Int) ≤ 200)) = true := by rw [hg]; simp; omega
 refine AC.region ?_;refine zm ?_;refine kH ?_;refine zm ?_;refine AL.nil (th_n (AC.block ?_));refine AC.loop (ι := Nat × List UInt8) (fun x => ⟨50, 0, [(1, aS (bstr x.2)), (2, .d (vI ts)), (3, .d (.ref (netD N))), (27, .d (vI ts)), (28, aI ts.length), (29, aI x.1)], []⟩) (fun x => x.1 ≤ ts.length ∧ bitsB x.2 N.places = true ∧ fireSeq N x.2 (ts.drop x.1) x.1 = fireSeq N m ts 0) (fun x => ts.length - x.1) ((0, m)) ?_ (⟨Nat.zero_le _, hg2, rfl⟩) ?_
 ·refine Weak.ren _ [] hC rfl ?_ ?_ rfl rfl rfl <;> repeat (first | exact True.intro | refine And.intro ?_ ?_ | exact DLead.same)
 rintro ⟨k, mm⟩ ⟨hk, hmb, hseq⟩;dsimp only at hk hmb hseq ⊢;have hmm := bits_len hmb;refine AC.seq (AC.region ?_);refine zc ?_;refine AL.nil (th_n (AC.seq ?_));refine AC.condD rfl (fun h3 => ?_) (fun h3 => ?_)
 ·refine AC.skip (th_n (AC.seq (AC.block (AC.seq ?_))));have hk1 : k < ts.length := by omega
  have hget := ints_at hk1;have hd : ts.drop k = ts[k] :: ts.drop (k + 1) := List.drop_eq_getElem_cons hk1;have hfe : FireI N mm ts[k] = fireI N mm ts[k] := FireI_yes (by rw [hg1, hmb]; rfl);refine AC.region ?_;refine zm ?_;refine AL.p (by exact g_ia_view rfl rfl rfl rfl rfl (by rfl) (by assumption)) rfl ?_;refine zr ?_;refine za ?_;refine za ?_;refine AL.nil (th_n (AC.seq (AC.region ?_)));refine kG ?_;refine zm ?_;refine zm ?_;refine AL.q (by exact h_pure en_sFire rfl rfl (by repeat (first | exact rfl | exact DLead.same | refine ⟨_, _, rfl, ?_, ?_⟩ | refine ⟨_, rfl, ?_⟩)) (sFire_spec _ _ _ (by assumption) (by omega)) rfl) rfl ?_;refine AL.p (by exact mv5 rfl) rfl ?_;refine AL.p (by exact g_extract (r := .d _) rfl rfl) rfl ?_;refine AL.p (by exact g_extract (r := .d _) rfl rfl) rfl ?_;refine za ?_;refine za ?_;refine AL.nil (th_n (AC.seq (AC.seq (AC.region ?_))));refine zm ?_;refine kC ?_;refine AL.nil (th_n ?_);refine AC.condB rfl (fun h4 => ?_) (fun h4 => ?_)
  ·refine AC.seq (AC.region ?_);refine zm ?_;refine zm ?_;refine za ?_;refine za ?_;refine za ?_;refine AL.nil (th_n (AC.ret (th_r (ib_r (th_r (th_r (ib_r (th_r (bq_r ?_)))))))));have he : fireSeq N m ts 0 = (mm, (k : Int), false) := by rw [← hseq, hd, fireSeq, if_neg (by rw [← hfe]; simpa using h4)]
   have hs := (SeqI_yes hz).trans he;exact ret3 rfl (by rw [hs]) (by rw [hs]) (by rw [hs])
  refine AC.skip (th_n (AC.region ?_));refine zm ?_;refine za ?_;refine AL.nil (ib_n (th_n (AC.region ?_)));refine zA ?_;refine zm ?_;refine AL.nil (th_n ?_);have hf : (FireI N mm ts[k]).2 = true := by simpa using h4
  have hf' : (fireI N mm ts[k]).2 = true := by rw [← hfe]; exact hf
  have he : fireSeq N (fireI N mm ts[k]).1 (ts.drop (k + 1)) ((k : Int) + 1) = fireSeq N m ts 0 := by rw [← hseq, hd, fireSeq, if_pos hf']
  exact ⟨(k + 1, (FireI N mm ts[k]).1), ⟨by show k + 1 ≤ _; omega, by show bitsB (FireI N mm ts[k]).1 _ = true; rw [hfe]; exact fireI_bits hmb hf', by show fireSeq N (FireI N mm ts[k]).1 _ _ = _; rw [hfe]; exact he⟩, by show _ - (k + 1) < _; omega, Weak.ren _ [] hC rfl (by repeat (first | exact True.intro | refine And.intro ?_ ?_ | exact DLead.same)) (by repeat (exact True.intro)) rfl rfl rfl⟩
 refine AC.exit (th_e (th_e (ib_y (th_n (AC.seq (AC.region ?_))))));refine zm ?_;refine zm ?_;refine kH ?_;refine za ?_;refine za ?_;refine za ?_;refine AL.nil (th_n (AC.ret (bq_r ?_)));have hkk : k = ts.length := by omega
 have he : fireSeq N m ts 0 = (mm, (ts.length : Int), true) := by rw [← hseq, hkk, List.drop_length]; rfl
 have hs := (SeqI_yes hz).trans he;exact ret3 rfl (by rw [hs]) (by rw [hs]) (by rw [hs])
theorem en_sFireSeq : Enters Tryz.prog 37 := enters_of Tryz.func37 rfl rfl
def hasI (l : List Int) (n : Int) : Bool := l.any (fun x => decide (x = n))
section
variable {P : Program} [PT P]
variable {s : ASt} {dst : Option Nat} {ty : Nat} {pos : String} {af : Array Edge} {gd : Option (Nat × Bool)} {x y : Operand} {t u f : Nat}
theorem retN (ρ : List (Nat × Nat)) {fn : Func} {k : Nat} {x r : AV} {chs' : List (Nat × Chunk)} (hx : resAV P s fn.results.toList = some x) (h : r.leads (sig k ρ) x) (hc : leadsC (sig k ρ) s (chL chs')) (ha : apartL (sig k ρ) (keysC (chL chs')) = true) (hρ : ρ.all (fun p => Nat.blt p.1 (k + 8)) = true) : RetQ P fn k (Fun1 r chs') s :=
  ⟨⟨x, r, chs', ρ, hx, ⟨rfl, rfl⟩, h, fun id c hc' => (leadsC_get hc id c (by rw [getL_chL]; exact hc')).1, fun id hid => by
    have : Nat.blt id k = false := by cases hb : Nat.blt id k with
      | true => have : id < k := by simpa using hb
                omega
      | false => rfl
    have h2 : getL id ρ = none := by
      cases hg : getL id ρ with
      | none => rfl
      | some v =>
        have : ∀ (l : List (Nat × Nat)), l.all (fun p => Nat.blt p.1 (k + 8)) = true → getL id l = some v → id < k + 8 := by
          intro l
          induction l with
          | nil => intro _ h; simp [getL] at h
          | cons p l ih =>
            intro h1 h2;rw [getL_cons] at h2;simp only [List.all_cons, Bool.and_eq_true] at h1
            split at h2
            · rename_i e; have := h1.1; rw [e]; simpa using this
            exact ih h1.2 h2
        have := this ρ hρ hg;omega
    simp [sig, this, h2], fun id id' j h1 h2 h3 h4 => by
    obtain ⟨c, h1⟩ := h1;obtain ⟨c', h2⟩ := h2
    exact apartL_inj ha id id' j (leadsC_get hc id c (by rw [getL_chL]; exact h1)).2 (leadsC_get hc id' c' (by rw [getL_chL]; exact h2)).2 h3 h4⟩⟩
end
theorem ints_all (l : List Int) : (ints l).take l.length = ints l := by rw [List.take_of_length_le (by simp)]
theorem ints_len (l : List Int) : (ints l).length = l.length := List.length_map _
theorem h_appendI (acc new : List Int) {s : ASt} {dst : Option Nat} {ty : Nat} {pos : String} {af : Array Edge} {gd : Option (Nat × Bool)} {x y : Operand} {f : Nat} {ids ids2 : List Nat} {gone : List (Nat × Option Chunk)}
  (hto : AppTo s x 3 1 (ints acc) ids gone) (harg : AppArg s y 1 (ints new) ids2) (h : (acc ++ new).length ≤ 100000000) (hnew : gone = [] → 0 < new.length) :
  NOp Tryz.prog (ids ++ ids2) s ⟨dst, .call { callee := .builtin .append, args := #[x, y], argTypes := #[36, 36] }, ty, pos, af, gd⟩ f ⟨.own f (acc ++ new).length, (f, some (.arr 3 1 (ints (acc ++ new)))) :: gone⟩ := by
 have := h_append (P := Tryz.prog) (s := s) (dst := dst) (ty := ty) (pos := pos) (af := af) (gd := gd) (x := x) (y := y) (f := f) (t := 36) (tx := 36) (k := (acc ++ new).length) rfl rfl rfl rfl rfl rfl hto harg (by simp) (by omega) (by show (acc ++ new).length * 8 ≤ _; omega) (fun h => by rw [ints_len]; exact hnew h)
 rwa [← List.map_append] at this
theorem share1_spec (l : List Int) (n : Int) (hl : l.length ≤ 1000000) : ASpec Tryz.prog 157 [aI n, .d (.ref [vI l])] [] (Pure1 (aT (l.any (fun x => decide (n = x))))) := by
 refine ASpec.of Tryz.func157 rfl rfl fun C hC => ?_
 refine AC.seq (AC.region ?_);refine za ?_;refine AL.nil (th_n (AC.seq (AC.region ?_)));refine zr ?_;refine zm ?_;refine AL.q (by exact h_pure en_Contains rfl rfl (by repeat (first | exact rfl | exact DLead.same | refine ⟨_, _, rfl, ?_, ?_⟩)) (Contains_spec _ (by omega) _) rfl) rfl ?_;refine za ?_;refine AL.nil (th_n (AC.ret (bq_r ?_)));exact ret1 rfl rfl
theorem en_share1 : Enters Tryz.prog 157 := enters_of Tryz.func157 rfl rfl
def shareI (a b : List Int) : Bool := a.any (fun n => b.any (fun x => decide (n = x)))
theorem share_spec (a b : List Int) (ha : a.length ≤ 1000000) (hb : b.length ≤ 1000000) : ASpec Tryz.prog 127 [.d (vI a), .d (vI b)] [] (Pure1 (aT (shareI a b))) := by
 refine ASpec.of Tryz.func127 rfl rfl fun C hC => ?_
 refine AC.seq (AC.region ?_);refine kD ?_;refine za ?_;refine AL.nil (th_n (AC.seq (AC.region ?_)));refine zm ?_;refine AL.p (by exact g_fn rfl) rfl ?_;refine AL.q (by exact h_pure en_containsInt rfl rfl (by repeat (first | exact rfl | exact DLead.same | refine ⟨_, _, rfl, ?_, ?_⟩ | refine ⟨_, rfl, ?_⟩)) (containsInt_spec a (by omega) 157 [.ref [vI b]] en_share1 (fun p => b.any (fun x => decide (p = x))) (fun p h => share1_spec b p hb)) rfl) rfl ?_;refine za ?_;refine AL.nil (th_n (AC.ret (bq_r ?_)));exact ret1 rfl rfl
theorem en_share : Enters Tryz.prog 127 := enters_of Tryz.func127 rfl rfl
section
variable {P : Program} [PT P] {C : Ctx} {s : ASt}
theorem own_view {m : Nat → Option (Option Nat × Nat)} {F F' : Nat → Prop} {w : World} {id n e sz : Nat} {els : List (List DV)} {v : Value} {p : Option Nat × Nat} (hv : ARep m F w (.own id n) v) (hp : m id = some p) (hC : CRep m F w p (.arr e sz els)) (hn : n ≤ els.length) (hF : ∀ q, F q → F' q) (hFb : ∀ b, p.1 = some b → F' b) : DRep F' w (.view e sz (els.take n)) v := by
 cases hv with
 | own hp' h0 =>
  rename_i cap b;rw [hp] at hp';simp only [Option.some.injEq] at hp';subst hp';cases hC with
  | nil h =>
   have : n = 0 := by simpa using hn
   subst this;exact .nil
  | arr hb hf hsz hl hm h0' hrow hel =>
   rename_i b arr fz;have hlen : (els.take n).length = n := by simp; omega
   have hsub : ∀ (i : Nat) cs, (els.take n)[i]? = some cs → els[i]? = some cs := by
    intro i cs hi;rw [List.getElem?_take] at hi
    split at hi
    ·exact hi
    cases hi
   have := DRep.view (F := F') (w := w) (e := e) (sz := sz) (els := els.take n) (off := 0) (cap := cap) (hFb b rfl) hb (by omega) hm (by omega) (fun i cs hi => hrow i cs (hsub i cs hi)) (fun i cs j d hi hj => by rw [Nat.zero_add]; exact (hel i cs j d (hsub i cs hi) hj).mono hF);rw [hlen] at this;exact this
theorem Weak.freezeC {id0 id k n e sz tt : Nat} {cs : List AV} {els els' : List (List DV)} (hc0 : s.chunk id0 = some (.cells tt cs)) (hk : cs[k]? = some (.own id n)) (hc : s.chunk id = some (.arr e sz els)) (hn : n ≤ els.length) (he : els.take n = els') (hne : id0 ≠ id) : Weak C s { n := s.n, nx := s.nx, sl := s.sl, ch := (id0, some (.cells tt (cs.set k (.d (.view e sz els'))))) :: (id, none) :: s.ch } := by
 subst he;refine ⟨?_⟩;rintro a w ⟨m, hR⟩
 have hch : ∀ j c, (getL j ((id0, some (.cells tt (cs.set k (.d (.view e sz (els.take n)))))) :: (id, none) :: s.ch)).getD none = some c → (j = id0 ∧ c = .cells tt (cs.set k (.d (.view e sz (els.take n))))) ∨ (j ≠ id0 ∧ j ≠ id ∧ s.chunk j = some c) := by
  intro j c h;rw [getL_cons] at h
  split at h
  ·rename_i e; simp at h; exact .inl ⟨e, h.symm⟩
  rename_i e;rw [getL_cons] at h
  split at h
  ·simp at h
  rename_i e'; exact .inr ⟨e, e', h⟩
 have hF : ∀ q, Fz C m s w q → Fz C m { n := s.n, nx := s.nx, sl := s.sl, ch := (id0, some (.cells tt (cs.set k (.d (.view e sz (els.take n)))))) :: (id, none) :: s.ch } w q := by
  intro q hq;refine ⟨hq.1, hq.2.1, fun j c p h1 h2 h3 => ?_⟩;rcases hch j c h1 with ⟨rfl, rfl⟩ | ⟨_, _, h⟩
  ·exact hq.2.2 j _ p hc0 h2 (.inl h3.one_cells)
  exact hq.2.2 j c p h h2 h3
 have old : ∀ j c, (getL j ((id0, some (.cells tt (cs.set k (.d (.view e sz (els.take n)))))) :: (id, none) :: s.ch)).getD none = some c → j ≠ id ∧ ∃ c0, s.chunk j = some c0 ∧ ∀ p b, occ p c b → occ p c0 b := by
  intro j c h;rcases hch j c h with ⟨rfl, rfl⟩ | ⟨_, h1, h2⟩
  ·exact ⟨hne, _, hc0, fun _ b hb => .inl hb.one_cells⟩
  exact ⟨h1, _, h2, fun _ _ h => h⟩
 obtain ⟨q, hq, hCq, hloc⟩ := hR.ch id _ hc
 have hFb : ∀ b, q.1 = some b → Fz C m { n := s.n, nx := s.nx, sl := s.sl, ch := (id0, some (.cells tt (cs.set k (.d (.view e sz (els.take n)))))) :: (id, none) :: s.ch } w b := by
  intro b hb;refine ⟨.inr (hloc b (.inl hb)), hCq.lt (.inl hb), fun j c p h1 h2 h3 => ?_⟩;obtain ⟨hj, c0, h4, h5⟩ := old j c h1;exact hj (hR.inj j id c0 _ p q h4 hc h2 hq b (h5 _ _ h3) (.inl hb))
 refine ⟨m, hR.fr, hR.fin, hR.sz, fun j => (hR.sl j).turn (MLe.refl m) (fun k hk _ => ⟨hF k hk, rfl⟩), fun j c h1 => ?_, fun j j' c c' p p' h1 h2 hp hp' b hb hb' => ?_, hR.un, hR.defers, hR.m0, hR.m0k⟩
 ·rcases hch j c h1 with ⟨rfl, rfl⟩ | ⟨_, _, h⟩
  ·obtain ⟨p, hp, hr, hl⟩ := hR.ch j _ hc0;refine ⟨p, hp, ?_, fun b hb => hl b (.inl hb.one_cells)⟩;cases hr with
   | cells g1 g2 g3 g4 =>
    refine .cells g1 (by simpa using g2) (fun i x hx => ?_) g4
    by_cases hik : k = i
    ·subst hik;rw [List.getElem?_set_self (List.getElem?_eq_some_iff.1 hk).1] at hx;simp only [Option.some.injEq] at hx;subst hx;exact .d (own_view (g3 k _ hk) hq (hR.chunkAt hc hq) hn hF hFb)
    rw [List.getElem?_set_ne hik] at hx;exact (g3 i x hx).turn (MLe.refl m) (fun k hk _ => ⟨hF k hk, rfl⟩)
  obtain ⟨p, hp, hr, hl⟩ := hR.ch j c h;exact ⟨p, hp, hr.turn (MLe.refl m) (fun k hk _ => ⟨hF k hk, rfl⟩) (fun _ _ => rfl), hl⟩
 obtain ⟨_, c0, g1, g2⟩ := old j c h1;obtain ⟨_, c0', g1', g2'⟩ := old j' c' h2;exact hR.inj j j' c0 c0' p p' g1 g1' hp hp' b (g2 _ _ hb) (g2' _ _ hb')
theorem Weak.nilOwnP (i k : Nat) {id0 o e sz tt : Nat} {cs : List AV} (hp : s.get i = .ptr id0 o) (hc : s.chunk id0 = some (.cells tt cs)) (hk : cs[k]? = some (.d (.val (.slice none 0 0)))) (h0 : Nat.ble 1 sz = true) (hid0 : Nat.beq id0 s.nx = false) : Weak C s { n := s.n, nx := s.nx + 8, sl := s.sl, ch := (id0, some (.cells tt (cs.set k (.own s.nx 0)))) :: (s.nx, some (.arr e sz [])) :: s.ch } :=
 Weak.nilOwnC hc hk (Nat.le_of_ble_eq_true h0) (Nat.ne_of_beq_eq_false hid0)
theorem Weak.freezeP (i k : Nat) {id0 o id n e sz tt : Nat} {cs : List AV} {els els' : List (List DV)} (hp : s.get i = .ptr id0 o) (hc0 : s.chunk id0 = some (.cells tt cs)) (hk : cs[k]? = some (.own id n)) (hc : s.chunk id = some (.arr e sz els)) (hn : n ≤ els.length) (he : els.take n = els') (hne : Nat.beq id0 id = false) : Weak C s { n := s.n, nx := s.nx, sl := s.sl, ch := (id0, some (.cells tt (cs.set k (.d (.view e sz els'))))) :: (id, none) :: s.ch } :=
 Weak.freezeC hc0 hk hc hn he (Nat.ne_of_beq_eq_false hne)
end
open Go.ChangeShapes Go.WideShapes Go.ChangeAt Go.RowKit
theorem rowAt_le {p : Program} {fits : TypeId → Bool} {e : TypeId} {count off n : Nat} : ∀ {d : Nat}, rowAt p fits d e count off n = true → off ≤ count * p.cellsOf e
 | 0, h => by simp [rowAt] at h
 | d + 1, h => by
  unfold rowAt at h
  by_cases hs : p.cellsOf e = 0
  ·simp [hs] at h
  simp only [hs, if_false, Bool.or_eq_true, Bool.and_eq_true, beq_iff_eq, decide_eq_true_eq] at h;have hp : 0 < p.cellsOf e := by omega
  have hd := Nat.div_add_mod off (p.cellsOf e);rcases h with ⟨⟨h1, h2⟩, _⟩ | ⟨h1, _⟩
  ·have : p.cellsOf e * (off / p.cellsOf e) ≤ count * p.cellsOf e := by rw [Nat.mul_comm count]; exact Nat.mul_le_mul_left _ (by omega)
   omega
  have h3 : p.cellsOf e * (off / p.cellsOf e + 1) ≤ count * p.cellsOf e := by rw [Nat.mul_comm count]; exact Nat.mul_le_mul_left _ (by omega)
  have := Nat.mod_lt off hp;rw [Nat.mul_add, Nat.mul_one] at h3;omega
theorem lies_le {p : Program} {e u : TypeId} {cells off n d : Nat} (hu : ∀ m u', p.underlying u ≠ some (.array m u')) (h : liesAt p d e (cells / p.cellsOf e) off u n = true) : off ≤ cells := by
 cases d with
 | zero => simp [liesAt] at h
 | succ d =>
  unfold liesAt at h;rw [Bool.or_eq_true] at h;rcases h with h | h
  ·have := rowAt_le h;exact Nat.le_trans this (Nat.div_mul_le_self _ _)
  split at h
  ·rename_i m u' e2; exact absurd e2 (hu m u')
  cases h
theorem byte_of {n : Int} (h : (Lit.int .u8 n).wf = true) : n = (((UInt8.ofNat n.toNat).toNat : Nat) : Int) := by
 have := bounds_u8 h
 have e : (UInt8.ofNat n.toNat).toNat = n.toNat := by
  rw [UInt8.toNat_ofNat'];exact Nat.mod_eq_of_lt (by omega)
 rw [e]; omega
theorem okWide_has {P : Program} {w : World} {r : Reach} {base : Nat} {t e : TypeId} {a : Addr} {len cap : Nat} (ht : P.underlying t = some (.slice e)) (h : Value.okWide P w r base t (.slice (some a) len cap)) : w.has P r base a e cap := by
 simp only [Value.okWide, ht, Cell.okWide, Cell.ok] at h;exact h.2.2
theorem arg_bytes {H : Type} {enc : TypeId × Value → H} {P : Program} {W : World} {t e te base : Nat} {v : Value} {d : DataW H} {ps : List MemPlace} (ht : P.underlying t = some (.slice e)) (he : P.underlying e = some (.int .u8)) (hc : P.cellsOf e = 1)
  (hval : Value.okWide P W .any base t v) (h : DataW.Trod enc P W 0 (fun _ => true) true t v d ps) :
  ∃ xs : List UInt8, xs.length ≤ 9223372036854775807 ∧ DRep (fun k => k < W.heap.size) W (.view te 1 (xs.map fun b => [dB b])) v := by
 obtain ⟨a0, len, cap, rfl⟩ := okWide_slice ht hval;obtain ⟨fuel, hf⟩ := h;rcases open_ints ht he hc hf with ⟨hcs, hx⟩ | ⟨a, len', cap', zs, hcs, _, hl, hm, hz, hx, hcell, hwz⟩
 ·simp [Value.cells] at hcs;obtain ⟨rfl, rfl, rfl⟩ := hcs;exact ⟨[], Nat.zero_le _, .nil⟩
 simp [Value.cells] at hcs;obtain ⟨rfl, rfl, rfl⟩ := hcs;simp only [if_true] at hz;obtain ⟨_, hspot, row, cells, hsh, hlies⟩ := okWide_has ht hval;have hoff : a.off ≤ cells := lies_le (fun m u' hh => by rw [he] at hh; cases hh) hlies;unfold World.shape? at hsh
 split at hsh
 ·rename_i arr el fz hb;simp only [Option.some.injEq, Prod.mk.injEq] at hsh;obtain ⟨rfl, rfl⟩ := hsh;obtain ⟨b, off, spot⟩ := a;simp only at hspot hb hoff;subst hspot
  have hat : ∀ i, i < zs.length → arr[off + i]? = some (.int .u8 (zs.getD i 0)) := by
   intro i hi;have := hcell i hi;rw [add_plain] at this;unfold World.cell? at this;simpa [hb] using this
  have hsz : off + cap ≤ arr.size := by
   by_cases hc0 : cap = 0
   ·omega
   have := hat (cap - 1) (by omega);have := (Array.getElem?_eq_some_iff.1 this).1;omega
  refine ⟨(zs.take len).map fun n => UInt8.ofNat n.toNat, ?_, ?_⟩
  ·rw [List.length_map, List.length_take];have : cap ≤ 9223372036854775807 := hm;omega
  have hle : (((zs.take len).map fun n => UInt8.ofNat n.toNat).map fun b => [dB b]).length = len := by
   rw [List.length_map, List.length_map, List.length_take]; omega
  have hv := DRep.view (F := fun k => k < W.heap.size) (w := W) (e := te) (sz := 1) (els := ((zs.take len).map fun n => UInt8.ofNat n.toNat).map fun b => [dB b]) (b := b) (off := off) (cap := cap) (arr := arr) (lt_of_block hb) hb (by omega) hm (by omega) (fun i cs hi => ?_) (fun i cs j d hi hj => ?_)
  ·rw [hle] at hv; exact hv
  ·rw [List.getElem?_map] at hi;cases hh : ((zs.take len).map fun n => UInt8.ofNat n.toNat)[i]? with
   | none => rw [hh] at hi; cases hi
   | some b => rw [hh] at hi; cases hi; rfl
  rw [List.getElem?_map, List.getElem?_map] at hi;cases hh : (zs.take len)[i]? with
  | none => rw [hh] at hi; cases hi
  | some n =>
   rw [hh] at hi;cases hi;obtain ⟨hi1, hi2⟩ := List.getElem?_eq_some_iff.1 hh;rw [List.length_take] at hi1;rw [List.getElem_take] at hi2;have hw := hwz n (by rw [← hi2]; exact List.getElem_mem _);cases j with
   | succ j => simp at hj
   | zero =>
    simp only [List.getElem?_cons_zero, Option.some.injEq] at hj;subst hj;have hai := hat i (by omega);have hgd : zs.getD i 0 = n := by rw [List.getD_eq_getElem?_getD, List.getElem?_eq_getElem (by omega), hi2]; rfl
    rw [hgd] at hai
    have : arr.getD (off + i * 1 + 0) undef = .int .u8 n := by
     rw [Nat.mul_one, Nat.add_zero, Array.getD_eq_getD_getElem?, hai]; rfl
    rw [this];have hb8 := byte_of hw;generalize (UInt8.ofNat n.toNat) = b8 at hb8;subst hb8;refine .val ?_;show IntKind.u8.wrap _ = _;rw [wrap_ok];have := UInt8.toNat_lt b8;exact ⟨by show (0 : Int) ≤ _; omega, by show _ ≤ (255 : Int); omega⟩
 cases hsh
theorem ASpec.law {P : Program} {f : FuncId} {ars : List AV} {W : World} {vs : Array Value} (h : ASpec P f ars [] (Pure1 (aT true))) (hn : vs.size = ars.length) (ha : ∀ (i : Nat) x, ars[i]? = some x → ARep (fun _ => none) (fun k => k < W.heap.size) W x (vs.getD i undef)) :
  Calls P f vs W fun e W' => e = .returned (.bool true) ∧ Below W.heap.size W W' := by
 refine (h W (fun _ => none) (fun k => k < W.heap.size) vs (fun k hk => ⟨hk, fun id c p hc => by simp [getL] at hc⟩) hn ha (fun id c hc => by simp [getL] at hc) (fun id id' c c' p p' b hc => by simp [getL] at hc) (fun id _ => rfl)).mono ?_;rintro e W' ⟨v, r, chs', m', F', rfl, ⟨rfl, rfl⟩, _, _, _, ⟨h1, h2, h3, h4, h5⟩, hv, _⟩;refine ⟨?_, h1, h2, h3, h4, fun k hk => h5 k hk (fun id c p hc => by simp [getL] at hc)⟩;cases hv with
 | d hd => cases hd; rfl
section
variable {P : Program} [PT P] {s : ASt} {dst : Option Nat} {ty : Nat} {pos : String} {af : Array Edge} {gd : Option (Nat × Bool)} {x y : Operand} {f t : Nat}
theorem h_make {e n bt sz k : Nat} {zs : List ZK} {te : TS} {I : Int} (ht : PT.ty P t = some ⟨.slice e, n, bt, zs⟩) (he : PT.ty P e = some te) (hs : te.size = sz) (hz0 : te.zero.length = te.size) (h0 : Nat.beq sz 0 = false)
  (hx : s.ev x = aI I) (hy : s.ev y = aI I) (hI : I = (k : Int)) (hbytes : te.bytes * k ≤ 281474976710656) (hk : k ≤ 9223372036854775807) :
  NOp P [] s ⟨dst, .makeSlice t x y, ty, pos, af, gd⟩ f ⟨.own f k, [(f, some (.arr e sz (List.replicate k (te.zero.map fun z => DV.val z.val))))]⟩ := by
 refine NOp.value fun s' ha C U U' a w m hR hU hU' hd => ?_
 have hne : sz ≠ 0 := Nat.ne_of_beq_eq_false h0;obtain ⟨i, d, z, hi, hd', hkd, h1, h2, h3, h4⟩ := PT.facts he;have hvx := hR.ev x;rw [ha.2.1 x (by simp [Op.operands]), hx] at hvx;obtain ⟨ex, _⟩ := hvx.val_eq;have hvy := hR.ev y;rw [ha.2.1 y (by simp [Op.operands]), hy] at hvy;obtain ⟨ey, _⟩ := hvy.val_eq;subst hI
 have hb' : (i.bytes : Int) * (k : Int) ≤ 281474976710656 := by
  rw [h2];have : ((te.bytes * k : Nat) : Int) ≤ 281474976710656 := by omega
  rwa [Int.natCast_mul] at this
 have hrun := run_make (P := P) w t e i z (PT.slice ht) hi h3 .i64 .i64 (k : Int) (k : Int) (by omega) (Int.le_refl _) hb' (by omega);simp only [Int.toNat_natCast] at hrun;have hzc : z.cells.size = sz := by rw [h4]; simp [hz0, hs]
 have hXs : (madeCells z.cells (k * i.size)).size = k * sz := by rw [size_madeCells, h1, hs]
 refine ⟨_, _, _, ?_, hR.newArr (n := k) (cap := k) (els := List.replicate k (te.zero.map fun z => DV.val z.val)) (vs := madeCells z.cells (k * i.size)) (fz := (0, 0)) (e := e) (sz := sz) hd (by simpa using hU 0 (by omega)) (fun j hj => by have := hU' j hj; exact ⟨this.1, by omega⟩) (by simp) hXs (by simp) (by simp only [maxLen]; omega) (by omega) (fun i' cs hc => ?_) (fun i' cs j dd hc hdd => ?_)⟩
 ·simp only [execOp, Sem.run_bind, ex, ey, hrun]
  rfl
 ·obtain ⟨h5, h6⟩ := List.getElem?_eq_some_iff.1 hc;rw [List.getElem_replicate] at h6;rw [← h6, List.length_map, hz0, hs]
 obtain ⟨h5, h6⟩ := List.getElem?_eq_some_iff.1 hc;rw [List.getElem_replicate] at h6;rw [List.length_replicate] at h5;subst h6;rw [List.getElem?_map, Option.map_eq_some_iff] at hdd;obtain ⟨zk, hzk, rfl⟩ := hdd;have hj : j < sz := by have := (List.getElem?_eq_some_iff.1 hzk).1; omega
 have hin : i' * sz + j < k * i.size := by
  rw [h1, hs];have : (i' + 1) * sz ≤ k * sz := Nat.mul_le_mul_right _ h5;rw [Nat.succ_mul] at this; omega
 have hmod : (i' * sz + j) % sz = j := by rw [Nat.mul_comm, Nat.mul_add_mod, Nat.mod_eq_of_lt hj]
 have hval : (madeCells z.cells (k * i.size)).getD (i' * sz + j) undef = zk.val := by
  unfold madeCells;rw [Array.getD_eq_getD_getElem?, Array.getElem?_map, Array.getElem?_range, if_pos hin];show z.cells[(i' * sz + j) % z.cells.size]! = zk.val;rw [hzc, hmod, h4];rw [getElem!_def];simp [hzk]
 rw [hval];exact .val zk.ok
end
structure Cond where
 place : Int
 by_ : Int
 deriving DecidableEq
structure Ev where
 t : Int
 pre : List Int
 deriving DecidableEq
structure Unf where
 cs : List Cond
 es : List Ev
 deriving DecidableEq
abbrev condD (c : Cond) : List DV := [dI c.place, dI c.by_]
abbrev evD (e : Ev) : List DV := [dI e.t, vI e.pre]
abbrev evA (e : Ev) : AV := .agg [aI e.t, .d (vI e.pre)]
abbrev condsL (l : List Cond) : List (List DV) := l.map condD
abbrev evsL (l : List Ev) : List (List DV) := l.map evD
abbrev vCs (l : List Cond) : DV := .view 143 2 (condsL l)
abbrev vEs (l : List Ev) : DV := .view 59 2 (evsL l)
abbrev unfA (u : Unf) : AV := .agg [.d (vCs u.cs), .d (vEs u.es)]
abbrev unfD (u : Unf) : List DV := [vCs u.cs, vEs u.es]
theorem condsL_get {l : List Cond} {k : Nat} (h : k < l.length) : (condsL l)[k]? = some [dI l[k].place, dI l[k].by_] := by simp [condsL, List.getElem?_map, List.getElem?_eq_getElem h]
theorem evsL_get {l : List Ev} {k : Nat} (h : k < l.length) : (evsL l)[k]? = some [dI l[k].t, vI l[k].pre] := by simp [evsL, List.getElem?_map, List.getElem?_eq_getElem h]
def inR (N : Net) (t : Int) : Bool := decide (0 ≤ t) && decide (t ≤ (N.ts.length : Int) - 1)
def readyL (N : Net) (m : List UInt8) (k : Nat) : List Int := ((List.range k).filter (fun i => match N.ts[i]? with | some t => readyS t m | none => false)).map (fun (i : Nat) => (i : Int))
theorem readyL_succ {N : Net} {m : List UInt8} {k : Nat} (hk : k < N.ts.length) : readyL N m (k + 1) = readyL N m k ++ (if readyS N.ts[k] m then [(k : Int)] else []) := by
 unfold readyL;rw [List.range_succ, List.filter_append, List.map_append];congr 1;simp only [List.filter_cons, List.getElem?_eq_getElem hk, List.filter_nil]
 split <;> rfl
theorem readyL_t {N : Net} {m : List UInt8} {k : Nat} (hk : k < N.ts.length) (h : readyS N.ts[k] m = true) : readyL N m (k + 1) = readyL N m k ++ [(k : Int)] := by rw [readyL_succ hk, h]; rfl
theorem readyL_f {N : Net} {m : List UInt8} {k : Nat} (hk : k < N.ts.length) (h : readyS N.ts[k] m = false) : readyL N m (k + 1) = readyL N m k := by rw [readyL_succ hk, h]; exact List.append_nil _
theorem readyL_len (N : Net) (m : List UInt8) (k : Nat) : (readyL N m k).length ≤ k := by
 unfold readyL;rw [List.length_map];exact Nat.le_trans (List.length_filter_le _ _) (by simp)
set_option maxHeartbeats 2000000 in
theorem l1Enabled_spec (N : Net) (m : List UInt8) (hB : NetB N) (hM : NetM N m) : ASpec Tryz.prog 134 [netA N, aS (bstr m)] [] (Pure1 (.d (vI (readyL N m N.ts.length)))) := by
 have hl := hB.l;refine ASpec.of Tryz.func134 rfl rfl fun C hC => ?_
 refine AC.seq (AC.region ?_);refine kD ?_;refine za ?_;refine AL.nil (th_n (AC.seq (AC.region ?_)));refine za ?_;refine AL.nil (th_n (AC.seq (AC.seq (AC.region ?_))));refine zf ?_;refine zr ?_;refine kH ?_;refine zm ?_;refine AL.nil (th_n (AC.block ?_));refine AC.loop (ι := Nat) (fun k => ⟨23, 108, [(1, aS (bstr m)), (2, .d (.ref (netD N))), (5, .own 100 (readyL N m k).length), (9, aI N.ts.length), (10, aI k)], [(100, some (.arr 3 1 (ints (readyL N m k))))]⟩) (fun k => k ≤ N.ts.length) (fun k => N.ts.length - k) (0) ?_ (Nat.zero_le _) ?_
 ·exact (Weak.nilOwn (i := 5) (e := 3) (sz := 1) rfl (by decide)).trans (zw [(100, _)] hC)
 intro k hk;refine AC.seq (AC.region ?_);refine zc ?_;refine AL.nil (th_n (AC.seq ?_));refine AC.condD rfl (fun h0 => ?_) (fun h0 => ?_)
 ·refine AC.skip (th_n (AC.seq (AC.block (AC.seq ?_))));have hk1 : k < N.ts.length := by omega
  have hl1 := (hB.t _ (List.getElem_mem hk1)).1;have hp1 := (hM _ (List.getElem_mem hk1)).1;have hrs := readyL_succ (m := m) hk1;have hln := readyL_len N m k;refine AC.region ?_;refine zm ?_;refine za ?_;refine AL.nil (th_n (AC.seq (AC.region ?_)));refine kG ?_;refine zm ?_;refine zm ?_;refine AL.q (by exact h_pure en_l1Ready rfl rfl (by repeat (first | exact rfl | exact DLead.same | refine ⟨_, _, rfl, ?_, ?_⟩ | refine ⟨_, rfl, ?_⟩)) (l1Ready_spec _ _ _ (by assumption) (by assumption) (by assumption)) rfl) rfl ?_;refine AL.nil (th_n ?_);refine AC.condB rfl (fun h1 => ?_) (fun h1 => ?_)
  ·refine AC.region ?_;refine kB ?_;refine zm ?_;refine AL.q (by exact h_litF rfl rfl rfl rfl rfl rfl rfl rfl) rfl ?_;refine AL.q (by exact h_appendI (readyL N m k) [(k : Int)] (.own rfl rfl (ints_len _).symm) (.view rfl) (by simp; omega) (by simp)) rfl ?_;refine AL.p (by exact as2 rfl) rfl ?_;refine AL.nil (ib_n (th_n (AC.region ?_)));refine zA ?_;refine zm ?_;refine AL.nil (th_n ?_);have e : readyL N m (k + 1) = readyL N m k ++ [(k : Int)] ∨ readyL N m (k + 1) = readyL N m k := by exact .inl (readyL_t hk1 h1)
   (have e := readyL_t hk1 h1; exact ⟨k + 1, by omega, by omega, zw [(100, _)] hC (by rw [e]; repeat (first | exact True.intro | refine And.intro ?_ ?_ | exact DLead.same | exact rfl | refine ⟨_, rfl, ?_⟩)) (by rw [e]; repeat (first | exact True.intro | refine And.intro ?_ ?_ | exact rfl | refine ⟨_, _, rfl, rfl, ?_⟩))⟩)
  refine AC.skip (ib_n (th_n (AC.region ?_)));refine zA ?_;refine zm ?_;refine AL.nil (th_n ?_);have e : readyL N m (k + 1) = readyL N m k ++ [(k : Int)] ∨ readyL N m (k + 1) = readyL N m k := by exact .inr (readyL_f hk1 h1)
  (have e := readyL_f hk1 h1; exact ⟨k + 1, by omega, by omega, zw [(100, _)] hC (by rw [e]; repeat (first | exact True.intro | refine And.intro ?_ ?_ | exact DLead.same | exact rfl | refine ⟨_, rfl, ?_⟩)) (by rw [e]; repeat (first | exact True.intro | refine And.intro ?_ ?_ | exact rfl | refine ⟨_, _, rfl, rfl, ?_⟩))⟩)
 refine AC.exit (th_e (th_e (ib_y (th_n (AC.seq ?_)))));have hkk : k = N.ts.length := by omega
 subst hkk;refine AC.weak (Weak.freeze (i := 5) rfl rfl (Nat.le_of_eq (ints_len _).symm) (ints_all _)) ?_;refine AC.region ?_;refine zm ?_;refine za ?_;refine AL.nil (th_n (AC.ret (bq_r ?_)));exact ret1 rfl rfl
theorem en_l1Enabled : Enters Tryz.prog 134 := enters_of Tryz.func134 rfl rfl
def Cur.pick (c : Cur) (n : Int) : Int × Cur :=
 if n ≤ 1 then (0, c) else if 200 < n then ((c.next * 256 + c.after.next).tmod n, c.after.after) else (c.next.tmod n, c.after)
theorem drawn_in (s : Int) : 0 ≤ drawn s ∧ drawn s ≤ 255 := by
 unfold drawn
 have h1 : (BitVec.ofInt 64 (s.fdiv (2 ^ (min (40 : Int).toNat 64))) &&& BitVec.ofInt 64 255).toNat ≤ 255 := by
  rw [BitVec.toNat_and];exact Nat.le_trans Nat.and_le_right (by decide)
 generalize (BitVec.ofInt 64 (s.fdiv (2 ^ (min (40 : Int).toNat 64))) &&& BitVec.ofInt 64 255).toNat = x at h1;have h2 : IntKind.u64.wrap (x : Int) = x := wrap_u64 (by omega);rw [h2, wrap_i64 (by omega)];omega
theorem Cur.next_in (c : Cur) : 0 ≤ c.next ∧ c.next ≤ 255 := by
 unfold Cur.next
 split
 ·exact c.byte_in
 exact drawn_in _
theorem Cur.pick_in (c : Cur) (n : Int) (h : 1 ≤ n) : 0 ≤ (c.pick n).1 ∧ (c.pick n).1 < n := by
 have h1 := c.next_in;have h2 := c.after.next_in;unfold Cur.pick
 split
 ·exact ⟨Int.le_refl _, by show (0 : Int) < n; omega⟩
 split
 ·exact ⟨Int.tmod_nonneg _ (by omega), Int.tmod_lt_of_pos _ (by omega)⟩
 exact ⟨Int.tmod_nonneg _ (by omega), Int.tmod_lt_of_pos _ (by omega)⟩
theorem Cur.pick_pos (c : Cur) (n : Int) : (c.pick n).2.pos ≤ c.pos + 2 := by
 unfold Cur.pick
 split
 ·show c.pos ≤ _; omega
 split
 ·show c.pos + 1 + 1 ≤ _; omega
 show c.pos + 1 ≤ _; omega
theorem Cur.pick_code (c : Cur) (n : Int) : (c.pick n).2.code = c.code := by
 unfold Cur.pick
 split
 ·rfl
 split <;> rfl
set_option maxHeartbeats 1000000 in
theorem pick_spec (c : Cur) (n : Int) (hn : n ≤ 65536) (hp : c.pos ≤ 100000000000000) : ASpec Tryz.prog 48 [.ptr 0 0, aI n] [(0, curC c)] (Fun1 (aI (c.pick n).1) [(0, curC (c.pick n).2)]) := by
 have hi := c.next_in;have hi2 := c.after.next_in;have hpa : c.after.pos ≤ 1000000000000000 := by show c.pos + 1 ≤ _; omega
 refine ASpec.of Tryz.func48 rfl rfl fun C hC => ?_
 refine AC.seq (AC.region ?_);refine za ?_;refine AL.nil (th_n (AC.seq (AC.seq (AC.region ?_))));refine zm ?_;refine zc ?_;refine AL.nil (th_n ?_);refine AC.condD rfl (fun h0 => ?_) (fun h0 => ?_)
 ·refine AC.seq (AC.region ?_);refine za ?_;refine AL.nil (th_n (AC.ret (th_r (bq_r ?_))));have e : c.pick n = (0, c) := by unfold Cur.pick; rw [if_pos h0]
  exact retF rfl (by rw [e]; repeat (exact DLead.same)) (by rw [e]; repeat (first | exact True.intro | refine And.intro ?_ ?_ | exact DLead.same | exact rfl | refine ⟨_, _, rfl, rfl, ?_⟩ | refine ⟨_, rfl, ?_⟩ | refine ⟨_, _, rfl, ?_, ?_⟩)) rfl
 refine AC.skip (th_n (AC.seq (AC.region ?_)));refine AL.p (by exact mv3 rfl) rfl ?_;refine AL.q (by exact h_fun (cs := [0]) en_next rfl rfl (by repeat (first | exact rfl | refine ⟨_, _, rfl, ?_, ?_⟩ | refine ⟨_, rfl, ?_⟩)) (by repeat (first | exact True.intro | refine And.intro ?_ ?_ | exact DLead.same | exact rfl | refine ⟨_, _, rfl, rfl, ?_⟩ | refine ⟨_, rfl, ?_⟩ | refine ⟨_, _, rfl, ?_, ?_⟩)) (next_spec _ (by omega)) rfl rfl rfl rfl) rfl ?_;refine za ?_;refine AL.nil (th_n (AC.seq (AC.seq (AC.region ?_))));refine zm ?_;refine zc ?_;refine AL.nil (th_n ?_);refine AC.condD rfl (fun h1 => ?_) (fun h1 => ?_)
 ·refine AC.region ?_;refine zm ?_;refine zA ?_;refine AL.p (by exact mv3 rfl) rfl ?_;refine AL.q (by exact h_fun (cs := [0]) en_next rfl rfl (by repeat (first | exact rfl | refine ⟨_, _, rfl, ?_, ?_⟩ | refine ⟨_, rfl, ?_⟩)) (by repeat (first | exact True.intro | refine And.intro ?_ ?_ | exact DLead.same | exact rfl | refine ⟨_, _, rfl, rfl, ?_⟩ | refine ⟨_, rfl, ?_⟩ | refine ⟨_, _, rfl, ?_, ?_⟩)) (next_spec _ (by assumption)) rfl rfl rfl rfl) rfl ?_;refine zA ?_;refine za ?_;refine AL.nil (th_n (AC.seq (AC.region ?_)));refine zm ?_;refine zm ?_;refine AL.p (by exact g_rem rfl rfl (by omega) rfl) rfl ?_;refine za ?_;refine AL.nil (th_n (AC.ret (bq_r ?_)))
  (have e : c.pick n = ((c.next * 256 + c.after.next).tmod n, c.after.after) := (by unfold Cur.pick; rw [if_neg h0, if_pos h1]); exact retF rfl (by rw [e]; repeat (exact DLead.same)) (by rw [e]; repeat (first | exact True.intro | refine And.intro ?_ ?_ | exact DLead.same | exact rfl | refine ⟨_, _, rfl, rfl, ?_⟩ | refine ⟨_, rfl, ?_⟩ | refine ⟨_, _, rfl, ?_, ?_⟩)) rfl)
 refine AC.skip (th_n (AC.seq (AC.region ?_)));refine zm ?_;refine zm ?_;refine AL.p (by exact g_rem rfl rfl (by omega) rfl) rfl ?_;refine za ?_;refine AL.nil (th_n (AC.ret (bq_r ?_)))
 (have e : c.pick n = (c.next.tmod n, c.after) := (by unfold Cur.pick; rw [if_neg h0, if_neg h1]); exact retF rfl (by rw [e]; repeat (exact DLead.same)) (by rw [e]; repeat (first | exact True.intro | refine And.intro ?_ ?_ | exact DLead.same | exact rfl | refine ⟨_, _, rfl, rfl, ?_⟩ | refine ⟨_, rfl, ?_⟩ | refine ⟨_, _, rfl, ?_, ?_⟩)) rfl)
theorem en_pick : Enters Tryz.prog 48 := enters_of Tryz.func48 rfl rfl
theorem one_spec (c : Cur) (n : Int) (hn : n ≤ 65536) (hp : c.pos ≤ 100000000000000) : ASpec Tryz.prog 100 [.ptr 0 0, aI n] [(0, curC c)] (Fun1 (aT (decide ((c.pick n).1 = 0))) [(0, curC (c.pick n).2)]) := by
 refine ASpec.of Tryz.func100 rfl rfl fun C hC => ?_
 refine AC.seq (AC.region ?_);refine za ?_;refine AL.nil (th_n (AC.seq (AC.region ?_)));refine AL.p (by exact mv3 rfl) rfl ?_;refine zm ?_;refine AL.q (by exact h_fun (cs := [0]) en_pick rfl rfl (by repeat (first | exact rfl | exact DLead.same | refine ⟨_, _, rfl, ?_, ?_⟩ | refine ⟨_, rfl, ?_⟩)) (by repeat (first | exact True.intro | refine And.intro ?_ ?_ | exact DLead.same | exact rfl | refine ⟨_, _, rfl, rfl, ?_⟩ | refine ⟨_, rfl, ?_⟩ | refine ⟨_, _, rfl, ?_, ?_⟩)) (pick_spec _ _ (by assumption) (by assumption)) rfl rfl rfl rfl) rfl ?_;refine zc ?_;refine za ?_;refine AL.nil (th_n (AC.ret (bq_r ?_)));exact retF rfl (by repeat (exact DLead.same)) (by repeat (first | exact True.intro | refine And.intro ?_ ?_ | exact DLead.same | exact rfl | refine ⟨_, _, rfl, rfl, ?_⟩ | refine ⟨_, rfl, ?_⟩ | refine ⟨_, _, rfl, ?_, ?_⟩)) rfl
theorem en_one : Enters Tryz.prog 100 := enters_of Tryz.func100 rfl rfl
def putI (l : List Int) (x : Int) : List Int :=
 if l[l.findIdx (fun y => decide (x ≤ y))]? = some x then l else l.take (l.findIdx (fun y => decide (x ≤ y))) ++ [x] ++ l.drop (l.findIdx (fun y => decide (x ≤ y)))
theorem putI_len (l : List Int) (x : Int) : (putI l x).length ≤ l.length + 1 := by
 unfold putI
 split
 ·omega
 simp; omega
theorem idx_at {l : List Int} {x : Int} {k : Nat} (hk : k < l.length) (h : ¬ l[k] < x) (hp : ∀ j (hj : j < k), l[j]'(by omega) < x) : l.findIdx (fun y => decide (x ≤ y)) = k :=
 (List.findIdx_eq hk).2 ⟨by simp; omega, fun j hj => by have := hp j hj; simp; omega⟩
theorem idx_end {l : List Int} {x : Int} (hp : ∀ j (hj : j < l.length), l[j] < x) {k : Nat} (hk : l.length = k) : l.findIdx (fun y => decide (x ≤ y)) = k := by
 subst hk;exact List.findIdx_eq_length.2 (fun y hy => by obtain ⟨j, hj, rfl⟩ := List.getElem_of_mem hy; have := hp j hj; simp; omega)
theorem putI_same {l : List Int} {x : Int} {k : Nat} (h : l.findIdx (fun y => decide (x ≤ y)) = k) (hk : k < l.length) (he : l[k] = x) : putI l x = l := by
 unfold putI; rw [h, List.getElem?_eq_getElem hk, he, if_pos rfl]
theorem putI_at {l : List Int} {x : Int} {k : Nat} (h : l.findIdx (fun y => decide (x ≤ y)) = k) (hk : k < l.length) (he : ¬ l[k] = x) : putI l x = l.take k ++ [x] ++ l.drop k := by
 unfold putI; rw [h, List.getElem?_eq_getElem hk, if_neg (by simpa using he)]
theorem putI_end {l : List Int} {x : Int} {k : Nat} (h : l.findIdx (fun y => decide (x ≤ y)) = k) (hk : l.length ≤ k) : putI l x = l.take k ++ [x] ++ l.drop k := by
 unfold putI; rw [h, List.getElem?_eq_none hk, if_neg (by simp)]
set_option maxHeartbeats 2000000 in
theorem l1Put_spec (l : List Int) (x : Int) (hl : l.length ≤ 1000000) : ASpec Tryz.prog 131 [.d (vI l), aI x] [] (Pure1 (.d (vI (putI l x)))) := by
 refine ASpec.of Tryz.func131 rfl rfl fun C hC => ?_
 refine AC.seq (AC.region ?_);refine za ?_;refine AL.nil (th_n (AC.seq (AC.region ?_)));refine za ?_;refine AL.nil (th_n ?_);refine AC.cut (fun (k : Nat) => ⟨48, 0, [(0, .d (vI l)), (1, aI x), (5, aI k)], []⟩) (fun k => k ≤ l.length ∧ l.findIdx (fun y => decide (x ≤ y)) = k) ?_ ?_
 ·refine AC.block ?_;refine AC.loop (ι := Nat) (fun k => ⟨48, 0, [(0, .d (vI l)), (1, aI x), (5, aI k)], []⟩) (fun k => k ≤ l.length ∧ ∀ j (hj : j < l.length), j < k → l[j] < x) (fun k => l.length - k) (0) ?_ (⟨Nat.zero_le _, fun j _ hj => by omega⟩) ?_
  ·refine Weak.ren _ [] hC rfl ?_ ?_ rfl rfl rfl <;> repeat (first | exact True.intro | refine And.intro ?_ ?_ | exact DLead.same)
  intro k ⟨hk, hall⟩;refine AC.seq (AC.seq (AC.region ?_));refine zm ?_;refine zm ?_;refine kH ?_;refine zc ?_;refine zm ?_;refine AL.caseG rfl rfl (fun h0 => ?_) (fun h0 => ?_)
  ·refine zy ?_;have hk1 : k < l.length := by omega
   have hget := ints_at hk1;refine zm ?_;refine zy ?_;refine zm ?_;refine zy ?_;refine AL.p (by exact g_ia_view rfl rfl rfl rfl rfl (by rfl) (by assumption)) rfl ?_;refine zy ?_;refine zr ?_;refine zy ?_;refine zm ?_;refine zy ?_;refine zc ?_;refine zQ ?_;refine AL.nil (th_n ?_);refine AC.condD rfl (fun h1 => ?_) (fun h1 => ?_)
   ·refine AC.skip (th_n (AC.block (AC.region ?_)));refine zm ?_;refine zA ?_;refine za ?_;refine AL.nil (ib_n (th_n ?_));exact ⟨k + 1, ⟨by omega, fun j hj hj2 => by rcases Nat.lt_succ_iff_lt_or_eq.1 hj2 with h | rfl; exact hall j hj h; exact h1⟩, by omega, Weak.ren _ [] hC rfl (by repeat (first | exact True.intro | refine And.intro ?_ ?_ | exact DLead.same)) (by repeat (exact True.intro)) rfl rfl rfl⟩
   refine AC.exit (th_e (th_e (ib_y (th_n ?_))));exact ⟨k, ⟨hk, idx_at hk1 h1 (fun j hj => hall j (by omega) hj)⟩, Weak.ren _ [] hC rfl (by repeat (first | exact True.intro | refine And.intro ?_ ?_ | exact DLead.same)) (by repeat (exact True.intro)) rfl rfl rfl⟩
  refine zn ?_;refine zn ?_;refine zn ?_;refine zn ?_;refine zn ?_;refine zn ?_;refine zP ?_;refine AL.nil (th_n ?_);refine AC.condF rfl ?_;refine AC.exit (th_e (th_e (ib_y (th_n ?_))));exact ⟨k, ⟨hk, idx_end (fun j hj => hall j hj (by omega)) (by omega)⟩, Weak.ren _ [] hC rfl (by repeat (first | exact True.intro | refine And.intro ?_ ?_ | exact DLead.same)) (by repeat (exact True.intro)) rfl rfl rfl⟩
 intro k ⟨hk, hidx⟩;refine AC.seq (AC.seq (AC.region ?_));refine zm ?_;refine zm ?_;refine kH ?_;refine zc ?_;refine zm ?_;refine AL.caseG rfl rfl (fun h0 => ?_) (fun h0 => ?_)
 ·refine zy ?_;have hk1 : k < l.length := by omega
  have hget := ints_at hk1;refine zm ?_;refine zy ?_;refine zm ?_;refine zy ?_;refine AL.p (by exact g_ia_view rfl rfl rfl rfl rfl (by rfl) (by assumption)) rfl ?_;refine zy ?_;refine zr ?_;refine zy ?_;refine zm ?_;refine zy ?_;refine zc ?_;refine zQ ?_;refine AL.nil (th_n ?_);refine AC.condD rfl (fun h1 => ?_) (fun h1 => ?_)
  ·refine AC.seq (AC.region ?_);refine zm ?_;refine za ?_;refine AL.nil (th_n (AC.ret (th_r (bq_r ?_))));have e : putI l x = l := putI_same hidx hk1 h1;exact ret1 rfl (by rw [e])
  refine AC.skip (th_n (AC.seq ?_));have e : putI l x = l.take k ++ [x] ++ l.drop k := by exact putI_at hidx hk1 h1
  refine AC.region ?_;refine AL.q (by exact h_lit rfl rfl rfl rfl rfl rfl rfl rfl) rfl ?_;refine zm ?_;refine zm ?_;refine AL.p (by exact g_slice_view (r := ints (l.take k)) rfl rfl rfl rfl .none (.some rfl rfl) (Nat.zero_le _) (by rw [ints_len]; exact hk) (by simp [List.map_take])) rfl ?_;refine AL.q (by exact h_appendI [] (l.take k) (.own rfl rfl rfl) (.view rfl) (by simp; omega) (by simp)) rfl ?_;refine AL.p (by exact as2 rfl) rfl ?_;refine AL.nil (th_n (AC.seq (AC.region ?_)));refine kB ?_;refine zm ?_;refine AL.q (by exact h_litF rfl rfl rfl rfl rfl rfl rfl rfl) rfl ?_;refine AL.q (by exact h_appendI ([] ++ l.take k) [x] (.own rfl rfl (ints_len _).symm) (.view rfl) (by simp; omega) (by simp)) rfl ?_;refine AL.p (by exact as2 rfl) rfl ?_;refine AL.nil (th_n (AC.seq (AC.region ?_)));refine kB ?_;refine zm ?_;refine zm ?_;refine AL.p (by exact g_slice_view (r := ints (l.drop k)) rfl rfl rfl rfl (.some rfl rfl) .none (by rw [ints_len]; exact hk) (Nat.le_refl _) (by rw [List.take_length]; exact (List.map_drop ..).symm)) rfl ?_;refine AL.q (by exact h_appendI ([] ++ l.take k ++ [x]) (l.drop k) (.own rfl rfl (ints_len _).symm) (.view rfl) (by simp; omega) (by simp)) rfl ?_;refine AL.weak (Weak.freeze (i := 47) rfl rfl (Nat.le_of_eq (ints_len _).symm) (ints_all _)) ?_;refine za ?_;refine AL.nil (th_n (AC.ret (bq_r ?_)));exact ret1 rfl (by rw [e]; rfl)
 refine zn ?_;refine zn ?_;refine zn ?_;refine zn ?_;refine zn ?_;refine zn ?_;refine zP ?_;refine AL.nil (th_n ?_);refine AC.condF rfl ?_;refine AC.skip (th_n (AC.seq ?_));have e : putI l x = l.take k ++ [x] ++ l.drop k := by exact putI_end hidx (by omega)
 refine AC.region ?_;refine AL.q (by exact h_lit rfl rfl rfl rfl rfl rfl rfl rfl) rfl ?_;refine zm ?_;refine zm ?_;refine AL.p (by exact g_slice_view (r := ints (l.take k)) rfl rfl rfl rfl .none (.some rfl rfl) (Nat.zero_le _) (by rw [ints_len]; exact hk) (by simp [List.map_take])) rfl ?_;refine AL.q (by exact h_appendI [] (l.take k) (.own rfl rfl rfl) (.view rfl) (by simp; omega) (by simp)) rfl ?_;refine AL.p (by exact as2 rfl) rfl ?_;refine AL.nil (th_n (AC.seq (AC.region ?_)));refine kB ?_;refine zm ?_;refine AL.q (by exact h_litF rfl rfl rfl rfl rfl rfl rfl rfl) rfl ?_;refine AL.q (by exact h_appendI ([] ++ l.take k) [x] (.own rfl rfl (ints_len _).symm) (.view rfl) (by simp; omega) (by simp)) rfl ?_;refine AL.p (by exact as2 rfl) rfl ?_;refine AL.nil (th_n (AC.seq (AC.region ?_)));refine kB ?_;refine zm ?_;refine zm ?_;refine AL.p (by exact g_slice_view (r := ints (l.drop k)) rfl rfl rfl rfl (.some rfl rfl) .none (by rw [ints_len]; exact hk) (Nat.le_refl _) (by rw [List.take_length]; exact (List.map_drop ..).symm)) rfl ?_;refine AL.q (by exact h_appendI ([] ++ l.take k ++ [x]) (l.drop k) (.own rfl rfl (ints_len _).symm) (.view rfl) (by simp; omega) (by simp)) rfl ?_;refine AL.weak (Weak.freeze (i := 47) rfl rfl (Nat.le_of_eq (ints_len _).symm) (ints_all _)) ?_;refine za ?_;refine AL.nil (th_n (AC.ret (bq_r ?_)));exact ret1 rfl (by rw [e]; rfl)
theorem en_l1Put : Enters Tryz.prog 131 := enters_of Tryz.func131 rfl rfl
def subN (n : Int) : Nat → Cur → List Int → List Int × Cur
 | 0, c, s => (s, c)
 | j + 1, c, s => subN n j (c.pick n).2 (putI s (c.pick n).1)
theorem subN_len (n : Int) : ∀ (j : Nat) (c : Cur) (s : List Int), (subN n j c s).1.length ≤ s.length + j ∧ (subN n j c s).2.pos ≤ c.pos + 2 * j ∧ (subN n j c s).2.code = c.code
 | 0, c, s => ⟨Nat.le_refl _, Nat.le_refl _, rfl⟩
 | j + 1, c, s => by
  have h := subN_len n j (c.pick n).2 (putI s (c.pick n).1);have h1 := putI_len s (c.pick n).1;have h2 := c.pick_pos n;have h3 := c.pick_code n;refine ⟨?_, ?_, ?_⟩
  ·simp only [subN]; omega
  ·simp only [subN]; omega
  simp only [subN]; rw [h.2.2, h3]
def Cur.subset (c : Cur) (n k : Int) : List Int × Cur := subN n (1 + (c.pick k).1).toNat (c.pick k).2 []
theorem Cur.subset_in (c : Cur) (n k : Int) (hk : 1 ≤ k) : ((c.subset n k).1.length : Int) ≤ k ∧ ((c.subset n k).2.pos : Int) ≤ c.pos + 2 * k + 2 ∧ (c.subset n k).2.code = c.code := by
 have h := subN_len n (1 + (c.pick k).1).toNat (c.pick k).2 [];have h1 := c.pick_in k hk;have h2 := c.pick_pos k;have h3 := c.pick_code k;simp only [List.length_nil] at h;refine ⟨?_, ?_, ?_⟩
 ·show ((subN _ _ _ _).1.length : Int) ≤ _; omega
 ·show ((subN _ _ _ _).2.pos : Int) ≤ _; omega
 show (subN _ _ _ _).2.code = _; rw [h.2.2, h3]
set_option maxHeartbeats 2000000 in
theorem subset_spec (c : Cur) (n k : Int) (hn : n ≤ 65536) (hk1 : 1 ≤ k) (hk : k ≤ 200) (hp : c.pos ≤ 10000000000000) : ASpec Tryz.prog 183 [.ptr 0 0, aI n, aI k] [(0, curC c)] (Fun1 (.d (vI (c.subset n k).1)) [(0, curC (c.subset n k).2)]) := by
 have hpi := c.pick_in k hk1;have hpp := c.pick_pos k;refine ASpec.of Tryz.func183 rfl rfl fun C hC => ?_
 refine AC.seq (AC.region ?_);refine za ?_;refine AL.nil (th_n (AC.seq (AC.region ?_)));refine za ?_;refine AL.nil (th_n (AC.seq (AC.seq (AC.region ?_))));refine AL.p (by exact mv3 rfl) rfl ?_;refine zm ?_;refine AL.q (by exact h_fun (cs := [0]) en_pick rfl rfl (by repeat (first | exact rfl | exact DLead.same | refine ⟨_, _, rfl, ?_, ?_⟩ | refine ⟨_, rfl, ?_⟩)) (by repeat (first | exact True.intro | refine And.intro ?_ ?_ | exact DLead.same | exact rfl | refine ⟨_, _, rfl, rfl, ?_⟩ | refine ⟨_, rfl, ?_⟩ | refine ⟨_, _, rfl, ?_, ?_⟩)) (pick_spec _ _ (by omega) (by omega)) rfl rfl rfl rfl) rfl ?_;refine zA ?_;refine za ?_;refine AL.nil (th_n (AC.block ?_));refine AC.loop (ι := Nat × Cur × List Int) (fun x => ⟨23, 8, [(0, .ptr 0 0), (1, aI n), (7, .d (vI x.2.2)), (8, aI x.1)], [(0, some (curC x.2.1))]⟩) (fun x => subN n x.1 x.2.1 x.2.2 = c.subset n k ∧ x.2.2.length + x.1 ≤ 1000 ∧ x.2.1.pos + 2 * x.1 ≤ 100000000000000) (fun x => x.1) (((1 + (c.pick k).1).toNat, (c.pick k).2, [])) ?_ (⟨rfl, by show 0 + (1 + (c.pick k).1).toNat ≤ _; omega, by show (c.pick k).2.pos + 2 * (1 + (c.pick k).1).toNat ≤ _; omega⟩) ?_
 ·exact zw [] hC
 rintro ⟨j, cc, s⟩ ⟨hsub, hlen, hpos⟩;dsimp only at hsub hlen hpos ⊢;refine AC.seq (AC.seq (AC.region ?_));refine zm ?_;refine zc ?_;refine AL.nil (th_n ?_);refine AC.condD rfl (fun h0 => ?_) (fun h0 => ?_)
 ·refine AC.skip (th_n (AC.seq (AC.block ?_)));obtain ⟨i, rfl⟩ : ∃ i, j = i + 1 := ⟨j - 1, by omega⟩;have hpl := putI_len s (cc.pick n).1;have hpp2 := cc.pick_pos n;refine AC.region ?_;refine zm ?_;refine AL.p (by exact mv3 rfl) rfl ?_;refine zm ?_;refine AL.q (by exact h_fun (cs := [0]) en_pick rfl rfl (by repeat (first | exact rfl | exact DLead.same | refine ⟨_, _, rfl, ?_, ?_⟩ | refine ⟨_, rfl, ?_⟩)) (by repeat (first | exact True.intro | refine And.intro ?_ ?_ | exact DLead.same | exact rfl | refine ⟨_, _, rfl, rfl, ?_⟩ | refine ⟨_, rfl, ?_⟩ | refine ⟨_, _, rfl, ?_, ?_⟩)) (pick_spec _ _ (by assumption) (by omega)) rfl rfl rfl rfl) rfl ?_;refine AL.q (by exact h_pure en_l1Put rfl rfl (by repeat (first | exact rfl | exact DLead.same | refine ⟨_, _, rfl, ?_, ?_⟩)) (l1Put_spec _ _ (by omega)) rfl) rfl ?_;refine za ?_;refine AL.nil (ib_n (th_n (AC.region ?_)));refine zm ?_;refine zA ?_;refine za ?_;refine AL.nil (th_n ?_);exact ⟨(i, (cc.pick n).2, putI s (cc.pick n).1), ⟨hsub, by show (putI s _).length + i ≤ _; omega, by show (cc.pick n).2.pos + 2 * i ≤ _; omega⟩, by show i < i + 1; omega, zw [] hC⟩
 refine AC.exit (th_e (th_e (ib_y (th_n (AC.seq (AC.region ?_))))));refine zm ?_;refine za ?_;refine AL.nil (th_n (AC.ret (bq_r ?_)));have hj : j = 0 := by omega
 subst hj;have e : c.subset n k = (s, cc) := hsub.symm;exact retF rfl (by rw [e]; repeat (exact DLead.same)) (by rw [e]; repeat (first | exact True.intro | refine And.intro ?_ ?_ | exact DLead.same | exact rfl | refine ⟨_, _, rfl, rfl, ?_⟩ | refine ⟨_, rfl, ?_⟩ | refine ⟨_, _, rfl, ?_, ?_⟩)) rfl
theorem en_subset : Enters Tryz.prog 183 := enters_of Tryz.func183 rfl rfl
theorem of_spec (c : Cur) (els : List (List DV)) (st : ByteArray) (h0 : 0 < els.length) (hl : els.length ≤ 65536) (hp : c.pos ≤ 100000000000000) (hget : els[(c.pick els.length).1.toNat]? = some [dS st]) : ASpec Tryz.prog 184 [.ptr 0 0, .d (.view 9 1 els)] [(0, curC c)] (Fun1 (aS st) [(0, curC (c.pick els.length).2)]) := by
 have hi := c.pick_in els.length (by omega);have hI : (c.pick els.length).1 = (((c.pick els.length).1.toNat : Nat) : Int) := by omega
 refine ASpec.of Tryz.func184 rfl rfl fun C hC => ?_
 refine AC.seq (AC.region ?_);refine za ?_;refine AL.nil (th_n (AC.seq (AC.region ?_)));refine zm ?_;refine AL.p (by exact mv3 rfl) rfl ?_;refine zm ?_;refine AL.p (by exact g_len_view rfl rfl (by rfl)) rfl ?_;refine AL.q (by exact h_fun (cs := [0]) en_pick rfl rfl (by repeat (first | exact rfl | exact DLead.same | refine ⟨_, _, rfl, ?_, ?_⟩ | refine ⟨_, rfl, ?_⟩)) (by repeat (first | exact True.intro | refine And.intro ?_ ?_ | exact DLead.same | exact rfl | refine ⟨_, _, rfl, rfl, ?_⟩ | refine ⟨_, rfl, ?_⟩ | refine ⟨_, _, rfl, ?_, ?_⟩)) (pick_spec _ _ (by omega) (by assumption)) rfl rfl rfl rfl) rfl ?_;refine AL.p (by exact g_ia_view rfl rfl rfl rfl rfl (by assumption) (by assumption)) rfl ?_;refine zr ?_;refine za ?_;refine AL.nil (th_n (AC.ret (bq_r ?_)));exact retF rfl (by repeat (exact DLead.same)) (by repeat (first | exact True.intro | refine And.intro ?_ ?_ | exact DLead.same | exact rfl | refine ⟨_, _, rfl, rfl, ?_⟩ | refine ⟨_, rfl, ?_⟩ | refine ⟨_, _, rfl, ?_, ?_⟩)) rfl
theorem en_of : Enters Tryz.prog 184 := enters_of Tryz.func184 rfl rfl
def bitOf (c : Cur) : UInt8 := if (c.pick 3).1 = 0 then 48 else 49
theorem bit_get (c : Cur) (hc : 0 ≤ (c.pick 3).1 ∧ (c.pick 3).1 < 3) : ([[dS (bstr [48])], [dS (bstr [49])], [dS (bstr [49])]] : List (List DV))[(c.pick 3).1.toNat]? = some [dS (bstr [bitOf c])] := by
 unfold bitOf;have h : (c.pick 3).1 = 0 ∨ (c.pick 3).1 = 1 ∨ (c.pick 3).1 = 2 := by omega
 rcases h with h | h | h <;> rw [h] <;> rfl
def markN : Nat → Cur → List UInt8 → List UInt8 × Cur
 | 0, c, m => (m, c)
 | j + 1, c, m => markN j (c.pick 3).2 (m ++ [bitOf c])
theorem markN_len : ∀ (j : Nat) (c : Cur) (m : List UInt8), (markN j c m).1.length = m.length + j ∧ (markN j c m).2.pos ≤ c.pos + 2 * j ∧ (markN j c m).2.code = c.code
 | 0, c, m => ⟨rfl, Nat.le_refl _, rfl⟩
 | j + 1, c, m => by
  have h := markN_len j (c.pick 3).2 (m ++ [bitOf c]);have h2 := c.pick_pos 3;have h3 := c.pick_code 3;simp only [List.length_append, List.length_cons, List.length_nil] at h;refine ⟨?_, ?_, ?_⟩
  ·simp only [markN]; omega
  ·simp only [markN]; omega
  simp only [markN]; rw [h.2.2, h3]
def Cur.markOf (c : Cur) (n : Int) : List UInt8 × Cur := markN n.toNat c []
set_option maxHeartbeats 2000000 in
theorem markOf_spec (c : Cur) (n : Int) (hn0 : 0 ≤ n) (hn : n ≤ 1000) (hp : c.pos ≤ 10000000000000) : ASpec Tryz.prog 167 [.ptr 0 0, aI n] [(0, curC c)] (Fun1 (aS (bstr (c.markOf n).1)) [(0, curC (c.markOf n).2)]) := by
 refine ASpec.of Tryz.func167 rfl rfl fun C hC => ?_
 refine AC.seq (AC.region ?_);refine za ?_;refine AL.nil (th_n (AC.seq (AC.region ?_)));refine za ?_;refine AL.nil (th_n (AC.seq (AC.seq (AC.region ?_))));refine za ?_;refine AL.nil (th_n (AC.block ?_));refine AC.loop (ι := Nat × Cur × List UInt8) (fun x => ⟨18, 8, [(0, .ptr 0 0), (1, aI n), (5, aS (bstr x.2.2)), (6, aI x.1)], [(0, some (curC x.2.1))]⟩) (fun x => (x.1 : Int) ≤ n ∧ markN (n.toNat - x.1) x.2.1 x.2.2 = c.markOf n ∧ x.2.2.length = x.1 ∧ x.2.1.pos ≤ 10000000000000 + 2 * x.1) (fun x => n.toNat - x.1) ((0, c, [])) ?_ (⟨hn0, rfl, rfl, by show c.pos ≤ _; omega⟩) ?_
 ·exact zw [] hC
 rintro ⟨i, cc, m⟩ ⟨hi, hmk, hlen, hpos⟩;dsimp only at hi hmk hlen hpos ⊢;refine AC.seq (AC.seq (AC.region ?_));refine zm ?_;refine zm ?_;refine zc ?_;refine AL.nil (th_n ?_);refine AC.condD rfl (fun h0 => ?_) (fun h0 => ?_)
 ·refine AC.skip (th_n (AC.seq (AC.block ?_)));have hget := bit_get cc (cc.pick_in 3 (by decide));have hpp := cc.pick_pos 3;have hsz := bstr_size m;have hsz1 := bstr_size [bitOf cc];have hsz2 : [bitOf cc].length = 1 := rfl;refine AC.region ?_;refine zm ?_;refine AL.p (by exact mv3 rfl) rfl ?_;refine AL.q (by exact h_litF rfl rfl rfl rfl rfl rfl rfl rfl) rfl ?_;refine AL.q (by exact h_fun (cs := [0]) en_of rfl rfl (by repeat (first | exact rfl | exact DLead.same | refine ⟨_, _, rfl, ?_, ?_⟩ | refine ⟨_, rfl, ?_⟩)) (by repeat (first | exact True.intro | refine And.intro ?_ ?_ | exact DLead.same | exact rfl | refine ⟨_, _, rfl, rfl, ?_⟩ | refine ⟨_, rfl, ?_⟩ | refine ⟨_, _, rfl, ?_, ?_⟩)) (of_spec cc [[dS (bstr [48])], [dS (bstr [49])], [dS (bstr [49])]] (bstr [bitOf cc]) (by decide) (by decide) (by omega) hget) rfl rfl rfl rfl) rfl ?_;refine AL.p (by exact g_sadd rfl rfl (by omega)) rfl ?_;refine za ?_;refine AL.nil (ib_n (th_n (AC.region ?_)));refine zm ?_;refine zA ?_;refine za ?_;refine AL.nil (th_n ?_);have e : markN (n.toNat - (i + 1)) (cc.pick 3).2 (m ++ [bitOf cc]) = c.markOf n := by rw [← hmk, show n.toNat - i = (n.toNat - (i + 1)) + 1 by omega]; rfl
  exact ⟨(i + 1, (cc.pick 3).2, m ++ [bitOf cc]), ⟨by show ((i + 1 : Nat) : Int) ≤ n; omega, e, by simp [hlen], by show (cc.pick 3).2.pos ≤ _; omega⟩, by show n.toNat - (i + 1) < n.toNat - i; omega, Weak.ren _ [] hC rfl (by rw [← bstr_append]; repeat (first | exact True.intro | refine And.intro ?_ ?_ | exact DLead.same | exact rfl | refine ⟨_, rfl, ?_⟩)) (by repeat (first | exact True.intro | refine And.intro ?_ ?_ | exact DLead.same | exact rfl | refine ⟨_, _, rfl, rfl, ?_⟩ | refine ⟨_, rfl, ?_⟩ | refine ⟨_, _, rfl, ?_, ?_⟩)) rfl rfl rfl⟩
 refine AC.exit (th_e (th_e (ib_y (th_n (AC.seq (AC.region ?_))))));refine zm ?_;refine za ?_;refine AL.nil (th_n (AC.ret (bq_r ?_)));have hin : n.toNat - i = 0 := by omega
 have e : c.markOf n = (m, cc) := by rw [← hmk, hin]; rfl
 exact retF rfl (by rw [e]; repeat (exact DLead.same)) (by rw [e]; repeat (first | exact True.intro | refine And.intro ?_ ?_ | exact DLead.same | exact rfl | refine ⟨_, _, rfl, rfl, ?_⟩ | refine ⟨_, rfl, ?_⟩ | refine ⟨_, _, rfl, ?_, ?_⟩)) rfl
theorem en_markOf : Enters Tryz.prog 167 := enters_of Tryz.func167 rfl rfl
def spoil1 (c : Cur) (s al : List UInt8) : List UInt8 :=
 if (((c.pick s.length).2.pick al.length).2.pick 3).1 = 0 then s.take (c.pick s.length).1.toNat ++ [al.getD ((c.pick s.length).2.pick al.length).1.toNat 0] ++ s.drop (c.pick s.length).1.toNat
 else if (((c.pick s.length).2.pick al.length).2.pick 3).1 = 1 then s.take (c.pick s.length).1.toNat ++ [al.getD ((c.pick s.length).2.pick al.length).1.toNat 0] ++ s.drop ((c.pick s.length).1.toNat + 1)
 else s.take (c.pick s.length).1.toNat ++ s.drop ((c.pick s.length).1.toNat + 1)
def spoilC (c : Cur) (s al : List UInt8) : Cur := (((c.pick s.length).2.pick al.length).2.pick 3).2
def spoilN (al : List UInt8) : Nat → Cur → List UInt8 → List UInt8 × Cur
 | 0, c, s => (s, c)
 | j + 1, c, s => if s.length = 0 then (s, c) else spoilN al j (spoilC c s al) (spoil1 c s al)
theorem spoilN_nil {al : List UInt8} {j : Nat} {c : Cur} {s : List UInt8} (h : s.length = 0) : spoilN al j c s = (s, c) := by
 cases j with
 | zero => rfl
 | succ j => rw [spoilN, if_pos h]
theorem spoil1_len (c : Cur) (s al : List UInt8) (hs : 0 < s.length) : (spoil1 c s al).length ≤ s.length + 1 := by
 have h := c.pick_in s.length (by omega);unfold spoil1
 split
 ·simp; omega
 split <;> (simp; omega)
theorem spoilC_pos (c : Cur) (s al : List UInt8) : (spoilC c s al).pos ≤ c.pos + 6 ∧ (spoilC c s al).code = c.code := by
 have h1 := c.pick_pos s.length;have h2 := (c.pick s.length).2.pick_pos al.length;have h3 := ((c.pick s.length).2.pick al.length).2.pick_pos 3;refine ⟨by unfold spoilC; omega, ?_⟩;unfold spoilC;rw [Cur.pick_code, Cur.pick_code, Cur.pick_code]
theorem spoilN_len (al : List UInt8) : ∀ (j : Nat) (c : Cur) (s : List UInt8), (spoilN al j c s).1.length ≤ s.length + j ∧ (spoilN al j c s).2.pos ≤ c.pos + 6 * j ∧ (spoilN al j c s).2.code = c.code
 | 0, c, s => ⟨Nat.le_refl _, Nat.le_refl _, rfl⟩
 | j + 1, c, s => by
  unfold spoilN
  split
  ·exact ⟨by show s.length ≤ _; omega, by show c.pos ≤ _; omega, rfl⟩
  rename_i hs;have h := spoilN_len al j (spoilC c s al) (spoil1 c s al);have h1 := spoil1_len c s al (by omega);have h2 := spoilC_pos c s al;exact ⟨by omega, by omega, by rw [h.2.2, h2.2]⟩
def Cur.spoilt (c : Cur) (s al : List UInt8) : List UInt8 × Cur := spoilN al (1 + (c.pick 2).1).toNat (c.pick 2).2 s
theorem Cur.spoilt_in (c : Cur) (s al : List UInt8) : (c.spoilt s al).1.length ≤ s.length + 2 ∧ (c.spoilt s al).2.pos ≤ c.pos + 14 ∧ (c.spoilt s al).2.code = c.code := by
 have h := spoilN_len al (1 + (c.pick 2).1).toNat (c.pick 2).2 s;have h1 := c.pick_in 2 (by decide);have h2 := c.pick_pos 2;have h3 := c.pick_code 2;refine ⟨?_, ?_, ?_⟩
 ·show (spoilN _ _ _ _).1.length ≤ _; omega
 ·show (spoilN _ _ _ _).2.pos ≤ _; omega
 show (spoilN _ _ _ _).2.code = _; rw [h.2.2, h3]
theorem bstr_cut (s : List UInt8) {l h : Nat} (hl : l ≤ h) (hh : h ≤ s.length) : (bstr s).extract l h = bstr ((s.take h).drop l) := by
 have : ((bstr s).extract l h).data.toList = (s.take h).drop l := by
  simp [bstr, ByteArray.data_extract, List.extract_eq_drop_take, List.drop_take]
 rw [← bstr_of ((bstr s).extract l h), this]
set_option maxHeartbeats 4000000 in
theorem spoilt_spec (c : Cur) (s al : List UInt8) (hs : s.length ≤ 50000) (ha0 : 0 < al.length) (ha : al.length ≤ 60000) (hp : c.pos ≤ 10000000000000) : ASpec Tryz.prog 105 [.ptr 0 0, aS (bstr s), aS (bstr al)] [(0, curC c)] (Fun1 (aS (bstr (c.spoilt s al).1)) [(0, curC (c.spoilt s al).2)]) := by
 have hpi := c.pick_in 2 (by decide);have hpp := c.pick_pos 2;have hasz := bstr_size al;refine ASpec.of Tryz.func105 rfl rfl fun C hC => ?_
 refine AC.seq (AC.region ?_);refine za ?_;refine AL.nil (th_n (AC.seq (AC.seq (AC.region ?_))));refine AL.p (by exact mv3 rfl) rfl ?_;refine AL.q (by exact h_fun (cs := [0]) en_pick rfl rfl (by repeat (first | exact rfl | exact DLead.same | refine ⟨_, _, rfl, ?_, ?_⟩ | refine ⟨_, rfl, ?_⟩)) (by repeat (first | exact True.intro | refine And.intro ?_ ?_ | exact DLead.same | exact rfl | refine ⟨_, _, rfl, rfl, ?_⟩ | refine ⟨_, rfl, ?_⟩ | refine ⟨_, _, rfl, ?_, ?_⟩)) (pick_spec _ _ (by omega) (by omega)) rfl rfl rfl rfl) rfl ?_;refine zA ?_;refine za ?_;refine AL.nil (th_n (AC.block ?_));refine AC.loop (ι := Nat × Cur × List UInt8) (fun x => ⟨68, 8, [(0, .ptr 0 0), (1, aS (bstr x.2.2)), (2, aS (bstr al)), (7, aI x.1)], [(0, some (curC x.2.1))]⟩) (fun x => spoilN al x.1 x.2.1 x.2.2 = c.spoilt s al ∧ x.2.2.length + x.1 ≤ 60000 ∧ x.2.1.pos + 6 * x.1 ≤ 20000000000000) (fun x => x.1) (((1 + (c.pick 2).1).toNat, (c.pick 2).2, s)) ?_ (⟨rfl, by show s.length + (1 + (c.pick 2).1).toNat ≤ _; omega, by show (c.pick 2).2.pos + 6 * (1 + (c.pick 2).1).toNat ≤ _; omega⟩) ?_
 ·exact zw [] hC
 rintro ⟨j, cc, m⟩ ⟨hsub, hlen, hpos⟩;dsimp only at hsub hlen hpos ⊢;have hsz := bstr_size m;refine AC.seq (AC.seq (AC.region ?_));refine zm ?_;refine zc ?_;refine zm ?_;refine AL.caseG rfl rfl (fun h0 => ?_) (fun h0 => ?_)
 ·refine zy ?_;refine zm ?_;refine zy ?_;refine AL.p (by exact g_len_str (k := m.length) rfl rfl hsz) rfl ?_;refine zy ?_;refine zc ?_;refine zQ ?_;refine AL.nil (th_n ?_);refine AC.condD rfl (fun h1 => ?_) (fun h1 => ?_)
  ·refine AC.skip (th_n (AC.seq (AC.block (AC.seq ?_))));obtain ⟨i, rfl⟩ : ∃ i, j = i + 1 := ⟨j - 1, by omega⟩;have hm0 : 0 < m.length := by omega
   have e1 : spoilN al i (spoilC cc m al) (spoil1 cc m al) = c.spoilt s al := by rw [← hsub, spoilN, if_neg (by omega)]
   have hl1 := spoil1_len cc m al hm0;have hl2 := spoilC_pos cc m al;have hk := cc.pick_in m.length (by omega);have hkp := cc.pick_pos m.length;have hk2 := (cc.pick m.length).2.pick_in al.length (by omega);have hkp2 := (cc.pick m.length).2.pick_pos al.length;have hI : ((cc.pick m.length).2.pick al.length).1 = ((((cc.pick m.length).2.pick al.length).1.toNat : Nat) : Int) := by omega
   have hget : (bstr al).data.toList[((cc.pick m.length).2.pick al.length).1.toNat]? = some (al.getD ((cc.pick m.length).2.pick al.length).1.toNat 0) := bstr_getD (by omega);refine AC.region ?_;refine AL.p (by exact mv3 rfl) rfl ?_;refine zm ?_;refine AL.p (by exact g_len_str (k := m.length) rfl rfl hsz) rfl ?_;refine AL.q (by exact h_fun (cs := [0]) en_pick rfl rfl (by repeat (first | exact rfl | exact DLead.same | refine ⟨_, _, rfl, ?_, ?_⟩ | refine ⟨_, rfl, ?_⟩)) (by repeat (first | exact True.intro | refine And.intro ?_ ?_ | exact DLead.same | exact rfl | refine ⟨_, _, rfl, rfl, ?_⟩ | refine ⟨_, rfl, ?_⟩ | refine ⟨_, _, rfl, ?_, ?_⟩)) (pick_spec _ _ (by omega) (by omega)) rfl rfl rfl rfl) rfl ?_;refine za ?_;refine AL.nil (th_n (AC.seq (AC.region ?_)));refine zm ?_;refine AL.p (by exact mv3 rfl) rfl ?_;refine zm ?_;refine AL.p (by exact g_len_str (k := al.length) rfl rfl hasz) rfl ?_;refine AL.q (by exact h_fun (cs := [0]) en_pick rfl rfl (by repeat (first | exact rfl | exact DLead.same | refine ⟨_, _, rfl, ?_, ?_⟩ | refine ⟨_, rfl, ?_⟩)) (by repeat (first | exact True.intro | refine And.intro ?_ ?_ | exact DLead.same | exact rfl | refine ⟨_, _, rfl, rfl, ?_⟩ | refine ⟨_, rfl, ?_⟩ | refine ⟨_, _, rfl, ?_, ?_⟩)) (pick_spec _ _ (by omega) (by omega)) rfl rfl rfl rfl) rfl ?_;refine AL.p (by exact g_index rfl rfl rfl (by assumption) (by assumption)) rfl ?_;refine AL.q (by exact h_lit rfl rfl rfl rfl rfl rfl rfl rfl) rfl ?_;refine AL.p (by exact g_strOfBytes (l := [al.getD ((cc.pick m.length).2.pick al.length).1.toNat 0]) rfl rfl rfl rfl rfl rfl rfl) rfl ?_;refine za ?_;refine AL.nil (th_n (AC.seq (AC.region ?_)));refine AL.p (by exact mv3 rfl) rfl ?_;refine AL.q (by exact h_fun (cs := [0]) en_pick rfl rfl (by repeat (first | exact rfl | exact DLead.same | refine ⟨_, _, rfl, ?_, ?_⟩ | refine ⟨_, rfl, ?_⟩)) (by repeat (first | exact True.intro | refine And.intro ?_ ?_ | exact DLead.same | exact rfl | refine ⟨_, _, rfl, rfl, ?_⟩ | refine ⟨_, rfl, ?_⟩ | refine ⟨_, _, rfl, ?_, ?_⟩)) (pick_spec _ _ (by omega) (by omega)) rfl rfl rfl rfl) rfl ?_;refine AL.nil (th_n (AC.block (AC.seq ?_)));obtain ⟨K, hK⟩ := eqx ((cc.pick m.length).1.toNat);have hKI : (cc.pick m.length).1 = (K : Int) := by omega
   have hKJ : (cc.pick m.length).1 + 1 = ((K + 1 : Nat) : Int) := by omega
   have hKm : K + 1 ≤ m.length := by omega
   have hx1 : (bstr m).extract 0 K = bstr (m.take K) := by rw [bstr_cut m (Nat.zero_le _) (by omega)]; rfl
   have hx2 : (bstr m).extract K (bstr m).size = bstr (m.drop K) := by rw [hsz, bstr_cut m (by omega) (Nat.le_refl _), List.take_length]
   have hx3 : (bstr m).extract (K + 1) (bstr m).size = bstr (m.drop (K + 1)) := by rw [hsz, bstr_cut m (by omega) (Nat.le_refl _), List.take_length]
   refine AC.region ?_;refine zc ?_;refine za ?_;refine AL.nil (th_n ?_);refine AC.condD rfl (fun h2 => ?_) (fun h2 => ?_)
   ·refine AC.drawn' mixed_ok [[], [], [0,1], [], [0,1,2,3], [], [], [5,6], [0,1,2,3,4,5,6,7], [0,1,2,3,4,5,6,7,8]] (by decide) ?_;refine zd 0 [] 10 (by exact mv1 rfl) ?_;refine zd 1 [] 10 (by exact mv1 rfl) ?_;refine zd 2 [0,1] 10 (by exact g_slice_str (h := K) rfl rfl .none (.some rfl hKI) (Nat.zero_le _) (by omega) hx1) ?_;refine zd 3 [] 10 (by exact mv1 rfl) ?_;refine zd 4 [0,1,2,3] 10 (by exact g_sadd rfl rfl (by (simp only [ByteArray.size_append, bstr_size, List.length_take, List.length_drop, List.length_cons, List.length_nil]; omega))) ?_;refine zd 5 [] 10 (by exact mv1 rfl) ?_;refine zd 6 [] 10 (by exact mv1 rfl) ?_;refine zd 7 [5,6] 10 (by exact g_slice_str (l := K) rfl rfl (.some rfl hKI) .none (by omega) (Nat.le_refl _) hx2) ?_;refine zd 8 [0,1,2,3,4,5,6,7] 10 (by exact g_sadd rfl rfl (by (simp only [ByteArray.size_append, bstr_size, List.length_take, List.length_drop, List.length_cons, List.length_nil]; omega))) ?_;refine zd 9 (List.range 9) 10 (by exact as1 rfl) ?_;refine zj 10 ?_;refine ib_n (ib_n (th_n (AC.region ?_)));refine zm ?_;refine zA ?_;refine za ?_;refine AL.nil (th_n ?_)
    (have e2 : bstr (spoil1 cc m al) = bstr (m.take K) ++ bstr [al.getD ((cc.pick m.length).2.pick al.length).1.toNat 0] ++ bstr (m.drop K) := (by unfold spoil1; rw [if_pos h2, ← hK, bstr_append, bstr_append]); exact ⟨(i, spoilC cc m al, spoil1 cc m al), ⟨e1, by show (spoil1 cc m al).length + i ≤ _; omega, by show (spoilC cc m al).pos + 6 * i ≤ _; omega⟩, by show i < i + 1; omega, Weak.ren _ [] hC rfl (by rw [e2]; repeat (first | exact True.intro | refine And.intro ?_ ?_ | exact DLead.same | exact DLead.eqI (by omega) | exact rfl | refine ⟨_, rfl, ?_⟩)) (by repeat (first | exact True.intro | refine And.intro ?_ ?_ | exact DLead.same | exact rfl | refine ⟨_, _, rfl, rfl, ?_⟩ | refine ⟨_, rfl, ?_⟩ | refine ⟨_, _, rfl, ?_, ?_⟩)) rfl rfl rfl⟩)
   refine AC.seq (AC.region ?_);refine zc ?_;refine za ?_;refine AL.nil (th_n ?_);refine AC.condD rfl (fun h3 => ?_) (fun h3 => ?_)
   ·refine AC.drawn' mixed_ok [[], [], [0,1], [], [0,1,2,3], [], [], [6], [5,6,7], [0,1,2,3,4,5,6,7,8], [0,1,2,3,4,5,6,7,8,9]] (by decide) ?_;refine zd 0 [] 11 (by exact mv1 rfl) ?_;refine zd 1 [] 11 (by exact mv1 rfl) ?_;refine zd 2 [0,1] 11 (by exact g_slice_str (h := K) rfl rfl .none (.some rfl hKI) (Nat.zero_le _) (by omega) hx1) ?_;refine zd 3 [] 11 (by exact mv1 rfl) ?_;refine zd 4 [0,1,2,3] 11 (by exact g_sadd rfl rfl (by (simp only [ByteArray.size_append, bstr_size, List.length_take, List.length_drop, List.length_cons, List.length_nil]; omega))) ?_;refine zd 5 [] 11 (by exact mv1 rfl) ?_;refine zd 6 [] 11 (by exact mv1 rfl) ?_;refine zd 7 [6] 11 (by exact g_arith rfl rfl rfl (by exact wrap_i64 (by omega))) ?_;refine zd 8 [5,6,7] 11 (by exact g_slice_str (l := K + 1) rfl rfl (.some rfl hKJ) .none (by omega) (Nat.le_refl _) hx3) ?_;refine zd 9 (List.range 9) 11 (by exact g_sadd rfl rfl (by (simp only [ByteArray.size_append, bstr_size, List.length_take, List.length_drop, List.length_cons, List.length_nil]; omega))) ?_;refine zd 10 (List.range 10) 11 (by exact as1 rfl) ?_;refine zj 11 ?_;refine ib_n (ib_n (th_n (AC.region ?_)));refine zm ?_;refine zA ?_;refine za ?_;refine AL.nil (th_n ?_)
    (have e2 : bstr (spoil1 cc m al) = bstr (m.take K) ++ bstr [al.getD ((cc.pick m.length).2.pick al.length).1.toNat 0] ++ bstr (m.drop (K + 1)) := (by unfold spoil1; rw [if_neg h2, if_pos h3, ← hK, bstr_append, bstr_append]); exact ⟨(i, spoilC cc m al, spoil1 cc m al), ⟨e1, by show (spoil1 cc m al).length + i ≤ _; omega, by show (spoilC cc m al).pos + 6 * i ≤ _; omega⟩, by show i < i + 1; omega, Weak.ren _ [] hC rfl (by rw [e2]; repeat (first | exact True.intro | refine And.intro ?_ ?_ | exact DLead.same | exact DLead.eqI (by omega) | exact rfl | refine ⟨_, rfl, ?_⟩)) (by repeat (first | exact True.intro | refine And.intro ?_ ?_ | exact DLead.same | exact rfl | refine ⟨_, _, rfl, rfl, ?_⟩ | refine ⟨_, rfl, ?_⟩ | refine ⟨_, _, rfl, ?_, ?_⟩)) rfl rfl rfl⟩)
   refine AC.drawn' mixed_ok [[], [], [0,1], [], [], [4], [3,4,5], [0,1,2,3,4,5,6], [0,1,2,3,4,5,6,7]] (by decide) ?_;refine zd 0 [] 9 (by exact mv1 rfl) ?_;refine zd 1 [] 9 (by exact mv1 rfl) ?_;refine zd 2 [0,1] 9 (by exact g_slice_str (h := K) rfl rfl .none (.some rfl hKI) (Nat.zero_le _) (by omega) hx1) ?_;refine zd 3 [] 9 (by exact mv1 rfl) ?_;refine zd 4 [] 9 (by exact mv1 rfl) ?_;refine zd 5 [4] 9 (by exact g_arith rfl rfl rfl (by exact wrap_i64 (by omega))) ?_;refine zd 6 [3,4,5] 9 (by exact g_slice_str (l := K + 1) rfl rfl (.some rfl hKJ) .none (by omega) (Nat.le_refl _) hx3) ?_;refine zd 7 [0,1,2,3,4,5,6] 9 (by exact g_sadd rfl rfl (by (simp only [ByteArray.size_append, bstr_size, List.length_take, List.length_drop, List.length_cons, List.length_nil]; omega))) ?_;refine zd 8 [0,1,2,3,4,5,6,7] 9 (by exact as1 rfl) ?_;refine zj 9 ?_;refine ib_n (ib_n (th_n (AC.region ?_)));refine zm ?_;refine zA ?_;refine za ?_;refine AL.nil (th_n ?_)
   (have e2 : bstr (spoil1 cc m al) = bstr (m.take K) ++ bstr (m.drop (K + 1)) := (by unfold spoil1; rw [if_neg h2, if_neg h3, ← hK, bstr_append]); exact ⟨(i, spoilC cc m al, spoil1 cc m al), ⟨e1, by show (spoil1 cc m al).length + i ≤ _; omega, by show (spoilC cc m al).pos + 6 * i ≤ _; omega⟩, by show i < i + 1; omega, Weak.ren _ [] hC rfl (by rw [e2]; repeat (first | exact True.intro | refine And.intro ?_ ?_ | exact DLead.same | exact DLead.eqI (by omega) | exact rfl | refine ⟨_, rfl, ?_⟩)) (by repeat (first | exact True.intro | refine And.intro ?_ ?_ | exact DLead.same | exact rfl | refine ⟨_, _, rfl, rfl, ?_⟩ | refine ⟨_, rfl, ?_⟩ | refine ⟨_, _, rfl, ?_, ?_⟩)) rfl rfl rfl⟩)
  refine AC.exit (th_e (th_e (ib_y (th_n (AC.seq (AC.region ?_))))));refine zm ?_;refine za ?_;refine AL.nil (th_n (AC.ret (bq_r ?_)));have e : c.spoilt s al = (m, cc) := by (rw [← hsub]; exact spoilN_nil (by omega))
  exact retF rfl (by rw [e]; repeat (exact DLead.same)) (by rw [e]; repeat (first | exact True.intro | refine And.intro ?_ ?_ | exact DLead.same | exact rfl | refine ⟨_, _, rfl, rfl, ?_⟩ | refine ⟨_, rfl, ?_⟩ | refine ⟨_, _, rfl, ?_, ?_⟩)) rfl
 refine zn ?_;refine zn ?_;refine zn ?_;refine zP ?_;refine AL.nil (th_n ?_);refine AC.condF rfl ?_;refine AC.exit (th_e (th_e (ib_y (th_n (AC.seq (AC.region ?_))))));refine zm ?_;refine za ?_;refine AL.nil (th_n (AC.ret (bq_r ?_)));have e : c.spoilt s al = (m, cc) := by (have hj : j = 0 := (by omega); subst hj; exact hsub.symm)
 exact retF rfl (by rw [e]; repeat (exact DLead.same)) (by rw [e]; repeat (first | exact True.intro | refine And.intro ?_ ?_ | exact DLead.same | exact rfl | refine ⟨_, _, rfl, rfl, ?_⟩ | refine ⟨_, rfl, ?_⟩ | refine ⟨_, _, rfl, ?_, ?_⟩)) rfl
theorem en_spoilt : Enters Tryz.prog 105 := enters_of Tryz.func105 rfl rfl
theorem tsL_len (l : List Tn) : (tsL l).length = l.length := List.length_map _
theorem tsL_all (l : List Tn) : (tsL l).take l.length = tsL l := by rw [List.take_of_length_le (by simp)]
theorem h_appendT (acc new : List Tn) {s : ASt} {dst : Option Nat} {ty : Nat} {pos : String} {af : Array Edge} {gd : Option (Nat × Bool)} {x y : Operand} {f : Nat} {ids ids2 : List Nat} {gone : List (Nat × Option Chunk)}
  (hto : AppTo s x 153 2 (tsL acc) ids gone) (harg : AppArg s y 2 (tsL new) ids2) (h : (acc ++ new).length ≤ 100000000) (hnew : gone = [] → 0 < new.length) :
  NOp Tryz.prog (ids ++ ids2) s ⟨dst, .call { callee := .builtin .append, args := #[x, y], argTypes := #[23, 23] }, ty, pos, af, gd⟩ f ⟨.own f (acc ++ new).length, (f, some (.arr 153 2 (tsL (acc ++ new)))) :: gone⟩ := by
 have := h_append (P := Tryz.prog) (s := s) (dst := dst) (ty := ty) (pos := pos) (af := af) (gd := gd) (x := x) (y := y) (f := f) (t := 23) (tx := 23) (k := (acc ++ new).length) rfl rfl rfl rfl rfl rfl hto harg (by simp) (by omega) (by show (acc ++ new).length * 48 ≤ _; omega) (fun h => by rw [tsL_len]; exact hnew h)
 rwa [← List.map_append] at this
def Cur.tn (c : Cur) (p : Int) : Tn × Cur :=
 (⟨(c.subset p 2).1, if (((c.subset p 2).2.subset p 2).2.pick 10).1 = 0 then [] else ((c.subset p 2).2.subset p 2).1⟩, (((c.subset p 2).2.subset p 2).2.pick 10).2)
theorem Cur.tn_in (c : Cur) (p : Int) : (c.tn p).1.pre.length ≤ 2 ∧ (c.tn p).1.post.length ≤ 2 ∧ (c.tn p).2.pos ≤ c.pos + 14 ∧ (c.tn p).2.code = c.code := by
 have h1 := c.subset_in p 2 (by decide);have h2 := (c.subset p 2).2.subset_in p 2 (by decide);have h3 := ((c.subset p 2).2.subset p 2).2.pick_pos 10;have h4 := ((c.subset p 2).2.subset p 2).2.pick_code 10;refine ⟨?_, ?_, ?_, ?_⟩
 ·show (c.subset p 2).1.length ≤ 2; omega
 ·show (if _ then ([] : List Int) else _).length ≤ 2
  split
  ·simp
  omega
 ·show (((c.subset p 2).2.subset p 2).2.pick 10).2.pos ≤ _; omega
 show (((c.subset p 2).2.subset p 2).2.pick 10).2.code = _; rw [h4, h2.2.2, h1.2.2]
def netN (p : Int) : Nat → Cur → List Tn → List Tn × Cur
 | 0, c, ts => (ts, c)
 | j + 1, c, ts => netN p j (c.tn p).2 (ts ++ [(c.tn p).1])
theorem netN_in (p : Int) : ∀ (j : Nat) (c : Cur) (ts : List Tn), (∀ t, t ∈ ts → t.pre.length ≤ 2 ∧ t.post.length ≤ 2) → (netN p j c ts).1.length = ts.length + j ∧ (∀ t, t ∈ (netN p j c ts).1 → t.pre.length ≤ 2 ∧ t.post.length ≤ 2) ∧ (netN p j c ts).2.pos ≤ c.pos + 14 * j ∧ (netN p j c ts).2.code = c.code
 | 0, c, ts, h => ⟨rfl, h, Nat.le_refl _, rfl⟩
 | j + 1, c, ts, h => by
  have h1 := c.tn_in p
  have h2 := netN_in p j (c.tn p).2 (ts ++ [(c.tn p).1]) (fun t ht => by
   rcases List.mem_append.1 ht with h' | h'
   ·exact h t h'
   rw [List.mem_singleton] at h'; subst h'; exact ⟨h1.1, h1.2.1⟩)
  simp only [List.length_append, List.length_cons, List.length_nil] at h2;simp only [netN];exact ⟨by omega, h2.2.1, by omega, by rw [h2.2.2.2, h1.2.2.2]⟩
def Cur.netP (c : Cur) : Int := 2 + (c.pick 5).1
def Cur.netT (c : Cur) : List Tn × Cur := netN c.netP ((c.pick 5).2.pick 5).1.toNat ((c.pick 5).2.pick 5).2 []
set_option maxHeartbeats 4000000 in
theorem net_spec (c : Cur) (hp : c.pos ≤ 1000000000000) : ASpec Tryz.prog 166 [.ptr 0 0] [(0, curC c)] (Fun1 (.agg [aI c.netP, .own 1 c.netT.1.length]) [(0, curC c.netT.2), (1, .arr 153 2 (tsL c.netT.1))]) := by
 have hp1 := c.pick_in 5 (by decide);have hq1 := c.pick_pos 5;have hp2 := (c.pick 5).2.pick_in 5 (by decide);have hq2 := (c.pick 5).2.pick_pos 5;have hnp : 2 ≤ c.netP ∧ c.netP ≤ 6 := by unfold Cur.netP; omega
 refine ASpec.of Tryz.func166 rfl rfl fun C hC => ?_
 refine AC.seq (AC.region ?_);refine kE ?_;refine AL.nil (th_n (AC.seq (AC.region ?_)));refine AL.p (by exact mv3 rfl) rfl ?_;refine AL.q (by exact h_fun (cs := [0]) en_pick rfl rfl (by repeat (first | exact rfl | exact DLead.same | refine ⟨_, _, rfl, ?_, ?_⟩ | refine ⟨_, rfl, ?_⟩)) (by repeat (first | exact True.intro | refine And.intro ?_ ?_ | exact DLead.same | exact rfl | refine ⟨_, _, rfl, rfl, ?_⟩ | refine ⟨_, rfl, ?_⟩ | refine ⟨_, _, rfl, ?_, ?_⟩)) (pick_spec _ _ (by omega) (by omega)) rfl rfl rfl rfl) rfl ?_;refine zA ?_;refine AL.p (by exact g_build rfl rfl rfl) rfl ?_;refine kE ?_;refine zs ?_;refine AL.nil (th_n (AC.seq (AC.seq (AC.region ?_))));refine AL.p (by exact mv3 rfl) rfl ?_;refine AL.q (by exact h_fun (cs := [0]) en_pick rfl rfl (by repeat (first | exact rfl | exact DLead.same | refine ⟨_, _, rfl, ?_, ?_⟩ | refine ⟨_, rfl, ?_⟩)) (by repeat (first | exact True.intro | refine And.intro ?_ ?_ | exact DLead.same | exact rfl | refine ⟨_, _, rfl, rfl, ?_⟩ | refine ⟨_, rfl, ?_⟩ | refine ⟨_, _, rfl, ?_, ?_⟩)) (pick_spec _ _ (by omega) (by omega)) rfl rfl rfl rfl) rfl ?_;refine za ?_;refine AL.nil (th_n (AC.block ?_));refine AC.loop (ι := Nat × Cur × List Tn) (fun x => ⟨35, 128, [(0, .ptr 0 0), (2, .ptr 102 0), (3, .ptr 100 0), (4, aI x.1)], [(0, some (curC x.2.1)), (100, some (.cells 25 [aI c.netP, .own 101 x.2.2.length])), (101, some (.arr 153 2 (tsL x.2.2))), (102, some (.cells 25 [aI 0, .d (.val (.slice none 0 0))]))]⟩) (fun x => netN c.netP x.1 x.2.1 x.2.2 = c.netT ∧ x.2.2.length + x.1 ≤ 10 ∧ x.2.1.pos + 14 * x.1 ≤ 2000000000000) (fun x => x.1) ((((c.pick 5).2.pick 5).1.toNat, ((c.pick 5).2.pick 5).2, [])) ?_ (⟨rfl, by show 0 + ((c.pick 5).2.pick 5).1.toNat ≤ _; omega, by show ((c.pick 5).2.pick 5).2.pos + 14 * ((c.pick 5).2.pick 5).1.toNat ≤ _; omega⟩) ?_
 ·exact (Weak.nilOwnP 3 1 (e := 153) (sz := 2) rfl rfl rfl rfl rfl).trans (zw [(100, _), (101, _), (102, _)] hC)
 rintro ⟨j, cc, ts⟩ ⟨hsub, hlen, hpos⟩;dsimp only at hsub hlen hpos ⊢;refine AC.seq (AC.seq (AC.region ?_));refine zm ?_;refine zc ?_;refine AL.nil (th_n ?_);refine AC.condD rfl (fun h0 => ?_) (fun h0 => ?_)
 ·refine AC.skip (th_n (AC.seq (AC.block (AC.seq ?_))));obtain ⟨i, rfl⟩ : ∃ i, j = i + 1 := ⟨j - 1, by omega⟩;have ht := cc.tn_in c.netP;have hs1 := cc.subset_in c.netP 2 (by decide);have hs2 := (cc.subset c.netP 2).2.subset_in c.netP 2 (by decide);have hs3 := ((cc.subset c.netP 2).2.subset c.netP 2).2.pick_pos 10;refine AC.drawn' mixed_ok [[], [], [1], [0,1,2], [], [], [5], [0,1,2,3,4,5,6], [0,1,2,3,4,5,6,7], [], [0,1,2,3,4,5,6,7,8,9]] (by decide) ?_;refine zd 0 [] 11 (by exact mv3 rfl) ?_;refine zd 1 [] 11 (by exact g_fa_ptr rfl rfl rfl rfl rfl) ?_;refine zd 2 [1] 11 (by exact g_load_ptr rfl rfl rfl rfl rfl) ?_;refine zh 3 [0,1,2] 11 (by exact h_fun (cs := [0]) en_subset rfl rfl (by repeat (first | exact rfl | exact DLead.same | refine ⟨_, _, rfl, ?_, ?_⟩ | refine ⟨_, rfl, ?_⟩)) (by repeat (first | exact True.intro | refine And.intro ?_ ?_ | exact DLead.same | exact rfl | refine ⟨_, _, rfl, rfl, ?_⟩ | refine ⟨_, rfl, ?_⟩ | refine ⟨_, _, rfl, ?_, ?_⟩)) (subset_spec _ _ _ (by omega) (by omega) (by omega) (by omega)) rfl rfl rfl rfl) ?_;refine zd 4 [] 11 (by exact mv3 rfl) ?_;refine zd 5 [] 11 (by exact g_fa_ptr rfl rfl rfl rfl rfl) ?_;refine zd 6 [5] 11 (by exact g_load_ptr rfl rfl rfl rfl rfl) ?_;refine zh 7 [0,1,2,3,4,5,6] 11 (by exact h_fun (cs := [0]) en_subset rfl rfl (by repeat (first | exact rfl | exact DLead.same | refine ⟨_, _, rfl, ?_, ?_⟩ | refine ⟨_, rfl, ?_⟩)) (by repeat (first | exact True.intro | refine And.intro ?_ ?_ | exact DLead.same | exact rfl | refine ⟨_, _, rfl, rfl, ?_⟩ | refine ⟨_, rfl, ?_⟩ | refine ⟨_, _, rfl, ?_, ?_⟩)) (subset_spec _ _ _ (by omega) (by omega) (by omega) (by omega)) rfl rfl rfl rfl) ?_;refine zd 8 [0,1,2,3,4,5,6,7] 11 (by exact g_build rfl rfl rfl) ?_;refine zh 9 [] 11 (by exact h_alloc rfl) ?_;refine zh 10 (List.range 10) 11 (by exact h_store rfl rfl rfl rfl rfl rfl) ?_;refine zj 11 ?_;refine th_n ?_;refine AC.cut (fun (_ : Unit) => ⟨35, 136, [(0, .ptr 0 0), (2, .ptr 102 0), (3, .ptr 100 0), (4, aI ((i + 1 : Nat) : Int)), (5, .ptr 103 0)], [(0, some (curC (cc.tn c.netP).2)), (100, some (.cells 25 [aI c.netP, .own 101 ts.length])), (101, some (.arr 153 2 (tsL ts))), (102, some (.cells 25 [aI 0, .d (.val (.slice none 0 0))])), (103, some (.cells 153 [.d (vI (cc.tn c.netP).1.pre), .d (vI (cc.tn c.netP).1.post)]))]⟩) (fun _ => True) ?_ ?_
  ·refine AC.seq (AC.region ?_);refine AL.p (by exact mv3 rfl) rfl ?_;refine AL.q (by exact h_fun (cs := [0]) en_one rfl rfl (by repeat (first | exact rfl | exact DLead.same | refine ⟨_, _, rfl, ?_, ?_⟩ | refine ⟨_, rfl, ?_⟩)) (by repeat (first | exact True.intro | refine And.intro ?_ ?_ | exact DLead.same | exact rfl | refine ⟨_, _, rfl, rfl, ?_⟩ | refine ⟨_, rfl, ?_⟩ | refine ⟨_, _, rfl, ?_, ?_⟩)) (one_spec _ _ (by omega) (by omega)) rfl rfl rfl rfl) rfl ?_;refine AL.nil (th_n ?_);refine AC.condD rfl (fun h1 => ?_) (fun h1 => ?_)
   ·refine AC.region ?_;refine zF ?_;refine zs ?_;refine AL.nil (th_n ?_)
    (have e : (cc.tn c.netP).1.post = [] := (by show (if _ then ([] : List Int) else _) = _; rw [if_pos h1]); exact ⟨(), trivial, zw [(100, _), (101, _), (102, _), (103, _)] hC (b := by rw [e]; repeat (first | exact True.intro | refine And.intro ?_ ?_ | exact DLead.same | exact DLead.nil | exact rfl | refine ⟨_, _, rfl, rfl, ?_⟩ | refine ⟨_, rfl, ?_⟩ | refine ⟨_, _, rfl, ?_, ?_⟩))⟩)
   refine AC.skip (th_n ?_)
   (have e : (cc.tn c.netP).1.post = ((cc.subset c.netP 2).2.subset c.netP 2).1 := (by show (if _ then ([] : List Int) else _) = _; rw [if_neg h1]); exact ⟨(), trivial, zw [(100, _), (101, _), (102, _), (103, _)] hC (b := by rw [e]; repeat (first | exact True.intro | refine And.intro ?_ ?_ | exact DLead.same | exact rfl | refine ⟨_, _, rfl, rfl, ?_⟩ | refine ⟨_, rfl, ?_⟩ | refine ⟨_, _, rfl, ?_, ?_⟩))⟩)
  intro _ _;refine AC.region ?_;refine zF ?_;refine zl ?_;refine AL.p (by exact g_load_ptrN rfl rfl rfl rfl rfl) rfl ?_;refine AL.q (by exact h_litF rfl rfl rfl rfl rfl rfl rfl rfl) rfl ?_;refine AL.q (by exact h_appendT ts [(cc.tn c.netP).1] (.own rfl rfl (tsL_len _).symm) (.view rfl) (by simp; omega) (by simp)) rfl ?_;refine zF ?_;refine zs ?_;refine AL.nil (ib_n (th_n (AC.region ?_)));refine zm ?_;refine zA ?_;refine za ?_;refine AL.nil (th_n ?_);exact ⟨(i, (cc.tn c.netP).2, ts ++ [(cc.tn c.netP).1]), ⟨hsub, by show (ts ++ [_]).length + i ≤ _; rw [List.length_append]; show ts.length + 1 + i ≤ _; omega, by show (cc.tn c.netP).2.pos + 14 * i ≤ _; omega⟩, by show i < i + 1; omega, zw [(100, _), (101, _), (102, _)] hC⟩
 refine AC.exit (th_e (th_e (ib_y (th_n (AC.seq (AC.region ?_))))));refine AL.p (by exact g_load_ptrN rfl rfl rfl rfl rfl) rfl ?_;refine zs ?_;refine AL.nil (th_n (AC.ret (bq_r ?_)));have hj : j = 0 := by omega
 subst hj;have e : c.netT = (ts, cc) := hsub.symm;exact retN [(1, _)] rfl (by rw [e]; repeat (first | exact DLead.same | exact rfl | refine ⟨_, rfl, ?_⟩ | refine ⟨_, _, rfl, ?_, ?_⟩)) (by rw [e]; repeat (first | exact True.intro | refine And.intro ?_ ?_ | exact DLead.same | exact rfl | refine ⟨_, _, rfl, rfl, ?_⟩ | refine ⟨_, rfl, ?_⟩ | refine ⟨_, _, rfl, ?_, ?_⟩)) rfl rfl
theorem en_net : Enters Tryz.prog 166 := enters_of Tryz.func166 rfl rfl
theorem Cur.netT_in (c : Cur) : c.netT.1.length ≤ 4 ∧ (∀ t, t ∈ c.netT.1 → t.pre.length ≤ 2 ∧ t.post.length ≤ 2) ∧ c.netT.2.pos ≤ c.pos + 60 ∧ c.netT.2.code = c.code := by
 have h := netN_in c.netP ((c.pick 5).2.pick 5).1.toNat ((c.pick 5).2.pick 5).2 [] (fun t ht => by simp at ht);have hp1 := c.pick_pos 5;have hp2 := (c.pick 5).2.pick_in 5 (by decide);have hp3 := (c.pick 5).2.pick_pos 5;simp only [List.length_nil] at h;refine ⟨by show (netN _ _ _ _).1.length ≤ _; omega, h.2.1, by show (netN _ _ _ _).2.pos ≤ _; omega, ?_⟩;show (netN _ _ _ _).2.code = _;rw [h.2.2.2, Cur.pick_code, Cur.pick_code]
def small (N : Net) : Prop := 0 ≤ N.places ∧ N.places ≤ 31 ∧ N.ts.length ≤ 4 ∧ ∀ t, t ∈ N.ts → t.pre.length ≤ 2 ∧ t.post.length ≤ 2
theorem markOf_len (c : Cur) (n : Int) : ((c.markOf n).1.length = n.toNat) ∧ (c.markOf n).2.pos ≤ c.pos + 2 * n.toNat ∧ (c.markOf n).2.code = c.code := by
 have h := markN_len n.toNat c [];simp only [List.length_nil] at h;exact ⟨by show (markN _ _ _).1.length = _; omega, h.2.1, h.2.2⟩
theorem hasI_mem {l : List Int} {n : Int} : hasI l n = true ↔ n ∈ l := by
 unfold hasI;rw [List.any_eq_true];constructor
 ·rintro ⟨x, hx, e⟩;rw [decide_eq_true_eq] at e;exact e ▸ hx
 intro h; exact ⟨n, h, by simp⟩
end Go.Proofs.YtbiinjejokhfgaaGreat
