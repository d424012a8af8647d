/- Contracts of the functions of the program and of the reference, each proved by a walk through its code. -/
import Derived.WalkKit
import Derived.WalkSpells
import Derived.WalkLawsBesides
import Derived.Deep.Draws
import Derived.Lib.Hide
import Derived.Maps.AppendAt
import Derived.OwnWalk
import Derived.Deep.MidRow
import Derived.Laws.ResultCell
import Derived.Deep.Upon
import Derived.Great.FillDense
import Derived.Laws.Tables
import Derived.Laws.BytesArg
import Derived.Laws.MakeOwn
import Derived.Great.BuildSlice
import Derived.ArgAppend
import Derived.Deep.AppendSrc
import Derived.Test.YthafkkgmekgmoaaGreatProg
import Derived.KernelRfl
import Derived.Orders
import Derived.Laws.IdiomStrings
import Derived.Lib.AppendZerosOnto
import Derived.Test.YthafkkgmekgmoaaGreatGWy2
set_option linter.all false
set_option maxRecDepth 20000
namespace Go.Proofs.YthafkkgmekgmoaaGreat
open Go.RowKit
def NetM (N : Net) (m : List UInt8) : Prop := ∀ x, x ∈ N.ts → InM x.pre m ∧ InM x.post m
def fireI (N : Net) (m : List UInt8) (t : Int) : List UInt8 × Bool :=
 match N.ts[t.toNat]? with
 | some x => if (decide (0 ≤ t) && decide (t ≤ (N.ts.length : Int) - 1)) && enabledI x m then fireT x m else ([], false)
 | none => ([], false)
theorem fireI_out {N : Net} {m : List UInt8} {t : Int} (h : (decide (0 ≤ t) && decide (t ≤ (N.ts.length : Int) - 1)) = false) : fireI N m t = ([], false) := by
 unfold fireI
 split
 ·rw [h]; rfl
 ·rfl
theorem fireI_at {N : Net} {m : List UInt8} {i : Nat} (hi : i < N.ts.length) : fireI N m (i : Int) = if enabledI N.ts[i] m then fireT N.ts[i] m else ([], false) := by
 unfold fireI
 have h : (decide ((0 : Int) ≤ (i : Int)) && decide ((i : Int) ≤ (N.ts.length : Int) - 1)) = true := by simp; omega
 rw [Int.toNat_natCast, List.getElem?_eq_getElem hi]
 simp only [h, Bool.true_and]
set_option maxHeartbeats 4000000 in
theorem ifire_spec (N : Net) (m : List UInt8) (t : Int) (hB : NetB N) (hM : NetM N m) (hm : m.length ≤ 2000000) : ASpec Tryz.prog 114 [netA N, aS (bstr m), aI t] [] (Pure1 (.tup [aS (bstr (fireI N m t).1), aT (fireI N m t).2])) := by
 have hl := hB.l
 refine ASpec.of Tryz.func114 rfl rfl fun C hC => ?_
 refine AC.seq (AC.region ?_)
 refine AL.q (by exact h_boxF rfl rfl) rfl ?_
 refine AL.p (by exact as1 rfl) rfl ?_
 refine AL.p (by exact as1 rfl) rfl ?_
 refine AL.nil (th_n (AC.seq (AC.seq (AC.region ?_))))
 refine AL.p (by exact mv1 rfl) rfl ?_
 refine AL.p (by exact g_fa_ref rfl rfl rfl rfl rfl rfl) rfl ?_
 refine AL.p (by exact g_load_ref rfl rfl rfl) rfl ?_
 refine AL.p (by exact g_len_view rfl rfl (by exact List.length_map _)) rfl ?_
 refine AL.p (by exact g_arith rfl rfl rfl (by exact wrap_i64 (by omega))) rfl ?_
 refine AL.q (by exact h_pure en_within rfl rfl (by repeat (first | exact rfl | exact DLead.same | refine ⟨_, _, rfl, ?_, ?_⟩)) (within_spec _ _ _) rfl) rfl ?_
 refine AL.p (by exact g_not rfl) rfl ?_
 refine AL.p (by exact mv1 rfl) rfl ?_
 refine AL.caseGB rfl rfl (fun h0 => ?_) (fun h0 => ?_)
 ·refine AL.not rfl rfl rfl rfl rfl ?_
  refine AL.not rfl rfl rfl rfl rfl ?_
  refine AL.not rfl rfl rfl rfl rfl ?_
  refine AL.not rfl rfl rfl rfl rfl ?_
  refine AL.not rfl rfl rfl rfl rfl ?_
  refine AL.not rfl rfl rfl rfl rfl ?_
  refine AL.not rfl rfl rfl rfl rfl ?_
  refine AL.not rfl rfl rfl rfl rfl ?_
  refine AL.p (by exact g_pickT (r := .d _) rfl rfl) rfl ?_
  refine AL.nil (th_n ?_)
  refine AC.condT rfl ?_
  refine AC.seq (AC.region ?_)
  refine AL.p (by exact as1 rfl) rfl ?_
  refine AL.p (by exact as1 rfl) rfl ?_
  refine AL.nil (th_n (AC.ret (th_r (bq_r ?_))))
  exact ret2 rfl (by rw [fireI_out ((Bool.not_eq_true' _).mp h0)]; try rfl) (by rw [fireI_out ((Bool.not_eq_true' _).mp h0)])
 ·refine AL.yes rfl rfl rfl ?_
  obtain ⟨i, rfl⟩ : ∃ i : Nat, t = i := ⟨t.toNat, by simp at h0; omega⟩
  have ht : i < N.ts.length := by simp at h0; omega
  have hts := tsL_get ht
  have hl1 := (hB.t _ (List.getElem_mem ht)).1
  have hl2 := (hB.t _ (List.getElem_mem ht)).2
  have hp1 := (hM _ (List.getElem_mem ht)).1
  have hp2 := (hM _ (List.getElem_mem ht)).2
  refine AL.p (by exact g_fa_ref rfl rfl rfl rfl rfl rfl) rfl ?_
  refine AL.yes rfl rfl rfl ?_
  refine AL.p (by exact g_load_ref rfl rfl rfl) rfl ?_
  refine AL.yes rfl rfl rfl ?_
  refine AL.p (by exact mv1 rfl) rfl ?_
  refine AL.yes rfl rfl rfl ?_
  refine AL.p (by exact g_ia_view rfl rfl rfl rfl rfl (by rfl) (by assumption)) rfl ?_
  refine AL.yes rfl rfl rfl ?_
  refine AL.p (by exact g_load_refN rfl rfl rfl rfl) rfl ?_
  refine AL.yes rfl rfl rfl ?_
  refine AL.p (by exact mv1 rfl) rfl ?_
  refine AL.yes rfl rfl rfl ?_
  refine AL.q (by exact h_pure en_isEnabled rfl rfl (by repeat (first | exact rfl | exact DLead.same | refine ⟨_, _, rfl, ?_, ?_⟩ | refine ⟨_, rfl, ?_⟩)) (isEnabled_spec _ _ (by assumption) (by assumption)) rfl) rfl ?_
  refine AL.yes rfl rfl rfl ?_
  refine AL.p (by exact g_not rfl) rfl ?_
  refine AL.p (by exact g_pickF (r := .d _) rfl rfl) rfl ?_
  refine AL.nil (th_n ?_)
  refine AC.condB rfl (fun h1 => ?_) (fun h1 => ?_)
  ·refine AC.seq (AC.region ?_)
   refine AL.p (by exact as1 rfl) rfl ?_
   refine AL.p (by exact as1 rfl) rfl ?_
   refine AL.nil (th_n (AC.ret (th_r (bq_r ?_))))
   exact ret2 rfl (by rw [fireI_at ht, if_neg (by simpa using h1)]; try rfl) (by rw [fireI_at ht, if_neg (by simpa using h1)])
  ·refine AC.skip (th_n (AC.seq (AC.region ?_)))
   refine AL.p (by exact mv1 rfl) rfl ?_
   refine AL.q (by exact h_bytesOfStr rfl rfl rfl rfl) rfl ?_
   refine AL.p (by exact as2 rfl) rfl ?_
   refine AL.nil (th_n (AC.seq (AC.seq (AC.region ?_))))
   refine AL.p (by exact g_fa_ref rfl rfl rfl rfl rfl rfl) rfl ?_
   refine AL.p (by exact g_load_ref rfl rfl rfl) rfl ?_
   refine AL.p (by exact mv1 rfl) rfl ?_
   refine AL.p (by exact g_ia_view rfl rfl rfl rfl rfl (by rfl) (by assumption)) rfl ?_
   refine AL.p (by exact g_fa_ref rfl rfl rfl rfl rfl rfl) rfl ?_
   refine AL.p (by exact g_load_ref rfl rfl rfl) rfl ?_
   refine AL.p (by exact g_len_view rfl rfl (by exact List.length_map _)) rfl ?_
   refine AL.p (by exact mv1 rfl) rfl ?_
   refine AL.nil (th_n (AC.block ?_))
   refine AC.loop (ι := Nat) (fun k => ⟨69, 108, [(2, aI i), (3, .d (.ref (netD N))), (8, .own 100 m.length), (37, .d (vI N.ts[i].pre)), (38, aI N.ts[i].pre.length), (39, aI k)], [(100, some (.arr 5 1 (byteEls (clearAll (N.ts[i].pre.take k) m))))]⟩) (fun k => k ≤ N.ts[i].pre.length) (fun k => N.ts[i].pre.length - k) (0) ?_ (Nat.zero_le _) ?_
   ·exact Weak.ren _ [(100, _)] hC rfl (by repeat (first | exact True.intro | refine And.intro ?_ ?_ | exact DLead.same | exact rfl | refine ⟨_, rfl, ?_⟩)) (by repeat (first | exact True.intro | refine And.intro ?_ ?_ | exact rfl | refine ⟨_, _, rfl, rfl, ?_⟩)) rfl rfl rfl
   ·intro k hk
    refine AC.seq (AC.region ?_)
    refine AL.p (by exact g_cmp rfl rfl rfl) rfl ?_
    refine AL.nil (th_n (AC.seq ?_))
    refine AC.condD rfl (fun h2 => ?_) (fun h2 => ?_)
    ·refine AC.skip (th_n (AC.seq (AC.block (AC.seq ?_))))
     have hk1 : k < N.ts[i].pre.length := by omega
     have hget := ints_at hk1
     have hpk := hp1 _ (List.getElem_mem hk1)
     have hI : N.ts[i].pre[k] = ((N.ts[i].pre[k].toNat : Nat) : Int) := by omega
     have hcl := clear_len (N.ts[i].pre.take k) m
     have hgm := byteEls_get (m := clearAll (N.ts[i].pre.take k) m) (k := N.ts[i].pre[k].toNat) (by omega)
     refine AC.region ?_
     refine AL.p (by exact g_ia_view rfl rfl rfl rfl rfl (by rfl) (by assumption)) rfl ?_
     refine AL.p (by exact g_load_ref rfl rfl rfl) rfl ?_
     refine AL.p (by exact as1 rfl) rfl ?_
     refine AL.nil (th_n (AC.region ?_))
     refine AL.p (by exact mv2 rfl) rfl ?_
     refine AL.p (by exact mv1 rfl) rfl ?_
     refine AL.p (by exact g_ia_own rfl rfl rfl rfl rfl (by assumption) (by omega) (by exact Nat.mul_one _)) rfl ?_
     refine AL.q (by exact h_store_arr1 rfl rfl rfl rfl (by exact .same) (by assumption)) rfl ?_
     refine AL.nil (ib_n (th_n (AC.region ?_)))
     refine AL.p (by exact g_arith rfl rfl rfl (by exact wrap_i64 (by omega))) rfl ?_
     refine AL.p (by exact mv1 rfl) rfl ?_
     refine AL.nil (th_n ?_)
     exact ⟨k + 1, by omega, by omega, Weak.ren _ [(100, _)] hC rfl (by repeat (first | exact True.intro | refine And.intro ?_ ?_ | exact DLead.same | exact rfl | refine ⟨_, rfl, ?_⟩)) (by refine ⟨⟨_, _, rfl, rfl, ?_⟩, trivial⟩; rw [clear_take hk1, ← byteEls_set]; rfl) rfl rfl rfl⟩
    ·refine AC.exit (th_e (th_e (ib_y (th_n (AC.seq (AC.seq (AC.region ?_)))))))
     refine AL.p (by exact g_fa_ref rfl rfl rfl rfl rfl rfl) rfl ?_
     refine AL.p (by exact g_load_ref rfl rfl rfl) rfl ?_
     refine AL.p (by exact mv1 rfl) rfl ?_
     refine AL.p (by exact g_ia_view rfl rfl rfl rfl rfl (by rfl) (by assumption)) rfl ?_
     refine AL.p (by exact g_fa_ref rfl rfl rfl rfl rfl rfl) rfl ?_
     refine AL.p (by exact g_load_ref rfl rfl rfl) rfl ?_
     refine AL.p (by exact g_len_view rfl rfl (by exact List.length_map _)) rfl ?_
     refine AL.p (by exact mv1 rfl) rfl ?_
     refine AL.nil (th_n (AC.block ?_))
     refine AC.loop (ι := Nat × List UInt8) (fun x => ⟨69, 108, [(8, .own 100 m.length), (52, .d (vI N.ts[i].post)), (53, aI N.ts[i].post.length), (54, aI x.1)], [(100, some (.arr 5 1 (byteEls x.2)))]⟩) (fun x => x.1 ≤ N.ts[i].post.length ∧ x.2.length = m.length ∧ putAll (N.ts[i].post.drop x.1) x.2 = putAll N.ts[i].post (clearAll N.ts[i].pre m)) (fun x => N.ts[i].post.length - x.1) ((0, clearAll N.ts[i].pre m)) ?_ (⟨Nat.zero_le _, clear_len _ _, rfl⟩) ?_
     ·have hkk : k = N.ts[i].pre.length := by omega
      subst hkk
      exact Weak.ren _ [(100, _)] hC rfl (by repeat (first | exact True.intro | refine And.intro ?_ ?_ | exact DLead.same | exact rfl | refine ⟨_, rfl, ?_⟩)) (by refine ⟨⟨_, _, rfl, rfl, ?_⟩, trivial⟩; rw [List.take_length]; rfl) rfl rfl rfl
     ·rintro ⟨k, mm⟩ ⟨hk2, hmm, hput⟩
      dsimp only at hk2 hmm hput ⊢
      refine AC.seq (AC.region ?_)
      refine AL.p (by exact g_cmp rfl rfl rfl) rfl ?_
      refine AL.nil (th_n (AC.seq ?_))
      refine AC.condD rfl (fun h3 => ?_) (fun h3 => ?_)
      ·refine AC.skip (th_n (AC.seq (AC.block (AC.seq ?_))))
       have hk3 : k < N.ts[i].post.length := by omega
       have hget := ints_at hk3
       have hpk := hp2 _ (List.getElem_mem hk3)
       have hI : N.ts[i].post[k] = ((N.ts[i].post[k].toNat : Nat) : Int) := by omega
       have hmm' : mm.length = m.length := hmm
       have hgm := byteEls_get (m := mm) (k := N.ts[i].post[k].toNat) (by omega)
       have hlt := (mm.getD N.ts[i].post[k].toNat 0).toNat_lt
       refine AC.region ?_
       refine AL.p (by exact g_ia_view rfl rfl rfl rfl rfl (by rfl) (by assumption)) rfl ?_
       refine AL.p (by exact g_load_ref rfl rfl rfl) rfl ?_
       refine AL.p (by exact as1 rfl) rfl ?_
       refine AL.nil (th_n (AC.seq (AC.seq (AC.region ?_))))
       refine AL.p (by exact mv2 rfl) rfl ?_
       refine AL.p (by exact mv1 rfl) rfl ?_
       refine AL.p (by exact g_ia_own rfl rfl rfl rfl rfl (by assumption) (by omega) (by exact Nat.mul_one _)) rfl ?_
       refine AL.p (by exact g_load_arr1 rfl rfl rfl rfl (by assumption)) rfl ?_
       refine AL.p (by exact g_cmp rfl rfl rfl) rfl ?_
       refine AL.nil (th_n ?_)
       refine AC.condD rfl (fun h4 => ?_) (fun h4 => ?_)
       ·refine AC.seq (AC.region ?_)
        refine AL.p (by exact as1 rfl) rfl ?_
        refine AL.p (by exact as1 rfl) rfl ?_
        refine AL.nil (th_n (AC.ret (th_r (ib_r (th_r (th_r (ib_r (th_r (bq_r ?_)))))))))
        have hd : N.ts[i].post.drop k = N.ts[i].post[k] :: N.ts[i].post.drop (k + 1) := List.drop_eq_getElem_cons hk3
        have hn : putAll N.ts[i].post (clearAll N.ts[i].pre m) = none := by rw [← hput, hd, putAll, if_pos (by simpa [at0] using h4)]
        exact ret2 rfl (by rw [fireI_at ht, if_pos (by simpa using h1), fireT, hn]; rfl) (by rw [fireI_at ht, if_pos (by simpa using h1), fireT, hn])
       ·refine AC.skip (th_n (AC.region ?_))
        refine AL.p (by exact mv2 rfl) rfl ?_
        refine AL.p (by exact mv1 rfl) rfl ?_
        refine AL.p (by exact g_ia_own rfl rfl rfl rfl rfl (by assumption) (by omega) (by exact Nat.mul_one _)) rfl ?_
        refine AL.q (by exact h_store_arr1 rfl rfl rfl rfl (by exact .same) (by assumption)) rfl ?_
        refine AL.nil (ib_n (th_n (AC.region ?_)))
        refine AL.p (by exact g_arith rfl rfl rfl (by exact wrap_i64 (by omega))) rfl ?_
        refine AL.p (by exact mv1 rfl) rfl ?_
        refine AL.nil (th_n ?_)
        have hd : N.ts[i].post.drop k = N.ts[i].post[k] :: N.ts[i].post.drop (k + 1) := List.drop_eq_getElem_cons hk3
        have hn : putAll (N.ts[i].post.drop (k + 1)) (mm.set N.ts[i].post[k].toNat 49) = putAll N.ts[i].post (clearAll N.ts[i].pre m) := by rw [← hput, hd, putAll, if_neg (by simpa [at0] using h4)]
        exact ⟨(k + 1, mm.set N.ts[i].post[k].toNat 49), ⟨by show k + 1 ≤ _; omega, by show (mm.set _ _).length = _; rw [List.length_set]; exact hmm', hn⟩, by show _ - (k + 1) < _; omega, Weak.ren _ [(100, _)] hC rfl (by repeat (first | exact True.intro | refine And.intro ?_ ?_ | exact DLead.same | exact rfl | refine ⟨_, rfl, ?_⟩)) (by refine ⟨⟨_, _, rfl, rfl, ?_⟩, trivial⟩; rw [← byteEls_set]; rfl) rfl rfl rfl⟩
      ·refine AC.exit (th_e (th_e (ib_y (th_n (AC.seq (AC.region ?_))))))
       refine AL.p (by exact mv2 rfl) rfl ?_
       refine AL.p (by exact g_strOfBytes rfl rfl rfl rfl rfl rfl (by omega)) rfl ?_
       refine AL.p (by exact as1 rfl) rfl ?_
       refine AL.p (by exact as1 rfl) rfl ?_
       refine AL.nil (th_n (AC.ret (bq_r ?_)))
       have hkk : k = N.ts[i].post.length := by omega
       have hn : putAll N.ts[i].post (clearAll N.ts[i].pre m) = some mm := by rw [← hput, hkk, List.drop_length]; rfl
       exact ret2 rfl (by rw [fireI_at ht, if_pos (by simpa using h1), fireT, hn]) (by rw [fireI_at ht, if_pos (by simpa using h1), fireT, hn])
theorem en_ifire : Enters Tryz.prog 114 := enters_of Tryz.func114 rfl rfl
theorem rising_in {l : List Int} {lo hi : Int} (h : rising l lo hi = true) : ∀ p, p ∈ l → lo ≤ p ∧ p ≤ hi := by
 intro p hp
 obtain ⟨j, hj, rfl⟩ := List.getElem_of_mem hp
 unfold rising allN at h
 have := List.all_eq_true.1 h j (List.mem_range.2 hj)
 simp [riseAt, List.getD, List.getElem?_eq_getElem hj] at this
 exact this.1
theorem good_netM {N : Net} {m : List UInt8} (hg : goodN N = true) (hb : bitsB m N.places = true) : NetM N m := by
 intro x hx
 simp only [goodN, Bool.and_eq_true, Bool.not_eq_true', List.any_eq_false, decide_eq_true_eq] at hg
 have h1 := hg.2 x hx
 simp only [badT, Bool.or_eq_true, decide_eq_true_eq, not_or, Bool.not_eq_true', Bool.not_eq_false] at h1
 simp only [bitsB, Bool.and_eq_true, decide_eq_true_eq] at hb
 exact ⟨fun p hp => by have := rising_in h1.1.2 p hp; omega, fun p hp => by have := rising_in h1.2 p hp; omega⟩
theorem bits_at {m : List UInt8} {n : Int} {p : Int} (hb : bitsB m n = true) (hp : 0 ≤ p ∧ p < m.length) : at0 m p = 48 ∨ at0 m p = 49 := by
 simp only [bitsB, Bool.and_eq_true, List.all_eq_true] at hb
 have hl : p.toNat < m.length := by omega
 have := hb.1 m[p.toNat] (List.getElem_mem hl)
 simp only [bit, Bool.or_eq_true, decide_eq_true_eq] at this
 simpa [at0, List.getD, List.getElem?_eq_getElem hl] using this
theorem ready_enabled {t : Tn} {m : List UInt8} {n : Int} (hb : bitsB m n = true) (hp : InM t.pre m) : readyS t m = enabledI t m := by
 unfold readyS enabledI
 rw [List.any_eq_not_all_not, Bool.not_not]
 have : ∀ p, p ∈ t.pre → decide (at0 m p = 49) = !decide (at0 m p = 48) := by
  intro p h
  rcases bits_at hb (hp p h) with e | e <;> rw [e] <;> decide
 rw [Bool.eq_iff_iff, List.all_eq_true, List.all_eq_true]
 constructor
 ·intro h p hp; rw [← this p hp]; exact h p hp
 ·intro h p hp; rw [this p hp]; exact h p hp
theorem bits_len {m : List UInt8} {n : Int} (h : bitsB m n = true) : (m.length : Int) = n := by
 simp only [bitsB, Bool.and_eq_true, decide_eq_true_eq] at h; exact h.2
theorem good_places {N : Net} (h : goodN N = true) : 1 ≤ N.places ∧ N.places ≤ 30 ∧ N.ts.length ≤ 24 := by
 simp only [goodN, Bool.and_eq_true, decide_eq_true_eq] at h; omega
structure Cur where
 code : List UInt8
 pos : Nat
 seed : Int
abbrev bytesL (l : List UInt8) : List (List DV) := l.map fun b => [dB b]
abbrev vB (l : List UInt8) : DV := .view 5 1 (bytesL l)
abbrev curC (c : Cur) : Chunk := .cells 112 [.d (vB c.code), aI c.pos, .d (.val (.int .u64 c.seed))]
def cur0 (code : List UInt8) : Cur := ⟨code, 0, 0⟩
theorem bytes_get {l : List UInt8} {k : Nat} (h : k < l.length) : (bytesL l)[k]? = some [dB (l.getD k 0)] := by
 simp [bytesL, List.getElem?_map, List.getElem?_eq_getElem h, List.getD]
def Cur.byte (c : Cur) : Int := if c.pos < c.code.length then ((c.code.getD c.pos 0).toNat : Int) else 0
def Cur.turn (c : Cur) : Int := IntKind.u64.wrap (IntKind.u64.wrap (IntKind.u64.wrap (c.seed * 6364136223846793005) + c.byte) + 1442695040888963407)
def drawn (seed : Int) : Int := IntKind.i64.wrap (IntKind.u64.wrap (BitVec.ofInt 64 (seed.fdiv (2 ^ (min (40 : Int).toNat 64))) &&& BitVec.ofInt 64 255).toNat)
def Cur.after (c : Cur) : Cur := ⟨c.code, c.pos + 1, c.turn⟩
def Cur.next (c : Cur) : Int := if c.pos + 1 ≤ c.code.length then c.byte else drawn c.turn
theorem Cur.byte_in (c : Cur) : 0 ≤ c.byte ∧ c.byte ≤ 255 := by
 unfold Cur.byte
 split
 ·have := (c.code.getD c.pos 0).toNat_lt; omega
 ·omega
set_option maxHeartbeats 1000000 in
theorem next_spec (c : Cur) (hp : c.pos ≤ 1000000000000000) : ASpec Tryz.prog 192 [.ptr 0 0] [(0, curC c)] (Fun1 (aI c.next) [(0, curC c.after)]) := by
 refine ASpec.of Tryz.func192 rfl rfl fun C hC => ?_
 refine AC.seq (AC.region ?_)
 refine AL.p (by exact as1 rfl) rfl ?_
 refine AL.nil (th_n (AC.seq (AC.region ?_)))
 refine AL.p (by exact as1 rfl) rfl ?_
 refine AL.nil (th_n ?_)
 refine AC.cut (fun (_ : Unit) => ⟨62, 1, [(0, .ptr 0 0), (3, aI c.byte)], [(0, some (curC c))]⟩) (fun _ => True) ?_ ?_
 ·refine AC.seq ?_
  refine AC.drawn' mixed_ok [[], [0], [0,1], [0,1,2], [], [4], [4,5], [4,5,6], [4,5,6,7], [0,1,2,3,4,5,6,7,8]] (by decide) ?_
  refine DF.op 0 [] 10 rfl rfl rfl (.free rfl (NOp.of (by exact mv3 rfl))) rfl ?_
  refine DF.op 1 [0] 10 rfl rfl rfl (.free rfl (NOp.of (by exact g_nilP rfl))) rfl ?_
  refine DF.op 2 [0,1] 10 rfl rfl rfl (.free rfl (NOp.of (by exact g_fa_ptr rfl rfl rfl rfl rfl))) rfl ?_
  refine DF.op 3 [0,1,2] 10 rfl rfl rfl (.free rfl (NOp.of (by exact g_load_ptr rfl rfl rfl rfl rfl))) rfl ?_
  refine DF.op 4 [] 10 rfl rfl rfl (.free rfl (NOp.of (by exact mv3 rfl))) rfl ?_
  refine DF.op 5 [4] 10 rfl rfl rfl (.free rfl (NOp.of (by exact g_nilP rfl))) rfl ?_
  refine DF.op 6 [4,5] 10 rfl rfl rfl (.free rfl (NOp.of (by exact g_fa_ptr rfl rfl rfl rfl rfl))) rfl ?_
  refine DF.op 7 [4,5,6] 10 rfl rfl rfl (.free rfl (NOp.of (by exact g_load_ptr rfl rfl rfl rfl rfl))) rfl ?_
  refine DF.op 8 [4,5,6,7] 10 rfl rfl rfl (.free rfl (NOp.of (by exact g_len_view rfl rfl (by exact List.length_map _)))) rfl ?_
  refine DF.op 9 (List.range 9) 10 rfl rfl rfl (.free rfl (NOp.of (by exact g_cmp rfl rfl rfl))) rfl ?_
  refine DF.fin (ps := [(0,4),(0,5),(0,6),(0,7),(0,8),(1,4),(1,5),(1,6),(1,7),(1,8),(2,4),(2,5),(2,6),(2,7),(2,8),(3,4),(3,5),(3,6),(3,7),(3,8),(4,0),(4,1),(4,2),(4,3),(5,0),(5,1),(5,2),(5,3),(6,0),(6,1),(6,2),(6,3),(7,0),(7,1),(7,2),(7,3),(8,0),(8,1),(8,2),(8,3)]) 10 rfl (by decide +kernel) (by decide +kernel) (by rfl) ?_
  refine th_n ?_
  refine AC.condD rfl (fun h0 => ?_) (fun h0 => ?_)
  ·have hk : c.pos < c.code.length := by omega
   have hget : (bytesL c.code)[c.pos]? = some [dB (c.code.getD c.pos 0)] := bytes_get hk
   have hlt := (c.code.getD c.pos 0).toNat_lt
   refine AC.drawn' mixed_ok [[], [0], [0,1], [0,1,2], [], [4], [4,5], [4,5,6], [0,1,2,3,4,5,6,7], [0,1,2,3,4,5,6,7,8], [0,1,2,3,4,5,6,7,8,9], [0,1,2,3,4,5,6,7,8,9,10]] (by decide) ?_
   refine DF.op 0 [] 12 rfl rfl rfl (.free rfl (NOp.of (by exact mv3 rfl))) rfl ?_
   refine DF.op 1 [0] 12 rfl rfl rfl (.free rfl (NOp.of (by exact g_nilP rfl))) rfl ?_
   refine DF.op 2 [0,1] 12 rfl rfl rfl (.free rfl (NOp.of (by exact g_fa_ptr rfl rfl rfl rfl rfl))) rfl ?_
   refine DF.op 3 [0,1,2] 12 rfl rfl rfl (.free rfl (NOp.of (by exact g_load_ptr rfl rfl rfl rfl rfl))) rfl ?_
   refine DF.op 4 [] 12 rfl rfl rfl (.free rfl (NOp.of (by exact mv3 rfl))) rfl ?_
   refine DF.op 5 [4] 12 rfl rfl rfl (.free rfl (NOp.of (by exact g_nilP rfl))) rfl ?_
   refine DF.op 6 [4,5] 12 rfl rfl rfl (.free rfl (NOp.of (by exact g_fa_ptr rfl rfl rfl rfl rfl))) rfl ?_
   refine DF.op 7 [4,5,6] 12 rfl rfl rfl (.free rfl (NOp.of (by exact g_load_ptr rfl rfl rfl rfl rfl))) rfl ?_
   refine DF.op 8 [0,1,2,3,4,5,6,7] 12 rfl rfl rfl (.free rfl (NOp.of (by exact g_ia_view rfl rfl rfl rfl rfl (by rfl) (by assumption)))) rfl ?_
   refine DF.op 9 (List.range 9) 12 rfl rfl rfl (.free rfl (NOp.of (by exact g_load_ref rfl rfl rfl))) rfl ?_
   refine DF.op 10 (List.range 10) 12 rfl rfl rfl (.free rfl (NOp.of (by exact g_convI rfl rfl rfl (by exact wrap_i64 (by omega))))) rfl ?_
   refine DF.op 11 (List.range 11) 12 rfl rfl rfl (.free rfl (NOp.of (by exact as1 rfl))) rfl ?_
   refine DF.fin (ps := [(0,4),(0,5),(0,6),(0,7),(1,4),(1,5),(1,6),(1,7),(2,4),(2,5),(2,6),(2,7),(3,4),(3,5),(3,6),(3,7),(4,0),(4,1),(4,2),(4,3),(5,0),(5,1),(5,2),(5,3),(6,0),(6,1),(6,2),(6,3),(7,0),(7,1),(7,2),(7,3)]) 12 rfl (by decide +kernel) (by decide +kernel) (by rfl) ?_
   refine th_n ?_
   have hb : c.byte = if c.pos < c.code.length then ((c.code.getD c.pos 0).toNat : Int) else 0 := rfl
   exact ⟨(), trivial, Weak.ren _ [] hC rfl (by refine ⟨?_, ?_, ?_⟩; repeat (refine ⟨_, rfl, ?_⟩); (try (exact DLead.eqI (by rw [hb]; split <;> omega))); repeat (first | exact True.intro | exact DLead.eqI (by omega) | exact rfl)) (by repeat (first | exact True.intro | refine And.intro ?_ ?_ | exact DLead.same | exact rfl | refine ⟨_, _, rfl, rfl, ?_⟩ | refine ⟨_, rfl, ?_⟩ | refine ⟨_, _, rfl, ?_, ?_⟩)) rfl rfl rfl⟩
  ·refine AC.skip (th_n ?_)
   have hb : c.byte = if c.pos < c.code.length then ((c.code.getD c.pos 0).toNat : Int) else 0 := rfl
   exact ⟨(), trivial, Weak.ren _ [] hC rfl (by refine ⟨?_, ?_, ?_⟩; repeat (refine ⟨_, rfl, ?_⟩); (try (exact DLead.eqI (by rw [hb]; split <;> omega))); repeat (first | exact True.intro | exact DLead.eqI (by omega) | exact rfl)) (by repeat (first | exact True.intro | refine And.intro ?_ ?_ | exact DLead.same | exact rfl | refine ⟨_, _, rfl, rfl, ?_⟩ | refine ⟨_, rfl, ?_⟩ | refine ⟨_, _, rfl, ?_, ?_⟩)) rfl rfl rfl⟩
 ·intro _ _
  have hbi := c.byte_in
  refine AC.seq (AC.region ?_)
  refine AL.p (by exact mv3 rfl) rfl ?_
  refine AL.p (by exact g_nilP rfl) rfl ?_
  refine AL.p (by exact g_fa_ptr rfl rfl rfl rfl rfl) rfl ?_
  refine AL.p (by exact g_load_ptr rfl rfl rfl rfl rfl) rfl ?_
  refine AL.p (by exact g_arith rfl rfl rfl (by exact wrap_i64 (by omega))) rfl ?_
  refine AL.p (by exact g_nilP rfl) rfl ?_
  refine AL.p (by exact g_fa_ptr rfl rfl rfl rfl rfl) rfl ?_
  refine AL.q (by exact h_store rfl rfl rfl rfl rfl rfl) rfl ?_
  refine AL.nil (th_n (AC.seq (AC.region ?_)))
  refine AL.p (by exact mv3 rfl) rfl ?_
  refine AL.p (by exact mv3 rfl) rfl ?_
  refine AL.p (by exact g_nilP rfl) rfl ?_
  refine AL.p (by exact g_fa_ptr rfl rfl rfl rfl rfl) rfl ?_
  refine AL.p (by exact g_load_ptr rfl rfl rfl rfl rfl) rfl ?_
  refine AL.p (by exact g_arith rfl rfl rfl (by rfl)) rfl ?_
  refine AL.p (by exact mv1 rfl) rfl ?_
  refine AL.p (by exact g_convI rfl rfl rfl (by exact wrap_u64 (by omega))) rfl ?_
  refine AL.p (by exact g_arith rfl rfl rfl (by rfl)) rfl ?_
  refine AL.p (by exact g_arith rfl rfl rfl (by rfl)) rfl ?_
  refine AL.p (by exact g_nilP rfl) rfl ?_
  refine AL.p (by exact g_fa_ptr rfl rfl rfl rfl rfl) rfl ?_
  refine AL.q (by exact h_store rfl rfl rfl rfl rfl rfl) rfl ?_
  refine AL.nil (th_n (AC.seq (AC.seq ?_)))
  refine AC.drawn' mixed_ok [[], [0], [0,1], [0,1,2], [], [4], [4,5], [4,5,6], [4,5,6,7], [0,1,2,3,4,5,6,7,8]] (by decide) ?_
  refine DF.op 0 [] 10 rfl rfl rfl (.free rfl (NOp.of (by exact mv3 rfl))) rfl ?_
  refine DF.op 1 [0] 10 rfl rfl rfl (.free rfl (NOp.of (by exact g_nilP rfl))) rfl ?_
  refine DF.op 2 [0,1] 10 rfl rfl rfl (.free rfl (NOp.of (by exact g_fa_ptr rfl rfl rfl rfl rfl))) rfl ?_
  refine DF.op 3 [0,1,2] 10 rfl rfl rfl (.free rfl (NOp.of (by exact g_load_ptr rfl rfl rfl rfl rfl))) rfl ?_
  refine DF.op 4 [] 10 rfl rfl rfl (.free rfl (NOp.of (by exact mv3 rfl))) rfl ?_
  refine DF.op 5 [4] 10 rfl rfl rfl (.free rfl (NOp.of (by exact g_nilP rfl))) rfl ?_
  refine DF.op 6 [4,5] 10 rfl rfl rfl (.free rfl (NOp.of (by exact g_fa_ptr rfl rfl rfl rfl rfl))) rfl ?_
  refine DF.op 7 [4,5,6] 10 rfl rfl rfl (.free rfl (NOp.of (by exact g_load_ptr rfl rfl rfl rfl rfl))) rfl ?_
  refine DF.op 8 [4,5,6,7] 10 rfl rfl rfl (.free rfl (NOp.of (by exact g_len_view rfl rfl (by exact List.length_map _)))) rfl ?_
  refine DF.op 9 (List.range 9) 10 rfl rfl rfl (.free rfl (NOp.of (by exact g_cmp rfl rfl rfl))) rfl ?_
  refine DF.fin (ps := [(0,4),(0,5),(0,6),(0,7),(0,8),(1,4),(1,5),(1,6),(1,7),(1,8),(2,4),(2,5),(2,6),(2,7),(2,8),(3,4),(3,5),(3,6),(3,7),(3,8),(4,0),(4,1),(4,2),(4,3),(5,0),(5,1),(5,2),(5,3),(6,0),(6,1),(6,2),(6,3),(7,0),(7,1),(7,2),(7,3),(8,0),(8,1),(8,2),(8,3)]) 10 rfl (by decide +kernel) (by decide +kernel) (by rfl) ?_
  refine th_n ?_
  refine AC.condD rfl (fun h0 => ?_) (fun h0 => ?_)
  ·refine AC.seq (AC.region ?_)
   refine AL.p (by exact mv1 rfl) rfl ?_
   refine AL.p (by exact as1 rfl) rfl ?_
   refine AL.nil (th_n (AC.ret (th_r (bq_r ?_))))
   exact retF rfl (by show DLead _ _; exact DLead.eqI (by unfold Cur.next; rw [if_pos (by omega)])) (by repeat (first | exact True.intro | refine And.intro ?_ ?_ | exact DLead.same | exact rfl | refine ⟨_, _, rfl, rfl, ?_⟩ | refine ⟨_, rfl, ?_⟩ | refine ⟨_, _, rfl, ?_, ?_⟩)) rfl
  ·refine AC.skip (th_n (AC.seq (AC.region ?_)))
   refine AL.p (by exact mv3 rfl) rfl ?_
   refine AL.p (by exact g_nilP rfl) rfl ?_
   refine AL.p (by exact g_fa_ptr rfl rfl rfl rfl rfl) rfl ?_
   refine AL.p (by exact g_load_ptr rfl rfl rfl rfl rfl) rfl ?_
   refine AL.p (by exact g_shr rfl rfl (by decide) (by rfl)) rfl ?_
   refine AL.p (by exact g_bits rfl rfl rfl) rfl ?_
   refine AL.p (by exact g_convI rfl rfl rfl (by rfl)) rfl ?_
   refine AL.p (by exact as1 rfl) rfl ?_
   refine AL.nil (th_n (AC.ret (bq_r ?_)))
   exact retF rfl (by show DLead _ _; exact DLead.eqI (by unfold Cur.next; rw [if_neg (by omega)]; rfl)) (by repeat (first | exact True.intro | refine And.intro ?_ ?_ | exact DLead.same | exact rfl | refine ⟨_, _, rfl, rfl, ?_⟩ | refine ⟨_, rfl, ?_⟩ | refine ⟨_, _, rfl, ?_, ?_⟩)) rfl
theorem en_next : Enters Tryz.prog 192 := enters_of Tryz.func192 rfl rfl
theorem all_set {m : List UInt8} {p : Nat} {b : UInt8} (h : m.all bit = true) (hb : bit b = true) : (m.set p b).all bit = true := by
 rw [List.all_eq_true] at h ⊢
 intro x hx
 rcases List.mem_or_eq_of_mem_set hx with h' | rfl
 ·exact h x h'
 ·exact hb
theorem clear_bits (ps : List Int) : ∀ {m : List UInt8}, m.all bit = true → (clearAll ps m).all bit = true := by
 induction ps with
 | nil => intro m h; exact h
 | cons p ps ih => intro m h; exact ih (all_set h (by decide))
theorem put_bits : ∀ (ps : List Int) {m m' : List UInt8}, m.all bit = true → putAll ps m = some m' → m'.all bit = true ∧ m'.length = m.length
 | [], m, m', h, e => by simp only [putAll, Option.some.injEq] at e; subst e; exact ⟨h, rfl⟩
 | p :: ps, m, m', h, e => by
  simp only [putAll] at e
  split at e
  ·cases e
  ·have := put_bits ps (all_set (p := p.toNat) h (by decide : bit 49 = true)) e
   exact ⟨this.1, by rw [this.2, List.length_set]⟩
theorem fireT_bits {t : Tn} {m : List UInt8} {n : Int} (h : bitsB m n = true) (ho : (fireT t m).2 = true) : bitsB (fireT t m).1 n = true := by
 simp only [bitsB, Bool.and_eq_true, decide_eq_true_eq] at h ⊢
 unfold fireT at ho ⊢
 split at ho
 ·rename_i m' e
  have := put_bits _ (clear_bits t.pre h.1) e
  exact ⟨this.1, by rw [this.2, clear_len]; exact h.2⟩
 ·cases ho
theorem fireI_bits {N : Net} {m : List UInt8} {t n : Int} (h : bitsB m n = true) (ho : (fireI N m t).2 = true) : bitsB (fireI N m t).1 n = true := by
 unfold fireI at ho ⊢
 split at ho
 ·rename_i x e
  split at ho
  ·rename_i hc
   rw [if_pos hc]; exact fireT_bits h ho
  ·cases ho
 ·cases ho
def fireSeq (N : Net) : List UInt8 → List Int → Int → List UInt8 × Int × Bool
 | m, [], k => (m, k, true)
 | m, t :: ts, k => if (fireI N m t).2 then fireSeq N (fireI N m t).1 ts (k + 1) else (m, k, false)
def SeqI (N : Net) (m : List UInt8) (ts : List Int) : List UInt8 × Int × Bool := if (goodN N && bitsB m N.places) && decide ((ts.length : Int) ≤ 200) then fireSeq N m ts 0 else ([], 0, false)
theorem SeqI_yes {N : Net} {m : List UInt8} {ts : List Int} (h : ((goodN N && bitsB m N.places) && decide ((ts.length : Int) ≤ 200)) = true) : SeqI N m ts = fireSeq N m ts 0 := by rw [SeqI, h]; rfl
theorem SeqI_no {N : Net} {m : List UInt8} {ts : List Int} (h : ((goodN N && bitsB m N.places) && decide ((ts.length : Int) ≤ 200)) = false) : SeqI N m ts = ([], 0, false) := by rw [SeqI, h]; rfl
set_option maxHeartbeats 2000000 in
theorem iFireSeq_spec (N : Net) (m : List UInt8) (ts : List Int) (hB : NetB N) (hm : m.length ≤ 2000000) (hts : ts.length ≤ 1000000) : ASpec Tryz.prog 21 [netA N, aS (bstr m), .d (vI ts)] [] (Pure1 (.tup [aS (bstr (SeqI N m ts).1), aI (SeqI N m ts).2.1, aT (SeqI N m ts).2.2])) := by
 refine ASpec.of Tryz.func21 rfl rfl fun C hC => ?_
 refine AC.seq (AC.region ?_)
 refine AL.q (by exact h_boxF rfl rfl) rfl ?_
 refine AL.p (by exact as1 rfl) rfl ?_
 refine AL.p (by exact as1 rfl) rfl ?_
 refine AL.p (by exact as1 rfl) rfl ?_
 refine AL.nil (th_n (AC.seq (AC.seq (AC.region ?_))))
 refine AL.p (by exact g_load_refN rfl rfl rfl rfl) rfl ?_
 refine AL.p (by exact mv1 rfl) rfl ?_
 refine AL.q (by exact h_pure en_IsValidMarking rfl rfl (by repeat (first | exact rfl | exact DLead.same | refine ⟨_, _, rfl, ?_, ?_⟩ | refine ⟨_, rfl, ?_⟩)) (IsValidMarking_spec _ _ (by assumption) (by assumption)) rfl) rfl ?_
 refine AL.p (by exact g_not rfl) rfl ?_
 refine AL.p (by exact mv1 rfl) rfl ?_
 refine AL.caseGB rfl rfl (fun h0 => ?_) (fun h0 => ?_)
 ·refine AL.not rfl rfl rfl rfl rfl ?_
  refine AL.not rfl rfl rfl rfl rfl ?_
  refine AL.not rfl rfl rfl rfl rfl ?_
  refine AL.p (by exact g_pickT (r := .d _) rfl rfl) rfl ?_
  refine AL.nil (th_n ?_)
  refine AC.condT rfl ?_
  refine AC.seq (AC.region ?_)
  refine AL.p (by exact as1 rfl) rfl ?_
  refine AL.p (by exact as1 rfl) rfl ?_
  refine AL.p (by exact as1 rfl) rfl ?_
  refine AL.nil (th_n (AC.ret (th_r (bq_r ?_))))
  have hz : ((goodN N && bitsB m N.places) && decide ((ts.length : Int) ≤ 200)) = false := by (rw [(Bool.not_eq_true' _).mp h0]; rfl)
  have hs := SeqI_no hz
  exact ret3 rfl (by rw [hs]; rfl) (by rw [hs]) (by rw [hs])
 ·refine AL.yes rfl rfl rfl ?_
  refine AL.p (by exact mv1 rfl) rfl ?_
  refine AL.yes rfl rfl rfl ?_
  refine AL.p (by exact g_len_view rfl rfl (by exact List.length_map _)) rfl ?_
  refine AL.yes rfl rfl rfl ?_
  refine AL.p (by exact g_cmp rfl rfl rfl) rfl ?_
  refine AL.p (by exact g_pickF (r := .d _) rfl rfl) rfl ?_
  refine AL.nil (th_n ?_)
  refine AC.condD rfl (fun h1 => ?_) (fun h1 => ?_)
  ·refine AC.seq (AC.region ?_)
   refine AL.p (by exact as1 rfl) rfl ?_
   refine AL.p (by exact as1 rfl) rfl ?_
   refine AL.p (by exact as1 rfl) rfl ?_
   refine AL.nil (th_n (AC.ret (th_r (bq_r ?_))))
   have hz : ((goodN N && bitsB m N.places) && decide ((ts.length : Int) ≤ 200)) = false := by (have hz := h1; rw [Bool.and_eq_false_iff]; exact .inr (by simp; omega))
   have hs := SeqI_no hz
   exact ret3 rfl (by rw [hs]; rfl) (by rw [hs]) (by rw [hs])
  ·refine AC.skip (th_n (AC.seq (AC.seq ?_)))
   have hg := (Bool.not_eq_false' _).mp h0
   have hg1 : goodN N = true := by rw [Bool.and_eq_true] at hg; exact hg.1
   have hg2 : bitsB m N.places = true := by rw [Bool.and_eq_true] at hg; exact hg.2
   have hpl := good_places hg1
   have hz : ((goodN N && bitsB m N.places) && decide ((ts.length : Int) ≤ 200)) = true := by rw [hg]; simp; omega
   refine AC.region ?_
   refine AL.p (by exact mv1 rfl) rfl ?_
   refine AL.p (by exact g_len_view rfl rfl (by exact List.length_map _)) rfl ?_
   refine AL.p (by exact mv1 rfl) rfl ?_
   refine AL.nil (th_n (AC.block ?_))
   refine AC.loop (ι := Nat × List UInt8) (fun x => ⟨45, 0, [(1, aS (bstr x.2)), (2, .d (vI ts)), (3, .d (.ref (netD N))), (22, .d (vI ts)), (23, aI ts.length), (24, aI x.1)], []⟩) (fun x => x.1 ≤ ts.length ∧ bitsB x.2 N.places = true ∧ fireSeq N x.2 (ts.drop x.1) x.1 = fireSeq N m ts 0) (fun x => ts.length - x.1) ((0, m)) ?_ (⟨Nat.zero_le _, hg2, rfl⟩) ?_
   ·refine Weak.ren _ [] hC rfl ?_ ?_ rfl rfl rfl <;> repeat (first | exact True.intro | refine And.intro ?_ ?_ | exact DLead.same)
   ·rintro ⟨k, mm⟩ ⟨hk, hmb, hseq⟩
    dsimp only at hk hmb hseq ⊢
    have hmm := bits_len hmb
    have hM : NetM N mm := good_netM hg1 hmb
    refine AC.seq (AC.region ?_)
    refine AL.p (by exact g_cmp rfl rfl rfl) rfl ?_
    refine AL.nil (th_n (AC.seq ?_))
    refine AC.condD rfl (fun h2 => ?_) (fun h2 => ?_)
    ·refine AC.skip (th_n (AC.seq (AC.block (AC.seq ?_))))
     have hk1 : k < ts.length := by omega
     have hget := ints_at hk1
     have hd : ts.drop k = ts[k] :: ts.drop (k + 1) := List.drop_eq_getElem_cons hk1
     refine AC.region ?_
     refine AL.p (by exact mv1 rfl) rfl ?_
     refine AL.p (by exact g_ia_view rfl rfl rfl rfl rfl (by rfl) (by assumption)) rfl ?_
     refine AL.p (by exact g_load_ref rfl rfl rfl) rfl ?_
     refine AL.p (by exact as1 rfl) rfl ?_
     refine AL.p (by exact as1 rfl) rfl ?_
     refine AL.nil (th_n (AC.seq (AC.region ?_)))
     refine AL.p (by exact g_load_refN rfl rfl rfl rfl) rfl ?_
     refine AL.p (by exact mv1 rfl) rfl ?_
     refine AL.p (by exact mv1 rfl) rfl ?_
     refine AL.q (by exact h_pure en_ifire rfl rfl (by repeat (first | exact rfl | exact DLead.same | refine ⟨_, _, rfl, ?_, ?_⟩ | refine ⟨_, rfl, ?_⟩)) (ifire_spec _ _ _ (by assumption) (by assumption) (by omega)) rfl) rfl ?_
     refine AL.p (by exact mv5 rfl) rfl ?_
     refine AL.p (by exact g_extract (r := .d _) rfl rfl) rfl ?_
     refine AL.p (by exact g_extract (r := .d _) rfl rfl) rfl ?_
     refine AL.p (by exact as1 rfl) rfl ?_
     refine AL.p (by exact as1 rfl) rfl ?_
     refine AL.nil (th_n (AC.seq (AC.seq (AC.region ?_))))
     refine AL.p (by exact mv1 rfl) rfl ?_
     refine AL.p (by exact g_not rfl) rfl ?_
     refine AL.nil (th_n ?_)
     refine AC.condB rfl (fun h3 => ?_) (fun h3 => ?_)
     ·refine AC.seq (AC.region ?_)
      refine AL.p (by exact mv1 rfl) rfl ?_
      refine AL.p (by exact mv1 rfl) rfl ?_
      refine AL.p (by exact as1 rfl) rfl ?_
      refine AL.p (by exact as1 rfl) rfl ?_
      refine AL.p (by exact as1 rfl) rfl ?_
      refine AL.nil (th_n (AC.ret (th_r (ib_r (th_r (th_r (ib_r (th_r (bq_r ?_)))))))))
      have he : fireSeq N m ts 0 = (mm, (k : Int), false) := by rw [← hseq, hd, fireSeq, if_neg (by simpa using h3)]
      have hs := (SeqI_yes hz).trans he
      exact ret3 rfl (by rw [hs]) (by rw [hs]) (by rw [hs])
     ·refine AC.skip (th_n (AC.region ?_))
      refine AL.p (by exact mv1 rfl) rfl ?_
      refine AL.p (by exact as1 rfl) rfl ?_
      refine AL.nil (ib_n (th_n (AC.region ?_)))
      refine AL.p (by exact g_arith rfl rfl rfl (by exact wrap_i64 (by omega))) rfl ?_
      refine AL.p (by exact mv1 rfl) rfl ?_
      refine AL.nil (th_n ?_)
      have hf : (fireI N mm ts[k]).2 = true := by simpa using h3
      have he : fireSeq N (fireI N mm ts[k]).1 (ts.drop (k + 1)) ((k : Int) + 1) = fireSeq N m ts 0 := by rw [← hseq, hd, fireSeq, if_pos hf]
      exact ⟨(k + 1, (fireI N mm ts[k]).1), ⟨by show k + 1 ≤ _; omega, fireI_bits hmb hf, he⟩, by show _ - (k + 1) < _; omega, Weak.ren _ [] hC rfl (by repeat (first | exact True.intro | refine And.intro ?_ ?_ | exact DLead.same)) (by repeat (exact True.intro)) rfl rfl rfl⟩
    ·refine AC.exit (th_e (th_e (ib_y (th_n (AC.seq (AC.region ?_))))))
     refine AL.p (by exact mv1 rfl) rfl ?_
     refine AL.p (by exact mv1 rfl) rfl ?_
     refine AL.p (by exact g_len_view rfl rfl (by exact List.length_map _)) rfl ?_
     refine AL.p (by exact as1 rfl) rfl ?_
     refine AL.p (by exact as1 rfl) rfl ?_
     refine AL.p (by exact as1 rfl) rfl ?_
     refine AL.nil (th_n (AC.ret (bq_r ?_)))
     have hkk : k = ts.length := by omega
     have he : fireSeq N m ts 0 = (mm, (ts.length : Int), true) := by rw [← hseq, hkk, List.drop_length]; rfl
     have hs := (SeqI_yes hz).trans he
     exact ret3 rfl (by rw [hs]) (by rw [hs]) (by rw [hs])
theorem en_iFireSeq : Enters Tryz.prog 21 := enters_of Tryz.func21 rfl rfl
def hasI (l : List Int) (n : Int) : Bool := l.any (fun x => decide (x = n))
set_option maxHeartbeats 1000000 in
theorem lhas_spec (l : List Int) (n : Int) (hl : l.length ≤ 1000000) : ASpec Tryz.prog 28 [.d (vI l), aI n] [] (Pure1 (aT (hasI l n))) := by
 refine ASpec.of Tryz.func28 rfl rfl fun C hC => ?_
 refine AC.seq (AC.region ?_)
 refine AL.p (by exact as1 rfl) rfl ?_
 refine AL.nil (th_n (AC.seq (AC.seq (AC.region ?_))))
 refine AL.p (by exact mv1 rfl) rfl ?_
 refine AL.p (by exact g_len_view rfl rfl (by exact List.length_map _)) rfl ?_
 refine AL.p (by exact mv1 rfl) rfl ?_
 refine AL.nil (th_n (AC.block ?_))
 refine AC.loop (ι := Nat) (fun k => ⟨17, 0, [(1, aI n), (7, .d (vI l)), (8, aI l.length), (9, aI k)], []⟩) (fun k => k ≤ l.length ∧ ∀ j (hj : j < l.length), j < k → decide (l[j] = n) = false) (fun k => l.length - k) (0) ?_ (⟨Nat.zero_le _, fun j _ hj => by omega⟩) ?_
 ·refine Weak.ren _ [] hC rfl ?_ ?_ rfl rfl rfl <;> repeat (first | exact True.intro | refine And.intro ?_ ?_ | exact DLead.same)
 ·intro k ⟨hk, hall⟩
  refine AC.seq (AC.region ?_)
  refine AL.p (by exact g_cmp rfl rfl rfl) rfl ?_
  refine AL.nil (th_n (AC.seq ?_))
  refine AC.condD rfl (fun h0 => ?_) (fun h0 => ?_)
  ·refine AC.skip (th_n (AC.seq (AC.block (AC.seq ?_))))
   have hk1 : k < l.length := by omega
   have hget := ints_at hk1
   refine AC.region ?_
   refine AL.p (by exact g_ia_view rfl rfl rfl rfl rfl (by rfl) (by assumption)) rfl ?_
   refine AL.p (by exact g_load_ref rfl rfl rfl) rfl ?_
   refine AL.p (by exact as1 rfl) rfl ?_
   refine AL.nil (th_n (AC.seq (AC.region ?_)))
   refine AL.p (by exact mv1 rfl) rfl ?_
   refine AL.p (by exact mv1 rfl) rfl ?_
   refine AL.p (by exact g_cmp rfl rfl rfl) rfl ?_
   refine AL.nil (th_n ?_)
   refine AC.condD rfl (fun h1 => ?_) (fun h1 => ?_)
   ·refine AC.seq (AC.region ?_)
    refine AL.p (by exact as1 rfl) rfl ?_
    refine AL.nil (th_n (AC.ret (ib_r (th_r (th_r (ib_r (th_r (bq_r ?_))))))))
    exact ret1 rfl (by rw [hasI, List.any_eq_true.2 ⟨_, List.getElem_mem hk1, by simpa using h1⟩])
   ·refine AC.skip (ib_n (th_n (AC.region ?_)))
    refine AL.p (by exact g_arith rfl rfl rfl (by exact wrap_i64 (by omega))) rfl ?_
    refine AL.p (by exact mv1 rfl) rfl ?_
    refine AL.nil (th_n ?_)
    exact ⟨k + 1, ⟨by omega, fun j hj hj2 => by rcases Nat.lt_succ_iff_lt_or_eq.1 hj2 with h | rfl; exact hall j hj h; simpa using h1⟩, by omega, Weak.ren _ [] hC rfl (by repeat (first | exact True.intro | refine And.intro ?_ ?_ | exact DLead.same)) (by repeat (exact True.intro)) rfl rfl rfl⟩
  ·refine AC.exit (th_e (th_e (ib_y (th_n (AC.seq (AC.region ?_))))))
   refine AL.p (by exact as1 rfl) rfl ?_
   refine AL.nil (th_n (AC.ret (bq_r ?_)))
   exact ret1 rfl (by rw [hasI, List.any_eq_false.2 (fun x hx => by obtain ⟨j, hj, rfl⟩ := List.getElem_of_mem hx; have := hall j hj (by omega); rw [this]; decide)])
theorem en_lhas : Enters Tryz.prog 28 := enters_of Tryz.func28 rfl rfl
set_option maxHeartbeats 1000000 in
theorem big_spec (a b : List UInt8) (ha : a.length ≤ 9223372036854775807) (hb : b.length ≤ 9223372036854775807) : ASpec Tryz.prog 9 [.d (vB a), .d (vB b)] [] (Pure1 (aT (decide ((a.length : Int) > 1048576) || decide ((b.length : Int) > 1048576 - a.length)))) := by
 refine ASpec.of Tryz.func9 rfl rfl fun C hC => ?_
 refine AC.seq (AC.region ?_)
 refine AL.p (by exact as1 rfl) rfl ?_
 refine AL.nil (th_n (AC.seq (AC.region ?_)))
 refine AL.p (by exact mv1 rfl) rfl ?_
 refine AL.p (by exact g_len_view rfl rfl (by exact List.length_map _)) rfl ?_
 refine AL.p (by exact g_cmp rfl rfl rfl) rfl ?_
 refine AL.p (by exact mv1 rfl) rfl ?_
 refine AL.caseG rfl rfl (fun h0 => ?_) (fun h0 => ?_)
 ·refine AL.not rfl rfl rfl rfl rfl ?_
  refine AL.not rfl rfl rfl rfl rfl ?_
  refine AL.not rfl rfl rfl rfl rfl ?_
  refine AL.not rfl rfl rfl rfl rfl ?_
  refine AL.not rfl rfl rfl rfl rfl ?_
  refine AL.not rfl rfl rfl rfl rfl ?_
  refine AL.p (by exact g_pickT (r := .d _) rfl rfl) rfl ?_
  refine AL.p (by exact as1 rfl) rfl ?_
  refine AL.nil (th_n (AC.ret (bq_r ?_)))
  exact ret1 rfl (by simp [h0])
 ·refine AL.yes rfl rfl rfl ?_
  refine AL.p (by exact mv1 rfl) rfl ?_
  refine AL.yes rfl rfl rfl ?_
  refine AL.p (by exact g_len_view rfl rfl (by exact List.length_map _)) rfl ?_
  refine AL.yes rfl rfl rfl ?_
  refine AL.p (by exact mv1 rfl) rfl ?_
  refine AL.yes rfl rfl rfl ?_
  refine AL.p (by exact g_len_view rfl rfl (by exact List.length_map _)) rfl ?_
  refine AL.yes rfl rfl rfl ?_
  refine AL.p (by exact g_arith rfl rfl rfl (by exact wrap_i64 (by omega))) rfl ?_
  refine AL.yes rfl rfl rfl ?_
  refine AL.p (by exact g_cmp rfl rfl rfl) rfl ?_
  refine AL.p (by exact g_pickF (r := .d _) rfl rfl) rfl ?_
  refine AL.p (by exact as1 rfl) rfl ?_
  refine AL.nil (th_n (AC.ret (bq_r ?_)))
  exact ret1 rfl (by simp [h0])
theorem en_big : Enters Tryz.prog 9 := enters_of Tryz.func9 rfl rfl
section
variable {P : Program} [PT P]
variable {s : ASt} {dst : Option Nat} {ty : Nat} {pos : String} {af : Array Edge} {gd : Option (Nat × Bool)} {x y : Operand} {t u f : Nat}
theorem retN (ρ : List (Nat × Nat)) {fn : Func} {k : Nat} {x r : AV} {chs' : List (Nat × Chunk)} (hx : resAV P s fn.results.toList = some x) (h : r.leads (sig k ρ) x) (hc : leadsC (sig k ρ) s (chL chs')) (ha : apartL (sig k ρ) (keysC (chL chs')) = true) (hρ : ρ.all (fun p => Nat.blt p.1 (k + 8)) = true) : RetQ P fn k (Fun1 r chs') s :=
  ⟨⟨x, r, chs', ρ, hx, ⟨rfl, rfl⟩, h, fun id c hc' => (leadsC_get hc id c (by rw [getL_chL]; exact hc')).1, fun id hid => by
    have : Nat.blt id k = false := by cases hb : Nat.blt id k with
      | true => have : id < k := by simpa using hb
                omega
      | false => rfl
    have h2 : getL id ρ = none := by
      cases hg : getL id ρ with
      | none => rfl
      | some v =>
        have : ∀ (l : List (Nat × Nat)), l.all (fun p => Nat.blt p.1 (k + 8)) = true → getL id l = some v → id < k + 8 := by
          intro l
          induction l with
          | nil => intro _ h; simp [getL] at h
          | cons p l ih =>
            intro h1 h2
            rw [getL_cons] at h2
            simp only [List.all_cons, Bool.and_eq_true] at h1
            split at h2
            · rename_i e; have := h1.1; rw [e]; simpa using this
            · exact ih h1.2 h2
        have := this ρ hρ hg
        omega
    simp [sig, this, h2], fun id id' j h1 h2 h3 h4 => by
    obtain ⟨c, h1⟩ := h1
    obtain ⟨c', h2⟩ := h2
    exact apartL_inj ha id id' j (leadsC_get hc id c (by rw [getL_chL]; exact h1)).2 (leadsC_get hc id' c' (by rw [getL_chL]; exact h2)).2 h3 h4⟩⟩
end
theorem ints_all (l : List Int) : (ints l).take l.length = ints l := by rw [List.take_of_length_le (by simp)]
theorem ints_len (l : List Int) : (ints l).length = l.length := List.length_map _
theorem h_appendI (acc new : List Int) {s : ASt} {dst : Option Nat} {ty : Nat} {pos : String} {af : Array Edge} {gd : Option (Nat × Bool)} {x y : Operand} {f : Nat} {ids ids2 : List Nat} {gone : List (Nat × Option Chunk)}
  (hto : AppTo s x 3 1 (ints acc) ids gone) (harg : AppArg s y 1 (ints new) ids2) (h : (acc ++ new).length ≤ 100000000) (hnew : gone = [] → 0 < new.length) :
  NOp Tryz.prog (ids ++ ids2) s ⟨dst, .call { callee := .builtin .append, args := #[x, y], argTypes := #[39, 39] }, ty, pos, af, gd⟩ f ⟨.own f (acc ++ new).length, (f, some (.arr 3 1 (ints (acc ++ new)))) :: gone⟩ := by
 have := h_append (P := Tryz.prog) (s := s) (dst := dst) (ty := ty) (pos := pos) (af := af) (gd := gd) (x := x) (y := y) (f := f) (t := 39) (tx := 39) (k := (acc ++ new).length) rfl rfl rfl rfl rfl rfl hto harg (by simp) (by omega) (by show (acc ++ new).length * 8 ≤ _; omega) (fun h => by rw [ints_len]; exact hnew h)
 rwa [← List.map_append] at this
def readyL (N : Net) (m : List UInt8) (k : Nat) : List Int := ((List.range k).filter (fun i => match N.ts[i]? with | some t => readyS t m | none => false)).map (fun (i : Nat) => (i : Int))
theorem readyL_succ {N : Net} {m : List UInt8} {k : Nat} (hk : k < N.ts.length) : readyL N m (k + 1) = readyL N m k ++ (if readyS N.ts[k] m then [(k : Int)] else []) := by
 unfold readyL
 rw [List.range_succ, List.filter_append, List.map_append]
 congr 1
 simp only [List.filter_cons, List.getElem?_eq_getElem hk, List.filter_nil]
 split <;> rfl
theorem readyL_t {N : Net} {m : List UInt8} {k : Nat} (hk : k < N.ts.length) (h : readyS N.ts[k] m = true) : readyL N m (k + 1) = readyL N m k ++ [(k : Int)] := by rw [readyL_succ hk, h]; rfl
theorem readyL_f {N : Net} {m : List UInt8} {k : Nat} (hk : k < N.ts.length) (h : readyS N.ts[k] m = false) : readyL N m (k + 1) = readyL N m k := by rw [readyL_succ hk, h]; exact List.append_nil _
theorem readyL_len (N : Net) (m : List UInt8) (k : Nat) : (readyL N m k).length ≤ k := by
 unfold readyL
 rw [List.length_map]
 exact Nat.le_trans (List.length_filter_le _ _) (by simp)
set_option maxHeartbeats 2000000 in
theorem l1Enabled_spec (N : Net) (m : List UInt8) (hB : NetB N) (hM : NetM N m) : ASpec Tryz.prog 185 [netA N, aS (bstr m)] [] (Pure1 (.d (vI (readyL N m N.ts.length)))) := by
 have hl := hB.l
 refine ASpec.of Tryz.func185 rfl rfl fun C hC => ?_
 refine AC.seq (AC.region ?_)
 refine AL.q (by exact h_boxF rfl rfl) rfl ?_
 refine AL.p (by exact as1 rfl) rfl ?_
 refine AL.nil (th_n (AC.seq (AC.region ?_)))
 refine AL.p (by exact as1 rfl) rfl ?_
 refine AL.nil (th_n (AC.seq (AC.seq (AC.region ?_))))
 refine AL.p (by exact g_fa_ref rfl rfl rfl rfl rfl rfl) rfl ?_
 refine AL.p (by exact g_load_ref rfl rfl rfl) rfl ?_
 refine AL.p (by exact g_len_view rfl rfl (by exact List.length_map _)) rfl ?_
 refine AL.p (by exact mv1 rfl) rfl ?_
 refine AL.nil (th_n (AC.block ?_))
 refine AC.loop (ι := Nat) (fun k => ⟨23, 108, [(1, aS (bstr m)), (2, .d (.ref (netD N))), (5, .own 100 (readyL N m k).length), (9, aI N.ts.length), (10, aI k)], [(100, some (.arr 3 1 (ints (readyL N m k))))]⟩) (fun k => k ≤ N.ts.length) (fun k => N.ts.length - k) (0) ?_ (Nat.zero_le _) ?_
 ·exact (Weak.nilOwn (i := 5) (e := 3) (sz := 1) rfl (by decide)).trans (Weak.ren _ [(100, _)] hC rfl (by repeat (first | exact True.intro | refine And.intro ?_ ?_ | exact DLead.same | exact rfl | refine ⟨_, rfl, ?_⟩)) (by repeat (first | exact True.intro | refine And.intro ?_ ?_ | exact rfl | refine ⟨_, _, rfl, rfl, ?_⟩)) rfl rfl rfl)
 ·intro k hk
  refine AC.seq (AC.region ?_)
  refine AL.p (by exact g_cmp rfl rfl rfl) rfl ?_
  refine AL.nil (th_n (AC.seq ?_))
  refine AC.condD rfl (fun h0 => ?_) (fun h0 => ?_)
  ·refine AC.skip (th_n (AC.seq (AC.block (AC.seq ?_))))
   have hk1 : k < N.ts.length := by omega
   have hl1 := (hB.t _ (List.getElem_mem hk1)).1
   have hp1 := (hM _ (List.getElem_mem hk1)).1
   have hrs := readyL_succ (m := m) hk1
   have hln := readyL_len N m k
   refine AC.region ?_
   refine AL.p (by exact mv1 rfl) rfl ?_
   refine AL.p (by exact as1 rfl) rfl ?_
   refine AL.nil (th_n (AC.seq (AC.region ?_)))
   refine AL.p (by exact g_load_refN rfl rfl rfl rfl) rfl ?_
   refine AL.p (by exact mv1 rfl) rfl ?_
   refine AL.p (by exact mv1 rfl) rfl ?_
   refine AL.q (by exact h_pure en_l1Ready rfl rfl (by repeat (first | exact rfl | exact DLead.same | refine ⟨_, _, rfl, ?_, ?_⟩ | refine ⟨_, rfl, ?_⟩)) (l1Ready_spec _ _ _ (by assumption) (by assumption) (by assumption)) rfl) rfl ?_
   refine AL.nil (th_n ?_)
   refine AC.condB rfl (fun h1 => ?_) (fun h1 => ?_)
   ·refine AC.region ?_
    refine AL.p (by exact mv2 rfl) rfl ?_
    refine AL.p (by exact mv1 rfl) rfl ?_
    refine AL.q (by exact h_litF rfl rfl rfl rfl rfl rfl rfl rfl) rfl ?_
    refine AL.q (by exact h_appendI (readyL N m k) [(k : Int)] (.own rfl rfl (ints_len _).symm) (.view rfl) (by simp; omega) (by simp)) rfl ?_
    refine AL.p (by exact as2 rfl) rfl ?_
    refine AL.nil (ib_n (th_n (AC.region ?_)))
    refine AL.p (by exact g_arith rfl rfl rfl (by exact wrap_i64 (by omega))) rfl ?_
    refine AL.p (by exact mv1 rfl) rfl ?_
    refine AL.nil (th_n ?_)
    have e : readyL N m (k + 1) = readyL N m k ++ [(k : Int)] ∨ readyL N m (k + 1) = readyL N m k := by exact .inl (readyL_t hk1 h1)
    (have e := readyL_t hk1 h1; exact ⟨k + 1, by omega, by omega, Weak.ren _ [(100, _)] hC rfl (by rw [e]; repeat (first | exact True.intro | refine And.intro ?_ ?_ | exact DLead.same | exact rfl | refine ⟨_, rfl, ?_⟩)) (by rw [e]; repeat (first | exact True.intro | refine And.intro ?_ ?_ | exact rfl | refine ⟨_, _, rfl, rfl, ?_⟩)) rfl rfl rfl⟩)
   ·refine AC.skip (ib_n (th_n (AC.region ?_)))
    refine AL.p (by exact g_arith rfl rfl rfl (by exact wrap_i64 (by omega))) rfl ?_
    refine AL.p (by exact mv1 rfl) rfl ?_
    refine AL.nil (th_n ?_)
    have e : readyL N m (k + 1) = readyL N m k ++ [(k : Int)] ∨ readyL N m (k + 1) = readyL N m k := by exact .inr (readyL_f hk1 h1)
    (have e := readyL_f hk1 h1; exact ⟨k + 1, by omega, by omega, Weak.ren _ [(100, _)] hC rfl (by rw [e]; repeat (first | exact True.intro | refine And.intro ?_ ?_ | exact DLead.same | exact rfl | refine ⟨_, rfl, ?_⟩)) (by rw [e]; repeat (first | exact True.intro | refine And.intro ?_ ?_ | exact rfl | refine ⟨_, _, rfl, rfl, ?_⟩)) rfl rfl rfl⟩)
  ·refine AC.exit (th_e (th_e (ib_y (th_n (AC.seq ?_)))))
   have hkk : k = N.ts.length := by omega
   subst hkk
   refine AC.weak (Weak.freeze (i := 5) rfl rfl (Nat.le_of_eq (ints_len _).symm) (ints_all _)) ?_
   refine AC.region ?_
   refine AL.p (by exact mv1 rfl) rfl ?_
   refine AL.p (by exact as1 rfl) rfl ?_
   refine AL.nil (th_n (AC.ret (bq_r ?_)))
   exact ret1 rfl rfl
theorem en_l1Enabled : Enters Tryz.prog 185 := enters_of Tryz.func185 rfl rfl
def Cur.pick (c : Cur) (n : Int) : Int × Cur :=
 if n ≤ 1 then (0, c) else if 200 < n then ((c.next * 256 + c.after.next).tmod n, c.after.after) else (c.next.tmod n, c.after)
theorem drawn_in (s : Int) : 0 ≤ drawn s ∧ drawn s ≤ 255 := by
 unfold drawn
 have h1 : (BitVec.ofInt 64 (s.fdiv (2 ^ (min (40 : Int).toNat 64))) &&& BitVec.ofInt 64 255).toNat ≤ 255 := by
  rw [BitVec.toNat_and]
  exact Nat.le_trans Nat.and_le_right (by decide)
 generalize (BitVec.ofInt 64 (s.fdiv (2 ^ (min (40 : Int).toNat 64))) &&& BitVec.ofInt 64 255).toNat = x at h1
 have h2 : IntKind.u64.wrap (x : Int) = x := wrap_u64 (by omega)
 rw [h2, wrap_i64 (by omega)]
 omega
theorem Cur.next_in (c : Cur) : 0 ≤ c.next ∧ c.next ≤ 255 := by
 unfold Cur.next
 split
 ·exact c.byte_in
 ·exact drawn_in _
theorem Cur.pick_in (c : Cur) (n : Int) (h : 1 ≤ n) : 0 ≤ (c.pick n).1 ∧ (c.pick n).1 < n := by
 have h1 := c.next_in
 have h2 := c.after.next_in
 unfold Cur.pick
 split
 ·exact ⟨Int.le_refl _, by show (0 : Int) < n; omega⟩
 ·split
  ·exact ⟨Int.tmod_nonneg _ (by omega), Int.tmod_lt_of_pos _ (by omega)⟩
  ·exact ⟨Int.tmod_nonneg _ (by omega), Int.tmod_lt_of_pos _ (by omega)⟩
theorem Cur.pick_pos (c : Cur) (n : Int) : (c.pick n).2.pos ≤ c.pos + 2 := by
 unfold Cur.pick
 split
 ·show c.pos ≤ _; omega
 ·split
  ·show c.pos + 1 + 1 ≤ _; omega
  ·show c.pos + 1 ≤ _; omega
theorem Cur.pick_code (c : Cur) (n : Int) : (c.pick n).2.code = c.code := by
 unfold Cur.pick
 split
 ·rfl
 ·split <;> rfl
set_option maxHeartbeats 1000000 in
theorem pick_spec (c : Cur) (n : Int) (hn : n ≤ 65536) (hp : c.pos ≤ 100000000000000) : ASpec Tryz.prog 119 [.ptr 0 0, aI n] [(0, curC c)] (Fun1 (aI (c.pick n).1) [(0, curC (c.pick n).2)]) := by
 have hi := c.next_in
 have hi2 := c.after.next_in
 have hpa : c.after.pos ≤ 1000000000000000 := by show c.pos + 1 ≤ _; omega
 refine ASpec.of Tryz.func119 rfl rfl fun C hC => ?_
 refine AC.seq (AC.region ?_)
 refine AL.p (by exact as1 rfl) rfl ?_
 refine AL.nil (th_n (AC.seq (AC.seq (AC.region ?_))))
 refine AL.p (by exact mv1 rfl) rfl ?_
 refine AL.p (by exact g_cmp rfl rfl rfl) rfl ?_
 refine AL.nil (th_n ?_)
 refine AC.condD rfl (fun h0 => ?_) (fun h0 => ?_)
 ·refine AC.seq (AC.region ?_)
  refine AL.p (by exact as1 rfl) rfl ?_
  refine AL.nil (th_n (AC.ret (th_r (bq_r ?_))))
  have e : c.pick n = (0, c) := by unfold Cur.pick; rw [if_pos h0]
  exact retF rfl (by rw [e]; repeat (exact DLead.same)) (by rw [e]; repeat (first | exact True.intro | refine And.intro ?_ ?_ | exact DLead.same | exact rfl | refine ⟨_, _, rfl, rfl, ?_⟩ | refine ⟨_, rfl, ?_⟩ | refine ⟨_, _, rfl, ?_, ?_⟩)) rfl
 ·refine AC.skip (th_n (AC.seq (AC.region ?_)))
  refine AL.p (by exact mv3 rfl) rfl ?_
  refine AL.q (by exact h_fun (cs := [0]) en_next rfl rfl (by repeat (first | exact rfl | refine ⟨_, _, rfl, ?_, ?_⟩ | refine ⟨_, rfl, ?_⟩)) (by repeat (first | exact True.intro | refine And.intro ?_ ?_ | exact DLead.same | exact rfl | refine ⟨_, _, rfl, rfl, ?_⟩ | refine ⟨_, rfl, ?_⟩ | refine ⟨_, _, rfl, ?_, ?_⟩)) (next_spec _ (by omega)) rfl rfl rfl rfl) rfl ?_
  refine AL.p (by exact as1 rfl) rfl ?_
  refine AL.nil (th_n (AC.seq (AC.seq (AC.region ?_))))
  refine AL.p (by exact mv1 rfl) rfl ?_
  refine AL.p (by exact g_cmp rfl rfl rfl) rfl ?_
  refine AL.nil (th_n ?_)
  refine AC.condD rfl (fun h1 => ?_) (fun h1 => ?_)
  ·refine AC.region ?_
   refine AL.p (by exact mv1 rfl) rfl ?_
   refine AL.p (by exact g_arith rfl rfl rfl (by exact wrap_i64 (by omega))) rfl ?_
   refine AL.p (by exact mv3 rfl) rfl ?_
   refine AL.q (by exact h_fun (cs := [0]) en_next rfl rfl (by repeat (first | exact rfl | refine ⟨_, _, rfl, ?_, ?_⟩ | refine ⟨_, rfl, ?_⟩)) (by repeat (first | exact True.intro | refine And.intro ?_ ?_ | exact DLead.same | exact rfl | refine ⟨_, _, rfl, rfl, ?_⟩ | refine ⟨_, rfl, ?_⟩ | refine ⟨_, _, rfl, ?_, ?_⟩)) (next_spec _ (by assumption)) rfl rfl rfl rfl) rfl ?_
   refine AL.p (by exact g_arith rfl rfl rfl (by exact wrap_i64 (by omega))) rfl ?_
   refine AL.p (by exact as1 rfl) rfl ?_
   refine AL.nil (th_n (AC.seq (AC.region ?_)))
   refine AL.p (by exact mv1 rfl) rfl ?_
   refine AL.p (by exact mv1 rfl) rfl ?_
   refine AL.p (by exact g_rem rfl rfl (by omega) rfl) rfl ?_
   refine AL.p (by exact as1 rfl) rfl ?_
   refine AL.nil (th_n (AC.ret (bq_r ?_)))
   (have e : c.pick n = ((c.next * 256 + c.after.next).tmod n, c.after.after) := (by unfold Cur.pick; rw [if_neg h0, if_pos h1]); exact retF rfl (by rw [e]; repeat (exact DLead.same)) (by rw [e]; repeat (first | exact True.intro | refine And.intro ?_ ?_ | exact DLead.same | exact rfl | refine ⟨_, _, rfl, rfl, ?_⟩ | refine ⟨_, rfl, ?_⟩ | refine ⟨_, _, rfl, ?_, ?_⟩)) rfl)
  ·refine AC.skip (th_n (AC.seq (AC.region ?_)))
   refine AL.p (by exact mv1 rfl) rfl ?_
   refine AL.p (by exact mv1 rfl) rfl ?_
   refine AL.p (by exact g_rem rfl rfl (by omega) rfl) rfl ?_
   refine AL.p (by exact as1 rfl) rfl ?_
   refine AL.nil (th_n (AC.ret (bq_r ?_)))
   (have e : c.pick n = (c.next.tmod n, c.after) := (by unfold Cur.pick; rw [if_neg h0, if_neg h1]); exact retF rfl (by rw [e]; repeat (exact DLead.same)) (by rw [e]; repeat (first | exact True.intro | refine And.intro ?_ ?_ | exact DLead.same | exact rfl | refine ⟨_, _, rfl, rfl, ?_⟩ | refine ⟨_, rfl, ?_⟩ | refine ⟨_, _, rfl, ?_, ?_⟩)) rfl)
theorem en_pick : Enters Tryz.prog 119 := enters_of Tryz.func119 rfl rfl
theorem one_spec (c : Cur) (n : Int) (hn : n ≤ 65536) (hp : c.pos ≤ 100000000000000) : ASpec Tryz.prog 127 [.ptr 0 0, aI n] [(0, curC c)] (Fun1 (aT (decide ((c.pick n).1 = 0))) [(0, curC (c.pick n).2)]) := by
 refine ASpec.of Tryz.func127 rfl rfl fun C hC => ?_
 refine AC.seq (AC.region ?_)
 refine AL.p (by exact as1 rfl) rfl ?_
 refine AL.nil (th_n (AC.seq (AC.region ?_)))
 refine AL.p (by exact mv3 rfl) rfl ?_
 refine AL.p (by exact mv1 rfl) rfl ?_
 refine AL.q (by exact h_fun (cs := [0]) en_pick rfl rfl (by repeat (first | exact rfl | exact DLead.same | refine ⟨_, _, rfl, ?_, ?_⟩ | refine ⟨_, rfl, ?_⟩)) (by repeat (first | exact True.intro | refine And.intro ?_ ?_ | exact DLead.same | exact rfl | refine ⟨_, _, rfl, rfl, ?_⟩ | refine ⟨_, rfl, ?_⟩ | refine ⟨_, _, rfl, ?_, ?_⟩)) (pick_spec _ _ (by assumption) (by assumption)) rfl rfl rfl rfl) rfl ?_
 refine AL.p (by exact g_cmp rfl rfl rfl) rfl ?_
 refine AL.p (by exact as1 rfl) rfl ?_
 refine AL.nil (th_n (AC.ret (bq_r ?_)))
 exact retF rfl (by repeat (exact DLead.same)) (by repeat (first | exact True.intro | refine And.intro ?_ ?_ | exact DLead.same | exact rfl | refine ⟨_, _, rfl, rfl, ?_⟩ | refine ⟨_, rfl, ?_⟩ | refine ⟨_, _, rfl, ?_, ?_⟩)) rfl
theorem en_one : Enters Tryz.prog 127 := enters_of Tryz.func127 rfl rfl
theorem among_spec (c : Cur) (l : List Int) (h0 : 0 < l.length) (hl : l.length ≤ 65536) (hp : c.pos ≤ 100000000000000) : ASpec Tryz.prog 129 [.ptr 0 0, .d (vI l)] [(0, curC c)] (Fun1 (aI (l.getD (c.pick l.length).1.toNat 0)) [(0, curC (c.pick l.length).2)]) := by
 have hi := c.pick_in l.length (by omega)
 have hI : (c.pick l.length).1 = (((c.pick l.length).1.toNat : Nat) : Int) := by omega
 have hget := ints_get (l := l) (k := (c.pick l.length).1.toNat) (by omega)
 refine ASpec.of Tryz.func129 rfl rfl fun C hC => ?_
 refine AC.seq (AC.region ?_)
 refine AL.p (by exact as1 rfl) rfl ?_
 refine AL.nil (th_n (AC.seq (AC.region ?_)))
 refine AL.p (by exact mv1 rfl) rfl ?_
 refine AL.p (by exact mv3 rfl) rfl ?_
 refine AL.p (by exact mv1 rfl) rfl ?_
 refine AL.p (by exact g_len_view rfl rfl (by exact List.length_map _)) rfl ?_
 refine AL.q (by exact h_fun (cs := [0]) en_pick rfl rfl (by repeat (first | exact rfl | exact DLead.same | refine ⟨_, _, rfl, ?_, ?_⟩ | refine ⟨_, rfl, ?_⟩)) (by repeat (first | exact True.intro | refine And.intro ?_ ?_ | exact DLead.same | exact rfl | refine ⟨_, _, rfl, rfl, ?_⟩ | refine ⟨_, rfl, ?_⟩ | refine ⟨_, _, rfl, ?_, ?_⟩)) (pick_spec _ _ (by omega) (by assumption)) rfl rfl rfl rfl) rfl ?_
 refine AL.p (by exact g_ia_view rfl rfl rfl rfl rfl (by assumption) (by assumption)) rfl ?_
 refine AL.p (by exact g_load_ref rfl rfl rfl) rfl ?_
 refine AL.p (by exact as1 rfl) rfl ?_
 refine AL.nil (th_n (AC.ret (bq_r ?_)))
 exact retF rfl (by repeat (exact DLead.same)) (by repeat (first | exact True.intro | refine And.intro ?_ ?_ | exact DLead.same | exact rfl | refine ⟨_, _, rfl, rfl, ?_⟩ | refine ⟨_, rfl, ?_⟩ | refine ⟨_, _, rfl, ?_, ?_⟩)) rfl
theorem en_among : Enters Tryz.prog 129 := enters_of Tryz.func129 rfl rfl
def putI (l : List Int) (x : Int) : List Int :=
 if l[l.findIdx (fun y => decide (x ≤ y))]? = some x then l else l.take (l.findIdx (fun y => decide (x ≤ y))) ++ [x] ++ l.drop (l.findIdx (fun y => decide (x ≤ y)))
theorem putI_len (l : List Int) (x : Int) : (putI l x).length ≤ l.length + 1 := by
 unfold putI
 split
 ·omega
 ·simp; omega
theorem idx_at {l : List Int} {x : Int} {k : Nat} (hk : k < l.length) (h : ¬ l[k] < x) (hp : ∀ j (hj : j < k), l[j]'(by omega) < x) : l.findIdx (fun y => decide (x ≤ y)) = k :=
 (List.findIdx_eq hk).2 ⟨by simp; omega, fun j hj => by have := hp j hj; simp; omega⟩
theorem idx_end {l : List Int} {x : Int} (hp : ∀ j (hj : j < l.length), l[j] < x) {k : Nat} (hk : l.length = k) : l.findIdx (fun y => decide (x ≤ y)) = k := by
 subst hk
 exact List.findIdx_eq_length.2 (fun y hy => by obtain ⟨j, hj, rfl⟩ := List.getElem_of_mem hy; have := hp j hj; simp; omega)
theorem putI_same {l : List Int} {x : Int} {k : Nat} (h : l.findIdx (fun y => decide (x ≤ y)) = k) (hk : k < l.length) (he : l[k] = x) : putI l x = l := by
 unfold putI; rw [h, List.getElem?_eq_getElem hk, he, if_pos rfl]
theorem putI_at {l : List Int} {x : Int} {k : Nat} (h : l.findIdx (fun y => decide (x ≤ y)) = k) (hk : k < l.length) (he : ¬ l[k] = x) : putI l x = l.take k ++ [x] ++ l.drop k := by
 unfold putI; rw [h, List.getElem?_eq_getElem hk, if_neg (by simpa using he)]
theorem putI_end {l : List Int} {x : Int} {k : Nat} (h : l.findIdx (fun y => decide (x ≤ y)) = k) (hk : l.length ≤ k) : putI l x = l.take k ++ [x] ++ l.drop k := by
 unfold putI; rw [h, List.getElem?_eq_none hk, if_neg (by simp)]
set_option maxHeartbeats 2000000 in
theorem l1Put_spec (l : List Int) (x : Int) (hl : l.length ≤ 1000000) : ASpec Tryz.prog 246 [.d (vI l), aI x] [] (Pure1 (.d (vI (putI l x)))) := by
 refine ASpec.of Tryz.func246 rfl rfl fun C hC => ?_
 refine AC.seq (AC.region ?_)
 refine AL.p (by exact as1 rfl) rfl ?_
 refine AL.nil (th_n (AC.seq (AC.region ?_)))
 refine AL.p (by exact as1 rfl) rfl ?_
 refine AL.nil (th_n ?_)
 refine AC.cut (fun (k : Nat) => ⟨48, 0, [(0, .d (vI l)), (1, aI x), (5, aI k)], []⟩) (fun k => k ≤ l.length ∧ l.findIdx (fun y => decide (x ≤ y)) = k) ?_ ?_
 ·refine AC.block ?_
  refine AC.loop (ι := Nat) (fun k => ⟨48, 0, [(0, .d (vI l)), (1, aI x), (5, aI k)], []⟩) (fun k => k ≤ l.length ∧ ∀ j (hj : j < l.length), j < k → l[j] < x) (fun k => l.length - k) (0) ?_ (⟨Nat.zero_le _, fun j _ hj => by omega⟩) ?_
  ·refine Weak.ren _ [] hC rfl ?_ ?_ rfl rfl rfl <;> repeat (first | exact True.intro | refine And.intro ?_ ?_ | exact DLead.same)
  ·intro k ⟨hk, hall⟩
   refine AC.seq (AC.seq (AC.region ?_))
   refine AL.p (by exact mv1 rfl) rfl ?_
   refine AL.p (by exact mv1 rfl) rfl ?_
   refine AL.p (by exact g_len_view rfl rfl (by exact List.length_map _)) rfl ?_
   refine AL.p (by exact g_cmp rfl rfl rfl) rfl ?_
   refine AL.p (by exact mv1 rfl) rfl ?_
   refine AL.caseG rfl rfl (fun h0 => ?_) (fun h0 => ?_)
   ·refine AL.yes rfl rfl rfl ?_
    have hk1 : k < l.length := by omega
    have hget := ints_at hk1
    refine AL.p (by exact mv1 rfl) rfl ?_
    refine AL.yes rfl rfl rfl ?_
    refine AL.p (by exact mv1 rfl) rfl ?_
    refine AL.yes rfl rfl rfl ?_
    refine AL.p (by exact g_ia_view rfl rfl rfl rfl rfl (by rfl) (by assumption)) rfl ?_
    refine AL.yes rfl rfl rfl ?_
    refine AL.p (by exact g_load_ref rfl rfl rfl) rfl ?_
    refine AL.yes rfl rfl rfl ?_
    refine AL.p (by exact mv1 rfl) rfl ?_
    refine AL.yes rfl rfl rfl ?_
    refine AL.p (by exact g_cmp rfl rfl rfl) rfl ?_
    refine AL.p (by exact g_pickT (r := .d _) rfl rfl) rfl ?_
    refine AL.nil (th_n ?_)
    refine AC.condD rfl (fun h1 => ?_) (fun h1 => ?_)
    ·refine AC.skip (th_n (AC.block (AC.region ?_)))
     refine AL.p (by exact mv1 rfl) rfl ?_
     refine AL.p (by exact g_arith rfl rfl rfl (by exact wrap_i64 (by omega))) rfl ?_
     refine AL.p (by exact as1 rfl) rfl ?_
     refine AL.nil (ib_n (th_n ?_))
     exact ⟨k + 1, ⟨by omega, fun j hj hj2 => by rcases Nat.lt_succ_iff_lt_or_eq.1 hj2 with h | rfl; exact hall j hj h; exact h1⟩, by omega, Weak.ren _ [] hC rfl (by repeat (first | exact True.intro | refine And.intro ?_ ?_ | exact DLead.same)) (by repeat (exact True.intro)) rfl rfl rfl⟩
    ·refine AC.exit (th_e (th_e (ib_y (th_n ?_))))
     exact ⟨k, ⟨hk, idx_at hk1 h1 (fun j hj => hall j (by omega) hj)⟩, Weak.ren _ [] hC rfl (by repeat (first | exact True.intro | refine And.intro ?_ ?_ | exact DLead.same)) (by repeat (exact True.intro)) rfl rfl rfl⟩
   ·refine AL.not rfl rfl rfl rfl rfl ?_
    refine AL.not rfl rfl rfl rfl rfl ?_
    refine AL.not rfl rfl rfl rfl rfl ?_
    refine AL.not rfl rfl rfl rfl rfl ?_
    refine AL.not rfl rfl rfl rfl rfl ?_
    refine AL.not rfl rfl rfl rfl rfl ?_
    refine AL.p (by exact g_pickF (r := .d _) rfl rfl) rfl ?_
    refine AL.nil (th_n ?_)
    refine AC.condF rfl ?_
    refine AC.exit (th_e (th_e (ib_y (th_n ?_))))
    exact ⟨k, ⟨hk, idx_end (fun j hj => hall j hj (by omega)) (by omega)⟩, Weak.ren _ [] hC rfl (by repeat (first | exact True.intro | refine And.intro ?_ ?_ | exact DLead.same)) (by repeat (exact True.intro)) rfl rfl rfl⟩
 ·intro k ⟨hk, hidx⟩
  refine AC.seq (AC.seq (AC.region ?_))
  refine AL.p (by exact mv1 rfl) rfl ?_
  refine AL.p (by exact mv1 rfl) rfl ?_
  refine AL.p (by exact g_len_view rfl rfl (by exact List.length_map _)) rfl ?_
  refine AL.p (by exact g_cmp rfl rfl rfl) rfl ?_
  refine AL.p (by exact mv1 rfl) rfl ?_
  refine AL.caseG rfl rfl (fun h0 => ?_) (fun h0 => ?_)
  ·refine AL.yes rfl rfl rfl ?_
   have hk1 : k < l.length := by omega
   have hget := ints_at hk1
   refine AL.p (by exact mv1 rfl) rfl ?_
   refine AL.yes rfl rfl rfl ?_
   refine AL.p (by exact mv1 rfl) rfl ?_
   refine AL.yes rfl rfl rfl ?_
   refine AL.p (by exact g_ia_view rfl rfl rfl rfl rfl (by rfl) (by assumption)) rfl ?_
   refine AL.yes rfl rfl rfl ?_
   refine AL.p (by exact g_load_ref rfl rfl rfl) rfl ?_
   refine AL.yes rfl rfl rfl ?_
   refine AL.p (by exact mv1 rfl) rfl ?_
   refine AL.yes rfl rfl rfl ?_
   refine AL.p (by exact g_cmp rfl rfl rfl) rfl ?_
   refine AL.p (by exact g_pickT (r := .d _) rfl rfl) rfl ?_
   refine AL.nil (th_n ?_)
   refine AC.condD rfl (fun h1 => ?_) (fun h1 => ?_)
   ·refine AC.seq (AC.region ?_)
    refine AL.p (by exact mv1 rfl) rfl ?_
    refine AL.p (by exact as1 rfl) rfl ?_
    refine AL.nil (th_n (AC.ret (th_r (bq_r ?_))))
    have e : putI l x = l := putI_same hidx hk1 h1
    exact ret1 rfl (by rw [e])
   ·refine AC.skip (th_n (AC.seq ?_))
    have e : putI l x = l.take k ++ [x] ++ l.drop k := by exact putI_at hidx hk1 h1
    refine AC.region ?_
    refine AL.q (by exact h_lit rfl rfl rfl rfl rfl rfl rfl rfl) rfl ?_
    refine AL.p (by exact mv1 rfl) rfl ?_
    refine AL.p (by exact mv1 rfl) rfl ?_
    refine AL.p (by exact g_slice_view (r := ints (l.take k)) rfl rfl rfl rfl .none (.some rfl rfl) (Nat.zero_le _) (by rw [ints_len]; exact hk) (by simp [List.map_take])) rfl ?_
    refine AL.q (by exact h_appendI [] (l.take k) (.own rfl rfl rfl) (.view rfl) (by simp; omega) (by simp)) rfl ?_
    refine AL.p (by exact as2 rfl) rfl ?_
    refine AL.nil (th_n (AC.seq (AC.region ?_)))
    refine AL.p (by exact mv2 rfl) rfl ?_
    refine AL.p (by exact mv1 rfl) rfl ?_
    refine AL.q (by exact h_litF rfl rfl rfl rfl rfl rfl rfl rfl) rfl ?_
    refine AL.q (by exact h_appendI ([] ++ l.take k) [x] (.own rfl rfl (ints_len _).symm) (.view rfl) (by simp; omega) (by simp)) rfl ?_
    refine AL.p (by exact as2 rfl) rfl ?_
    refine AL.nil (th_n (AC.seq (AC.region ?_)))
    refine AL.p (by exact mv2 rfl) rfl ?_
    refine AL.p (by exact mv1 rfl) rfl ?_
    refine AL.p (by exact mv1 rfl) rfl ?_
    refine AL.p (by exact g_slice_view (r := ints (l.drop k)) rfl rfl rfl rfl (.some rfl rfl) .none (by rw [ints_len]; exact hk) (Nat.le_refl _) (by rw [List.take_length]; exact (List.map_drop ..).symm)) rfl ?_
    refine AL.q (by exact h_appendI ([] ++ l.take k ++ [x]) (l.drop k) (.own rfl rfl (ints_len _).symm) (.view rfl) (by simp; omega) (by simp)) rfl ?_
    refine AL.weak (Weak.freeze (i := 47) rfl rfl (Nat.le_of_eq (ints_len _).symm) (ints_all _)) ?_
    refine AL.p (by exact as1 rfl) rfl ?_
    refine AL.nil (th_n (AC.ret (bq_r ?_)))
    exact ret1 rfl (by rw [e]; rfl)
  ·refine AL.not rfl rfl rfl rfl rfl ?_
   refine AL.not rfl rfl rfl rfl rfl ?_
   refine AL.not rfl rfl rfl rfl rfl ?_
   refine AL.not rfl rfl rfl rfl rfl ?_
   refine AL.not rfl rfl rfl rfl rfl ?_
   refine AL.not rfl rfl rfl rfl rfl ?_
   refine AL.p (by exact g_pickF (r := .d _) rfl rfl) rfl ?_
   refine AL.nil (th_n ?_)
   refine AC.condF rfl ?_
   refine AC.skip (th_n (AC.seq ?_))
   have e : putI l x = l.take k ++ [x] ++ l.drop k := by exact putI_end hidx (by omega)
   refine AC.region ?_
   refine AL.q (by exact h_lit rfl rfl rfl rfl rfl rfl rfl rfl) rfl ?_
   refine AL.p (by exact mv1 rfl) rfl ?_
   refine AL.p (by exact mv1 rfl) rfl ?_
   refine AL.p (by exact g_slice_view (r := ints (l.take k)) rfl rfl rfl rfl .none (.some rfl rfl) (Nat.zero_le _) (by rw [ints_len]; exact hk) (by simp [List.map_take])) rfl ?_
   refine AL.q (by exact h_appendI [] (l.take k) (.own rfl rfl rfl) (.view rfl) (by simp; omega) (by simp)) rfl ?_
   refine AL.p (by exact as2 rfl) rfl ?_
   refine AL.nil (th_n (AC.seq (AC.region ?_)))
   refine AL.p (by exact mv2 rfl) rfl ?_
   refine AL.p (by exact mv1 rfl) rfl ?_
   refine AL.q (by exact h_litF rfl rfl rfl rfl rfl rfl rfl rfl) rfl ?_
   refine AL.q (by exact h_appendI ([] ++ l.take k) [x] (.own rfl rfl (ints_len _).symm) (.view rfl) (by simp; omega) (by simp)) rfl ?_
   refine AL.p (by exact as2 rfl) rfl ?_
   refine AL.nil (th_n (AC.seq (AC.region ?_)))
   refine AL.p (by exact mv2 rfl) rfl ?_
   refine AL.p (by exact mv1 rfl) rfl ?_
   refine AL.p (by exact mv1 rfl) rfl ?_
   refine AL.p (by exact g_slice_view (r := ints (l.drop k)) rfl rfl rfl rfl (.some rfl rfl) .none (by rw [ints_len]; exact hk) (Nat.le_refl _) (by rw [List.take_length]; exact (List.map_drop ..).symm)) rfl ?_
   refine AL.q (by exact h_appendI ([] ++ l.take k ++ [x]) (l.drop k) (.own rfl rfl (ints_len _).symm) (.view rfl) (by simp; omega) (by simp)) rfl ?_
   refine AL.weak (Weak.freeze (i := 47) rfl rfl (Nat.le_of_eq (ints_len _).symm) (ints_all _)) ?_
   refine AL.p (by exact as1 rfl) rfl ?_
   refine AL.nil (th_n (AC.ret (bq_r ?_)))
   exact ret1 rfl (by rw [e]; rfl)
theorem en_l1Put : Enters Tryz.prog 246 := enters_of Tryz.func246 rfl rfl
def subN (n : Int) : Nat → Cur → List Int → List Int × Cur
 | 0, c, s => (s, c)
 | j + 1, c, s => subN n j (c.pick n).2 (putI s (c.pick n).1)
theorem subN_len (n : Int) : ∀ (j : Nat) (c : Cur) (s : List Int), (subN n j c s).1.length ≤ s.length + j ∧ (subN n j c s).2.pos ≤ c.pos + 2 * j ∧ (subN n j c s).2.code = c.code
 | 0, c, s => ⟨Nat.le_refl _, Nat.le_refl _, rfl⟩
 | j + 1, c, s => by
  have h := subN_len n j (c.pick n).2 (putI s (c.pick n).1)
  have h1 := putI_len s (c.pick n).1
  have h2 := c.pick_pos n
  have h3 := c.pick_code n
  refine ⟨?_, ?_, ?_⟩
  ·simp only [subN]; omega
  ·simp only [subN]; omega
  ·simp only [subN]; rw [h.2.2, h3]
def Cur.subset (c : Cur) (n k : Int) : List Int × Cur := subN n (1 + (c.pick k).1).toNat (c.pick k).2 []
theorem Cur.subset_in (c : Cur) (n k : Int) (hk : 1 ≤ k) : ((c.subset n k).1.length : Int) ≤ k ∧ ((c.subset n k).2.pos : Int) ≤ c.pos + 2 * k + 2 ∧ (c.subset n k).2.code = c.code := by
 have h := subN_len n (1 + (c.pick k).1).toNat (c.pick k).2 []
 have h1 := c.pick_in k hk
 have h2 := c.pick_pos k
 have h3 := c.pick_code k
 simp only [List.length_nil] at h
 refine ⟨?_, ?_, ?_⟩
 ·show ((subN _ _ _ _).1.length : Int) ≤ _; omega
 ·show ((subN _ _ _ _).2.pos : Int) ≤ _; omega
 ·show (subN _ _ _ _).2.code = _; rw [h.2.2, h3]
set_option maxHeartbeats 2000000 in
theorem subset_spec (c : Cur) (n k : Int) (hn : n ≤ 65536) (hk1 : 1 ≤ k) (hk : k ≤ 200) (hp : c.pos ≤ 10000000000000) : ASpec Tryz.prog 231 [.ptr 0 0, aI n, aI k] [(0, curC c)] (Fun1 (.d (vI (c.subset n k).1)) [(0, curC (c.subset n k).2)]) := by
 have hpi := c.pick_in k hk1
 have hpp := c.pick_pos k
 refine ASpec.of Tryz.func231 rfl rfl fun C hC => ?_
 refine AC.seq (AC.region ?_)
 refine AL.p (by exact as1 rfl) rfl ?_
 refine AL.nil (th_n (AC.seq (AC.region ?_)))
 refine AL.p (by exact as1 rfl) rfl ?_
 refine AL.nil (th_n (AC.seq (AC.seq (AC.region ?_))))
 refine AL.p (by exact mv3 rfl) rfl ?_
 refine AL.p (by exact mv1 rfl) rfl ?_
 refine AL.q (by exact h_fun (cs := [0]) en_pick rfl rfl (by repeat (first | exact rfl | exact DLead.same | refine ⟨_, _, rfl, ?_, ?_⟩ | refine ⟨_, rfl, ?_⟩)) (by repeat (first | exact True.intro | refine And.intro ?_ ?_ | exact DLead.same | exact rfl | refine ⟨_, _, rfl, rfl, ?_⟩ | refine ⟨_, rfl, ?_⟩ | refine ⟨_, _, rfl, ?_, ?_⟩)) (pick_spec _ _ (by omega) (by omega)) rfl rfl rfl rfl) rfl ?_
 refine AL.p (by exact g_arith rfl rfl rfl (by exact wrap_i64 (by omega))) rfl ?_
 refine AL.p (by exact as1 rfl) rfl ?_
 refine AL.nil (th_n (AC.block ?_))
 refine AC.loop (ι := Nat × Cur × List Int) (fun x => ⟨23, 8, [(0, .ptr 0 0), (1, aI n), (7, .d (vI x.2.2)), (8, aI x.1)], [(0, some (curC x.2.1))]⟩) (fun x => subN n x.1 x.2.1 x.2.2 = c.subset n k ∧ x.2.2.length + x.1 ≤ 1000 ∧ x.2.1.pos + 2 * x.1 ≤ 100000000000000) (fun x => x.1) (((1 + (c.pick k).1).toNat, (c.pick k).2, [])) ?_ (⟨rfl, by show 0 + (1 + (c.pick k).1).toNat ≤ _; omega, by show (c.pick k).2.pos + 2 * (1 + (c.pick k).1).toNat ≤ _; omega⟩) ?_
 ·exact Weak.ren _ [] hC rfl (by repeat (first | exact True.intro | refine And.intro ?_ ?_ | exact DLead.same | exact DLead.eqI (by omega) | exact DLead.nil | exact rfl | refine ⟨_, rfl, ?_⟩)) (by repeat (first | exact True.intro | refine And.intro ?_ ?_ | exact DLead.same | exact rfl | refine ⟨_, _, rfl, rfl, ?_⟩ | refine ⟨_, rfl, ?_⟩ | refine ⟨_, _, rfl, ?_, ?_⟩)) rfl rfl rfl
 ·rintro ⟨j, cc, s⟩ ⟨hsub, hlen, hpos⟩
  dsimp only at hsub hlen hpos ⊢
  refine AC.seq (AC.seq (AC.region ?_))
  refine AL.p (by exact mv1 rfl) rfl ?_
  refine AL.p (by exact g_cmp rfl rfl rfl) rfl ?_
  refine AL.nil (th_n ?_)
  refine AC.condD rfl (fun h0 => ?_) (fun h0 => ?_)
  ·refine AC.skip (th_n (AC.seq (AC.block ?_)))
   obtain ⟨i, rfl⟩ : ∃ i, j = i + 1 := ⟨j - 1, by omega⟩
   have hpl := putI_len s (cc.pick n).1
   have hpp2 := cc.pick_pos n
   refine AC.region ?_
   refine AL.p (by exact mv1 rfl) rfl ?_
   refine AL.p (by exact mv3 rfl) rfl ?_
   refine AL.p (by exact mv1 rfl) rfl ?_
   refine AL.q (by exact h_fun (cs := [0]) en_pick rfl rfl (by repeat (first | exact rfl | exact DLead.same | refine ⟨_, _, rfl, ?_, ?_⟩ | refine ⟨_, rfl, ?_⟩)) (by repeat (first | exact True.intro | refine And.intro ?_ ?_ | exact DLead.same | exact rfl | refine ⟨_, _, rfl, rfl, ?_⟩ | refine ⟨_, rfl, ?_⟩ | refine ⟨_, _, rfl, ?_, ?_⟩)) (pick_spec _ _ (by assumption) (by omega)) rfl rfl rfl rfl) rfl ?_
   refine AL.q (by exact h_pure en_l1Put rfl rfl (by repeat (first | exact rfl | exact DLead.same | refine ⟨_, _, rfl, ?_, ?_⟩)) (l1Put_spec _ _ (by omega)) rfl) rfl ?_
   refine AL.p (by exact as1 rfl) rfl ?_
   refine AL.nil (ib_n (th_n (AC.region ?_)))
   refine AL.p (by exact mv1 rfl) rfl ?_
   refine AL.p (by exact g_arith rfl rfl rfl (by exact wrap_i64 (by omega))) rfl ?_
   refine AL.p (by exact as1 rfl) rfl ?_
   refine AL.nil (th_n ?_)
   exact ⟨(i, (cc.pick n).2, putI s (cc.pick n).1), ⟨hsub, by show (putI s _).length + i ≤ _; omega, by show (cc.pick n).2.pos + 2 * i ≤ _; omega⟩, by show i < i + 1; omega, Weak.ren _ [] hC rfl (by repeat (first | exact True.intro | refine And.intro ?_ ?_ | exact DLead.same | exact DLead.eqI (by omega) | exact rfl | refine ⟨_, rfl, ?_⟩)) (by repeat (first | exact True.intro | refine And.intro ?_ ?_ | exact DLead.same | exact rfl | refine ⟨_, _, rfl, rfl, ?_⟩ | refine ⟨_, rfl, ?_⟩ | refine ⟨_, _, rfl, ?_, ?_⟩)) rfl rfl rfl⟩
  ·refine AC.exit (th_e (th_e (ib_y (th_n (AC.seq (AC.region ?_))))))
   refine AL.p (by exact mv1 rfl) rfl ?_
   refine AL.p (by exact as1 rfl) rfl ?_
   refine AL.nil (th_n (AC.ret (bq_r ?_)))
   have hj : j = 0 := by omega
   subst hj
   have e : c.subset n k = (s, cc) := hsub.symm
   exact retF rfl (by rw [e]; repeat (exact DLead.same)) (by rw [e]; repeat (first | exact True.intro | refine And.intro ?_ ?_ | exact DLead.same | exact rfl | refine ⟨_, _, rfl, rfl, ?_⟩ | refine ⟨_, rfl, ?_⟩ | refine ⟨_, _, rfl, ?_, ?_⟩)) rfl
theorem en_subset : Enters Tryz.prog 231 := enters_of Tryz.func231 rfl rfl
theorem of_spec (c : Cur) (els : List (List DV)) (st : ByteArray) (h0 : 0 < els.length) (hl : els.length ≤ 65536) (hp : c.pos ≤ 100000000000000) (hget : els[(c.pick els.length).1.toNat]? = some [dS st]) : ASpec Tryz.prog 131 [.ptr 0 0, .d (.view 9 1 els)] [(0, curC c)] (Fun1 (aS st) [(0, curC (c.pick els.length).2)]) := by
 have hi := c.pick_in els.length (by omega)
 have hI : (c.pick els.length).1 = (((c.pick els.length).1.toNat : Nat) : Int) := by omega
 refine ASpec.of Tryz.func131 rfl rfl fun C hC => ?_
 refine AC.seq (AC.region ?_)
 refine AL.p (by exact as1 rfl) rfl ?_
 refine AL.nil (th_n (AC.seq (AC.region ?_)))
 refine AL.p (by exact mv1 rfl) rfl ?_
 refine AL.p (by exact mv3 rfl) rfl ?_
 refine AL.p (by exact mv1 rfl) rfl ?_
 refine AL.p (by exact g_len_view rfl rfl (by rfl)) rfl ?_
 refine AL.q (by exact h_fun (cs := [0]) en_pick rfl rfl (by repeat (first | exact rfl | exact DLead.same | refine ⟨_, _, rfl, ?_, ?_⟩ | refine ⟨_, rfl, ?_⟩)) (by repeat (first | exact True.intro | refine And.intro ?_ ?_ | exact DLead.same | exact rfl | refine ⟨_, _, rfl, rfl, ?_⟩ | refine ⟨_, rfl, ?_⟩ | refine ⟨_, _, rfl, ?_, ?_⟩)) (pick_spec _ _ (by omega) (by assumption)) rfl rfl rfl rfl) rfl ?_
 refine AL.p (by exact g_ia_view rfl rfl rfl rfl rfl (by assumption) (by assumption)) rfl ?_
 refine AL.p (by exact g_load_ref rfl rfl rfl) rfl ?_
 refine AL.p (by exact as1 rfl) rfl ?_
 refine AL.nil (th_n (AC.ret (bq_r ?_)))
 exact retF rfl (by repeat (exact DLead.same)) (by repeat (first | exact True.intro | refine And.intro ?_ ?_ | exact DLead.same | exact rfl | refine ⟨_, _, rfl, rfl, ?_⟩ | refine ⟨_, rfl, ?_⟩ | refine ⟨_, _, rfl, ?_, ?_⟩)) rfl
theorem en_of : Enters Tryz.prog 131 := enters_of Tryz.func131 rfl rfl
theorem am_spec (c : Cur) (els : List (List DV)) (x : Int) (h0 : 0 < els.length) (hl : els.length ≤ 65536) (hp : c.pos ≤ 100000000000000) (hget : els[(c.pick els.length).1.toNat]? = some [dI x]) : ASpec Tryz.prog 129 [.ptr 0 0, .d (.view 3 1 els)] [(0, curC c)] (Fun1 (aI x) [(0, curC (c.pick els.length).2)]) := by
 have hi := c.pick_in els.length (by omega)
 have hI : (c.pick els.length).1 = (((c.pick els.length).1.toNat : Nat) : Int) := by omega
 refine ASpec.of Tryz.func129 rfl rfl fun C hC => ?_
 refine AC.seq (AC.region ?_)
 refine AL.p (by exact as1 rfl) rfl ?_
 refine AL.nil (th_n (AC.seq (AC.region ?_)))
 refine AL.p (by exact mv1 rfl) rfl ?_
 refine AL.p (by exact mv3 rfl) rfl ?_
 refine AL.p (by exact mv1 rfl) rfl ?_
 refine AL.p (by exact g_len_view rfl rfl (by rfl)) rfl ?_
 refine AL.q (by exact h_fun (cs := [0]) en_pick rfl rfl (by repeat (first | exact rfl | exact DLead.same | refine ⟨_, _, rfl, ?_, ?_⟩ | refine ⟨_, rfl, ?_⟩)) (by repeat (first | exact True.intro | refine And.intro ?_ ?_ | exact DLead.same | exact rfl | refine ⟨_, _, rfl, rfl, ?_⟩ | refine ⟨_, rfl, ?_⟩ | refine ⟨_, _, rfl, ?_, ?_⟩)) (pick_spec _ _ (by omega) (by assumption)) rfl rfl rfl rfl) rfl ?_
 refine AL.p (by exact g_ia_view rfl rfl rfl rfl rfl (by assumption) (by assumption)) rfl ?_
 refine AL.p (by exact g_load_ref rfl rfl rfl) rfl ?_
 refine AL.p (by exact as1 rfl) rfl ?_
 refine AL.nil (th_n (AC.ret (bq_r ?_)))
 exact retF rfl (by repeat (exact DLead.same)) (by repeat (first | exact True.intro | refine And.intro ?_ ?_ | exact DLead.same | exact rfl | refine ⟨_, _, rfl, rfl, ?_⟩ | refine ⟨_, rfl, ?_⟩ | refine ⟨_, _, rfl, ?_, ?_⟩)) rfl
def bitOf (c : Cur) : UInt8 := if (c.pick 3).1 = 0 then 48 else 49
theorem bit_get (c : Cur) (hc : 0 ≤ (c.pick 3).1 ∧ (c.pick 3).1 < 3) : ([[dS (bstr [48])], [dS (bstr [49])], [dS (bstr [49])]] : List (List DV))[(c.pick 3).1.toNat]? = some [dS (bstr [bitOf c])] := by
 unfold bitOf
 have h : (c.pick 3).1 = 0 ∨ (c.pick 3).1 = 1 ∨ (c.pick 3).1 = 2 := by omega
 rcases h with h | h | h <;> rw [h] <;> rfl
def markN : Nat → Cur → List UInt8 → List UInt8 × Cur
 | 0, c, m => (m, c)
 | j + 1, c, m => markN j (c.pick 3).2 (m ++ [bitOf c])
theorem markN_len : ∀ (j : Nat) (c : Cur) (m : List UInt8), (markN j c m).1.length = m.length + j ∧ (markN j c m).2.pos ≤ c.pos + 2 * j ∧ (markN j c m).2.code = c.code
 | 0, c, m => ⟨rfl, Nat.le_refl _, rfl⟩
 | j + 1, c, m => by
  have h := markN_len j (c.pick 3).2 (m ++ [bitOf c])
  have h2 := c.pick_pos 3
  have h3 := c.pick_code 3
  simp only [List.length_append, List.length_cons, List.length_nil] at h
  refine ⟨?_, ?_, ?_⟩
  ·simp only [markN]; omega
  ·simp only [markN]; omega
  ·simp only [markN]; rw [h.2.2, h3]
def Cur.markOf (c : Cur) (n : Int) : List UInt8 × Cur := markN n.toNat c []
set_option maxHeartbeats 2000000 in
theorem markOf_spec (c : Cur) (n : Int) (hn0 : 0 ≤ n) (hn : n ≤ 1000) (hp : c.pos ≤ 10000000000000) : ASpec Tryz.prog 178 [.ptr 0 0, aI n] [(0, curC c)] (Fun1 (aS (bstr (c.markOf n).1)) [(0, curC (c.markOf n).2)]) := by
 refine ASpec.of Tryz.func178 rfl rfl fun C hC => ?_
 refine AC.seq (AC.region ?_)
 refine AL.p (by exact as1 rfl) rfl ?_
 refine AL.nil (th_n (AC.seq (AC.region ?_)))
 refine AL.p (by exact as1 rfl) rfl ?_
 refine AL.nil (th_n (AC.seq (AC.seq (AC.region ?_))))
 refine AL.p (by exact as1 rfl) rfl ?_
 refine AL.nil (th_n (AC.block ?_))
 refine AC.loop (ι := Nat × Cur × List UInt8) (fun x => ⟨18, 8, [(0, .ptr 0 0), (1, aI n), (5, aS (bstr x.2.2)), (6, aI x.1)], [(0, some (curC x.2.1))]⟩) (fun x => (x.1 : Int) ≤ n ∧ markN (n.toNat - x.1) x.2.1 x.2.2 = c.markOf n ∧ x.2.2.length = x.1 ∧ x.2.1.pos ≤ 10000000000000 + 2 * x.1) (fun x => n.toNat - x.1) ((0, c, [])) ?_ (⟨hn0, rfl, rfl, by show c.pos ≤ _; omega⟩) ?_
 ·exact Weak.ren _ [] hC rfl (by repeat (first | exact True.intro | refine And.intro ?_ ?_ | exact DLead.same | exact rfl | refine ⟨_, rfl, ?_⟩)) (by repeat (first | exact True.intro | refine And.intro ?_ ?_ | exact DLead.same | exact rfl | refine ⟨_, _, rfl, rfl, ?_⟩ | refine ⟨_, rfl, ?_⟩ | refine ⟨_, _, rfl, ?_, ?_⟩)) rfl rfl rfl
 ·rintro ⟨i, cc, m⟩ ⟨hi, hmk, hlen, hpos⟩
  dsimp only at hi hmk hlen hpos ⊢
  refine AC.seq (AC.seq (AC.region ?_))
  refine AL.p (by exact mv1 rfl) rfl ?_
  refine AL.p (by exact mv1 rfl) rfl ?_
  refine AL.p (by exact g_cmp rfl rfl rfl) rfl ?_
  refine AL.nil (th_n ?_)
  refine AC.condD rfl (fun h0 => ?_) (fun h0 => ?_)
  ·refine AC.skip (th_n (AC.seq (AC.block ?_)))
   have hget := bit_get cc (cc.pick_in 3 (by decide))
   have hpp := cc.pick_pos 3
   have hsz := bstr_size m
   have hsz1 := bstr_size [bitOf cc]
   have hsz2 : [bitOf cc].length = 1 := rfl
   refine AC.region ?_
   refine AL.p (by exact mv1 rfl) rfl ?_
   refine AL.p (by exact mv3 rfl) rfl ?_
   refine AL.q (by exact h_litF rfl rfl rfl rfl rfl rfl rfl rfl) rfl ?_
   refine AL.q (by exact h_fun (cs := [0]) en_of rfl rfl (by repeat (first | exact rfl | exact DLead.same | refine ⟨_, _, rfl, ?_, ?_⟩ | refine ⟨_, rfl, ?_⟩)) (by repeat (first | exact True.intro | refine And.intro ?_ ?_ | exact DLead.same | exact rfl | refine ⟨_, _, rfl, rfl, ?_⟩ | refine ⟨_, rfl, ?_⟩ | refine ⟨_, _, rfl, ?_, ?_⟩)) (of_spec cc [[dS (bstr [48])], [dS (bstr [49])], [dS (bstr [49])]] (bstr [bitOf cc]) (by decide) (by decide) (by omega) hget) rfl rfl rfl rfl) rfl ?_
   refine AL.p (by exact g_sadd rfl rfl (by omega)) rfl ?_
   refine AL.p (by exact as1 rfl) rfl ?_
   refine AL.nil (ib_n (th_n (AC.region ?_)))
   refine AL.p (by exact mv1 rfl) rfl ?_
   refine AL.p (by exact g_arith rfl rfl rfl (by exact wrap_i64 (by omega))) rfl ?_
   refine AL.p (by exact as1 rfl) rfl ?_
   refine AL.nil (th_n ?_)
   have e : markN (n.toNat - (i + 1)) (cc.pick 3).2 (m ++ [bitOf cc]) = c.markOf n := by rw [← hmk, show n.toNat - i = (n.toNat - (i + 1)) + 1 by omega]; rfl
   exact ⟨(i + 1, (cc.pick 3).2, m ++ [bitOf cc]), ⟨by show ((i + 1 : Nat) : Int) ≤ n; omega, e, by simp [hlen], by show (cc.pick 3).2.pos ≤ _; omega⟩, by show n.toNat - (i + 1) < n.toNat - i; omega, Weak.ren _ [] hC rfl (by rw [← bstr_append]; repeat (first | exact True.intro | refine And.intro ?_ ?_ | exact DLead.same | exact rfl | refine ⟨_, rfl, ?_⟩)) (by repeat (first | exact True.intro | refine And.intro ?_ ?_ | exact DLead.same | exact rfl | refine ⟨_, _, rfl, rfl, ?_⟩ | refine ⟨_, rfl, ?_⟩ | refine ⟨_, _, rfl, ?_, ?_⟩)) rfl rfl rfl⟩
  ·refine AC.exit (th_e (th_e (ib_y (th_n (AC.seq (AC.region ?_))))))
   refine AL.p (by exact mv1 rfl) rfl ?_
   refine AL.p (by exact as1 rfl) rfl ?_
   refine AL.nil (th_n (AC.ret (bq_r ?_)))
   have hin : n.toNat - i = 0 := by omega
   have e : c.markOf n = (m, cc) := by rw [← hmk, hin]; rfl
   exact retF rfl (by rw [e]; repeat (exact DLead.same)) (by rw [e]; repeat (first | exact True.intro | refine And.intro ?_ ?_ | exact DLead.same | exact rfl | refine ⟨_, _, rfl, rfl, ?_⟩ | refine ⟨_, rfl, ?_⟩ | refine ⟨_, _, rfl, ?_, ?_⟩)) rfl
theorem en_markOf : Enters Tryz.prog 178 := enters_of Tryz.func178 rfl rfl
def spoil1 (c : Cur) (s al : List UInt8) : List UInt8 :=
 if (((c.pick s.length).2.pick al.length).2.pick 3).1 = 0 then s.take (c.pick s.length).1.toNat ++ [al.getD ((c.pick s.length).2.pick al.length).1.toNat 0] ++ s.drop (c.pick s.length).1.toNat
 else if (((c.pick s.length).2.pick al.length).2.pick 3).1 = 1 then s.take (c.pick s.length).1.toNat ++ [al.getD ((c.pick s.length).2.pick al.length).1.toNat 0] ++ s.drop ((c.pick s.length).1.toNat + 1)
 else s.take (c.pick s.length).1.toNat ++ s.drop ((c.pick s.length).1.toNat + 1)
def spoilC (c : Cur) (s al : List UInt8) : Cur := (((c.pick s.length).2.pick al.length).2.pick 3).2
def spoilN (al : List UInt8) : Nat → Cur → List UInt8 → List UInt8 × Cur
 | 0, c, s => (s, c)
 | j + 1, c, s => if s.length = 0 then (s, c) else spoilN al j (spoilC c s al) (spoil1 c s al)
theorem spoilN_nil {al : List UInt8} {j : Nat} {c : Cur} {s : List UInt8} (h : s.length = 0) : spoilN al j c s = (s, c) := by
 cases j with
 | zero => rfl
 | succ j => rw [spoilN, if_pos h]
theorem spoil1_len (c : Cur) (s al : List UInt8) (hs : 0 < s.length) : (spoil1 c s al).length ≤ s.length + 1 := by
 have h := c.pick_in s.length (by omega)
 unfold spoil1
 split
 ·simp; omega
 ·split <;> (simp; omega)
theorem spoilC_pos (c : Cur) (s al : List UInt8) : (spoilC c s al).pos ≤ c.pos + 6 ∧ (spoilC c s al).code = c.code := by
 have h1 := c.pick_pos s.length
 have h2 := (c.pick s.length).2.pick_pos al.length
 have h3 := ((c.pick s.length).2.pick al.length).2.pick_pos 3
 refine ⟨by unfold spoilC; omega, ?_⟩
 unfold spoilC
 rw [Cur.pick_code, Cur.pick_code, Cur.pick_code]
theorem spoilN_len (al : List UInt8) : ∀ (j : Nat) (c : Cur) (s : List UInt8), (spoilN al j c s).1.length ≤ s.length + j ∧ (spoilN al j c s).2.pos ≤ c.pos + 6 * j ∧ (spoilN al j c s).2.code = c.code
 | 0, c, s => ⟨Nat.le_refl _, Nat.le_refl _, rfl⟩
 | j + 1, c, s => by
  unfold spoilN
  split
  ·exact ⟨by show s.length ≤ _; omega, by show c.pos ≤ _; omega, rfl⟩
  ·rename_i hs
   have h := spoilN_len al j (spoilC c s al) (spoil1 c s al)
   have h1 := spoil1_len c s al (by omega)
   have h2 := spoilC_pos c s al
   exact ⟨by omega, by omega, by rw [h.2.2, h2.2]⟩
def Cur.spoilt (c : Cur) (s al : List UInt8) : List UInt8 × Cur := spoilN al (1 + (c.pick 2).1).toNat (c.pick 2).2 s
theorem Cur.spoilt_in (c : Cur) (s al : List UInt8) : (c.spoilt s al).1.length ≤ s.length + 2 ∧ (c.spoilt s al).2.pos ≤ c.pos + 14 ∧ (c.spoilt s al).2.code = c.code := by
 have h := spoilN_len al (1 + (c.pick 2).1).toNat (c.pick 2).2 s
 have h1 := c.pick_in 2 (by decide)
 have h2 := c.pick_pos 2
 have h3 := c.pick_code 2
 refine ⟨?_, ?_, ?_⟩
 ·show (spoilN _ _ _ _).1.length ≤ _; omega
 ·show (spoilN _ _ _ _).2.pos ≤ _; omega
 ·show (spoilN _ _ _ _).2.code = _; rw [h.2.2, h3]
theorem bstr_cut (s : List UInt8) {l h : Nat} (hl : l ≤ h) (hh : h ≤ s.length) : (bstr s).extract l h = bstr ((s.take h).drop l) := by
 have : ((bstr s).extract l h).data.toList = (s.take h).drop l := by
  simp [bstr, ByteArray.data_extract, List.extract_eq_drop_take, List.drop_take]
 rw [← bstr_of ((bstr s).extract l h), this]
set_option maxHeartbeats 4000000 in
theorem spoilt_spec (c : Cur) (s al : List UInt8) (hs : s.length ≤ 50000) (ha0 : 0 < al.length) (ha : al.length ≤ 60000) (hp : c.pos ≤ 10000000000000) : ASpec Tryz.prog 195 [.ptr 0 0, aS (bstr s), aS (bstr al)] [(0, curC c)] (Fun1 (aS (bstr (c.spoilt s al).1)) [(0, curC (c.spoilt s al).2)]) := by
 have hpi := c.pick_in 2 (by decide)
 have hpp := c.pick_pos 2
 have hasz := bstr_size al
 refine ASpec.of Tryz.func195 rfl rfl fun C hC => ?_
 refine AC.seq (AC.region ?_)
 refine AL.p (by exact as1 rfl) rfl ?_
 refine AL.nil (th_n (AC.seq (AC.seq (AC.region ?_))))
 refine AL.p (by exact mv3 rfl) rfl ?_
 refine AL.q (by exact h_fun (cs := [0]) en_pick rfl rfl (by repeat (first | exact rfl | exact DLead.same | refine ⟨_, _, rfl, ?_, ?_⟩ | refine ⟨_, rfl, ?_⟩)) (by repeat (first | exact True.intro | refine And.intro ?_ ?_ | exact DLead.same | exact rfl | refine ⟨_, _, rfl, rfl, ?_⟩ | refine ⟨_, rfl, ?_⟩ | refine ⟨_, _, rfl, ?_, ?_⟩)) (pick_spec _ _ (by omega) (by omega)) rfl rfl rfl rfl) rfl ?_
 refine AL.p (by exact g_arith rfl rfl rfl (by exact wrap_i64 (by omega))) rfl ?_
 refine AL.p (by exact as1 rfl) rfl ?_
 refine AL.nil (th_n (AC.block ?_))
 refine AC.loop (ι := Nat × Cur × List UInt8) (fun x => ⟨68, 8, [(0, .ptr 0 0), (1, aS (bstr x.2.2)), (2, aS (bstr al)), (7, aI x.1)], [(0, some (curC x.2.1))]⟩) (fun x => spoilN al x.1 x.2.1 x.2.2 = c.spoilt s al ∧ x.2.2.length + x.1 ≤ 60000 ∧ x.2.1.pos + 6 * x.1 ≤ 20000000000000) (fun x => x.1) (((1 + (c.pick 2).1).toNat, (c.pick 2).2, s)) ?_ (⟨rfl, by show s.length + (1 + (c.pick 2).1).toNat ≤ _; omega, by show (c.pick 2).2.pos + 6 * (1 + (c.pick 2).1).toNat ≤ _; omega⟩) ?_
 ·exact Weak.ren _ [] hC rfl (by repeat (first | exact True.intro | refine And.intro ?_ ?_ | exact DLead.same | exact DLead.eqI (by omega) | exact rfl | refine ⟨_, rfl, ?_⟩)) (by repeat (first | exact True.intro | refine And.intro ?_ ?_ | exact DLead.same | exact rfl | refine ⟨_, _, rfl, rfl, ?_⟩ | refine ⟨_, rfl, ?_⟩ | refine ⟨_, _, rfl, ?_, ?_⟩)) rfl rfl rfl
 ·rintro ⟨j, cc, m⟩ ⟨hsub, hlen, hpos⟩
  dsimp only at hsub hlen hpos ⊢
  have hsz := bstr_size m
  refine AC.seq (AC.seq (AC.region ?_))
  refine AL.p (by exact mv1 rfl) rfl ?_
  refine AL.p (by exact g_cmp rfl rfl rfl) rfl ?_
  refine AL.p (by exact mv1 rfl) rfl ?_
  refine AL.caseG rfl rfl (fun h0 => ?_) (fun h0 => ?_)
  ·refine AL.yes rfl rfl rfl ?_
   refine AL.p (by exact mv1 rfl) rfl ?_
   refine AL.yes rfl rfl rfl ?_
   refine AL.p (by exact g_len_str (k := m.length) rfl rfl hsz) rfl ?_
   refine AL.yes rfl rfl rfl ?_
   refine AL.p (by exact g_cmp rfl rfl rfl) rfl ?_
   refine AL.p (by exact g_pickT (r := .d _) rfl rfl) rfl ?_
   refine AL.nil (th_n ?_)
   refine AC.condD rfl (fun h1 => ?_) (fun h1 => ?_)
   ·refine AC.skip (th_n (AC.seq (AC.block (AC.seq ?_))))
    obtain ⟨i, rfl⟩ : ∃ i, j = i + 1 := ⟨j - 1, by omega⟩
    have hm0 : 0 < m.length := by omega
    have e1 : spoilN al i (spoilC cc m al) (spoil1 cc m al) = c.spoilt s al := by rw [← hsub, spoilN, if_neg (by omega)]
    have hl1 := spoil1_len cc m al hm0
    have hl2 := spoilC_pos cc m al
    have hk := cc.pick_in m.length (by omega)
    have hkp := cc.pick_pos m.length
    have hk2 := (cc.pick m.length).2.pick_in al.length (by omega)
    have hkp2 := (cc.pick m.length).2.pick_pos al.length
    have hI : ((cc.pick m.length).2.pick al.length).1 = ((((cc.pick m.length).2.pick al.length).1.toNat : Nat) : Int) := by omega
    have hget : (bstr al).data.toList[((cc.pick m.length).2.pick al.length).1.toNat]? = some (al.getD ((cc.pick m.length).2.pick al.length).1.toNat 0) := bstr_getD (by omega)
    refine AC.region ?_
    refine AL.p (by exact mv3 rfl) rfl ?_
    refine AL.p (by exact mv1 rfl) rfl ?_
    refine AL.p (by exact g_len_str (k := m.length) rfl rfl hsz) rfl ?_
    refine AL.q (by exact h_fun (cs := [0]) en_pick rfl rfl (by repeat (first | exact rfl | exact DLead.same | refine ⟨_, _, rfl, ?_, ?_⟩ | refine ⟨_, rfl, ?_⟩)) (by repeat (first | exact True.intro | refine And.intro ?_ ?_ | exact DLead.same | exact rfl | refine ⟨_, _, rfl, rfl, ?_⟩ | refine ⟨_, rfl, ?_⟩ | refine ⟨_, _, rfl, ?_, ?_⟩)) (pick_spec _ _ (by omega) (by omega)) rfl rfl rfl rfl) rfl ?_
    refine AL.p (by exact as1 rfl) rfl ?_
    refine AL.nil (th_n (AC.seq (AC.region ?_)))
    refine AL.p (by exact mv1 rfl) rfl ?_
    refine AL.p (by exact mv3 rfl) rfl ?_
    refine AL.p (by exact mv1 rfl) rfl ?_
    refine AL.p (by exact g_len_str (k := al.length) rfl rfl hasz) rfl ?_
    refine AL.q (by exact h_fun (cs := [0]) en_pick rfl rfl (by repeat (first | exact rfl | exact DLead.same | refine ⟨_, _, rfl, ?_, ?_⟩ | refine ⟨_, rfl, ?_⟩)) (by repeat (first | exact True.intro | refine And.intro ?_ ?_ | exact DLead.same | exact rfl | refine ⟨_, _, rfl, rfl, ?_⟩ | refine ⟨_, rfl, ?_⟩ | refine ⟨_, _, rfl, ?_, ?_⟩)) (pick_spec _ _ (by omega) (by omega)) rfl rfl rfl rfl) rfl ?_
    refine AL.p (by exact g_index rfl rfl rfl (by assumption) (by assumption)) rfl ?_
    refine AL.q (by exact h_lit rfl rfl rfl rfl rfl rfl rfl rfl) rfl ?_
    refine AL.p (by exact g_strOfBytes (l := [al.getD ((cc.pick m.length).2.pick al.length).1.toNat 0]) rfl rfl rfl rfl rfl rfl rfl) rfl ?_
    refine AL.p (by exact as1 rfl) rfl ?_
    refine AL.nil (th_n (AC.seq (AC.region ?_)))
    refine AL.p (by exact mv3 rfl) rfl ?_
    refine AL.q (by exact h_fun (cs := [0]) en_pick rfl rfl (by repeat (first | exact rfl | exact DLead.same | refine ⟨_, _, rfl, ?_, ?_⟩ | refine ⟨_, rfl, ?_⟩)) (by repeat (first | exact True.intro | refine And.intro ?_ ?_ | exact DLead.same | exact rfl | refine ⟨_, _, rfl, rfl, ?_⟩ | refine ⟨_, rfl, ?_⟩ | refine ⟨_, _, rfl, ?_, ?_⟩)) (pick_spec _ _ (by omega) (by omega)) rfl rfl rfl rfl) rfl ?_
    refine AL.nil (th_n (AC.block (AC.seq ?_)))
    obtain ⟨K, hK⟩ : ∃ K, K = (cc.pick m.length).1.toNat := ⟨_, rfl⟩
    have hKI : (cc.pick m.length).1 = (K : Int) := by omega
    have hKJ : (cc.pick m.length).1 + 1 = ((K + 1 : Nat) : Int) := by omega
    have hKm : K + 1 ≤ m.length := by omega
    have hx1 : (bstr m).extract 0 K = bstr (m.take K) := by rw [bstr_cut m (Nat.zero_le _) (by omega)]; rfl
    have hx2 : (bstr m).extract K (bstr m).size = bstr (m.drop K) := by rw [hsz, bstr_cut m (by omega) (Nat.le_refl _), List.take_length]
    have hx3 : (bstr m).extract (K + 1) (bstr m).size = bstr (m.drop (K + 1)) := by rw [hsz, bstr_cut m (by omega) (Nat.le_refl _), List.take_length]
    refine AC.region ?_
    refine AL.p (by exact g_cmp rfl rfl rfl) rfl ?_
    refine AL.p (by exact as1 rfl) rfl ?_
    refine AL.nil (th_n ?_)
    refine AC.condD rfl (fun h2 => ?_) (fun h2 => ?_)
    ·refine AC.drawn' mixed_ok [[], [], [0,1], [], [0,1,2,3], [], [], [5,6], [0,1,2,3,4,5,6,7], [0,1,2,3,4,5,6,7,8]] (by decide) ?_
     refine DF.op 0 [] 10 rfl rfl rfl (.free rfl (NOp.of (by exact mv1 rfl))) rfl ?_
     refine DF.op 1 [] 10 rfl rfl rfl (.free rfl (NOp.of (by exact mv1 rfl))) rfl ?_
     refine DF.op 2 [0,1] 10 rfl rfl rfl (.free rfl (NOp.of (by exact g_slice_str (h := K) rfl rfl .none (.some rfl hKI) (Nat.zero_le _) (by omega) hx1))) rfl ?_
     refine DF.op 3 [] 10 rfl rfl rfl (.free rfl (NOp.of (by exact mv1 rfl))) rfl ?_
     refine DF.op 4 [0,1,2,3] 10 rfl rfl rfl (.free rfl (NOp.of (by exact g_sadd rfl rfl (by (simp only [ByteArray.size_append, bstr_size, List.length_take, List.length_drop, List.length_cons, List.length_nil]; omega))))) rfl ?_
     refine DF.op 5 [] 10 rfl rfl rfl (.free rfl (NOp.of (by exact mv1 rfl))) rfl ?_
     refine DF.op 6 [] 10 rfl rfl rfl (.free rfl (NOp.of (by exact mv1 rfl))) rfl ?_
     refine DF.op 7 [5,6] 10 rfl rfl rfl (.free rfl (NOp.of (by exact g_slice_str (l := K) rfl rfl (.some rfl hKI) .none (by omega) (Nat.le_refl _) hx2))) rfl ?_
     refine DF.op 8 [0,1,2,3,4,5,6,7] 10 rfl rfl rfl (.free rfl (NOp.of (by exact g_sadd rfl rfl (by (simp only [ByteArray.size_append, bstr_size, List.length_take, List.length_drop, List.length_cons, List.length_nil]; omega))))) rfl ?_
     refine DF.op 9 (List.range 9) 10 rfl rfl rfl (.free rfl (NOp.of (by exact as1 rfl))) rfl ?_
     refine DF.fin (ps := [(0,1),(0,3),(0,5),(0,6),(0,7),(1,0),(1,3),(1,5),(1,6),(1,7),(2,3),(2,5),(2,6),(2,7),(3,0),(3,1),(3,2),(3,5),(3,6),(3,7),(4,5),(4,6),(4,7),(5,0),(5,1),(5,2),(5,3),(5,4),(5,6),(6,0),(6,1),(6,2),(6,3),(6,4),(6,5),(7,0),(7,1),(7,2),(7,3),(7,4)]) 10 rfl (by decide +kernel) (by decide +kernel) (by rfl) ?_
     refine ib_n (ib_n (th_n (AC.region ?_)))
     refine AL.p (by exact mv1 rfl) rfl ?_
     refine AL.p (by exact g_arith rfl rfl rfl (by exact wrap_i64 (by omega))) rfl ?_
     refine AL.p (by exact as1 rfl) rfl ?_
     refine AL.nil (th_n ?_)
     (have e2 : bstr (spoil1 cc m al) = bstr (m.take K) ++ bstr [al.getD ((cc.pick m.length).2.pick al.length).1.toNat 0] ++ bstr (m.drop K) := (by unfold spoil1; rw [if_pos h2, ← hK, bstr_append, bstr_append]); exact ⟨(i, spoilC cc m al, spoil1 cc m al), ⟨e1, by show (spoil1 cc m al).length + i ≤ _; omega, by show (spoilC cc m al).pos + 6 * i ≤ _; omega⟩, by show i < i + 1; omega, Weak.ren _ [] hC rfl (by rw [e2]; repeat (first | exact True.intro | refine And.intro ?_ ?_ | exact DLead.same | exact DLead.eqI (by omega) | exact rfl | refine ⟨_, rfl, ?_⟩)) (by repeat (first | exact True.intro | refine And.intro ?_ ?_ | exact DLead.same | exact rfl | refine ⟨_, _, rfl, rfl, ?_⟩ | refine ⟨_, rfl, ?_⟩ | refine ⟨_, _, rfl, ?_, ?_⟩)) rfl rfl rfl⟩)
    ·refine AC.seq (AC.region ?_)
     refine AL.p (by exact g_cmp rfl rfl rfl) rfl ?_
     refine AL.p (by exact as1 rfl) rfl ?_
     refine AL.nil (th_n ?_)
     refine AC.condD rfl (fun h3 => ?_) (fun h3 => ?_)
     ·refine AC.drawn' mixed_ok [[], [], [0,1], [], [0,1,2,3], [], [], [6], [5,6,7], [0,1,2,3,4,5,6,7,8], [0,1,2,3,4,5,6,7,8,9]] (by decide) ?_
      refine DF.op 0 [] 11 rfl rfl rfl (.free rfl (NOp.of (by exact mv1 rfl))) rfl ?_
      refine DF.op 1 [] 11 rfl rfl rfl (.free rfl (NOp.of (by exact mv1 rfl))) rfl ?_
      refine DF.op 2 [0,1] 11 rfl rfl rfl (.free rfl (NOp.of (by exact g_slice_str (h := K) rfl rfl .none (.some rfl hKI) (Nat.zero_le _) (by omega) hx1))) rfl ?_
      refine DF.op 3 [] 11 rfl rfl rfl (.free rfl (NOp.of (by exact mv1 rfl))) rfl ?_
      refine DF.op 4 [0,1,2,3] 11 rfl rfl rfl (.free rfl (NOp.of (by exact g_sadd rfl rfl (by (simp only [ByteArray.size_append, bstr_size, List.length_take, List.length_drop, List.length_cons, List.length_nil]; omega))))) rfl ?_
      refine DF.op 5 [] 11 rfl rfl rfl (.free rfl (NOp.of (by exact mv1 rfl))) rfl ?_
      refine DF.op 6 [] 11 rfl rfl rfl (.free rfl (NOp.of (by exact mv1 rfl))) rfl ?_
      refine DF.op 7 [6] 11 rfl rfl rfl (.free rfl (NOp.of (by exact g_arith rfl rfl rfl (by exact wrap_i64 (by omega))))) rfl ?_
      refine DF.op 8 [5,6,7] 11 rfl rfl rfl (.free rfl (NOp.of (by exact g_slice_str (l := K + 1) rfl rfl (.some rfl hKJ) .none (by omega) (Nat.le_refl _) hx3))) rfl ?_
      refine DF.op 9 (List.range 9) 11 rfl rfl rfl (.free rfl (NOp.of (by exact g_sadd rfl rfl (by (simp only [ByteArray.size_append, bstr_size, List.length_take, List.length_drop, List.length_cons, List.length_nil]; omega))))) rfl ?_
      refine DF.op 10 (List.range 10) 11 rfl rfl rfl (.free rfl (NOp.of (by exact as1 rfl))) rfl ?_
      refine DF.fin (ps := [(0,1),(0,3),(0,5),(0,6),(0,7),(0,8),(1,0),(1,3),(1,5),(1,6),(1,7),(1,8),(2,3),(2,5),(2,6),(2,7),(2,8),(3,0),(3,1),(3,2),(3,5),(3,6),(3,7),(3,8),(4,5),(4,6),(4,7),(4,8),(5,0),(5,1),(5,2),(5,3),(5,4),(5,6),(5,7),(6,0),(6,1),(6,2),(6,3),(6,4),(6,5),(7,0),(7,1),(7,2),(7,3),(7,4),(7,5),(8,0),(8,1),(8,2),(8,3),(8,4)]) 11 rfl (by decide +kernel) (by decide +kernel) (by rfl) ?_
      refine ib_n (ib_n (th_n (AC.region ?_)))
      refine AL.p (by exact mv1 rfl) rfl ?_
      refine AL.p (by exact g_arith rfl rfl rfl (by exact wrap_i64 (by omega))) rfl ?_
      refine AL.p (by exact as1 rfl) rfl ?_
      refine AL.nil (th_n ?_)
      (have e2 : bstr (spoil1 cc m al) = bstr (m.take K) ++ bstr [al.getD ((cc.pick m.length).2.pick al.length).1.toNat 0] ++ bstr (m.drop (K + 1)) := (by unfold spoil1; rw [if_neg h2, if_pos h3, ← hK, bstr_append, bstr_append]); exact ⟨(i, spoilC cc m al, spoil1 cc m al), ⟨e1, by show (spoil1 cc m al).length + i ≤ _; omega, by show (spoilC cc m al).pos + 6 * i ≤ _; omega⟩, by show i < i + 1; omega, Weak.ren _ [] hC rfl (by rw [e2]; repeat (first | exact True.intro | refine And.intro ?_ ?_ | exact DLead.same | exact DLead.eqI (by omega) | exact rfl | refine ⟨_, rfl, ?_⟩)) (by repeat (first | exact True.intro | refine And.intro ?_ ?_ | exact DLead.same | exact rfl | refine ⟨_, _, rfl, rfl, ?_⟩ | refine ⟨_, rfl, ?_⟩ | refine ⟨_, _, rfl, ?_, ?_⟩)) rfl rfl rfl⟩)
     ·refine AC.drawn' mixed_ok [[], [], [0,1], [], [], [4], [3,4,5], [0,1,2,3,4,5,6], [0,1,2,3,4,5,6,7]] (by decide) ?_
      refine DF.op 0 [] 9 rfl rfl rfl (.free rfl (NOp.of (by exact mv1 rfl))) rfl ?_
      refine DF.op 1 [] 9 rfl rfl rfl (.free rfl (NOp.of (by exact mv1 rfl))) rfl ?_
      refine DF.op 2 [0,1] 9 rfl rfl rfl (.free rfl (NOp.of (by exact g_slice_str (h := K) rfl rfl .none (.some rfl hKI) (Nat.zero_le _) (by omega) hx1))) rfl ?_
      refine DF.op 3 [] 9 rfl rfl rfl (.free rfl (NOp.of (by exact mv1 rfl))) rfl ?_
      refine DF.op 4 [] 9 rfl rfl rfl (.free rfl (NOp.of (by exact mv1 rfl))) rfl ?_
      refine DF.op 5 [4] 9 rfl rfl rfl (.free rfl (NOp.of (by exact g_arith rfl rfl rfl (by exact wrap_i64 (by omega))))) rfl ?_
      refine DF.op 6 [3,4,5] 9 rfl rfl rfl (.free rfl (NOp.of (by exact g_slice_str (l := K + 1) rfl rfl (.some rfl hKJ) .none (by omega) (Nat.le_refl _) hx3))) rfl ?_
      refine DF.op 7 [0,1,2,3,4,5,6] 9 rfl rfl rfl (.free rfl (NOp.of (by exact g_sadd rfl rfl (by (simp only [ByteArray.size_append, bstr_size, List.length_take, List.length_drop, List.length_cons, List.length_nil]; omega))))) rfl ?_
      refine DF.op 8 [0,1,2,3,4,5,6,7] 9 rfl rfl rfl (.free rfl (NOp.of (by exact as1 rfl))) rfl ?_
      refine DF.fin (ps := [(0,1),(0,3),(0,4),(0,5),(0,6),(1,0),(1,3),(1,4),(1,5),(1,6),(2,3),(2,4),(2,5),(2,6),(3,0),(3,1),(3,2),(3,4),(3,5),(4,0),(4,1),(4,2),(4,3),(5,0),(5,1),(5,2),(5,3),(6,0),(6,1),(6,2)]) 9 rfl (by decide +kernel) (by decide +kernel) (by rfl) ?_
      refine ib_n (ib_n (th_n (AC.region ?_)))
      refine AL.p (by exact mv1 rfl) rfl ?_
      refine AL.p (by exact g_arith rfl rfl rfl (by exact wrap_i64 (by omega))) rfl ?_
      refine AL.p (by exact as1 rfl) rfl ?_
      refine AL.nil (th_n ?_)
      (have e2 : bstr (spoil1 cc m al) = bstr (m.take K) ++ bstr (m.drop (K + 1)) := (by unfold spoil1; rw [if_neg h2, if_neg h3, ← hK, bstr_append]); exact ⟨(i, spoilC cc m al, spoil1 cc m al), ⟨e1, by show (spoil1 cc m al).length + i ≤ _; omega, by show (spoilC cc m al).pos + 6 * i ≤ _; omega⟩, by show i < i + 1; omega, Weak.ren _ [] hC rfl (by rw [e2]; repeat (first | exact True.intro | refine And.intro ?_ ?_ | exact DLead.same | exact DLead.eqI (by omega) | exact rfl | refine ⟨_, rfl, ?_⟩)) (by repeat (first | exact True.intro | refine And.intro ?_ ?_ | exact DLead.same | exact rfl | refine ⟨_, _, rfl, rfl, ?_⟩ | refine ⟨_, rfl, ?_⟩ | refine ⟨_, _, rfl, ?_, ?_⟩)) rfl rfl rfl⟩)
   ·refine AC.exit (th_e (th_e (ib_y (th_n (AC.seq (AC.region ?_))))))
    refine AL.p (by exact mv1 rfl) rfl ?_
    refine AL.p (by exact as1 rfl) rfl ?_
    refine AL.nil (th_n (AC.ret (bq_r ?_)))
    have e : c.spoilt s al = (m, cc) := by (rw [← hsub]; exact spoilN_nil (by omega))
    exact retF rfl (by rw [e]; repeat (exact DLead.same)) (by rw [e]; repeat (first | exact True.intro | refine And.intro ?_ ?_ | exact DLead.same | exact rfl | refine ⟨_, _, rfl, rfl, ?_⟩ | refine ⟨_, rfl, ?_⟩ | refine ⟨_, _, rfl, ?_, ?_⟩)) rfl
  ·refine AL.not rfl rfl rfl rfl rfl ?_
   refine AL.not rfl rfl rfl rfl rfl ?_
   refine AL.not rfl rfl rfl rfl rfl ?_
   refine AL.p (by exact g_pickF (r := .d _) rfl rfl) rfl ?_
   refine AL.nil (th_n ?_)
   refine AC.condF rfl ?_
   refine AC.exit (th_e (th_e (ib_y (th_n (AC.seq (AC.region ?_))))))
   refine AL.p (by exact mv1 rfl) rfl ?_
   refine AL.p (by exact as1 rfl) rfl ?_
   refine AL.nil (th_n (AC.ret (bq_r ?_)))
   have e : c.spoilt s al = (m, cc) := by (have hj : j = 0 := (by omega); subst hj; exact hsub.symm)
   exact retF rfl (by rw [e]; repeat (exact DLead.same)) (by rw [e]; repeat (first | exact True.intro | refine And.intro ?_ ?_ | exact DLead.same | exact rfl | refine ⟨_, _, rfl, rfl, ?_⟩ | refine ⟨_, rfl, ?_⟩ | refine ⟨_, _, rfl, ?_, ?_⟩)) rfl
theorem en_spoilt : Enters Tryz.prog 195 := enters_of Tryz.func195 rfl rfl
section
variable {P : Program} [PT P] {C : Ctx} {s : ASt}
theorem own_view {m : Nat → Option (Option Nat × Nat)} {F F' : Nat → Prop} {w : World} {id n e sz : Nat} {els : List (List DV)} {v : Value} {p : Option Nat × Nat} (hv : ARep m F w (.own id n) v) (hp : m id = some p) (hC : CRep m F w p (.arr e sz els)) (hn : n ≤ els.length) (hF : ∀ q, F q → F' q) (hFb : ∀ b, p.1 = some b → F' b) : DRep F' w (.view e sz (els.take n)) v := by
 cases hv with
 | own hp' h0 =>
  rename_i cap b
  rw [hp] at hp'
  simp only [Option.some.injEq] at hp'
  subst hp'
  cases hC with
  | nil h =>
   have : n = 0 := by simpa using hn
   subst this
   exact .nil
  | arr hb hf hsz hl hm h0' hrow hel =>
   rename_i b arr fz
   have hlen : (els.take n).length = n := by simp; omega
   have hsub : ∀ (i : Nat) cs, (els.take n)[i]? = some cs → els[i]? = some cs := by
    intro i cs hi
    rw [List.getElem?_take] at hi
    split at hi
    ·exact hi
    ·cases hi
   have := DRep.view (F := F') (w := w) (e := e) (sz := sz) (els := els.take n) (off := 0) (cap := cap) (hFb b rfl) hb (by omega) hm (by omega) (fun i cs hi => hrow i cs (hsub i cs hi)) (fun i cs j d hi hj => by rw [Nat.zero_add]; exact (hel i cs j d (hsub i cs hi) hj).mono hF)
   rw [hlen] at this
   exact this
theorem Weak.freezeC {id0 id k n e sz tt : Nat} {cs : List AV} {els els' : List (List DV)} (hc0 : s.chunk id0 = some (.cells tt cs)) (hk : cs[k]? = some (.own id n)) (hc : s.chunk id = some (.arr e sz els)) (hn : n ≤ els.length) (he : els.take n = els') (hne : id0 ≠ id) : Weak C s { n := s.n, nx := s.nx, sl := s.sl, ch := (id0, some (.cells tt (cs.set k (.d (.view e sz els'))))) :: (id, none) :: s.ch } := by
 subst he
 refine ⟨?_⟩
 rintro a w ⟨m, hR⟩
 have hch : ∀ j c, (getL j ((id0, some (.cells tt (cs.set k (.d (.view e sz (els.take n)))))) :: (id, none) :: s.ch)).getD none = some c → (j = id0 ∧ c = .cells tt (cs.set k (.d (.view e sz (els.take n))))) ∨ (j ≠ id0 ∧ j ≠ id ∧ s.chunk j = some c) := by
  intro j c h
  rw [getL_cons] at h
  split at h
  ·rename_i e; simp at h; exact .inl ⟨e, h.symm⟩
  ·rename_i e
   rw [getL_cons] at h
   split at h
   ·simp at h
   ·rename_i e'; exact .inr ⟨e, e', h⟩
 have hF : ∀ q, Fz C m s w q → Fz C m { n := s.n, nx := s.nx, sl := s.sl, ch := (id0, some (.cells tt (cs.set k (.d (.view e sz (els.take n)))))) :: (id, none) :: s.ch } w q := by
  intro q hq
  refine ⟨hq.1, hq.2.1, fun j c p h1 h2 h3 => ?_⟩
  rcases hch j c h1 with ⟨rfl, rfl⟩ | ⟨_, _, h⟩
  ·exact hq.2.2 j _ p hc0 h2 (.inl h3.one_cells)
  ·exact hq.2.2 j c p h h2 h3
 have old : ∀ j c, (getL j ((id0, some (.cells tt (cs.set k (.d (.view e sz (els.take n)))))) :: (id, none) :: s.ch)).getD none = some c → j ≠ id ∧ ∃ c0, s.chunk j = some c0 ∧ ∀ p b, occ p c b → occ p c0 b := by
  intro j c h
  rcases hch j c h with ⟨rfl, rfl⟩ | ⟨_, h1, h2⟩
  ·exact ⟨hne, _, hc0, fun _ b hb => .inl hb.one_cells⟩
  ·exact ⟨h1, _, h2, fun _ _ h => h⟩
 obtain ⟨q, hq, hCq, hloc⟩ := hR.ch id _ hc
 have hFb : ∀ b, q.1 = some b → Fz C m { n := s.n, nx := s.nx, sl := s.sl, ch := (id0, some (.cells tt (cs.set k (.d (.view e sz (els.take n)))))) :: (id, none) :: s.ch } w b := by
  intro b hb
  refine ⟨.inr (hloc b (.inl hb)), hCq.lt (.inl hb), fun j c p h1 h2 h3 => ?_⟩
  obtain ⟨hj, c0, h4, h5⟩ := old j c h1
  exact hj (hR.inj j id c0 _ p q h4 hc h2 hq b (h5 _ _ h3) (.inl hb))
 refine ⟨m, hR.fr, hR.fin, hR.sz, fun j => (hR.sl j).turn (MLe.refl m) (fun k hk _ => ⟨hF k hk, rfl⟩), fun j c h1 => ?_, fun j j' c c' p p' h1 h2 hp hp' b hb hb' => ?_, hR.un, hR.defers, hR.m0, hR.m0k⟩
 ·rcases hch j c h1 with ⟨rfl, rfl⟩ | ⟨_, _, h⟩
  ·obtain ⟨p, hp, hr, hl⟩ := hR.ch j _ hc0
   refine ⟨p, hp, ?_, fun b hb => hl b (.inl hb.one_cells)⟩
   cases hr with
   | cells g1 g2 g3 g4 =>
    refine .cells g1 (by simpa using g2) (fun i x hx => ?_) g4
    by_cases hik : k = i
    ·subst hik
     rw [List.getElem?_set_self (List.getElem?_eq_some_iff.1 hk).1] at hx
     simp only [Option.some.injEq] at hx
     subst hx
     exact .d (own_view (g3 k _ hk) hq (hR.chunkAt hc hq) hn hF hFb)
    ·rw [List.getElem?_set_ne hik] at hx
     exact (g3 i x hx).turn (MLe.refl m) (fun k hk _ => ⟨hF k hk, rfl⟩)
  ·obtain ⟨p, hp, hr, hl⟩ := hR.ch j c h
   exact ⟨p, hp, hr.turn (MLe.refl m) (fun k hk _ => ⟨hF k hk, rfl⟩) (fun _ _ => rfl), hl⟩
 ·obtain ⟨_, c0, g1, g2⟩ := old j c h1
  obtain ⟨_, c0', g1', g2'⟩ := old j' c' h2
  exact hR.inj j j' c0 c0' p p' g1 g1' hp hp' b (g2 _ _ hb) (g2' _ _ hb')
theorem Weak.nilOwnP (i k : Nat) {id0 o e sz tt : Nat} {cs : List AV} (hp : s.get i = .ptr id0 o) (hc : s.chunk id0 = some (.cells tt cs)) (hk : cs[k]? = some (.d (.val (.slice none 0 0)))) (h0 : Nat.ble 1 sz = true) (hid0 : Nat.beq id0 s.nx = false) : Weak C s { n := s.n, nx := s.nx + 8, sl := s.sl, ch := (id0, some (.cells tt (cs.set k (.own s.nx 0)))) :: (s.nx, some (.arr e sz [])) :: s.ch } :=
 Weak.nilOwnC hc hk (Nat.le_of_ble_eq_true h0) (Nat.ne_of_beq_eq_false hid0)
theorem Weak.freezeP (i k : Nat) {id0 o id n e sz tt : Nat} {cs : List AV} {els els' : List (List DV)} (hp : s.get i = .ptr id0 o) (hc0 : s.chunk id0 = some (.cells tt cs)) (hk : cs[k]? = some (.own id n)) (hc : s.chunk id = some (.arr e sz els)) (hn : n ≤ els.length) (he : els.take n = els') (hne : Nat.beq id0 id = false) : Weak C s { n := s.n, nx := s.nx, sl := s.sl, ch := (id0, some (.cells tt (cs.set k (.d (.view e sz els'))))) :: (id, none) :: s.ch } :=
 Weak.freezeC hc0 hk hc hn he (Nat.ne_of_beq_eq_false hne)
end
theorem tsL_len (l : List Tn) : (tsL l).length = l.length := List.length_map _
theorem h_appendT (acc new : List Tn) {s : ASt} {dst : Option Nat} {ty : Nat} {pos : String} {af : Array Edge} {gd : Option (Nat × Bool)} {x y : Operand} {f : Nat} {ids ids2 : List Nat} {gone : List (Nat × Option Chunk)}
  (hto : AppTo s x 186 2 (tsL acc) ids gone) (harg : AppArg s y 2 (tsL new) ids2) (h : (acc ++ new).length ≤ 100000000) (hnew : gone = [] → 0 < new.length) :
  NOp Tryz.prog (ids ++ ids2) s ⟨dst, .call { callee := .builtin .append, args := #[x, y], argTypes := #[24, 24] }, ty, pos, af, gd⟩ f ⟨.own f (acc ++ new).length, (f, some (.arr 186 2 (tsL (acc ++ new)))) :: gone⟩ := by
 have := h_append (P := Tryz.prog) (s := s) (dst := dst) (ty := ty) (pos := pos) (af := af) (gd := gd) (x := x) (y := y) (f := f) (t := 24) (tx := 24) (k := (acc ++ new).length) rfl rfl rfl rfl rfl rfl hto harg (by simp) (by omega) (by show (acc ++ new).length * 48 ≤ _; omega) (fun h => by rw [tsL_len]; exact hnew h)
 rwa [← List.map_append] at this
def Cur.tn (c : Cur) (p : Int) : Tn × Cur :=
 (⟨(c.subset p 2).1, if (((c.subset p 2).2.subset p 2).2.pick 10).1 = 0 then [] else ((c.subset p 2).2.subset p 2).1⟩, (((c.subset p 2).2.subset p 2).2.pick 10).2)
theorem Cur.tn_in (c : Cur) (p : Int) : (c.tn p).1.pre.length ≤ 2 ∧ (c.tn p).1.post.length ≤ 2 ∧ (c.tn p).2.pos ≤ c.pos + 14 ∧ (c.tn p).2.code = c.code := by
 have h1 := c.subset_in p 2 (by decide)
 have h2 := (c.subset p 2).2.subset_in p 2 (by decide)
 have h3 := ((c.subset p 2).2.subset p 2).2.pick_pos 10
 have h4 := ((c.subset p 2).2.subset p 2).2.pick_code 10
 refine ⟨?_, ?_, ?_, ?_⟩
 ·show (c.subset p 2).1.length ≤ 2; omega
 ·show (if _ then ([] : List Int) else _).length ≤ 2
  split
  ·simp
  ·omega
 ·show (((c.subset p 2).2.subset p 2).2.pick 10).2.pos ≤ _; omega
 ·show (((c.subset p 2).2.subset p 2).2.pick 10).2.code = _; rw [h4, h2.2.2, h1.2.2]
def netN (p : Int) : Nat → Cur → List Tn → List Tn × Cur
 | 0, c, ts => (ts, c)
 | j + 1, c, ts => netN p j (c.tn p).2 (ts ++ [(c.tn p).1])
theorem netN_in (p : Int) : ∀ (j : Nat) (c : Cur) (ts : List Tn), (∀ t, t ∈ ts → t.pre.length ≤ 2 ∧ t.post.length ≤ 2) → (netN p j c ts).1.length = ts.length + j ∧ (∀ t, t ∈ (netN p j c ts).1 → t.pre.length ≤ 2 ∧ t.post.length ≤ 2) ∧ (netN p j c ts).2.pos ≤ c.pos + 14 * j ∧ (netN p j c ts).2.code = c.code
 | 0, c, ts, h => ⟨rfl, h, Nat.le_refl _, rfl⟩
 | j + 1, c, ts, h => by
  have h1 := c.tn_in p
  have h2 := netN_in p j (c.tn p).2 (ts ++ [(c.tn p).1]) (fun t ht => by
   rcases List.mem_append.1 ht with h' | h'
   ·exact h t h'
   ·rw [List.mem_singleton] at h'; subst h'; exact ⟨h1.1, h1.2.1⟩)
  simp only [List.length_append, List.length_cons, List.length_nil] at h2
  simp only [netN]
  exact ⟨by omega, h2.2.1, by omega, by rw [h2.2.2.2, h1.2.2.2]⟩
def Cur.netP (c : Cur) : Int := 2 + (c.pick 5).1
def Cur.netT (c : Cur) : List Tn × Cur := netN c.netP ((c.pick 5).2.pick 5).1.toNat ((c.pick 5).2.pick 5).2 []
set_option maxHeartbeats 4000000 in
theorem net_spec (c : Cur) (hp : c.pos ≤ 1000000000000) : ASpec Tryz.prog 177 [.ptr 0 0] [(0, curC c)] (Fun1 (.agg [aI c.netP, .own 1 c.netT.1.length]) [(0, curC c.netT.2), (1, .arr 186 2 (tsL c.netT.1))]) := by
 have hp1 := c.pick_in 5 (by decide)
 have hq1 := c.pick_pos 5
 have hp2 := (c.pick 5).2.pick_in 5 (by decide)
 have hq2 := (c.pick 5).2.pick_pos 5
 have hnp : 2 ≤ c.netP ∧ c.netP ≤ 6 := by unfold Cur.netP; omega
 refine ASpec.of Tryz.func177 rfl rfl fun C hC => ?_
 refine AC.seq (AC.region ?_)
 refine AL.q (by exact h_alloc rfl) rfl ?_
 refine AL.nil (th_n (AC.seq (AC.region ?_)))
 refine AL.p (by exact mv3 rfl) rfl ?_
 refine AL.q (by exact h_fun (cs := [0]) en_pick rfl rfl (by repeat (first | exact rfl | exact DLead.same | refine ⟨_, _, rfl, ?_, ?_⟩ | refine ⟨_, rfl, ?_⟩)) (by repeat (first | exact True.intro | refine And.intro ?_ ?_ | exact DLead.same | exact rfl | refine ⟨_, _, rfl, rfl, ?_⟩ | refine ⟨_, rfl, ?_⟩ | refine ⟨_, _, rfl, ?_, ?_⟩)) (pick_spec _ _ (by omega) (by omega)) rfl rfl rfl rfl) rfl ?_
 refine AL.p (by exact g_arith rfl rfl rfl (by exact wrap_i64 (by omega))) rfl ?_
 refine AL.p (by exact g_build rfl rfl rfl) rfl ?_
 refine AL.q (by exact h_alloc rfl) rfl ?_
 refine AL.q (by exact h_store rfl rfl rfl rfl rfl rfl) rfl ?_
 refine AL.nil (th_n (AC.seq (AC.seq (AC.region ?_))))
 refine AL.p (by exact mv3 rfl) rfl ?_
 refine AL.q (by exact h_fun (cs := [0]) en_pick rfl rfl (by repeat (first | exact rfl | exact DLead.same | refine ⟨_, _, rfl, ?_, ?_⟩ | refine ⟨_, rfl, ?_⟩)) (by repeat (first | exact True.intro | refine And.intro ?_ ?_ | exact DLead.same | exact rfl | refine ⟨_, _, rfl, rfl, ?_⟩ | refine ⟨_, rfl, ?_⟩ | refine ⟨_, _, rfl, ?_, ?_⟩)) (pick_spec _ _ (by omega) (by omega)) rfl rfl rfl rfl) rfl ?_
 refine AL.p (by exact as1 rfl) rfl ?_
 refine AL.nil (th_n (AC.block ?_))
 refine AC.loop (ι := Nat × Cur × List Tn) (fun x => ⟨35, 128, [(0, .ptr 0 0), (2, .ptr 102 0), (3, .ptr 100 0), (4, aI x.1)], [(0, some (curC x.2.1)), (100, some (.cells 26 [aI c.netP, .own 101 x.2.2.length])), (101, some (.arr 186 2 (tsL x.2.2))), (102, some (.cells 26 [aI 0, .d (.val (.slice none 0 0))]))]⟩) (fun x => netN c.netP x.1 x.2.1 x.2.2 = c.netT ∧ x.2.2.length + x.1 ≤ 10 ∧ x.2.1.pos + 14 * x.1 ≤ 2000000000000) (fun x => x.1) ((((c.pick 5).2.pick 5).1.toNat, ((c.pick 5).2.pick 5).2, [])) ?_ (⟨rfl, by show 0 + ((c.pick 5).2.pick 5).1.toNat ≤ _; omega, by show ((c.pick 5).2.pick 5).2.pos + 14 * ((c.pick 5).2.pick 5).1.toNat ≤ _; omega⟩) ?_
 ·exact (Weak.nilOwnP 3 1 (e := 186) (sz := 2) rfl rfl rfl rfl rfl).trans (Weak.ren _ [(100, _), (101, _), (102, _)] hC rfl (by repeat (first | exact True.intro | refine And.intro ?_ ?_ | exact DLead.eqI (by omega) | exact rfl | refine ⟨_, rfl, ?_⟩)) (by repeat (first | exact True.intro | refine And.intro ?_ ?_ | exact DLead.same | exact rfl | refine ⟨_, _, rfl, rfl, ?_⟩ | refine ⟨_, rfl, ?_⟩ | refine ⟨_, _, rfl, ?_, ?_⟩)) rfl rfl rfl)
 ·rintro ⟨j, cc, ts⟩ ⟨hsub, hlen, hpos⟩
  dsimp only at hsub hlen hpos ⊢
  refine AC.seq (AC.seq (AC.region ?_))
  refine AL.p (by exact mv1 rfl) rfl ?_
  refine AL.p (by exact g_cmp rfl rfl rfl) rfl ?_
  refine AL.nil (th_n ?_)
  refine AC.condD rfl (fun h0 => ?_) (fun h0 => ?_)
  ·refine AC.skip (th_n (AC.seq (AC.block (AC.seq ?_))))
   obtain ⟨i, rfl⟩ : ∃ i, j = i + 1 := ⟨j - 1, by omega⟩
   have ht := cc.tn_in c.netP
   have hs1 := cc.subset_in c.netP 2 (by decide)
   have hs2 := (cc.subset c.netP 2).2.subset_in c.netP 2 (by decide)
   have hs3 := ((cc.subset c.netP 2).2.subset c.netP 2).2.pick_pos 10
   refine AC.drawn' mixed_ok [[], [], [1], [0,1,2], [], [], [5], [0,1,2,3,4,5,6], [0,1,2,3,4,5,6,7], [], [0,1,2,3,4,5,6,7,8,9]] (by decide) ?_
   refine DF.op 0 [] 11 rfl rfl rfl (.free rfl (NOp.of (by exact mv3 rfl))) rfl ?_
   refine DF.op 1 [] 11 rfl rfl rfl (.free rfl (NOp.of (by exact g_fa_ptr rfl rfl rfl rfl rfl))) rfl ?_
   refine DF.op 2 [1] 11 rfl rfl rfl (.free rfl (NOp.of (by exact g_load_ptr rfl rfl rfl rfl rfl))) rfl ?_
   refine DF.op 3 [0,1,2] 11 rfl rfl rfl (.free rfl (by exact h_fun (cs := [0]) en_subset rfl rfl (by repeat (first | exact rfl | exact DLead.same | refine ⟨_, _, rfl, ?_, ?_⟩ | refine ⟨_, rfl, ?_⟩)) (by repeat (first | exact True.intro | refine And.intro ?_ ?_ | exact DLead.same | exact rfl | refine ⟨_, _, rfl, rfl, ?_⟩ | refine ⟨_, rfl, ?_⟩ | refine ⟨_, _, rfl, ?_, ?_⟩)) (subset_spec _ _ _ (by omega) (by omega) (by omega) (by omega)) rfl rfl rfl rfl)) rfl ?_
   refine DF.op 4 [] 11 rfl rfl rfl (.free rfl (NOp.of (by exact mv3 rfl))) rfl ?_
   refine DF.op 5 [] 11 rfl rfl rfl (.free rfl (NOp.of (by exact g_fa_ptr rfl rfl rfl rfl rfl))) rfl ?_
   refine DF.op 6 [5] 11 rfl rfl rfl (.free rfl (NOp.of (by exact g_load_ptr rfl rfl rfl rfl rfl))) rfl ?_
   refine DF.op 7 [0,1,2,3,4,5,6] 11 rfl rfl rfl (.free rfl (by exact h_fun (cs := [0]) en_subset rfl rfl (by repeat (first | exact rfl | exact DLead.same | refine ⟨_, _, rfl, ?_, ?_⟩ | refine ⟨_, rfl, ?_⟩)) (by repeat (first | exact True.intro | refine And.intro ?_ ?_ | exact DLead.same | exact rfl | refine ⟨_, _, rfl, rfl, ?_⟩ | refine ⟨_, rfl, ?_⟩ | refine ⟨_, _, rfl, ?_, ?_⟩)) (subset_spec _ _ _ (by omega) (by omega) (by omega) (by omega)) rfl rfl rfl rfl)) rfl ?_
   refine DF.op 8 [0,1,2,3,4,5,6,7] 11 rfl rfl rfl (.free rfl (NOp.of (by exact g_build rfl rfl rfl))) rfl ?_
   refine DF.op 9 [] 11 rfl rfl rfl (.free rfl (by exact h_alloc rfl)) rfl ?_
   refine DF.op 10 (List.range 10) 11 rfl rfl rfl (.free rfl (by exact h_store rfl rfl rfl rfl rfl rfl)) rfl ?_
   refine DF.fin (ps := [(0,1),(0,2),(0,4),(0,5),(0,6),(0,9),(1,0),(1,4),(1,5),(1,6),(1,9),(2,0),(2,4),(2,5),(2,6),(2,9),(3,4),(3,5),(3,6),(3,9),(4,0),(4,1),(4,2),(4,3),(4,5),(4,6),(4,9),(5,0),(5,1),(5,2),(5,3),(5,4),(5,9),(6,0),(6,1),(6,2),(6,3),(6,4),(6,9),(7,9),(8,9),(9,0),(9,1),(9,2),(9,3),(9,4),(9,5),(9,6),(9,7),(9,8)]) 11 rfl (by decide +kernel) (by decide +kernel) (by rfl) ?_
   refine th_n ?_
   refine AC.cut (fun (_ : Unit) => ⟨35, 136, [(0, .ptr 0 0), (2, .ptr 102 0), (3, .ptr 100 0), (4, aI ((i + 1 : Nat) : Int)), (5, .ptr 103 0)], [(0, some (curC (cc.tn c.netP).2)), (100, some (.cells 26 [aI c.netP, .own 101 ts.length])), (101, some (.arr 186 2 (tsL ts))), (102, some (.cells 26 [aI 0, .d (.val (.slice none 0 0))])), (103, some (.cells 186 [.d (vI (cc.tn c.netP).1.pre), .d (vI (cc.tn c.netP).1.post)]))]⟩) (fun _ => True) ?_ ?_
   ·refine AC.seq (AC.region ?_)
    refine AL.p (by exact mv3 rfl) rfl ?_
    refine AL.q (by exact h_fun (cs := [0]) en_one rfl rfl (by repeat (first | exact rfl | exact DLead.same | refine ⟨_, _, rfl, ?_, ?_⟩ | refine ⟨_, rfl, ?_⟩)) (by repeat (first | exact True.intro | refine And.intro ?_ ?_ | exact DLead.same | exact rfl | refine ⟨_, _, rfl, rfl, ?_⟩ | refine ⟨_, rfl, ?_⟩ | refine ⟨_, _, rfl, ?_, ?_⟩)) (one_spec _ _ (by omega) (by omega)) rfl rfl rfl rfl) rfl ?_
    refine AL.nil (th_n ?_)
    refine AC.condD rfl (fun h1 => ?_) (fun h1 => ?_)
    ·refine AC.region ?_
     refine AL.p (by exact g_fa_ptr rfl rfl rfl rfl rfl) rfl ?_
     refine AL.q (by exact h_store rfl rfl rfl rfl rfl rfl) rfl ?_
     refine AL.nil (th_n ?_)
     (have e : (cc.tn c.netP).1.post = [] := (by show (if _ then ([] : List Int) else _) = _; rw [if_pos h1]); exact ⟨(), trivial, Weak.ren _ [(100, _), (101, _), (102, _), (103, _)] hC rfl (by repeat (first | exact True.intro | refine And.intro ?_ ?_ | exact DLead.same | exact rfl | refine ⟨_, rfl, ?_⟩)) (by rw [e]; repeat (first | exact True.intro | refine And.intro ?_ ?_ | exact DLead.same | exact DLead.nil | exact rfl | refine ⟨_, _, rfl, rfl, ?_⟩ | refine ⟨_, rfl, ?_⟩ | refine ⟨_, _, rfl, ?_, ?_⟩)) rfl rfl rfl⟩)
    ·refine AC.skip (th_n ?_)
     (have e : (cc.tn c.netP).1.post = ((cc.subset c.netP 2).2.subset c.netP 2).1 := (by show (if _ then ([] : List Int) else _) = _; rw [if_neg h1]); exact ⟨(), trivial, Weak.ren _ [(100, _), (101, _), (102, _), (103, _)] hC rfl (by repeat (first | exact True.intro | refine And.intro ?_ ?_ | exact DLead.same | exact rfl | refine ⟨_, rfl, ?_⟩)) (by rw [e]; repeat (first | exact True.intro | refine And.intro ?_ ?_ | exact DLead.same | exact rfl | refine ⟨_, _, rfl, rfl, ?_⟩ | refine ⟨_, rfl, ?_⟩ | refine ⟨_, _, rfl, ?_, ?_⟩)) rfl rfl rfl⟩)
   ·intro _ _
    refine AC.region ?_
    refine AL.p (by exact g_fa_ptr rfl rfl rfl rfl rfl) rfl ?_
    refine AL.p (by exact g_load_ptr rfl rfl rfl rfl rfl) rfl ?_
    refine AL.p (by exact g_load_ptrN rfl rfl rfl rfl rfl) rfl ?_
    refine AL.q (by exact h_litF rfl rfl rfl rfl rfl rfl rfl rfl) rfl ?_
    refine AL.q (by exact h_appendT ts [(cc.tn c.netP).1] (.own rfl rfl (tsL_len _).symm) (.view rfl) (by simp; omega) (by simp)) rfl ?_
    refine AL.p (by exact g_fa_ptr rfl rfl rfl rfl rfl) rfl ?_
    refine AL.q (by exact h_store rfl rfl rfl rfl rfl rfl) rfl ?_
    refine AL.nil (ib_n (th_n (AC.region ?_)))
    refine AL.p (by exact mv1 rfl) rfl ?_
    refine AL.p (by exact g_arith rfl rfl rfl (by exact wrap_i64 (by omega))) rfl ?_
    refine AL.p (by exact as1 rfl) rfl ?_
    refine AL.nil (th_n ?_)
    exact ⟨(i, (cc.tn c.netP).2, ts ++ [(cc.tn c.netP).1]), ⟨hsub, by show (ts ++ [_]).length + i ≤ _; rw [List.length_append]; show ts.length + 1 + i ≤ _; omega, by show (cc.tn c.netP).2.pos + 14 * i ≤ _; omega⟩, by show i < i + 1; omega, Weak.ren _ [(100, _), (101, _), (102, _)] hC rfl (by repeat (first | exact True.intro | refine And.intro ?_ ?_ | exact DLead.eqI (by omega) | exact rfl | refine ⟨_, rfl, ?_⟩)) (by repeat (first | exact True.intro | refine And.intro ?_ ?_ | exact DLead.same | exact rfl | refine ⟨_, _, rfl, rfl, ?_⟩ | refine ⟨_, rfl, ?_⟩ | refine ⟨_, _, rfl, ?_, ?_⟩)) rfl rfl rfl⟩
  ·refine AC.exit (th_e (th_e (ib_y (th_n (AC.seq (AC.region ?_))))))
   refine AL.p (by exact g_load_ptrN rfl rfl rfl rfl rfl) rfl ?_
   refine AL.q (by exact h_store rfl rfl rfl rfl rfl rfl) rfl ?_
   refine AL.nil (th_n (AC.ret (bq_r ?_)))
   have hj : j = 0 := by omega
   subst hj
   have e : c.netT = (ts, cc) := hsub.symm
   exact retN [(1, _)] rfl (by rw [e]; repeat (first | exact DLead.same | exact rfl | refine ⟨_, rfl, ?_⟩ | refine ⟨_, _, rfl, ?_, ?_⟩)) (by rw [e]; repeat (first | exact True.intro | refine And.intro ?_ ?_ | exact DLead.same | exact rfl | refine ⟨_, _, rfl, rfl, ?_⟩ | refine ⟨_, rfl, ?_⟩ | refine ⟨_, _, rfl, ?_, ?_⟩)) rfl rfl
theorem en_net : Enters Tryz.prog 177 := enters_of Tryz.func177 rfl rfl
theorem Cur.netT_in (c : Cur) : c.netT.1.length ≤ 4 ∧ (∀ t, t ∈ c.netT.1 → t.pre.length ≤ 2 ∧ t.post.length ≤ 2) ∧ c.netT.2.pos ≤ c.pos + 60 ∧ c.netT.2.code = c.code := by
 have h := netN_in c.netP ((c.pick 5).2.pick 5).1.toNat ((c.pick 5).2.pick 5).2 [] (fun t ht => by simp at ht)
 have hp1 := c.pick_pos 5
 have hp2 := (c.pick 5).2.pick_in 5 (by decide)
 have hp3 := (c.pick 5).2.pick_pos 5
 simp only [List.length_nil] at h
 refine ⟨by show (netN _ _ _ _).1.length ≤ _; omega, h.2.1, by show (netN _ _ _ _).2.pos ≤ _; omega, ?_⟩
 show (netN _ _ _ _).2.code = _
 rw [h.2.2.2, Cur.pick_code, Cur.pick_code]
theorem Cur.netP_in (c : Cur) : 2 ≤ c.netP ∧ c.netP ≤ 6 := by
 have := c.pick_in 5 (by decide)
 unfold Cur.netP; omega
def small (N : Net) : Prop := 0 ≤ N.places ∧ N.places ≤ 31 ∧ N.ts.length ≤ 4 ∧ ∀ t, t ∈ N.ts → t.pre.length ≤ 2 ∧ t.post.length ≤ 2
theorem markOf_len (c : Cur) (n : Int) : ((c.markOf n).1.length = n.toNat) ∧ (c.markOf n).2.pos ≤ c.pos + 2 * n.toNat ∧ (c.markOf n).2.code = c.code := by
 have h := markN_len n.toNat c []
 simp only [List.length_nil] at h
 exact ⟨by show (markN _ _ _).1.length = _; omega, h.2.1, h.2.2⟩
end Go.Proofs.YthafkkgmekgmoaaGreat
