/- Contracts of the functions of the program and of the reference, each proved by a walk through its code. -/
import Derived.Lib.SliceRun
import Derived.Laws.RangeString
import Derived.ChangeSame
import Derived.ChangeVars
import Derived.JoinedOf
import Derived.RowKit
import Derived.RowKitTokens
import Derived.LaidLaws
import Derived.LaidHandle
import Derived.Stop.Joined
import Derived.MakeChecks
import Derived.SevenTiedAt
import Derived.Stop.LaidErr
import Derived.WalkKit
import Derived.WalkSpells
import Derived.WalkLawsBesides
import Derived.Deep.Draws
import Derived.Lib.Hide
import Derived.Maps.AppendAt
import Derived.OwnWalk
import Derived.Deep.MidRow
import Derived.Laws.ResultCell
import Derived.Deep.Upon
import Derived.Great.FillDense
import Derived.Laws.Tables
import Derived.Laws.BytesArg
import Derived.Laws.MakeOwn
import Derived.Great.BuildSlice
import Derived.ArgAppend
import Derived.Deep.AppendSrc
import Derived.Test.YtmacodlgmebikaaGreatDoorProg
import Derived.KernelRfl
import Derived.Orders
import Derived.Laws.IdiomStrings
import Derived.Lib.AppendZerosOnto
import Derived.ProofKit
import Derived.OpenShut
import Derived.Laws.StructEq
import Derived.ChangeKeysEq
import Derived.Laws.IdiomCopy
import Derived.Shelf.Strings.Builder1
import Derived.Shelf.Strings.Builder2
import Derived.Shelf.Strings.OnBuilder
import Derived.Shelf.Strconv.Itoa0
import Derived.Shelf.Strconv.Itoa1
import Derived.Shelf.LaysM
import Derived.Shelf.Strconv.Itoa2
import Derived.Shelf.Strconv.Itoa3
import Derived.Shelf.Bits.Mul64
import Derived.Test.YtmacodlgmebikaaGreatDoorRows
import Derived.Sort.Grow
import Derived.Below
import Derived.Laws.Small
import Derived.Lib.LaidTab
import Derived.Test.YtmacodlgmebikaaGreatDoorGSo10
set_option linter.all false
set_option maxRecDepth 20000
namespace Go.Proofs.YtmacodlgmebikaaGreatDoor
open Go.RowKit
def powI (W : World) : Prop := Lib.TabIs Tryz.prog W "internal/strconv.uint64pow10" .u64 Lib.pow10Tab
theorem tabIs_turn {P : Program} {w w' : World} {name : String} {k : IntKind} {zs : List Int} (h : Lib.TabIs P w name k zs) (hh : ∀ k, k < w.heap.size → w'.heap[k]? = w.heap[k]?) : Lib.TabIs P w' name k zs := by
 unfold Lib.TabIs World.var? at h ⊢
 cases hg : P.globalNamed name with
 | none => rw [hg] at h; cases h
 | some g =>
  rw [hg] at h
  simp only [Option.bind_some] at h ⊢
  cases hb : w.heap[g]? with
  | none => rw [hb] at h; cases h
  | some o =>
   rw [hb] at h
   rw [hh g (lt_of_block hb), hb]
   exact h
theorem powI_turn : ∀ w w', powI w → (∀ k, k < w.heap.size → w'.heap[k]? = w.heap[k]?) → powI w' := fun _ _ h hh => tabIs_turn h hh
def numN (n : Int) : List UInt8 := Lib.decDigits n.toNat
theorem dec_le : ∀ (k n : Nat), n < 10 ^ (k + 1) → (Lib.decDigits n).length ≤ k + 1
 | 0, n, h => by
  rw [Lib.decDigits]
  split
  ·simp
  ·rename_i q; exact absurd h (by simpa using q)
 | k + 1, n, h => by
  rw [Lib.decDigits]
  split
  ·simp
  ·have := dec_le k (n / 10) (by rw [Nat.pow_succ] at h; omega)
   rw [List.length_append]
   simp only [List.length_cons, List.length_nil]; omega
theorem numN_len {n : Int} (h : 0 ≤ n ∧ n < 1000000) : (numN n).length ≤ 6 := dec_le 5 n.toNat (by omega)
theorem itoaI_spec (n : Int) (h : 0 ≤ n ∧ n < 1000000) : ASpecI powI Tryz.prog 32 [aI n] [] (Pure1 (aS (bstr (numN n)))) := by
 have e : Lib.itoa n = numN n := by unfold Lib.itoa numN; rw [if_neg (by omega)]
 refine ASpecI.ofNum (by rw [bstr_size]; exact Nat.le_trans (numN_len h) (by decide)) fun w hw => ?_
 have := Tryz.strconv_Itoa n (by omega) (by omega) w hw
 rw [e] at this
 refine this.mono ?_
 rintro e w' ⟨he, k, os, rfl⟩
 refine ⟨he, rfl, rfl, rfl, by show _ ≤ (w.heap ++ os).size; rw [Array.size_append]; omega, fun q hq => ?_⟩
 show (w.heap ++ os)[q]? = _
 rw [Array.getElem?_append_left hq]
theorem en_sJoin : Enters Tryz.prog 33 := enters_of Tryz.func33 rfl rfl
theorem sJoinL_spec (l : List (List UInt8)) (sep : List UInt8) (h0 : l ≠ []) (hl : l.length ≤ 1000000) (hb : (Lib.join l sep).length ≤ 70368744177664) : ASpec Tryz.prog 33 [.d (.view 9 1 (l.map fun x => [dS (bstr x)])), aS (bstr sep)] [] (Pure1 (aS (bstr (Lib.join l sep)))) := by
 have e1 : (l.map fun x => [dS (bstr x)]) = (l.map bstr).map fun x => [dS x] := by simp
 have e2 : ((l.map bstr).map (·.data.toList)) = l := by { rw [List.map_map]; have : ((fun x : ByteArray => x.data.toList) ∘ bstr) = id := funext fun x => rfl; rw [this, List.map_id] }
 rw [e1]
 refine ASpec.ofJoin (by cases l with | nil => exact absurd rfl h0 | cons _ _ => simp) (by simp; omega) (by rw [bstr_size]; exact hb) fun bk o c w hc hb2 hN hcap => ?_
 have := Tryz.strings_Join bk o c (l.map bstr) (bstr sep) w hc hb2 hN hcap (by rw [e2]; show (Lib.join l sep).length ≤ _; omega)
 rw [e2] at this
 exact this
theorem sJoin0_spec (sep : List UInt8) : ASpec Tryz.prog 33 [.d (.view 9 1 []), aS (bstr sep)] [] (Pure1 (aS (bstr []))) := by
 intro w m Fin vs hfin hn ha hch hinj hm
 have hv0 := ha 0 _ rfl
 have hv1 := ha 1 _ rfl
 have hv : vs = #[vs.getD 0 undef, .string (bstr sep)] := by
  apply Array.ext
  ·rw [hn]; rfl
  ·intro i hi1 hi2
   match i with
   | 0 => simp [Array.getD_eq_getD_getElem?, Array.getElem?_eq_getElem hi1]
   | 1 => have := hv1.val_eq.1; rw [Array.getD_eq_getD_getElem?, Array.getElem?_eq_getElem hi1] at this; simpa using this
   | i + 2 => simp at hi2; omega
 generalize vs.getD 0 undef = v0 at hv0 hv
 subst hv
 have hs : ∃ a c, v0 = .slice a 0 c := by
  cases hv0 with
  | d hd => cases hd with
   | nil => exact ⟨_, _, rfl⟩
   | empty => exact ⟨_, _, rfl⟩
   | view => exact ⟨_, _, rfl⟩
 obtain ⟨a, c, rfl⟩ := hs
 refine (Tryz.strings_Join_none a c (bstr sep) w).mono ?_
 rintro e w' ⟨rfl, rfl⟩
 refine ⟨_, _, [], m, Fin, rfl, ⟨rfl, rfl⟩, fun _ _ _ h => h, fun id hid => hm id (by simp only [List.length_nil] at hid ⊢; omega), fun k => ?_, ⟨rfl, rfl, rfl, Nat.le_refl _, fun _ _ _ => rfl⟩, .d (.val (by show (0 : Nat) ≤ maxLen; simp only [maxLen]; omega)), fun id c hc => by simp [getL] at hc, fun id id' c c' p p' b hc => by simp [getL] at hc⟩
 constructor
 ·intro hk
  exact ⟨.inl hk, (hfin k hk).1, fun id c p hc => by simp [getL] at hc⟩
 ·rintro ⟨h | ⟨id, c, p, hc, _⟩ | h, hlt, _⟩
  ·exact h
  ·simp [getL] at hc
  ·omega
theorem sJoinA_spec (l : List (List UInt8)) (sep : List UInt8) (hl : l.length ≤ 1000000) (hb : (Lib.join l sep).length ≤ 70368744177664) : ASpec Tryz.prog 33 [.d (.view 9 1 (l.map fun x => [dS (bstr x)])), aS (bstr sep)] [] (Pure1 (aS (bstr (Lib.join l sep)))) := by
 cases l with
 | nil => exact sJoin0_spec sep
 | cons x l => exact sJoinL_spec _ sep (by simp) hl hb
theorem join_succ {l : List (List UInt8)} {sep : List UInt8} {k : Nat} (hk : k < l.length) : Lib.join (l.take (k + 1)) sep = Lib.join (l.take k) sep ++ (if 0 < k then sep else []) ++ l[k] := by
 cases l with
 | nil => simp at hk
 | cons x r =>
  rcases Nat.eq_zero_or_pos k with rfl | h0
  ·simp [Lib.join_one, Lib.join_nil]
  ·obtain ⟨q, rfl⟩ : ∃ q, k = q + 1 := ⟨k - 1, by omega⟩
   have hq : q < r.length := by simpa using hk
   rw [if_pos h0, List.take_succ_cons, List.take_succ_cons, Lib.join_cons, Lib.join_cons, Lib.joinTail_take_succ _ _ _ _ (List.getElem?_eq_getElem hq)]
   simp [List.append_assoc]
theorem join_len {sep : List UInt8} {c : Nat} (hs : sep.length ≤ 2) : ∀ {l : List (List UInt8)} (_ : ∀ x, x ∈ l → x.length ≤ c) (k : Nat), k ≤ l.length → (Lib.join (l.take k) sep).length ≤ (c + 2) * k
 | l, h, 0, _ => by simp [Lib.join_nil]
 | l, h, k + 1, hk => by
  have ih := join_len hs h k (by omega)
  have hx := h _ (List.getElem_mem (show k < l.length by omega))
  rw [join_succ (by omega), List.length_append, List.length_append, Nat.mul_succ]
  have : (if 0 < k then sep else []).length ≤ 2 := by { split; exact hs; simp }
  omega
abbrev txL (l : List (List UInt8)) : List (List DV) := l.map (fun s => [dS (bstr s)])
theorem txL_len (l : List (List UInt8)) : (txL l).length = l.length := List.length_map _
theorem h_appendTx (acc new : List (List UInt8)) {s : ASt} {dst : Option Nat} {ty : Nat} {pos : String} {af : Array Edge} {gd : Option (Nat × Bool)} {x y : Operand} {f : Nat} {ids ids2 : List Nat} {gone : List (Nat × Option Chunk)}
  (hto : AppTo s x 9 1 (txL acc) ids gone) (harg : AppArg s y 1 (txL new) ids2) (h : (acc ++ new).length ≤ 100000000) (hnew : gone = [] → 0 < new.length) :
  NOp Tryz.prog (ids ++ ids2) s ⟨dst, .call { callee := .builtin .append, args := #[x, y], argTypes := #[72, 72] }, ty, pos, af, gd⟩ f ⟨.own f (acc ++ new).length, (f, some (.arr 9 1 (txL (acc ++ new)))) :: gone⟩ := by
 have := h_append (P := Tryz.prog) (s := s) (dst := dst) (ty := ty) (pos := pos) (af := af) (gd := gd) (x := x) (y := y) (f := f) (t := 72) (tx := 72) (k := (acc ++ new).length) rfl rfl rfl rfl rfl rfl hto harg (by simp) (by omega) (by show (acc ++ new).length * 16 ≤ _; omega) (fun h => by rw [txL_len]; exact hnew h)
 rwa [← List.map_append] at this
def tfW (x : Tf) : List UInt8 := [64] ++ numN x.tm ++ [32] ++ numN x.t
def tfGood (x : Tf) : Bool := (decide (0 ≤ x.t) && decide (x.t ≤ 23)) && !decide (x.tm > 999999)
def fmtR (run : List Tf) : List UInt8 × Bool := if (timesB run && run.all tfGood) = true then (Lib.join (run.map tfW) [59, 32], true) else ([], false)
theorem tfGood_in {x : Tf} (h : tfGood x = true) : 0 ≤ x.t ∧ x.t < 1000000 ∧ x.tm < 1000000 := by
 simp only [tfGood, Bool.and_eq_true, decide_eq_true_eq, Bool.not_eq_true', decide_eq_false_iff_not] at h
 omega
theorem tfW_len {x : Tf} (h0 : 0 ≤ x.tm) (h : tfGood x = true) : (tfW x).length ≤ 14 := by
 have h1 := tfGood_in h
 have a := numN_len (n := x.tm) (by omega)
 have b := numN_len (n := x.t) (by omega)
 unfold tfW
 simp only [List.length_append, List.length_cons, List.length_nil]; omega
theorem l1NumT_spec (n : Int) (h : 0 ≤ n ∧ n < 1000000) : ASpec Tryz.prog 35 [aI n] [] (Pure1 (aS (bstr (numN n)))) := by
 have := l1Num_dec n.toNat (by omega)
 rwa [show ((n.toNat : Nat) : Int) = n by omega] at this
theorem fmtR_no {run : List Tf} {k : Nat} (hk : k < run.length) (h : tfGood run[k] = false) : fmtR run = ([], false) := if_neg (by rw [List.all_eq_false.2 ⟨_, List.getElem_mem hk, by rw [h]; simp⟩]; simp)
theorem fmt_len {run : List Tf} {k : Nat} (hk : k ≤ run.length) (hall : ∀ j (hj : j < run.length), j < k → tfGood run[j] = true) (h0 : ∀ j (hj : j < run.length), 0 ≤ run[j].tm) : (Lib.join ((run.map tfW).take k) [59, 32]).length ≤ 16 * k := by
 have := join_len (sep := [59, 32]) (c := 14) (by decide) (l := (run.map tfW).take k) (fun x hx => by
  obtain ⟨j, hj, rfl⟩ := List.getElem_of_mem hx
  rw [List.length_take, List.length_map] at hj
  rw [List.getElem_take, List.getElem_map]
  exact tfW_len (h0 j (by omega)) (hall j (by omega) (by omega))) k (by rw [List.length_take, List.length_map]; omega)
 rwa [List.take_take, Nat.min_self] at this
set_option maxHeartbeats 4000000 in
theorem sFmtTR_spec (run : List Tf) (hn : run.length ≤ 100000) (hr : tfB run) : ASpec Tryz.prog 12 [.d (vTfs run)] [] (Pure1 (.tup [aS (bstr (fmtR run).1), aT (fmtR run).2])) := by
 have hT := l23Times_spec run hn
 have hti := timesB_in (run := run)
 have hR : fmtR run = if (timesB run && run.all tfGood) = true then (Lib.join (run.map tfW) [59, 32], true) else ([], false) := rfl
 have hNo := fun k hk h => fmtR_no (run := run) (k := k) hk h
 obtain ⟨b, hb⟩ : ∃ b, b = timesB run := ⟨_, rfl⟩
 rw [← hb] at hT hR hti
 obtain ⟨G, hG⟩ : ∃ G, G = fmtR run := ⟨_, rfl⟩
 rw [← hG] at hR ⊢
 have hNo2 : ∀ k (hk : k < run.length), tfGood run[k] = false → G = ([], false) := fun k hk h => hG.trans (hNo k hk h)
 clear hNo hG hb
 refine ASpec.of Tryz.func12 rfl rfl fun C hC => ?_
 refine AC.seq (AC.region ?_)
 refine AL.p (by exact as1 rfl) rfl ?_
 refine AL.p (by exact as1 rfl) rfl ?_
 refine AL.nil (th_n (AC.seq (AC.seq (AC.region ?_))))
 refine AL.p (by exact mv1 rfl) rfl ?_
 refine AL.q (by exact h_pure en_l23Times rfl rfl (by repeat (first | exact rfl | exact DLead.same | refine ⟨_, _, rfl, ?_, ?_⟩)) hT rfl) rfl ?_
 refine AL.p (by exact g_not rfl) rfl ?_
 refine AL.nil (th_n ?_)
 refine AC.condB rfl (fun h0 => ?_) (fun h0 => ?_)
 ·refine AC.seq (AC.region ?_)
  refine AL.p (by exact as1 rfl) rfl ?_
  refine AL.p (by exact as1 rfl) rfl ?_
  refine AL.nil (th_n (AC.ret (th_r (bq_r ?_))))
  have e : G = ([], false) := hR.trans (if_neg (by rw [show b = false by simpa using h0]; simp))
  exact ret2 rfl (by rw [e]; rfl) (by rw [e])
 ·refine AC.skip (th_n (AC.seq ?_))
  have q1 : b = true := by simpa using h0
  have hti2 := (hti q1).2
  have h0s : ∀ j (hj : j < run.length), 0 ≤ run[j].tm := fun j hj => by have := hti2 j hj; rwa [fAt_nat hj] at this
  have hln := (hti q1).1
  refine AC.region ?_
  refine AL.p (by exact as1 rfl) rfl ?_
  refine AL.nil (th_n (AC.seq (AC.seq (AC.region ?_))))
  refine AL.p (by exact mv1 rfl) rfl ?_
  refine AL.p (by exact g_len_view (k := run.length) rfl rfl (tfL_len _)) rfl ?_
  refine AL.p (by exact mv1 rfl) rfl ?_
  refine AL.nil (th_n (AC.block ?_))
  refine AC.loop (ι := Nat) (fun k => ⟨43, 200, [(4, aS (bstr (Lib.join ((run.map tfW).take k) [59, 32]))), (10, .d (vTfs run)), (11, aI run.length), (12, aI k)], []⟩) (fun k => k ≤ run.length ∧ ∀ j (hj : j < run.length), j < k → tfGood run[j] = true) (fun k => run.length - k) (0) ?_ (⟨Nat.zero_le _, fun j _ hj => by omega⟩) ?_
  ·refine Weak.ren _ [] hC rfl ?_ ?_ rfl rfl rfl <;> repeat (first | exact True.intro | refine And.intro ?_ ?_ | exact DLead.same)
  ·intro k ⟨hk, hall⟩
   have hjl := fmt_len hk hall h0s
   refine AC.seq (AC.region ?_)
   refine AL.p (by exact g_cmp rfl rfl rfl) rfl ?_
   refine AL.nil (th_n (AC.seq ?_))
   refine AC.condD rfl (fun h1 => ?_) (fun h1 => ?_)
   ·refine AC.skip (th_n (AC.seq (AC.block (AC.seq ?_))))
    have hk1 : k < run.length := by omega
    have hget := tfL_get hk1
    have hx0 := h0s k hk1
    have hNk := hNo2 k hk1
    have hsu := join_succ (l := run.map tfW) (sep := [59, 32]) (k := k) (by rw [List.length_map]; exact hk1)
    rw [List.getElem_map] at hsu
    have hall2 : tfGood run[k] = true → ∀ j (hj : j < run.length), j < k + 1 → tfGood run[j] = true := fun h j hj hj2 => by rcases Nat.lt_succ_iff_lt_or_eq.1 hj2 with q | rfl; exact hall j hj q; exact h
    obtain ⟨x, hx⟩ : ∃ x, x = run[k] := ⟨_, rfl⟩
    rw [← hx] at hget hx0 hNk hsu hall2
    clear hx
    have hG : tfGood x = ((decide (0 ≤ x.t) && decide (x.t ≤ 23)) && !decide (x.tm > 999999)) := rfl
    have hwi := l1In_spec x.t 0 23
    obtain ⟨q, hq⟩ : ∃ q, q = (decide (0 ≤ x.t) && decide (x.t ≤ 23)) := ⟨_, rfl⟩
    rw [← hq] at hwi hG
    refine AC.region ?_
    refine AL.p (by exact mv1 rfl) rfl ?_
    refine AL.p (by exact g_ia_view rfl rfl rfl rfl rfl (by rfl) (by assumption)) rfl ?_
    refine AL.p (by exact g_load_refN rfl rfl rfl rfl) rfl ?_
    refine AL.q (by exact h_alloc rfl) rfl ?_
    refine AL.p (by exact as1 rfl) rfl ?_
    refine AL.q (by exact h_store rfl rfl rfl rfl rfl rfl) rfl ?_
    refine AL.nil (th_n (AC.seq (AC.seq (AC.region ?_))))
    refine AL.p (by exact g_fa_ptr rfl rfl rfl rfl rfl) rfl ?_
    refine AL.p (by exact g_load_ptr rfl rfl rfl rfl rfl) rfl ?_
    refine AL.q (by exact h_pure en_l1In rfl rfl (by repeat (first | exact rfl | exact DLead.same | refine ⟨_, _, rfl, ?_, ?_⟩)) hwi rfl) rfl ?_
    refine AL.p (by exact g_not rfl) rfl ?_
    refine AL.p (by exact mv1 rfl) rfl ?_
    refine AL.caseGB rfl rfl (fun h2 => ?_) (fun h2 => ?_)
    ·refine AL.not rfl rfl rfl rfl rfl ?_
     refine AL.not rfl rfl rfl rfl rfl ?_
     refine AL.not rfl rfl rfl rfl rfl ?_
     refine AL.p (by exact g_pickT (r := .d _) rfl rfl) rfl ?_
     refine AL.nil (th_n ?_)
     refine AC.condT rfl ?_
     refine AC.seq (AC.region ?_)
     refine AL.p (by exact as1 rfl) rfl ?_
     refine AL.p (by exact as1 rfl) rfl ?_
     refine AL.nil (th_n (AC.ret (th_r (ib_r (th_r (th_r (ib_r (th_r (bq_r ?_)))))))))
     have e : G = ([], false) := hNk (by rw [hG]; rw [show q = false by simpa using ‹(!q) = true›]; rfl)
     exact ret2 rfl (by rw [e]; rfl) (by rw [e])
    ·refine AL.yes rfl rfl rfl ?_
     refine AL.p (by exact g_fa_ptr rfl rfl rfl rfl rfl) rfl ?_
     refine AL.yes rfl rfl rfl ?_
     refine AL.p (by exact g_load_ptr rfl rfl rfl rfl rfl) rfl ?_
     refine AL.yes rfl rfl rfl ?_
     refine AL.p (by exact g_cmp rfl rfl rfl) rfl ?_
     refine AL.p (by exact g_pickF (r := .d _) rfl rfl) rfl ?_
     refine AL.nil (th_n ?_)
     refine AC.condD rfl (fun h3 => ?_) (fun h3 => ?_)
     ·refine AC.seq (AC.region ?_)
      refine AL.p (by exact as1 rfl) rfl ?_
      refine AL.p (by exact as1 rfl) rfl ?_
      refine AL.nil (th_n (AC.ret (th_r (ib_r (th_r (th_r (ib_r (th_r (bq_r ?_)))))))))
      have e : G = ([], false) := hNk (by rw [hG]; rw [decide_eq_true ‹x.tm > 999999›]; simp)
      exact ret2 rfl (by rw [e]; rfl) (by rw [e])
     ·refine AC.skip (th_n ?_)
      refine AC.cut (fun (_ : Unit) => ⟨43, 400, [(4, aS (bstr (Lib.join ((run.map tfW).take k) [59, 32] ++ (if 0 < k then [59, 32] else [])))), (6, .d (.ref (tfD x))), (10, .d (vTfs run)), (11, aI run.length), (12, aI k)], []⟩) (fun _ => True) ?_ ?_
      ·refine AC.seq ?_
       have hkp : ((0 : Int) < (k : Int)) → 0 < k := by omega
       have hkn : ¬ ((0 : Int) < (k : Int)) → ¬ 0 < k := by omega
       refine AC.weak (Weak.freezeRef (ds := tfD x) 6 rfl rfl) ?_
       refine AC.region ?_
       refine AL.p (by exact mv1 rfl) rfl ?_
       refine AL.p (by exact g_cmp rfl rfl rfl) rfl ?_
       refine AL.nil (th_n ?_)
       refine AC.condD rfl (fun h4 => ?_) (fun h4 => ?_)
       ·refine AC.region ?_
        refine AL.p (by exact mv1 rfl) rfl ?_
        refine AL.p (by exact g_saddB (a := Lib.join ((run.map tfW).take k) [59, 32]) (b := [59, 32]) rfl rfl (by simp only [List.length_cons, List.length_nil]; omega)) rfl ?_
        refine AL.p (by exact as1 rfl) rfl ?_
        refine AL.nil (th_n ?_)
        (have e := hkp ‹(0 : Int) < (k : Int)›; exact ⟨(), trivial, Weak.ren _ [] hC rfl (by rw [if_pos e]; repeat (first | exact True.intro | refine And.intro ?_ ?_ | exact DLead.same)) (by repeat (exact True.intro)) rfl rfl rfl⟩)
       ·refine AC.skip (th_n ?_)
        (have e := hkn ‹¬ (0 : Int) < (k : Int)›; exact ⟨(), trivial, Weak.ren _ [] hC rfl (by rw [if_neg e, List.append_nil]; repeat (first | exact True.intro | refine And.intro ?_ ?_ | exact DLead.same)) (by repeat (exact True.intro)) rfl rfl rfl⟩)
      ·intro _ _
       have hgd : tfGood x = true := by rw [hG, show q = true by simpa using ‹(!q) = false›, decide_eq_false ‹¬ x.tm > 999999›]; rfl
       have hin := tfGood_in hgd
       have hN1 := l1NumT_spec x.tm (by omega)
       have hN2 := l1NumT_spec x.t (by omega)
       have hl1 := numN_len (n := x.tm) (by omega)
       have hl2 := numN_len (n := x.t) (by omega)
       have hW : tfW x = [64] ++ numN x.tm ++ [32] ++ numN x.t := rfl
       have hall3 := hall2 hgd
       have hil : (if 0 < k then [59, 32] else ([] : List UInt8)).length ≤ 2 := by split <;> simp
       refine AC.drawn' mixed_ok [[], [], [1], [1,2], [1,2,3], [1,2,3,4], [], [6], [1,2,3,6,7], [1,2,3,4,5,6,7,8], [0,1,2,3,4,5,6,7,8,9], [0,1,2,3,4,5,6,7,8,9,10]] (by decide) ?_
       refine DF.op 0 [] 12 rfl rfl rfl (.free rfl (NOp.of (by exact mv1 rfl))) rfl ?_
       refine DF.op 1 [] 12 rfl rfl rfl (.free rfl (NOp.of (by exact g_fa_ref rfl rfl rfl rfl rfl rfl))) rfl ?_
       refine DF.op 2 [1] 12 rfl rfl rfl (.free rfl (NOp.of (by exact g_load_ref rfl rfl rfl))) rfl ?_
       refine DF.op 3 [1,2] 12 rfl rfl rfl (.free rfl (by exact h_pure en_l1Num rfl rfl (by repeat (first | exact rfl | exact DLead.same | refine ⟨_, _, rfl, ?_, ?_⟩)) hN1 rfl)) rfl ?_
       refine DF.op 4 [1,2,3] 12 rfl rfl rfl (.free rfl (NOp.of (by exact g_saddB (a := [64]) (b := numN x.tm) rfl rfl (by simp only [List.length_append, List.length_cons, List.length_nil]; omega)))) rfl ?_
       refine DF.op 5 [1,2,3,4] 12 rfl rfl rfl (.free rfl (NOp.of (by exact g_saddB (a := [64] ++ numN x.tm) (b := [32]) rfl rfl (by simp only [List.length_append, List.length_cons, List.length_nil]; omega)))) rfl ?_
       refine DF.op 6 [] 12 rfl rfl rfl (.free rfl (NOp.of (by exact g_fa_ref rfl rfl rfl rfl rfl rfl))) rfl ?_
       refine DF.op 7 [6] 12 rfl rfl rfl (.free rfl (NOp.of (by exact g_load_ref rfl rfl rfl))) rfl ?_
       refine DF.op 8 [1,2,3,6,7] 12 rfl rfl rfl (.free rfl (by exact h_pure en_l1Num rfl rfl (by repeat (first | exact rfl | exact DLead.same | refine ⟨_, _, rfl, ?_, ?_⟩)) hN2 rfl)) rfl ?_
       refine DF.op 9 [1,2,3,4,5,6,7,8] 12 rfl rfl rfl (.free rfl (NOp.of (by exact g_saddB (a := [64] ++ numN x.tm ++ [32]) (b := numN x.t) rfl rfl (by simp only [List.length_append, List.length_cons, List.length_nil]; omega)))) rfl ?_
       refine DF.op 10 (List.range 10) 12 rfl rfl rfl (.free rfl (NOp.of (by exact g_saddB (a := Lib.join ((run.map tfW).take k) [59, 32] ++ (if 0 < k then [59, 32] else [])) (b := [64] ++ numN x.tm ++ [32] ++ numN x.t) rfl rfl (by simp only [List.length_append, List.length_cons, List.length_nil]; omega)))) rfl ?_
       refine DF.op 11 (List.range 11) 12 rfl rfl rfl (.free rfl (NOp.of (by exact as1 rfl))) rfl ?_
       refine DF.fin (ps := [(0,1),(0,2),(0,3),(0,4),(0,5),(0,6),(0,7),(0,8),(0,9),(1,0),(1,6),(1,7),(2,0),(2,6),(2,7),(3,0),(3,6),(3,7),(4,0),(4,6),(4,7),(4,8),(5,0),(5,6),(5,7),(5,8),(6,0),(6,1),(6,2),(6,3),(6,4),(6,5),(7,0),(7,1),(7,2),(7,3),(7,4),(7,5),(8,0),(8,4),(8,5),(9,0)]) 12 rfl (by decide +kernel) (by decide +kernel) (by rfl) ?_
       refine ib_n (th_n (AC.region ?_))
       refine AL.p (by exact g_arith rfl rfl rfl (by exact wrap_i64 (by omega))) rfl ?_
       refine AL.p (by exact mv1 rfl) rfl ?_
       refine AL.nil (th_n ?_)
       exact ⟨k + 1, ⟨by omega, hall3⟩, by omega, Weak.ren _ [] hC rfl (by rw [hsu, hW]; repeat (first | exact True.intro | refine And.intro ?_ ?_ | exact DLead.same)) (by repeat (exact True.intro)) rfl rfl rfl⟩
   ·refine AC.exit (th_e (th_e (ib_y (th_n (AC.seq (AC.region ?_))))))
    refine AL.p (by exact mv1 rfl) rfl ?_
    refine AL.p (by exact as1 rfl) rfl ?_
    refine AL.p (by exact as1 rfl) rfl ?_
    refine AL.nil (th_n (AC.ret (bq_r ?_)))
    have hkk : k = run.length := by omega
    have e : G = (Lib.join (run.map tfW) [59, 32], true) := hR.trans (if_pos (by rw [q1, List.all_eq_true.2 (fun x hx => by obtain ⟨j, hj, rfl⟩ := List.getElem_of_mem hx; exact hall j hj (by omega))]; rfl))
    exact ret2 rfl (by rw [e, hkk, List.take_of_length_le (by simp)]) (by rw [e])
theorem en_sFmtTR : Enters Tryz.prog 12 := enters_of Tryz.func12 rfl rfl
set_option maxHeartbeats 4000000 in
theorem iFmtTR_spec (run : List Tf) (hn : run.length ≤ 100000) (hr : tfB run) : ASpecI powI Tryz.prog 11 [.d (vTfs run)] [] (Pure1 (.tup [aS (bstr (fmtR run).1), aT (fmtR run).2])) := by
 have hT := areTimes_spec run hn
 have hti := timesB_in (run := run)
 have hR : fmtR run = if (timesB run && run.all tfGood) = true then (Lib.join (run.map tfW) [59, 32], true) else ([], false) := rfl
 have hNo := fun k hk h => fmtR_no (run := run) (k := k) hk h
 obtain ⟨b, hb⟩ : ∃ b, b = timesB run := ⟨_, rfl⟩
 rw [← hb] at hT hR hti
 obtain ⟨G, hG⟩ : ∃ G, G = fmtR run := ⟨_, rfl⟩
 rw [← hG] at hR ⊢
 have hNo2 : ∀ k (hk : k < run.length), tfGood run[k] = false → G = ([], false) := fun k hk h => hG.trans (hNo k hk h)
 clear hNo hG hb
 refine ASpecI.of Tryz.func11 rfl rfl powI_turn fun C hC hIc => ?_
 have hI := hIc rfl
 refine AC.seq (AC.region ?_)
 refine AL.p (by exact as1 rfl) rfl ?_
 refine AL.p (by exact as1 rfl) rfl ?_
 refine AL.nil (th_n (AC.seq (AC.seq (AC.region ?_))))
 refine AL.p (by exact mv1 rfl) rfl ?_
 refine AL.q (by exact h_pure en_areTimes rfl rfl (by repeat (first | exact rfl | exact DLead.same | refine ⟨_, _, rfl, ?_, ?_⟩)) hT rfl) rfl ?_
 refine AL.p (by exact g_not rfl) rfl ?_
 refine AL.nil (th_n ?_)
 refine AC.condB rfl (fun h0 => ?_) (fun h0 => ?_)
 ·refine AC.seq (AC.region ?_)
  refine AL.p (by exact as1 rfl) rfl ?_
  refine AL.p (by exact as1 rfl) rfl ?_
  refine AL.nil (th_n (AC.ret (th_r (bq_r ?_))))
  have e : G = ([], false) := hR.trans (if_neg (by rw [show b = false by simpa using h0]; simp))
  exact ret2 rfl (by rw [e]; rfl) (by rw [e])
 ·refine AC.skip (th_n (AC.seq ?_))
  have q1 : b = true := by simpa using h0
  have hti2 := (hti q1).2
  have h0s : ∀ j (hj : j < run.length), 0 ≤ run[j].tm := fun j hj => by have := hti2 j hj; rwa [fAt_nat hj] at this
  have hln := (hti q1).1
  refine AC.region ?_
  refine AL.q (by exact h_lit rfl rfl rfl rfl rfl rfl rfl rfl) rfl ?_
  refine AL.p (by exact as2 rfl) rfl ?_
  refine AL.nil (th_n (AC.seq (AC.seq (AC.region ?_))))
  refine AL.p (by exact mv1 rfl) rfl ?_
  refine AL.p (by exact g_len_view (k := run.length) rfl rfl (tfL_len _)) rfl ?_
  refine AL.p (by exact mv1 rfl) rfl ?_
  refine AL.nil (th_n (AC.block ?_))
  refine AC.loop (ι := Nat) (fun k => ⟨41, 108, [(4, .own 100 ((run.map tfW).take k).length), (11, .d (vTfs run)), (12, aI run.length), (13, aI k)], [(100, some (.arr 9 1 (txL ((run.map tfW).take k))))]⟩) (fun k => k ≤ run.length ∧ ∀ j (hj : j < run.length), j < k → tfGood run[j] = true) (fun k => run.length - k) (0) ?_ (⟨Nat.zero_le _, fun j _ hj => by omega⟩) ?_
  ·exact Weak.ren _ [(100, _)] hC rfl (by repeat (first | exact True.intro | refine And.intro ?_ ?_ | exact DLead.same | exact rfl | refine ⟨_, rfl, ?_⟩)) (by repeat (first | exact True.intro | refine And.intro ?_ ?_ | exact rfl | refine ⟨_, _, rfl, rfl, ?_⟩)) rfl rfl rfl
  ·intro k ⟨hk, hall⟩
   have hjl := fmt_len hk hall h0s
   refine AC.seq (AC.region ?_)
   refine AL.p (by exact g_cmp rfl rfl rfl) rfl ?_
   refine AL.nil (th_n (AC.seq ?_))
   refine AC.condD rfl (fun h1 => ?_) (fun h1 => ?_)
   ·refine AC.skip (th_n (AC.seq (AC.block (AC.seq ?_))))
    have hk1 : k < run.length := by omega
    have hget := tfL_get hk1
    have hx0 := h0s k hk1
    have hNk := hNo2 k hk1
    have hst : (run.map tfW).take (k + 1) = (run.map tfW).take k ++ [tfW run[k]] := by rw [List.take_add_one, List.getElem?_map, List.getElem?_eq_getElem hk1]; rfl
    have htl : ((run.map tfW).take k).length = k := by rw [List.length_take, List.length_map]; omega
    have hall2 : tfGood run[k] = true → ∀ j (hj : j < run.length), j < k + 1 → tfGood run[j] = true := fun h j hj hj2 => by rcases Nat.lt_succ_iff_lt_or_eq.1 hj2 with q | rfl; exact hall j hj q; exact h
    obtain ⟨x, hx⟩ : ∃ x, x = run[k] := ⟨_, rfl⟩
    rw [← hx] at hget hx0 hNk hst hall2
    clear hx
    have hG : tfGood x = ((decide (0 ≤ x.t) && decide (x.t ≤ 23)) && !decide (x.tm > 999999)) := rfl
    have hwi := within_spec x.t 0 23
    obtain ⟨q, hq⟩ : ∃ q, q = (decide (0 ≤ x.t) && decide (x.t ≤ 23)) := ⟨_, rfl⟩
    rw [← hq] at hwi hG
    refine AC.region ?_
    refine AL.p (by exact g_ia_view rfl rfl rfl rfl rfl (by rfl) (by assumption)) rfl ?_
    refine AL.p (by exact g_load_refN rfl rfl rfl rfl) rfl ?_
    refine AL.q (by exact h_alloc rfl) rfl ?_
    refine AL.q (by exact h_store rfl rfl rfl rfl rfl rfl) rfl ?_
    refine AL.nil (th_n (AC.seq (AC.seq (AC.region ?_))))
    refine AL.p (by exact g_fa_ptr rfl rfl rfl rfl rfl) rfl ?_
    refine AL.p (by exact g_load_ptr rfl rfl rfl rfl rfl) rfl ?_
    refine AL.q (by exact h_pure en_within rfl rfl (by repeat (first | exact rfl | exact DLead.same | refine ⟨_, _, rfl, ?_, ?_⟩)) hwi rfl) rfl ?_
    refine AL.p (by exact g_not rfl) rfl ?_
    refine AL.p (by exact mv1 rfl) rfl ?_
    refine AL.caseGB rfl rfl (fun h2 => ?_) (fun h2 => ?_)
    ·refine AL.not rfl rfl rfl rfl rfl ?_
     refine AL.not rfl rfl rfl rfl rfl ?_
     refine AL.not rfl rfl rfl rfl rfl ?_
     refine AL.p (by exact g_pickT (r := .d _) rfl rfl) rfl ?_
     refine AL.nil (th_n ?_)
     refine AC.condT rfl ?_
     refine AC.seq (AC.region ?_)
     refine AL.p (by exact as1 rfl) rfl ?_
     refine AL.p (by exact as1 rfl) rfl ?_
     refine AL.nil (th_n (AC.ret (th_r (ib_r (th_r (th_r (ib_r (th_r (bq_r ?_)))))))))
     have e : G = ([], false) := hNk (by rw [hG]; rw [show q = false by simpa using ‹(!q) = true›]; rfl)
     exact ret2 rfl (by rw [e]; rfl) (by rw [e])
    ·refine AL.yes rfl rfl rfl ?_
     refine AL.p (by exact g_fa_ptr rfl rfl rfl rfl rfl) rfl ?_
     refine AL.yes rfl rfl rfl ?_
     refine AL.p (by exact g_load_ptr rfl rfl rfl rfl rfl) rfl ?_
     refine AL.yes rfl rfl rfl ?_
     refine AL.p (by exact g_cmp rfl rfl rfl) rfl ?_
     refine AL.p (by exact g_pickF (r := .d _) rfl rfl) rfl ?_
     refine AL.nil (th_n ?_)
     refine AC.condD rfl (fun h3 => ?_) (fun h3 => ?_)
     ·refine AC.seq (AC.region ?_)
      refine AL.p (by exact as1 rfl) rfl ?_
      refine AL.p (by exact as1 rfl) rfl ?_
      refine AL.nil (th_n (AC.ret (th_r (ib_r (th_r (th_r (ib_r (th_r (bq_r ?_)))))))))
      have e : G = ([], false) := hNk (by rw [hG]; rw [decide_eq_true ‹x.tm > 999999›]; simp)
      exact ret2 rfl (by rw [e]; rfl) (by rw [e])
     ·refine AC.skip (th_n ?_)
      have hgd : tfGood x = true := by rw [hG, show q = true by simpa using ‹(!q) = false›, decide_eq_false ‹¬ x.tm > 999999›]; rfl
      have hin := tfGood_in hgd
      have hN1 := itoaI_spec x.tm (by omega)
      have hN2 := itoaI_spec x.t (by omega)
      have hl1 := numN_len (n := x.tm) (by omega)
      have hl2 := numN_len (n := x.t) (by omega)
      have hW : tfW x = [64] ++ numN x.tm ++ [32] ++ numN x.t := rfl
      have hall3 := hall2 hgd
      rw [hW] at hst
      refine AC.weak (Weak.freezeRef (ds := tfD x) 6 rfl rfl) ?_
      refine Inv.AC.drawn' mixed_ok [[], [], [1], [1,2], [1,2,3], [1,2,3,4], [], [6], [1,2,3,6,7], [1,2,3,4,5,6,7,8], [1,2,3,4,5,6,7,8,9], [0,1,2,3,4,5,6,7,8,9,10], [0,1,2,3,4,5,6,7,8,9,10,11]] (by decide) ?_
      refine Inv.DF.op 0 [] 13 rfl rfl rfl (.free rfl (NOp.toC (NOp.of (by exact mv2 rfl)))) rfl ?_
      refine Inv.DF.op 1 [] 13 rfl rfl rfl (.free rfl (NOp.toC (NOp.of (by exact g_fa_ref rfl rfl rfl rfl rfl rfl)))) rfl ?_
      refine Inv.DF.op 2 [1] 13 rfl rfl rfl (.free rfl (NOp.toC (NOp.of (by exact g_load_ref rfl rfl rfl)))) rfl ?_
      refine Inv.DF.op 3 [1,2] 13 rfl rfl rfl (.free rfl (by exact h_pureI hI en_itoa rfl rfl (by repeat (first | exact rfl | exact DLead.same | refine ⟨_, _, rfl, ?_, ?_⟩)) hN1 rfl)) rfl ?_
      refine Inv.DF.op 4 [1,2,3] 13 rfl rfl rfl (.free rfl (NOp.toC (NOp.of (by exact g_saddB (a := [64]) (b := numN x.tm) rfl rfl (by simp only [List.length_append, List.length_cons, List.length_nil]; omega))))) rfl ?_
      refine Inv.DF.op 5 [1,2,3,4] 13 rfl rfl rfl (.free rfl (NOp.toC (NOp.of (by exact g_saddB (a := [64] ++ numN x.tm) (b := [32]) rfl rfl (by simp only [List.length_append, List.length_cons, List.length_nil]; omega))))) rfl ?_
      refine Inv.DF.op 6 [] 13 rfl rfl rfl (.free rfl (NOp.toC (NOp.of (by exact g_fa_ref rfl rfl rfl rfl rfl rfl)))) rfl ?_
      refine Inv.DF.op 7 [6] 13 rfl rfl rfl (.free rfl (NOp.toC (NOp.of (by exact g_load_ref rfl rfl rfl)))) rfl ?_
      refine Inv.DF.op 8 [1,2,3,6,7] 13 rfl rfl rfl (.free rfl (by exact h_pureI hI en_itoa rfl rfl (by repeat (first | exact rfl | exact DLead.same | refine ⟨_, _, rfl, ?_, ?_⟩)) hN2 rfl)) rfl ?_
      refine Inv.DF.op 9 [1,2,3,4,5,6,7,8] 13 rfl rfl rfl (.free rfl (NOp.toC (NOp.of (by exact g_saddB (a := [64] ++ numN x.tm ++ [32]) (b := numN x.t) rfl rfl (by simp only [List.length_append, List.length_cons, List.length_nil]; omega))))) rfl ?_
      refine Inv.DF.op 10 [1,2,3,4,5,6,7,8,9] 13 rfl rfl rfl (.free rfl (NOp.toC (by exact h_litF rfl rfl rfl rfl rfl rfl rfl rfl))) rfl ?_
      refine Inv.DF.op 11 (List.range 11) 13 rfl rfl rfl (.free rfl (NOp.toC (by exact h_appendTx ((run.map tfW).take k) [[64] ++ numN x.tm ++ [32] ++ numN x.t] (.own rfl rfl (txL_len _).symm) (.view rfl) (by rw [List.length_append, htl]; simp only [List.length_cons, List.length_nil]; omega) (by simp)))) rfl ?_
      refine Inv.DF.op 12 (List.range 12) 13 rfl rfl rfl (.free rfl (NOp.toC (NOp.of (by exact as2 rfl)))) rfl ?_
      refine Inv.DF.fin (ps := [(0,1),(0,2),(0,3),(0,4),(0,5),(0,6),(0,7),(0,8),(0,9),(0,10),(1,0),(1,6),(1,7),(2,0),(2,6),(2,7),(3,0),(3,6),(3,7),(4,0),(4,6),(4,7),(4,8),(5,0),(5,6),(5,7),(5,8),(6,0),(6,1),(6,2),(6,3),(6,4),(6,5),(7,0),(7,1),(7,2),(7,3),(7,4),(7,5),(8,0),(8,4),(8,5),(9,0),(10,0)]) 13 rfl (by decide +kernel) (by decide +kernel) (by rfl) ?_
      refine ib_n (th_n (AC.region ?_))
      refine AL.p (by exact g_arith rfl rfl rfl (by exact wrap_i64 (by omega))) rfl ?_
      refine AL.p (by exact mv1 rfl) rfl ?_
      refine AL.nil (th_n ?_)
      exact ⟨k + 1, ⟨by omega, hall3⟩, by omega, Weak.ren _ [(100, _)] hC rfl (by rw [hst]; repeat (first | exact True.intro | refine And.intro ?_ ?_ | exact DLead.same | exact rfl | refine ⟨_, rfl, ?_⟩)) (by rw [hst]; repeat (first | exact True.intro | refine And.intro ?_ ?_ | exact rfl | refine ⟨_, _, rfl, rfl, ?_⟩)) rfl rfl rfl⟩
   ·refine AC.exit (th_e (th_e (ib_y (th_n (AC.seq ?_)))))
    have hkk : k = run.length := by omega
    subst hkk
    rw [show (run.map tfW).take run.length = run.map tfW from List.take_of_length_le (by simp)]
    rw [show (run.map tfW).take run.length = run.map tfW from List.take_of_length_le (by simp)] at hjl
    have hJ := sJoinA_spec (run.map tfW) [59, 32] (by rw [List.length_map]; omega) (by omega)
    refine AC.weak (Weak.freeze (i := 4) rfl rfl (Nat.le_of_eq (txL_len _).symm) (by rw [List.take_of_length_le (by simp)])) ?_
    refine AC.region ?_
    refine AL.p (by exact mv1 rfl) rfl ?_
    refine AL.q (by exact h_pure en_sJoin rfl rfl (by repeat (first | exact rfl | exact DLead.same | refine ⟨_, _, rfl, ?_, ?_⟩)) hJ rfl) rfl ?_
    refine AL.p (by exact as1 rfl) rfl ?_
    refine AL.p (by exact as1 rfl) rfl ?_
    refine AL.nil (th_n (AC.ret (bq_r ?_)))
    have e : G = (Lib.join (run.map tfW) [59, 32], true) := hR.trans (if_pos (by rw [q1, List.all_eq_true.2 (fun x hx => by obtain ⟨j, hj, rfl⟩ := List.getElem_of_mem hx; exact hall j hj hj)]; rfl))
    exact ret2 rfl (by rw [e]) (by rw [e])
theorem en_iFmtTR : Enters Tryz.prog 11 := enters_of Tryz.func11 rfl rfl
set_option maxHeartbeats 8000000 in
theorem sDrawTR_own (code : List UInt8) : ∃ (s : Stg) (l : List Dl) (run : List Tf), StgS s ∧ (l.length ≤ 20 ∧ dlIn l) ∧ (run.length ≤ 60 ∧ ∀ x, x ∈ run → -1000000 ≤ x.tm ∧ x.tm ≤ 1000000 ∧ -1000000 ≤ x.t ∧ x.t ≤ 1000000) ∧ ASpec Tryz.prog 51 [.d (vB code)] [] (Fun1 (.tup [stgA s, .d (vDls l), .own 0 run.length]) [(0, .arr 46 2 (tfL run))]) := by
 have hp0 : (cur0 code).pos = 0 := rfl
 have hA := anyStg_spec (cur0 code) (by omega)
 have hi := anyI_in (cur0 code)
 obtain ⟨A, hAA⟩ : ∃ A, A = anyI (cur0 code) := ⟨_, rfl⟩
 rw [← hAA] at hA hi
 have htl := hi.1.tl
 have hD := curDelays_spec A.1 A.2 (by omega) (by omega)
 have hDi := dlyI_in A.1.net.ts.length A.2
 obtain ⟨D, hDD⟩ : ∃ D, D = dlyI A.1.net.ts.length A.2 := ⟨_, rfl⟩
 rw [← hDD] at hD hDi
 have hR := curDraws_spec D.2 (by omega)
 have hRi := drwI_in D.2
 obtain ⟨R, hRR⟩ : ∃ R, R = drwI D.2 := ⟨_, rfl⟩
 rw [← hRR] at hR hRi
 have hS := sSim_spec A.1 D.1 R.1 hi.1.B ⟨by omega, fun x hx => by have := hDi.2.1 x hx; omega⟩ (by omega)
 have hSi := simR_in (s := A.1) (l := D.1) (ds := R.1) hi.1.B
 obtain ⟨S, hSS⟩ : ∃ S, S = simR A.1 D.1 R.1 := ⟨_, rfl⟩
 rw [← hSS] at hS hSi
 obtain ⟨run, m, ok⟩ := S
 dsimp only at hS hSi
 have hK1 := pick_spec R.2 run.length (by omega) (by omega)
 have hKi : 0 < run.length → 0 ≤ (R.2.pick run.length).1 ∧ (R.2.pick run.length).1 < run.length := fun h => R.2.pick_in run.length (by omega)
 have p1 := R.2.pick_pos run.length
 obtain ⟨i, hiE⟩ : ∃ i, i = R.2.pick run.length := ⟨_, rfl⟩
 rw [← hiE] at hK1 hKi p1
 have p2 := i.2.pick_pos 5
 have hK2 := pick_spec i.2 5 (by decide) (by omega)
 obtain ⟨q, hq⟩ : ∃ q, q = i.2.pick 5 := ⟨_, rfl⟩
 rw [← hq] at p2 hK2
 have hA1 := among_spec q.2 [1, -1, 30] (by decide) (by decide) (by omega)
 have hK3 := pick_spec q.2 9 (by decide) (by omega)
 have h9 := q.2.pick_in 9 (by decide)
 have ham : -1 ≤ ([1, -1, 30] : List Int).getD (q.2.pick ([1, -1, 30] : List Int).length).1.toNat 0 ∧ ([1, -1, 30] : List Int).getD (q.2.pick ([1, -1, 30] : List Int).length).1.toNat 0 ≤ 30 := getD_bd (by decide) (by decide) _
 obtain ⟨am, hamE⟩ : ∃ am, am = ([1, -1, 30] : List Int).getD (q.2.pick ([1, -1, 30] : List Int).length).1.toNat 0 := ⟨_, rfl⟩
 rw [← hamE] at ham hA1
 obtain ⟨out, hout⟩ : ∃ out : List Tf, out = if 0 < run.length then (if q.1 = 0 then run.set i.1.toNat ⟨(fAt run i.1.toNat).tm + am, (fAt run i.1.toNat).t⟩ else if q.1 = 1 then run.set i.1.toNat ⟨(fAt run i.1.toNat).tm, (q.2.pick 9).1 - 1⟩ else run) else run := ⟨_, rfl⟩
 have hfi : -100000 ≤ (fAt run i.1.toNat).tm ∧ (fAt run i.1.toNat).tm ≤ 100000 ∧ -100000 ≤ (fAt run i.1.toNat).t ∧ (fAt run i.1.toNat).t ≤ 100000 := by
  unfold fAt
  rw [List.getD_eq_getElem?_getD]
  cases e : run[i.1.toNat]? with
  | none => decide
  | some x => exact hSi.1 x (List.mem_of_getElem? e)
 have hoi : out.length = run.length ∧ ∀ x, x ∈ out → -1000000 ≤ x.tm ∧ x.tm ≤ 1000000 ∧ -1000000 ≤ x.t ∧ x.t ≤ 1000000 := by
  have hset : ∀ y : Tf, (-1000000 ≤ y.tm ∧ y.tm ≤ 1000000 ∧ -1000000 ≤ y.t ∧ y.t ≤ 1000000) → (run.set i.1.toNat y).length = run.length ∧ ∀ x, x ∈ run.set i.1.toNat y → -1000000 ≤ x.tm ∧ x.tm ≤ 1000000 ∧ -1000000 ≤ x.t ∧ x.t ≤ 1000000 := fun y hy => ⟨List.length_set .., fun x hx => by
   rcases List.mem_or_eq_of_mem_set hx with hx | rfl
   ·have := hSi.1 x hx; omega
   ·exact hy⟩
  have hrun : run.length = run.length ∧ ∀ x, x ∈ run → -1000000 ≤ x.tm ∧ x.tm ≤ 1000000 ∧ -1000000 ≤ x.t ∧ x.t ≤ 1000000 := ⟨rfl, fun x hx => by have := hSi.1 x hx; omega⟩
  rw [hout]
  split
  ·split
   ·exact hset _ (by dsimp only; omega)
   ·split
    ·exact hset _ (by dsimp only; omega)
    ·exact hrun
  ·exact hrun
 refine ⟨A.1, D.1, out, hi.1, ⟨by omega, hDi.2.1⟩, ⟨by omega, hoi.2⟩, ?_⟩
 have hrl := hSi.2
 refine ASpec.of Tryz.func51 rfl rfl fun C hC => ?_
 refine AC.seq (AC.region ?_)
 refine AL.q (by exact h_alloc rfl) rfl ?_
 refine AL.p (by exact as1 rfl) rfl ?_
 refine AL.p (by exact as1 rfl) rfl ?_
 refine AL.nil (th_n (AC.seq (AC.region ?_)))
 refine AL.p (by exact mv1 rfl) rfl ?_
 refine AL.p (by exact g_build rfl rfl rfl) rfl ?_
 refine AL.q (by exact h_box rfl) rfl ?_
 refine AL.p (by exact as3 rfl) rfl ?_
 refine AL.nil (th_n (AC.seq (AC.region ?_)))
 refine AL.p (by exact mv3 rfl) rfl ?_
 refine AL.q (by exact h_fun (cs := [8]) en_anyStg rfl rfl (by repeat (first | exact rfl | refine ⟨_, _, rfl, ?_, ?_⟩ | refine ⟨_, rfl, ?_⟩)) (by repeat (first | exact True.intro | refine And.intro ?_ ?_ | exact DLead.same | exact rfl | refine ⟨_, _, rfl, rfl, ?_⟩ | refine ⟨_, rfl, ?_⟩ | refine ⟨_, _, rfl, ?_, ?_⟩)) hA rfl rfl rfl rfl) rfl ?_
 refine AL.weak (Weak.freezeA (i := 16) (k := 2) rfl rfl rfl (ownl _ _) (ownt _ _)) ?_
 refine AL.q (by exact h_alloc rfl) rfl ?_
 refine AL.q (by exact h_store rfl rfl rfl rfl rfl rfl) rfl ?_
 refine AL.nil (th_n (AC.seq (AC.region ?_)))
 refine AL.p (by exact mv3 rfl) rfl ?_
 refine AL.p (by exact g_load_ptrN rfl rfl rfl rfl rfl) rfl ?_
 refine AL.q (by exact h_fun (cs := [8]) en_curDelays rfl rfl (by repeat (first | exact rfl | exact DLead.same | refine ⟨_, _, rfl, ?_, ?_⟩ | refine ⟨_, rfl, ?_⟩)) (by repeat (first | exact True.intro | refine And.intro ?_ ?_ | exact DLead.same | exact rfl | refine ⟨_, _, rfl, rfl, ?_⟩ | refine ⟨_, rfl, ?_⟩ | refine ⟨_, _, rfl, ?_, ?_⟩)) hD rfl rfl rfl rfl) rfl ?_
 refine AL.p (by exact as1 rfl) rfl ?_
 refine AL.nil (th_n ?_)
 refine AC.cut (fun (_ : Unit) => ⟨63, 600, [(2, .ptr 200 0), (5, .ptr 202 0), (6, .ptr 201 0), (7, .d (vDls D.1)), (8, .own 100 run.length)], [(200, some (.cells 29 zStg)), (201, some (.cells 29 [aI A.1.net.places, .d (vTs A.1.net.ts), .d (vSigs A.1.sigs), .d (vLabs A.1.labs), aS (bstr A.1.start)])), (202, some (curC R.2)), (100, some (.arr 46 2 (tfL run)))]⟩) (fun _ => True) ?_ ?_
 ·refine AC.drawn' mixed_ok [[], [], [], [2], [0,1,2,3], [0,1,2,3,4], [0,1,2,3,4,5], [0,1,2,3,4,5], [0,1,2,3,4,5], [0,1,2,3,4,5,6], [0,1,2,3,4,5,6,7,9], [0,1,2,3,4,5,6,7,8,9,10]] (by decide) ?_
  refine DF.op 0 [] 12 rfl rfl rfl (.free rfl (NOp.of (by exact g_load_ptrN rfl rfl rfl rfl rfl))) rfl ?_
  refine DF.op 1 [] 12 rfl rfl rfl (.free rfl (NOp.of (by exact mv1 rfl))) rfl ?_
  refine DF.op 2 [] 12 rfl rfl rfl (.free rfl (NOp.of (by exact mv3 rfl))) rfl ?_
  refine DF.op 3 [2] 12 rfl rfl rfl (.free rfl (by exact h_fun (cs := [8]) en_curDraws rfl rfl (by repeat (first | exact rfl | refine ⟨_, _, rfl, ?_, ?_⟩ | refine ⟨_, rfl, ?_⟩)) (by repeat (first | exact True.intro | refine And.intro ?_ ?_ | exact DLead.same | exact rfl | refine ⟨_, _, rfl, rfl, ?_⟩ | refine ⟨_, rfl, ?_⟩ | refine ⟨_, _, rfl, ?_, ?_⟩)) hR rfl rfl rfl rfl)) rfl ?_
  refine DF.op 4 [0,1,2,3] 12 rfl rfl rfl (.free rfl (by exact h_fun (cs := []) en_sSim rfl rfl (by repeat (first | exact rfl | exact DLead.same | refine ⟨_, _, rfl, ?_, ?_⟩ | refine ⟨_, rfl, ?_⟩)) (by repeat (exact True.intro)) hS rfl rfl rfl rfl)) rfl ?_
  refine DF.op 5 [0,1,2,3,4] 12 rfl rfl rfl (.free rfl (NOp.of (by exact mv5 rfl))) rfl ?_
  refine DF.op 6 [0,1,2,3,4,5] 12 rfl rfl rfl (.free rfl (NOp.of (by exact g_extract (r := .own _ _) rfl rfl))) rfl ?_
  refine DF.op 7 [0,1,2,3,4,5] 12 rfl rfl rfl (.free rfl (NOp.of (by exact g_extract (r := .d _) rfl rfl))) rfl ?_
  refine DF.op 8 [0,1,2,3,4,5] 12 rfl rfl rfl (.free rfl (NOp.of (by exact g_extract (r := .d _) rfl rfl))) rfl ?_
  refine DF.op 9 [0,1,2,3,4,5,6] 12 rfl rfl rfl (.free rfl (NOp.of (by exact as2 rfl))) rfl ?_
  refine DF.op 10 [0,1,2,3,4,5,6,7,9] 12 rfl rfl rfl (.free rfl (NOp.of (by exact as1 rfl))) rfl ?_
  refine DF.op 11 (List.range 11) 12 rfl rfl rfl (.free rfl (NOp.of (by exact as1 rfl))) rfl ?_
  refine DF.fin (ps := [(0,1),(0,2),(0,3),(1,0),(1,2),(1,3),(2,0),(2,1),(3,0),(3,1),(6,7),(6,8),(7,6),(7,8),(7,9),(8,6),(8,7),(8,9),(8,10),(9,7),(9,8),(10,8)]) 12 rfl (by decide +kernel) (by decide +kernel) (by rfl) ?_
  refine th_n ?_
  exact ⟨(), trivial, Weak.ren _ [(200, 0), (201, _), (202, 8), (100, _)] hC rfl (by repeat (first | exact True.intro | refine And.intro ?_ ?_ | exact DLead.same | exact rfl | refine ⟨_, rfl, ?_⟩)) (by repeat (first | exact True.intro | refine And.intro ?_ ?_ | exact DLead.same | exact rfl | refine ⟨_, _, rfl, rfl, ?_⟩ | refine ⟨_, rfl, ?_⟩ | refine ⟨_, _, rfl, ?_, ?_⟩)) rfl rfl rfl⟩
 ·intro _ _
  refine AC.cut (fun (_ : Unit) => ⟨63, 900, [(2, .ptr 200 0), (6, .ptr 201 0), (7, .d (vDls D.1)), (8, .own 100 out.length)], [(200, some (.cells 29 zStg)), (201, some (.cells 29 [aI A.1.net.places, .d (vTs A.1.net.ts), .d (vSigs A.1.sigs), .d (vLabs A.1.labs), aS (bstr A.1.start)])), (100, some (.arr 46 2 (tfL out)))]⟩) (fun _ => True) ?_ ?_
  ·refine AC.seq (AC.region ?_)
   refine AL.p (by exact mv2 rfl) rfl ?_
   refine AL.p (by exact g_len_own (sz := 1) (els := []) (e' := 0) rfl rfl (by simp only [maxLen]; omega)) rfl ?_
   refine AL.p (by exact g_cmp rfl rfl rfl) rfl ?_
   refine AL.nil (th_n ?_)
   refine AC.condD rfl (fun h0 => ?_) (fun h0 => ?_)
   ·refine AC.seq ?_
    have hii := hKi (by omega)
    have hI2 : i.1 = ((i.1.toNat : Nat) : Int) := by omega
    have hlt : i.1.toNat < run.length := by omega
    have hrow := tfLA_get hlt
    have hoy := hout.trans (if_pos (by omega))
    have hs1 : (tfL run).set i.1.toNat ([dI (fAt run i.1.toNat).tm, dI (fAt run i.1.toNat).t].set 0 (dI ((fAt run i.1.toNat).tm + am))) = tfL (run.set i.1.toNat ⟨(fAt run i.1.toNat).tm + am, (fAt run i.1.toNat).t⟩) := tfL_set _ _ ⟨(fAt run i.1.toNat).tm + am, (fAt run i.1.toNat).t⟩
    have hs2 : (tfL run).set i.1.toNat ([dI (fAt run i.1.toNat).tm, dI (fAt run i.1.toNat).t].set 1 (dI ((q.2.pick 9).1 - 1))) = tfL (run.set i.1.toNat ⟨(fAt run i.1.toNat).tm, (q.2.pick 9).1 - 1⟩) := tfL_set _ _ ⟨(fAt run i.1.toNat).tm, (q.2.pick 9).1 - 1⟩
    refine AC.region ?_
    refine AL.p (by exact mv2 rfl) rfl ?_
    refine AL.p (by exact mv3 rfl) rfl ?_
    refine AL.p (by exact mv2 rfl) rfl ?_
    refine AL.p (by exact g_len_own (sz := 1) (els := []) (e' := 0) rfl rfl (by simp only [maxLen]; omega)) rfl ?_
    refine AL.q (by exact h_fun (cs := [202]) en_pick rfl rfl (by repeat (first | exact rfl | exact DLead.same | refine ⟨_, _, rfl, ?_, ?_⟩ | refine ⟨_, rfl, ?_⟩)) (by repeat (first | exact True.intro | refine And.intro ?_ ?_ | exact DLead.same | exact rfl | refine ⟨_, _, rfl, rfl, ?_⟩ | refine ⟨_, rfl, ?_⟩ | refine ⟨_, _, rfl, ?_, ?_⟩)) hK1 rfl rfl rfl rfl) rfl ?_
    refine AL.p (by exact g_ia_own (i := i.1.toNat) (l := run.length) rfl rfl rfl rfl rfl hI2 hlt rfl) rfl ?_
    refine AL.p (by exact as3 rfl) rfl ?_
    refine AL.nil (th_n (AC.seq (AC.region ?_)))
    refine AL.p (by exact mv3 rfl) rfl ?_
    refine AL.q (by exact h_fun (cs := [202]) en_pick rfl rfl (by repeat (first | exact rfl | exact DLead.same | refine ⟨_, _, rfl, ?_, ?_⟩ | refine ⟨_, rfl, ?_⟩)) (by repeat (first | exact True.intro | refine And.intro ?_ ?_ | exact DLead.same | exact rfl | refine ⟨_, _, rfl, rfl, ?_⟩ | refine ⟨_, rfl, ?_⟩ | refine ⟨_, _, rfl, ?_, ?_⟩)) hK2 rfl rfl rfl rfl) rfl ?_
    refine AL.nil (th_n (AC.block (AC.seq (AC.region ?_))))
    refine AL.p (by exact g_cmp rfl rfl rfl) rfl ?_
    refine AL.p (by exact as1 rfl) rfl ?_
    refine AL.nil (th_n ?_)
    refine AC.condD rfl (fun h1 => ?_) (fun h1 => ?_)
    ·refine AC.drawn' mixed_ok [[], [0], [0,1], [0,1,2], [], [], [4,5], [0,1,2,3,4,5,6], [0,1,2,3,4,5,6,7], [0,1,2,3,4,5,6,7,8], [0,1,2,3,4,5,6,7,8,9]] (by decide) ?_
     refine DF.op 0 [] 11 rfl rfl rfl (.free rfl (NOp.of (by exact mv3 rfl))) rfl ?_
     refine DF.op 1 [0] 11 rfl rfl rfl (.free rfl (NOp.of (by exact g_nilP rfl))) rfl ?_
     refine DF.op 2 [0,1] 11 rfl rfl rfl (.free rfl (NOp.of (by exact g_fa_ptr rfl rfl rfl rfl rfl))) rfl ?_
     refine DF.op 3 [0,1,2] 11 rfl rfl rfl (.free rfl (NOp.of (by exact g_load_arr (i := i.1.toNat) (j := 0) rfl rfl rfl rfl rfl hrow rfl))) rfl ?_
     refine DF.op 4 [] 11 rfl rfl rfl (.free rfl (NOp.of (by exact mv3 rfl))) rfl ?_
     refine DF.op 5 [] 11 rfl rfl rfl (.free rfl (by exact h_litF rfl rfl rfl rfl rfl rfl rfl rfl)) rfl ?_
     refine DF.op 6 [4,5] 11 rfl rfl rfl (.free rfl (by exact h_fun (cs := [202]) en_among rfl rfl (by repeat (first | exact rfl | exact DLead.same | refine ⟨_, _, rfl, ?_, ?_⟩ | refine ⟨_, rfl, ?_⟩)) (by repeat (first | exact True.intro | refine And.intro ?_ ?_ | exact DLead.same | exact rfl | refine ⟨_, _, rfl, rfl, ?_⟩ | refine ⟨_, rfl, ?_⟩ | refine ⟨_, _, rfl, ?_, ?_⟩)) hA1 rfl rfl rfl rfl)) rfl ?_
     refine DF.op 7 [0,1,2,3,4,5,6] 11 rfl rfl rfl (.free rfl (NOp.of (by exact g_arith rfl rfl rfl (by exact wrap_i64 (by omega))))) rfl ?_
     refine DF.op 8 [0,1,2,3,4,5,6,7] 11 rfl rfl rfl (.free rfl (NOp.of (by exact g_nilP rfl))) rfl ?_
     refine DF.op 9 (List.range 9) 11 rfl rfl rfl (.free rfl (NOp.of (by exact g_fa_ptr rfl rfl rfl rfl rfl))) rfl ?_
     refine DF.op 10 (List.range 10) 11 rfl rfl rfl (.free rfl (by exact h_store_arr (i := i.1.toNat) (j := 0) (d := dI ((fAt run i.1.toNat).tm + am)) rfl rfl rfl rfl .same rfl hrow (by decide))) rfl ?_
     refine DF.fin (ps := [(0,4),(0,5),(0,6),(1,4),(1,5),(1,6),(2,4),(2,5),(2,6),(3,4),(3,5),(3,6),(4,0),(4,1),(4,2),(4,3),(4,5),(5,0),(5,1),(5,2),(5,3),(5,4),(6,0),(6,1),(6,2),(6,3)]) 11 rfl (by decide +kernel) (by decide +kernel) (by rfl) ?_
     refine ib_n (th_n ?_)
     (have e := hoy.trans (if_pos h1); exact ⟨(), trivial, Weak.ren _ [(200, 200), (201, 201), (100, 100)] hC rfl (by rw [hoi.1]; repeat (first | exact True.intro | refine And.intro ?_ ?_ | exact DLead.same | exact rfl | refine ⟨_, rfl, ?_⟩)) (by rw [e, ← hs1]; repeat (first | exact True.intro | refine And.intro ?_ ?_ | exact DLead.same | exact rfl | refine ⟨_, _, rfl, rfl, ?_⟩ | refine ⟨_, rfl, ?_⟩ | refine ⟨_, _, rfl, ?_, ?_⟩)) rfl rfl rfl⟩)
    ·refine AC.seq (AC.region ?_)
     refine AL.p (by exact g_cmp rfl rfl rfl) rfl ?_
     refine AL.p (by exact as1 rfl) rfl ?_
     refine AL.nil (th_n ?_)
     refine AC.condD rfl (fun h2 => ?_) (fun h2 => ?_)
     ·refine AC.region ?_
      refine AL.p (by exact mv3 rfl) rfl ?_
      refine AL.p (by exact mv3 rfl) rfl ?_
      refine AL.q (by exact h_fun (cs := [202]) en_pick rfl rfl (by repeat (first | exact rfl | exact DLead.same | refine ⟨_, _, rfl, ?_, ?_⟩ | refine ⟨_, rfl, ?_⟩)) (by repeat (first | exact True.intro | refine And.intro ?_ ?_ | exact DLead.same | exact rfl | refine ⟨_, _, rfl, rfl, ?_⟩ | refine ⟨_, rfl, ?_⟩ | refine ⟨_, _, rfl, ?_, ?_⟩)) hK3 rfl rfl rfl rfl) rfl ?_
      refine AL.p (by exact g_arith rfl rfl rfl (by exact wrap_i64 (by omega))) rfl ?_
      refine AL.p (by exact g_nilP rfl) rfl ?_
      refine AL.p (by exact g_fa_ptr rfl rfl rfl rfl rfl) rfl ?_
      refine AL.q (by exact h_store_arr (i := i.1.toNat) (j := 1) (d := dI ((q.2.pick 9).1 - 1)) rfl rfl rfl rfl .same rfl hrow (by decide)) rfl ?_
      refine AL.nil (ib_n (th_n ?_))
      (have e := hoy.trans ((if_neg h1).trans (if_pos h2)); exact ⟨(), trivial, Weak.ren _ [(200, 200), (201, 201), (100, 100)] hC rfl (by rw [hoi.1]; repeat (first | exact True.intro | refine And.intro ?_ ?_ | exact DLead.same | exact rfl | refine ⟨_, rfl, ?_⟩)) (by rw [e, ← hs2]; repeat (first | exact True.intro | refine And.intro ?_ ?_ | exact DLead.same | exact rfl | refine ⟨_, _, rfl, rfl, ?_⟩ | refine ⟨_, rfl, ?_⟩ | refine ⟨_, _, rfl, ?_, ?_⟩)) rfl rfl rfl⟩)
     ·refine AC.skip (ib_n (th_n ?_))
      (have e := hoy.trans ((if_neg h1).trans (if_neg h2)); exact ⟨(), trivial, Weak.ren _ [(200, 200), (201, 201), (100, 100)] hC rfl (by rw [hoi.1]; repeat (first | exact True.intro | refine And.intro ?_ ?_ | exact DLead.same | exact rfl | refine ⟨_, rfl, ?_⟩)) (by rw [e]; repeat (first | exact True.intro | refine And.intro ?_ ?_ | exact DLead.same | exact rfl | refine ⟨_, _, rfl, rfl, ?_⟩ | refine ⟨_, rfl, ?_⟩ | refine ⟨_, _, rfl, ?_, ?_⟩)) rfl rfl rfl⟩)
   ·refine AC.skip (th_n ?_)
    (have e := hout.trans (if_neg (by omega)); exact ⟨(), trivial, Weak.ren _ [(200, 200), (201, 201), (100, 100)] hC rfl (by rw [hoi.1]; repeat (first | exact True.intro | refine And.intro ?_ ?_ | exact DLead.same | exact rfl | refine ⟨_, rfl, ?_⟩)) (by rw [e]; repeat (first | exact True.intro | refine And.intro ?_ ?_ | exact DLead.same | exact rfl | refine ⟨_, _, rfl, rfl, ?_⟩ | refine ⟨_, rfl, ?_⟩ | refine ⟨_, _, rfl, ?_, ?_⟩)) rfl rfl rfl⟩)
  ·intro _ _
   refine AC.seq (AC.region ?_)
   refine AL.p (by exact g_load_ptrN rfl rfl rfl rfl rfl) rfl ?_
   refine AL.p (by exact mv1 rfl) rfl ?_
   refine AL.p (by exact mv2 rfl) rfl ?_
   refine AL.q (by exact h_store rfl rfl rfl rfl rfl rfl) rfl ?_
   refine AL.p (by exact as1 rfl) rfl ?_
   refine AL.p (by exact as2 rfl) rfl ?_
   refine AL.nil (th_n (AC.ret (bq_r ?_)))
   exact retN [(0, 100)] rfl (by repeat (first | exact rfl | exact DLead.same | refine ⟨_, _, rfl, ?_, ?_⟩ | refine ⟨_, rfl, ?_⟩)) (by repeat (first | exact True.intro | refine And.intro ?_ ?_ | exact rfl | refine ⟨_, _, rfl, rfl, ?_⟩)) rfl rfl
theorem sDrawEnT_own (code : List UInt8) : ∃ (s : Stg) (run : List Tf), StgS s ∧ (run.length ≤ 60 ∧ tfB run) ∧ ASpec Tryz.prog 24 [.d (vB code)] [] (Fun1 (.tup [stgA s, .own 0 run.length]) [(0, .arr 46 2 (tfL run))]) := by
 obtain ⟨s, l, run, h1, h2, h3, hD⟩ := sDrawTR_own code
 refine ⟨s, run, h1, h3, ?_⟩
 refine ASpec.of Tryz.func24 rfl rfl fun C hC => ?_
 refine AC.seq (AC.region ?_)
 refine AL.q (by exact h_alloc rfl) rfl ?_
 refine AL.p (by exact as1 rfl) rfl ?_
 refine AL.nil (th_n (AC.seq (AC.region ?_)))
 refine AL.p (by exact mv1 rfl) rfl ?_
 refine AL.q (by exact h_fun (cs := []) en_sDrawTR rfl rfl (by repeat (first | exact rfl | exact DLead.same | refine ⟨_, _, rfl, ?_, ?_⟩)) (by repeat (exact True.intro)) hD rfl rfl rfl rfl) rfl ?_
 refine AL.p (by exact mv5 rfl) rfl ?_
 refine AL.p (by exact g_extract (r := .agg _) rfl rfl) rfl ?_
 refine AL.p (by exact g_extract (r := .d _) rfl rfl) rfl ?_
 refine AL.p (by exact g_extract (r := .own _ _) rfl rfl) rfl ?_
 refine AL.q (by exact h_alloc rfl) rfl ?_
 refine AL.q (by exact h_store rfl rfl rfl rfl rfl rfl) rfl ?_
 refine AL.p (by exact as1 rfl) rfl ?_
 refine AL.p (by exact as2 rfl) rfl ?_
 refine AL.nil (th_n (AC.seq (AC.region ?_)))
 refine AL.p (by exact g_load_ptrN rfl rfl rfl rfl rfl) rfl ?_
 refine AL.p (by exact mv2 rfl) rfl ?_
 refine AL.q (by exact h_store rfl rfl rfl rfl rfl rfl) rfl ?_
 refine AL.p (by exact as2 rfl) rfl ?_
 refine AL.nil (th_n (AC.ret (bq_r ?_)))
 exact retN [(0, _)] rfl (by repeat (first | exact rfl | exact DLead.same | refine ⟨_, _, rfl, ?_, ?_⟩ | refine ⟨_, rfl, ?_⟩)) (by repeat (first | exact True.intro | refine And.intro ?_ ?_ | exact rfl | refine ⟨_, _, rfl, rfl, ?_⟩)) rfl rfl
theorem sDrawVis_ex (code : List UInt8) : ∃ (s : Stg) (run : List Tf), StgS s ∧ (run.length ≤ 60 ∧ tfB run) ∧ ASpec Tryz.prog 7 [.d (vB code)] [] (Pure1 (.tup [stgA s, .d (vTfs run)])) := by
 obtain ⟨s, run, h1, h3, hD⟩ := sDrawEnT_own code
 refine ⟨s, run, h1, h3, ?_⟩
 refine ASpec.of Tryz.func7 rfl rfl fun C hC => ?_
 refine AC.seq (AC.region ?_)
 refine AL.q (by exact h_alloc rfl) rfl ?_
 refine AL.p (by exact as1 rfl) rfl ?_
 refine AL.nil (th_n (AC.seq (AC.region ?_)))
 refine AL.p (by exact mv1 rfl) rfl ?_
 refine AL.q (by exact h_fun (cs := []) en_sDrawEnT rfl rfl (by repeat (first | exact rfl | exact DLead.same | refine ⟨_, _, rfl, ?_, ?_⟩)) (by repeat (exact True.intro)) hD rfl rfl rfl rfl) rfl ?_
 refine AL.p (by exact g_extract (r := .agg _) rfl rfl) rfl ?_
 refine AL.p (by exact g_extract (r := .own _ _) rfl rfl) rfl ?_
 refine AL.q (by exact h_store rfl rfl rfl rfl rfl rfl) rfl ?_
 refine AL.p (by exact as2 rfl) rfl ?_
 refine AL.nil (th_n ?_)
 refine AC.weak (Weak.freeze (i := 3) rfl rfl (ownl _ _) (ownt _ _)) ?_
 refine AC.ret (bq_r ?_)
 exact ret0 rfl (by repeat (first | exact DLead.same | exact rfl | refine ⟨_, rfl, ?_⟩ | refine ⟨_, _, rfl, ?_, ?_⟩))
theorem en_sDrawVis : Enters Tryz.prog 7 := enters_of Tryz.func7 rfl rfl
theorem sDrawGap_own (code : List UInt8) : ∃ run : List Tf, (run.length ≤ 60 ∧ tfB run) ∧ ASpec Tryz.prog 29 [.d (vB code)] [] (Fun1 (.own 0 run.length) [(0, .arr 46 2 (tfL run))]) := by
 obtain ⟨s, run, h1, h3, hD⟩ := sDrawEnT_own code
 refine ⟨run, h3, ?_⟩
 refine ASpec.of Tryz.func29 rfl rfl fun C hC => ?_
 refine AC.seq (AC.region ?_)
 refine AL.p (by exact as1 rfl) rfl ?_
 refine AL.nil (th_n (AC.seq (AC.region ?_)))
 refine AL.p (by exact mv1 rfl) rfl ?_
 refine AL.q (by exact h_fun (cs := []) en_sDrawEnT rfl rfl (by repeat (first | exact rfl | exact DLead.same | refine ⟨_, _, rfl, ?_, ?_⟩)) (by repeat (exact True.intro)) hD rfl rfl rfl rfl) rfl ?_
 refine AL.p (by exact mv5 rfl) rfl ?_
 refine AL.p (by exact g_extract (r := .agg _) rfl rfl) rfl ?_
 refine AL.p (by exact g_extract (r := .own _ _) rfl rfl) rfl ?_
 refine AL.q (by exact h_alloc rfl) rfl ?_
 refine AL.q (by exact h_store rfl rfl rfl rfl rfl rfl) rfl ?_
 refine AL.p (by exact as2 rfl) rfl ?_
 refine AL.nil (th_n (AC.seq (AC.region ?_)))
 refine AL.p (by exact mv2 rfl) rfl ?_
 refine AL.p (by exact as2 rfl) rfl ?_
 refine AL.nil (th_n (AC.ret (bq_r ?_)))
 exact retN [(0, _)] rfl (by repeat (first | exact rfl | refine ⟨_, rfl, ?_⟩)) (by repeat (first | exact True.intro | refine And.intro ?_ ?_ | exact rfl | refine ⟨_, _, rfl, rfl, ?_⟩)) rfl rfl
theorem en_sDrawGap : Enters Tryz.prog 29 := enters_of Tryz.func29 rfl rfl
set_option maxHeartbeats 4000000 in
theorem sDrawEarl_ex (code : List UInt8) : ∃ (s : Stg) (l : List Dl) (n : Int), StgS s ∧ (l.length ≤ 20 ∧ dlIn l) ∧ (-1 ≤ n ∧ n ≤ 61) ∧ ASpec Tryz.prog 4 [.d (vB code)] [] (Pure1 (.tup [stgA s, .d (vDls l), aI n])) := by
 have hp0 : (cur0 code).pos = 0 := rfl
 have hA := anyStg_spec (cur0 code) (by omega)
 have hi := anyI_in (cur0 code)
 obtain ⟨A, hAA⟩ : ∃ A, A = anyI (cur0 code) := ⟨_, rfl⟩
 rw [← hAA] at hA hi
 have htl := hi.1.tl
 have hD := curDelays_spec A.1 A.2 (by omega) (by omega)
 have hDi := dlyI_in A.1.net.ts.length A.2
 obtain ⟨D, hDD⟩ : ∃ D, D = dlyI A.1.net.ts.length A.2 := ⟨_, rfl⟩
 rw [← hDD] at hD hDi
 have hN := among_spec D.2 [0, 1, 5, 12, 60, 61, -1] (by decide) (by decide) (by omega)
 have hNi : -1 ≤ ([0, 1, 5, 12, 60, 61, -1] : List Int).getD (D.2.pick ([0, 1, 5, 12, 60, 61, -1] : List Int).length).1.toNat 0 ∧ ([0, 1, 5, 12, 60, 61, -1] : List Int).getD (D.2.pick ([0, 1, 5, 12, 60, 61, -1] : List Int).length).1.toNat 0 ≤ 61 := getD_bd (by decide) (by decide) _
 obtain ⟨n, hn⟩ : ∃ n, n = ([0, 1, 5, 12, 60, 61, -1] : List Int).getD (D.2.pick ([0, 1, 5, 12, 60, 61, -1] : List Int).length).1.toNat 0 := ⟨_, rfl⟩
 rw [← hn] at hN hNi
 refine ⟨A.1, D.1, n, hi.1, ⟨by omega, hDi.2.1⟩, hNi, ?_⟩
 refine ASpec.of Tryz.func4 rfl rfl fun C hC => ?_
 refine AC.seq (AC.region ?_)
 refine AL.q (by exact h_alloc rfl) rfl ?_
 refine AL.p (by exact as1 rfl) rfl ?_
 refine AL.p (by exact as1 rfl) rfl ?_
 refine AL.nil (th_n (AC.seq (AC.region ?_)))
 refine AL.p (by exact mv1 rfl) rfl ?_
 refine AL.p (by exact g_build rfl rfl rfl) rfl ?_
 refine AL.q (by exact h_box rfl) rfl ?_
 refine AL.p (by exact as3 rfl) rfl ?_
 refine AL.nil (th_n (AC.seq (AC.region ?_)))
 refine AL.p (by exact mv3 rfl) rfl ?_
 refine AL.q (by exact h_fun (cs := [8]) en_anyStg rfl rfl (by repeat (first | exact rfl | refine ⟨_, _, rfl, ?_, ?_⟩ | refine ⟨_, rfl, ?_⟩)) (by repeat (first | exact True.intro | refine And.intro ?_ ?_ | exact DLead.same | exact rfl | refine ⟨_, _, rfl, rfl, ?_⟩ | refine ⟨_, rfl, ?_⟩ | refine ⟨_, _, rfl, ?_, ?_⟩)) hA rfl rfl rfl rfl) rfl ?_
 refine AL.weak (Weak.freezeA (i := 12) (k := 2) rfl rfl rfl (ownl _ _) (ownt _ _)) ?_
 refine AL.q (by exact h_alloc rfl) rfl ?_
 refine AL.q (by exact h_store rfl rfl rfl rfl rfl rfl) rfl ?_
 refine AL.nil (th_n (AC.seq (AC.region ?_)))
 refine AL.p (by exact mv3 rfl) rfl ?_
 refine AL.p (by exact g_load_ptrN rfl rfl rfl rfl rfl) rfl ?_
 refine AL.q (by exact h_fun (cs := [8]) en_curDelays rfl rfl (by repeat (first | exact rfl | exact DLead.same | refine ⟨_, _, rfl, ?_, ?_⟩ | refine ⟨_, rfl, ?_⟩)) (by repeat (first | exact True.intro | refine And.intro ?_ ?_ | exact DLead.same | exact rfl | refine ⟨_, _, rfl, rfl, ?_⟩ | refine ⟨_, rfl, ?_⟩ | refine ⟨_, _, rfl, ?_, ?_⟩)) hD rfl rfl rfl rfl) rfl ?_
 refine AL.p (by exact as1 rfl) rfl ?_
 refine AL.nil (th_n (AC.seq ?_))
 refine AC.drawn' mixed_ok [[], [], [], [], [2,3], [0,2,3,4], [0,1,2,3,4,5], [0,1,2,3,4,5,6]] (by decide) ?_
 refine DF.op 0 [] 8 rfl rfl rfl (.free rfl (NOp.of (by exact g_load_ptrN rfl rfl rfl rfl rfl))) rfl ?_
 refine DF.op 1 [] 8 rfl rfl rfl (.free rfl (NOp.of (by exact mv1 rfl))) rfl ?_
 refine DF.op 2 [] 8 rfl rfl rfl (.free rfl (NOp.of (by exact mv3 rfl))) rfl ?_
 refine DF.op 3 [] 8 rfl rfl rfl (.free rfl (by exact h_litF rfl rfl rfl rfl rfl rfl rfl rfl)) rfl ?_
 refine DF.op 4 [2,3] 8 rfl rfl rfl (.free rfl (by exact h_fun (cs := [8]) en_among rfl rfl (by repeat (first | exact rfl | exact DLead.same | refine ⟨_, _, rfl, ?_, ?_⟩ | refine ⟨_, rfl, ?_⟩)) (by repeat (first | exact True.intro | refine And.intro ?_ ?_ | exact DLead.same | exact rfl | refine ⟨_, _, rfl, rfl, ?_⟩ | refine ⟨_, rfl, ?_⟩ | refine ⟨_, _, rfl, ?_, ?_⟩)) hN rfl rfl rfl rfl)) rfl ?_
 refine DF.op 5 [0,2,3,4] 8 rfl rfl rfl (.free rfl (by exact h_store rfl rfl rfl rfl rfl rfl)) rfl ?_
 refine DF.op 6 [0,1,2,3,4,5] 8 rfl rfl rfl (.free rfl (NOp.of (by exact as1 rfl))) rfl ?_
 refine DF.op 7 [0,1,2,3,4,5,6] 8 rfl rfl rfl (.free rfl (NOp.of (by exact as1 rfl))) rfl ?_
 refine DF.fin (ps := [(0,1),(0,2),(0,3),(0,4),(1,0),(1,2),(1,3),(1,4),(1,5),(2,0),(2,1),(2,3),(3,0),(3,1),(3,2),(4,0),(4,1),(5,1)]) 8 rfl (by decide +kernel) (by decide +kernel) (by rfl) ?_
 refine th_n (AC.ret (bq_r ?_))
 exact ret0 rfl (by repeat (first | exact DLead.same | exact rfl | refine ⟨_, rfl, ?_⟩ | refine ⟨_, _, rfl, ?_, ?_⟩))
theorem en_sDrawEarl : Enters Tryz.prog 4 := enters_of Tryz.func4 rfl rfl
set_option maxHeartbeats 8000000 in
theorem sDrawFmt_ex (code : List UInt8) : ∃ run : List Tf, (run.length ≤ 60 ∧ tfB run) ∧ ASpec Tryz.prog 10 [.d (vB code)] [] (Pure1 (.d (vTfs run))) := by
 obtain ⟨run, ⟨hrl, hrb⟩, hD⟩ := sDrawGap_own code
 have hp0 : (cur0 code).pos = 0 := rfl
 have hO := one_spec (cur0 code) 8 (by decide) (by omega)
 have p1 := (cur0 code).pick_pos 8
 obtain ⟨q, hq⟩ : ∃ q, q = (cur0 code).pick 8 := ⟨_, rfl⟩
 rw [← hq] at hO p1
 have hA := among_spec q.2 [999999, 1000000] (by decide) (by decide) (by omega)
 have ham : 0 ≤ ([999999, 1000000] : List Int).getD (q.2.pick ([999999, 1000000] : List Int).length).1.toNat 0 ∧ ([999999, 1000000] : List Int).getD (q.2.pick ([999999, 1000000] : List Int).length).1.toNat 0 ≤ 1000000 := getD_bd (by decide) (by decide) _
 obtain ⟨am, hamE⟩ : ∃ am, am = ([999999, 1000000] : List Int).getD (q.2.pick ([999999, 1000000] : List Int).length).1.toNat 0 := ⟨_, rfl⟩
 rw [← hamE] at hA ham
 obtain ⟨b, hb⟩ : ∃ b, b = decide (q.1 = 0) := ⟨_, rfl⟩
 rw [← hb] at hO
 clear hb hamE
 obtain ⟨out, hout⟩ : ∃ out : List Tf, out = if 0 < run.length ∧ b = true then run.set (run.length - 1) ⟨am, (fAt run (run.length - 1)).t⟩ else run := ⟨_, rfl⟩
 have hfi : -1000000 ≤ (fAt run (run.length - 1)).t ∧ (fAt run (run.length - 1)).t ≤ 1000000 := by
  unfold fAt
  rw [List.getD_eq_getElem?_getD]
  cases e : run[run.length - 1]? with
  | none => decide
  | some x => have := hrb x (List.mem_of_getElem? e); exact ⟨this.2.2.1, this.2.2.2⟩
 have hoi : out.length = run.length ∧ tfB out := by
  rw [hout]
  split
  ·refine ⟨List.length_set .., fun x hx => ?_⟩
   rcases List.mem_or_eq_of_mem_set hx with hx | rfl
   ·exact hrb x hx
   ·dsimp only; omega
  ·exact ⟨rfl, hrb⟩
 refine ⟨out, ⟨by omega, hoi.2⟩, ?_⟩
 refine ASpec.of Tryz.func10 rfl rfl fun C hC => ?_
 refine AC.seq (AC.region ?_)
 refine AL.p (by exact as1 rfl) rfl ?_
 refine AL.nil (th_n (AC.seq (AC.region ?_)))
 refine AL.p (by exact mv1 rfl) rfl ?_
 refine AL.p (by exact g_build rfl rfl rfl) rfl ?_
 refine AL.q (by exact h_box rfl) rfl ?_
 refine AL.p (by exact as3 rfl) rfl ?_
 refine AL.nil (th_n (AC.seq (AC.region ?_)))
 refine AL.p (by exact mv1 rfl) rfl ?_
 refine AL.q (by exact h_fun (cs := []) en_sDrawGap rfl rfl (by repeat (first | exact rfl | exact DLead.same | refine ⟨_, _, rfl, ?_, ?_⟩)) (by repeat (exact True.intro)) hD rfl rfl rfl rfl) rfl ?_
 refine AL.p (by exact as2 rfl) rfl ?_
 refine AL.nil (th_n ?_)
 refine AC.cut (fun (_ : Unit) => ⟨27, 900, [(4, .own 100 out.length)], [(100, some (.arr 46 2 (tfL out)))]⟩) (fun _ => True) ?_ ?_
 ·refine AC.seq ?_
  refine AC.weak (t := ⟨27, 600, [(3, .ptr 202 0), (4, .own 100 run.length)], [(202, some (curC (cur0 code))), (100, some (.arr 46 2 (tfL run)))]⟩) (Weak.ren _ [(202, 0), (100, _)] hC rfl (by repeat (first | exact True.intro | refine And.intro ?_ ?_ | exact rfl | refine ⟨_, rfl, ?_⟩)) (by repeat (first | exact True.intro | refine And.intro ?_ ?_ | exact DLead.same | exact rfl | refine ⟨_, _, rfl, rfl, ?_⟩ | refine ⟨_, rfl, ?_⟩ | refine ⟨_, _, rfl, ?_, ?_⟩)) rfl rfl rfl) ?_
  refine AC.region ?_
  refine AL.p (by exact mv2 rfl) rfl ?_
  refine AL.p (by exact g_len_own (sz := 1) (els := []) (e' := 0) rfl rfl (by simp only [maxLen]; omega)) rfl ?_
  refine AL.p (by exact g_cmp rfl rfl rfl) rfl ?_
  refine AL.p (by exact mv1 rfl) rfl ?_
  refine AL.caseG rfl rfl (fun h0 => ?_) (fun h0 => ?_)
  ·refine AL.yes rfl rfl rfl ?_
   refine AL.p (by exact mv3 rfl) rfl ?_
   refine AL.yes rfl rfl rfl ?_
   refine AL.q (by exact h_fun (cs := [202]) en_one rfl rfl (by repeat (first | exact rfl | exact DLead.same | refine ⟨_, _, rfl, ?_, ?_⟩ | refine ⟨_, rfl, ?_⟩)) (by repeat (first | exact True.intro | refine And.intro ?_ ?_ | exact DLead.same | exact rfl | refine ⟨_, _, rfl, rfl, ?_⟩ | refine ⟨_, rfl, ?_⟩ | refine ⟨_, _, rfl, ?_, ?_⟩)) hO rfl rfl rfl rfl) rfl ?_
   refine AL.p (by exact g_pickT (r := .d _) rfl rfl) rfl ?_
   refine AL.nil (th_n ?_)
   refine AC.condB rfl (fun h1 => ?_) (fun h1 => ?_)
   ·have hl0 : 0 < run.length := by omega
    have hb1 : b = true := by assumption
    have hlt : run.length - 1 < run.length := by omega
    have hI : ((run.length : Int) - 1) = ((run.length - 1 : Nat) : Int) := by omega
    have hrow := tfLA_get hlt
    have hs1 : (tfL run).set (run.length - 1) ([dI (fAt run (run.length - 1)).tm, dI (fAt run (run.length - 1)).t].set 0 (dI am)) = tfL (run.set (run.length - 1) ⟨am, (fAt run (run.length - 1)).t⟩) := tfL_set _ _ ⟨am, (fAt run (run.length - 1)).t⟩
    refine AC.region ?_
    refine AL.p (by exact mv2 rfl) rfl ?_
    refine AL.p (by exact mv2 rfl) rfl ?_
    refine AL.p (by exact g_len_own (sz := 1) (els := []) (e' := 0) rfl rfl (by simp only [maxLen]; omega)) rfl ?_
    refine AL.p (by exact g_arith rfl rfl rfl (by exact wrap_i64 (by omega))) rfl ?_
    refine AL.p (by exact mv3 rfl) rfl ?_
    refine AL.q (by exact h_litF rfl rfl rfl rfl rfl rfl rfl rfl) rfl ?_
    refine AL.q (by exact h_fun (cs := [202]) en_among rfl rfl (by repeat (first | exact rfl | exact DLead.same | refine ⟨_, _, rfl, ?_, ?_⟩ | refine ⟨_, rfl, ?_⟩)) (by repeat (first | exact True.intro | refine And.intro ?_ ?_ | exact DLead.same | exact rfl | refine ⟨_, _, rfl, rfl, ?_⟩ | refine ⟨_, rfl, ?_⟩ | refine ⟨_, _, rfl, ?_, ?_⟩)) hA rfl rfl rfl rfl) rfl ?_
    refine AL.p (by exact g_ia_own (i := run.length - 1) (l := run.length) rfl rfl rfl rfl rfl hI hlt rfl) rfl ?_
    refine AL.p (by exact g_fa_ptr rfl rfl rfl rfl rfl) rfl ?_
    refine AL.q (by exact h_store_arr (i := run.length - 1) (j := 0) (d := dI am) rfl rfl rfl rfl .same rfl hrow (by decide)) rfl ?_
    refine AL.nil (th_n ?_)
    (have e := hout.trans (if_pos ⟨by omega, ‹b = true›⟩); exact ⟨(), trivial, Weak.ren _ [(100, 100)] hC rfl (by rw [hoi.1]; repeat (first | exact True.intro | refine And.intro ?_ ?_ | exact rfl | refine ⟨_, rfl, ?_⟩)) (by rw [e, ← hs1]; repeat (first | exact True.intro | refine And.intro ?_ ?_ | exact rfl | refine ⟨_, _, rfl, rfl, ?_⟩)) rfl rfl rfl⟩)
   ·refine AC.skip (th_n ?_)
    (have e := hout.trans (if_neg (fun z => by simp_all)); exact ⟨(), trivial, Weak.ren _ [(100, 100)] hC rfl (by rw [hoi.1]; repeat (first | exact True.intro | refine And.intro ?_ ?_ | exact rfl | refine ⟨_, rfl, ?_⟩)) (by rw [e]; repeat (first | exact True.intro | refine And.intro ?_ ?_ | exact rfl | refine ⟨_, _, rfl, rfl, ?_⟩)) rfl rfl rfl⟩)
  ·refine AL.not rfl rfl rfl rfl rfl ?_
   refine AL.not rfl rfl rfl rfl rfl ?_
   refine AL.p (by exact g_pickF (r := .d _) rfl rfl) rfl ?_
   refine AL.nil (th_n ?_)
   refine AC.condF rfl ?_
   refine AC.skip (th_n ?_)
   (have e := hout.trans (if_neg (fun z => by simp_all)); exact ⟨(), trivial, Weak.ren _ [(100, 100)] hC rfl (by rw [hoi.1]; repeat (first | exact True.intro | refine And.intro ?_ ?_ | exact rfl | refine ⟨_, rfl, ?_⟩)) (by rw [e]; repeat (first | exact True.intro | refine And.intro ?_ ?_ | exact rfl | refine ⟨_, _, rfl, rfl, ?_⟩)) rfl rfl rfl⟩)
 ·intro _ _
  refine AC.seq (AC.region ?_)
  refine AL.p (by exact mv2 rfl) rfl ?_
  refine AL.p (by exact as2 rfl) rfl ?_
  refine AL.nil (th_n ?_)
  refine AC.weak (Weak.freeze (i := 2) rfl rfl (ownl _ _) (ownt _ _)) ?_
  refine AC.ret (bq_r ?_)
  exact ret1 rfl rfl
theorem en_sDrawFmt : Enters Tryz.prog 10 := enters_of Tryz.func10 rfl rfl
section
variable {P : Program} [PT P] {s : ASt} {dst : Option Nat} {ty : Nat} {pos : String} {af : Array Edge} {gd : Option (Nat × Bool)} {x y : Operand} {xt yt : Nat}
theorem g_neBr {a : Bool} {n bt : Nat} {zs : List ZK} (ht : PT.ty P xt = some ⟨.bool, n, bt, zs⟩) (hx : s.ev x = aT a) (hy : s.ev y = aT a) : GOp P [] s ⟨dst, .binOp .neq xt x y yt, ty, pos, af, gd⟩ (aT false) := by
 have h := g_neB (P := P) (dst := dst) (ty := ty) (pos := pos) (af := af) (gd := gd) (yt := yt) ht hx hy
 rwa [beq_self_eq_true] at h
theorem g_neIr {k : IntKind} {a b : Int} (hx : s.ev x = .d (.val (.int k a))) (hy : s.ev y = .d (.val (.int k b))) (h : a = b) : GOp P [] s ⟨dst, .binOp .neq xt x y yt, ty, pos, af, gd⟩ (aT false) := g_cmp hx hy (by show some (!decide (a = b)) = _; rw [decide_eq_true h]; rfl)
theorem g_neSr {a b : ByteArray} (hx : s.ev x = aS a) (hy : s.ev y = aS b) (h : a = b) : GOp P [] s ⟨dst, .binOp .neq xt x y yt, ty, pos, af, gd⟩ (aT false) := g_scmp hx hy (by show some (!decide (a = b)) = _; rw [decide_eq_true h]; rfl)
end
theorem qSameTimed_spec (a : List Tf) (ha : a.length ≤ 1000000) : ASpec Tryz.prog 15 [.d (vTfs a), .d (vTfs a)] [] (Pure1 (aT true)) := by
 refine ASpec.of Tryz.func15 rfl rfl fun C hC => ?_
 refine AC.seq (AC.region ?_)
 refine AL.p (by exact as1 rfl) rfl ?_
 refine AL.nil (th_n (AC.seq (AC.seq (AC.region ?_))))
 refine AL.p (by exact mv1 rfl) rfl ?_
 refine AL.p (by exact g_len_view rfl rfl (by exact List.length_map _)) rfl ?_
 refine AL.p (by exact mv1 rfl) rfl ?_
 refine AL.p (by exact g_len_view rfl rfl (by exact List.length_map _)) rfl ?_
 refine AL.p (by exact g_neIr rfl rfl rfl) rfl ?_
 refine AL.nil (th_n ?_)
 refine AC.condF rfl ?_
 refine AC.skip (th_n (AC.seq (AC.seq (AC.region ?_))))
 refine AL.p (by exact mv1 rfl) rfl ?_
 refine AL.p (by exact g_len_view rfl rfl (by exact List.length_map _)) rfl ?_
 refine AL.p (by exact mv1 rfl) rfl ?_
 refine AL.nil (th_n (AC.block ?_))
 refine AC.loop (ι := Nat) (fun k => ⟨26, 0, [(0, .d (vTfs a)), (1, .d (vTfs a)), (12, aI a.length), (13, aI k)], []⟩) (fun k => k ≤ a.length) (fun k => a.length - k) (0) ?_ (Nat.zero_le _) ?_
 ·refine Weak.ren _ [] hC rfl ?_ ?_ rfl rfl rfl <;> repeat (first | exact True.intro | refine And.intro ?_ ?_ | exact DLead.same)
 ·intro k hk
  refine AC.seq (AC.region ?_)
  refine AL.p (by exact g_cmp rfl rfl rfl) rfl ?_
  refine AL.nil (th_n (AC.seq ?_))
  refine AC.condD rfl (fun h0 => ?_) (fun h0 => ?_)
  ·refine AC.skip (th_n (AC.seq (AC.block (AC.seq ?_))))
   have hk1 : k < a.length := by omega
   have hget := tfL_get hk1
   refine AC.region ?_
   refine AL.p (by exact mv1 rfl) rfl ?_
   refine AL.p (by exact as1 rfl) rfl ?_
   refine AL.nil (th_n (AC.seq ?_))
   refine AC.drawn' mixed_ok [[], [], [0,1], [0,1,2], [], [], [4,5], [4,5,6], [0,1,2,3,4,5,6,7]] (by decide) ?_
   refine DF.op 0 [] 9 rfl rfl rfl (.free rfl (NOp.of (by exact mv1 rfl))) rfl ?_
   refine DF.op 1 [] 9 rfl rfl rfl (.free rfl (NOp.of (by exact mv1 rfl))) rfl ?_
   refine DF.op 2 [0,1] 9 rfl rfl rfl (.free rfl (NOp.of (by exact g_ia_view rfl rfl rfl rfl rfl (by rfl) (by assumption)))) rfl ?_
   refine DF.op 3 [0,1,2] 9 rfl rfl rfl (.free rfl (NOp.of (by exact g_load_refN rfl rfl rfl rfl))) rfl ?_
   refine DF.op 4 [] 9 rfl rfl rfl (.free rfl (NOp.of (by exact mv1 rfl))) rfl ?_
   refine DF.op 5 [] 9 rfl rfl rfl (.free rfl (NOp.of (by exact mv1 rfl))) rfl ?_
   refine DF.op 6 [4,5] 9 rfl rfl rfl (.free rfl (NOp.of (by exact g_ia_view rfl rfl rfl rfl rfl (by rfl) (by assumption)))) rfl ?_
   refine DF.op 7 [4,5,6] 9 rfl rfl rfl (.free rfl (NOp.of (by exact g_load_refN rfl rfl rfl rfl))) rfl ?_
   refine DF.op 8 [0,1,2,3,4,5,6,7] 9 rfl rfl rfl (.free rfl (NOp.of (by exact g_eq2 (r := false) (by decide +kernel) rfl rfl (by simp [eqOf])))) rfl ?_
   refine DF.fin (ps := [(0,1),(0,4),(0,5),(0,6),(0,7),(1,0),(1,4),(1,5),(1,6),(1,7),(2,4),(2,5),(2,6),(2,7),(3,4),(3,5),(3,6),(3,7),(4,0),(4,1),(4,2),(4,3),(4,5),(5,0),(5,1),(5,2),(5,3),(5,4),(6,0),(6,1),(6,2),(6,3),(7,0),(7,1),(7,2),(7,3)]) 9 rfl (by decide +kernel) (by decide +kernel) (by rfl) ?_
   refine th_n ?_
   refine AC.condF rfl ?_
   refine AC.skip (ib_n (th_n (AC.region ?_)))
   refine AL.p (by exact g_arith rfl rfl rfl (by exact wrap_i64 (by omega))) rfl ?_
   refine AL.p (by exact mv1 rfl) rfl ?_
   refine AL.nil (th_n ?_)
   exact ⟨k + 1, by omega, by omega, Weak.ren _ [] hC rfl (by repeat (first | exact True.intro | refine And.intro ?_ ?_ | exact DLead.same)) (by repeat (exact True.intro)) rfl rfl rfl⟩
  ·refine AC.exit (th_e (th_e (ib_y (th_n (AC.seq (AC.region ?_))))))
   refine AL.p (by exact as1 rfl) rfl ?_
   refine AL.nil (th_n (AC.ret (bq_r ?_)))
   exact ret1 rfl rfl
theorem en_qSameTimed : Enters Tryz.prog 15 := enters_of Tryz.func15 rfl rfl
theorem fireQ_ok {N : Net} {c : Ck} {t : Nat} {a : Int} (ht : t < N.ts.length) (h : (fireQ N c t a).2 = true) : (fireT N.ts[t] c.mark).2 = true ∧ (fireQ N c t a).1.mark = (fireT N.ts[t] c.mark).1 ∧ (fireQ N c t a).1.now = a := by
 have hgD : N.ts.getD t ⟨[], []⟩ = N.ts[t] := by rw [List.getD_eq_getElem?_getD, List.getElem?_eq_getElem ht]; rfl
 unfold fireQ at h ⊢
 rw [hgD] at h ⊢
 split at h
 ·rename_i h2
  rw [if_pos h2]; exact ⟨h2, rfl, rfl⟩
 ·cases h
theorem simQ_no {N : Net} {c : Ck} {l : List Dl} {d : Int} (h : ¬ (stepQ N c l d).2.2 = true) : (stepQ N c l d).2.1 = c := by
 unfold stepQ at h ⊢
 split
 ·rfl
 ·rename_i hne
  rw [if_neg hne] at h
  unfold fireQ at h ⊢
  split
  ·rename_i h2
   rw [if_pos h2] at h
   exact absurd rfl h
  ·rfl
structure SimStep (N : Net) (c : Ck) (l : List Dl) (T : Int) (x : Tf) (e : Ck) : Prop where
 chk : chkB N c l x = true
 ok : okF N c x = true
 fq : fireQ N c x.t.toNat x.tm = (e, true)
 fi : fireI N c.mark x.t = (e.mark, true)
 now : e.now = x.tm
 le : c.now ≤ x.tm
theorem simQ_ok {N : Net} {c : Ck} {l : List Dl} {T d : Int} (h : CkI N c T) (hd : Dok l N.ts.length) (hT : 0 ≤ T ∧ T ≤ 900000) (hdr : 0 ≤ d ∧ d ≤ 999) (ho : (stepQ N c l d).2.2 = true) : SimStep N c l T (stepQ N c l d).1 (stepQ N c l d).2.1 := by
 unfold stepQ at ho ⊢
 split at ho
 ·cases ho
 ·rename_i hne
  rw [if_neg hne]
  obtain ⟨u, h1, h2, h3, h4, h5, _⟩ := stepT_in (h.B hd (by omega)) hdr hne
  have h8 : c.now ≤ earI c l u := Int.le_max_right ..
  have h9 := h.len
  have hu : u < N.ts.length := by omega
  have hen := (h.en u hu).1 h3
  obtain ⟨x, hx⟩ : ∃ x, x = stepT c l d := ⟨_, rfl⟩
  rw [← hx] at ho h1 h4 h5 ⊢
  obtain ⟨a, t⟩ := x
  dsimp only at ho h1 h4 h5 ⊢
  subst h1
  rw [Int.toNat_natCast] at ho ⊢
  obtain ⟨k1, k2, k3⟩ := fireQ_ok hu ho
  refine ⟨?_, ?_, ?_, ?_, k3, by dsimp only; omega⟩
  ·simp only [chkB, Bool.and_eq_true, decide_eq_true_eq, Int.toNat_natCast]
   exact ⟨⟨by omega, by omega⟩, h3, ⟨h4, h5⟩, ho⟩
  ·simp only [okF, Bool.and_eq_true, decide_eq_true_eq, Int.toNat_natCast]
   exact ⟨⟨by omega, by omega⟩, h3, ho⟩
  ·exact Prod.ext rfl ho
  ·dsimp only
   rw [fireI_at hu, if_pos (by rw [← enB_nat hu]; exact hen)]
   exact Prod.ext k2.symm k1
def sortQ : Int → List Tf → Prop
 | _, [] => True
 | a, x :: xs => a ≤ x.tm ∧ sortQ x.tm xs
theorem sortQ_at : ∀ {L : List Tf} {a : Int}, sortQ a L → ∀ k, k < L.length → a ≤ (fAt L k).tm ∧ (0 < k → (fAt L (k - 1)).tm ≤ (fAt L k).tm)
 | [], _, _, k, hk => absurd hk (Nat.not_lt_zero _)
 | x :: xs, a, h, 0, _ => ⟨h.1, fun q => absurd q (Nat.lt_irrefl _)⟩
 | x :: xs, a, h, k + 1, hk => by
  have ih := sortQ_at h.2 k (by simpa using hk)
  have e : fAt (x :: xs) (k + 1) = fAt xs k := rfl
  have h1 := h.1
  rw [e]
  refine ⟨by omega, fun _ => ?_⟩
  show (fAt (x :: xs) k).tm ≤ _
  match k, ih with
  | 0, ih => exact ih.1
  | j + 1, ih => exact ih.2 (by omega)
def tfTs (L : List Tf) : List Int := L.map fun x => x.t
structure SimOk (N : Net) (l : List Dl) (c : Ck) (T : Int) (L : List Tf) (e : Ck) : Prop where
 chk : checkQ N l L c = true
 fq : firedQ N L c = (e, true)
 sq : ∀ k, fireSeq N c.mark (tfTs L) k = (e.mark, k + L.length, true)
 srt : sortQ c.now L
 inv : ∃ T', CkI N e T'
theorem runQ_ok {N : Net} {l : List Dl} (hd : Dok l N.ts.length) : ∀ (ds : List Int) (c : Ck) (T : Int), CkI N c T → 0 ≤ T → T + 100 * ds.length ≤ 20000 → (∀ d, d ∈ ds → 0 ≤ d ∧ d ≤ 999) → ∃ (L : List Tf) (e : Ck), (∀ acc, runQ N l ds c acc = (acc ++ L, e)) ∧ SimOk N l c T L e
 | [], c, T, hI, h0, hT, hds => ⟨[], c, fun acc => by rw [runQ, List.append_nil acc], rfl, rfl, fun k => by simp [tfTs, fireSeq], trivial, T, hI⟩
 | d :: ds, c, T, hI, h0, hT, hds => by
  have hdr := hds d (List.mem_cons_self ..)
  simp only [List.length_cons] at hT
  by_cases hok : (stepQ N c l d).2.2 = true
  ·have hS := simQ_ok hI hd (by omega) hdr hok
   have hI2 := stepQ_I hI hd (by omega) hdr
   obtain ⟨L, e, h1, h2⟩ := runQ_ok hd ds _ (T + 100) hI2 (by omega) (by omega) (fun x hx => hds x (List.mem_cons_of_mem _ hx))
   obtain ⟨x, hx⟩ : ∃ x, x = (stepQ N c l d).1 := ⟨_, rfl⟩
   obtain ⟨c2, hc2⟩ : ∃ c2, c2 = (stepQ N c l d).2.1 := ⟨_, rfl⟩
   rw [← hx, ← hc2] at hS
   rw [← hc2] at h1 h2
   refine ⟨x :: L, e, fun acc => ?_, ?_, ?_, fun k => ?_, ⟨hS.le, ?_⟩, h2.inv⟩
   ·rw [runQ, if_pos hok, ← hx, ← hc2, h1, List.append_assoc]; rfl
   ·rw [checkQ, if_pos hS.chk, hS.fq]; exact h2.chk
   ·rw [firedQ, if_pos hS.ok, hS.fq]; exact h2.fq
   ·show fireSeq N c.mark (x.t :: tfTs L) k = _
    rw [fireSeq, hS.fi, if_pos rfl, h2.sq, List.length_cons]
    congr 2
    omega
   ·have := h2.srt; rwa [hS.now] at this
  ·have e := simQ_no hok
   exact ⟨[], c, fun acc => by rw [runQ, if_neg hok, e, List.append_nil acc], rfl, rfl, fun k => by simp [tfTs, fireSeq], trivial, T, hI⟩
theorem runQ_acc (N : Net) (l : List Dl) : ∀ (es : List Int) (c : Ck) (acc : List Tf), acc <+: (runQ N l es c acc).1
 | [], c, acc => by rw [runQ]; exact List.prefix_rfl
 | d :: es, c, acc => by
  rw [runQ]
  split
  ·exact (List.prefix_append acc _).trans (runQ_acc N l es _ _)
  ·exact List.prefix_rfl
theorem runQ_pre (N : Net) (l : List Dl) : ∀ (ds es : List Int) (c : Ck) (acc : List Tf), (runQ N l ds c acc).1 <+: (runQ N l (ds ++ es) c acc).1
 | [], es, c, acc => runQ_acc N l es c acc
 | d :: ds, es, c, acc => by
  rw [List.cons_append, runQ, runQ]
  split
  ·exact runQ_pre N l ds es _ _
  ·exact List.prefix_rfl
theorem gapQ_le {L : List Tf} (h : sortQ 0 L) : ∀ q, q < L.length → gapQ L q ≤ (fAt L q).tm
 | 0, hq => by have := sortQ_at h 0 hq; rw [gapQ]; omega
 | q + 1, hq => by
  have ih := gapQ_le h q (by omega)
  have h1 := sortQ_at h (q + 1) hq
  have h0 := sortQ_at h q (by omega)
  have h2 := h1.2 (by omega)
  rw [Nat.add_sub_cancel] at h2
  rw [gapQ]
  omega
theorem earR_yes {s : Stg} {l : List Dl} {n : Int} (hn : 0 ≤ n ∧ n ≤ 60) (hv : validD s l = true) : earR s l n = ((runQ s.net l (zrs n) (newK s) []).1, true) := by
 have hz : drawsB (zrs n) = true := List.all_eq_true.2 fun d hd => by rw [List.eq_of_mem_replicate hd]; rfl
 have ho : simOk s l (zrs n) = true := by unfold simOk; rw [hv, hz, decide_eq_false (by rw [zrs_len]; omega)]; rfl
 unfold earR simR
 rw [if_pos (by simp only [Bool.and_eq_true, decide_eq_true_eq]; exact hn), if_pos ho]
theorem early_laws {s : Stg} {l : List Dl} {n : Int} (hB : StgB s) (hok : (earR s l n).2 = true) (hn : n ≠ 0) :
  (earR s l (n - 1)).2 = true ∧ (earR s l (n - 1)).1.length ≤ (earR s l n).1.length ∧ (earR s l n).1.take (earR s l (n - 1)).1.length = (earR s l (n - 1)).1 ∧ ∃ g, gapR (earR s l n).1 = (g, true) ∧ (0 < (earR s l n).1.length → g ≤ (fAt (earR s l n).1 ((earR s l n).1.length - 1)).tm) := by
 have hnb : 0 ≤ n ∧ n ≤ 60 := by
  unfold earR at hok
  split at hok
  ·rename_i q; simpa using q
  ·cases hok
 have hv : validD s l = true := by
  unfold earR at hok
  rw [if_pos (by simp only [Bool.and_eq_true, decide_eq_true_eq]; exact hnb)] at hok
  unfold simR at hok
  split at hok
  ·rename_i q
   unfold simOk at q
   exact (Bool.and_eq_true_iff.1 q).1
  ·cases hok
 obtain ⟨hg, hd⟩ := Dok.of hv
 have e1 := earR_yes (s := s) (l := l) (n := n) hnb hv
 have e2 := earR_yes (s := s) (l := l) (n := n - 1) (by omega) hv
 have hz : zrs n = zrs (n - 1) ++ [0] := by
  unfold zrs
  rw [show n.toNat = (n - 1).toNat + 1 by omega, List.replicate_succ']
 have hp := runQ_pre s.net l (zrs (n - 1)) [0] (newK s) []
 rw [← hz] at hp
 obtain ⟨L, e, h1, h2⟩ := runQ_ok hd (zrs n) (newK s) 0 (newK_I hg) (Int.le_refl _) (by rw [zrs_len]; omega) (fun d hd => by have := List.eq_of_mem_replicate hd; omega)
 have h1 := h1 []
 rw [List.nil_append] at h1
 have hln := runQ_len s.net l (zrs n) (newK s) []
 rw [zrs_len] at hln
 rw [h1] at hp hln
 rw [e1, e2, h1]
 dsimp only at hp hln ⊢
 have hs : sortQ 0 L := h2.srt
 refine ⟨rfl, hp.length_le, (List.prefix_iff_eq_take.1 hp).symm, gapQ L (L.length - 1), ?_, fun q => gapQ_le hs _ (by omega)⟩
 have ht : timesB L = true := by
  unfold timesB
  rw [allK_yes (fun k hk => ?_), decide_eq_true (by simp only [List.length_nil] at hln; omega)]; rfl
  have := sortQ_at hs k hk
  exact timeK_yes (by omega) (fun q => by have := this.2 q; omega)
 unfold gapR
 rw [if_pos ht]
theorem g_leIr {P : Program} [PT P] {s : ASt} {dst : Option Nat} {ty : Nat} {pos : String} {af : Array Edge} {gd : Option (Nat × Bool)} {xt yt : Nat} {x y : Operand} {k : IntKind} {a b : Int} (hx : s.ev x = .d (.val (.int k a))) (hy : s.ev y = .d (.val (.int k b))) (h : a ≤ b) : GOp P [] s ⟨dst, .binOp .leq xt x y yt, ty, pos, af, gd⟩ (aT true) := g_cmp hx hy (by show some (decide (a ≤ b)) = _; rw [decide_eq_true h])
theorem earR_in {s : Stg} {l : List Dl} {n : Int} (hB : StgB s) : tfB (earR s l n).1 ∧ (earR s l n).1.length ≤ 60 := by
 unfold earR
 split
 ·have := simR_in (l := l) (ds := zrs n) hB
  exact ⟨fun x hx => by have := this.1 x hx; omega, this.2⟩
 ·exact ⟨fun x hx => absurd hx List.not_mem_nil, Nat.zero_le _⟩
set_option maxHeartbeats 16000000 in
theorem FnSoonest_gen (code more : List UInt8) (s s2 : Stg) (l : List Dl) (n : Int) (run2 w : List Tf) (hc : code.length ≤ 9223372036854775807) (hm : more.length ≤ 9223372036854775807)
  (hs : StgS s) (hl : l.length ≤ 20 ∧ dlIn l) (hnb : -1 ≤ n ∧ n ≤ 61) (hs2 : StgS s2) (hr2 : run2.length ≤ 60 ∧ tfB run2) (hw : w.length ≤ 60 ∧ tfB w)
  (hD1 : ASpec Tryz.prog 4 [.d (vB code)] [] (Pure1 (.tup [stgA s, .d (vDls l), aI n]))) (hD2 : ASpec Tryz.prog 7 [.d (vB more)] [] (Pure1 (.tup [stgA s2, .d (vTfs run2)])))
  (hD3 : ASpec Tryz.prog 10 [.d (vB more)] [] (Pure1 (.d (vTfs w)))) : ASpecI powI Tryz.prog 3 [.d (vB code), .d (vB more)] [] (Pure1 (aT true)) := by
 have hlB : DlB l := ⟨by omega, fun x hx => by have := hl.2 x hx; omega⟩
 have hE1 := iEarl_spec s l n hs.B hlB
 have hE2 := sEarl_spec s l n hs.B hlB
 have hE3 := iEarl_spec s l (n - 1) hs.B hlB
 have hLaw := early_laws (s := s) (l := l) (n := n) hs.B
 have hin := earR_in (l := l) (n := n) hs.B
 have hin2 := earR_in (l := l) (n := n - 1) hs.B
 obtain ⟨S, hS⟩ : ∃ S, S = earR s l n := ⟨_, rfl⟩
 rw [← hS] at hE1 hE2 hLaw hin
 obtain ⟨S2, hS2⟩ : ∃ S, S = earR s l (n - 1) := ⟨_, rfl⟩
 rw [← hS2] at hE3 hLaw hin2
 clear hS hS2
 obtain ⟨r, ok⟩ := S
 obtain ⟨r2, ok2⟩ := S2
 dsimp only at hE1 hE2 hE3 hLaw hin hin2
 have hG0 := iMaxGap_spec r (by omega) hin.1
 have hV1 := iVis_spec s2 run2 hs2.B (by omega) hr2.2
 have hV2 := sVis_spec s2 run2 hs2.B (by omega) hr2.2
 obtain ⟨V, hV⟩ : ∃ V, V = visR s2 run2 := ⟨_, rfl⟩
 rw [← hV] at hV1 hV2
 have hT1 := iFmtTR_spec w (by omega) hw.2
 have hT2 := sFmtTR_spec w (by omega) hw.2
 obtain ⟨T, hT⟩ : ∃ T, T = fmtR w := ⟨_, rfl⟩
 rw [← hT] at hT1 hT2
 have hM1 := iMaxGap_spec w (by omega) hw.2
 have hM2 := sMaxGap_spec w (by omega) hw.2
 obtain ⟨M, hM⟩ : ∃ M, M = gapR w := ⟨_, rfl⟩
 rw [← hM] at hM1 hM2
 have hQ1 := qSameTimed_spec r (by omega)
 have hQ2 := qSameTimed_spec r2 (by omega)
 clear hV hT hM
 refine ASpecI.of Tryz.func3 rfl rfl powI_turn fun C hC hIc => ?_
 have hI := hIc rfl
 refine AC.seq (AC.region ?_)
 refine AL.p (by exact as1 rfl) rfl ?_
 refine AL.nil (th_n (AC.seq (AC.seq (AC.region ?_))))
 refine AL.p (by exact mv1 rfl) rfl ?_
 refine AL.p (by exact g_len_view rfl rfl (by exact List.length_map _)) rfl ?_
 refine AL.p (by exact mv1 rfl) rfl ?_
 refine AL.p (by exact g_len_view rfl rfl (by exact List.length_map _)) rfl ?_
 refine AL.p (by exact g_arith rfl rfl rfl (by rfl)) rfl ?_
 refine AL.p (by exact g_cmp rfl rfl rfl) rfl ?_
 refine AL.nil (th_n ?_)
 refine AC.condD rfl (fun h0 => ?_) (fun h0 => ?_)
 ·refine AC.seq (AC.region ?_)
  refine AL.p (by exact as1 rfl) rfl ?_
  refine AL.nil (th_n (AC.ret (th_r (bq_r ?_))))
  exact ret1 rfl rfl
 ·refine AC.skip (th_n (AC.seq (AC.region ?_)))
  refine AL.p (by exact mv1 rfl) rfl ?_
  refine AL.q (by exact h_pure en_sDrawEarl rfl rfl (by repeat (first | exact rfl | exact DLead.same | refine ⟨_, _, rfl, ?_, ?_⟩)) hD1 rfl) rfl ?_
  refine AL.p (by exact mv5 rfl) rfl ?_
  refine AL.p (by exact g_extract (r := .agg _) rfl rfl) rfl ?_
  refine AL.p (by exact g_extract (r := .d _) rfl rfl) rfl ?_
  refine AL.p (by exact g_extract (r := .d _) rfl rfl) rfl ?_
  refine AL.q (by exact h_alloc rfl) rfl ?_
  refine AL.q (by exact h_store rfl rfl rfl rfl rfl rfl) rfl ?_
  refine AL.p (by exact as1 rfl) rfl ?_
  refine AL.p (by exact as1 rfl) rfl ?_
  refine AL.nil (th_n (AC.seq (AC.region ?_)))
  refine AL.p (by exact g_load_ptrN rfl rfl rfl rfl rfl) rfl ?_
  refine AL.p (by exact mv1 rfl) rfl ?_
  refine AL.p (by exact mv1 rfl) rfl ?_
  refine AL.q (by exact h_pure en_iEarl rfl rfl (by repeat (first | exact rfl | exact DLead.same | refine ⟨_, _, rfl, ?_, ?_⟩ | refine ⟨_, rfl, ?_⟩)) hE1 rfl) rfl ?_
  refine AL.p (by exact mv5 rfl) rfl ?_
  refine AL.p (by exact g_extract (r := .d _) rfl rfl) rfl ?_
  refine AL.p (by exact g_extract (r := .d _) rfl rfl) rfl ?_
  refine AL.p (by exact as1 rfl) rfl ?_
  refine AL.p (by exact as1 rfl) rfl ?_
  refine AL.nil (th_n (AC.seq (AC.region ?_)))
  refine AL.p (by exact g_load_ptrN rfl rfl rfl rfl rfl) rfl ?_
  refine AL.p (by exact mv1 rfl) rfl ?_
  refine AL.p (by exact mv1 rfl) rfl ?_
  refine AL.q (by exact h_fun (cs := []) en_sEarl rfl rfl (by repeat (first | exact rfl | exact DLead.same | refine ⟨_, _, rfl, ?_, ?_⟩ | refine ⟨_, rfl, ?_⟩)) (by repeat (exact True.intro)) hE2 rfl rfl rfl rfl) rfl ?_
  refine AL.p (by exact mv5 rfl) rfl ?_
  refine AL.p (by exact g_extract (r := .own _ _) rfl rfl) rfl ?_
  refine AL.p (by exact g_extract (r := .d _) rfl rfl) rfl ?_
  refine AL.p (by exact as2 rfl) rfl ?_
  refine AL.p (by exact as1 rfl) rfl ?_
  refine AL.nil (th_n (AC.seq ?_))
  refine AC.weak (t := ⟨189, 600, [(1, .d (vB more)), (5, .ptr 200 0), (6, .d (vDls l)), (7, aI n), (8, .d (vTfs r)), (9, aT ok), (10, .own 100 r.length), (11, aT ok)], [(200, some (.cells 29 [aI s.net.places, .d (vTs s.net.ts), .d (vSigs s.sigs), .d (vLabs s.labs), aS (bstr s.start)])), (100, some (.arr 46 2 (tfL r)))]⟩) (Weak.ren _ [(200, _), (100, _)] hC rfl (by repeat (first | exact True.intro | refine And.intro ?_ ?_ | exact DLead.same | exact rfl | refine ⟨_, rfl, ?_⟩)) (by repeat (first | exact True.intro | refine And.intro ?_ ?_ | exact DLead.same | exact rfl | refine ⟨_, _, rfl, rfl, ?_⟩ | refine ⟨_, rfl, ?_⟩ | refine ⟨_, _, rfl, ?_, ?_⟩)) rfl rfl rfl) ?_
  refine AC.weak (Weak.freeze (i := 10) rfl rfl (ownl _ _) (ownt _ _)) ?_
  refine AC.region ?_
  refine AL.p (by exact mv1 rfl) rfl ?_
  refine AL.q (by exact h_pure en_sDrawVis rfl rfl (by repeat (first | exact rfl | exact DLead.same | refine ⟨_, _, rfl, ?_, ?_⟩)) hD2 rfl) rfl ?_
  refine AL.p (by exact mv5 rfl) rfl ?_
  refine AL.p (by exact g_extract (r := .agg _) rfl rfl) rfl ?_
  refine AL.p (by exact g_extract (r := .d _) rfl rfl) rfl ?_
  refine AL.q (by exact h_alloc rfl) rfl ?_
  refine AL.q (by exact h_store rfl rfl rfl rfl rfl rfl) rfl ?_
  refine AL.p (by exact as1 rfl) rfl ?_
  refine AL.nil (th_n (AC.seq (AC.region ?_)))
  refine AL.p (by exact g_load_ptrN rfl rfl rfl rfl rfl) rfl ?_
  refine AL.p (by exact mv1 rfl) rfl ?_
  refine AL.q (by exact h_pure en_iVis rfl rfl (by repeat (first | exact rfl | exact DLead.same | refine ⟨_, _, rfl, ?_, ?_⟩ | refine ⟨_, rfl, ?_⟩)) hV1 rfl) rfl ?_
  refine AL.p (by exact mv5 rfl) rfl ?_
  refine AL.p (by exact g_extract (r := .d _) rfl rfl) rfl ?_
  refine AL.p (by exact g_extract (r := .d _) rfl rfl) rfl ?_
  refine AL.p (by exact as1 rfl) rfl ?_
  refine AL.p (by exact as1 rfl) rfl ?_
  refine AL.nil (th_n (AC.seq (AC.region ?_)))
  refine AL.p (by exact g_load_ptrN rfl rfl rfl rfl rfl) rfl ?_
  refine AL.p (by exact mv1 rfl) rfl ?_
  refine AL.q (by exact h_pure en_sVis rfl rfl (by repeat (first | exact rfl | exact DLead.same | refine ⟨_, _, rfl, ?_, ?_⟩ | refine ⟨_, rfl, ?_⟩)) hV2 rfl) rfl ?_
  refine AL.p (by exact mv5 rfl) rfl ?_
  refine AL.p (by exact g_extract (r := .d _) rfl rfl) rfl ?_
  refine AL.p (by exact g_extract (r := .d _) rfl rfl) rfl ?_
  refine AL.p (by exact as1 rfl) rfl ?_
  refine AL.p (by exact as1 rfl) rfl ?_
  refine AL.nil (th_n (AC.seq (AC.region ?_)))
  refine AL.p (by exact mv1 rfl) rfl ?_
  refine AL.q (by exact h_pure en_sDrawFmt rfl rfl (by repeat (first | exact rfl | exact DLead.same | refine ⟨_, _, rfl, ?_, ?_⟩)) hD3 rfl) rfl ?_
  refine AL.p (by exact as1 rfl) rfl ?_
  refine AL.nil (th_n (AC.seq (AC.region ?_)))
  refine AL.p (by exact mv1 rfl) rfl ?_
  refine AL.pureI hI en_iFmtTR rfl rfl (by repeat (first | exact rfl | exact DLead.same | refine ⟨_, _, rfl, ?_, ?_⟩)) hT1 rfl rfl ?_
  refine AL.p (by exact mv5 rfl) rfl ?_
  refine AL.p (by exact g_extract (r := .d _) rfl rfl) rfl ?_
  refine AL.p (by exact g_extract (r := .d _) rfl rfl) rfl ?_
  refine AL.p (by exact as1 rfl) rfl ?_
  refine AL.p (by exact as1 rfl) rfl ?_
  refine AL.nil (th_n (AC.seq (AC.region ?_)))
  refine AL.p (by exact mv1 rfl) rfl ?_
  refine AL.q (by exact h_pure en_sFmtTR rfl rfl (by repeat (first | exact rfl | exact DLead.same | refine ⟨_, _, rfl, ?_, ?_⟩)) hT2 rfl) rfl ?_
  refine AL.p (by exact mv5 rfl) rfl ?_
  refine AL.p (by exact g_extract (r := .d _) rfl rfl) rfl ?_
  refine AL.p (by exact g_extract (r := .d _) rfl rfl) rfl ?_
  refine AL.p (by exact as1 rfl) rfl ?_
  refine AL.p (by exact as1 rfl) rfl ?_
  refine AL.nil (th_n (AC.seq (AC.region ?_)))
  refine AL.p (by exact mv1 rfl) rfl ?_
  refine AL.q (by exact h_pure en_iMaxGap rfl rfl (by repeat (first | exact rfl | exact DLead.same | refine ⟨_, _, rfl, ?_, ?_⟩)) hM1 rfl) rfl ?_
  refine AL.p (by exact mv5 rfl) rfl ?_
  refine AL.p (by exact g_extract (r := .d _) rfl rfl) rfl ?_
  refine AL.p (by exact g_extract (r := .d _) rfl rfl) rfl ?_
  refine AL.p (by exact as1 rfl) rfl ?_
  refine AL.p (by exact as1 rfl) rfl ?_
  refine AL.nil (th_n (AC.seq (AC.region ?_)))
  refine AL.p (by exact mv1 rfl) rfl ?_
  refine AL.q (by exact h_pure en_sMaxGap rfl rfl (by repeat (first | exact rfl | exact DLead.same | refine ⟨_, _, rfl, ?_, ?_⟩)) hM2 rfl) rfl ?_
  refine AL.p (by exact mv5 rfl) rfl ?_
  refine AL.p (by exact g_extract (r := .d _) rfl rfl) rfl ?_
  refine AL.p (by exact g_extract (r := .d _) rfl rfl) rfl ?_
  refine AL.p (by exact as1 rfl) rfl ?_
  refine AL.p (by exact as1 rfl) rfl ?_
  refine AL.nil (th_n (AC.seq (AC.seq ?_)))
  refine AC.weak (t := ⟨189, 900, [(5, .ptr 200 0), (6, .d (vDls l)), (7, aI n), (8, .d (vTfs r)), (9, aT ok), (10, .d (vTfs r)), (11, aT ok), (14, aS (bstr V.1)), (15, aT V.2), (16, aS (bstr V.1)), (17, aT V.2), (19, aS (bstr T.1)), (20, aT T.2), (21, aS (bstr T.1)), (22, aT T.2), (23, aI M.1), (24, aT M.2), (25, aI M.1), (26, aT M.2)], [(200, some (.cells 29 [aI s.net.places, .d (vTs s.net.ts), .d (vSigs s.sigs), .d (vLabs s.labs), aS (bstr s.start)]))]⟩) (Weak.ren _ [(200, 200)] hC rfl (by repeat (first | exact True.intro | refine And.intro ?_ ?_ | exact DLead.same | exact rfl | refine ⟨_, rfl, ?_⟩)) (by repeat (first | exact True.intro | refine And.intro ?_ ?_ | exact DLead.same | exact rfl | refine ⟨_, _, rfl, rfl, ?_⟩ | refine ⟨_, rfl, ?_⟩ | refine ⟨_, _, rfl, ?_, ?_⟩)) rfl rfl rfl) ?_
  refine AC.region ?_
  refine AL.p (by exact mv1 rfl) rfl ?_
  refine AL.p (by exact mv1 rfl) rfl ?_
  refine AL.p (by exact g_neBr rfl rfl rfl) rfl ?_
  refine AL.p (by exact mv1 rfl) rfl ?_
  refine AL.yes rfl rfl rfl ?_
  refine AL.p (by exact mv1 rfl) rfl ?_
  refine AL.yes rfl rfl rfl ?_
  refine AL.p (by exact mv1 rfl) rfl ?_
  refine AL.yes rfl rfl rfl ?_
  refine AL.q (by exact h_pure en_qSameTimed rfl rfl (by repeat (first | exact rfl | exact DLead.same | refine ⟨_, _, rfl, ?_, ?_⟩)) hQ1 rfl) rfl ?_
  refine AL.yes rfl rfl rfl ?_
  refine AL.p (by exact g_not rfl) rfl ?_
  refine AL.p (by exact g_pickF (r := .d _) rfl rfl) rfl ?_
  refine AL.p (by exact mv1 rfl) rfl ?_
  refine AL.yes rfl rfl rfl ?_
  refine AL.p (by exact mv1 rfl) rfl ?_
  refine AL.yes rfl rfl rfl ?_
  refine AL.p (by exact mv1 rfl) rfl ?_
  refine AL.yes rfl rfl rfl ?_
  refine AL.p (by exact g_neBr rfl rfl rfl) rfl ?_
  refine AL.p (by exact g_pickF (r := .d _) rfl rfl) rfl ?_
  refine AL.p (by exact mv1 rfl) rfl ?_
  refine AL.yes rfl rfl rfl ?_
  refine AL.p (by exact mv1 rfl) rfl ?_
  refine AL.yes rfl rfl rfl ?_
  refine AL.p (by exact mv1 rfl) rfl ?_
  refine AL.yes rfl rfl rfl ?_
  refine AL.p (by exact g_neSr rfl rfl rfl) rfl ?_
  refine AL.p (by exact g_pickF (r := .d _) rfl rfl) rfl ?_
  refine AL.p (by exact mv1 rfl) rfl ?_
  refine AL.yes rfl rfl rfl ?_
  refine AL.p (by exact mv1 rfl) rfl ?_
  refine AL.yes rfl rfl rfl ?_
  refine AL.p (by exact mv1 rfl) rfl ?_
  refine AL.yes rfl rfl rfl ?_
  refine AL.p (by exact g_neBr rfl rfl rfl) rfl ?_
  refine AL.p (by exact g_pickF (r := .d _) rfl rfl) rfl ?_
  refine AL.p (by exact mv1 rfl) rfl ?_
  refine AL.yes rfl rfl rfl ?_
  refine AL.p (by exact mv1 rfl) rfl ?_
  refine AL.yes rfl rfl rfl ?_
  refine AL.p (by exact mv1 rfl) rfl ?_
  refine AL.yes rfl rfl rfl ?_
  refine AL.p (by exact g_neSr rfl rfl rfl) rfl ?_
  refine AL.p (by exact g_pickF (r := .d _) rfl rfl) rfl ?_
  refine AL.p (by exact mv1 rfl) rfl ?_
  refine AL.yes rfl rfl rfl ?_
  refine AL.p (by exact mv1 rfl) rfl ?_
  refine AL.yes rfl rfl rfl ?_
  refine AL.p (by exact mv1 rfl) rfl ?_
  refine AL.yes rfl rfl rfl ?_
  refine AL.p (by exact g_neBr rfl rfl rfl) rfl ?_
  refine AL.p (by exact g_pickF (r := .d _) rfl rfl) rfl ?_
  refine AL.p (by exact mv1 rfl) rfl ?_
  refine AL.yes rfl rfl rfl ?_
  refine AL.p (by exact mv1 rfl) rfl ?_
  refine AL.yes rfl rfl rfl ?_
  refine AL.p (by exact mv1 rfl) rfl ?_
  refine AL.yes rfl rfl rfl ?_
  refine AL.p (by exact g_neIr rfl rfl rfl) rfl ?_
  refine AL.p (by exact g_pickF (r := .d _) rfl rfl) rfl ?_
  refine AL.nil (th_n ?_)
  refine AC.condF rfl ?_
  refine AC.skip (th_n (AC.seq (AC.seq (AC.region ?_))))
  refine AL.p (by exact mv1 rfl) rfl ?_
  refine AL.p (by exact g_not rfl) rfl ?_
  refine AL.p (by exact mv1 rfl) rfl ?_
  refine AL.caseGB rfl rfl (fun h1 => ?_) (fun h1 => ?_)
  ·refine AL.not rfl rfl rfl rfl rfl ?_
   refine AL.not rfl rfl rfl rfl rfl ?_
   refine AL.p (by exact g_pickT (r := .d _) rfl rfl) rfl ?_
   refine AL.nil (th_n ?_)
   refine AC.condT rfl ?_
   refine AC.seq (AC.region ?_)
   refine AL.p (by exact as1 rfl) rfl ?_
   refine AL.nil (th_n (AC.ret (th_r (bq_r ?_))))
   exact ret1 rfl rfl
  ·refine AL.yes rfl rfl rfl ?_
   refine AL.p (by exact mv1 rfl) rfl ?_
   refine AL.yes rfl rfl rfl ?_
   refine AL.p (by exact g_cmp rfl rfl rfl) rfl ?_
   refine AL.p (by exact g_pickF (r := .d _) rfl rfl) rfl ?_
   refine AL.nil (th_n ?_)
   refine AC.condD rfl (fun h2 => ?_) (fun h2 => ?_)
   ·refine AC.seq (AC.region ?_)
    refine AL.p (by exact as1 rfl) rfl ?_
    refine AL.nil (th_n (AC.ret (th_r (bq_r ?_))))
    exact ret1 rfl rfl
   ·refine AC.skip (th_n (AC.seq ?_))
    have hok : ok = true := by simpa using h1
    have hn0 : n ≠ 0 := by assumption
    subst hok
    obtain ⟨hL1, hL2, hL3, g, hL4, hL5⟩ := hLaw rfl hn0
    subst hL1
    rw [hL4] at hG0
    dsimp only at hG0
    refine AC.weak (t := ⟨189, 1200, [(5, .ptr 200 0), (6, .d (vDls l)), (7, aI n), (8, .d (vTfs r))], [(200, some (.cells 29 [aI s.net.places, .d (vTs s.net.ts), .d (vSigs s.sigs), .d (vLabs s.labs), aS (bstr s.start)]))]⟩) (Weak.ren _ [(200, 200)] hC rfl (by repeat (first | exact True.intro | refine And.intro ?_ ?_ | exact DLead.same | exact rfl | refine ⟨_, rfl, ?_⟩)) (by repeat (first | exact True.intro | refine And.intro ?_ ?_ | exact DLead.same | exact rfl | refine ⟨_, _, rfl, rfl, ?_⟩ | refine ⟨_, rfl, ?_⟩ | refine ⟨_, _, rfl, ?_, ?_⟩)) rfl rfl rfl) ?_
    refine AC.region ?_
    refine AL.p (by exact g_load_ptrN rfl rfl rfl rfl rfl) rfl ?_
    refine AL.p (by exact mv1 rfl) rfl ?_
    refine AL.p (by exact mv1 rfl) rfl ?_
    refine AL.p (by exact g_arith rfl rfl rfl (by exact wrap_i64 (by omega))) rfl ?_
    refine AL.q (by exact h_pure en_iEarl rfl rfl (by repeat (first | exact rfl | exact DLead.same | refine ⟨_, _, rfl, ?_, ?_⟩ | refine ⟨_, rfl, ?_⟩)) hE3 rfl) rfl ?_
    refine AL.p (by exact mv5 rfl) rfl ?_
    refine AL.p (by exact g_extract (r := .d _) rfl rfl) rfl ?_
    refine AL.p (by exact g_extract (r := .d _) rfl rfl) rfl ?_
    refine AL.p (by exact as1 rfl) rfl ?_
    refine AL.p (by exact as1 rfl) rfl ?_
    refine AL.nil (th_n (AC.seq (AC.region ?_)))
    refine AL.p (by exact mv1 rfl) rfl ?_
    refine AL.q (by exact h_pure en_iMaxGap rfl rfl (by repeat (first | exact rfl | exact DLead.same | refine ⟨_, _, rfl, ?_, ?_⟩)) hG0 rfl) rfl ?_
    refine AL.p (by exact mv5 rfl) rfl ?_
    refine AL.p (by exact g_extract (r := .d _) rfl rfl) rfl ?_
    refine AL.p (by exact g_extract (r := .d _) rfl rfl) rfl ?_
    refine AL.p (by exact as1 rfl) rfl ?_
    refine AL.p (by exact as1 rfl) rfl ?_
    refine AL.nil (th_n (AC.seq ?_))
    refine AC.weak (t := ⟨189, 1500, [(8, .d (vTfs r)), (27, .d (vTfs r2)), (28, aT true), (29, aI g), (30, aT true)], []⟩) (Weak.ren _ [] hC rfl (by repeat (first | exact True.intro | refine And.intro ?_ ?_ | exact DLead.same)) (by repeat (exact True.intro)) rfl rfl rfl) ?_
    have hlast : 0 < r.length → (tfL r)[r.length - 1]? = some [dI (fAt r (r.length - 1)).tm, dI (fAt r (r.length - 1)).t] := fun h => tfLA_get (by omega)
    have hlI : 0 < r.length → ((r.length : Int) - 1) = ((r.length - 1 : Nat) : Int) := by omega
    have hsl : ((tfL r).take r2.length).drop 0 = tfL r2 := by rw [List.drop_zero, ← List.map_take, hL3]
    refine AC.region ?_
    refine AL.p (by exact mv1 rfl) rfl ?_
    refine AL.p (by exact mv1 rfl) rfl ?_
    refine AL.yes rfl rfl rfl ?_
    refine AL.p (by exact mv1 rfl) rfl ?_
    refine AL.p (by exact g_pickT (r := .d _) rfl rfl) rfl ?_
    refine AL.p (by exact mv1 rfl) rfl ?_
    refine AL.yes rfl rfl rfl ?_
    refine AL.p (by exact mv1 rfl) rfl ?_
    refine AL.yes rfl rfl rfl ?_
    refine AL.p (by exact g_len_view (k := r2.length) rfl rfl (tfL_len _)) rfl ?_
    refine AL.yes rfl rfl rfl ?_
    refine AL.p (by exact mv1 rfl) rfl ?_
    refine AL.yes rfl rfl rfl ?_
    refine AL.p (by exact g_len_view (k := r.length) rfl rfl (tfL_len _)) rfl ?_
    refine AL.yes rfl rfl rfl ?_
    refine AL.p (by exact g_leIr rfl rfl (by omega)) rfl ?_
    refine AL.p (by exact g_pickT (r := .d _) rfl rfl) rfl ?_
    refine AL.p (by exact mv1 rfl) rfl ?_
    refine AL.yes rfl rfl rfl ?_
    refine AL.p (by exact mv1 rfl) rfl ?_
    refine AL.yes rfl rfl rfl ?_
    refine AL.p (by exact mv1 rfl) rfl ?_
    refine AL.yes rfl rfl rfl ?_
    refine AL.p (by exact g_len_view (k := r2.length) rfl rfl (tfL_len _)) rfl ?_
    refine AL.yes rfl rfl rfl ?_
    refine AL.p (by exact g_slice_view (r := tfL r2) (l := 0) (h := r2.length) rfl rfl rfl rfl .none (.some rfl rfl) (Nat.zero_le _) (by rw [tfL_len]; exact hL2) hsl) rfl ?_
    refine AL.yes rfl rfl rfl ?_
    refine AL.p (by exact mv1 rfl) rfl ?_
    refine AL.yes rfl rfl rfl ?_
    refine AL.q (by exact h_pure en_qSameTimed rfl rfl (by repeat (first | exact rfl | exact DLead.same | refine ⟨_, _, rfl, ?_, ?_⟩)) hQ2 rfl) rfl ?_
    refine AL.p (by exact g_pickT (r := .d _) rfl rfl) rfl ?_
    refine AL.p (by exact mv1 rfl) rfl ?_
    refine AL.yes rfl rfl rfl ?_
    refine AL.p (by exact mv1 rfl) rfl ?_
    refine AL.yes rfl rfl rfl ?_
    refine AL.p (by exact g_len_view (k := r.length) rfl rfl (tfL_len _)) rfl ?_
    refine AL.yes rfl rfl rfl ?_
    refine AL.p (by exact g_cmp rfl rfl rfl) rfl ?_
    refine AL.yes rfl rfl rfl ?_
    refine AL.p (by exact mv1 rfl) rfl ?_
    refine AL.caseG rfl rfl (fun h3 => ?_) (fun h3 => ?_)
    ·refine AL.not rfl rfl rfl rfl rfl ?_
     refine AL.not rfl rfl rfl rfl rfl ?_
     refine AL.not rfl rfl rfl rfl rfl ?_
     refine AL.not rfl rfl rfl rfl rfl ?_
     refine AL.not rfl rfl rfl rfl rfl ?_
     refine AL.not rfl rfl rfl rfl rfl ?_
     refine AL.not rfl rfl rfl rfl rfl ?_
     refine AL.not rfl rfl rfl rfl rfl ?_
     refine AL.not rfl rfl rfl rfl rfl ?_
     refine AL.yes rfl rfl rfl ?_
     refine AL.p (by exact g_pickT (r := .d _) rfl rfl) rfl ?_
     refine AL.p (by exact g_pickT (r := .d _) rfl rfl) rfl ?_
     refine AL.p (by exact as1 rfl) rfl ?_
     refine AL.nil (th_n (AC.ret (bq_r ?_)))
     exact ret1 rfl rfl
    ·refine AL.yes rfl rfl rfl ?_
     refine AL.p (by exact mv1 rfl) rfl ?_
     refine AL.yes rfl rfl rfl ?_
     refine AL.p (by exact mv1 rfl) rfl ?_
     refine AL.yes rfl rfl rfl ?_
     refine AL.p (by exact mv1 rfl) rfl ?_
     refine AL.yes rfl rfl rfl ?_
     refine AL.p (by exact g_len_view (k := r.length) rfl rfl (tfL_len _)) rfl ?_
     refine AL.yes rfl rfl rfl ?_
     refine AL.p (by exact g_arith rfl rfl rfl (by exact wrap_i64 (by omega))) rfl ?_
     refine AL.yes rfl rfl rfl ?_
     refine AL.p (by exact g_ia_view (i := r.length - 1) rfl rfl rfl rfl rfl (hlI (by omega)) (hlast (by omega))) rfl ?_
     refine AL.yes rfl rfl rfl ?_
     refine AL.p (by exact g_fa_ref rfl rfl rfl rfl rfl rfl) rfl ?_
     refine AL.yes rfl rfl rfl ?_
     refine AL.p (by exact g_load_ref rfl rfl rfl) rfl ?_
     refine AL.yes rfl rfl rfl ?_
     refine AL.p (by exact g_leIr rfl rfl (hL5 (by omega))) rfl ?_
     refine AL.yes rfl rfl rfl ?_
     refine AL.p (by exact g_pickF (r := .d _) rfl rfl) rfl ?_
     refine AL.p (by exact g_pickT (r := .d _) rfl rfl) rfl ?_
     refine AL.p (by exact as1 rfl) rfl ?_
     refine AL.nil (th_n (AC.ret (bq_r ?_)))
     exact ret1 rfl rfl
theorem FnSoonest_spec (code more : List UInt8) (hc : code.length ≤ 9223372036854775807) (hm : more.length ≤ 9223372036854775807) : ASpecI powI Tryz.prog 3 [.d (vB code), .d (vB more)] [] (Pure1 (aT true)) := by
 obtain ⟨s, l, n, hs, hl, hn, hD1⟩ := sDrawEarl_ex code
 obtain ⟨s2, run2, hs2, hr2, hD2⟩ := sDrawVis_ex more
 obtain ⟨w, hw, hD3⟩ := sDrawFmt_ex more
 exact FnSoonest_gen code more s s2 l n run2 w hc hm hs hl hn hs2 hr2 hw hD1 hD2 hD3
end Go.Proofs.YtmacodlgmebikaaGreatDoor
