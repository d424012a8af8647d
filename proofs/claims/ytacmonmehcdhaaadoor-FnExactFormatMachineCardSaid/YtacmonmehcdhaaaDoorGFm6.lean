/- Contracts of the functions of the program and of the reference, each proved by a walk through its code. -/
import Derived.WalkKit
import Derived.WalkSpells
import Derived.WalkLawsBesides
import Derived.Deep.Draws
import Derived.Lib.Hide
import Derived.Maps.AppendAt
import Derived.OwnWalk
import Derived.Deep.MidRow
import Derived.Laws.ResultCell
import Derived.Deep.Upon
import Derived.Great.FillDense
import Derived.Laws.Tables
import Derived.Laws.BytesArg
import Derived.Laws.MakeOwn
import Derived.Great.BuildSlice
import Derived.ArgAppend
import Derived.Deep.AppendSrc
import Derived.Test.YtacmonmehcdhaaaDoorProg
import Derived.KernelRfl
import Derived.Orders
import Derived.Laws.IdiomStrings
import Derived.Lib.AppendZerosOnto
import Derived.ProofKit
import Derived.OpenShut
import Derived.Laws.StructEq
import Derived.ChangeKeysEq
import Derived.Sort.Grow
import Derived.Shelf.Strings.Builder1
import Derived.Shelf.Strings.Builder2
import Derived.Shelf.Strings.OnBuilder
import Derived.Shelf.Strconv.Itoa0
import Derived.Shelf.Strconv.Itoa1
import Derived.Shelf.LaysM
import Derived.Shelf.Strconv.Itoa2
import Derived.Shelf.Strconv.Itoa3
import Derived.Test.YtacmonmehcdhaaaDoorRows
import Derived.Test.YtacmonmehcdhaaaDoorChecked
import Derived.Below
import Derived.Test.YtacmonmehcdhaaaDoorGFm5
set_option linter.all false
set_option maxRecDepth 20000
namespace Go.Proofs.YtacmonmehcdhaaaDoor
open Go.RowKit

section
variable {P : Program} [PT P]
variable {s : ASt} {dst : Option Nat} {ty : Nat} {pos : String} {af : Array Edge} {gd : Option (Nat × Bool)} {x y : Operand} {t : Nat}
theorem g_buildC {parts : Array (Nat × Operand)} {ks : List (Nat × ByteArray)} {out : List ByteArray} (hev : parts.toList.map (fun p => (p.1, s.ev p.2)) = ks.map (fun p => (p.1, aS p.2))) (hb : P.built t (ks.map fun p => (p.1, Value.string p.2)) = some (out.map Value.string).toArray) (hl : out.all (fun b => Nat.ble b.size 1000) = true) :
    GOp P [] s ⟨dst, .build t parts, ty, pos, af, gd⟩ (.agg (out.map fun b => aS b)) := by
  refine ⟨fun s' ha C U a w m hR => ?_⟩
  refine ⟨.agg (out.map Value.string).toArray, ?_, .agg (by simp) (fun i c hc => ?_) (fun i hi => ?_)⟩
  · have hq : parts.toList.map (fun p => (p.1, a.eval p.2)) = ks.map fun p => (p.1, Value.string p.2) := by
      apply List.ext_getElem?
      intro i
      have hi := congrArg (fun l => l[i]?) hev
      simp only [List.getElem?_map] at hi ⊢
      cases hp : parts.toList[i]? with
      | none =>
        rw [hp] at hi
        cases hk : ks[i]? with
        | none => rfl
        | some k => rw [hk] at hi; simp at hi
      | some p =>
        rw [hp] at hi
        cases hk : ks[i]? with
        | none => rw [hk] at hi; simp at hi
        | some k =>
          rw [hk] at hi
          simp only [Option.map_some, Option.some.injEq, Prod.mk.injEq] at hi
          obtain ⟨e1, e2⟩ := hi
          have hmem : p.2 ∈ (Op.build t parts).operands := by
            simp only [Op.operands, List.mem_toArray, List.mem_map]
            exact ⟨p, List.mem_of_getElem? hp, rfl⟩
          have h1 := hR.ev p.2
          rw [ha.2.1 _ hmem, e2] at h1
          simp only [Option.map_some]
          rw [h1.val_eq.1, e1]
    have := run_build (P := P) w t (parts.map fun p => (p.1, a.eval p.2)) (out.map Value.string).toArray (by simpa [hq] using hb)
    simp only [execOp, Sem.run_bind]
    rw [show (parts.map fun (i, x) => (i, a.eval x)) = parts.map fun p => (p.1, a.eval p.2) from rfl, this]
    simp
  · rw [List.getElem?_map, Option.map_eq_some_iff] at hc
    obtain ⟨b, hb1, rfl⟩ := hc
    have hv : ((out.map Value.string).toArray).getD i undef = .string b := by simp [Array.getD_eq_getD_getElem?, hb1]
    rw [hv]
    refine .d (.val ?_)
    have := List.all_eq_true.1 hl b (List.mem_of_getElem? hb1)
    have : b.size ≤ 1000 := by simpa using this
    show b.size ≤ maxLen
    simp only [maxLen]; omega
  · have hi' : i < out.length := by simpa using hi
    have hv : ((out.map Value.string).toArray).getD i undef = .string out[i] := by simp [Array.getD_eq_getD_getElem?, List.getElem?_eq_getElem hi']
    rw [hv]; rfl
theorem g_indexRow {n e i : Nat} {out : List ByteArray} {I : Int} {b : ByteArray} (ht : P.underlying t = some (.array n e)) (hp : P.plainKey e = true) (hc : P.cellsOf e = 1) (hx : s.ev x = .agg (out.map fun b => aS b)) (hy : s.ev y = aI I) (hI : I = (i : Int)) (hn : i < n) (hi : out[i]? = some b) :
    GOp P [] s ⟨dst, .index t x y, ty, pos, af, gd⟩ (aS b) := by
  refine ⟨fun s' ha C U a w m hR => ?_⟩
  have h1 := hR.ev x
  have h2 := hR.ev y
  rw [ha.2.1 x (by simp [Op.operands]), hx] at h1
  rw [ha.2.1 y (by simp [Op.operands]), hy] at h2
  have e2 := h2.val_eq.1
  generalize hv : a.eval x = v at h1
  cases h1 with
  | agg q1 q2 q3 =>
    rename_i vs
    have hb := q2 i (aS b) (by rw [List.getElem?_map, hi]; rfl)
    obtain ⟨hbv, hbo⟩ := hb.val_eq
    refine ⟨.string b, ?_, .d (.val hbo)⟩
    have hcond : (0 : Int) ≤ (i : Int) ∧ (i : Int) < (n : Int) := by omega
    obtain ⟨inf, hinf, hsz⟩ := info_of_cells (P := P) (t := e) (by omega)
    have hs1 : inf.size = 1 := by rw [hsz, hc]
    have hsize : ∀ w : World, (sizeOf e).run P w = .ok 1 w := fun w => by rw [run_sizeOf _ hinf, hc]
    have hi2 : i < vs.size := by have := (List.getElem?_eq_some_iff.1 hi).1; rw [q1, List.length_map]; exact this
    have hvs : vs[i * 1]? = some (.string b) := by
      rw [Nat.mul_one, Array.getElem?_eq_getElem hi2]
      rw [Array.getD_eq_getD_getElem?, Array.getElem?_eq_getElem hi2] at hbv
      simpa using hbv
    have hp1 : ∀ w : World, (part e vs (i * 1)).run P w = .ok (.string b) w := fun w => run_part_plain _ hp hvs
    simp only [execOp, Sem.run_bind, hv, e2, hI, Instr.index, asIntOf, Sem.run_pure, Result.andThen_ok, run_underlying ht, if_pos hcond, hsize, Int.toNat_natCast, hp1]
end
/-- A library function of one number that gives a text. -/
theorem ASpec.ofNum {P : Program} {g : FuncId} {n : Int} {b : ByteArray} (hb : b.size ≤ 1000) (h : ∀ w, Calls P g #[.int .i64 n] w fun e w' => e = .returned (.string b) ∧ w' = w) : ASpec P g [aI n] [] (Pure1 (aS b)) := by
  intro w m Fin vs hfin hn ha hch hinj hm
  have h0 := ha 0 _ rfl
  have hv : vs = #[.int .i64 n] := by
    apply Array.ext
    · rw [hn]; rfl
    · intro i hi1 hi2
      match i with
      | 0 => have := h0.val_eq.1; rw [Array.getD_eq_getD_getElem?, Array.getElem?_eq_getElem hi1] at this; simpa using this
      | i + 1 => simp at hi2
  subst hv
  refine (h w).mono ?_
  rintro e w' ⟨rfl, rfl⟩
  refine ⟨_, _, [], m, Fin, rfl, ⟨rfl, rfl⟩, fun _ _ _ h => h, fun id hid => hm id (by simp only [List.length_nil] at hid ⊢; omega), fun k => ?_, ⟨rfl, rfl, rfl, Nat.le_refl _, fun _ _ _ => rfl⟩, .d (.val (by show b.size ≤ maxLen; simp only [maxLen]; omega)), fun id c hc => by simp [getL] at hc, fun id id' c c' p p' b hc => by simp [getL] at hc⟩
  constructor
  · intro hk
    exact ⟨.inl hk, (hfin k hk).1, fun id c p hc => by simp [getL] at hc⟩
  · rintro ⟨h | ⟨id, c, p, hc, _⟩ | h, hlt, _⟩
    · exact h
    · simp [getL] at hc
    · omega
/-- strings.Join of a list of texts that is not empty. -/
theorem ASpec.ofJoin {P : Program} {g : FuncId} {te : Nat} {xs : List ByteArray} {sep b : ByteArray} (h0 : xs ≠ []) (hx : xs.length ≤ 1000000) (hb : b.size ≤ 100000000)
    (h : ∀ (bk o c : Nat) (w : World), (∀ (j : Nat) x, xs[j]? = some x → w.cell? ⟨bk, o + j, none⟩ = some (.string x)) → bk < w.heap.size → xs.length ≤ 140737488355328 → xs.length ≤ c → Calls P g #[.slice (some ⟨bk, o, none⟩) xs.length c, .string sep] w fun e w' => e = .returned (.string b) ∧ Below w.heap.size w w') :
    ASpec P g [.d (.view te 1 (xs.map fun x => [dS x])), aS sep] [] (Pure1 (aS b)) := by
  intro w m Fin vs hfin hn ha hch hinj hm
  have hv0 := ha 0 _ rfl
  have hv1 := ha 1 _ rfl
  have hv : vs = #[vs.getD 0 undef, .string sep] := by
    apply Array.ext
    · rw [hn]; rfl
    · intro i hi1 hi2
      match i with
      | 0 => simp [Array.getD_eq_getD_getElem?, Array.getElem?_eq_getElem hi1]
      | 1 => have := hv1.val_eq.1; rw [Array.getD_eq_getD_getElem?, Array.getElem?_eq_getElem hi1] at this; simpa using this
      | i + 2 => simp at hi2; omega
  generalize vs.getD 0 undef = v0 at hv0 hv
  subst hv
  have hpos : 0 < xs.length := List.length_pos_iff.2 h0
  cases hv0 with
  | d hd =>
    generalize hels : (xs.map fun x => [dS x]) = els at hd
    have hlen : els.length = xs.length := by rw [← hels, List.length_map]
    cases hd with
    | nil => rw [List.length_nil] at hlen; omega
    | empty => rw [List.length_nil] at hlen; omega
    | view hF hbk g1 g2 g3 g4 g5 =>
      rename_i e2 bk off cap arr fz
      have hcells : ∀ (j : Nat) x, xs[j]? = some x → w.cell? ⟨bk, off + j, none⟩ = some (.string x) := by
        intro j x hj
        have hjl := (List.getElem?_eq_some_iff.1 hj).1
        have hd := g5 j [dS x] 0 (dS x) (by rw [← hels, List.getElem?_map, hj]; rfl) rfl
        have e5 := hd.val_is.1
        rw [Nat.mul_one, Nat.add_zero] at e5
        have hlt : off + j < arr.size := by omega
        unfold World.cell?
        simp only [hbk, Option.isSome_none, Bool.false_eq_true, if_false]
        rw [Array.getD_eq_getD_getElem?, Array.getElem?_eq_getElem hlt] at e5
        rw [Array.getElem?_eq_getElem hlt]
        simp only [Option.getD_some] at e5
        rw [e5]
      have hblt : bk < w.heap.size := lt_of_block hbk
      have hcap : xs.length ≤ cap := by omega
      have := h bk off cap w hcells hblt (by omega) hcap
      rw [← hlen] at this
      refine this.mono ?_
      rintro e w' ⟨rfl, hB⟩
      refine ⟨_, _, [], m, fun k => (Fin k ∨ (∃ id c p, getL id ([] : List (Nat × Chunk)) = some c ∧ m id = some p ∧ occ p c k) ∨ w.heap.size ≤ k) ∧ k < w'.heap.size ∧ ∀ id c p, getL id ([] : List (Nat × Chunk)) = some c → m id = some p → ¬ occ p c k, rfl, ⟨rfl, rfl⟩, fun _ _ _ h => h, fun id hid => hm id (by simp only [List.length_nil] at hid ⊢; omega), fun k => Iff.rfl, ⟨hB.os, hB.tape, hB.output, hB.size, fun k hk _ => hB.block k hk⟩, .d (.val (by show b.size ≤ maxLen; simp only [maxLen]; omega)), fun id c hc => by simp [getL] at hc, fun id id' c c' p p' b hc => by simp [getL] at hc⟩
end Go.Proofs.YtacmonmehcdhaaaDoor

set_option linter.all false
set_option maxRecDepth 20000
namespace Go.Proofs.YtacmonmehcdhaaaDoor
open Go.RowKit

section
variable {P : Program} [PT P] {s : ASt} {dst : Option Nat} {ty : Nat} {pos : String} {af : Array Edge} {gd : Option (Nat × Bool)} {x y : Operand} {xt yt : Nat}
theorem g_saddB {a b : List UInt8} (hx : s.ev x = aS (bstr a)) (hy : s.ev y = aS (bstr b)) (hl : a.length + b.length ≤ 1000000) : GOp P [] s ⟨dst, .binOp .add xt x y yt, ty, pos, af, gd⟩ (aS (bstr (a ++ b))) := by
  rw [← bstr_append]
  exact g_sadd hx hy (by rw [bstr_size, bstr_size]; omega)
end
def numT (n : Int) : List UInt8 := [UInt8.ofNat (48 + n.toNat)]
theorem numT_len (n : Int) : (numT n).length = 1 := rfl
def edgeL (s : List Sig) (x : Lab) : List UInt8 := (sAt s x.sig.toNat).name ++ [bif x.up then 43 else 45]
def wordsL (s : List Sig) (l : List Lab) : List UInt8 := (l.map fun x => [32] ++ edgeL s x).flatten
def markL (k : Int) : List UInt8 := if k = 1 then [63] else [33]
def sigT (s : Sig) : List UInt8 := s.name ++ markL s.kind
def headS (l : List Sig) : List UInt8 := Lib.join (l.map sigT) [32]
def burT (s : List Sig) (b : Bur) : List UInt8 := [59, 32] ++ numT b.from_ ++ [62] ++ numT b.to_ ++ wordsL s b.inn ++ [32, 47] ++ wordsL s b.out
def hdT (m : Mach) : List UInt8 := headS m.sigs ++ ([59, 32] ++ numT m.states ++ [32] ++ m.first)
def textK (m : Mach) (k : Nat) : List UInt8 := hdT m ++ ((m.burs.take k).map (burT m.sigs)).flatten
def textM (m : Mach) : List UInt8 := textK m m.burs.length
theorem wordsL_take (s : List Sig) {l : List Lab} {k : Nat} (hk : k < l.length) : wordsL s (l.take (k + 1)) = wordsL s (l.take k) ++ ([32] ++ edgeL s l[k]) := by
  unfold wordsL
  rw [List.take_add_one, List.getElem?_eq_getElem hk, List.map_append, List.flatten_append]
  simp
theorem edgeL_len {s : List Sig} {x : Lab} (hn : ∀ t, t ∈ s → t.name.length ≤ 6) (hx : 0 ≤ x.sig ∧ x.sig < s.length) : (edgeL s x).length ≤ 7 := by
  unfold edgeL
  have h : x.sig.toNat < s.length := by omega
  rw [sAt_nat h, List.length_append]
  have := hn _ (List.getElem_mem h)
  simp only [List.length_cons, List.length_nil]; omega
theorem wordsL_len {s : List Sig} (hn : ∀ t, t ∈ s → t.name.length ≤ 6) : ∀ {l : List Lab} (_ : ∀ x, x ∈ l → 0 ≤ x.sig ∧ x.sig < s.length), (wordsL s l).length ≤ 8 * l.length
  | [], _ => by simp [wordsL]
  | x :: l, h => by
    have h1 := edgeL_len hn (h x (List.mem_cons_self ..))
    have h2 := wordsL_len hn (l := l) (fun y hy => h y (List.mem_cons_of_mem _ hy))
    unfold wordsL at h2 ⊢
    simp only [List.map_cons, List.flatten_cons, List.length_append, List.length_cons, List.length_nil] at h2 ⊢
    omega
theorem headS_succ {l : List Sig} {k : Nat} (hk : k < l.length) (h0 : 0 < k) : headS (l.take (k + 1)) = headS (l.take k) ++ [32] ++ sigT l[k] := by
  unfold headS
  cases l with
  | nil => simp at hk
  | cons x r =>
    obtain ⟨q, rfl⟩ : ∃ q, k = q + 1 := ⟨k - 1, by omega⟩
    have hq : q < r.length := by simpa using hk
    have hr : (r.map sigT)[q]? = some (sigT r[q]) := by rw [List.getElem?_map, List.getElem?_eq_getElem hq]; rfl
    rw [List.take_succ_cons, List.take_succ_cons, List.map_cons, List.map_cons, Lib.join_cons, Lib.join_cons, List.map_take, List.map_take, Lib.joinTail_take_succ _ _ _ _ hr]
    simp [List.append_assoc]
theorem headS_one {l : List Sig} (h : 0 < l.length) : headS (l.take 1) = sigT l[0] := by
  unfold headS
  cases l with
  | nil => simp at h
  | cons x r => simp [Lib.join_one]
theorem sigT_len {s : Sig} (h : s.name.length ≤ 6) : (sigT s).length ≤ 7 := by
  unfold sigT markL
  rw [List.length_append]
  split <;> simp only [List.length_cons, List.length_nil] <;> omega
theorem headS_len {l : List Sig} (hn : ∀ t, t ∈ l → t.name.length ≤ 6) : ∀ k, k ≤ l.length → (headS (l.take k)).length ≤ 8 * k
  | 0, _ => by simp [headS, Lib.join_nil]
  | k + 1, hk => by
    have ih := headS_len hn k (by omega)
    have hs := sigT_len (hn _ (List.getElem_mem (show k < l.length by omega)))
    rcases Nat.eq_zero_or_pos k with rfl | h
    · rw [headS_one (by omega)]; omega
    · rw [headS_succ (by omega) h]
      simp only [List.length_append, List.length_cons, List.length_nil]; omega
theorem textK_succ {m : Mach} {k : Nat} (hk : k < m.burs.length) : textK m (k + 1) = textK m k ++ burT m.sigs m.burs[k] := by
  unfold textK
  rw [List.take_add_one, List.getElem?_eq_getElem hk, List.map_append, List.flatten_append]
  simp [List.append_assoc]
theorem goodM_fm {m : Mach} (h : goodM m = true) : FormM m := by
  unfold goodM at h
  rw [Bool.and_eq_true] at h
  exact formB_iff h.1
/-- What is so of a machine whose text is asked for. -/
structure TxtM (m : Mach) : Prop where
  n : ∀ t, t ∈ m.sigs → t.name.length ≤ 6
  sl : 1 ≤ m.sigs.length ∧ m.sigs.length ≤ 8
  k : ∀ t, t ∈ m.sigs → t.kind = 1 ∨ t.kind = 2
  st : 1 ≤ m.states ∧ m.states ≤ 6
  bl : m.burs.length ≤ 6
  f : m.first.length ≤ 8
  b : ∀ b, b ∈ m.burs → (0 ≤ b.from_ ∧ b.from_ < 6) ∧ (0 ≤ b.to_ ∧ b.to_ < 6) ∧ b.inn.length ≤ 8 ∧ b.out.length ≤ 8 ∧ (∀ x, x ∈ b.inn → 0 ≤ x.sig ∧ x.sig < m.sigs.length) ∧ ∀ x, x ∈ b.out → 0 ≤ x.sig ∧ x.sig < m.sigs.length
theorem TxtM.of {m : Mach} (h : FormM m) : TxtM m := by
  have hsl := h.sl
  have hst := h.st
  have hf := (bits_BitC h.f).1
  have hs := h.sb
  unfold sigsB at hs
  rw [Bool.and_eq_true] at hs
  refine ⟨fun t ht => ?_, hsl, h.sk, hst, h.bl, by omega, fun b hb => ?_⟩
  · obtain ⟨j, hj, rfl⟩ := List.getElem_of_mem ht
    have := allK_iff.1 hs.1 j hj
    unfold sigK at this
    rw [sAt_nat hj, Bool.and_eq_true] at this
    have h1 := this.1
    unfold nameB at h1
    rw [Bool.and_eq_true] at h1
    have := inI_iff.1 h1.2
    omega
  · have hB := burB_iff (h.b b hb)
    have h1 := labsB_len hB.2.2.2.1
    have h2 := labsB_len hB.2.2.2.2
    exact ⟨by omega, by omega, by omega, by omega, labsB_in hB.2.2.2.1, labsB_in hB.2.2.2.2⟩
theorem burT_len {m : Mach} (h : TxtM m) {b : Bur} (hb : b ∈ m.burs) : (burT m.sigs b).length ≤ 140 := by
  obtain ⟨-, -, h1, h2, h3, h4⟩ := h.b b hb
  have w1 := wordsL_len h.n h3
  have w2 := wordsL_len h.n h4
  unfold burT
  simp only [List.length_append, List.length_cons, List.length_nil, numT_len]; omega
theorem textK_len {m : Mach} (h : TxtM m) : ∀ k, k ≤ m.burs.length → (textK m k).length ≤ 100 + 140 * k
  | 0, _ => by
    have := headS_len h.n m.sigs.length (Nat.le_refl _)
    rw [List.take_length] at this
    have h1 := h.sl
    have h2 := h.f
    unfold textK hdT
    simp only [List.take_zero, List.map_nil, List.flatten_nil, List.length_append, List.length_cons, List.length_nil, numT_len]; omega
  | k + 1, hk => by
    have ih := textK_len h k (by omega)
    have hb := burT_len h (List.getElem_mem (show k < m.burs.length by omega))
    rw [textK_succ (by omega), List.length_append]; omega
theorem kind_at {k : Int} (h : k = 1 ∨ k = 2) : ∃ q : Nat, k = (q : Int) ∧ 1 ≤ q ∧ q ≤ 2 ∧ (bstr [63, 33]).extract (q - 1) q = bstr (markL k) ∧ ([bstr [], bstr [63], bstr [33]] : List ByteArray)[q]? = some (bstr (markL k)) := by
  rcases h with rfl | rfl
  · exact ⟨1, rfl, by omega, by omega, rfl, rfl⟩
  · exact ⟨2, rfl, by omega, by omega, rfl, rfl⟩
theorem itoa_spec (n : Int) (h : 0 ≤ n ∧ n < 10) : ASpec Tryd.prog 17 [aI n] [] (Pure1 (aS (bstr (numT n)))) := by
  obtain ⟨i, rfl⟩ : ∃ i : Nat, n = i := ⟨n.toNat, by omega⟩
  have e : Lib.decDigits i = numT (i : Int) := by unfold Lib.decDigits numT; rw [dif_pos (by omega), Int.toNat_natCast]
  refine ASpec.ofNum (by rw [bstr_size, numT_len]; omega) fun w => ?_
  have := Tryd.strconv_Itoa_small i (by omega) w
  rw [e] at this
  exact this
theorem en_itoa : Enters Tryd.prog 17 := enters_of Tryd.func17 rfl rfl
theorem en_sJoin : Enters Tryd.prog 16 := enters_of Tryd.func16 rfl rfl
theorem sJoin_spec (l : List Sig) (h0 : 0 < l.length) (hl : l.length ≤ 8) (hn : ∀ t, t ∈ l → t.name.length ≤ 6) : ASpec Tryd.prog 16 [.d (.view 9 1 ((l.map sigT).map fun x => [dS (bstr x)])), aS (bstr [32])] [] (Pure1 (aS (bstr (headS l)))) := by
  have hh := headS_len hn l.length (Nat.le_refl _)
  rw [List.take_length] at hh
  have e1 : ((l.map sigT).map fun x => [dS (bstr x)]) = ((l.map sigT).map bstr).map fun x => [dS x] := by simp
  have e2 : (((l.map sigT).map bstr).map (·.data.toList)) = l.map sigT := by simp [bstr_data]
  rw [e1]
  refine ASpec.ofJoin (by cases l with | nil => simp at h0 | cons _ _ => simp) (by simp; omega) (by rw [bstr_size]; omega) fun bk o c w hc hb hN hcap => ?_
  have := Tryd.strings_Join bk o c ((l.map sigT).map bstr) (bstr [32]) w hc hb hN hcap (by rw [e2]; show (headS l).length ≤ _; omega)
  rw [e2] at this
  exact this
set_option maxHeartbeats 1000000 in
theorem l1Num_spec (n : Int) (h : 0 ≤ n ∧ n < 10) : ASpec Tryd.prog 27 [aI n] [] (Pure1 (aS (bstr (numT n)))) := by
  have hu8 : ((UInt8.ofNat (48 + n.toNat)).toNat : Int) = 48 + n := by rw [UInt8.toNat_ofNat']; omega
  refine ASpec.of Tryd.func27 rfl rfl fun C hC => ?_
  refine AC.seq ?_
  refine AC.region ?_
  refine AL.p (by exact as1 rfl) rfl ?_
  refine AL.nil ?_
  refine th_n ?_
  refine AC.seq ?_
  refine AC.seq ?_
  refine AC.region ?_
  refine AL.p (by exact mv1 rfl) rfl ?_
  refine AL.p (by exact g_cmp rfl rfl rfl) rfl ?_
  refine AL.nil ?_
  refine th_n ?_
  refine AC.condD rfl (fun h0 => ?_) (fun h0 => ?_)
  · refine AC.seq ?_
    refine AC.region ?_
    refine AL.p (by exact mv1 rfl) rfl ?_
    refine AL.p (by exact g_arith rfl rfl rfl (by exact wrap_i64 (by omega))) rfl ?_
    refine AL.p (by exact g_convI (c := 48 + n) rfl rfl rfl (wrap_u8 (by omega))) rfl ?_
    refine AL.q (by exact h_lit rfl rfl rfl rfl rfl rfl rfl rfl) rfl ?_
    refine AL.p (by exact g_strOfBytes (l := numT n) rfl rfl rfl rfl rfl (by show _ = [[DV.val (.int .u8 ((UInt8.ofNat (48 + n.toNat)).toNat : Int))]]; rw [hu8]) rfl) rfl ?_
    refine AL.p (by exact as1 rfl) rfl ?_
    refine AL.nil ?_
    refine th_n ?_
    refine AC.ret ?_
    refine th_r ?_
    refine bq_r ?_
    exact ret1 rfl rfl
  · refine AC.skip ?_
    refine th_n ?_
    refine AC.seq ?_
    exact absurd h.2 h0
theorem en_l1Num : Enters Tryd.prog 27 := enters_of Tryd.func27 rfl rfl
theorem l24Word_spec (s : List Sig) (x : Lab) (hx : 0 ≤ x.sig ∧ x.sig < s.length) (hn : ∀ t, t ∈ s → t.name.length ≤ 6) : ASpec Tryd.prog 44 [.d (vSigs s), labA x] [] (Pure1 (aS (bstr (edgeL s x)))) := by
  have hI : x.sig = ((x.sig.toNat : Nat) : Int) := by omega
  have h2 : x.sig.toNat < s.length := by omega
  have hget : (sigsL s)[x.sig.toNat]? = some (sigD (sAt s x.sig.toNat)) := by rw [sAt_nat h2]; exact sigsL_get h2
  have hnl : (sAt s x.sig.toNat).name.length ≤ 6 := by rw [sAt_nat h2]; exact hn _ (List.getElem_mem h2)
  refine ASpec.of Tryd.func44 rfl rfl fun C hC => ?_
  refine AC.seq ?_
  refine AC.region ?_
  refine AL.q (by exact h_boxF rfl rfl) rfl ?_
  refine AL.p (by exact as1 rfl) rfl ?_
  refine AL.nil ?_
  refine th_n ?_
  refine AC.seq ?_
  refine AC.seq ?_
  refine AC.region ?_
  refine AL.p (by exact g_fa_ref rfl rfl rfl rfl rfl rfl) rfl ?_
  refine AL.p (by exact g_load_ref rfl rfl rfl) rfl ?_
  refine AL.nil ?_
  refine th_n ?_
  refine AC.condB rfl (fun h0 => ?_) (fun h0 => ?_)
  · refine AC.seq ?_
    refine AC.region ?_
    refine AL.p (by exact mv1 rfl) rfl ?_
    refine AL.p (by exact g_fa_ref rfl rfl rfl rfl rfl rfl) rfl ?_
    refine AL.p (by exact g_load_ref rfl rfl rfl) rfl ?_
    refine AL.p (by exact g_ia_view rfl rfl rfl rfl rfl (by assumption) (by assumption)) rfl ?_
    refine AL.p (by exact g_fa_ref rfl rfl rfl rfl rfl rfl) rfl ?_
    refine AL.p (by exact g_load_ref rfl rfl rfl) rfl ?_
    refine AL.p (by exact g_saddB (a := (sAt s x.sig.toNat).name) (b := [43]) rfl rfl (by (simp only [List.length_append, List.length_cons, List.length_nil, numT_len]; omega))) rfl ?_
    refine AL.p (by exact as1 rfl) rfl ?_
    refine AL.nil ?_
    refine th_n ?_
    refine AC.ret ?_
    refine th_r ?_
    refine bq_r ?_
    exact ret1 rfl (by rw [edgeL, h0]; rfl)
  · refine AC.skip ?_
    refine th_n ?_
    refine AC.seq ?_
    refine AC.region ?_
    refine AL.p (by exact mv1 rfl) rfl ?_
    refine AL.p (by exact g_fa_ref rfl rfl rfl rfl rfl rfl) rfl ?_
    refine AL.p (by exact g_load_ref rfl rfl rfl) rfl ?_
    refine AL.p (by exact g_ia_view rfl rfl rfl rfl rfl (by assumption) (by assumption)) rfl ?_
    refine AL.p (by exact g_fa_ref rfl rfl rfl rfl rfl rfl) rfl ?_
    refine AL.p (by exact g_load_ref rfl rfl rfl) rfl ?_
    refine AL.p (by exact g_saddB (a := (sAt s x.sig.toNat).name) (b := [45]) rfl rfl (by (simp only [List.length_append, List.length_cons, List.length_nil, numT_len]; omega))) rfl ?_
    refine AL.p (by exact as1 rfl) rfl ?_
    refine AL.nil ?_
    refine th_n ?_
    refine AC.ret ?_
    refine bq_r ?_
    exact ret1 rfl (by rw [edgeL, h0]; rfl)
theorem en_l24Word : Enters Tryd.prog 44 := enters_of Tryd.func44 rfl rfl
theorem edgeText_spec (s : List Sig) (x : Lab) (hx : 0 ≤ x.sig ∧ x.sig < s.length) (hn : ∀ t, t ∈ s → t.name.length ≤ 6) : ASpec Tryd.prog 18 [.d (vSigs s), labA x] [] (Pure1 (aS (bstr (edgeL s x)))) := by
  have hI : x.sig = ((x.sig.toNat : Nat) : Int) := by omega
  have h2 : x.sig.toNat < s.length := by omega
  have hget : (sigsL s)[x.sig.toNat]? = some (sigD (sAt s x.sig.toNat)) := by rw [sAt_nat h2]; exact sigsL_get h2
  have hnl : (sAt s x.sig.toNat).name.length ≤ 6 := by rw [sAt_nat h2]; exact hn _ (List.getElem_mem h2)
  refine ASpec.of Tryd.func18 rfl rfl fun C hC => ?_
  refine AC.seq ?_
  refine AC.region ?_
  refine AL.q (by exact h_boxF rfl rfl) rfl ?_
  refine AL.p (by exact as1 rfl) rfl ?_
  refine AL.nil ?_
  refine th_n ?_
  refine AC.seq ?_
  refine AC.block ?_
  refine AC.seq ?_
  refine AC.region ?_
  refine AL.p (by exact g_fa_ref rfl rfl rfl rfl rfl rfl) rfl ?_
  refine AL.p (by exact g_load_ref rfl rfl rfl) rfl ?_
  refine AL.p (by exact g_cmp rfl rfl rfl) rfl ?_
  refine AL.p (by exact as1 rfl) rfl ?_
  refine AL.nil ?_
  refine th_n ?_
  refine AC.condD rfl (fun h0 => ?_) (fun h0 => ?_)
  · refine AC.seq ?_
    exact absurd h0 (by omega)
  · refine AC.seq ?_
    refine AC.region ?_
    refine AL.p (by exact g_fa_ref rfl rfl rfl rfl rfl rfl) rfl ?_
    refine AL.p (by exact g_load_ref rfl rfl rfl) rfl ?_
    refine AL.p (by exact as1 rfl) rfl ?_
    refine AL.nil ?_
    refine th_n ?_
    refine AC.condB rfl (fun h1 => ?_) (fun h1 => ?_)
    · refine AC.seq ?_
      refine AC.region ?_
      refine AL.p (by exact mv1 rfl) rfl ?_
      refine AL.p (by exact g_fa_ref rfl rfl rfl rfl rfl rfl) rfl ?_
      refine AL.p (by exact g_load_ref rfl rfl rfl) rfl ?_
      refine AL.p (by exact g_ia_view rfl rfl rfl rfl rfl (by assumption) (by assumption)) rfl ?_
      refine AL.p (by exact g_fa_ref rfl rfl rfl rfl rfl rfl) rfl ?_
      refine AL.p (by exact g_load_ref rfl rfl rfl) rfl ?_
      refine AL.p (by exact g_saddB (a := (sAt s x.sig.toNat).name) (b := [43]) rfl rfl (by (simp only [List.length_append, List.length_cons, List.length_nil, numT_len]; omega))) rfl ?_
      refine AL.p (by exact as1 rfl) rfl ?_
      refine AL.nil ?_
      refine th_n ?_
      refine AC.ret ?_
      refine ib_r ?_
      refine th_r ?_
      refine bq_r ?_
      exact ret1 rfl (by rw [edgeL, h1]; rfl)
    · refine AC.skip ?_
      refine ib_n ?_
      refine th_n ?_
      refine AC.seq ?_
      refine AC.region ?_
      refine AL.p (by exact mv1 rfl) rfl ?_
      refine AL.p (by exact g_fa_ref rfl rfl rfl rfl rfl rfl) rfl ?_
      refine AL.p (by exact g_load_ref rfl rfl rfl) rfl ?_
      refine AL.p (by exact g_ia_view rfl rfl rfl rfl rfl (by assumption) (by assumption)) rfl ?_
      refine AL.p (by exact g_fa_ref rfl rfl rfl rfl rfl rfl) rfl ?_
      refine AL.p (by exact g_load_ref rfl rfl rfl) rfl ?_
      refine AL.p (by exact g_saddB (a := (sAt s x.sig.toNat).name) (b := [45]) rfl rfl (by (simp only [List.length_append, List.length_cons, List.length_nil, numT_len]; omega))) rfl ?_
      refine AL.p (by exact as1 rfl) rfl ?_
      refine AL.nil ?_
      refine th_n ?_
      refine AC.ret ?_
      refine bq_r ?_
      exact ret1 rfl (by rw [edgeL, h1]; rfl)
theorem en_edgeText : Enters Tryd.prog 18 := enters_of Tryd.func18 rfl rfl
set_option maxHeartbeats 1000000 in
theorem l24Words_spec (m : Mach) (l : List Lab) (hl : l.length ≤ 8) (hx : ∀ x, x ∈ l → 0 ≤ x.sig ∧ x.sig < m.sigs.length) (hn : ∀ t, t ∈ m.sigs → t.name.length ≤ 6) : ASpec Tryd.prog 28 [machA m, .d (vLabs l)] [] (Pure1 (aS (bstr (wordsL m.sigs l)))) := by
  refine ASpec.of Tryd.func28 rfl rfl fun C hC => ?_
  refine AC.seq ?_
  refine AC.region ?_
  refine AL.q (by exact h_boxF rfl rfl) rfl ?_
  refine AL.p (by exact as1 rfl) rfl ?_
  refine AL.nil ?_
  refine th_n ?_
  refine AC.seq ?_
  refine AC.region ?_
  refine AL.p (by exact as1 rfl) rfl ?_
  refine AL.nil ?_
  refine th_n ?_
  refine AC.seq ?_
  refine AC.seq ?_
  refine AC.region ?_
  refine AL.p (by exact mv1 rfl) rfl ?_
  refine AL.p (by exact g_len_view rfl rfl (by exact List.length_map _)) rfl ?_
  refine AL.p (by exact mv1 rfl) rfl ?_
  refine AL.nil ?_
  refine th_n ?_
  refine AC.block ?_
  refine AC.loop (ι := Nat) (fun k => ⟨23, 0, [(2, .d (.ref (machD m))), (5, aS (bstr (wordsL m.sigs (l.take k)))), (8, .d (vLabs l)), (9, aI l.length), (10, aI k)], []⟩) (fun k => k ≤ l.length) (fun k => l.length - k) (0) ?_ (Nat.zero_le _) ?_
  · refine Weak.ren _ [] hC rfl ?_ ?_ rfl rfl rfl <;> repeat (first | exact True.intro | refine And.intro ?_ ?_ | exact DLead.same)
  · intro k hk
    refine AC.seq ?_
    refine AC.region ?_
    refine AL.p (by exact g_cmp rfl rfl rfl) rfl ?_
    refine AL.nil ?_
    refine th_n ?_
    refine AC.seq ?_
    refine AC.condD rfl (fun h0 => ?_) (fun h0 => ?_)
    · refine AC.skip ?_
      refine th_n ?_
      refine AC.seq ?_
      refine AC.block ?_
      refine AC.seq ?_
      have hk1 : k < l.length := by omega
      have hget := labsL_get hk1
      have hxk := hx _ (List.getElem_mem hk1)
      have hE := l24Word_spec m.sigs l[k] hxk hn
      have hel := edgeL_len hn hxk
      have hwl := wordsL_len hn (l := l.take k) (fun x hx' => hx x (List.mem_of_mem_take hx'))
      have htl : (l.take k).length = k := by rw [List.length_take]; omega
      have hst := wordsL_take m.sigs hk1
      refine AC.region ?_
      refine AL.p (by exact g_ia_view rfl rfl rfl rfl rfl (by rfl) (by assumption)) rfl ?_
      refine AL.p (by exact g_load_refN rfl rfl rfl rfl) rfl ?_
      refine AL.q (by exact h_alloc rfl) rfl ?_
      refine AL.q (by exact h_store rfl rfl rfl rfl rfl rfl) rfl ?_
      refine AL.nil ?_
      refine th_n ?_
      refine AC.region ?_
      refine AL.p (by exact mv1 rfl) rfl ?_
      refine AL.p (by exact g_fa_ref rfl rfl rfl rfl rfl rfl) rfl ?_
      refine AL.p (by exact g_load_ref rfl rfl rfl) rfl ?_
      refine AL.p (by exact g_load_ptrN rfl rfl rfl rfl rfl) rfl ?_
      refine AL.q (by exact h_pure en_l24Word rfl rfl (by repeat (first | exact rfl | exact DLead.same | refine ⟨_, _, rfl, ?_, ?_⟩ | refine ⟨_, rfl, ?_⟩)) hE rfl) rfl ?_
      refine AL.p (by exact g_saddB (a := [32]) (b := edgeL m.sigs l[k]) rfl rfl (by (simp only [List.length_append, List.length_cons, List.length_nil, numT_len]; omega))) rfl ?_
      refine AL.p (by exact g_saddB (a := wordsL m.sigs (l.take k)) (b := [32] ++ edgeL m.sigs l[k]) rfl rfl (by (simp only [List.length_append, List.length_cons, List.length_nil, numT_len]; omega))) rfl ?_
      refine AL.p (by exact as1 rfl) rfl ?_
      refine AL.nil ?_
      refine ib_n ?_
      refine th_n ?_
      refine AC.region ?_
      refine AL.p (by exact g_arith rfl rfl rfl (by exact wrap_i64 (by omega))) rfl ?_
      refine AL.p (by exact mv1 rfl) rfl ?_
      refine AL.nil ?_
      refine th_n ?_
      exact ⟨k + 1, by omega, by omega, Weak.ren _ [] hC rfl (by rw [hst]; repeat (first | exact True.intro | refine And.intro ?_ ?_ | exact DLead.same)) (by repeat (exact True.intro)) rfl rfl rfl⟩
    · refine AC.exit ?_
      refine th_e ?_
      refine th_e ?_
      refine ib_y ?_
      refine th_n ?_
      refine AC.seq ?_
      refine AC.region ?_
      refine AL.p (by exact mv1 rfl) rfl ?_
      refine AL.p (by exact as1 rfl) rfl ?_
      refine AL.nil ?_
      refine th_n ?_
      refine AC.ret ?_
      refine bq_r ?_
      have hkk : k = l.length := by omega
      subst hkk
      rw [List.take_length]
      exact ret1 rfl rfl
theorem en_l24Words : Enters Tryd.prog 28 := enters_of Tryd.func28 rfl rfl
set_option maxHeartbeats 4000000 in
theorem l24Text_spec (m : Mach) (h : TxtM m) : ASpec Tryd.prog 12 [machA m] [] (Pure1 (aS (bstr (textM m)))) := by
  have hsl := h.sl
  have hst := h.st
  have hbl := h.bl
  have hfl := h.f
  have hnum := l1Num_spec m.states (by omega)
  refine ASpec.of Tryd.func12 rfl rfl fun C hC => ?_
  refine AC.seq ?_
  refine AC.region ?_
  refine AL.q (by exact h_boxF rfl rfl) rfl ?_
  refine AL.p (by exact as1 rfl) rfl ?_
  refine AL.nil ?_
  refine th_n ?_
  refine AC.seq ?_
  refine AC.region ?_
  refine AL.p (by exact as1 rfl) rfl ?_
  refine AL.nil ?_
  refine th_n ?_
  refine AC.seq ?_
  refine AC.seq ?_
  refine AC.region ?_
  refine AL.p (by exact g_fa_ref rfl rfl rfl rfl rfl rfl) rfl ?_
  refine AL.p (by exact g_load_ref rfl rfl rfl) rfl ?_
  refine AL.p (by exact g_len_view rfl rfl (by exact List.length_map _)) rfl ?_
  refine AL.p (by exact mv1 rfl) rfl ?_
  refine AL.nil ?_
  refine th_n ?_
  refine AC.block ?_
  refine AC.loop (ι := Nat) (fun k => ⟨73, 0, [(1, .d (.ref (machD m))), (3, aS (bstr (headS (m.sigs.take k)))), (9, .d (vSigs m.sigs)), (10, aI m.sigs.length), (11, aI k)], []⟩) (fun k => k ≤ m.sigs.length) (fun k => m.sigs.length - k) (0) ?_ (Nat.zero_le _) ?_
  · refine Weak.ren _ [] hC rfl ?_ ?_ rfl rfl rfl <;> repeat (first | exact True.intro | refine And.intro ?_ ?_ | exact DLead.same)
  · intro k hk
    refine AC.seq ?_
    refine AC.region ?_
    refine AL.p (by exact g_cmp rfl rfl rfl) rfl ?_
    refine AL.nil ?_
    refine th_n ?_
    refine AC.seq ?_
    refine AC.condD rfl (fun h0 => ?_) (fun h0 => ?_)
    · refine AC.skip ?_
      refine th_n ?_
      refine AC.seq ?_
      refine AC.block ?_
      refine AC.seq ?_
      have hk1 : k < m.sigs.length := by omega
      have hget := sigsL_get hk1
      have hnk := h.n _ (List.getElem_mem hk1)
      have hhl := headS_len h.n k (by omega)
      obtain ⟨q, hq, hq1, hq2, hex, hix⟩ := kind_at (h.k _ (List.getElem_mem hk1))
      have hml : (markL m.sigs[k].kind).length = 1 := by unfold markL; split <;> rfl
      have hq3 : m.sigs[k].kind - 1 = ((q - 1 : Nat) : Int) := by omega
      have hkp : ((0 : Int) < (k : Int)) → 0 < k := by omega
      have hkn : ¬ ((0 : Int) < (k : Int)) → ¬ 0 < k := by omega
      refine AC.region ?_
      refine AL.p (by exact mv1 rfl) rfl ?_
      refine AL.p (by exact g_ia_view rfl rfl rfl rfl rfl (by rfl) (by assumption)) rfl ?_
      refine AL.p (by exact g_load_refN rfl rfl rfl rfl) rfl ?_
      refine AL.q (by exact h_alloc rfl) rfl ?_
      refine AL.p (by exact as1 rfl) rfl ?_
      refine AL.q (by exact h_store rfl rfl rfl rfl rfl rfl) rfl ?_
      refine AL.nil ?_
      refine th_n ?_
      refine AC.cut (fun (_ : Unit) => ⟨73, 0, [(1, .d (.ref (machD m))), (3, aS (bstr (headS (m.sigs.take k) ++ (if 0 < k then [32] else [])))), (5, .d (.ref (sigD m.sigs[k]))), (9, .d (vSigs m.sigs)), (10, aI m.sigs.length), (11, aI k)], []⟩) (fun _ => True) ?_ ?_
      · refine AC.seq ?_
        refine AC.weak (Weak.freezeRef (ds := sigD m.sigs[k]) 5 rfl rfl) ?_
        refine AC.region ?_
        refine AL.p (by exact mv1 rfl) rfl ?_
        refine AL.p (by exact g_cmp rfl rfl rfl) rfl ?_
        refine AL.nil ?_
        refine th_n ?_
        refine AC.condD rfl (fun h1 => ?_) (fun h1 => ?_)
        · refine AC.region ?_
          refine AL.p (by exact mv1 rfl) rfl ?_
          refine AL.p (by exact g_saddB (a := headS (m.sigs.take k)) (b := [32]) rfl rfl (by (simp only [List.length_append, List.length_cons, List.length_nil, numT_len]; omega))) rfl ?_
          refine AL.p (by exact as1 rfl) rfl ?_
          refine AL.nil ?_
          refine th_n ?_
          (have e := hkp h1; exact ⟨(), trivial, Weak.ren _ [] hC rfl (by rw [if_pos e]; repeat (first | exact True.intro | refine And.intro ?_ ?_ | exact DLead.same)) (by repeat (exact True.intro)) rfl rfl rfl⟩)
        · refine AC.skip ?_
          refine th_n ?_
          (have e := hkn h1; exact ⟨(), trivial, Weak.ren _ [] hC rfl (by rw [if_neg e, List.append_nil]; repeat (first | exact True.intro | refine And.intro ?_ ?_ | exact DLead.same)) (by repeat (exact True.intro)) rfl rfl rfl⟩)
      · intro _ _
        have hil : (if 0 < k then [32] else ([] : List UInt8)).length ≤ 1 := by split <;> simp
        refine AC.drawn' mixed_ok [[], [], [1], [], [3], [3,4], [], [6], [3,4,5,6,7], [1,2,3,4,5,6,7,8], [0,1,2,3,4,5,6,7,8,9], [0,1,2,3,4,5,6,7,8,9,10]] (by decide) ?_
        refine DF.op 0 [] 12 rfl rfl rfl (.free rfl (NOp.of (by exact mv1 rfl))) rfl ?_
        refine DF.op 1 [] 12 rfl rfl rfl (.free rfl (NOp.of (by exact g_fa_ref rfl rfl rfl rfl rfl rfl))) rfl ?_
        refine DF.op 2 [1] 12 rfl rfl rfl (.free rfl (NOp.of (by exact g_load_ref rfl rfl rfl))) rfl ?_
        refine DF.op 3 [] 12 rfl rfl rfl (.free rfl (NOp.of (by exact g_fa_ref rfl rfl rfl rfl rfl rfl))) rfl ?_
        refine DF.op 4 [3] 12 rfl rfl rfl (.free rfl (NOp.of (by exact g_load_ref rfl rfl rfl))) rfl ?_
        refine DF.op 5 [3,4] 12 rfl rfl rfl (.free rfl (NOp.of (by exact g_arith rfl rfl rfl (by exact wrap_i64 (by omega))))) rfl ?_
        refine DF.op 6 [] 12 rfl rfl rfl (.free rfl (NOp.of (by exact g_fa_ref rfl rfl rfl rfl rfl rfl))) rfl ?_
        refine DF.op 7 [6] 12 rfl rfl rfl (.free rfl (NOp.of (by exact g_load_ref rfl rfl rfl))) rfl ?_
        refine DF.op 8 [3,4,5,6,7] 12 rfl rfl rfl (.free rfl (NOp.of (by exact g_slice_str (l := q - 1) (h := q) rfl rfl (.some rfl hq3) (.some rfl hq) (by omega) (by show q ≤ 2; omega) hex))) rfl ?_
        refine DF.op 9 [1,2,3,4,5,6,7,8] 12 rfl rfl rfl (.free rfl (NOp.of (by exact g_saddB (a := m.sigs[k].name) (b := markL m.sigs[k].kind) rfl rfl (by omega)))) rfl ?_
        refine DF.op 10 [0,1,2,3,4,5,6,7,8,9] 12 rfl rfl rfl (.free rfl (NOp.of (by exact g_saddB (a := headS (m.sigs.take k) ++ (if 0 < k then [32] else [])) (b := m.sigs[k].name ++ markL m.sigs[k].kind) rfl rfl (by (simp only [List.length_append, List.length_cons, List.length_nil, numT_len]; omega))))) rfl ?_
        refine DF.op 11 [0,1,2,3,4,5,6,7,8,9,10] 12 rfl rfl rfl (.free rfl (NOp.of (by exact as1 rfl))) rfl ?_
        refine DF.fin (ps := [(0, 1), (0, 2), (0, 3), (0, 4), (0, 5), (0, 6), (0, 7), (0, 8), (0, 9), (1, 0), (1, 3), (1, 4), (1, 5), (1, 6), (1, 7), (1, 8), (2, 0), (2, 3), (2, 4), (2, 5), (2, 6), (2, 7), (2, 8), (3, 0), (3, 1), (3, 2), (3, 6), (3, 7), (4, 0), (4, 1), (4, 2), (4, 6), (4, 7), (5, 0), (5, 1), (5, 2), (5, 6), (5, 7), (6, 0), (6, 1), (6, 2), (6, 3), (6, 4), (6, 5), (7, 0), (7, 1), (7, 2), (7, 3), (7, 4), (7, 5), (8, 0), (8, 1), (8, 2), (9, 0)]) 12 rfl (by decide +kernel) (by decide +kernel) (by rfl) ?_
        refine ib_n ?_
        refine th_n ?_
        refine AC.region ?_
        refine AL.p (by exact g_arith rfl rfl rfl (by exact wrap_i64 (by omega))) rfl ?_
        refine AL.p (by exact mv1 rfl) rfl ?_
        refine AL.nil ?_
        refine th_n ?_
        have e : headS (m.sigs.take (k + 1)) = headS (m.sigs.take k) ++ (if 0 < k then [32] else []) ++ sigT m.sigs[k] := by { rcases Nat.eq_zero_or_pos k with rfl | hp; rw [headS_one hk1, if_neg (by omega)]; simp [headS, Lib.join_nil]; rw [headS_succ hk1 hp, if_pos hp] }
        exact ⟨k + 1, by omega, by omega, Weak.ren _ [] hC rfl (by rw [e]; repeat (first | exact True.intro | refine And.intro ?_ ?_ | exact DLead.same)) (by repeat (exact True.intro)) rfl rfl rfl⟩
    · refine AC.exit ?_
      refine th_e ?_
      refine th_e ?_
      refine ib_y ?_
      refine th_n ?_
      refine AC.seq ?_
      have hkk : k = m.sigs.length := by omega
      subst hkk
      have hhl := headS_len h.n m.sigs.length (by omega)
      rw [List.take_length] at hhl ⊢
      have hh1 : (headS m.sigs).length ≤ 64 := by omega
      refine AC.drawn' mixed_ok [[], [], [1], [1,2], [1,2,3], [1,2,3,4], [], [6], [1,2,3,4,5,6,7], [0,1,2,3,4,5,6,7,8], [0,1,2,3,4,5,6,7,8,9]] (by decide) ?_
      refine DF.op 0 [] 11 rfl rfl rfl (.free rfl (NOp.of (by exact mv1 rfl))) rfl ?_
      refine DF.op 1 [] 11 rfl rfl rfl (.free rfl (NOp.of (by exact g_fa_ref rfl rfl rfl rfl rfl rfl))) rfl ?_
      refine DF.op 2 [1] 11 rfl rfl rfl (.free rfl (NOp.of (by exact g_load_ref rfl rfl rfl))) rfl ?_
      refine DF.op 3 [1,2] 11 rfl rfl rfl (.free rfl (by exact h_pure en_l1Num rfl rfl (by repeat (first | exact rfl | exact DLead.same | refine ⟨_, _, rfl, ?_, ?_⟩)) hnum rfl)) rfl ?_
      refine DF.op 4 [1,2,3] 11 rfl rfl rfl (.free rfl (NOp.of (by exact g_saddB (a := [59, 32]) (b := numT m.states) rfl rfl (by (simp only [List.length_append, List.length_cons, List.length_nil, numT_len]; omega))))) rfl ?_
      refine DF.op 5 [1,2,3,4] 11 rfl rfl rfl (.free rfl (NOp.of (by exact g_saddB (a := [59, 32] ++ numT m.states) (b := [32]) rfl rfl (by (simp only [List.length_append, List.length_cons, List.length_nil, numT_len]; omega))))) rfl ?_
      refine DF.op 6 [] 11 rfl rfl rfl (.free rfl (NOp.of (by exact g_fa_ref rfl rfl rfl rfl rfl rfl))) rfl ?_
      refine DF.op 7 [6] 11 rfl rfl rfl (.free rfl (NOp.of (by exact g_load_ref rfl rfl rfl))) rfl ?_
      refine DF.op 8 [1,2,3,4,5,6,7] 11 rfl rfl rfl (.free rfl (NOp.of (by exact g_saddB (a := [59, 32] ++ numT m.states ++ [32]) (b := m.first) rfl rfl (by (simp only [List.length_append, List.length_cons, List.length_nil, numT_len]; omega))))) rfl ?_
      refine DF.op 9 [0,1,2,3,4,5,6,7,8] 11 rfl rfl rfl (.free rfl (NOp.of (by exact g_saddB (a := headS m.sigs) (b := [59, 32] ++ numT m.states ++ [32] ++ m.first) rfl rfl (by (simp only [List.length_append, List.length_cons, List.length_nil, numT_len]; omega))))) rfl ?_
      refine DF.op 10 [0,1,2,3,4,5,6,7,8,9] 11 rfl rfl rfl (.free rfl (NOp.of (by exact as1 rfl))) rfl ?_
      refine DF.fin (ps := [(0, 1), (0, 2), (0, 3), (0, 4), (0, 5), (0, 6), (0, 7), (0, 8), (1, 0), (1, 6), (1, 7), (2, 0), (2, 6), (2, 7), (3, 0), (3, 6), (3, 7), (4, 0), (4, 6), (4, 7), (5, 0), (5, 6), (5, 7), (6, 0), (6, 1), (6, 2), (6, 3), (6, 4), (6, 5), (7, 0), (7, 1), (7, 2), (7, 3), (7, 4), (7, 5), (8, 0)]) 11 rfl (by decide +kernel) (by decide +kernel) (by rfl) ?_
      refine th_n ?_
      refine AC.seq ?_
      refine AC.seq ?_
      refine AC.region ?_
      refine AL.p (by exact g_fa_ref rfl rfl rfl rfl rfl rfl) rfl ?_
      refine AL.p (by exact g_load_ref rfl rfl rfl) rfl ?_
      refine AL.p (by exact g_len_view rfl rfl (by exact List.length_map _)) rfl ?_
      refine AL.p (by exact mv1 rfl) rfl ?_
      refine AL.nil ?_
      refine th_n ?_
      refine AC.block ?_
      refine AC.loop (ι := Nat) (fun k => ⟨73, 0, [(1, .d (.ref (machD m))), (3, aS (bstr (textK m k))), (43, .d (vBurs m.burs)), (44, aI m.burs.length), (45, aI k)], []⟩) (fun k => k ≤ m.burs.length) (fun k => m.burs.length - k) (0) ?_ (Nat.zero_le _) ?_
      · exact Weak.ren _ [] hC rfl (by rw [show textK m 0 = headS m.sigs ++ ([59, 32] ++ numT m.states ++ [32] ++ m.first) from List.append_nil _]; repeat (first | exact True.intro | refine And.intro ?_ ?_ | exact DLead.same)) (by repeat (exact True.intro)) rfl rfl rfl
      · intro k hk
        refine AC.seq ?_
        refine AC.region ?_
        refine AL.p (by exact g_cmp rfl rfl rfl) rfl ?_
        refine AL.nil ?_
        refine th_n ?_
        refine AC.seq ?_
        refine AC.condD rfl (fun h1 => ?_) (fun h1 => ?_)
        · refine AC.skip ?_
          refine th_n ?_
          refine AC.seq ?_
          refine AC.block ?_
          refine AC.seq ?_
          have hk1 : k < m.burs.length := by omega
          have hget := bursL_get hk1
          have hmem := List.getElem_mem hk1
          obtain ⟨hf, ht, hi8, ho8, hin, hou⟩ := h.b _ hmem
          have hn1 := l1Num_spec m.burs[k].from_ (by omega)
          have hn2 := l1Num_spec m.burs[k].to_ (by omega)
          have hw1 := l24Words_spec m m.burs[k].inn hi8 hin h.n
          have hw2 := l24Words_spec m m.burs[k].out ho8 hou h.n
          have hl1 := wordsL_len h.n hin
          have hl2 := wordsL_len h.n hou
          have htk := textK_len h k (by omega)
          have hsu := textK_succ hk1
          refine AC.region ?_
          refine AL.p (by exact g_ia_view rfl rfl rfl rfl rfl (by rfl) (by assumption)) rfl ?_
          refine AL.p (by exact g_load_refN rfl rfl rfl rfl) rfl ?_
          refine AL.q (by exact h_alloc rfl) rfl ?_
          refine AL.q (by exact h_store rfl rfl rfl rfl rfl rfl) rfl ?_
          refine AL.nil ?_
          refine th_n ?_
          refine AC.weak (Weak.freezeRef (ds := burD m.burs[k]) 7 rfl rfl) ?_
          refine AC.drawn' mixed_ok [[], [], [1], [1,2], [1,2,3], [1,2,3,4], [], [6], [1,2,3,6,7], [1,2,3,4,5,6,7,8], [], [], [11], [1,2,3,6,7,8,10,11,12], [1,2,3,4,5,6,7,8,9,10,11,12,13], [1,2,3,4,5,6,7,8,9,10,11,12,13,14], [], [], [17], [1,2,3,6,7,8,10,11,12,13,16,17,18], [1,2,3,4,5,6,7,8,9,10,11,12,13,14,15,16,17,18,19], [0,1,2,3,4,5,6,7,8,9,10,11,12,13,14,15,16,17,18,19,20], [0,1,2,3,4,5,6,7,8,9,10,11,12,13,14,15,16,17,18,19,20,21]] (by decide) ?_
          refine DF.op 0 [] 23 rfl rfl rfl (.free rfl (NOp.of (by exact mv1 rfl))) rfl ?_
          refine DF.op 1 [] 23 rfl rfl rfl (.free rfl (NOp.of (by exact g_fa_ref rfl rfl rfl rfl rfl rfl))) rfl ?_
          refine DF.op 2 [1] 23 rfl rfl rfl (.free rfl (NOp.of (by exact g_load_ref rfl rfl rfl))) rfl ?_
          refine DF.op 3 [1,2] 23 rfl rfl rfl (.free rfl (by exact h_pure en_l1Num rfl rfl (by repeat (first | exact rfl | exact DLead.same | refine ⟨_, _, rfl, ?_, ?_⟩)) hn1 rfl)) rfl ?_
          refine DF.op 4 [1,2,3] 23 rfl rfl rfl (.free rfl (NOp.of (by exact g_saddB (a := [59, 32]) (b := numT m.burs[k].from_) rfl rfl (by (simp only [List.length_append, List.length_cons, List.length_nil, numT_len]; omega))))) rfl ?_
          refine DF.op 5 [1,2,3,4] 23 rfl rfl rfl (.free rfl (NOp.of (by exact g_saddB (a := [59, 32] ++ numT m.burs[k].from_) (b := [62]) rfl rfl (by (simp only [List.length_append, List.length_cons, List.length_nil, numT_len]; omega))))) rfl ?_
          refine DF.op 6 [] 23 rfl rfl rfl (.free rfl (NOp.of (by exact g_fa_ref rfl rfl rfl rfl rfl rfl))) rfl ?_
          refine DF.op 7 [6] 23 rfl rfl rfl (.free rfl (NOp.of (by exact g_load_ref rfl rfl rfl))) rfl ?_
          refine DF.op 8 [1,2,3,6,7] 23 rfl rfl rfl (.free rfl (by exact h_pure en_l1Num rfl rfl (by repeat (first | exact rfl | exact DLead.same | refine ⟨_, _, rfl, ?_, ?_⟩)) hn2 rfl)) rfl ?_
          refine DF.op 9 [1,2,3,4,5,6,7,8] 23 rfl rfl rfl (.free rfl (NOp.of (by exact g_saddB (a := [59, 32] ++ numT m.burs[k].from_ ++ [62]) (b := numT m.burs[k].to_) rfl rfl (by (simp only [List.length_append, List.length_cons, List.length_nil, numT_len]; omega))))) rfl ?_
          refine DF.op 10 [] 23 rfl rfl rfl (.free rfl (NOp.of (by exact g_load_refN rfl rfl rfl rfl))) rfl ?_
          refine DF.op 11 [] 23 rfl rfl rfl (.free rfl (NOp.of (by exact g_fa_ref rfl rfl rfl rfl rfl rfl))) rfl ?_
          refine DF.op 12 [11] 23 rfl rfl rfl (.free rfl (NOp.of (by exact g_load_ref rfl rfl rfl))) rfl ?_
          refine DF.op 13 [1,2,3,6,7,8,10,11,12] 23 rfl rfl rfl (.free rfl (by exact h_pure en_l24Words rfl rfl (by repeat (first | exact rfl | exact DLead.same | refine ⟨_, _, rfl, ?_, ?_⟩ | refine ⟨_, rfl, ?_⟩)) hw1 rfl)) rfl ?_
          refine DF.op 14 [1,2,3,4,5,6,7,8,9,10,11,12,13] 23 rfl rfl rfl (.free rfl (NOp.of (by exact g_saddB (a := [59, 32] ++ numT m.burs[k].from_ ++ [62] ++ numT m.burs[k].to_) (b := wordsL m.sigs m.burs[k].inn) rfl rfl (by (simp only [List.length_append, List.length_cons, List.length_nil, numT_len]; omega))))) rfl ?_
          refine DF.op 15 [1,2,3,4,5,6,7,8,9,10,11,12,13,14] 23 rfl rfl rfl (.free rfl (NOp.of (by exact g_saddB (a := [59, 32] ++ numT m.burs[k].from_ ++ [62] ++ numT m.burs[k].to_ ++ wordsL m.sigs m.burs[k].inn) (b := [32, 47]) rfl rfl (by (simp only [List.length_append, List.length_cons, List.length_nil, numT_len]; omega))))) rfl ?_
          refine DF.op 16 [] 23 rfl rfl rfl (.free rfl (NOp.of (by exact g_load_refN rfl rfl rfl rfl))) rfl ?_
          refine DF.op 17 [] 23 rfl rfl rfl (.free rfl (NOp.of (by exact g_fa_ref rfl rfl rfl rfl rfl rfl))) rfl ?_
          refine DF.op 18 [17] 23 rfl rfl rfl (.free rfl (NOp.of (by exact g_load_ref rfl rfl rfl))) rfl ?_
          refine DF.op 19 [1,2,3,6,7,8,10,11,12,13,16,17,18] 23 rfl rfl rfl (.free rfl (by exact h_pure en_l24Words rfl rfl (by repeat (first | exact rfl | exact DLead.same | refine ⟨_, _, rfl, ?_, ?_⟩ | refine ⟨_, rfl, ?_⟩)) hw2 rfl)) rfl ?_
          refine DF.op 20 [1,2,3,4,5,6,7,8,9,10,11,12,13,14,15,16,17,18,19] 23 rfl rfl rfl (.free rfl (NOp.of (by exact g_saddB (a := [59, 32] ++ numT m.burs[k].from_ ++ [62] ++ numT m.burs[k].to_ ++ wordsL m.sigs m.burs[k].inn ++ [32, 47]) (b := wordsL m.sigs m.burs[k].out) rfl rfl (by (simp only [List.length_append, List.length_cons, List.length_nil, numT_len]; omega))))) rfl ?_
          refine DF.op 21 [0,1,2,3,4,5,6,7,8,9,10,11,12,13,14,15,16,17,18,19,20] 23 rfl rfl rfl (.free rfl (NOp.of (by exact g_saddB (a := textK m k) (b := [59, 32] ++ numT m.burs[k].from_ ++ [62] ++ numT m.burs[k].to_ ++ wordsL m.sigs m.burs[k].inn ++ [32, 47] ++ wordsL m.sigs m.burs[k].out) rfl rfl (by (simp only [List.length_append, List.length_cons, List.length_nil, numT_len]; omega))))) rfl ?_
          refine DF.op 22 [0,1,2,3,4,5,6,7,8,9,10,11,12,13,14,15,16,17,18,19,20,21] 23 rfl rfl rfl (.free rfl (NOp.of (by exact as1 rfl))) rfl ?_
          refine DF.fin (ps := [(0, 1), (0, 2), (0, 3), (0, 4), (0, 5), (0, 6), (0, 7), (0, 8), (0, 9), (0, 10), (0, 11), (0, 12), (0, 13), (0, 14), (0, 15), (0, 16), (0, 17), (0, 18), (0, 19), (0, 20), (1, 0), (1, 6), (1, 7), (1, 10), (1, 11), (1, 12), (1, 16), (1, 17), (1, 18), (2, 0), (2, 6), (2, 7), (2, 10), (2, 11), (2, 12), (2, 16), (2, 17), (2, 18), (3, 0), (3, 6), (3, 7), (3, 10), (3, 11), (3, 12), (3, 16), (3, 17), (3, 18), (4, 0), (4, 6), (4, 7), (4, 8), (4, 10), (4, 11), (4, 12), (4, 13), (4, 16), (4, 17), (4, 18), (4, 19), (5, 0), (5, 6), (5, 7), (5, 8), (5, 10), (5, 11), (5, 12), (5, 13), (5, 16), (5, 17), (5, 18), (5, 19), (6, 0), (6, 1), (6, 2), (6, 3), (6, 4), (6, 5), (6, 10), (6, 11), (6, 12), (6, 16), (6, 17), (6, 18), (7, 0), (7, 1), (7, 2), (7, 3), (7, 4), (7, 5), (7, 10), (7, 11), (7, 12), (7, 16), (7, 17), (7, 18), (8, 0), (8, 4), (8, 5), (8, 10), (8, 11), (8, 12), (8, 16), (8, 17), (8, 18), (9, 0), (9, 10), (9, 11), (9, 12), (9, 13), (9, 16), (9, 17), (9, 18), (9, 19), (10, 0), (10, 1), (10, 2), (10, 3), (10, 4), (10, 5), (10, 6), (10, 7), (10, 8), (10, 9), (10, 11), (10, 12), (10, 16), (10, 17), (10, 18), (11, 0), (11, 1), (11, 2), (11, 3), (11, 4), (11, 5), (11, 6), (11, 7), (11, 8), (11, 9), (11, 10), (11, 16), (11, 17), (11, 18), (12, 0), (12, 1), (12, 2), (12, 3), (12, 4), (12, 5), (12, 6), (12, 7), (12, 8), (12, 9), (12, 10), (12, 16), (12, 17), (12, 18), (13, 0), (13, 4), (13, 5), (13, 9), (13, 16), (13, 17), (13, 18), (14, 0), (14, 16), (14, 17), (14, 18), (14, 19), (15, 0), (15, 16), (15, 17), (15, 18), (15, 19), (16, 0), (16, 1), (16, 2), (16, 3), (16, 4), (16, 5), (16, 6), (16, 7), (16, 8), (16, 9), (16, 10), (16, 11), (16, 12), (16, 13), (16, 14), (16, 15), (16, 17), (16, 18), (17, 0), (17, 1), (17, 2), (17, 3), (17, 4), (17, 5), (17, 6), (17, 7), (17, 8), (17, 9), (17, 10), (17, 11), (17, 12), (17, 13), (17, 14), (17, 15), (17, 16), (18, 0), (18, 1), (18, 2), (18, 3), (18, 4), (18, 5), (18, 6), (18, 7), (18, 8), (18, 9), (18, 10), (18, 11), (18, 12), (18, 13), (18, 14), (18, 15), (18, 16), (19, 0), (19, 4), (19, 5), (19, 9), (19, 14), (19, 15), (20, 0)]) 23 rfl (by decide +kernel) (by decide +kernel) (by rfl) ?_
          refine ib_n ?_
          refine th_n ?_
          refine AC.region ?_
          refine AL.p (by exact g_arith rfl rfl rfl (by exact wrap_i64 (by omega))) rfl ?_
          refine AL.p (by exact mv1 rfl) rfl ?_
          refine AL.nil ?_
          refine th_n ?_
          exact ⟨k + 1, by omega, by omega, Weak.ren _ [] hC rfl (by rw [hsu]; repeat (first | exact True.intro | refine And.intro ?_ ?_ | exact DLead.same)) (by repeat (exact True.intro)) rfl rfl rfl⟩
        · refine AC.exit ?_
          refine th_e ?_
          refine th_e ?_
          refine ib_y ?_
          refine th_n ?_
          refine AC.seq ?_
          refine AC.region ?_
          refine AL.p (by exact mv1 rfl) rfl ?_
          refine AL.p (by exact as1 rfl) rfl ?_
          refine AL.nil ?_
          refine th_n ?_
          refine AC.ret ?_
          refine bq_r ?_
          have hkk : k = m.burs.length := by omega
          subst hkk
          exact ret1 rfl rfl
theorem en_l24Text : Enters Tryd.prog 12 := enters_of Tryd.func12 rfl rfl
theorem sFormatM_spec (m : Mach) (hS : SmM m) : ASpec Tryd.prog 5 [machA m] [] (Pure1 (.tup [aS (bstr (if goodM m = true then textM m else [])), aT (goodM m)])) := by
  have hG := l24Good_spec m hS
  have hT := fun q => l24Text_spec m (TxtM.of (goodM_fm q))
  obtain ⟨g, hg⟩ : ∃ g, g = goodM m := ⟨_, rfl⟩
  rw [← hg] at hG hT ⊢
  refine ASpec.of Tryd.func5 rfl rfl fun C hC => ?_
  refine AC.seq ?_
  refine AC.region ?_
  refine AL.q (by exact h_boxF rfl rfl) rfl ?_
  refine AL.p (by exact as1 rfl) rfl ?_
  refine AL.p (by exact as1 rfl) rfl ?_
  refine AL.nil ?_
  refine th_n ?_
  refine AC.seq ?_
  refine AC.seq ?_
  refine AC.region ?_
  refine AL.p (by exact g_load_refN rfl rfl rfl rfl) rfl ?_
  refine AL.q (by exact h_pure en_l24Good rfl rfl (by repeat (first | exact rfl | exact DLead.same | refine ⟨_, _, rfl, ?_, ?_⟩ | refine ⟨_, rfl, ?_⟩)) hG rfl) rfl ?_
  refine AL.p (by exact g_not rfl) rfl ?_
  refine AL.nil ?_
  refine th_n ?_
  refine AC.condB rfl (fun h0 => ?_) (fun h0 => ?_)
  · refine AC.seq ?_
    refine AC.region ?_
    refine AL.p (by exact as1 rfl) rfl ?_
    refine AL.p (by exact as1 rfl) rfl ?_
    refine AL.nil ?_
    refine th_n ?_
    refine AC.ret ?_
    refine th_r ?_
    refine bq_r ?_
    have q := (Bool.not_eq_true' _).mp h0
    exact ret2 rfl (by rw [q, if_neg Bool.false_ne_true]; rfl) (by rw [q])
  · refine AC.skip ?_
    refine th_n ?_
    refine AC.seq ?_
    have q := (Bool.not_eq_false' _).mp h0
    have hT2 := hT q
    refine AC.region ?_
    refine AL.p (by exact g_load_refN rfl rfl rfl rfl) rfl ?_
    refine AL.q (by exact h_pure en_l24Text rfl rfl (by repeat (first | exact rfl | exact DLead.same | refine ⟨_, _, rfl, ?_, ?_⟩ | refine ⟨_, rfl, ?_⟩)) hT2 rfl) rfl ?_
    refine AL.p (by exact as1 rfl) rfl ?_
    refine AL.p (by exact as1 rfl) rfl ?_
    refine AL.nil ?_
    refine th_n ?_
    refine AC.ret ?_
    refine bq_r ?_
    exact ret2 rfl (by rw [q, if_pos rfl]) (by rw [q])
theorem en_sFormatM : Enters Tryd.prog 5 := enters_of Tryd.func5 rfl rfl
end Go.Proofs.YtacmonmehcdhaaaDoor

set_option linter.all false
set_option maxRecDepth 20000
namespace Go.Proofs.YtacmonmehcdhaaaDoor
open Go.RowKit

theorem h_appendSt (acc new : List (List UInt8)) {s : ASt} {dst : Option Nat} {ty : Nat} {pos : String} {af : Array Edge} {gd : Option (Nat × Bool)} {x y : Operand} {f : Nat} {ids ids2 : List Nat} {gone : List (Nat × Option Chunk)}
    (hto : AppTo s x 9 1 (strL acc) ids gone) (harg : AppArg s y 1 (strL new) ids2) (h : (acc ++ new).length ≤ 100000000) (hnew : gone = [] → 0 < new.length) :
    NOp Tryd.prog (ids ++ ids2) s ⟨dst, .call { callee := .builtin .append, args := #[x, y], argTypes := #[42, 42] }, ty, pos, af, gd⟩ f ⟨.own f (acc ++ new).length, (f, some (.arr 9 1 (strL (acc ++ new)))) :: gone⟩ := by
  have := h_append (P := Tryd.prog) (s := s) (dst := dst) (ty := ty) (pos := pos) (af := af) (gd := gd) (x := x) (y := y) (f := f) (t := 42) (tx := 42) (k := (acc ++ new).length) rfl rfl rfl rfl rfl rfl hto harg (by simp) (by omega) (by show (acc ++ new).length * 16 ≤ _; omega) (fun h => by rw [strL_len]; exact hnew h)
  rwa [← List.map_append] at this
set_option maxHeartbeats 8000000 in
theorem iFormatM_t (m : Mach) (hS : SmM m) (hgt : goodM m = true) : ASpec Tryd.prog 7 [machA m] [] (Pure1 (.tup [aS (bstr (textM m)), aT true])) := by
  have hG := iIsValidMach_spec m hS
  rw [hgt] at hG
  have h := TxtM.of (goodM_fm hgt)
  have hsl := h.sl
  have hst := h.st
  have hbl := h.bl
  have hfl := h.f
  have hnum := itoa_spec m.states (by omega)
  have hJ := sJoin_spec m.sigs (by omega) (by omega) h.n
  refine ASpec.of Tryd.func7 rfl rfl fun C hC => ?_
  refine AC.seq ?_
  refine AC.region ?_
  refine AL.q (by exact h_boxF rfl rfl) rfl ?_
  refine AL.p (by exact as1 rfl) rfl ?_
  refine AL.p (by exact as1 rfl) rfl ?_
  refine AL.nil ?_
  refine th_n ?_
  refine AC.seq ?_
  refine AC.seq ?_
  refine AC.region ?_
  refine AL.p (by exact g_load_refN rfl rfl rfl rfl) rfl ?_
  refine AL.q (by exact h_pure en_iIsValidMach rfl rfl (by repeat (first | exact rfl | exact DLead.same | refine ⟨_, _, rfl, ?_, ?_⟩ | refine ⟨_, rfl, ?_⟩)) hG rfl) rfl ?_
  refine AL.p (by exact g_not rfl) rfl ?_
  refine AL.nil ?_
  refine th_n ?_
  refine AC.condB rfl (fun h0 => ?_) (fun h0 => ?_)
  · refine AC.seq ?_
    exact absurd h0 (by decide)
  · refine AC.skip ?_
    refine th_n ?_
    refine AC.seq ?_
    refine AC.region ?_
    refine AL.q (by exact h_lit rfl rfl rfl rfl rfl rfl rfl rfl) rfl ?_
    refine AL.p (by exact as2 rfl) rfl ?_
    refine AL.nil ?_
    refine th_n ?_
    refine AC.seq ?_
    refine AC.seq ?_
    refine AC.region ?_
    refine AL.p (by exact g_fa_ref rfl rfl rfl rfl rfl rfl) rfl ?_
    refine AL.p (by exact g_load_ref rfl rfl rfl) rfl ?_
    refine AL.p (by exact g_len_view rfl rfl (by exact List.length_map _)) rfl ?_
    refine AL.p (by exact mv1 rfl) rfl ?_
    refine AL.nil ?_
    refine th_n ?_
    refine AC.block ?_
    refine AC.loop (ι := Nat) (fun k => ⟨99, 108, [(1, .d (.ref (machD m))), (4, .own 100 ((m.sigs.take k).map sigT).length), (19, .d (vSigs m.sigs)), (20, aI m.sigs.length), (21, aI k)], [(100, some (.arr 9 1 (strL ((m.sigs.take k).map sigT))))]⟩) (fun k => k ≤ m.sigs.length) (fun k => m.sigs.length - k) (0) ?_ (Nat.zero_le _) ?_
    · exact Weak.ren _ [(100, 16)] hC rfl (by repeat (first | exact True.intro | refine And.intro ?_ ?_ | exact DLead.same | exact rfl | refine ⟨_, rfl, ?_⟩)) (by repeat (first | exact True.intro | refine And.intro ?_ ?_ | exact rfl | refine ⟨_, _, rfl, rfl, ?_⟩)) rfl rfl rfl
    · intro k hk
      refine AC.seq ?_
      refine AC.region ?_
      refine AL.p (by exact g_cmp rfl rfl rfl) rfl ?_
      refine AL.nil ?_
      refine th_n ?_
      refine AC.seq ?_
      refine AC.condD rfl (fun h1 => ?_) (fun h1 => ?_)
      · refine AC.skip ?_
        refine th_n ?_
        refine AC.seq ?_
        refine AC.block ?_
        refine AC.seq ?_
        have hk1 : k < m.sigs.length := by omega
        have hget := sigsL_get hk1
        have hnk := h.n _ (List.getElem_mem hk1)
        obtain ⟨q, hq, hq1, hq2, hex, hix⟩ := kind_at (h.k _ (List.getElem_mem hk1))
        have hml : (markL m.sigs[k].kind).length = 1 := by unfold markL; split <;> rfl
        have htl : ((m.sigs.take k).map sigT).length = k := by rw [List.length_map, List.length_take]; omega
        have hst2 : (m.sigs.take (k + 1)).map sigT = (m.sigs.take k).map sigT ++ [sigT m.sigs[k]] := by rw [List.take_add_one, List.getElem?_eq_getElem hk1, List.map_append]; rfl
        refine AC.region ?_
        refine AL.p (by exact g_ia_view rfl rfl rfl rfl rfl (by rfl) (by assumption)) rfl ?_
        refine AL.p (by exact g_load_refN rfl rfl rfl rfl) rfl ?_
        refine AL.q (by exact h_alloc rfl) rfl ?_
        refine AL.q (by exact h_store rfl rfl rfl rfl rfl rfl) rfl ?_
        refine AL.nil ?_
        refine th_n ?_
        refine AC.weak (Weak.freezeRef (ds := sigD m.sigs[k]) 6 rfl rfl) ?_
        refine AC.drawn' mixed_ok [[], [], [1], [], [], [4], [3,4,5], [1,2,3,4,5,6], [1,2,3,4,5,6,7], [0,1,2,3,4,5,6,7,8], [0,1,2,3,4,5,6,7,8,9]] (by decide) ?_
        refine DF.op 0 [] 11 rfl rfl rfl (.free rfl (NOp.of (by exact mv2 rfl))) rfl ?_
        refine DF.op 1 [] 11 rfl rfl rfl (.free rfl (NOp.of (by exact g_fa_ref rfl rfl rfl rfl rfl rfl))) rfl ?_
        refine DF.op 2 [1] 11 rfl rfl rfl (.free rfl (NOp.of (by exact g_load_ref rfl rfl rfl))) rfl ?_
        refine DF.op 3 [] 11 rfl rfl rfl (.free rfl (NOp.of (by exact g_buildC (ks := [(0, bstr []), (1, bstr [63]), (2, bstr [33])]) (out := [bstr [], bstr [63], bstr [33]]) rfl (by kernel_rfl) rfl))) rfl ?_
        refine DF.op 4 [] 11 rfl rfl rfl (.free rfl (NOp.of (by exact g_fa_ref rfl rfl rfl rfl rfl rfl))) rfl ?_
        refine DF.op 5 [4] 11 rfl rfl rfl (.free rfl (NOp.of (by exact g_load_ref rfl rfl rfl))) rfl ?_
        refine DF.op 6 [3,4,5] 11 rfl rfl rfl (.free rfl (NOp.of (by exact g_indexRow (n := 3) (e := 9) (i := q) (out := [bstr [], bstr [63], bstr [33]]) (b := bstr (markL m.sigs[k].kind)) Tryd.underlying45 (by kernel_rfl) (by kernel_rfl) rfl rfl hq (by omega) hix))) rfl ?_
        refine DF.op 7 [1,2,3,4,5,6] 11 rfl rfl rfl (.free rfl (NOp.of (by exact g_saddB (a := m.sigs[k].name) (b := markL m.sigs[k].kind) rfl rfl (by omega)))) rfl ?_
        refine DF.op 8 [1,2,3,4,5,6,7] 11 rfl rfl rfl (.free rfl (by exact h_litF rfl rfl rfl rfl rfl rfl rfl rfl)) rfl ?_
        refine DF.op 9 [0,1,2,3,4,5,6,7,8] 11 rfl rfl rfl (.free rfl (by exact h_appendSt ((m.sigs.take k).map sigT) [sigT m.sigs[k]] (.own rfl rfl (strL_len _).symm) (.view rfl) (by simp; omega) (by simp))) rfl ?_
        refine DF.op 10 [0,1,2,3,4,5,6,7,8,9] 11 rfl rfl rfl (.free rfl (NOp.of (by exact as2 rfl))) rfl ?_
        refine DF.fin (ps := [(0, 1), (0, 2), (0, 3), (0, 4), (0, 5), (0, 6), (0, 7), (0, 8), (1, 0), (1, 3), (1, 4), (1, 5), (1, 6), (2, 0), (2, 3), (2, 4), (2, 5), (2, 6), (3, 0), (3, 1), (3, 2), (3, 4), (3, 5), (4, 0), (4, 1), (4, 2), (4, 3), (5, 0), (5, 1), (5, 2), (5, 3), (6, 0), (6, 1), (6, 2), (7, 0), (8, 0)]) 11 rfl (by decide +kernel) (by decide +kernel) (by rfl) ?_
        refine ib_n ?_
        refine th_n ?_
        refine AC.region ?_
        refine AL.p (by exact g_arith rfl rfl rfl (by exact wrap_i64 (by omega))) rfl ?_
        refine AL.p (by exact mv1 rfl) rfl ?_
        refine AL.nil ?_
        refine th_n ?_
        exact ⟨k + 1, by omega, by omega, Weak.ren _ [(100, _)] hC rfl (by rw [hst2]; repeat (first | exact True.intro | refine And.intro ?_ ?_ | exact DLead.same | exact rfl | refine ⟨_, rfl, ?_⟩)) (by rw [hst2]; repeat (first | exact True.intro | refine And.intro ?_ ?_ | exact rfl | refine ⟨_, _, rfl, rfl, ?_⟩)) rfl rfl rfl⟩
      · refine AC.exit ?_
        refine th_e ?_
        refine th_e ?_
        refine ib_y ?_
        refine th_n ?_
        refine AC.seq ?_
        have hkk : k = m.sigs.length := by omega
        subst hkk
        rw [List.take_length]
        have hhl := headS_len h.n m.sigs.length (by omega)
        rw [List.take_length] at hhl
        have hh1 : (headS m.sigs).length ≤ 64 := by omega
        refine AC.weak (Weak.freeze (i := 4) rfl rfl (Nat.le_of_eq (strL_len _).symm) (List.take_of_length_le (Nat.le_of_eq (strL_len _)))) ?_
        refine AC.drawn' mixed_ok [[], [0], [0,1], [], [3], [0,1,3,4], [0,1,2,3,4,5], [0,1,2,3,4,5,6], [], [8], [0,1,2,3,4,5,6,7,8,9], [0,1,2,3,4,5,6,7,8,9,10]] (by decide) ?_
        refine DF.op 0 [] 12 rfl rfl rfl (.free rfl (NOp.of (by exact mv1 rfl))) rfl ?_
        refine DF.op 1 [0] 12 rfl rfl rfl (.free rfl (by exact h_pure en_sJoin rfl rfl (by repeat (first | exact rfl | exact DLead.same | refine ⟨_, _, rfl, ?_, ?_⟩)) hJ rfl)) rfl ?_
        refine DF.op 2 [0,1] 12 rfl rfl rfl (.free rfl (NOp.of (by exact g_saddB (a := headS m.sigs) (b := [59, 32]) rfl rfl (by (simp only [List.length_append, List.length_cons, List.length_nil, numT_len]; omega))))) rfl ?_
        refine DF.op 3 [] 12 rfl rfl rfl (.free rfl (NOp.of (by exact g_fa_ref rfl rfl rfl rfl rfl rfl))) rfl ?_
        refine DF.op 4 [3] 12 rfl rfl rfl (.free rfl (NOp.of (by exact g_load_ref rfl rfl rfl))) rfl ?_
        refine DF.op 5 [0,1,3,4] 12 rfl rfl rfl (.free rfl (by exact h_pure en_itoa rfl rfl (by repeat (first | exact rfl | exact DLead.same | refine ⟨_, _, rfl, ?_, ?_⟩)) hnum rfl)) rfl ?_
        refine DF.op 6 [0,1,2,3,4,5] 12 rfl rfl rfl (.free rfl (NOp.of (by exact g_saddB (a := headS m.sigs ++ [59, 32]) (b := numT m.states) rfl rfl (by (simp only [List.length_append, List.length_cons, List.length_nil, numT_len]; omega))))) rfl ?_
        refine DF.op 7 [0,1,2,3,4,5,6] 12 rfl rfl rfl (.free rfl (NOp.of (by exact g_saddB (a := headS m.sigs ++ [59, 32] ++ numT m.states) (b := [32]) rfl rfl (by (simp only [List.length_append, List.length_cons, List.length_nil, numT_len]; omega))))) rfl ?_
        refine DF.op 8 [] 12 rfl rfl rfl (.free rfl (NOp.of (by exact g_fa_ref rfl rfl rfl rfl rfl rfl))) rfl ?_
        refine DF.op 9 [8] 12 rfl rfl rfl (.free rfl (NOp.of (by exact g_load_ref rfl rfl rfl))) rfl ?_
        refine DF.op 10 [0,1,2,3,4,5,6,7,8,9] 12 rfl rfl rfl (.free rfl (NOp.of (by exact g_saddB (a := headS m.sigs ++ [59, 32] ++ numT m.states ++ [32]) (b := m.first) rfl rfl (by (simp only [List.length_append, List.length_cons, List.length_nil, numT_len]; omega))))) rfl ?_
        refine DF.op 11 [0,1,2,3,4,5,6,7,8,9,10] 12 rfl rfl rfl (.free rfl (NOp.of (by exact as1 rfl))) rfl ?_
        refine DF.fin (ps := [(0, 3), (0, 4), (0, 8), (0, 9), (1, 3), (1, 4), (1, 8), (1, 9), (2, 3), (2, 4), (2, 5), (2, 8), (2, 9), (3, 0), (3, 1), (3, 2), (3, 8), (3, 9), (4, 0), (4, 1), (4, 2), (4, 8), (4, 9), (5, 2), (5, 8), (5, 9), (6, 8), (6, 9), (7, 8), (7, 9), (8, 0), (8, 1), (8, 2), (8, 3), (8, 4), (8, 5), (8, 6), (8, 7), (9, 0), (9, 1), (9, 2), (9, 3), (9, 4), (9, 5), (9, 6), (9, 7)]) 12 rfl (by decide +kernel) (by decide +kernel) (by rfl) ?_
        refine th_n ?_
        refine AC.seq ?_
        refine AC.seq ?_
        refine AC.region ?_
        refine AL.p (by exact g_fa_ref rfl rfl rfl rfl rfl rfl) rfl ?_
        refine AL.p (by exact g_load_ref rfl rfl rfl) rfl ?_
        refine AL.p (by exact g_len_view rfl rfl (by exact List.length_map _)) rfl ?_
        refine AL.p (by exact mv1 rfl) rfl ?_
        refine AL.nil ?_
        refine th_n ?_
        refine AC.block ?_
        refine AC.loop (ι := Nat) (fun k => ⟨99, 0, [(1, .d (.ref (machD m))), (7, aS (bstr (textK m k))), (48, .d (vBurs m.burs)), (49, aI m.burs.length), (50, aI k)], []⟩) (fun k => k ≤ m.burs.length) (fun k => m.burs.length - k) (0) ?_ (Nat.zero_le _) ?_
        · exact Weak.ren _ [] hC rfl (by rw [show textK m 0 = headS m.sigs ++ [59, 32] ++ numT m.states ++ [32] ++ m.first by simp [textK, hdT, List.append_assoc]]; repeat (first | exact True.intro | refine And.intro ?_ ?_ | exact DLead.same)) (by repeat (exact True.intro)) rfl rfl rfl
        · intro k hk
          refine AC.seq ?_
          refine AC.region ?_
          refine AL.p (by exact g_cmp rfl rfl rfl) rfl ?_
          refine AL.nil ?_
          refine th_n ?_
          refine AC.seq ?_
          refine AC.condD rfl (fun h2 => ?_) (fun h2 => ?_)
          · refine AC.skip ?_
            refine th_n ?_
            refine AC.seq ?_
            refine AC.block ?_
            refine AC.seq ?_
            have hk1 : k < m.burs.length := by omega
            have hget := bursL_get hk1
            have hmem := List.getElem_mem hk1
            obtain ⟨hf, ht, hi8, ho8, hin, hou⟩ := h.b _ hmem
            have hn1 := itoa_spec m.burs[k].from_ (by omega)
            have hn2 := itoa_spec m.burs[k].to_ (by omega)
            have htk := textK_len h k (by omega)
            have hsu := textK_succ hk1
            refine AC.region ?_
            refine AL.p (by exact g_ia_view rfl rfl rfl rfl rfl (by rfl) (by assumption)) rfl ?_
            refine AL.p (by exact g_load_refN rfl rfl rfl rfl) rfl ?_
            refine AL.q (by exact h_alloc rfl) rfl ?_
            refine AL.q (by exact h_store rfl rfl rfl rfl rfl rfl) rfl ?_
            refine AL.nil ?_
            refine th_n ?_
            refine AC.seq ?_
            refine AC.weak (Weak.freezeRef (ds := burD m.burs[k]) 9 rfl rfl) ?_
            refine AC.drawn' mixed_ok [[], [], [1], [1,2], [1,2,3], [1,2,3,4], [], [6], [1,2,3,6,7], [1,2,3,4,5,6,7,8], [0,1,2,3,4,5,6,7,8,9], [0,1,2,3,4,5,6,7,8,9,10]] (by decide) ?_
            refine DF.op 0 [] 12 rfl rfl rfl (.free rfl (NOp.of (by exact mv1 rfl))) rfl ?_
            refine DF.op 1 [] 12 rfl rfl rfl (.free rfl (NOp.of (by exact g_fa_ref rfl rfl rfl rfl rfl rfl))) rfl ?_
            refine DF.op 2 [1] 12 rfl rfl rfl (.free rfl (NOp.of (by exact g_load_ref rfl rfl rfl))) rfl ?_
            refine DF.op 3 [1,2] 12 rfl rfl rfl (.free rfl (by exact h_pure en_itoa rfl rfl (by repeat (first | exact rfl | exact DLead.same | refine ⟨_, _, rfl, ?_, ?_⟩)) hn1 rfl)) rfl ?_
            refine DF.op 4 [1,2,3] 12 rfl rfl rfl (.free rfl (NOp.of (by exact g_saddB (a := [59, 32]) (b := numT m.burs[k].from_) rfl rfl (by (simp only [List.length_append, List.length_cons, List.length_nil, numT_len]; omega))))) rfl ?_
            refine DF.op 5 [1,2,3,4] 12 rfl rfl rfl (.free rfl (NOp.of (by exact g_saddB (a := [59, 32] ++ numT m.burs[k].from_) (b := [62]) rfl rfl (by (simp only [List.length_append, List.length_cons, List.length_nil, numT_len]; omega))))) rfl ?_
            refine DF.op 6 [] 12 rfl rfl rfl (.free rfl (NOp.of (by exact g_fa_ref rfl rfl rfl rfl rfl rfl))) rfl ?_
            refine DF.op 7 [6] 12 rfl rfl rfl (.free rfl (NOp.of (by exact g_load_ref rfl rfl rfl))) rfl ?_
            refine DF.op 8 [1,2,3,6,7] 12 rfl rfl rfl (.free rfl (by exact h_pure en_itoa rfl rfl (by repeat (first | exact rfl | exact DLead.same | refine ⟨_, _, rfl, ?_, ?_⟩)) hn2 rfl)) rfl ?_
            refine DF.op 9 [1,2,3,4,5,6,7,8] 12 rfl rfl rfl (.free rfl (NOp.of (by exact g_saddB (a := [59, 32] ++ numT m.burs[k].from_ ++ [62]) (b := numT m.burs[k].to_) rfl rfl (by (simp only [List.length_append, List.length_cons, List.length_nil, numT_len]; omega))))) rfl ?_
            refine DF.op 10 [0,1,2,3,4,5,6,7,8,9] 12 rfl rfl rfl (.free rfl (NOp.of (by exact g_saddB (a := textK m k) (b := [59, 32] ++ numT m.burs[k].from_ ++ [62] ++ numT m.burs[k].to_) rfl rfl (by (simp only [List.length_append, List.length_cons, List.length_nil, numT_len]; omega))))) rfl ?_
            refine DF.op 11 [0,1,2,3,4,5,6,7,8,9,10] 12 rfl rfl rfl (.free rfl (NOp.of (by exact as1 rfl))) rfl ?_
            refine DF.fin (ps := [(0, 1), (0, 2), (0, 3), (0, 4), (0, 5), (0, 6), (0, 7), (0, 8), (0, 9), (1, 0), (1, 6), (1, 7), (2, 0), (2, 6), (2, 7), (3, 0), (3, 6), (3, 7), (4, 0), (4, 6), (4, 7), (4, 8), (5, 0), (5, 6), (5, 7), (5, 8), (6, 0), (6, 1), (6, 2), (6, 3), (6, 4), (6, 5), (7, 0), (7, 1), (7, 2), (7, 3), (7, 4), (7, 5), (8, 0), (8, 4), (8, 5), (9, 0)]) 12 rfl (by decide +kernel) (by decide +kernel) (by rfl) ?_
            refine th_n ?_
            refine AC.seq ?_
            refine AC.seq ?_
            refine AC.region ?_
            refine AL.p (by exact g_fa_ref rfl rfl rfl rfl rfl rfl) rfl ?_
            refine AL.p (by exact g_load_ref rfl rfl rfl) rfl ?_
            refine AL.p (by exact g_len_view rfl rfl (by exact List.length_map _)) rfl ?_
            refine AL.p (by exact mv1 rfl) rfl ?_
            refine AL.nil ?_
            refine th_n ?_
            refine AC.block ?_
            refine AC.loop (ι := Nat) (fun j => ⟨99, 0, [(1, .d (.ref (machD m))), (7, aS (bstr ((textK m k ++ ([59, 32] ++ numT m.burs[k].from_ ++ [62] ++ numT m.burs[k].to_)) ++ wordsL m.sigs (m.burs[k].inn.take j)))), (9, .d (.ref (burD m.burs[k]))), (48, .d (vBurs m.burs)), (49, aI m.burs.length), (50, aI k), (66, .d (vLabs m.burs[k].inn)), (67, aI m.burs[k].inn.length), (68, aI j)], []⟩) (fun j => j ≤ m.burs[k].inn.length) (fun j => m.burs[k].inn.length - j) (0) ?_ (Nat.zero_le _) ?_
            · exact Weak.ren _ [] hC rfl (by rw [show (textK m k ++ ([59, 32] ++ numT m.burs[k].from_ ++ [62] ++ numT m.burs[k].to_)) ++ wordsL m.sigs (m.burs[k].inn.take 0) = (textK m k ++ ([59, 32] ++ numT m.burs[k].from_ ++ [62] ++ numT m.burs[k].to_)) from List.append_nil _]; repeat (first | exact True.intro | refine And.intro ?_ ?_ | exact DLead.same)) (by repeat (exact True.intro)) rfl rfl rfl
            · intro j hj
              refine AC.seq ?_
              refine AC.region ?_
              refine AL.p (by exact g_cmp rfl rfl rfl) rfl ?_
              refine AL.nil ?_
              refine th_n ?_
              refine AC.seq ?_
              refine AC.condD rfl (fun h3 => ?_) (fun h3 => ?_)
              · refine AC.skip ?_
                refine th_n ?_
                refine AC.seq ?_
                refine AC.block ?_
                refine AC.seq ?_
                have hj1 : j < m.burs[k].inn.length := by omega
                have hgetl := labsL_get hj1
                have hxj := hin _ (List.getElem_mem hj1)
                have hE := edgeText_spec m.sigs m.burs[k].inn[j] hxj h.n
                have hel := edgeL_len h.n hxj
                have hwl := wordsL_len h.n (l := m.burs[k].inn.take j) (fun x hx' => hin x (List.mem_of_mem_take hx'))
                have htl : (m.burs[k].inn.take j).length = j := by rw [List.length_take]; omega
                have hstp := wordsL_take m.sigs hj1
                refine AC.region ?_
                refine AL.p (by exact g_ia_view rfl rfl rfl rfl rfl (by rfl) (by assumption)) rfl ?_
                refine AL.p (by exact g_load_refN rfl rfl rfl rfl) rfl ?_
                refine AL.q (by exact h_alloc rfl) rfl ?_
                refine AL.q (by exact h_store rfl rfl rfl rfl rfl rfl) rfl ?_
                refine AL.nil ?_
                refine th_n ?_
                refine AC.region ?_
                refine AL.p (by exact mv1 rfl) rfl ?_
                refine AL.p (by exact g_fa_ref rfl rfl rfl rfl rfl rfl) rfl ?_
                refine AL.p (by exact g_load_ref rfl rfl rfl) rfl ?_
                refine AL.p (by exact g_load_ptrN rfl rfl rfl rfl rfl) rfl ?_
                refine AL.q (by exact h_pure en_edgeText rfl rfl (by repeat (first | exact rfl | exact DLead.same | refine ⟨_, _, rfl, ?_, ?_⟩ | refine ⟨_, rfl, ?_⟩)) hE rfl) rfl ?_
                refine AL.p (by exact g_saddB (a := [32]) (b := edgeL m.sigs m.burs[k].inn[j]) rfl rfl (by (simp only [List.length_append, List.length_cons, List.length_nil, numT_len]; omega))) rfl ?_
                refine AL.p (by exact g_saddB (a := (textK m k ++ ([59, 32] ++ numT m.burs[k].from_ ++ [62] ++ numT m.burs[k].to_)) ++ wordsL m.sigs (m.burs[k].inn.take j)) (b := [32] ++ edgeL m.sigs m.burs[k].inn[j]) rfl rfl (by (simp only [List.length_append, List.length_cons, List.length_nil, numT_len]; omega))) rfl ?_
                refine AL.p (by exact as1 rfl) rfl ?_
                refine AL.nil ?_
                refine ib_n ?_
                refine th_n ?_
                refine AC.region ?_
                refine AL.p (by exact g_arith rfl rfl rfl (by exact wrap_i64 (by omega))) rfl ?_
                refine AL.p (by exact mv1 rfl) rfl ?_
                refine AL.nil ?_
                refine th_n ?_
                exact ⟨j + 1, by omega, by omega, Weak.ren _ [] hC rfl (by rw [hstp, show (textK m k ++ ([59, 32] ++ numT m.burs[k].from_ ++ [62] ++ numT m.burs[k].to_)) ++ (wordsL m.sigs (m.burs[k].inn.take j) ++ ([32] ++ edgeL m.sigs m.burs[k].inn[j])) = (textK m k ++ ([59, 32] ++ numT m.burs[k].from_ ++ [62] ++ numT m.burs[k].to_)) ++ wordsL m.sigs (m.burs[k].inn.take j) ++ ([32] ++ edgeL m.sigs m.burs[k].inn[j]) from (List.append_assoc _ _ _).symm]; repeat (first | exact True.intro | refine And.intro ?_ ?_ | exact DLead.same)) (by repeat (exact True.intro)) rfl rfl rfl⟩
              · refine AC.exit ?_
                refine th_e ?_
                refine th_e ?_
                refine ib_y ?_
                refine th_n ?_
                refine AC.seq ?_
                have hjj : j = m.burs[k].inn.length := by omega
                subst hjj
                rw [List.take_length]
                have hwi := wordsL_len h.n hin
                refine AC.region ?_
                refine AL.p (by exact mv1 rfl) rfl ?_
                refine AL.p (by exact g_saddB (a := (textK m k ++ ([59, 32] ++ numT m.burs[k].from_ ++ [62] ++ numT m.burs[k].to_)) ++ wordsL m.sigs m.burs[k].inn) (b := [32, 47]) rfl rfl (by (simp only [List.length_append, List.length_cons, List.length_nil, numT_len]; omega))) rfl ?_
                refine AL.p (by exact as1 rfl) rfl ?_
                refine AL.nil ?_
                refine th_n ?_
                refine AC.seq ?_
                refine AC.region ?_
                refine AL.p (by exact g_fa_ref rfl rfl rfl rfl rfl rfl) rfl ?_
                refine AL.p (by exact g_load_ref rfl rfl rfl) rfl ?_
                refine AL.p (by exact g_len_view rfl rfl (by exact List.length_map _)) rfl ?_
                refine AL.p (by exact mv1 rfl) rfl ?_
                refine AL.nil ?_
                refine th_n ?_
                refine AC.block ?_
                refine AC.loop (ι := Nat) (fun j => ⟨99, 0, [(1, .d (.ref (machD m))), (7, aS (bstr (((textK m k ++ ([59, 32] ++ numT m.burs[k].from_ ++ [62] ++ numT m.burs[k].to_)) ++ wordsL m.sigs m.burs[k].inn ++ [32, 47]) ++ wordsL m.sigs (m.burs[k].out.take j)))), (9, .d (.ref (burD m.burs[k]))), (48, .d (vBurs m.burs)), (49, aI m.burs.length), (50, aI k), (83, .d (vLabs m.burs[k].out)), (84, aI m.burs[k].out.length), (85, aI j)], []⟩) (fun j => j ≤ m.burs[k].out.length) (fun j => m.burs[k].out.length - j) (0) ?_ (Nat.zero_le _) ?_
                · exact Weak.ren _ [] hC rfl (by rw [show ((textK m k ++ ([59, 32] ++ numT m.burs[k].from_ ++ [62] ++ numT m.burs[k].to_)) ++ wordsL m.sigs m.burs[k].inn ++ [32, 47]) ++ wordsL m.sigs (m.burs[k].out.take 0) = ((textK m k ++ ([59, 32] ++ numT m.burs[k].from_ ++ [62] ++ numT m.burs[k].to_)) ++ wordsL m.sigs m.burs[k].inn ++ [32, 47]) from List.append_nil _]; repeat (first | exact True.intro | refine And.intro ?_ ?_ | exact DLead.same)) (by repeat (exact True.intro)) rfl rfl rfl
                · intro j hj
                  refine AC.seq ?_
                  refine AC.region ?_
                  refine AL.p (by exact g_cmp rfl rfl rfl) rfl ?_
                  refine AL.nil ?_
                  refine th_n ?_
                  refine AC.seq ?_
                  refine AC.condD rfl (fun h4 => ?_) (fun h4 => ?_)
                  · refine AC.skip ?_
                    refine th_n ?_
                    refine AC.seq ?_
                    refine AC.block ?_
                    refine AC.seq ?_
                    have hj1 : j < m.burs[k].out.length := by omega
                    have hgetl := labsL_get hj1
                    have hxj := hou _ (List.getElem_mem hj1)
                    have hE := edgeText_spec m.sigs m.burs[k].out[j] hxj h.n
                    have hel := edgeL_len h.n hxj
                    have hwl := wordsL_len h.n (l := m.burs[k].out.take j) (fun x hx' => hou x (List.mem_of_mem_take hx'))
                    have htl : (m.burs[k].out.take j).length = j := by rw [List.length_take]; omega
                    have hstp := wordsL_take m.sigs hj1
                    refine AC.region ?_
                    refine AL.p (by exact g_ia_view rfl rfl rfl rfl rfl (by rfl) (by assumption)) rfl ?_
                    refine AL.p (by exact g_load_refN rfl rfl rfl rfl) rfl ?_
                    refine AL.q (by exact h_alloc rfl) rfl ?_
                    refine AL.q (by exact h_store rfl rfl rfl rfl rfl rfl) rfl ?_
                    refine AL.nil ?_
                    refine th_n ?_
                    refine AC.region ?_
                    refine AL.p (by exact mv1 rfl) rfl ?_
                    refine AL.p (by exact g_fa_ref rfl rfl rfl rfl rfl rfl) rfl ?_
                    refine AL.p (by exact g_load_ref rfl rfl rfl) rfl ?_
                    refine AL.p (by exact g_load_ptrN rfl rfl rfl rfl rfl) rfl ?_
                    refine AL.q (by exact h_pure en_edgeText rfl rfl (by repeat (first | exact rfl | exact DLead.same | refine ⟨_, _, rfl, ?_, ?_⟩ | refine ⟨_, rfl, ?_⟩)) hE rfl) rfl ?_
                    refine AL.p (by exact g_saddB (a := [32]) (b := edgeL m.sigs m.burs[k].out[j]) rfl rfl (by (simp only [List.length_append, List.length_cons, List.length_nil, numT_len]; omega))) rfl ?_
                    refine AL.p (by exact g_saddB (a := ((textK m k ++ ([59, 32] ++ numT m.burs[k].from_ ++ [62] ++ numT m.burs[k].to_)) ++ wordsL m.sigs m.burs[k].inn ++ [32, 47]) ++ wordsL m.sigs (m.burs[k].out.take j)) (b := [32] ++ edgeL m.sigs m.burs[k].out[j]) rfl rfl (by (simp only [List.length_append, List.length_cons, List.length_nil, numT_len]; omega))) rfl ?_
                    refine AL.p (by exact as1 rfl) rfl ?_
                    refine AL.nil ?_
                    refine ib_n ?_
                    refine th_n ?_
                    refine AC.region ?_
                    refine AL.p (by exact g_arith rfl rfl rfl (by exact wrap_i64 (by omega))) rfl ?_
                    refine AL.p (by exact mv1 rfl) rfl ?_
                    refine AL.nil ?_
                    refine th_n ?_
                    exact ⟨j + 1, by omega, by omega, Weak.ren _ [] hC rfl (by rw [hstp, show ((textK m k ++ ([59, 32] ++ numT m.burs[k].from_ ++ [62] ++ numT m.burs[k].to_)) ++ wordsL m.sigs m.burs[k].inn ++ [32, 47]) ++ (wordsL m.sigs (m.burs[k].out.take j) ++ ([32] ++ edgeL m.sigs m.burs[k].out[j])) = ((textK m k ++ ([59, 32] ++ numT m.burs[k].from_ ++ [62] ++ numT m.burs[k].to_)) ++ wordsL m.sigs m.burs[k].inn ++ [32, 47]) ++ wordsL m.sigs (m.burs[k].out.take j) ++ ([32] ++ edgeL m.sigs m.burs[k].out[j]) from (List.append_assoc _ _ _).symm]; repeat (first | exact True.intro | refine And.intro ?_ ?_ | exact DLead.same)) (by repeat (exact True.intro)) rfl rfl rfl⟩
                  · refine AC.exit ?_
                    refine th_e ?_
                    refine th_e ?_
                    refine ib_y ?_
                    refine ib_n ?_
                    refine th_n ?_
                    refine AC.region ?_
                    refine AL.p (by exact g_arith rfl rfl rfl (by exact wrap_i64 (by omega))) rfl ?_
                    refine AL.p (by exact mv1 rfl) rfl ?_
                    refine AL.nil ?_
                    refine th_n ?_
                    have hjj : j = m.burs[k].out.length := by omega
                    subst hjj
                    rw [List.take_length]
                    have e : textK m (k + 1) = ((textK m k ++ ([59, 32] ++ numT m.burs[k].from_ ++ [62] ++ numT m.burs[k].to_)) ++ wordsL m.sigs m.burs[k].inn ++ [32, 47]) ++ wordsL m.sigs m.burs[k].out := by rw [hsu]; simp [burT, List.append_assoc]
                    exact ⟨k + 1, by omega, by omega, Weak.ren _ [] hC rfl (by rw [e]; repeat (first | exact True.intro | refine And.intro ?_ ?_ | exact DLead.same)) (by repeat (exact True.intro)) rfl rfl rfl⟩
          · refine AC.exit ?_
            refine th_e ?_
            refine th_e ?_
            refine ib_y ?_
            refine th_n ?_
            refine AC.seq ?_
            refine AC.region ?_
            refine AL.p (by exact mv1 rfl) rfl ?_
            refine AL.p (by exact as1 rfl) rfl ?_
            refine AL.p (by exact as1 rfl) rfl ?_
            refine AL.nil ?_
            refine th_n ?_
            refine AC.ret ?_
            refine bq_r ?_
            have hkk : k = m.burs.length := by omega
            subst hkk
            exact ret2 rfl rfl rfl
theorem en_iFormatM : Enters Tryd.prog 7 := enters_of Tryd.func7 rfl rfl
theorem iFormatM_f (m : Mach) (hS : SmM m) (hgt : goodM m = false) : ASpec Tryd.prog 7 [machA m] [] (Pure1 (.tup [aS (bstr []), aT false])) := by
  have hG := iIsValidMach_spec m hS
  rw [hgt] at hG
  refine ASpec.of Tryd.func7 rfl rfl fun C hC => ?_
  refine AC.seq ?_
  refine AC.region ?_
  refine AL.q (by exact h_boxF rfl rfl) rfl ?_
  refine AL.p (by exact as1 rfl) rfl ?_
  refine AL.p (by exact as1 rfl) rfl ?_
  refine AL.nil ?_
  refine th_n ?_
  refine AC.seq ?_
  refine AC.seq ?_
  refine AC.region ?_
  refine AL.p (by exact g_load_refN rfl rfl rfl rfl) rfl ?_
  refine AL.q (by exact h_pure en_iIsValidMach rfl rfl (by repeat (first | exact rfl | exact DLead.same | refine ⟨_, _, rfl, ?_, ?_⟩ | refine ⟨_, rfl, ?_⟩)) hG rfl) rfl ?_
  refine AL.p (by exact g_not rfl) rfl ?_
  refine AL.nil ?_
  refine th_n ?_
  refine AC.condB rfl (fun h0 => ?_) (fun h0 => ?_)
  · refine AC.seq ?_
    refine AC.region ?_
    refine AL.p (by exact as1 rfl) rfl ?_
    refine AL.p (by exact as1 rfl) rfl ?_
    refine AL.nil ?_
    refine th_n ?_
    refine AC.ret ?_
    refine th_r ?_
    refine bq_r ?_
    exact ret2 rfl rfl rfl
  · refine AC.skip ?_
    refine th_n ?_
    refine AC.seq ?_
    exact absurd h0 (by decide)
theorem iFormatM_spec (m : Mach) (hS : SmM m) : ASpec Tryd.prog 7 [machA m] [] (Pure1 (.tup [aS (bstr (if goodM m = true then textM m else [])), aT (goodM m)])) := by
  cases hg : goodM m with
  | true => rw [if_pos rfl]; exact iFormatM_t m hS hg
  | false => rw [if_neg Bool.false_ne_true]; exact iFormatM_f m hS hg
set_option maxHeartbeats 4000000 in
theorem FnExactFormatMachine_spec (m : Mach) (hM : ArgM m) : ASpec Tryd.prog 3 [machLA m] [] (Pure1 (aT true)) := by
  have hS1 := szMach_spec m 1048576 (by omega) hM
  have hle := szI_le (n := szMc m) (left := 1048576)
  obtain ⟨a, ha⟩ : ∃ a, a = szI (szMc m) 1048576 := ⟨_, rfl⟩
  rw [← ha] at hS1 hle
  refine ASpec.of Tryd.func3 rfl rfl fun C hC => ?_
  refine AC.seq ?_
  refine AC.region ?_
  refine AL.q (by exact h_boxF rfl rfl) rfl ?_
  refine AL.p (by exact as1 rfl) rfl ?_
  refine AL.nil ?_
  refine th_n ?_
  refine AC.seq ?_
  refine AC.region ?_
  refine AL.p (by exact as1 rfl) rfl ?_
  refine AL.nil ?_
  refine th_n ?_
  refine AC.seq ?_
  refine AC.region ?_
  refine AL.p (by exact g_load_refN rfl rfl rfl rfl) rfl ?_
  refine AL.p (by exact mv1 rfl) rfl ?_
  refine AL.q (by exact h_pure en_szMach rfl rfl (by repeat (first | exact rfl | exact DLead.same | refine ⟨_, _, rfl, ?_, ?_⟩ | refine ⟨_, rfl, ?_⟩)) hS1 rfl) rfl ?_
  refine AL.p (by exact as1 rfl) rfl ?_
  refine AL.nil ?_
  refine th_n ?_
  refine AC.seq ?_
  refine AC.seq ?_
  refine AC.region ?_
  refine AL.p (by exact mv1 rfl) rfl ?_
  refine AL.p (by exact g_cmp rfl rfl rfl) rfl ?_
  refine AL.nil ?_
  refine th_n ?_
  refine AC.condD rfl (fun h0 => ?_) (fun h0 => ?_)
  · refine AC.seq ?_
    refine AC.region ?_
    refine AL.p (by exact as1 rfl) rfl ?_
    refine AL.nil ?_
    refine th_n ?_
    refine AC.ret ?_
    refine th_r ?_
    refine bq_r ?_
    exact ret1 rfl rfl
  · refine AC.skip ?_
    refine th_n ?_
    refine AC.seq ?_
    have hsz : szMc m ≤ 1048576 := by have := hle (by omega); omega
    have hS := SmM.of hM hsz
    have hcToM := toMach_spec m hS
    have hcEqM := eqMach_spec m m hS hS
    rw [decide_eq_true rfl] at hcEqM
    have hG1 := sFormatM_spec m hS
    have hG2 := iFormatM_spec m hS
    obtain ⟨g0, hg0⟩ : ∃ g, g = (if goodM m = true then textM m else []) := ⟨_, rfl⟩
    rw [← hg0] at hG1 hG2
    obtain ⟨g1, hg1⟩ : ∃ g, g = goodM m := ⟨_, rfl⟩
    rw [← hg1] at hG1 hG2
    refine AC.region ?_
    refine AL.p (by exact g_load_refN rfl rfl rfl rfl) rfl ?_
    refine AL.q (by exact h_pure en_toMach rfl rfl (by repeat (first | exact rfl | exact DLead.same | refine ⟨_, _, rfl, ?_, ?_⟩ | refine ⟨_, rfl, ?_⟩)) hcToM rfl) rfl ?_
    refine AL.q (by exact h_pure en_sFormatM rfl rfl (by repeat (first | exact rfl | exact DLead.same | refine ⟨_, _, rfl, ?_, ?_⟩ | refine ⟨_, rfl, ?_⟩)) hG1 rfl) rfl ?_
    refine AL.p (by exact mv5 rfl) rfl ?_
    refine AL.p (by exact g_extract (r := .d _) rfl rfl) rfl ?_
    refine AL.p (by exact g_extract (r := .d _) rfl rfl) rfl ?_
    refine AL.p (by exact as1 rfl) rfl ?_
    refine AL.p (by exact as1 rfl) rfl ?_
    refine AL.nil ?_
    refine th_n ?_
    refine AC.seq ?_
    refine AC.region ?_
    refine AL.p (by exact g_load_refN rfl rfl rfl rfl) rfl ?_
    refine AL.q (by exact h_pure en_toMach rfl rfl (by repeat (first | exact rfl | exact DLead.same | refine ⟨_, _, rfl, ?_, ?_⟩ | refine ⟨_, rfl, ?_⟩)) hcToM rfl) rfl ?_
    refine AL.q (by exact h_alloc rfl) rfl ?_
    refine AL.q (by exact h_store rfl rfl rfl rfl rfl rfl) rfl ?_
    refine AL.nil ?_
    refine th_n ?_
    refine AC.seq ?_
    refine AC.region ?_
    refine AL.p (by exact g_load_ptrN rfl rfl rfl rfl rfl) rfl ?_
    refine AL.q (by exact h_pure en_iFormatM rfl rfl (by repeat (first | exact rfl | exact DLead.same | refine ⟨_, _, rfl, ?_, ?_⟩ | refine ⟨_, rfl, ?_⟩)) hG2 rfl) rfl ?_
    refine AL.p (by exact mv5 rfl) rfl ?_
    refine AL.p (by exact g_extract (r := .d _) rfl rfl) rfl ?_
    refine AL.p (by exact g_extract (r := .d _) rfl rfl) rfl ?_
    refine AL.p (by exact as1 rfl) rfl ?_
    refine AL.p (by exact as1 rfl) rfl ?_
    refine AL.nil ?_
    refine th_n ?_
    refine AC.seq ?_
    refine AC.seq ?_
    refine AC.region ?_
    refine AL.p (by exact mv1 rfl) rfl ?_
    refine AL.p (by exact mv1 rfl) rfl ?_
    refine AL.p (by exact g_scmp rfl rfl rfl) rfl ?_
    refine AL.p (by exact mv1 rfl) rfl ?_
    refine AL.caseGN rfl rfl (fun h1 => ?_) (fun h1 => ?_)
    · refine AL.not rfl rfl rfl rfl rfl ?_
      refine AL.not rfl rfl rfl rfl rfl ?_
      refine AL.not rfl rfl rfl rfl rfl ?_
      refine AL.p (by exact g_pickT (r := .d _) rfl rfl) rfl ?_
      refine AL.nil ?_
      refine th_n ?_
      refine AC.condT rfl ?_
      refine AC.seq ?_
      exact absurd rfl h1
    · refine AL.yes rfl rfl rfl ?_
      refine AL.p (by exact mv1 rfl) rfl ?_
      refine AL.yes rfl rfl rfl ?_
      refine AL.p (by exact mv1 rfl) rfl ?_
      refine AL.yes rfl rfl rfl ?_
      refine AL.p (by exact g_neB rfl rfl rfl) rfl ?_
      refine AL.p (by exact g_pickF (r := .d _) rfl rfl) rfl ?_
      refine AL.nil ?_
      refine th_n ?_
      refine AC.condND rfl (fun h2 => ?_) (fun h2 => ?_)
      · refine AC.seq ?_
        exact absurd rfl h2
      · refine AC.skip ?_
        refine th_n ?_
        refine AC.seq ?_
        refine AC.seq ?_
        refine AC.drawn' mixed_ok [[], [], [1], [0,1,2], [0,1,2,3]] (by decide) ?_
        refine DF.op 0 [] 5 rfl rfl rfl (.free rfl (NOp.of (by exact g_load_ptrN rfl rfl rfl rfl rfl))) rfl ?_
        refine DF.op 1 [] 5 rfl rfl rfl (.free rfl (NOp.of (by exact g_load_refN rfl rfl rfl rfl))) rfl ?_
        refine DF.op 2 [1] 5 rfl rfl rfl (.free rfl (by exact h_pure en_toMach rfl rfl (by repeat (first | exact rfl | exact DLead.same | refine ⟨_, _, rfl, ?_, ?_⟩ | refine ⟨_, rfl, ?_⟩)) hcToM rfl)) rfl ?_
        refine DF.op 3 [0,1,2] 5 rfl rfl rfl (.free rfl (by exact h_pure en_eqMach rfl rfl (by repeat (first | exact rfl | exact DLead.same | refine ⟨_, _, rfl, ?_, ?_⟩ | refine ⟨_, rfl, ?_⟩)) hcEqM rfl)) rfl ?_
        refine DF.op 4 [0,1,2,3] 5 rfl rfl rfl (.free rfl (NOp.of (by exact g_not rfl))) rfl ?_
        refine DF.fin (ps := [(0, 1), (0, 2), (1, 0), (2, 0)]) 5 rfl (by decide +kernel) (by decide +kernel) (by rfl) ?_
        refine th_n ?_
        refine AC.condB rfl (fun h3 => ?_) (fun h3 => ?_)
        · refine AC.seq ?_
          exact absurd h3 (by decide)
        · refine AC.skip ?_
          refine th_n ?_
          refine AC.seq ?_
          refine AC.region ?_
          refine AL.p (by exact as1 rfl) rfl ?_
          refine AL.nil ?_
          refine th_n ?_
          refine AC.ret ?_
          refine bq_r ?_
          exact ret1 rfl rfl
end Go.Proofs.YtacmonmehcdhaaaDoor

