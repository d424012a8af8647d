/- What operations on plain values yield: arithmetic, comparisons, conversions, lengths, places, parts. No program is named here. -/
import Derived.Test.YtochebmkfdfbhaaA3
set_option linter.all false
namespace Go.Proofs.Ytochebmkfdfbhaa
open Go.RowKit

abbrev dI (n : Int) : DV := .val (.int .i64 n)
abbrev dS (s : ByteArray) : DV := .val (.string s)
abbrev dT (b : Bool) : DV := .val (.bool b)
abbrev dB (b : UInt8) : DV := .val (.int .u8 (b.toNat : Int))
abbrev aI (n : Int) : AV := .d (dI n)
abbrev aS (s : ByteArray) : AV := .d (dS s)
abbrev aT (b : Bool) : AV := .d (dT b)
abbrev aB (b : UInt8) : AV := .d (dB b)

theorem wrap_ok (k : IntKind) (n : Int) : k.wrap n = n ↔ k.min ≤ n ∧ n ≤ k.max := by
  cases k <;> simp only [IntKind.wrap, IntKind.min, IntKind.max, IntKind.bits, IntKind.signed, Bool.true_and, Bool.false_and, if_true, Bool.false_eq_true, if_false] <;>
    first
      | omega
      | (split <;> rename_i h <;> simp only [decide_eq_true_eq, ge_iff_le] at h <;> omega)
theorem wrap_in (k : IntKind) (n : Int) : k.min ≤ k.wrap n ∧ k.wrap n ≤ k.max := by
  cases k <;> simp only [IntKind.wrap, IntKind.min, IntKind.max, IntKind.bits, IntKind.signed, Bool.true_and, Bool.false_and, if_true, Bool.false_eq_true, if_false] <;>
    first
      | omega
      | (split <;> rename_i h <;> simp only [decide_eq_true_eq, ge_iff_le] at h <;> omega)
theorem wrap_idem (k : IntKind) (n : Int) : k.wrap (k.wrap n) = k.wrap n := (wrap_ok k _).2 (wrap_in k n)
theorem wrap_i64 {n : Int} (h : -9223372036854775808 ≤ n ∧ n ≤ 9223372036854775807) : IntKind.i64.wrap n = n := (wrap_ok _ _).2 h
theorem i64_of {n : Int} (h : IntKind.i64.wrap n = n) : -9223372036854775808 ≤ n ∧ n ≤ 9223372036854775807 := (wrap_ok .i64 _).1 h
theorem wrap_u64 {n : Int} (h : 0 ≤ n ∧ n ≤ 18446744073709551615) : IntKind.u64.wrap n = n := (wrap_ok _ _).2 h
theorem wrap_u8 {n : Int} (h : 0 ≤ n ∧ n ≤ 255) : IntKind.u8.wrap n = n := (wrap_ok _ _).2 h
theorem ok_len {n : Nat} (h : n ≤ maxLen) : okV (.int .i64 (n : Int)) := wrap_i64 (by simp only [maxLen] at h; omega)

def arithOf : BinOp → Int → Int → Option Int
  | .add, a, b => some (a + b)
  | .sub, a, b => some (a - b)
  | .mul, a, b => some (a * b)
  | _, _, _ => none
def cmpOf : BinOp → Int → Int → Option Bool
  | .eql, a, b => some (decide (a = b))
  | .neq, a, b => some (!decide (a = b))
  | .lss, a, b => some (decide (a < b))
  | .leq, a, b => some (decide (a ≤ b))
  | .gtr, a, b => some (decide (b < a))
  | .geq, a, b => some (decide (b ≤ a))
  | _, _, _ => none
def bitsOf (k : IntKind) : BinOp → Int → Int → Option Int
  | .and, a, b => some (k.wrap (BitVec.ofInt k.bits a &&& BitVec.ofInt k.bits b).toNat)
  | .or, a, b => some (k.wrap (BitVec.ofInt k.bits a ||| BitVec.ofInt k.bits b).toNat)
  | .xor, a, b => some (k.wrap (BitVec.ofInt k.bits a ^^^ BitVec.ofInt k.bits b).toNat)
  | .andNot, a, b => some (k.wrap (BitVec.ofInt k.bits a &&& ~~~(BitVec.ofInt k.bits b)).toNat)
  | _, _, _ => none
def scmpOf : BinOp → ByteArray → ByteArray → Option Bool
  | .eql, a, b => some (decide (a = b))
  | .neq, a, b => some (!decide (a = b))
  | .lss, a, b => some (Op.bytesLess a.toList b.toList)
  | .geq, a, b => some (!Op.bytesLess a.toList b.toList)
  | _, _, _ => none

section
variable {P : Program} [PT P]
variable {s : ASt} {dst : Option Nat} {ty : Nat} {pos : String} {af : Array Edge} {gd : Option (Nat × Bool)} {x y : Operand} {xt yt : Nat}

/-- An operation on two values known whole. -/
theorem g_vals2 {ids : List Nat} {o : Oper} (x y : Operand) {u v r : Value} (hxm : x ∈ o.op.operands) (hym : y ∈ o.op.operands) (hx : s.ev x = .d (.val u)) (hy : s.ev y = .d (.val v))
    (hr : ∀ (a : Act) (w : World), a.eval x = u → a.eval y = v → okV u → okV v → (execOp a.eval o).run P w = .ok (.value r) w ∧ okV r) : GOp P ids s o (.d (.val r)) := by
  refine ⟨fun s' ha C U a w m hR => ?_⟩
  have h1 := hR.ev x
  have h2 := hR.ev y
  rw [ha.2.1 x hxm, hx] at h1
  rw [ha.2.1 y hym, hy] at h2
  obtain ⟨e1, o1⟩ := h1.val_eq
  obtain ⟨e2, o2⟩ := h2.val_eq
  obtain ⟨hrun, hok⟩ := hr a w e1 e2 o1 o2
  exact ⟨r, hrun, .d (.val hok)⟩
theorem g_vals1 {ids : List Nat} {o : Oper} (x : Operand) {u r : Value} (hxm : x ∈ o.op.operands) (hx : s.ev x = .d (.val u))
    (hr : ∀ (a : Act) (w : World), a.eval x = u → okV u → (execOp a.eval o).run P w = .ok (.value r) w ∧ okV r) : GOp P ids s o (.d (.val r)) := by
  refine ⟨fun s' ha C U a w m hR => ?_⟩
  have h1 := hR.ev x
  rw [ha.2.1 x hxm, hx] at h1
  obtain ⟨e1, o1⟩ := h1.val_eq
  obtain ⟨hrun, hok⟩ := hr a w e1 o1
  exact ⟨r, hrun, .d (.val hok)⟩

theorem g_arith {k : IntKind} {a b c e : Int} {op : BinOp} (hx : s.ev x = .d (.val (.int k a))) (hy : s.ev y = .d (.val (.int k b))) (hop : arithOf op a b = some c) (hw : k.wrap c = e) :
    GOp P [] s ⟨dst, .binOp op xt x y yt, ty, pos, af, gd⟩ (.d (.val (.int k e))) := by
  subst hw
  refine g_vals2 x y (by simp [Op.operands]) (by simp [Op.operands]) hx hy fun A w e1 e2 _ _ => ⟨?_, wrap_idem _ _⟩
  cases op <;> simp [arithOf] at hop <;> subst hop <;> simp [execOp, e1, e2, eqGuard, binOp, Op.intArith]
theorem g_cmp {k : IntKind} {a b : Int} {op : BinOp} {r : Bool} (hx : s.ev x = .d (.val (.int k a))) (hy : s.ev y = .d (.val (.int k b))) (hop : cmpOf op a b = some r) :
    GOp P [] s ⟨dst, .binOp op xt x y yt, ty, pos, af, gd⟩ (aT r) := by
  refine g_vals2 x y (by simp [Op.operands]) (by simp [Op.operands]) hx hy fun A w e1 e2 _ _ => ⟨?_, trivial⟩
  cases op <;> simp only [cmpOf, Option.some.injEq, reduceCtorEq] at hop <;> subst hop <;> simp [execOp, e1, e2, eqGuard, binOp, Op.intCmp] <;> rfl
theorem g_bits {k : IntKind} {a b c : Int} {op : BinOp} (hx : s.ev x = .d (.val (.int k a))) (hy : s.ev y = .d (.val (.int k b))) (hop : bitsOf k op a b = some c) :
    GOp P [] s ⟨dst, .binOp op xt x y yt, ty, pos, af, gd⟩ (.d (.val (.int k c))) := by
  refine g_vals2 x y (by simp [Op.operands]) (by simp [Op.operands]) hx hy fun A w e1 e2 _ _ => ?_
  cases op <;> simp [bitsOf] at hop <;> subst hop <;> exact ⟨by simp [execOp, e1, e2, eqGuard, binOp, Op.intBits], wrap_idem _ _⟩
theorem g_shl {k k' : IntKind} {a b c : Int} (hx : s.ev x = .d (.val (.int k a))) (hy : s.ev y = .d (.val (.int k' b))) (hb : 0 ≤ b) (hw : k.wrap (a * 2 ^ (min b.toNat k.bits)) = c) :
    GOp P [] s ⟨dst, .binOp .shl xt x y yt, ty, pos, af, gd⟩ (.d (.val (.int k c))) := by
  subst hw
  refine g_vals2 x y (by simp [Op.operands]) (by simp [Op.operands]) hx hy fun A w e1 e2 _ _ => ⟨?_, wrap_idem _ _⟩
  have : ¬ b < 0 := by omega
  simp [execOp, e1, e2, eqGuard, binOp, Op.shift, this]
theorem fdiv_in (k : IntKind) (a : Int) (n : Nat) (h : k.min ≤ a ∧ a ≤ k.max) : k.min ≤ a.fdiv (2 ^ n) ∧ a.fdiv (2 ^ n) ≤ k.max := by
  have hp : (0 : Int) < 2 ^ n := Int.pow_pos (by decide)
  rw [Int.fdiv_eq_ediv_of_nonneg _ (Int.le_of_lt hp)]
  have h1 : (1 : Int) ≤ 2 ^ n := hp
  have hmin : k.min ≤ 0 := by cases k <;> decide
  have hmax : 0 ≤ k.max := by cases k <;> decide
  constructor
  · by_cases ha : 0 ≤ a
    · exact Int.le_trans hmin (Int.ediv_nonneg ha (Int.le_of_lt hp))
    · refine Int.le_trans h.1 ?_
      rw [Int.le_ediv_iff_mul_le hp]
      have : a * 2 ^ n ≤ a * 1 := Int.mul_le_mul_of_nonpos_left (by omega) h1
      omega
  · by_cases ha : 0 ≤ a
    · exact Int.le_trans (Int.ediv_le_self _ ha) h.2
    · exact Int.le_trans (Int.le_of_lt (Int.ediv_neg_of_neg_of_pos (by omega) hp)) hmax
theorem g_shr {k k' : IntKind} {a b c : Int} (hx : s.ev x = .d (.val (.int k a))) (hy : s.ev y = .d (.val (.int k' b))) (hb : 0 ≤ b) (hw : a.fdiv (2 ^ (min b.toNat k.bits)) = c) :
    GOp P [] s ⟨dst, .binOp .shr xt x y yt, ty, pos, af, gd⟩ (.d (.val (.int k c))) := by
  subst hw
  refine g_vals2 x y (by simp [Op.operands]) (by simp [Op.operands]) hx hy fun A w e1 e2 o1 _ => ⟨?_, (wrap_ok _ _).2 (fdiv_in _ _ _ ((wrap_ok _ _).1 o1))⟩
  have : ¬ b < 0 := by omega
  simp [execOp, e1, e2, eqGuard, binOp, Op.shift, this]
theorem g_quo {k : IntKind} {a b c : Int} (hx : s.ev x = .d (.val (.int k a))) (hy : s.ev y = .d (.val (.int k b))) (hb : b ≠ 0) (hw : k.wrap (a.tdiv b) = c) :
    GOp P [] s ⟨dst, .binOp .quo xt x y yt, ty, pos, af, gd⟩ (.d (.val (.int k c))) := by
  subst hw
  refine g_vals2 x y (by simp [Op.operands]) (by simp [Op.operands]) hx hy fun A w e1 e2 _ _ => ⟨?_, wrap_idem _ _⟩
  simp [execOp, e1, e2, eqGuard, binOp, Op.intDiv, hb]
theorem tmod_in (k : IntKind) (a b : Int) (h : k.min ≤ a ∧ a ≤ k.max) : k.min ≤ a.tmod b ∧ a.tmod b ≤ k.max := by
  have hmin : k.min ≤ 0 := by cases k <;> decide
  have hmax : 0 ≤ k.max := by cases k <;> decide
  by_cases ha : 0 ≤ a
  · have h1 := Int.tmod_nonneg b ha
    have h2 : a.tmod b ≤ a := by
      have := Int.natAbs_tmod a b
      have h3 : (a.tmod b).natAbs ≤ a.natAbs := by rw [this]; exact Nat.mod_le _ _
      omega
    omega
  · have h3 : (a.tmod b).natAbs ≤ a.natAbs := by rw [Int.natAbs_tmod]; exact Nat.mod_le _ _
    have h4 : a.tmod b ≤ 0 := by
      have := Int.tmod_nonneg b (show 0 ≤ -a by omega)
      rw [Int.neg_tmod] at this
      omega
    omega
theorem g_rem {k : IntKind} {a b c : Int} (hx : s.ev x = .d (.val (.int k a))) (hy : s.ev y = .d (.val (.int k b))) (hb : b ≠ 0) (hw : a.tmod b = c) :
    GOp P [] s ⟨dst, .binOp .rem xt x y yt, ty, pos, af, gd⟩ (.d (.val (.int k c))) := by
  subst hw
  refine g_vals2 x y (by simp [Op.operands]) (by simp [Op.operands]) hx hy fun A w e1 e2 o1 _ => ⟨?_, (wrap_ok _ _).2 (tmod_in _ _ _ ((wrap_ok _ _).1 o1))⟩
  simp [execOp, e1, e2, eqGuard, binOp, Op.intDiv, hb]
theorem bytes_beq (a b : ByteArray) : (a.toList == b.toList) = decide (a = b) := by
  have : a.toList = b.toList ↔ a = b := by
    constructor
    · intro h
      have h' : a.data.toList = b.data.toList := by simpa [ByteArray.toList_eq] using h
      cases a; cases b; congr; exact Array.toList_inj.1 h'
    · rintro rfl; rfl
  rw [Bool.eq_iff_iff]
  simp [this]
theorem g_scmp {a b : ByteArray} {op : BinOp} {r : Bool} (hx : s.ev x = aS a) (hy : s.ev y = aS b) (hop : scmpOf op a b = some r) :
    GOp P [] s ⟨dst, .binOp op xt x y yt, ty, pos, af, gd⟩ (aT r) := by
  refine g_vals2 x y (by simp [Op.operands]) (by simp [Op.operands]) hx hy fun A w e1 e2 _ _ => ⟨?_, trivial⟩
  cases op <;> simp only [scmpOf, Option.some.injEq, reduceCtorEq] at hop <;> subst hop <;> simp [execOp, e1, e2, eqGuard, binOp, Op.stringOp, bytes_beq]
theorem g_sadd {a b : ByteArray} (hx : s.ev x = aS a) (hy : s.ev y = aS b) (hl : a.size + b.size ≤ 9223372036854775807) :
    GOp P [] s ⟨dst, .binOp .add xt x y yt, ty, pos, af, gd⟩ (aS (a ++ b)) := by
  refine g_vals2 x y (by simp [Op.operands]) (by simp [Op.operands]) hx hy fun A w e1 e2 _ _ => ⟨?_, by show _ ≤ maxLen; simp only [ByteArray.size_append, maxLen]; omega⟩
  have : ¬ ((a.size + b.size : Nat) : Int) > IntKind.i64.max := by
    have : IntKind.i64.max = 9223372036854775807 := by decide
    omega
  simp only [execOp, e1, e2, eqGuard, binOp, Op.stringOp, this]
  simp
theorem g_eqB {a b : Bool} {n bt : Nat} {zs : List ZK} (ht : PT.ty P xt = some ⟨.bool, n, bt, zs⟩) (hx : s.ev x = aT a) (hy : s.ev y = aT b) :
    GOp P [] s ⟨dst, .binOp .eql xt x y yt, ty, pos, af, gd⟩ (aT (a == b)) := by
  obtain ⟨i, d, z, _, hd, hk, _⟩ := PT.facts ht
  have hd : P.underlying xt = some .bool := by rw [hd]; cases d <;> simp [tkOf] at hk; rfl
  refine g_vals2 x y (by simp [Op.operands]) (by simp [Op.operands]) hx hy fun A w e1 e2 _ _ => ⟨?_, trivial⟩
  simp [execOp, e1, e2, eqGuard, run_eql_bool w xt a b hd]
theorem g_neB {a b : Bool} {n bt : Nat} {zs : List ZK} (ht : PT.ty P xt = some ⟨.bool, n, bt, zs⟩) (hx : s.ev x = aT a) (hy : s.ev y = aT b) :
    GOp P [] s ⟨dst, .binOp .neq xt x y yt, ty, pos, af, gd⟩ (aT (!(a == b))) := by
  obtain ⟨i, d, z, _, hd, hk, _⟩ := PT.facts ht
  have hd : P.underlying xt = some .bool := by rw [hd]; cases d <;> simp [tkOf] at hk; rfl
  refine g_vals2 x y (by simp [Op.operands]) (by simp [Op.operands]) hx hy fun A w e1 e2 _ _ => ⟨?_, trivial⟩
  simp [execOp, e1, e2, eqGuard, run_neq_bool w xt a b hd]
theorem g_not {b : Bool} (hx : s.ev x = aT b) : GOp P [] s ⟨dst, .unOp .not xt x, ty, pos, af, gd⟩ (aT (!b)) := by
  refine g_vals1 x (by simp [Op.operands]) hx fun A w e1 _ => ⟨?_, trivial⟩
  simp [execOp, e1, Op.unary]
theorem g_neg {k : IntKind} {a c : Int} (hx : s.ev x = .d (.val (.int k a))) (hw : k.wrap (0 - a) = c) : GOp P [] s ⟨dst, .unOp .neg xt x, ty, pos, af, gd⟩ (.d (.val (.int k c))) := by
  subst hw
  refine g_vals1 x (by simp [Op.operands]) hx fun A w e1 _ => ⟨?_, wrap_idem _ _⟩
  simp [execOp, e1, Op.unary, Op.intArith]
theorem g_convI {t u : Nat} {k k' : IntKind} {a c : Int} {n' bt' : Nat} {zs' : List ZK} {tk : TS} (ht : PT.ty P t = some tk) (hu : PT.ty P u = some ⟨.int k', n', bt', zs'⟩) (hx : s.ev x = .d (.val (.int k a))) (hw : k'.wrap a = c) :
    GOp P [] s ⟨dst, .convert t u x, ty, pos, af, gd⟩ (.d (.val (.int k' c))) := by
  subst hw
  obtain ⟨i, d, z, _, hd, _⟩ := PT.facts ht
  have h2 := PT.int hu
  refine g_vals1 x (by simp [Op.operands]) hx fun A w e1 _ => ⟨?_, wrap_idem _ _⟩
  simp [execOp, e1, convert, run_underlying hd, run_underlying h2, Conv.intToInt]
theorem g_pickT {c a b : Operand} {r : AV} (hc : s.ev c = aT true) (h : s.ev a = r) : GOp P [] s ⟨dst, .pick c a b, ty, pos, af, gd⟩ r := by
  refine ⟨fun s' ha C U A w m hR => ?_⟩
  have h1 := hR.ev c
  rw [ha.2.1 c (by simp [Op.operands]), hc] at h1
  have h2 := hR.ev a
  rw [ha.2.1 a (by simp [Op.operands]), h] at h2
  refine ⟨A.eval a, ?_, h2⟩
  simp [execOp, h1.val_eq.1, asBool]
theorem g_pickF {c a b : Operand} {r : AV} (hc : s.ev c = aT false) (h : s.ev b = r) : GOp P [] s ⟨dst, .pick c a b, ty, pos, af, gd⟩ r := by
  refine ⟨fun s' ha C U A w m hR => ?_⟩
  have h1 := hR.ev c
  rw [ha.2.1 c (by simp [Op.operands]), hc] at h1
  have h2 := hR.ev b
  rw [ha.2.1 b (by simp [Op.operands]), h] at h2
  refine ⟨A.eval b, ?_, h2⟩
  simp [execOp, h1.val_eq.1, asBool]
theorem g_extract {i : Nat} {cs : List AV} {r : AV} (hx : s.ev x = .tup cs) (h : cs[i]? = some r) : GOp P [] s ⟨dst, .extract x i, ty, pos, af, gd⟩ r := by
  refine ⟨fun s' ha C U A w m hR => ?_⟩
  have h1 := hR.ev x
  rw [ha.2.1 x (by simp [Op.operands]), hx] at h1
  generalize hv : A.eval x = v at h1
  cases h1 with
  | tup hs he =>
    rename_i vs
    have hi : i < vs.size := by rw [hs]; exact (List.getElem?_eq_some_iff.1 h).1
    refine ⟨vs.getD i undef, ?_, he i r h⟩
    simp [execOp, hv, Instr.extract, hi]
theorem g_nil {r : AV} (hx : s.ev x = r) (hr : ∀ m F w v, ARep m F w r v → ∃ a, v = .pointer (some a)) : GOp P [] s ⟨dst, .nilCheck x, ty, pos, af, gd⟩ r := by
  refine ⟨fun s' ha C U A w m hR => ?_⟩
  have h1 := hR.ev x
  rw [ha.2.1 x (by simp [Op.operands]), hx] at h1
  obtain ⟨a, hv⟩ := hr _ _ _ _ h1
  exact ⟨_, by simp [execOp, hv], hv ▸ h1⟩
theorem g_nilP {id k : Nat} (hx : s.ev x = .ptr id k) : GOp P [] s ⟨dst, .nilCheck x, ty, pos, af, gd⟩ (.ptr id k) :=
  g_nil hx fun m F w v h => by cases h; exact ⟨_, rfl⟩
theorem g_nilR {cs : List DV} (hx : s.ev x = .d (.ref cs)) : GOp P [] s ⟨dst, .nilCheck x, ty, pos, af, gd⟩ (.d (.ref cs)) :=
  g_nil hx fun m F w v h => by cases h with | d h => cases h; exact ⟨_, rfl⟩
theorem g_fn {f : FuncId} {caps : Array Operand} {cs : List AV} (h : caps.toList.map s.ev = cs) : GOp P [] s ⟨dst, .makeFunc (.func f) #[] caps, ty, pos, af, gd⟩ (.clo f cs) := by
  refine ⟨fun s' ha C U A w m hR => ?_⟩
  refine ⟨.func (.func f) #[] (caps.map A.eval), by simp [execOp, Instr.makeFunc], .clo (by simp [← h]) (fun i c hc => ?_)⟩
  rw [← h, List.getElem?_map, Option.map_eq_some_iff] at hc
  obtain ⟨x, hx, rfl⟩ := hc
  have hx' : caps[i]? = some x := by simpa using hx
  have h1 := hR.ev x
  rw [ha.2.1 x (by simp only [Op.operands, Array.mem_append]; exact .inr (Array.mem_of_getElem? hx'))] at h1
  simpa [Array.getD_eq_getD_getElem?, hx'] using h1
end
end Go.Proofs.Ytochebmkfdfbhaa
