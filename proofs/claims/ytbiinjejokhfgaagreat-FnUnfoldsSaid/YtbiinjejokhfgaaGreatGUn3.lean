/- Contracts of the functions of the program and of the reference, each proved by a walk through its code. -/
import Derived.ProofKit
import Derived.OpenShut
import Derived.Lib.SliceRun
import Derived.Test.YtbiinjejokhfgaaGreatGUn2
set_option linter.all false
set_option maxRecDepth 20000
namespace Go.Proofs.YtbiinjejokhfgaaGreat
open Go.ChangeShapes Go.WideShapes Go.ChangeAt Go.RowKit
theorem rowAt_le {p : Program} {fits : TypeId → Bool} {e : TypeId} {count off n : Nat} : ∀ {d : Nat}, rowAt p fits d e count off n = true → off ≤ count * p.cellsOf e
 | 0, h => by simp [rowAt] at h
 | d + 1, h => by
  unfold rowAt at h
  by_cases hs : p.cellsOf e = 0
  ·simp [hs] at h
  simp only [hs, if_false, Bool.or_eq_true, Bool.and_eq_true, beq_iff_eq, decide_eq_true_eq] at h;have hp : 0 < p.cellsOf e := by omega
  have hd := Nat.div_add_mod off (p.cellsOf e);rcases h with ⟨⟨h1, h2⟩, _⟩ | ⟨h1, _⟩
  ·have : p.cellsOf e * (off / p.cellsOf e) ≤ count * p.cellsOf e := by rw [Nat.mul_comm count]; exact Nat.mul_le_mul_left _ (by omega)
   omega
  have h3 : p.cellsOf e * (off / p.cellsOf e + 1) ≤ count * p.cellsOf e := by rw [Nat.mul_comm count]; exact Nat.mul_le_mul_left _ (by omega)
  have := Nat.mod_lt off hp;rw [Nat.mul_add, Nat.mul_one] at h3;omega
theorem lies_le {p : Program} {e u : TypeId} {cells off n d : Nat} (hu : ∀ m u', p.underlying u ≠ some (.array m u')) (h : liesAt p d e (cells / p.cellsOf e) off u n = true) : off ≤ cells := by
 cases d with
 | zero => simp [liesAt] at h
 | succ d =>
  unfold liesAt at h;rw [Bool.or_eq_true] at h;rcases h with h | h
  ·have := rowAt_le h;exact Nat.le_trans this (Nat.div_mul_le_self _ _)
  split at h
  ·rename_i m u' e2; exact absurd e2 (hu m u')
  cases h
theorem byte_of {n : Int} (h : (Lit.int .u8 n).wf = true) : n = (((UInt8.ofNat n.toNat).toNat : Nat) : Int) := by
 have := bounds_u8 h
 have e : (UInt8.ofNat n.toNat).toNat = n.toNat := by
  rw [UInt8.toNat_ofNat'];exact Nat.mod_eq_of_lt (by omega)
 rw [e]; omega
theorem okWide_has {P : Program} {w : World} {r : Reach} {base : Nat} {t e : TypeId} {a : Addr} {len cap : Nat} (ht : P.underlying t = some (.slice e)) (h : Value.okWide P w r base t (.slice (some a) len cap)) : w.has P r base a e cap := by
 simp only [Value.okWide, ht, Cell.okWide, Cell.ok] at h;exact h.2.2
theorem arg_bytes {H : Type} {enc : TypeId × Value → H} {P : Program} {W : World} {t e te base : Nat} {v : Value} {d : DataW H} {ps : List MemPlace} (ht : P.underlying t = some (.slice e)) (he : P.underlying e = some (.int .u8)) (hc : P.cellsOf e = 1)
  (hval : Value.okWide P W .any base t v) (h : DataW.Trod enc P W 0 (fun _ => true) true t v d ps) :
  ∃ xs : List UInt8, xs.length ≤ 9223372036854775807 ∧ DRep (fun k => k < W.heap.size) W (.view te 1 (xs.map fun b => [dB b])) v := by
 obtain ⟨a0, len, cap, rfl⟩ := okWide_slice ht hval;obtain ⟨fuel, hf⟩ := h;rcases open_ints ht he hc hf with ⟨hcs, hx⟩ | ⟨a, len', cap', zs, hcs, _, hl, hm, hz, hx, hcell, hwz⟩
 ·simp [Value.cells] at hcs;obtain ⟨rfl, rfl, rfl⟩ := hcs;exact ⟨[], Nat.zero_le _, .nil⟩
 simp [Value.cells] at hcs;obtain ⟨rfl, rfl, rfl⟩ := hcs;simp only [if_true] at hz;obtain ⟨_, hspot, row, cells, hsh, hlies⟩ := okWide_has ht hval;have hoff : a.off ≤ cells := lies_le (fun m u' hh => by rw [he] at hh; cases hh) hlies;unfold World.shape? at hsh
 split at hsh
 ·rename_i arr el fz hb;simp only [Option.some.injEq, Prod.mk.injEq] at hsh;obtain ⟨rfl, rfl⟩ := hsh;obtain ⟨b, off, spot⟩ := a;simp only at hspot hb hoff;subst hspot
  have hat : ∀ i, i < zs.length → arr[off + i]? = some (.int .u8 (zs.getD i 0)) := by
   intro i hi;have := hcell i hi;rw [add_plain] at this;unfold World.cell? at this;simpa [hb] using this
  have hsz : off + cap ≤ arr.size := by
   by_cases hc0 : cap = 0
   ·omega
   have := hat (cap - 1) (by omega);have := (Array.getElem?_eq_some_iff.1 this).1;omega
  refine ⟨(zs.take len).map fun n => UInt8.ofNat n.toNat, ?_, ?_⟩
  ·rw [List.length_map, List.length_take];have : cap ≤ 9223372036854775807 := hm;omega
  have hle : (((zs.take len).map fun n => UInt8.ofNat n.toNat).map fun b => [dB b]).length = len := by
   rw [List.length_map, List.length_map, List.length_take]; omega
  have hv := DRep.view (F := fun k => k < W.heap.size) (w := W) (e := te) (sz := 1) (els := ((zs.take len).map fun n => UInt8.ofNat n.toNat).map fun b => [dB b]) (b := b) (off := off) (cap := cap) (arr := arr) (lt_of_block hb) hb (by omega) hm (by omega) (fun i cs hi => ?_) (fun i cs j d hi hj => ?_)
  ·rw [hle] at hv; exact hv
  ·rw [List.getElem?_map] at hi;cases hh : ((zs.take len).map fun n => UInt8.ofNat n.toNat)[i]? with
   | none => rw [hh] at hi; cases hi
   | some b => rw [hh] at hi; cases hi; rfl
  rw [List.getElem?_map, List.getElem?_map] at hi;cases hh : (zs.take len)[i]? with
  | none => rw [hh] at hi; cases hi
  | some n =>
   rw [hh] at hi;cases hi;obtain ⟨hi1, hi2⟩ := List.getElem?_eq_some_iff.1 hh;rw [List.length_take] at hi1;rw [List.getElem_take] at hi2;have hw := hwz n (by rw [← hi2]; exact List.getElem_mem _);cases j with
   | succ j => simp at hj
   | zero =>
    simp only [List.getElem?_cons_zero, Option.some.injEq] at hj;subst hj;have hai := hat i (by omega);have hgd : zs.getD i 0 = n := by rw [List.getD_eq_getElem?_getD, List.getElem?_eq_getElem (by omega), hi2]; rfl
    rw [hgd] at hai
    have : arr.getD (off + i * 1 + 0) undef = .int .u8 n := by
     rw [Nat.mul_one, Nat.add_zero, Array.getD_eq_getD_getElem?, hai]; rfl
    rw [this];have hb8 := byte_of hw;generalize (UInt8.ofNat n.toNat) = b8 at hb8;subst hb8;refine .val ?_;show IntKind.u8.wrap _ = _;rw [wrap_ok];have := UInt8.toNat_lt b8;exact ⟨by show (0 : Int) ≤ _; omega, by show _ ≤ (255 : Int); omega⟩
 cases hsh
theorem ASpec.law {P : Program} {f : FuncId} {ars : List AV} {W : World} {vs : Array Value} (h : ASpec P f ars [] (Pure1 (aT true))) (hn : vs.size = ars.length) (ha : ∀ (i : Nat) x, ars[i]? = some x → ARep (fun _ => none) (fun k => k < W.heap.size) W x (vs.getD i undef)) :
  Calls P f vs W fun e W' => e = .returned (.bool true) ∧ Below W.heap.size W W' := by
 refine (h W (fun _ => none) (fun k => k < W.heap.size) vs (fun k hk => ⟨hk, fun id c p hc => by simp [getL] at hc⟩) hn ha (fun id c hc => by simp [getL] at hc) (fun id id' c c' p p' b hc => by simp [getL] at hc) (fun id _ => rfl)).mono ?_;rintro e W' ⟨v, r, chs', m', F', rfl, ⟨rfl, rfl⟩, _, _, _, ⟨h1, h2, h3, h4, h5⟩, hv, _⟩;refine ⟨?_, h1, h2, h3, h4, fun k hk => h5 k hk (fun id c p hc => by simp [getL] at hc)⟩;cases hv with
 | d hd => cases hd; rfl
open Go.RowKit
section
variable {P : Program} [PT P] {C : Ctx} {Q : Exit → ASt → Prop} {s : ASt} {ops : Array Oper}
theorem AL.eqNil {x : Operand} {rest : List Oper} {dst : Option Nat} {ty xt yt : Nat} {pos : String} {af : Array Edge} {e sz e0 n bt : Nat} {zs : List ZK} {els : List (List DV)} (ht : PT.ty P xt = some ⟨.slice e0, n, bt, zs⟩) (hx : s.ev x = .d (.view e sz els)) (hd : dstOk dst s.n = true)
  (h : ∀ b, (b = true → els = []) → AL P C ops rest Q (s.put dst (aT b))) : AL P C ops (⟨dst, .binOp .eql xt x (.const (.slice none 0 0)) yt, ty, pos, af, none⟩ :: rest) Q s := by
 refine ⟨fun a w hR' => ?_⟩;obtain ⟨m, hR⟩ := hR';refine wpList_step fun K hK => ?_
 rw [if_pos (wanted_none rfl a)];obtain ⟨i, d, z, _, hdd, hk, _⟩ := PT.facts ht;have hu : P.underlying xt = some (.slice e0) := by rw [hdd]; cases d <;> simp [tkOf] at hk; rw [hk]
 have hv := hR.ev x;rw [hx] at hv
 have key : ∃ (ad : Option Addr) (l c : Nat), a.eval x = .slice ad l c ∧ (ad = none → els = []) := by
  generalize hz : a.eval x = vv at hv;cases hv with
  | d hd =>
   cases hd with
   | nil => exact ⟨_, _, _, rfl, fun _ => rfl⟩
   | empty => exact ⟨_, _, _, rfl, fun _ => rfl⟩
   | view => exact ⟨_, _, _, rfl, fun h => by cases h⟩
 obtain ⟨ad, l, c, he, hne⟩ := key
 have hrun : (execOp a.eval ⟨dst, .binOp .eql xt x (.const (.slice none 0 0)) yt, ty, pos, af, none⟩).run P w = .ok (.value (.bool ad.isNone)) w := by
  have h1 : a.eval (.const (.slice none 0 0)) = .slice none 0 0 := rfl;have h2 := Go.Lib.run_eql_slice_nil (P := P) w xt e0 ad l c 0 0 hu;simp only [execOp, he, h1, eqGuard];simp [h2]
 unfold Oper.wp;rw [hrun];refine hK _ _ ((h ad.isNone (fun hb => hne (by simpa using hb))).run _ _ ⟨m, ?_⟩);have := hR.setSlot (x := aT ad.isNone) (v := .bool ad.isNone) hd (.d (.val trivial));cases hdst : dst <;> (rw [hdst] at this; exact this)
end
section
variable {P : Program} [PT P] {s : ASt} {dst : Option Nat} {ty : Nat} {pos : String} {af : Array Edge} {gd : Option (Nat × Bool)} {x y : Operand} {f t : Nat}
theorem h_make {e n bt sz k : Nat} {zs : List ZK} {te : TS} {I : Int} (ht : PT.ty P t = some ⟨.slice e, n, bt, zs⟩) (he : PT.ty P e = some te) (hs : te.size = sz) (hz0 : te.zero.length = te.size) (h0 : Nat.beq sz 0 = false)
  (hx : s.ev x = aI I) (hy : s.ev y = aI I) (hI : I = (k : Int)) (hbytes : te.bytes * k ≤ 281474976710656) (hk : k ≤ 9223372036854775807) :
  NOp P [] s ⟨dst, .makeSlice t x y, ty, pos, af, gd⟩ f ⟨.own f k, [(f, some (.arr e sz (List.replicate k (te.zero.map fun z => DV.val z.val))))]⟩ := by
 refine NOp.value fun s' ha C U U' a w m hR hU hU' hd => ?_
 have hne : sz ≠ 0 := Nat.ne_of_beq_eq_false h0;obtain ⟨i, d, z, hi, hd', hkd, h1, h2, h3, h4⟩ := PT.facts he;have hvx := hR.ev x;rw [ha.2.1 x (by simp [Op.operands]), hx] at hvx;obtain ⟨ex, _⟩ := hvx.val_eq;have hvy := hR.ev y;rw [ha.2.1 y (by simp [Op.operands]), hy] at hvy;obtain ⟨ey, _⟩ := hvy.val_eq;subst hI
 have hb' : (i.bytes : Int) * (k : Int) ≤ 281474976710656 := by
  rw [h2];have : ((te.bytes * k : Nat) : Int) ≤ 281474976710656 := by omega
  rwa [Int.natCast_mul] at this
 have hrun := run_make (P := P) w t e i z (PT.slice ht) hi h3 .i64 .i64 (k : Int) (k : Int) (by omega) (Int.le_refl _) hb' (by omega);simp only [Int.toNat_natCast] at hrun;have hzc : z.cells.size = sz := by rw [h4]; simp [hz0, hs]
 have hXs : (madeCells z.cells (k * i.size)).size = k * sz := by rw [size_madeCells, h1, hs]
 refine ⟨_, _, _, ?_, hR.newArr (n := k) (cap := k) (els := List.replicate k (te.zero.map fun z => DV.val z.val)) (vs := madeCells z.cells (k * i.size)) (fz := (0, 0)) (e := e) (sz := sz) hd (by simpa using hU 0 (by omega)) (fun j hj => by have := hU' j hj; exact ⟨this.1, by omega⟩) (by simp) hXs (by simp) (by simp only [maxLen]; omega) (by omega) (fun i' cs hc => ?_) (fun i' cs j dd hc hdd => ?_)⟩
 ·simp only [execOp, Sem.run_bind, ex, ey, hrun]
  rfl
 ·obtain ⟨h5, h6⟩ := List.getElem?_eq_some_iff.1 hc;rw [List.getElem_replicate] at h6;rw [← h6, List.length_map, hz0, hs]
 obtain ⟨h5, h6⟩ := List.getElem?_eq_some_iff.1 hc;rw [List.getElem_replicate] at h6;rw [List.length_replicate] at h5;subst h6;rw [List.getElem?_map, Option.map_eq_some_iff] at hdd;obtain ⟨zk, hzk, rfl⟩ := hdd;have hj : j < sz := by have := (List.getElem?_eq_some_iff.1 hzk).1; omega
 have hin : i' * sz + j < k * i.size := by
  rw [h1, hs];have : (i' + 1) * sz ≤ k * sz := Nat.mul_le_mul_right _ h5;rw [Nat.succ_mul] at this; omega
 have hmod : (i' * sz + j) % sz = j := by rw [Nat.mul_comm, Nat.mul_add_mod, Nat.mod_eq_of_lt hj]
 have hval : (madeCells z.cells (k * i.size)).getD (i' * sz + j) undef = zk.val := by
  unfold madeCells;rw [Array.getD_eq_getD_getElem?, Array.getElem?_map, Array.getElem?_range, if_pos hin];show z.cells[(i' * sz + j) % z.cells.size]! = zk.val;rw [hzc, hmod, h4];rw [getElem!_def];simp [hzk]
 rw [hval];exact .val zk.ok
end
structure Cond where
 place : Int
 by_ : Int
 deriving DecidableEq
structure Ev where
 t : Int
 pre : List Int
 deriving DecidableEq
structure Unf where
 cs : List Cond
 es : List Ev
 deriving DecidableEq
abbrev condD (c : Cond) : List DV := [dI c.place, dI c.by_]
abbrev evD (e : Ev) : List DV := [dI e.t, vI e.pre]
abbrev evA (e : Ev) : AV := .agg [aI e.t, .d (vI e.pre)]
abbrev condsL (l : List Cond) : List (List DV) := l.map condD
abbrev evsL (l : List Ev) : List (List DV) := l.map evD
abbrev vCs (l : List Cond) : DV := .view 143 2 (condsL l)
abbrev vEs (l : List Ev) : DV := .view 59 2 (evsL l)
abbrev unfA (u : Unf) : AV := .agg [.d (vCs u.cs), .d (vEs u.es)]
abbrev unfD (u : Unf) : List DV := [vCs u.cs, vEs u.es]
theorem condsL_get {l : List Cond} {k : Nat} (h : k < l.length) : (condsL l)[k]? = some [dI l[k].place, dI l[k].by_] := by simp [condsL, List.getElem?_map, List.getElem?_eq_getElem h]
theorem evsL_get {l : List Ev} {k : Nat} (h : k < l.length) : (evsL l)[k]? = some [dI l[k].t, vI l[k].pre] := by simp [evsL, List.getElem?_map, List.getElem?_eq_getElem h]
def inR (N : Net) (t : Int) : Bool := decide (0 ≤ t) && decide (t ≤ (N.ts.length : Int) - 1)
def Cur.pick (c : Cur) (n : Int) : Int × Cur :=
 if n ≤ 1 then (0, c) else if 200 < n then ((c.next * 256 + c.after.next).tmod n, c.after.after) else (c.next.tmod n, c.after)
theorem drawn_in (s : Int) : 0 ≤ drawn s ∧ drawn s ≤ 255 := by
 unfold drawn
 have h1 : (BitVec.ofInt 64 (s.fdiv (2 ^ (min (40 : Int).toNat 64))) &&& BitVec.ofInt 64 255).toNat ≤ 255 := by
  rw [BitVec.toNat_and];exact Nat.le_trans Nat.and_le_right (by decide)
 generalize (BitVec.ofInt 64 (s.fdiv (2 ^ (min (40 : Int).toNat 64))) &&& BitVec.ofInt 64 255).toNat = x at h1;have h2 : IntKind.u64.wrap (x : Int) = x := wrap_u64 (by omega);rw [h2, wrap_i64 (by omega)];omega
theorem Cur.next_in (c : Cur) : 0 ≤ c.next ∧ c.next ≤ 255 := by
 unfold Cur.next
 split
 ·exact c.byte_in
 exact drawn_in _
theorem Cur.pick_in (c : Cur) (n : Int) (h : 1 ≤ n) : 0 ≤ (c.pick n).1 ∧ (c.pick n).1 < n := by
 have h1 := c.next_in;have h2 := c.after.next_in;unfold Cur.pick
 split
 ·exact ⟨Int.le_refl _, by show (0 : Int) < n; omega⟩
 split
 ·exact ⟨Int.tmod_nonneg _ (by omega), Int.tmod_lt_of_pos _ (by omega)⟩
 exact ⟨Int.tmod_nonneg _ (by omega), Int.tmod_lt_of_pos _ (by omega)⟩
theorem Cur.pick_pos (c : Cur) (n : Int) : (c.pick n).2.pos ≤ c.pos + 2 := by
 unfold Cur.pick
 split
 ·show c.pos ≤ _; omega
 split
 ·show c.pos + 1 + 1 ≤ _; omega
 show c.pos + 1 ≤ _; omega
theorem Cur.pick_code (c : Cur) (n : Int) : (c.pick n).2.code = c.code := by
 unfold Cur.pick
 split
 ·rfl
 split <;> rfl
set_option maxHeartbeats 1000000 in
theorem pick_spec (c : Cur) (n : Int) (hn : n ≤ 65536) (hp : c.pos ≤ 100000000000000) : ASpec Tryz.prog 48 [.ptr 0 0, aI n] [(0, curC c)] (Fun1 (aI (c.pick n).1) [(0, curC (c.pick n).2)]) := by
 have hi := c.next_in;have hi2 := c.after.next_in;have hpa : c.after.pos ≤ 1000000000000000 := by show c.pos + 1 ≤ _; omega
 refine ASpec.of Tryz.func48 rfl rfl fun C hC => ?_
 refine AC.seq (AC.region ?_);refine za ?_;refine AL.nil (th_n (AC.seq (AC.seq (AC.region ?_))));refine zm ?_;refine zc ?_;refine AL.nil (th_n ?_);refine AC.condD rfl (fun h0 => ?_) (fun h0 => ?_)
 ·refine AC.seq (AC.region ?_);refine za ?_;refine AL.nil (th_n (AC.ret (th_r (bq_r ?_))));have e : c.pick n = (0, c) := by unfold Cur.pick; rw [if_pos h0]
  exact retF rfl (by rw [e]; repeat (exact DLead.same)) (by rw [e]; repeat (first | exact True.intro | refine And.intro ?_ ?_ | exact DLead.same | exact rfl | refine ⟨_, _, rfl, rfl, ?_⟩ | refine ⟨_, rfl, ?_⟩ | refine ⟨_, _, rfl, ?_, ?_⟩)) rfl
 refine AC.skip (th_n (AC.seq (AC.region ?_)));refine AL.p (by exact mv3 rfl) rfl ?_;refine AL.q (by exact h_fun (cs := [0]) en_next rfl rfl (by repeat (first | exact rfl | refine ⟨_, _, rfl, ?_, ?_⟩ | refine ⟨_, rfl, ?_⟩)) (by repeat (first | exact True.intro | refine And.intro ?_ ?_ | exact DLead.same | exact rfl | refine ⟨_, _, rfl, rfl, ?_⟩ | refine ⟨_, rfl, ?_⟩ | refine ⟨_, _, rfl, ?_, ?_⟩)) (next_spec _ (by omega)) rfl rfl rfl rfl) rfl ?_;refine za ?_;refine AL.nil (th_n (AC.seq (AC.seq (AC.region ?_))));refine zm ?_;refine zc ?_;refine AL.nil (th_n ?_);refine AC.condD rfl (fun h1 => ?_) (fun h1 => ?_)
 ·refine AC.region ?_;refine zm ?_;refine zA ?_;refine AL.p (by exact mv3 rfl) rfl ?_;refine AL.q (by exact h_fun (cs := [0]) en_next rfl rfl (by repeat (first | exact rfl | refine ⟨_, _, rfl, ?_, ?_⟩ | refine ⟨_, rfl, ?_⟩)) (by repeat (first | exact True.intro | refine And.intro ?_ ?_ | exact DLead.same | exact rfl | refine ⟨_, _, rfl, rfl, ?_⟩ | refine ⟨_, rfl, ?_⟩ | refine ⟨_, _, rfl, ?_, ?_⟩)) (next_spec _ (by assumption)) rfl rfl rfl rfl) rfl ?_;refine zA ?_;refine za ?_;refine AL.nil (th_n (AC.seq (AC.region ?_)));refine zm ?_;refine zm ?_;refine AL.p (by exact g_rem rfl rfl (by omega) rfl) rfl ?_;refine za ?_;refine AL.nil (th_n (AC.ret (bq_r ?_)))
  (have e : c.pick n = ((c.next * 256 + c.after.next).tmod n, c.after.after) := (by unfold Cur.pick; rw [if_neg h0, if_pos h1]); exact retF rfl (by rw [e]; repeat (exact DLead.same)) (by rw [e]; repeat (first | exact True.intro | refine And.intro ?_ ?_ | exact DLead.same | exact rfl | refine ⟨_, _, rfl, rfl, ?_⟩ | refine ⟨_, rfl, ?_⟩ | refine ⟨_, _, rfl, ?_, ?_⟩)) rfl)
 refine AC.skip (th_n (AC.seq (AC.region ?_)));refine zm ?_;refine zm ?_;refine AL.p (by exact g_rem rfl rfl (by omega) rfl) rfl ?_;refine za ?_;refine AL.nil (th_n (AC.ret (bq_r ?_)))
 (have e : c.pick n = (c.next.tmod n, c.after) := (by unfold Cur.pick; rw [if_neg h0, if_neg h1]); exact retF rfl (by rw [e]; repeat (exact DLead.same)) (by rw [e]; repeat (first | exact True.intro | refine And.intro ?_ ?_ | exact DLead.same | exact rfl | refine ⟨_, _, rfl, rfl, ?_⟩ | refine ⟨_, rfl, ?_⟩ | refine ⟨_, _, rfl, ?_, ?_⟩)) rfl)
theorem en_pick : Enters Tryz.prog 48 := enters_of Tryz.func48 rfl rfl
theorem one_spec (c : Cur) (n : Int) (hn : n ≤ 65536) (hp : c.pos ≤ 100000000000000) : ASpec Tryz.prog 100 [.ptr 0 0, aI n] [(0, curC c)] (Fun1 (aT (decide ((c.pick n).1 = 0))) [(0, curC (c.pick n).2)]) := by
 refine ASpec.of Tryz.func100 rfl rfl fun C hC => ?_
 refine AC.seq (AC.region ?_);refine za ?_;refine AL.nil (th_n (AC.seq (AC.region ?_)));refine AL.p (by exact mv3 rfl) rfl ?_;refine zm ?_;refine AL.q (by exact h_fun (cs := [0]) en_pick rfl rfl (by repeat (first | exact rfl | exact DLead.same | refine ⟨_, _, rfl, ?_, ?_⟩ | refine ⟨_, rfl, ?_⟩)) (by repeat (first | exact True.intro | refine And.intro ?_ ?_ | exact DLead.same | exact rfl | refine ⟨_, _, rfl, rfl, ?_⟩ | refine ⟨_, rfl, ?_⟩ | refine ⟨_, _, rfl, ?_, ?_⟩)) (pick_spec _ _ (by assumption) (by assumption)) rfl rfl rfl rfl) rfl ?_;refine zc ?_;refine za ?_;refine AL.nil (th_n (AC.ret (bq_r ?_)));exact retF rfl (by repeat (exact DLead.same)) (by repeat (first | exact True.intro | refine And.intro ?_ ?_ | exact DLead.same | exact rfl | refine ⟨_, _, rfl, rfl, ?_⟩ | refine ⟨_, rfl, ?_⟩ | refine ⟨_, _, rfl, ?_, ?_⟩)) rfl
theorem en_one : Enters Tryz.prog 100 := enters_of Tryz.func100 rfl rfl
def putI (l : List Int) (x : Int) : List Int :=
 if l[l.findIdx (fun y => decide (x ≤ y))]? = some x then l else l.take (l.findIdx (fun y => decide (x ≤ y))) ++ [x] ++ l.drop (l.findIdx (fun y => decide (x ≤ y)))
theorem putI_len (l : List Int) (x : Int) : (putI l x).length ≤ l.length + 1 := by
 unfold putI
 split
 ·omega
 simp; omega
theorem idx_at {l : List Int} {x : Int} {k : Nat} (hk : k < l.length) (h : ¬ l[k] < x) (hp : ∀ j (hj : j < k), l[j]'(by omega) < x) : l.findIdx (fun y => decide (x ≤ y)) = k :=
 (List.findIdx_eq hk).2 ⟨by simp; omega, fun j hj => by have := hp j hj; simp; omega⟩
theorem idx_end {l : List Int} {x : Int} (hp : ∀ j (hj : j < l.length), l[j] < x) {k : Nat} (hk : l.length = k) : l.findIdx (fun y => decide (x ≤ y)) = k := by
 subst hk;exact List.findIdx_eq_length.2 (fun y hy => by obtain ⟨j, hj, rfl⟩ := List.getElem_of_mem hy; have := hp j hj; simp; omega)
theorem putI_same {l : List Int} {x : Int} {k : Nat} (h : l.findIdx (fun y => decide (x ≤ y)) = k) (hk : k < l.length) (he : l[k] = x) : putI l x = l := by
 unfold putI; rw [h, List.getElem?_eq_getElem hk, he, if_pos rfl]
theorem putI_at {l : List Int} {x : Int} {k : Nat} (h : l.findIdx (fun y => decide (x ≤ y)) = k) (hk : k < l.length) (he : ¬ l[k] = x) : putI l x = l.take k ++ [x] ++ l.drop k := by
 unfold putI; rw [h, List.getElem?_eq_getElem hk, if_neg (by simpa using he)]
theorem putI_end {l : List Int} {x : Int} {k : Nat} (h : l.findIdx (fun y => decide (x ≤ y)) = k) (hk : l.length ≤ k) : putI l x = l.take k ++ [x] ++ l.drop k := by
 unfold putI; rw [h, List.getElem?_eq_none hk, if_neg (by simp)]
set_option maxHeartbeats 2000000 in
theorem l1Put_spec (l : List Int) (x : Int) (hl : l.length ≤ 1000000) : ASpec Tryz.prog 131 [.d (vI l), aI x] [] (Pure1 (.d (vI (putI l x)))) := by
 refine ASpec.of Tryz.func131 rfl rfl fun C hC => ?_
 refine AC.seq (AC.region ?_);refine za ?_;refine AL.nil (th_n (AC.seq (AC.region ?_)));refine za ?_;refine AL.nil (th_n ?_);refine AC.cut (fun (k : Nat) => ⟨48, 0, [(0, .d (vI l)), (1, aI x), (5, aI k)], []⟩) (fun k => k ≤ l.length ∧ l.findIdx (fun y => decide (x ≤ y)) = k) ?_ ?_
 ·refine AC.block ?_;refine AC.loop (ι := Nat) (fun k => ⟨48, 0, [(0, .d (vI l)), (1, aI x), (5, aI k)], []⟩) (fun k => k ≤ l.length ∧ ∀ j (hj : j < l.length), j < k → l[j] < x) (fun k => l.length - k) (0) ?_ (⟨Nat.zero_le _, fun j _ hj => by omega⟩) ?_
  ·refine Weak.ren _ [] hC rfl ?_ ?_ rfl rfl rfl <;> repeat (first | exact True.intro | refine And.intro ?_ ?_ | exact DLead.same)
  intro k ⟨hk, hall⟩;refine AC.seq (AC.seq (AC.region ?_));refine zm ?_;refine zm ?_;refine kH ?_;refine zc ?_;refine zm ?_;refine AL.caseG rfl rfl (fun h0 => ?_) (fun h0 => ?_)
  ·refine zy ?_;have hk1 : k < l.length := by omega
   have hget := ints_at hk1;refine zm ?_;refine zy ?_;refine zm ?_;refine zy ?_;refine AL.p (by exact g_ia_view rfl rfl rfl rfl rfl (by rfl) (by assumption)) rfl ?_;refine zy ?_;refine zr ?_;refine zy ?_;refine zm ?_;refine zy ?_;refine zc ?_;refine zQ ?_;refine AL.nil (th_n ?_);refine AC.condD rfl (fun h1 => ?_) (fun h1 => ?_)
   ·refine AC.skip (th_n (AC.block (AC.region ?_)));refine zm ?_;refine zA ?_;refine za ?_;refine AL.nil (ib_n (th_n ?_));exact ⟨k + 1, ⟨by omega, fun j hj hj2 => by rcases Nat.lt_succ_iff_lt_or_eq.1 hj2 with h | rfl; exact hall j hj h; exact h1⟩, by omega, Weak.ren _ [] hC rfl (by repeat (first | exact True.intro | refine And.intro ?_ ?_ | exact DLead.same)) (by repeat (exact True.intro)) rfl rfl rfl⟩
   refine AC.exit (th_e (th_e (ib_y (th_n ?_))));exact ⟨k, ⟨hk, idx_at hk1 h1 (fun j hj => hall j (by omega) hj)⟩, Weak.ren _ [] hC rfl (by repeat (first | exact True.intro | refine And.intro ?_ ?_ | exact DLead.same)) (by repeat (exact True.intro)) rfl rfl rfl⟩
  refine zn ?_;refine zn ?_;refine zn ?_;refine zn ?_;refine zn ?_;refine zn ?_;refine zP ?_;refine AL.nil (th_n ?_);refine AC.condF rfl ?_;refine AC.exit (th_e (th_e (ib_y (th_n ?_))));exact ⟨k, ⟨hk, idx_end (fun j hj => hall j hj (by omega)) (by omega)⟩, Weak.ren _ [] hC rfl (by repeat (first | exact True.intro | refine And.intro ?_ ?_ | exact DLead.same)) (by repeat (exact True.intro)) rfl rfl rfl⟩
 intro k ⟨hk, hidx⟩;refine AC.seq (AC.seq (AC.region ?_));refine zm ?_;refine zm ?_;refine kH ?_;refine zc ?_;refine zm ?_;refine AL.caseG rfl rfl (fun h0 => ?_) (fun h0 => ?_)
 ·refine zy ?_;have hk1 : k < l.length := by omega
  have hget := ints_at hk1;refine zm ?_;refine zy ?_;refine zm ?_;refine zy ?_;refine AL.p (by exact g_ia_view rfl rfl rfl rfl rfl (by rfl) (by assumption)) rfl ?_;refine zy ?_;refine zr ?_;refine zy ?_;refine zm ?_;refine zy ?_;refine zc ?_;refine zQ ?_;refine AL.nil (th_n ?_);refine AC.condD rfl (fun h1 => ?_) (fun h1 => ?_)
  ·refine AC.seq (AC.region ?_);refine zm ?_;refine za ?_;refine AL.nil (th_n (AC.ret (th_r (bq_r ?_))));have e : putI l x = l := putI_same hidx hk1 h1;exact ret1 rfl (by rw [e])
  refine AC.skip (th_n (AC.seq ?_));have e : putI l x = l.take k ++ [x] ++ l.drop k := by exact putI_at hidx hk1 h1
  refine AC.region ?_;refine AL.q (by exact h_lit rfl rfl rfl rfl rfl rfl rfl rfl) rfl ?_;refine zm ?_;refine zm ?_;refine AL.p (by exact g_slice_view (r := ints (l.take k)) rfl rfl rfl rfl .none (.some rfl rfl) (Nat.zero_le _) (by rw [ints_len]; exact hk) (by simp [List.map_take])) rfl ?_;refine AL.q (by exact h_appendI [] (l.take k) (.own rfl rfl rfl) (.view rfl) (by simp; omega) (by simp)) rfl ?_;refine AL.p (by exact as2 rfl) rfl ?_;refine AL.nil (th_n (AC.seq (AC.region ?_)));refine kB ?_;refine zm ?_;refine AL.q (by exact h_litF rfl rfl rfl rfl rfl rfl rfl rfl) rfl ?_;refine AL.q (by exact h_appendI ([] ++ l.take k) [x] (.own rfl rfl (ints_len _).symm) (.view rfl) (by simp; omega) (by simp)) rfl ?_;refine AL.p (by exact as2 rfl) rfl ?_;refine AL.nil (th_n (AC.seq (AC.region ?_)));refine kB ?_;refine zm ?_;refine zm ?_;refine AL.p (by exact g_slice_view (r := ints (l.drop k)) rfl rfl rfl rfl (.some rfl rfl) .none (by rw [ints_len]; exact hk) (Nat.le_refl _) (by rw [List.take_length]; exact (List.map_drop ..).symm)) rfl ?_;refine AL.q (by exact h_appendI ([] ++ l.take k ++ [x]) (l.drop k) (.own rfl rfl (ints_len _).symm) (.view rfl) (by simp; omega) (by simp)) rfl ?_;refine AL.weak (Weak.freeze (i := 47) rfl rfl (Nat.le_of_eq (ints_len _).symm) (ints_all _)) ?_;refine za ?_;refine AL.nil (th_n (AC.ret (bq_r ?_)));exact ret1 rfl (by rw [e]; rfl)
 refine zn ?_;refine zn ?_;refine zn ?_;refine zn ?_;refine zn ?_;refine zn ?_;refine zP ?_;refine AL.nil (th_n ?_);refine AC.condF rfl ?_;refine AC.skip (th_n (AC.seq ?_));have e : putI l x = l.take k ++ [x] ++ l.drop k := by exact putI_end hidx (by omega)
 refine AC.region ?_;refine AL.q (by exact h_lit rfl rfl rfl rfl rfl rfl rfl rfl) rfl ?_;refine zm ?_;refine zm ?_;refine AL.p (by exact g_slice_view (r := ints (l.take k)) rfl rfl rfl rfl .none (.some rfl rfl) (Nat.zero_le _) (by rw [ints_len]; exact hk) (by simp [List.map_take])) rfl ?_;refine AL.q (by exact h_appendI [] (l.take k) (.own rfl rfl rfl) (.view rfl) (by simp; omega) (by simp)) rfl ?_;refine AL.p (by exact as2 rfl) rfl ?_;refine AL.nil (th_n (AC.seq (AC.region ?_)));refine kB ?_;refine zm ?_;refine AL.q (by exact h_litF rfl rfl rfl rfl rfl rfl rfl rfl) rfl ?_;refine AL.q (by exact h_appendI ([] ++ l.take k) [x] (.own rfl rfl (ints_len _).symm) (.view rfl) (by simp; omega) (by simp)) rfl ?_;refine AL.p (by exact as2 rfl) rfl ?_;refine AL.nil (th_n (AC.seq (AC.region ?_)));refine kB ?_;refine zm ?_;refine zm ?_;refine AL.p (by exact g_slice_view (r := ints (l.drop k)) rfl rfl rfl rfl (.some rfl rfl) .none (by rw [ints_len]; exact hk) (Nat.le_refl _) (by rw [List.take_length]; exact (List.map_drop ..).symm)) rfl ?_;refine AL.q (by exact h_appendI ([] ++ l.take k ++ [x]) (l.drop k) (.own rfl rfl (ints_len _).symm) (.view rfl) (by simp; omega) (by simp)) rfl ?_;refine AL.weak (Weak.freeze (i := 47) rfl rfl (Nat.le_of_eq (ints_len _).symm) (ints_all _)) ?_;refine za ?_;refine AL.nil (th_n (AC.ret (bq_r ?_)));exact ret1 rfl (by rw [e]; rfl)
theorem en_l1Put : Enters Tryz.prog 131 := enters_of Tryz.func131 rfl rfl
def subN (n : Int) : Nat → Cur → List Int → List Int × Cur
 | 0, c, s => (s, c)
 | j + 1, c, s => subN n j (c.pick n).2 (putI s (c.pick n).1)
theorem subN_len (n : Int) : ∀ (j : Nat) (c : Cur) (s : List Int), (subN n j c s).1.length ≤ s.length + j ∧ (subN n j c s).2.pos ≤ c.pos + 2 * j ∧ (subN n j c s).2.code = c.code
 | 0, c, s => ⟨Nat.le_refl _, Nat.le_refl _, rfl⟩
 | j + 1, c, s => by
  have h := subN_len n j (c.pick n).2 (putI s (c.pick n).1);have h1 := putI_len s (c.pick n).1;have h2 := c.pick_pos n;have h3 := c.pick_code n;refine ⟨?_, ?_, ?_⟩
  ·simp only [subN]; omega
  ·simp only [subN]; omega
  simp only [subN]; rw [h.2.2, h3]
def Cur.subset (c : Cur) (n k : Int) : List Int × Cur := subN n (1 + (c.pick k).1).toNat (c.pick k).2 []
theorem Cur.subset_in (c : Cur) (n k : Int) (hk : 1 ≤ k) : ((c.subset n k).1.length : Int) ≤ k ∧ ((c.subset n k).2.pos : Int) ≤ c.pos + 2 * k + 2 ∧ (c.subset n k).2.code = c.code := by
 have h := subN_len n (1 + (c.pick k).1).toNat (c.pick k).2 [];have h1 := c.pick_in k hk;have h2 := c.pick_pos k;have h3 := c.pick_code k;simp only [List.length_nil] at h;refine ⟨?_, ?_, ?_⟩
 ·show ((subN _ _ _ _).1.length : Int) ≤ _; omega
 ·show ((subN _ _ _ _).2.pos : Int) ≤ _; omega
 show (subN _ _ _ _).2.code = _; rw [h.2.2, h3]
set_option maxHeartbeats 2000000 in
theorem subset_spec (c : Cur) (n k : Int) (hn : n ≤ 65536) (hk1 : 1 ≤ k) (hk : k ≤ 200) (hp : c.pos ≤ 10000000000000) : ASpec Tryz.prog 183 [.ptr 0 0, aI n, aI k] [(0, curC c)] (Fun1 (.d (vI (c.subset n k).1)) [(0, curC (c.subset n k).2)]) := by
 have hpi := c.pick_in k hk1;have hpp := c.pick_pos k;refine ASpec.of Tryz.func183 rfl rfl fun C hC => ?_
 refine AC.seq (AC.region ?_);refine za ?_;refine AL.nil (th_n (AC.seq (AC.region ?_)));refine za ?_;refine AL.nil (th_n (AC.seq (AC.seq (AC.region ?_))));refine AL.p (by exact mv3 rfl) rfl ?_;refine zm ?_;refine AL.q (by exact h_fun (cs := [0]) en_pick rfl rfl (by repeat (first | exact rfl | exact DLead.same | refine ⟨_, _, rfl, ?_, ?_⟩ | refine ⟨_, rfl, ?_⟩)) (by repeat (first | exact True.intro | refine And.intro ?_ ?_ | exact DLead.same | exact rfl | refine ⟨_, _, rfl, rfl, ?_⟩ | refine ⟨_, rfl, ?_⟩ | refine ⟨_, _, rfl, ?_, ?_⟩)) (pick_spec _ _ (by omega) (by omega)) rfl rfl rfl rfl) rfl ?_;refine zA ?_;refine za ?_;refine AL.nil (th_n (AC.block ?_));refine AC.loop (ι := Nat × Cur × List Int) (fun x => ⟨23, 8, [(0, .ptr 0 0), (1, aI n), (7, .d (vI x.2.2)), (8, aI x.1)], [(0, some (curC x.2.1))]⟩) (fun x => subN n x.1 x.2.1 x.2.2 = c.subset n k ∧ x.2.2.length + x.1 ≤ 1000 ∧ x.2.1.pos + 2 * x.1 ≤ 100000000000000) (fun x => x.1) (((1 + (c.pick k).1).toNat, (c.pick k).2, [])) ?_ (⟨rfl, by show 0 + (1 + (c.pick k).1).toNat ≤ _; omega, by show (c.pick k).2.pos + 2 * (1 + (c.pick k).1).toNat ≤ _; omega⟩) ?_
 ·exact zw [] hC
 rintro ⟨j, cc, s⟩ ⟨hsub, hlen, hpos⟩;dsimp only at hsub hlen hpos ⊢;refine AC.seq (AC.seq (AC.region ?_));refine zm ?_;refine zc ?_;refine AL.nil (th_n ?_);refine AC.condD rfl (fun h0 => ?_) (fun h0 => ?_)
 ·refine AC.skip (th_n (AC.seq (AC.block ?_)));obtain ⟨i, rfl⟩ : ∃ i, j = i + 1 := ⟨j - 1, by omega⟩;have hpl := putI_len s (cc.pick n).1;have hpp2 := cc.pick_pos n;refine AC.region ?_;refine zm ?_;refine AL.p (by exact mv3 rfl) rfl ?_;refine zm ?_;refine AL.q (by exact h_fun (cs := [0]) en_pick rfl rfl (by repeat (first | exact rfl | exact DLead.same | refine ⟨_, _, rfl, ?_, ?_⟩ | refine ⟨_, rfl, ?_⟩)) (by repeat (first | exact True.intro | refine And.intro ?_ ?_ | exact DLead.same | exact rfl | refine ⟨_, _, rfl, rfl, ?_⟩ | refine ⟨_, rfl, ?_⟩ | refine ⟨_, _, rfl, ?_, ?_⟩)) (pick_spec _ _ (by assumption) (by omega)) rfl rfl rfl rfl) rfl ?_;refine AL.q (by exact h_pure en_l1Put rfl rfl (by repeat (first | exact rfl | exact DLead.same | refine ⟨_, _, rfl, ?_, ?_⟩)) (l1Put_spec _ _ (by omega)) rfl) rfl ?_;refine za ?_;refine AL.nil (ib_n (th_n (AC.region ?_)));refine zm ?_;refine zA ?_;refine za ?_;refine AL.nil (th_n ?_);exact ⟨(i, (cc.pick n).2, putI s (cc.pick n).1), ⟨hsub, by show (putI s _).length + i ≤ _; omega, by show (cc.pick n).2.pos + 2 * i ≤ _; omega⟩, by show i < i + 1; omega, zw [] hC⟩
 refine AC.exit (th_e (th_e (ib_y (th_n (AC.seq (AC.region ?_))))));refine zm ?_;refine za ?_;refine AL.nil (th_n (AC.ret (bq_r ?_)));have hj : j = 0 := by omega
 subst hj;have e : c.subset n k = (s, cc) := hsub.symm;exact retF rfl (by rw [e]; repeat (exact DLead.same)) (by rw [e]; repeat (first | exact True.intro | refine And.intro ?_ ?_ | exact DLead.same | exact rfl | refine ⟨_, _, rfl, rfl, ?_⟩ | refine ⟨_, rfl, ?_⟩ | refine ⟨_, _, rfl, ?_, ?_⟩)) rfl
theorem en_subset : Enters Tryz.prog 183 := enters_of Tryz.func183 rfl rfl
theorem of_spec (c : Cur) (els : List (List DV)) (st : ByteArray) (h0 : 0 < els.length) (hl : els.length ≤ 65536) (hp : c.pos ≤ 100000000000000) (hget : els[(c.pick els.length).1.toNat]? = some [dS st]) : ASpec Tryz.prog 184 [.ptr 0 0, .d (.view 9 1 els)] [(0, curC c)] (Fun1 (aS st) [(0, curC (c.pick els.length).2)]) := by
 have hi := c.pick_in els.length (by omega);have hI : (c.pick els.length).1 = (((c.pick els.length).1.toNat : Nat) : Int) := by omega
 refine ASpec.of Tryz.func184 rfl rfl fun C hC => ?_
 refine AC.seq (AC.region ?_);refine za ?_;refine AL.nil (th_n (AC.seq (AC.region ?_)));refine zm ?_;refine AL.p (by exact mv3 rfl) rfl ?_;refine zm ?_;refine AL.p (by exact g_len_view rfl rfl (by rfl)) rfl ?_;refine AL.q (by exact h_fun (cs := [0]) en_pick rfl rfl (by repeat (first | exact rfl | exact DLead.same | refine ⟨_, _, rfl, ?_, ?_⟩ | refine ⟨_, rfl, ?_⟩)) (by repeat (first | exact True.intro | refine And.intro ?_ ?_ | exact DLead.same | exact rfl | refine ⟨_, _, rfl, rfl, ?_⟩ | refine ⟨_, rfl, ?_⟩ | refine ⟨_, _, rfl, ?_, ?_⟩)) (pick_spec _ _ (by omega) (by assumption)) rfl rfl rfl rfl) rfl ?_;refine AL.p (by exact g_ia_view rfl rfl rfl rfl rfl (by assumption) (by assumption)) rfl ?_;refine zr ?_;refine za ?_;refine AL.nil (th_n (AC.ret (bq_r ?_)));exact retF rfl (by repeat (exact DLead.same)) (by repeat (first | exact True.intro | refine And.intro ?_ ?_ | exact DLead.same | exact rfl | refine ⟨_, _, rfl, rfl, ?_⟩ | refine ⟨_, rfl, ?_⟩ | refine ⟨_, _, rfl, ?_, ?_⟩)) rfl
theorem en_of : Enters Tryz.prog 184 := enters_of Tryz.func184 rfl rfl
def bitOf (c : Cur) : UInt8 := if (c.pick 3).1 = 0 then 48 else 49
theorem bit_get (c : Cur) (hc : 0 ≤ (c.pick 3).1 ∧ (c.pick 3).1 < 3) : ([[dS (bstr [48])], [dS (bstr [49])], [dS (bstr [49])]] : List (List DV))[(c.pick 3).1.toNat]? = some [dS (bstr [bitOf c])] := by
 unfold bitOf;have h : (c.pick 3).1 = 0 ∨ (c.pick 3).1 = 1 ∨ (c.pick 3).1 = 2 := by omega
 rcases h with h | h | h <;> rw [h] <;> rfl
def markN : Nat → Cur → List UInt8 → List UInt8 × Cur
 | 0, c, m => (m, c)
 | j + 1, c, m => markN j (c.pick 3).2 (m ++ [bitOf c])
theorem markN_len : ∀ (j : Nat) (c : Cur) (m : List UInt8), (markN j c m).1.length = m.length + j ∧ (markN j c m).2.pos ≤ c.pos + 2 * j ∧ (markN j c m).2.code = c.code
 | 0, c, m => ⟨rfl, Nat.le_refl _, rfl⟩
 | j + 1, c, m => by
  have h := markN_len j (c.pick 3).2 (m ++ [bitOf c]);have h2 := c.pick_pos 3;have h3 := c.pick_code 3;simp only [List.length_append, List.length_cons, List.length_nil] at h;refine ⟨?_, ?_, ?_⟩
  ·simp only [markN]; omega
  ·simp only [markN]; omega
  simp only [markN]; rw [h.2.2, h3]
def Cur.markOf (c : Cur) (n : Int) : List UInt8 × Cur := markN n.toNat c []
set_option maxHeartbeats 2000000 in
theorem markOf_spec (c : Cur) (n : Int) (hn0 : 0 ≤ n) (hn : n ≤ 1000) (hp : c.pos ≤ 10000000000000) : ASpec Tryz.prog 167 [.ptr 0 0, aI n] [(0, curC c)] (Fun1 (aS (bstr (c.markOf n).1)) [(0, curC (c.markOf n).2)]) := by
 refine ASpec.of Tryz.func167 rfl rfl fun C hC => ?_
 refine AC.seq (AC.region ?_);refine za ?_;refine AL.nil (th_n (AC.seq (AC.region ?_)));refine za ?_;refine AL.nil (th_n (AC.seq (AC.seq (AC.region ?_))));refine za ?_;refine AL.nil (th_n (AC.block ?_));refine AC.loop (ι := Nat × Cur × List UInt8) (fun x => ⟨18, 8, [(0, .ptr 0 0), (1, aI n), (5, aS (bstr x.2.2)), (6, aI x.1)], [(0, some (curC x.2.1))]⟩) (fun x => (x.1 : Int) ≤ n ∧ markN (n.toNat - x.1) x.2.1 x.2.2 = c.markOf n ∧ x.2.2.length = x.1 ∧ x.2.1.pos ≤ 10000000000000 + 2 * x.1) (fun x => n.toNat - x.1) ((0, c, [])) ?_ (⟨hn0, rfl, rfl, by show c.pos ≤ _; omega⟩) ?_
 ·exact zw [] hC
 rintro ⟨i, cc, m⟩ ⟨hi, hmk, hlen, hpos⟩;dsimp only at hi hmk hlen hpos ⊢;refine AC.seq (AC.seq (AC.region ?_));refine zm ?_;refine zm ?_;refine zc ?_;refine AL.nil (th_n ?_);refine AC.condD rfl (fun h0 => ?_) (fun h0 => ?_)
 ·refine AC.skip (th_n (AC.seq (AC.block ?_)));have hget := bit_get cc (cc.pick_in 3 (by decide));have hpp := cc.pick_pos 3;have hsz := bstr_size m;have hsz1 := bstr_size [bitOf cc];have hsz2 : [bitOf cc].length = 1 := rfl;refine AC.region ?_;refine zm ?_;refine AL.p (by exact mv3 rfl) rfl ?_;refine AL.q (by exact h_litF rfl rfl rfl rfl rfl rfl rfl rfl) rfl ?_;refine AL.q (by exact h_fun (cs := [0]) en_of rfl rfl (by repeat (first | exact rfl | exact DLead.same | refine ⟨_, _, rfl, ?_, ?_⟩ | refine ⟨_, rfl, ?_⟩)) (by repeat (first | exact True.intro | refine And.intro ?_ ?_ | exact DLead.same | exact rfl | refine ⟨_, _, rfl, rfl, ?_⟩ | refine ⟨_, rfl, ?_⟩ | refine ⟨_, _, rfl, ?_, ?_⟩)) (of_spec cc [[dS (bstr [48])], [dS (bstr [49])], [dS (bstr [49])]] (bstr [bitOf cc]) (by decide) (by decide) (by omega) hget) rfl rfl rfl rfl) rfl ?_;refine AL.p (by exact g_sadd rfl rfl (by omega)) rfl ?_;refine za ?_;refine AL.nil (ib_n (th_n (AC.region ?_)));refine zm ?_;refine zA ?_;refine za ?_;refine AL.nil (th_n ?_);have e : markN (n.toNat - (i + 1)) (cc.pick 3).2 (m ++ [bitOf cc]) = c.markOf n := by rw [← hmk, show n.toNat - i = (n.toNat - (i + 1)) + 1 by omega]; rfl
  exact ⟨(i + 1, (cc.pick 3).2, m ++ [bitOf cc]), ⟨by show ((i + 1 : Nat) : Int) ≤ n; omega, e, by simp [hlen], by show (cc.pick 3).2.pos ≤ _; omega⟩, by show n.toNat - (i + 1) < n.toNat - i; omega, Weak.ren _ [] hC rfl (by rw [← bstr_append]; repeat (first | exact True.intro | refine And.intro ?_ ?_ | exact DLead.same | exact rfl | refine ⟨_, rfl, ?_⟩)) (by repeat (first | exact True.intro | refine And.intro ?_ ?_ | exact DLead.same | exact rfl | refine ⟨_, _, rfl, rfl, ?_⟩ | refine ⟨_, rfl, ?_⟩ | refine ⟨_, _, rfl, ?_, ?_⟩)) rfl rfl rfl⟩
 refine AC.exit (th_e (th_e (ib_y (th_n (AC.seq (AC.region ?_))))));refine zm ?_;refine za ?_;refine AL.nil (th_n (AC.ret (bq_r ?_)));have hin : n.toNat - i = 0 := by omega
 have e : c.markOf n = (m, cc) := by rw [← hmk, hin]; rfl
 exact retF rfl (by rw [e]; repeat (exact DLead.same)) (by rw [e]; repeat (first | exact True.intro | refine And.intro ?_ ?_ | exact DLead.same | exact rfl | refine ⟨_, _, rfl, rfl, ?_⟩ | refine ⟨_, rfl, ?_⟩ | refine ⟨_, _, rfl, ?_, ?_⟩)) rfl
theorem en_markOf : Enters Tryz.prog 167 := enters_of Tryz.func167 rfl rfl
def spoil1 (c : Cur) (s al : List UInt8) : List UInt8 :=
 if (((c.pick s.length).2.pick al.length).2.pick 3).1 = 0 then s.take (c.pick s.length).1.toNat ++ [al.getD ((c.pick s.length).2.pick al.length).1.toNat 0] ++ s.drop (c.pick s.length).1.toNat
 else if (((c.pick s.length).2.pick al.length).2.pick 3).1 = 1 then s.take (c.pick s.length).1.toNat ++ [al.getD ((c.pick s.length).2.pick al.length).1.toNat 0] ++ s.drop ((c.pick s.length).1.toNat + 1)
 else s.take (c.pick s.length).1.toNat ++ s.drop ((c.pick s.length).1.toNat + 1)
def spoilC (c : Cur) (s al : List UInt8) : Cur := (((c.pick s.length).2.pick al.length).2.pick 3).2
def spoilN (al : List UInt8) : Nat → Cur → List UInt8 → List UInt8 × Cur
 | 0, c, s => (s, c)
 | j + 1, c, s => if s.length = 0 then (s, c) else spoilN al j (spoilC c s al) (spoil1 c s al)
theorem spoilN_nil {al : List UInt8} {j : Nat} {c : Cur} {s : List UInt8} (h : s.length = 0) : spoilN al j c s = (s, c) := by
 cases j with
 | zero => rfl
 | succ j => rw [spoilN, if_pos h]
theorem spoil1_len (c : Cur) (s al : List UInt8) (hs : 0 < s.length) : (spoil1 c s al).length ≤ s.length + 1 := by
 have h := c.pick_in s.length (by omega);unfold spoil1
 split
 ·simp; omega
 split <;> (simp; omega)
theorem spoilC_pos (c : Cur) (s al : List UInt8) : (spoilC c s al).pos ≤ c.pos + 6 ∧ (spoilC c s al).code = c.code := by
 have h1 := c.pick_pos s.length;have h2 := (c.pick s.length).2.pick_pos al.length;have h3 := ((c.pick s.length).2.pick al.length).2.pick_pos 3;refine ⟨by unfold spoilC; omega, ?_⟩;unfold spoilC;rw [Cur.pick_code, Cur.pick_code, Cur.pick_code]
theorem spoilN_len (al : List UInt8) : ∀ (j : Nat) (c : Cur) (s : List UInt8), (spoilN al j c s).1.length ≤ s.length + j ∧ (spoilN al j c s).2.pos ≤ c.pos + 6 * j ∧ (spoilN al j c s).2.code = c.code
 | 0, c, s => ⟨Nat.le_refl _, Nat.le_refl _, rfl⟩
 | j + 1, c, s => by
  unfold spoilN
  split
  ·exact ⟨by show s.length ≤ _; omega, by show c.pos ≤ _; omega, rfl⟩
  rename_i hs;have h := spoilN_len al j (spoilC c s al) (spoil1 c s al);have h1 := spoil1_len c s al (by omega);have h2 := spoilC_pos c s al;exact ⟨by omega, by omega, by rw [h.2.2, h2.2]⟩
def Cur.spoilt (c : Cur) (s al : List UInt8) : List UInt8 × Cur := spoilN al (1 + (c.pick 2).1).toNat (c.pick 2).2 s
theorem Cur.spoilt_in (c : Cur) (s al : List UInt8) : (c.spoilt s al).1.length ≤ s.length + 2 ∧ (c.spoilt s al).2.pos ≤ c.pos + 14 ∧ (c.spoilt s al).2.code = c.code := by
 have h := spoilN_len al (1 + (c.pick 2).1).toNat (c.pick 2).2 s;have h1 := c.pick_in 2 (by decide);have h2 := c.pick_pos 2;have h3 := c.pick_code 2;refine ⟨?_, ?_, ?_⟩
 ·show (spoilN _ _ _ _).1.length ≤ _; omega
 ·show (spoilN _ _ _ _).2.pos ≤ _; omega
 show (spoilN _ _ _ _).2.code = _; rw [h.2.2, h3]
theorem bstr_cut (s : List UInt8) {l h : Nat} (hl : l ≤ h) (hh : h ≤ s.length) : (bstr s).extract l h = bstr ((s.take h).drop l) := by
 have : ((bstr s).extract l h).data.toList = (s.take h).drop l := by
  simp [bstr, ByteArray.data_extract, List.extract_eq_drop_take, List.drop_take]
 rw [← bstr_of ((bstr s).extract l h), this]
set_option maxHeartbeats 4000000 in
theorem spoilt_spec (c : Cur) (s al : List UInt8) (hs : s.length ≤ 50000) (ha0 : 0 < al.length) (ha : al.length ≤ 60000) (hp : c.pos ≤ 10000000000000) : ASpec Tryz.prog 105 [.ptr 0 0, aS (bstr s), aS (bstr al)] [(0, curC c)] (Fun1 (aS (bstr (c.spoilt s al).1)) [(0, curC (c.spoilt s al).2)]) := by
 have hpi := c.pick_in 2 (by decide);have hpp := c.pick_pos 2;have hasz := bstr_size al;refine ASpec.of Tryz.func105 rfl rfl fun C hC => ?_
 refine AC.seq (AC.region ?_);refine za ?_;refine AL.nil (th_n (AC.seq (AC.seq (AC.region ?_))));refine AL.p (by exact mv3 rfl) rfl ?_;refine AL.q (by exact h_fun (cs := [0]) en_pick rfl rfl (by repeat (first | exact rfl | exact DLead.same | refine ⟨_, _, rfl, ?_, ?_⟩ | refine ⟨_, rfl, ?_⟩)) (by repeat (first | exact True.intro | refine And.intro ?_ ?_ | exact DLead.same | exact rfl | refine ⟨_, _, rfl, rfl, ?_⟩ | refine ⟨_, rfl, ?_⟩ | refine ⟨_, _, rfl, ?_, ?_⟩)) (pick_spec _ _ (by omega) (by omega)) rfl rfl rfl rfl) rfl ?_;refine zA ?_;refine za ?_;refine AL.nil (th_n (AC.block ?_));refine AC.loop (ι := Nat × Cur × List UInt8) (fun x => ⟨68, 8, [(0, .ptr 0 0), (1, aS (bstr x.2.2)), (2, aS (bstr al)), (7, aI x.1)], [(0, some (curC x.2.1))]⟩) (fun x => spoilN al x.1 x.2.1 x.2.2 = c.spoilt s al ∧ x.2.2.length + x.1 ≤ 60000 ∧ x.2.1.pos + 6 * x.1 ≤ 20000000000000) (fun x => x.1) (((1 + (c.pick 2).1).toNat, (c.pick 2).2, s)) ?_ (⟨rfl, by show s.length + (1 + (c.pick 2).1).toNat ≤ _; omega, by show (c.pick 2).2.pos + 6 * (1 + (c.pick 2).1).toNat ≤ _; omega⟩) ?_
 ·exact zw [] hC
 rintro ⟨j, cc, m⟩ ⟨hsub, hlen, hpos⟩;dsimp only at hsub hlen hpos ⊢;have hsz := bstr_size m;refine AC.seq (AC.seq (AC.region ?_));refine zm ?_;refine zc ?_;refine zm ?_;refine AL.caseG rfl rfl (fun h0 => ?_) (fun h0 => ?_)
 ·refine zy ?_;refine zm ?_;refine zy ?_;refine AL.p (by exact g_len_str (k := m.length) rfl rfl hsz) rfl ?_;refine zy ?_;refine zc ?_;refine zQ ?_;refine AL.nil (th_n ?_);refine AC.condD rfl (fun h1 => ?_) (fun h1 => ?_)
  ·refine AC.skip (th_n (AC.seq (AC.block (AC.seq ?_))));obtain ⟨i, rfl⟩ : ∃ i, j = i + 1 := ⟨j - 1, by omega⟩;have hm0 : 0 < m.length := by omega
   have e1 : spoilN al i (spoilC cc m al) (spoil1 cc m al) = c.spoilt s al := by rw [← hsub, spoilN, if_neg (by omega)]
   have hl1 := spoil1_len cc m al hm0;have hl2 := spoilC_pos cc m al;have hk := cc.pick_in m.length (by omega);have hkp := cc.pick_pos m.length;have hk2 := (cc.pick m.length).2.pick_in al.length (by omega);have hkp2 := (cc.pick m.length).2.pick_pos al.length;have hI : ((cc.pick m.length).2.pick al.length).1 = ((((cc.pick m.length).2.pick al.length).1.toNat : Nat) : Int) := by omega
   have hget : (bstr al).data.toList[((cc.pick m.length).2.pick al.length).1.toNat]? = some (al.getD ((cc.pick m.length).2.pick al.length).1.toNat 0) := bstr_getD (by omega);refine AC.region ?_;refine AL.p (by exact mv3 rfl) rfl ?_;refine zm ?_;refine AL.p (by exact g_len_str (k := m.length) rfl rfl hsz) rfl ?_;refine AL.q (by exact h_fun (cs := [0]) en_pick rfl rfl (by repeat (first | exact rfl | exact DLead.same | refine ⟨_, _, rfl, ?_, ?_⟩ | refine ⟨_, rfl, ?_⟩)) (by repeat (first | exact True.intro | refine And.intro ?_ ?_ | exact DLead.same | exact rfl | refine ⟨_, _, rfl, rfl, ?_⟩ | refine ⟨_, rfl, ?_⟩ | refine ⟨_, _, rfl, ?_, ?_⟩)) (pick_spec _ _ (by omega) (by omega)) rfl rfl rfl rfl) rfl ?_;refine za ?_;refine AL.nil (th_n (AC.seq (AC.region ?_)));refine zm ?_;refine AL.p (by exact mv3 rfl) rfl ?_;refine zm ?_;refine AL.p (by exact g_len_str (k := al.length) rfl rfl hasz) rfl ?_;refine AL.q (by exact h_fun (cs := [0]) en_pick rfl rfl (by repeat (first | exact rfl | exact DLead.same | refine ⟨_, _, rfl, ?_, ?_⟩ | refine ⟨_, rfl, ?_⟩)) (by repeat (first | exact True.intro | refine And.intro ?_ ?_ | exact DLead.same | exact rfl | refine ⟨_, _, rfl, rfl, ?_⟩ | refine ⟨_, rfl, ?_⟩ | refine ⟨_, _, rfl, ?_, ?_⟩)) (pick_spec _ _ (by omega) (by omega)) rfl rfl rfl rfl) rfl ?_;refine AL.p (by exact g_index rfl rfl rfl (by assumption) (by assumption)) rfl ?_;refine AL.q (by exact h_lit rfl rfl rfl rfl rfl rfl rfl rfl) rfl ?_;refine AL.p (by exact g_strOfBytes (l := [al.getD ((cc.pick m.length).2.pick al.length).1.toNat 0]) rfl rfl rfl rfl rfl rfl rfl) rfl ?_;refine za ?_;refine AL.nil (th_n (AC.seq (AC.region ?_)));refine AL.p (by exact mv3 rfl) rfl ?_;refine AL.q (by exact h_fun (cs := [0]) en_pick rfl rfl (by repeat (first | exact rfl | exact DLead.same | refine ⟨_, _, rfl, ?_, ?_⟩ | refine ⟨_, rfl, ?_⟩)) (by repeat (first | exact True.intro | refine And.intro ?_ ?_ | exact DLead.same | exact rfl | refine ⟨_, _, rfl, rfl, ?_⟩ | refine ⟨_, rfl, ?_⟩ | refine ⟨_, _, rfl, ?_, ?_⟩)) (pick_spec _ _ (by omega) (by omega)) rfl rfl rfl rfl) rfl ?_;refine AL.nil (th_n (AC.block (AC.seq ?_)));obtain ⟨K, hK⟩ := eqx ((cc.pick m.length).1.toNat);have hKI : (cc.pick m.length).1 = (K : Int) := by omega
   have hKJ : (cc.pick m.length).1 + 1 = ((K + 1 : Nat) : Int) := by omega
   have hKm : K + 1 ≤ m.length := by omega
   have hx1 : (bstr m).extract 0 K = bstr (m.take K) := by rw [bstr_cut m (Nat.zero_le _) (by omega)]; rfl
   have hx2 : (bstr m).extract K (bstr m).size = bstr (m.drop K) := by rw [hsz, bstr_cut m (by omega) (Nat.le_refl _), List.take_length]
   have hx3 : (bstr m).extract (K + 1) (bstr m).size = bstr (m.drop (K + 1)) := by rw [hsz, bstr_cut m (by omega) (Nat.le_refl _), List.take_length]
   refine AC.region ?_;refine zc ?_;refine za ?_;refine AL.nil (th_n ?_);refine AC.condD rfl (fun h2 => ?_) (fun h2 => ?_)
   ·refine AC.drawn' mixed_ok [[], [], [0,1], [], [0,1,2,3], [], [], [5,6], [0,1,2,3,4,5,6,7], [0,1,2,3,4,5,6,7,8]] (by decide) ?_;refine zd 0 [] 10 (by exact mv1 rfl) ?_;refine zd 1 [] 10 (by exact mv1 rfl) ?_;refine zd 2 [0,1] 10 (by exact g_slice_str (h := K) rfl rfl .none (.some rfl hKI) (Nat.zero_le _) (by omega) hx1) ?_;refine zd 3 [] 10 (by exact mv1 rfl) ?_;refine zd 4 [0,1,2,3] 10 (by exact g_sadd rfl rfl (by (simp only [ByteArray.size_append, bstr_size, List.length_take, List.length_drop, List.length_cons, List.length_nil]; omega))) ?_;refine zd 5 [] 10 (by exact mv1 rfl) ?_;refine zd 6 [] 10 (by exact mv1 rfl) ?_;refine zd 7 [5,6] 10 (by exact g_slice_str (l := K) rfl rfl (.some rfl hKI) .none (by omega) (Nat.le_refl _) hx2) ?_;refine zd 8 [0,1,2,3,4,5,6,7] 10 (by exact g_sadd rfl rfl (by (simp only [ByteArray.size_append, bstr_size, List.length_take, List.length_drop, List.length_cons, List.length_nil]; omega))) ?_;refine zd 9 (List.range 9) 10 (by exact as1 rfl) ?_;refine zj 10 ?_;refine ib_n (ib_n (th_n (AC.region ?_)));refine zm ?_;refine zA ?_;refine za ?_;refine AL.nil (th_n ?_)
    (have e2 : bstr (spoil1 cc m al) = bstr (m.take K) ++ bstr [al.getD ((cc.pick m.length).2.pick al.length).1.toNat 0] ++ bstr (m.drop K) := (by unfold spoil1; rw [if_pos h2, ← hK, bstr_append, bstr_append]); exact ⟨(i, spoilC cc m al, spoil1 cc m al), ⟨e1, by show (spoil1 cc m al).length + i ≤ _; omega, by show (spoilC cc m al).pos + 6 * i ≤ _; omega⟩, by show i < i + 1; omega, Weak.ren _ [] hC rfl (by rw [e2]; repeat (first | exact True.intro | refine And.intro ?_ ?_ | exact DLead.same | exact DLead.eqI (by omega) | exact rfl | refine ⟨_, rfl, ?_⟩)) (by repeat (first | exact True.intro | refine And.intro ?_ ?_ | exact DLead.same | exact rfl | refine ⟨_, _, rfl, rfl, ?_⟩ | refine ⟨_, rfl, ?_⟩ | refine ⟨_, _, rfl, ?_, ?_⟩)) rfl rfl rfl⟩)
   refine AC.seq (AC.region ?_);refine zc ?_;refine za ?_;refine AL.nil (th_n ?_);refine AC.condD rfl (fun h3 => ?_) (fun h3 => ?_)
   ·refine AC.drawn' mixed_ok [[], [], [0,1], [], [0,1,2,3], [], [], [6], [5,6,7], [0,1,2,3,4,5,6,7,8], [0,1,2,3,4,5,6,7,8,9]] (by decide) ?_;refine zd 0 [] 11 (by exact mv1 rfl) ?_;refine zd 1 [] 11 (by exact mv1 rfl) ?_;refine zd 2 [0,1] 11 (by exact g_slice_str (h := K) rfl rfl .none (.some rfl hKI) (Nat.zero_le _) (by omega) hx1) ?_;refine zd 3 [] 11 (by exact mv1 rfl) ?_;refine zd 4 [0,1,2,3] 11 (by exact g_sadd rfl rfl (by (simp only [ByteArray.size_append, bstr_size, List.length_take, List.length_drop, List.length_cons, List.length_nil]; omega))) ?_;refine zd 5 [] 11 (by exact mv1 rfl) ?_;refine zd 6 [] 11 (by exact mv1 rfl) ?_;refine zd 7 [6] 11 (by exact g_arith rfl rfl rfl (by exact wrap_i64 (by omega))) ?_;refine zd 8 [5,6,7] 11 (by exact g_slice_str (l := K + 1) rfl rfl (.some rfl hKJ) .none (by omega) (Nat.le_refl _) hx3) ?_;refine zd 9 (List.range 9) 11 (by exact g_sadd rfl rfl (by (simp only [ByteArray.size_append, bstr_size, List.length_take, List.length_drop, List.length_cons, List.length_nil]; omega))) ?_;refine zd 10 (List.range 10) 11 (by exact as1 rfl) ?_;refine zj 11 ?_;refine ib_n (ib_n (th_n (AC.region ?_)));refine zm ?_;refine zA ?_;refine za ?_;refine AL.nil (th_n ?_)
    (have e2 : bstr (spoil1 cc m al) = bstr (m.take K) ++ bstr [al.getD ((cc.pick m.length).2.pick al.length).1.toNat 0] ++ bstr (m.drop (K + 1)) := (by unfold spoil1; rw [if_neg h2, if_pos h3, ← hK, bstr_append, bstr_append]); exact ⟨(i, spoilC cc m al, spoil1 cc m al), ⟨e1, by show (spoil1 cc m al).length + i ≤ _; omega, by show (spoilC cc m al).pos + 6 * i ≤ _; omega⟩, by show i < i + 1; omega, Weak.ren _ [] hC rfl (by rw [e2]; repeat (first | exact True.intro | refine And.intro ?_ ?_ | exact DLead.same | exact DLead.eqI (by omega) | exact rfl | refine ⟨_, rfl, ?_⟩)) (by repeat (first | exact True.intro | refine And.intro ?_ ?_ | exact DLead.same | exact rfl | refine ⟨_, _, rfl, rfl, ?_⟩ | refine ⟨_, rfl, ?_⟩ | refine ⟨_, _, rfl, ?_, ?_⟩)) rfl rfl rfl⟩)
   refine AC.drawn' mixed_ok [[], [], [0,1], [], [], [4], [3,4,5], [0,1,2,3,4,5,6], [0,1,2,3,4,5,6,7]] (by decide) ?_;refine zd 0 [] 9 (by exact mv1 rfl) ?_;refine zd 1 [] 9 (by exact mv1 rfl) ?_;refine zd 2 [0,1] 9 (by exact g_slice_str (h := K) rfl rfl .none (.some rfl hKI) (Nat.zero_le _) (by omega) hx1) ?_;refine zd 3 [] 9 (by exact mv1 rfl) ?_;refine zd 4 [] 9 (by exact mv1 rfl) ?_;refine zd 5 [4] 9 (by exact g_arith rfl rfl rfl (by exact wrap_i64 (by omega))) ?_;refine zd 6 [3,4,5] 9 (by exact g_slice_str (l := K + 1) rfl rfl (.some rfl hKJ) .none (by omega) (Nat.le_refl _) hx3) ?_;refine zd 7 [0,1,2,3,4,5,6] 9 (by exact g_sadd rfl rfl (by (simp only [ByteArray.size_append, bstr_size, List.length_take, List.length_drop, List.length_cons, List.length_nil]; omega))) ?_;refine zd 8 [0,1,2,3,4,5,6,7] 9 (by exact as1 rfl) ?_;refine zj 9 ?_;refine ib_n (ib_n (th_n (AC.region ?_)));refine zm ?_;refine zA ?_;refine za ?_;refine AL.nil (th_n ?_)
   (have e2 : bstr (spoil1 cc m al) = bstr (m.take K) ++ bstr (m.drop (K + 1)) := (by unfold spoil1; rw [if_neg h2, if_neg h3, ← hK, bstr_append]); exact ⟨(i, spoilC cc m al, spoil1 cc m al), ⟨e1, by show (spoil1 cc m al).length + i ≤ _; omega, by show (spoilC cc m al).pos + 6 * i ≤ _; omega⟩, by show i < i + 1; omega, Weak.ren _ [] hC rfl (by rw [e2]; repeat (first | exact True.intro | refine And.intro ?_ ?_ | exact DLead.same | exact DLead.eqI (by omega) | exact rfl | refine ⟨_, rfl, ?_⟩)) (by repeat (first | exact True.intro | refine And.intro ?_ ?_ | exact DLead.same | exact rfl | refine ⟨_, _, rfl, rfl, ?_⟩ | refine ⟨_, rfl, ?_⟩ | refine ⟨_, _, rfl, ?_, ?_⟩)) rfl rfl rfl⟩)
  refine AC.exit (th_e (th_e (ib_y (th_n (AC.seq (AC.region ?_))))));refine zm ?_;refine za ?_;refine AL.nil (th_n (AC.ret (bq_r ?_)));have e : c.spoilt s al = (m, cc) := by (rw [← hsub]; exact spoilN_nil (by omega))
  exact retF rfl (by rw [e]; repeat (exact DLead.same)) (by rw [e]; repeat (first | exact True.intro | refine And.intro ?_ ?_ | exact DLead.same | exact rfl | refine ⟨_, _, rfl, rfl, ?_⟩ | refine ⟨_, rfl, ?_⟩ | refine ⟨_, _, rfl, ?_, ?_⟩)) rfl
 refine zn ?_;refine zn ?_;refine zn ?_;refine zP ?_;refine AL.nil (th_n ?_);refine AC.condF rfl ?_;refine AC.exit (th_e (th_e (ib_y (th_n (AC.seq (AC.region ?_))))));refine zm ?_;refine za ?_;refine AL.nil (th_n (AC.ret (bq_r ?_)));have e : c.spoilt s al = (m, cc) := by (have hj : j = 0 := (by omega); subst hj; exact hsub.symm)
 exact retF rfl (by rw [e]; repeat (exact DLead.same)) (by rw [e]; repeat (first | exact True.intro | refine And.intro ?_ ?_ | exact DLead.same | exact rfl | refine ⟨_, _, rfl, rfl, ?_⟩ | refine ⟨_, rfl, ?_⟩ | refine ⟨_, _, rfl, ?_, ?_⟩)) rfl
theorem en_spoilt : Enters Tryz.prog 105 := enters_of Tryz.func105 rfl rfl
theorem tsL_len (l : List Tn) : (tsL l).length = l.length := List.length_map _
theorem tsL_all (l : List Tn) : (tsL l).take l.length = tsL l := by rw [List.take_of_length_le (by simp)]
theorem h_appendT (acc new : List Tn) {s : ASt} {dst : Option Nat} {ty : Nat} {pos : String} {af : Array Edge} {gd : Option (Nat × Bool)} {x y : Operand} {f : Nat} {ids ids2 : List Nat} {gone : List (Nat × Option Chunk)}
  (hto : AppTo s x 153 2 (tsL acc) ids gone) (harg : AppArg s y 2 (tsL new) ids2) (h : (acc ++ new).length ≤ 100000000) (hnew : gone = [] → 0 < new.length) :
  NOp Tryz.prog (ids ++ ids2) s ⟨dst, .call { callee := .builtin .append, args := #[x, y], argTypes := #[23, 23] }, ty, pos, af, gd⟩ f ⟨.own f (acc ++ new).length, (f, some (.arr 153 2 (tsL (acc ++ new)))) :: gone⟩ := by
 have := h_append (P := Tryz.prog) (s := s) (dst := dst) (ty := ty) (pos := pos) (af := af) (gd := gd) (x := x) (y := y) (f := f) (t := 23) (tx := 23) (k := (acc ++ new).length) rfl rfl rfl rfl rfl rfl hto harg (by simp) (by omega) (by show (acc ++ new).length * 48 ≤ _; omega) (fun h => by rw [tsL_len]; exact hnew h)
 rwa [← List.map_append] at this
def Cur.tn (c : Cur) (p : Int) : Tn × Cur :=
 (⟨(c.subset p 2).1, if (((c.subset p 2).2.subset p 2).2.pick 10).1 = 0 then [] else ((c.subset p 2).2.subset p 2).1⟩, (((c.subset p 2).2.subset p 2).2.pick 10).2)
theorem Cur.tn_in (c : Cur) (p : Int) : (c.tn p).1.pre.length ≤ 2 ∧ (c.tn p).1.post.length ≤ 2 ∧ (c.tn p).2.pos ≤ c.pos + 14 ∧ (c.tn p).2.code = c.code := by
 have h1 := c.subset_in p 2 (by decide);have h2 := (c.subset p 2).2.subset_in p 2 (by decide);have h3 := ((c.subset p 2).2.subset p 2).2.pick_pos 10;have h4 := ((c.subset p 2).2.subset p 2).2.pick_code 10;refine ⟨?_, ?_, ?_, ?_⟩
 ·show (c.subset p 2).1.length ≤ 2; omega
 ·show (if _ then ([] : List Int) else _).length ≤ 2
  split
  ·simp
  omega
 ·show (((c.subset p 2).2.subset p 2).2.pick 10).2.pos ≤ _; omega
 show (((c.subset p 2).2.subset p 2).2.pick 10).2.code = _; rw [h4, h2.2.2, h1.2.2]
def netN (p : Int) : Nat → Cur → List Tn → List Tn × Cur
 | 0, c, ts => (ts, c)
 | j + 1, c, ts => netN p j (c.tn p).2 (ts ++ [(c.tn p).1])
theorem netN_in (p : Int) : ∀ (j : Nat) (c : Cur) (ts : List Tn), (∀ t, t ∈ ts → t.pre.length ≤ 2 ∧ t.post.length ≤ 2) → (netN p j c ts).1.length = ts.length + j ∧ (∀ t, t ∈ (netN p j c ts).1 → t.pre.length ≤ 2 ∧ t.post.length ≤ 2) ∧ (netN p j c ts).2.pos ≤ c.pos + 14 * j ∧ (netN p j c ts).2.code = c.code
 | 0, c, ts, h => ⟨rfl, h, Nat.le_refl _, rfl⟩
 | j + 1, c, ts, h => by
  have h1 := c.tn_in p
  have h2 := netN_in p j (c.tn p).2 (ts ++ [(c.tn p).1]) (fun t ht => by
   rcases List.mem_append.1 ht with h' | h'
   ·exact h t h'
   rw [List.mem_singleton] at h'; subst h'; exact ⟨h1.1, h1.2.1⟩)
  simp only [List.length_append, List.length_cons, List.length_nil] at h2;simp only [netN];exact ⟨by omega, h2.2.1, by omega, by rw [h2.2.2.2, h1.2.2.2]⟩
def Cur.netP (c : Cur) : Int := 2 + (c.pick 5).1
def Cur.netT (c : Cur) : List Tn × Cur := netN c.netP ((c.pick 5).2.pick 5).1.toNat ((c.pick 5).2.pick 5).2 []
set_option maxHeartbeats 4000000 in
theorem net_spec (c : Cur) (hp : c.pos ≤ 1000000000000) : ASpec Tryz.prog 166 [.ptr 0 0] [(0, curC c)] (Fun1 (.agg [aI c.netP, .own 1 c.netT.1.length]) [(0, curC c.netT.2), (1, .arr 153 2 (tsL c.netT.1))]) := by
 have hp1 := c.pick_in 5 (by decide);have hq1 := c.pick_pos 5;have hp2 := (c.pick 5).2.pick_in 5 (by decide);have hq2 := (c.pick 5).2.pick_pos 5;have hnp : 2 ≤ c.netP ∧ c.netP ≤ 6 := by unfold Cur.netP; omega
 refine ASpec.of Tryz.func166 rfl rfl fun C hC => ?_
 refine AC.seq (AC.region ?_);refine kE ?_;refine AL.nil (th_n (AC.seq (AC.region ?_)));refine AL.p (by exact mv3 rfl) rfl ?_;refine AL.q (by exact h_fun (cs := [0]) en_pick rfl rfl (by repeat (first | exact rfl | exact DLead.same | refine ⟨_, _, rfl, ?_, ?_⟩ | refine ⟨_, rfl, ?_⟩)) (by repeat (first | exact True.intro | refine And.intro ?_ ?_ | exact DLead.same | exact rfl | refine ⟨_, _, rfl, rfl, ?_⟩ | refine ⟨_, rfl, ?_⟩ | refine ⟨_, _, rfl, ?_, ?_⟩)) (pick_spec _ _ (by omega) (by omega)) rfl rfl rfl rfl) rfl ?_;refine zA ?_;refine AL.p (by exact g_build rfl rfl rfl) rfl ?_;refine kE ?_;refine zs ?_;refine AL.nil (th_n (AC.seq (AC.seq (AC.region ?_))));refine AL.p (by exact mv3 rfl) rfl ?_;refine AL.q (by exact h_fun (cs := [0]) en_pick rfl rfl (by repeat (first | exact rfl | exact DLead.same | refine ⟨_, _, rfl, ?_, ?_⟩ | refine ⟨_, rfl, ?_⟩)) (by repeat (first | exact True.intro | refine And.intro ?_ ?_ | exact DLead.same | exact rfl | refine ⟨_, _, rfl, rfl, ?_⟩ | refine ⟨_, rfl, ?_⟩ | refine ⟨_, _, rfl, ?_, ?_⟩)) (pick_spec _ _ (by omega) (by omega)) rfl rfl rfl rfl) rfl ?_;refine za ?_;refine AL.nil (th_n (AC.block ?_));refine AC.loop (ι := Nat × Cur × List Tn) (fun x => ⟨35, 128, [(0, .ptr 0 0), (2, .ptr 102 0), (3, .ptr 100 0), (4, aI x.1)], [(0, some (curC x.2.1)), (100, some (.cells 25 [aI c.netP, .own 101 x.2.2.length])), (101, some (.arr 153 2 (tsL x.2.2))), (102, some (.cells 25 [aI 0, .d (.val (.slice none 0 0))]))]⟩) (fun x => netN c.netP x.1 x.2.1 x.2.2 = c.netT ∧ x.2.2.length + x.1 ≤ 10 ∧ x.2.1.pos + 14 * x.1 ≤ 2000000000000) (fun x => x.1) ((((c.pick 5).2.pick 5).1.toNat, ((c.pick 5).2.pick 5).2, [])) ?_ (⟨rfl, by show 0 + ((c.pick 5).2.pick 5).1.toNat ≤ _; omega, by show ((c.pick 5).2.pick 5).2.pos + 14 * ((c.pick 5).2.pick 5).1.toNat ≤ _; omega⟩) ?_
 ·exact (Weak.nilOwnP 3 1 (e := 153) (sz := 2) rfl rfl rfl rfl rfl).trans (zw [(100, _), (101, _), (102, _)] hC)
 rintro ⟨j, cc, ts⟩ ⟨hsub, hlen, hpos⟩;dsimp only at hsub hlen hpos ⊢;refine AC.seq (AC.seq (AC.region ?_));refine zm ?_;refine zc ?_;refine AL.nil (th_n ?_);refine AC.condD rfl (fun h0 => ?_) (fun h0 => ?_)
 ·refine AC.skip (th_n (AC.seq (AC.block (AC.seq ?_))));obtain ⟨i, rfl⟩ : ∃ i, j = i + 1 := ⟨j - 1, by omega⟩;have ht := cc.tn_in c.netP;have hs1 := cc.subset_in c.netP 2 (by decide);have hs2 := (cc.subset c.netP 2).2.subset_in c.netP 2 (by decide);have hs3 := ((cc.subset c.netP 2).2.subset c.netP 2).2.pick_pos 10;refine AC.drawn' mixed_ok [[], [], [1], [0,1,2], [], [], [5], [0,1,2,3,4,5,6], [0,1,2,3,4,5,6,7], [], [0,1,2,3,4,5,6,7,8,9]] (by decide) ?_;refine zd 0 [] 11 (by exact mv3 rfl) ?_;refine zd 1 [] 11 (by exact g_fa_ptr rfl rfl rfl rfl rfl) ?_;refine zd 2 [1] 11 (by exact g_load_ptr rfl rfl rfl rfl rfl) ?_;refine zh 3 [0,1,2] 11 (by exact h_fun (cs := [0]) en_subset rfl rfl (by repeat (first | exact rfl | exact DLead.same | refine ⟨_, _, rfl, ?_, ?_⟩ | refine ⟨_, rfl, ?_⟩)) (by repeat (first | exact True.intro | refine And.intro ?_ ?_ | exact DLead.same | exact rfl | refine ⟨_, _, rfl, rfl, ?_⟩ | refine ⟨_, rfl, ?_⟩ | refine ⟨_, _, rfl, ?_, ?_⟩)) (subset_spec _ _ _ (by omega) (by omega) (by omega) (by omega)) rfl rfl rfl rfl) ?_;refine zd 4 [] 11 (by exact mv3 rfl) ?_;refine zd 5 [] 11 (by exact g_fa_ptr rfl rfl rfl rfl rfl) ?_;refine zd 6 [5] 11 (by exact g_load_ptr rfl rfl rfl rfl rfl) ?_;refine zh 7 [0,1,2,3,4,5,6] 11 (by exact h_fun (cs := [0]) en_subset rfl rfl (by repeat (first | exact rfl | exact DLead.same | refine ⟨_, _, rfl, ?_, ?_⟩ | refine ⟨_, rfl, ?_⟩)) (by repeat (first | exact True.intro | refine And.intro ?_ ?_ | exact DLead.same | exact rfl | refine ⟨_, _, rfl, rfl, ?_⟩ | refine ⟨_, rfl, ?_⟩ | refine ⟨_, _, rfl, ?_, ?_⟩)) (subset_spec _ _ _ (by omega) (by omega) (by omega) (by omega)) rfl rfl rfl rfl) ?_;refine zd 8 [0,1,2,3,4,5,6,7] 11 (by exact g_build rfl rfl rfl) ?_;refine zh 9 [] 11 (by exact h_alloc rfl) ?_;refine zh 10 (List.range 10) 11 (by exact h_store rfl rfl rfl rfl rfl rfl) ?_;refine zj 11 ?_;refine th_n ?_;refine AC.cut (fun (_ : Unit) => ⟨35, 136, [(0, .ptr 0 0), (2, .ptr 102 0), (3, .ptr 100 0), (4, aI ((i + 1 : Nat) : Int)), (5, .ptr 103 0)], [(0, some (curC (cc.tn c.netP).2)), (100, some (.cells 25 [aI c.netP, .own 101 ts.length])), (101, some (.arr 153 2 (tsL ts))), (102, some (.cells 25 [aI 0, .d (.val (.slice none 0 0))])), (103, some (.cells 153 [.d (vI (cc.tn c.netP).1.pre), .d (vI (cc.tn c.netP).1.post)]))]⟩) (fun _ => True) ?_ ?_
  ·refine AC.seq (AC.region ?_);refine AL.p (by exact mv3 rfl) rfl ?_;refine AL.q (by exact h_fun (cs := [0]) en_one rfl rfl (by repeat (first | exact rfl | exact DLead.same | refine ⟨_, _, rfl, ?_, ?_⟩ | refine ⟨_, rfl, ?_⟩)) (by repeat (first | exact True.intro | refine And.intro ?_ ?_ | exact DLead.same | exact rfl | refine ⟨_, _, rfl, rfl, ?_⟩ | refine ⟨_, rfl, ?_⟩ | refine ⟨_, _, rfl, ?_, ?_⟩)) (one_spec _ _ (by omega) (by omega)) rfl rfl rfl rfl) rfl ?_;refine AL.nil (th_n ?_);refine AC.condD rfl (fun h1 => ?_) (fun h1 => ?_)
   ·refine AC.region ?_;refine zF ?_;refine zs ?_;refine AL.nil (th_n ?_)
    (have e : (cc.tn c.netP).1.post = [] := (by show (if _ then ([] : List Int) else _) = _; rw [if_pos h1]); exact ⟨(), trivial, zw [(100, _), (101, _), (102, _), (103, _)] hC (b := by rw [e]; repeat (first | exact True.intro | refine And.intro ?_ ?_ | exact DLead.same | exact DLead.nil | exact rfl | refine ⟨_, _, rfl, rfl, ?_⟩ | refine ⟨_, rfl, ?_⟩ | refine ⟨_, _, rfl, ?_, ?_⟩))⟩)
   refine AC.skip (th_n ?_)
   (have e : (cc.tn c.netP).1.post = ((cc.subset c.netP 2).2.subset c.netP 2).1 := (by show (if _ then ([] : List Int) else _) = _; rw [if_neg h1]); exact ⟨(), trivial, zw [(100, _), (101, _), (102, _), (103, _)] hC (b := by rw [e]; repeat (first | exact True.intro | refine And.intro ?_ ?_ | exact DLead.same | exact rfl | refine ⟨_, _, rfl, rfl, ?_⟩ | refine ⟨_, rfl, ?_⟩ | refine ⟨_, _, rfl, ?_, ?_⟩))⟩)
  intro _ _;refine AC.region ?_;refine zF ?_;refine zl ?_;refine AL.p (by exact g_load_ptrN rfl rfl rfl rfl rfl) rfl ?_;refine AL.q (by exact h_litF rfl rfl rfl rfl rfl rfl rfl rfl) rfl ?_;refine AL.q (by exact h_appendT ts [(cc.tn c.netP).1] (.own rfl rfl (tsL_len _).symm) (.view rfl) (by simp; omega) (by simp)) rfl ?_;refine zF ?_;refine zs ?_;refine AL.nil (ib_n (th_n (AC.region ?_)));refine zm ?_;refine zA ?_;refine za ?_;refine AL.nil (th_n ?_);exact ⟨(i, (cc.tn c.netP).2, ts ++ [(cc.tn c.netP).1]), ⟨hsub, by show (ts ++ [_]).length + i ≤ _; rw [List.length_append]; show ts.length + 1 + i ≤ _; omega, by show (cc.tn c.netP).2.pos + 14 * i ≤ _; omega⟩, by show i < i + 1; omega, zw [(100, _), (101, _), (102, _)] hC⟩
 refine AC.exit (th_e (th_e (ib_y (th_n (AC.seq (AC.region ?_))))));refine AL.p (by exact g_load_ptrN rfl rfl rfl rfl rfl) rfl ?_;refine zs ?_;refine AL.nil (th_n (AC.ret (bq_r ?_)));have hj : j = 0 := by omega
 subst hj;have e : c.netT = (ts, cc) := hsub.symm;exact retN [(1, _)] rfl (by rw [e]; repeat (first | exact DLead.same | exact rfl | refine ⟨_, rfl, ?_⟩ | refine ⟨_, _, rfl, ?_, ?_⟩)) (by rw [e]; repeat (first | exact True.intro | refine And.intro ?_ ?_ | exact DLead.same | exact rfl | refine ⟨_, _, rfl, rfl, ?_⟩ | refine ⟨_, rfl, ?_⟩ | refine ⟨_, _, rfl, ?_, ?_⟩)) rfl rfl
theorem en_net : Enters Tryz.prog 166 := enters_of Tryz.func166 rfl rfl
theorem Cur.netT_in (c : Cur) : c.netT.1.length ≤ 4 ∧ (∀ t, t ∈ c.netT.1 → t.pre.length ≤ 2 ∧ t.post.length ≤ 2) ∧ c.netT.2.pos ≤ c.pos + 60 ∧ c.netT.2.code = c.code := by
 have h := netN_in c.netP ((c.pick 5).2.pick 5).1.toNat ((c.pick 5).2.pick 5).2 [] (fun t ht => by simp at ht);have hp1 := c.pick_pos 5;have hp2 := (c.pick 5).2.pick_in 5 (by decide);have hp3 := (c.pick 5).2.pick_pos 5;simp only [List.length_nil] at h;refine ⟨by show (netN _ _ _ _).1.length ≤ _; omega, h.2.1, by show (netN _ _ _ _).2.pos ≤ _; omega, ?_⟩;show (netN _ _ _ _).2.code = _;rw [h.2.2.2, Cur.pick_code, Cur.pick_code]
def small (N : Net) : Prop := 0 ≤ N.places ∧ N.places ≤ 31 ∧ N.ts.length ≤ 4 ∧ ∀ t, t ∈ N.ts → t.pre.length ≤ 2 ∧ t.post.length ≤ 2
theorem markOf_len (c : Cur) (n : Int) : ((c.markOf n).1.length = n.toNat) ∧ (c.markOf n).2.pos ≤ c.pos + 2 * n.toNat ∧ (c.markOf n).2.code = c.code := by
 have h := markN_len n.toNat c [];simp only [List.length_nil] at h;exact ⟨by show (markN _ _ _).1.length = _; omega, h.2.1, h.2.2⟩
theorem getD_at {l : List Int} {k : Nat} (h : k < l.length) : l.getD k 0 = l[k] := by rw [List.getD_eq_getElem?_getD, List.getElem?_eq_getElem h]; rfl
theorem same_of {a b : List Int} (hl : a.length = b.length) (h : ∀ j, j < a.length → a.getD j 0 = b.getD j 0) : a = b :=
 List.ext_getElem hl fun j ha hb => by have := h j ha; rwa [getD_at ha, getD_at hb] at this
theorem same_no {a b : List Int} {j : Nat} (h : a.getD j 0 ≠ b.getD j 0) : a ≠ b := fun e => h (by rw [e])
theorem slEqual_spec (a b : List Int) (ha : a.length ≤ 1000000) (hb : b.length ≤ 1000000) : ASpec Tryz.prog 122 [.d (vI a), .d (vI b)] [] (Pure1 (aT (decide (a = b)))) := by
 refine ASpec.of Tryz.func122 rfl rfl fun C hC => ?_
 refine AC.seq (AC.region ?_);refine za ?_;refine AL.nil (th_n (AC.seq (AC.seq (AC.region ?_))));refine zm ?_;refine kH ?_;refine zm ?_;refine kH ?_;refine zc ?_;refine AL.nil (th_n ?_);refine AC.condND rfl (fun h0 => ?_) (fun h0 => ?_)
 ·refine AC.seq (AC.region ?_);refine za ?_;refine AL.nil (th_n (AC.ret (th_r (bq_r ?_))));have hne : a ≠ b := fun e => h0 (by rw [e])
  exact ret1 rfl (by rw [decide_eq_false hne])
 refine AC.skip (th_n (AC.seq (AC.seq (AC.region ?_))));refine zm ?_;refine kH ?_;refine zm ?_;refine AL.nil (th_n (AC.block ?_));refine AC.loop (ι := Nat) (fun k => ⟨26, 0, [(0, .d (vI a)), (1, .d (vI b)), (12, aI a.length), (13, aI k)], []⟩) (fun k => k ≤ a.length ∧ ∀ j, j < k → a.getD j 0 = b.getD j 0) (fun k => a.length - k) (0) ?_ (⟨Nat.zero_le _, fun j hj => by omega⟩) ?_
 ·refine Weak.ren _ [] hC rfl ?_ ?_ rfl rfl rfl <;> repeat (first | exact True.intro | refine And.intro ?_ ?_ | exact DLead.same)
 intro k ⟨hk, hall⟩;refine AC.seq (AC.region ?_);refine zc ?_;refine AL.nil (th_n (AC.seq ?_));refine AC.condD rfl (fun h1 => ?_) (fun h1 => ?_)
 ·refine AC.skip (th_n (AC.seq (AC.block (AC.seq ?_))));have hk1 : k < a.length := by omega
  have hl : a.length = b.length := by omega
  have hget : (ints a)[k]? = some [dI (a.getD k 0)] := ints_get hk1;have hget2 : (ints b)[k]? = some [dI (b.getD k 0)] := ints_get (by omega);refine AC.region ?_;refine zm ?_;refine za ?_;refine AL.nil (th_n (AC.seq ?_));refine AC.drawn' mixed_ok [[], [], [0,1], [0,1,2], [], [], [4,5], [4,5,6], [0,1,2,3,4,5,6,7]] (by decide) ?_;refine zd 0 [] 9 (by exact mv1 rfl) ?_;refine zd 1 [] 9 (by exact mv1 rfl) ?_;refine zd 2 [0,1] 9 (by exact g_ia_view rfl rfl rfl rfl rfl (by rfl) (by assumption)) ?_;refine zd 3 [0,1,2] 9 (by exact g_load_ref rfl rfl rfl) ?_;refine zd 4 [] 9 (by exact mv1 rfl) ?_;refine zd 5 [] 9 (by exact mv1 rfl) ?_;refine zd 6 [4,5] 9 (by exact g_ia_view rfl rfl rfl rfl rfl (by rfl) (by assumption)) ?_;refine zd 7 [4,5,6] 9 (by exact g_load_ref rfl rfl rfl) ?_;refine zd 8 [0,1,2,3,4,5,6,7] 9 (by exact g_cmp rfl rfl rfl) ?_;refine zj 9 ?_;refine th_n ?_;refine AC.condND rfl (fun h2 => ?_) (fun h2 => ?_)
  ·refine AC.seq (AC.region ?_);refine za ?_;refine AL.nil (th_n (AC.ret (ib_r (th_r (th_r (ib_r (th_r (bq_r ?_))))))));have hne : a ≠ b := same_no (by simpa using h2);exact ret1 rfl (by rw [decide_eq_false hne])
  refine AC.skip (ib_n (th_n (AC.region ?_)));refine zA ?_;refine zm ?_;refine AL.nil (th_n ?_);exact ⟨k + 1, ⟨by omega, fun j hj => by rcases Nat.lt_succ_iff_lt_or_eq.1 hj with h | rfl; exact hall j h; simpa using h2⟩, by omega, Weak.ren _ [] hC rfl (by repeat (first | exact True.intro | refine And.intro ?_ ?_ | exact DLead.same)) (by repeat (exact True.intro)) rfl rfl rfl⟩
 refine AC.exit (th_e (th_e (ib_y (th_n (AC.seq (AC.region ?_))))));refine za ?_;refine AL.nil (th_n (AC.ret (bq_r ?_)));have he : a = b := same_of (by omega) (fun j hj => hall j (by omega));exact ret1 rfl (by rw [decide_eq_true he])
theorem en_slEqual : Enters Tryz.prog 122 := enters_of Tryz.func122 rfl rfl
theorem l1Same_spec (a b : List Int) (ha : a.length ≤ 1000000) (hb : b.length ≤ 1000000) : ASpec Tryz.prog 116 [.d (vI a), .d (vI b)] [] (Pure1 (aT (decide (a = b)))) := by
 refine ASpec.of Tryz.func116 rfl rfl fun C hC => ?_
 refine AC.seq (AC.region ?_);refine za ?_;refine AL.nil (th_n (AC.seq (AC.seq (AC.region ?_))));refine zm ?_;refine kH ?_;refine zm ?_;refine kH ?_;refine zc ?_;refine AL.nil (th_n ?_);refine AC.condND rfl (fun h0 => ?_) (fun h0 => ?_)
 ·refine AC.seq (AC.region ?_);refine za ?_;refine AL.nil (th_n (AC.ret (th_r (bq_r ?_))));have hne : a ≠ b := fun e => h0 (by rw [e])
  exact ret1 rfl (by rw [decide_eq_false hne])
 refine AC.skip (th_n (AC.seq (AC.seq (AC.region ?_))));refine zm ?_;refine kH ?_;refine zm ?_;refine AL.nil (th_n (AC.block ?_));refine AC.loop (ι := Nat) (fun k => ⟨26, 0, [(0, .d (vI a)), (1, .d (vI b)), (12, aI a.length), (13, aI k)], []⟩) (fun k => k ≤ a.length ∧ ∀ j, j < k → a.getD j 0 = b.getD j 0) (fun k => a.length - k) (0) ?_ (⟨Nat.zero_le _, fun j hj => by omega⟩) ?_
 ·refine Weak.ren _ [] hC rfl ?_ ?_ rfl rfl rfl <;> repeat (first | exact True.intro | refine And.intro ?_ ?_ | exact DLead.same)
 intro k ⟨hk, hall⟩;refine AC.seq (AC.region ?_);refine zc ?_;refine AL.nil (th_n (AC.seq ?_));refine AC.condD rfl (fun h1 => ?_) (fun h1 => ?_)
 ·refine AC.skip (th_n (AC.seq (AC.block (AC.seq ?_))));have hk1 : k < a.length := by omega
  have hl : a.length = b.length := by omega
  have hget : (ints a)[k]? = some [dI (a.getD k 0)] := ints_get hk1;have hget2 : (ints b)[k]? = some [dI (b.getD k 0)] := ints_get (by omega);refine AC.region ?_;refine zm ?_;refine za ?_;refine AL.nil (th_n (AC.seq ?_));refine AC.drawn' mixed_ok [[], [], [0,1], [0,1,2], [], [], [4,5], [4,5,6], [0,1,2,3,4,5,6,7]] (by decide) ?_;refine zd 0 [] 9 (by exact mv1 rfl) ?_;refine zd 1 [] 9 (by exact mv1 rfl) ?_;refine zd 2 [0,1] 9 (by exact g_ia_view rfl rfl rfl rfl rfl (by rfl) (by assumption)) ?_;refine zd 3 [0,1,2] 9 (by exact g_load_ref rfl rfl rfl) ?_;refine zd 4 [] 9 (by exact mv1 rfl) ?_;refine zd 5 [] 9 (by exact mv1 rfl) ?_;refine zd 6 [4,5] 9 (by exact g_ia_view rfl rfl rfl rfl rfl (by rfl) (by assumption)) ?_;refine zd 7 [4,5,6] 9 (by exact g_load_ref rfl rfl rfl) ?_;refine zd 8 [0,1,2,3,4,5,6,7] 9 (by exact g_cmp rfl rfl rfl) ?_;refine zj 9 ?_;refine th_n ?_;refine AC.condND rfl (fun h2 => ?_) (fun h2 => ?_)
  ·refine AC.seq (AC.region ?_);refine za ?_;refine AL.nil (th_n (AC.ret (ib_r (th_r (th_r (ib_r (th_r (bq_r ?_))))))));have hne : a ≠ b := same_no (by simpa using h2);exact ret1 rfl (by rw [decide_eq_false hne])
  refine AC.skip (ib_n (th_n (AC.region ?_)));refine zA ?_;refine zm ?_;refine AL.nil (th_n ?_);exact ⟨k + 1, ⟨by omega, fun j hj => by rcases Nat.lt_succ_iff_lt_or_eq.1 hj with h | rfl; exact hall j h; simpa using h2⟩, by omega, Weak.ren _ [] hC rfl (by repeat (first | exact True.intro | refine And.intro ?_ ?_ | exact DLead.same)) (by repeat (exact True.intro)) rfl rfl rfl⟩
 refine AC.exit (th_e (th_e (ib_y (th_n (AC.seq (AC.region ?_))))));refine za ?_;refine AL.nil (th_n (AC.ret (bq_r ?_)));have he : a = b := same_of (by omega) (fun j hj => hall j (by omega));exact ret1 rfl (by rw [decide_eq_true he])
theorem en_l1Same : Enters Tryz.prog 116 := enters_of Tryz.func116 rfl rfl
theorem l1Has_spec (l : List Int) (n : Int) (hl : l.length ≤ 1000000) : ASpec Tryz.prog 110 [.d (vI l), aI n] [] (Pure1 (aT (hasI l n))) := by
 refine ASpec.of Tryz.func110 rfl rfl fun C hC => ?_
 refine AC.seq (AC.region ?_);refine za ?_;refine AL.nil (th_n (AC.seq (AC.seq (AC.region ?_))));refine zm ?_;refine kH ?_;refine zm ?_;refine AL.nil (th_n (AC.block ?_));refine AC.loop (ι := Nat) (fun k => ⟨17, 0, [(1, aI n), (7, .d (vI l)), (8, aI l.length), (9, aI k)], []⟩) (fun k => k ≤ l.length ∧ ∀ j (hj : j < l.length), j < k → decide (l[j] = n) = false) (fun k => l.length - k) (0) ?_ (⟨Nat.zero_le _, fun j _ hj => by omega⟩) ?_
 ·refine Weak.ren _ [] hC rfl ?_ ?_ rfl rfl rfl <;> repeat (first | exact True.intro | refine And.intro ?_ ?_ | exact DLead.same)
 intro k ⟨hk, hall⟩;refine AC.seq (AC.region ?_);refine zc ?_;refine AL.nil (th_n (AC.seq ?_));refine AC.condD rfl (fun h0 => ?_) (fun h0 => ?_)
 ·refine AC.skip (th_n (AC.seq (AC.block (AC.seq ?_))));have hk1 : k < l.length := by omega
  have hget := ints_at hk1;refine AC.region ?_;refine AL.p (by exact g_ia_view rfl rfl rfl rfl rfl (by rfl) (by assumption)) rfl ?_;refine zr ?_;refine za ?_;refine AL.nil (th_n (AC.seq (AC.region ?_)));refine zm ?_;refine zm ?_;refine zc ?_;refine AL.nil (th_n ?_);refine AC.condD rfl (fun h1 => ?_) (fun h1 => ?_)
  ·refine AC.seq (AC.region ?_);refine za ?_;refine AL.nil (th_n (AC.ret (ib_r (th_r (th_r (ib_r (th_r (bq_r ?_))))))));exact ret1 rfl (by rw [hasI, List.any_eq_true.2 ⟨_, List.getElem_mem hk1, by simpa using h1⟩])
  refine AC.skip (ib_n (th_n (AC.region ?_)));refine zA ?_;refine zm ?_;refine AL.nil (th_n ?_);exact ⟨k + 1, ⟨by omega, fun j hj hj2 => by rcases Nat.lt_succ_iff_lt_or_eq.1 hj2 with h | rfl; exact hall j hj h; simpa using h1⟩, by omega, Weak.ren _ [] hC rfl (by repeat (first | exact True.intro | refine And.intro ?_ ?_ | exact DLead.same)) (by repeat (exact True.intro)) rfl rfl rfl⟩
 refine AC.exit (th_e (th_e (ib_y (th_n (AC.seq (AC.region ?_))))));refine za ?_;refine AL.nil (th_n (AC.ret (bq_r ?_)));exact ret1 rfl (by rw [hasI, List.any_eq_false.2 (fun x hx => by obtain ⟨j, hj, rfl⟩ := List.getElem_of_mem hx; have := hall j hj (by omega); rw [this]; decide)])
theorem en_l1Has : Enters Tryz.prog 110 := enters_of Tryz.func110 rfl rfl
theorem en_clone : Enters Tryz.prog 159 := enters_of Tryz.func159 rfl rfl
theorem l1Own_spec (l : List Int) (hl : l.length ≤ 1000000) : ASpec Tryz.prog 150 [.d (vI l)] [] (Pure1 (.d (vI l))) := by
 refine ASpec.of Tryz.func150 rfl rfl fun C hC => ?_
 refine AC.seq (AC.region ?_);refine za ?_;refine AL.nil (th_n (AC.seq (AC.region ?_)));refine AL.q (by exact h_lit rfl rfl rfl rfl rfl rfl rfl rfl) rfl ?_;refine zm ?_;refine AL.q (by exact h_appendI [] l (.own rfl rfl rfl) (.view rfl) (by simp; omega) (by simp)) rfl ?_;refine AL.weak (Weak.freeze (i := 5) rfl rfl (Nat.le_of_eq (ints_len _).symm) (ints_all _)) ?_;refine za ?_;refine AL.nil (th_n (AC.ret (bq_r ?_)));exact ret1 rfl rfl
theorem en_l1Own : Enters Tryz.prog 150 := enters_of Tryz.func150 rfl rfl
theorem l7Asked_spec (N : Net) (m : List UInt8) (hB : NetL N) (hm : m.length ≤ 2000000) : ASpec Tryz.prog 92 [netA N, aS (bstr m)] [] (Pure1 (aT (goodN N && bitsB m N.places))) := by
 refine ASpec.of Tryz.func92 rfl rfl fun C hC => ?_
 refine AC.seq (AC.region ?_);refine kD ?_;refine za ?_;refine AL.nil (th_n (AC.seq (AC.region ?_)));refine kG ?_;refine kV en_l1Good (l1Good_gen N hB) ?_;refine zm ?_;refine AL.caseGB rfl rfl (fun h0 => ?_) (fun h0 => ?_)
 ·refine zy ?_;refine kG ?_;refine zy ?_;refine zm ?_;refine zy ?_;refine AL.q (by exact h_pure en_l1Mark rfl rfl (by repeat (first | exact rfl | exact DLead.same | refine ⟨_, _, rfl, ?_, ?_⟩ | refine ⟨_, rfl, ?_⟩)) (l1Mark_spec _ _ (by assumption)) rfl) rfl ?_;refine zQ ?_;refine za ?_;refine AL.nil (th_n (AC.ret (bq_r ?_)));exact ret1 rfl (by simp [h0])
 refine zn ?_;refine zn ?_;refine zn ?_;refine zP ?_;refine za ?_;refine AL.nil (th_n (AC.ret (bq_r ?_)));exact ret1 rfl (by simp [h0])
theorem en_l7Asked : Enters Tryz.prog 92 := enters_of Tryz.func92 rfl rfl
def limB (u : Unf) : Bool := decide ((u.es.length : Int) ≤ 60) && decide ((u.cs.length : Int) ≤ 200)
theorem l7Limits_spec (u : Unf) (h1 : u.es.length ≤ 1048576) (h2 : u.cs.length ≤ 1048576) : ASpec Tryz.prog 65 [unfA u] [] (Pure1 (aT (limB u))) := by
 refine ASpec.of Tryz.func65 rfl rfl fun C hC => ?_
 refine AC.seq (AC.region ?_);refine kD ?_;refine za ?_;refine AL.nil (th_n (AC.seq (AC.region ?_)));refine zf ?_;refine zr ?_;refine kH ?_;refine zc ?_;refine zm ?_;refine AL.caseG rfl rfl (fun h0 => ?_) (fun h0 => ?_)
 ·refine zy ?_;refine zf ?_;refine zy ?_;refine zr ?_;refine zy ?_;refine kH ?_;refine zy ?_;refine zc ?_;refine zQ ?_;refine za ?_;refine AL.nil (th_n (AC.ret (bq_r ?_)));exact ret1 rfl (by rw [limB, decide_eq_true h0]; rfl)
 refine zn ?_;refine zn ?_;refine zn ?_;refine zn ?_;refine zP ?_;refine za ?_;refine AL.nil (th_n (AC.ret (bq_r ?_)));exact ret1 rfl (by rw [limB, decide_eq_false h0]; rfl)
theorem en_l7Limits : Enters Tryz.prog 65 := enters_of Tryz.func65 rfl rfl
theorem l7OwnH_spec (e : Ev) (h1 : e.pre.length ≤ 1000000) : ASpec Tryz.prog 119 [evA e] [] (Pure1 (evA e)) := by
 refine ASpec.of Tryz.func119 rfl rfl fun C hC => ?_
 refine AC.seq (AC.region ?_);refine kD ?_;refine kE ?_;refine AL.nil (th_n (AC.seq ?_));refine AC.drawn' mixed_ok [[], [0], [], [2], [2,3], [0,1,2,3,4], [0,1,2,3,4,5]] (by decide) ?_;refine zd 0 [] 7 (by exact g_fa_ref rfl rfl rfl rfl rfl rfl) ?_;refine zd 1 [0] 7 (by exact g_load_ref rfl rfl rfl) ?_;refine zd 2 [] 7 (by exact g_fa_ref rfl rfl rfl rfl rfl rfl) ?_;refine zd 3 [2] 7 (by exact g_load_ref rfl rfl rfl) ?_;refine zh 4 [2,3] 7 (by exact h_pure en_l1Own rfl rfl (by repeat (first | exact rfl | exact DLead.same | refine ⟨_, _, rfl, ?_, ?_⟩)) (l1Own_spec _ (by assumption)) rfl) ?_;refine zd 5 [0,1,2,3,4] 7 (by exact g_build rfl rfl rfl) ?_;refine zh 6 [0,1,2,3,4,5] 7 (by exact h_store rfl rfl rfl rfl rfl rfl) ?_;refine zj 7 ?_;refine th_n (AC.ret (bq_r ?_));exact ret0 rfl (by repeat (first | exact DLead.same | exact rfl | refine ⟨_, rfl, ?_⟩ | refine ⟨_, _, rfl, ?_, ?_⟩))
theorem en_l7OwnH : Enters Tryz.prog 119 := enters_of Tryz.func119 rfl rfl
def evAt (u : Unf) (e : Int) : List Int := (u.es.getD e.toNat ⟨0, []⟩).pre
def cAt (u : Unf) (c : Int) : Cond := u.cs.getD c.toNat ⟨0, 0⟩
theorem evAt_nat {u : Unf} {k : Nat} (h : k < u.es.length) : evAt u (k : Int) = u.es[k].pre := by unfold evAt; rw [Int.toNat_natCast, List.getD_eq_getElem?_getD, List.getElem?_eq_getElem h]; rfl
theorem cAt_nat {u : Unf} {k : Nat} (h : k < u.cs.length) : cAt u (k : Int) = u.cs[k] := by unfold cAt; rw [Int.toNat_natCast, List.getD_eq_getElem?_getD, List.getElem?_eq_getElem h]; rfl
structure WF (u : Unf) : Prop where
 p : ∀ e, e ∈ u.es → ∀ c, c ∈ e.pre → 0 ≤ c ∧ c < u.cs.length
 b : ∀ c, c ∈ u.cs → -1 ≤ c.by_ ∧ c.by_ < u.es.length
 l : ∀ e, e ∈ u.es → e.pre.length ≤ 1000000
 e : u.es.length ≤ 1000
 c : u.cs.length ≤ 100000
def usedI (u : Unf) (list : List Int) (c : Int) : Bool := list.any (fun e => hasI (evAt u e) c)
set_option maxHeartbeats 1000000 in
theorem l7Used_spec (u : Unf) (list : List Int) (c : Int) (hw : WF u) (hl : list.length ≤ 1000000) (hin : ∀ e, e ∈ list → 0 ≤ e ∧ e < u.es.length) : ASpec Tryz.prog 133 [unfA u, .d (vI list), aI c] [] (Pure1 (aT (usedI u list c))) := by
 refine ASpec.of Tryz.func133 rfl rfl fun C hC => ?_
 refine AC.seq (AC.region ?_);refine kD ?_;refine za ?_;refine AL.nil (th_n (AC.seq (AC.seq (AC.region ?_))));refine zm ?_;refine kH ?_;refine zm ?_;refine AL.nil (th_n (AC.block ?_));refine AC.loop (ι := Nat) (fun k => ⟨24, 108, [(2, aI c), (3, .d (.ref (unfD u))), (9, .d (vI list)), (10, aI list.length), (11, aI k)], []⟩) (fun k => k ≤ list.length ∧ ∀ j (hj : j < list.length), j < k → hasI (evAt u list[j]) c = false) (fun k => list.length - k) (0) ?_ (⟨Nat.zero_le _, fun j _ hj => by omega⟩) ?_
 ·refine Weak.ren _ [] hC rfl ?_ ?_ rfl rfl rfl <;> repeat (first | exact True.intro | refine And.intro ?_ ?_ | exact DLead.same)
 intro k ⟨hk, hall⟩;refine AC.seq (AC.region ?_);refine zc ?_;refine AL.nil (th_n (AC.seq ?_));refine AC.condD rfl (fun h0 => ?_) (fun h0 => ?_)
 ·refine AC.skip (th_n (AC.seq (AC.block (AC.seq ?_))));have hk1 : k < list.length := by omega
  have hget := ints_at hk1;have hi0 := hin _ (List.getElem_mem hk1);obtain ⟨i, hi⟩ : ∃ i : Nat, list[k] = (i : Int) := ⟨list[k].toNat, by omega⟩;have hie : i < u.es.length := by omega
  have hgete := evsL_get hie;have hpl := hw.l _ (List.getElem_mem hie);have hev : evAt u list[k] = u.es[i].pre := by rw [hi]; exact evAt_nat hie
  rw [hi] at hget;refine AC.region ?_;refine AL.p (by exact g_ia_view rfl rfl rfl rfl rfl (by rfl) (by assumption)) rfl ?_;refine zr ?_;refine za ?_;refine AL.nil (th_n (AC.seq (AC.region ?_)));refine zf ?_;refine zr ?_;refine zm ?_;refine AL.p (by exact g_ia_view rfl rfl rfl rfl rfl (by rfl) (by assumption)) rfl ?_;refine zf ?_;refine zr ?_;refine zm ?_;refine AL.q (by exact h_pure en_l1Has rfl rfl (by repeat (first | exact rfl | exact DLead.same | refine ⟨_, _, rfl, ?_, ?_⟩)) (l1Has_spec _ _ (by assumption)) rfl) rfl ?_;refine AL.nil (th_n ?_);refine AC.condB rfl (fun h1 => ?_) (fun h1 => ?_)
  ·refine AC.seq (AC.region ?_);refine za ?_;refine AL.nil (th_n (AC.ret (ib_r (th_r (th_r (ib_r (th_r (bq_r ?_))))))));exact ret1 rfl (by rw [usedI, List.any_eq_true.2 ⟨_, List.getElem_mem hk1, by rw [hev]; exact h1⟩])
  refine AC.skip (ib_n (th_n (AC.region ?_)));refine zA ?_;refine zm ?_;refine AL.nil (th_n ?_);exact ⟨k + 1, ⟨by omega, fun j hj hj2 => by rcases Nat.lt_succ_iff_lt_or_eq.1 hj2 with h | rfl; exact hall j hj h; rw [hev]; exact h1⟩, by omega, Weak.ren _ [] hC rfl (by repeat (first | exact True.intro | refine And.intro ?_ ?_ | exact DLead.same)) (by repeat (exact True.intro)) rfl rfl rfl⟩
 refine AC.exit (th_e (th_e (ib_y (th_n (AC.seq (AC.region ?_))))));refine za ?_;refine AL.nil (th_n (AC.ret (bq_r ?_)));exact ret1 rfl (by rw [usedI, List.any_eq_false.2 (fun x hx => by obtain ⟨j, hj, rfl⟩ := List.getElem_of_mem hx; rw [hall j hj (by omega)]; decide)])
theorem en_l7Used : Enters Tryz.prog 133 := enters_of Tryz.func133 rfl rfl
def placesI (u : Unf) (list : List Int) : List Int := list.foldl (fun out c => putI out (cAt u c).place) []
theorem placesI_take {u : Unf} {l : List Int} {k : Nat} (hk : k < l.length) : placesI u (l.take (k + 1)) = putI (placesI u (l.take k)) (cAt u l[k]).place := by
 unfold placesI;rw [List.take_add_one, List.getElem?_eq_getElem hk, List.foldl_append]; rfl
theorem placesI_len (u : Unf) (l : List Int) : (placesI u l).length ≤ l.length := by
 suffices h : ∀ (l : List Int) (o : List Int), (l.foldl (fun out c => putI out (cAt u c).place) o).length ≤ o.length + l.length by
  have := h l []; simp only [List.length_nil] at this; unfold placesI; omega
 intro l
 induction l with
 | nil => intro o; exact Nat.le_refl _
 | cons c l ih =>
  intro o;have h1 := ih (putI o (cAt u c).place);have h2 := putI_len o (cAt u c).place;simp only [List.foldl_cons, List.length_cons]; omega
set_option maxHeartbeats 1000000 in
theorem l7Places_spec (u : Unf) (list : List Int) (hw : WF u) (hl : list.length ≤ 1000000) (hin : ∀ c, c ∈ list → 0 ≤ c ∧ c < u.cs.length) : ASpec Tryz.prog 117 [unfA u, .d (vI list)] [] (Pure1 (.d (vI (placesI u list)))) := by
 refine ASpec.of Tryz.func117 rfl rfl fun C hC => ?_
 refine AC.seq (AC.region ?_);refine kD ?_;refine za ?_;refine AL.nil (th_n (AC.seq (AC.region ?_)));refine za ?_;refine AL.nil (th_n (AC.seq (AC.seq (AC.region ?_))));refine zm ?_;refine kH ?_;refine zm ?_;refine AL.nil (th_n (AC.block ?_));refine AC.loop (ι := Nat) (fun k => ⟨24, 108, [(2, .d (.ref (unfD u))), (5, .d (vI (placesI u (list.take k)))), (8, .d (vI list)), (9, aI list.length), (10, aI k)], []⟩) (fun k => k ≤ list.length) (fun k => list.length - k) (0) ?_ (Nat.zero_le _) ?_
 ·exact Weak.ren _ [] hC rfl (by repeat (first | exact True.intro | refine And.intro ?_ ?_ | exact DLead.same | exact DLead.nil)) (by repeat (exact True.intro)) rfl rfl rfl
 intro k hk;refine AC.seq (AC.region ?_);refine zc ?_;refine AL.nil (th_n (AC.seq ?_));refine AC.condD rfl (fun h0 => ?_) (fun h0 => ?_)
 ·refine AC.skip (th_n (AC.seq (AC.block (AC.seq ?_))));have hk1 : k < list.length := by omega
  have hget := ints_at hk1;have hi0 := hin _ (List.getElem_mem hk1);obtain ⟨i, hi⟩ : ∃ i : Nat, list[k] = (i : Int) := ⟨list[k].toNat, by omega⟩;have hic : i < u.cs.length := by omega
  have hgetc := condsL_get hic;have hcv : cAt u list[k] = u.cs[i] := by rw [hi]; exact cAt_nat hic
  have hpt := placesI_take (u := u) hk1;rw [hcv] at hpt;have hln := placesI_len u (list.take k);rw [List.length_take] at hln;have hP := l1Put_spec (placesI u (list.take k)) u.cs[i].place (by omega);rw [← hpt] at hP;rw [hi] at hget;refine AC.region ?_;refine AL.p (by exact g_ia_view rfl rfl rfl rfl rfl (by rfl) (by assumption)) rfl ?_;refine zr ?_;refine za ?_;refine AL.nil (th_n (AC.region ?_));refine zm ?_;refine zf ?_;refine zr ?_;refine zm ?_;refine AL.p (by exact g_ia_view rfl rfl rfl rfl rfl (by rfl) (by assumption)) rfl ?_;refine zf ?_;refine zr ?_;refine kV en_l1Put hP ?_;refine za ?_;refine AL.nil (ib_n (th_n (AC.region ?_)));refine zA ?_;refine zm ?_;refine AL.nil (th_n ?_);exact ⟨k + 1, by omega, by omega, Weak.ren _ [] hC rfl (by repeat (first | exact True.intro | refine And.intro ?_ ?_ | exact DLead.same)) (by repeat (exact True.intro)) rfl rfl rfl⟩
 refine AC.exit (th_e (th_e (ib_y (th_n (AC.seq (AC.region ?_))))));refine zm ?_;refine za ?_;refine AL.nil (th_n (AC.ret (bq_r ?_)));have hkk : k = list.length := by omega
 rw [hkk, List.take_length];exact ret1 rfl rfl
theorem en_l7Places : Enters Tryz.prog 117 := enters_of Tryz.func117 rfl rfl
end Go.Proofs.YtbiinjejokhfgaaGreat
