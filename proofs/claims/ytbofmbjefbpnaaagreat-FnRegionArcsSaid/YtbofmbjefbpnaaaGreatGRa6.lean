/- Contracts of the functions of the program and of the reference, each proved by a walk through its code. -/
import Derived.Laws.IdiomCopy
import Derived.Shelf.Small.Bits
import Derived.Shelf.Strconv.Itoa0
import Derived.Shelf.Sort.Plain
import Derived.Shelf.Bits.Mul64
import Derived.Ground.Names2Prog
import Derived.Shelf.Slices.CompactI
import Derived.Shelf.Slices.In.SortNone
import Derived.Test.YtbofmbjefbpnaaaGreatRows
import Derived.Test.YtbofmbjefbpnaaaGreatGRa5
set_option linter.all false
set_option maxRecDepth 20000
namespace Go.Proofs.YtbofmbjefbpnaaaGreat
open Go.RowKit
section
variable {P : Program} [PT P] {s : ASt} {dst : Option Nat} {ty : Nat} {pos : String} {af : Array Edge} {gd : Option (Nat × Bool)} {x y : Operand} {f t : Nat}
theorem g_slice_part {e n bt sz id k l h o : Nat} {zs : List ZK} {te : TS} {lo hi : Option Operand} (ht : PT.ty P t = some ⟨.slice e, n, bt, zs⟩) (he : PT.ty P e = some te) (hs : te.size = sz) {els : List (List DV)} {e' : Nat} (hx : s.ev x = .own id k) (hc : s.chunk id = some (.arr e' sz els)) (hlo : OptEv s lo 0 l) (hhi : OptEv s hi k h) (h1 : l ≤ h) (h2 : h ≤ els.length) (ho : l * sz = o) {q : Nat} (hq : h - l = q) :
  GOp P [id] s ⟨dst, .slice t x lo hi none, ty, pos, af, gd⟩ (.part id o q) := by
 subst ho hq;refine ⟨fun s' ha C U a w m hR => ?_⟩;have hv := hR.ev x;rw [ha.2.1 x (by simp [Op.operands]), hx] at hv;have hc' : s'.chunk id = some (.arr e' sz els) := by rw [ha.2.2 id (by simp)]; exact hc
 have olo := optEv_run ha hR hlo (by rintro x rfl; simp [Op.operands]);have ohi := optEv_run ha hR hhi (by rintro x rfl; cases lo <;> simp [Op.operands]);generalize hvv : a.eval x = v at hv;cases hv with
 | own hp h0 =>
  rename_i cap b
  have hle : els.length ≤ cap ∧ (0 < els.length → ∃ k, b = some k) := by
   cases hR.chunkAt hc' hp with
   | arr _ _ _ h _ => exact ⟨h, fun _ => ⟨_, rfl⟩⟩
   | nil => simp
  have hb := run_bounds (P := P) (isS := true) (len := k) (cap := cap) (mx := none) (l := l) (mm := cap) olo ohi (.inl ⟨rfl, rfl⟩) h1 (by omega) (Nat.le_refl _) w;refine ⟨_, ?_, .part (b := b) (cap := cap) (a := if cap = l then b.map (fun b => ⟨b, 0, none⟩) else (b.map (fun b => (⟨b, 0, none⟩ : Addr))).map (·.add (l * sz))) (c := cap - l) hp (fun hpos => ?_)⟩
  ·simp only [execOp, Sem.run_bind, hvv, Option.map_none, run_sliceS ht he hs hb, Result.andThen_ok, Sem.run_pure]
  obtain ⟨q, rfl⟩ := hle.2 (by omega);refine ⟨q, rfl, ?_⟩;rw [if_neg (by omega)];simp [addr_add]
theorem g_len_part {n bt e id o l : Nat} {zs : List ZK} (ht : PT.ty P t = some ⟨.slice e, n, bt, zs⟩) (h : s.ev x = .part id o l) (hl : l ≤ maxLen) : GOp P [] s ⟨dst, .call { callee := .builtin .len, args := #[x], argTypes := #[t] }, ty, pos, af, gd⟩ (aI (l : Int)) := by
 refine ⟨fun s' ha C U a w m hR => ?_⟩;have hx := hR.ev x;rw [ha.2.1 x (by simp [Op.operands, Call.operands]), h] at hx;generalize hv : a.eval x = v at hx;cases hx with
 | part hp h0 =>
  rename_i cap c b a;refine ⟨.int .i64 (l : Int), ?_, .d (.val (ok_len hl))⟩;simp [execOp, resolve, invoke, builtin, hv, run_len_slice w t ty a l c (elem_slice (PT.slice ht)), goInt]
inductive CpTo (s : ASt) (x : Operand) (sz id i n : Nat) : Prop
 | own : s.ev x = .own id n → i = 0 → CpTo s x sz id i n
 | part {o : Nat} : s.ev x = .part id o n → o = i * sz → CpTo s x sz id i n
theorem run_copyN {w : World} {dT sT ty elem : TypeId} {b o dLen dCap sz : Nat} {d a : Option Addr} {sLen sCap : Nat} {cs : List Value}
  (hu : P.underlying dT = some (.slice elem)) (hs : (P.info? elem).map (·.size) = some sz) (hn : cs.length = Nat.min sLen dLen * sz)
  (hsrc : ∀ p, a = some p → ∀ j v, cs[j]? = some v → w.cell? (p.add j) = some v) (ha : a = none → cs = []) (hd : cs ≠ [] → d = some ⟨b, o, none⟩) (hc : ∀ j, j < cs.length → (w.cell? ⟨b, o + j, none⟩).isSome = true) (hf : ∀ j, j < cs.length → w.frozen? ⟨b, o + j, none⟩ = false) (h1 : ∀ v ∈ cs, v.oneCell' = true) :
  (Builtin.copy_ #[dT, sT] ty #[.slice d dLen dCap, .slice a sLen sCap]).run P w = .ok (goInt (Nat.min sLen dLen)) (w.setCells b o cs) := by
 have hst := run_storeCells_cells (P := P) b o cs 0 w (by simpa using hc) (by simpa using hf) h1;have hl : ∀ p, a = some p → (loadCells p cs.length).run P w = .ok cs.toArray w := fun p hp => run_loadCells_list (P := P) w p cs (hsrc p hp)
 cases hq : P.info? elem with
 | none => simp [hq] at hs
 | some i =>
  have hi : i.size = sz := by simpa [hq] using hs
  have key : (Builtin.firstCells sz (Nat.min sLen dLen) (.slice a sLen sCap)).run P w = .ok cs.toArray w := by
   cases a with
   | none => rw [ha rfl]; simp [Builtin.firstCells]
   | some p => rw [← hl p rfl, hn]; rfl
  by_cases h0 : cs = []
  ·subst h0;have hst0 : ∀ p : Addr, (storeCells p [] 0).run P w = .ok () w := fun p => rfl
   cases d <;> simp [Builtin.copy_, run_underlying hu, Builtin.lenOf, sizeOf, typeInfo, hq, hi, key, World.setCells, hst0]
  rw [hd h0];simp [Builtin.copy_, run_underlying hu, Builtin.lenOf, sizeOf, typeInfo, hq, hi, key, hst]
theorem h_copy {tx e n bt id sz i k q : Nat} {zs : List ZK} {te : TS} {els new : List (List DV)} {ids2 : List Nat} {e' : Nat} (ht : PT.ty P t = some ⟨.slice e, n, bt, zs⟩) (he : PT.ty P e = some te) (hs : te.size = sz) (hto : CpTo s x sz id i k) (hc : s.chunk id = some (.arr e' sz els)) (harg : AppArg s y sz new ids2) (hik : i + k ≤ els.length) (hk : k ≤ maxLen) (hq : min new.length k = q) :
  NOp P (id :: ids2) s ⟨dst, .call { callee := .builtin .copy, args := #[x, y], argTypes := #[t, tx] }, ty, pos, af, gd⟩ f ⟨aI (q : Int), [(id, some (.arr e' sz (els.take i ++ new.take q ++ els.drop (i + q))))]⟩ := by
 subst hq;refine ⟨fun s' hag C U U' a w m hR hU hU' hd K Q hK => ?_⟩;have hc' : s'.chunk id = some (.arr e' sz els) := by rw [hag.2.2 id (by simp)]; exact hc
 have hxr := hR.ev x;rw [hag.2.1 x (by simp [Op.operands, Call.operands])] at hxr;obtain ⟨vs, hv⟩ := harg.rows (hag.2.1 y (by simp [Op.operands, Call.operands])) (fun j hj => hag.2.2 j (List.mem_cons_of_mem _ hj)) hR;obtain ⟨⟨sa, sc, hsv, hsrc, hnone⟩, hvl, hone, hrep, hrows⟩ := hv;obtain ⟨p, hp, hC, hloc⟩ := hR.ch id _ hc'
 have hdst : ∃ d c, a.eval x = .slice d k c ∧ (0 < k → ∃ b, p.1 = some b ∧ d = some ⟨b, i * sz, none⟩) := by
  cases hto with
  | own h1 h2 =>
   subst h2;rw [h1] at hxr;generalize a.eval x = v at hxr;cases hxr with
   | own hp' h0 =>
    rename_i cap b;rw [hp] at hp';simp only [Option.some.injEq] at hp';subst hp';refine ⟨_, _, rfl, fun hk => ?_⟩;cases b with
    | none => have := h0 rfl; omega
    | some b => exact ⟨b, rfl, by simp⟩
  | part h1 h2 =>
   subst h2;rw [h1] at hxr;generalize a.eval x = v at hxr;cases hxr with
   | part hp' h0 =>
    rw [hp] at hp';simp only [Option.some.injEq] at hp';subst hp';exact ⟨_, _, rfl, h0⟩
 obtain ⟨d, c, hdv, hdp⟩ := hdst;obtain ⟨i0, _, _, hi0, _, _, hsz0, _⟩ := PT.facts he;have hinfo : (P.info? e).map (·.size) = some sz := by rw [hi0]; simp [hsz0, hs]
 let cs := vs.take (min new.length k * sz)
 have hcl : cs.length = min new.length k * sz := by
  show (vs.take _).length = _;rw [List.length_take, hvl];exact Nat.min_eq_left (Nat.mul_le_mul_right _ (Nat.min_le_left ..))
 have hcs : ∀ (j : Nat) (v : Value), cs[j]? = some v → vs[j]? = some v := by
  intro j v hj
  change (vs.take _)[j]? = _ at hj
  rw [List.getElem?_take] at hj
  split at hj
  ·exact hj
  cases hj
 have h1 : ∀ v ∈ cs, v.oneCell' = true := fun v hv => hone v (List.mem_of_mem_take hv)
 cases hC with
 | nil hz0 =>
  have hk0 : k = 0 := by simp at hik; omega
  subst hk0;have hcs0 : cs = [] := List.eq_nil_of_length_eq_zero (by rw [hcl]; simp);have hi0' : i = 0 := by simpa using hik
  subst hi0';have hrun := run_copyN (P := P) (w := w) (dT := t) (sT := tx) (ty := ty) (b := 0) (o := 0) (dLen := 0) (dCap := c) (d := d) (a := sa) (sLen := new.length) (sCap := sc) (cs := []) (PT.slice ht) hinfo (by simp) (fun p hp j v hj => by simp at hj) (fun _ => rfl) (fun h => absurd rfl h) (fun j hj => by simp at hj) (fun j hj => by simp at hj) (fun v hv => by cases hv);simp only [Nat.min_zero] at hK;have hR' := hR.setSlot (i := dst) hd (x := aI ((0 : Nat) : Int)) (v := .int .i64 0) (.d (.val (ok_len (n := 0) (by simp [maxLen]))));unfold Oper.wp;simp only [execOp, resolve, invoke, builtin, Sem.run_bind, Sem.run_pure, Result.andThen_ok, Oper.upon];simp [hdv, hsv, hrun, Result.andThen, goInt, World.setCells];refine hK _ _ m (hR'.weaken (by simp only [ASt.n_app]) (fun j => .inr ?_) (fun j c hj => ?_) (fun j hj => (hU' j hj).1))
  ·rw [ASt.get_app, ASt.get_app]
  rw [ASt.chunk_app] at hj ⊢;simp only [getL_cons] at hj;simp only [getL] at hj ⊢
  split at hj
  ·rename_i c0 hc0
   split at hc0
   ·rename_i e1;subst e1;simp only [Option.some.injEq] at hc0;subst hc0;simpa using hc'.trans (by simpa using hj)
   cases hc0
  exact hj
 | arr hb hf hsz hl hm h0 hrow hel =>
  rename_i b cap arr fz;have hin : (i + min new.length k) * sz ≤ arr.size := by rw [hsz]; exact Nat.mul_le_mul_right _ (by have := Nat.min_le_right new.length k; omega)
  rw [Nat.add_mul] at hin
  have hrun := run_copyN (P := P) (w := w) (dT := t) (sT := tx) (ty := ty) (b := b) (o := i * sz) (dLen := k) (dCap := c) (d := d) (a := sa) (sLen := new.length) (sCap := sc) (cs := cs) (PT.slice ht) hinfo hcl (fun p hp j v hj => hsrc p hp j v (hcs j v hj)) (fun h => by
    have := hnone h;show vs.take _ = []
    rw [this]; simp) (fun h => by
    have hk0 : 0 < k := by
     rcases Nat.eq_zero_or_pos k with h2 | h2
     ·exfalso; exact h (List.eq_nil_of_length_eq_zero (by rw [hcl, h2]; simp))
     exact h2
    obtain ⟨b', hb', hd'⟩ := hdp hk0;simp only [Option.some.injEq] at hb'
    rw [hd', hb']) (fun j hj => by rw [cell_getD hb (by omega)]; rfl) (fun j hj => by
    have := hf (i * sz + j) (by omega);simp only [World.frozen?, hb]
    simpa using this) h1
  have hg : ∀ q, (setSeg arr (i * sz) cs).getD q undef = if i * sz ≤ q ∧ q < i * sz + min new.length k * sz then cs.getD (q - i * sz) undef else arr.getD q undef := by
   intro q;rw [setSeg_get _ _ _ (by omega) q, hcl]
  have hcg : ∀ q, q < min new.length k * sz → cs.getD q undef = vs.getD q undef := by
   intro q hq;have h2 : q < cs.length := by omega
   have h3 := hcs q cs[q] (List.getElem?_eq_getElem h2);rw [List.getD_eq_getElem?_getD, List.getD_eq_getElem?_getD, h3, List.getElem?_eq_getElem h2]
  have hlen : (els.take i ++ new.take (min new.length k) ++ els.drop (i + min new.length k)).length = els.length := by
   have := Nat.min_le_right new.length k;have := Nat.min_le_left new.length k;simp; omega
  have hat : ∀ (q : Nat) (row : List DV), (els.take i ++ new.take (min new.length k) ++ els.drop (i + min new.length k))[q]? = some row → (i ≤ q ∧ q < i + min new.length k ∧ new[q - i]? = some row) ∨ ((q < i ∨ i + min new.length k ≤ q) ∧ els[q]? = some row) := by
   intro q row hq;have hmk := Nat.min_le_right new.length k;have hmn := Nat.min_le_left new.length k;rcases Nat.lt_or_ge q i with h2 | h2
   ·right;rw [List.append_assoc, List.getElem?_append_left (by simp; omega), List.getElem?_take, if_pos h2] at hq;exact ⟨.inl h2, hq⟩
   rcases Nat.lt_or_ge q (i + min new.length k) with h3 | h3
   ·left;rw [List.getElem?_append_left (by simp; omega), List.getElem?_append_right (by simp; omega), List.getElem?_take, if_pos (by simp; omega)] at hq;refine ⟨h2, h3, ?_⟩;rw [← hq]; congr 1; simp; omega
   right;rw [List.getElem?_append_right (by simp; omega), List.getElem?_drop] at hq;refine ⟨.inr h3, ?_⟩;rw [← hq]; congr 1; simp; omega
  have hR' := hR.turned (i := dst) (r := aI ((min new.length k : Nat) : Int)) (v := .int .i64 ((min new.length k : Nat) : Int)) (w' := w.setCells b (i * sz) cs) (c' := .arr e' sz (els.take i ++ new.take (min new.length k) ++ els.drop (i + min new.length k))) hd hc' hp (fr_setCells _ w _) (fun F' hF => ⟨.d (.val (ok_len (Nat.le_trans (Nat.min_le_right ..) hk))), .arr (heap_setCells_at _ w _ _ hb) (by rw [setSeg_size]; exact hf) (by rw [setSeg_size]; exact hsz) (by rw [hlen]; exact hl) hm h0 (fun q row hq => ?_) (fun q row j dd hq hj => ?_)⟩)
  ·unfold Oper.wp;simp only [execOp, resolve, invoke, builtin, Sem.run_bind, Sem.run_pure, Result.andThen_ok, Oper.upon];simp [hdv, hsv, hrun, Result.andThen, goInt];exact hK _ _ m (hR'.weaken rfl (fun _ => .inr rfl) (fun _ _ h => h) (fun j hj => (hU' j hj).1))
  ·rcases hat q row hq with ⟨_, _, h2⟩ | ⟨_, h2⟩
   ·exact hrows _ _ h2
   exact hrow _ _ h2
  rw [hg];rcases hat q row hq with ⟨h2, h3, h4⟩ | ⟨h2, h4⟩
  ·have hj2 : j < sz := by
    have := hrows _ _ h4;have := (List.getElem?_eq_some_iff.1 hj).1;omega
   have e1 : q * sz = i * sz + (q - i) * sz := by rw [← Nat.add_mul]; congr 1; omega
   have e2 : (q - i + 1) * sz ≤ min new.length k * sz := Nat.mul_le_mul_right _ (by omega);rw [Nat.succ_mul] at e2;rw [if_pos (by omega), show q * sz + j - i * sz = (q - i) * sz + j from by omega, hcg _ (by omega)];exact (hrep _ _ j dd h4 hj).turn (fun k hk _ => hF k hk)
  have hj2 : j < sz := by
   have := hrow _ _ h4;have := (List.getElem?_eq_some_iff.1 hj).1;omega
  rw [if_neg]
  ·exact (hel q row j dd h4 hj).turn (fun k hk _ => hF k hk)
  rintro ⟨q1, q2⟩;rcases h2 with h2 | h2
  ·have : (q + 1) * sz ≤ i * sz := Nat.mul_le_mul_right _ h2;rw [Nat.succ_mul] at this;omega
  have : (i + min new.length k) * sz ≤ q * sz := Nat.mul_le_mul_right _ h2;rw [Nat.add_mul] at this;omega
end
section
variable {P : Program} [PT P] {s : ASt} {dst : Option Nat} {ty : Nat} {pos : String} {af : Array Edge} {gd : Option (Nat × Bool)} {x y : Operand} {f t : Nat}
theorem h_clear {e n bt id sz i q : Nat} {zs : List ZK} {te : TS} {els : List (List DV)} {e' : Nat} (ht : PT.ty P t = some ⟨.slice e, n, bt, zs⟩) (he : PT.ty P e = some te) (hs : te.size = sz) (hz0 : te.zero.length = te.size) (hx : s.ev x = .part id (i * sz) q) (hc : s.chunk id = some (.arr e' sz els)) (hq : 0 < q) (hik : i + q ≤ els.length) :
  NOp P [id] s ⟨dst, .call { callee := .builtin .clear, args := #[x], argTypes := #[t] }, ty, pos, af, gd⟩ f ⟨.dead, [(id, some (.arr e' sz (els.take i)))]⟩ := by
 refine ⟨fun s' hag C U U' a w m hR hU hU' hd K Q hK => ?_⟩;have hc' : s'.chunk id = some (.arr e' sz els) := by rw [hag.2.2 id (by simp)]; exact hc
 have hxr := hR.ev x;rw [hag.2.1 x (by simp [Op.operands, Call.operands]), hx] at hxr;obtain ⟨p, hp, hC, hloc⟩ := hR.ch id _ hc';obtain ⟨i0, _, z, hi0, _, _, hsz0, _, hiz, hzc⟩ := PT.facts he;have hinfo : i0.size = sz := by rw [hsz0]; exact hs
 have hzs : z.cells.size = sz := by rw [hzc]; simp [hz0, hs]
 generalize hvx : a.eval x = xv at hxr;cases hC with
 | nil _ => simp at hik; omega
 | arr hb hf hsz hl hm h0 hrow hel =>
  rename_i b cap arr fz;cases hxr with
  | part hp' hn0 =>
   rename_i cap' c' bo ad;rw [hp] at hp';simp only [Option.some.injEq] at hp';obtain ⟨bb, hbb, rfl⟩ := hn0 hq
   have hbb2 : b = bb := by
    have h9 : (some b : Option Nat) = bo := congrArg Prod.fst hp';rw [hbb] at h9; simpa using h9
   subst hbb2;have hin : (i + q) * sz ≤ arr.size := by rw [hsz]; exact Nat.mul_le_mul_right _ (by omega)
   rw [Nat.add_mul] at hin;obtain ⟨cs, hcs⟩ := eqx ((Builtin.zeroCells z.cells q).toList);have hcl : cs.length = q * sz := by rw [hcs]; simp [Builtin.zeroCells, hzs]
   have hone : ∀ v ∈ cs, v.oneCell' = true := by
    intro v hv;rw [hcs] at hv;simp only [Builtin.zeroCells, Array.toList_map, List.mem_map, Array.toList_range, List.mem_range] at hv;obtain ⟨j, hj, rfl⟩ := hv;have hlt : j % z.cells.size < z.cells.size := Nat.mod_lt _ (by rw [hzs]; omega)
    have hv2 : z.cells[j % z.cells.size]! ∈ z.cells := by
     rw [getElem!_pos z.cells _ hlt]; exact Array.getElem_mem hlt
    have key : ∀ v, v ∈ z.cells → v.oneCell' = true := by
     intro v hv;rw [hzc] at hv;simp only [List.mem_toArray, List.mem_map] at hv;obtain ⟨zz, _, rfl⟩ := hv;cases zz <;> rfl
    exact key _ hv2
   have hst := run_storeCells_cells (P := P) b (i * sz) cs 0 w (fun j hj => by rw [Nat.add_zero, cell_getD hb (by omega)]; rfl) (fun j hj => by
    have := hf (i * sz + j) (by omega);simp only [World.frozen?, hb]
    simpa using this) hone
   simp only [Nat.add_zero] at hst
   have hrun : (Builtin.clear_ #[t] ty #[.slice (some ⟨b, i * sz, none⟩) q c']).run P w = .ok (.tuple #[]) (w.setCells b (i * sz) cs) := by
    obtain ⟨q', rfl⟩ : ∃ q', q = q' + 1 := ⟨q - 1, by omega⟩;have hzv : (zeroValue e).run P w = .ok z w := by simp [zeroValue, typeInfo, hi0, hiz]
    rw [hcs] at hst;simp [Builtin.clear_, run_underlying (PT.slice ht), hzv, hst, Result.andThen, hcs]
   have hg : ∀ r, r < i * sz → (setSeg arr (i * sz) cs).getD r undef = arr.getD r undef := by
    intro r hr;rw [setSeg_get _ _ _ (by omega) r, if_neg (by omega)]
   have hR' := hR.turned (i := dst) (r := .dead) (v := .tuple #[]) (w' := w.setCells b (i * sz) cs) (c' := .arr e' sz (els.take i)) hd hc' hp (fr_setCells _ w _) (fun F' hF => ⟨.dead, .arr (heap_setCells_at _ w _ _ hb) (by rw [setSeg_size]; exact hf) (by rw [setSeg_size]; exact hsz) (by rw [List.length_take]; omega) hm h0 (fun r row hr => ?_) (fun r row j dd hr hj => ?_)⟩)
   ·unfold Oper.wp;simp only [execOp, resolve, invoke, builtin, Sem.run_bind, Sem.run_pure, Result.andThen_ok, Oper.upon];simp [hvx, hrun, Result.andThen];exact hK _ _ m (hR'.weaken rfl (fun _ => .inr rfl) (fun _ _ h => h) (fun j hj => (hU' j hj).1))
   ·rw [List.getElem?_take] at hr
    split at hr
    ·exact hrow _ _ hr
    cases hr
   rw [List.getElem?_take] at hr
   split at hr
   ·rename_i h2
    have hj2 : j < sz := by
     have := hrow _ _ hr;have := (List.getElem?_eq_some_iff.1 hj).1;omega
    have e2 : (r + 1) * sz ≤ i * sz := Nat.mul_le_mul_right _ h2;rw [Nat.succ_mul] at e2;rw [hg _ (by omega)];exact (hel r row j dd hr hj).turn (fun k hk _ => hF k hk)
   cases hr
end
abbrev zMv : Mv := ⟨0, 0, 0⟩
def byF (L : List Mv) (i : Nat) : Mv := (L.find? fun v => decide (v.to_ = (i : Int))).getD zMv
def byL (x : Ex) : List Mv := zMv :: (List.range (x.marks.length - 1)).map fun i => byF x.moves (i + 1)
theorem byL_len {x : Ex} (h : 0 < x.marks.length) : (byL x).length = x.marks.length := by unfold byL; simp; omega
structure ByI (N : Net) (x : Ex) (k : Nat) : Prop where
 pos : 0 < x.marks.length
 inn : ∀ v, v ∈ x.moves → 0 ≤ v.from_ ∧ v.from_ < x.marks.length ∧ 0 ≤ v.to_ ∧ v.to_ < x.marks.length ∧ v.from_ ≤ k ∧ 0 ≤ v.by_ ∧ v.by_ < N.ts.length
 met : ∀ (i : Nat), 1 ≤ i → i < x.marks.length → ∃ v, x.moves.find? (fun v => decide (v.to_ = (i : Int))) = some v ∧ v.from_ < i
theorem ByI.start (N : Net) (m : List UInt8) : ByI N ⟨[m], []⟩ 0 := ⟨Nat.zero_lt_one, fun v h => by simp at h, fun i h1 h2 => by simp at h2; omega⟩
theorem ByI.known {N : Net} {x : Ex} {k : Nat} (h : ByI N x k) {t : Int} {i : Nat} (hk : k < x.marks.length) (hi : i < x.marks.length) (ht : 0 ≤ t ∧ t < N.ts.length) : ByI N ⟨x.marks, x.moves ++ [⟨k, t, i⟩]⟩ k := by
 refine ⟨h.pos, fun v hv => ?_, fun j h1 h2 => ?_⟩
 ·rcases List.mem_append.1 hv with g | g
  ·exact h.inn v g
  rw [List.mem_singleton.1 g]; dsimp only; omega
 obtain ⟨v, hv, hf⟩ := h.met j h1 h2;exact ⟨v, by dsimp only; rw [List.find?_append, hv]; rfl, hf⟩
theorem ByI.known_by {N : Net} {x : Ex} {k : Nat} (h : ByI N x k) {t : Int} {i : Nat} : byL ⟨x.marks, x.moves ++ [⟨k, t, i⟩]⟩ = byL x := by
 unfold byL;congr 1;refine List.map_congr_left fun j hj => ?_
 obtain ⟨v, hv, _⟩ := h.met (j + 1) (by omega) (by have := List.mem_range.1 hj; dsimp only at this; omega);unfold byF;rw [List.find?_append, hv]
 rfl
theorem ByI.none {N : Net} {x : Ex} {k : Nat} (h : ByI N x k) : x.moves.find? (fun v => decide (v.to_ = (x.marks.length : Int))) = none := by
 rw [List.find?_eq_none];intro v hv;have := h.inn v hv;simp only [decide_eq_true_eq];omega
theorem ByI.new {N : Net} {x : Ex} {k : Nat} (h : ByI N x k) {t : Int} {m : List UInt8} (hk : k < x.marks.length) (ht : 0 ≤ t ∧ t < N.ts.length) : ByI N ⟨x.marks ++ [m], x.moves ++ [⟨k, t, x.marks.length⟩]⟩ k := by
 refine ⟨by dsimp only; rw [List.length_append]; simp, fun v hv => ?_, fun j h1 h2 => ?_⟩
 ·dsimp only;rw [List.length_append, List.length_singleton];rcases List.mem_append.1 hv with g | g
  ·have := h.inn v g; omega
  rw [List.mem_singleton.1 g]; dsimp only; omega
 dsimp only at h2 ⊢;rw [List.length_append, List.length_singleton] at h2;rcases Nat.lt_or_ge j x.marks.length with g | g
 ·obtain ⟨v, hv, hf⟩ := h.met j h1 g;exact ⟨v, by rw [List.find?_append, hv]; rfl, hf⟩
 obtain rfl : j = x.marks.length := by omega
 refine ⟨⟨k, t, x.marks.length⟩, by rw [List.find?_append, h.none]; simp, ?_⟩;dsimp only; omega
theorem ByI.new_by {N : Net} {x : Ex} {k : Nat} (h : ByI N x k) {t : Int} {m : List UInt8} : byL ⟨x.marks ++ [m], x.moves ++ [⟨k, t, x.marks.length⟩]⟩ = byL x ++ [⟨k, t, x.marks.length⟩] := by
 obtain ⟨n, hn⟩ : ∃ n, x.marks.length = n + 1 := ⟨x.marks.length - 1, by have := h.pos; omega⟩;unfold byL;dsimp only;rw [List.length_append, List.length_singleton, hn, Nat.add_sub_cancel, Nat.add_sub_cancel, List.range_succ, List.map_append, List.cons_append];congr 2
 ·refine List.map_congr_left fun j hj => ?_
  obtain ⟨v, hv, _⟩ := h.met (j + 1) (by omega) (by have := List.mem_range.1 hj; omega);unfold byF;rw [List.find?_append, hv]
  rfl
 rw [List.map_singleton];unfold byF;rw [← hn, List.find?_append, h.none];simp
theorem ByI.up {N : Net} {x : Ex} {k : Nat} (h : ByI N x k) : ByI N x (k + 1) := ⟨h.pos, fun v hv => by have := h.inn v hv; omega, h.met⟩
theorem exIn_By {N : Net} {k : Nat} {m : List UInt8} : ∀ (L : List Int) {x : Ex}, (∀ t, t ∈ L → 0 ≤ t ∧ t < N.ts.length) → k < x.marks.length → ByI N x k → ByI N (exIn N k m L x).1 k ∧ k < (exIn N k m L x).1.marks.length
 | [], x, _, hk, h => ⟨h, hk⟩
 | t :: ts, x, hL, hk, h => by
  have ht := hL t (List.mem_cons_self ..);have hT : ∀ u, u ∈ ts → 0 ≤ u ∧ u < N.ts.length := fun u hu => hL u (List.mem_cons_of_mem _ hu)
  rw [exIn]
  split
  ·split
   ·rename_i i he;exact exIn_By ts hT hk (h.known hk (posL_lt he) ht)
   split
   ·exact ⟨h, hk⟩
   exact exIn_By ts hT (by dsimp only; rw [List.length_append]; omega) (h.new hk ht)
  exact ⟨h, hk⟩
theorem readyL_in (N : Net) (m : List UInt8) (n : Nat) (t : Int) (ht : t ∈ readyL N m n) : 0 ≤ t ∧ t < N.ts.length := by
 unfold readyL at ht;obtain ⟨k, hk, rfl⟩ := List.mem_map.1 ht;have h := (List.mem_filter.1 hk).2;cases e : N.ts[k]? with
 | none => rw [e] at h; cases h
 | some u =>
  have := (List.getElem?_eq_some_iff.1 e).1;omega
theorem exOut_By {N : Net} : ∀ (n k : Nat) {x : Ex}, ByI N x k → ∃ k', ByI N (exOut N n k x).1 k'
 | 0, k, x, h => ⟨k, h⟩
 | n + 1, k, x, h => by
  rw [exOut]
  split
  ·rename_i hk;have h1 := exIn_By (m := mkAt x k) (readyL N (mkAt x k) N.ts.length) (readyL_in _ _ _) hk h
   split
   ·rename_i y e;rw [e] at h1;exact exOut_By n (k + 1) h1.1.up
   exact ⟨k, h1.1⟩
  exact ⟨k, h⟩
theorem explR_By (N : Net) (m : List UInt8) : ∃ k', ByI N (explR N m).1 k' := exOut_By 301 0 (ByI.start N m)
theorem nodup_snoc {α : Type} {l : List α} {a : α} : (l ++ [a]).Nodup ↔ l.Nodup ∧ a ∉ l := by
 rw [List.nodup_append];simp only [List.nodup_cons, List.not_mem_nil, not_false_eq_true, List.nodup_nil, and_self, true_and, List.mem_singleton];constructor
 ·rintro ⟨h1, h2⟩;exact ⟨h1, fun h => h2 a h a rfl rfl⟩
 rintro ⟨h1, h2⟩;exact ⟨h1, fun x hx y hy e => h2 (by rw [← hy, ← e]; exact hx)⟩
theorem posL_none {m : List UInt8} : ∀ {l : List (List UInt8)}, posL m l = none ↔ m ∉ l
 | [] => by simp [posL]
 | a :: l => by
  rw [posL]
  split
  ·rename_i e; simp [e]
  rename_i e;have := posL_none (m := m) (l := l);cases hp : posL m l with
  | none => simp only [Option.map_none, true_iff]; rw [List.mem_cons]; exact fun h => h.elim e (this.1 hp)
  | some i => simp only [Option.map_some, reduceCtorEq, false_iff]; intro h; exact absurd (this.2 fun q => h (List.mem_cons_of_mem _ q)) (by rw [hp]; simp)
theorem posL_get {m : List UInt8} : ∀ {l : List (List UInt8)} {i : Nat}, posL m l = some i → l[i]? = some m
 | [], i, h => by cases h
 | a :: l, i, h => by
  rw [posL] at h
  split at h
  ·rename_i e; cases h; rw [e]; rfl
  cases hp : posL m l with
  | none => rw [hp] at h; cases h
  | some j => rw [hp] at h; cases h; have := posL_get hp; simpa using this
def Fires (N : Net) (x : Ex) (v : Mv) : Prop := ∃ f t : Nat, v.from_ = f ∧ v.to_ = t ∧ f < x.marks.length ∧ t < x.marks.length ∧ fireI N (mkAt x f) v.by_ = (mkAt x t, true)
def fromL (x : Ex) (j : Nat) : List Mv := x.moves.filter fun v => decide (v.from_ = (j : Int))
structure ClI (N : Net) (x : Ex) (k : Nat) (done : List Int) : Prop where
 nd : x.marks.Nodup
 le : ∀ v, v ∈ x.moves → 0 ≤ v.from_ ∧ v.from_ ≤ k
 ok : ∀ v, v ∈ x.moves → Fires N x v
 old : ∀ j, j < k → (fromL x j).map Mv.by_ = readyL N (mkAt x j) N.ts.length
 cur : (fromL x k).map Mv.by_ = done
theorem mkAt_push {x : Ex} {m : List UInt8} {M : List Mv} {j : Nat} (h : j < x.marks.length) : mkAt ⟨x.marks ++ [m], M⟩ j = mkAt x j := by
 unfold mkAt;rw [List.getD_eq_getElem?_getD, List.getD_eq_getElem?_getD, List.getElem?_append_left h]
theorem mkAt_last {x : Ex} {m : List UInt8} {M : List Mv} : mkAt ⟨x.marks ++ [m], M⟩ x.marks.length = m := by
 unfold mkAt;rw [List.getD_eq_getElem?_getD, List.getElem?_append_right (Nat.le_refl _), Nat.sub_self]; rfl
theorem fromL_push {x : Ex} {M : List (List UInt8)} {v : Mv} {j : Nat} : fromL ⟨M, x.moves ++ [v]⟩ j = fromL x j ++ (if v.from_ = (j : Int) then [v] else []) := by
 unfold fromL;rw [List.filter_append];congr 1
 by_cases h : v.from_ = (j : Int) <;> simp [h]
theorem ClI.known {N : Net} {x : Ex} {k : Nat} {done : List Int} (h : ClI N x k done) (hk : k < x.marks.length) {t : Int} {i : Nat} (hf : (fireI N (mkAt x k) t).2 = true) (hp : posL (fireI N (mkAt x k) t).1 x.marks = some i) : ClI N ⟨x.marks, x.moves ++ [⟨k, t, i⟩]⟩ k (done ++ [t]) := by
 have hi := posL_lt hp;have hg := posL_get hp;refine ⟨h.nd, fun v hv => ?_, fun v hv => ?_, fun j hj => ?_, ?_⟩
 ·rcases List.mem_append.1 hv with g | g
  ·exact h.le v g
  rw [List.mem_singleton.1 g]; dsimp only; omega
 ·rcases List.mem_append.1 hv with g | g
  ·exact h.ok v g
  rw [List.mem_singleton.1 g];refine ⟨k, i, rfl, rfl, hk, hi, ?_⟩;show fireI N (mkAt x k) t = (mkAt x i, true)
  have e : mkAt x i = (fireI N (mkAt x k) t).1 := by
   rw [mkAt_nat hi];rw [List.getElem?_eq_getElem hi] at hg;exact Option.some.inj hg
  rw [e, ← hf]
 ·rw [fromL_push, if_neg (by show ¬ (k : Int) = j; omega), List.append_nil];exact h.old j hj
 rw [fromL_push, if_pos rfl, List.map_append, h.cur]; rfl
theorem ClI.new {N : Net} {x : Ex} {k : Nat} {done : List Int} (h : ClI N x k done) (hk : k < x.marks.length) {t : Int} (hf : (fireI N (mkAt x k) t).2 = true) (hp : posL (fireI N (mkAt x k) t).1 x.marks = none) : ClI N ⟨x.marks ++ [(fireI N (mkAt x k) t).1], x.moves ++ [⟨k, t, x.marks.length⟩]⟩ k (done ++ [t]) := by
 refine ⟨nodup_snoc.2 ⟨h.nd, posL_none.1 hp⟩, fun v hv => ?_, fun v hv => ?_, fun j hj => ?_, ?_⟩
 ·rcases List.mem_append.1 hv with g | g
  ·exact h.le v g
  rw [List.mem_singleton.1 g]; dsimp only; omega
 ·rcases List.mem_append.1 hv with g | g
  ·obtain ⟨f, u, h1, h2, h3, h4, h5⟩ := h.ok v g;refine ⟨f, u, h1, h2, by dsimp only; rw [List.length_append]; omega, by dsimp only; rw [List.length_append]; omega, ?_⟩;rw [mkAt_push h3, mkAt_push h4]; exact h5
  rw [List.mem_singleton.1 g];refine ⟨k, x.marks.length, rfl, rfl, by dsimp only; rw [List.length_append]; omega, by dsimp only; rw [List.length_append]; simp, ?_⟩;rw [mkAt_push hk, mkAt_last];show fireI N (mkAt x k) t = _;rw [← hf]
 ·rw [fromL_push, if_neg (by show ¬ (k : Int) = j; omega), List.append_nil, mkAt_push (by omega)];exact h.old j hj
 rw [fromL_push, if_pos rfl, List.map_append];show (fromL x k).map Mv.by_ ++ _ = _;rw [h.cur]; rfl
theorem exIn_Cl {N : Net} {k : Nat} {m : List UInt8} : ∀ (L : List Int) {x y : Ex} {done : List Int}, k < x.marks.length → mkAt x k = m → ClI N x k done → exIn N k m L x = (y, none) → ClI N y k (done ++ L) ∧ mkAt y k = m ∧ k < y.marks.length
 | [], x, y, done, hk, hm, h, e => by
  rw [exIn] at e;obtain rfl := (Prod.mk.inj e).1;rw [List.append_nil]; exact ⟨h, hm, hk⟩
 | t :: ts, x, y, done, hk, hm, h, e => by
  rw [exIn] at e
  split at e
  ·rename_i hf;subst hm
   split at e
   ·rename_i i he;have := exIn_Cl ts (x := ⟨x.marks, x.moves ++ [⟨k, t, i⟩]⟩) hk rfl (h.known hk hf he) e
    rwa [List.append_assoc] at this
   rename_i he
   split at e
   ·exact absurd (Prod.mk.inj e).2 (by simp)
   have := exIn_Cl ts (x := ⟨x.marks ++ [(fireI N (mkAt x k) t).1], x.moves ++ [⟨k, t, x.marks.length⟩]⟩) (by dsimp only; rw [List.length_append]; omega) (mkAt_push hk) (h.new hk hf he) e
   rwa [List.append_assoc] at this
  exact absurd (Prod.mk.inj e).2 (by simp)
theorem ClI.next {N : Net} {x : Ex} {k : Nat} (h : ClI N x k (readyL N (mkAt x k) N.ts.length)) : ClI N x (k + 1) [] := by
 refine ⟨h.nd, fun v hv => by have := h.le v hv; omega, h.ok, fun j hj => ?_, ?_⟩
 ·rcases Nat.lt_or_ge j k with g | g
  ·exact h.old j g
  obtain rfl : j = k := by omega
  exact h.cur
 have : fromL x (k + 1) = [] := by
  unfold fromL;rw [List.filter_eq_nil_iff];intro v hv;have := h.le v hv;simp only [decide_eq_true_eq]; omega
 rw [this]; rfl
theorem exIn_n300 {N : Net} {k : Nat} {m : List UInt8} : ∀ (L : List Int) {x : Ex}, x.marks.length ≤ 300 → (exIn N k m L x).1.marks.length ≤ 300
 | [], x, h => h
 | t :: ts, x, h => by
  rw [exIn]
  split
  ·split
   ·exact exIn_n300 ts h
   split
   ·exact h
   exact exIn_n300 ts (by dsimp only; rw [List.length_append, List.length_singleton]; omega)
  exact h
theorem exIn_st {N : Net} {k : Nat} {m : List UInt8} : ∀ (L : List Int) {x : Ex}, 0 < x.marks.length → mkAt (exIn N k m L x).1 0 = mkAt x 0 ∧ 0 < (exIn N k m L x).1.marks.length
 | [], x, h => ⟨rfl, h⟩
 | t :: ts, x, h => by
  rw [exIn]
  split
  ·split
   ·exact exIn_st ts h
   split
   ·exact ⟨rfl, h⟩
   have := exIn_st (N := N) (k := k) (m := m) ts (x := ⟨x.marks ++ [(fireI N m t).1], x.moves ++ [⟨k, t, x.marks.length⟩]⟩) (by dsimp only; rw [List.length_append]; omega);rw [mkAt_push h] at this;exact this
  exact ⟨rfl, h⟩
theorem exOut_st (N : Net) : ∀ (n k : Nat) {x : Ex}, 0 < x.marks.length → mkAt (exOut N n k x).1 0 = mkAt x 0
 | 0, k, x, h => rfl
 | n + 1, k, x, h => by
  rw [exOut]
  split
  ·have h1 := exIn_st (N := N) (k := k) (m := mkAt x k) (readyL N (mkAt x k) N.ts.length) h
   split
   ·rename_i y e;rw [e] at h1;rw [exOut_st N n (k + 1) h1.2]; exact h1.1
   exact h1.1
  rfl
theorem exOut_Cl {N : Net} : ∀ (n k : Nat) {x y : Ex}, k ≤ x.marks.length → x.marks.length ≤ 300 → 301 ≤ n + k → ClI N x k [] → exOut N n k x = (y, none) → ∃ k', ClI N y k' [] ∧ y.marks.length ≤ k'
 | 0, k, x, y, hk, hx, hn, h, e => by omega
 | n + 1, k, x, y, hk, hx, hn, h, e => by
  rw [exOut] at e
  split at e
  ·rename_i hlt
   split at e
   ·rename_i z hz;have h1 := exIn_Cl (readyL N (mkAt x k) N.ts.length) hlt rfl h hz;rw [List.nil_append] at h1;have h2 : ClI N z k (readyL N (mkAt z k) N.ts.length) := by rw [h1.2.1]; exact h1.1
    have h3 := exIn_n300 (N := N) (k := k) (m := mkAt x k) (readyL N (mkAt x k) N.ts.length) hx;rw [hz] at h3;exact exOut_Cl n (k + 1) h1.2.2 h3 (by omega) h2.next e
   rename_i hr;exact absurd e (hr y)
  obtain rfl := (Prod.mk.inj e).1;exact ⟨k, h, by omega⟩
structure Expl (s : Stg) (x : Ex) : Prop where
 n : 1 ≤ x.marks.length ∧ x.marks.length ≤ 300
 st : mkAt x 0 = s.start
 nd : x.marks.Nodup
 b : ∀ m, m ∈ x.marks → bitsB m s.net.places = true
 inn : ∀ v, v ∈ x.moves → 0 ≤ v.from_ ∧ v.from_ < x.marks.length ∧ 0 ≤ v.to_ ∧ v.to_ < x.marks.length ∧ 0 ≤ v.by_ ∧ v.by_ < s.net.ts.length
 ok : ∀ v, v ∈ x.moves → Fires s.net x v
 out : ∀ j, j < x.marks.length → (fromL x j).map Mv.by_ = readyL s.net (mkAt x j) s.net.ts.length
 met : ∀ (i : Nat), 1 ≤ i → i < x.marks.length → ∃ v, x.moves.find? (fun v => decide (v.to_ = (i : Int))) = some v ∧ v.from_ < i
 l : x.moves.length ≤ 300 * s.net.ts.length
theorem sum_le {f : Nat → Nat} {c : Nat} : ∀ n, (∀ j, j < n → f j ≤ c) → ((List.range n).map f).sum ≤ n * c
 | 0, _ => by simp
 | n + 1, h => by
  rw [List.range_succ, List.map_append, List.sum_append];have := sum_le n fun j hj => h j (by omega)
  have := h n (by omega);simp only [List.map_cons, List.map_nil, List.sum_cons, List.sum_nil, Nat.add_mul];omega
theorem froms_len {n : Nat} : ∀ (L : List Mv), (∀ v, v ∈ L → 0 ≤ v.from_ ∧ v.from_ < n) → L.length = ((List.range n).map fun j => (L.filter fun v => decide (v.from_ = ((j : Nat) : Int))).length).sum := by
 intro L
 induction L with
 | nil => intro _; have := sum_le (f := fun _ => 0) (c := 0) n (fun _ _ => Nat.le_refl _); show 0 = ((List.range n).map fun _ => 0).sum; omega
 | cons a L ih =>
  intro h;have ha := h a (List.mem_cons_self ..);have ih := ih fun v hv => h v (List.mem_cons_of_mem _ hv)
  have key : ∀ (m : Nat), ((List.range m).map fun j => ((a :: L).filter fun v => decide (v.from_ = ((j : Nat) : Int))).length).sum = ((List.range m).map fun j => (L.filter fun v => decide (v.from_ = ((j : Nat) : Int))).length).sum + (if a.from_ < m then 1 else 0) := by
   intro m
   induction m with
   | zero => simp; omega
   | succ m ihm =>
    rw [List.range_succ, List.map_append, List.map_append, List.sum_append, List.sum_append, ihm, List.map_singleton, List.map_singleton, List.filter_cons];simp only [List.sum_cons, List.sum_nil]
    split <;> split <;> split <;> simp only [decide_eq_true_eq, List.length_cons] at * <;> omega
  rw [key n, if_pos ha.2, List.length_cons, ← ih]
theorem explS_Expl {s : Stg} (h : (explS s).2 = true) : goodS s = true ∧ Expl s (explS s).1 := by
 unfold explS at h ⊢
 split at h
 ·rename_i hc;rw [if_pos hc];obtain ⟨hg, hb⟩ := Bool.and_eq_true_iff.1 hc
  have h1 : goodN s.net = true ∧ bitsB s.start s.net.places = true := by
   have hg := hg;simp only [goodS, Bool.and_eq_true] at hg;exact hg.1
  have hI := exOut_I (good_places h1.1).2.2 301 0 (x := ⟨[s.start], []⟩) (q := 0) ⟨by show 1 ≤ 300; omega, fun m hm => by rw [List.mem_singleton.1 hm]; exact h1.2, Nat.le_refl _⟩;obtain ⟨k1, hB⟩ := explR_By s.net s.start
  have hr : explR s.net s.start = ((explR s.net s.start).1, none) := by
   unfold exB at hb
   split at hb
   ·cases hb
   rename_i e; exact Prod.ext rfl e
  have hst := exOut_st s.net 301 0 (x := ⟨[s.start], []⟩) Nat.zero_lt_one;obtain ⟨k', hC, hk'⟩ := exOut_Cl 301 0 (x := ⟨[s.start], []⟩) (Nat.zero_le _) (by show 1 ≤ 300; omega) (Nat.le_refl _) ⟨by simp, fun v hv => by simp at hv, fun v hv => by simp at hv, fun j hj => by omega, rfl⟩ hr;have hin : ∀ v, v ∈ (explR s.net s.start).1.moves → 0 ≤ v.from_ ∧ v.from_ < (explR s.net s.start).1.marks.length := fun v hv => by have := hB.inn v hv; omega
  have hBi := hB.inn
  have hl : (explR s.net s.start).1.moves.length ≤ 300 * s.net.ts.length := by
   rw [froms_len _ hin];refine Nat.le_trans (sum_le (c := s.net.ts.length) _ fun j hj => ?_) (Nat.mul_le_mul_right _ hI.n);have := congrArg List.length (hC.old j (by omega));rw [List.length_map] at this;have h2 := readyL_len s.net (mkAt (explR s.net s.start).1 j) s.net.ts.length;show (fromL _ j).length ≤ _;omega
  have hpos := hB.pos;have hold := hC.old;have hmet := hB.met;have hn : (explR s.net s.start).1.marks.length ≤ 300 := hI.n;have hb2 : ∀ m, m ∈ (explR s.net s.start).1.marks → bitsB m s.net.places = true := hI.b;have hst : mkAt (explR s.net s.start).1 0 = s.start := hst;have hnd := hC.nd;have hok := hC.ok;obtain ⟨x, hx⟩ := eqx ((explR s.net s.start).1);rw [← hx] at hBi hl hpos hold hmet hn hb2 hnd hok hst hk';show goodS s = true ∧ Expl s (explR s.net s.start).1;rw [← hx];exact ⟨hg, ⟨hpos, hn⟩, hst, hnd, hb2, fun v hv => by have := hBi v hv; omega, hok, fun j hj => hold j (by omega), hmet, hl⟩
 exact absurd h (by simp)
abbrev oa (o : List Int) (v : Nat) : Int := o.getD v (-1)
theorem oa_lt {o : List Int} {v : Nat} (h : 0 ≤ oa o v) : v < o.length := by
 rcases Nat.lt_or_ge v o.length with q | q
 ·exact q
 unfold oa at h;rw [List.getD_eq_getElem?_getD, List.getElem?_eq_none q] at h;exact absurd h (by decide)
theorem oa_get {o : List Int} {v : Nat} (h : v < o.length) : oa o v = o[v] := by
 unfold oa; rw [List.getD_eq_getElem?_getD, List.getElem?_eq_getElem h]; rfl
theorem oa_set_self {o : List Int} {v : Nat} {x : Int} (h : v < o.length) : oa (o.set v x) v = x := by
 unfold oa; rw [List.getD_eq_getElem?_getD, List.getElem?_set_self h]; rfl
theorem oa_set_ne {o : List Int} {v u : Nat} {x : Int} (h : u ≠ v) : oa (o.set v x) u = oa o u := by
 unfold oa; rw [List.getD_eq_getElem?_getD, List.getD_eq_getElem?_getD, List.getElem?_set_ne (fun e => h e.symm)]
inductive Walk (E : List (Nat × Nat)) (s : Nat) : Nat → Nat → Prop
 | nil : Walk E s 0 s
 | step {k f t : Nat} : Walk E s k f → (f, t) ∈ E → Walk E s (k + 1) t
structure DistOf (E : List (Nat × Nat)) (n s : Nat) (o : List Int) : Prop where
 len : o.length = n
 st : oa o s = 0
 lo : ∀ v, -1 ≤ oa o v
 wk : ∀ (v k : Nat), oa o v = (k : Int) → Walk E s k v
 ed : ∀ f t, (f, t) ∈ E → 0 ≤ oa o f → 0 ≤ oa o t ∧ oa o t ≤ oa o f + 1
theorem DistOf.walk {E : List (Nat × Nat)} {n s : Nat} {o : List Int} (h : DistOf E n s o) : ∀ {k v : Nat}, Walk E s k v → 0 ≤ oa o v ∧ oa o v ≤ k
 | _, _, .nil => by rw [h.st]; exact ⟨Int.le_refl _, Int.le_refl _⟩
 | _, _, .step w he => by
  have h1 := h.walk w;have h2 := h.ed _ _ he h1.1;omega
theorem DistOf.le {E : List (Nat × Nat)} {n s : Nat} {o o' : List Int} (h : DistOf E n s o) (h' : DistOf E n s o') (v : Nat) (hv : 0 ≤ oa o v) : 0 ≤ oa o' v ∧ oa o' v ≤ oa o v := by
 have := h'.walk (h.wk v (oa o v).toNat (by omega));omega
theorem DistOf.uniq {E : List (Nat × Nat)} {n s : Nat} {o o' : List Int} (h : DistOf E n s o) (h' : DistOf E n s o') : o = o' := by
 refine List.ext_getElem (by rw [h.len, h'.len]) fun v h1 h2 => ?_
 rw [← oa_get h1, ← oa_get h2];have a := h.lo v;have b := h'.lo v
 by_cases q : 0 ≤ oa o v
 ·have c := h.le h' v q;have d := h'.le h v c.1;omega
 by_cases q' : 0 ≤ oa o' v
 ·have d := h'.le h v q';omega
 omega
open Classical in
noncomputable def distF (E : List (Nat × Nat)) (n s : Nat) : List Int := if h : ∃ o, DistOf E n s o then Classical.choose h else []
theorem DistOf.eq {E : List (Nat × Nat)} {n s : Nat} {o : List Int} (h : DistOf E n s o) : distF E n s = o := by
 have hex : ∃ o, DistOf E n s o := ⟨o, h⟩;unfold distF;rw [dif_pos hex];exact (Classical.choose_spec hex).uniq h
theorem DistOf.self {E : List (Nat × Nat)} {n s : Nat} {o : List Int} (h : DistOf E n s o) : DistOf E n s (distF E n s) := by rw [h.eq]; exact h
def nextL (E : List (Nat × Nat)) (f : Nat) : List Nat := (E.filter fun e => decide (e.1 = f)).map (·.2)
theorem nextL_mem {E : List (Nat × Nat)} {f t : Nat} : t ∈ nextL E f ↔ (f, t) ∈ E := by
 unfold nextL;simp only [List.mem_map, List.mem_filter, decide_eq_true_eq];constructor
 ·rintro ⟨⟨a, b⟩, ⟨h1, h2⟩, rfl⟩; simp only at h2; subst h2; exact h1
 intro h; exact ⟨(f, t), ⟨h, rfl⟩, rfl⟩
def negs (o : List Int) : Nat := o.countP fun x => decide (x < 0)
theorem negs_set : ∀ {o : List Int} {v : Nat} {x : Int}, v < o.length → oa o v < 0 → 0 ≤ x → negs (o.set v x) + 1 = negs o
 | [], v, x, h, _, _ => by simp at h
 | y :: o, 0, x, h, h1, h2 => by
  have h1 : y < 0 := h1;unfold negs;rw [List.set_cons_zero, List.countP_cons_of_neg (by simpa using h2), List.countP_cons_of_pos (by simpa using h1)]
 | y :: o, v + 1, x, h, h1, h2 => by
  have ih := negs_set (o := o) (v := v) (x := x) (by simpa using h) h1 h2;unfold negs at ih ⊢;rw [List.set_cons_succ, List.countP_cons, List.countP_cons];omega
theorem negs_rep (n : Nat) : negs (List.replicate n (-1)) = n := by
 unfold negs;rw [List.countP_replicate]; simp
structure BfsI (E : List (Nat × Nat)) (n s : Nat) (o : List Int) (q : List Nat) (a j : Nat) : Prop where
 len : o.length = n
 inn : ∀ f t, (f, t) ∈ E → f < n ∧ t < n
 st : oa o s = 0
 lo : ∀ v, -1 ≤ oa o v
 wk : ∀ (v k : Nat), oa o v = (k : Int) → Walk E s k v
 cnt : negs o + q.length = n
 al : a ≤ q.length
 mem : ∀ v, v ∈ q ↔ 0 ≤ oa o v
 mono : ∀ i k (_ : i ≤ k) (hk : k < q.length), oa o (q.getD i 0) ≤ oa o (q.getD k 0)
 gap : a < q.length → ∀ v, v ∈ q → oa o v ≤ oa o (q.getD a 0) + 1
 done : ∀ i, i < a → ∀ t, (q.getD i 0, t) ∈ E → 0 ≤ oa o t ∧ oa o t ≤ oa o (q.getD i 0) + 1
 part : ∀ t, t ∈ (nextL E (q.getD a 0)).take j → 0 ≤ oa o t ∧ oa o t ≤ oa o (q.getD a 0) + 1
theorem BfsI.start {E : List (Nat × Nat)} {n s : Nat} (hs : s < n) (hE : ∀ f t, (f, t) ∈ E → f < n ∧ t < n) : BfsI E n s ((List.replicate n (-1)).set s 0) [s] 0 0 := by
 have hneg : ∀ v, oa (List.replicate n (-1)) v = -1 := fun v => by
  unfold oa;rw [List.getD_eq_getElem?_getD, List.getElem?_replicate]
  split <;> rfl
 have hset : ∀ v, oa ((List.replicate n (-1)).set s 0) v = if v = s then 0 else -1 := fun v => by
  split
  ·rename_i h; subst h; exact oa_set_self (by simpa using hs)
  rename_i h; rw [oa_set_ne h, hneg]
 refine ⟨by simp, hE, by rw [hset, if_pos rfl], fun v => by rw [hset]; split <;> decide, fun v k h => ?_, ?_, by simp, fun v => ?_, fun i k hik hk => ?_, fun _ v hv => ?_, fun i hi => by omega, fun t ht => by simp at ht⟩
 ·rw [hset] at h
  split at h
  ·rename_i e; obtain rfl : k = 0 := by omega
   rw [e]; exact .nil
  omega
 ·have := negs_set (o := List.replicate n (-1)) (v := s) (x := 0) (by simpa using hs) (by rw [hneg]; decide) (Int.le_refl _);rw [negs_rep] at this;simpa using this
 ·rw [hset, List.mem_singleton]
  split
  ·rename_i e; simp [e]
  rename_i e; simp [e]
 ·simp only [List.length_cons, List.length_nil] at hk;obtain rfl : k = 0 := by omega
  obtain rfl : i = 0 := by omega
  exact Int.le_refl _
 rw [List.mem_singleton.1 hv];show _ ≤ oa _ ([s].getD 0 0) + 1;show oa _ s ≤ oa _ s + 1;omega
theorem getD_mem0 {q : List Nat} {a : Nat} (h : a < q.length) : q.getD a 0 ∈ q := by
 rw [List.getD_eq_getElem?_getD, List.getElem?_eq_getElem h]; exact List.getElem_mem h
theorem getD_app1 {q : List Nat} {a t : Nat} (h : a < q.length) : (q ++ [t]).getD a 0 = q.getD a 0 := by
 rw [List.getD_eq_getElem?_getD, List.getD_eq_getElem?_getD, List.getElem?_append_left h]
theorem getD_app2 {q : List Nat} {t : Nat} : (q ++ [t]).getD q.length 0 = t := by
 rw [List.getD_eq_getElem?_getD, List.getElem?_append_right (Nat.le_refl _), Nat.sub_self]; rfl
theorem mem_takeN {l : List Nat} {j t : Nat} (hj : j < l.length) (h : t ∈ l.take (j + 1)) : t ∈ l.take j ∨ t = l[j] := by
 rw [List.take_add_one, List.getElem?_eq_getElem hj] at h;rcases List.mem_append.1 h with q | q
 ·exact .inl q
 exact .inr (by simpa using q)
theorem BfsI.no {E : List (Nat × Nat)} {n s : Nat} {o : List Int} {q : List Nat} {a j : Nat} (h : BfsI E n s o q a j) (ha : a < q.length) (hj : j < (nextL E (q.getD a 0)).length) (ht : 0 ≤ oa o (nextL E (q.getD a 0))[j]) : BfsI E n s o q a (j + 1) := by
 refine ⟨h.len, h.inn, h.st, h.lo, h.wk, h.cnt, h.al, h.mem, h.mono, h.gap, h.done, fun t ht' => ?_⟩;rcases mem_takeN hj ht' with g | g
 ·exact h.part t g
 rw [g]; exact ⟨ht, h.gap ha _ ((h.mem _).2 ht)⟩
theorem BfsI.yes {E : List (Nat × Nat)} {n s : Nat} {o : List Int} {q : List Nat} {a j : Nat} (h : BfsI E n s o q a j) (ha : a < q.length) (hj : j < (nextL E (q.getD a 0)).length) (ht : oa o (nextL E (q.getD a 0))[j] < 0) :
  BfsI E n s (o.set (nextL E (q.getD a 0))[j] (oa o (q.getD a 0) + 1)) (q ++ [(nextL E (q.getD a 0))[j]]) a (j + 1) := by
 have hc0 := (h.mem _).1 (getD_mem0 ha);have hed := nextL_mem.1 (List.getElem_mem hj);have hmt : ∀ t, t ∈ (nextL E (q.getD a 0)).take (j + 1) → t ∈ (nextL E (q.getD a 0)).take j ∨ t = (nextL E (q.getD a 0))[j] := fun t => mem_takeN hj
 have hgap := h.gap ha;have hpart := h.part;have hgq : (q ++ [(nextL E (q.getD a 0))[j]]).getD a 0 = q.getD a 0 := getD_app1 ha;have hLL : nextL E ((q ++ [(nextL E (q.getD a 0))[j]]).getD a 0) = nextL E (q.getD a 0) := by rw [hgq]
 obtain ⟨t, htt⟩ := eqx ((nextL E (q.getD a 0))[j]);rw [← htt] at ht hed hmt hgq hLL ⊢;have htn : t < n := (h.inn _ _ hed).2;have htl : t < o.length := by rw [h.len]; exact htn
 have hne : ∀ v, 0 ≤ oa o v → v ≠ t := fun v hv e => by rw [e] at hv; omega
 have hts : oa (o.set t (oa o (q.getD a 0) + 1)) t = oa o (q.getD a 0) + 1 := oa_set_self htl;have hold : ∀ v, 0 ≤ oa o v → oa (o.set t (oa o (q.getD a 0) + 1)) v = oa o v := fun v hv => oa_set_ne (hne v hv)
 have hqo : ∀ v, v ∈ q → oa (o.set t (oa o (q.getD a 0) + 1)) v = oa o v := fun v hv => hold v ((h.mem v).1 hv)
 have hca := hqo _ (getD_mem0 ha);refine ⟨by rw [List.length_set]; exact h.len, h.inn, ?_, fun v => ?_, fun v k hv => ?_, ?_, by rw [List.length_append]; have := h.al; omega, fun v => ?_, fun i k hik hk => ?_, fun _ v hv => ?_, fun i hi t' ht' => ?_, fun t' ht' => ?_⟩
 ·rw [hold s (by rw [h.st]; exact Int.le_refl _)]; exact h.st
 ·by_cases e : v = t
  ·rw [e, hts]; omega
  rw [oa_set_ne e]; exact h.lo v
 ·by_cases e : v = t
  ·subst e;rw [hts] at hv;obtain ⟨k', rfl⟩ : ∃ k', k = k' + 1 := ⟨k - 1, by omega⟩;exact .step (h.wk _ k' (by omega)) hed
  rw [oa_set_ne e] at hv; exact h.wk v k hv
 ·have h1 := negs_set (o := o) (v := t) (x := oa o (q.getD a 0) + 1) htl ht (by omega);have h2 := h.cnt;rw [List.length_append, List.length_singleton]; omega
 ·rw [List.mem_append, List.mem_singleton]
  by_cases e : v = t
  ·rw [e, hts];constructor
   ·intro _; omega
   intro _; exact .inr rfl
  rw [oa_set_ne e, ← h.mem v];constructor
  ·rintro (g | g)
   ·exact g
   exact absurd g e
  exact .inl
 ·rw [List.length_append, List.length_singleton] at hk;rcases Nat.lt_or_ge k q.length with g | g
  ·rw [getD_app1 (by omega), getD_app1 g, hqo _ (getD_mem0 (by omega)), hqo _ (getD_mem0 g)];exact h.mono i k hik g
  obtain rfl : k = q.length := by omega
  rw [getD_app2, hts];rcases Nat.lt_or_ge i q.length with g' | g'
  ·rw [getD_app1 g', hqo _ (getD_mem0 g')];exact hgap _ (getD_mem0 g')
  obtain rfl : i = q.length := by omega
  rw [getD_app2, hts]; exact Int.le_refl _
 ·rw [hgq, hca];rcases List.mem_append.1 hv with g | g
  ·rw [hqo v g]; exact hgap v g
  rw [List.mem_singleton.1 g, hts]; exact Int.le_refl _
 ·have hi2 : i < q.length := by omega
  rw [getD_app1 hi2] at ht' ⊢;have h1 := h.done i hi t' ht';rw [hold t' h1.1, hqo _ (getD_mem0 hi2)];exact h1
 rw [hLL] at ht';rw [hgq, hca];rcases hmt t' ht' with g | g
 ·have h1 := hpart t' g;rw [hold t' h1.1]; exact h1
 rw [g, hts]; exact ⟨by omega, Int.le_refl _⟩
theorem BfsI.next {E : List (Nat × Nat)} {n s : Nat} {o : List Int} {q : List Nat} {a j : Nat} (h : BfsI E n s o q a j) (ha : a < q.length) (hj : j = (nextL E (q.getD a 0)).length) : BfsI E n s o q (a + 1) 0 := by
 refine ⟨h.len, h.inn, h.st, h.lo, h.wk, h.cnt, ha, h.mem, h.mono, fun ha' v hv => ?_, fun i hi t ht => ?_, fun t ht => by simp at ht⟩
 ·have h1 := h.gap ha v hv;have h2 := h.mono a (a + 1) (by omega) ha';omega
 rcases Nat.lt_or_ge i a with g | g
 ·exact h.done i g t ht
 obtain rfl : i = a := by omega
 exact h.part t (by rw [hj, List.take_length]; exact nextL_mem.2 ht)
theorem BfsI.dist {E : List (Nat × Nat)} {n s : Nat} {o : List Int} {q : List Nat} (h : BfsI E n s o q q.length 0) : DistOf E n s o := by
 refine ⟨h.len, h.st, h.lo, h.wk, fun f t he hf => ?_⟩;obtain ⟨i, hi, rfl⟩ := List.getElem_of_mem ((h.mem f).2 hf);have := h.done i hi t (by rw [List.getD_eq_getElem?_getD, List.getElem?_eq_getElem hi]; exact he)
 rwa [List.getD_eq_getElem?_getD, List.getElem?_eq_getElem hi] at this
structure RndI (E : List (Nat × Nat)) (n s : Nat) (o : List Int) (d j : Nat) : Prop where
 len : o.length = n
 inn : ∀ f t, (f, t) ∈ E → f < n ∧ t < n
 st : oa o s = 0
 lo : ∀ v, -1 ≤ oa o v
 hi : ∀ v, oa o v ≤ d + 1
 hi0 : j = 0 → ∀ v, oa o v ≤ d
 wk : ∀ (v k : Nat), oa o v = (k : Int) → Walk E s k v
 dn : ∀ (v : Nat) (k : Nat), oa o v = (k : Int) + 1 → ∃ f, oa o f = (k : Int)
 done : ∀ f t, (f, t) ∈ E → 0 ≤ oa o f → oa o f < d → 0 ≤ oa o t ∧ oa o t ≤ oa o f + 1
 part : ∀ f t, (f, t) ∈ E.take j → oa o f = d → 0 ≤ oa o t
theorem RndI.start {E : List (Nat × Nat)} {n s : Nat} (hs : s < n) (hE : ∀ f t, (f, t) ∈ E → f < n ∧ t < n) : RndI E n s ((List.replicate n (-1)).set s 0) 0 0 := by
 have hneg : ∀ v, oa (List.replicate n (-1)) v = -1 := fun v => by
  unfold oa;rw [List.getD_eq_getElem?_getD, List.getElem?_replicate]
  split <;> rfl
 have hset : ∀ v, oa ((List.replicate n (-1)).set s 0) v = if v = s then 0 else -1 := fun v => by
  split
  ·rename_i h; subst h; exact oa_set_self (by simpa using hs)
  rename_i h; rw [oa_set_ne h, hneg]
 refine ⟨by simp, hE, by rw [hset, if_pos rfl], fun v => by rw [hset]; split <;> decide, fun v => by rw [hset]; split <;> decide, fun _ v => by rw [hset]; split <;> decide, fun v k h => ?_, fun v k h => ?_, fun f t _ h1 h2 => by omega, fun f t ht => by simp at ht⟩
 ·rw [hset] at h
  split at h
  ·rename_i e; obtain rfl : k = 0 := by omega
   rw [e]; exact .nil
  omega
 rw [hset] at h
 split at h <;> omega
theorem mem_takeE {l : List (Nat × Nat)} {j : Nat} {t : Nat × Nat} (hj : j < l.length) (h : t ∈ l.take (j + 1)) : t ∈ l.take j ∨ t = l[j] := by
 rw [List.take_add_one, List.getElem?_eq_getElem hj] at h;rcases List.mem_append.1 h with q | q
 ·exact .inl q
 exact .inr (by simpa using q)
theorem RndI.no {E : List (Nat × Nat)} {n s : Nat} {o : List Int} {d j : Nat} (h : RndI E n s o d j) (hj : j < E.length) (ht : ¬ (oa o E[j].1 = d ∧ oa o E[j].2 < 0)) : RndI E n s o d (j + 1) := by
 refine ⟨h.len, h.inn, h.st, h.lo, h.hi, fun e => by omega, h.wk, h.dn, h.done, fun f t hft hf => ?_⟩;rcases mem_takeE hj hft with g | g
 ·exact h.part f t g hf
 rw [← g] at ht;rcases Int.lt_or_le (oa o t) 0 with c | c
 ·exact absurd ⟨hf, c⟩ ht
 exact c
theorem RndI.yes {E : List (Nat × Nat)} {n s : Nat} {o : List Int} {d j : Nat} (h : RndI E n s o d j) (hj : j < E.length) (hf : oa o E[j].1 = d) (ht : oa o E[j].2 < 0) : RndI E n s (o.set E[j].2 (d + 1)) d (j + 1) := by
 have hed : (E[j].1, E[j].2) ∈ E := List.getElem_mem hj;have hmt := fun x => mem_takeE (t := x) hj
 obtain ⟨f0, hf0⟩ := eqx (E[j].1);obtain ⟨t0, ht0⟩ := eqx (E[j].2);have he : E[j] = (f0, t0) := by rw [hf0, ht0]
 rw [he] at hmt;rw [← ht0] at ht hed ⊢;rw [← hf0] at hf hed;have htl : t0 < o.length := by rw [h.len]; exact (h.inn _ _ hed).2
 have hts : oa (o.set t0 (d + 1)) t0 = d + 1 := oa_set_self htl;have hold : ∀ v, 0 ≤ oa o v → oa (o.set t0 (d + 1)) v = oa o v := fun v hv => oa_set_ne (fun e => by rw [e] at hv; omega)
 have hback : ∀ v, oa (o.set t0 ((d : Int) + 1)) v = oa o v ∨ (v = t0 ∧ oa (o.set t0 ((d : Int) + 1)) v = d + 1) := fun v => by
  by_cases e : v = t0
  ·right; exact ⟨e, by rw [e]; exact hts⟩
  left; exact oa_set_ne e
 refine ⟨by rw [List.length_set]; exact h.len, h.inn, by rw [hold s (by rw [h.st]; exact Int.le_refl _)]; exact h.st, fun v => ?_, fun v => ?_, fun e => by omega, fun v k hv => ?_, fun v k hv => ?_, fun f t hft h1 h2 => ?_, fun f t hft h1 => ?_⟩
 ·rcases hback v with g | ⟨_, g⟩
  ·rw [g]; exact h.lo v
  rw [g]; omega
 ·rcases hback v with g | ⟨_, g⟩
  ·rw [g]; exact h.hi v
  rw [g]; exact Int.le_refl _
 ·rcases hback v with g | ⟨g1, g⟩
  ·rw [g] at hv; exact h.wk v k hv
  rw [g] at hv;obtain rfl : k = d + 1 := by omega
  rw [g1]; exact .step (h.wk f0 d hf) hed
 ·rcases hback v with g | ⟨g1, g⟩
  ·rw [g] at hv;obtain ⟨f, hf'⟩ := h.dn v k hv;exact ⟨f, by rw [hold f (by omega)]; exact hf'⟩
  rw [g] at hv;obtain rfl : k = d := by omega
  exact ⟨f0, by rw [hold f0 (by omega)]; exact hf⟩
 ·rcases hback f with g | ⟨g1, g⟩
  ·rw [g] at h1 h2 ⊢;have h3 := h.done f t hft h1 h2;rw [hold t h3.1]; exact h3
  rw [g] at h2; omega
 rcases hback f with g | ⟨g1, g⟩
 ·rw [g] at h1;rcases hmt _ hft with c | c
  ·have h3 := h.part f t c h1;rw [hold t h3]; exact h3
  obtain ⟨rfl, rfl⟩ := Prod.mk.inj c;rw [hts]; omega
 rw [g] at h1; omega
theorem RndI.next {E : List (Nat × Nat)} {n s : Nat} {o : List Int} {d j : Nat} (h : RndI E n s o d j) (hj : j = E.length) : RndI E n s o (d + 1) 0 := by
 refine ⟨h.len, h.inn, h.st, h.lo, fun v => by have := h.hi v; omega, fun _ v => by have := h.hi v; omega, h.wk, h.dn, fun f t hft h1 h2 => ?_, fun f t ht => by simp at ht⟩;rcases Int.lt_or_le (oa o f) d with g | g
 ·exact h.done f t hft h1 g
 have e : oa o f = d := by omega
 have := h.part f t (by rw [hj, List.take_length]; exact hft) e;have := h.hi t;omega
theorem down_all {o : List Int} (hdn : ∀ (v : Nat) (k : Nat), oa o v = (k : Int) + 1 → ∃ f, oa o f = (k : Int)) : ∀ (k : Nat), (∃ v, oa o v = (k : Int)) → ∀ i, i ≤ k → ∃ v, oa o v = (i : Int)
  | 0, h, i, hi => by obtain rfl : i = 0 := by omega
                      exact h
  | k + 1, ⟨v, hv⟩, i, hi => by
    rcases Nat.lt_or_ge i (k + 1) with g | g
    · exact down_all hdn k (hdn v k (by omega)) i (by omega)
    obtain rfl : i = k + 1 := by omega
    exact ⟨v, hv⟩
theorem few_all : ∀ (k : Nat) (o : List Int), (∀ i, i < k → ((i : Nat) : Int) ∈ o) → k ≤ o.length
 | 0, o, _ => Nat.zero_le _
 | k + 1, o, h => by
  have h1 := h k (by omega);have ih := few_all k (o.erase (k : Int)) (fun i hi => (List.mem_erase_of_ne (by omega)).2 (h i (by omega)));have h2 := List.length_erase_of_mem h1;have := List.length_pos_of_mem h1;omega
theorem RndI.dist {E : List (Nat × Nat)} {n s : Nat} {o : List Int} (h : RndI E n s o n 0) : DistOf E n s o := by
 refine ⟨h.len, h.st, h.lo, h.wk, fun f t he hf => h.done f t he hf ?_⟩;have hall := down_all h.dn (oa o f).toNat ⟨f, by omega⟩
 have := few_all ((oa o f).toNat + 1) o (fun i hi => by
  obtain ⟨v, hv⟩ := hall i (by omega);have hl := oa_lt (o := o) (v := v) (by omega);rw [oa_get hl] at hv
  rw [← hv]; exact List.getElem_mem hl)
 rw [h.len] at this;omega
def edgesR (x : Ex) : List (Nat × Nat) := x.moves.map fun v => (v.from_.toNat, v.to_.toNat)
theorem edgesR_in {x : Ex} (h : ∀ v, v ∈ x.moves → (0 ≤ v.from_ ∧ v.from_ < x.marks.length) ∧ 0 ≤ v.to_ ∧ v.to_ < x.marks.length) : ∀ f t, (f, t) ∈ edgesR x → f < x.marks.length ∧ t < x.marks.length := by
 intro f t he;obtain ⟨v, hv, e⟩ := List.mem_map.1 he;obtain ⟨rfl, rfl⟩ := Prod.mk.inj e;have := h v hv;omega
theorem rnd_ex {E : List (Nat × Nat)} {n s : Nat} (hs : s < n) (hE : ∀ f t, (f, t) ∈ E → f < n ∧ t < n) : ∀ d, ∃ o, RndI E n s o d 0 := by
 intro d
 induction d with
 | zero => exact ⟨_, RndI.start hs hE⟩
 | succ d ih =>
  obtain ⟨o, ho⟩ := ih
  have : ∀ j, j ≤ E.length → ∃ o, RndI E n s o d j := by
   intro j
   induction j with
   | zero => intro _; exact ⟨o, ho⟩
   | succ j ihj =>
    intro hj;obtain ⟨o', h'⟩ := ihj (by omega)
    by_cases q : oa o' E[j].1 = d ∧ oa o' E[j].2 < 0
    ·exact ⟨_, h'.yes (by omega) q.1 q.2⟩
    exact ⟨_, h'.no (by omega) q⟩
  obtain ⟨o', h'⟩ := this E.length (Nat.le_refl _);exact ⟨o', h'.next rfl⟩
theorem dist_ex {E : List (Nat × Nat)} {n s : Nat} (hs : s < n) (hE : ∀ f t, (f, t) ∈ E → f < n ∧ t < n) : DistOf E n s (distF E n s) := by
 obtain ⟨o, h⟩ := rnd_ex hs hE n;exact h.dist.self
theorem Expl.edges {s : Stg} {x : Ex} (h : Expl s x) : ∀ f t, (f, t) ∈ edgesR x → f < x.marks.length ∧ t < x.marks.length := edgesR_in fun v hv => by have := h.inn v hv; omega
theorem Expl.dist {s : Stg} {x : Ex} (h : Expl s x) : DistOf (edgesR x) x.marks.length 0 (distF (edgesR x) x.marks.length 0) := dist_ex (by have := h.n; omega) h.edges
def posI (m : List UInt8) (l : List (List UInt8)) : Int := match posL m l with | some i => (i : Int) | none => -1
theorem posL_at {m : List UInt8} : ∀ {l : List (List UInt8)} {k : Nat} (hk : k < l.length), l[k] = m → (∀ j (hj : j < l.length), j < k → ¬ l[j] = m) → posL m l = some k
 | a :: l, 0, hk, h, _ => by rw [posL, if_pos (show m = a from h.symm)]
 | a :: l, k + 1, hk, h, hb => by
  have h0 := hb 0 (by simp) (by omega);rw [posL, if_neg (fun e => h0 e.symm), posL_at (k := k) (by simpa using hk) (by simpa using h) (fun j hj hjk => by have := hb (j + 1) (by simpa using hj) (by omega); simpa using this)]
  rfl
theorem posL_no {m : List UInt8} {l : List (List UInt8)} (h : ∀ j (hj : j < l.length), ¬ l[j] = m) : posL m l = none := posL_none.2 fun hm => by
 obtain ⟨j, hj, e⟩ := List.getElem_of_mem hm;exact h j hj e
theorem posI_at {m : List UInt8} {l : List (List UInt8)} {k : Nat} (hk : k < l.length) (h : l[k] = m) (hb : ∀ j (hj : j < l.length), j < k → ¬ l[j] = m) : posI m l = (k : Int) := by unfold posI; rw [posL_at hk h hb]
theorem posI_no {m : List UInt8} {l : List (List UInt8)} (h : ∀ j (hj : j < l.length), ¬ l[j] = m) : posI m l = -1 := by unfold posI; rw [posL_no h]
set_option maxHeartbeats 1000000 in
theorem l4Find_spec (l : List (List UInt8)) (m : List UInt8) (hl : l.length ≤ 1000000) : ASpec Tryz.prog 260 [.d (.view 9 1 (tsX l)), aS (bstr m)] [] (Pure1 (aI (posI m l))) := by
 refine ASpec.of Tryz.func260 rfl rfl fun C hC => ?_
 refine AC.seq (AC.region ?_);refine za ?_;refine AL.nil (th_n (AC.seq (AC.seq (AC.region ?_))));refine zm ?_;refine kI l.length (tsX_len _) ?_;refine zm ?_;refine AL.nil (th_n (AC.block ?_));refine AC.loop (ι := Nat) (fun k => ⟨19, 0, [(1, aS (bstr m)), (7, .d (.view 9 1 (tsX l))), (8, aI l.length), (9, aI k)], []⟩) (fun k => k ≤ l.length ∧ ∀ j (hj : j < l.length), j < k → ¬ l[j] = m) (fun k => l.length - k) (0) ?_ (⟨Nat.zero_le _, fun j _ hj => by omega⟩) ?_
 ·refine Weak.ren _ [] hC rfl ?_ ?_ rfl rfl rfl <;> repeat (first | exact True.intro | refine And.intro ?_ ?_ | exact DLead.same)
 intro k ⟨hk, hall⟩;refine AC.seq (AC.region ?_);refine zc ?_;refine AL.nil (th_n (AC.seq ?_));refine AC.condD rfl (fun h0 => ?_) (fun h0 => ?_)
 ·refine AC.skip (th_n (AC.seq (AC.block (AC.seq ?_))));have hk1 : k < l.length := by omega
  have hget := tsX_get hk1;refine AC.region ?_;refine zm ?_;refine AL.p (by exact g_ia_view rfl rfl rfl rfl rfl (by rfl) (by assumption)) rfl ?_;refine zr ?_;refine za ?_;refine za ?_;refine AL.nil (th_n (AC.seq (AC.region ?_)));refine zm ?_;refine zm ?_;refine AL.p (by exact g_scmp rfl rfl rfl) rfl ?_;refine AL.nil (th_n ?_);refine AC.condD rfl (fun h1 => ?_) (fun h1 => ?_)
  ·refine AC.seq (AC.region ?_);refine zm ?_;refine za ?_;refine AL.nil (th_n (AC.ret (ib_r (th_r (th_r (ib_r (th_r (bq_r ?_))))))));exact ret1 rfl (by rw [posI_at hk1 (bstr_inj (by assumption)) hall])
  refine AC.skip (ib_n (th_n (AC.region ?_)));refine zA ?_;refine zm ?_;refine AL.nil (th_n ?_);exact ⟨k + 1, ⟨by omega, fun j hj hj2 => by rcases Nat.lt_succ_iff_lt_or_eq.1 hj2 with h | rfl; exact hall j hj h; exact fun e => h1 (by rw [e])⟩, by omega, Weak.ren _ [] hC rfl (by repeat (first | exact True.intro | refine And.intro ?_ ?_ | exact DLead.same)) (by repeat (exact True.intro)) rfl rfl rfl⟩
 refine AC.exit (th_e (th_e (ib_y (th_n (AC.seq (AC.region ?_))))));refine za ?_;refine AL.nil (th_n (AC.ret (bq_r ?_)));exact ret1 rfl (by rw [posI_no (fun j hj => hall j hj (by omega))])
theorem en_l4Find : Enters Tryz.prog 260 := enters_of Tryz.func260 rfl rfl
theorem ints_set (l : List Int) (i : Nat) (x : Int) : ints (l.set i x) = (ints l).set i [dI x] := by unfold ints; rw [List.map_set]
theorem posI_in (m : List UInt8) (l : List (List UInt8)) : -1 ≤ posI m l ∧ posI m l < l.length := by
 unfold posI
 split
 ·rename_i i h; have := posL_lt h; omega
 omega
abbrev stepL (E : List (Nat × Nat)) : List (List DV) := E.map fun e => [dI (e.1 : Int), dI (e.2 : Int)]
abbrev vSteps (E : List (Nat × Nat)) : DV := .view 131 2 (stepL E)
theorem stepL_len (E : List (Nat × Nat)) : (stepL E).length = E.length := List.length_map _
theorem stepL_get {E : List (Nat × Nat)} {k : Nat} (h : k < E.length) : (stepL E)[k]? = some [dI (E[k].1 : Int), dI (E[k].2 : Int)] := by rw [List.getElem?_map, List.getElem?_eq_getElem h]; rfl
theorem h_appendSt (acc new : List (Nat × Nat)) {s : ASt} {dst : Option Nat} {ty : Nat} {pos : String} {af : Array Edge} {gd : Option (Nat × Bool)} {x y : Operand} {f : Nat} {ids ids2 : List Nat} {gone : List (Nat × Option Chunk)}
  (hto : AppTo s x 131 2 (stepL acc) ids gone) (harg : AppArg s y 2 (stepL new) ids2) (h : (acc ++ new).length ≤ 100000000) (hnew : gone = [] → 0 < new.length) :
  NOp Tryz.prog (ids ++ ids2) s ⟨dst, .call { callee := .builtin .append, args := #[x, y], argTypes := #[132, 132] }, ty, pos, af, gd⟩ f ⟨.own f (acc ++ new).length, (f, some (.arr 131 2 (stepL (acc ++ new)))) :: gone⟩ := by
 have := h_append (P := Tryz.prog) (s := s) (dst := dst) (ty := ty) (pos := pos) (af := af) (gd := gd) (x := x) (y := y) (f := f) (t := 132) (tx := 132) (k := (acc ++ new).length) rfl rfl rfl rfl rfl rfl hto harg (by simp) (by omega) (by show (acc ++ new).length * 16 ≤ _; omega) (fun h => by rw [stepL_len]; exact hnew h)
 rwa [← List.map_append] at this
theorem ASpec.ofLibT {P : Program} {g : FuncId} {x y a b : Value} (ha0 : okV a) (hb0 : okV b) (h : ∀ w, Calls P g #[x, y] w fun e w' => e = .returned (.tuple #[a, b]) ∧ w' = w) : ASpec P g [.d (.val x), .d (.val y)] [] (Pure1 (.tup [.d (.val a), .d (.val b)])) := by
 intro w m Fin vs hfin hn ha hch hinj hm;have h0 := ha 0 _ rfl;have h1 := ha 1 _ rfl
 have hv : vs = #[x, y] := by
  apply Array.ext
  ·rw [hn]; rfl
  intro i hi1 hi2
  match i with
  | 0 => have := h0.val_eq.1; rw [Array.getD_eq_getD_getElem?, Array.getElem?_eq_getElem hi1] at this; simpa using this
  | 1 => have := h1.val_eq.1; rw [Array.getD_eq_getD_getElem?, Array.getElem?_eq_getElem hi1] at this; simpa using this
  | i + 2 => simp at hi2; omega
 subst hv;refine (h w).mono ?_;rintro e w' ⟨rfl, rfl⟩;refine ⟨_, _, [], m, Fin, rfl, ⟨rfl, rfl⟩, fun _ _ _ h => h, fun id hid => hm id (by simp only [List.length_nil] at hid ⊢; omega), fun k => ?_, ⟨rfl, rfl, rfl, Nat.le_refl _, fun _ _ _ => rfl⟩, .tup rfl (fun i c hc => ?_), fun id c hc => by simp [getL] at hc, fun id id' c c' p p' b hc => by simp [getL] at hc⟩
 ·constructor
  ·intro hk;exact ⟨.inl hk, (hfin k hk).1, fun id c p hc => by simp [getL] at hc⟩
  rintro ⟨h | ⟨id, c, p, hc, _⟩ | h, hlt, _⟩
  ·exact h
  ·simp [getL] at hc
  omega
 match i, hc with
 | 0, hc => simp only [List.getElem?_cons_zero, Option.some.injEq] at hc; subst hc; exact .d (.val ha0)
 | 1, hc => simp only [List.getElem?_cons_succ, List.getElem?_cons_zero, Option.some.injEq] at hc; subst hc; exact .d (.val hb0)
end Go.Proofs.YtbofmbjefbpnaaaGreat
namespace Go.Proofs
open Go.Shelf
def Tryz.lays212_ren : Go.Shelf.Ren := ⟨fun | 212 => 226 | 263 => 249 | 264 => 250 | n => n, fun | 46 => 148 | 51 => 190 | 146 => 255 | 53 => 75 | 148 => 257 | n => n, fun | n => n⟩
theorem Tryz.lays212 : Go.Proofs.Lays.n212 Tryz.prog Tryz.lays212_ren := {
 mixed := by kernel_rfl
 f212 := Tryz.func226.trans (congrArg some (by kernel_rfl))
 f263 := Tryz.func249.trans (congrArg some (by kernel_rfl))
 f264 := Tryz.func250.trans (congrArg some (by kernel_rfl))
 t46 := Tryz.underlying148
 a46 := Tryz.isAgg148
 z46 := Tryz.sizeOf148
 v46 := Tryz.zeroValue148
 t51 := Tryz.underlying190
 a51 := Tryz.isAgg190
 z51 := Tryz.sizeOf190
 v51 := Tryz.zeroValue190
 t53 := Tryz.underlying75
 a53 := Tryz.isAgg75
 z53 := Tryz.sizeOf75
 v53 := Tryz.zeroValue75
 t146 := Tryz.underlying255
 a146 := Tryz.isAgg255
 z146 := Tryz.sizeOf255
 v146 := Tryz.zeroValue255
 t148 := Tryz.underlying257
 a148 := Tryz.isAgg257
 z148 := Tryz.sizeOf257
 v148 := Tryz.zeroValue257 }
open Go.RowKit Go.Lib in
theorem Tryz.bits_Mul (x y : Nat) (hx : x < 18446744073709551616) (hy : y < 18446744073709551616) (w : World) :
  Calls Tryz.prog 226 #[.int .u64 x, .int .u64 y] w fun e w' => e = .returned (.tuple #[.int .u64 ((x * y / 18446744073709551616 : Nat) : Int), .int .u64 ((x * y % 18446744073709551616 : Nat) : Int)]) ∧ w' = w := Any.bits_Mul Tryz.lays212 x y hx hy w
end Go.Proofs
namespace Go.Proofs.YtbofmbjefbpnaaaGreat
open Go.RowKit
theorem bitsMul_one (n : Nat) (hn : n ≤ 1000000) : ASpec Tryz.prog 226 [.d (.val (.int .u64 ((1 : Nat) : Int))), .d (.val (.int .u64 (n : Int)))] [] (Pure1 (.tup [.d (.val (.int .u64 0)), .d (.val (.int .u64 (n : Int)))])) := by
 refine ASpec.ofLibT (show IntKind.u64.wrap 0 = 0 from rfl) (wrap_u64 (by omega)) fun w => ?_
 have := Tryz.bits_Mul 1 n (by decide) (by omega) w;rw [show 1 * n / 18446744073709551616 = 0 by omega, show 1 * n % 18446744073709551616 = n by omega] at this;exact this
theorem en_bitsMul : Enters Tryz.prog 226 := enters_of Tryz.func226 rfl rfl
theorem rep_zero (k : Nat) : List.replicate k (([ZK.int .i64] : List ZK).map fun z => DV.val z.val) = ints (List.replicate k 0) := by
 rw [ints, List.map_replicate]; rfl
def fillR (a : Int) (n k : Nat) : List Int := List.replicate k a ++ List.replicate (n - k) 0
theorem fillR_len {a : Int} {n k : Nat} (h : k ≤ n) : (fillR a n k).length = n := by simp [fillR]; omega
theorem fillR_copy {a : Int} {n i k q : Nat} (hi : i ≤ n) (hk : k ≤ n) (hq : i + q ≤ n) (hqk : q ≤ k) : (ints (fillR a n i)).take i ++ (((ints (fillR a n i)).take i).take q) ++ (ints (fillR a n i)).drop (i + q) = ints (fillR a n (i + q)) ∨ i < q := by
 rcases Nat.lt_or_ge i q with h | h
 ·exact .inr h
 left;have e1 : (fillR a n i).take i = List.replicate i a := by unfold fillR; rw [List.take_append_of_le_length (by simp)]; simp
 have e2 : (fillR a n i).drop (i + q) = List.replicate (n - i - q) 0 := by
  unfold fillR;rw [List.drop_append];simp
 unfold ints;rw [← List.map_take, ← List.map_take, ← List.map_drop, e1, e2, List.take_replicate, Nat.min_eq_left h, ← List.map_append, ← List.map_append];congr 1;unfold fillR;rw [List.replicate_append_replicate, show n - (i + q) = n - i - q by omega]
set_option maxHeartbeats 4000000 in
theorem repeat_spec (a : Int) (n : Nat) (hn : n ≤ 100000) : ASpec Tryz.prog 190 [.d (vI [a]), aI n] [] (Fun1 (.own 0 n) [(0, .arr 3 1 (ints (List.replicate n a)))]) := by
 have hM := bitsMul_one n (by omega);have hfl : ∀ k, k ≤ n → (ints (fillR a n k)).length = n := fun k hk => by rw [ints_len, fillR_len hk]
 refine ASpec.of Tryz.func190 rfl rfl fun C hC => ?_
 refine AC.seq (AC.region ?_);refine za ?_;refine AL.nil (th_n (AC.seq (AC.seq (AC.region ?_))));refine zm ?_;refine zc ?_;refine AL.nil (th_n ?_);refine AC.condD rfl (fun h0 => ?_) (fun h0 => ?_)
 ·exfalso; omega
 refine AC.skip (th_n (AC.seq (AC.region ?_)));refine zm ?_;refine AL.p (by exact g_len_view (k := 1) rfl rfl rfl) rfl ?_;refine AL.p (by exact g_convI (c := ((1 : Nat) : Int)) rfl rfl rfl (wrap_u64 (by omega))) rfl ?_;refine zm ?_;refine AL.p (by exact g_convI (c := (n : Int)) rfl rfl rfl (wrap_u64 (by omega))) rfl ?_;refine kV en_bitsMul hM ?_;refine AL.p (by exact mv5 rfl) rfl ?_;refine AL.p (by exact g_extract (r := .d _) rfl rfl) rfl ?_;refine AL.p (by exact g_extract (r := .d _) rfl rfl) rfl ?_;refine za ?_;refine za ?_;refine AL.nil (th_n (AC.seq (AC.seq (AC.region ?_))));refine zm ?_;refine zc ?_;refine zm ?_;refine AL.caseG rfl rfl (fun h1 => ?_) (fun h1 => ?_)
 ·refine zn ?_;refine zn ?_;refine zQ ?_;refine AL.nil (th_n ?_);refine AC.condT rfl ?_;exfalso; omega
 refine zy ?_;refine zm ?_;refine zy ?_;refine zc ?_;refine zP ?_;refine AL.nil (th_n ?_);refine AC.condD rfl (fun h2 => ?_) (fun h2 => ?_)
 ·exfalso; omega
 refine AC.skip (th_n (AC.seq (AC.region ?_)));refine zm ?_;refine AL.p (by exact g_convI (c := (n : Int)) rfl rfl rfl (wrap_i64 (by omega))) rfl ?_;refine AL.q (by exact h_make (k := n) rfl rfl rfl rfl rfl rfl rfl rfl (by show 8 * n ≤ _; omega) (by omega)) rfl ?_;rw [show (List.replicate n (([ZK.int .i64] : List ZK).map fun z => DV.val z.val)) = ints (fillR a n 0) from (rep_zero n).trans (by simp [fillR])];refine AL.p (by exact as2 rfl) rfl ?_;refine AL.nil (th_n (AC.seq (AC.region ?_)));refine kB ?_;refine zm ?_;refine AL.q (by exact h_copy (e' := 3) (i := 0) (k := n) (q := min 1 n) (new := ints [a]) rfl rfl rfl (.own rfl rfl) rfl (.view rfl) (by rw [hfl 0 (by omega)]; omega) (by simp only [maxLen]; omega) rfl) rfl ?_;refine za ?_;refine AL.nil (th_n (AC.seq (AC.block ?_)));refine AC.loop (ι := Nat) (fun k => ⟨48, 300, [(7, .own 100 n), (8, aI k)], [(100, some (.arr 3 1 (ints (fillR a n k))))]⟩) (fun k => k ≤ n ∧ (0 < n → 0 < k)) (fun k => n - k) ((min 1 n)) ?_ ((by omega)) ?_
 ·have e : (ints (fillR a n 0)).take 0 ++ (ints [a]).take (min 1 n) ++ (ints (fillR a n 0)).drop (0 + min 1 n) = ints (fillR a n (min 1 n)) := by rcases Nat.eq_zero_or_pos n with h | h; (subst h; rfl); (rw [Nat.min_eq_left h]; unfold ints; rw [← List.map_take, ← List.map_take, ← List.map_drop, ← List.map_append, ← List.map_append]; congr 1; simp [fillR])
  exact Weak.ren _ [(100, _)] hC rfl (by repeat (first | exact True.intro | refine And.intro ?_ ?_ | exact DLead.same | exact rfl | refine ⟨_, rfl, ?_⟩)) ⟨⟨_, _, rfl, rfl, (congrArg (Chunk.arr 3 1) e : _)⟩, trivial⟩ rfl rfl rfl
 intro k ⟨hk, hk0⟩;refine AC.seq (AC.seq (AC.region ?_));refine zm ?_;refine kB ?_;refine AL.p (by exact g_len_own (sz := 1) (els := []) (e' := 0) rfl rfl (by simp only [maxLen]; omega)) rfl ?_;refine zc ?_;refine AL.nil (th_n ?_);refine AC.condD rfl (fun h3 => ?_) (fun h3 => ?_)
 ·refine AC.skip (th_n (AC.block ?_));refine AC.drawn' mixed_ok [[], [], [], [1,2], [], [], [4,5], [1,2,3,4,5,6], [0,1,2,3,4,5,6,7], [0,1,2,3,4,5,6,7,8]] (by decide) ?_;refine zd 0 [] 10 (by exact mv1 rfl) ?_;refine zd 1 [] 10 (by exact mv2 rfl) ?_;refine zd 2 [] 10 (by exact mv1 rfl) ?_;refine zd 3 [1,2] 10 (by exact g_slice_part (e' := 3) (k := n) (l := k) (h := n) (o := k) (q := n - k) (els := ints (fillR a n k)) rfl rfl rfl rfl rfl (.some rfl rfl) .none hk (by rw [hfl k hk]; exact Nat.le_refl _) (Nat.mul_one _) rfl) ?_;refine zd 4 [] 10 (by exact mv2 rfl) ?_;refine zd 5 [] 10 (by exact mv1 rfl) ?_;refine zd 6 [4,5] 10 (by exact g_slice_own (els := ints (fillR a n k)) (e' := 3) (sz := 1) rfl rfl rfl rfl (.some rfl rfl) (by rw [hfl k hk]; exact hk)) ?_;refine zh 7 [1,2,3,4,5,6] 10 (by exact h_copy (e' := 3) (i := k) (k := n - k) (q := min k (n - k)) (new := (ints (fillR a n k)).take k) (els := ints (fillR a n k)) rfl rfl rfl (.part rfl (Nat.mul_one _).symm) rfl (.own rfl rfl (by rw [hfl k hk]; exact hk) rfl) (by rw [hfl k hk]; omega) (by simp only [maxLen]; omega) (by rw [List.length_take, hfl k hk, Nat.min_eq_left hk])) ?_;refine zd 8 [0,1,2,3,4,5,6,7] 10 (by exact g_arith rfl rfl rfl (by exact wrap_i64 (by omega))) ?_;refine zd 9 (List.range 9) 10 (by exact as1 rfl) ?_;refine zj 10 ?_;refine ib_n (th_n ?_);have hq : min k (n - k) ≤ k := Nat.min_le_left ..;have hq2 : min k (n - k) ≤ n - k := Nat.min_le_right ..;have hq3 : 0 < min k (n - k) := by omega
  have e := (fillR_copy (a := a) (n := n) (i := k) (k := k) (q := min k (n - k)) hk hk (by omega) hq).resolve_right (by omega);exact ⟨k + min k (n - k), ⟨by omega, fun _ => by omega⟩, by omega, Weak.ren _ [(100, 100)] hC rfl (by repeat (first | exact True.intro | refine And.intro ?_ ?_ | exact DLead.same | exact rfl | refine ⟨_, rfl, ?_⟩)) ⟨⟨_, _, rfl, rfl, (congrArg (Chunk.arr 3 1) e : _)⟩, trivial⟩ rfl rfl rfl⟩
 refine AC.exit (th_e (th_e (ib_y (th_n (AC.seq ?_)))));have hkn : k = n := by omega
 subst hkn;refine AC.region ?_;refine kB ?_;refine AL.p (by exact as2 rfl) rfl ?_;refine AL.nil (th_n (AC.ret (bq_r ?_)));have e : fillR a k k = List.replicate k a := by simp [fillR]
 exact retN [(0, 100)] rfl (by repeat (first | exact rfl | refine ⟨_, rfl, ?_⟩)) (by rw [← e]; repeat (first | exact True.intro | refine And.intro ?_ ?_ | exact rfl | refine ⟨_, _, rfl, rfl, ?_⟩)) rfl rfl
theorem en_Repeat : Enters Tryz.prog 190 := enters_of Tryz.func190 rfl rfl
def rowsV (sz n : Nat) (V : List Value) : List (List DV) := (List.range n).map fun i => (List.range sz).map fun j => DV.val ((V[i * sz + j]?).getD undef)
theorem rowsV_len (sz n : Nat) (V : List Value) : (rowsV sz n V).length = n := by simp [rowsV]
theorem rowsV_get {sz n : Nat} {V : List Value} {i : Nat} (h : i < n) : (rowsV sz n V)[i]? = some ((List.range sz).map fun j => DV.val ((V[i * sz + j]?).getD undef)) := by simp [rowsV, h]
theorem rowsV_row {sz n : Nat} {V : List Value} {i : Nat} {cs : List DV} (h : (rowsV sz n V)[i]? = some cs) : i < n ∧ cs.length = sz ∧ ∀ (j : Nat) d, cs[j]? = some d → j < sz ∧ d = .val ((V[i * sz + j]?).getD undef) := by
 have hi := (List.getElem?_eq_some_iff.1 h).1;rw [rowsV_len] at hi;rw [rowsV_get hi] at h;simp only [Option.some.injEq] at h;subst h;refine ⟨hi, by simp, fun j d hd => ?_⟩;rw [List.getElem?_map, Option.map_eq_some_iff] at hd;obtain ⟨q, hq, rfl⟩ := hd;have := (List.getElem?_eq_some_iff.1 hq).1
 have h2 : q = j := by
  have := (List.getElem?_eq_some_iff.1 hq).2;simpa using this.symm
 subst h2;exact ⟨by simpa using this, rfl⟩
theorem row_lt {i j n sz : Nat} (hi : i < n) (hj : j < sz) : i * sz + j < n * sz := by
 have h := Nat.mul_le_mul_right sz hi;rw [Nat.succ_mul] at h;omega
theorem flat_len : ∀ {els : List (List DV)} {sz : Nat}, (∀ cs, cs ∈ els → cs.length = sz) → els.flatten.length = els.length * sz
 | [], sz, _ => by simp
 | c :: els, sz, h => by
  rw [List.flatten_cons, List.length_append, flat_len (els := els) (fun cs hc => h cs (List.mem_cons_of_mem _ hc)), h c (by simp), List.length_cons, Nat.succ_mul]; omega
theorem flat_get : ∀ {els : List (List DV)} {sz : Nat} (_ : ∀ cs, cs ∈ els → cs.length = sz) {i j : Nat} {cs : List DV} {d : DV}, els[i]? = some cs → cs[j]? = some d → els.flatten[i * sz + j]? = some d
 | [], sz, _, i, j, cs, d, hi, _ => by simp at hi
 | c :: els, sz, h, i, j, cs, d, hi, hj => by
  have hc := h c (by simp);have hlt := (List.getElem?_eq_some_iff.1 hj).1;cases i with
  | zero =>
   simp at hi; subst hi;rw [List.flatten_cons, Nat.zero_mul, Nat.zero_add, List.getElem?_append_left hlt]; exact hj
  | succ i =>
   rw [List.getElem?_cons_succ] at hi;rw [List.flatten_cons, List.getElem?_append_right (by rw [hc, Nat.succ_mul]; omega), hc, show (i + 1) * sz + j - sz = i * sz + j by rw [Nat.succ_mul]; omega];exact flat_get (fun cs hc => h cs (List.mem_cons_of_mem _ hc)) hi hj
theorem rowsV_flat {els : List (List DV)} {sz : Nat} (h : ∀ cs, cs ∈ els → cs.length = sz) (hz : 0 < sz) {c : Nat} (hc : c < els.flatten.length) : ∃ i j cs d, els[i]? = some cs ∧ cs[j]? = some d ∧ c = i * sz + j ∧ els.flatten[c]? = some d := by
 rw [flat_len h] at hc;have h1 : c / sz < els.length := Nat.div_lt_of_lt_mul (by rw [Nat.mul_comm]; exact hc);have h2 : c % sz < sz := Nat.mod_lt _ hz;have e1 := List.getElem?_eq_getElem h1;have h3 := h _ (List.mem_of_getElem? e1);have e2 : c = c / sz * sz + c % sz := (Nat.div_add_mod' c sz).symm;have e3 := List.getElem?_eq_getElem (show c % sz < (els[c / sz]).length by omega);refine ⟨_, _, _, _, e1, e3, e2, ?_⟩;have := flat_get h e1 e3
 rwa [← e2] at this
theorem TRep.parts {w : World} {S : Nat → Prop} {e sz : Nat} {els : List (List DV)} {v : Value} (h : TRep w S (.view e sz els) v) (hz : 0 < sz) : ∃ (p : Option Nat × Nat) (V : List Value) (S' : Nat → Prop),
  v = .slice (p.1.map fun b => ⟨b, 0, none⟩) els.length p.2 ∧ (p.1 = none → els.length = 0 ∧ p.2 = 0) ∧ V.length = els.length * sz ∧ (∀ cs, cs ∈ els → cs.length = sz) ∧ TL w S' els.flatten V ∧ (∀ k, S k ↔ p.1 = some k ∨ S' k) ∧ (∀ k, p.1 = some k → ¬ S' k) ∧
  (∀ (c : Nat) x, els.flatten[c]? = some (.val x) → V[c]? = some x) ∧ ∀ m F, CRep m F w p (.arr e sz (rowsV sz els.length V)) := by
 cases h with
 | nil h => exact ⟨(none, 0), [], S, rfl, fun _ => ⟨rfl, rfl⟩, by simp, fun cs hc => by simp at hc, ⟨fun _ _ => False, rfl, fun i d v h => by simp at h, fun _ _ _ h => h.elim, fun k => ⟨fun h' => absurd h' (h k), fun ⟨_, h, _⟩ => by simp at h⟩⟩, fun k => by simp, fun k h => by simp at h, fun c x hc => by simp at hc, fun m F => .nil hz⟩
 | @view _ _ _ _ b cap vs fz Ts hb h1 h2 h3 h4 h5 h6 h7 h8 h9 h10 =>
  have hrow : ∀ cs, cs ∈ els → cs.length = sz := fun cs hc => by
   obtain ⟨i, hi⟩ := List.mem_iff_getElem?.1 hc;exact h6 i cs hi
  have hfl := flat_len hrow;have hcap := Nat.mul_le_mul_right sz h3;have hV : ∀ c, c < els.length * sz → ((List.range (els.length * sz)).map fun c => vs.getD c undef)[c]? = some (vs.getD c undef) := fun c hc => by simp [hc]
  have hT : ∀ c d, els.flatten[c]? = some d → TRep w (Ts c) d (vs.getD c undef) := by
   intro c d hd;obtain ⟨i, j, cs, d', e1, e2, rfl, e3⟩ := rowsV_flat hrow h5 (List.getElem?_eq_some_iff.1 hd).1;rw [e3] at hd;obtain rfl : d' = d := by simpa using hd
   exact h7 i cs j d' e1 e2
  refine ⟨(some b, cap), (List.range (els.length * sz)).map fun c => vs.getD c undef, fun k => ∃ c, c < els.length * sz ∧ Ts c k, rfl, fun h => by simp at h, by simp, hrow, ⟨Ts, by simp [hfl], fun c d v hd hv => ?_, h9, fun k => by rw [hfl]⟩, fun k => by rw [h10 k]; simp [eq_comm], fun k hk => ?_, fun c x hc => ?_, fun m F => .arr hb h1 h2 (by rw [rowsV_len]; exact h3) h4 h5 (fun i cs hi => (rowsV_row hi).2.1) (fun i cs j d hi hj => ?_)⟩
  ·have hlt := (List.getElem?_eq_some_iff.1 hd).1;rw [hfl] at hlt;rw [hV c hlt] at hv;simp only [Option.some.injEq] at hv;subst hv;exact hT c d hd
  ·simp only [Option.some.injEq] at hk;subst hk;rintro ⟨c, _, hc⟩;exact h8 c hc
  ·have hlt := (List.getElem?_eq_some_iff.1 hc).1;rw [hfl] at hlt;rw [hV c hlt];have := hT c _ hc;generalize vs.getD c undef = u at this;cases this; rfl
  obtain ⟨hi1, _, hrw⟩ := rowsV_row hi;obtain ⟨hj1, rfl⟩ := hrw j d hj;have hlt := row_lt hi1 hj1;rw [hV _ hlt, Option.getD_some];refine .val ?_;have hlt' : i * sz + j < els.flatten.length := by rw [hfl]; exact hlt
  have hE := List.getElem?_eq_getElem hlt';generalize els.flatten[i * sz + j] = dd at hE;have := hT _ _ hE;generalize vs.getD (i * sz + j) undef = u at this;cases this <;> first | assumption | trivial
theorem TRep.whole {w : World} {m : Nat → Option (Option Nat × Nat)} {F S' : Nat → Prop} {e sz : Nat} {els : List (List DV)} {V : List Value} {p : Option Nat × Nat} (hp : p.1 = none → els.length = 0 ∧ p.2 = 0) (hrow : ∀ cs, cs ∈ els → cs.length = sz) (hL : TL w S' els.flatten V) (hS : ∀ k, p.1 = some k → ¬ S' k)
  (hC : CRep m F w p (.arr e sz (rowsV sz els.length V))) : TRep w (fun k => p.1 = some k ∨ S' k) (.view e sz els) (.slice (p.1.map fun b => ⟨b, 0, none⟩) els.length p.2) := by
 have hfl := flat_len hrow;obtain ⟨Ts, g1, g2, g3, g4⟩ := hL;generalize hE : rowsV sz els.length V = E at hC;cases hC with
 | nil h =>
  have : els = [] := by
   have h2 := congrArg List.length hE;rw [rowsV_len] at h2;exact List.eq_nil_of_length_eq_zero h2
  subst this;refine .nil fun k hk => ?_
  rcases hk with hk | hk
  ·simp at hk
  obtain ⟨i, hi, _⟩ := (g4 k).1 hk;simp at hi
 | @arr b cap _ _ _ vs fz hb hf hsz hl hm h0' hrw hel =>
  subst hE;rw [rowsV_len] at hl;refine .view (fun c k => c < els.length * sz ∧ Ts c k) hb hf hsz hl hm h0' (fun i cs hi => hrow cs (List.mem_of_getElem? hi)) (fun i cs j d hi hj => ?_) (fun c hc => hS b rfl ((g4 b).2 ⟨c, by rw [hfl]; exact hc.1, hc.2⟩)) (fun c c' k h1 h2 => g3 c c' k h1.2 h2.2) (fun k => ?_)
  ·have hi1 := (List.getElem?_eq_some_iff.1 hi).1;have hj1 := (List.getElem?_eq_some_iff.1 hj).1;rw [hrow cs (List.mem_of_getElem? hi)] at hj1;have hlt := row_lt hi1 hj1;have hx := hel i _ j (DV.val ((V[i * sz + j]?).getD undef)) (rowsV_get hi1) (by simp [hj1]);have hfg := flat_get hrow hi hj;have hv := List.getElem?_eq_getElem (show i * sz + j < V.length by omega);have := g2 _ _ _ hfg hv;rw [hv, Option.getD_some] at hx;generalize vs.getD (i * sz + j) undef = u at hx;cases hx;exact this.congr fun k => by simp [hlt]
  rw [g4 k, hfl];constructor
  ·rintro (h | ⟨c, hc, hk⟩)
   ·simp only [Option.some.injEq] at h; exact .inl h.symm
   exact .inr ⟨c, hc, hc, hk⟩
  rintro (rfl | ⟨c, hc, _, hk⟩)
  ·exact .inl rfl
  exact .inr ⟨c, hc, hk⟩
section
variable {P : Program} [PT P] {C : Ctx} {Q : Exit → ASt → Prop} {s : ASt} {ops : Array Oper} {U U' : Nat → Prop} {a : Act} {w : World} {m : Nat → Option (Option Nat × Nat)}
theorem occ_lock {id : Nat} {q : Option Nat × Nat} {k : Nat} (h : occ (none, 0) (.lock id q) k) : False := by
 rcases h with h | h
 ·cases h
 exact h
end
section
variable {P : Program} [PT P] {C : Ctx} {Q : Exit → ASt → Prop} {s : ASt} {ops : Array Oper} {U U' : Nat → Prop} {a : Act} {w : World} {m : Nat → Option (Option Nat × Nat)}
theorem Weak.emptyT : Weak C s { n := s.n, nx := s.nx + 8, sl := s.sl, ch := (s.nx, some (.pred (fun _ => False) fun w => TL w (fun _ => False) [] [])) :: s.ch } := by
 refine ⟨?_⟩;rintro a w ⟨m, hR⟩;refine ⟨_, hR.repack (U' := fun i => s.nx + 8 ≤ i) [(s.nx, .pred (fun _ => False) fun w => TL w (fun _ => False) [] [])] (fun _ => (none, 0)) [] rfl (fun i c h => ?_) (fun i c h => .inl ?_) (fun i hi => ⟨by omega, ?_⟩) (fun i c b h hb => ?_) (fun i i' c c' b h h' _ _ => ?_) (fun F' _ i c h => ?_) (fun hle F' hF i => (hR.sl i).turn hle (fun k hk _ => ⟨hF k hk, rfl⟩))⟩
 ·change (getL i (_ :: _)).getD none = _ at h
  rw [getL_cons] at h;rw [getL_cons]
  split at h
  ·rename_i ei; rw [if_pos ei]; exact .inl (by simpa using h)
  rename_i ei;rw [if_neg ei];exact .inr ⟨rfl, by simp, h⟩
 ·obtain ⟨rfl, _⟩ := getL_one h; exact Nat.le_refl _
 ·rw [getL_cons, if_neg (by omega)]; rfl
 ·obtain ⟨rfl, rfl⟩ := getL_one h;exact (occ_pred' hb).elim
 ·rw [(getL_one h).1, (getL_one h').1]
 obtain ⟨rfl, rfl⟩ := getL_one h;exact .pred (TL.nil w) (fun w w' hk h => h.turn hk) (fun k hk => hk.elim)
theorem WeakR.splitT (id c : Nat) {L : List DV} {V : List Value} {d : DV} {v : Value} {S : Nat → Prop} {K : World → Prop} (hc : s.chunk id = some (.pred S K)) (hK : ∀ w, K w → TL w S L V) (hd : L[c]? = some d) (hv : V[c]? = some v) (hid : Nat.blt id s.nx = true) :
  WeakR C s fun t => ∃ S1 S2, (∀ k, S k ↔ S2 k ∨ S1 k) ∧ t = { n := s.n, nx := s.nx + 8, sl := s.sl, ch := (s.nx, some (.pred S1 fun w => TRep w S1 d v)) :: (id, some (.pred S2 fun w => TX w S2 c L V)) :: s.ch } := by
 refine ⟨?_⟩;rintro a w ⟨m, hR⟩;have hid : id < s.nx := by simpa using hid
 obtain ⟨q0, q1, c1, l1⟩ := hR.ch id _ hc;obtain ⟨rfl, k1, cl1, lt1⟩ := c1.predAt;obtain ⟨S1, S2, hT, hX, hdj, hS⟩ := (hK w k1).split hd hv
 have hnew : ∀ i c0, getL i [(s.nx, Chunk.pred S1 fun w => TRep w S1 d v), (id, .pred S2 fun w => TX w S2 c L V)] = some c0 → (i = s.nx ∧ c0 = .pred S1 fun w => TRep w S1 d v) ∨ (i = id ∧ c0 = .pred S2 fun w => TX w S2 c L V) := by
  intro i c0 h;simp only [getL_cons] at h
  split at h
  ·rename_i ei; exact .inl ⟨ei, by simpa using h.symm⟩
  split at h
  ·rename_i ei; exact .inr ⟨ei, by simpa using h.symm⟩
  simp [getL] at h
 refine ⟨_, ⟨S1, S2, fun k => by rw [hS k, Or.comm], rfl⟩, _, hR.repack (U' := fun i => s.nx + 8 ≤ i) [(s.nx, .pred S1 fun w => TRep w S1 d v), (id, .pred S2 fun w => TX w S2 c L V)] (fun _ => (none, 0)) [id] rfl (fun i c h => ?_) (fun i c h => ?_) (fun i hi => ⟨by omega, ?_⟩) (fun i c b h hb => ?_) (fun i i' c c' b h h' hb hb' => ?_) (fun F' _ i c h => ?_) (fun hle F' hF i => (hR.sl i).turn hle (fun k hk _ => ⟨hF k hk, rfl⟩))⟩
 ·change (getL i (_ :: _ :: _)).getD none = _ at h
  simp only [getL_cons] at h;simp only [getL_cons]
  split at h
  ·rename_i ei; rw [if_pos ei]; exact .inl (by simpa using h)
  rename_i ei;rw [if_neg ei]
  split at h
  ·rename_i ei; rw [if_pos ei]; exact .inl (by simpa using h)
  rename_i ei;rw [if_neg ei];exact .inr ⟨rfl, by simpa using ei, h⟩
 ·rcases hnew i c h with ⟨rfl, _⟩ | ⟨rfl, _⟩
  ·exact .inl (Nat.le_refl _)
  exact .inr q1
 ·simp only [getL_cons];rw [if_neg (by omega), if_neg (by omega)]; rfl
 ·rcases hnew i c h with ⟨rfl, rfl⟩ | ⟨rfl, rfl⟩
  ·exact ⟨id, _, _, by simp, hc, q1, .inr ((hS b).2 (.inl (occ_pred' hb)))⟩
  exact ⟨i, _, _, by simp, hc, q1, .inr ((hS b).2 (.inr (occ_pred' hb)))⟩
 ·rcases hnew i c h with ⟨rfl, rfl⟩ | ⟨rfl, rfl⟩ <;> rcases hnew i' c' h' with ⟨rfl, rfl⟩ | ⟨rfl, rfl⟩
  ·rfl
  ·exact absurd (occ_pred' hb') (hdj b (occ_pred' hb))
  ·exact absurd (occ_pred' hb) (hdj b (occ_pred' hb'))
  rfl
 rcases hnew i c h with ⟨rfl, rfl⟩ | ⟨rfl, rfl⟩
 ·exact .pred hT (fun w w' hk h => h.turn hk) hT.lt
 exact .pred hX (fun w w' hk h => h.turn hk) (fun k hk => lt1 k ((hS k).2 (.inr hk)))
theorem Weak.joinT (id i1 c : Nat) {L : List DV} {V : List Value} {d : DV} {v : Value} {S S1 S2 : Nat → Prop} {K1 : World → Prop} (h2 : s.chunk id = some (.pred S2 fun w => TX w S2 c L V)) (h1 : s.chunk i1 = some (.pred S1 K1)) (hK : ∀ w, K1 w → TRep w S1 d v) (hS : ∀ k, S k ↔ S2 k ∨ S1 k) (hc : c < L.length) (hv : V[c]? = some v) (hne : Nat.beq id i1 = false) :
  Weak C s { n := s.n, nx := s.nx, sl := s.sl, ch := (id, some (.pred S fun w => TL w S (L.set c d) V)) :: (i1, none) :: s.ch } := by
 obtain rfl : S = fun k => S2 k ∨ S1 k := funext fun k => propext (hS k)
 refine Weak.join id i1 _ h2 h1 hne (fun w hX k1 hd => ?_) (fun w w' hk h => h.turn hk);have := hX.join (hK w k1) hc hv (fun k g1 g2 => hd k g2 g1);have e : (fun k => S1 k ∨ S2 k) = fun k => S2 k ∨ S1 k := funext fun k => propext Or.comm
 rw [e] at this;exact this
theorem WeakR.closeN (j id ia : Nat) {e sz n : Nat} {els : List (List DV)} {rows : List (List DV)} {V : List Value} {S' : Nat → Prop} {K : World → Prop} (hs : s.get j = .own ia n) (hn : n = els.length) (hc : s.chunk id = some (.pred S' K)) (hK : ∀ w, K w → TL w S' els.flatten V) (ha : s.chunk ia = some (.arr e sz rows)) (hr : rows = rowsV sz els.length V)
  (hrow : ∀ cs, cs ∈ els → cs.length = sz) (h12 : Nat.beq id ia = false) :
  WeakR C s fun t => ∃ v S, t = { n := s.n, nx := s.nx, sl := (j, .d (.val v)) :: s.sl, ch := (id, some (.pred S fun w => TRep w S (.view e sz els) v)) :: (ia, none) :: s.ch } := by
 subst hn; subst hr;refine ⟨?_⟩;rintro a w ⟨m, hR⟩;obtain ⟨q0, q1, c1, l1⟩ := hR.ch id _ hc;obtain ⟨rfl, k1, cl1, lt1⟩ := c1.predAt;obtain ⟨pa, qa, ca, la⟩ := hR.ch ia _ ha;have h12 : id ≠ ia := Nat.ne_of_beq_eq_false h12;have hd : ∀ k, pa.1 = some k → ¬ S' k := fun k g1 g2 => h12 (hR.inj id ia _ _ _ _ hc ha q1 qa k (.inr g2) (.inl g1))
 have hsl := hR.sl j;rw [hs] at hsl
 obtain ⟨hv, hp⟩ : a.tmps.getD j undef = .slice (pa.1.map fun b => ⟨b, 0, none⟩) els.length pa.2 ∧ (pa.1 = none → els.length = 0 ∧ pa.2 = 0) := by
  generalize a.tmps.getD j undef = u at hsl;cases hsl with
  | own h1 h2 =>
   rw [qa] at h1;simp only [Option.some.injEq] at h1;subst h1;exact ⟨rfl, h2⟩
 have hT : TRep w (fun k => pa.1 = some k ∨ S' k) (.view e sz els) (a.tmps.getD j undef) := by
  rw [hv];exact TRep.whole hp hrow (hK w k1) hd ca
 refine ⟨_, ⟨a.tmps.getD j undef, (fun k => pa.1 = some k ∨ S' k), rfl⟩, _, hR.repack (U' := fun i => s.nx ≤ i) [(id, .pred (fun k => pa.1 = some k ∨ S' k) fun w => TRep w (fun k => pa.1 = some k ∨ S' k) (.view e sz els) (a.tmps.getD j undef))] (fun _ => (none, 0)) [id, ia] rfl (fun i c h => ?_) (fun i c h => .inr ?_) (fun i hi => ⟨hi, ?_⟩) (fun i c b h hb => ?_) (fun i i' c c' b h h' _ _ => ?_) (fun F' _ i c h => ?_) (fun hle F' hF i => ?_)⟩
 ·change (getL i (_ :: _ :: _)).getD none = _ at h
  simp only [getL_cons] at h;rw [getL_cons]
  split at h
  ·rename_i ei; rw [if_pos ei]; exact .inl (by simpa using h)
  rename_i e1;rw [if_neg e1]
  split at h
  ·cases h
  rename_i e2;exact .inr ⟨rfl, by simp [e1, e2], h⟩
 ·obtain ⟨rfl, _⟩ := getL_one h; exact q1
 ·rw [getL_cons]
  split
  ·rename_i ei; subst ei; have := hR.un i hi; rw [q1] at this; cases this
  rfl
 ·obtain ⟨rfl, rfl⟩ := getL_one h;rcases occ_pred' hb with g | g
  ·exact ⟨ia, _, _, by simp, ha, qa, .inl g⟩
  exact ⟨i, _, _, by simp, hc, q1, .inr g⟩
 ·rw [(getL_one h).1, (getL_one h').1]
 ·obtain ⟨rfl, rfl⟩ := getL_one h;exact .pred hT (fun w w' hk h => h.turn hk) hT.lt
 change ARep _ _ _ ((getL i (_ :: _)).getD .dead) _
 rw [getL_cons]
 by_cases hij : i = j
 ·subst hij;rw [if_pos rfl];rw [hv];exact .d (.val trivial)
 rw [if_neg hij]; exact (hR.sl i).turn hle (fun k hk _ => ⟨hF k hk, rfl⟩)
end
theorem TL.congr {w : World} {S S' : Nat → Prop} {L : List DV} {V : List Value} (h : TL w S L V) (he : ∀ k, S k ↔ S' k) : TL w S' L V := by
 have : S = S' := funext fun k => propext (he k)
 subst this; exact h
section
variable {P : Program} [PT P] {C : Ctx} {Q : Exit → ASt → Prop} {s : ASt} {ops : Array Oper}
theorem WeakR.okI (i : Nat) {k : IntKind} {x : Int} (hs : s.get i = .d (.val (.int k x))) : WeakR C s fun t => okV (.int k x) ∧ t = s := by
 refine ⟨fun a w hR => ?_⟩;obtain ⟨m, hm⟩ := hR;have := hm.sl i;rw [hs] at this;refine ⟨s, ⟨?_, rfl⟩, m, hm⟩;generalize a.tmps.getD i undef = u at this;cases this with | d h => cases h with | val h => exact h
theorem retX (ρ : List (Nat × Nat)) {fn : Func} {k : Nat} {R : AV → List (Nat × Chunk) → Prop} {x r : AV} {chs' : List (Nat × Chunk)} (hx : resAV P s fn.results.toList = some x) (hR : R r chs') (h : r.leads (sig k ρ) x) (hc : leadsC (sig k ρ) s (chL chs')) (ha : apartL (sig k ρ) (keysC (chL chs')) = true) (hρ : ρ.all (fun p => Nat.blt p.1 (k + 8)) = true) : RetQ P fn k R s := by
 obtain ⟨x', r', c', ρ', h1, ⟨rfl, rfl⟩, h3, h4, h5, h6⟩ := (retN ρ hx h hc ha hρ : RetQ P fn k (Fun1 r chs') s).out;exact ⟨⟨x', _, _, ρ', h1, hR, h3, h4, h5, h6⟩⟩
theorem h_funR {dst : Option Nat} {ty : Nat} {pos : String} {af : Array Edge} {g : FuncId} {caps ys ars : List AV} {fx : Operand} {xs : Array Operand} {ats : Array TypeId} {chs : List (Nat × Chunk)} {R : AV → List (Nat × Chunk) → Prop} {cs : List Nat} {f : Nat} {gd : Option (Nat × Bool)} (hen : Enters P g) (hf : s.ev fx = .clo g caps) (hys : xs.toList.map s.ev ++ caps = ys)
  (hlead : AV.leadsL (sigC cs) ars ys) (hch : leadsC (sigC cs) s (chL chs)) (hspec : ASpec P g ars chs R) (hkeys : chs.map (·.1) = List.range cs.length) (hlen : chs.length = cs.length) (hnd : nodupB cs = true) :
  NOpR P cs s ⟨dst, .call { callee := .value fx, args := xs, argTypes := ats }, ty, pos, af, gd⟩ f (fun u => ∃ r chs', R r chs' ∧ u = callU cs f r chs') :=
 h_callR (cs := cs) hen hf hys hspec hlead hlen (fun id c h => by
  obtain ⟨⟨j, d, h1, h2, h3⟩, _⟩ := leadsC_get hch id c (by rw [getL_chL]; exact h)
  exact ⟨j, d, h1, h2, h3⟩) (fun id j h => by
  obtain ⟨c, hc⟩ := keys_range hkeys (i := id) (List.mem_range.2 (List.getElem?_eq_some_iff.1 h).1);obtain ⟨⟨j', d, h1, h2, _⟩, _⟩ := leadsC_get hch id c (by rw [getL_chL]; exact hc);have h1' : cs[id]? = some j' := h1;rw [h] at h1';obtain rfl : j = j' := by simpa using h1'
  exact ⟨d, h2⟩) (fun i i' j => nodupB_inj hnd i i' j)
end
section
variable {P : Program} [PT P] {C : Ctx} {Q : Exit → ASt → Prop} {s : ASt} {ops : Array Oper}
theorem WeakR.fact (id : Nat) {S : Nat → Prop} {K : World → Prop} {p : Prop} (hc : s.chunk id = some (.pred S K)) (hp : ∀ w, K w → p) : WeakR C s fun t => p ∧ t = s := by
 refine ⟨fun a w hR => ?_⟩;obtain ⟨m, hm⟩ := hR;obtain ⟨q0, q1, c1, l1⟩ := hm.ch id _ hc;obtain ⟨rfl, k1, _, _⟩ := c1.predAt;exact ⟨s, ⟨hp w k1, rfl⟩, m, hm⟩
theorem TX.gone {w : World} {S : Nat → Prop} {c : Nat} {L : List DV} {V : List Value} {v : Value} (h : TX w S c L V) (hc : c < L.length) (hv : V[c]? = some v) (hok : okV v) : TL w S (L.set c (.val v)) V := by
 have := h.join (S1 := fun _ => False) (.val (fun _ h => h) hok) hc hv (fun _ h => h.elim);exact this.congr fun k => by simp
end
section
variable {P : Program} [PT P] {C : Ctx} {Q : Exit → ASt → Prop} {s : ASt} {ops : Array Oper}
theorem Weak.thaw (j id : Nat) {x : DV} {v : Value} {S : Nat → Prop} {K : World → Prop} (hs : s.get j = .d (.val v)) (hc : s.chunk id = some (.pred S K)) (hK : ∀ w, K w → TRep w S x v) : Weak C s { s with sl := (j, .d x) :: s.sl, ch := (id, none) :: s.ch } := by
 refine ⟨?_⟩;rintro a w ⟨m, hR⟩
 have hch : ∀ j c, (getL j ((id, none) :: s.ch)).getD none = some c → j ≠ id ∧ s.chunk j = some c := by
  intro j c h;rw [getL_cons] at h
  split at h
  ·simp at h
  rename_i e; exact ⟨e, h⟩
 have hF : ∀ q, Fz C m s w q → Fz C m { s with sl := (j, .d x) :: s.sl, ch := (id, none) :: s.ch } w q := fun q hq => ⟨hq.1, hq.2.1, fun j c p h1 h2 => hq.2.2 j c p (hch j c h1).2 h2⟩
 refine ⟨m, hR.fr, hR.fin, hR.sz, fun i => ?_, fun i c h1 => ?_, fun j j' c c' p p' h1 h2 hp hp' b hb hb' => hR.inj j j' c c' p p' (hch j c h1).2 (hch j' c' h2).2 hp hp' b hb hb', hR.un, hR.defers, hR.m0, hR.m0k⟩
 ·show ARep _ _ _ ((getL i ((j, .d x) :: s.sl)).getD .dead) _;rw [getL_cons]
  by_cases hj : i = j
  ·subst hj;rw [if_pos rfl];have hv := hR.sl i;rw [hs] at hv;obtain ⟨q0, q1, c1, l1⟩ := hR.ch id _ hc;obtain ⟨rfl, k1, cl1, lt1⟩ := c1.predAt
   have hD : DRep (Fz C m { s with sl := (i, .d x) :: s.sl, ch := (id, none) :: s.ch } w) w x v := by
    refine (hK w k1).data.mono fun k hk => ⟨.inr (l1 k (.inr hk)), lt1 k hk, fun j' c p h1 h2 h3 => ?_⟩
    obtain ⟨hne, h4⟩ := hch j' c h1;exact hne (hR.inj j' id c _ p _ h4 hc h2 q1 k h3 (.inr hk))
   generalize a.tmps.getD i undef = u at hv;cases hv with
   | d h => cases h; exact .d hD
  rw [if_neg hj];exact (hR.sl i).turn (MLe.refl m) (fun k hk _ => ⟨hF k hk, rfl⟩)
 obtain ⟨_, h2⟩ := hch i c h1;obtain ⟨p, hp, hr, hl⟩ := hR.ch i c h2;exact ⟨p, hp, hr.turn (MLe.refl m) (fun k hk _ => ⟨hF k hk, rfl⟩) (fun _ _ => rfl), hl⟩
theorem TL.nils (w : World) (e sz n : Nat) : TL w (fun _ => False) (List.replicate n (.view e sz [])) (List.replicate n (.slice none 0 0)) := by
 refine ⟨fun _ _ => False, by simp, fun i d v hd hv => ?_, fun _ _ _ h => h.elim, fun k => ⟨fun h => h.elim, fun ⟨_, _, h⟩ => h⟩⟩;obtain rfl := (List.eq_of_mem_replicate (List.mem_of_getElem? hd));obtain rfl := (List.eq_of_mem_replicate (List.mem_of_getElem? hv));exact .nil fun _ h => h
theorem Weak.nilsT (e sz n : Nat) : Weak C s { n := s.n, nx := s.nx + 8, sl := s.sl, ch := (s.nx, some (.pred (fun _ => False) fun w => TL w (fun _ => False) (List.replicate n (.view e sz [])) (List.replicate n (.slice none 0 0)))) :: s.ch } := by
 have h1 : Weak C s _ := Weak.emptyT;refine h1.trans ?_;have h2 := Weak.cons (C := C) (s := { n := s.n, nx := s.nx + 8, sl := s.sl, ch := (s.nx, some (.pred (fun _ => False) fun w => TL w (fun _ => False) [] [])) :: s.ch }) s.nx (fun w => TL w (fun _ => False) (List.replicate n (.view e sz [])) (List.replicate n (.slice none 0 0))) (S := fun _ => False) (K := fun w => TL w (fun _ => False) [] []) (by simp [ASt.chunk, getL_cons]) (fun w _ => TL.nils w e sz n) (fun w w' hk h => h.turn hk);refine h2.trans ⟨fun a w ⟨m, hR⟩ => ⟨m, ?_⟩⟩
 have hg : ∀ i, getL i ((s.nx, some (Chunk.pred (fun _ => False) fun w => TL w (fun _ => False) (List.replicate n (.view e sz [])) (List.replicate n (.slice none 0 0)))) :: (s.nx, some (Chunk.pred (fun _ => False) fun w => TL w (fun _ => False) [] [])) :: s.ch) = getL i ((s.nx, some (Chunk.pred (fun _ => False) fun w => TL w (fun _ => False) (List.replicate n (.view e sz [])) (List.replicate n (.slice none 0 0)))) :: s.ch) := by
  intro i;simp only [getL_cons]
  split <;> rfl
 exact hR.weaken rfl (fun i => .inr rfl) (fun i c h => by
  have h : (getL i ((s.nx, some (Chunk.pred (fun _ => False) fun w => TL w (fun _ => False) (List.replicate n (.view e sz [])) (List.replicate n (.slice none 0 0)))) :: s.ch)).getD none = some c := h;rw [← hg i] at h
  exact h) fun _ h => h
theorem TX.setV {w : World} {S : Nat → Prop} {c : Nat} {L : List DV} {V : List Value} (h : TX w S c L V) (v : Value) : TX w S c L (V.set c v) := by
 obtain ⟨Ts, h1, h2, h3⟩ := h;exact ⟨Ts, by simpa using h1, fun i d u hi hd hv => h2 i d u hi hd (by rwa [List.getElem?_set_ne (fun e => hi e.symm)] at hv), h3⟩
end
section
variable {P : Program} [PT P] {C : Ctx} {Q : Exit → ASt → Prop} {s : ASt}
theorem WeakR.openC (id : Nat) {e sz : Nat} {els : List (List DV)} {v : Value} {S : Nat → Prop} {K : World → Prop} (hc : s.chunk id = some (.pred S K)) (hK : ∀ w, K w → TRep w S (.view e sz els) v) (h0 : Nat.ble 1 sz = true) (hid : Nat.blt id s.nx = true) :
  WeakR C s fun t => ∃ p V S', (v = .slice (p.1.map fun b => ⟨b, 0, none⟩) els.length p.2 ∧ (p.1 = none → els.length = 0 ∧ p.2 = 0) ∧ V.length = els.length * sz ∧ (∀ cs, cs ∈ els → cs.length = sz) ∧ (∀ k, S k ↔ p.1 = some k ∨ S' k) ∧ (∀ (c : Nat) x, els.flatten[c]? = some (.val x) → V[c]? = some x)) ∧
   t = { n := s.n, nx := s.nx + 8, sl := s.sl, ch := (s.nx, some (.arr e sz (rowsV sz els.length V))) :: (s.nx + 1, some (.lock s.nx p)) :: (id, some (.pred S' fun w => TL w S' els.flatten V)) :: s.ch } := by
 refine ⟨?_⟩;rintro a w ⟨m, hR⟩;have hid : id < s.nx := by simpa using hid
 obtain ⟨q0, q1, c1, l1⟩ := hR.ch id _ hc;obtain ⟨rfl, k1, cl1, lt1⟩ := c1.predAt;obtain ⟨p, V, S', hv, hp, hV, hrow, hL, hS, hd, hx, hC⟩ := (hK w k1).parts (Nat.le_of_ble_eq_true h0)
 let new : List (Nat × Chunk) := [(s.nx, .arr e sz (rowsV sz els.length V)), (s.nx + 1, .lock s.nx p), (id, .pred S' fun w => TL w S' els.flatten V)]
 let pm : Nat → Option Nat × Nat := fun i => if i = s.nx then p else (none, 0)
 have hnew : ∀ i c, getL i new = some c → (i = s.nx ∧ c = .arr e sz (rowsV sz els.length V)) ∨ (i = s.nx + 1 ∧ c = .lock s.nx p) ∨ (i = id ∧ c = .pred S' fun w => TL w S' els.flatten V) := by
  intro i c h;simp only [new, getL_cons] at h
  split at h
  ·rename_i ei; exact .inl ⟨ei, by simpa using h.symm⟩
  split at h
  ·rename_i ei; exact .inr (.inl ⟨ei, by simpa using h.symm⟩)
  split at h
  ·rename_i ei; exact .inr (.inr ⟨ei, by simpa using h.symm⟩)
  simp [getL] at h
 have hpm1 : pm s.nx = p := by simp [pm]
 have hpm2 : pm (s.nx + 1) = (none, 0) := by simp [pm]
 have hpm3 : pm id = (none, 0) := by simp [pm, Nat.ne_of_lt hid]
 refine ⟨_, ⟨p, V, S', ⟨hv, hp, hV, hrow, hS, hx⟩, rfl⟩, _, hR.repack (U' := fun i => s.nx + 8 ≤ i) new pm [id] rfl (fun i c h => ?_) (fun i c h => ?_) (fun i hi => ⟨by omega, ?_⟩) (fun i c b h hb => ?_) (fun i i' c c' b h h' hb hb' => ?_) (fun F' _ i c h => ?_) (fun hle F' hF i => ?_)⟩
 ·change (getL i (_ :: _ :: _ :: _)).getD none = _ at h
  simp only [getL_cons] at h;simp only [new, getL_cons]
  split at h
  ·rename_i ei; rw [if_pos ei]; exact .inl (by simpa using h)
  rename_i ei;rw [if_neg ei]
  split at h
  ·rename_i ei; rw [if_pos ei]; exact .inl (by simpa using h)
  rename_i ei;rw [if_neg ei]
  split at h
  ·rename_i ei; rw [if_pos ei]; exact .inl (by simpa using h)
  rename_i ei;rw [if_neg ei];exact .inr ⟨rfl, by simpa using ei, h⟩
 ·rcases hnew i c h with ⟨rfl, _⟩ | ⟨rfl, _⟩ | ⟨rfl, _⟩
  ·exact .inl (Nat.le_refl _)
  ·exact .inl (Nat.le_succ _)
  exact .inr (by rw [hpm3]; exact q1)
 ·simp only [new, getL_cons];rw [if_neg (by omega), if_neg (by omega), if_neg (by omega)]; rfl
 ·rcases hnew i c h with ⟨rfl, rfl⟩ | ⟨rfl, rfl⟩ | ⟨rfl, rfl⟩
  ·rw [hpm1] at hb;exact ⟨id, _, _, by simp, hc, q1, .inr ((hS b).2 (.inl hb.one_arr))⟩
  ·rw [hpm2] at hb;exact (occ_lock hb).elim
  rw [hpm3] at hb;exact ⟨i, _, _, by simp, hc, q1, .inr ((hS b).2 (.inr (occ_pred' hb)))⟩
 ·rcases hnew i c h with ⟨rfl, rfl⟩ | ⟨rfl, rfl⟩ | ⟨rfl, rfl⟩ <;> rcases hnew i' c' h' with ⟨rfl, rfl⟩ | ⟨rfl, rfl⟩ | ⟨rfl, rfl⟩
  all_goals first | rfl | skip
  ·rw [hpm2] at hb'; exact (occ_lock hb').elim
  ·rw [hpm1] at hb; rw [hpm3] at hb'; exact absurd (occ_pred' hb') (hd b hb.one_arr)
  ·rw [hpm2] at hb; exact (occ_lock hb).elim
  ·rw [hpm2] at hb; exact (occ_lock hb).elim
  ·rw [hpm1] at hb'; rw [hpm3] at hb; exact absurd (occ_pred' hb) (hd b hb'.one_arr)
  rw [hpm2] at hb'; exact (occ_lock hb').elim
 ·rcases hnew i c h with ⟨rfl, rfl⟩ | ⟨rfl, rfl⟩ | ⟨rfl, rfl⟩
  ·rw [hpm1]; exact hC _ _
  ·rw [hpm2];refine .lock ?_;rw [mNew_some (c := .arr e sz (rowsV sz els.length V)) (by simp [new, getL_cons]), hpm1]
  rw [hpm3];exact .pred hL (fun w w' hk h => h.turn hk) hL.lt
 exact (hR.sl i).turn hle (fun k hk _ => ⟨hF k hk, rfl⟩)
end
section
variable {P : Program} [PT P] {s : ASt} {dst : Option Nat} {ty : Nat} {pos : String} {af : Array Edge} {gd : Option (Nat × Bool)} {x y : Operand} {f t : Nat} {ts : TS}
theorem g_load_lock {id k e sz i j ia il n : Nat} {els : List (List DV)} {cs : List DV} {v : Value} {p : Option Nat × Nat} (ht : PT.ty P t = some ts) (hr : ts.kind.isRow = false) (h : s.ev x = .ptr id k) (hc : s.chunk id = some (.arr e sz els)) (hk : k = i * sz + j) (hi : els[i]? = some cs) (hj : cs[j]? = some (.val v))
  (hl : s.chunk il = some (.lock ia p)) (hv : v = .slice (p.1.map fun b => ⟨b, 0, none⟩) n p.2) (hp : p.1 = none → n = 0 ∧ p.2 = 0) : GOp P [id, il] s ⟨dst, .load t x, ty, pos, af, gd⟩ (.own ia n) := by
 have h0 := g_load_arr (P := P) (dst := dst) (ty := ty) (pos := pos) (af := af) (gd := gd) ht hr h hc hk hi hj;refine ⟨fun s' ha C U a w m hR => ?_⟩;obtain ⟨u, hrun, hu⟩ := h0.run s' ⟨ha.1, ha.2.1, fun id' hid => ha.2.2 id' (by rw [List.mem_singleton.1 hid]; simp)⟩ C U a w m hR;refine ⟨u, hrun, ?_⟩;have hl' : s'.chunk il = some (.lock ia p) := by rw [ha.2.2 il (by simp)]; exact hl
 obtain ⟨q, hq, hC, _⟩ := hR.ch il _ hl';obtain rfl : u = v := hu.val_eq.1;rw [hv];cases hC with
 | lock hm => exact .own (m := m) (id := ia) (b := p.1) (cap := p.2) hm hp
theorem store_arr_core {id k e sz i j : Nat} {els : List (List DV)} {cs : List DV} {d : DV} {s' : ASt} {C : Ctx} {U U' : Nat → Prop} {a : Act} {w : World} {m : Nat → Option (Option Nat × Nat)} {K : Act → World → Prop} {Q : Exit → Act → World → Prop} (ht : PT.ty P t = some ts) (h1s : ts.size = 1) (hR : RelM C U s' a w m)
  (hxr : ARep m (Fz C m s' w) w (.ptr id k) (a.eval x)) (hc' : s'.chunk id = some (.arr e sz els)) (hyd : DRep (Fz C m s' w) w d (a.eval y)) (hk : k = i * sz + j) (hi : els[i]? = some cs) (hj : j < sz) (hU' : ∀ j, U' j → U j)
  (hK : ∀ a' w' m', RelM C U' (s'.app none ⟨.dead, [(id, some (.arr e sz (els.set i (cs.set j d))))]⟩) a' w' m' → K a' w') : Oper.wp P ⟨none, .store t x y, ty, pos, af, gd⟩ a w K Q := by
 have hd : dstOk none s'.n = true := rfl;have hone := hyd.one
 have hcells : (a.eval y).cells = #[a.eval y] := by
  generalize a.eval y = v at hone;cases v <;> first | rfl | cases hone
 generalize hxv : a.eval x = xv at hxr;cases hxr with
 | ptr hp =>
  rename_i b cap;have hC := hR.chunkAt hc' hp;cases hC with
  | arr hb hf hs hl hm h0 hsz he =>
   rename_i arr fz;have hlt := (List.getElem?_eq_some_iff.1 hi).1;have hcs := hsz i cs hi
   have hin : i * sz + j < arr.size := by
    have : (i + 1) * sz ≤ cap * sz := Nat.mul_le_mul_right _ (by omega);rw [Nat.succ_mul] at this;omega
   have hrun := run_storeAt (P := P) (o := k) ht hb hf (v := a.eval y) (by rw [hcells, h1s]; rfl) (by omega) (fun i hi => by rw [hcells] at hi ⊢; simp at hi; subst hi; exact hone)
   have hg : ∀ q, (setSeg arr k (a.eval y).cells.toList).getD q undef = if q = k then a.eval y else arr.getD q undef := by
    intro q;rw [setSeg_get _ _ _ (by rw [hcells]; simp; omega) q, hcells]
    by_cases hq : q = k
    ·subst hq; simp
    rw [if_neg (by simp; omega), if_neg hq]
   have hR' := hR.turned (i := none) (r := .dead) (v := undef) (w' := w.setCells b k (a.eval y).cells.toList) (c' := .arr e sz (els.set i (cs.set j d))) hd hc' hp (fr_setCells _ w k) (fun F' hF => ⟨.dead, .arr (heap_setCells_at _ w _ k hb) (by rw [setSeg_size]; exact hf) (by rw [setSeg_size]; exact hs) (by simpa using hl) hm h0 (fun i' cs' hi' => ?_) (fun i' cs' j' d' hi' hj' => ?_)⟩)
   ·unfold Oper.wp;simp only [execOp, Sem.run_bind, hxv, hrun, Result.andThen_ok, Sem.run_pure, Oper.upon];exact hK _ _ m (hR'.weaken rfl (fun _ => .inr rfl) (fun _ _ h => h) hU')
   ·by_cases hii : i = i'
    ·subst hii;rw [List.getElem?_set_self hlt] at hi';simp only [Option.some.injEq] at hi';subst hi'; simpa using hcs
    rw [List.getElem?_set_ne hii] at hi';exact hsz i' cs' hi'
   rw [hg]
   by_cases hii : i = i'
   ·subst hii;rw [List.getElem?_set_self hlt] at hi';simp only [Option.some.injEq] at hi';subst hi'
    by_cases hjj : j = j'
    ·subst hjj;rw [if_pos hk.symm];rw [List.getElem?_set_self (by omega)] at hj';simp only [Option.some.injEq] at hj';subst hj';exact hyd.turn (fun k hk _ => hF k hk)
    rw [if_neg (by omega)];rw [List.getElem?_set_ne hjj] at hj';exact (he i cs j' d' hi hj').turn (fun k hk _ => hF k hk)
   have hj2 : j' < sz := by
    rw [List.getElem?_set_ne hii] at hi';have := hsz i' cs' hi';have := (List.getElem?_eq_some_iff.1 hj').1;simpa [‹cs'.length = sz›] using this
   rw [List.getElem?_set_ne hii] at hi';rw [if_neg]
   ·exact (he i' cs' j' d' hi' hj').turn (fun k hk _ => hF k hk)
   rw [hk];intro heq;rcases Nat.lt_or_gt_of_ne hii with h | h
   ·have : (i + 1) * sz ≤ i' * sz := Nat.mul_le_mul_right _ h;rw [Nat.succ_mul] at this;omega
   have : (i' + 1) * sz ≤ i * sz := Nat.mul_le_mul_right _ h;rw [Nat.succ_mul] at this;omega
theorem h_storeRaw {id k e sz i j ia n e2 z2 : Nat} {els els2 els2' : List (List DV)} {cs : List DV} (ht : PT.ty P t = some ts) (h1s : ts.size = 1) (hx : s.ev x = .ptr id k) (hc : s.chunk id = some (.arr e sz els)) (hy : s.ev y = .own ia n) (hca : s.chunk ia = some (.arr e2 z2 els2)) (hn : n ≤ els2.length) (he : els2.take n = els2') (hfl : ∀ cs, cs ∈ els2 → ∀ d, d ∈ cs → d.flat)
  (hk : k = i * sz + j) (hi : els[i]? = some cs) (hj : j < sz) (hne : Nat.beq id ia = false) :
  NOpR P [id, ia] s ⟨none, .store t x y, ty, pos, af, gd⟩ f (fun u => ∃ z : Value × (Nat → Prop), u = ⟨.dead, [(id, some (.arr e sz (els.set i (cs.set j (.val z.1))))), (f, some (.pred z.2 fun w => TRep w z.2 (.view e2 z2 els2') z.1)), (ia, none)]⟩) := by
 subst he;refine ⟨fun s' ha C U U' a w m hR hU hU' hd K Q hK => ?_⟩;have hne : id ≠ ia := Nat.ne_of_beq_eq_false hne;have hxr := hR.ev x;rw [ha.2.1 x (by simp [Op.operands]), hx] at hxr;have hv := hR.ev y;rw [ha.2.1 y (by simp [Op.operands]), hy] at hv;have hc' : s'.chunk id = some (.arr e sz els) := by rw [ha.2.2 id (by simp)]; exact hc
 have hca' : s'.chunk ia = some (.arr e2 z2 els2) := by rw [ha.2.2 ia (by simp)]; exact hca
 obtain ⟨p, hp, hC, hloc⟩ := hR.ch ia _ hca'
 have key : ∃ S, (∀ b, S b → occ p (.arr e2 z2 els2) b) ∧ TRep w S (.view e2 z2 (els2.take n)) (a.eval y) ∧ okV (a.eval y) := by
  generalize a.eval y = v at hv;cases hv with
  | own hq h0 =>
   rename_i cap b;rw [hp] at hq;obtain rfl : p = (b, cap) := by simpa using hq
   cases hC with
   | nil h =>
    obtain rfl : n = 0 := by simpa using hn
    exact ⟨fun _ => False, fun b hb => hb.elim, .nil (fun _ h => h), trivial⟩
   | arr hb hf hsz hl hm h0' hrow hel =>
    rename_i b arr fz;have hlen : (els2.take n).length = n := by simp; omega
    have hsub : ∀ (i : Nat) cs, (els2.take n)[i]? = some cs → els2[i]? = some cs := by
     intro i cs hi;rw [List.getElem?_take] at hi
     split at hi
     ·exact hi
     cases hi
    have := TRep.view (w := w) (S := fun k => k = b) (e := e2) (sz := z2) (els := els2.take n) (b := b) (cap := cap) (fun _ _ => False) hb hf hsz (by omega) hm h0' (fun i cs hi => hrow i cs (hsub i cs hi)) (fun i cs q d hi hj => ?_) (fun _ h => h) (fun _ _ _ h => h.elim) (fun k => ⟨fun h => .inl h, fun h => h.elim (fun h => h) fun ⟨_, _, h⟩ => h.elim⟩)
    ·rw [hlen] at this;exact ⟨_, fun k hk => by subst hk; exact .inl rfl, this, trivial⟩
    have h1 := hel i cs q d (hsub i cs hi) hj;have h2 := hfl cs (List.mem_of_getElem? (hsub i cs hi)) d (List.mem_of_getElem? hj);cases d with
    | val u =>
     generalize arr.getD (i * z2 + q) undef = u' at h1 ⊢;cases h1 with
     | val h3 => exact .val (fun _ h => h) h3
    | _ => exact h2.elim
 obtain ⟨S, hS, hT, hok⟩ := key;have hUf : U f := by simpa using hU 0 (by omega)
 have hmf := hR.un f hUf;have hidf : id ≠ f := by rintro rfl; obtain ⟨q, hq, _⟩ := hR.ch id _ hc'; rw [hmf] at hq; cases hq
 have hiaf : ia ≠ f := by rintro rfl; rw [hmf] at hp; cases hp
 have hR1 : RelM C (fun i => U i ∧ i ≠ f) { s' with ch := (f, some (.pred S fun w => TRep w S (.view e2 z2 (els2.take n)) (a.eval y))) :: (ia, none) :: s'.ch } a w _ := hR.repack [(f, .pred S fun w => TRep w S (.view e2 z2 (els2.take n)) (a.eval y))] (fun _ => (none, 0)) [ia] rfl (fun i c h => by
   change (getL i (_ :: _ :: _)).getD none = _ at h
   rw [getL_cons] at h;rw [getL_cons]
   split at h
   ·rename_i ei; rw [if_pos ei]; exact .inl (by simpa using h)
   ·rename_i ei;rw [if_neg ei];rw [getL_cons] at h
    split at h
    ·cases h
    rename_i ei'; exact .inr ⟨rfl, by simpa using ei', h⟩) (fun i c h => .inl (by obtain ⟨rfl, _⟩ := getL_one h; exact hUf)) (fun i hi => ⟨hi.1, by rw [getL_cons, if_neg hi.2]; rfl⟩) (fun i c b h hb => by
   obtain ⟨rfl, rfl⟩ := getL_one h
   exact ⟨ia, _, p, by simp, hca', hp, hS b (occ_pred' hb)⟩) (fun i i' c c' b h h' _ _ => by rw [(getL_one h).1, (getL_one h').1]) (fun F' _ i c h => by
   obtain ⟨rfl, rfl⟩ := getL_one h
   exact .pred hT (fun w w' hk h => h.turn hk) hT.lt) (fun hle F' hF i => (hR.sl i).turn hle (fun k hk _ => ⟨hF k hk, rfl⟩))
 have hx1 := hR1.ev x;rw [show ({ s' with ch := (f, some (.pred S fun w => TRep w S (.view e2 z2 (els2.take n)) (a.eval y))) :: (ia, none) :: s'.ch } : ASt).ev x = s'.ev x by rfl, ha.2.1 x (by simp [Op.operands]), hx] at hx1
 refine store_arr_core (i := i) (j := j) (d := .val (a.eval y)) ht h1s hR1 hx1 (by
  show (getL id (_ :: _ :: _)).getD none = _
  rw [getL_cons, if_neg hidf, getL_cons, if_neg hne]; exact hc') (.val hok) hk hi hj (U' := U') (fun j hj => ⟨(hU' j hj).1, by have := (hU' j hj).2; omega⟩) (fun a' w' m' hR' => ?_)
 exact hK _ ⟨(a.eval y, S), rfl⟩ a' w' m' hR'
end
theorem goS_agree {L : Nat → Bool} : ∀ (os : List Oper) (rs rs' : List ORec) (k : Nat) (a : List (Nat × AV)), rs.length = rs'.length → (∀ i, i < os.length → L (k + i) = true → rs[i]? = rs'[i]?) → goS L k os rs a = goS L k os rs' a
 | [], rs, rs', k, a, _, _ => by cases rs <;> cases rs' <;> simp [goS]
 | o :: os, [], [], k, a, _, _ => rfl
 | o :: os, [], _ :: _, k, a, h, _ => by simp at h
 | o :: os, _ :: _, [], k, a, h, _ => by simp at h
 | o :: os, r :: rs, r' :: rs', k, a, hl, h => by
  simp only [goS];have ih := fun a => goS_agree os rs rs' (k + 1) a (by simpa using hl) (fun i hi hL => by have := h (i + 1) (by simpa using hi) (by rw [show k + (i + 1) = k + 1 + i by omega]; exact hL); simpa using this)
  cases hL : L k with
  | false => cases o.dst <;> exact ih _
  | true =>
   have e := h 0 (by simp) (by rwa [Nat.add_zero]);simp only [List.getElem?_cons_zero, Option.some.injEq] at e;subst e;cases o.dst <;> exact ih _
theorem goC_agree {L : Nat → Bool} : ∀ (os : List Oper) (rs rs' : List ORec) (k : Nat) (a : List (Nat × Option Chunk)), rs.length = rs'.length → (∀ i, i < os.length → L (k + i) = true → rs[i]? = rs'[i]?) → goC L k os rs a = goC L k os rs' a
 | [], rs, rs', k, a, _, _ => by cases rs <;> cases rs' <;> simp [goC]
 | o :: os, [], [], k, a, _, _ => rfl
 | o :: os, [], _ :: _, k, a, h, _ => by simp at h
 | o :: os, _ :: _, [], k, a, h, _ => by simp at h
 | o :: os, r :: rs, r' :: rs', k, a, hl, h => by
  simp only [goC];have ih := fun a => goC_agree os rs rs' (k + 1) a (by simpa using hl) (fun i hi hL => by have := h (i + 1) (by simpa using hi) (by rw [show k + (i + 1) = k + 1 + i by omega]; exact hL); simpa using this)
  cases hL : L k with
  | false => exact ih _
  | true =>
   have e := h 0 (by simp) (by rwa [Nat.add_zero]);simp only [List.getElem?_cons_zero, Option.some.injEq] at e;subst e;exact ih _
section
variable {P : Program} {C : Ctx} {Q : Exit → ASt → Prop} {s : ASt} {ops : List Oper} {anc : List (List Nat)}
def StepX (P : Program) (ops : List Oper) (anc : List (List Nat)) (s : ASt) (F : List ORec → Prop) (R : List ORec) (i : Nat) (o : Oper) (r : ORec) : Prop :=
 StepOk P ops (mkS s (fun k => memL k (ancAt anc i)) ops (R.take i)) o r.2 (s.nx + 8 * i) r.1 ∨
 (o.guard = none ∧ ∃ T : Upd → Prop, NOpR P r.2 (mkS s (fun k => memL k (ancAt anc i)) ops (R.take i)) o (s.nx + 8 * i) T ∧ ∀ u, T u → ∃ R', F R' ∧ R'[i]? = some (u, r.2) ∧ ∀ j, j ≠ i → i ∉ ancAt anc j → R'[j]? = R[j]?)
set_option maxHeartbeats 1000000 in
theorem dr_anyX {F : List ORec → Prop} (hanc : ancOk ops anc = true) (hF : ∀ R, F R → R.length = ops.length ∧ indepOk ops anc R = true ∧ Q .normal (mkS s (fun _ => true) ops R))
  (hstep : ∀ R, F R → ∀ i o r, ops[i]? = some o → R[i]? = some r → dstOk o.dst s.n = true ∧ StepX P ops anc s F R i o r) :
  ∀ (fuel : Nat) (listed : Array Bool) (recs : List ORec), F recs → ∀ (a : Act) (w : World) (m : Nat → Option (Option Nat × Nat)), listed.size = ops.length → cntF (fun i => listed.getD i false) ops.length = fuel → (∀ i o, ops[i]? = some o → listed.getD i false = true → ∀ d, d ∈ deps o → listed.getD d false = true) →
   RelM C (UL s ops.length (fun i => listed.getD i false)) (mkS s (fun i => listed.getD i false) ops recs) a w m → wpAny P .any ops.toArray (Qc C Q) fuel listed a w := by
 have hready : ∀ (listed : Array Bool), listed.size = ops.length → ∀ i, i ∈ Region.ready .any ops.toArray listed ↔ ∃ o, ops[i]? = some o ∧ listed.getD i false = false ∧ ∀ d, d ∈ deps o → listed.getD d false = true := by
  intro listed hsz i;rw [mem_ready];have hg : ∀ i, i < ops.length → listed.getD i true = listed.getD i false := fun i hi => by simp [Array.getD_eq_getD_getElem?, show i < listed.size by omega]
  constructor
  ·rintro ⟨h0, o, ho, hall⟩;have ho' : ops[i]? = some o := by simpa using ho
   refine ⟨o, ho', by rw [← hg i (List.getElem?_eq_some_iff.1 ho').1]; exact h0, fun d hd => ?_⟩;simp only [deps, List.mem_map, List.mem_filter] at hd;obtain ⟨e, ⟨he, hb⟩, rfl⟩ := hd;exact hall e (by simpa using he) hb
  rintro ⟨o, ho, h0, hall⟩;refine ⟨by rw [hg i (List.getElem?_eq_some_iff.1 ho).1]; exact h0, o, by simpa using ho, fun e he hb => hall e.on ?_⟩;simp only [deps, List.mem_map, List.mem_filter];exact ⟨e, ⟨by simpa using he, hb⟩, rfl⟩
 have hnone : ∀ (listed : Array Bool), listed.size = ops.length → Region.ready .any ops.toArray listed = [] → ∀ i, i < ops.length → listed.getD i false = true := by
  intro listed hsz hr i
  induction i using Nat.strongRecOn with
  | _ i ih =>
   intro hi;cases hL : listed.getD i false with
   | true => rfl
   | false =>
    have ho := List.getElem?_eq_getElem hi;have : i ∈ Region.ready .any ops.toArray listed := (hready listed hsz i).2 ⟨_, ho, hL, fun d hd => ih d (deps_lt hanc ho hd) (by have := deps_lt hanc ho hd; omega)⟩;rw [hr] at this; cases this
 have hend : ∀ (recs : List ORec), F recs → ∀ (listed : Array Bool) a w m, (∀ i, i < ops.length → listed.getD i false = true) → RelM C (UL s ops.length (fun i => listed.getD i false)) (mkS s (fun i => listed.getD i false) ops recs) a w m → Qc C Q .normal a w := by
  intro recs hFr listed a w m hall hR;obtain ⟨hlen, hind, hfin⟩ := hF recs hFr;refine ⟨mkS s (fun _ => true) ops recs, ⟨m, hR.weaken (s' := mkS s (fun _ => true) ops recs) rfl (fun t => .inr ?_) (fun id c hc => ?_) (fun j hj => .inl hj)⟩, hfin⟩
  ·show (getL t (goS _ 0 ops recs s.sl)).getD .dead = (getL t (goS _ 0 ops recs s.sl)).getD .dead;rw [goS_same (L := fun _ => true) (L' := fun i => listed.getD i false) ops recs 0 s.sl s.sl (fun i o hi _ => by simp only [Nat.zero_add]; exact (hall i (List.getElem?_eq_some_iff.1 hi).1).symm) rfl]
  have : (mkS s (fun _ => true) ops recs).chunk id = (mkS s (fun i => listed.getD i false) ops recs).chunk id := by
   show (getL id (goC _ 0 ops recs s.ch)).getD none = (getL id (goC _ 0 ops recs s.ch)).getD none;rw [goC_same (L := fun _ => true) (L' := fun i => listed.getD i false) ops recs 0 s.ch s.ch (fun i r hi _ => by simp only [Nat.zero_add]; exact (hall i (by have := (List.getElem?_eq_some_iff.1 hi).1; omega)).symm) rfl]
  rw [← this]; exact hc
 intro fuel
 induction fuel with
 | zero =>
  intro listed recs hFr a w m hsz hcnt hcl hR;have hall : ∀ i, i < ops.length → listed.getD i false = true := fun i hi => cntF_zero hcnt i hi
  refine ⟨?_, hend recs hFr listed a w m hall hR⟩;cases hr : Region.ready .any ops.toArray listed with
  | nil => rfl
  | cons i l =>
   obtain ⟨o, ho, h0, _⟩ := (hready listed hsz i).1 (by rw [hr]; simp);rw [hall i (List.getElem?_eq_some_iff.1 ho).1] at h0; cases h0
 | succ fuel ih =>
  intro listed recs hFr a w m hsz hcnt hcl hR;obtain ⟨hlen, hind, hfin⟩ := hF recs hFr;refine ⟨fun hr => hend recs hFr listed a w m (hnone listed hsz hr) hR, fun i hi => ?_⟩;obtain ⟨o, ho, h0, hd⟩ := (hready listed hsz i).1 hi;have hil := (List.getElem?_eq_some_iff.1 ho).1;obtain ⟨r, hr⟩ : ∃ r, recs[i]? = some r := ⟨_, List.getElem?_eq_getElem (by omega)⟩;obtain ⟨hdst, hst⟩ := hstep recs hFr i o r ho hr;have hanci : ∀ j, j ∈ ancAt anc i → listed.getD j false = true := anc_in (L := fun i => listed.getD i false) hanc hcl (i + 1) i o (by omega) ho hd
  have hdesc : ∀ j, j < ops.length → i ∈ ancAt anc j → listed.getD j false = false := by
   intro j hj hij;cases hL : listed.getD j false with
   | false => rfl
   | true =>
    have hoj := List.getElem?_eq_getElem hj;have := anc_in (L := fun i => listed.getD i false) hanc hcl (j + 1) j _ (by omega) hoj (hcl j _ hoj hL) i hij;rw [h0] at this; cases this
  have hL' : ∀ j, (listed.setIfInBounds i true).getD j false = (listed.getD j false || j == i) := by
   intro j
   by_cases hj : j = i
   ·subst hj; simp [Array.getD_eq_getD_getElem?, show j < listed.size by omega]
   simp [Array.getD_eq_getD_getElem?, Array.getElem?_setIfInBounds_ne (Ne.symm hj), hj]
  have hlt : ∀ k, memL k (ancAt anc i) = true → k < i := fun k hk => anc_lt hanc hil (memL_iff.1 hk)
  have hsame : ∀ k, k < ops.length → (k ∉ ancAt anc i → i ∉ ancAt anc k → k ≠ i → False) → listed.getD k false = memL k (ancAt anc i) := by
   intro k hkl hex
   by_cases hka : k ∈ ancAt anc i
   ·rw [hanci k hka]; exact (memL_iff.2 hka).symm
   have e1 : memL k (ancAt anc i) = false := memL_not.2 hka;rw [e1]
   by_cases hki : k = i
   ·subst hki; exact h0
   by_cases hik : i ∈ ancAt anc k
   ·exact hdesc k hkl hik
   exact (hex hka hik hki).elim
  have hagr : AgrT ops r.2 o (mkS s (fun k => memL k (ancAt anc i)) ops (recs.take i)) (mkS s (fun i => listed.getD i false) ops recs) := by
   refine ⟨rfl, fun t ht => ?_, fun id hid => ?_⟩
   ·show (getL t (goS _ 0 ops recs s.sl)).getD .dead = (getL t (goS _ 0 ops (recs.take i) s.sl)).getD .dead;have := goS_cut hlt ops recs 0 s.sl;rw [Nat.sub_zero] at this;rw [this, goS_same (L := fun i => listed.getD i false) (L' := fun k => memL k (ancAt anc i)) ops recs 0 s.sl s.sl (fun k ok hk hdk => ?_) rfl];simp only [Nat.zero_add];have hkl := (List.getElem?_eq_some_iff.1 hk).1;refine hsame k hkl (fun hka hik hki => ?_);obtain ⟨rk, hrk⟩ : ∃ rk, recs[k]? = some rk := ⟨_, List.getElem?_eq_getElem (by omega)⟩;exact absurd ht ((indep_of hind ho hk hr hrk (Ne.symm hki) hka hik).1 t hdk).1
   show (getL id (goC _ 0 ops recs s.ch)).getD none = (getL id (goC _ 0 ops (recs.take i) s.ch)).getD none;have := goC_cut hlt ops recs 0 s.ch;rw [Nat.sub_zero] at this;rw [this, goC_same (L := fun i => listed.getD i false) (L' := fun k => memL k (ancAt anc i)) ops recs 0 s.ch s.ch (fun k rk hrk hdk => ?_) rfl];simp only [Nat.zero_add];have hkl : k < ops.length := by have := (List.getElem?_eq_some_iff.1 hrk).1; omega
   refine hsame k hkl (fun hka hik hki => ?_);exact absurd hid ((indep_of hind ho (List.getElem?_eq_getElem hkl) hr hrk (Ne.symm hki) hka hik).2 id (keysU_of hdk)).1
  have hnext0 : ∀ recs, F recs → ∀ r, recs[i]? = some r → ∀ a' w' m', RelM C (UL s ops.length (fun j => (listed.setIfInBounds i true).getD j false)) ((mkS s (fun i => listed.getD i false) ops recs).app o.dst r.1) a' w' m' → wpAny P .any ops.toArray (Qc C Q) fuel (listed.setIfInBounds i true) a' w' := by
   intro recs hFr r hr a' w' m' hR';obtain ⟨hlen, hind, hfin⟩ := hF recs hFr;refine ih (listed.setIfInBounds i true) recs hFr a' w' m' (by simpa using hsz) ?_ ?_ ?_
   ·have := (cntF_set (L := fun i => listed.getD i false) (L' := fun j => (listed.setIfInBounds i true).getD j false) (i := i) h0 (by simp only [hL']; simp) (fun j hj => by simp only [hL']; simp [hj]) ops.length).1 hil;omega
   ·intro k ok hk hLk d hdd;rw [hL'] at hLk ⊢;simp only [Bool.or_eq_true, beq_iff_eq] at hLk ⊢;rcases hLk with h | h
    ·exact .inl (hcl k ok hk h d hdd)
    subst h;rw [ho] at hk;obtain rfl : o = ok := by simpa using hk
    exact .inl (hd d hdd)
   have e1 : (fun j => (listed.setIfInBounds i true).getD j false) = (fun j => (fun k => listed.getD k false) j || j == i) := funext hL';refine hR'.weaken (by rw [ASt.n_app]; rfl) (fun t => .inr ?_) (fun id c hc => ?_) (fun j hj => hj)
   ·rw [ASt.get_app];show (getL t (goS (fun j => (listed.setIfInBounds i true).getD j false) 0 ops recs s.sl)).getD .dead = _;rw [e1, goS_more (L := fun k => listed.getD k false) (i := i) (r0 := r) ops recs 0 s.sl o (Nat.zero_le _) (by simpa using ho) (by simpa using hr) (fun j oj hj hij hLj hdj hdi => ?_)]
    ·by_cases hdt : o.dst = some t
     ·rw [if_pos hdt, if_pos hdt]; rfl
     rw [if_neg hdt, if_neg hdt]; rfl
    rw [Nat.zero_add] at hij hLj;have hjl := (List.getElem?_eq_some_iff.1 hj).1;obtain ⟨rj, hrj⟩ : ∃ rj, recs[j]? = some rj := ⟨_, List.getElem?_eq_getElem (by omega)⟩
    by_cases hja : j ∈ ancAt anc i
    ·have := anc_lt hanc hil hja; omega
    by_cases hij2 : i ∈ ancAt anc j
    ·rw [hdesc j hjl hij2] at hLj; cases hLj
    exact ((indep_of hind ho hj hr hrj (by omega) hja hij2).1 t hdj).2 hdi
   rw [ASt.chunk_app];have hc2 : (getL id (goC (fun j => (listed.setIfInBounds i true).getD j false) 0 ops recs s.ch)).getD none = some c := hc;rw [e1, goC_more (t := id) (L := fun k => listed.getD k false) (i := i) (r0 := r) ops recs 0 s.ch hlen.symm (Nat.zero_le _) (by simpa using hr) (fun j rj hrj hij hLj hdj => ?_)] at hc2
   ·cases hg : getL id r.1.ch with
    | some x => rw [hg] at hc2; simpa using hc2
    | none => rw [hg] at hc2; rw [Option.none_or] at hc2; exact hc2
   rw [Nat.zero_add] at hij hLj;have hjl : j < ops.length := by have := (List.getElem?_eq_some_iff.1 hrj).1; omega
   by_cases hja : j ∈ ancAt anc i
   ·have := anc_lt hanc hil hja; omega
   by_cases hij2 : i ∈ ancAt anc j
   ·rw [hdesc j hjl hij2] at hLj; cases hLj
   exact keysU_none ((indep_of hind ho (List.getElem?_eq_getElem hjl) hr hrj (by omega) hja hij2).2 id (keysU_of hdj)).2
  have hnext := hnext0 recs hFr r hr;have hU1 : ∀ k, k < 8 → UL s ops.length (fun i => listed.getD i false) (s.nx + 8 * i + k) := fun k hk => .inr ⟨i, hil, h0, by omega, by omega⟩
  have hU2 : ∀ j, UL s ops.length (fun j => (listed.setIfInBounds i true).getD j false) j → UL s ops.length (fun i => listed.getD i false) j ∧ (j < s.nx + 8 * i ∨ s.nx + 8 * i + 8 ≤ j) := by
   rintro j (hj | ⟨k, hk, hLk, h1, h2⟩)
   ·exact ⟨.inl hj, .inr (by omega)⟩
   have hLk' : (listed.getD k false || k == i) = false := by rw [← hL']; exact hLk
   simp only [Bool.or_eq_false_iff, beq_eq_false_iff_ne] at hLk';exact ⟨.inr ⟨k, hk, hLk'.1, h1, h2⟩, by omega⟩
  have hoa : ops.toArray[i]? = some o := by simpa using ho
  have hrun : NOp P r.2 (mkS s (fun k => memL k (ancAt anc i)) ops (recs.take i)) o (s.nx + 8 * i) r.1 → o.wp P a w (wpAny P .any ops.toArray (Qc C Q) fuel (listed.setIfInBounds i true)) (Qc C Q) := fun hn =>
   hn.run _ hagr.agr C _ _ a w m hR hU1 hU2 hdst _ _ hnext
  have hyield : ∀ j t b, ((ops[j]?).bind (·.dst)) = some t → Nat.blt t s.n = true → (mkS s (fun i => listed.getD i false) ops recs).get t = aT b → yielded ops.toArray a.tmps j = some b := by
   intro j t b h1 h2 h3;have := hR.sl t;rw [h3] at this;have hv := this.val_eq.1;have hlt : t < a.tmps.size := by rw [hR.sz]; simpa [mkS] using h2
   have h4 : a.tmps[t]? = some (.bool b) := by
    rw [Array.getElem?_eq_getElem hlt];rw [Array.getD_eq_getD_getElem?, Array.getElem?_eq_getElem hlt] at hv;simpa using hv
   simp [yielded, h1, h4]
  have hskip : r.1 = ⟨.und, []⟩ → wpAny P .any ops.toArray (Qc C Q) fuel (listed.setIfInBounds i true) (a.put o.dst undef) w := by
   intro hu;refine hnext _ _ m ?_;rw [hu];exact (hR.setSlot (x := .und) (v := undef) hdst .und).weaken rfl (fun _ => .inr rfl) (fun _ _ h => h) (fun j hj => (hU2 j hj).1)
  have hlook : ∀ j w t, o.guard = some (j, w) → ((ops[j]?).bind (·.dst)) = some t → t ∈ looksT ops o := by
   intro j w t h1 h2;refine List.mem_append_right _ ?_;rw [h1]; simp [h2]
  unfold wpOp;rw [hoa];simp only;rcases hst with hst | ⟨hg, T, hn, hT⟩
  rotate_left
  ·rw [if_pos (by simp [Region.wanted, hg])];refine .inl (hn.run _ hagr.agr C _ _ a w m hR hU1 hU2 hdst _ _ (fun u hu a' w' m' hR' => ?_));obtain ⟨R', hFR, hRi, hag⟩ := hT u hu
   have he : mkS s (fun i => listed.getD i false) ops recs = mkS s (fun i => listed.getD i false) ops R' := by
    have hlR := (hF R' hFR).1;have key : ∀ j, j < ops.length → listed.getD j false = true → recs[j]? = R'[j]? := fun j hj hL => (hag j (fun e => by rw [e, h0] at hL; cases hL) (fun hij => by rw [hdesc j hj hij] at hL; cases hL)).symm
    unfold mkS;rw [goS_agree ops recs R' 0 s.sl (by omega) (fun j hj hL => key j hj (by rwa [Nat.zero_add] at hL)), goC_agree ops recs R' 0 s.ch (by omega) (fun j hj hL => key j hj (by rwa [Nat.zero_add] at hL))]
   rw [he] at hR';exact hnext0 R' hFR _ hRi a' w' m' hR'
  cases hst with
  | free hg hn => rw [if_pos (by simp [Region.wanted, hg])]; exact .inl (hrun hn)
  | @yes j t b hg ht htn hs hn =>
   rw [if_pos (by simp [Region.wanted, hg, hyield j t b ht htn ((hagr.get t (hlook j b t hg ht)).trans hs)])];exact .inl (hrun hn)
  | @no j t b b' hg ht htn hs hb hu =>
   rw [if_neg (by simp [Region.wanted, hg, hyield j t b' ht htn ((hagr.get t (hlook j b t hg ht)).trans hs), hb])];exact hskip hu
  | @noU j t b hg ht hs hu =>
   have hux := hR.sl t;rw [(hagr.get t (hlook j b t hg ht)).trans hs] at hux
   have hy : yielded ops.toArray a.tmps j = none := by
    generalize hv : a.tmps.getD t undef = v at hux;cases hux;have ht' : ((ops.toArray[j]?).bind (·.dst)) = some t := by simpa using ht
    unfold yielded;rw [ht'];rw [Array.getD_eq_getD_getElem?] at hv;simp only [Option.bind_some];cases hq : a.tmps[t]? with
    | none => rfl
    | some v => rw [hq] at hv; simp only [Option.getD_some] at hv; subst hv; rfl
   rw [if_neg (by simp [Region.wanted, hg, hy])];exact hskip hu
inductive DX (P : Program) (ops : List Oper) (anc : List (List Nat)) (s : ASt) (Q : Exit → ASt → Prop) : List FRec → (List ORec → Prop) → Prop
 | fin {l : List FRec} {ps : List (Nat × Nat)} : Nat.beq l.length ops.length = true → coverOk ops.length anc ps = true → slotOk ops ps = true → idsF l ps = true → Q .normal (mkAll s ops.length l) → DX P ops anc s Q l (fun R => R = fwd l)
 | op {l : List FRec} {o : Oper} {ids : List Nat} {u : Upd} {F : List ORec → Prop} : ops[l.length]? = some o → StepOk P ops (mkF s ops.length (ancAt anc l.length) l) o ids (s.nx + 8 * l.length) u → dstOk o.dst s.n = true → DX P ops anc s Q ((l.length, o.dst, u, ids) :: l) F → DX P ops anc s Q l F
 | opX {l : List FRec} {o : Oper} {ids : List Nat} {ι : Type} {us : ι → Upd} {F : ι → List ORec → Prop} (x₀ : ι) : ops[l.length]? = some o → o.guard = none → NOpR P ids (mkF s ops.length (ancAt anc l.length) l) o (s.nx + 8 * l.length) (fun u => ∃ x, u = us x) → dstOk o.dst s.n = true → (∀ x, DX P ops anc s Q ((l.length, o.dst, us x, ids) :: l) (F x)) →
   (∀ x y R R', F x R → F y R' → ∀ j, l.length < j → l.length ∉ ancAt anc j → R'[j]? = R[j]?) → DX P ops anc s Q l (fun R => ∃ x, F x R)
theorem DX.ex {l : List FRec} {F : List ORec → Prop} (h : DX P ops anc s Q l F) : ∃ R, F R := by
 induction h with
 | fin => exact ⟨_, rfl⟩
 | op _ _ _ _ ih => exact ih
 | opX x₀ _ _ _ _ _ _ ih => obtain ⟨R, hR⟩ := ih x₀; exact ⟨R, x₀, hR⟩
theorem FOk.pre {ops : List Oper} {i : Nat} {d : Option Nat} {u : Upd} {ids : List Nat} {l : List FRec} : fwd l <+: fwd ((i, d, u, ids) :: l) := by rw [fwd_cons]; exact List.prefix_append _ _
theorem DX.facts {l : List FRec} {F : List ORec → Prop} (h : DX P ops anc s Q l F) : FOk ops l → ∀ R, F R → fwd l <+: R ∧ (R.length = ops.length ∧ indepOk ops anc R = true ∧ Q .normal (mkS s (fun _ => true) ops R)) ∧ ∀ i o r, l.length ≤ i → ops[i]? = some o → R[i]? = some r → dstOk o.dst s.n = true ∧ StepX P ops anc s F R i o r := by
 induction h with
 | @fin l ps h1 h2 h3 h4 h5 =>
  rintro hf R rfl;have hlen : l.length = ops.length := by simpa using h1
  refine ⟨List.prefix_rfl, ⟨by rw [fwd_len, hlen], indep_parts h2 h3 (idsF_ok hf hlen h3 h4), ?_⟩, fun i o r hi ho => by have := (List.getElem?_eq_some_iff.1 ho).1; omega⟩;have : mkS s (fun _ => true) ops (fwd l) = mkAll s ops.length l := by simp [mkS, mkAll, goS_A hf, goC_A hf]
  rw [this]; exact h5
 | @op l o ids u F h1 h2 h3 _ ih =>
  intro hf R hR;obtain ⟨g1, g2, g3⟩ := ih ⟨rfl, ⟨o, h1, rfl⟩, hf⟩ R hR;have hpre : fwd l <+: R := (FOk.pre (ops := ops)).trans g1;refine ⟨hpre, g2, fun i o' r hi ho hr => ?_⟩
  by_cases hi2 : l.length + 1 ≤ i
  ·exact g3 i o' r (by simpa using hi2) ho hr
  have : i = l.length := by omega
  subst this;rw [h1] at ho;obtain rfl : o = o' := by simpa using ho
  have hr2 : R[l.length]? = some (u, ids) := by
   obtain ⟨tl, rfl⟩ := g1;rw [fwd_cons, List.append_assoc, List.getElem?_append_right (by rw [fwd_len]; exact Nat.le_refl _), fwd_len]; simp
  rw [hr2] at hr;obtain rfl : (u, ids) = r := by simpa using hr
  refine ⟨h3, .inl ?_⟩
  have : R.take l.length = fwd l := by
   obtain ⟨tl, rfl⟩ := hpre;rw [List.take_append_of_le_length (by rw [fwd_len]; exact Nat.le_refl _), List.take_of_length_le (by rw [fwd_len]; exact Nat.le_refl _)]
  rw [this, show mkS s (fun k => memL k (ancAt anc l.length)) ops (fwd l) = mkF s ops.length (ancAt anc l.length) l by simp [mkS, mkF, goS_F _ hf, goC_F _ hf]];exact h2
 | @opX l o ids ι us F x₀ h1 h2 h3 h4 h5 h6 ih =>
  rintro hf R ⟨x, hR⟩;obtain ⟨g1, g2, g3⟩ := ih x ⟨rfl, ⟨o, h1, rfl⟩, hf⟩ R hR;have hpre : fwd l <+: R := (FOk.pre (ops := ops)).trans g1;refine ⟨hpre, g2, fun i o' r hi ho hr => ?_⟩
  by_cases hi2 : l.length + 1 ≤ i
  ·obtain ⟨q1, q2⟩ := g3 i o' r (by simpa using hi2) ho hr;refine ⟨q1, ?_⟩;rcases q2 with q2 | ⟨q3, T, q4, q5⟩
   ·exact .inl q2
   exact .inr ⟨q3, T, q4, fun u hu => by obtain ⟨R', k1, k2⟩ := q5 u hu; exact ⟨R', ⟨x, k1⟩, k2⟩⟩
  have : i = l.length := by omega
  subst this;rw [h1] at ho;obtain rfl : o = o' := by simpa using ho
  have hat : ∀ y R', F y R' → R'[l.length]? = some (us y, ids) := by
   intro y R' hy;obtain ⟨q1, _⟩ := ih y ⟨rfl, ⟨o, h1, rfl⟩, hf⟩ R' hy;obtain ⟨tl, rfl⟩ := q1;rw [fwd_cons, List.append_assoc, List.getElem?_append_right (by rw [fwd_len]; exact Nat.le_refl _), fwd_len]; simp
  rw [hat x R hR] at hr;obtain rfl : (us x, ids) = r := by simpa using hr
  refine ⟨h4, .inr ⟨h2, (fun u => ∃ y, u = us y), ?_, ?_⟩⟩
  ·have : R.take l.length = fwd l := by
    obtain ⟨tl, rfl⟩ := hpre;rw [List.take_append_of_le_length (by rw [fwd_len]; exact Nat.le_refl _), List.take_of_length_le (by rw [fwd_len]; exact Nat.le_refl _)]
   rw [this, show mkS s (fun k => memL k (ancAt anc l.length)) ops (fwd l) = mkF s ops.length (ancAt anc l.length) l by simp [mkS, mkF, goS_F _ hf, goC_F _ hf]];exact h3
  rintro _ ⟨y, rfl⟩;obtain ⟨R', hR'⟩ := (h5 y).ex;refine ⟨R', ⟨y, hR'⟩, hat y R' hR', fun j hj hnj => ?_⟩;rcases Nat.lt_trichotomy j l.length with hlt | heq | hgt
  ·have p1 := (ih y ⟨rfl, ⟨o, h1, rfl⟩, hf⟩ R' hR').1;have p2 : fwd l <+: R' := (FOk.pre (ops := ops)).trans p1;obtain ⟨t1, rfl⟩ := hpre;obtain ⟨t2, rfl⟩ := p2;rw [List.getElem?_append_left (by rw [fwd_len]; exact hlt), List.getElem?_append_left (by rw [fwd_len]; exact hlt)]
  ·exact absurd heq hj
  exact h6 x y R R' hR hR' j hgt hnj
theorem AC.drawnX {id : Nat} (hm : P.follows .mixedOrders = true) (anc : List (List Nat)) (hanc : ancOk ops anc = true) {F : List ORec → Prop} (h : DX P ops anc s Q [] F) : ACode P C (.region id ops.toArray true) Q s := by
 refine ⟨fun a w hR => ?_⟩;obtain ⟨m, hR⟩ := hR;obtain ⟨full, hfull⟩ := h.ex;have hfacts := h.facts trivial;refine wp_region_any hm ?_
 have hrep : ∀ i, (Array.replicate ops.toArray.size false).getD i false = false := fun i => by
  simp only [Array.getD_eq_getD_getElem?, Array.getElem?_replicate]
  split <;> rfl
 have e1 : (fun i => (Array.replicate ops.toArray.size false).getD i false) = (fun _ => false) := funext hrep;refine dr_anyX (F := F) (anc := anc) hanc (fun R hR => (hfacts R hR).2.1) (fun R hR i o r ho hr => (hfacts R hR).2.2 i o r (Nat.zero_le _) ho hr) ops.toArray.size _ full hfull a _ m (by simp) (by rw [e1, cntF_full _ (fun _ => rfl)]; simp) (fun i o _ h => by rw [hrep] at h; cases h) ?_;rw [e1]
 have hS : ∀ (os : List Oper) (rs : List ORec) (k : Nat) (x : List (Nat × AV)), goS (fun _ => false) k os rs x = x := by
  intro os
  induction os with
  | nil => intro rs k x; simp [goS]
  | cons o os ih => intro rs k x; cases rs <;> simp [goS, ih]
 have hC : ∀ (os : List Oper) (rs : List ORec) (k : Nat) (x : List (Nat × Option Chunk)), goC (fun _ => false) k os rs x = x := by
  intro os
  induction os with
  | nil => intro rs k x; simp [goC]
  | cons o os ih => intro rs k x; cases rs <;> simp [goC, ih]
 have := hR.drewN 1;refine RelM.weaken (s := s) (U := fun id => s.nx ≤ id) (w := { w with drawn := w.drawn + 1 }) this rfl (fun t => .inr ?_) (fun id c hc => ?_) (fun j hj => ?_)
 ·show (getL t (goS _ 0 ops full s.sl)).getD .dead = _;rw [hS]; rfl
 ·have h2 : (getL id (goC (fun _ => false) 0 ops full s.ch)).getD none = some c := hc;rw [hC] at h2; exact h2
 rcases hj with h | ⟨i, _, _, h1, _⟩
 ·show s.nx ≤ j; omega
 show s.nx ≤ j; omega
structure DG (P : Program) (ops : List Oper) (anc : List (List Nat)) (s : ASt) (Q : Exit → ASt → Prop) (rest : List Oper) (l : List FRec) (F : List ORec → Prop) : Prop where
 dx : ops.drop l.length = rest → DX P ops anc s Q l F
theorem drop_hd {rest : List Oper} {o : Oper} {k : Nat} (hr : ops.drop k = o :: rest) : ops[k]? = some o ∧ ops.drop (k + 1) = rest := by
 constructor
 ·have := congrArg (fun x => x[0]?) hr;simpa using this
 have := congrArg List.tail hr;simpa using this
theorem DG.fin {l : List FRec} {ps : List (Nat × Nat)} (n : Nat) (hn : Nat.beq ops.length n = true) (hl : Nat.beq l.length n = true) (h1 : coverOk n anc ps = true) (h2 : slotOk ops ps = true) (h3 : idsF l ps = true) (h : Q .normal (mkAll s n l)) : DG P ops anc s Q [] l (fun R => R = fwd l) := by
 refine ⟨fun _ => ?_⟩;have hn : ops.length = n := by simpa using hn
 subst hn;exact .fin hl h1 h2 h3 h
theorem DG.op {l : List FRec} {rest : List Oper} {o : Oper} {F : List ORec → Prop} (i : Nat) (row : List Nat) {ids : List Nat} {u : Upd} (n : Nat) (hi : Nat.beq l.length i = true) (hn : Nat.beq ops.length n = true) (hrow : ancAt anc i = row) (hst : StepOk P ops (mkF s n row l) o ids (s.nx + 8 * i) u) (hd : dstOk o.dst s.n = true) (h : DG P ops anc s Q rest ((i, o.dst, u, ids) :: l) F) : DG P ops anc s Q (o :: rest) l F := by
 refine ⟨fun hr => ?_⟩;have hi : l.length = i := by simpa using hi
 have hn : ops.length = n := by simpa using hn
 subst hi; subst hn; subst hrow;obtain ⟨h1, h2⟩ := drop_hd hr;exact .op h1 hst hd (h.dx h2)
theorem DG.opX {l : List FRec} {rest : List Oper} {o : Oper} {ι : Type} {us : ι → Upd} {F : ι → List ORec → Prop} (i : Nat) (row : List Nat) {ids : List Nat} (n : Nat) (x₀ : ι) (hi : Nat.beq l.length i = true) (hn : Nat.beq ops.length n = true) (hrow : ancAt anc i = row) (hg : o.guard = none) (hst : NOpR P ids (mkF s n row l) o (s.nx + 8 * i) (fun u => ∃ x, u = us x)) (hd : dstOk o.dst s.n = true)
  (h : ∀ x, DG P ops anc s Q rest ((i, o.dst, us x, ids) :: l) (F x)) (hs : ∀ x y R R', F x R → F y R' → ∀ j, i < j → i ∉ ancAt anc j → R'[j]? = R[j]?) : DG P ops anc s Q (o :: rest) l (fun R => ∃ x, F x R) := by
 refine ⟨fun hr => ?_⟩;have hi : l.length = i := by simpa using hi
 have hn : ops.length = n := by simpa using hn
 subst hi; subst hn; subst hrow;obtain ⟨h1, h2⟩ := drop_hd hr;exact .opX x₀ h1 hg hst hd (fun x => (h x).dx h2) hs
theorem DG.caseD {l : List FRec} {rest : List Oper} {F : List ORec → Prop} (j : Nat) {p : Prop} [Decidable p] (h : getF j l = some (aT (decide p))) (hp : p) (hT : DG P ops anc s Q rest (setF j (aT true) l) F) : DG P ops anc s Q rest l F := by
 rwa [setF_same (by rw [h]; simp [hp])] at hT
theorem AC.drawnG {id : Nat} (hm : P.follows .mixedOrders = true) (anc : List (List Nat)) (hanc : ancOk ops anc = true) {F : List ORec → Prop} (h : DG P ops anc s Q ops [] F) : ACode P C (.region id ops.toArray true) Q s := AC.drawnX hm anc hanc (h.dx rfl)
def behindAll (anc : List (List Nat)) (i n : Nat) : Bool := (List.range n).all fun j => Nat.ble j i || memL i (ancAt anc j)
theorem behind_same {ι : Type} {F : ι → List ORec → Prop} {n i : Nat} (hlen : ∀ x R, F x R → R.length = n) (h : behindAll anc i n = true) : ∀ x y R R', F x R → F y R' → ∀ j, i < j → i ∉ ancAt anc j → R'[j]? = R[j]? := by
 intro x y R R' h1 h2 j hj hnj;rcases Nat.lt_or_ge j n with hlt | hge
 ·simp only [behindAll, List.all_eq_true, List.mem_range, Bool.or_eq_true] at h;rcases h j hlt with g | g
  ·have : j ≤ i := by simpa using g
   omega
  exact absurd (memL_iff.1 g) hnj
 rw [List.getElem?_eq_none (by rw [hlen y R' h2]; exact hge), List.getElem?_eq_none (by rw [hlen x R h1]; exact hge)]
end
section
variable {P : Program} [PT P] {C : Ctx} {Q : Exit → ASt → Prop} {s : ASt} {ops : List Oper} {anc : List (List Nat)}
def DE (P : Program) (ops : List Oper) (anc : List (List Nat)) (s : ASt) (Q : Exit → ASt → Prop) (rest : List Oper) (l : List FRec) : Prop := ∃ F : List ORec → Prop, DG P ops anc s Q rest l F ∧ ∀ R, F R → R.length = ops.length
theorem DE.fin {l : List FRec} {ps : List (Nat × Nat)} (n : Nat) (hn : Nat.beq ops.length n = true) (hl : Nat.beq l.length n = true) (h1 : coverOk n anc ps = true) (h2 : slotOk ops ps = true) (h3 : idsF l ps = true) (h : Q .normal (mkAll s n l)) : DE P ops anc s Q [] l :=
 ⟨_, DG.fin n hn hl h1 h2 h3 h, fun R e => by
  subst e;rw [fwd_len];have h1 : ops.length = n := by simpa using hn
  have h2 : l.length = n := by simpa using hl
  omega⟩
theorem DE.op {l : List FRec} {rest : List Oper} {o : Oper} (i : Nat) (row : List Nat) {ids : List Nat} {u : Upd} (n : Nat) (hi : Nat.beq l.length i = true) (hn : Nat.beq ops.length n = true) (hrow : ancAt anc i = row) (hst : StepOk P ops (mkF s n row l) o ids (s.nx + 8 * i) u) (hd : dstOk o.dst s.n = true) (h : DE P ops anc s Q rest ((i, o.dst, u, ids) :: l)) : DE P ops anc s Q (o :: rest) l := by
 obtain ⟨F, h1, h2⟩ := h;exact ⟨F, DG.op i row n hi hn hrow hst hd h1, h2⟩
theorem DE.opX {l : List FRec} {rest : List Oper} {o : Oper} {ι : Type} {us : ι → Upd} (i : Nat) (row : List Nat) {ids : List Nat} (n : Nat) (x₀ : ι) (hi : Nat.beq l.length i = true) (hn : Nat.beq ops.length n = true) (hrow : ancAt anc i = row) (hg : o.guard = none) (hst : NOpR P ids (mkF s n row l) o (s.nx + 8 * i) (fun u => ∃ x, u = us x)) (hd : dstOk o.dst s.n = true) (hb : behindAll anc i n = true)
  (h : ∀ x, DE P ops anc s Q rest ((i, o.dst, us x, ids) :: l)) : DE P ops anc s Q (o :: rest) l := by
 have hn' : ops.length = n := by simpa using hn
 refine ⟨fun R => ∃ x, Classical.choose (h x) R, DG.opX i row n x₀ hi hn hrow hg hst hd (fun x => (Classical.choose_spec (h x)).1) (behind_same (fun x R hR => by rw [← hn']; exact (Classical.choose_spec (h x)).2 R hR) hb), fun R ⟨x, hR⟩ => (Classical.choose_spec (h x)).2 R hR⟩
theorem AC.drawnE {id : Nat} (hm : P.follows .mixedOrders = true) (anc : List (List Nat)) (hanc : ancOk ops anc = true) (h : DE P ops anc s Q ops []) : ACode P C (.region id ops.toArray true) Q s := by
 obtain ⟨F, h1, _⟩ := h;exact AC.drawnG hm anc hanc h1
end
abbrev nI (l : List Nat) : List Int := l.map fun t => ((t : Nat) : Int)
theorem nI_len (l : List Nat) : (nI l).length = l.length := List.length_map _
theorem nI_get {l : List Nat} {k : Nat} (h : k < l.length) : (ints (nI l))[k]? = some [dI ((l[k] : Nat) : Int)] := by rw [List.getElem?_map, List.getElem?_map, List.getElem?_eq_getElem h]; rfl
theorem nI_at {q : List Nat} {a c : Nat} (ha : a < q.length) (hc : q.getD a 0 = c) : (ints (nI q))[a]? = some [dI (c : Int)] := by
 rw [nI_get ha, ← hc, List.getD_eq_getElem?_getD, List.getElem?_eq_getElem ha]; rfl
theorem oa_rep (n v : Nat) : oa (List.replicate n (-1)) v = -1 := by
 unfold oa;rw [List.getD_eq_getElem?_getD, List.getElem?_replicate]
 split <;> rfl
theorem oa_start {n s : Nat} (hs : s < n) (v : Nat) : oa ((List.replicate n (-1)).set s 0) v ≤ 0 := by
 by_cases e : v = s
 ·rw [e, oa_set_self (by simpa using hs)]; decide
 rw [oa_set_ne e, oa_rep]; decide
theorem ints_oa {o : List Int} {v : Nat} (h : v < o.length) : (ints o)[v]? = some [dI (oa o v)] := by rw [oa_get h]; exact ints_at h
abbrev nxtD (E : List (Nat × Nat)) (n : Nat) : List DV := (List.range n).map fun i => vI (nI (nextL E i))
abbrev nxtR (E : List (Nat × Nat)) (n : Nat) : List (List DV) := (List.range n).map fun i => [vI (nI (nextL E i))]
theorem nxtR_flat (E : List (Nat × Nat)) (n : Nat) : (nxtR E n).flatten = nxtD E n := by
 unfold nxtR nxtD
 induction n with
 | zero => rfl
 | succ n ih => rw [List.range_succ, List.map_append, List.map_append, List.flatten_append, ih]; rfl
theorem nxtR_row (E : List (Nat × Nat)) (n : Nat) : ∀ cs, cs ∈ nxtR E n → cs.length = 1 := by
 intro cs hc;obtain ⟨i, _, rfl⟩ := List.mem_map.1 hc
 rfl
theorem nxtR_get {E : List (Nat × Nat)} {n i : Nat} (h : i < n) : (nxtR E n)[i]? = some [vI (nI (nextL E i))] := by rw [List.getElem?_map, List.getElem?_range h]; rfl
theorem nxtD_get {E : List (Nat × Nat)} {n i : Nat} (h : i < n) : (nxtD E n)[i]? = some (vI (nI (nextL E i))) := by rw [List.getElem?_map, List.getElem?_range h]; rfl
theorem nxtD_len (E : List (Nat × Nat)) (n : Nat) : (nxtD E n).length = n := by simp
theorem nxtD_nil (n : Nat) : nxtD [] n = List.replicate n (vI []) := by
 refine List.ext_getElem? fun i => ?_
 rcases Nat.lt_or_ge i n with h | h
 ·rw [nxtD_get h, List.getElem?_replicate, if_pos h]; rfl
 rw [List.getElem?_eq_none (by simpa using h), List.getElem?_eq_none (by simpa using h)]
theorem nextL_len (E : List (Nat × Nat)) (f : Nat) : (nextL E f).length ≤ E.length := by unfold nextL; rw [List.length_map]; exact List.length_filter_le ..
theorem nextL_snoc (E : List (Nat × Nat)) (f t i : Nat) : nextL (E ++ [(f, t)]) i = nextL E i ++ (if f = i then [t] else []) := by
 unfold nextL;rw [List.filter_append, List.map_append];congr 1
 by_cases h : f = i <;> simp [h]
theorem nxtD_snoc {E : List (Nat × Nat)} {n f t : Nat} : nxtD (E ++ [(f, t)]) n = (nxtD E n).set f (vI (nI (nextL E f) ++ [(t : Int)])) := by
 refine List.ext_getElem? fun i => ?_
 rcases Nat.lt_or_ge i n with h | h
 ·rw [nxtD_get h, nextL_snoc, List.getElem?_set]
  by_cases e : f = i
  ·subst e;rw [if_pos rfl, if_pos rfl, if_pos (by simpa using h)];simp
  rw [if_neg e, if_neg e, nxtD_get h, List.append_nil]
 rw [List.getElem?_eq_none (by simpa using h), List.getElem?_eq_none (by simpa using h)]
theorem rows1_get {n i : Nat} {V : List Value} {v : Value} (h : i < n) (hv : V[i]? = some v) : (rowsV 1 n V)[i]? = some [.val v] := by
 rw [rowsV_get h];simp [hv]
theorem rows1_set {n i : Nat} {V : List Value} {v : Value} (hn : V.length = n) (h : i < n) : (rowsV 1 n V).set i [.val v] = rowsV 1 n (V.set i v) := by
 refine List.ext_getElem? fun k => ?_
 rcases Nat.lt_or_ge k n with g | g
 ·rw [List.getElem?_set, rowsV_len]
  by_cases e : i = k
  ·subst e;rw [if_pos rfl, if_pos h, rows1_get h (v := v) (by rw [List.getElem?_set_self (by omega)])]
  obtain ⟨u, hu⟩ : ∃ u, V[k]? = some u := ⟨_, List.getElem?_eq_getElem (by omega)⟩;rw [if_neg e, rows1_get g hu, rows1_get g (v := u) (by rw [List.getElem?_set_ne e]; exact hu)]
 rw [List.getElem?_eq_none (by rw [List.length_set, rowsV_len]; exact g), List.getElem?_eq_none (by rw [rowsV_len]; exact g)]
theorem rows1_rep (n : Nat) (v : Value) : rowsV 1 n (List.replicate n v) = List.replicate n [.val v] := by
 refine List.ext_getElem? fun k => ?_
 rcases Nat.lt_or_ge k n with g | g
 ·rw [rows1_get g (v := v) (by rw [List.getElem?_replicate, if_pos g]), List.getElem?_replicate, if_pos g]
 rw [List.getElem?_eq_none (by rw [rowsV_len]; exact g), List.getElem?_eq_none (by simpa using g)]
theorem ints_fl2 : ∀ (l : List Int), (ints l).flatten = l.map fun x => dI x
 | [] => rfl
 | a :: l => by
  have ih := ints_fl2 l;unfold ints at ih ⊢;rw [List.map_cons, List.flatten_cons, List.map_cons, ih]; rfl
theorem ints_fl (l : List Int) : ∀ cs, cs ∈ ints l → ∀ d, d ∈ cs → d.flat := by
 intro cs hc d hd;obtain ⟨x, _, rfl⟩ := List.mem_map.1 hc;obtain rfl := List.mem_singleton.1 hd;exact trivial
theorem rows1_ints {l : List Int} {V : List Value} (hV : V.length = (ints l).length * 1) (h : ∀ (c : Nat) x, (ints l).flatten[c]? = some (.val x) → V[c]? = some x) : rowsV 1 (ints l).length V = ints l := by
 have hf := ints_fl2 l;refine List.ext_getElem? fun k => ?_
 rcases Nat.lt_or_ge k l.length with g | g
 ·have := h k (.int .i64 l[k]) (by rw [hf, List.getElem?_map, List.getElem?_eq_getElem g]; rfl);rw [rows1_get (by rw [ints_len]; exact g) this, ints_at g]
 rw [List.getElem?_eq_none (by rw [rowsV_len, ints_len]; exact g), List.getElem?_eq_none (by rw [ints_len]; exact g)]
theorem rep_ints (n : Nat) (a : Int) : ints (List.replicate n a) = List.replicate n [dI a] := by unfold ints; rw [List.map_replicate]
theorem repN_set (n s : Nat) : ints ((List.replicate n (-1)).set s 0) = (ints (List.replicate n (-1))).set s [dI 0] := ints_set _ _ _
set_option maxHeartbeats 16000000 in
theorem distances_spec (E : List (Nat × Nat)) (n s : Nat) (hs : s < n) (hn : n ≤ 100000) (hEl : E.length ≤ 1000000) (hE : ∀ f t, (f, t) ∈ E → f < n ∧ t < n) : ASpec Tryz.prog 146 [aI n, .d (vSteps E), aI s] [] (Pure1 (.d (vI (distF E n s)))) := by
 have hRp := repeat_spec (-1) n hn;have hB0 := BfsI.start hs hE;refine ASpec.of Tryz.func146 rfl rfl fun C hC => ?_
 refine AC.seq (AC.region ?_);refine za ?_;refine AL.nil (th_n (AC.seq ?_));refine AC.drawn' mixed_ok [[], [], [0,1], [], [3], [0,1,2], [0,1,2,3,4,5]] (by decide) ?_;refine zh 0 [] 7 (by exact h_litF rfl rfl rfl rfl rfl rfl rfl rfl) ?_;refine zd 1 [] 7 (by exact mv1 rfl) ?_;refine zh 2 [0,1] 7 (by exact h_fun (cs := []) en_Repeat rfl rfl (by repeat (first | exact rfl | exact DLead.same | refine ⟨_, _, rfl, ?_, ?_⟩)) (by repeat (exact True.intro)) hRp rfl rfl rfl rfl) ?_;refine zd 3 [] 7 (by exact mv1 rfl) ?_;refine zh 4 [3] 7 (by exact h_make (k := n) rfl rfl rfl rfl rfl rfl rfl rfl (by show 24 * n ≤ _; omega) (by omega)) ?_;refine zd 5 [0,1,2] 7 (by exact as2 rfl) ?_;refine zd 6 [0,1,2,3,4,5] 7 (by exact as2 rfl) ?_;refine zj 7 ?_;refine th_n (AC.seq (AC.seq (AC.region ?_)));refine zm ?_;refine kI E.length (stepL_len _) ?_;refine zm ?_;refine AL.nil (th_n (AC.block ?_));refine AC.loop (ι := Nat × List Value × (Nat → Prop)) (fun x => ⟨85, 600, [(2, aI s), (7, .own 100 n), (8, .own 101 n), (20, .d (vSteps E)), (21, aI E.length), (22, aI x.1)], [(100, some (.arr 3 1 (ints (List.replicate n (-1))))), (101, some (.arr 30 1 (rowsV 1 n x.2.1))), (102, some (.pred x.2.2 fun w => TL w x.2.2 (nxtD (E.take x.1) n) x.2.1))]⟩) (fun x => x.1 ≤ E.length ∧ x.2.1.length = n) (fun x => E.length - x.1) ((0, List.replicate n (.slice none 0 0), fun _ => False)) ?_ (⟨Nat.zero_le _, by simp⟩) ?_
 ·exact (Weak.nilsT 3 1 n).trans (zw [(100, 16), (101, 32), (102, 56)] hC (b := by dsimp only; rw [rows1_rep, List.take_zero, nxtD_nil]; repeat (first | exact True.intro | refine And.intro ?_ ?_ | exact rfl | refine ⟨_, _, rfl, rfl, ?_⟩)))
 rintro ⟨j, V, S⟩ ⟨hj, hV⟩;dsimp only at hj hV ⊢;refine AC.seq (AC.region ?_);refine zc ?_;refine AL.nil (th_n (AC.seq ?_));refine AC.condD rfl (fun h0 => ?_) (fun h0 => ?_)
 ·refine AC.skip (th_n (AC.seq (AC.block (AC.seq ?_))));have hj1 : j < E.length := by omega
  have hget := stepL_get hj1;have hin := hE E[j].1 E[j].2 (List.getElem_mem hj1);have htk : E.take (j + 1) = E.take j ++ [(E[j].1, E[j].2)] := by rw [List.take_add_one, List.getElem?_eq_getElem hj1]; rfl
  obtain ⟨f, hf⟩ := eqx (E[j].1);obtain ⟨t, ht⟩ := eqx (E[j].2);rw [← hf, ← ht] at hget hin htk;clear hf ht;refine AC.region ?_;refine AL.p (by exact g_ia_view rfl rfl rfl rfl rfl (by rfl) (by assumption)) rfl ?_;refine kG ?_;refine kE ?_;refine zs ?_;refine AL.nil (th_n ?_);refine AC.weak (t := ⟨85, 700, [(2, aI s), (7, .own 100 n), (8, .own 101 n), (10, .ptr 103 0), (20, .d (vSteps E)), (21, aI E.length), (22, aI j)], [(100, some (.arr 3 1 (ints (List.replicate n (-1))))), (101, some (.arr 30 1 (rowsV 1 n V))), (102, some (.pred S fun w => TL w S (nxtD (E.take j) n) V)), (103, some (.cells 131 [aI f, aI t]))]⟩) (zw [(100, 100), (101, 101), (102, 102), (103, _)] hC) ?_;obtain ⟨v, hv⟩ : ∃ v, V[f]? = some v := ⟨_, List.getElem?_eq_getElem (by omega)⟩;have hrow0 := rows1_get hin.1 hv;refine AC.weakR (WeakR.splitT 102 f (L := nxtD (E.take j) n) (V := V) (d := vI (nI (nextL (E.take j) f))) (v := v) rfl (fun w h => h) (nxtD_get hin.1) hv rfl) ?_;rintro _ ⟨S1, S2, hS, rfl⟩;refine AC.weakR (WeakR.openC 700 (e := 3) (sz := 1) (els := ints (nI (nextL (E.take j) f))) (v := v) rfl (fun w h => h) rfl rfl) ?_;rintro _ ⟨p, V', S', ⟨hv', hp, hVl, hrow, hSS, hx⟩, rfl⟩;rw [rows1_ints hVl hx];have hll := nextL_len (E.take j) f;rw [List.length_take] at hll;rw [ints_len] at hv' hp;have hDs := nxtD_snoc (E := E.take j) (n := n) (f := f) (t := t);rw [← htk] at hDs;have hDl := nxtD_len (E.take j) n;obtain ⟨l, hl⟩ := eqx (nI (nextL (E.take j) f));have hnl : l.length ≤ j := by rw [hl, nI_len]; omega
  rw [← hl] at hv' hp hDs ⊢;clear hl hVl hrow hx hSS;refine AC.drawnE mixed_ok [[], [], [1], [], [], [4], [3,4,5], [3,4,5,6], [], [8], [8,9], [3,4,5,6,7,8,9,10], [0,1,2,3,4,5,6,7,8,9,10,11], [0,1,2,3,4,5,6,7,8,9,10,11,12]] (by decide) ?_;refine DE.op 0 [] 14 rfl rfl rfl (.free rfl (NOp.of (by exact mv2 rfl))) rfl ?_;refine DE.op 1 [] 14 rfl rfl rfl (.free rfl (NOp.of (by exact g_fa_ptr rfl rfl rfl rfl rfl))) rfl ?_;refine DE.op 2 [1] 14 rfl rfl rfl (.free rfl (NOp.of (by exact g_load_ptr rfl rfl rfl rfl rfl))) rfl ?_;refine DE.op 3 [] 14 rfl rfl rfl (.free rfl (NOp.of (by exact mv2 rfl))) rfl ?_;refine DE.op 4 [] 14 rfl rfl rfl (.free rfl (NOp.of (by exact g_fa_ptr rfl rfl rfl rfl rfl))) rfl ?_;refine DE.op 5 [4] 14 rfl rfl rfl (.free rfl (NOp.of (by exact g_load_ptr rfl rfl rfl rfl rfl))) rfl ?_;refine DE.op 6 [3,4,5] 14 rfl rfl rfl (.free rfl (NOp.of (by exact g_ia_own (i := f) (l := n) rfl rfl rfl rfl rfl rfl hin.1 rfl))) rfl ?_;refine DE.op 7 [3,4,5,6] 14 rfl rfl rfl (.free rfl (NOp.of (by exact g_load_lock (il := 709) (ia := 708) (p := p) (i := f) (j := 0) rfl rfl rfl rfl rfl hrow0 rfl rfl hv' hp))) rfl ?_;refine DE.op 8 [] 14 rfl rfl rfl (.free rfl (NOp.of (by exact g_fa_ptr rfl rfl rfl rfl rfl))) rfl ?_;refine DE.op 9 [8] 14 rfl rfl rfl (.free rfl (NOp.of (by exact g_load_ptr rfl rfl rfl rfl rfl))) rfl ?_;refine DE.op 10 [8,9] 14 rfl rfl rfl (.free rfl (by exact h_litF rfl rfl rfl rfl rfl rfl rfl rfl)) rfl ?_;refine DE.op 11 [3,4,5,6,7,8,9,10] 14 rfl rfl rfl (.free rfl (by exact h_appendI l [(t : Int)] (.own rfl rfl (ints_len _).symm) (.view rfl) (by rw [List.length_append]; simp only [List.length_cons, List.length_nil]; omega) (by simp))) rfl ?_;refine DE.op 12 [0,1,2,3,4,5,6,7,8,9,10,11] 14 rfl rfl rfl (.free rfl (NOp.of (by exact g_ia_own (i := f) (l := n) rfl rfl rfl rfl rfl rfl hin.1 rfl))) rfl ?_;refine DE.opX 13 [0,1,2,3,4,5,6,7,8,9,10,11,12] 14 ((Value.int .i64 0, fun _ => False)) rfl rfl rfl rfl (h_storeRaw (i := f) (j := 0) rfl rfl rfl rfl rfl rfl (Nat.le_of_eq (ints_len _).symm) (List.take_of_length_le (Nat.le_of_eq (ints_len _))) (ints_fl _) rfl hrow0 (by decide) rfl) rfl (by decide) ?_;rintro ⟨v2, S3⟩;refine DE.fin (ps := [(0,1),(0,2),(0,3),(0,4),(0,5),(0,6),(0,7),(0,8),(0,9),(0,10),(0,11),(1,0),(1,3),(1,4),(1,5),(1,6),(1,7),(1,8),(1,9),(1,10),(1,11),(2,0),(2,3),(2,4),(2,5),(2,6),(2,7),(2,8),(2,9),(2,10),(2,11),(3,0),(3,1),(3,2),(3,4),(3,5),(3,8),(3,9),(3,10),(4,0),(4,1),(4,2),(4,3),(4,8),(4,9),(4,10),(5,0),(5,1),(5,2),(5,3),(5,8),(5,9),(5,10),(6,0),(6,1),(6,2),(6,8),(6,9),(6,10),(7,0),(7,1),(7,2),(7,8),(7,9),(7,10),(8,0),(8,1),(8,2),(8,3),(8,4),(8,5),(8,6),(8,7),(9,0),(9,1),(9,2),(9,3),(9,4),(9,5),(9,6),(9,7),(10,0),(10,1),(10,2),(10,3),(10,4),(10,5),(10,6),(10,7),(11,0),(11,1),(11,2)]) 14 rfl rfl (by decide +kernel) (by decide +kernel) (by rfl) ?_;refine ib_n (th_n (AC.region ?_));refine zA ?_;refine zm ?_;refine AL.nil (th_n ?_);have hsv := rows1_set (v := v2) hV hin.1;exact ⟨(j + 1, V.set f v2, fun k => S2 k ∨ S3 k), ⟨hj1, by rw [List.length_set]; exact hV⟩, by dsimp only; omega, (Weak.cons 102 (fun w => TX w S2 f (nxtD (E.take j) n) (V.set f v2)) rfl (fun w h => h.setV v2) (fun w w' hk h => h.turn hk)).trans ((Weak.joinT 102 820 f (S := fun k => S2 k ∨ S3 k) rfl rfl (fun w h => h) (fun k => Iff.rfl) (by rw [hDl]; exact hin.1) (by rw [List.getElem?_set_self (by omega)]) rfl).trans (zw [(100, 100), (101, 101), (102, 102)] hC (b := by rw [hDs, ← hsv]; repeat (first | exact True.intro | refine And.intro ?_ ?_ | exact rfl | refine ⟨_, _, rfl, rfl, ?_⟩))))⟩
 refine AC.exit (th_e (th_e (ib_y (th_n (AC.seq ?_)))));have hjj : j = E.length := by omega
 rw [hjj, List.take_length];refine AC.weakR (WeakR.closeN (els := nxtR E n) (V := V) 8 102 101 rfl (by simp) rfl (fun w h => by rw [nxtR_flat]; exact h) rfl (by simp) (nxtR_row E n) rfl) ?_;rintro _ ⟨v0, S0, rfl⟩;refine AC.weak (Weak.thaw 8 102 (x := .view 30 1 (nxtR E n)) rfl rfl (fun w h => h)) ?_;refine AC.weak (t := ⟨85, 900, [(2, aI s), (7, .own 100 n), (8, .d (.view 30 1 (nxtR E n)))], [(100, some (.arr 3 1 (ints (List.replicate n (-1)))))]⟩) (zw [(100, 100)] hC) ?_;have hr0 : (ints (List.replicate n (-1)))[s]? = some [dI (-1)] := by rw [rep_ints, List.getElem?_replicate, if_pos hs]
 refine AC.region ?_;refine kB ?_;refine zm ?_;refine kO s n hs ?_;refine AL.q (by exact h_store_arr (i := s) (j := 0) (d := dI 0) rfl rfl rfl rfl .same rfl hr0 (by decide)) rfl ?_;refine AL.nil (th_n (AC.seq (AC.region ?_)));refine zm ?_;refine AL.q (by exact h_lit rfl rfl rfl rfl rfl rfl rfl rfl) rfl ?_;refine AL.p (by exact as2 rfl) rfl ?_;refine AL.nil (th_n (AC.seq (AC.seq (AC.region ?_))));refine za ?_;refine AL.nil (th_n (AC.block ?_));refine AC.loop (ι := List Int × List Nat × Nat) (fun x => ⟨85, 1200, [(7, .own 100 n), (8, .d (.view 30 1 (nxtR E n))), (11, .own 101 x.2.1.length), (12, aI x.2.2)], [(100, some (.arr 3 1 (ints x.1))), (101, some (.arr 3 1 (ints (nI x.2.1))))]⟩) (fun x => BfsI E n s x.1 x.2.1 x.2.2 0 ∧ ∀ v, oa x.1 v ≤ x.2.2) (fun x => n - x.2.2) (((List.replicate n (-1)).set s 0, [s], 0)) ?_ (⟨hB0, fun v => oa_start hs v⟩) ?_
 ·exact zw [(100, 100), (101, _)] hC (b := by rw [repN_set]; repeat (first | exact True.intro | refine And.intro ?_ ?_ | exact rfl | refine ⟨_, _, rfl, rfl, ?_⟩))
 rintro ⟨o, q, a⟩ ⟨hB, hbd⟩;dsimp only at hB hbd ⊢;have hql : q.length ≤ n := by have := hB.cnt; omega
 have hal := hB.al;refine AC.seq (AC.seq (AC.region ?_));refine zm ?_;refine kB ?_;refine AL.p (by exact g_len_own (sz := 1) (els := []) (e' := 0) rfl rfl (by simp only [maxLen]; omega)) rfl ?_;refine zc ?_;refine AL.nil (th_n ?_);refine AC.condD rfl (fun h1 => ?_) (fun h1 => ?_)
 ·refine AC.skip (th_n (AC.seq (AC.block (AC.seq ?_))));have ha : a < q.length := by omega
  have hqa := nI_get ha;have hca : q.getD a 0 = q[a] := by rw [List.getD_eq_getElem?_getD, List.getElem?_eq_getElem ha]; rfl
  rw [← hca] at hqa;obtain ⟨c, hc⟩ := eqx (q.getD a 0);rw [← hc] at hqa;have hc0 : 0 ≤ oa o c := by rw [hc, hca]; exact (hB.mem _).1 (List.getElem_mem ha)
  have hcn : c < n := by have := oa_lt hc0; rw [hB.len] at this; exact this
  have hnr := nxtR_get (E := E) hcn;refine AC.region ?_;refine zm ?_;refine kB ?_;refine zm ?_;refine kO a q.length ha ?_;refine AL.p (by exact g_load_arr1 rfl rfl rfl rfl (by rw [Nat.mul_one]; exact hqa)) rfl ?_;refine AL.p (by exact g_ia_view (i := c) rfl rfl rfl rfl rfl rfl hnr) rfl ?_;refine zr ?_;refine AL.p (by exact g_len_view (k := (nextL E c).length) rfl rfl (by rw [ints_len, nI_len])) rfl ?_;refine zm ?_;refine AL.nil (th_n (AC.block ?_));refine AC.loop (ι := List Int × List Nat × Nat) (fun x => ⟨85, 1500, [(7, .own 100 n), (8, .d (.view 30 1 (nxtR E n))), (11, .own 101 x.2.1.length), (12, aI a), (57, .d (vI (nI (nextL E c)))), (58, aI (nextL E c).length), (59, aI x.2.2)], [(100, some (.arr 3 1 (ints x.1))), (101, some (.arr 3 1 (ints (nI x.2.1))))]⟩) (fun x => BfsI E n s x.1 x.2.1 a x.2.2 ∧ a < x.2.1.length ∧ x.2.1.getD a 0 = c ∧ (∀ v, oa x.1 v ≤ a + 1) ∧ oa x.1 c ≤ a ∧ 0 ≤ oa x.1 c ∧ x.2.2 ≤ (nextL E c).length) (fun x => (nextL E c).length - x.2.2) ((o, q, 0)) ?_ (⟨hB, ha, hc.symm, fun v => by have := hbd v; dsimp only; omega, hbd c, hc0, Nat.zero_le _⟩) ?_
  ·exact zw [(100, 100), (101, 101)] hC
  rintro ⟨o, q, j⟩ ⟨hB, ha, hqc, hbd, hbc, hc0, hj⟩;dsimp only at hB ha hqc hbd hbc hc0 hj ⊢;have hol := hB.len;have hql : q.length ≤ n := by have := hB.cnt; omega
  refine AC.seq (AC.region ?_);refine zc ?_;refine AL.nil (th_n (AC.seq ?_));refine AC.condD rfl (fun h2 => ?_) (fun h2 => ?_)
  ·refine AC.skip (th_n (AC.seq (AC.block (AC.seq ?_))));have hj1 : j < (nextL E c).length := by omega
   have hnl := nextL_len E c;have hget := nI_get hj1;have hno := hB.no ha (j := j);have hye := hB.yes ha (j := j);rw [hqc] at hno hye;have hno := hno hj1;have hye := hye hj1;have htn : (nextL E c)[j] < n := (hE _ _ (nextL_mem.1 (List.getElem_mem hj1))).2;obtain ⟨t, ht⟩ := eqx ((nextL E c)[j]);rw [← ht] at hget hno hye htn;clear ht;have hot := ints_oa (o := o) (v := t) (by omega);have hoc := ints_oa (o := o) (v := c) (by omega);have hqa := nI_at ha hqc;refine AC.region ?_;refine AL.p (by exact g_ia_view rfl rfl rfl rfl rfl (by rfl) (by assumption)) rfl ?_;refine zr ?_;refine za ?_;refine AL.nil (th_n (AC.seq (AC.region ?_)));refine kB ?_;refine zm ?_;refine kO t n htn ?_;refine AL.p (by exact g_load_arr1 rfl rfl rfl rfl (by rw [Nat.mul_one]; exact hot)) rfl ?_;refine zc ?_;refine AL.nil (th_n ?_);refine AC.condD rfl (fun h3 => ?_) (fun h3 => ?_)
   ·refine AC.seq (AC.region ?_);refine kB ?_;refine zm ?_;refine kB ?_;refine kB ?_;refine zm ?_;refine kO a q.length ha ?_;refine AL.p (by exact g_load_arr1 rfl rfl rfl rfl (by rw [Nat.mul_one]; exact hqa)) rfl ?_;refine AL.p (by exact g_ia_own (i := c) (l := n) rfl rfl rfl rfl rfl rfl (by omega) rfl) rfl ?_;refine AL.p (by exact g_load_arr1 rfl rfl rfl rfl (by rw [Nat.mul_one]; exact hoc)) rfl ?_;refine zA ?_;refine kO t n htn ?_;refine AL.q (by exact h_store_arr (i := t) (j := 0) (d := dI (oa o c + 1)) rfl rfl rfl rfl .same rfl hot (by decide)) rfl ?_;refine AL.nil (th_n (AC.region ?_));refine kB ?_;refine zm ?_;refine AL.q (by exact h_litF rfl rfl rfl rfl rfl rfl rfl rfl) rfl ?_;refine AL.q (by exact h_appendI (nI q) [(t : Int)] (.own rfl rfl (by rw [ints_len, nI_len])) (.view rfl) (by rw [List.length_append, nI_len]; simp only [List.length_cons, List.length_nil]; omega) (by simp)) rfl ?_;refine AL.p (by exact as2 rfl) rfl ?_;refine AL.nil (ib_n (th_n (AC.region ?_)));refine zA ?_;refine zm ?_;refine AL.nil (th_n ?_)
    (have hlt : oa o t < 0 := (by assumption); have e := hye hlt; have hct : c ≠ t := (fun q => by rw [q] at hc0; omega); exact ⟨(o.set t (oa o c + 1), q ++ [t], j + 1), ⟨e, by rw [List.length_append]; omega, by rw [getD_app1 ha]; exact hqc, fun v => by dsimp only; (by_cases g : v = t); (rw [g, oa_set_self (by omega)]; omega); (rw [oa_set_ne g]; exact hbd v), by dsimp only; rw [oa_set_ne hct]; exact hbc, by dsimp only; rw [oa_set_ne hct]; exact hc0, by dsimp only; omega⟩, by dsimp only; omega, Weak.ren _ [(100, 100), (101, _)] hC rfl (by rw [List.length_append, nI_len, List.length_append]; repeat (first | exact True.intro | refine And.intro ?_ ?_ | exact DLead.same | exact rfl | refine ⟨_, rfl, ?_⟩)) (by rw [ints_set, show nI (q ++ [t]) = nI q ++ [(t : Int)] by unfold nI; rw [List.map_append]; rfl]; repeat (first | exact True.intro | refine And.intro ?_ ?_ | exact rfl | refine ⟨_, _, rfl, rfl, ?_⟩)) rfl rfl rfl⟩)
   refine AC.skip (ib_n (th_n (AC.region ?_)));refine zA ?_;refine zm ?_;refine AL.nil (th_n ?_)
   (have hge : 0 ≤ oa o t := (by omega); have e := hno hge; exact ⟨(o, q, j + 1), ⟨e, ha, hqc, hbd, hbc, hc0, by dsimp only; omega⟩, by dsimp only; omega, zw [(100, 100), (101, 101)] hC⟩)
  refine AC.exit (th_e (th_e (ib_y (ib_n (th_n (AC.region ?_))))));refine zm ?_;refine zA ?_;refine za ?_;refine AL.nil (th_n ?_);have e := hB.next ha (by rw [hqc]; omega);exact ⟨(o, q, a + 1), ⟨e, hbd⟩, by dsimp only; omega, zw [(100, 100), (101, 101)] hC⟩
 refine AC.exit (th_e (th_e (ib_y (th_n (AC.seq ?_)))));have haq : a = q.length := by omega
 rw [haq] at hB;have hd := hB.dist.eq;rw [hd];refine AC.weak (Weak.freeze (i := 7) rfl rfl (by rw [ints_len, hB.len]; exact Nat.le_refl _) (List.take_of_length_le (by rw [ints_len, hB.len]; exact Nat.le_refl _))) ?_;refine AC.region ?_;refine zm ?_;refine za ?_;refine AL.nil (th_n (AC.ret (bq_r ?_)));exact ret1 rfl rfl
theorem en_distances : Enters Tryz.prog 146 := enters_of Tryz.func146 rfl rfl
theorem DistOf.lt {E : List (Nat × Nat)} {n s : Nat} {o : List Int} (h : DistOf E n s o) {v : Nat} (hv : 0 ≤ oa o v) : v < n := by have := oa_lt hv; rw [h.len] at this; exact this
theorem distF_le {E : List (Nat × Nat)} {n s : Nat} (hs : s < n) (hE : ∀ f t, (f, t) ∈ E → f < n ∧ t < n) (v : Nat) : -1 ≤ oa (distF E n s) v ∧ oa (distF E n s) v ≤ n := by
 obtain ⟨o, h⟩ := rnd_ex hs hE n;rw [h.dist.eq];exact ⟨h.lo v, h.hi0 rfl v⟩
theorem repZ (n : Nat) : List.replicate n (([ZK.int .i64] : List ZK).map fun z => DV.val z.val) = ints (List.replicate n 0) := by rw [ints, List.map_replicate]; rfl
end Go.Proofs.YtbofmbjefbpnaaaGreat
