/- append, and bytes and strings turned into each other. No program is named here. -/
import Derived.Test.YtochebmkfdfbhaaA8
import Derived.ArgAppend
import Derived.Deep.AppendSrc
set_option linter.all false
namespace Go.Proofs.Ytochebmkfdfbhaa
open Go.RowKit

/-- The cells of rows, one behind the other. -/
def rowVals (arr : Array Value) (off n : Nat) : List Value := (arr.toList.drop off).take n

section
variable {P : Program} [PT P]
variable {s : ASt} {dst : Option Nat} {ty : Nat} {pos : String} {af : Array Edge} {gd : Option (Nat × Bool)} {x y : Operand} {t f : Nat} {ts : TS}

/-- What an appended operand stands for: so many cells in memory, of so many rows. -/
structure Rows' (w : World) (F : Nat → Prop) (sz : Nat) (els : List (List DV)) (v : Value) (vs : List Value) : Prop where
  shape : ∃ a cap, v = .slice a els.length cap ∧ (∀ p, a = some p → p.spot = none ∧ w.rangeAt p.block p.off vs) ∧ (a = none → vs = [])
  len : vs.length = els.length * sz
  one : ∀ u, u ∈ vs → u.oneCell' = true
  rep : ∀ (i : Nat) (cs : List DV) (j : Nat) (d : DV), els[i]? = some cs → cs[j]? = some d → DRep F w d (vs.getD (i * sz + j) undef)
  rows : ∀ (i : Nat) cs, els[i]? = some cs → cs.length = sz

theorem rows_at {w : World} {F : Nat → Prop} {b off e sz cap : Nat} {els : List (List DV)} {arr : Array Value} {fz : Nat × Nat} (hb : w.heap[b]? = some (.cells arr e fz)) (hle : off + els.length * sz ≤ arr.size)
    (h4 : ∀ (i : Nat) (cs : List DV), els[i]? = some cs → cs.length = sz) (h5 : ∀ (i : Nat) (cs : List DV) (j : Nat) (d : DV), els[i]? = some cs → cs[j]? = some d → DRep F w d (arr.getD (off + i * sz + j) undef)) :
    Rows' w F sz els (.slice (some ⟨b, off, none⟩) els.length cap) ((arr.toList.drop off).take (els.length * sz)) := by
  obtain ⟨r1, r2, r3⟩ := range_of (off := off) (n := els.length * sz) hb hle
  have hin : ∀ (i : Nat) (cs : List DV) (j : Nat) (d : DV), els[i]? = some cs → cs[j]? = some d → i * sz + j < els.length * sz := by
    intro i cs j d hi hj
    have h1 := (List.getElem?_eq_some_iff.1 hi).1
    have h2 := (List.getElem?_eq_some_iff.1 hj).1
    rw [h4 i cs hi] at h2
    have : (i + 1) * sz ≤ els.length * sz := Nat.mul_le_mul_right _ h1
    rw [Nat.succ_mul] at this; omega
  have hg : ∀ q, q < els.length * sz → ((arr.toList.drop off).take (els.length * sz)).getD q undef = arr.getD (off + q) undef := by
    intro q hq
    rw [← r3 q hq]
    simp [Array.getD_eq_getD_getElem?, List.getD]
  refine ⟨⟨_, _, rfl, fun p hp => by cases hp; exact ⟨rfl, r2⟩, fun h => by cases h⟩, r1, fun u hu => ?_, fun i cs j d hi hj => ?_, h4⟩
  · obtain ⟨q, hq⟩ := List.getElem?_of_mem hu
    have hq1 := (List.getElem?_eq_some_iff.1 hq).1
    rw [r1] at hq1
    by_cases hsz : sz = 0
    · subst hsz; simp at hq1
    have hq2 : q / sz < els.length := (Nat.div_lt_iff_lt_mul (by omega)).2 hq1
    have hrow := h4 _ _ (List.getElem?_eq_getElem hq2)
    have hq3 : q % sz < (els[q / sz]).length := by rw [hrow]; exact Nat.mod_lt _ (by omega)
    have := h5 _ _ _ _ (List.getElem?_eq_getElem hq2) (List.getElem?_eq_getElem hq3)
    have e : off + q / sz * sz + q % sz = off + q := by rw [Nat.add_assoc, Nat.mul_comm, Nat.div_add_mod]
    rw [e] at this
    have h6 := hg q hq1
    rw [List.getD, hq] at h6
    simp only [Option.getD_some] at h6
    rw [h6]
    exact this.one
  · rw [hg _ (hin i cs j d hi hj), ← Nat.add_assoc]
    exact h5 i cs j d hi hj
theorem rows_view {w : World} {F : Nat → Prop} {e sz : Nat} {els : List (List DV)} {v : Value} (h : DRep F w (.view e sz els) v) : ∃ vs, Rows' w F sz els v vs := by
  cases h with
  | nil => exact ⟨[], ⟨none, 0, rfl, (fun p hp => by cases hp), fun _ => rfl⟩, by simp, by simp, by simp, by simp⟩
  | view hF hb h1 h2 h3 h4 h5 =>
    exact ⟨_, rows_at hb (by have := Nat.mul_le_mul_right sz h1; omega) h4 h5⟩
theorem rows_own {w : World} {m : Nat → Option (Option Nat × Nat)} {F : Nat → Prop} {b : Option Nat} {cap : Nat} {e sz : Nat} {els : List (List DV)} (h : CRep m F w (b, cap) (.arr e sz els)) {n : Nat} (hn : n ≤ els.length) : ∃ vs, Rows' w F sz (els.take n) (.slice (b.map fun b => ⟨b, 0, none⟩) n cap) vs := by
  cases h with
  | nil h0 =>
    have : n = 0 := by simpa using hn
    subst this
    exact rows_view (e := e) .nil
  | arr hb hf hs hl hm h0 hsz he =>
    have hlen : (els.take n).length = n := by simp; omega
    have h4 : ∀ (i : Nat) (cs : List DV), (els.take n)[i]? = some cs → els[i]? = some cs := by
      intro i cs hi
      rw [List.getElem?_take] at hi
      split at hi
      · exact hi
      · cases hi
    have := rows_at (F := F) (els := els.take n) (sz := sz) (off := 0) (cap := cap) hb (by rw [hlen]; have := Nat.mul_le_mul_right sz (Nat.le_trans hn hl); omega) (fun i cs hi => hsz i cs (h4 i cs hi)) (fun i cs j d hi hj => by rw [Nat.zero_add]; exact he i cs j d (h4 i cs hi) hj)
    rw [hlen] at this
    exact ⟨_, this⟩

/-- An operand that is appended: data, or one of the call's own slices. -/
inductive AppArg (s : ASt) (x : Operand) (sz : Nat) (els : List (List DV)) : List Nat → Prop
  | view {e : Nat} : s.ev x = .d (.view e sz els) → AppArg s x sz els []
  | own {id n e : Nat} {all : List (List DV)} : s.ev x = .own id n → s.chunk id = some (.arr e sz all) → n ≤ all.length → all.take n = els → AppArg s x sz els [id]
  | nil : s.ev x = .d (.val (.slice none 0 0)) → els = [] → AppArg s x sz els []
  | tight {e : Nat} : s.ev x = .tight e sz els → AppArg s x sz els []
theorem AppArg.rows {s' : ASt} {C : Ctx} {U : Nat → Prop} {a : Act} {w : World} {m : Nat → Option (Option Nat × Nat)} {sz : Nat} {els : List (List DV)} {ids : List Nat} (h : AppArg s x sz els ids) (hev : s'.ev x = s.ev x) (hch : ∀ id, id ∈ ids → s'.chunk id = s.chunk id) (hR : RelM C U s' a w m) : ∃ vs, Rows' w (Fz C m s' w) sz els (a.eval x) vs := by
  have hx := hR.ev x
  rw [hev] at hx
  cases h with
  | view h => rw [h] at hx; cases hx with | d h => exact rows_view h
  | nil h he => rw [h] at hx; obtain ⟨e1, _⟩ := hx.val_eq; subst he; rw [e1]; exact rows_view (e := 0) .nil
  | own h1 h2 h3 h4 =>
    rw [h1] at hx
    generalize hv : a.eval x = v at hx
    cases hx with
    | own hp =>
      subst h4
      exact rows_own (hR.chunkAt (by rw [hch _ (by simp)]; exact h2) hp) h3
  | tight h =>
    rw [h] at hx
    generalize hv : a.eval x = v at hx
    cases hx with
    | tight h => exact rows_view h

theorem src_of {w : World} {F : Nat → Prop} {sz tx e : Nat} {els : List (List DV)} {v : Value} {vs : List Value} (h : Rows' w F sz els v vs) (ht : P.underlying tx = some (.slice e)) : Src P sz tx v els.length vs w := by
  obtain ⟨⟨a, cap, rfl, hs, hn⟩, hl, h1, _, _⟩ := h
  refine ⟨.inl ⟨e, ht⟩, fun w' => by simp [Builtin.lenOf], ?_, ?_, hl, h1⟩
  · cases a with
    | none => rw [hn rfl]; simp [Builtin.firstCells]
    | some p =>
      obtain ⟨b, off, sp⟩ := p
      obtain ⟨rfl, hr⟩ := hs _ rfl
      exact run_firstCells_some (P := P) w sz els.length _ _ _ vs hl (fun j v hj => by rw [addr_add]; exact hr j v hj)
  · cases a with
    | none => rw [hn rfl]; simp [Builtin.firstCells]
    | some p =>
      obtain ⟨b, off, sp⟩ := p
      obtain ⟨rfl, hr⟩ := hs _ rfl
      exact run_firstCells_some (P := P) w.drew sz els.length _ _ _ vs hl (fun j v hj => by rw [addr_add]; exact hr j v hj)

/-- The slice that is appended to: it, and the block that it gives up. -/
inductive AppTo (s : ASt) (x : Operand) (e sz : Nat) (els : List (List DV)) : List Nat → List (Nat × Option Chunk) → Prop
  | nil : s.ev x = .d (.val (.slice none 0 0)) → els = [] → AppTo s x e sz els [] []
  | tight : s.ev x = .tight e sz els → AppTo s x e sz els [] []
  | own {id n : Nat} : s.ev x = .own id n → s.chunk id = some (.arr e sz els) → n = els.length → AppTo s x e sz els [id] [(id, none)]

theorem grow_rows {w : World} {F : Nat → Prop} {sz e need : Nat} {a b : List (List DV)} {va vb : List Value} {v v' : Value} {z : Value} {rest : Nat} (ha : Rows' w F sz a v va) (hb : Rows' w F sz b v' vb) :
    (∀ (i : Nat) cs, (a ++ b)[i]? = some cs → cs.length = sz) ∧ ∀ (i : Nat) (cs : List DV) (j : Nat) (d : DV), (a ++ b)[i]? = some cs → cs[j]? = some d → ∀ X : Array Value, DRep F w d (((va ++ vb).toArray ++ X).getD (i * sz + j) undef) := by
  have hlen : ∀ (i : Nat) cs, (a ++ b)[i]? = some cs → cs.length = sz := by
    intro i cs hi
    rcases List.mem_append.1 (List.mem_of_getElem? hi) with h | h
    · obtain ⟨k, hk⟩ := List.getElem?_of_mem h; exact ha.rows k cs hk
    · obtain ⟨k, hk⟩ := List.getElem?_of_mem h; exact hb.rows k cs hk
  refine ⟨hlen, fun i cs j d hi hj X => ?_⟩
  have hj1 := (List.getElem?_eq_some_iff.1 hj).1
  rw [hlen i cs hi] at hj1
  have key : ∀ k (l : List Value), k < l.length → (l.toArray ++ X).getD k undef = l.getD k undef := by
    intro k l hk
    simp [Array.getD_eq_getD_getElem?, List.getD, Array.getElem?_append, hk]
  by_cases h : i < a.length
  · rw [List.getElem?_append_left h] at hi
    have h1 : (i + 1) * sz ≤ a.length * sz := Nat.mul_le_mul_right _ h
    rw [Nat.succ_mul] at h1
    have := ha.len
    rw [key _ _ (by simp; omega)]
    have e1 : (va ++ vb).getD (i * sz + j) undef = va.getD (i * sz + j) undef := by
      simp only [List.getD, List.getElem?_append_left (show i * sz + j < va.length by omega)]
    rw [e1]
    exact ha.rep i cs j d hi hj
  · rw [List.getElem?_append_right (by omega)] at hi
    have hi1 := (List.getElem?_eq_some_iff.1 hi).1
    have h1 : (i - a.length + 1) * sz ≤ b.length * sz := Nat.mul_le_mul_right _ hi1
    rw [Nat.succ_mul] at h1
    have h2 : i * sz = a.length * sz + (i - a.length) * sz := by rw [← Nat.add_mul]; congr 1; omega
    have := ha.len
    have := hb.len
    rw [key _ _ (by simp; omega)]
    have e1 : (va ++ vb).getD (i * sz + j) undef = vb.getD ((i - a.length) * sz + j) undef := by
      simp only [List.getD, List.getElem?_append_right (show va.length ≤ i * sz + j by omega)]
      congr 2; omega
    rw [e1]
    exact hb.rep _ cs j d hi hj
theorem AppTo.rows {s' : ASt} {C : Ctx} {U : Nat → Prop} {a : Act} {w : World} {m : Nat → Option (Option Nat × Nat)} {e sz : Nat} {els : List (List DV)} {ids : List Nat} {gone : List (Nat × Option Chunk)} (h : AppTo s x e sz els ids gone) (hev : s'.ev x = s.ev x) (hch : ∀ id, id ∈ ids → s'.chunk id = s.chunk id) (hR : RelM C U s' a w m) :
    ∃ vs base cap, a.eval x = .slice base els.length cap ∧ els.length ≤ cap ∧ Rows' w (Fz C m s' w) sz els (.slice base els.length cap) vs ∧
      ((gone = [] ∧ cap = els.length) ∨ ∃ id b, gone = [(id, none)] ∧ s'.chunk id = some (.arr e sz els) ∧ m id = some (b, cap) ∧ base = b.map (fun b => ⟨b, 0, none⟩)) := by
  have hx := hR.ev x
  rw [hev] at hx
  cases h with
  | nil h he => rw [h] at hx; obtain ⟨e1, _⟩ := hx.val_eq; subst he; obtain ⟨vs, hv⟩ := rows_view (F := Fz C m s' w) (sz := sz) (e := 0) (w := w) .nil; exact ⟨vs, none, 0, e1, by simp, hv, .inl ⟨rfl, rfl⟩⟩
  | tight h =>
    rw [h] at hx
    generalize hv : a.eval x = v at hx
    cases hx with
    | tight h => obtain ⟨vs, hv⟩ := rows_view h; exact ⟨vs, _, _, rfl, Nat.le_refl _, hv, .inl ⟨rfl, rfl⟩⟩
  | own h1 h2 h3 =>
    rename_i id n
    rw [h1] at hx
    have hc' : s'.chunk id = some (.arr e sz els) := by rw [hch _ (by simp)]; exact h2
    generalize hv : a.eval x = v at hx
    cases hx with
    | own hp h0 =>
      rename_i cap b
      subst h3
      have hC := hR.chunkAt hc' hp
      obtain ⟨vs, hr⟩ := rows_own hC (Nat.le_refl els.length)
      rw [List.take_length] at hr
      refine ⟨vs, _, cap, rfl, ?_, hr, .inr ⟨id, b, rfl, hc', hp, rfl⟩⟩
      cases hC with
      | arr _ _ _ h _ => exact h
      | nil => simp

theorem h_append {e e2 tx n bt n2 bt2 sz k : Nat} {zs zs2 : List ZK} {te : TS} {els new : List (List DV)} {ids ids2 : List Nat} {gone : List (Nat × Option Chunk)} (ht : PT.ty P t = some ⟨.slice e, n, bt, zs⟩) (htx : PT.ty P tx = some ⟨.slice e2, n2, bt2, zs2⟩) (he : PT.ty P e = some te) (hs : te.size = sz) (hz0 : te.zero.length = te.size) (h0 : Nat.beq sz 0 = false)
    (hto : AppTo s x e sz els ids gone) (harg : AppArg s y sz new ids2) (hk : els.length + new.length = k) (hml : k ≤ 1125899906842624) (hbytes : k * te.bytes ≤ 140737488355328) (hnew : gone = [] → 0 < new.length) :
    NOp P (ids ++ ids2) s ⟨dst, .call { callee := .builtin .append, args := #[x, y], argTypes := #[t, tx] }, ty, pos, af, gd⟩ f ⟨.own f k, (f, some (.arr e sz (els ++ new))) :: gone⟩ := by
  refine NOp.value fun s' ha C U U' a w m hR hU hU' hd => ?_
  have hne : sz ≠ 0 := Nat.ne_of_beq_eq_false h0
  obtain ⟨i, d, z, hi, hd', hkd, h1, h2, h3, h4⟩ := PT.facts he
  obtain ⟨va, base, cap, hxv, hcap, hra, hkind⟩ := hto.rows (ha.2.1 x (by simp [Op.operands, Call.operands])) (fun id hid => ha.2.2 id (List.mem_append_left _ hid)) hR
  obtain ⟨vb, hrb⟩ := harg.rows (ha.2.1 y (by simp [Op.operands, Call.operands])) (fun id hid => ha.2.2 id (List.mem_append_right _ hid)) hR
  have hsrc : Src P i.size tx (a.eval y) new.length vb w := by rw [h1, hs]; exact src_of hrb (PT.slice htx)
  have hgr := grow_rows (e := e) (need := 0) (z := z) (rest := 0) hra hrb
  have hexec : ∀ v w', (Builtin.append_ #[t, tx] ty #[a.eval x, a.eval y]).run P w = .ok v w' → (execOp a.eval ⟨dst, .call { callee := .builtin .append, args := #[x, y], argTypes := #[t, tx] }, ty, pos, af, gd⟩).run P w = .ok (.value v) w' := by
    intro v w' h
    simp [execOp, resolve, invoke, builtin, h]
  have hU0 : U f := by simpa using hU 0 (by omega)
  have hU1 : ∀ j, U' j → U j ∧ j ≠ f := fun j hj => by have := hU' j hj; exact ⟨this.1, by omega⟩
  have hgone : ∀ j c, getL j gone ≠ some (some c) := by
    intro j c hj
    rcases hkind with ⟨rfl, _⟩ | ⟨id, b, rfl, _⟩
    · simp [getL] at hj
    · obtain ⟨_, h⟩ := getL_one hj; cases h
  by_cases hfit : els.length + new.length ≤ cap
  · -- room, or nothing to add
    rcases hkind with ⟨hg, hcl⟩ | ⟨id, b, hg, hc', hp, hb⟩
    · have := hnew hg; omega
    · subst hg
      cases b with
      | none =>
        have hC := hR.chunkAt hc' hp
        cases hC with
        | nil hz =>
          have hn0 : new = [] := by simpa using hfit
          subst hn0
          have hv0 : vb = [] := List.eq_nil_of_length_eq_zero (by have := hrb.len; simpa using this)
          subst hv0
          have hrun := run_append_nothing (P := P) w t tx ty e i (PT.slice ht) hi base 0 0 (Nat.le_refl _) (a.eval y) (by simpa using hsrc)
          obtain rfl : k = 0 := by simpa using hk.symm
          refine ⟨_, _, _, hexec _ _ (by rw [hxv]; exact hrun), hR.named (p := (none, 0)) (c := .arr e sz ([] ++ [])) hd hU0 hU1 hgone hR.fr (Nat.le_refl _) (by simp) (fun k _ _ => rfl) (fun F' hF => ⟨?_, .nil (by omega)⟩)⟩
          rw [hb]
          exact .own (b := none) (newM_self _ _ _) (by simp)
      | some b =>
        have hC := hR.chunkAt hc' hp
        cases hC with
        | arr hbb hff hss hl hm hz0' hszs hel =>
          rename_i arr fz
          have hrun := run_append_room_src (P := P) w t tx ty e i (PT.slice ht) hi b 0 els.length cap (a.eval y) new.length vb hsrc (by omega) ?_ ?_
          · have hbl : base = some ⟨b, 0, none⟩ := hb
            rw [h1, hs, Nat.zero_add] at hrun
            have hseg := setSeg_get vb arr (els.length * sz) (by have h5 := hrb.len; have h6 := Nat.mul_le_mul_right sz hfit; rw [Nat.add_mul] at h6; omega)
            have hfr1 : Fr [b] w (w.setCells b (els.length * sz) vb) := fr_setCells vb w _
            obtain ⟨q, hq, _, hloc⟩ := hR.ch id _ hc'
            rw [hp] at hq
            obtain rfl : (some b, cap) = q := by simpa using hq
            refine ⟨_, _, _, hexec _ _ (by rw [hxv, hbl]; exact hrun), hR.named (p := (some b, cap)) (c := .arr e sz (els ++ new)) hd hU0 hU1 hgone ?_ hfr1.size (fun b' hb' => .inr ⟨id, _, _, by simp [getL], hc', hp, hb'⟩) (fun k hk hn => hfr1.block k hk (by simpa using fun e => hn (by simp [e]))) (fun F' hF => ⟨?_, .arr (heap_setCells_at vb w _ _ hbb) (by rw [setSeg_size]; exact hff) (by rw [setSeg_size]; exact hss) (by simp only [List.length_append]; exact hfit) hm hz0' hgr.1 (fun i' cs j d' hic hjd => ?_)⟩)⟩
            · exact hR.fr.trans_new hfr1 (fun k hk => by have e : k = b := (by simpa using hk); subst e; exact hloc k rfl)
            · rw [← hk]; exact .own (b := some b) (newM_self _ _ _) (by simp)
            · have hj1 := (List.getElem?_eq_some_iff.1 hjd).1
              rw [hgr.1 i' cs hic] at hj1
              rw [hseg]
              by_cases hlt : i' < els.length
              · rw [List.getElem?_append_left hlt] at hic
                have h5 : (i' + 1) * sz ≤ els.length * sz := Nat.mul_le_mul_right _ hlt
                rw [Nat.succ_mul] at h5
                rw [if_neg (by omega)]
                exact (hel i' cs j d' hic hjd).turn (fun k hk _ => hF k hk)
              · rw [List.getElem?_append_right (by omega)] at hic
                have hi1 := (List.getElem?_eq_some_iff.1 hic).1
                have h5 : (i' - els.length + 1) * sz ≤ new.length * sz := Nat.mul_le_mul_right _ hi1
                rw [Nat.succ_mul] at h5
                have h6 : i' * sz = els.length * sz + (i' - els.length) * sz := by rw [← Nat.add_mul]; congr 1; omega
                have h7 := hrb.len
                rw [if_pos (by omega), show i' * sz + j - els.length * sz = (i' - els.length) * sz + j by omega]
                exact (hrb.rep _ cs j d' hic hjd).turn (fun k hk _ => hF k hk)
          · intro j hj
            have h5 := hrb.len
            have h6 := Nat.mul_le_mul_right sz hfit
            rw [Nat.add_mul] at h6
            rw [h1, hs, cell_getD hbb (by omega)]; rfl
          · intro j hj
            have h5 := hrb.len
            have h6 := Nat.mul_le_mul_right sz hfit
            rw [Nat.add_mul] at h6
            have := hff (0 + els.length * sz + j) (by omega)
            simp only [World.frozen?, h1, hs, hbb]
            simp only [not_and, Nat.not_lt] at this
            by_cases hh : fz.1 ≤ 0 + els.length * sz + j
            · have := this hh
              simp only [Bool.and_eq_false_iff, decide_eq_false_iff_not]; right; omega
            · simp only [Bool.and_eq_false_iff, decide_eq_false_iff_not]; left; omega
  · -- a new block
    have hold : (Builtin.firstCells i.size els.length (.slice base els.length cap)).run P w.drew = .ok va.toArray w.drew := by
      rw [h1, hs]
      exact (src_of hra (PT.slice ht)).cellsD
    have hk' := hk
    have hcapn := nextslicecap_le (need := els.length + new.length) (old := cap) (by omega)
    have hrun := run_append_grow_src (P := P) w t tx ty e i z (PT.slice ht) hi h3 base els.length cap va hold (a.eval y) new.length vb hsrc (by omega) (by omega) (by
      rw [h2]
      have : Builtin.nextslicecap (els.length + new.length) cap * te.bytes ≤ 2 * (els.length + new.length) * te.bytes := Nat.mul_le_mul_right _ hcapn
      rw [hk] at this ⊢
      rw [Nat.mul_assoc] at this
      omega)
    have hge := grownCap_ge w (els.length + new.length) cap e
    have hzc : z.cells.size = sz := by rw [h4]; simp [hz0, hs]
    have hXs : (Builtin.zeroCells z.cells (grownCap w (els.length + new.length) cap e - (els.length + new.length))).size = (grownCap w (els.length + new.length) cap e - (els.length + new.length)) * sz := by simp [Builtin.zeroCells, hzc]
    generalize Builtin.zeroCells z.cells (grownCap w (els.length + new.length) cap e - (els.length + new.length)) = X at hrun hXs
    have hfrd : Fr C.S C.w (w.drew.alloc (.cells ((va ++ vb).toArray ++ X) e)) := (hR.fr.drew).alloc _
    have hsame : ∀ (o : Obj) k, k < w.heap.size → (w.drew.alloc o).heap[k]? = w.heap[k]? := fun o k hk => Below.heap_alloc w.drew o k hk
    have hhb : (w.drew.alloc (.cells ((va ++ vb).toArray ++ X) e)).heap[w.heap.size]? = some (.cells ((va ++ vb).toArray ++ X) e (0, 0)) := heap_alloc_new w.drew _
    refine ⟨_, _, _, hexec _ _ (by rw [hxv]; exact hrun), hR.named (p := (some w.heap.size, grownCap w (els.length + new.length) cap e)) (c := .arr e sz (els ++ new)) hd hU0 hU1 hgone hfrd (by simp) (fun b hb => .inl (by simp only [Option.some.injEq] at hb; subst hb; simp)) (fun k hk _ => hsame _ k hk) (fun F' hF => ⟨?_, CRep.arr hhb (by simp) ?_ (by simp only [List.length_append]; exact hge) (grownCap_le_maxLen _ _ _ _ (by simp only [maxLen]; omega)) (by omega) hgr.1 (fun i' cs j d' hic hjd => ((hgr.2 i' cs j d' hic hjd X).turn (fun k hk _ => hF k hk)))⟩)⟩
    · rw [← hk]; exact .own (b := some w.heap.size) (newM_self _ _ _) (by simp)
    · have h5 := hra.len
      have h6 := hrb.len
      simp only [Array.size_append, List.size_toArray, List.length_append, hXs, h5, h6]
      rw [← Nat.add_mul, ← Nat.add_mul]
      congr 1; omega
end
end Go.Proofs.Ytochebmkfdfbhaa
