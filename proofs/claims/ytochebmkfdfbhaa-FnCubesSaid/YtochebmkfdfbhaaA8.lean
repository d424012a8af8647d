/- Structs made and taken apart, slices made, bytes and strings turned into each other. No program is named here. -/
import Derived.Test.YtochebmkfdfbhaaA7
import Derived.Great.FillDense
import Derived.Laws.Tables
import Derived.Laws.BytesArg
import Derived.Laws.MakeOwn
import Derived.Great.BuildSlice
set_option linter.all false
namespace Go.Proofs.Ytochebmkfdfbhaa
open Go.RowKit

section
variable {P : Program} [PT P]
variable {s : ASt} {dst : Option Nat} {ty : Nat} {pos : String} {af : Array Edge} {gd : Option (Nat × Bool)} {x y : Operand} {t f : Nat} {ts : TS}

def buildAV (fs : List (Nat × Nat)) : List (Nat × AV) → List AV → Option (List AV)
  | [], cs => some cs
  | (i, x) :: rest, cs =>
    match fs[i]?, x.cells? with
    | some (off, sz), some vs => bif Nat.beq vs.length sz && Nat.ble (off + vs.length) cs.length then buildAV fs rest (setL cs off vs) else none
    | _, _ => none
theorem foldl_setSeg (o : Nat) : ∀ (vs : List Value) (k : Nat) (cs : Array Value), (vs.zipIdx k).foldl (fun cs (c, j) => cs.setIfInBounds (o + j) c) cs = setSeg cs (o + k) vs
  | [], k, cs => rfl
  | v :: vs, k, cs => by
    rw [List.zipIdx_cons, List.foldl_cons, foldl_setSeg o vs (k + 1)]
    simp [setSeg, Nat.add_assoc]
theorem build_rep {m : Nat → Option (Option Nat × Nat)} {F : Nat → Prop} {w : World} {fs : List (Nat × Nat)} {place : Nat → Option (Nat × Nat)} (hp : ∀ i, place i = fs[i]?) : ∀ (ps : List (Nat × AV)) (vs : List (Nat × Value)) (cs r : List AV) (arr : Array Value),
    ps.map (·.1) = vs.map (·.1) → (∀ (i : Nat) p v, ps[i]? = some p → vs[i]? = some v → ARep m F w p.2 v.2) → buildAV fs ps cs = some r → arr.size = cs.length → (∀ (i : Nat) (c : AV), cs[i]? = some c → ARep m F w c (arr.getD i undef)) → (∀ i, i < arr.size → (arr.getD i undef).oneCell' = true) →
    ∃ out, Instr.fill place arr vs = some out ∧ out.size = r.length ∧ (∀ (i : Nat) (c : AV), r[i]? = some c → ARep m F w c (out.getD i undef)) ∧ ∀ i, i < out.size → (out.getD i undef).oneCell' = true
  | [], vs, cs, r, arr, h1, h2, h3, h4, h5, h6 => by
    simp only [buildAV, Option.some.injEq] at h3
    subst h3
    cases vs with
    | nil => exact ⟨arr, rfl, h4, h5, h6⟩
    | cons v vs => simp at h1
  | (i, x) :: ps, vs, cs, r, arr, h1, h2, h3, h4, h5, h6 => by
    cases vs with
    | nil => simp at h1
    | cons v vs =>
      obtain ⟨i', v⟩ := v
      simp only [List.map_cons, List.cons.injEq] at h1
      obtain ⟨rfl, h1⟩ := h1
      simp only [buildAV] at h3
      cases hf : fs[i]? with
      | none => simp [hf] at h3
      | some p =>
        obtain ⟨off, sz⟩ := p
        cases hc : x.cells? with
        | none => simp [hf, hc] at h3
        | some us =>
          simp only [hf, hc] at h3
          cases hb : (Nat.beq us.length sz && Nat.ble (off + us.length) cs.length) with
          | false => simp [hb] at h3
          | true =>
            simp only [hb, cond_true] at h3
            simp only [Bool.and_eq_true] at hb
            have hsz : us.length = sz := by simpa using hb.1
            have hle : off + us.length ≤ cs.length := by simpa using hb.2
            have hv := h2 0 _ _ rfl rfl
            obtain ⟨g1, g2, g3⟩ := cells_rep hv hc
            have hg : ∀ i, (setSeg arr off v.cells.toList).getD i undef = if off ≤ i ∧ i < off + us.length then v.cells.getD (i - off) undef else arr.getD i undef := by
              intro i
              rw [setSeg_get _ _ _ (by simp; simp only at g1; omega) i]
              simp only [Array.length_toList, toList_getD]
              simp only at g1
              rw [g1]
            have hq := build_rep hp ps vs (setL cs off us) r (setSeg arr off v.cells.toList) h1 (fun i p u hpi hui => h2 (i + 1) p u (by simpa using hpi) (by simpa using hui)) h3 (by rw [setSeg_size, setL_length]; exact h4) (fun i c hi => ?_) (fun i hi => ?_)
            · obtain ⟨out, q1, q2, q3, q4⟩ := hq
              refine ⟨out, ?_, q2, q3, q4⟩
              simp only [Instr.fill, hp, hf]
              simp only at g1
              have e1 : ¬ (v.cells.size ≠ sz) := by omega
              have e2 : ¬ (off + v.cells.size > arr.size) := by omega
              simp only [g1, hsz, e2]
              rw [← hsz, ← g1]
              simp only [ne_eq, not_true_eq_false, decide_false, Bool.or_self, Bool.false_eq_true, if_false]
              have := foldl_setSeg off v.cells.toList 0 arr
              rw [Nat.add_zero] at this
              rw [← this] at q1
              have h9 : off + v.cells.size ≤ arr.size := by omega
              simpa [← Array.toList_zipIdx, h9] using q1
            · rw [hg]
              rw [setL_get _ _ _ hle] at hi
              by_cases hh : off ≤ i ∧ i < off + us.length
              · rw [if_pos hh] at hi ⊢; exact g2 _ _ hi
              · rw [if_neg hh] at hi ⊢; exact h5 _ _ hi
            · rw [hg]
              rw [setSeg_size] at hi
              by_cases hh : off ≤ i ∧ i < off + us.length
              · rw [if_pos hh]; exact g3 _ (by show i - off < v.cells.size; have g1' : v.cells.size = us.length := g1; omega)
              · rw [if_neg hh]; exact h6 _ hi
theorem places_of {F : List Field} {fs : List (Nat × Nat)} (h : F.map (fun f => (f.offset, P.cellsOf f.type)) = fs) (hz : fs.all (fun p => !Nat.beq p.2 0) = true) : F.mapM (fun f => (P.info? f.type).map fun i => (f.offset, i.size)) = some fs := by
  induction F generalizing fs with
  | nil => simp at h; subst h; rfl
  | cons fd F ih =>
    cases fs with
    | nil => simp at h
    | cons p fs =>
      simp only [List.map_cons, List.cons.injEq] at h
      obtain ⟨rfl, h⟩ := h
      simp only [List.all_cons, Bool.and_eq_true] at hz
      obtain ⟨i, hi, hs⟩ := info_of_cells (P := P) (t := fd.type) (by have := hz.1; simp only [Bool.not_eq_true'] at this; exact Nat.ne_of_beq_eq_false this)
      simp [List.mapM_cons, hi, ih h hz.2, hs]
theorem g_build {n bt : Nat} {fs : List (Nat × Nat)} {zs : List ZK} {parts : Array (Nat × Operand)} {r : List AV} (ht : PT.ty P t = some ⟨.struct fs, n, bt, zs⟩) (hz : fs.all (fun p => !Nat.beq p.2 0) = true) (hb : buildAV fs (parts.toList.map fun p => (p.1, s.ev p.2)) (zs.map ZK.av) = some r) : GOp P [] s ⟨dst, .build t parts, ty, pos, af, gd⟩ (.agg r) := by
  refine ⟨fun s' ha C U a w m hR => ?_⟩
  obtain ⟨F, hu, hF⟩ := PT.struct ht
  obtain ⟨i, d, z, hi, hd', hk, h1, h2, h3, h4⟩ := PT.facts ht
  have hpl := places_of hF hz
  have hq := build_rep (m := m) (F := Fz C m s' w) (w := w) (place := fun i => fs.toArray[i]?) (by simp) (parts.toList.map fun p => (p.1, s.ev p.2)) (parts.toList.map fun p => (p.1, a.eval p.2)) (zs.map ZK.av) r z.cells (by simp) (fun i p v hp hv => ?_) hb (by rw [h4]; simp) (fun i c hc => ?_) (fun i hi => ?_)
  · obtain ⟨out, q1, q2, q3, q4⟩ := hq
    refine ⟨.agg out, ?_, .agg q2 q3 q4⟩
    have hbt : P.built t (parts.toList.map fun p => (p.1, a.eval p.2)) = some out := by
      unfold Program.built
      simp only [hi, hu, h3, hpl]
      exact q1
    have := run_build (P := P) w t (parts.map fun p => (p.1, a.eval p.2)) out (by simpa using hbt)
    simp only [execOp, Sem.run_bind]
    rw [show (parts.map fun (i, x) => (i, a.eval x)) = parts.map fun p => (p.1, a.eval p.2) from rfl, this]
    simp
  · rw [List.getElem?_map, Option.map_eq_some_iff] at hp hv
    obtain ⟨p1, e1, rfl⟩ := hp
    obtain ⟨p2, e2, rfl⟩ := hv
    rw [e1] at e2
    obtain rfl : p1 = p2 := by simpa using e2
    have := hR.ev p1.2
    have hmem : p1.2 ∈ (Op.build t parts).operands := by
      simp only [Op.operands, List.mem_toArray, List.mem_map]
      exact ⟨p1, List.mem_of_getElem? e1, rfl⟩
    rw [ha.2.1 _ hmem] at this
    exact this
  · rw [List.getElem?_map, Option.map_eq_some_iff] at hc
    obtain ⟨k, hk, rfl⟩ := hc
    have : z.cells.getD i undef = k.val := by rw [h4]; simp [Array.getD_eq_getD_getElem?, hk]
    rw [this]
    exact .d (.val k.ok)
  · rw [h4] at hi ⊢
    have hi' : i < zs.length := by simpa using hi
    simp only [Array.getD_eq_getD_getElem?, List.getElem?_toArray, List.getElem?_map, List.getElem?_eq_getElem hi', Option.map_some, Option.getD_some]
    exact (ZK.ok _).one

/-- The elements of a slice literal, in their order. -/
def litAV (sz : Nat) : Nat → List (Nat × AV) → Option (List (List DV))
  | _, [] => some []
  | k, (i, x) :: rest =>
    match x.cells? with
    | some vs => match dvs vs, litAV sz (k + 1) rest with
      | some ds, some r => bif Nat.beq i k && Nat.beq ds.length sz then some (ds :: r) else none
      | _, _ => none
    | none => none
theorem lit_rep {m : Nat → Option (Option Nat × Nat)} {F : Nat → Prop} {w : World} {sz : Nat} : ∀ (ps : List (Nat × AV)) (vs : List (Nat × Value)) (k : Nat) (els : List (List DV)),
    ps.map (·.1) = vs.map (·.1) → (∀ (i : Nat) p v, ps[i]? = some p → vs[i]? = some v → ARep m F w p.2 v.2) → litAV sz k ps = some els →
    els.length = vs.length ∧ vs = ((vs.map (·.2)).zipIdx k).map (fun x => (x.2, x.1)) ∧ (∀ v, v ∈ vs.map (·.2) → v.cells.size = sz) ∧ (∀ (i : Nat) cs, els[i]? = some cs → cs.length = sz) ∧ ∀ (i : Nat) (cs : List DV) (j : Nat) (d : DV) v, els[i]? = some cs → cs[j]? = some d → (vs.map (·.2))[i]? = some v → DRep F w d (v.cells.getD j undef)
  | [], vs, k, els, h1, h2, h3 => by
    simp only [litAV, Option.some.injEq] at h3
    subst h3
    cases vs with
    | nil => simp
    | cons v vs => simp at h1
  | (i, x) :: ps, vs, k, els, h1, h2, h3 => by
    cases vs with
    | nil => simp at h1
    | cons v vs =>
      obtain ⟨i', v⟩ := v
      simp only [List.map_cons, List.cons.injEq] at h1
      obtain ⟨rfl, h1⟩ := h1
      simp only [litAV] at h3
      cases hc : x.cells? with
      | none => simp [hc] at h3
      | some us =>
        cases hd : dvs us with
        | none => simp [hc, hd] at h3
        | some ds =>
          cases hl : litAV sz (k + 1) ps with
          | none => simp [hc, hd, hl] at h3
          | some r =>
            simp only [hc, hd, hl] at h3
            cases hb : (Nat.beq i k && Nat.beq ds.length sz) with
            | false => simp [hb] at h3
            | true =>
              simp only [hb, cond_true, Option.some.injEq] at h3
              subst h3
              simp only [Bool.and_eq_true] at hb
              have hik : i = k := by simpa using hb.1
              have hsz : ds.length = sz := by simpa using hb.2
              subst hik
              obtain ⟨q1, q2, q3, q4, q5⟩ := lit_rep ps vs (i + 1) r h1 (fun i p u hpi hui => h2 (i + 1) p u (by simpa using hpi) (by simpa using hui)) hl
              have hv := h2 0 _ _ rfl rfl
              obtain ⟨g1, g2, g3⟩ := cells_rep hv hc
              have hus := dvs_eq hd
              subst hus
              simp only [List.length_map] at g1
              refine ⟨by simp [q1], ?_, ?_, ?_, ?_⟩
              · simp only [List.map_cons, List.zipIdx_cons]
                rw [← q2]
              · intro u hu
                simp only [List.map_cons, List.mem_cons] at hu
                rcases hu with rfl | hu
                · omega
                · exact q3 u hu
              · intro j cs hj
                cases j with
                | zero => simp at hj; subst hj; exact hsz
                | succ j => exact q4 j cs (by simpa using hj)
              · intro j cs j' d u hj hj' hu
                cases j with
                | zero =>
                  simp at hj hu
                  subst hj; subst hu
                  have := g2 j' (.d d) (by rw [List.getElem?_map, hj']; rfl)
                  cases this with
                  | d h => exact h
                | succ j => exact q5 j cs j' d u (by simpa using hj) hj' (by simpa using hu)
theorem h_lit {e n bt sz len : Nat} {zs : List ZK} {te : TS} {parts : Array (Nat × Operand)} {els : List (List DV)} (ht : PT.ty P t = some ⟨.slice e, n, bt, zs⟩) (he : PT.ty P e = some te) (hs : te.size = sz) (hz0 : te.zero.length = te.size) (h0 : Nat.beq sz 0 = false) (hb : litAV sz 0 (parts.toList.map fun p => (p.1, s.ev p.2)) = some els) (hl : els.length = len) (hsm : Nat.ble (len * sz) 16777216 = true) :
    NOp P [] s ⟨dst, .buildSlice t len parts, ty, pos, af, gd⟩ f ⟨.own f len, [(f, some (.arr e sz els))]⟩ := by
  refine NOp.value fun s' ha C U U' a w m hR hU hU' hd => ?_
  have hne : sz ≠ 0 := Nat.ne_of_beq_eq_false h0
  have hsm : len * sz ≤ 16777216 := by simpa using hsm
  obtain ⟨i, d, z, hi, hd', hk, h1, h2, h3, h4⟩ := PT.facts he
  obtain ⟨q1, q2, q3, q4, q5⟩ := lit_rep (m := m) (F := Fz C m s' w) (w := w) (parts.toList.map fun p => (p.1, s.ev p.2)) (parts.toList.map fun p => (p.1, a.eval p.2)) 0 els (by simp) (fun i p v hp hv => by
    rw [List.getElem?_map, Option.map_eq_some_iff] at hp hv
    obtain ⟨p1, e1, rfl⟩ := hp
    obtain ⟨p2, e2, rfl⟩ := hv
    rw [e1] at e2
    obtain rfl : p1 = p2 := by simpa using e2
    have := hR.ev p1.2
    have hmem : p1.2 ∈ (Op.buildSlice t len parts).operands := by
      simp only [Op.operands, List.mem_toArray, List.mem_map]
      exact ⟨p1, List.mem_of_getElem? e1, rfl⟩
    rw [ha.2.1 _ hmem] at this
    exact this) hb
  have hlen : (parts.toList.map fun p => (p.1, a.eval p.2)).length = len := by rw [← q1, hl]
  have hml : len ≤ maxLen := by
    have : len * 1 ≤ len * sz := Nat.mul_le_mul_left _ (by omega)
    simp only [maxLen]; omega
  by_cases hl0 : len = 0
  · subst hl0
    have hp0 : parts.toList = [] := by simpa using hlen
    have hels : els = [] := List.eq_nil_of_length_eq_zero hl
    subst hels
    refine ⟨_, _, _, ?_, hR.newArr (n := 0) (cap := 0) (els := []) (vs := #[]) (fz := (0, 0)) (e := e) (sz := sz) hd (by simpa using hU 0 (by omega)) (fun j hj => by have := hU' j hj; exact ⟨this.1, by omega⟩) (by simp) (by simp) (by simp) (by simp [maxLen]) (by omega) (by simp) (by simp)⟩
    have hpe : parts = #[] := by apply Array.toList_inj.1; simpa using hp0
    simp [execOp, Instr.buildSlice, run_underlying (PT.slice ht), PT.runSize he, hpe, Instr.fill, newRow, show Array.range 0 = #[] from rfl]
  · generalize hX : ((Array.range (len * sz)).map (z.cells[· % z.cells.size]!)) = X
    have hXs : X.size = len * sz := by rw [← hX]; simp
    obtain ⟨out, o1, o2, o3⟩ := Great.fill_dense (s := sz) (by omega) ((parts.toList.map fun p => (p.1, a.eval p.2)).map (·.2)) 0 X q3 (by rw [hXs, Nat.zero_add, List.length_map, hlen]; exact Nat.le_refl _)
    rw [← q2] at o1
    have hrun := Go.run_buildSlice (P := P) w t e len (parts.map fun p => (p.1, a.eval p.2)) out i z (PT.slice ht) hi h3 (by rw [h1, hs]; omega) (by rw [h1, hs]; intro h; rcases Nat.mul_eq_zero.1 h with h | h <;> omega) (by rw [h1, hs, hX]; simpa using o1)
    refine ⟨_, _, _, ?_, hR.newArr (n := len) (cap := len) (els := els) (vs := out) (fz := (0, 0)) (e := e) (sz := sz) hd (by simpa using hU 0 (by omega)) (fun j hj => by have := hU' j hj; exact ⟨this.1, by omega⟩) (by simp) (by rw [o2, hXs]) (by omega) hml (by omega) q4 (fun i' cs j d hc hdd => ?_)⟩
    · simp only [execOp, Sem.run_bind]
      rw [show (parts.map fun (i, x) => (i, a.eval x)) = parts.map fun p => (p.1, a.eval p.2) from rfl, hrun]
      simp
    · have hi1 := (List.getElem?_eq_some_iff.1 hc).1
      have hj1 : j < sz := by have := (List.getElem?_eq_some_iff.1 hdd).1; rw [q4 i' cs hc] at this; exact this
      have hi2 : i' < ((parts.toList.map fun p => (p.1, a.eval p.2)).map (·.2)).length := by rw [List.length_map, hlen]; omega
      have hv := List.getElem?_eq_getElem hi2
      have h5 := q5 i' cs j d _ hc hdd hv
      have hin : i' * sz + j < len * sz := by
        have : (i' + 1) * sz ≤ len * sz := Nat.mul_le_mul_right _ (by omega)
        rw [Nat.succ_mul] at this; omega
      have hdiv : (i' * sz + j) / sz = i' := by
        rw [Nat.mul_comm, Nat.mul_add_div (by omega), Nat.div_eq_of_lt hj1, Nat.add_zero]
      have hmod : (i' * sz + j) % sz = j := by
        rw [Nat.mul_comm, Nat.mul_add_mod, Nat.mod_eq_of_lt hj1]
      have := o3 (i' * sz + j)
      rw [if_pos (by rw [Nat.zero_mul, Nat.zero_add, List.length_map, hlen]; omega), hdiv, hmod, Nat.sub_zero, hv] at this
      rw [Array.getD_eq_getD_getElem?, this]
      simpa [Array.getD_eq_getD_getElem?] using h5
/-- .. a literal that nobody will write. -/
theorem h_litF {e n bt sz len : Nat} {zs : List ZK} {te : TS} {parts : Array (Nat × Operand)} {els : List (List DV)} (ht : PT.ty P t = some ⟨.slice e, n, bt, zs⟩) (he : PT.ty P e = some te) (hs : te.size = sz) (hz0 : te.zero.length = te.size) (h0 : Nat.beq sz 0 = false) (hb : litAV sz 0 (parts.toList.map fun p => (p.1, s.ev p.2)) = some els) (hl : els.length = len) (hsm : Nat.ble (len * sz) 16777216 = true) :
    NOp P [] s ⟨dst, .buildSlice t len parts, ty, pos, af, gd⟩ f ⟨.d (.view e sz els), []⟩ := by
  refine NOp.value fun s' ha C U U' a w m hR hU hU' hd => ?_
  have hne : sz ≠ 0 := Nat.ne_of_beq_eq_false h0
  have hsm : len * sz ≤ 16777216 := by simpa using hsm
  obtain ⟨i, d, z, hi, hd', hk, h1, h2, h3, h4⟩ := PT.facts he
  obtain ⟨q1, q2, q3, q4, q5⟩ := lit_rep (m := m) (F := Fz C m s' w) (w := w) (parts.toList.map fun p => (p.1, s.ev p.2)) (parts.toList.map fun p => (p.1, a.eval p.2)) 0 els (by simp) (fun i p v hp hv => by
    rw [List.getElem?_map, Option.map_eq_some_iff] at hp hv
    obtain ⟨p1, e1, rfl⟩ := hp
    obtain ⟨p2, e2, rfl⟩ := hv
    rw [e1] at e2
    obtain rfl : p1 = p2 := by simpa using e2
    have := hR.ev p1.2
    have hmem : p1.2 ∈ (Op.buildSlice t len parts).operands := by
      simp only [Op.operands, List.mem_toArray, List.mem_map]
      exact ⟨p1, List.mem_of_getElem? e1, rfl⟩
    rw [ha.2.1 _ hmem] at this
    exact this) hb
  have hlen : (parts.toList.map fun p => (p.1, a.eval p.2)).length = len := by rw [← q1, hl]
  have hml : len ≤ maxLen := by
    have : len * 1 ≤ len * sz := Nat.mul_le_mul_left _ (by omega)
    simp only [maxLen]; omega
  by_cases hl0 : len = 0
  · subst hl0
    have hp0 : parts.toList = [] := by simpa using hlen
    have hels : els = [] := List.eq_nil_of_length_eq_zero hl
    subst hels
    refine ⟨_, _, _, ?_, (hR.fresh (r := .d (.view e sz [])) (v := .slice (some ⟨w.heap.size, 0, none⟩) 0 0) hd (.cells #[] e (0, 0)) (fun F' hF hn => .d (DRep.view (els := []) (cap := 0) (off := 0) hn (heap_alloc_new w _) (by simp) (by simp [maxLen]) (by simp) (by simp) (by simp)))).weaken rfl (fun _ => .inr rfl) (fun _ _ h => h) (fun j hj => (hU' j hj).1)⟩
    have hpe : parts = #[] := by apply Array.toList_inj.1; simpa using hp0
    simp [execOp, Instr.buildSlice, run_underlying (PT.slice ht), PT.runSize he, hpe, Instr.fill, newRow, show Array.range 0 = #[] from rfl]
  · generalize hX : ((Array.range (len * sz)).map (z.cells[· % z.cells.size]!)) = X
    have hXs : X.size = len * sz := by rw [← hX]; simp
    obtain ⟨out, o1, o2, o3⟩ := Great.fill_dense (s := sz) (by omega) ((parts.toList.map fun p => (p.1, a.eval p.2)).map (·.2)) 0 X q3 (by rw [hXs, Nat.zero_add, List.length_map, hlen]; exact Nat.le_refl _)
    rw [← q2] at o1
    have hrun := Go.run_buildSlice (P := P) w t e len (parts.map fun p => (p.1, a.eval p.2)) out i z (PT.slice ht) hi h3 (by rw [h1, hs]; omega) (by rw [h1, hs]; intro h; rcases Nat.mul_eq_zero.1 h with h | h <;> omega) (by rw [h1, hs, hX]; simpa using o1)
    have hdv : ∀ (i' : Nat) (cs : List DV) (j : Nat) (d : DV), els[i']? = some cs → cs[j]? = some d → DRep (Fz C m s' w) w d (out.getD (i' * sz + j) undef) := ?_
    · refine ⟨_, _, _, ?_, (hR.fresh (r := .d (.view e sz els)) (v := .slice (some ⟨w.heap.size, 0, none⟩) len len) hd (.cells out e (0, 0)) (fun F' hF hn => ?_)).weaken rfl (fun _ => .inr rfl) (fun _ _ h => h) (fun j hj => (hU' j hj).1)⟩
      · simp only [execOp, Sem.run_bind]
        rw [show (parts.map fun (i, x) => (i, a.eval x)) = parts.map fun p => (p.1, a.eval p.2) from rfl, hrun]
        simp
      · have := DRep.view (F := F') (w := w.alloc (.cells out e (0, 0))) (e := e) (sz := sz) (els := els) (b := w.heap.size) (off := 0) (cap := len) hn (heap_alloc_new w _) (by omega) hml (by rw [o2, hXs]; omega) q4 (fun i' cs j d hc hdd => by rw [Nat.zero_add]; exact (hdv i' cs j d hc hdd).turn (fun k hk _ => hF k hk))
        rw [hl] at this
        exact .d this
    · intro i' cs j d hc hdd
      have hi1 := (List.getElem?_eq_some_iff.1 hc).1
      have hj1 : j < sz := by have := (List.getElem?_eq_some_iff.1 hdd).1; rw [q4 i' cs hc] at this; exact this
      have hi2 : i' < ((parts.toList.map fun p => (p.1, a.eval p.2)).map (·.2)).length := by rw [List.length_map, hlen]; omega
      have hv := List.getElem?_eq_getElem hi2
      have h5 := q5 i' cs j d _ hc hdd hv
      have hin : i' * sz + j < len * sz := by
        have : (i' + 1) * sz ≤ len * sz := Nat.mul_le_mul_right _ (by omega)
        rw [Nat.succ_mul] at this; omega
      have hdiv : (i' * sz + j) / sz = i' := by
        rw [Nat.mul_comm, Nat.mul_add_div (by omega), Nat.div_eq_of_lt hj1, Nat.add_zero]
      have hmod : (i' * sz + j) % sz = j := by
        rw [Nat.mul_comm, Nat.mul_add_mod, Nat.mod_eq_of_lt hj1]
      have := o3 (i' * sz + j)
      rw [if_pos (by rw [Nat.zero_mul, Nat.zero_add, List.length_map, hlen]; omega), hdiv, hmod, Nat.sub_zero, hv] at this
      rw [Array.getD_eq_getD_getElem?, this]
      simpa [Array.getD_eq_getD_getElem?] using h5
end
end Go.Proofs.Ytochebmkfdfbhaa
