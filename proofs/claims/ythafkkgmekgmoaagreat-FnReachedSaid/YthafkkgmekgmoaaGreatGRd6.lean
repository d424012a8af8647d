/- Contracts of the functions of the program and of the reference, each proved by a walk through its code. -/
import Derived.WalkKit
import Derived.WalkSpells
import Derived.WalkLawsBesides
import Derived.Deep.Draws
import Derived.Lib.Hide
import Derived.Maps.AppendAt
import Derived.OwnWalk
import Derived.Deep.MidRow
import Derived.Laws.ResultCell
import Derived.Deep.Upon
import Derived.Great.FillDense
import Derived.Laws.Tables
import Derived.Laws.BytesArg
import Derived.Laws.MakeOwn
import Derived.Great.BuildSlice
import Derived.ArgAppend
import Derived.Deep.AppendSrc
import Derived.Test.YthafkkgmekgmoaaGreatProg
import Derived.KernelRfl
import Derived.Orders
import Derived.Laws.IdiomStrings
import Derived.Lib.AppendZerosOnto
import Derived.ProofKit
import Derived.OpenShut
import Derived.Lib.SliceRun
import Derived.Laws.StructEq
import Derived.ChangeKeysEq
import Derived.Sort.Grow
import Derived.Laws.RangeString
import Derived.Below
import Derived.Laws.Small
import Derived.MapKept
import Derived.WideMake
import Derived.Test.YthafkkgmekgmoaaGreatGRd5
set_option linter.all false
set_option maxRecDepth 20000
namespace Go.Proofs.YthafkkgmekgmoaaGreat
open Go.RowKit
def oneSigs (l : List UInt8) (k : Int) : List Sig := l.map fun b => ⟨[b], k⟩
def sigsTo (ls : List (List UInt8)) : Nat → List Sig
 | 0 => []
 | k + 1 => sigsTo ls k ++ oneSigs (ls.getD k []) ((k : Int) + 1)
theorem oneSigs_len (l : List UInt8) (k : Int) : (oneSigs l k).length = l.length := List.length_map _
theorem oneSigs_snoc (l : List UInt8) (k : Int) {q : Nat} (h : q < l.length) : oneSigs (l.take (q + 1)) k = oneSigs (l.take q) k ++ [⟨[l[q]], k⟩] := by
 unfold oneSigs
 rw [List.take_add_one, List.getElem?_eq_getElem h, List.map_append]; rfl
def begS (ls : List (List UInt8)) : Bs := ⟨sigsTo ls 3, [], [], [], [], []⟩
def arcsF (b : Bs) (l : List (List UInt8)) : Bs := l.foldl arcF b
theorem arcsF_snoc (b : Bs) (l : List (List UInt8)) {k : Nat} (h : k < l.length) : arcsF b (l.take (k + 1)) = arcF (arcsF b (l.take k)) l[k] := by
 unfold arcsF
 rw [List.take_add_one, List.getElem?_eq_getElem h, List.foldl_append]; rfl
def stgOf (b : Bs) : Stg := ⟨⟨b.ps.length, b.ts⟩, b.sigs, b.labs, b.start⟩
def buildS (ins outs inner arcs : List UInt8) : Stg := stgOf (arcsF (begS [ins, outs, inner]) (splitL arcs 32))
abbrev stgO (s : Stg) (i j k : Nat) : AV := .agg [aI s.net.places, .own i s.net.ts.length, .own j s.sigs.length, .own k s.labs.length, aS (bstr s.start)]
abbrev stgChs (s : Stg) (i j k : Nat) : List (Nat × Chunk) := [(i, .arr 186 2 (tsL s.net.ts)), (j, .arr 149 2 (sigsL s.sigs)), (k, .arr 156 2 (labsL s.labs))]
abbrev bChA (b : Bs) (i0 i1 i2 i3 i4 i5 : Nat) : List (Nat × Chunk) := [(i0, bC b i1 i2 i3 i4 i5), (i1, .arr 186 2 (tsL b.ts)), (i2, .arr 149 2 (sigsL b.sigs)), (i3, .arr 156 2 (labsL b.labs)), (i4, .arr 9 1 (sxL b.ps)), (i5, .arr 9 1 (sxL b.ws))]
abbrev zStg : List AV := [aI 0, .d (.val (.slice none 0 0)), .d (.val (.slice none 0 0)), .d (.val (.slice none 0 0)), aS ByteArray.empty]
theorem sigsTo_len (ls : List (List UInt8)) : ∀ k, (∀ l, l ∈ ls → l.length ≤ 100) → (sigsTo ls k).length ≤ 100 * k
 | 0, h => by simp [sigsTo]
 | k + 1, h => by
  have := sigsTo_len ls k h
  have h2 : (ls.getD k []).length ≤ 100 := by
   rw [List.getD_eq_getElem?_getD]
   cases e : ls[k]? with
   | none => simp
   | some x => exact h x (List.mem_of_getElem? e)
  rw [sigsTo, List.length_append, oneSigs_len]; omega
theorem begS_M (ls : List (List UInt8)) (h : ∀ l, l ∈ ls → l.length ≤ 100) : BsM 300 (begS ls) := ⟨sigsTo_len ls 3 h, Nat.zero_le _, Nat.zero_le _, Nat.zero_le _, Nat.zero_le _, Nat.zero_le _, fun t ht => (by cases ht), rfl, rfl, rfl⟩
theorem arcsF_M (b : Bs) (n : Nat) (hb : BsM n b) (l : List (List UInt8)) : ∀ k, BsM (n + 5 * k) (arcsF b (l.take k))
 | 0 => hb
 | k + 1 => by
  rcases Nat.lt_or_ge k l.length with h | h
  ·rw [arcsF_snoc b l h]; exact (arcF_M (arcsF_M b n hb l k) l[k]).mono (by omega)
  ·have := arcsF_M b n hb l k
   rw [List.take_of_length_le h] at this
   rw [List.take_of_length_le (by omega)]; exact this.mono (by omega)
theorem splitK_cnt (s : List UInt8) (b : UInt8) : ∀ k, (splitK s b k).1.length ≤ k
 | 0 => Nat.le_refl _
 | k + 1 => by have := splitK_cnt s b k; rw [splitK]; split <;> simp <;> omega
theorem splitL_cnt (s : List UInt8) (b : UInt8) : (splitL s b).length ≤ s.length + 1 := by have := splitK_cnt s b s.length; unfold splitL; rw [List.length_append]; simp; exact this
theorem h_appendSg (acc new : List Sig) {s : ASt} {dst : Option Nat} {ty : Nat} {pos : String} {af : Array Edge} {gd : Option (Nat × Bool)} {x y : Operand} {f : Nat} {ids ids2 : List Nat} {gone : List (Nat × Option Chunk)}
  (hto : AppTo s x 149 2 (sigsL acc) ids gone) (harg : AppArg s y 2 (sigsL new) ids2) (h : (acc ++ new).length ≤ 100000000) (hnew : gone = [] → 0 < new.length) :
  NOp Tryz.prog (ids ++ ids2) s ⟨dst, .call { callee := .builtin .append, args := #[x, y], argTypes := #[27, 27] }, ty, pos, af, gd⟩ f ⟨.own f (acc ++ new).length, (f, some (.arr 149 2 (sigsL (acc ++ new)))) :: gone⟩ := by
 have := h_append (P := Tryz.prog) (s := s) (dst := dst) (ty := ty) (pos := pos) (af := af) (gd := gd) (x := x) (y := y) (f := f) (t := 27) (tx := 27) (k := (acc ++ new).length) rfl rfl rfl rfl rfl rfl hto harg (by simp) (by omega) (by show (acc ++ new).length * 24 ≤ _; omega) (fun h => by rw [sigsL_len]; exact hnew h)
 rwa [← List.map_append] at this
set_option maxHeartbeats 8000000 in
theorem l2Build_spec (ins outs inner arcs : List UInt8) (h1 : ins.length ≤ 100) (h2 : outs.length ≤ 100) (h3 : inner.length ≤ 100) (h4 : arcs.length ≤ 1000) (hok : (splitL arcs 32).all arcOk = true) : ASpec Tryz.prog 145 [aS (bstr ins), aS (bstr outs), aS (bstr inner), aS (bstr arcs)] [] (Fun1 (stgO (buildS ins outs inner arcs) 0 1 2) (stgChs (buildS ins outs inner arcs) 0 1 2)) := by
 obtain ⟨ls, hls⟩ : ∃ ls, ls = [ins, outs, inner] := ⟨_, rfl⟩
 have hlen : ls.length = 3 := by rw [hls]; rfl
 have hsm : ∀ l, l ∈ ls → l.length ≤ 100 := by rw [hls]; intro l hl; simp only [List.mem_cons, List.not_mem_nil, or_false] at hl; rcases hl with rfl | rfl | rfl <;> assumption
 have hB0 := begS_M ls hsm
 have hS := l1Split_spec arcs 32 (by omega)
 have hcnt := splitL_cnt arcs 32
 have hmm : ∀ x, x ∈ splitL arcs 32 → x.length ≤ arcs.length := fun x hx => splitL_mem hx
 have hbs : buildS ins outs inner arcs = stgOf (arcsF (begS ls) (splitL arcs 32)) := by rw [hls]; rfl
 obtain ⟨al, hal⟩ : ∃ al, al = splitL arcs 32 := ⟨_, rfl⟩
 rw [← hal] at hS hcnt hbs hok hmm
 clear hal
 have hlit : ([[dS (bstr ins)], [dS (bstr outs)], [dS (bstr inner)]] : List (List DV)) = sxL ls := by rw [hls]; rfl
 refine ASpec.of Tryz.func145 rfl rfl fun C hC => ?_
 refine AC.seq (AC.region ?_)
 refine AL.q (by exact h_alloc rfl) rfl ?_
 refine AL.nil (th_n (AC.seq (AC.region ?_)))
 refine AL.p (by exact g_build rfl rfl rfl) rfl ?_
 refine AL.q (by exact h_box rfl) rfl ?_
 refine AL.p (by exact as3 rfl) rfl ?_
 refine AL.nil (th_n (AC.seq (AC.seq (AC.region ?_))))
 refine AL.p (by exact mv1 rfl) rfl ?_
 refine AL.p (by exact mv1 rfl) rfl ?_
 refine AL.p (by exact mv1 rfl) rfl ?_
 refine AL.q (by exact h_litF (els := [[dS (bstr ins)], [dS (bstr outs)], [dS (bstr inner)]]) rfl rfl rfl rfl rfl rfl rfl rfl) rfl ?_
 rw [hlit]
 refine AL.p (by exact g_len_view (k := 3) rfl rfl (by rw [sxL_len]; exact hlen)) rfl ?_
 refine AL.p (by exact mv1 rfl) rfl ?_
 refine AL.nil (th_n (AC.block ?_))
 refine AC.loop (ι := Nat) (fun k => ⟨68, 300, [(3, aS (bstr arcs)), (8, .ptr 200 0), (9, .ptr 100 0), (20, .d (vSx ls)), (21, aI (3 : Nat)), (22, aI k)], (200, some (.cells 30 zStg)) :: chL (bChA ⟨sigsTo ls k, [], [], [], [], []⟩ 100 101 102 103 104 105)⟩) (fun k => k ≤ 3) (fun k => 3 - k) (0) ?_ (Nat.zero_le _) ?_
 ·refine Weak.trans (Weak.ren (t := ⟨68, 300, [(3, aS (bstr arcs)), (8, .ptr 200 0), (9, .ptr 100 0), (20, .d (vSx ls)), (21, aI (3 : Nat)), (22, aI (0 : Nat))], [(100, some (.cells 204 [aI 0, .d (.val (.slice none 0 0)), .d (.val (.slice none 0 0)), .d (.val (.slice none 0 0)), aS ByteArray.empty, .d (.val (.slice none 0 0)), .d (.val (.slice none 0 0))])), (200, some (.cells 30 zStg))]⟩) _ [(200, 0), (100, 8)] hC rfl (by repeat (first | exact True.intro | refine And.intro ?_ ?_ | exact DLead.same | exact rfl | refine ⟨_, rfl, ?_⟩)) (by repeat (first | exact True.intro | refine And.intro ?_ ?_ | exact DLead.same | exact rfl | refine ⟨_, _, rfl, rfl, ?_⟩ | refine ⟨_, rfl, ?_⟩ | refine ⟨_, _, rfl, ?_, ?_⟩)) rfl rfl rfl) ?_
  refine Weak.trans (Weak.nilOwnP 9 1 (e := 186) (sz := 2) rfl rfl rfl rfl rfl) ?_
  refine Weak.trans (t := ⟨68, 308, [(3, aS (bstr arcs)), (8, .ptr 200 0), (9, .ptr 100 0), (20, .d (vSx ls)), (21, aI (3 : Nat)), (22, aI (0 : Nat))], [(100, some (.cells 204 [aI 0, .own 300 0, .d (.val (.slice none 0 0)), .d (.val (.slice none 0 0)), aS ByteArray.empty, .d (.val (.slice none 0 0)), .d (.val (.slice none 0 0))])), (300, some (.arr 186 2 [])), (200, some (.cells 30 zStg))]⟩) (Weak.ren _ [(200, 200), (100, 100), (300, 300)] hC rfl (by repeat (first | exact True.intro | refine And.intro ?_ ?_ | exact DLead.same | exact rfl | refine ⟨_, rfl, ?_⟩)) (by repeat (first | exact True.intro | refine And.intro ?_ ?_ | exact DLead.same | exact rfl | refine ⟨_, _, rfl, rfl, ?_⟩ | refine ⟨_, rfl, ?_⟩ | refine ⟨_, _, rfl, ?_, ?_⟩)) rfl rfl rfl) ?_
  refine Weak.trans (Weak.nilOwnP 9 2 (e := 149) (sz := 2) rfl rfl rfl rfl rfl) ?_
  refine Weak.trans (t := ⟨68, 316, [(3, aS (bstr arcs)), (8, .ptr 200 0), (9, .ptr 100 0), (20, .d (vSx ls)), (21, aI (3 : Nat)), (22, aI (0 : Nat))], [(100, some (.cells 204 [aI 0, .own 300 0, .own 308 0, .d (.val (.slice none 0 0)), aS ByteArray.empty, .d (.val (.slice none 0 0)), .d (.val (.slice none 0 0))])), (308, some (.arr 149 2 [])), (300, some (.arr 186 2 [])), (200, some (.cells 30 zStg))]⟩) (Weak.ren _ [(200, 200), (100, 100), (300, 300), (308, 308)] hC rfl (by repeat (first | exact True.intro | refine And.intro ?_ ?_ | exact DLead.same | exact rfl | refine ⟨_, rfl, ?_⟩)) (by repeat (first | exact True.intro | refine And.intro ?_ ?_ | exact DLead.same | exact rfl | refine ⟨_, _, rfl, rfl, ?_⟩ | refine ⟨_, rfl, ?_⟩ | refine ⟨_, _, rfl, ?_, ?_⟩)) rfl rfl rfl) ?_
  refine Weak.trans (Weak.nilOwnP 9 3 (e := 156) (sz := 2) rfl rfl rfl rfl rfl) ?_
  refine Weak.trans (t := ⟨68, 324, [(3, aS (bstr arcs)), (8, .ptr 200 0), (9, .ptr 100 0), (20, .d (vSx ls)), (21, aI (3 : Nat)), (22, aI (0 : Nat))], [(100, some (.cells 204 [aI 0, .own 300 0, .own 308 0, .own 316 0, aS ByteArray.empty, .d (.val (.slice none 0 0)), .d (.val (.slice none 0 0))])), (316, some (.arr 156 2 [])), (308, some (.arr 149 2 [])), (300, some (.arr 186 2 [])), (200, some (.cells 30 zStg))]⟩) (Weak.ren _ [(200, 200), (100, 100), (300, 300), (308, 308), (316, 316)] hC rfl (by repeat (first | exact True.intro | refine And.intro ?_ ?_ | exact DLead.same | exact rfl | refine ⟨_, rfl, ?_⟩)) (by repeat (first | exact True.intro | refine And.intro ?_ ?_ | exact DLead.same | exact rfl | refine ⟨_, _, rfl, rfl, ?_⟩ | refine ⟨_, rfl, ?_⟩ | refine ⟨_, _, rfl, ?_, ?_⟩)) rfl rfl rfl) ?_
  refine Weak.trans (Weak.nilOwnP 9 5 (e := 9) (sz := 1) rfl rfl rfl rfl rfl) ?_
  refine Weak.trans (t := ⟨68, 332, [(3, aS (bstr arcs)), (8, .ptr 200 0), (9, .ptr 100 0), (20, .d (vSx ls)), (21, aI (3 : Nat)), (22, aI (0 : Nat))], [(100, some (.cells 204 [aI 0, .own 300 0, .own 308 0, .own 316 0, aS ByteArray.empty, .own 324 0, .d (.val (.slice none 0 0))])), (324, some (.arr 9 1 [])), (316, some (.arr 156 2 [])), (308, some (.arr 149 2 [])), (300, some (.arr 186 2 [])), (200, some (.cells 30 zStg))]⟩) (Weak.ren _ [(200, 200), (100, 100), (300, 300), (308, 308), (316, 316), (324, 324)] hC rfl (by repeat (first | exact True.intro | refine And.intro ?_ ?_ | exact DLead.same | exact rfl | refine ⟨_, rfl, ?_⟩)) (by repeat (first | exact True.intro | refine And.intro ?_ ?_ | exact DLead.same | exact rfl | refine ⟨_, _, rfl, rfl, ?_⟩ | refine ⟨_, rfl, ?_⟩ | refine ⟨_, _, rfl, ?_, ?_⟩)) rfl rfl rfl) ?_
  refine Weak.trans (Weak.nilOwnP 9 6 (e := 9) (sz := 1) rfl rfl rfl rfl rfl) ?_
  refine Weak.trans (t := ⟨68, 340, [(3, aS (bstr arcs)), (8, .ptr 200 0), (9, .ptr 100 0), (20, .d (vSx ls)), (21, aI (3 : Nat)), (22, aI (0 : Nat))], [(100, some (.cells 204 [aI 0, .own 300 0, .own 308 0, .own 316 0, aS ByteArray.empty, .own 324 0, .own 332 0])), (332, some (.arr 9 1 [])), (324, some (.arr 9 1 [])), (316, some (.arr 156 2 [])), (308, some (.arr 149 2 [])), (300, some (.arr 186 2 [])), (200, some (.cells 30 zStg))]⟩) (Weak.ren _ [(200, 200), (100, 100), (300, 300), (308, 308), (316, 316), (324, 324), (332, 332)] hC rfl (by repeat (first | exact True.intro | refine And.intro ?_ ?_ | exact DLead.same | exact rfl | refine ⟨_, rfl, ?_⟩)) (by repeat (first | exact True.intro | refine And.intro ?_ ?_ | exact DLead.same | exact rfl | refine ⟨_, _, rfl, rfl, ?_⟩ | refine ⟨_, rfl, ?_⟩ | refine ⟨_, _, rfl, ?_, ?_⟩)) rfl rfl rfl) ?_
  exact Weak.ren _ [(200, 200), (100, 100), (101, 300), (102, 308), (103, 316), (104, 324), (105, 332)] hC rfl (by repeat (first | exact True.intro | refine And.intro ?_ ?_ | exact DLead.same | exact rfl | refine ⟨_, rfl, ?_⟩)) (by repeat (first | exact True.intro | refine And.intro ?_ ?_ | exact DLead.same | exact rfl | refine ⟨_, _, rfl, rfl, ?_⟩ | refine ⟨_, rfl, ?_⟩ | refine ⟨_, _, rfl, ?_, ?_⟩)) rfl rfl rfl
 ·intro k hk
  refine AC.seq (AC.region ?_)
  refine AL.p (by exact g_cmp rfl rfl rfl) rfl ?_
  refine AL.nil (th_n (AC.seq ?_))
  refine AC.condD rfl (fun h0 => ?_) (fun h0 => ?_)
  ·refine AC.skip (th_n (AC.seq (AC.block (AC.seq ?_))))
   have hk1 : k < ls.length := by omega
   have hget := sxL_get hk1
   have hsl := sigsTo_len ls k hsm
   have hone := hsm _ (List.getElem_mem hk1)
   have hsuc : sigsTo ls (k + 1) = sigsTo ls k ++ oneSigs ls[k] ((k : Int) + 1) := by rw [sigsTo, List.getD_eq_getElem?_getD, List.getElem?_eq_getElem hk1]; rfl
   obtain ⟨w, hw⟩ : ∃ w, w = ls[k] := ⟨_, rfl⟩
   rw [← hw] at hget hone hsuc
   clear hw
   have hsz := bstr_size w
   refine AC.region ?_
   refine AL.p (by exact mv1 rfl) rfl ?_
   refine AL.p (by exact g_ia_view rfl rfl rfl rfl rfl (by rfl) (by assumption)) rfl ?_
   refine AL.p (by exact g_load_ref rfl rfl rfl) rfl ?_
   refine AL.p (by exact as1 rfl) rfl ?_
   refine AL.p (by exact as1 rfl) rfl ?_
   refine AL.nil (th_n (AC.seq (AC.region ?_)))
   refine AL.p (by exact as1 rfl) rfl ?_
   refine AL.nil (th_n (AC.block ?_))
   refine AC.loop (ι := Nat) (fun q => ⟨68, 300, [(3, aS (bstr arcs)), (8, .ptr 200 0), (9, .ptr 100 0), (20, .d (vSx ls)), (21, aI (3 : Nat)), (22, aI k), (10, aI k), (11, aS (bstr w)), (12, aI q)], (200, some (.cells 30 zStg)) :: chL (bChA ⟨sigsTo ls k ++ oneSigs (w.take q) ((k : Int) + 1), [], [], [], [], []⟩ 100 101 102 103 104 105)⟩) (fun q => q ≤ w.length) (fun q => w.length - q) (0) ?_ (Nat.zero_le _) ?_
   ·exact Weak.ren _ [(200, 200), (100, 100), (101, 101), (102, 102), (103, 103), (104, 104), (105, 105)] hC rfl (by repeat (first | exact True.intro | refine And.intro ?_ ?_ | exact DLead.same | exact rfl | refine ⟨_, rfl, ?_⟩)) (by rw [List.take_zero, show oneSigs [] ((k : Int) + 1) = [] from rfl, List.append_nil]; repeat (first | exact True.intro | refine And.intro ?_ ?_ | exact DLead.same | exact rfl | refine ⟨_, _, rfl, rfl, ?_⟩ | refine ⟨_, rfl, ?_⟩ | refine ⟨_, _, rfl, ?_, ?_⟩)) rfl rfl rfl
   ·intro q hq
    refine AC.seq (AC.seq (AC.region ?_))
    refine AL.p (by exact mv1 rfl) rfl ?_
    refine AL.p (by exact mv1 rfl) rfl ?_
    refine AL.p (by exact g_len_str rfl rfl rfl) rfl ?_
    refine AL.p (by exact g_cmp rfl rfl rfl) rfl ?_
    refine AL.nil (th_n ?_)
    refine AC.condD rfl (fun h1 => ?_) (fun h1 => ?_)
    ·refine AC.skip (th_n (AC.seq (AC.block ?_)))
     have hq1 : q < w.length := by omega
     have hsn := oneSigs_snoc w ((k : Int) + 1) hq1
     have hcut : (bstr w).extract q (q + 1) = bstr [w[q]] := by rw [bstr_cut w (by omega) (by omega), List.drop_take, Nat.add_sub_cancel_left, List.drop_eq_getElem_cons hq1]; rfl
     have hacc : (sigsTo ls k ++ oneSigs (w.take q) ((k : Int) + 1)).length ≤ 400 := by rw [List.length_append, oneSigs_len, List.length_take]; omega
     obtain ⟨acc, hac⟩ : ∃ acc, acc = sigsTo ls k ++ oneSigs (w.take q) ((k : Int) + 1) := ⟨_, rfl⟩
     have hnext : sigsTo ls k ++ oneSigs (w.take (q + 1)) ((k : Int) + 1) = acc ++ [⟨[w[q]], (k : Int) + 1⟩] := by rw [hsn, ← List.append_assoc, ← hac]
     rw [← hac] at hacc ⊢
     refine AC.drawn' mixed_ok [[], [], [1], [1,2], [1,2,3], [1,2,3,4], [], [], [], [8], [6,7,8,9], [], [11], [6,7,8,9,10,11,12], [6,7,8,9,10,11,12,13], [1,2,3,4,5,6,7,8,9,10,11,12,13,14], [0,1,2,3,4,5,6,7,8,9,10,11,12,13,14,15], [0,1,2,3,4,5,6,7,8,9,10,11,12,13,14,15,16], [0,1,2,3,4,5,6,7,8,9,10,11,12,13,14,15,16,17], [0,1,2,3,4,5,6,7,8,9,10,11,12,13,14,15,16,17,18]] (by decide) ?_
     refine DF.op 0 [] 20 rfl rfl rfl (.free rfl (NOp.of (by exact mv3 rfl))) rfl ?_
     refine DF.op 1 [] 20 rfl rfl rfl (.free rfl (NOp.of (by exact mv3 rfl))) rfl ?_
     refine DF.op 2 [1] 20 rfl rfl rfl (.free rfl (NOp.of (by exact g_nilP rfl))) rfl ?_
     refine DF.op 3 [1,2] 20 rfl rfl rfl (.free rfl (NOp.of (by exact g_fa_ptr rfl rfl rfl rfl rfl))) rfl ?_
     refine DF.op 4 [1,2,3] 20 rfl rfl rfl (.free rfl (NOp.of (by exact g_fa_ptr rfl rfl rfl rfl rfl))) rfl ?_
     refine DF.op 5 [1,2,3,4] 20 rfl rfl rfl (.free rfl (NOp.of (by exact g_load_ptr rfl rfl rfl rfl rfl))) rfl ?_
     refine DF.op 6 [] 20 rfl rfl rfl (.free rfl (NOp.of (by exact mv1 rfl))) rfl ?_
     refine DF.op 7 [] 20 rfl rfl rfl (.free rfl (NOp.of (by exact mv1 rfl))) rfl ?_
     refine DF.op 8 [] 20 rfl rfl rfl (.free rfl (NOp.of (by exact mv1 rfl))) rfl ?_
     refine DF.op 9 [8] 20 rfl rfl rfl (.free rfl (NOp.of (by exact g_arith rfl rfl rfl (by exact wrap_i64 (by omega))))) rfl ?_
     refine DF.op 10 [6,7,8,9] 20 rfl rfl rfl (.free rfl (NOp.of (by exact g_slice_str (l := q) (h := q + 1) rfl rfl (.some rfl rfl) (.some rfl (by omega)) (by omega) (by omega) hcut))) rfl ?_
     refine DF.op 11 [] 20 rfl rfl rfl (.free rfl (NOp.of (by exact mv1 rfl))) rfl ?_
     refine DF.op 12 [11] 20 rfl rfl rfl (.free rfl (NOp.of (by exact g_arith rfl rfl rfl (by exact wrap_i64 (by omega))))) rfl ?_
     refine DF.op 13 [6,7,8,9,10,11,12] 20 rfl rfl rfl (.free rfl (NOp.of (by exact g_build rfl rfl rfl))) rfl ?_
     refine DF.op 14 [6,7,8,9,10,11,12,13] 20 rfl rfl rfl (.free rfl (by exact h_litF rfl rfl rfl rfl rfl rfl rfl rfl)) rfl ?_
     refine DF.op 15 [1,2,3,4,5,6,7,8,9,10,11,12,13,14] 20 rfl rfl rfl (.free rfl (by exact h_appendSg acc [⟨[w[q]], (k : Int) + 1⟩] (.own rfl rfl (sigsL_len _).symm) (.view rfl) (by rw [List.length_append]; simp only [List.length_cons, List.length_nil]; omega) (by simp))) rfl ?_
     refine DF.op 16 (List.range 16) 20 rfl rfl rfl (.free rfl (NOp.of (by exact g_nilP rfl))) rfl ?_
     refine DF.op 17 (List.range 17) 20 rfl rfl rfl (.free rfl (NOp.of (by exact g_fa_ptr rfl rfl rfl rfl rfl))) rfl ?_
     refine DF.op 18 (List.range 18) 20 rfl rfl rfl (.free rfl (NOp.of (by exact g_fa_ptr rfl rfl rfl rfl rfl))) rfl ?_
     refine DF.op 19 (List.range 19) 20 rfl rfl rfl (.free rfl (by exact h_store rfl rfl rfl rfl rfl rfl)) rfl ?_
     refine DF.fin (ps := [(0,1),(0,2),(0,3),(0,4),(0,5),(0,6),(0,7),(0,8),(0,9),(0,10),(0,11),(0,12),(0,13),(0,14),(0,15),(1,0),(1,6),(1,7),(1,8),(1,9),(1,10),(1,11),(1,12),(1,13),(1,14),(2,0),(2,6),(2,7),(2,8),(2,9),(2,10),(2,11),(2,12),(2,13),(2,14),(3,0),(3,6),(3,7),(3,8),(3,9),(3,10),(3,11),(3,12),(3,13),(3,14),(4,0),(4,6),(4,7),(4,8),(4,9),(4,10),(4,11),(4,12),(4,13),(4,14),(5,0),(5,6),(5,7),(5,8),(5,9),(5,10),(5,11),(5,12),(5,13),(5,14),(6,0),(6,1),(6,2),(6,3),(6,4),(6,5),(6,7),(6,8),(6,9),(6,11),(6,12),(7,0),(7,1),(7,2),(7,3),(7,4),(7,5),(7,6),(7,8),(7,9),(7,11),(7,12),(8,0),(8,1),(8,2),(8,3),(8,4),(8,5),(8,6),(8,7),(8,11),(8,12),(9,0),(9,1),(9,2),(9,3),(9,4),(9,5),(9,6),(9,7),(9,11),(9,12),(10,0),(10,1),(10,2),(10,3),(10,4),(10,5),(10,11),(10,12),(11,0),(11,1),(11,2),(11,3),(11,4),(11,5),(11,6),(11,7),(11,8),(11,9),(11,10),(12,0),(12,1),(12,2),(12,3),(12,4),(12,5),(12,6),(12,7),(12,8),(12,9),(12,10),(13,0),(13,1),(13,2),(13,3),(13,4),(13,5),(14,0),(14,1),(14,2),(14,3),(14,4),(14,5),(15,0)]) 20 rfl (by decide +kernel) (by decide +kernel) (by rfl) ?_
     refine ib_n (th_n (AC.region ?_))
     refine AL.p (by exact mv1 rfl) rfl ?_
     refine AL.p (by exact g_arith rfl rfl rfl (by exact wrap_i64 (by omega))) rfl ?_
     refine AL.p (by exact as1 rfl) rfl ?_
     refine AL.nil (th_n ?_)
     exact ⟨q + 1, by omega, by omega, Weak.ren _ [(200, 200), (100, 100), (101, 101), (102, _), (103, 103), (104, 104), (105, 105)] hC rfl (by repeat (first | exact True.intro | refine And.intro ?_ ?_ | exact DLead.same | exact rfl | refine ⟨_, rfl, ?_⟩)) (by rw [hnext]; repeat (first | exact True.intro | refine And.intro ?_ ?_ | exact DLead.same | exact rfl | refine ⟨_, _, rfl, rfl, ?_⟩ | refine ⟨_, rfl, ?_⟩ | refine ⟨_, _, rfl, ?_, ?_⟩)) rfl rfl rfl⟩
    ·refine AC.exit (th_e (th_e (ib_y (ib_n (th_n (AC.region ?_))))))
     refine AL.p (by exact g_arith rfl rfl rfl (by exact wrap_i64 (by omega))) rfl ?_
     refine AL.p (by exact mv1 rfl) rfl ?_
     refine AL.nil (th_n ?_)
     have hqq : q = w.length := by omega
     have e : sigsTo ls (k + 1) = sigsTo ls k ++ oneSigs (w.take q) ((k : Int) + 1) := by rw [hsuc, hqq, List.take_length]
     exact ⟨k + 1, by omega, by omega, Weak.ren _ [(200, 200), (100, 100), (101, 101), (102, 102), (103, 103), (104, 104), (105, 105)] hC rfl (by repeat (first | exact True.intro | refine And.intro ?_ ?_ | exact DLead.same | exact rfl | refine ⟨_, rfl, ?_⟩)) (by rw [e]; repeat (first | exact True.intro | refine And.intro ?_ ?_ | exact DLead.same | exact rfl | refine ⟨_, _, rfl, rfl, ?_⟩ | refine ⟨_, rfl, ?_⟩ | refine ⟨_, _, rfl, ?_, ?_⟩)) rfl rfl rfl⟩
  ·refine AC.exit (th_e (th_e (ib_y (th_n (AC.seq (AC.seq ?_))))))
   have hk3 : k = 3 := by omega
   subst hk3
   refine AC.region ?_
   refine AL.p (by exact mv1 rfl) rfl ?_
   refine AL.q (by exact h_pure en_l1Split rfl rfl (by repeat (first | exact rfl | exact DLead.same | refine ⟨_, _, rfl, ?_, ?_⟩)) hS rfl) rfl ?_
   refine AL.p (by exact g_len_view (k := al.length) rfl rfl (sxL_len _)) rfl ?_
   refine AL.p (by exact mv1 rfl) rfl ?_
   refine AL.nil (th_n (AC.block ?_))
   refine AC.loop (ι := Nat) (fun k => ⟨68, 600, [(8, .ptr 200 0), (9, .ptr 100 0), (54, .d (vSx al)), (55, aI al.length), (56, aI k)], (200, some (.cells 30 zStg)) :: chL (bChA (arcsF (begS ls) (al.take k)) 100 101 102 103 104 105)⟩) (fun k => k ≤ al.length) (fun k => al.length - k) (0) ?_ (Nat.zero_le _) ?_
   ·exact Weak.ren _ [(200, 200), (100, 100), (101, 101), (102, 102), (103, 103), (104, 104), (105, 105)] hC rfl (by repeat (first | exact True.intro | refine And.intro ?_ ?_ | exact DLead.same | exact rfl | refine ⟨_, rfl, ?_⟩)) (by repeat (first | exact True.intro | refine And.intro ?_ ?_ | exact DLead.same | exact rfl | refine ⟨_, _, rfl, rfl, ?_⟩ | refine ⟨_, rfl, ?_⟩ | refine ⟨_, _, rfl, ?_, ?_⟩)) rfl rfl rfl
   ·intro k hk
    refine AC.seq (AC.region ?_)
    refine AL.p (by exact g_cmp rfl rfl rfl) rfl ?_
    refine AL.nil (th_n (AC.seq ?_))
    refine AC.condD rfl (fun h1 => ?_) (fun h1 => ?_)
    ·refine AC.skip (th_n (AC.seq (AC.block (AC.seq ?_))))
     have hk1 : k < al.length := by omega
     have hget := sxL_get hk1
     have hM := arcsF_M (begS ls) 300 hB0 al k
     have hsn := arcsF_snoc (begS ls) al hk1
     have hA := bArc_spec (300 + 5 * k) (arcsF (begS ls) (al.take k)) al[k] hM (by omega) (by have := hmm _ (List.getElem_mem hk1); omega) (List.all_eq_true.1 hok _ (List.getElem_mem hk1))
     rw [← hsn] at hA
     obtain ⟨bk, hbk⟩ : ∃ bk, bk = arcsF (begS ls) (al.take k) := ⟨_, rfl⟩
     obtain ⟨bn, hbn⟩ : ∃ bn, bn = arcsF (begS ls) (al.take (k + 1)) := ⟨_, rfl⟩
     rw [← hbk, ← hbn] at hA
     rw [← hbk]
     refine AC.region ?_
     refine AL.p (by exact g_ia_view rfl rfl rfl rfl rfl (by rfl) (by assumption)) rfl ?_
     refine AL.p (by exact g_load_ref rfl rfl rfl) rfl ?_
     refine AL.p (by exact as1 rfl) rfl ?_
     refine AL.nil (th_n (AC.region ?_))
     refine AL.p (by exact mv3 rfl) rfl ?_
     refine AL.p (by exact mv1 rfl) rfl ?_
     refine AL.q (by exact h_fun (cs := [100, 101, 102, 103, 104, 105]) en_bArc rfl rfl (by repeat (first | exact rfl | exact DLead.same | refine ⟨_, _, rfl, ?_, ?_⟩ | refine ⟨_, rfl, ?_⟩)) (by repeat (first | exact True.intro | refine And.intro ?_ ?_ | exact DLead.same | exact rfl | refine ⟨_, _, rfl, rfl, ?_⟩ | refine ⟨_, rfl, ?_⟩ | refine ⟨_, _, rfl, ?_, ?_⟩)) hA rfl rfl rfl rfl) rfl ?_
     refine AL.nil (ib_n (th_n (AC.region ?_)))
     refine AL.p (by exact g_arith rfl rfl rfl (by exact wrap_i64 (by omega))) rfl ?_
     refine AL.p (by exact mv1 rfl) rfl ?_
     refine AL.nil (th_n ?_)
     exact ⟨k + 1, by omega, by omega, Weak.ren _ [(200, 200), (100, 100), (101, 600), (102, 102), (103, 601), (104, 602), (105, 603)] hC rfl (by repeat (first | exact True.intro | refine And.intro ?_ ?_ | exact DLead.same | exact rfl | refine ⟨_, rfl, ?_⟩)) (by rw [← hbn]; repeat (first | exact True.intro | refine And.intro ?_ ?_ | exact DLead.same | exact rfl | refine ⟨_, _, rfl, rfl, ?_⟩ | refine ⟨_, rfl, ?_⟩ | refine ⟨_, _, rfl, ?_, ?_⟩)) rfl rfl rfl⟩
    ·refine AC.exit (th_e (th_e (ib_y (th_n (AC.seq ?_)))))
     have hkk : k = al.length := by omega
     subst hkk
     rw [List.take_length]
     obtain ⟨bz, hbz⟩ : ∃ bz, bz = arcsF (begS ls) al := ⟨_, rfl⟩
     rw [← hbz] at hbs ⊢
     refine AC.region ?_
     refine AL.p (by exact mv3 rfl) rfl ?_
     refine AL.p (by exact g_nilP rfl) rfl ?_
     refine AL.p (by exact g_fa_ptr rfl rfl rfl rfl rfl) rfl ?_
     refine AL.p (by exact g_load_ptrN rfl rfl rfl rfl rfl) rfl ?_
     refine AL.q (by exact h_store rfl rfl rfl rfl rfl rfl) rfl ?_
     refine AL.nil (th_n (AC.ret (bq_r ?_)))
     exact retN [(0, 101), (1, 102), (2, 103)] rfl (by rw [hbs]; repeat (first | exact rfl | exact DLead.same | refine ⟨_, _, rfl, ?_, ?_⟩ | refine ⟨_, rfl, ?_⟩)) (by rw [hbs]; repeat (first | exact True.intro | refine And.intro ?_ ?_ | exact rfl | refine ⟨_, _, rfl, rfl, ?_⟩)) rfl rfl
theorem en_l2Build : Enters Tryz.prog 145 := enters_of Tryz.func145 rfl rfl
def noNet : Net := ⟨0, []⟩
def netOf (N : Net) : Net := if goodN N = true then N else noNet
def shT (d : Int) (t : Tn) : Tn := ⟨mapI t.pre d, mapI t.post d⟩
def unionN (a b : Net) : Net := ⟨a.places + b.places, a.ts ++ b.ts.map (shT a.places)⟩
def unionR (a b : Net) : Net × Bool := if (goodN a && goodN b) = true then (netOf (unionN a b), goodN (unionN a b)) else (noNet, false)
theorem takeM {f : Tn → Tn} {l : List Tn} {k : Nat} (hk : k < l.length) : (l.take (k + 1)).map f = (l.take k).map f ++ [f l[k]] := by
 rw [List.take_add_one, List.getElem?_eq_getElem hk, List.map_append]; rfl
theorem takeM_len {f : Tn → Tn} {l : List Tn} {k : Nat} (hk : k ≤ l.length) : ((l.take k).map f).length = k := by rw [List.length_map, List.length_take]; omega
theorem good_rng {N : Net} (hg : goodN N = true) : ∀ t, t ∈ N.ts → (∀ x, x ∈ t.pre → 0 ≤ x ∧ x ≤ N.places - 1) ∧ (∀ x, x ∈ t.post → 0 ≤ x ∧ x ≤ N.places - 1) := by
 intro x hx
 simp only [goodN, Bool.and_eq_true, Bool.not_eq_true', List.any_eq_false, decide_eq_true_eq] at hg
 have h1 := hg.2 x hx
 simp only [badT, Bool.or_eq_true, decide_eq_true_eq, not_or, Bool.not_eq_true', Bool.not_eq_false] at h1
 exact ⟨fun p hp => rising_in h1.1.2 p hp, fun p hp => rising_in h1.2 p hp⟩
theorem good_far {N : Net} (hg : goodN N = true) : ∀ t, t ∈ N.ts → (∀ x, x ∈ t.pre → -1000000 ≤ x ∧ x ≤ 1000000) ∧ (∀ x, x ∈ t.post → -1000000 ≤ x ∧ x ≤ 1000000) := by
 intro t ht
 have h := good_rng hg t ht
 have hp := good_places hg
 exact ⟨fun x hx => by have := h.1 x hx; omega, fun x hx => by have := h.2 x hx; omega⟩
theorem unionN_B {a b : Net} (ha : NetB a) (hb : NetB b) (ga : goodN a = true) (gb : goodN b = true) : NetB (unionN a b) := by
 have h1 := good_places ga
 have h2 := good_places gb
 refine ⟨by show -1000000 ≤ a.places + b.places ∧ a.places + b.places ≤ 1000000; omega, by show (a.ts ++ b.ts.map (shT a.places)).length ≤ _; rw [List.length_append, List.length_map]; omega, fun t ht => ?_⟩
 rcases List.mem_append.1 ht with h | h
 ·exact ha.t t h
 ·obtain ⟨u, hu, rfl⟩ := List.mem_map.1 h
  have := hb.t u hu
  exact ⟨by show (mapI _ _).length ≤ _; rw [mapI_len]; exact this.1, by show (mapI _ _).length ≤ _; rw [mapI_len]; exact this.2⟩
set_option maxHeartbeats 4000000 in
theorem l1OwnN_spec (N : Net) (hB : NetB N) : ASpec Tryz.prog 262 [netA N] [] (Fun1 (.agg [aI N.places, .own 0 N.ts.length]) [(0, .arr 186 2 (tsL N.ts))]) := by
 have hl := hB.l
 refine ASpec.of Tryz.func262 rfl rfl fun C hC => ?_
 refine AC.seq (AC.region ?_)
 refine AL.q (by exact h_boxF rfl rfl) rfl ?_
 refine AL.q (by exact h_alloc rfl) rfl ?_
 refine AL.nil (th_n (AC.seq (AC.region ?_)))
 refine AL.p (by exact g_fa_ref rfl rfl rfl rfl rfl rfl) rfl ?_
 refine AL.p (by exact g_load_ref rfl rfl rfl) rfl ?_
 refine AL.p (by exact g_build rfl rfl rfl) rfl ?_
 refine AL.q (by exact h_alloc rfl) rfl ?_
 refine AL.q (by exact h_store rfl rfl rfl rfl rfl rfl) rfl ?_
 refine AL.nil (th_n (AC.seq (AC.seq (AC.region ?_))))
 refine AL.p (by exact g_fa_ref rfl rfl rfl rfl rfl rfl) rfl ?_
 refine AL.p (by exact g_load_ref rfl rfl rfl) rfl ?_
 refine AL.p (by exact g_len_view rfl rfl (by exact List.length_map _)) rfl ?_
 refine AL.p (by exact mv1 rfl) rfl ?_
 refine AL.nil (th_n (AC.block ?_))
 refine AC.loop (ι := Nat) (fun k => ⟨30, 128, [(2, .ptr 102 0), (3, .ptr 100 0), (10, .d (vTs N.ts)), (11, aI N.ts.length), (12, aI k)], [(100, some (.cells 26 [aI N.places, .own 101 k])), (101, some (.arr 186 2 (tsL (N.ts.take k)))), (102, some (.cells 26 [aI 0, .d (.val (.slice none 0 0))]))]⟩) (fun k => k ≤ N.ts.length) (fun k => N.ts.length - k) (0) ?_ (Nat.zero_le _) ?_
 ·exact (Weak.nilOwnP 3 1 (e := 186) (sz := 2) rfl rfl rfl rfl rfl).trans (Weak.ren _ [(100, _), (101, _), (102, _)] hC rfl (by repeat (first | exact True.intro | refine And.intro ?_ ?_ | exact DLead.same | exact rfl | refine ⟨_, rfl, ?_⟩)) (by repeat (first | exact True.intro | refine And.intro ?_ ?_ | exact DLead.same | exact rfl | refine ⟨_, _, rfl, rfl, ?_⟩ | refine ⟨_, rfl, ?_⟩ | refine ⟨_, _, rfl, ?_, ?_⟩)) rfl rfl rfl)
 ·intro k hk
  refine AC.seq (AC.region ?_)
  refine AL.p (by exact g_cmp rfl rfl rfl) rfl ?_
  refine AL.nil (th_n (AC.seq ?_))
  refine AC.condD rfl (fun h0 => ?_) (fun h0 => ?_)
  ·refine AC.skip (th_n (AC.seq (AC.block (AC.seq ?_))))
   have hk1 : k < N.ts.length := by omega
   have hget := tsL_get hk1
   have hl1 := (hB.t _ (List.getElem_mem hk1)).1
   have hl2 := (hB.t _ (List.getElem_mem hk1)).2
   have htl : (N.ts.take k).length = k := by rw [List.length_take]; omega
   have htk : N.ts.take (k + 1) = N.ts.take k ++ [N.ts[k]] := by rw [List.take_add_one, List.getElem?_eq_getElem hk1]; rfl
   refine AC.region ?_
   refine AL.p (by exact g_ia_view rfl rfl rfl rfl rfl (by rfl) (by assumption)) rfl ?_
   refine AL.p (by exact g_load_refN rfl rfl rfl rfl) rfl ?_
   refine AL.q (by exact h_alloc rfl) rfl ?_
   refine AL.q (by exact h_store rfl rfl rfl rfl rfl rfl) rfl ?_
   refine AL.nil (th_n ?_)
   refine AC.drawn' mixed_ok [[], [0], [], [2], [2,3], [], [5], [2,3,4,5,6], [2,3,4,5,6,7], [2,3,4,5,6,7,8], [0,1,2,3,4,5,6,7,8,9], [0,1,2,3,4,5,6,7,8,9,10], [0,1,2,3,4,5,6,7,8,9,10,11]] (by decide) ?_
   refine DF.op 0 [] 13 rfl rfl rfl (.free rfl (NOp.of (by exact g_fa_ptr rfl rfl rfl rfl rfl))) rfl ?_
   refine DF.op 1 [0] 13 rfl rfl rfl (.free rfl (NOp.of (by exact g_load_ptr rfl rfl rfl rfl rfl))) rfl ?_
   refine DF.op 2 [] 13 rfl rfl rfl (.free rfl (NOp.of (by exact g_fa_ptr rfl rfl rfl rfl rfl))) rfl ?_
   refine DF.op 3 [2] 13 rfl rfl rfl (.free rfl (NOp.of (by exact g_load_ptr rfl rfl rfl rfl rfl))) rfl ?_
   refine DF.op 4 [2,3] 13 rfl rfl rfl (.free rfl (by exact h_pure en_l1Own rfl rfl (by repeat (first | exact rfl | exact DLead.same | refine ⟨_, _, rfl, ?_, ?_⟩)) (l1Own_spec _ (by assumption)) rfl)) rfl ?_
   refine DF.op 5 [] 13 rfl rfl rfl (.free rfl (NOp.of (by exact g_fa_ptr rfl rfl rfl rfl rfl))) rfl ?_
   refine DF.op 6 [5] 13 rfl rfl rfl (.free rfl (NOp.of (by exact g_load_ptr rfl rfl rfl rfl rfl))) rfl ?_
   refine DF.op 7 [2,3,4,5,6] 13 rfl rfl rfl (.free rfl (by exact h_pure en_l1Own rfl rfl (by repeat (first | exact rfl | exact DLead.same | refine ⟨_, _, rfl, ?_, ?_⟩)) (l1Own_spec _ (by assumption)) rfl)) rfl ?_
   refine DF.op 8 [2,3,4,5,6,7] 13 rfl rfl rfl (.free rfl (NOp.of (by exact g_build rfl rfl rfl))) rfl ?_
   refine DF.op 9 [2,3,4,5,6,7,8] 13 rfl rfl rfl (.free rfl (by exact h_litF rfl rfl rfl rfl rfl rfl rfl rfl)) rfl ?_
   refine DF.op 10 (List.range 10) 13 rfl rfl rfl (.free rfl (by exact h_appendT (N.ts.take k) [N.ts[k]] (.own rfl rfl (by rw [tsL_len, htl])) (.view rfl) (by simp; omega) (by simp))) rfl ?_
   refine DF.op 11 (List.range 11) 13 rfl rfl rfl (.free rfl (NOp.of (by exact g_fa_ptr rfl rfl rfl rfl rfl))) rfl ?_
   refine DF.op 12 (List.range 12) 13 rfl rfl rfl (.free rfl (by exact h_store rfl rfl rfl rfl rfl rfl)) rfl ?_
   refine DF.fin (ps := [(0,2),(0,3),(0,4),(0,5),(0,6),(0,7),(0,8),(0,9),(1,2),(1,3),(1,4),(1,5),(1,6),(1,7),(1,8),(1,9),(2,0),(2,1),(2,5),(2,6),(3,0),(3,1),(3,5),(3,6),(4,0),(4,1),(4,5),(4,6),(5,0),(5,1),(5,2),(5,3),(5,4),(6,0),(6,1),(6,2),(6,3),(6,4),(7,0),(7,1),(8,0),(8,1),(9,0),(9,1)]) 13 rfl (by decide +kernel) (by decide +kernel) (by rfl) ?_
   refine ib_n (th_n (AC.region ?_))
   refine AL.p (by exact g_arith rfl rfl rfl (by exact wrap_i64 (by omega))) rfl ?_
   refine AL.p (by exact mv1 rfl) rfl ?_
   refine AL.nil (th_n ?_)
   have hl3 : (N.ts.take k ++ [N.ts[k]]).length = k + 1 := by rw [List.length_append, htl]; rfl
   exact ⟨k + 1, by omega, by omega, Weak.ren _ [(100, _), (101, _), (102, _)] hC rfl (by repeat (first | exact True.intro | refine And.intro ?_ ?_ | exact DLead.same | exact rfl | refine ⟨_, rfl, ?_⟩)) (by rw [htk, ← hl3]; repeat (first | exact True.intro | refine And.intro ?_ ?_ | exact DLead.same | exact rfl | refine ⟨_, _, rfl, rfl, ?_⟩ | refine ⟨_, rfl, ?_⟩ | refine ⟨_, _, rfl, ?_, ?_⟩)) rfl rfl rfl⟩
  ·refine AC.exit (th_e (th_e (ib_y (th_n (AC.seq (AC.region ?_))))))
   refine AL.p (by exact g_load_ptrN rfl rfl rfl rfl rfl) rfl ?_
   refine AL.q (by exact h_store rfl rfl rfl rfl rfl rfl) rfl ?_
   refine AL.nil (th_n (AC.ret (bq_r ?_)))
   have hkk : k = N.ts.length := by omega
   subst hkk
   exact retN [(0, _)] rfl (by repeat (first | exact DLead.same | exact rfl | refine ⟨_, rfl, ?_⟩ | refine ⟨_, _, rfl, ?_, ?_⟩)) (by rw [List.take_length]; repeat (first | exact True.intro | refine And.intro ?_ ?_ | exact rfl | refine ⟨_, _, rfl, rfl, ?_⟩)) rfl rfl
theorem en_l1OwnN : Enters Tryz.prog 262 := enters_of Tryz.func262 rfl rfl
theorem unionR_no {a b : Net} (h : (goodN a && goodN b) = false) : unionR a b = (noNet, false) := by unfold unionR; rw [h]; rfl
theorem unionR_yes {a b : Net} (h : (goodN a && goodN b) = true) : unionR a b = (netOf (unionN a b), goodN (unionN a b)) := by unfold unionR; rw [h]; rfl
set_option maxHeartbeats 4000000 in
theorem sUnion_spec (a b : Net) (ha : NetB a) (hb : NetB b) : ASpec Tryz.prog 256 [netA a, netA b] [] (Pure1 (.tup [netA (unionR a b).1, aT (unionR a b).2])) := by
 have hap := ha.p
 have hbp := hb.p
 have hl1 := ha.l
 have hl2 := hb.l
 refine ASpec.of Tryz.func256 rfl rfl fun C hC => ?_
 refine AC.seq (AC.region ?_)
 refine AL.q (by exact h_boxF rfl rfl) rfl ?_
 refine AL.q (by exact h_boxF rfl rfl) rfl ?_
 refine AL.q (by exact h_alloc rfl) rfl ?_
 refine AL.p (by exact as1 rfl) rfl ?_
 refine AL.nil (th_n (AC.seq (AC.seq (AC.region ?_))))
 refine AL.p (by exact g_load_refN rfl rfl rfl rfl) rfl ?_
 refine AL.q (by exact h_pure en_l1Good rfl rfl (by repeat (first | exact rfl | exact DLead.same | refine ⟨_, _, rfl, ?_, ?_⟩ | refine ⟨_, rfl, ?_⟩)) (l1Good_spec _ (by assumption)) rfl) rfl ?_
 refine AL.p (by exact g_not rfl) rfl ?_
 refine AL.p (by exact mv1 rfl) rfl ?_
 refine AL.caseGB rfl rfl (fun h0 => ?_) (fun h0 => ?_)
 ·refine AL.not rfl rfl rfl rfl rfl ?_
  refine AL.not rfl rfl rfl rfl rfl ?_
  refine AL.not rfl rfl rfl rfl rfl ?_
  refine AL.p (by exact g_pickT (r := .d _) rfl rfl) rfl ?_
  refine AL.nil (th_n ?_)
  refine AC.condT rfl ?_
  refine AC.seq (AC.region ?_)
  refine AL.p (by exact g_build rfl rfl rfl) rfl ?_
  refine AL.q (by exact h_store rfl rfl rfl rfl rfl rfl) rfl ?_
  refine AL.p (by exact as1 rfl) rfl ?_
  refine AL.nil (th_n (AC.ret (th_r (bq_r ?_))))
  (have h : (goodN a && goodN b) = false := (by rw [(Bool.not_eq_true' _).mp h0]; rfl); rw [unionR_no h]; exact ret0 rfl (by repeat (first | exact DLead.same | exact DLead.nil | exact rfl | refine ⟨_, rfl, ?_⟩ | refine ⟨_, _, rfl, ?_, ?_⟩)))
 ·refine AL.yes rfl rfl rfl ?_
  refine AL.p (by exact g_load_refN rfl rfl rfl rfl) rfl ?_
  refine AL.yes rfl rfl rfl ?_
  refine AL.q (by exact h_pure en_l1Good rfl rfl (by repeat (first | exact rfl | exact DLead.same | refine ⟨_, _, rfl, ?_, ?_⟩ | refine ⟨_, rfl, ?_⟩)) (l1Good_spec _ (by assumption)) rfl) rfl ?_
  refine AL.yes rfl rfl rfl ?_
  refine AL.p (by exact g_not rfl) rfl ?_
  refine AL.p (by exact g_pickF (r := .d _) rfl rfl) rfl ?_
  refine AL.nil (th_n ?_)
  refine AC.condB rfl (fun h1 => ?_) (fun h1 => ?_)
  ·refine AC.seq (AC.region ?_)
   refine AL.p (by exact g_build rfl rfl rfl) rfl ?_
   refine AL.q (by exact h_store rfl rfl rfl rfl rfl rfl) rfl ?_
   refine AL.p (by exact as1 rfl) rfl ?_
   refine AL.nil (th_n (AC.ret (th_r (bq_r ?_))))
   (have h : (goodN a && goodN b) = false := (by rw [(Bool.not_eq_true' _).mp h1, Bool.and_false]); rw [unionR_no h]; exact ret0 rfl (by repeat (first | exact DLead.same | exact DLead.nil | exact rfl | refine ⟨_, rfl, ?_⟩ | refine ⟨_, _, rfl, ?_, ?_⟩)))
  ·refine AC.skip (th_n (AC.seq ?_))
   have h0' : goodN a = true := by simpa using h0
   have h1' : goodN b = true := by simpa using h1
   have hp1 := good_places h0'
   have hp2 := good_places h1'
   refine AC.region ?_
   refine AL.p (by exact g_load_refN rfl rfl rfl rfl) rfl ?_
   refine AL.q (by exact h_fun (cs := []) en_l1OwnN rfl rfl (by repeat (first | exact rfl | exact DLead.same | refine ⟨_, _, rfl, ?_, ?_⟩ | refine ⟨_, rfl, ?_⟩)) (by repeat (exact True.intro)) (l1OwnN_spec a ha) rfl rfl rfl rfl) rfl ?_
   refine AL.q (by exact h_alloc rfl) rfl ?_
   refine AL.q (by exact h_store rfl rfl rfl rfl rfl rfl) rfl ?_
   refine AL.nil (th_n (AC.seq (AC.region ?_)))
   refine AL.p (by exact g_fa_ptr rfl rfl rfl rfl rfl) rfl ?_
   refine AL.p (by exact g_load_ptr rfl rfl rfl rfl rfl) rfl ?_
   refine AL.p (by exact g_fa_ref rfl rfl rfl rfl rfl rfl) rfl ?_
   refine AL.p (by exact g_load_ref rfl rfl rfl) rfl ?_
   refine AL.p (by exact g_arith rfl rfl rfl (by exact wrap_i64 (by omega))) rfl ?_
   refine AL.p (by exact g_fa_ptr rfl rfl rfl rfl rfl) rfl ?_
   refine AL.q (by exact h_store rfl rfl rfl rfl rfl rfl) rfl ?_
   refine AL.nil (th_n (AC.seq (AC.seq (AC.region ?_))))
   refine AL.p (by exact g_fa_ref rfl rfl rfl rfl rfl rfl) rfl ?_
   refine AL.p (by exact g_load_ref rfl rfl rfl) rfl ?_
   refine AL.p (by exact g_len_view rfl rfl (by exact List.length_map _)) rfl ?_
   refine AL.p (by exact mv1 rfl) rfl ?_
   refine AL.nil (th_n (AC.block ?_))
   refine AC.loop (ι := Nat) (fun k => ⟨55, 128, [(2, .d (.ref (netD a))), (4, .ptr 102 0), (6, .ptr 100 0), (27, .d (vTs b.ts)), (28, aI b.ts.length), (29, aI k)], [(100, some (.cells 26 [aI (a.places + b.places), .own 101 (a.ts.length + k)])), (101, some (.arr 186 2 (tsL (a.ts ++ (b.ts.take k).map (shT a.places))))), (102, some (.cells 26 [aI 0, .d (.val (.slice none 0 0))]))]⟩) (fun k => k ≤ b.ts.length) (fun k => b.ts.length - k) (0) ?_ (Nat.zero_le _) ?_
   ·exact Weak.ren _ [(100, _), (101, _), (102, _)] hC rfl (by repeat (first | exact True.intro | refine And.intro ?_ ?_ | exact DLead.same | exact rfl | refine ⟨_, rfl, ?_⟩)) (by rw [show a.ts ++ (b.ts.take 0).map (shT a.places) = a.ts from List.append_nil _]; repeat (first | exact True.intro | refine And.intro ?_ ?_ | exact DLead.same | exact rfl | refine ⟨_, _, rfl, rfl, ?_⟩ | refine ⟨_, rfl, ?_⟩ | refine ⟨_, _, rfl, ?_, ?_⟩)) rfl rfl rfl
   ·intro k hk
    refine AC.seq (AC.region ?_)
    refine AL.p (by exact g_cmp rfl rfl rfl) rfl ?_
    refine AL.nil (th_n (AC.seq ?_))
    refine AC.condD rfl (fun h2 => ?_) (fun h2 => ?_)
    ·refine AC.skip (th_n (AC.seq (AC.block (AC.seq ?_))))
     have hk1 : k < b.ts.length := by omega
     have hget := tsL_get hk1
     have hl3 := (hb.t _ (List.getElem_mem hk1)).1
     have hl4 := (hb.t _ (List.getElem_mem hk1)).2
     have hr1 := (good_far h1' _ (List.getElem_mem hk1)).1
     have hr2 := (good_far h1' _ (List.getElem_mem hk1)).2
     have htl : (a.ts ++ (b.ts.take k).map (shT a.places)).length = a.ts.length + k := by rw [List.length_append, takeM_len hk]
     refine AC.region ?_
     refine AL.p (by exact g_ia_view rfl rfl rfl rfl rfl (by rfl) (by assumption)) rfl ?_
     refine AL.p (by exact g_load_refN rfl rfl rfl rfl) rfl ?_
     refine AL.q (by exact h_alloc rfl) rfl ?_
     refine AL.q (by exact h_store rfl rfl rfl rfl rfl rfl) rfl ?_
     refine AL.nil (th_n ?_)
     refine AC.drawn' mixed_ok [[], [0], [], [2], [], [4], [2,3,4,5], [], [7], [], [9], [2,3,4,5,6,7,8,9,10], [2,3,4,5,6,7,8,9,10,11], [2,3,4,5,6,7,8,9,10,11,12], [0,1,2,3,4,5,6,7,8,9,10,11,12,13], [0,1,2,3,4,5,6,7,8,9,10,11,12,13,14], [0,1,2,3,4,5,6,7,8,9,10,11,12,13,14,15]] (by decide) ?_
     refine DF.op 0 [] 17 rfl rfl rfl (.free rfl (NOp.of (by exact g_fa_ptr rfl rfl rfl rfl rfl))) rfl ?_
     refine DF.op 1 [0] 17 rfl rfl rfl (.free rfl (NOp.of (by exact g_load_ptr rfl rfl rfl rfl rfl))) rfl ?_
     refine DF.op 2 [] 17 rfl rfl rfl (.free rfl (NOp.of (by exact g_fa_ptr rfl rfl rfl rfl rfl))) rfl ?_
     refine DF.op 3 [2] 17 rfl rfl rfl (.free rfl (NOp.of (by exact g_load_ptr rfl rfl rfl rfl rfl))) rfl ?_
     refine DF.op 4 [] 17 rfl rfl rfl (.free rfl (NOp.of (by exact g_fa_ref rfl rfl rfl rfl rfl rfl))) rfl ?_
     refine DF.op 5 [4] 17 rfl rfl rfl (.free rfl (NOp.of (by exact g_load_ref rfl rfl rfl))) rfl ?_
     refine DF.op 6 [2,3,4,5] 17 rfl rfl rfl (.free rfl (by exact h_pure en_l1Shift rfl rfl (by repeat (first | exact rfl | exact DLead.same | refine ⟨_, _, rfl, ?_, ?_⟩)) (l1Shift_spec _ _ (by assumption) (by assumption) (by assumption)) rfl)) rfl ?_
     refine DF.op 7 [] 17 rfl rfl rfl (.free rfl (NOp.of (by exact g_fa_ptr rfl rfl rfl rfl rfl))) rfl ?_
     refine DF.op 8 [7] 17 rfl rfl rfl (.free rfl (NOp.of (by exact g_load_ptr rfl rfl rfl rfl rfl))) rfl ?_
     refine DF.op 9 [] 17 rfl rfl rfl (.free rfl (NOp.of (by exact g_fa_ref rfl rfl rfl rfl rfl rfl))) rfl ?_
     refine DF.op 10 [9] 17 rfl rfl rfl (.free rfl (NOp.of (by exact g_load_ref rfl rfl rfl))) rfl ?_
     refine DF.op 11 [2,3,4,5,6,7,8,9,10] 17 rfl rfl rfl (.free rfl (by exact h_pure en_l1Shift rfl rfl (by repeat (first | exact rfl | exact DLead.same | refine ⟨_, _, rfl, ?_, ?_⟩)) (l1Shift_spec _ _ (by assumption) (by assumption) (by assumption)) rfl)) rfl ?_
     refine DF.op 12 [2,3,4,5,6,7,8,9,10,11] 17 rfl rfl rfl (.free rfl (NOp.of (by exact g_build rfl rfl rfl))) rfl ?_
     refine DF.op 13 [2,3,4,5,6,7,8,9,10,11,12] 17 rfl rfl rfl (.free rfl (by exact h_litF rfl rfl rfl rfl rfl rfl rfl rfl)) rfl ?_
     refine DF.op 14 (List.range 14) 17 rfl rfl rfl (.free rfl (by exact h_appendT (a.ts ++ (b.ts.take k).map (shT a.places)) [shT a.places b.ts[k]] (.own rfl rfl (by rw [tsL_len, htl])) (.view rfl) (by rw [List.length_append, htl]; show a.ts.length + k + 1 ≤ _; omega) (by simp))) rfl ?_
     refine DF.op 15 (List.range 15) 17 rfl rfl rfl (.free rfl (NOp.of (by exact g_fa_ptr rfl rfl rfl rfl rfl))) rfl ?_
     refine DF.op 16 (List.range 16) 17 rfl rfl rfl (.free rfl (by exact h_store rfl rfl rfl rfl rfl rfl)) rfl ?_
     refine DF.fin (ps := [(0,2),(0,3),(0,4),(0,5),(0,6),(0,7),(0,8),(0,9),(0,10),(0,11),(0,12),(0,13),(1,2),(1,3),(1,4),(1,5),(1,6),(1,7),(1,8),(1,9),(1,10),(1,11),(1,12),(1,13),(2,0),(2,1),(2,4),(2,5),(2,7),(2,8),(2,9),(2,10),(3,0),(3,1),(3,4),(3,5),(3,7),(3,8),(3,9),(3,10),(4,0),(4,1),(4,2),(4,3),(4,7),(4,8),(4,9),(4,10),(5,0),(5,1),(5,2),(5,3),(5,7),(5,8),(5,9),(5,10),(6,0),(6,1),(6,7),(6,8),(6,9),(6,10),(7,0),(7,1),(7,2),(7,3),(7,4),(7,5),(7,6),(7,9),(7,10),(8,0),(8,1),(8,2),(8,3),(8,4),(8,5),(8,6),(8,9),(8,10),(9,0),(9,1),(9,2),(9,3),(9,4),(9,5),(9,6),(9,7),(9,8),(10,0),(10,1),(10,2),(10,3),(10,4),(10,5),(10,6),(10,7),(10,8),(11,0),(11,1),(12,0),(12,1),(13,0),(13,1)]) 17 rfl (by decide +kernel) (by decide +kernel) (by rfl) ?_
     refine ib_n (th_n (AC.region ?_))
     refine AL.p (by exact g_arith rfl rfl rfl (by exact wrap_i64 (by omega))) rfl ?_
     refine AL.p (by exact mv1 rfl) rfl ?_
     refine AL.nil (th_n ?_)
     have hl5 : (a.ts ++ (b.ts.take k).map (shT a.places) ++ [shT a.places b.ts[k]]).length = a.ts.length + (k + 1) := by rw [List.length_append, htl]; rfl
     have e6 : a.ts ++ (b.ts.take (k + 1)).map (shT a.places) = a.ts ++ (b.ts.take k).map (shT a.places) ++ [shT a.places b.ts[k]] := by rw [takeM hk1, List.append_assoc]
     exact ⟨k + 1, by omega, by omega, Weak.ren _ [(100, _), (101, _), (102, _)] hC rfl (by repeat (first | exact True.intro | refine And.intro ?_ ?_ | exact DLead.same | exact rfl | refine ⟨_, rfl, ?_⟩)) (by rw [e6, ← hl5]; repeat (first | exact True.intro | refine And.intro ?_ ?_ | exact DLead.same | exact rfl | refine ⟨_, _, rfl, rfl, ?_⟩ | refine ⟨_, rfl, ?_⟩ | refine ⟨_, _, rfl, ?_, ?_⟩)) rfl rfl rfl⟩
    ·refine AC.exit (th_e (th_e (ib_y (th_n (AC.seq (AC.seq ?_))))))
     have hkk : k = b.ts.length := by omega
     subst hkk
     rw [List.take_length]
     refine AC.weak (Weak.freezeP (els' := tsL (unionN a b).ts) 6 1 rfl rfl rfl rfl (by rw [tsL_len, List.length_append, List.length_map]; exact Nat.le_refl _) (List.take_of_length_le (by rw [tsL_len, List.length_append, List.length_map]; exact Nat.le_refl _)) rfl) ?_
     have hG := l1Good_spec (unionN a b) (unionN_B ha hb h0' h1')
     have hRR := unionR_yes (a := a) (b := b) (by rw [h0', h1']; rfl)
     refine AC.region ?_
     refine AL.p (by exact g_load_ptrN rfl rfl rfl rfl rfl) rfl ?_
     refine AL.q (by exact h_pure en_l1Good rfl rfl (by repeat (first | exact rfl | exact DLead.same | refine ⟨_, _, rfl, ?_, ?_⟩ | refine ⟨_, rfl, ?_⟩)) hG rfl) rfl ?_
     refine AL.p (by exact g_not rfl) rfl ?_
     refine AL.nil (th_n ?_)
     refine AC.condB rfl (fun h3 => ?_) (fun h3 => ?_)
     ·refine AC.seq (AC.region ?_)
      refine AL.p (by exact g_build rfl rfl rfl) rfl ?_
      refine AL.q (by exact h_store rfl rfl rfl rfl rfl rfl) rfl ?_
      refine AL.p (by exact as1 rfl) rfl ?_
      refine AL.nil (th_n (AC.ret (th_r (bq_r ?_))))
      have h : goodN (unionN a b) = false := by simpa using h3
      rw [hRR, netOf, h, if_neg Bool.false_ne_true]
      exact ret0 rfl (by repeat (first | exact DLead.same | exact DLead.nil | exact rfl | refine ⟨_, rfl, ?_⟩ | refine ⟨_, _, rfl, ?_, ?_⟩))
     ·refine AC.skip (th_n (AC.seq (AC.region ?_)))
      refine AL.p (by exact g_load_ptrN rfl rfl rfl rfl rfl) rfl ?_
      refine AL.q (by exact h_store rfl rfl rfl rfl rfl rfl) rfl ?_
      refine AL.p (by exact as1 rfl) rfl ?_
      refine AL.nil (th_n (AC.ret (bq_r ?_)))
      have h : goodN (unionN a b) = true := by simpa using h3
      rw [hRR, netOf, h, if_pos rfl]
      exact ret0 rfl (by repeat (first | exact DLead.same | exact rfl | refine ⟨_, rfl, ?_⟩ | refine ⟨_, _, rfl, ?_, ?_⟩))
theorem en_sUnion : Enters Tryz.prog 256 := enters_of Tryz.func256 rfl rfl
def shLab (n : Nat) (x : Lab) : Lab := if 0 ≤ x.sig then ⟨x.sig + n, x.up⟩ else x
def zS : Stg := ⟨⟨0, []⟩, [], [], []⟩
def unionT (a b : Stg) : Stg := ⟨(unionR a.net b.net).1, a.sigs ++ b.sigs, a.labs ++ b.labs.map (shLab a.sigs.length), a.start ++ b.start⟩
def unionS (a b : Stg) : Stg × Bool := if ((unionR a.net b.net).2 && (goodS a && goodS b)) && goodS (unionT a b) then (unionT a b, true) else (zS, false)
structure StgB (s : Stg) : Prop where
 n : NetB s.net
 sg : s.sigs.length ≤ 100000
 sn : ∀ t, t ∈ s.sigs → t.name.length ≤ 100000
 l : s.labs.length ≤ 100000
 lb : ∀ x, x ∈ s.labs → -1000000 ≤ x.sig ∧ x.sig ≤ 1000000
 st : s.start.length ≤ 100000
theorem StgB.L {s : Stg} (h : StgB s) : StgL s := ⟨h.n.L, by have := h.sg; omega, fun t ht => by have := h.sn t ht; omega, by have := h.l; omega, by have := h.st; omega⟩
theorem takeLab {f : Lab → Lab} {l : List Lab} {k : Nat} (hk : k < l.length) : (l.take (k + 1)).map f = (l.take k).map f ++ [f l[k]] := by
 rw [List.take_add_one, List.getElem?_eq_getElem hk, List.map_append]; rfl
abbrev stgQ (s : Stg) (j k : Nat) : AV := .agg [aI s.net.places, .d (vTs s.net.ts), .own j s.sigs.length, .own k s.labs.length, aS (bstr s.start)]
set_option maxHeartbeats 8000000 in
theorem sUnionSTGs_own (a b : Stg) (ha : StgB a) (hb : StgB b) (hT : NetL (unionR a.net b.net).1) (hok : (unionS a b).2 = true) : ASpec Tryz.prog 240 [stgA a, stgA b] [] (Fun1 (.tup [stgQ (unionT a b) 0 1, aT true]) [(0, .arr 149 2 (sigsL (unionT a b).sigs)), (1, .arr 156 2 (labsL (unionT a b).labs))]) := by
 have hU := sUnion_spec a.net b.net ha.n hb.n
 have hGa := l2Good_spec a ha.L
 have hGb := l2Good_spec b hb.L
 have hcond : (((unionR a.net b.net).2 && (goodS a && goodS b)) && goodS (unionT a b)) = true := by
  unfold unionS at hok
  split at hok
  ·assumption
  ·cases hok
 simp only [Bool.and_eq_true] at hcond
 obtain ⟨⟨hc1, hc2, hc3⟩, hc4⟩ := hcond
 rw [hc2] at hGa
 rw [hc3] at hGb
 rw [hc1] at hU
 have hsa := ha.sg
 have hsb := hb.sg
 have hla := ha.l
 have hlb := hb.l
 have hta := ha.st
 have htb := hb.st
 have hGt := l2Good_spec (unionT a b) ⟨hT, by show (a.sigs ++ b.sigs).length ≤ _; rw [List.length_append]; omega, (fun t ht => by
  rcases List.mem_append.1 ht with h | h
  ·have := ha.sn t h; omega
  ·have := hb.sn t h; omega), by show (a.labs ++ b.labs.map _).length ≤ _; rw [List.length_append, List.length_map]; omega, by show (a.start ++ b.start).length ≤ _; rw [List.length_append]; omega⟩
 rw [hc4] at hGt
 have hU1 : unionT a b = ⟨(unionR a.net b.net).1, a.sigs ++ b.sigs, a.labs ++ b.labs.map (shLab a.sigs.length), a.start ++ b.start⟩ := rfl
 obtain ⟨U, hUU⟩ : ∃ U, U = (unionR a.net b.net).1 := ⟨_, rfl⟩
 rw [← hUU] at hU hU1
 obtain ⟨T, hTT⟩ : ∃ T, T = unionT a b := ⟨_, rfl⟩
 rw [← hTT] at hGt hU1 ⊢
 clear hTT hUU hT hok
 refine ASpec.of Tryz.func240 rfl rfl fun C hC => ?_
 refine AC.seq (AC.region ?_)
 refine AL.q (by exact h_boxF rfl rfl) rfl ?_
 refine AL.q (by exact h_boxF rfl rfl) rfl ?_
 refine AL.q (by exact h_alloc rfl) rfl ?_
 refine AL.p (by exact as1 rfl) rfl ?_
 refine AL.nil (th_n (AC.seq (AC.region ?_)))
 refine AL.p (by exact g_fa_ref rfl rfl rfl rfl rfl rfl) rfl ?_
 refine AL.p (by exact g_load_refN rfl rfl rfl rfl) rfl ?_
 refine AL.p (by exact g_fa_ref rfl rfl rfl rfl rfl rfl) rfl ?_
 refine AL.p (by exact g_load_refN rfl rfl rfl rfl) rfl ?_
 refine AL.q (by exact h_pure en_sUnion rfl rfl (by repeat (first | exact rfl | exact DLead.same | refine ⟨_, _, rfl, ?_, ?_⟩ | refine ⟨_, rfl, ?_⟩)) hU rfl) rfl ?_
 refine AL.p (by exact mv5 rfl) rfl ?_
 refine AL.p (by exact g_extract (r := .agg _) rfl rfl) rfl ?_
 refine AL.p (by exact g_extract (r := .d _) rfl rfl) rfl ?_
 refine AL.q (by exact h_alloc rfl) rfl ?_
 refine AL.q (by exact h_store rfl rfl rfl rfl rfl rfl) rfl ?_
 refine AL.p (by exact as1 rfl) rfl ?_
 refine AL.nil (th_n (AC.seq (AC.seq (AC.region ?_))))
 refine AL.p (by exact mv1 rfl) rfl ?_
 refine AL.p (by exact g_not rfl) rfl ?_
 refine AL.p (by exact mv1 rfl) rfl ?_
 refine AL.caseGB rfl rfl (fun h0 => ?_) (fun h0 => ?_)
 ·refine AL.not rfl rfl rfl rfl rfl ?_
  refine AL.not rfl rfl rfl rfl rfl ?_
  refine AL.not rfl rfl rfl rfl rfl ?_
  refine AL.p (by exact g_pickT (r := .d _) rfl rfl) rfl ?_
  refine AL.p (by exact mv1 rfl) rfl ?_
  refine AL.not rfl rfl rfl rfl rfl ?_
  refine AL.not rfl rfl rfl rfl rfl ?_
  refine AL.not rfl rfl rfl rfl rfl ?_
  refine AL.p (by exact g_pickT (r := .d _) rfl rfl) rfl ?_
  refine AL.nil (th_n ?_)
  refine AC.condT rfl ?_
  refine AC.seq ?_
  exfalso; simp_all
 ·refine AL.yes rfl rfl rfl ?_
  refine AL.p (by exact g_load_refN rfl rfl rfl rfl) rfl ?_
  refine AL.yes rfl rfl rfl ?_
  refine AL.q (by exact h_pure en_l2Good rfl rfl (by repeat (first | exact rfl | exact DLead.same | refine ⟨_, _, rfl, ?_, ?_⟩ | refine ⟨_, rfl, ?_⟩)) hGa rfl) rfl ?_
  refine AL.yes rfl rfl rfl ?_
  refine AL.p (by exact g_not rfl) rfl ?_
  refine AL.p (by exact g_pickF (r := .d _) rfl rfl) rfl ?_
  refine AL.p (by exact mv1 rfl) rfl ?_
  refine AL.caseGB rfl rfl (fun h1 => ?_) (fun h1 => ?_)
  ·refine AL.not rfl rfl rfl rfl rfl ?_
   refine AL.not rfl rfl rfl rfl rfl ?_
   refine AL.not rfl rfl rfl rfl rfl ?_
   refine AL.p (by exact g_pickT (r := .d _) rfl rfl) rfl ?_
   refine AL.nil (th_n ?_)
   refine AC.condT rfl ?_
   refine AC.seq ?_
   exfalso; simp_all
  ·refine AL.yes rfl rfl rfl ?_
   refine AL.p (by exact g_load_refN rfl rfl rfl rfl) rfl ?_
   refine AL.yes rfl rfl rfl ?_
   refine AL.q (by exact h_pure en_l2Good rfl rfl (by repeat (first | exact rfl | exact DLead.same | refine ⟨_, _, rfl, ?_, ?_⟩ | refine ⟨_, rfl, ?_⟩)) hGb rfl) rfl ?_
   refine AL.yes rfl rfl rfl ?_
   refine AL.p (by exact g_not rfl) rfl ?_
   refine AL.p (by exact g_pickF (r := .d _) rfl rfl) rfl ?_
   refine AL.nil (th_n ?_)
   refine AC.condB rfl (fun h2 => ?_) (fun h2 => ?_)
   ·refine AC.seq ?_
    exfalso; simp_all
   ·refine AC.skip (th_n (AC.seq ?_))
    refine AC.drawn' mixed_ok [[], [], [], [2], [1,2,3], [], [5], [1,2,3,4,5,6], [], [], [9], [1,2,3,4,5,6,7,8,9,10], [], [12], [], [14], [12,13,14,15], [0,1,2,3,4,5,6,7,8,9,10,11,12,13,14,15,16], [], [0,1,2,3,4,5,6,7,8,9,10,11,12,13,14,15,16,17,18]] (by decide) ?_
    refine DF.op 0 [] 20 rfl rfl rfl (.free rfl (NOp.of (by exact g_load_ptrN rfl rfl rfl rfl rfl))) rfl ?_
    refine DF.op 1 [] 20 rfl rfl rfl (.free rfl (by exact h_lit rfl rfl rfl rfl rfl rfl rfl rfl)) rfl ?_
    refine DF.op 2 [] 20 rfl rfl rfl (.free rfl (NOp.of (by exact g_fa_ref rfl rfl rfl rfl rfl rfl))) rfl ?_
    refine DF.op 3 [2] 20 rfl rfl rfl (.free rfl (NOp.of (by exact g_load_ref rfl rfl rfl))) rfl ?_
    refine DF.op 4 [1,2,3] 20 rfl rfl rfl (.free rfl (by exact h_appendSg [] a.sigs (.own rfl rfl rfl) (.view rfl) (by rw [List.nil_append]; omega) (by simp))) rfl ?_
    refine DF.op 5 [] 20 rfl rfl rfl (.free rfl (NOp.of (by exact g_fa_ref rfl rfl rfl rfl rfl rfl))) rfl ?_
    refine DF.op 6 [5] 20 rfl rfl rfl (.free rfl (NOp.of (by exact g_load_ref rfl rfl rfl))) rfl ?_
    refine DF.op 7 [1,2,3,4,5,6] 20 rfl rfl rfl (.free rfl (by exact h_appendSg a.sigs b.sigs (.own rfl rfl (sigsL_len _).symm) (.view rfl) (by rw [List.length_append]; omega) (by simp))) rfl ?_
    refine DF.op 8 [] 20 rfl rfl rfl (.free rfl (by exact h_lit rfl rfl rfl rfl rfl rfl rfl rfl)) rfl ?_
    refine DF.op 9 [] 20 rfl rfl rfl (.free rfl (NOp.of (by exact g_fa_ref rfl rfl rfl rfl rfl rfl))) rfl ?_
    refine DF.op 10 [9] 20 rfl rfl rfl (.free rfl (NOp.of (by exact g_load_ref rfl rfl rfl))) rfl ?_
    refine DF.op 11 [1,2,3,4,5,6,7,8,9,10] 20 rfl rfl rfl (.free rfl (by exact h_appendLx [] a.labs (.own rfl rfl rfl) (.view rfl) (by rw [List.nil_append]; omega) (by simp))) rfl ?_
    refine DF.op 12 [] 20 rfl rfl rfl (.free rfl (NOp.of (by exact g_fa_ref rfl rfl rfl rfl rfl rfl))) rfl ?_
    refine DF.op 13 [12] 20 rfl rfl rfl (.free rfl (NOp.of (by exact g_load_ref rfl rfl rfl))) rfl ?_
    refine DF.op 14 [] 20 rfl rfl rfl (.free rfl (NOp.of (by exact g_fa_ref rfl rfl rfl rfl rfl rfl))) rfl ?_
    refine DF.op 15 [14] 20 rfl rfl rfl (.free rfl (NOp.of (by exact g_load_ref rfl rfl rfl))) rfl ?_
    refine DF.op 16 [12,13,14,15] 20 rfl rfl rfl (.free rfl (NOp.of (by exact g_saddB (a := a.start) (b := b.start) rfl rfl (by omega)))) rfl ?_
    refine DF.op 17 (List.range 17) 20 rfl rfl rfl (.free rfl (NOp.of (by exact g_build rfl rfl rfl))) rfl ?_
    refine DF.op 18 [] 20 rfl rfl rfl (.free rfl (by exact h_alloc rfl)) rfl ?_
    refine DF.op 19 (List.range 19) 20 rfl rfl rfl (.free rfl (by exact h_store rfl rfl rfl rfl rfl rfl)) rfl ?_
    refine DF.fin (ps := [(0,1),(0,2),(0,3),(0,4),(0,5),(0,6),(0,7),(0,8),(0,9),(0,10),(0,11),(0,12),(0,13),(0,14),(0,15),(0,16),(0,18),(1,0),(1,2),(1,3),(1,5),(1,6),(1,8),(1,9),(1,10),(1,12),(1,13),(1,14),(1,15),(1,16),(1,18),(2,0),(2,1),(2,5),(2,6),(2,8),(2,9),(2,10),(2,12),(2,13),(2,14),(2,15),(2,16),(2,18),(3,0),(3,1),(3,5),(3,6),(3,8),(3,9),(3,10),(3,12),(3,13),(3,14),(3,15),(3,16),(3,18),(4,0),(4,5),(4,6),(4,8),(4,9),(4,10),(4,12),(4,13),(4,14),(4,15),(4,16),(4,18),(5,0),(5,1),(5,2),(5,3),(5,4),(5,8),(5,9),(5,10),(5,12),(5,13),(5,14),(5,15),(5,16),(5,18),(6,0),(6,1),(6,2),(6,3),(6,4),(6,8),(6,9),(6,10),(6,12),(6,13),(6,14),(6,15),(6,16),(6,18),(7,0),(7,8),(7,9),(7,10),(7,12),(7,13),(7,14),(7,15),(7,16),(7,18),(8,0),(8,1),(8,2),(8,3),(8,4),(8,5),(8,6),(8,7),(8,9),(8,10),(8,12),(8,13),(8,14),(8,15),(8,16),(8,18),(9,0),(9,1),(9,2),(9,3),(9,4),(9,5),(9,6),(9,7),(9,8),(9,12),(9,13),(9,14),(9,15),(9,16),(9,18),(10,0),(10,1),(10,2),(10,3),(10,4),(10,5),(10,6),(10,7),(10,8),(10,12),(10,13),(10,14),(10,15),(10,16),(10,18),(11,0),(11,12),(11,13),(11,14),(11,15),(11,16),(11,18),(12,0),(12,1),(12,2),(12,3),(12,4),(12,5),(12,6),(12,7),(12,8),(12,9),(12,10),(12,11),(12,14),(12,15),(12,18),(13,0),(13,1),(13,2),(13,3),(13,4),(13,5),(13,6),(13,7),(13,8),(13,9),(13,10),(13,11),(13,14),(13,15),(13,18),(14,0),(14,1),(14,2),(14,3),(14,4),(14,5),(14,6),(14,7),(14,8),(14,9),(14,10),(14,11),(14,12),(14,13),(14,18),(15,0),(15,1),(15,2),(15,3),(15,4),(15,5),(15,6),(15,7),(15,8),(15,9),(15,10),(15,11),(15,12),(15,13),(15,18),(16,0),(16,1),(16,2),(16,3),(16,4),(16,5),(16,6),(16,7),(16,8),(16,9),(16,10),(16,11),(16,18),(17,18),(18,0),(18,1),(18,2),(18,3),(18,4),(18,5),(18,6),(18,7),(18,8),(18,9),(18,10),(18,11),(18,12),(18,13),(18,14),(18,15),(18,16),(18,17)]) 20 rfl (by decide +kernel) (by decide +kernel) (by rfl) ?_
    refine th_n (AC.seq (AC.seq (AC.region ?_)))
    refine AL.p (by exact g_fa_ref rfl rfl rfl rfl rfl rfl) rfl ?_
    refine AL.p (by exact g_load_ref rfl rfl rfl) rfl ?_
    refine AL.p (by exact g_len_view rfl rfl (by exact List.length_map _)) rfl ?_
    refine AL.p (by exact mv1 rfl) rfl ?_
    refine AL.nil (th_n (AC.block ?_))
    refine AC.loop (ι := Nat) (fun k => ⟨79, 400, [(2, .d (.ref (stgD a))), (4, .ptr 201 0), (8, .ptr 200 0), (51, .d (vLabs b.labs)), (52, aI b.labs.length), (53, aI k)], [(200, some (.cells 30 [aI U.places, .d (vTs U.ts), .own 101 (a.sigs ++ b.sigs).length, .own 102 (a.labs ++ (b.labs.take k).map (shLab a.sigs.length)).length, aS (bstr (a.start ++ b.start))])), (101, some (.arr 149 2 (sigsL (a.sigs ++ b.sigs)))), (102, some (.arr 156 2 (labsL (a.labs ++ (b.labs.take k).map (shLab a.sigs.length))))), (201, some (.cells 30 zStg))]⟩) (fun k => k ≤ b.labs.length) (fun k => b.labs.length - k) (0) ?_ (Nat.zero_le _) ?_
    ·exact Weak.ren _ [(200, _), (101, _), (102, _), (201, _)] hC rfl (by repeat (first | exact True.intro | refine And.intro ?_ ?_ | exact DLead.same | exact rfl | refine ⟨_, rfl, ?_⟩)) (by rw [List.take_zero, List.map_nil, List.append_nil a.labs]; repeat (first | exact True.intro | refine And.intro ?_ ?_ | exact DLead.same | exact rfl | refine ⟨_, _, rfl, rfl, ?_⟩ | refine ⟨_, rfl, ?_⟩ | refine ⟨_, _, rfl, ?_, ?_⟩)) rfl rfl rfl
    ·intro k hk
     refine AC.seq (AC.region ?_)
     refine AL.p (by exact g_cmp rfl rfl rfl) rfl ?_
     refine AL.nil (th_n (AC.seq ?_))
     refine AC.condD rfl (fun h3 => ?_) (fun h3 => ?_)
     ·refine AC.skip (th_n (AC.seq (AC.block (AC.seq ?_))))
      have hk1 : k < b.labs.length := by omega
      have hget := labsL_get hk1
      have htk := takeLab (f := shLab a.sigs.length) hk1
      have hbd := hb.lb _ (List.getElem_mem hk1)
      have hacc : (a.labs ++ (b.labs.take k).map (shLab a.sigs.length)).length ≤ 300000 := by rw [List.length_append, List.length_map, List.length_take]; omega
      obtain ⟨acc, hac⟩ : ∃ acc, acc = a.labs ++ (b.labs.take k).map (shLab a.sigs.length) := ⟨_, rfl⟩
      have hnext : a.labs ++ (b.labs.take (k + 1)).map (shLab a.sigs.length) = acc ++ [shLab a.sigs.length b.labs[k]] := by rw [htk, ← List.append_assoc, ← hac]
      rw [← hac] at hacc ⊢
      have hsh : shLab a.sigs.length b.labs[k] = if 0 ≤ b.labs[k].sig then ⟨b.labs[k].sig + a.sigs.length, b.labs[k].up⟩ else b.labs[k] := rfl
      obtain ⟨x, hx⟩ : ∃ x, x = b.labs[k] := ⟨_, rfl⟩
      rw [← hx] at hget hbd hsh hnext
      refine AC.region ?_
      refine AL.p (by exact g_ia_view rfl rfl rfl rfl rfl (by rfl) (by assumption)) rfl ?_
      refine AL.p (by exact g_load_refN rfl rfl rfl rfl) rfl ?_
      refine AL.q (by exact h_alloc rfl) rfl ?_
      refine AL.q (by exact h_store rfl rfl rfl rfl rfl rfl) rfl ?_
      refine AL.nil (th_n ?_)
      refine AC.cut (fun (_ : Unit) => ⟨79, 600, [(2, .d (.ref (stgD a))), (4, .ptr 201 0), (8, .ptr 200 0), (10, .ptr 202 0), (51, .d (vLabs b.labs)), (52, aI b.labs.length), (53, aI k)], [(200, some (.cells 30 [aI U.places, .d (vTs U.ts), .own 101 (a.sigs ++ b.sigs).length, .own 102 acc.length, aS (bstr (a.start ++ b.start))])), (101, some (.arr 149 2 (sigsL (a.sigs ++ b.sigs)))), (102, some (.arr 156 2 (labsL acc))), (201, some (.cells 30 zStg)), (202, some (.cells 156 [aI (shLab a.sigs.length x).sig, aT (shLab a.sigs.length x).up]))]⟩) (fun _ => True) ?_ ?_
      ·refine AC.seq (AC.region ?_)
       refine AL.p (by exact g_fa_ptr rfl rfl rfl rfl rfl) rfl ?_
       refine AL.p (by exact g_load_ptr rfl rfl rfl rfl rfl) rfl ?_
       refine AL.p (by exact g_cmp rfl rfl rfl) rfl ?_
       refine AL.nil (th_n ?_)
       refine AC.condD rfl (fun h4 => ?_) (fun h4 => ?_)
       ·refine AC.region ?_
        refine AL.p (by exact g_fa_ptr rfl rfl rfl rfl rfl) rfl ?_
        refine AL.p (by exact g_load_ptr rfl rfl rfl rfl rfl) rfl ?_
        refine AL.p (by exact g_fa_ref rfl rfl rfl rfl rfl rfl) rfl ?_
        refine AL.p (by exact g_load_ref rfl rfl rfl) rfl ?_
        refine AL.p (by exact g_len_view (k := a.sigs.length) rfl rfl (sigsL_len _)) rfl ?_
        refine AL.p (by exact g_arith rfl rfl rfl (by exact wrap_i64 (by omega))) rfl ?_
        refine AL.p (by exact g_fa_ptr rfl rfl rfl rfl rfl) rfl ?_
        refine AL.q (by exact h_store rfl rfl rfl rfl rfl rfl) rfl ?_
        refine AL.nil (th_n ?_)
        have e := hsh.trans (if_pos h4)
        exact ⟨(), trivial, Weak.ren _ [(200, 200), (101, 101), (102, 102), (201, 201), (202, 400)] hC rfl (by repeat (first | exact True.intro | refine And.intro ?_ ?_ | exact DLead.same | exact rfl | refine ⟨_, rfl, ?_⟩)) (by rw [e]; repeat (first | exact True.intro | refine And.intro ?_ ?_ | exact DLead.same | exact rfl | refine ⟨_, _, rfl, rfl, ?_⟩ | refine ⟨_, rfl, ?_⟩ | refine ⟨_, _, rfl, ?_, ?_⟩)) rfl rfl rfl⟩
       ·refine AC.skip (th_n ?_)
        have e := hsh.trans (if_neg h4)
        exact ⟨(), trivial, Weak.ren _ [(200, 200), (101, 101), (102, 102), (201, 201), (202, 400)] hC rfl (by repeat (first | exact True.intro | refine And.intro ?_ ?_ | exact DLead.same | exact rfl | refine ⟨_, rfl, ?_⟩)) (by rw [e]; repeat (first | exact True.intro | refine And.intro ?_ ?_ | exact DLead.same | exact rfl | refine ⟨_, _, rfl, rfl, ?_⟩ | refine ⟨_, rfl, ?_⟩ | refine ⟨_, _, rfl, ?_, ?_⟩)) rfl rfl rfl⟩
      ·intro _ _
       refine AC.region ?_
       refine AL.p (by exact g_fa_ptr rfl rfl rfl rfl rfl) rfl ?_
       refine AL.p (by exact g_load_ptr rfl rfl rfl rfl rfl) rfl ?_
       refine AL.p (by exact g_load_ptrN rfl rfl rfl rfl rfl) rfl ?_
       refine AL.q (by exact h_litF rfl rfl rfl rfl rfl rfl rfl rfl) rfl ?_
       refine AL.q (by exact h_appendLx acc [shLab a.sigs.length x] (.own rfl rfl (labsL_len _).symm) (.view rfl) (by rw [List.length_append]; simp only [List.length_cons, List.length_nil]; omega) (by simp)) rfl ?_
       refine AL.p (by exact g_fa_ptr rfl rfl rfl rfl rfl) rfl ?_
       refine AL.q (by exact h_store rfl rfl rfl rfl rfl rfl) rfl ?_
       refine AL.nil (ib_n (th_n (AC.region ?_)))
       refine AL.p (by exact g_arith rfl rfl rfl (by exact wrap_i64 (by omega))) rfl ?_
       refine AL.p (by exact mv1 rfl) rfl ?_
       refine AL.nil (th_n ?_)
       exact ⟨k + 1, by omega, by omega, Weak.ren _ [(200, 200), (101, 101), (102, _), (201, 201)] hC rfl (by repeat (first | exact True.intro | refine And.intro ?_ ?_ | exact DLead.same | exact rfl | refine ⟨_, rfl, ?_⟩)) (by rw [hnext]; repeat (first | exact True.intro | refine And.intro ?_ ?_ | exact DLead.same | exact rfl | refine ⟨_, _, rfl, rfl, ?_⟩ | refine ⟨_, rfl, ?_⟩ | refine ⟨_, _, rfl, ?_, ?_⟩)) rfl rfl rfl⟩
     ·refine AC.exit (th_e (th_e (ib_y (th_n (AC.seq (AC.seq ?_))))))
      have hkk : k = b.labs.length := by omega
      subst hkk
      rw [List.take_length]
      obtain ⟨t1, t2, t3, t4⟩ : T.net = U ∧ T.sigs = a.sigs ++ b.sigs ∧ T.labs = a.labs ++ b.labs.map (shLab a.sigs.length) ∧ T.start = a.start ++ b.start := by rw [hU1]; exact ⟨rfl, rfl, rfl, rfl⟩
      rw [← t1, ← t2, ← t3, ← t4]
      refine AC.region ?_
      refine AL.p (by exact g_load_ptrN rfl rfl rfl rfl rfl) rfl ?_
      refine AL.q (by exact h_borrow [101, 102] en_l2Good rfl rfl hGt (.cons (.aggs (ds := stgD T) (.cons .d (.cons .d (.cons (.own (id := 101) rfl rfl (ownl _ _) (ownt _ _)) (.cons (.own (id := 102) rfl rfl (ownl _ _) (ownt _ _)) (.cons .d .nil)))))) .nil) rfl) rfl ?_
      refine AL.p (by exact g_not rfl) rfl ?_
      refine AL.nil (th_n ?_)
      refine AC.condB rfl (fun h4 => ?_) (fun h4 => ?_)
      ·refine AC.seq ?_
       exact absurd ‹(!true) = true› (by decide)
      ·refine AC.skip (th_n (AC.seq (AC.region ?_)))
       refine AL.p (by exact g_load_ptrN rfl rfl rfl rfl rfl) rfl ?_
       refine AL.q (by exact h_store rfl rfl rfl rfl rfl rfl) rfl ?_
       refine AL.p (by exact as1 rfl) rfl ?_
       refine AL.nil (th_n (AC.ret (bq_r ?_)))
       exact retN [(0, 101), (1, 102)] rfl (by repeat (first | exact rfl | exact DLead.same | refine ⟨_, _, rfl, ?_, ?_⟩ | refine ⟨_, rfl, ?_⟩)) (by repeat (first | exact True.intro | refine And.intro ?_ ?_ | exact rfl | refine ⟨_, _, rfl, rfl, ?_⟩)) rfl rfl
theorem en_sUnionSTGs : Enters Tryz.prog 240 := enters_of Tryz.func240 rfl rfl
section
variable {P : Program} [PT P] {C : Ctx} {s : ASt}
theorem Weak.freezeA {i id k n e sz : Nat} {cs : List AV} {els els' : List (List DV)} (hs : s.get i = .agg cs) (hk : cs[k]? = some (.own id n)) (hc : s.chunk id = some (.arr e sz els)) (hn : n ≤ els.length) (he : els.take n = els') : Weak C s { n := s.n, nx := s.nx, sl := (i, .agg (cs.set k (.d (.view e sz els')))) :: s.sl, ch := (id, none) :: s.ch } := by
 subst he
 refine ⟨?_⟩
 rintro a w ⟨m, hR⟩
 have hch : ∀ j c, (getL j ((id, none) :: s.ch)).getD none = some c → j ≠ id ∧ s.chunk j = some c := by
  intro j c h
  rw [getL_cons] at h
  split at h
  ·simp at h
  ·rename_i e; exact ⟨e, h⟩
 have hF : ∀ q, Fz C m s w q → Fz C m { n := s.n, nx := s.nx, sl := (i, .agg (cs.set k (.d (.view e sz (els.take n))))) :: s.sl, ch := (id, none) :: s.ch } w q := fun q hq => ⟨hq.1, hq.2.1, fun j c p h1 h2 => hq.2.2 j c p (hch j c h1).2 h2⟩
 obtain ⟨q, hq, hCq, hloc⟩ := hR.ch id _ hc
 have hFb : ∀ b, q.1 = some b → Fz C m { n := s.n, nx := s.nx, sl := (i, .agg (cs.set k (.d (.view e sz (els.take n))))) :: s.sl, ch := (id, none) :: s.ch } w b := by
  intro b hb
  refine ⟨.inr (hloc b (.inl hb)), hCq.lt (.inl hb), fun j c p h1 h2 h3 => ?_⟩
  obtain ⟨hne, h4⟩ := hch j c h1
  exact hne (hR.inj j id c _ p q h4 hc h2 hq b h3 (.inl hb))
 refine ⟨m, hR.fr, hR.fin, hR.sz, fun j => ?_, fun j c h1 => ?_, fun j j' c c' p p' h1 h2 hp hp' b hb hb' => hR.inj j j' c c' p p' (hch j c h1).2 (hch j' c' h2).2 hp hp' b hb hb', hR.un, hR.defers, hR.m0, hR.m0k⟩
 ·show ARep _ _ _ ((getL j ((i, .agg (cs.set k (.d (.view e sz (els.take n))))) :: s.sl)).getD .dead) _
  rw [getL_cons]
  by_cases hj : j = i
  ·subst hj
   rw [if_pos rfl]
   have hv := hR.sl j
   rw [hs] at hv
   generalize a.tmps.getD j undef = v at hv
   simp only [Option.getD_some]
   cases hv with
   | agg g1 g2 g3 =>
    refine .agg (by rw [List.length_set]; exact g1) (fun i' c hc' => ?_) g3
    by_cases hik : k = i'
    ·subst hik
     rw [List.getElem?_set_self (List.getElem?_eq_some_iff.1 hk).1] at hc'
     simp only [Option.some.injEq] at hc'
     subst hc'
     exact .d (own_view (g2 k _ hk) hq (hR.chunkAt hc hq) hn hF hFb)
    ·rw [List.getElem?_set_ne hik] at hc'
     exact (g2 i' c hc').turn (MLe.refl m) (fun k hk _ => ⟨hF k hk, rfl⟩)
  ·rw [if_neg hj]
   exact (hR.sl j).turn (MLe.refl m) (fun k hk _ => ⟨hF k hk, rfl⟩)
 ·obtain ⟨hne, h4⟩ := hch j c h1
  obtain ⟨p, hp, hr, hl⟩ := hR.ch j c h4
  exact ⟨p, hp, hr.turn (MLe.refl m) (fun k hk _ => ⟨hF k hk, rfl⟩) (fun _ _ => rfl), hl⟩
theorem Weak.freezeA3 (i : Nat) {id1 id2 id3 n1 n2 n3 e1 e2 e3 z1 z2 z3 : Nat} {x y : AV} {els1 els2 els3 els1' els2' els3' : List (List DV)} (hs : s.get i = .agg [x, .own id1 n1, .own id2 n2, .own id3 n3, y]) (hc1 : s.chunk id1 = some (.arr e1 z1 els1)) (hc2 : s.chunk id2 = some (.arr e2 z2 els2)) (hc3 : s.chunk id3 = some (.arr e3 z3 els3))
  (h12 : Nat.beq id2 id1 = false) (h13 : Nat.beq id3 id1 = false) (h23 : Nat.beq id3 id2 = false) (hn1 : n1 ≤ els1.length) (hn2 : n2 ≤ els2.length) (hn3 : n3 ≤ els3.length) (he1 : els1.take n1 = els1') (he2 : els2.take n2 = els2') (he3 : els3.take n3 = els3') :
  Weak C s { n := s.n, nx := s.nx, sl := (i, .agg [x, .d (.view e1 z1 els1'), .d (.view e2 z2 els2'), .d (.view e3 z3 els3'), y]) :: s.sl, ch := (id3, none) :: (id2, none) :: (id1, none) :: s.ch } := by
 have a1 := Weak.freezeA (C := C) (k := 1) hs rfl hc1 hn1 he1
 have g : ∀ (z : AV) (l : List (Nat × AV)) (c : List (Nat × Option Chunk)), ({ n := s.n, nx := s.nx, sl := (i, z) :: l, ch := c } : ASt).get i = z := fun z l c => by show (getL i ((i, z) :: l)).getD .dead = z; rw [getL_cons, if_pos rfl]; rfl
 have k2 : ∀ (l : List (Nat × AV)), ({ n := s.n, nx := s.nx, sl := l, ch := (id1, none) :: s.ch } : ASt).chunk id2 = some (.arr e2 z2 els2) := fun l => by show (getL id2 ((id1, none) :: s.ch)).getD none = _; rw [getL_cons, if_neg (Nat.ne_of_beq_eq_false h12)]; exact hc2
 have k3 : ∀ (l : List (Nat × AV)), ({ n := s.n, nx := s.nx, sl := l, ch := (id2, none) :: (id1, none) :: s.ch } : ASt).chunk id3 = some (.arr e3 z3 els3) := fun l => by show (getL id3 ((id2, none) :: (id1, none) :: s.ch)).getD none = _; rw [getL_cons, if_neg (Nat.ne_of_beq_eq_false h23), getL_cons, if_neg (Nat.ne_of_beq_eq_false h13)]; exact hc3
 have a2 := Weak.freezeA (C := C) (k := 2) (cs := [x, .d (.view e1 z1 els1'), .own id2 n2, .own id3 n3, y]) (g _ s.sl ((id1, none) :: s.ch)) rfl (k2 _) hn2 he2
 have a3 := Weak.freezeA (C := C) (k := 3) (cs := [x, .d (.view e1 z1 els1'), .d (.view e2 z2 els2'), .own id3 n3, y]) (g _ ((i, .agg [x, .d (.view e1 z1 els1'), .own id2 n2, .own id3 n3, y]) :: s.sl) ((id2, none) :: (id1, none) :: s.ch)) rfl (k3 _) hn3 he3
 refine ((a1.trans a2).trans a3).trans ⟨fun a w h => h.weak rfl (Nat.le_refl _) (fun j => .inr ?_) (fun j c h => h)⟩
 show (getL j (_ :: _)).getD AV.dead = (getL j (_ :: _ :: _ :: _)).getD AV.dead
 rw [getL_cons, getL_cons]
 split
 ·rfl
 ·rename_i hne; rw [getL_cons, if_neg hne, getL_cons, if_neg hne]
end
section
variable {P : Program} [PT P] {s : ASt} {dst : Option Nat} {ty : Nat} {pos : String} {af : Array Edge} {gd : Option (Nat × Bool)} {x y : Operand} {xt yt : Nat}
theorem g_eqBr {a : Bool} {n bt : Nat} {zs : List ZK} (ht : PT.ty P xt = some ⟨.bool, n, bt, zs⟩) (hx : s.ev x = aT a) (hy : s.ev y = aT a) : GOp P [] s ⟨dst, .binOp .eql xt x y yt, ty, pos, af, gd⟩ (aT true) := by
 have h := g_eqB (P := P) (dst := dst) (ty := ty) (pos := pos) (af := af) (gd := gd) (yt := yt) ht hx hy
 rwa [beq_self_eq_true] at h
theorem g_neBr {a : Bool} {n bt : Nat} {zs : List ZK} (ht : PT.ty P xt = some ⟨.bool, n, bt, zs⟩) (hx : s.ev x = aT a) (hy : s.ev y = aT a) : GOp P [] s ⟨dst, .binOp .neq xt x y yt, ty, pos, af, gd⟩ (aT false) := by
 have h := g_neB (P := P) (dst := dst) (ty := ty) (pos := pos) (af := af) (gd := gd) (yt := yt) ht hx hy
 rwa [beq_self_eq_true] at h
theorem g_eqIr {k : IntKind} {a b : Int} (hx : s.ev x = .d (.val (.int k a))) (hy : s.ev y = .d (.val (.int k b))) (h : a = b) : GOp P [] s ⟨dst, .binOp .eql xt x y yt, ty, pos, af, gd⟩ (aT true) := g_cmp hx hy (by show some (decide (a = b)) = _; rw [decide_eq_true h])
theorem g_neIr {k : IntKind} {a b : Int} (hx : s.ev x = .d (.val (.int k a))) (hy : s.ev y = .d (.val (.int k b))) (h : a = b) : GOp P [] s ⟨dst, .binOp .neq xt x y yt, ty, pos, af, gd⟩ (aT false) := g_cmp hx hy (by show some (!decide (a = b)) = _; rw [decide_eq_true h]; rfl)
theorem g_ltF {k : IntKind} {a b : Int} (hx : s.ev x = .d (.val (.int k a))) (hy : s.ev y = .d (.val (.int k b))) (h : ¬ a < b) : GOp P [] s ⟨dst, .binOp .lss xt x y yt, ty, pos, af, gd⟩ (aT false) := g_cmp hx hy (by show some (decide (a < b)) = _; rw [decide_eq_false h])
theorem g_geF {k : IntKind} {a b : Int} (hx : s.ev x = .d (.val (.int k a))) (hy : s.ev y = .d (.val (.int k b))) (h : a < b) : GOp P [] s ⟨dst, .binOp .geq xt x y yt, ty, pos, af, gd⟩ (aT false) := g_cmp hx hy (by show some (decide (b ≤ a)) = _; rw [decide_eq_false (by omega)])
theorem g_neSr {a b : ByteArray} (hx : s.ev x = aS a) (hy : s.ev y = aS b) (h : a = b) : GOp P [] s ⟨dst, .binOp .neq xt x y yt, ty, pos, af, gd⟩ (aT false) := g_scmp hx hy (by show some (!decide (a = b)) = _; rw [decide_eq_true h]; rfl)
end
section
variable {P : Program} [PT P]
variable {s : ASt} {dst : Option Nat} {ty : Nat} {pos : String} {af : Array Edge} {gd : Option (Nat × Bool)} {x y : Operand} {xt yt : Nat}
end
def threeInts (P : Program) (t : Nat) : Bool :=
 match P.underlying t with
 | some (.struct fs) =>
  !P.stoodInHeld t && !P.eqGuardType P.depth t &&
   match fs.toList with
   | [f, g, h] => f.name != "_" && g.name != "_" && h.name != "_" && f.offset == 0 && g.offset == 1 && h.offset == 2 &&
    (match P.underlying f.type with | some (.int _) => true | _ => false) && (match P.underlying g.type with | some (.int _) => true | _ => false) && (match P.underlying h.type with | some (.int _) => true | _ => false) && P.plainKey f.type && P.plainKey g.type && P.plainKey h.type
   | _ => false
 | _ => false
section
variable {P : Program} [PT P]
variable {s : ASt} {dst : Option Nat} {ty : Nat} {pos : String} {af : Array Edge} {gd : Option (Nat × Bool)} {x y : Operand} {xt yt : Nat}
theorem equal3 {t : Nat} {a b c a' b' c' : Int} (h : threeInts P t = true) (w : World) : (Op.equalIn 10000 t (.agg #[.int .i64 a, .int .i64 b, .int .i64 c]) (.agg #[.int .i64 a', .int .i64 b', .int .i64 c'])).run P w = .ok (decide (a = a' ∧ b = b' ∧ c = c')) w ∧ P.eqGuardType P.depth t = false := by
 unfold threeInts at h
 split at h
 ·rename_i fs hu
  simp only [Bool.and_eq_true, Bool.not_eq_true'] at h
  obtain ⟨⟨h1, h2⟩, h3⟩ := h
  refine ⟨?_, h2⟩
  have hF : P.fieldsOf t = fs := by unfold Program.fieldsOf; rw [hu]
  rw [run_equalIn_agg w 9999 t _ _ (by rw [hF]; exact hu) h1, hF]
  split at h3
  ·rename_i f g k he
   rw [he]
   simp only [Bool.and_eq_true, bne_iff_ne, ne_eq, beq_iff_eq] at h3
   obtain ⟨⟨⟨⟨⟨⟨⟨⟨⟨⟨⟨n1, n2⟩, n3⟩, o1⟩, o2⟩, o3⟩, u1⟩, u2⟩, u3⟩, p1⟩, p2⟩, p3⟩ := h3
   split at u1
   ·rename_i k1 hu1
    split at u2
    ·rename_i k2 hu2
     split at u3
     ·rename_i k3 hu3
      simp only [Op.eqFields, ne_eq, n1, n2, n3, not_false_eq_true, if_true, o1, o2, o3, Sem.run_bind]
      rw [run_part_plain (w := w) p1 (v := .int .i64 a) rfl]
      simp only [Result.andThen_ok, Sem.run_bind]
      rw [run_part_plain (w := w) p1 (v := .int .i64 a') rfl]
      simp only [Result.andThen_ok, Sem.run_bind]
      rw [run_equalIn_int w _ _ _ _ _ _ hu1]
      simp only [Result.andThen_ok, Sem.run_ite]
      by_cases e1 : a = a'
      ·subst e1
       rw [if_neg (by simp)]
       simp only [Sem.run_bind]
       rw [run_part_plain (w := w) p2 (v := .int .i64 b) rfl]
       simp only [Result.andThen_ok, Sem.run_bind]
       rw [run_part_plain (w := w) p2 (v := .int .i64 b') rfl]
       simp only [Result.andThen_ok, Sem.run_bind]
       rw [run_equalIn_int w _ _ _ _ _ _ hu2]
       simp only [Result.andThen_ok, Sem.run_ite]
       by_cases e2 : b = b'
       ·subst e2
        rw [if_neg (by simp)]
        simp only [Sem.run_bind]
        rw [run_part_plain (w := w) p3 (v := .int .i64 c) rfl]
        simp only [Result.andThen_ok, Sem.run_bind]
        rw [run_part_plain (w := w) p3 (v := .int .i64 c') rfl]
        simp only [Result.andThen_ok, Sem.run_bind]
        rw [run_equalIn_int w _ _ _ _ _ _ hu3]
        simp only [Result.andThen_ok, Sem.run_ite, Sem.run_pure]
        by_cases e3 : c = c'
        ·subst e3; simp
        ·simp [e3]
       ·rw [if_pos (by simp [e2])]
        simp [e2]
      ·rw [if_pos (by simp [e1])]
       simp [e1]
     ·exact absurd u3 (by decide)
    ·exact absurd u2 (by decide)
   ·exact absurd u1 (by decide)
  ·exact absurd h3 (by decide)
 ·exact absurd h (by decide)
theorem three_agg {m : Nat → Option (Option Nat × Nat)} {F : Nat → Prop} {w : World} {a b c : Int} {v : Value} (h : ARep m F w (.agg [aI a, aI b, aI c]) v) : v = .agg #[.int .i64 a, .int .i64 b, .int .i64 c] := by
 cases h with
 | agg h1 h2 h3 =>
  rename_i vs
  have e0 := h2 0 _ rfl
  have e1 := h2 1 _ rfl
  have e2 := h2 2 _ rfl
  obtain ⟨e0, -⟩ := e0.val_eq
  obtain ⟨e1, -⟩ := e1.val_eq
  obtain ⟨e2, -⟩ := e2.val_eq
  have hsz : vs.size = 3 := h1
  congr 1
  apply Array.ext
  ·exact hsz
  ·intro i hi hi2
   match i, hi, hi2 with
   | 0, hi, hi2 => rw [Array.getD_eq_getD_getElem?, Array.getElem?_eq_getElem hi] at e0; exact e0
   | 1, hi, hi2 => rw [Array.getD_eq_getD_getElem?, Array.getElem?_eq_getElem hi] at e1; exact e1
   | 2, hi, hi2 => rw [Array.getD_eq_getD_getElem?, Array.getElem?_eq_getElem hi] at e2; exact e2
   | n + 3, hi, hi2 => omega
theorem g_eq3 {a b c a' b' c' : Int} {op : BinOp} {r : Bool} (ht : threeInts P xt = true) (hx : s.ev x = .agg [aI a, aI b, aI c]) (hy : s.ev y = .agg [aI a', aI b', aI c']) (hop : eqOf op (decide (a = a' ∧ b = b' ∧ c = c')) = some r) :
  GOp P [] s ⟨dst, .binOp op xt x y yt, ty, pos, af, gd⟩ (aT r) := by
 refine ⟨fun s' ha C U a2 w m hR => ?_⟩
 have h1 := hR.ev x
 have h2 := hR.ev y
 rw [ha.2.1 x (by simp [Op.operands]), hx] at h1
 rw [ha.2.1 y (by simp [Op.operands]), hy] at h2
 have e1 := three_agg h1
 have e2 := three_agg h2
 obtain ⟨q1, q2⟩ := equal3 (a := a) (b := b) (c := c) (a' := a') (b' := b') (c' := c') ht w
 refine ⟨.bool r, ?_, .d (.val trivial)⟩
 simp only [execOp, e1, e2, Sem.run_bind, run_eqGuard_agg w op xt x y _ _ q2, Result.andThen_ok]
 cases op <;> simp only [eqOf, Option.some.injEq, reduceCtorEq] at hop
 ·subst hop; rw [run_eql_struct, q1]; rfl
 ·subst hop; rw [run_neq_struct, q1]; rfl
end
set_option maxHeartbeats 4000000 in
theorem enabled_spec (N : Net) (m : List UInt8) (hB : NetB N) (hM : NetM N m) (hb : bitsB m N.places = true) : ASpec Tryz.prog 107 [netA N, aS (bstr m)] [] (Pure1 (.d (vI (readyL N m N.ts.length)))) := by
 have hl := hB.l
 refine ASpec.of Tryz.func107 rfl rfl fun C hC => ?_
 refine AC.seq (AC.region ?_)
 refine AL.q (by exact h_boxF rfl rfl) rfl ?_
 refine AL.p (by exact as1 rfl) rfl ?_
 refine AL.nil (th_n (AC.seq (AC.region ?_)))
 refine AL.q (by exact h_lit rfl rfl rfl rfl rfl rfl rfl rfl) rfl ?_
 refine AL.p (by exact as2 rfl) rfl ?_
 refine AL.nil (th_n (AC.seq (AC.seq (AC.region ?_))))
 refine AL.p (by exact g_fa_ref rfl rfl rfl rfl rfl rfl) rfl ?_
 refine AL.p (by exact g_load_ref rfl rfl rfl) rfl ?_
 refine AL.p (by exact g_len_view rfl rfl (by exact List.length_map _)) rfl ?_
 refine AL.p (by exact mv1 rfl) rfl ?_
 refine AL.nil (th_n (AC.block ?_))
 refine AC.loop (ι := Nat) (fun k => ⟨26, 108, [(1, aS (bstr m)), (5, .own 100 (readyL N m k).length), (10, .d (vTs N.ts)), (11, aI N.ts.length), (12, aI k)], [(100, some (.arr 3 1 (ints (readyL N m k))))]⟩) (fun k => k ≤ N.ts.length) (fun k => N.ts.length - k) (0) ?_ (Nat.zero_le _) ?_
 ·exact Weak.ren _ [(100, _)] hC rfl (by repeat (first | exact True.intro | refine And.intro ?_ ?_ | exact DLead.same | exact rfl | refine ⟨_, rfl, ?_⟩)) (by repeat (first | exact True.intro | refine And.intro ?_ ?_ | exact rfl | refine ⟨_, _, rfl, rfl, ?_⟩)) rfl rfl rfl
 ·intro k hk
  refine AC.seq (AC.region ?_)
  refine AL.p (by exact g_cmp rfl rfl rfl) rfl ?_
  refine AL.nil (th_n (AC.seq ?_))
  refine AC.condD rfl (fun h0 => ?_) (fun h0 => ?_)
  ·refine AC.skip (th_n (AC.seq (AC.block (AC.seq ?_))))
   have hk1 : k < N.ts.length := by omega
   have hget := tsL_get hk1
   have hl1 := (hB.t _ (List.getElem_mem hk1)).1
   have hp1 := (hM _ (List.getElem_mem hk1)).1
   have hre := ready_enabled hb hp1
   have hln := readyL_len N m k
   refine AC.region ?_
   refine AL.p (by exact mv1 rfl) rfl ?_
   refine AL.p (by exact g_ia_view rfl rfl rfl rfl rfl (by rfl) (by assumption)) rfl ?_
   refine AL.p (by exact g_load_refN rfl rfl rfl rfl) rfl ?_
   refine AL.q (by exact h_alloc rfl) rfl ?_
   refine AL.p (by exact as1 rfl) rfl ?_
   refine AL.q (by exact h_store rfl rfl rfl rfl rfl rfl) rfl ?_
   refine AL.nil (th_n (AC.seq (AC.region ?_)))
   refine AL.p (by exact g_load_ptrN rfl rfl rfl rfl rfl) rfl ?_
   refine AL.p (by exact mv1 rfl) rfl ?_
   refine AL.q (by exact h_pure en_isEnabled rfl rfl (by repeat (first | exact rfl | exact DLead.same | refine ⟨_, _, rfl, ?_, ?_⟩ | refine ⟨_, rfl, ?_⟩)) (isEnabled_spec _ _ (by assumption) (by assumption)) rfl) rfl ?_
   refine AL.nil (th_n ?_)
   refine AC.condB rfl (fun h1 => ?_) (fun h1 => ?_)
   ·refine AC.region ?_
    refine AL.p (by exact mv2 rfl) rfl ?_
    refine AL.p (by exact mv1 rfl) rfl ?_
    refine AL.q (by exact h_litF rfl rfl rfl rfl rfl rfl rfl rfl) rfl ?_
    refine AL.q (by exact h_appendI (readyL N m k) [(k : Int)] (.own rfl rfl (ints_len _).symm) (.view rfl) (by simp; omega) (by simp)) rfl ?_
    refine AL.p (by exact as2 rfl) rfl ?_
    refine AL.nil (ib_n (th_n (AC.region ?_)))
    refine AL.p (by exact g_arith rfl rfl rfl (by exact wrap_i64 (by omega))) rfl ?_
    refine AL.p (by exact mv1 rfl) rfl ?_
    refine AL.nil (th_n ?_)
    (have e := readyL_t (m := m) hk1 (by rw [hre]; exact h1); exact ⟨k + 1, by omega, by omega, Weak.ren _ [(100, _)] hC rfl (by rw [e]; repeat (first | exact True.intro | refine And.intro ?_ ?_ | exact DLead.same | exact rfl | refine ⟨_, rfl, ?_⟩)) (by rw [e]; repeat (first | exact True.intro | refine And.intro ?_ ?_ | exact rfl | refine ⟨_, _, rfl, rfl, ?_⟩)) rfl rfl rfl⟩)
   ·refine AC.skip (ib_n (th_n (AC.region ?_)))
    refine AL.p (by exact g_arith rfl rfl rfl (by exact wrap_i64 (by omega))) rfl ?_
    refine AL.p (by exact mv1 rfl) rfl ?_
    refine AL.nil (th_n ?_)
    (have e := readyL_f (m := m) hk1 (by rw [hre]; exact h1); exact ⟨k + 1, by omega, by omega, Weak.ren _ [(100, _)] hC rfl (by rw [e]; repeat (first | exact True.intro | refine And.intro ?_ ?_ | exact DLead.same | exact rfl | refine ⟨_, rfl, ?_⟩)) (by rw [e]; repeat (first | exact True.intro | refine And.intro ?_ ?_ | exact rfl | refine ⟨_, _, rfl, rfl, ?_⟩)) rfl rfl rfl⟩)
  ·refine AC.exit (th_e (th_e (ib_y (th_n (AC.seq ?_)))))
   have hkk : k = N.ts.length := by omega
   subst hkk
   refine AC.weak (Weak.freeze (i := 5) rfl rfl (Nat.le_of_eq (ints_len _).symm) (ints_all _)) ?_
   refine AC.region ?_
   refine AL.p (by exact mv1 rfl) rfl ?_
   refine AL.p (by exact as1 rfl) rfl ?_
   refine AL.nil (th_n (AC.ret (bq_r ?_)))
   exact ret1 rfl rfl
theorem en_enabled : Enters Tryz.prog 107 := enters_of Tryz.func107 rfl rfl
def enR (N : Net) (m : List UInt8) : List Int × Bool := if (goodN N && bitsB m N.places) = true then (readyL N m N.ts.length, true) else ([], false)
theorem enR_yes {N : Net} {m : List UInt8} (h : (goodN N && bitsB m N.places) = true) : enR N m = (readyL N m N.ts.length, true) := by unfold enR; rw [if_pos h]
theorem enR_no {N : Net} {m : List UInt8} (h : (goodN N && bitsB m N.places) = false) : enR N m = ([], false) := by unfold enR; rw [h]; rfl
set_option maxHeartbeats 1000000 in
theorem iEnabled_spec (N : Net) (m : List UInt8) (hB : NetB N) (hm : m.length ≤ 2000000) : ASpec Tryz.prog 18 [netA N, aS (bstr m)] [] (Pure1 (.tup [.d (vI (enR N m).1), aT (enR N m).2])) := by
 refine ASpec.of Tryz.func18 rfl rfl fun C hC => ?_
 refine AC.seq (AC.region ?_)
 refine AL.q (by exact h_boxF rfl rfl) rfl ?_
 refine AL.p (by exact as1 rfl) rfl ?_
 refine AL.p (by exact as1 rfl) rfl ?_
 refine AL.nil (th_n (AC.seq (AC.seq (AC.region ?_))))
 refine AL.p (by exact g_load_refN rfl rfl rfl rfl) rfl ?_
 refine AL.p (by exact mv1 rfl) rfl ?_
 refine AL.q (by exact h_pure en_IsValidMarking rfl rfl (by repeat (first | exact rfl | exact DLead.same | refine ⟨_, _, rfl, ?_, ?_⟩ | refine ⟨_, rfl, ?_⟩)) (IsValidMarking_spec _ _ (by assumption) (by assumption)) rfl) rfl ?_
 refine AL.p (by exact g_not rfl) rfl ?_
 refine AL.nil (th_n ?_)
 refine AC.condB rfl (fun h0 => ?_) (fun h0 => ?_)
 ·refine AC.seq (AC.region ?_)
  refine AL.p (by exact as1 rfl) rfl ?_
  refine AL.p (by exact as1 rfl) rfl ?_
  refine AL.nil (th_n (AC.ret (th_r (bq_r ?_))))
  rw [enR_no ((Bool.not_eq_true' _).mp h0)]
  exact ret0 rfl (by repeat (first | exact DLead.same | exact DLead.nil | exact rfl | refine ⟨_, rfl, ?_⟩ | refine ⟨_, _, rfl, ?_, ?_⟩))
 ·refine AC.skip (th_n (AC.seq ?_))
  have hg : (goodN N && bitsB m N.places) = true := by simpa using h0
  have hg2 := Bool.and_eq_true_iff.1 hg
  have hE := enabled_spec N m hB (good_netM hg2.1 hg2.2) hg2.2
  rw [enR_yes hg]
  obtain ⟨L, hL⟩ : ∃ L, L = readyL N m N.ts.length := ⟨_, rfl⟩
  rw [← hL] at hE ⊢
  refine AC.region ?_
  refine AL.p (by exact g_load_refN rfl rfl rfl rfl) rfl ?_
  refine AL.p (by exact mv1 rfl) rfl ?_
  refine AL.q (by exact h_pure en_enabled rfl rfl (by repeat (first | exact rfl | exact DLead.same | refine ⟨_, _, rfl, ?_, ?_⟩ | refine ⟨_, rfl, ?_⟩)) hE rfl) rfl ?_
  refine AL.p (by exact as1 rfl) rfl ?_
  refine AL.p (by exact as1 rfl) rfl ?_
  refine AL.nil (th_n (AC.ret (bq_r ?_)))
  exact ret0 rfl (by repeat (first | exact DLead.same | exact rfl | refine ⟨_, rfl, ?_⟩ | refine ⟨_, _, rfl, ?_, ?_⟩))
theorem en_iEnabled : Enters Tryz.prog 18 := enters_of Tryz.func18 rfl rfl
def posM (k : ByteArray) : List (ByteArray × Value) → Option (Nat × Value)
 | [] => none
 | (a, v) :: es => if k = a then some (0, v) else (posM k es).map fun p => (p.1 + 1, p.2)
def setM (k : ByteArray) (v : Value) : List (ByteArray × Value) → List (ByteArray × Value)
 | [] => [(k, v)]
 | (a, u) :: es => if k = a then (a, v) :: es else (a, u) :: setM k v es
def mkE (p : (ByteArray × Value) × Nat) : MapEntry := ⟨.string p.1.1, p.1.2, p.2⟩
theorem mapObj_eq (es : List (ByteArray × Value)) : mapObj es = .map (es.zipIdx.map mkE).toArray es.length := rfl
theorem findNow_pos (k : ByteArray) : ∀ (es : List (ByteArray × Value)) (n i : Nat), Instr.findNow .string (.string k) ((es.zipIdx n).map mkE) i = some ((posM k es).map fun p => (i + p.1, p.2))
 | [], n, i => rfl
 | (a, v) :: es, n, i => by
  rw [List.zipIdx_cons, List.map_cons, Instr.findNow]
  show (match (some (k == a) : Option Bool) with | some true => _ | some false => _ | none => _) = _
  rw [posM]
  by_cases h : k = a
  ·rw [if_pos h, show (k == a) = true from (MapKept.bytes_beq k a).2 h]; simp [mkE]
  ·rw [if_neg h, show (k == a) = false from Bool.eq_false_iff.2 fun q => h ((MapKept.bytes_beq k a).1 q)]
   show Instr.findNow _ _ _ (i + 1) = _
   rw [findNow_pos k es (n + 1) (i + 1)]
   cases posM k es <;> simp
   omega
theorem posM_lt {k : ByteArray} : ∀ {es : List (ByteArray × Value)} {i : Nat} {v : Value}, posM k es = some (i, v) → ∃ h : i < es.length, es[i] = (k, v)
 | [], i, v, h => by cases h
 | (a, u) :: es, i, v, h => by
  rw [posM] at h
  split at h
  ·rename_i e
   cases h
   exact ⟨by simp, by rw [e]; rfl⟩
  ·cases hp : posM k es with
   | none => rw [hp] at h; cases h
   | some p =>
    obtain ⟨j, u2⟩ := p
    rw [hp] at h
    cases h
    obtain ⟨h1, h2⟩ := posM_lt hp
    exact ⟨by simpa using h1, by simpa using h2⟩
theorem setM_some {k : ByteArray} {v : Value} : ∀ {es : List (ByteArray × Value)} {i : Nat} {u : Value}, posM k es = some (i, u) → setM k v es = es.set i (k, v)
 | [], i, u, h => by cases h
 | (a, x) :: es, i, u, h => by
  rw [posM] at h
  rw [setM]
  split at h
  ·rename_i e
   cases h
   rw [if_pos e, e]; rfl
  ·rename_i e
   rw [if_neg e]
   cases hp : posM k es with
   | none => rw [hp] at h; cases h
   | some p =>
    obtain ⟨j, u2⟩ := p
    rw [hp] at h
    cases h
    rw [setM_some hp]; rfl
theorem setM_none {k : ByteArray} {v : Value} : ∀ {es : List (ByteArray × Value)}, posM k es = none → setM k v es = es ++ [(k, v)]
 | [], h => rfl
 | (a, x) :: es, h => by
  rw [posM] at h
  rw [setM]
  split at h
  ·cases h
  ·rename_i e
   rw [if_neg e]
   cases hp : posM k es with
   | none => rw [setM_none hp]; rfl
   | some p => rw [hp] at h; cases h
theorem run_zero {P : Program} {w : World} {t : TypeId} {z : Value} (h : (P.info? t).bind (·.zero) = some z) : (zeroValue t).run P w = .ok z w := by
 cases hi : P.info? t with
 | none => simp [hi] at h
 | some i => simp [hi] at h; simp [zeroValue, typeInfo, hi, h]
theorem run_lookup_txt {P : Program} {w : World} {t kt et : TypeId} {es : List (ByteArray × Value)} {b : Nat} {k : ByteArray} {z : Value} (hu : P.underlying t = some (.map kt et)) (hk : P.underlying kt = some .string) (hz : (zeroValue et).run P w = .ok z w) (hb : w.heap[b]? = some (mapObj es)) :
  (Instr.lookup t (.map (some b)) (.string k) true).run P w = .ok (match posM k es with | some p => .tuple #[p.2, .bool true] | none => .tuple #[z, .bool false]) w := by
 have hc : ∀ e, (Instr.checkKey e 10000 kt (.string k)).run P w = .ok () w := fun e => MapKept.run_checkKey (k := .string k) hk (by simp [MapKept.IsKey]) e 9999
 have hf := MapKept.run_findKey (w := w) hk (findNow_pos k es 0 0)
 rw [mapObj_eq] at hb
 cases hp : posM k es with
 | none =>
  rw [hp] at hf
  simp [Instr.lookup, run_underlying hu, MapKept.run_getObj_map hb, hc, hf, hz, Result.andThen]
 | some p =>
  rw [hp] at hf
  simp [Instr.lookup, run_underlying hu, MapKept.run_getObj_map hb, hc, hf, Result.andThen]
theorem run_mapUpdate_txt {P : Program} {w : World} {t kt et : TypeId} {es : List (ByteArray × Value)} {b : Nat} {k : ByteArray} {v : Value} (hu : P.underlying t = some (.map kt et)) (hk : P.underlying kt = some .string) (hb : w.heap[b]? = some (mapObj es)) :
  (Instr.mapUpdate t (.map (some b)) (.string k) v).run P w = .ok () { w with heap := w.heap.setIfInBounds b (mapObj (setM k v es)) } := by
 have hc : (Instr.checkKey false 10000 kt (.string k)).run P w = .ok () w := MapKept.run_checkKey (k := .string k) hk (by simp [MapKept.IsKey]) false 9999
 have hf := MapKept.run_findKey (w := w) hk (findNow_pos k es 0 0)
 have hb' := hb
 rw [mapObj_eq] at hb'
 cases hp : posM k es with
 | none =>
  rw [hp] at hf
  have e : mapObj (setM k v es) = .map ((es.zipIdx.map mkE).toArray.push ⟨.string k, v, es.length⟩) (es.length + 1) := by
   rw [setM_none hp, mapObj_eq, List.zipIdx_append, List.map_append, List.length_append]
   simp [mkE]
  simp [Instr.mapUpdate, run_underlying hu, MapKept.run_getObj_map hb', hc, hf, MapKept.run_setObj_map _ hb', Result.andThen, e]
 | some p =>
  obtain ⟨i, u⟩ := p
  rw [hp] at hf
  obtain ⟨hi, he⟩ := posM_lt hp
  have hks : (Instr.keyThatStays (.string k) (.string k)).run P w = .ok (.string k) w := MapKept.run_keyThatStays (d := .string) (by simp [MapKept.IsKey])
  have hget : (es.zipIdx.map mkE).toArray[i]? = some ⟨.string k, u, i⟩ := by
   rw [List.getElem?_toArray, List.getElem?_map, List.getElem?_zipIdx, List.getElem?_eq_getElem hi, he]
   simp [mkE]
  have e : mapObj (setM k v es) = .map ((es.zipIdx.map mkE).toArray.modify i fun e => { e with key := .string k, val := v }) es.length := by
   rw [setM_some hp, mapObj_eq, List.length_set]
   congr 1
   apply Array.ext_getElem?
   intro j
   rw [Array.getElem?_modify, List.getElem?_toArray, List.getElem?_toArray, List.getElem?_map, List.getElem?_map, List.getElem?_zipIdx, List.getElem?_zipIdx, List.getElem?_set]
   by_cases hj : i = j
   ·subst hj
    rw [if_pos rfl, if_pos hi, List.getElem?_eq_getElem hi, if_pos rfl]
    simp [mkE]
   ·rw [if_neg hj, if_neg hj]
  have hei : es[i]? = some (k, u) := by rw [List.getElem?_eq_getElem hi, he]
  simp [Instr.mapUpdate, run_underlying hu, MapKept.run_getObj_map hb', hc, hf, hei, mkE, hks, MapKept.run_setObj_map _ hb', Result.andThen, e]
section
variable {P : Program} [PT P] {s : ASt} {dst : Option Nat} {ty : Nat} {pos : String} {af : Array Edge} {gd : Option (Nat × Bool)} {x y z : Operand} {f t : Nat}
theorem h_makeMap : NOp P [] s ⟨dst, .makeMap t none, ty, pos, af, gd⟩ f ⟨.mp f, [(f, some (.map []))]⟩ := by
 refine NOp.value fun s' ha C U U' a w m hR hU hU' hd => ?_
 refine ⟨.map (some w.heap.size), w.alloc (.map #[] 0), _, ?_, hR.new (cap := 0) hd _ (by simpa using hU 0 (by omega)) (fun j hj => by have := hU' j hj; exact ⟨this.1, by omega⟩) (fun F' hF => ⟨.mp (newM_self _ _ _), .map (heap_alloc_new w _)⟩)⟩
 simp only [execOp, Option.map_none]
 rw [Sem.run_bind, run_makeMap_plain]
 rfl
theorem g_lookup {id kt et : Nat} {es : List (ByteArray × Value)} {k : ByteArray} {z : Value} {v : Value} {b : Bool} (hu : P.underlying t = some (.map kt et)) (hk : P.underlying kt = some .string) (hz : (P.info? et).bind (·.zero) = some z) (hx : s.ev x = .mp id) (hc : s.chunk id = some (.map es)) (hy : s.ev y = aS k)
  (hv : (match posM k es with | some p => (p.2, true) | none => (z, false)) = (v, b)) (hok : okV v) : GOp P [id] s ⟨dst, .lookup t x y true, ty, pos, af, gd⟩ (.tup [.d (.val v), aT b]) := by
 refine ⟨fun s' ha C U a w m hR => ?_⟩
 have hxr := hR.ev x
 rw [ha.2.1 x (by simp [Op.operands]), hx] at hxr
 have hyr := hR.ev y
 rw [ha.2.1 y (by simp [Op.operands]), hy] at hyr
 have hc' : s'.chunk id = some (.map es) := by rw [ha.2.2 id (by simp)]; exact hc
 generalize hxv : a.eval x = xv at hxr
 cases hxr with
 | mp hp =>
  rename_i bk cap
  have hC := hR.chunkAt hc' hp
  cases hC with
  | map hbl =>
   have hrun := run_lookup_txt (k := k) hu hk (run_zero hz) hbl
   refine ⟨.tuple #[v, .bool b], ?_, .tup rfl fun i c hi => ?_⟩
   ·simp only [execOp, hxv, hyr.val_eq.1, Sem.run_bind, hrun]
    cases hp2 : posM k es with
    | none => rw [hp2] at hv; cases hv; rfl
    | some p => rw [hp2] at hv; cases hv; rfl
   ·match i with
    | 0 => cases hi; exact .d (.val hok)
    | 1 => cases hi; exact .d (.val trivial)
    | i + 2 => simp at hi
theorem h_mapUpdate {id kt et : Nat} {es : List (ByteArray × Value)} {k : ByteArray} {v : Value} (hu : P.underlying t = some (.map kt et)) (hk : P.underlying kt = some .string) (hx : s.ev x = .mp id) (hc : s.chunk id = some (.map es)) (hy : s.ev y = aS k) (hz : s.ev z = .d (.val v)) :
  NOp P [id] s ⟨dst, .mapUpdate t x y z, ty, pos, af, gd⟩ f ⟨.dead, [(id, some (.map (setM k v es)))]⟩ := by
 refine ⟨fun s' ha C U U' a w m hR hU hU' hd K Q hK => ?_⟩
 have hxr := hR.ev x
 rw [ha.2.1 x (by simp [Op.operands]), hx] at hxr
 have hyr := hR.ev y
 rw [ha.2.1 y (by simp [Op.operands]), hy] at hyr
 have hzr := hR.ev z
 rw [ha.2.1 z (by simp [Op.operands]), hz] at hzr
 have hc' : s'.chunk id = some (.map es) := by rw [ha.2.2 id (by simp)]; exact hc
 generalize hxv : a.eval x = xv at hxr
 cases hxr with
 | mp hp =>
  rename_i b cap
  have hC := hR.chunkAt hc' hp
  cases hC with
  | map hbl =>
   have hrun := run_mapUpdate_txt (k := k) (v := v) hu hk hbl
   have hR' := hR.turned (i := dst) (r := .dead) (v := undef) (w' := { w with heap := w.heap.setIfInBounds b (mapObj (setM k v es)) }) (c' := .map (setM k v es)) hd hc' hp (fr_iter w b _) (fun F' hF => ⟨.dead, .map (by show (w.heap.setIfInBounds b _)[b]? = _; rw [Array.getElem?_setIfInBounds_self_of_lt (Array.getElem?_eq_some_iff.1 hbl).1])⟩)
   unfold Oper.wp
   simp only [execOp, Sem.run_bind, hxv, hyr.val_eq.1, hzr.val_eq.1, hrun, Result.andThen_ok, Sem.run_pure, Oper.upon]
   exact hK _ _ m (hR'.weaken rfl (fun _ => .inr rfl) (fun _ _ h => h) (fun j hj => (hU' j hj).1))
theorem h_insert {id kt et : Nat} {es : List (ByteArray × Value)} {k : ByteArray} {v : Value} (hu : P.underlying t = some (.map kt et)) (hk : P.underlying kt = some .string) (hx : s.ev x = .mp id) (hc : s.chunk id = some (.map es)) (hy : s.ev y = aS k) (hz : s.ev z = .d (.val v)) :
  NOp P [id] s ⟨dst, .insert t x y z, ty, pos, af, gd⟩ f ⟨.dead, [(id, some (.map (setM k v es)))]⟩ := by
 refine ⟨fun s' ha C U U' a w m hR hU hU' hd K Q hK => ?_⟩
 have hxr := hR.ev x
 rw [ha.2.1 x (by simp [Op.operands]), hx] at hxr
 have hyr := hR.ev y
 rw [ha.2.1 y (by simp [Op.operands]), hy] at hyr
 have hzr := hR.ev z
 rw [ha.2.1 z (by simp [Op.operands]), hz] at hzr
 have hc' : s'.chunk id = some (.map es) := by rw [ha.2.2 id (by simp)]; exact hc
 generalize hxv : a.eval x = xv at hxr
 cases hxr with
 | mp hp =>
  rename_i b cap
  have hC := hR.chunkAt hc' hp
  cases hC with
  | map hbl =>
   have hrun := run_mapUpdate_txt (k := k) (v := v) hu hk hbl
   have hR' := hR.turned (i := dst) (r := .dead) (v := undef) (w' := { w with heap := w.heap.setIfInBounds b (mapObj (setM k v es)) }) (c' := .map (setM k v es)) hd hc' hp (fr_iter w b _) (fun F' hF => ⟨.dead, .map (by show (w.heap.setIfInBounds b _)[b]? = _; rw [Array.getElem?_setIfInBounds_self_of_lt (Array.getElem?_eq_some_iff.1 hbl).1])⟩)
   unfold Oper.wp
   simp only [execOp, Sem.run_bind, hxv, hyr.val_eq.1, hzr.val_eq.1, hrun, Result.andThen_ok, Sem.run_pure, Oper.upon]
   exact hK _ _ m (hR'.weaken rfl (fun _ => .inr rfl) (fun _ _ h => h) (fun j hj => (hU' j hj).1))
theorem g_len_map {id kt et bt : Nat} {es : List (ByteArray × Value)} (hu : P.underlying t = some (.map kt et)) (hx : s.ev x = .mp id) (hc : s.chunk id = some (.map es)) (hl : es.length ≤ maxLen) : GOp P [id] s ⟨dst, .call { callee := .builtin .len, args := #[x], argTypes := #[t] }, ty, pos, af, gd⟩ (aI es.length) := by
 refine ⟨fun s' ha C U a w m hR => ?_⟩
 have hxr := hR.ev x
 rw [ha.2.1 x (by simp [Op.operands, Call.operands]), hx] at hxr
 have hc' : s'.chunk id = some (.map es) := by rw [ha.2.2 id (by simp)]; exact hc
 generalize hxv : a.eval x = xv at hxr
 cases hxr with
 | mp hp =>
  rename_i bk cap
  have hC := hR.chunkAt hc' hp
  cases hC with
  | map hbl =>
   rw [mapObj_eq] at hbl
   refine ⟨.int .i64 (es.length : Int), ?_, .d (.val (ok_len hl))⟩
   simp [execOp, resolve, invoke, builtin, hxv, Builtin.len_, run_underlying hu, MapKept.run_getObj_map hbl, goInt]
end
structure Mv where
 from_ : Int
 by_ : Int
 to_ : Int
abbrev mvD (d : Mv) : List DV := [dI d.from_, dI d.by_, dI d.to_]
abbrev mvL (l : List Mv) : List (List DV) := l.map mvD
abbrev vMvs (l : List Mv) : DV := .view 52 3 (mvL l)
theorem mvL_len (l : List Mv) : (mvL l).length = l.length := List.length_map _
theorem mvL_get {l : List Mv} {k : Nat} (h : k < l.length) : (mvL l)[k]? = some [dI l[k].from_, dI l[k].by_, dI l[k].to_] := by rw [List.getElem?_map, List.getElem?_eq_getElem h]; rfl
theorem h_appendMv (acc new : List Mv) {s : ASt} {dst : Option Nat} {ty : Nat} {pos : String} {af : Array Edge} {gd : Option (Nat × Bool)} {x y : Operand} {f : Nat} {ids ids2 : List Nat} {gone : List (Nat × Option Chunk)}
  (hto : AppTo s x 52 3 (mvL acc) ids gone) (harg : AppArg s y 3 (mvL new) ids2) (h : (acc ++ new).length ≤ 100000000) (hnew : gone = [] → 0 < new.length) :
  NOp Tryz.prog (ids ++ ids2) s ⟨dst, .call { callee := .builtin .append, args := #[x, y], argTypes := #[33, 33] }, ty, pos, af, gd⟩ f ⟨.own f (acc ++ new).length, (f, some (.arr 52 3 (mvL (acc ++ new)))) :: gone⟩ := by
 have := h_append (P := Tryz.prog) (s := s) (dst := dst) (ty := ty) (pos := pos) (af := af) (gd := gd) (x := x) (y := y) (f := f) (t := 33) (tx := 33) (k := (acc ++ new).length) rfl rfl rfl rfl rfl rfl hto harg (by simp) (by omega) (by show (acc ++ new).length * 24 ≤ _; omega) (fun h => by rw [mvL_len]; exact hnew h)
 rwa [← List.map_append] at this
abbrev tsX (l : List (List UInt8)) : List (List DV) := l.map (fun s => [dS (bstr s)])
theorem tsX_len (l : List (List UInt8)) : (tsX l).length = l.length := List.length_map _
theorem tsX_get {l : List (List UInt8)} {k : Nat} (h : k < l.length) : (tsX l)[k]? = some [dS (bstr l[k])] := by rw [List.getElem?_map, List.getElem?_eq_getElem h]; rfl
theorem h_appendX (acc new : List (List UInt8)) {s : ASt} {dst : Option Nat} {ty : Nat} {pos : String} {af : Array Edge} {gd : Option (Nat × Bool)} {x y : Operand} {f : Nat} {ids ids2 : List Nat} {gone : List (Nat × Option Chunk)}
  (hto : AppTo s x 9 1 (tsX acc) ids gone) (harg : AppArg s y 1 (tsX new) ids2) (h : (acc ++ new).length ≤ 100000000) (hnew : gone = [] → 0 < new.length) :
  NOp Tryz.prog (ids ++ ids2) s ⟨dst, .call { callee := .builtin .append, args := #[x, y], argTypes := #[32, 32] }, ty, pos, af, gd⟩ f ⟨.own f (acc ++ new).length, (f, some (.arr 9 1 (tsX (acc ++ new)))) :: gone⟩ := by
 have := h_append (P := Tryz.prog) (s := s) (dst := dst) (ty := ty) (pos := pos) (af := af) (gd := gd) (x := x) (y := y) (f := f) (t := 32) (tx := 32) (k := (acc ++ new).length) rfl rfl rfl rfl rfl rfl hto harg (by simp) (by omega) (by show (acc ++ new).length * 16 ≤ _; omega) (fun h => by rw [tsX_len]; exact hnew h)
 rwa [← List.map_append] at this
structure Ex where
 marks : List (List UInt8)
 moves : List Mv
def posL (m : List UInt8) : List (List UInt8) → Option Nat
 | [] => none
 | a :: l => if m = a then some 0 else (posL m l).map (· + 1)
theorem posL_lt {m : List UInt8} : ∀ {l : List (List UInt8)} {i : Nat}, posL m l = some i → i < l.length
 | [], i, h => by cases h
 | a :: l, i, h => by
  rw [posL] at h
  split at h
  ·cases h; simp
  ·cases hp : posL m l with
   | none => rw [hp] at h; cases h
   | some j =>
    rw [hp] at h
    cases h
    have := posL_lt hp
    simpa using this
def mapX (l : List (List UInt8)) : List (ByteArray × Value) := l.zipIdx.map fun p => (bstr p.1, .int .i64 (p.2 : Int))
theorem mapX_pos (m : List UInt8) (l : List (List UInt8)) : posM (bstr m) (mapX l) = (posL m l).map fun (i : Nat) => (i, Value.int .i64 (i : Int)) := by
 have key : ∀ (l : List (List UInt8)) (n : Nat), posM (bstr m) ((l.zipIdx n).map fun p => (bstr p.1, Value.int .i64 (p.2 : Int))) = (posL m l).map fun (i : Nat) => (i, Value.int .i64 ((n + i : Nat) : Int)) := by
  intro l
  induction l with
  | nil => intro n; rfl
  | cons a l ih =>
   intro n
   rw [List.zipIdx_cons, List.map_cons, posM, posL]
   by_cases h : m = a
   ·rw [if_pos (by rw [h]), if_pos h]; rfl
   ·rw [if_neg (fun e => h (bstr_inj e)), if_neg h, ih (n + 1)]
    cases posL m l with
    | none => rfl
    | some i => simp only [Option.map_some]; congr 3; omega
 have := key l 0
 unfold mapX
 simpa only [Nat.zero_add] using this
theorem mapX_push {m : List UInt8} {l : List (List UInt8)} (h : posL m l = none) : setM (bstr m) (.int .i64 (l.length : Int)) (mapX l) = mapX (l ++ [m]) := by
 rw [setM_none (by rw [mapX_pos, h]; rfl)]
 unfold mapX
 rw [List.zipIdx_append, List.map_append]
 simp
theorem lookX (m : List UInt8) (l : List (List UInt8)) (hl : l.length ≤ 1000000) : ∃ (v : Int) (b : Bool), (match posM (bstr m) (mapX l) with | some p => (p.2, true) | none => (Value.int .i64 0, false)) = (Value.int .i64 v, b) ∧ ((b = true ∧ ∃ i : Nat, posL m l = some i ∧ v = i) ∨ (b = false ∧ posL m l = none)) ∧ okV (.int .i64 v) := by
 rw [mapX_pos]
 cases hq : posL m l with
 | none => exact ⟨0, false, rfl, .inr ⟨rfl, rfl⟩, rfl⟩
 | some i =>
  have := posL_lt hq
  exact ⟨i, true, rfl, .inl ⟨rfl, i, rfl, rfl⟩, wrap_i64 (by omega)⟩
def mkAt (x : Ex) (k : Nat) : List UInt8 := x.marks.getD k []
theorem mkAt_nat {x : Ex} {k : Nat} (h : k < x.marks.length) : mkAt x k = x.marks[k] := by unfold mkAt; rw [List.getD_eq_getElem?_getD, List.getElem?_eq_getElem h]; rfl
def exIn (N : Net) (k : Nat) (m : List UInt8) : List Int → Ex → Ex × Option (Int × Int)
 | [], x => (x, none)
 | t :: ts, x =>
  if (fireI N m t).2 = true then
   match posL (fireI N m t).1 x.marks with
   | some i => exIn N k m ts ⟨x.marks, x.moves ++ [⟨k, t, i⟩]⟩
   | none => if x.marks.length = 300 then (x, some (-1, -1)) else exIn N k m ts ⟨x.marks ++ [(fireI N m t).1], x.moves ++ [⟨k, t, x.marks.length⟩]⟩
  else (x, some ((k : Int), t))
def exOut (N : Net) : Nat → Nat → Ex → Ex × Option (Int × Int)
 | 0, _, x => (x, none)
 | n + 1, k, x => if k < x.marks.length then
   (match exIn N k (mkAt x k) (readyL N (mkAt x k) N.ts.length) x with
   | (y, none) => exOut N n (k + 1) y
   | r => r) else (x, none)
theorem exOut_end {N : Net} {n k : Nat} {x : Ex} {F : Ex × Option (Int × Int)} (hn : 0 < n) (hk : ¬ k < x.marks.length) (h : exOut N n k x = F) : (x, none) = F := by
 obtain ⟨q, rfl⟩ : ∃ q, n = q + 1 := ⟨n - 1, by omega⟩
 rw [exOut, if_neg hk] at h
 exact h
def explR (N : Net) (start : List UInt8) : Ex × Option (Int × Int) := exOut N 301 0 ⟨[start], []⟩
def exK (r : Ex × Option (Int × Int)) : Int := match r.2 with | some p => p.1 | none => -1
def exT (r : Ex × Option (Int × Int)) : Int := match r.2 with | some p => p.2 | none => -1
def exB (r : Ex × Option (Int × Int)) : Bool := match r.2 with | some _ => false | none => true
abbrev rgA (x : Ex) : AV := .agg [.d (.view 9 1 (tsX x.marks)), .d (vMvs x.moves)]
abbrev rgD (x : Ex) : List DV := [.view 9 1 (tsX x.marks), vMvs x.moves]
abbrev rgC (x : Ex) : List AV := [.d (.view 9 1 (tsX x.marks)), .d (vMvs x.moves)]
abbrev zRG : List AV := [.d (.val (.slice none 0 0)), .d (.val (.slice none 0 0))]
structure ExI (N : Net) (x : Ex) (q : Nat) : Prop where
 n : x.marks.length ≤ 300
 b : ∀ m, m ∈ x.marks → bitsB m N.places = true
 l : x.moves.length ≤ q
theorem ExI.len {N : Net} {x : Ex} {q : Nat} (h : ExI N x q) (hp : N.places ≤ 30) : ∀ m, m ∈ x.marks → m.length ≤ 30 := fun m hm => by have := bits_len (h.b m hm); omega
set_option maxHeartbeats 16000000 in
theorem iExplored_spec (s : Stg) (hB : StgB s) (hg : goodS s = true) : ASpec Tryz.prog 97 [stgA s] [] (Pure1 (.tup [rgA (explR s.net s.start).1, aI (exK (explR s.net s.start)), aI (exT (explR s.net s.start)), aT (exB (explR s.net s.start))])) := by
 obtain ⟨hg1, hg2⟩ : goodN s.net = true ∧ bitsB s.start s.net.places = true := by
  simp only [goodS, Bool.and_eq_true] at hg
  exact hg.1
 have hpl := good_places hg1
 have hun : explR s.net s.start = exOut s.net 301 0 ⟨[s.start], []⟩ := rfl
 obtain ⟨F, hF⟩ : ∃ F, F = explR s.net s.start := ⟨_, rfl⟩
 rw [← hF] at hun ⊢
 have hI0 : ExI s.net ⟨[s.start], []⟩ 0 := ⟨by show 1 ≤ 300; omega, fun m hm => by rw [List.mem_singleton.1 hm]; exact hg2, Nat.le_refl _⟩
 have hst := bits_len hg2
 clear hF
 refine ASpec.of Tryz.func97 rfl rfl fun C hC => ?_
 refine AC.seq (AC.region ?_)
 refine AL.q (by exact h_boxF rfl rfl) rfl ?_
 refine AL.q (by exact h_alloc rfl) rfl ?_
 refine AL.p (by exact as1 rfl) rfl ?_
 refine AL.p (by exact as1 rfl) rfl ?_
 refine AL.p (by exact as1 rfl) rfl ?_
 refine AL.nil (th_n (AC.seq ?_))
 refine AC.drawn' mixed_ok [[], [0], [0,1], [0,1,2], [], [], [5], [4,5,6], [4,5,6,7], [], [0,1,2,3,9], [0,1,2,3,4,5,6,7,8,9,10]] (by decide) ?_
 refine DF.op 0 [] 12 rfl rfl rfl (.free rfl (NOp.of (by exact g_fa_ref rfl rfl rfl rfl rfl rfl))) rfl ?_
 refine DF.op 1 [0] 12 rfl rfl rfl (.free rfl (NOp.of (by exact g_load_ref rfl rfl rfl))) rfl ?_
 refine DF.op 2 [0,1] 12 rfl rfl rfl (.free rfl (by exact h_lit rfl rfl rfl rfl rfl rfl rfl rfl)) rfl ?_
 refine DF.op 3 [0,1,2] 12 rfl rfl rfl (.free rfl (NOp.of (by exact g_build rfl rfl rfl))) rfl ?_
 refine DF.op 4 [] 12 rfl rfl rfl (.free rfl (by exact h_makeMap)) rfl ?_
 refine DF.op 5 [] 12 rfl rfl rfl (.free rfl (NOp.of (by exact g_fa_ref rfl rfl rfl rfl rfl rfl))) rfl ?_
 refine DF.op 6 [5] 12 rfl rfl rfl (.free rfl (NOp.of (by exact g_load_ref rfl rfl rfl))) rfl ?_
 refine DF.op 7 [4,5,6] 12 rfl rfl rfl (.free rfl (by exact h_insert Tryz.underlying182 Tryz.underlying9 rfl rfl rfl rfl)) rfl ?_
 refine DF.op 8 [4,5,6,7] 12 rfl rfl rfl (.free rfl (NOp.of (by exact mv11 rfl))) rfl ?_
 refine DF.op 9 [] 12 rfl rfl rfl (.free rfl (by exact h_alloc rfl)) rfl ?_
 refine DF.op 10 [0,1,2,3,9] 12 rfl rfl rfl (.free rfl (by exact h_store rfl rfl rfl rfl rfl rfl)) rfl ?_
 refine DF.op 11 (List.range 11) 12 rfl rfl rfl (.free rfl (NOp.of (by exact as11 rfl))) rfl ?_
 refine DF.fin (ps := [(0,4),(0,5),(0,6),(0,7),(0,8),(0,9),(1,4),(1,5),(1,6),(1,7),(1,8),(1,9),(2,4),(2,5),(2,6),(2,7),(2,8),(2,9),(3,4),(3,5),(3,6),(3,7),(3,8),(3,9),(4,0),(4,1),(4,2),(4,3),(4,5),(4,6),(4,9),(4,10),(5,0),(5,1),(5,2),(5,3),(5,4),(5,9),(5,10),(6,0),(6,1),(6,2),(6,3),(6,4),(6,9),(6,10),(7,0),(7,1),(7,2),(7,3),(7,9),(7,10),(8,0),(8,1),(8,2),(8,3),(8,9),(8,10),(9,0),(9,1),(9,2),(9,3),(9,4),(9,5),(9,6),(9,7),(9,8),(10,4),(10,5),(10,6),(10,7),(10,8)]) 12 rfl (by decide +kernel) (by decide +kernel) (by rfl) ?_
 refine th_n (AC.seq (AC.seq (AC.region ?_)))
 refine AL.p (by exact as1 rfl) rfl ?_
 refine AL.nil (th_n (AC.block ?_))
 refine AC.loop (ι := Nat × Ex) (fun x => ⟨96, 300, [(1, .d (.ref (stgD s))), (2, .ptr 201 0), (6, .ptr 200 0), (7, .mp 203), (8, aI x.1)], [(200, some (.cells 35 [.own 101 x.2.marks.length, .own 102 x.2.moves.length])), (101, some (.arr 9 1 (tsX x.2.marks))), (102, some (.arr 52 3 (mvL x.2.moves))), (203, some (.map (mapX x.2.marks))), (201, some (.cells 35 zRG))]⟩) (fun x => x.1 ≤ x.2.marks.length ∧ ExI s.net x.2 (24 * x.1) ∧ exOut s.net (301 - x.1) x.1 x.2 = F) (fun x => 301 - x.1) ((0, ⟨[s.start], []⟩)) ?_ (⟨Nat.zero_le _, hI0, hun.symm⟩) ?_
 ·exact (Weak.nilOwnP 6 1 (e := 52) (sz := 3) rfl rfl rfl rfl rfl).trans (Weak.ren _ [(200, _), (101, _), (102, _), (203, _), (201, _)] hC rfl (by repeat (first | exact True.intro | refine And.intro ?_ ?_ | exact DLead.same | exact rfl | refine ⟨_, rfl, ?_⟩)) (by repeat (first | exact True.intro | refine And.intro ?_ ?_ | exact DLead.same | exact rfl | refine ⟨_, _, rfl, rfl, ?_⟩ | refine ⟨_, rfl, ?_⟩ | refine ⟨_, _, rfl, ?_, ?_⟩)) rfl rfl rfl)
 ·rintro ⟨k, x⟩ ⟨hk, hI, hrun⟩
  dsimp only at hk hI hrun ⊢
  have hxn := hI.n
  refine AC.seq (AC.seq (AC.region ?_))
  refine AL.p (by exact mv1 rfl) rfl ?_
  refine AL.p (by exact g_fa_ptr rfl rfl rfl rfl rfl) rfl ?_
  refine AL.p (by exact g_load_ptr rfl rfl rfl rfl rfl) rfl ?_
  refine AL.p (by exact g_len_own (sz := 1) (els := []) (e' := 0) rfl rfl (by simp only [maxLen]; omega)) rfl ?_
  refine AL.p (by exact g_cmp rfl rfl rfl) rfl ?_
  refine AL.nil (th_n ?_)
  refine AC.condD rfl (fun h0 => ?_) (fun h0 => ?_)
  ·refine AC.skip (th_n (AC.seq (AC.block (AC.seq ?_))))
   have hk1 : k < x.marks.length := by omega
   have hmk := mkAt_nat hk1
   have hbm := hI.b _ (List.getElem_mem hk1)
   rw [← hmk] at hbm
   have hrow : (tsX x.marks)[k]? = some [dS (bstr (mkAt x k))] := by rw [hmk]; exact tsX_get hk1
   obtain ⟨n, hn⟩ : ∃ n, 301 - k = n + 1 := ⟨300 - k, by omega⟩
   rw [hn, exOut, if_pos hk1] at hrun
   obtain ⟨m, hm⟩ : ∃ m, m = mkAt x k := ⟨_, rfl⟩
   rw [← hm] at hbm hrow hrun
   have hEn := enabled_spec s.net m hB.n (good_netM hg1 hbm) hbm
   have hLl := readyL_len s.net m s.net.ts.length
   obtain ⟨L, hL⟩ : ∃ L, L = readyL s.net m s.net.ts.length := ⟨_, rfl⟩
   rw [← hL] at hEn hLl hrun
   have hml := bits_len hbm
   have hmarks : x.marks[k]? = some m := by rw [List.getElem?_eq_getElem hk1, hm, hmk]
   obtain ⟨Z, hZ⟩ : ∃ Z, Z = exIn s.net k m L x := ⟨_, rfl⟩
   rw [← hZ] at hrun
   clear hL
   refine AC.drawn' mixed_ok [[], [0], [], [2], [], [2,3,4], [2,3,4,5], [0,1,2,3,4,5,6], [0,1,2,3,4,5,6,7], []] (by decide) ?_
   refine DF.op 0 [] 10 rfl rfl rfl (.free rfl (NOp.of (by exact g_fa_ref rfl rfl rfl rfl rfl rfl))) rfl ?_
   refine DF.op 1 [0] 10 rfl rfl rfl (.free rfl (NOp.of (by exact g_load_refN rfl rfl rfl rfl))) rfl ?_
   refine DF.op 2 [] 10 rfl rfl rfl (.free rfl (NOp.of (by exact g_fa_ptr rfl rfl rfl rfl rfl))) rfl ?_
   refine DF.op 3 [2] 10 rfl rfl rfl (.free rfl (NOp.of (by exact g_load_ptr rfl rfl rfl rfl rfl))) rfl ?_
   refine DF.op 4 [] 10 rfl rfl rfl (.free rfl (NOp.of (by exact mv1 rfl))) rfl ?_
   refine DF.op 5 [2,3,4] 10 rfl rfl rfl (.free rfl (NOp.of (by exact g_ia_own (i := k) (l := x.marks.length) rfl rfl rfl rfl rfl rfl hk1 rfl))) rfl ?_
   refine DF.op 6 [2,3,4,5] 10 rfl rfl rfl (.free rfl (NOp.of (by exact g_load_arr1 rfl rfl rfl rfl (by rw [Nat.mul_one]; exact hrow)))) rfl ?_
   refine DF.op 7 [0,1,2,3,4,5,6] 10 rfl rfl rfl (.free rfl (by exact h_pure en_enabled rfl rfl (by repeat (first | exact rfl | exact DLead.same | refine ⟨_, _, rfl, ?_, ?_⟩ | refine ⟨_, rfl, ?_⟩)) hEn rfl)) rfl ?_
   refine DF.op 8 [0,1,2,3,4,5,6,7] 10 rfl rfl rfl (.free rfl (NOp.of (by exact g_len_view (k := L.length) rfl rfl (ints_len _)))) rfl ?_
   refine DF.op 9 [] 10 rfl rfl rfl (.free rfl (NOp.of (by exact mv1 rfl))) rfl ?_
   refine DF.fin (ps := [(0,2),(0,3),(0,4),(0,5),(0,6),(0,9),(1,2),(1,3),(1,4),(1,5),(1,6),(1,9),(2,0),(2,1),(2,4),(2,9),(3,0),(3,1),(3,4),(3,9),(4,0),(4,1),(4,2),(4,3),(4,9),(5,0),(5,1),(5,9),(6,0),(6,1),(6,9),(7,9),(8,9),(9,0),(9,1),(9,2),(9,3),(9,4),(9,5),(9,6),(9,7),(9,8)]) 10 rfl (by decide +kernel) (by decide +kernel) (by rfl) ?_
   refine th_n (AC.block ?_)
   refine AC.loop (ι := Nat × Ex) (fun y => ⟨96, 900, [(1, .d (.ref (stgD s))), (2, .ptr 201 0), (6, .ptr 200 0), (7, .mp 203), (8, aI k), (37, .d (vI L)), (38, aI L.length), (39, aI y.1)], [(200, some (.cells 35 [.own 101 y.2.marks.length, .own 102 y.2.moves.length])), (101, some (.arr 9 1 (tsX y.2.marks))), (102, some (.arr 52 3 (mvL y.2.moves))), (203, some (.map (mapX y.2.marks))), (201, some (.cells 35 zRG))]⟩) (fun y => y.1 ≤ L.length ∧ k < y.2.marks.length ∧ y.2.marks[k]? = some m ∧ ExI s.net y.2 (24 * k + y.1) ∧ exIn s.net k m (L.drop y.1) y.2 = Z) (fun y => L.length - y.1) ((0, x)) ?_ (⟨Nat.zero_le _, hk1, hmarks, hI, hZ.symm⟩) ?_
   ·exact Weak.ren _ [(200, 200), (101, 101), (102, 102), (203, 203), (201, 201)] hC rfl (by repeat (first | exact True.intro | refine And.intro ?_ ?_ | exact DLead.same | exact rfl | refine ⟨_, rfl, ?_⟩)) (by repeat (first | exact True.intro | refine And.intro ?_ ?_ | exact DLead.same | exact rfl | refine ⟨_, _, rfl, rfl, ?_⟩ | refine ⟨_, rfl, ?_⟩ | refine ⟨_, _, rfl, ?_, ?_⟩)) rfl rfl rfl
   ·rintro ⟨j, y⟩ ⟨hj, hky, hym, hJ, hin⟩
    dsimp only at hj hky hym hJ hin ⊢
    have hyn := hJ.n
    have hyl := hJ.l
    refine AC.seq (AC.region ?_)
    refine AL.p (by exact g_cmp rfl rfl rfl) rfl ?_
    refine AL.nil (th_n (AC.seq ?_))
    refine AC.condD rfl (fun h1 => ?_) (fun h1 => ?_)
    ·refine AC.skip (th_n (AC.seq (AC.block (AC.seq ?_))))
     have hj1 : j < L.length := by omega
     have hget := ints_at hj1
     rw [List.drop_eq_getElem_cons hj1, exIn] at hin
     obtain ⟨t, ht⟩ : ∃ t, t = L[j] := ⟨_, rfl⟩
     rw [← ht] at hget hin
     clear ht
     have hrowy : (tsX y.marks)[k]? = some [dS (bstr m)] := by rw [List.getElem?_map, hym]; rfl
     have hFi := ifire_spec s.net m t hB.n (good_netM hg1 hbm) (by omega)
     have hfb := fireI_bits (N := s.net) (t := t) hbm
     obtain ⟨f, hf⟩ : ∃ f, f = fireI s.net m t := ⟨_, rfl⟩
     rw [← hf] at hFi hfb hin
     clear hf
     refine AC.region ?_
     refine AL.p (by exact g_ia_view rfl rfl rfl rfl rfl (by rfl) (by assumption)) rfl ?_
     refine AL.p (by exact g_load_ref rfl rfl rfl) rfl ?_
     refine AL.p (by exact as1 rfl) rfl ?_
     refine AL.nil (th_n (AC.seq ?_))
     refine AC.drawn' mixed_ok [[], [0], [], [2], [], [2,3,4], [2,3,4,5], [], [0,1,2,3,4,5,6,7], [0,1,2,3,4,5,6,7,8], [0,1,2,3,4,5,6,7,8,9], [0,1,2,3,4,5,6,7,8,9], [0,1,2,3,4,5,6,7,8,9,10], [0,1,2,3,4,5,6,7,8,9,10,11,12]] (by decide) ?_
     refine DF.op 0 [] 14 rfl rfl rfl (.free rfl (NOp.of (by exact g_fa_ref rfl rfl rfl rfl rfl rfl))) rfl ?_
     refine DF.op 1 [0] 14 rfl rfl rfl (.free rfl (NOp.of (by exact g_load_refN rfl rfl rfl rfl))) rfl ?_
     refine DF.op 2 [] 14 rfl rfl rfl (.free rfl (NOp.of (by exact g_fa_ptr rfl rfl rfl rfl rfl))) rfl ?_
     refine DF.op 3 [2] 14 rfl rfl rfl (.free rfl (NOp.of (by exact g_load_ptr rfl rfl rfl rfl rfl))) rfl ?_
     refine DF.op 4 [] 14 rfl rfl rfl (.free rfl (NOp.of (by exact mv1 rfl))) rfl ?_
     refine DF.op 5 [2,3,4] 14 rfl rfl rfl (.free rfl (NOp.of (by exact g_ia_own (i := k) (l := y.marks.length) rfl rfl rfl rfl rfl rfl hky rfl))) rfl ?_
     refine DF.op 6 [2,3,4,5] 14 rfl rfl rfl (.free rfl (NOp.of (by exact g_load_arr1 rfl rfl rfl rfl (by rw [Nat.mul_one]; exact hrowy)))) rfl ?_
     refine DF.op 7 [] 14 rfl rfl rfl (.free rfl (NOp.of (by exact mv1 rfl))) rfl ?_
     refine DF.op 8 [0,1,2,3,4,5,6,7] 14 rfl rfl rfl (.free rfl (by exact h_pure en_ifire rfl rfl (by repeat (first | exact rfl | exact DLead.same | refine ⟨_, _, rfl, ?_, ?_⟩ | refine ⟨_, rfl, ?_⟩)) hFi rfl)) rfl ?_
     refine DF.op 9 (List.range 9) 14 rfl rfl rfl (.free rfl (NOp.of (by exact mv5 rfl))) rfl ?_
     refine DF.op 10 (List.range 10) 14 rfl rfl rfl (.free rfl (NOp.of (by exact g_extract (r := .d _) rfl rfl))) rfl ?_
     refine DF.op 11 (List.range 10) 14 rfl rfl rfl (.free rfl (NOp.of (by exact g_extract (r := .d _) rfl rfl))) rfl ?_
     refine DF.op 12 (List.range 11) 14 rfl rfl rfl (.free rfl (NOp.of (by exact as1 rfl))) rfl ?_
     refine DF.op 13 (List.range 13) 14 rfl rfl rfl (.free rfl (NOp.of (by exact as1 rfl))) rfl ?_
     refine DF.fin (ps := [(0,2),(0,3),(0,4),(0,5),(0,6),(0,7),(1,2),(1,3),(1,4),(1,5),(1,6),(1,7),(2,0),(2,1),(2,4),(2,7),(3,0),(3,1),(3,4),(3,7),(4,0),(4,1),(4,2),(4,3),(4,7),(5,0),(5,1),(5,7),(6,0),(6,1),(6,7),(7,0),(7,1),(7,2),(7,3),(7,4),(7,5),(7,6),(10,11),(11,10),(11,12),(12,11)]) 14 rfl (by decide +kernel) (by decide +kernel) (by rfl) ?_
     refine th_n (AC.seq (AC.seq (AC.region ?_)))
     refine AL.p (by exact mv1 rfl) rfl ?_
     refine AL.p (by exact g_not rfl) rfl ?_
     refine AL.nil (th_n ?_)
     refine AC.condB rfl (fun h2 => ?_) (fun h2 => ?_)
     ·refine AC.seq ?_
      have qf : ¬ f.2 = true := by simpa using ‹(!f.2) = true›
      rw [if_neg qf] at hin
      have e : F = (y, some ((k : Int), t)) := by rw [← hrun, ← hin]
      refine AC.weak (Weak.freezeP (els' := tsX y.marks) 6 0 rfl rfl rfl rfl (by rw [tsX_len]; exact Nat.le_refl _) (List.take_of_length_le (by rw [tsX_len]; exact Nat.le_refl _)) rfl) ?_
      refine AC.weak (Weak.freezeP (els' := mvL y.moves) 6 1 rfl rfl rfl rfl (by rw [mvL_len]; exact Nat.le_refl _) (List.take_of_length_le (by rw [mvL_len]; exact Nat.le_refl _)) rfl) ?_
      refine AC.region ?_
      refine AL.p (by exact g_load_ptrN rfl rfl rfl rfl rfl) rfl ?_
      refine AL.p (by exact mv1 rfl) rfl ?_
      refine AL.p (by exact mv1 rfl) rfl ?_
      refine AL.q (by exact h_store rfl rfl rfl rfl rfl rfl) rfl ?_
      refine AL.p (by exact as1 rfl) rfl ?_
      refine AL.p (by exact as1 rfl) rfl ?_
      refine AL.p (by exact as1 rfl) rfl ?_
      refine AL.nil (th_n (AC.ret (th_r (ib_r (th_r (th_r (ib_r (ib_r (th_r (th_r (ib_r (th_r (bq_r ?_)))))))))))))
      exact ret0 rfl (by rw [e]; show AV.leads _ (.tup [rgA y, aI (k : Int), aI t, aT false]) _; repeat (first | exact DLead.same | exact rfl | refine ⟨_, rfl, ?_⟩ | refine ⟨_, _, rfl, ?_, ?_⟩))
     ·refine AC.skip (th_n (AC.seq ?_))
      have qf : f.2 = true := by simpa using ‹(!f.2) = false›
      rw [if_pos qf] at hin
      have hfbb := hfb qf
      have hpm := mapX_pos f.1 y.marks
      obtain ⟨v, b, hvb, hvok, hvr⟩ := lookX f.1 y.marks (by omega)
      refine AC.region ?_
      refine AL.p (by exact mv11 rfl) rfl ?_
      refine AL.p (by exact mv1 rfl) rfl ?_
      refine AL.p (by exact g_lookup (z := .int .i64 0) Tryz.underlying182 Tryz.underlying9 (by kernel_rfl) rfl rfl rfl hvb hvr) rfl ?_
      refine AL.p (by exact mv5 rfl) rfl ?_
      refine AL.p (by exact g_extract (r := .d _) rfl rfl) rfl ?_
      refine AL.p (by exact g_extract (r := .d _) rfl rfl) rfl ?_
      refine AL.p (by exact as1 rfl) rfl ?_
      refine AL.p (by exact as1 rfl) rfl ?_
      refine AL.nil (th_n ?_)
      refine AC.cut (fun (z : List (List UInt8) × Int) => ⟨96, 1500, [(1, .d (.ref (stgD s))), (2, .ptr 201 0), (6, .ptr 200 0), (7, .mp 203), (8, aI k), (10, aI t), (13, aI z.2), (37, .d (vI L)), (38, aI L.length), (39, aI j)], [(200, some (.cells 35 [.own 101 z.1.length, .own 102 y.moves.length])), (101, some (.arr 9 1 (tsX z.1))), (102, some (.arr 52 3 (mvL y.moves))), (203, some (.map (mapX z.1))), (201, some (.cells 35 zRG))]⟩) (fun z => exIn s.net k m (L.drop (j + 1)) ⟨z.1, y.moves ++ [⟨k, t, z.2⟩]⟩ = Z ∧ k < z.1.length ∧ z.1[k]? = some m ∧ z.1.length ≤ 300 ∧ ∀ a, a ∈ z.1 → bitsB a s.net.places = true) ?_ ?_
      ·refine AC.seq (AC.region ?_)
       refine AL.p (by exact mv1 rfl) rfl ?_
       refine AL.p (by exact g_not rfl) rfl ?_
       refine AL.nil (th_n ?_)
       refine AC.condB rfl (fun h3 => ?_) (fun h3 => ?_)
       ·refine AC.seq (AC.seq (AC.region ?_))
        refine AL.p (by exact g_fa_ptr rfl rfl rfl rfl rfl) rfl ?_
        refine AL.p (by exact g_load_ptr rfl rfl rfl rfl rfl) rfl ?_
        refine AL.p (by exact g_len_own (sz := 1) (els := []) (e' := 0) rfl rfl (by simp only [maxLen]; omega)) rfl ?_
        refine AL.p (by exact g_cmp rfl rfl rfl) rfl ?_
        refine AL.nil (th_n ?_)
        refine AC.condD rfl (fun h4 => ?_) (fun h4 => ?_)
        ·refine AC.seq ?_
         have hpn : posL f.1 y.marks = none := by rcases hvok with ⟨hb, _⟩ | ⟨_, h⟩; (rw [hb] at h3; exact absurd h3 (by decide)); exact h
         have hlen : y.marks.length = 300 := by omega
         rw [hpn] at hin
         dsimp only at hin
         rw [if_pos hlen] at hin
         have e : F = (y, some ((-1 : Int), (-1 : Int))) := by rw [← hrun, ← hin]
         refine AC.weak (Weak.freezeP (els' := tsX y.marks) 6 0 rfl rfl rfl rfl (by rw [tsX_len]; exact Nat.le_refl _) (List.take_of_length_le (by rw [tsX_len]; exact Nat.le_refl _)) rfl) ?_
         refine AC.weak (Weak.freezeP (els' := mvL y.moves) 6 1 rfl rfl rfl rfl (by rw [mvL_len]; exact Nat.le_refl _) (List.take_of_length_le (by rw [mvL_len]; exact Nat.le_refl _)) rfl) ?_
         refine AC.region ?_
         refine AL.p (by exact g_load_ptrN rfl rfl rfl rfl rfl) rfl ?_
         refine AL.q (by exact h_store rfl rfl rfl rfl rfl rfl) rfl ?_
         refine AL.p (by exact as1 rfl) rfl ?_
         refine AL.p (by exact as1 rfl) rfl ?_
         refine AL.p (by exact as1 rfl) rfl ?_
         refine AL.nil (th_n (AC.ret (th_r (th_r (ib_r (th_r (th_r (ib_r (ib_r (th_r (th_r (ib_r (th_r (bq_r ?_))))))))))))))
         exact ret0 rfl (by rw [e]; show AV.leads _ (.tup [rgA y, aI (-1 : Int), aI (-1 : Int), aT false]) _; repeat (first | exact DLead.same | exact rfl | refine ⟨_, rfl, ?_⟩ | refine ⟨_, _, rfl, ?_, ?_⟩))
        ·refine AC.skip (th_n (AC.seq ?_))
         have hpn : posL f.1 y.marks = none := by rcases hvok with ⟨hb, _⟩ | ⟨_, h⟩; (rw [hb] at h3; exact absurd h3 (by decide)); exact h
         have hlen : ¬ y.marks.length = 300 := by omega
         rw [hpn] at hin
         dsimp only at hin
         rw [if_neg hlen] at hin
         have hpush := mapX_push hpn
         refine AC.region ?_
         refine AL.p (by exact g_fa_ptr rfl rfl rfl rfl rfl) rfl ?_
         refine AL.p (by exact g_load_ptr rfl rfl rfl rfl rfl) rfl ?_
         refine AL.p (by exact g_len_own (sz := 1) (els := []) (e' := 0) rfl rfl (by simp only [maxLen]; omega)) rfl ?_
         refine AL.p (by exact as1 rfl) rfl ?_
         refine AL.nil (th_n (AC.seq (AC.region ?_)))
         refine AL.p (by exact mv11 rfl) rfl ?_
         refine AL.p (by exact mv1 rfl) rfl ?_
         refine AL.p (by exact mv1 rfl) rfl ?_
         refine AL.q (by exact h_mapUpdate Tryz.underlying182 Tryz.underlying9 rfl rfl rfl rfl) rfl ?_
         refine AL.nil (th_n (AC.region ?_))
         refine AL.p (by exact g_fa_ptr rfl rfl rfl rfl rfl) rfl ?_
         refine AL.p (by exact g_load_ptr rfl rfl rfl rfl rfl) rfl ?_
         refine AL.p (by exact mv1 rfl) rfl ?_
         refine AL.q (by exact h_litF rfl rfl rfl rfl rfl rfl rfl rfl) rfl ?_
         refine AL.q (by exact h_appendX y.marks [f.1] (.own rfl rfl (tsX_len _).symm) (.view rfl) (by rw [List.length_append]; simp only [List.length_cons, List.length_nil]; omega) (by simp)) rfl ?_
         refine AL.p (by exact g_fa_ptr rfl rfl rfl rfl rfl) rfl ?_
         refine AL.q (by exact h_store rfl rfl rfl rfl rfl rfl) rfl ?_
         refine AL.nil (th_n ?_)
         (have hpn : posL f.1 y.marks = none := (by rcases hvok with ⟨hb, _⟩ | ⟨_, h⟩; (rw [hb] at h3; exact absurd h3 (by decide)); exact h); exact ⟨(y.marks ++ [f.1], (y.marks.length : Int)), ⟨hin, by rw [List.length_append]; omega, by rw [List.getElem?_append_left hky]; exact hym, by rw [List.length_append]; simp only [List.length_cons, List.length_nil]; omega, fun a ha => (List.mem_append.1 ha).elim (hJ.b a) (fun h => by rw [List.mem_singleton.1 h]; exact hfbb)⟩, Weak.ren _ [(200, 200), (101, _), (102, 102), (203, 203), (201, 201)] hC rfl (by repeat (first | exact True.intro | refine And.intro ?_ ?_ | exact DLead.same | exact rfl | refine ⟨_, rfl, ?_⟩)) (by rw [← hpush]; repeat (first | exact True.intro | refine And.intro ?_ ?_ | exact DLead.same | exact rfl | refine ⟨_, _, rfl, rfl, ?_⟩ | refine ⟨_, rfl, ?_⟩ | refine ⟨_, _, rfl, ?_, ?_⟩)) rfl rfl rfl⟩)
       ·refine AC.skip (th_n ?_)
        (obtain ⟨i, hi, hiv⟩ : ∃ i : Nat, posL f.1 y.marks = some i ∧ v = i := (by rcases hvok with ⟨_, h⟩ | ⟨hb, _⟩; exact h; (rw [hb] at h3; exact absurd h3 (by decide))); (rw [hi] at hin); exact ⟨(y.marks, v), ⟨by rw [hiv]; exact hin, hky, hym, hyn, hJ.b⟩, Weak.ren _ [(200, 200), (101, 101), (102, 102), (203, 203), (201, 201)] hC rfl (by repeat (first | exact True.intro | refine And.intro ?_ ?_ | exact DLead.same | exact rfl | refine ⟨_, rfl, ?_⟩)) (by repeat (first | exact True.intro | refine And.intro ?_ ?_ | exact DLead.same | exact rfl | refine ⟨_, _, rfl, rfl, ?_⟩ | refine ⟨_, rfl, ?_⟩ | refine ⟨_, _, rfl, ?_, ?_⟩)) rfl rfl rfl⟩)
      ·rintro ⟨M, v2⟩ ⟨hz1, hz2, hz3, hz4, hz5⟩
       dsimp only at hz1 hz2 hz3 hz4 hz5 ⊢
       refine AC.region ?_
       refine AL.p (by exact g_fa_ptr rfl rfl rfl rfl rfl) rfl ?_
       refine AL.p (by exact g_load_ptr rfl rfl rfl rfl rfl) rfl ?_
       refine AL.p (by exact mv1 rfl) rfl ?_
       refine AL.p (by exact mv1 rfl) rfl ?_
       refine AL.p (by exact mv1 rfl) rfl ?_
       refine AL.p (by exact g_build rfl rfl rfl) rfl ?_
       refine AL.q (by exact h_litF rfl rfl rfl rfl rfl rfl rfl rfl) rfl ?_
       refine AL.q (by exact h_appendMv y.moves [⟨k, t, v2⟩] (.own rfl rfl (mvL_len _).symm) (.view rfl) (by rw [List.length_append]; simp only [List.length_cons, List.length_nil]; omega) (by simp)) rfl ?_
       refine AL.p (by exact g_fa_ptr rfl rfl rfl rfl rfl) rfl ?_
       refine AL.q (by exact h_store rfl rfl rfl rfl rfl rfl) rfl ?_
       refine AL.nil (ib_n (th_n (AC.region ?_)))
       refine AL.p (by exact g_arith rfl rfl rfl (by exact wrap_i64 (by omega))) rfl ?_
       refine AL.p (by exact mv1 rfl) rfl ?_
       refine AL.nil (th_n ?_)
       exact ⟨(j + 1, ⟨M, y.moves ++ [⟨k, t, v2⟩]⟩), ⟨by omega, hz2, hz3, ⟨hz4, hz5, by rw [List.length_append]; simp only [List.length_cons, List.length_nil]; omega⟩, hz1⟩, by dsimp only; omega, Weak.ren _ [(200, 200), (101, 101), (102, _), (203, 203), (201, 201)] hC rfl (by repeat (first | exact True.intro | refine And.intro ?_ ?_ | exact DLead.same | exact rfl | refine ⟨_, rfl, ?_⟩)) (by repeat (first | exact True.intro | refine And.intro ?_ ?_ | exact DLead.same | exact rfl | refine ⟨_, _, rfl, rfl, ?_⟩ | refine ⟨_, rfl, ?_⟩ | refine ⟨_, _, rfl, ?_, ?_⟩)) rfl rfl rfl⟩
    ·refine AC.exit (th_e (th_e (ib_y (ib_n (th_n (AC.region ?_))))))
     refine AL.p (by exact mv1 rfl) rfl ?_
     refine AL.p (by exact g_arith rfl rfl rfl (by exact wrap_i64 (by omega))) rfl ?_
     refine AL.p (by exact as1 rfl) rfl ?_
     refine AL.nil (th_n ?_)
     have hjj : j = L.length := by omega
     rw [hjj, List.drop_length, exIn] at hin
     rw [← hin] at hrun
     dsimp only at hrun
     exact ⟨(k + 1, y), ⟨by dsimp only; omega, ⟨hyn, hJ.b, by dsimp only; omega⟩, by rw [show 301 - (k + 1) = n by omega]; exact hrun⟩, by dsimp only; omega, Weak.ren _ [(200, 200), (101, 101), (102, 102), (203, 203), (201, 201)] hC rfl (by repeat (first | exact True.intro | refine And.intro ?_ ?_ | exact DLead.same | exact rfl | refine ⟨_, rfl, ?_⟩)) (by repeat (first | exact True.intro | refine And.intro ?_ ?_ | exact DLead.same | exact rfl | refine ⟨_, _, rfl, rfl, ?_⟩ | refine ⟨_, rfl, ?_⟩ | refine ⟨_, _, rfl, ?_, ?_⟩)) rfl rfl rfl⟩
  ·refine AC.exit (th_e (th_e (ib_y (th_n (AC.seq ?_)))))
   have e : F = (x, none) := (exOut_end (by omega) (by omega) hrun).symm
   refine AC.weak (Weak.freezeP (els' := tsX x.marks) 6 0 rfl rfl rfl rfl (by rw [tsX_len]; exact Nat.le_refl _) (List.take_of_length_le (by rw [tsX_len]; exact Nat.le_refl _)) rfl) ?_
   refine AC.weak (Weak.freezeP (els' := mvL x.moves) 6 1 rfl rfl rfl rfl (by rw [mvL_len]; exact Nat.le_refl _) (List.take_of_length_le (by rw [mvL_len]; exact Nat.le_refl _)) rfl) ?_
   refine AC.region ?_
   refine AL.p (by exact g_load_ptrN rfl rfl rfl rfl rfl) rfl ?_
   refine AL.q (by exact h_store rfl rfl rfl rfl rfl rfl) rfl ?_
   refine AL.p (by exact as1 rfl) rfl ?_
   refine AL.p (by exact as1 rfl) rfl ?_
   refine AL.p (by exact as1 rfl) rfl ?_
   refine AL.nil (th_n (AC.ret (bq_r ?_)))
   exact ret0 rfl (by rw [e]; show AV.leads _ (.tup [rgA x, aI (-1 : Int), aI (-1 : Int), aT true]) _; repeat (first | exact DLead.same | exact rfl | refine ⟨_, rfl, ?_⟩ | refine ⟨_, _, rfl, ?_, ?_⟩))
theorem en_iExplored : Enters Tryz.prog 97 := enters_of Tryz.func97 rfl rfl
end Go.Proofs.YthafkkgmekgmoaaGreat
