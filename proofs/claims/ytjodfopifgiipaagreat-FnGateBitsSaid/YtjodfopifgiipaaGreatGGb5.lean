/- Contracts of the functions of the program and of the reference, each proved by a walk through its code. -/
import Derived.MapKept
import Derived.WideMake
import Derived.Laws.IdiomCopy
import Derived.Shelf.Strings.Search1
import Derived.Shelf.Strings.Search2
import Derived.Shelf.Strings.Search3
import Derived.Shelf.LaysM
import Derived.Shelf.Strings.Shaped
import Derived.Test.YtjodfopifgiipaaGreatRows
import Derived.Test.YtjodfopifgiipaaGreatGGb4
set_option linter.all false
set_option maxRecDepth 20000
namespace Go.Proofs.YtjodfopifgiipaaGreat
open Go.RowKit
def oneSigs (l : List UInt8) (k : Int) : List Sig := l.map fun b => ⟨[b], k⟩
def sigsTo (ls : List (List UInt8)) : Nat → List Sig
 | 0 => []
 | k + 1 => sigsTo ls k ++ oneSigs (ls.getD k []) ((k : Int) + 1)
theorem oneSigs_len (l : List UInt8) (k : Int) : (oneSigs l k).length = l.length := List.length_map _
theorem oneSigs_snoc (l : List UInt8) (k : Int) {q : Nat} (h : q < l.length) : oneSigs (l.take (q + 1)) k = oneSigs (l.take q) k ++ [⟨[l[q]], k⟩] := by
 unfold oneSigs;rw [List.take_add_one, List.getElem?_eq_getElem h, List.map_append]; rfl
def begS (ls : List (List UInt8)) : Bs := ⟨sigsTo ls 3, [], [], [], [], []⟩
def arcsF (b : Bs) (l : List (List UInt8)) : Bs := l.foldl arcF b
theorem arcsF_snoc (b : Bs) (l : List (List UInt8)) {k : Nat} (h : k < l.length) : arcsF b (l.take (k + 1)) = arcF (arcsF b (l.take k)) l[k] := by
 unfold arcsF;rw [List.take_add_one, List.getElem?_eq_getElem h, List.foldl_append]; rfl
def stgOf (b : Bs) : Stg := ⟨⟨b.ps.length, b.ts⟩, b.sigs, b.labs, b.start⟩
def buildS (ins outs inner arcs : List UInt8) : Stg := stgOf (arcsF (begS [ins, outs, inner]) (splitL arcs 32))
abbrev stgO (s : Stg) (i j k : Nat) : AV := .agg [aI s.net.places, .own i s.net.ts.length, .own j s.sigs.length, .own k s.labs.length, aS (bstr s.start)]
abbrev stgChs (s : Stg) (i j k : Nat) : List (Nat × Chunk) := [(i, .arr 138 2 (tsL s.net.ts)), (j, .arr 87 2 (sigsL s.sigs)), (k, .arr 115 2 (labsL s.labs))]
abbrev bChA (b : Bs) (i0 i1 i2 i3 i4 i5 : Nat) : List (Nat × Chunk) := [(i0, bC b i1 i2 i3 i4 i5), (i1, .arr 138 2 (tsL b.ts)), (i2, .arr 87 2 (sigsL b.sigs)), (i3, .arr 115 2 (labsL b.labs)), (i4, .arr 9 1 (sxL b.ps)), (i5, .arr 9 1 (sxL b.ws))]
abbrev zStg : List AV := [aI 0, .d (.val (.slice none 0 0)), .d (.val (.slice none 0 0)), .d (.val (.slice none 0 0)), aS ByteArray.empty]
theorem sigsTo_len (ls : List (List UInt8)) : ∀ k, (∀ l, l ∈ ls → l.length ≤ 100) → (sigsTo ls k).length ≤ 100 * k
 | 0, h => by simp [sigsTo]
 | k + 1, h => by
  have := sigsTo_len ls k h
  have h2 : (ls.getD k []).length ≤ 100 := by
   rw [List.getD_eq_getElem?_getD];cases e : ls[k]? with
   | none => simp
   | some x => exact h x (List.mem_of_getElem? e)
  rw [sigsTo, List.length_append, oneSigs_len]; omega
theorem begS_M (ls : List (List UInt8)) (h : ∀ l, l ∈ ls → l.length ≤ 100) : BsM 300 (begS ls) := ⟨sigsTo_len ls 3 h, Nat.zero_le _, Nat.zero_le _, Nat.zero_le _, Nat.zero_le _, Nat.zero_le _, fun t ht => (by cases ht), rfl, rfl, rfl⟩
theorem arcsF_M (b : Bs) (n : Nat) (hb : BsM n b) (l : List (List UInt8)) : ∀ k, BsM (n + 5 * k) (arcsF b (l.take k))
 | 0 => hb
 | k + 1 => by
  rcases Nat.lt_or_ge k l.length with h | h
  ·rw [arcsF_snoc b l h]; exact (arcF_M (arcsF_M b n hb l k) l[k]).mono (by omega)
  have := arcsF_M b n hb l k;rw [List.take_of_length_le h] at this;rw [List.take_of_length_le (by omega)]; exact this.mono (by omega)
theorem splitK_cnt (s : List UInt8) (b : UInt8) : ∀ k, (splitK s b k).1.length ≤ k
 | 0 => Nat.le_refl _
 | k + 1 => by have := splitK_cnt s b k; rw [splitK]; split <;> simp <;> omega
theorem splitL_cnt (s : List UInt8) (b : UInt8) : (splitL s b).length ≤ s.length + 1 := by have := splitK_cnt s b s.length; unfold splitL; rw [List.length_append]; simp; exact this
theorem h_appendSg (acc new : List Sig) {s : ASt} {dst : Option Nat} {ty : Nat} {pos : String} {af : Array Edge} {gd : Option (Nat × Bool)} {x y : Operand} {f : Nat} {ids ids2 : List Nat} {gone : List (Nat × Option Chunk)}
  (hto : AppTo s x 87 2 (sigsL acc) ids gone) (harg : AppArg s y 2 (sigsL new) ids2) (h : (acc ++ new).length ≤ 100000000) (hnew : gone = [] → 0 < new.length) :
  NOp Tryz.prog (ids ++ ids2) s ⟨dst, .call { callee := .builtin .append, args := #[x, y], argTypes := #[24, 24] }, ty, pos, af, gd⟩ f ⟨.own f (acc ++ new).length, (f, some (.arr 87 2 (sigsL (acc ++ new)))) :: gone⟩ := by
 have := h_append (P := Tryz.prog) (s := s) (dst := dst) (ty := ty) (pos := pos) (af := af) (gd := gd) (x := x) (y := y) (f := f) (t := 24) (tx := 24) (k := (acc ++ new).length) rfl rfl rfl rfl rfl rfl hto harg (by simp) (by omega) (by show (acc ++ new).length * 24 ≤ _; omega) (fun h => by rw [sigsL_len]; exact hnew h)
 rwa [← List.map_append] at this
set_option maxHeartbeats 8000000 in
theorem l2Build_spec (ins outs inner arcs : List UInt8) (h1 : ins.length ≤ 100) (h2 : outs.length ≤ 100) (h3 : inner.length ≤ 100) (h4 : arcs.length ≤ 1000) (hok : (splitL arcs 32).all arcOk = true) : ASpec Tryz.prog 44 [aS (bstr ins), aS (bstr outs), aS (bstr inner), aS (bstr arcs)] [] (Fun1 (stgO (buildS ins outs inner arcs) 0 1 2) (stgChs (buildS ins outs inner arcs) 0 1 2)) := by
 obtain ⟨ls, hls⟩ := eqx ([ins, outs, inner]);have hlen : ls.length = 3 := by rw [hls]; rfl
 have hsm : ∀ l, l ∈ ls → l.length ≤ 100 := by rw [hls]; intro l hl; simp only [List.mem_cons, List.not_mem_nil, or_false] at hl; rcases hl with rfl | rfl | rfl <;> assumption
 have hB0 := begS_M ls hsm;have hS := l1Split_spec arcs 32 (by omega);have hcnt := splitL_cnt arcs 32;have hmm : ∀ x, x ∈ splitL arcs 32 → x.length ≤ arcs.length := fun x hx => splitL_mem hx
 have hbs : buildS ins outs inner arcs = stgOf (arcsF (begS ls) (splitL arcs 32)) := by rw [hls]; rfl
 obtain ⟨al, hal⟩ := eqx (splitL arcs 32);rw [← hal] at hS hcnt hbs hok hmm;clear hal;have hlit : ([[dS (bstr ins)], [dS (bstr outs)], [dS (bstr inner)]] : List (List DV)) = sxL ls := by rw [hls]; rfl
 refine ASpec.of Tryz.func44 rfl rfl fun C hC => ?_
 refine AC.seq (AC.region ?_);refine kE ?_;refine AL.nil (th_n (AC.seq (AC.region ?_)));refine AL.p (by exact g_build rfl rfl rfl) rfl ?_;refine AL.q (by exact h_box rfl) rfl ?_;refine AL.p (by exact as3 rfl) rfl ?_;refine AL.nil (th_n (AC.seq (AC.seq (AC.region ?_))));refine zm ?_;refine zm ?_;refine zm ?_;refine AL.q (by exact h_litF (els := [[dS (bstr ins)], [dS (bstr outs)], [dS (bstr inner)]]) rfl rfl rfl rfl rfl rfl rfl rfl) rfl ?_;rw [hlit];refine AL.p (by exact g_len_view (k := 3) rfl rfl (by rw [sxL_len]; exact hlen)) rfl ?_;refine zm ?_;refine AL.nil (th_n (AC.block ?_));refine AC.loop (ι := Nat) (fun k => ⟨68, 300, [(3, aS (bstr arcs)), (8, .ptr 200 0), (9, .ptr 100 0), (20, .d (vSx ls)), (21, aI (3 : Nat)), (22, aI k)], (200, some (.cells 77 zStg)) :: chL (bChA ⟨sigsTo ls k, [], [], [], [], []⟩ 100 101 102 103 104 105)⟩) (fun k => k ≤ 3) (fun k => 3 - k) (0) ?_ (Nat.zero_le _) ?_
 ·refine Weak.trans (Weak.ren (t := ⟨68, 300, [(3, aS (bstr arcs)), (8, .ptr 200 0), (9, .ptr 100 0), (20, .d (vSx ls)), (21, aI (3 : Nat)), (22, aI (0 : Nat))], [(100, some (.cells 101 [aI 0, .d (.val (.slice none 0 0)), .d (.val (.slice none 0 0)), .d (.val (.slice none 0 0)), aS ByteArray.empty, .d (.val (.slice none 0 0)), .d (.val (.slice none 0 0))])), (200, some (.cells 77 zStg))]⟩) _ [(200, 0), (100, 8)] hC rfl (by repeat (first | exact True.intro | refine And.intro ?_ ?_ | exact DLead.same | exact rfl | refine ⟨_, rfl, ?_⟩)) (by repeat (first | exact True.intro | refine And.intro ?_ ?_ | exact DLead.same | exact rfl | refine ⟨_, _, rfl, rfl, ?_⟩ | refine ⟨_, rfl, ?_⟩ | refine ⟨_, _, rfl, ?_, ?_⟩)) rfl rfl rfl) ?_;refine Weak.trans (Weak.nilOwnP 9 1 (e := 138) (sz := 2) rfl rfl rfl rfl rfl) ?_;refine Weak.trans (t := ⟨68, 308, [(3, aS (bstr arcs)), (8, .ptr 200 0), (9, .ptr 100 0), (20, .d (vSx ls)), (21, aI (3 : Nat)), (22, aI (0 : Nat))], [(100, some (.cells 101 [aI 0, .own 300 0, .d (.val (.slice none 0 0)), .d (.val (.slice none 0 0)), aS ByteArray.empty, .d (.val (.slice none 0 0)), .d (.val (.slice none 0 0))])), (300, some (.arr 138 2 [])), (200, some (.cells 77 zStg))]⟩) (zw [(200, 200), (100, 100), (300, 300)] hC) ?_;refine Weak.trans (Weak.nilOwnP 9 2 (e := 87) (sz := 2) rfl rfl rfl rfl rfl) ?_;refine Weak.trans (t := ⟨68, 316, [(3, aS (bstr arcs)), (8, .ptr 200 0), (9, .ptr 100 0), (20, .d (vSx ls)), (21, aI (3 : Nat)), (22, aI (0 : Nat))], [(100, some (.cells 101 [aI 0, .own 300 0, .own 308 0, .d (.val (.slice none 0 0)), aS ByteArray.empty, .d (.val (.slice none 0 0)), .d (.val (.slice none 0 0))])), (308, some (.arr 87 2 [])), (300, some (.arr 138 2 [])), (200, some (.cells 77 zStg))]⟩) (zw [(200, 200), (100, 100), (300, 300), (308, 308)] hC) ?_;refine Weak.trans (Weak.nilOwnP 9 3 (e := 115) (sz := 2) rfl rfl rfl rfl rfl) ?_;refine Weak.trans (t := ⟨68, 324, [(3, aS (bstr arcs)), (8, .ptr 200 0), (9, .ptr 100 0), (20, .d (vSx ls)), (21, aI (3 : Nat)), (22, aI (0 : Nat))], [(100, some (.cells 101 [aI 0, .own 300 0, .own 308 0, .own 316 0, aS ByteArray.empty, .d (.val (.slice none 0 0)), .d (.val (.slice none 0 0))])), (316, some (.arr 115 2 [])), (308, some (.arr 87 2 [])), (300, some (.arr 138 2 [])), (200, some (.cells 77 zStg))]⟩) (zw [(200, 200), (100, 100), (300, 300), (308, 308), (316, 316)] hC) ?_;refine Weak.trans (Weak.nilOwnP 9 5 (e := 9) (sz := 1) rfl rfl rfl rfl rfl) ?_;refine Weak.trans (t := ⟨68, 332, [(3, aS (bstr arcs)), (8, .ptr 200 0), (9, .ptr 100 0), (20, .d (vSx ls)), (21, aI (3 : Nat)), (22, aI (0 : Nat))], [(100, some (.cells 101 [aI 0, .own 300 0, .own 308 0, .own 316 0, aS ByteArray.empty, .own 324 0, .d (.val (.slice none 0 0))])), (324, some (.arr 9 1 [])), (316, some (.arr 115 2 [])), (308, some (.arr 87 2 [])), (300, some (.arr 138 2 [])), (200, some (.cells 77 zStg))]⟩) (zw [(200, 200), (100, 100), (300, 300), (308, 308), (316, 316), (324, 324)] hC) ?_;refine Weak.trans (Weak.nilOwnP 9 6 (e := 9) (sz := 1) rfl rfl rfl rfl rfl) ?_;refine Weak.trans (t := ⟨68, 340, [(3, aS (bstr arcs)), (8, .ptr 200 0), (9, .ptr 100 0), (20, .d (vSx ls)), (21, aI (3 : Nat)), (22, aI (0 : Nat))], [(100, some (.cells 101 [aI 0, .own 300 0, .own 308 0, .own 316 0, aS ByteArray.empty, .own 324 0, .own 332 0])), (332, some (.arr 9 1 [])), (324, some (.arr 9 1 [])), (316, some (.arr 115 2 [])), (308, some (.arr 87 2 [])), (300, some (.arr 138 2 [])), (200, some (.cells 77 zStg))]⟩) (zw [(200, 200), (100, 100), (300, 300), (308, 308), (316, 316), (324, 324), (332, 332)] hC) ?_;exact zw [(200, 200), (100, 100), (101, 300), (102, 308), (103, 316), (104, 324), (105, 332)] hC
 intro k hk;refine AC.seq (AC.region ?_);refine zc ?_;refine AL.nil (th_n (AC.seq ?_));refine AC.condD rfl (fun h0 => ?_) (fun h0 => ?_)
 ·refine AC.skip (th_n (AC.seq (AC.block (AC.seq ?_))));have hk1 : k < ls.length := by omega
  have hget := sxL_get hk1;have hsl := sigsTo_len ls k hsm;have hone := hsm _ (List.getElem_mem hk1);have hsuc : sigsTo ls (k + 1) = sigsTo ls k ++ oneSigs ls[k] ((k : Int) + 1) := by rw [sigsTo, List.getD_eq_getElem?_getD, List.getElem?_eq_getElem hk1]; rfl
  obtain ⟨w, hw⟩ := eqx (ls[k]);rw [← hw] at hget hone hsuc;clear hw;have hsz := bstr_size w;refine AC.region ?_;refine zm ?_;refine AL.p (by exact g_ia_view rfl rfl rfl rfl rfl (by rfl) (by assumption)) rfl ?_;refine zr ?_;refine za ?_;refine za ?_;refine AL.nil (th_n (AC.seq (AC.region ?_)));refine za ?_;refine AL.nil (th_n (AC.block ?_));refine AC.loop (ι := Nat) (fun q => ⟨68, 300, [(3, aS (bstr arcs)), (8, .ptr 200 0), (9, .ptr 100 0), (20, .d (vSx ls)), (21, aI (3 : Nat)), (22, aI k), (10, aI k), (11, aS (bstr w)), (12, aI q)], (200, some (.cells 77 zStg)) :: chL (bChA ⟨sigsTo ls k ++ oneSigs (w.take q) ((k : Int) + 1), [], [], [], [], []⟩ 100 101 102 103 104 105)⟩) (fun q => q ≤ w.length) (fun q => w.length - q) (0) ?_ (Nat.zero_le _) ?_
  ·exact Weak.ren _ [(200, 200), (100, 100), (101, 101), (102, 102), (103, 103), (104, 104), (105, 105)] hC rfl (by repeat (first | exact True.intro | refine And.intro ?_ ?_ | exact DLead.same | exact rfl | refine ⟨_, rfl, ?_⟩)) (by rw [List.take_zero, show oneSigs [] ((k : Int) + 1) = [] from rfl, List.append_nil]; repeat (first | exact True.intro | refine And.intro ?_ ?_ | exact DLead.same | exact rfl | refine ⟨_, _, rfl, rfl, ?_⟩ | refine ⟨_, rfl, ?_⟩ | refine ⟨_, _, rfl, ?_, ?_⟩)) rfl rfl rfl
  intro q hq;refine AC.seq (AC.seq (AC.region ?_));refine zm ?_;refine zm ?_;refine AL.p (by exact g_len_str rfl rfl rfl) rfl ?_;refine zc ?_;refine AL.nil (th_n ?_);refine AC.condD rfl (fun h1 => ?_) (fun h1 => ?_)
  ·refine AC.skip (th_n (AC.seq (AC.block ?_)));have hq1 : q < w.length := by omega
   have hsn := oneSigs_snoc w ((k : Int) + 1) hq1;have hcut : (bstr w).extract q (q + 1) = bstr [w[q]] := by rw [bstr_cut w (by omega) (by omega), List.drop_take, Nat.add_sub_cancel_left, List.drop_eq_getElem_cons hq1]; rfl
   have hacc : (sigsTo ls k ++ oneSigs (w.take q) ((k : Int) + 1)).length ≤ 400 := by rw [List.length_append, oneSigs_len, List.length_take]; omega
   obtain ⟨acc, hac⟩ := eqx (sigsTo ls k ++ oneSigs (w.take q) ((k : Int) + 1));have hnext : sigsTo ls k ++ oneSigs (w.take (q + 1)) ((k : Int) + 1) = acc ++ [⟨[w[q]], (k : Int) + 1⟩] := by rw [hsn, ← List.append_assoc, ← hac]
   rw [← hac] at hacc ⊢;refine AC.drawn' mixed_ok [[], [], [1], [1,2], [1,2,3], [1,2,3,4], [], [], [], [8], [6,7,8,9], [], [11], [6,7,8,9,10,11,12], [6,7,8,9,10,11,12,13], [1,2,3,4,5,6,7,8,9,10,11,12,13,14], [0,1,2,3,4,5,6,7,8,9,10,11,12,13,14,15], [0,1,2,3,4,5,6,7,8,9,10,11,12,13,14,15,16], [0,1,2,3,4,5,6,7,8,9,10,11,12,13,14,15,16,17], [0,1,2,3,4,5,6,7,8,9,10,11,12,13,14,15,16,17,18]] (by decide) ?_;refine zd 0 [] 20 (by exact mv3 rfl) ?_;refine zd 1 [] 20 (by exact mv3 rfl) ?_;refine zd 2 [1] 20 (by exact g_nilP rfl) ?_;refine zd 3 [1,2] 20 (by exact g_fa_ptr rfl rfl rfl rfl rfl) ?_;refine zd 4 [1,2,3] 20 (by exact g_fa_ptr rfl rfl rfl rfl rfl) ?_;refine zd 5 [1,2,3,4] 20 (by exact g_load_ptr rfl rfl rfl rfl rfl) ?_;refine zd 6 [] 20 (by exact mv1 rfl) ?_;refine zd 7 [] 20 (by exact mv1 rfl) ?_;refine zd 8 [] 20 (by exact mv1 rfl) ?_;refine zd 9 [8] 20 (by exact g_arith rfl rfl rfl (by exact wrap_i64 (by omega))) ?_;refine zd 10 [6,7,8,9] 20 (by exact g_slice_str (l := q) (h := q + 1) rfl rfl (.some rfl rfl) (.some rfl (by omega)) (by omega) (by omega) hcut) ?_;refine zd 11 [] 20 (by exact mv1 rfl) ?_;refine zd 12 [11] 20 (by exact g_arith rfl rfl rfl (by exact wrap_i64 (by omega))) ?_;refine zd 13 [6,7,8,9,10,11,12] 20 (by exact g_build rfl rfl rfl) ?_;refine zh 14 [6,7,8,9,10,11,12,13] 20 (by exact h_litF rfl rfl rfl rfl rfl rfl rfl rfl) ?_;refine zh 15 [1,2,3,4,5,6,7,8,9,10,11,12,13,14] 20 (by exact h_appendSg acc [⟨[w[q]], (k : Int) + 1⟩] (.own rfl rfl (sigsL_len _).symm) (.view rfl) (by rw [List.length_append]; simp only [List.length_cons, List.length_nil]; omega) (by simp)) ?_;refine zd 16 (List.range 16) 20 (by exact g_nilP rfl) ?_;refine zd 17 (List.range 17) 20 (by exact g_fa_ptr rfl rfl rfl rfl rfl) ?_;refine zd 18 (List.range 18) 20 (by exact g_fa_ptr rfl rfl rfl rfl rfl) ?_;refine zh 19 (List.range 19) 20 (by exact h_store rfl rfl rfl rfl rfl rfl) ?_;refine zj 20 ?_;refine ib_n (th_n (AC.region ?_));refine zm ?_;refine zA ?_;refine za ?_;refine AL.nil (th_n ?_);exact ⟨q + 1, by omega, by omega, zw [(200, 200), (100, 100), (101, 101), (102, _), (103, 103), (104, 104), (105, 105)] hC (b := by rw [hnext]; repeat (first | exact True.intro | refine And.intro ?_ ?_ | exact DLead.same | exact rfl | refine ⟨_, _, rfl, rfl, ?_⟩ | refine ⟨_, rfl, ?_⟩ | refine ⟨_, _, rfl, ?_, ?_⟩))⟩
  refine AC.exit (th_e (th_e (ib_y (ib_n (th_n (AC.region ?_))))));refine zA ?_;refine zm ?_;refine AL.nil (th_n ?_);have hqq : q = w.length := by omega
  have e : sigsTo ls (k + 1) = sigsTo ls k ++ oneSigs (w.take q) ((k : Int) + 1) := by rw [hsuc, hqq, List.take_length]
  exact ⟨k + 1, by omega, by omega, zw [(200, 200), (100, 100), (101, 101), (102, 102), (103, 103), (104, 104), (105, 105)] hC (b := by rw [e]; repeat (first | exact True.intro | refine And.intro ?_ ?_ | exact DLead.same | exact rfl | refine ⟨_, _, rfl, rfl, ?_⟩ | refine ⟨_, rfl, ?_⟩ | refine ⟨_, _, rfl, ?_, ?_⟩))⟩
 refine AC.exit (th_e (th_e (ib_y (th_n (AC.seq (AC.seq ?_))))));have hk3 : k = 3 := by omega
 subst hk3;refine AC.region ?_;refine zm ?_;refine kV en_l1Split hS ?_;refine kI al.length (sxL_len _) ?_;refine zm ?_;refine AL.nil (th_n (AC.block ?_));refine AC.loop (ι := Nat) (fun k => ⟨68, 600, [(8, .ptr 200 0), (9, .ptr 100 0), (54, .d (vSx al)), (55, aI al.length), (56, aI k)], (200, some (.cells 77 zStg)) :: chL (bChA (arcsF (begS ls) (al.take k)) 100 101 102 103 104 105)⟩) (fun k => k ≤ al.length) (fun k => al.length - k) (0) ?_ (Nat.zero_le _) ?_
 ·exact zw [(200, 200), (100, 100), (101, 101), (102, 102), (103, 103), (104, 104), (105, 105)] hC
 intro k hk;refine AC.seq (AC.region ?_);refine zc ?_;refine AL.nil (th_n (AC.seq ?_));refine AC.condD rfl (fun h1 => ?_) (fun h1 => ?_)
 ·refine AC.skip (th_n (AC.seq (AC.block (AC.seq ?_))));have hk1 : k < al.length := by omega
  have hget := sxL_get hk1;have hM := arcsF_M (begS ls) 300 hB0 al k;have hsn := arcsF_snoc (begS ls) al hk1;have hA := bArc_spec (300 + 5 * k) (arcsF (begS ls) (al.take k)) al[k] hM (by omega) (by have := hmm _ (List.getElem_mem hk1); omega) (List.all_eq_true.1 hok _ (List.getElem_mem hk1));rw [← hsn] at hA;obtain ⟨bk, hbk⟩ := eqx (arcsF (begS ls) (al.take k));obtain ⟨bn, hbn⟩ := eqx (arcsF (begS ls) (al.take (k + 1)));rw [← hbk, ← hbn] at hA;rw [← hbk];refine AC.region ?_;refine AL.p (by exact g_ia_view rfl rfl rfl rfl rfl (by rfl) (by assumption)) rfl ?_;refine zr ?_;refine za ?_;refine AL.nil (th_n (AC.region ?_));refine AL.p (by exact mv3 rfl) rfl ?_;refine zm ?_;refine kU [100, 101, 102, 103, 104, 105] en_bArc hA ?_;refine AL.nil (ib_n (th_n (AC.region ?_)));refine zA ?_;refine zm ?_;refine AL.nil (th_n ?_);exact ⟨k + 1, by omega, by omega, zw [(200, 200), (100, 100), (101, 600), (102, 102), (103, 601), (104, 602), (105, 603)] hC (b := by rw [← hbn]; repeat (first | exact True.intro | refine And.intro ?_ ?_ | exact DLead.same | exact rfl | refine ⟨_, _, rfl, rfl, ?_⟩ | refine ⟨_, rfl, ?_⟩ | refine ⟨_, _, rfl, ?_, ?_⟩))⟩
 refine AC.exit (th_e (th_e (ib_y (th_n (AC.seq ?_)))));have hkk : k = al.length := by omega
 subst hkk;rw [List.take_length];obtain ⟨bz, hbz⟩ := eqx (arcsF (begS ls) al);rw [← hbz] at hbs ⊢;refine AC.region ?_;refine AL.p (by exact mv3 rfl) rfl ?_;refine AL.p (by exact g_nilP rfl) rfl ?_;refine zF ?_;refine AL.p (by exact g_load_ptrN rfl rfl rfl rfl rfl) rfl ?_;refine zs ?_;refine AL.nil (th_n (AC.ret (bq_r ?_)));exact retN [(0, 101), (1, 102), (2, 103)] rfl (by rw [hbs]; repeat (first | exact rfl | exact DLead.same | refine ⟨_, _, rfl, ?_, ?_⟩ | refine ⟨_, rfl, ?_⟩)) (by rw [hbs]; repeat (first | exact True.intro | refine And.intro ?_ ?_ | exact rfl | refine ⟨_, _, rfl, rfl, ?_⟩)) rfl rfl
theorem en_l2Build : Enters Tryz.prog 44 := enters_of Tryz.func44 rfl rfl
def noNet : Net := ⟨0, []⟩
def netOf (N : Net) : Net := if goodN N = true then N else noNet
def shT (d : Int) (t : Tn) : Tn := ⟨mapI t.pre d, mapI t.post d⟩
def unionN (a b : Net) : Net := ⟨a.places + b.places, a.ts ++ b.ts.map (shT a.places)⟩
def unionR (a b : Net) : Net × Bool := if (goodN a && goodN b) = true then (netOf (unionN a b), goodN (unionN a b)) else (noNet, false)
theorem takeM {f : Tn → Tn} {l : List Tn} {k : Nat} (hk : k < l.length) : (l.take (k + 1)).map f = (l.take k).map f ++ [f l[k]] := by
 rw [List.take_add_one, List.getElem?_eq_getElem hk, List.map_append]; rfl
theorem takeM_len {f : Tn → Tn} {l : List Tn} {k : Nat} (hk : k ≤ l.length) : ((l.take k).map f).length = k := by rw [List.length_map, List.length_take]; omega
theorem good_rng {N : Net} (hg : goodN N = true) : ∀ t, t ∈ N.ts → (∀ x, x ∈ t.pre → 0 ≤ x ∧ x ≤ N.places - 1) ∧ (∀ x, x ∈ t.post → 0 ≤ x ∧ x ≤ N.places - 1) := by
 intro x hx;simp only [goodN, Bool.and_eq_true, Bool.not_eq_true', List.any_eq_false, decide_eq_true_eq] at hg;have h1 := hg.2 x hx;simp only [badT, Bool.or_eq_true, decide_eq_true_eq, not_or, Bool.not_eq_true', Bool.not_eq_false] at h1;exact ⟨fun p hp => rising_in h1.1.2 p hp, fun p hp => rising_in h1.2 p hp⟩
theorem good_far {N : Net} (hg : goodN N = true) : ∀ t, t ∈ N.ts → (∀ x, x ∈ t.pre → -1000000 ≤ x ∧ x ≤ 1000000) ∧ (∀ x, x ∈ t.post → -1000000 ≤ x ∧ x ≤ 1000000) := by
 intro t ht;have h := good_rng hg t ht;have hp := good_places hg;exact ⟨fun x hx => by have := h.1 x hx; omega, fun x hx => by have := h.2 x hx; omega⟩
theorem unionN_B {a b : Net} (ha : NetB a) (hb : NetB b) (ga : goodN a = true) (gb : goodN b = true) : NetB (unionN a b) := by
 have h1 := good_places ga;have h2 := good_places gb;refine ⟨by show -1000000 ≤ a.places + b.places ∧ a.places + b.places ≤ 1000000; omega, by show (a.ts ++ b.ts.map (shT a.places)).length ≤ _; rw [List.length_append, List.length_map]; omega, fun t ht => ?_⟩;rcases List.mem_append.1 ht with h | h
 ·exact ha.t t h
 obtain ⟨u, hu, rfl⟩ := List.mem_map.1 h;have := hb.t u hu;exact ⟨by show (mapI _ _).length ≤ _; rw [mapI_len]; exact this.1, by show (mapI _ _).length ≤ _; rw [mapI_len]; exact this.2⟩
set_option maxHeartbeats 4000000 in
theorem l1OwnN_spec (N : Net) (hB : NetB N) : ASpec Tryz.prog 120 [netA N] [] (Fun1 (.agg [aI N.places, .own 0 N.ts.length]) [(0, .arr 138 2 (tsL N.ts))]) := by
 have hl := hB.l;refine ASpec.of Tryz.func120 rfl rfl fun C hC => ?_
 refine AC.seq (AC.region ?_);refine kD ?_;refine kE ?_;refine AL.nil (th_n (AC.seq (AC.region ?_)));refine zf ?_;refine zr ?_;refine AL.p (by exact g_build rfl rfl rfl) rfl ?_;refine kE ?_;refine zs ?_;refine AL.nil (th_n (AC.seq (AC.seq (AC.region ?_))));refine zf ?_;refine zr ?_;refine kH ?_;refine zm ?_;refine AL.nil (th_n (AC.block ?_));refine AC.loop (ι := Nat) (fun k => ⟨30, 128, [(2, .ptr 102 0), (3, .ptr 100 0), (10, .d (vTs N.ts)), (11, aI N.ts.length), (12, aI k)], [(100, some (.cells 74 [aI N.places, .own 101 k])), (101, some (.arr 138 2 (tsL (N.ts.take k)))), (102, some (.cells 74 [aI 0, .d (.val (.slice none 0 0))]))]⟩) (fun k => k ≤ N.ts.length) (fun k => N.ts.length - k) (0) ?_ (Nat.zero_le _) ?_
 ·exact (Weak.nilOwnP 3 1 (e := 138) (sz := 2) rfl rfl rfl rfl rfl).trans (zw [(100, _), (101, _), (102, _)] hC)
 intro k hk;refine AC.seq (AC.region ?_);refine zc ?_;refine AL.nil (th_n (AC.seq ?_));refine AC.condD rfl (fun h0 => ?_) (fun h0 => ?_)
 ·refine AC.skip (th_n (AC.seq (AC.block (AC.seq ?_))));have hk1 : k < N.ts.length := by omega
  have hget := tsL_get hk1;have hl1 := (hB.t _ (List.getElem_mem hk1)).1;have hl2 := (hB.t _ (List.getElem_mem hk1)).2;have htl : (N.ts.take k).length = k := by rw [List.length_take]; omega
  have htk : N.ts.take (k + 1) = N.ts.take k ++ [N.ts[k]] := by rw [List.take_add_one, List.getElem?_eq_getElem hk1]; rfl
  refine AC.region ?_;refine AL.p (by exact g_ia_view rfl rfl rfl rfl rfl (by rfl) (by assumption)) rfl ?_;refine kG ?_;refine kE ?_;refine zs ?_;refine AL.nil (th_n ?_);refine AC.drawn' mixed_ok [[], [0], [], [2], [2,3], [], [5], [2,3,4,5,6], [2,3,4,5,6,7], [2,3,4,5,6,7,8], [0,1,2,3,4,5,6,7,8,9], [0,1,2,3,4,5,6,7,8,9,10], [0,1,2,3,4,5,6,7,8,9,10,11]] (by decide) ?_;refine zd 0 [] 13 (by exact g_fa_ptr rfl rfl rfl rfl rfl) ?_;refine zd 1 [0] 13 (by exact g_load_ptr rfl rfl rfl rfl rfl) ?_;refine zd 2 [] 13 (by exact g_fa_ptr rfl rfl rfl rfl rfl) ?_;refine zd 3 [2] 13 (by exact g_load_ptr rfl rfl rfl rfl rfl) ?_;refine zh 4 [2,3] 13 (by exact h_pure en_l1Own rfl rfl (by repeat (first | exact rfl | exact DLead.same | refine ⟨_, _, rfl, ?_, ?_⟩)) (l1Own_spec _ (by assumption)) rfl) ?_;refine zd 5 [] 13 (by exact g_fa_ptr rfl rfl rfl rfl rfl) ?_;refine zd 6 [5] 13 (by exact g_load_ptr rfl rfl rfl rfl rfl) ?_;refine zh 7 [2,3,4,5,6] 13 (by exact h_pure en_l1Own rfl rfl (by repeat (first | exact rfl | exact DLead.same | refine ⟨_, _, rfl, ?_, ?_⟩)) (l1Own_spec _ (by assumption)) rfl) ?_;refine zd 8 [2,3,4,5,6,7] 13 (by exact g_build rfl rfl rfl) ?_;refine zh 9 [2,3,4,5,6,7,8] 13 (by exact h_litF rfl rfl rfl rfl rfl rfl rfl rfl) ?_;refine zh 10 (List.range 10) 13 (by exact h_appendT (N.ts.take k) [N.ts[k]] (.own rfl rfl (by rw [tsL_len, htl])) (.view rfl) (by simp; omega) (by simp)) ?_;refine zd 11 (List.range 11) 13 (by exact g_fa_ptr rfl rfl rfl rfl rfl) ?_;refine zh 12 (List.range 12) 13 (by exact h_store rfl rfl rfl rfl rfl rfl) ?_;refine zj 13 ?_;refine ib_n (th_n (AC.region ?_));refine zA ?_;refine zm ?_;refine AL.nil (th_n ?_);have hl3 : (N.ts.take k ++ [N.ts[k]]).length = k + 1 := by rw [List.length_append, htl]; rfl
  exact ⟨k + 1, by omega, by omega, zw [(100, _), (101, _), (102, _)] hC (b := by rw [htk, ← hl3]; repeat (first | exact True.intro | refine And.intro ?_ ?_ | exact DLead.same | exact rfl | refine ⟨_, _, rfl, rfl, ?_⟩ | refine ⟨_, rfl, ?_⟩ | refine ⟨_, _, rfl, ?_, ?_⟩))⟩
 refine AC.exit (th_e (th_e (ib_y (th_n (AC.seq (AC.region ?_))))));refine AL.p (by exact g_load_ptrN rfl rfl rfl rfl rfl) rfl ?_;refine zs ?_;refine AL.nil (th_n (AC.ret (bq_r ?_)));have hkk : k = N.ts.length := by omega
 subst hkk;exact retN [(0, _)] rfl (by repeat (first | exact DLead.same | exact rfl | refine ⟨_, rfl, ?_⟩ | refine ⟨_, _, rfl, ?_, ?_⟩)) (by rw [List.take_length]; repeat (first | exact True.intro | refine And.intro ?_ ?_ | exact rfl | refine ⟨_, _, rfl, rfl, ?_⟩)) rfl rfl
theorem en_l1OwnN : Enters Tryz.prog 120 := enters_of Tryz.func120 rfl rfl
theorem unionR_no {a b : Net} (h : (goodN a && goodN b) = false) : unionR a b = (noNet, false) := by unfold unionR; rw [h]; rfl
theorem unionR_yes {a b : Net} (h : (goodN a && goodN b) = true) : unionR a b = (netOf (unionN a b), goodN (unionN a b)) := by unfold unionR; rw [h]; rfl
set_option maxHeartbeats 4000000 in
theorem sUnion_spec (a b : Net) (ha : NetB a) (hb : NetB b) : ASpec Tryz.prog 101 [netA a, netA b] [] (Pure1 (.tup [netA (unionR a b).1, aT (unionR a b).2])) := by
 have hap := ha.p;have hbp := hb.p;have hl1 := ha.l;have hl2 := hb.l;refine ASpec.of Tryz.func101 rfl rfl fun C hC => ?_
 refine AC.seq (AC.region ?_);refine kD ?_;refine kD ?_;refine kE ?_;refine za ?_;refine AL.nil (th_n (AC.seq (AC.seq (AC.region ?_))));refine kG ?_;refine AL.q (by exact h_pure en_l1Good rfl rfl (by repeat (first | exact rfl | exact DLead.same | refine ⟨_, _, rfl, ?_, ?_⟩ | refine ⟨_, rfl, ?_⟩)) (l1Good_spec _ (by assumption)) rfl) rfl ?_;refine kC ?_;refine zm ?_;refine AL.caseGB rfl rfl (fun h0 => ?_) (fun h0 => ?_)
 ·refine zn ?_;refine zn ?_;refine zn ?_;refine zQ ?_;refine AL.nil (th_n ?_);refine AC.condT rfl ?_;refine AC.seq (AC.region ?_);refine AL.p (by exact g_build rfl rfl rfl) rfl ?_;refine zs ?_;refine za ?_;refine AL.nil (th_n (AC.ret (th_r (bq_r ?_))))
  (have h : (goodN a && goodN b) = false := (by rw [(Bool.not_eq_true' _).mp h0]; rfl); rw [unionR_no h]; exact ret0 rfl (by repeat (first | exact DLead.same | exact DLead.nil | exact rfl | refine ⟨_, rfl, ?_⟩ | refine ⟨_, _, rfl, ?_, ?_⟩)))
 refine zy ?_;refine kG ?_;refine zy ?_;refine AL.q (by exact h_pure en_l1Good rfl rfl (by repeat (first | exact rfl | exact DLead.same | refine ⟨_, _, rfl, ?_, ?_⟩ | refine ⟨_, rfl, ?_⟩)) (l1Good_spec _ (by assumption)) rfl) rfl ?_;refine zy ?_;refine kC ?_;refine zP ?_;refine AL.nil (th_n ?_);refine AC.condB rfl (fun h1 => ?_) (fun h1 => ?_)
 ·refine AC.seq (AC.region ?_);refine AL.p (by exact g_build rfl rfl rfl) rfl ?_;refine zs ?_;refine za ?_;refine AL.nil (th_n (AC.ret (th_r (bq_r ?_))))
  (have h : (goodN a && goodN b) = false := (by rw [(Bool.not_eq_true' _).mp h1, Bool.and_false]); rw [unionR_no h]; exact ret0 rfl (by repeat (first | exact DLead.same | exact DLead.nil | exact rfl | refine ⟨_, rfl, ?_⟩ | refine ⟨_, _, rfl, ?_, ?_⟩)))
 refine AC.skip (th_n (AC.seq ?_));have h0' : goodN a = true := by simpa using h0
 have h1' : goodN b = true := by simpa using h1
 have hp1 := good_places h0';have hp2 := good_places h1';refine AC.region ?_;refine kG ?_;refine kU [] en_l1OwnN (l1OwnN_spec a ha) ?_;refine kE ?_;refine zs ?_;refine AL.nil (th_n (AC.seq (AC.region ?_)));refine zF ?_;refine zl ?_;refine zf ?_;refine zr ?_;refine zA ?_;refine zF ?_;refine zs ?_;refine AL.nil (th_n (AC.seq (AC.seq (AC.region ?_))));refine zf ?_;refine zr ?_;refine kH ?_;refine zm ?_;refine AL.nil (th_n (AC.block ?_));refine AC.loop (ι := Nat) (fun k => ⟨55, 128, [(2, .d (.ref (netD a))), (4, .ptr 102 0), (6, .ptr 100 0), (27, .d (vTs b.ts)), (28, aI b.ts.length), (29, aI k)], [(100, some (.cells 74 [aI (a.places + b.places), .own 101 (a.ts.length + k)])), (101, some (.arr 138 2 (tsL (a.ts ++ (b.ts.take k).map (shT a.places))))), (102, some (.cells 74 [aI 0, .d (.val (.slice none 0 0))]))]⟩) (fun k => k ≤ b.ts.length) (fun k => b.ts.length - k) (0) ?_ (Nat.zero_le _) ?_
 ·exact zw [(100, _), (101, _), (102, _)] hC (b := by rw [show a.ts ++ (b.ts.take 0).map (shT a.places) = a.ts from List.append_nil _]; repeat (first | exact True.intro | refine And.intro ?_ ?_ | exact DLead.same | exact rfl | refine ⟨_, _, rfl, rfl, ?_⟩ | refine ⟨_, rfl, ?_⟩ | refine ⟨_, _, rfl, ?_, ?_⟩))
 intro k hk;refine AC.seq (AC.region ?_);refine zc ?_;refine AL.nil (th_n (AC.seq ?_));refine AC.condD rfl (fun h2 => ?_) (fun h2 => ?_)
 ·refine AC.skip (th_n (AC.seq (AC.block (AC.seq ?_))));have hk1 : k < b.ts.length := by omega
  have hget := tsL_get hk1;have hl3 := (hb.t _ (List.getElem_mem hk1)).1;have hl4 := (hb.t _ (List.getElem_mem hk1)).2;have hr1 := (good_far h1' _ (List.getElem_mem hk1)).1;have hr2 := (good_far h1' _ (List.getElem_mem hk1)).2;have htl : (a.ts ++ (b.ts.take k).map (shT a.places)).length = a.ts.length + k := by rw [List.length_append, takeM_len hk]
  refine AC.region ?_;refine AL.p (by exact g_ia_view rfl rfl rfl rfl rfl (by rfl) (by assumption)) rfl ?_;refine kG ?_;refine kE ?_;refine zs ?_;refine AL.nil (th_n ?_);refine AC.drawn' mixed_ok [[], [0], [], [2], [], [4], [2,3,4,5], [], [7], [], [9], [2,3,4,5,6,7,8,9,10], [2,3,4,5,6,7,8,9,10,11], [2,3,4,5,6,7,8,9,10,11,12], [0,1,2,3,4,5,6,7,8,9,10,11,12,13], [0,1,2,3,4,5,6,7,8,9,10,11,12,13,14], [0,1,2,3,4,5,6,7,8,9,10,11,12,13,14,15]] (by decide) ?_;refine zd 0 [] 17 (by exact g_fa_ptr rfl rfl rfl rfl rfl) ?_;refine zd 1 [0] 17 (by exact g_load_ptr rfl rfl rfl rfl rfl) ?_;refine zd 2 [] 17 (by exact g_fa_ptr rfl rfl rfl rfl rfl) ?_;refine zd 3 [2] 17 (by exact g_load_ptr rfl rfl rfl rfl rfl) ?_;refine zd 4 [] 17 (by exact g_fa_ref rfl rfl rfl rfl rfl rfl) ?_;refine zd 5 [4] 17 (by exact g_load_ref rfl rfl rfl) ?_;refine zh 6 [2,3,4,5] 17 (by exact h_pure en_l1Shift rfl rfl (by repeat (first | exact rfl | exact DLead.same | refine ⟨_, _, rfl, ?_, ?_⟩)) (l1Shift_spec _ _ (by assumption) (by assumption) (by assumption)) rfl) ?_;refine zd 7 [] 17 (by exact g_fa_ptr rfl rfl rfl rfl rfl) ?_;refine zd 8 [7] 17 (by exact g_load_ptr rfl rfl rfl rfl rfl) ?_;refine zd 9 [] 17 (by exact g_fa_ref rfl rfl rfl rfl rfl rfl) ?_;refine zd 10 [9] 17 (by exact g_load_ref rfl rfl rfl) ?_;refine zh 11 [2,3,4,5,6,7,8,9,10] 17 (by exact h_pure en_l1Shift rfl rfl (by repeat (first | exact rfl | exact DLead.same | refine ⟨_, _, rfl, ?_, ?_⟩)) (l1Shift_spec _ _ (by assumption) (by assumption) (by assumption)) rfl) ?_;refine zd 12 [2,3,4,5,6,7,8,9,10,11] 17 (by exact g_build rfl rfl rfl) ?_;refine zh 13 [2,3,4,5,6,7,8,9,10,11,12] 17 (by exact h_litF rfl rfl rfl rfl rfl rfl rfl rfl) ?_;refine zh 14 (List.range 14) 17 (by exact h_appendT (a.ts ++ (b.ts.take k).map (shT a.places)) [shT a.places b.ts[k]] (.own rfl rfl (by rw [tsL_len, htl])) (.view rfl) (by rw [List.length_append, htl]; show a.ts.length + k + 1 ≤ _; omega) (by simp)) ?_;refine zd 15 (List.range 15) 17 (by exact g_fa_ptr rfl rfl rfl rfl rfl) ?_;refine zh 16 (List.range 16) 17 (by exact h_store rfl rfl rfl rfl rfl rfl) ?_;refine zj 17 ?_;refine ib_n (th_n (AC.region ?_));refine zA ?_;refine zm ?_;refine AL.nil (th_n ?_);have hl5 : (a.ts ++ (b.ts.take k).map (shT a.places) ++ [shT a.places b.ts[k]]).length = a.ts.length + (k + 1) := by rw [List.length_append, htl]; rfl
  have e6 : a.ts ++ (b.ts.take (k + 1)).map (shT a.places) = a.ts ++ (b.ts.take k).map (shT a.places) ++ [shT a.places b.ts[k]] := by rw [takeM hk1, List.append_assoc]
  exact ⟨k + 1, by omega, by omega, zw [(100, _), (101, _), (102, _)] hC (b := by rw [e6, ← hl5]; repeat (first | exact True.intro | refine And.intro ?_ ?_ | exact DLead.same | exact rfl | refine ⟨_, _, rfl, rfl, ?_⟩ | refine ⟨_, rfl, ?_⟩ | refine ⟨_, _, rfl, ?_, ?_⟩))⟩
 refine AC.exit (th_e (th_e (ib_y (th_n (AC.seq (AC.seq ?_))))));have hkk : k = b.ts.length := by omega
 subst hkk;rw [List.take_length];refine AC.weak (Weak.freezeP (els' := tsL (unionN a b).ts) 6 1 rfl rfl rfl rfl (by rw [tsL_len, List.length_append, List.length_map]; exact Nat.le_refl _) (List.take_of_length_le (by rw [tsL_len, List.length_append, List.length_map]; exact Nat.le_refl _)) rfl) ?_;have hG := l1Good_spec (unionN a b) (unionN_B ha hb h0' h1');have hRR := unionR_yes (a := a) (b := b) (by rw [h0', h1']; rfl);refine AC.region ?_;refine AL.p (by exact g_load_ptrN rfl rfl rfl rfl rfl) rfl ?_;refine kV en_l1Good hG ?_;refine kC ?_;refine AL.nil (th_n ?_);refine AC.condB rfl (fun h3 => ?_) (fun h3 => ?_)
 ·refine AC.seq (AC.region ?_);refine AL.p (by exact g_build rfl rfl rfl) rfl ?_;refine zs ?_;refine za ?_;refine AL.nil (th_n (AC.ret (th_r (bq_r ?_))));have h : goodN (unionN a b) = false := by simpa using h3
  rw [hRR, netOf, h, if_neg Bool.false_ne_true];exact ret0 rfl (by repeat (first | exact DLead.same | exact DLead.nil | exact rfl | refine ⟨_, rfl, ?_⟩ | refine ⟨_, _, rfl, ?_, ?_⟩))
 refine AC.skip (th_n (AC.seq (AC.region ?_)));refine AL.p (by exact g_load_ptrN rfl rfl rfl rfl rfl) rfl ?_;refine zs ?_;refine za ?_;refine AL.nil (th_n (AC.ret (bq_r ?_)));have h : goodN (unionN a b) = true := by simpa using h3
 rw [hRR, netOf, h, if_pos rfl];exact ret0 rfl (by repeat (first | exact DLead.same | exact rfl | refine ⟨_, rfl, ?_⟩ | refine ⟨_, _, rfl, ?_, ?_⟩))
theorem en_sUnion : Enters Tryz.prog 101 := enters_of Tryz.func101 rfl rfl
def shLab (n : Nat) (x : Lab) : Lab := if 0 ≤ x.sig then ⟨x.sig + n, x.up⟩ else x
def zS : Stg := ⟨⟨0, []⟩, [], [], []⟩
def unionT (a b : Stg) : Stg := ⟨(unionR a.net b.net).1, a.sigs ++ b.sigs, a.labs ++ b.labs.map (shLab a.sigs.length), a.start ++ b.start⟩
def unionS (a b : Stg) : Stg × Bool := if ((unionR a.net b.net).2 && (goodS a && goodS b)) && goodS (unionT a b) then (unionT a b, true) else (zS, false)
structure StgB (s : Stg) : Prop where
 n : NetB s.net
 sg : s.sigs.length ≤ 100000
 sn : ∀ t, t ∈ s.sigs → t.name.length ≤ 100000
 l : s.labs.length ≤ 100000
 lb : ∀ x, x ∈ s.labs → -1000000 ≤ x.sig ∧ x.sig ≤ 1000000
 st : s.start.length ≤ 100000
theorem StgB.L {s : Stg} (h : StgB s) : StgL s := ⟨h.n.L, by have := h.sg; omega, fun t ht => by have := h.sn t ht; omega, by have := h.l; omega, by have := h.st; omega⟩
theorem takeLab {f : Lab → Lab} {l : List Lab} {k : Nat} (hk : k < l.length) : (l.take (k + 1)).map f = (l.take k).map f ++ [f l[k]] := by
 rw [List.take_add_one, List.getElem?_eq_getElem hk, List.map_append]; rfl
abbrev stgQ (s : Stg) (j k : Nat) : AV := .agg [aI s.net.places, .d (vTs s.net.ts), .own j s.sigs.length, .own k s.labs.length, aS (bstr s.start)]
set_option maxHeartbeats 8000000 in
theorem sUnionSTGs_own (a b : Stg) (ha : StgB a) (hb : StgB b) (hT : NetL (unionR a.net b.net).1) (hok : (unionS a b).2 = true) : ASpec Tryz.prog 80 [stgA a, stgA b] [] (Fun1 (.tup [stgQ (unionT a b) 0 1, aT true]) [(0, .arr 87 2 (sigsL (unionT a b).sigs)), (1, .arr 115 2 (labsL (unionT a b).labs))]) := by
 have hU := sUnion_spec a.net b.net ha.n hb.n;have hGa := l2Good_spec a ha.L;have hGb := l2Good_spec b hb.L
 have hcond : (((unionR a.net b.net).2 && (goodS a && goodS b)) && goodS (unionT a b)) = true := by
  unfold unionS at hok
  split at hok
  ·assumption
  cases hok
 simp only [Bool.and_eq_true] at hcond;obtain ⟨⟨hc1, hc2, hc3⟩, hc4⟩ := hcond;rw [hc2] at hGa;rw [hc3] at hGb;rw [hc1] at hU;have hsa := ha.sg;have hsb := hb.sg;have hla := ha.l;have hlb := hb.l;have hta := ha.st;have htb := hb.st
 have hGt := l2Good_spec (unionT a b) ⟨hT, by show (a.sigs ++ b.sigs).length ≤ _; rw [List.length_append]; omega, (fun t ht => by
  rcases List.mem_append.1 ht with h | h
  ·have := ha.sn t h; omega
  have := hb.sn t h; omega), by show (a.labs ++ b.labs.map _).length ≤ _; rw [List.length_append, List.length_map]; omega, by show (a.start ++ b.start).length ≤ _; rw [List.length_append]; omega⟩
 rw [hc4] at hGt;have hU1 : unionT a b = ⟨(unionR a.net b.net).1, a.sigs ++ b.sigs, a.labs ++ b.labs.map (shLab a.sigs.length), a.start ++ b.start⟩ := rfl;obtain ⟨U, hUU⟩ := eqx ((unionR a.net b.net).1);rw [← hUU] at hU hU1;obtain ⟨T, hTT⟩ := eqx (unionT a b);rw [← hTT] at hGt hU1 ⊢;clear hTT hUU hT hok;refine ASpec.of Tryz.func80 rfl rfl fun C hC => ?_
 refine AC.seq (AC.region ?_);refine kD ?_;refine kD ?_;refine kE ?_;refine za ?_;refine AL.nil (th_n (AC.seq (AC.region ?_)));refine zf ?_;refine kG ?_;refine zf ?_;refine kG ?_;refine kV en_sUnion hU ?_;refine AL.p (by exact mv5 rfl) rfl ?_;refine AL.p (by exact g_extract (r := .agg _) rfl rfl) rfl ?_;refine AL.p (by exact g_extract (r := .d _) rfl rfl) rfl ?_;refine kE ?_;refine zs ?_;refine za ?_;refine AL.nil (th_n (AC.seq (AC.seq (AC.region ?_))));refine zm ?_;refine kC ?_;refine zm ?_;refine AL.caseGB rfl rfl (fun h0 => ?_) (fun h0 => ?_)
 ·refine zn ?_;refine zn ?_;refine zn ?_;refine zQ ?_;refine zm ?_;refine zn ?_;refine zn ?_;refine zn ?_;refine zQ ?_;refine AL.nil (th_n ?_);refine AC.condT rfl ?_;refine AC.seq ?_;exfalso; simp_all
 refine zy ?_;refine kG ?_;refine zy ?_;refine kV en_l2Good hGa ?_;refine zy ?_;refine kC ?_;refine zP ?_;refine zm ?_;refine AL.caseGB rfl rfl (fun h1 => ?_) (fun h1 => ?_)
 ·refine zn ?_;refine zn ?_;refine zn ?_;refine zQ ?_;refine AL.nil (th_n ?_);refine AC.condT rfl ?_;refine AC.seq ?_;exfalso; simp_all
 refine zy ?_;refine kG ?_;refine zy ?_;refine kV en_l2Good hGb ?_;refine zy ?_;refine kC ?_;refine zP ?_;refine AL.nil (th_n ?_);refine AC.condB rfl (fun h2 => ?_) (fun h2 => ?_)
 ·refine AC.seq ?_;exfalso; simp_all
 refine AC.skip (th_n (AC.seq ?_));refine AC.drawn' mixed_ok [[], [], [], [2], [1,2,3], [], [5], [1,2,3,4,5,6], [], [], [9], [1,2,3,4,5,6,7,8,9,10], [], [12], [], [14], [12,13,14,15], [0,1,2,3,4,5,6,7,8,9,10,11,12,13,14,15,16], [], [0,1,2,3,4,5,6,7,8,9,10,11,12,13,14,15,16,17,18]] (by decide) ?_;refine zd 0 [] 20 (by exact g_load_ptrN rfl rfl rfl rfl rfl) ?_;refine zh 1 [] 20 (by exact h_lit rfl rfl rfl rfl rfl rfl rfl rfl) ?_;refine zd 2 [] 20 (by exact g_fa_ref rfl rfl rfl rfl rfl rfl) ?_;refine zd 3 [2] 20 (by exact g_load_ref rfl rfl rfl) ?_;refine zh 4 [1,2,3] 20 (by exact h_appendSg [] a.sigs (.own rfl rfl rfl) (.view rfl) (by rw [List.nil_append]; omega) (by simp)) ?_;refine zd 5 [] 20 (by exact g_fa_ref rfl rfl rfl rfl rfl rfl) ?_;refine zd 6 [5] 20 (by exact g_load_ref rfl rfl rfl) ?_;refine zh 7 [1,2,3,4,5,6] 20 (by exact h_appendSg a.sigs b.sigs (.own rfl rfl (sigsL_len _).symm) (.view rfl) (by rw [List.length_append]; omega) (by simp)) ?_;refine zh 8 [] 20 (by exact h_lit rfl rfl rfl rfl rfl rfl rfl rfl) ?_;refine zd 9 [] 20 (by exact g_fa_ref rfl rfl rfl rfl rfl rfl) ?_;refine zd 10 [9] 20 (by exact g_load_ref rfl rfl rfl) ?_;refine zh 11 [1,2,3,4,5,6,7,8,9,10] 20 (by exact h_appendLx [] a.labs (.own rfl rfl rfl) (.view rfl) (by rw [List.nil_append]; omega) (by simp)) ?_;refine zd 12 [] 20 (by exact g_fa_ref rfl rfl rfl rfl rfl rfl) ?_;refine zd 13 [12] 20 (by exact g_load_ref rfl rfl rfl) ?_;refine zd 14 [] 20 (by exact g_fa_ref rfl rfl rfl rfl rfl rfl) ?_;refine zd 15 [14] 20 (by exact g_load_ref rfl rfl rfl) ?_;refine zd 16 [12,13,14,15] 20 (by exact g_saddB (a := a.start) (b := b.start) rfl rfl (by omega)) ?_;refine zd 17 (List.range 17) 20 (by exact g_build rfl rfl rfl) ?_;refine zh 18 [] 20 (by exact h_alloc rfl) ?_;refine zh 19 (List.range 19) 20 (by exact h_store rfl rfl rfl rfl rfl rfl) ?_;refine zj 20 ?_;refine th_n (AC.seq (AC.seq (AC.region ?_)));refine zf ?_;refine zr ?_;refine kH ?_;refine zm ?_;refine AL.nil (th_n (AC.block ?_));refine AC.loop (ι := Nat) (fun k => ⟨79, 400, [(2, .d (.ref (stgD a))), (4, .ptr 201 0), (8, .ptr 200 0), (51, .d (vLabs b.labs)), (52, aI b.labs.length), (53, aI k)], [(200, some (.cells 77 [aI U.places, .d (vTs U.ts), .own 101 (a.sigs ++ b.sigs).length, .own 102 (a.labs ++ (b.labs.take k).map (shLab a.sigs.length)).length, aS (bstr (a.start ++ b.start))])), (101, some (.arr 87 2 (sigsL (a.sigs ++ b.sigs)))), (102, some (.arr 115 2 (labsL (a.labs ++ (b.labs.take k).map (shLab a.sigs.length))))), (201, some (.cells 77 zStg))]⟩) (fun k => k ≤ b.labs.length) (fun k => b.labs.length - k) (0) ?_ (Nat.zero_le _) ?_
 ·exact zw [(200, _), (101, _), (102, _), (201, _)] hC (b := by rw [List.take_zero, List.map_nil, List.append_nil a.labs]; repeat (first | exact True.intro | refine And.intro ?_ ?_ | exact DLead.same | exact rfl | refine ⟨_, _, rfl, rfl, ?_⟩ | refine ⟨_, rfl, ?_⟩ | refine ⟨_, _, rfl, ?_, ?_⟩))
 intro k hk;refine AC.seq (AC.region ?_);refine zc ?_;refine AL.nil (th_n (AC.seq ?_));refine AC.condD rfl (fun h3 => ?_) (fun h3 => ?_)
 ·refine AC.skip (th_n (AC.seq (AC.block (AC.seq ?_))));have hk1 : k < b.labs.length := by omega
  have hget := labsL_get hk1;have htk := takeLab (f := shLab a.sigs.length) hk1;have hbd := hb.lb _ (List.getElem_mem hk1);have hacc : (a.labs ++ (b.labs.take k).map (shLab a.sigs.length)).length ≤ 300000 := by rw [List.length_append, List.length_map, List.length_take]; omega
  obtain ⟨acc, hac⟩ := eqx (a.labs ++ (b.labs.take k).map (shLab a.sigs.length));have hnext : a.labs ++ (b.labs.take (k + 1)).map (shLab a.sigs.length) = acc ++ [shLab a.sigs.length b.labs[k]] := by rw [htk, ← List.append_assoc, ← hac]
  rw [← hac] at hacc ⊢;have hsh : shLab a.sigs.length b.labs[k] = if 0 ≤ b.labs[k].sig then ⟨b.labs[k].sig + a.sigs.length, b.labs[k].up⟩ else b.labs[k] := rfl
  obtain ⟨x, hx⟩ := eqx (b.labs[k]);rw [← hx] at hget hbd hsh hnext;refine AC.region ?_;refine AL.p (by exact g_ia_view rfl rfl rfl rfl rfl (by rfl) (by assumption)) rfl ?_;refine kG ?_;refine kE ?_;refine zs ?_;refine AL.nil (th_n ?_);refine AC.cut (fun (_ : Unit) => ⟨79, 600, [(2, .d (.ref (stgD a))), (4, .ptr 201 0), (8, .ptr 200 0), (10, .ptr 202 0), (51, .d (vLabs b.labs)), (52, aI b.labs.length), (53, aI k)], [(200, some (.cells 77 [aI U.places, .d (vTs U.ts), .own 101 (a.sigs ++ b.sigs).length, .own 102 acc.length, aS (bstr (a.start ++ b.start))])), (101, some (.arr 87 2 (sigsL (a.sigs ++ b.sigs)))), (102, some (.arr 115 2 (labsL acc))), (201, some (.cells 77 zStg)), (202, some (.cells 115 [aI (shLab a.sigs.length x).sig, aT (shLab a.sigs.length x).up]))]⟩) (fun _ => True) ?_ ?_
  ·refine AC.seq (AC.region ?_);refine zF ?_;refine zl ?_;refine zc ?_;refine AL.nil (th_n ?_);refine AC.condD rfl (fun h4 => ?_) (fun h4 => ?_)
   ·refine AC.region ?_;refine zF ?_;refine zl ?_;refine zf ?_;refine zr ?_;refine kI a.sigs.length (sigsL_len _) ?_;refine zA ?_;refine zF ?_;refine zs ?_;refine AL.nil (th_n ?_);have e := hsh.trans (if_pos h4);exact ⟨(), trivial, zw [(200, 200), (101, 101), (102, 102), (201, 201), (202, 400)] hC (b := by rw [e]; repeat (first | exact True.intro | refine And.intro ?_ ?_ | exact DLead.same | exact rfl | refine ⟨_, _, rfl, rfl, ?_⟩ | refine ⟨_, rfl, ?_⟩ | refine ⟨_, _, rfl, ?_, ?_⟩))⟩
   refine AC.skip (th_n ?_);have e := hsh.trans (if_neg h4);exact ⟨(), trivial, zw [(200, 200), (101, 101), (102, 102), (201, 201), (202, 400)] hC (b := by rw [e]; repeat (first | exact True.intro | refine And.intro ?_ ?_ | exact DLead.same | exact rfl | refine ⟨_, _, rfl, rfl, ?_⟩ | refine ⟨_, rfl, ?_⟩ | refine ⟨_, _, rfl, ?_, ?_⟩))⟩
  intro _ _;refine AC.region ?_;refine zF ?_;refine zl ?_;refine AL.p (by exact g_load_ptrN rfl rfl rfl rfl rfl) rfl ?_;refine AL.q (by exact h_litF rfl rfl rfl rfl rfl rfl rfl rfl) rfl ?_;refine AL.q (by exact h_appendLx acc [shLab a.sigs.length x] (.own rfl rfl (labsL_len _).symm) (.view rfl) (by rw [List.length_append]; simp only [List.length_cons, List.length_nil]; omega) (by simp)) rfl ?_;refine zF ?_;refine zs ?_;refine AL.nil (ib_n (th_n (AC.region ?_)));refine zA ?_;refine zm ?_;refine AL.nil (th_n ?_);exact ⟨k + 1, by omega, by omega, zw [(200, 200), (101, 101), (102, _), (201, 201)] hC (b := by rw [hnext]; repeat (first | exact True.intro | refine And.intro ?_ ?_ | exact DLead.same | exact rfl | refine ⟨_, _, rfl, rfl, ?_⟩ | refine ⟨_, rfl, ?_⟩ | refine ⟨_, _, rfl, ?_, ?_⟩))⟩
 refine AC.exit (th_e (th_e (ib_y (th_n (AC.seq (AC.seq ?_))))));have hkk : k = b.labs.length := by omega
 subst hkk;rw [List.take_length];obtain ⟨t1, t2, t3, t4⟩ : T.net = U ∧ T.sigs = a.sigs ++ b.sigs ∧ T.labs = a.labs ++ b.labs.map (shLab a.sigs.length) ∧ T.start = a.start ++ b.start := by rw [hU1]; exact ⟨rfl, rfl, rfl, rfl⟩
 rw [← t1, ← t2, ← t3, ← t4];refine AC.region ?_;refine AL.p (by exact g_load_ptrN rfl rfl rfl rfl rfl) rfl ?_;refine AL.q (by exact h_borrow [101, 102] en_l2Good rfl rfl hGt (.cons (.aggs (ds := stgD T) (.cons .d (.cons .d (.cons (.own (id := 101) rfl rfl (ownl _ _) (ownt _ _)) (.cons (.own (id := 102) rfl rfl (ownl _ _) (ownt _ _)) (.cons .d .nil)))))) .nil) rfl) rfl ?_;refine kC ?_;refine AL.nil (th_n ?_);refine AC.condB rfl (fun h4 => ?_) (fun h4 => ?_)
 ·refine AC.seq ?_;exact absurd ‹(!true) = true› (by decide)
 refine AC.skip (th_n (AC.seq (AC.region ?_)));refine AL.p (by exact g_load_ptrN rfl rfl rfl rfl rfl) rfl ?_;refine zs ?_;refine za ?_;refine AL.nil (th_n (AC.ret (bq_r ?_)));exact retN [(0, 101), (1, 102)] rfl (by repeat (first | exact rfl | exact DLead.same | refine ⟨_, _, rfl, ?_, ?_⟩ | refine ⟨_, rfl, ?_⟩)) (by repeat (first | exact True.intro | refine And.intro ?_ ?_ | exact rfl | refine ⟨_, _, rfl, rfl, ?_⟩)) rfl rfl
theorem en_sUnionSTGs : Enters Tryz.prog 80 := enters_of Tryz.func80 rfl rfl
theorem goodS_sigs {s : Stg} (h : goodS s = true) : (1 ≤ s.sigs.length ∧ s.sigs.length ≤ 8) ∧ (∀ x, x ∈ s.sigs → nameB x.name = true) ∧ goodN s.net = true ∧ s.labs.length = s.net.ts.length := by
 simp only [goodS, Bool.and_eq_true, decide_eq_true_eq] at h;obtain ⟨⟨h1, h2⟩, h3, h4, h5⟩ := h;unfold sigsB at h3;rw [Bool.and_eq_true] at h3;have h6 := inI_iff.1 h3.2;refine ⟨by omega, fun x hx => ?_, h1, by omega⟩;obtain ⟨k, hk, rfl⟩ := List.getElem_of_mem hx;have := allK_iff.1 h3.1 k hk;unfold sigK at this;rw [Bool.and_eq_true, sAt_nat hk] at this;exact this.1
section
variable {P : Program} [PT P] {C : Ctx} {s : ASt}
theorem Weak.freezeA {i id k n e sz : Nat} {cs : List AV} {els els' : List (List DV)} (hs : s.get i = .agg cs) (hk : cs[k]? = some (.own id n)) (hc : s.chunk id = some (.arr e sz els)) (hn : n ≤ els.length) (he : els.take n = els') : Weak C s { n := s.n, nx := s.nx, sl := (i, .agg (cs.set k (.d (.view e sz els')))) :: s.sl, ch := (id, none) :: s.ch } := by
 subst he;refine ⟨?_⟩;rintro a w ⟨m, hR⟩
 have hch : ∀ j c, (getL j ((id, none) :: s.ch)).getD none = some c → j ≠ id ∧ s.chunk j = some c := by
  intro j c h;rw [getL_cons] at h
  split at h
  ·simp at h
  rename_i e; exact ⟨e, h⟩
 have hF : ∀ q, Fz C m s w q → Fz C m { n := s.n, nx := s.nx, sl := (i, .agg (cs.set k (.d (.view e sz (els.take n))))) :: s.sl, ch := (id, none) :: s.ch } w q := fun q hq => ⟨hq.1, hq.2.1, fun j c p h1 h2 => hq.2.2 j c p (hch j c h1).2 h2⟩
 obtain ⟨q, hq, hCq, hloc⟩ := hR.ch id _ hc
 have hFb : ∀ b, q.1 = some b → Fz C m { n := s.n, nx := s.nx, sl := (i, .agg (cs.set k (.d (.view e sz (els.take n))))) :: s.sl, ch := (id, none) :: s.ch } w b := by
  intro b hb;refine ⟨.inr (hloc b (.inl hb)), hCq.lt (.inl hb), fun j c p h1 h2 h3 => ?_⟩;obtain ⟨hne, h4⟩ := hch j c h1;exact hne (hR.inj j id c _ p q h4 hc h2 hq b h3 (.inl hb))
 refine ⟨m, hR.fr, hR.fin, hR.sz, fun j => ?_, fun j c h1 => ?_, fun j j' c c' p p' h1 h2 hp hp' b hb hb' => hR.inj j j' c c' p p' (hch j c h1).2 (hch j' c' h2).2 hp hp' b hb hb', hR.un, hR.defers, hR.m0, hR.m0k⟩
 ·show ARep _ _ _ ((getL j ((i, .agg (cs.set k (.d (.view e sz (els.take n))))) :: s.sl)).getD .dead) _;rw [getL_cons]
  by_cases hj : j = i
  ·subst hj;rw [if_pos rfl];have hv := hR.sl j;rw [hs] at hv;generalize a.tmps.getD j undef = v at hv;simp only [Option.getD_some];cases hv with
   | agg g1 g2 g3 =>
    refine .agg (by rw [List.length_set]; exact g1) (fun i' c hc' => ?_) g3
    by_cases hik : k = i'
    ·subst hik;rw [List.getElem?_set_self (List.getElem?_eq_some_iff.1 hk).1] at hc';simp only [Option.some.injEq] at hc';subst hc';exact .d (own_view (g2 k _ hk) hq (hR.chunkAt hc hq) hn hF hFb)
    rw [List.getElem?_set_ne hik] at hc';exact (g2 i' c hc').turn (MLe.refl m) (fun k hk _ => ⟨hF k hk, rfl⟩)
  rw [if_neg hj];exact (hR.sl j).turn (MLe.refl m) (fun k hk _ => ⟨hF k hk, rfl⟩)
 obtain ⟨hne, h4⟩ := hch j c h1;obtain ⟨p, hp, hr, hl⟩ := hR.ch j c h4;exact ⟨p, hp, hr.turn (MLe.refl m) (fun k hk _ => ⟨hF k hk, rfl⟩) (fun _ _ => rfl), hl⟩
theorem Weak.freezeA3 (i : Nat) {id1 id2 id3 n1 n2 n3 e1 e2 e3 z1 z2 z3 : Nat} {x y : AV} {els1 els2 els3 els1' els2' els3' : List (List DV)} (hs : s.get i = .agg [x, .own id1 n1, .own id2 n2, .own id3 n3, y]) (hc1 : s.chunk id1 = some (.arr e1 z1 els1)) (hc2 : s.chunk id2 = some (.arr e2 z2 els2)) (hc3 : s.chunk id3 = some (.arr e3 z3 els3))
  (h12 : Nat.beq id2 id1 = false) (h13 : Nat.beq id3 id1 = false) (h23 : Nat.beq id3 id2 = false) (hn1 : n1 ≤ els1.length) (hn2 : n2 ≤ els2.length) (hn3 : n3 ≤ els3.length) (he1 : els1.take n1 = els1') (he2 : els2.take n2 = els2') (he3 : els3.take n3 = els3') :
  Weak C s { n := s.n, nx := s.nx, sl := (i, .agg [x, .d (.view e1 z1 els1'), .d (.view e2 z2 els2'), .d (.view e3 z3 els3'), y]) :: s.sl, ch := (id3, none) :: (id2, none) :: (id1, none) :: s.ch } := by
 have a1 := Weak.freezeA (C := C) (k := 1) hs rfl hc1 hn1 he1;have g : ∀ (z : AV) (l : List (Nat × AV)) (c : List (Nat × Option Chunk)), ({ n := s.n, nx := s.nx, sl := (i, z) :: l, ch := c } : ASt).get i = z := fun z l c => by show (getL i ((i, z) :: l)).getD .dead = z; rw [getL_cons, if_pos rfl]; rfl
 have k2 : ∀ (l : List (Nat × AV)), ({ n := s.n, nx := s.nx, sl := l, ch := (id1, none) :: s.ch } : ASt).chunk id2 = some (.arr e2 z2 els2) := fun l => by show (getL id2 ((id1, none) :: s.ch)).getD none = _; rw [getL_cons, if_neg (Nat.ne_of_beq_eq_false h12)]; exact hc2
 have k3 : ∀ (l : List (Nat × AV)), ({ n := s.n, nx := s.nx, sl := l, ch := (id2, none) :: (id1, none) :: s.ch } : ASt).chunk id3 = some (.arr e3 z3 els3) := fun l => by show (getL id3 ((id2, none) :: (id1, none) :: s.ch)).getD none = _; rw [getL_cons, if_neg (Nat.ne_of_beq_eq_false h23), getL_cons, if_neg (Nat.ne_of_beq_eq_false h13)]; exact hc3
 have a2 := Weak.freezeA (C := C) (k := 2) (cs := [x, .d (.view e1 z1 els1'), .own id2 n2, .own id3 n3, y]) (g _ s.sl ((id1, none) :: s.ch)) rfl (k2 _) hn2 he2;have a3 := Weak.freezeA (C := C) (k := 3) (cs := [x, .d (.view e1 z1 els1'), .d (.view e2 z2 els2'), .own id3 n3, y]) (g _ ((i, .agg [x, .d (.view e1 z1 els1'), .own id2 n2, .own id3 n3, y]) :: s.sl) ((id2, none) :: (id1, none) :: s.ch)) rfl (k3 _) hn3 he3;refine ((a1.trans a2).trans a3).trans ⟨fun a w h => h.weak rfl (Nat.le_refl _) (fun j => .inr ?_) (fun j c h => h)⟩;show (getL j (_ :: _)).getD AV.dead = (getL j (_ :: _ :: _ :: _)).getD AV.dead;rw [getL_cons, getL_cons]
 split
 ·rfl
 rename_i hne; rw [getL_cons, if_neg hne, getL_cons, if_neg hne]
end
section
variable {P : Program} [PT P] {s : ASt} {dst : Option Nat} {ty : Nat} {pos : String} {af : Array Edge} {gd : Option (Nat × Bool)} {x y : Operand} {xt yt : Nat}
theorem g_eqBr {a : Bool} {n bt : Nat} {zs : List ZK} (ht : PT.ty P xt = some ⟨.bool, n, bt, zs⟩) (hx : s.ev x = aT a) (hy : s.ev y = aT a) : GOp P [] s ⟨dst, .binOp .eql xt x y yt, ty, pos, af, gd⟩ (aT true) := by
 have h := g_eqB (P := P) (dst := dst) (ty := ty) (pos := pos) (af := af) (gd := gd) (yt := yt) ht hx hy
 rwa [beq_self_eq_true] at h
theorem g_neBr {a : Bool} {n bt : Nat} {zs : List ZK} (ht : PT.ty P xt = some ⟨.bool, n, bt, zs⟩) (hx : s.ev x = aT a) (hy : s.ev y = aT a) : GOp P [] s ⟨dst, .binOp .neq xt x y yt, ty, pos, af, gd⟩ (aT false) := by
 have h := g_neB (P := P) (dst := dst) (ty := ty) (pos := pos) (af := af) (gd := gd) (yt := yt) ht hx hy
 rwa [beq_self_eq_true] at h
theorem g_eqIr {k : IntKind} {a b : Int} (hx : s.ev x = .d (.val (.int k a))) (hy : s.ev y = .d (.val (.int k b))) (h : a = b) : GOp P [] s ⟨dst, .binOp .eql xt x y yt, ty, pos, af, gd⟩ (aT true) := g_cmp hx hy (by show some (decide (a = b)) = _; rw [decide_eq_true h])
theorem g_ltF {k : IntKind} {a b : Int} (hx : s.ev x = .d (.val (.int k a))) (hy : s.ev y = .d (.val (.int k b))) (h : ¬ a < b) : GOp P [] s ⟨dst, .binOp .lss xt x y yt, ty, pos, af, gd⟩ (aT false) := g_cmp hx hy (by show some (decide (a < b)) = _; rw [decide_eq_false h])
theorem g_geF {k : IntKind} {a b : Int} (hx : s.ev x = .d (.val (.int k a))) (hy : s.ev y = .d (.val (.int k b))) (h : a < b) : GOp P [] s ⟨dst, .binOp .geq xt x y yt, ty, pos, af, gd⟩ (aT false) := g_cmp hx hy (by show some (decide (b ≤ a)) = _; rw [decide_eq_false (by omega)])
end
structure Mv where
 from_ : Int
 by_ : Int
 to_ : Int
abbrev mvD (d : Mv) : List DV := [dI d.from_, dI d.by_, dI d.to_]
abbrev mvL (l : List Mv) : List (List DV) := l.map mvD
abbrev vMvs (l : List Mv) : DV := .view 113 3 (mvL l)
theorem mvL_len (l : List Mv) : (mvL l).length = l.length := List.length_map _
theorem mvL_get {l : List Mv} {k : Nat} (h : k < l.length) : (mvL l)[k]? = some [dI l[k].from_, dI l[k].by_, dI l[k].to_] := by rw [List.getElem?_map, List.getElem?_eq_getElem h]; rfl
theorem h_appendMv (acc new : List Mv) {s : ASt} {dst : Option Nat} {ty : Nat} {pos : String} {af : Array Edge} {gd : Option (Nat × Bool)} {x y : Operand} {f : Nat} {ids ids2 : List Nat} {gone : List (Nat × Option Chunk)}
  (hto : AppTo s x 113 3 (mvL acc) ids gone) (harg : AppArg s y 3 (mvL new) ids2) (h : (acc ++ new).length ≤ 100000000) (hnew : gone = [] → 0 < new.length) :
  NOp Tryz.prog (ids ++ ids2) s ⟨dst, .call { callee := .builtin .append, args := #[x, y], argTypes := #[104, 104] }, ty, pos, af, gd⟩ f ⟨.own f (acc ++ new).length, (f, some (.arr 113 3 (mvL (acc ++ new)))) :: gone⟩ := by
 have := h_append (P := Tryz.prog) (s := s) (dst := dst) (ty := ty) (pos := pos) (af := af) (gd := gd) (x := x) (y := y) (f := f) (t := 104) (tx := 104) (k := (acc ++ new).length) rfl rfl rfl rfl rfl rfl hto harg (by simp) (by omega) (by show (acc ++ new).length * 24 ≤ _; omega) (fun h => by rw [mvL_len]; exact hnew h)
 rwa [← List.map_append] at this
abbrev tsX (l : List (List UInt8)) : List (List DV) := l.map (fun s => [dS (bstr s)])
theorem tsX_len (l : List (List UInt8)) : (tsX l).length = l.length := List.length_map _
theorem tsX_get {l : List (List UInt8)} {k : Nat} (h : k < l.length) : (tsX l)[k]? = some [dS (bstr l[k])] := by rw [List.getElem?_map, List.getElem?_eq_getElem h]; rfl
theorem h_appendX (acc new : List (List UInt8)) {s : ASt} {dst : Option Nat} {ty : Nat} {pos : String} {af : Array Edge} {gd : Option (Nat × Bool)} {x y : Operand} {f : Nat} {ids ids2 : List Nat} {gone : List (Nat × Option Chunk)}
  (hto : AppTo s x 9 1 (tsX acc) ids gone) (harg : AppArg s y 1 (tsX new) ids2) (h : (acc ++ new).length ≤ 100000000) (hnew : gone = [] → 0 < new.length) :
  NOp Tryz.prog (ids ++ ids2) s ⟨dst, .call { callee := .builtin .append, args := #[x, y], argTypes := #[37, 37] }, ty, pos, af, gd⟩ f ⟨.own f (acc ++ new).length, (f, some (.arr 9 1 (tsX (acc ++ new)))) :: gone⟩ := by
 have := h_append (P := Tryz.prog) (s := s) (dst := dst) (ty := ty) (pos := pos) (af := af) (gd := gd) (x := x) (y := y) (f := f) (t := 37) (tx := 37) (k := (acc ++ new).length) rfl rfl rfl rfl rfl rfl hto harg (by simp) (by omega) (by show (acc ++ new).length * 16 ≤ _; omega) (fun h => by rw [tsX_len]; exact hnew h)
 rwa [← List.map_append] at this
structure Ex where
 marks : List (List UInt8)
 moves : List Mv
def posL (m : List UInt8) : List (List UInt8) → Option Nat
 | [] => none
 | a :: l => if m = a then some 0 else (posL m l).map (· + 1)
theorem posL_lt {m : List UInt8} : ∀ {l : List (List UInt8)} {i : Nat}, posL m l = some i → i < l.length
 | [], i, h => by cases h
 | a :: l, i, h => by
  rw [posL] at h
  split at h
  ·cases h; simp
  cases hp : posL m l with
  | none => rw [hp] at h; cases h
  | some j =>
   rw [hp] at h;cases h;have := posL_lt hp;simpa using this
def mkAt (x : Ex) (k : Nat) : List UInt8 := x.marks.getD k []
theorem mkAt_nat {x : Ex} {k : Nat} (h : k < x.marks.length) : mkAt x k = x.marks[k] := by unfold mkAt; rw [List.getD_eq_getElem?_getD, List.getElem?_eq_getElem h]; rfl
def exIn (N : Net) (k : Nat) (m : List UInt8) : List Int → Ex → Ex × Option (Int × Int)
 | [], x => (x, none)
 | t :: ts, x =>
  if (fireI N m t).2 = true then
   match posL (fireI N m t).1 x.marks with
   | some i => exIn N k m ts ⟨x.marks, x.moves ++ [⟨k, t, i⟩]⟩
   | none => if x.marks.length = 300 then (x, some (-1, -1)) else exIn N k m ts ⟨x.marks ++ [(fireI N m t).1], x.moves ++ [⟨k, t, x.marks.length⟩]⟩
  else (x, some ((k : Int), t))
def exOut (N : Net) : Nat → Nat → Ex → Ex × Option (Int × Int)
 | 0, _, x => (x, none)
 | n + 1, k, x => if k < x.marks.length then
   (match exIn N k (mkAt x k) (readyL N (mkAt x k) N.ts.length) x with
   | (y, none) => exOut N n (k + 1) y
   | r => r) else (x, none)
theorem exOut_end {N : Net} {n k : Nat} {x : Ex} {F : Ex × Option (Int × Int)} (hn : 0 < n) (hk : ¬ k < x.marks.length) (h : exOut N n k x = F) : (x, none) = F := by
 obtain ⟨q, rfl⟩ : ∃ q, n = q + 1 := ⟨n - 1, by omega⟩;rw [exOut, if_neg hk] at h;exact h
def explR (N : Net) (start : List UInt8) : Ex × Option (Int × Int) := exOut N 301 0 ⟨[start], []⟩
def exB (r : Ex × Option (Int × Int)) : Bool := match r.2 with | some _ => false | none => true
abbrev rgA (x : Ex) : AV := .agg [.d (.view 9 1 (tsX x.marks)), .d (vMvs x.moves)]
abbrev rgD (x : Ex) : List DV := [.view 9 1 (tsX x.marks), vMvs x.moves]
abbrev rgC (x : Ex) : List AV := [.d (.view 9 1 (tsX x.marks)), .d (vMvs x.moves)]
abbrev zRG : List AV := [.d (.val (.slice none 0 0)), .d (.val (.slice none 0 0))]
structure ExI (N : Net) (x : Ex) (q : Nat) : Prop where
 n : x.marks.length ≤ 300
 b : ∀ m, m ∈ x.marks → bitsB m N.places = true
 l : x.moves.length ≤ q
theorem ExI.len {N : Net} {x : Ex} {q : Nat} (h : ExI N x q) (hp : N.places ≤ 30) : ∀ m, m ∈ x.marks → m.length ≤ 30 := fun m hm => by have := bits_len (h.b m hm); omega
theorem exIn_I {N : Net} {k : Nat} {m : List UInt8} (hm : bitsB m N.places = true) : ∀ (L : List Int) {x : Ex} {q : Nat}, ExI N x q → ExI N (exIn N k m L x).1 (q + L.length)
 | [], x, q, h => h
 | t :: ts, x, q, h => by
  rw [exIn]
  split
  ·rename_i hf;have hb := fireI_bits (N := N) hm hf
   split
   ·rename_i i he;have := exIn_I (k := k) hm ts (x := ⟨x.marks, x.moves ++ [⟨k, t, (i : Int)⟩]⟩) (q := q + 1) ⟨h.n, h.b, by show (x.moves ++ _).length ≤ _; rw [List.length_append]; have := h.l; simp only [List.length_cons, List.length_nil]; omega⟩;rw [List.length_cons, show q + (ts.length + 1) = q + 1 + ts.length by omega];exact this
   split
   ·exact ⟨h.n, h.b, by have := h.l; dsimp only; omega⟩
   rename_i hn;have := exIn_I (k := k) hm ts (x := ⟨x.marks ++ [(fireI N m t).1], x.moves ++ [⟨k, t, x.marks.length⟩]⟩) (q := q + 1) ⟨by show (x.marks ++ _).length ≤ _; rw [List.length_append]; have := h.n; simp only [List.length_cons, List.length_nil]; omega, fun a ha => (List.mem_append.1 ha).elim (h.b a) (fun h => by rw [List.mem_singleton.1 h]; exact hb), by show (x.moves ++ _).length ≤ _; rw [List.length_append]; have := h.l; simp only [List.length_cons, List.length_nil]; omega⟩;rw [List.length_cons, show q + (ts.length + 1) = q + 1 + ts.length by omega];exact this
  exact ⟨h.n, h.b, by have := h.l; dsimp only; omega⟩
theorem exOut_I {N : Net} (hN : N.ts.length ≤ 24) : ∀ (n k : Nat) {x : Ex} {q : Nat}, ExI N x q → ExI N (exOut N n k x).1 (q + 24 * n)
 | 0, k, x, q, h => h
 | n + 1, k, x, q, h => by
  rw [exOut]
  split
  ·rename_i hk;have hm := h.b _ (List.getElem_mem hk);rw [← mkAt_nat hk] at hm;have hL := readyL_len N (mkAt x k) N.ts.length;have h1 := exIn_I (k := k) hm (readyL N (mkAt x k) N.ts.length) h
   split
   ·rename_i y e;rw [e] at h1;have := exOut_I hN n (k + 1) (x := y) (q := q + 24) ⟨h1.n, h1.b, by have := h1.l; dsimp only at this; omega⟩;rw [show q + 24 * (n + 1) = q + 24 + 24 * n by omega];exact this
   exact ⟨h1.n, h1.b, by have := h1.l; omega⟩
  exact ⟨h.n, h.b, by have := h.l; dsimp only; omega⟩
def explS (s : Stg) : Ex × Bool := if (goodS s && exB (explR s.net s.start)) = true then ((explR s.net s.start).1, true) else (⟨[], []⟩, false)
theorem explS_in (s : Stg) : (explS s).1.marks.length ≤ 300 ∧ (explS s).1.moves.length ≤ 10000 := by
 unfold explS
 split
 ·rename_i h;have hg := (Bool.and_eq_true_iff.1 h).1
  have h1 : goodN s.net = true ∧ bitsB s.start s.net.places = true := by
   simp only [goodS, Bool.and_eq_true] at hg;exact hg.1
  have := exOut_I (good_places h1.1).2.2 301 0 (x := ⟨[s.start], []⟩) (q := 0) ⟨by show 1 ≤ 300; omega, fun m hm => by rw [List.mem_singleton.1 hm]; exact h1.2, Nat.le_refl _⟩;exact ⟨this.n, Nat.le_trans this.l (by omega)⟩
 exact ⟨Nat.zero_le _, Nat.zero_le _⟩
theorem filt_take {α : Type} {p : α → Bool} {l : List α} {k : Nat} (hk : k < l.length) : (l.take (k + 1)).filter (fun x => !p x) = (l.take k).filter (fun x => !p x) ++ (if p l[k] = true then [] else [l[k]]) := by
 rw [List.take_add_one, List.getElem?_eq_getElem hk, List.filter_append];congr 1;cases h : p l[k] <;> simp [h]
structure DelI {α : Type} (p : α → Bool) (l : List α) (i j : Nat) (e : List α) : Prop where
 len : e.length = l.length
 lt : i < j
 le : j ≤ l.length
 kept : e.take i = (l.take j).filter fun x => !p x
 rest : e.drop j = l.drop j
theorem DelI.get {α : Type} {p : α → Bool} {l e : List α} {i j : Nat} (h : DelI p l i j e) (hj : j < l.length) : e[j]? = some l[j] := by
 have : (e.drop j)[0]? = (l.drop j)[0]? := by rw [h.rest]
 rw [List.getElem?_drop, List.getElem?_drop, Nat.add_zero, List.getElem?_eq_getElem hj] at this;exact this
theorem DelI.skip {α : Type} {p : α → Bool} {l e : List α} {i j : Nat} (h : DelI p l i j e) (hj : j < l.length) (hp : p l[j] = true) : DelI p l i (j + 1) e :=
 ⟨h.len, by have := h.lt; omega, hj, by rw [filt_take hj, if_pos hp, List.append_nil]; exact h.kept, by
  have : (e.drop j).drop 1 = (l.drop j).drop 1 := by rw [h.rest]
  rwa [List.drop_drop, List.drop_drop] at this⟩
theorem DelI.move {α : Type} {p : α → Bool} {l e : List α} {i j : Nat} (h : DelI p l i j e) (hj : j < l.length) (hp : p l[j] = false) : DelI p l (i + 1) (j + 1) (e.set i l[j]) := by
 have h1 := h.len;have h2 := h.lt;refine ⟨by rw [List.length_set]; exact h1, by omega, hj, ?_, ?_⟩
 ·rw [filt_take hj, if_neg (by rw [hp]; simp), ← h.kept, List.take_add_one, List.take_set_of_le (Nat.le_refl _), List.getElem?_set_self (by omega)]
  rfl
 rw [List.drop_set_of_lt (by omega)];have : (e.drop j).drop 1 = (l.drop j).drop 1 := by rw [h.rest]
 rwa [List.drop_drop, List.drop_drop] at this
abbrev zMv : Mv := ⟨0, 0, 0⟩
def byF (L : List Mv) (i : Nat) : Mv := (L.find? fun v => decide (v.to_ = (i : Int))).getD zMv
def byL (x : Ex) : List Mv := zMv :: (List.range (x.marks.length - 1)).map fun i => byF x.moves (i + 1)
theorem byL_len {x : Ex} (h : 0 < x.marks.length) : (byL x).length = x.marks.length := by unfold byL; simp; omega
structure ByI (N : Net) (x : Ex) (k : Nat) : Prop where
 pos : 0 < x.marks.length
 inn : ∀ v, v ∈ x.moves → 0 ≤ v.from_ ∧ v.from_ < x.marks.length ∧ 0 ≤ v.to_ ∧ v.to_ < x.marks.length ∧ v.from_ ≤ k ∧ 0 ≤ v.by_ ∧ v.by_ < N.ts.length
 met : ∀ (i : Nat), 1 ≤ i → i < x.marks.length → ∃ v, x.moves.find? (fun v => decide (v.to_ = (i : Int))) = some v ∧ v.from_ < i
theorem ByI.start (N : Net) (m : List UInt8) : ByI N ⟨[m], []⟩ 0 := ⟨Nat.zero_lt_one, fun v h => by simp at h, fun i h1 h2 => by simp at h2; omega⟩
theorem ByI.known {N : Net} {x : Ex} {k : Nat} (h : ByI N x k) {t : Int} {i : Nat} (hk : k < x.marks.length) (hi : i < x.marks.length) (ht : 0 ≤ t ∧ t < N.ts.length) : ByI N ⟨x.marks, x.moves ++ [⟨k, t, i⟩]⟩ k := by
 refine ⟨h.pos, fun v hv => ?_, fun j h1 h2 => ?_⟩
 ·rcases List.mem_append.1 hv with g | g
  ·exact h.inn v g
  rw [List.mem_singleton.1 g]; dsimp only; omega
 obtain ⟨v, hv, hf⟩ := h.met j h1 h2;exact ⟨v, by dsimp only; rw [List.find?_append, hv]; rfl, hf⟩
theorem ByI.known_by {N : Net} {x : Ex} {k : Nat} (h : ByI N x k) {t : Int} {i : Nat} : byL ⟨x.marks, x.moves ++ [⟨k, t, i⟩]⟩ = byL x := by
 unfold byL;congr 1;refine List.map_congr_left fun j hj => ?_
 obtain ⟨v, hv, _⟩ := h.met (j + 1) (by omega) (by have := List.mem_range.1 hj; dsimp only at this; omega);unfold byF;rw [List.find?_append, hv]
 rfl
theorem ByI.none {N : Net} {x : Ex} {k : Nat} (h : ByI N x k) : x.moves.find? (fun v => decide (v.to_ = (x.marks.length : Int))) = none := by
 rw [List.find?_eq_none];intro v hv;have := h.inn v hv;simp only [decide_eq_true_eq];omega
theorem ByI.new {N : Net} {x : Ex} {k : Nat} (h : ByI N x k) {t : Int} {m : List UInt8} (hk : k < x.marks.length) (ht : 0 ≤ t ∧ t < N.ts.length) : ByI N ⟨x.marks ++ [m], x.moves ++ [⟨k, t, x.marks.length⟩]⟩ k := by
 refine ⟨by dsimp only; rw [List.length_append]; simp, fun v hv => ?_, fun j h1 h2 => ?_⟩
 ·dsimp only;rw [List.length_append, List.length_singleton];rcases List.mem_append.1 hv with g | g
  ·have := h.inn v g; omega
  rw [List.mem_singleton.1 g]; dsimp only; omega
 dsimp only at h2 ⊢;rw [List.length_append, List.length_singleton] at h2;rcases Nat.lt_or_ge j x.marks.length with g | g
 ·obtain ⟨v, hv, hf⟩ := h.met j h1 g;exact ⟨v, by rw [List.find?_append, hv]; rfl, hf⟩
 obtain rfl : j = x.marks.length := by omega
 refine ⟨⟨k, t, x.marks.length⟩, by rw [List.find?_append, h.none]; simp, ?_⟩;dsimp only; omega
theorem ByI.new_by {N : Net} {x : Ex} {k : Nat} (h : ByI N x k) {t : Int} {m : List UInt8} : byL ⟨x.marks ++ [m], x.moves ++ [⟨k, t, x.marks.length⟩]⟩ = byL x ++ [⟨k, t, x.marks.length⟩] := by
 obtain ⟨n, hn⟩ : ∃ n, x.marks.length = n + 1 := ⟨x.marks.length - 1, by have := h.pos; omega⟩;unfold byL;dsimp only;rw [List.length_append, List.length_singleton, hn, Nat.add_sub_cancel, Nat.add_sub_cancel, List.range_succ, List.map_append, List.cons_append];congr 2
 ·refine List.map_congr_left fun j hj => ?_
  obtain ⟨v, hv, _⟩ := h.met (j + 1) (by omega) (by have := List.mem_range.1 hj; omega);unfold byF;rw [List.find?_append, hv]
  rfl
 rw [List.map_singleton];unfold byF;rw [← hn, List.find?_append, h.none];simp
theorem ByI.up {N : Net} {x : Ex} {k : Nat} (h : ByI N x k) : ByI N x (k + 1) := ⟨h.pos, fun v hv => by have := h.inn v hv; omega, h.met⟩
theorem exIn_By {N : Net} {k : Nat} {m : List UInt8} : ∀ (L : List Int) {x : Ex}, (∀ t, t ∈ L → 0 ≤ t ∧ t < N.ts.length) → k < x.marks.length → ByI N x k → ByI N (exIn N k m L x).1 k ∧ k < (exIn N k m L x).1.marks.length
 | [], x, _, hk, h => ⟨h, hk⟩
 | t :: ts, x, hL, hk, h => by
  have ht := hL t (List.mem_cons_self ..);have hT : ∀ u, u ∈ ts → 0 ≤ u ∧ u < N.ts.length := fun u hu => hL u (List.mem_cons_of_mem _ hu)
  rw [exIn]
  split
  ·split
   ·rename_i i he;exact exIn_By ts hT hk (h.known hk (posL_lt he) ht)
   split
   ·exact ⟨h, hk⟩
   exact exIn_By ts hT (by dsimp only; rw [List.length_append]; omega) (h.new hk ht)
  exact ⟨h, hk⟩
theorem readyL_in (N : Net) (m : List UInt8) (n : Nat) (t : Int) (ht : t ∈ readyL N m n) : 0 ≤ t ∧ t < N.ts.length := by
 unfold readyL at ht;obtain ⟨k, hk, rfl⟩ := List.mem_map.1 ht;have h := (List.mem_filter.1 hk).2;cases e : N.ts[k]? with
 | none => rw [e] at h; cases h
 | some u =>
  have := (List.getElem?_eq_some_iff.1 e).1;omega
theorem exOut_By {N : Net} : ∀ (n k : Nat) {x : Ex}, ByI N x k → ∃ k', ByI N (exOut N n k x).1 k'
 | 0, k, x, h => ⟨k, h⟩
 | n + 1, k, x, h => by
  rw [exOut]
  split
  ·rename_i hk;have h1 := exIn_By (m := mkAt x k) (readyL N (mkAt x k) N.ts.length) (readyL_in _ _ _) hk h
   split
   ·rename_i y e;rw [e] at h1;exact exOut_By n (k + 1) h1.1.up
   exact ⟨k, h1.1⟩
  exact ⟨k, h⟩
theorem explR_By (N : Net) (m : List UInt8) : ∃ k', ByI N (explR N m).1 k' := exOut_By 301 0 (ByI.start N m)
theorem nodup_snoc {α : Type} {l : List α} {a : α} : (l ++ [a]).Nodup ↔ l.Nodup ∧ a ∉ l := by
 rw [List.nodup_append];simp only [List.nodup_cons, List.not_mem_nil, not_false_eq_true, List.nodup_nil, and_self, true_and, List.mem_singleton];constructor
 ·rintro ⟨h1, h2⟩;exact ⟨h1, fun h => h2 a h a rfl rfl⟩
 rintro ⟨h1, h2⟩;exact ⟨h1, fun x hx y hy e => h2 (by rw [← hy, ← e]; exact hx)⟩
theorem posL_none {m : List UInt8} : ∀ {l : List (List UInt8)}, posL m l = none ↔ m ∉ l
 | [] => by simp [posL]
 | a :: l => by
  rw [posL]
  split
  ·rename_i e; simp [e]
  rename_i e;have := posL_none (m := m) (l := l);cases hp : posL m l with
  | none => simp only [Option.map_none, true_iff]; rw [List.mem_cons]; exact fun h => h.elim e (this.1 hp)
  | some i => simp only [Option.map_some, reduceCtorEq, false_iff]; intro h; exact absurd (this.2 fun q => h (List.mem_cons_of_mem _ q)) (by rw [hp]; simp)
theorem posL_get {m : List UInt8} : ∀ {l : List (List UInt8)} {i : Nat}, posL m l = some i → l[i]? = some m
 | [], i, h => by cases h
 | a :: l, i, h => by
  rw [posL] at h
  split at h
  ·rename_i e; cases h; rw [e]; rfl
  cases hp : posL m l with
  | none => rw [hp] at h; cases h
  | some j => rw [hp] at h; cases h; have := posL_get hp; simpa using this
def mvIn (n : Nat) (v : Mv) : Bool := ((decide (0 ≤ v.from_) && decide (v.from_ ≤ (n : Int) - 1)) && (decide (0 ≤ v.to_) && decide (v.to_ ≤ (n : Int) - 1))) && (decide (0 ≤ v.by_) && decide (v.by_ ≤ 23))
theorem mvIn_iff {n : Nat} {v : Mv} : mvIn n v = true ↔ (0 ≤ v.from_ ∧ v.from_ < n) ∧ (0 ≤ v.to_ ∧ v.to_ < n) ∧ 0 ≤ v.by_ ∧ v.by_ ≤ 23 := by
 unfold mvIn;simp only [Bool.and_eq_true, decide_eq_true_eq];omega
def goodR (x : Ex) : Bool := (decide (1 ≤ x.marks.length) && decide (x.marks.length ≤ 300)) && (decide (x.moves.length ≤ 4000) && (decide x.marks.Nodup && x.moves.all (mvIn x.marks.length)))
theorem goodR_iff {x : Ex} : goodR x = true ↔ (1 ≤ x.marks.length ∧ x.marks.length ≤ 300) ∧ x.moves.length ≤ 4000 ∧ x.marks.Nodup ∧ ∀ v, v ∈ x.moves → mvIn x.marks.length v = true := by
 unfold goodR;simp only [Bool.and_eq_true, decide_eq_true_eq, List.all_eq_true]
def Fires (N : Net) (x : Ex) (v : Mv) : Prop := ∃ f t : Nat, v.from_ = f ∧ v.to_ = t ∧ f < x.marks.length ∧ t < x.marks.length ∧ fireI N (mkAt x f) v.by_ = (mkAt x t, true)
def fromL (x : Ex) (j : Nat) : List Mv := x.moves.filter fun v => decide (v.from_ = (j : Int))
structure ClI (N : Net) (x : Ex) (k : Nat) (done : List Int) : Prop where
 nd : x.marks.Nodup
 le : ∀ v, v ∈ x.moves → 0 ≤ v.from_ ∧ v.from_ ≤ k
 ok : ∀ v, v ∈ x.moves → Fires N x v
 old : ∀ j, j < k → (fromL x j).map Mv.by_ = readyL N (mkAt x j) N.ts.length
 cur : (fromL x k).map Mv.by_ = done
theorem mkAt_push {x : Ex} {m : List UInt8} {M : List Mv} {j : Nat} (h : j < x.marks.length) : mkAt ⟨x.marks ++ [m], M⟩ j = mkAt x j := by
 unfold mkAt;rw [List.getD_eq_getElem?_getD, List.getD_eq_getElem?_getD, List.getElem?_append_left h]
theorem mkAt_last {x : Ex} {m : List UInt8} {M : List Mv} : mkAt ⟨x.marks ++ [m], M⟩ x.marks.length = m := by
 unfold mkAt;rw [List.getD_eq_getElem?_getD, List.getElem?_append_right (Nat.le_refl _), Nat.sub_self]; rfl
theorem fromL_push {x : Ex} {M : List (List UInt8)} {v : Mv} {j : Nat} : fromL ⟨M, x.moves ++ [v]⟩ j = fromL x j ++ (if v.from_ = (j : Int) then [v] else []) := by
 unfold fromL;rw [List.filter_append];congr 1
 by_cases h : v.from_ = (j : Int) <;> simp [h]
theorem ClI.known {N : Net} {x : Ex} {k : Nat} {done : List Int} (h : ClI N x k done) (hk : k < x.marks.length) {t : Int} {i : Nat} (hf : (fireI N (mkAt x k) t).2 = true) (hp : posL (fireI N (mkAt x k) t).1 x.marks = some i) : ClI N ⟨x.marks, x.moves ++ [⟨k, t, i⟩]⟩ k (done ++ [t]) := by
 have hi := posL_lt hp;have hg := posL_get hp;refine ⟨h.nd, fun v hv => ?_, fun v hv => ?_, fun j hj => ?_, ?_⟩
 ·rcases List.mem_append.1 hv with g | g
  ·exact h.le v g
  rw [List.mem_singleton.1 g]; dsimp only; omega
 ·rcases List.mem_append.1 hv with g | g
  ·exact h.ok v g
  rw [List.mem_singleton.1 g];refine ⟨k, i, rfl, rfl, hk, hi, ?_⟩;show fireI N (mkAt x k) t = (mkAt x i, true)
  have e : mkAt x i = (fireI N (mkAt x k) t).1 := by
   rw [mkAt_nat hi];rw [List.getElem?_eq_getElem hi] at hg;exact Option.some.inj hg
  rw [e, ← hf]
 ·rw [fromL_push, if_neg (by show ¬ (k : Int) = j; omega), List.append_nil];exact h.old j hj
 rw [fromL_push, if_pos rfl, List.map_append, h.cur]; rfl
theorem ClI.new {N : Net} {x : Ex} {k : Nat} {done : List Int} (h : ClI N x k done) (hk : k < x.marks.length) {t : Int} (hf : (fireI N (mkAt x k) t).2 = true) (hp : posL (fireI N (mkAt x k) t).1 x.marks = none) : ClI N ⟨x.marks ++ [(fireI N (mkAt x k) t).1], x.moves ++ [⟨k, t, x.marks.length⟩]⟩ k (done ++ [t]) := by
 refine ⟨nodup_snoc.2 ⟨h.nd, posL_none.1 hp⟩, fun v hv => ?_, fun v hv => ?_, fun j hj => ?_, ?_⟩
 ·rcases List.mem_append.1 hv with g | g
  ·exact h.le v g
  rw [List.mem_singleton.1 g]; dsimp only; omega
 ·rcases List.mem_append.1 hv with g | g
  ·obtain ⟨f, u, h1, h2, h3, h4, h5⟩ := h.ok v g;refine ⟨f, u, h1, h2, by dsimp only; rw [List.length_append]; omega, by dsimp only; rw [List.length_append]; omega, ?_⟩;rw [mkAt_push h3, mkAt_push h4]; exact h5
  rw [List.mem_singleton.1 g];refine ⟨k, x.marks.length, rfl, rfl, by dsimp only; rw [List.length_append]; omega, by dsimp only; rw [List.length_append]; simp, ?_⟩;rw [mkAt_push hk, mkAt_last];show fireI N (mkAt x k) t = _;rw [← hf]
 ·rw [fromL_push, if_neg (by show ¬ (k : Int) = j; omega), List.append_nil, mkAt_push (by omega)];exact h.old j hj
 rw [fromL_push, if_pos rfl, List.map_append];show (fromL x k).map Mv.by_ ++ _ = _;rw [h.cur]; rfl
theorem exIn_Cl {N : Net} {k : Nat} {m : List UInt8} : ∀ (L : List Int) {x y : Ex} {done : List Int}, k < x.marks.length → mkAt x k = m → ClI N x k done → exIn N k m L x = (y, none) → ClI N y k (done ++ L) ∧ mkAt y k = m ∧ k < y.marks.length
 | [], x, y, done, hk, hm, h, e => by
  rw [exIn] at e;obtain rfl := (Prod.mk.inj e).1;rw [List.append_nil]; exact ⟨h, hm, hk⟩
 | t :: ts, x, y, done, hk, hm, h, e => by
  rw [exIn] at e
  split at e
  ·rename_i hf;subst hm
   split at e
   ·rename_i i he;have := exIn_Cl ts (x := ⟨x.marks, x.moves ++ [⟨k, t, i⟩]⟩) hk rfl (h.known hk hf he) e
    rwa [List.append_assoc] at this
   rename_i he
   split at e
   ·exact absurd (Prod.mk.inj e).2 (by simp)
   have := exIn_Cl ts (x := ⟨x.marks ++ [(fireI N (mkAt x k) t).1], x.moves ++ [⟨k, t, x.marks.length⟩]⟩) (by dsimp only; rw [List.length_append]; omega) (mkAt_push hk) (h.new hk hf he) e
   rwa [List.append_assoc] at this
  exact absurd (Prod.mk.inj e).2 (by simp)
theorem ClI.next {N : Net} {x : Ex} {k : Nat} (h : ClI N x k (readyL N (mkAt x k) N.ts.length)) : ClI N x (k + 1) [] := by
 refine ⟨h.nd, fun v hv => by have := h.le v hv; omega, h.ok, fun j hj => ?_, ?_⟩
 ·rcases Nat.lt_or_ge j k with g | g
  ·exact h.old j g
  obtain rfl : j = k := by omega
  exact h.cur
 have : fromL x (k + 1) = [] := by
  unfold fromL;rw [List.filter_eq_nil_iff];intro v hv;have := h.le v hv;simp only [decide_eq_true_eq]; omega
 rw [this]; rfl
theorem exIn_n300 {N : Net} {k : Nat} {m : List UInt8} : ∀ (L : List Int) {x : Ex}, x.marks.length ≤ 300 → (exIn N k m L x).1.marks.length ≤ 300
 | [], x, h => h
 | t :: ts, x, h => by
  rw [exIn]
  split
  ·split
   ·exact exIn_n300 ts h
   split
   ·exact h
   exact exIn_n300 ts (by dsimp only; rw [List.length_append, List.length_singleton]; omega)
  exact h
theorem exIn_st {N : Net} {k : Nat} {m : List UInt8} : ∀ (L : List Int) {x : Ex}, 0 < x.marks.length → mkAt (exIn N k m L x).1 0 = mkAt x 0 ∧ 0 < (exIn N k m L x).1.marks.length
 | [], x, h => ⟨rfl, h⟩
 | t :: ts, x, h => by
  rw [exIn]
  split
  ·split
   ·exact exIn_st ts h
   split
   ·exact ⟨rfl, h⟩
   have := exIn_st (N := N) (k := k) (m := m) ts (x := ⟨x.marks ++ [(fireI N m t).1], x.moves ++ [⟨k, t, x.marks.length⟩]⟩) (by dsimp only; rw [List.length_append]; omega);rw [mkAt_push h] at this;exact this
  exact ⟨rfl, h⟩
theorem exOut_st (N : Net) : ∀ (n k : Nat) {x : Ex}, 0 < x.marks.length → mkAt (exOut N n k x).1 0 = mkAt x 0
 | 0, k, x, h => rfl
 | n + 1, k, x, h => by
  rw [exOut]
  split
  ·have h1 := exIn_st (N := N) (k := k) (m := mkAt x k) (readyL N (mkAt x k) N.ts.length) h
   split
   ·rename_i y e;rw [e] at h1;rw [exOut_st N n (k + 1) h1.2]; exact h1.1
   exact h1.1
  rfl
theorem exOut_Cl {N : Net} : ∀ (n k : Nat) {x y : Ex}, k ≤ x.marks.length → x.marks.length ≤ 300 → 301 ≤ n + k → ClI N x k [] → exOut N n k x = (y, none) → ∃ k', ClI N y k' [] ∧ y.marks.length ≤ k'
 | 0, k, x, y, hk, hx, hn, h, e => by omega
 | n + 1, k, x, y, hk, hx, hn, h, e => by
  rw [exOut] at e
  split at e
  ·rename_i hlt
   split at e
   ·rename_i z hz;have h1 := exIn_Cl (readyL N (mkAt x k) N.ts.length) hlt rfl h hz;rw [List.nil_append] at h1;have h2 : ClI N z k (readyL N (mkAt z k) N.ts.length) := by rw [h1.2.1]; exact h1.1
    have h3 := exIn_n300 (N := N) (k := k) (m := mkAt x k) (readyL N (mkAt x k) N.ts.length) hx;rw [hz] at h3;exact exOut_Cl n (k + 1) h1.2.2 h3 (by omega) h2.next e
   rename_i hr;exact absurd e (hr y)
  obtain rfl := (Prod.mk.inj e).1;exact ⟨k, h, by omega⟩
structure Expl (s : Stg) (x : Ex) : Prop where
 n : 1 ≤ x.marks.length ∧ x.marks.length ≤ 300
 st : mkAt x 0 = s.start
 nd : x.marks.Nodup
 b : ∀ m, m ∈ x.marks → bitsB m s.net.places = true
 inn : ∀ v, v ∈ x.moves → 0 ≤ v.from_ ∧ v.from_ < x.marks.length ∧ 0 ≤ v.to_ ∧ v.to_ < x.marks.length ∧ 0 ≤ v.by_ ∧ v.by_ < s.net.ts.length
 ok : ∀ v, v ∈ x.moves → Fires s.net x v
 out : ∀ j, j < x.marks.length → (fromL x j).map Mv.by_ = readyL s.net (mkAt x j) s.net.ts.length
 met : ∀ (i : Nat), 1 ≤ i → i < x.marks.length → ∃ v, x.moves.find? (fun v => decide (v.to_ = (i : Int))) = some v ∧ v.from_ < i
 l : x.moves.length ≤ 300 * s.net.ts.length
theorem sum_le {f : Nat → Nat} {c : Nat} : ∀ n, (∀ j, j < n → f j ≤ c) → ((List.range n).map f).sum ≤ n * c
 | 0, _ => by simp
 | n + 1, h => by
  rw [List.range_succ, List.map_append, List.sum_append];have := sum_le n fun j hj => h j (by omega)
  have := h n (by omega);simp only [List.map_cons, List.map_nil, List.sum_cons, List.sum_nil, Nat.add_mul];omega
theorem froms_len {n : Nat} : ∀ (L : List Mv), (∀ v, v ∈ L → 0 ≤ v.from_ ∧ v.from_ < n) → L.length = ((List.range n).map fun j => (L.filter fun v => decide (v.from_ = ((j : Nat) : Int))).length).sum := by
 intro L
 induction L with
 | nil => intro _; have := sum_le (f := fun _ => 0) (c := 0) n (fun _ _ => Nat.le_refl _); show 0 = ((List.range n).map fun _ => 0).sum; omega
 | cons a L ih =>
  intro h;have ha := h a (List.mem_cons_self ..);have ih := ih fun v hv => h v (List.mem_cons_of_mem _ hv)
  have key : ∀ (m : Nat), ((List.range m).map fun j => ((a :: L).filter fun v => decide (v.from_ = ((j : Nat) : Int))).length).sum = ((List.range m).map fun j => (L.filter fun v => decide (v.from_ = ((j : Nat) : Int))).length).sum + (if a.from_ < m then 1 else 0) := by
   intro m
   induction m with
   | zero => simp; omega
   | succ m ihm =>
    rw [List.range_succ, List.map_append, List.map_append, List.sum_append, List.sum_append, ihm, List.map_singleton, List.map_singleton, List.filter_cons];simp only [List.sum_cons, List.sum_nil]
    split <;> split <;> split <;> simp only [decide_eq_true_eq, List.length_cons] at * <;> omega
  rw [key n, if_pos ha.2, List.length_cons, ← ih]
theorem explS_Expl {s : Stg} (h : (explS s).2 = true) : goodS s = true ∧ Expl s (explS s).1 := by
 unfold explS at h ⊢
 split at h
 ·rename_i hc;rw [if_pos hc];obtain ⟨hg, hb⟩ := Bool.and_eq_true_iff.1 hc
  have h1 : goodN s.net = true ∧ bitsB s.start s.net.places = true := by
   have hg := hg;simp only [goodS, Bool.and_eq_true] at hg;exact hg.1
  have hI := exOut_I (good_places h1.1).2.2 301 0 (x := ⟨[s.start], []⟩) (q := 0) ⟨by show 1 ≤ 300; omega, fun m hm => by rw [List.mem_singleton.1 hm]; exact h1.2, Nat.le_refl _⟩;obtain ⟨k1, hB⟩ := explR_By s.net s.start
  have hr : explR s.net s.start = ((explR s.net s.start).1, none) := by
   unfold exB at hb
   split at hb
   ·cases hb
   rename_i e; exact Prod.ext rfl e
  have hst := exOut_st s.net 301 0 (x := ⟨[s.start], []⟩) Nat.zero_lt_one;obtain ⟨k', hC, hk'⟩ := exOut_Cl 301 0 (x := ⟨[s.start], []⟩) (Nat.zero_le _) (by show 1 ≤ 300; omega) (Nat.le_refl _) ⟨by simp, fun v hv => by simp at hv, fun v hv => by simp at hv, fun j hj => by omega, rfl⟩ hr;have hin : ∀ v, v ∈ (explR s.net s.start).1.moves → 0 ≤ v.from_ ∧ v.from_ < (explR s.net s.start).1.marks.length := fun v hv => by have := hB.inn v hv; omega
  have hBi := hB.inn
  have hl : (explR s.net s.start).1.moves.length ≤ 300 * s.net.ts.length := by
   rw [froms_len _ hin];refine Nat.le_trans (sum_le (c := s.net.ts.length) _ fun j hj => ?_) (Nat.mul_le_mul_right _ hI.n);have := congrArg List.length (hC.old j (by omega));rw [List.length_map] at this;have h2 := readyL_len s.net (mkAt (explR s.net s.start).1 j) s.net.ts.length;show (fromL _ j).length ≤ _;omega
  have hpos := hB.pos;have hold := hC.old;have hmet := hB.met;have hn : (explR s.net s.start).1.marks.length ≤ 300 := hI.n;have hb2 : ∀ m, m ∈ (explR s.net s.start).1.marks → bitsB m s.net.places = true := hI.b;have hst : mkAt (explR s.net s.start).1 0 = s.start := hst;have hnd := hC.nd;have hok := hC.ok;obtain ⟨x, hx⟩ := eqx ((explR s.net s.start).1);rw [← hx] at hBi hl hpos hold hmet hn hb2 hnd hok hst hk';show goodS s = true ∧ Expl s (explR s.net s.start).1;rw [← hx];exact ⟨hg, ⟨hpos, hn⟩, hst, hnd, hb2, fun v hv => by have := hBi v hv; omega, hok, fun j hj => hold j (by omega), hmet, hl⟩
 exact absurd h (by simp)
theorem Expl.good {s : Stg} {x : Ex} (h : Expl s x) (ht : s.net.ts.length ≤ 13) : goodR x = true := by
 have := h.l;refine goodR_iff.2 ⟨h.n, by have : 300 * s.net.ts.length ≤ 300 * 13 := Nat.mul_le_mul_left _ ht; omega, h.nd, fun v hv => mvIn_iff.2 ?_⟩;have := h.inn v hv;omega
abbrev oa (o : List Int) (v : Nat) : Int := o.getD v (-1)
theorem oa_lt {o : List Int} {v : Nat} (h : 0 ≤ oa o v) : v < o.length := by
 rcases Nat.lt_or_ge v o.length with q | q
 ·exact q
 unfold oa at h;rw [List.getD_eq_getElem?_getD, List.getElem?_eq_none q] at h;exact absurd h (by decide)
theorem oa_get {o : List Int} {v : Nat} (h : v < o.length) : oa o v = o[v] := by
 unfold oa; rw [List.getD_eq_getElem?_getD, List.getElem?_eq_getElem h]; rfl
theorem oa_set_self {o : List Int} {v : Nat} {x : Int} (h : v < o.length) : oa (o.set v x) v = x := by
 unfold oa; rw [List.getD_eq_getElem?_getD, List.getElem?_set_self h]; rfl
theorem oa_set_ne {o : List Int} {v u : Nat} {x : Int} (h : u ≠ v) : oa (o.set v x) u = oa o u := by
 unfold oa; rw [List.getD_eq_getElem?_getD, List.getD_eq_getElem?_getD, List.getElem?_set_ne (fun e => h e.symm)]
inductive Walk (E : List (Nat × Nat)) (s : Nat) : Nat → Nat → Prop
 | nil : Walk E s 0 s
 | step {k f t : Nat} : Walk E s k f → (f, t) ∈ E → Walk E s (k + 1) t
structure DistOf (E : List (Nat × Nat)) (n s : Nat) (o : List Int) : Prop where
 len : o.length = n
 st : oa o s = 0
 lo : ∀ v, -1 ≤ oa o v
 wk : ∀ (v k : Nat), oa o v = (k : Int) → Walk E s k v
 ed : ∀ f t, (f, t) ∈ E → 0 ≤ oa o f → 0 ≤ oa o t ∧ oa o t ≤ oa o f + 1
theorem DistOf.walk {E : List (Nat × Nat)} {n s : Nat} {o : List Int} (h : DistOf E n s o) : ∀ {k v : Nat}, Walk E s k v → 0 ≤ oa o v ∧ oa o v ≤ k
 | _, _, .nil => by rw [h.st]; exact ⟨Int.le_refl _, Int.le_refl _⟩
 | _, _, .step w he => by
  have h1 := h.walk w;have h2 := h.ed _ _ he h1.1;omega
theorem DistOf.le {E : List (Nat × Nat)} {n s : Nat} {o o' : List Int} (h : DistOf E n s o) (h' : DistOf E n s o') (v : Nat) (hv : 0 ≤ oa o v) : 0 ≤ oa o' v ∧ oa o' v ≤ oa o v := by
 have := h'.walk (h.wk v (oa o v).toNat (by omega));omega
theorem DistOf.uniq {E : List (Nat × Nat)} {n s : Nat} {o o' : List Int} (h : DistOf E n s o) (h' : DistOf E n s o') : o = o' := by
 refine List.ext_getElem (by rw [h.len, h'.len]) fun v h1 h2 => ?_
 rw [← oa_get h1, ← oa_get h2];have a := h.lo v;have b := h'.lo v
 by_cases q : 0 ≤ oa o v
 ·have c := h.le h' v q;have d := h'.le h v c.1;omega
 by_cases q' : 0 ≤ oa o' v
 ·have d := h'.le h v q';omega
 omega
open Classical in
noncomputable def distF (E : List (Nat × Nat)) (n s : Nat) : List Int := if h : ∃ o, DistOf E n s o then Classical.choose h else []
theorem DistOf.eq {E : List (Nat × Nat)} {n s : Nat} {o : List Int} (h : DistOf E n s o) : distF E n s = o := by
 have hex : ∃ o, DistOf E n s o := ⟨o, h⟩;unfold distF;rw [dif_pos hex];exact (Classical.choose_spec hex).uniq h
theorem DistOf.self {E : List (Nat × Nat)} {n s : Nat} {o : List Int} (h : DistOf E n s o) : DistOf E n s (distF E n s) := by rw [h.eq]; exact h
def nextL (E : List (Nat × Nat)) (f : Nat) : List Nat := (E.filter fun e => decide (e.1 = f)).map (·.2)
theorem nextL_mem {E : List (Nat × Nat)} {f t : Nat} : t ∈ nextL E f ↔ (f, t) ∈ E := by
 unfold nextL;simp only [List.mem_map, List.mem_filter, decide_eq_true_eq];constructor
 ·rintro ⟨⟨a, b⟩, ⟨h1, h2⟩, rfl⟩; simp only at h2; subst h2; exact h1
 intro h; exact ⟨(f, t), ⟨h, rfl⟩, rfl⟩
def negs (o : List Int) : Nat := o.countP fun x => decide (x < 0)
theorem negs_set : ∀ {o : List Int} {v : Nat} {x : Int}, v < o.length → oa o v < 0 → 0 ≤ x → negs (o.set v x) + 1 = negs o
 | [], v, x, h, _, _ => by simp at h
 | y :: o, 0, x, h, h1, h2 => by
  have h1 : y < 0 := h1;unfold negs;rw [List.set_cons_zero, List.countP_cons_of_neg (by simpa using h2), List.countP_cons_of_pos (by simpa using h1)]
 | y :: o, v + 1, x, h, h1, h2 => by
  have ih := negs_set (o := o) (v := v) (x := x) (by simpa using h) h1 h2;unfold negs at ih ⊢;rw [List.set_cons_succ, List.countP_cons, List.countP_cons];omega
theorem negs_rep (n : Nat) : negs (List.replicate n (-1)) = n := by
 unfold negs;rw [List.countP_replicate]; simp
structure BfsI (E : List (Nat × Nat)) (n s : Nat) (o : List Int) (q : List Nat) (a j : Nat) : Prop where
 len : o.length = n
 inn : ∀ f t, (f, t) ∈ E → f < n ∧ t < n
 st : oa o s = 0
 lo : ∀ v, -1 ≤ oa o v
 wk : ∀ (v k : Nat), oa o v = (k : Int) → Walk E s k v
 cnt : negs o + q.length = n
 al : a ≤ q.length
 mem : ∀ v, v ∈ q ↔ 0 ≤ oa o v
 mono : ∀ i k (_ : i ≤ k) (hk : k < q.length), oa o (q.getD i 0) ≤ oa o (q.getD k 0)
 gap : a < q.length → ∀ v, v ∈ q → oa o v ≤ oa o (q.getD a 0) + 1
 done : ∀ i, i < a → ∀ t, (q.getD i 0, t) ∈ E → 0 ≤ oa o t ∧ oa o t ≤ oa o (q.getD i 0) + 1
 part : ∀ t, t ∈ (nextL E (q.getD a 0)).take j → 0 ≤ oa o t ∧ oa o t ≤ oa o (q.getD a 0) + 1
theorem BfsI.start {E : List (Nat × Nat)} {n s : Nat} (hs : s < n) (hE : ∀ f t, (f, t) ∈ E → f < n ∧ t < n) : BfsI E n s ((List.replicate n (-1)).set s 0) [s] 0 0 := by
 have hneg : ∀ v, oa (List.replicate n (-1)) v = -1 := fun v => by
  unfold oa;rw [List.getD_eq_getElem?_getD, List.getElem?_replicate]
  split <;> rfl
 have hset : ∀ v, oa ((List.replicate n (-1)).set s 0) v = if v = s then 0 else -1 := fun v => by
  split
  ·rename_i h; subst h; exact oa_set_self (by simpa using hs)
  rename_i h; rw [oa_set_ne h, hneg]
 refine ⟨by simp, hE, by rw [hset, if_pos rfl], fun v => by rw [hset]; split <;> decide, fun v k h => ?_, ?_, by simp, fun v => ?_, fun i k hik hk => ?_, fun _ v hv => ?_, fun i hi => by omega, fun t ht => by simp at ht⟩
 ·rw [hset] at h
  split at h
  ·rename_i e; obtain rfl : k = 0 := by omega
   rw [e]; exact .nil
  omega
 ·have := negs_set (o := List.replicate n (-1)) (v := s) (x := 0) (by simpa using hs) (by rw [hneg]; decide) (Int.le_refl _);rw [negs_rep] at this;simpa using this
 ·rw [hset, List.mem_singleton]
  split
  ·rename_i e; simp [e]
  rename_i e; simp [e]
 ·simp only [List.length_cons, List.length_nil] at hk;obtain rfl : k = 0 := by omega
  obtain rfl : i = 0 := by omega
  exact Int.le_refl _
 rw [List.mem_singleton.1 hv];show _ ≤ oa _ ([s].getD 0 0) + 1;show oa _ s ≤ oa _ s + 1;omega
theorem getD_mem0 {q : List Nat} {a : Nat} (h : a < q.length) : q.getD a 0 ∈ q := by
 rw [List.getD_eq_getElem?_getD, List.getElem?_eq_getElem h]; exact List.getElem_mem h
theorem getD_app1 {q : List Nat} {a t : Nat} (h : a < q.length) : (q ++ [t]).getD a 0 = q.getD a 0 := by
 rw [List.getD_eq_getElem?_getD, List.getD_eq_getElem?_getD, List.getElem?_append_left h]
theorem getD_app2 {q : List Nat} {t : Nat} : (q ++ [t]).getD q.length 0 = t := by
 rw [List.getD_eq_getElem?_getD, List.getElem?_append_right (Nat.le_refl _), Nat.sub_self]; rfl
theorem mem_takeN {l : List Nat} {j t : Nat} (hj : j < l.length) (h : t ∈ l.take (j + 1)) : t ∈ l.take j ∨ t = l[j] := by
 rw [List.take_add_one, List.getElem?_eq_getElem hj] at h;rcases List.mem_append.1 h with q | q
 ·exact .inl q
 exact .inr (by simpa using q)
theorem BfsI.no {E : List (Nat × Nat)} {n s : Nat} {o : List Int} {q : List Nat} {a j : Nat} (h : BfsI E n s o q a j) (ha : a < q.length) (hj : j < (nextL E (q.getD a 0)).length) (ht : 0 ≤ oa o (nextL E (q.getD a 0))[j]) : BfsI E n s o q a (j + 1) := by
 refine ⟨h.len, h.inn, h.st, h.lo, h.wk, h.cnt, h.al, h.mem, h.mono, h.gap, h.done, fun t ht' => ?_⟩;rcases mem_takeN hj ht' with g | g
 ·exact h.part t g
 rw [g]; exact ⟨ht, h.gap ha _ ((h.mem _).2 ht)⟩
theorem BfsI.yes {E : List (Nat × Nat)} {n s : Nat} {o : List Int} {q : List Nat} {a j : Nat} (h : BfsI E n s o q a j) (ha : a < q.length) (hj : j < (nextL E (q.getD a 0)).length) (ht : oa o (nextL E (q.getD a 0))[j] < 0) :
  BfsI E n s (o.set (nextL E (q.getD a 0))[j] (oa o (q.getD a 0) + 1)) (q ++ [(nextL E (q.getD a 0))[j]]) a (j + 1) := by
 have hc0 := (h.mem _).1 (getD_mem0 ha);have hed := nextL_mem.1 (List.getElem_mem hj);have hmt : ∀ t, t ∈ (nextL E (q.getD a 0)).take (j + 1) → t ∈ (nextL E (q.getD a 0)).take j ∨ t = (nextL E (q.getD a 0))[j] := fun t => mem_takeN hj
 have hgap := h.gap ha;have hpart := h.part;have hgq : (q ++ [(nextL E (q.getD a 0))[j]]).getD a 0 = q.getD a 0 := getD_app1 ha;have hLL : nextL E ((q ++ [(nextL E (q.getD a 0))[j]]).getD a 0) = nextL E (q.getD a 0) := by rw [hgq]
 obtain ⟨t, htt⟩ := eqx ((nextL E (q.getD a 0))[j]);rw [← htt] at ht hed hmt hgq hLL ⊢;have htn : t < n := (h.inn _ _ hed).2;have htl : t < o.length := by rw [h.len]; exact htn
 have hne : ∀ v, 0 ≤ oa o v → v ≠ t := fun v hv e => by rw [e] at hv; omega
 have hts : oa (o.set t (oa o (q.getD a 0) + 1)) t = oa o (q.getD a 0) + 1 := oa_set_self htl;have hold : ∀ v, 0 ≤ oa o v → oa (o.set t (oa o (q.getD a 0) + 1)) v = oa o v := fun v hv => oa_set_ne (hne v hv)
 have hqo : ∀ v, v ∈ q → oa (o.set t (oa o (q.getD a 0) + 1)) v = oa o v := fun v hv => hold v ((h.mem v).1 hv)
 have hca := hqo _ (getD_mem0 ha);refine ⟨by rw [List.length_set]; exact h.len, h.inn, ?_, fun v => ?_, fun v k hv => ?_, ?_, by rw [List.length_append]; have := h.al; omega, fun v => ?_, fun i k hik hk => ?_, fun _ v hv => ?_, fun i hi t' ht' => ?_, fun t' ht' => ?_⟩
 ·rw [hold s (by rw [h.st]; exact Int.le_refl _)]; exact h.st
 ·by_cases e : v = t
  ·rw [e, hts]; omega
  rw [oa_set_ne e]; exact h.lo v
 ·by_cases e : v = t
  ·subst e;rw [hts] at hv;obtain ⟨k', rfl⟩ : ∃ k', k = k' + 1 := ⟨k - 1, by omega⟩;exact .step (h.wk _ k' (by omega)) hed
  rw [oa_set_ne e] at hv; exact h.wk v k hv
 ·have h1 := negs_set (o := o) (v := t) (x := oa o (q.getD a 0) + 1) htl ht (by omega);have h2 := h.cnt;rw [List.length_append, List.length_singleton]; omega
 ·rw [List.mem_append, List.mem_singleton]
  by_cases e : v = t
  ·rw [e, hts];constructor
   ·intro _; omega
   intro _; exact .inr rfl
  rw [oa_set_ne e, ← h.mem v];constructor
  ·rintro (g | g)
   ·exact g
   exact absurd g e
  exact .inl
 ·rw [List.length_append, List.length_singleton] at hk;rcases Nat.lt_or_ge k q.length with g | g
  ·rw [getD_app1 (by omega), getD_app1 g, hqo _ (getD_mem0 (by omega)), hqo _ (getD_mem0 g)];exact h.mono i k hik g
  obtain rfl : k = q.length := by omega
  rw [getD_app2, hts];rcases Nat.lt_or_ge i q.length with g' | g'
  ·rw [getD_app1 g', hqo _ (getD_mem0 g')];exact hgap _ (getD_mem0 g')
  obtain rfl : i = q.length := by omega
  rw [getD_app2, hts]; exact Int.le_refl _
 ·rw [hgq, hca];rcases List.mem_append.1 hv with g | g
  ·rw [hqo v g]; exact hgap v g
  rw [List.mem_singleton.1 g, hts]; exact Int.le_refl _
 ·have hi2 : i < q.length := by omega
  rw [getD_app1 hi2] at ht' ⊢;have h1 := h.done i hi t' ht';rw [hold t' h1.1, hqo _ (getD_mem0 hi2)];exact h1
 rw [hLL] at ht';rw [hgq, hca];rcases hmt t' ht' with g | g
 ·have h1 := hpart t' g;rw [hold t' h1.1]; exact h1
 rw [g, hts]; exact ⟨by omega, Int.le_refl _⟩
theorem BfsI.next {E : List (Nat × Nat)} {n s : Nat} {o : List Int} {q : List Nat} {a j : Nat} (h : BfsI E n s o q a j) (ha : a < q.length) (hj : j = (nextL E (q.getD a 0)).length) : BfsI E n s o q (a + 1) 0 := by
 refine ⟨h.len, h.inn, h.st, h.lo, h.wk, h.cnt, ha, h.mem, h.mono, fun ha' v hv => ?_, fun i hi t ht => ?_, fun t ht => by simp at ht⟩
 ·have h1 := h.gap ha v hv;have h2 := h.mono a (a + 1) (by omega) ha';omega
 rcases Nat.lt_or_ge i a with g | g
 ·exact h.done i g t ht
 obtain rfl : i = a := by omega
 exact h.part t (by rw [hj, List.take_length]; exact nextL_mem.2 ht)
theorem BfsI.dist {E : List (Nat × Nat)} {n s : Nat} {o : List Int} {q : List Nat} (h : BfsI E n s o q q.length 0) : DistOf E n s o := by
 refine ⟨h.len, h.st, h.lo, h.wk, fun f t he hf => ?_⟩;obtain ⟨i, hi, rfl⟩ := List.getElem_of_mem ((h.mem f).2 hf);have := h.done i hi t (by rw [List.getD_eq_getElem?_getD, List.getElem?_eq_getElem hi]; exact he)
 rwa [List.getD_eq_getElem?_getD, List.getElem?_eq_getElem hi] at this
structure RndI (E : List (Nat × Nat)) (n s : Nat) (o : List Int) (d j : Nat) : Prop where
 len : o.length = n
 inn : ∀ f t, (f, t) ∈ E → f < n ∧ t < n
 st : oa o s = 0
 lo : ∀ v, -1 ≤ oa o v
 hi : ∀ v, oa o v ≤ d + 1
 hi0 : j = 0 → ∀ v, oa o v ≤ d
 wk : ∀ (v k : Nat), oa o v = (k : Int) → Walk E s k v
 dn : ∀ (v : Nat) (k : Nat), oa o v = (k : Int) + 1 → ∃ f, oa o f = (k : Int)
 done : ∀ f t, (f, t) ∈ E → 0 ≤ oa o f → oa o f < d → 0 ≤ oa o t ∧ oa o t ≤ oa o f + 1
 part : ∀ f t, (f, t) ∈ E.take j → oa o f = d → 0 ≤ oa o t
theorem RndI.start {E : List (Nat × Nat)} {n s : Nat} (hs : s < n) (hE : ∀ f t, (f, t) ∈ E → f < n ∧ t < n) : RndI E n s ((List.replicate n (-1)).set s 0) 0 0 := by
 have hneg : ∀ v, oa (List.replicate n (-1)) v = -1 := fun v => by
  unfold oa;rw [List.getD_eq_getElem?_getD, List.getElem?_replicate]
  split <;> rfl
 have hset : ∀ v, oa ((List.replicate n (-1)).set s 0) v = if v = s then 0 else -1 := fun v => by
  split
  ·rename_i h; subst h; exact oa_set_self (by simpa using hs)
  rename_i h; rw [oa_set_ne h, hneg]
 refine ⟨by simp, hE, by rw [hset, if_pos rfl], fun v => by rw [hset]; split <;> decide, fun v => by rw [hset]; split <;> decide, fun _ v => by rw [hset]; split <;> decide, fun v k h => ?_, fun v k h => ?_, fun f t _ h1 h2 => by omega, fun f t ht => by simp at ht⟩
 ·rw [hset] at h
  split at h
  ·rename_i e; obtain rfl : k = 0 := by omega
   rw [e]; exact .nil
  omega
 rw [hset] at h
 split at h <;> omega
theorem mem_takeE {l : List (Nat × Nat)} {j : Nat} {t : Nat × Nat} (hj : j < l.length) (h : t ∈ l.take (j + 1)) : t ∈ l.take j ∨ t = l[j] := by
 rw [List.take_add_one, List.getElem?_eq_getElem hj] at h;rcases List.mem_append.1 h with q | q
 ·exact .inl q
 exact .inr (by simpa using q)
theorem RndI.no {E : List (Nat × Nat)} {n s : Nat} {o : List Int} {d j : Nat} (h : RndI E n s o d j) (hj : j < E.length) (ht : ¬ (oa o E[j].1 = d ∧ oa o E[j].2 < 0)) : RndI E n s o d (j + 1) := by
 refine ⟨h.len, h.inn, h.st, h.lo, h.hi, fun e => by omega, h.wk, h.dn, h.done, fun f t hft hf => ?_⟩;rcases mem_takeE hj hft with g | g
 ·exact h.part f t g hf
 rw [← g] at ht;rcases Int.lt_or_le (oa o t) 0 with c | c
 ·exact absurd ⟨hf, c⟩ ht
 exact c
theorem RndI.yes {E : List (Nat × Nat)} {n s : Nat} {o : List Int} {d j : Nat} (h : RndI E n s o d j) (hj : j < E.length) (hf : oa o E[j].1 = d) (ht : oa o E[j].2 < 0) : RndI E n s (o.set E[j].2 (d + 1)) d (j + 1) := by
 have hed : (E[j].1, E[j].2) ∈ E := List.getElem_mem hj;have hmt := fun x => mem_takeE (t := x) hj
 obtain ⟨f0, hf0⟩ := eqx (E[j].1);obtain ⟨t0, ht0⟩ := eqx (E[j].2);have he : E[j] = (f0, t0) := by rw [hf0, ht0]
 rw [he] at hmt;rw [← ht0] at ht hed ⊢;rw [← hf0] at hf hed;have htl : t0 < o.length := by rw [h.len]; exact (h.inn _ _ hed).2
 have hts : oa (o.set t0 (d + 1)) t0 = d + 1 := oa_set_self htl;have hold : ∀ v, 0 ≤ oa o v → oa (o.set t0 (d + 1)) v = oa o v := fun v hv => oa_set_ne (fun e => by rw [e] at hv; omega)
 have hback : ∀ v, oa (o.set t0 ((d : Int) + 1)) v = oa o v ∨ (v = t0 ∧ oa (o.set t0 ((d : Int) + 1)) v = d + 1) := fun v => by
  by_cases e : v = t0
  ·right; exact ⟨e, by rw [e]; exact hts⟩
  left; exact oa_set_ne e
 refine ⟨by rw [List.length_set]; exact h.len, h.inn, by rw [hold s (by rw [h.st]; exact Int.le_refl _)]; exact h.st, fun v => ?_, fun v => ?_, fun e => by omega, fun v k hv => ?_, fun v k hv => ?_, fun f t hft h1 h2 => ?_, fun f t hft h1 => ?_⟩
 ·rcases hback v with g | ⟨_, g⟩
  ·rw [g]; exact h.lo v
  rw [g]; omega
 ·rcases hback v with g | ⟨_, g⟩
  ·rw [g]; exact h.hi v
  rw [g]; exact Int.le_refl _
 ·rcases hback v with g | ⟨g1, g⟩
  ·rw [g] at hv; exact h.wk v k hv
  rw [g] at hv;obtain rfl : k = d + 1 := by omega
  rw [g1]; exact .step (h.wk f0 d hf) hed
 ·rcases hback v with g | ⟨g1, g⟩
  ·rw [g] at hv;obtain ⟨f, hf'⟩ := h.dn v k hv;exact ⟨f, by rw [hold f (by omega)]; exact hf'⟩
  rw [g] at hv;obtain rfl : k = d := by omega
  exact ⟨f0, by rw [hold f0 (by omega)]; exact hf⟩
 ·rcases hback f with g | ⟨g1, g⟩
  ·rw [g] at h1 h2 ⊢;have h3 := h.done f t hft h1 h2;rw [hold t h3.1]; exact h3
  rw [g] at h2; omega
 rcases hback f with g | ⟨g1, g⟩
 ·rw [g] at h1;rcases hmt _ hft with c | c
  ·have h3 := h.part f t c h1;rw [hold t h3]; exact h3
  obtain ⟨rfl, rfl⟩ := Prod.mk.inj c;rw [hts]; omega
 rw [g] at h1; omega
theorem RndI.next {E : List (Nat × Nat)} {n s : Nat} {o : List Int} {d j : Nat} (h : RndI E n s o d j) (hj : j = E.length) : RndI E n s o (d + 1) 0 := by
 refine ⟨h.len, h.inn, h.st, h.lo, fun v => by have := h.hi v; omega, fun _ v => by have := h.hi v; omega, h.wk, h.dn, fun f t hft h1 h2 => ?_, fun f t ht => by simp at ht⟩;rcases Int.lt_or_le (oa o f) d with g | g
 ·exact h.done f t hft h1 g
 have e : oa o f = d := by omega
 have := h.part f t (by rw [hj, List.take_length]; exact hft) e;have := h.hi t;omega
theorem down_all {o : List Int} (hdn : ∀ (v : Nat) (k : Nat), oa o v = (k : Int) + 1 → ∃ f, oa o f = (k : Int)) : ∀ (k : Nat), (∃ v, oa o v = (k : Int)) → ∀ i, i ≤ k → ∃ v, oa o v = (i : Int)
  | 0, h, i, hi => by obtain rfl : i = 0 := by omega
                      exact h
  | k + 1, ⟨v, hv⟩, i, hi => by
    rcases Nat.lt_or_ge i (k + 1) with g | g
    · exact down_all hdn k (hdn v k (by omega)) i (by omega)
    obtain rfl : i = k + 1 := by omega
    exact ⟨v, hv⟩
theorem few_all : ∀ (k : Nat) (o : List Int), (∀ i, i < k → ((i : Nat) : Int) ∈ o) → k ≤ o.length
 | 0, o, _ => Nat.zero_le _
 | k + 1, o, h => by
  have h1 := h k (by omega);have ih := few_all k (o.erase (k : Int)) (fun i hi => (List.mem_erase_of_ne (by omega)).2 (h i (by omega)));have h2 := List.length_erase_of_mem h1;have := List.length_pos_of_mem h1;omega
theorem RndI.dist {E : List (Nat × Nat)} {n s : Nat} {o : List Int} (h : RndI E n s o n 0) : DistOf E n s o := by
 refine ⟨h.len, h.st, h.lo, h.wk, fun f t he hf => h.done f t he hf ?_⟩;have hall := down_all h.dn (oa o f).toNat ⟨f, by omega⟩
 have := few_all ((oa o f).toNat + 1) o (fun i hi => by
  obtain ⟨v, hv⟩ := hall i (by omega);have hl := oa_lt (o := o) (v := v) (by omega);rw [oa_get hl] at hv
  rw [← hv]; exact List.getElem_mem hl)
 rw [h.len] at this;omega
def edgesR (x : Ex) : List (Nat × Nat) := x.moves.map fun v => (v.from_.toNat, v.to_.toNat)
theorem edgesR_in {x : Ex} (h : ∀ v, v ∈ x.moves → (0 ≤ v.from_ ∧ v.from_ < x.marks.length) ∧ 0 ≤ v.to_ ∧ v.to_ < x.marks.length) : ∀ f t, (f, t) ∈ edgesR x → f < x.marks.length ∧ t < x.marks.length := by
 intro f t he;obtain ⟨v, hv, e⟩ := List.mem_map.1 he;obtain ⟨rfl, rfl⟩ := Prod.mk.inj e;have := h v hv;omega
theorem rnd_ex {E : List (Nat × Nat)} {n s : Nat} (hs : s < n) (hE : ∀ f t, (f, t) ∈ E → f < n ∧ t < n) : ∀ d, ∃ o, RndI E n s o d 0 := by
 intro d
 induction d with
 | zero => exact ⟨_, RndI.start hs hE⟩
 | succ d ih =>
  obtain ⟨o, ho⟩ := ih
  have : ∀ j, j ≤ E.length → ∃ o, RndI E n s o d j := by
   intro j
   induction j with
   | zero => intro _; exact ⟨o, ho⟩
   | succ j ihj =>
    intro hj;obtain ⟨o', h'⟩ := ihj (by omega)
    by_cases q : oa o' E[j].1 = d ∧ oa o' E[j].2 < 0
    ·exact ⟨_, h'.yes (by omega) q.1 q.2⟩
    exact ⟨_, h'.no (by omega) q⟩
  obtain ⟨o', h'⟩ := this E.length (Nat.le_refl _);exact ⟨o', h'.next rfl⟩
theorem dist_ex {E : List (Nat × Nat)} {n s : Nat} (hs : s < n) (hE : ∀ f t, (f, t) ∈ E → f < n ∧ t < n) : DistOf E n s (distF E n s) := by
 obtain ⟨o, h⟩ := rnd_ex hs hE n;exact h.dist.self
theorem Expl.reach {s : Stg} {x : Ex} (h : Expl s x) : ∀ (v : Nat), v < x.marks.length → ∃ k, Walk (edgesR x) 0 k v := by
 intro v
 induction v using Nat.strongRecOn with
 | ind v ih =>
  intro hv;rcases Nat.eq_zero_or_pos v with rfl | hp
  ·exact ⟨0, .nil⟩
  obtain ⟨u, hu, hf⟩ := h.met v hp hv;have hm := List.mem_of_find?_eq_some hu;have ht := List.find?_some hu;simp only [decide_eq_true_eq] at ht;have hin := h.inn u hm;obtain ⟨k, hk⟩ := ih u.from_.toNat (by omega) (by omega);refine ⟨k + 1, .step hk ?_⟩;refine List.mem_map.2 ⟨u, hm, ?_⟩;rw [ht]; rfl
theorem Expl.edges {s : Stg} {x : Ex} (h : Expl s x) : ∀ f t, (f, t) ∈ edgesR x → f < x.marks.length ∧ t < x.marks.length := edgesR_in fun v hv => by have := h.inn v hv; omega
theorem Expl.dist {s : Stg} {x : Ex} (h : Expl s x) : DistOf (edgesR x) x.marks.length 0 (distF (edgesR x) x.marks.length 0) := dist_ex (by have := h.n; omega) h.edges
theorem Expl.far {s : Stg} {x : Ex} (h : Expl s x) {v : Nat} (hv : v < x.marks.length) : 0 ≤ oa (distF (edgesR x) x.marks.length 0) v := by
 obtain ⟨k, hk⟩ := h.reach v hv;exact (h.dist.walk hk).1
def posI (m : List UInt8) (l : List (List UInt8)) : Int := match posL m l with | some i => (i : Int) | none => -1
theorem posL_at {m : List UInt8} : ∀ {l : List (List UInt8)} {k : Nat} (hk : k < l.length), l[k] = m → (∀ j (hj : j < l.length), j < k → ¬ l[j] = m) → posL m l = some k
 | a :: l, 0, hk, h, _ => by rw [posL, if_pos (show m = a from h.symm)]
 | a :: l, k + 1, hk, h, hb => by
  have h0 := hb 0 (by simp) (by omega);rw [posL, if_neg (fun e => h0 e.symm), posL_at (k := k) (by simpa using hk) (by simpa using h) (fun j hj hjk => by have := hb (j + 1) (by simpa using hj) (by omega); simpa using this)]
  rfl
theorem posL_no {m : List UInt8} {l : List (List UInt8)} (h : ∀ j (hj : j < l.length), ¬ l[j] = m) : posL m l = none := posL_none.2 fun hm => by
 obtain ⟨j, hj, e⟩ := List.getElem_of_mem hm;exact h j hj e
theorem posI_at {m : List UInt8} {l : List (List UInt8)} {k : Nat} (hk : k < l.length) (h : l[k] = m) (hb : ∀ j (hj : j < l.length), j < k → ¬ l[j] = m) : posI m l = (k : Int) := by unfold posI; rw [posL_at hk h hb]
theorem posI_no {m : List UInt8} {l : List (List UInt8)} (h : ∀ j (hj : j < l.length), ¬ l[j] = m) : posI m l = -1 := by unfold posI; rw [posL_no h]
set_option maxHeartbeats 1000000 in
theorem l4Find_spec (l : List (List UInt8)) (m : List UInt8) (hl : l.length ≤ 1000000) : ASpec Tryz.prog 115 [.d (.view 9 1 (tsX l)), aS (bstr m)] [] (Pure1 (aI (posI m l))) := by
 refine ASpec.of Tryz.func115 rfl rfl fun C hC => ?_
 refine AC.seq (AC.region ?_);refine za ?_;refine AL.nil (th_n (AC.seq (AC.seq (AC.region ?_))));refine zm ?_;refine kI l.length (tsX_len _) ?_;refine zm ?_;refine AL.nil (th_n (AC.block ?_));refine AC.loop (ι := Nat) (fun k => ⟨19, 0, [(1, aS (bstr m)), (7, .d (.view 9 1 (tsX l))), (8, aI l.length), (9, aI k)], []⟩) (fun k => k ≤ l.length ∧ ∀ j (hj : j < l.length), j < k → ¬ l[j] = m) (fun k => l.length - k) (0) ?_ (⟨Nat.zero_le _, fun j _ hj => by omega⟩) ?_
 ·refine Weak.ren _ [] hC rfl ?_ ?_ rfl rfl rfl <;> repeat (first | exact True.intro | refine And.intro ?_ ?_ | exact DLead.same)
 intro k ⟨hk, hall⟩;refine AC.seq (AC.region ?_);refine zc ?_;refine AL.nil (th_n (AC.seq ?_));refine AC.condD rfl (fun h0 => ?_) (fun h0 => ?_)
 ·refine AC.skip (th_n (AC.seq (AC.block (AC.seq ?_))));have hk1 : k < l.length := by omega
  have hget := tsX_get hk1;refine AC.region ?_;refine zm ?_;refine AL.p (by exact g_ia_view rfl rfl rfl rfl rfl (by rfl) (by assumption)) rfl ?_;refine zr ?_;refine za ?_;refine za ?_;refine AL.nil (th_n (AC.seq (AC.region ?_)));refine zm ?_;refine zm ?_;refine AL.p (by exact g_scmp rfl rfl rfl) rfl ?_;refine AL.nil (th_n ?_);refine AC.condD rfl (fun h1 => ?_) (fun h1 => ?_)
  ·refine AC.seq (AC.region ?_);refine zm ?_;refine za ?_;refine AL.nil (th_n (AC.ret (ib_r (th_r (th_r (ib_r (th_r (bq_r ?_))))))));exact ret1 rfl (by rw [posI_at hk1 (bstr_inj (by assumption)) hall])
  refine AC.skip (ib_n (th_n (AC.region ?_)));refine zA ?_;refine zm ?_;refine AL.nil (th_n ?_);exact ⟨k + 1, ⟨by omega, fun j hj hj2 => by rcases Nat.lt_succ_iff_lt_or_eq.1 hj2 with h | rfl; exact hall j hj h; exact fun e => h1 (by rw [e])⟩, by omega, Weak.ren _ [] hC rfl (by repeat (first | exact True.intro | refine And.intro ?_ ?_ | exact DLead.same)) (by repeat (exact True.intro)) rfl rfl rfl⟩
 refine AC.exit (th_e (th_e (ib_y (th_n (AC.seq (AC.region ?_))))));refine za ?_;refine AL.nil (th_n (AC.ret (bq_r ?_)));exact ret1 rfl (by rw [posI_no (fun j hj => hall j hj (by omega))])
theorem en_l4Find : Enters Tryz.prog 115 := enters_of Tryz.func115 rfl rfl
theorem posI_in (m : List UInt8) (l : List (List UInt8)) : -1 ≤ posI m l ∧ posI m l < l.length := by
 unfold posI
 split
 ·rename_i i h; have := posL_lt h; omega
 omega
end Go.Proofs.YtjodfopifgiipaaGreat
namespace Go.Proofs
open Go.Shelf
def Tryz.lays144_ren : Go.Shelf.Ren := ⟨fun | 144 => 50 | 143 => 72 | 219 => 99 | 217 => 116 | 225 => 117 | 224 => 118 | 267 => 119 | 266 => 129 | 314 => 130 | n => n, fun | 9 => 9 | 4 => 4 | 3 => 3 | 5 => 5 | 46 => 118 | 146 => 171 | 51 => 170 | n => n, fun | 1 => 0 | n => n⟩
theorem Tryz.lays144 : Go.Proofs.Lays.n144 Tryz.prog Tryz.lays144_ren := {
 mixed := by kernel_rfl
 f143 := Tryz.func72.trans (congrArg some (by kernel_rfl))
 f144 := Tryz.func50.trans (congrArg some (by kernel_rfl))
 f217 := Tryz.func116.trans (congrArg some (by kernel_rfl))
 f219 := Tryz.func99.trans (congrArg some (by kernel_rfl))
 f224 := Tryz.func118.trans (congrArg some (by kernel_rfl))
 f225 := Tryz.func117.trans (congrArg some (by kernel_rfl))
 f266 := Tryz.func129.trans (congrArg some (by kernel_rfl))
 f267 := Tryz.func119.trans (congrArg some (by kernel_rfl))
 f314 := Tryz.func130.trans (congrArg some (by kernel_rfl))
 t3 := Tryz.underlying3
 a3 := Tryz.isAgg3
 z3 := Tryz.sizeOf3
 v3 := Tryz.zeroValue3
 t4 := Tryz.underlying4
 a4 := Tryz.isAgg4
 z4 := Tryz.sizeOf4
 v4 := Tryz.zeroValue4
 t5 := Tryz.underlying5
 a5 := Tryz.isAgg5
 z5 := Tryz.sizeOf5
 v5 := Tryz.zeroValue5
 t9 := Tryz.underlying9
 a9 := Tryz.isAgg9
 z9 := Tryz.sizeOf9
 v9 := Tryz.zeroValue9
 t46 := Tryz.underlying118
 a46 := Tryz.isAgg118
 z46 := Tryz.sizeOf118
 v46 := Tryz.zeroValue118
 t51 := Tryz.underlying170
 a51 := Tryz.isAgg170
 z51 := Tryz.sizeOf170
 v51 := Tryz.zeroValue170
 t146 := Tryz.underlying171
 a146 := Tryz.isAgg171
 z146 := Tryz.sizeOf171
 v146 := Tryz.zeroValue171
 g1 := by kernel_rfl }
open Go.RowKit Go.Lib in
theorem Tryz.strings_Contains_one (s : ByteArray) (c : UInt8) (w : World) :
  Calls Tryz.prog 50 #[.string s, .string ⟨#[c]⟩] w fun e w' => e = .returned (.bool (decide (0 ≤ Lib.indexByte s.data.toList c))) ∧ w' = w := Any.strings_Contains_one Tryz.lays144 s c w
end Go.Proofs
namespace Go.Proofs.YtjodfopifgiipaaGreat
open Go.RowKit
def rowsV (sz n : Nat) (V : List Value) : List (List DV) := (List.range n).map fun i => (List.range sz).map fun j => DV.val ((V[i * sz + j]?).getD undef)
theorem rowsV_len (sz n : Nat) (V : List Value) : (rowsV sz n V).length = n := by simp [rowsV]
theorem rowsV_get {sz n : Nat} {V : List Value} {i : Nat} (h : i < n) : (rowsV sz n V)[i]? = some ((List.range sz).map fun j => DV.val ((V[i * sz + j]?).getD undef)) := by simp [rowsV, h]
theorem rowsV_row {sz n : Nat} {V : List Value} {i : Nat} {cs : List DV} (h : (rowsV sz n V)[i]? = some cs) : i < n ∧ cs.length = sz ∧ ∀ (j : Nat) d, cs[j]? = some d → j < sz ∧ d = .val ((V[i * sz + j]?).getD undef) := by
 have hi := (List.getElem?_eq_some_iff.1 h).1;rw [rowsV_len] at hi;rw [rowsV_get hi] at h;simp only [Option.some.injEq] at h;subst h;refine ⟨hi, by simp, fun j d hd => ?_⟩;rw [List.getElem?_map, Option.map_eq_some_iff] at hd;obtain ⟨q, hq, rfl⟩ := hd;have := (List.getElem?_eq_some_iff.1 hq).1
 have h2 : q = j := by
  have := (List.getElem?_eq_some_iff.1 hq).2;simpa using this.symm
 subst h2;exact ⟨by simpa using this, rfl⟩
theorem row_lt {i j n sz : Nat} (hi : i < n) (hj : j < sz) : i * sz + j < n * sz := by
 have h := Nat.mul_le_mul_right sz hi;rw [Nat.succ_mul] at h;omega
theorem flat_len : ∀ {els : List (List DV)} {sz : Nat}, (∀ cs, cs ∈ els → cs.length = sz) → els.flatten.length = els.length * sz
 | [], sz, _ => by simp
 | c :: els, sz, h => by
  rw [List.flatten_cons, List.length_append, flat_len (els := els) (fun cs hc => h cs (List.mem_cons_of_mem _ hc)), h c (by simp), List.length_cons, Nat.succ_mul]; omega
theorem flat_get : ∀ {els : List (List DV)} {sz : Nat} (_ : ∀ cs, cs ∈ els → cs.length = sz) {i j : Nat} {cs : List DV} {d : DV}, els[i]? = some cs → cs[j]? = some d → els.flatten[i * sz + j]? = some d
 | [], sz, _, i, j, cs, d, hi, _ => by simp at hi
 | c :: els, sz, h, i, j, cs, d, hi, hj => by
  have hc := h c (by simp);have hlt := (List.getElem?_eq_some_iff.1 hj).1;cases i with
  | zero =>
   simp at hi; subst hi;rw [List.flatten_cons, Nat.zero_mul, Nat.zero_add, List.getElem?_append_left hlt]; exact hj
  | succ i =>
   rw [List.getElem?_cons_succ] at hi;rw [List.flatten_cons, List.getElem?_append_right (by rw [hc, Nat.succ_mul]; omega), hc, show (i + 1) * sz + j - sz = i * sz + j by rw [Nat.succ_mul]; omega];exact flat_get (fun cs hc => h cs (List.mem_cons_of_mem _ hc)) hi hj
theorem rowsV_flat {els : List (List DV)} {sz : Nat} (h : ∀ cs, cs ∈ els → cs.length = sz) (hz : 0 < sz) {c : Nat} (hc : c < els.flatten.length) : ∃ i j cs d, els[i]? = some cs ∧ cs[j]? = some d ∧ c = i * sz + j ∧ els.flatten[c]? = some d := by
 rw [flat_len h] at hc;have h1 : c / sz < els.length := Nat.div_lt_of_lt_mul (by rw [Nat.mul_comm]; exact hc);have h2 : c % sz < sz := Nat.mod_lt _ hz;have e1 := List.getElem?_eq_getElem h1;have h3 := h _ (List.mem_of_getElem? e1);have e2 : c = c / sz * sz + c % sz := (Nat.div_add_mod' c sz).symm;have e3 := List.getElem?_eq_getElem (show c % sz < (els[c / sz]).length by omega);refine ⟨_, _, _, _, e1, e3, e2, ?_⟩;have := flat_get h e1 e3
 rwa [← e2] at this
theorem TRep.parts {w : World} {S : Nat → Prop} {e sz : Nat} {els : List (List DV)} {v : Value} (h : TRep w S (.view e sz els) v) (hz : 0 < sz) : ∃ (p : Option Nat × Nat) (V : List Value) (S' : Nat → Prop),
  v = .slice (p.1.map fun b => ⟨b, 0, none⟩) els.length p.2 ∧ (p.1 = none → els.length = 0 ∧ p.2 = 0) ∧ V.length = els.length * sz ∧ (∀ cs, cs ∈ els → cs.length = sz) ∧ TL w S' els.flatten V ∧ (∀ k, S k ↔ p.1 = some k ∨ S' k) ∧ (∀ k, p.1 = some k → ¬ S' k) ∧
  (∀ (c : Nat) x, els.flatten[c]? = some (.val x) → V[c]? = some x) ∧ ∀ m F, CRep m F w p (.arr e sz (rowsV sz els.length V)) := by
 cases h with
 | nil h => exact ⟨(none, 0), [], S, rfl, fun _ => ⟨rfl, rfl⟩, by simp, fun cs hc => by simp at hc, ⟨fun _ _ => False, rfl, fun i d v h => by simp at h, fun _ _ _ h => h.elim, fun k => ⟨fun h' => absurd h' (h k), fun ⟨_, h, _⟩ => by simp at h⟩⟩, fun k => by simp, fun k h => by simp at h, fun c x hc => by simp at hc, fun m F => .nil hz⟩
 | @view _ _ _ _ b cap vs fz Ts hb h1 h2 h3 h4 h5 h6 h7 h8 h9 h10 =>
  have hrow : ∀ cs, cs ∈ els → cs.length = sz := fun cs hc => by
   obtain ⟨i, hi⟩ := List.mem_iff_getElem?.1 hc;exact h6 i cs hi
  have hfl := flat_len hrow;have hcap := Nat.mul_le_mul_right sz h3;have hV : ∀ c, c < els.length * sz → ((List.range (els.length * sz)).map fun c => vs.getD c undef)[c]? = some (vs.getD c undef) := fun c hc => by simp [hc]
  have hT : ∀ c d, els.flatten[c]? = some d → TRep w (Ts c) d (vs.getD c undef) := by
   intro c d hd;obtain ⟨i, j, cs, d', e1, e2, rfl, e3⟩ := rowsV_flat hrow h5 (List.getElem?_eq_some_iff.1 hd).1;rw [e3] at hd;obtain rfl : d' = d := by simpa using hd
   exact h7 i cs j d' e1 e2
  refine ⟨(some b, cap), (List.range (els.length * sz)).map fun c => vs.getD c undef, fun k => ∃ c, c < els.length * sz ∧ Ts c k, rfl, fun h => by simp at h, by simp, hrow, ⟨Ts, by simp [hfl], fun c d v hd hv => ?_, h9, fun k => by rw [hfl]⟩, fun k => by rw [h10 k]; simp [eq_comm], fun k hk => ?_, fun c x hc => ?_, fun m F => .arr hb h1 h2 (by rw [rowsV_len]; exact h3) h4 h5 (fun i cs hi => (rowsV_row hi).2.1) (fun i cs j d hi hj => ?_)⟩
  ·have hlt := (List.getElem?_eq_some_iff.1 hd).1;rw [hfl] at hlt;rw [hV c hlt] at hv;simp only [Option.some.injEq] at hv;subst hv;exact hT c d hd
  ·simp only [Option.some.injEq] at hk;subst hk;rintro ⟨c, _, hc⟩;exact h8 c hc
  ·have hlt := (List.getElem?_eq_some_iff.1 hc).1;rw [hfl] at hlt;rw [hV c hlt];have := hT c _ hc;generalize vs.getD c undef = u at this;cases this; rfl
  obtain ⟨hi1, _, hrw⟩ := rowsV_row hi;obtain ⟨hj1, rfl⟩ := hrw j d hj;have hlt := row_lt hi1 hj1;rw [hV _ hlt, Option.getD_some];refine .val ?_;have hlt' : i * sz + j < els.flatten.length := by rw [hfl]; exact hlt
  have hE := List.getElem?_eq_getElem hlt';generalize els.flatten[i * sz + j] = dd at hE;have := hT _ _ hE;generalize vs.getD (i * sz + j) undef = u at this;cases this <;> first | assumption | trivial
theorem TRep.whole {w : World} {m : Nat → Option (Option Nat × Nat)} {F S' : Nat → Prop} {e sz : Nat} {els : List (List DV)} {V : List Value} {p : Option Nat × Nat} (hp : p.1 = none → els.length = 0 ∧ p.2 = 0) (hrow : ∀ cs, cs ∈ els → cs.length = sz) (hL : TL w S' els.flatten V) (hS : ∀ k, p.1 = some k → ¬ S' k)
  (hC : CRep m F w p (.arr e sz (rowsV sz els.length V))) : TRep w (fun k => p.1 = some k ∨ S' k) (.view e sz els) (.slice (p.1.map fun b => ⟨b, 0, none⟩) els.length p.2) := by
 have hfl := flat_len hrow;obtain ⟨Ts, g1, g2, g3, g4⟩ := hL;generalize hE : rowsV sz els.length V = E at hC;cases hC with
 | nil h =>
  have : els = [] := by
   have h2 := congrArg List.length hE;rw [rowsV_len] at h2;exact List.eq_nil_of_length_eq_zero h2
  subst this;refine .nil fun k hk => ?_
  rcases hk with hk | hk
  ·simp at hk
  obtain ⟨i, hi, _⟩ := (g4 k).1 hk;simp at hi
 | @arr b cap _ _ _ vs fz hb hf hsz hl hm h0' hrw hel =>
  subst hE;rw [rowsV_len] at hl;refine .view (fun c k => c < els.length * sz ∧ Ts c k) hb hf hsz hl hm h0' (fun i cs hi => hrow cs (List.mem_of_getElem? hi)) (fun i cs j d hi hj => ?_) (fun c hc => hS b rfl ((g4 b).2 ⟨c, by rw [hfl]; exact hc.1, hc.2⟩)) (fun c c' k h1 h2 => g3 c c' k h1.2 h2.2) (fun k => ?_)
  ·have hi1 := (List.getElem?_eq_some_iff.1 hi).1;have hj1 := (List.getElem?_eq_some_iff.1 hj).1;rw [hrow cs (List.mem_of_getElem? hi)] at hj1;have hlt := row_lt hi1 hj1;have hx := hel i _ j (DV.val ((V[i * sz + j]?).getD undef)) (rowsV_get hi1) (by simp [hj1]);have hfg := flat_get hrow hi hj;have hv := List.getElem?_eq_getElem (show i * sz + j < V.length by omega);have := g2 _ _ _ hfg hv;rw [hv, Option.getD_some] at hx;generalize vs.getD (i * sz + j) undef = u at hx;cases hx;exact this.congr fun k => by simp [hlt]
  rw [g4 k, hfl];constructor
  ·rintro (h | ⟨c, hc, hk⟩)
   ·simp only [Option.some.injEq] at h; exact .inl h.symm
   exact .inr ⟨c, hc, hc, hk⟩
  rintro (rfl | ⟨c, hc, _, hk⟩)
  ·exact .inl rfl
  exact .inr ⟨c, hc, hk⟩
theorem TL.congr {w : World} {S S' : Nat → Prop} {L : List DV} {V : List Value} (h : TL w S L V) (he : ∀ k, S k ↔ S' k) : TL w S' L V := by
 have : S = S' := funext fun k => propext (he k)
 subst this; exact h
section
variable {P : Program} [PT P] {C : Ctx} {Q : Exit → ASt → Prop} {s : ASt} {ops : Array Oper}
theorem WeakR.okI (i : Nat) {k : IntKind} {x : Int} (hs : s.get i = .d (.val (.int k x))) : WeakR C s fun t => okV (.int k x) ∧ t = s := by
 refine ⟨fun a w hR => ?_⟩;obtain ⟨m, hm⟩ := hR;have := hm.sl i;rw [hs] at this;refine ⟨s, ⟨?_, rfl⟩, m, hm⟩;generalize a.tmps.getD i undef = u at this;cases this with | d h => cases h with | val h => exact h
theorem retX (ρ : List (Nat × Nat)) {fn : Func} {k : Nat} {R : AV → List (Nat × Chunk) → Prop} {x r : AV} {chs' : List (Nat × Chunk)} (hx : resAV P s fn.results.toList = some x) (hR : R r chs') (h : r.leads (sig k ρ) x) (hc : leadsC (sig k ρ) s (chL chs')) (ha : apartL (sig k ρ) (keysC (chL chs')) = true) (hρ : ρ.all (fun p => Nat.blt p.1 (k + 8)) = true) : RetQ P fn k R s := by
 obtain ⟨x', r', c', ρ', h1, ⟨rfl, rfl⟩, h3, h4, h5, h6⟩ := (retN ρ hx h hc ha hρ : RetQ P fn k (Fun1 r chs') s).out;exact ⟨⟨x', _, _, ρ', h1, hR, h3, h4, h5, h6⟩⟩
theorem h_funR {dst : Option Nat} {ty : Nat} {pos : String} {af : Array Edge} {g : FuncId} {caps ys ars : List AV} {fx : Operand} {xs : Array Operand} {ats : Array TypeId} {chs : List (Nat × Chunk)} {R : AV → List (Nat × Chunk) → Prop} {cs : List Nat} {f : Nat} {gd : Option (Nat × Bool)} (hen : Enters P g) (hf : s.ev fx = .clo g caps) (hys : xs.toList.map s.ev ++ caps = ys)
  (hlead : AV.leadsL (sigC cs) ars ys) (hch : leadsC (sigC cs) s (chL chs)) (hspec : ASpec P g ars chs R) (hkeys : chs.map (·.1) = List.range cs.length) (hlen : chs.length = cs.length) (hnd : nodupB cs = true) :
  NOpR P cs s ⟨dst, .call { callee := .value fx, args := xs, argTypes := ats }, ty, pos, af, gd⟩ f (fun u => ∃ r chs', R r chs' ∧ u = callU cs f r chs') :=
 h_callR (cs := cs) hen hf hys hspec hlead hlen (fun id c h => by
  obtain ⟨⟨j, d, h1, h2, h3⟩, _⟩ := leadsC_get hch id c (by rw [getL_chL]; exact h)
  exact ⟨j, d, h1, h2, h3⟩) (fun id j h => by
  obtain ⟨c, hc⟩ := keys_range hkeys (i := id) (List.mem_range.2 (List.getElem?_eq_some_iff.1 h).1);obtain ⟨⟨j', d, h1, h2, _⟩, _⟩ := leadsC_get hch id c (by rw [getL_chL]; exact hc);have h1' : cs[id]? = some j' := h1;rw [h] at h1';obtain rfl : j = j' := by simpa using h1'
  exact ⟨d, h2⟩) (fun i i' j => nodupB_inj hnd i i' j)
end
section
variable {P : Program} [PT P] {C : Ctx} {Q : Exit → ASt → Prop} {s : ASt} {ops : Array Oper}
theorem WeakR.fact (id : Nat) {S : Nat → Prop} {K : World → Prop} {p : Prop} (hc : s.chunk id = some (.pred S K)) (hp : ∀ w, K w → p) : WeakR C s fun t => p ∧ t = s := by
 refine ⟨fun a w hR => ?_⟩;obtain ⟨m, hm⟩ := hR;obtain ⟨q0, q1, c1, l1⟩ := hm.ch id _ hc;obtain ⟨rfl, k1, _, _⟩ := c1.predAt;exact ⟨s, ⟨hp w k1, rfl⟩, m, hm⟩
theorem TRep.okView {w : World} {S : Nat → Prop} {e sz : Nat} {els : List (List DV)} {v : Value} (h : TRep w S (.view e sz els) v) : okV v := by
 cases h <;> trivial
theorem TL.okAt {w : World} {S : Nat → Prop} {L : List DV} {V : List Value} (h : TL w S L V) {i e sz : Nat} {els : List (List DV)} {v : Value} (hd : L[i]? = some (.view e sz els)) (hv : V[i]? = some v) : okV v := by
 obtain ⟨Ts, h1, h2, h3, h4⟩ := h;exact (h2 i _ v hd hv).okView
theorem TX.gone {w : World} {S : Nat → Prop} {c : Nat} {L : List DV} {V : List Value} {v : Value} (h : TX w S c L V) (hc : c < L.length) (hv : V[c]? = some v) (hok : okV v) : TL w S (L.set c (.val v)) V := by
 have := h.join (S1 := fun _ => False) (.val (fun _ h => h) hok) hc hv (fun _ h => h.elim);exact this.congr fun k => by simp
end
section
variable {P : Program} {C : Ctx} {Q : Exit → ASt → Prop} {s : ASt} {ops : List Oper} {anc : List (List Nat)}
def StepX (P : Program) (ops : List Oper) (anc : List (List Nat)) (s : ASt) (F : List ORec → Prop) (R : List ORec) (i : Nat) (o : Oper) (r : ORec) : Prop :=
 StepOk P ops (mkS s (fun k => memL k (ancAt anc i)) ops (R.take i)) o r.2 (s.nx + 8 * i) r.1 ∨
 (o.guard = none ∧ ∃ T : Upd → Prop, NOpR P r.2 (mkS s (fun k => memL k (ancAt anc i)) ops (R.take i)) o (s.nx + 8 * i) T ∧ ∀ u, T u → ∃ R', F R' ∧ R'[i]? = some (u, r.2) ∧ ∀ j, j ≠ i → i ∉ ancAt anc j → R'[j]? = R[j]?)
inductive DX (P : Program) (ops : List Oper) (anc : List (List Nat)) (s : ASt) (Q : Exit → ASt → Prop) : List FRec → (List ORec → Prop) → Prop
 | fin {l : List FRec} {ps : List (Nat × Nat)} : Nat.beq l.length ops.length = true → coverOk ops.length anc ps = true → slotOk ops ps = true → idsF l ps = true → Q .normal (mkAll s ops.length l) → DX P ops anc s Q l (fun R => R = fwd l)
 | op {l : List FRec} {o : Oper} {ids : List Nat} {u : Upd} {F : List ORec → Prop} : ops[l.length]? = some o → StepOk P ops (mkF s ops.length (ancAt anc l.length) l) o ids (s.nx + 8 * l.length) u → dstOk o.dst s.n = true → DX P ops anc s Q ((l.length, o.dst, u, ids) :: l) F → DX P ops anc s Q l F
 | opX {l : List FRec} {o : Oper} {ids : List Nat} {ι : Type} {us : ι → Upd} {F : ι → List ORec → Prop} (x₀ : ι) : ops[l.length]? = some o → o.guard = none → NOpR P ids (mkF s ops.length (ancAt anc l.length) l) o (s.nx + 8 * l.length) (fun u => ∃ x, u = us x) → dstOk o.dst s.n = true → (∀ x, DX P ops anc s Q ((l.length, o.dst, us x, ids) :: l) (F x)) →
   (∀ x y R R', F x R → F y R' → ∀ j, l.length < j → l.length ∉ ancAt anc j → R'[j]? = R[j]?) → DX P ops anc s Q l (fun R => ∃ x, F x R)
theorem DX.ex {l : List FRec} {F : List ORec → Prop} (h : DX P ops anc s Q l F) : ∃ R, F R := by
 induction h with
 | fin => exact ⟨_, rfl⟩
 | op _ _ _ _ ih => exact ih
 | opX x₀ _ _ _ _ _ _ ih => obtain ⟨R, hR⟩ := ih x₀; exact ⟨R, x₀, hR⟩
theorem FOk.pre {ops : List Oper} {i : Nat} {d : Option Nat} {u : Upd} {ids : List Nat} {l : List FRec} : fwd l <+: fwd ((i, d, u, ids) :: l) := by rw [fwd_cons]; exact List.prefix_append _ _
theorem DX.facts {l : List FRec} {F : List ORec → Prop} (h : DX P ops anc s Q l F) : FOk ops l → ∀ R, F R → fwd l <+: R ∧ (R.length = ops.length ∧ indepOk ops anc R = true ∧ Q .normal (mkS s (fun _ => true) ops R)) ∧ ∀ i o r, l.length ≤ i → ops[i]? = some o → R[i]? = some r → dstOk o.dst s.n = true ∧ StepX P ops anc s F R i o r := by
 induction h with
 | @fin l ps h1 h2 h3 h4 h5 =>
  rintro hf R rfl;have hlen : l.length = ops.length := by simpa using h1
  refine ⟨List.prefix_rfl, ⟨by rw [fwd_len, hlen], indep_parts h2 h3 (idsF_ok hf hlen h3 h4), ?_⟩, fun i o r hi ho => by have := (List.getElem?_eq_some_iff.1 ho).1; omega⟩;have : mkS s (fun _ => true) ops (fwd l) = mkAll s ops.length l := by simp [mkS, mkAll, goS_A hf, goC_A hf]
  rw [this]; exact h5
 | @op l o ids u F h1 h2 h3 _ ih =>
  intro hf R hR;obtain ⟨g1, g2, g3⟩ := ih ⟨rfl, ⟨o, h1, rfl⟩, hf⟩ R hR;have hpre : fwd l <+: R := (FOk.pre (ops := ops)).trans g1;refine ⟨hpre, g2, fun i o' r hi ho hr => ?_⟩
  by_cases hi2 : l.length + 1 ≤ i
  ·exact g3 i o' r (by simpa using hi2) ho hr
  have : i = l.length := by omega
  subst this;rw [h1] at ho;obtain rfl : o = o' := by simpa using ho
  have hr2 : R[l.length]? = some (u, ids) := by
   obtain ⟨tl, rfl⟩ := g1;rw [fwd_cons, List.append_assoc, List.getElem?_append_right (by rw [fwd_len]; exact Nat.le_refl _), fwd_len]; simp
  rw [hr2] at hr;obtain rfl : (u, ids) = r := by simpa using hr
  refine ⟨h3, .inl ?_⟩
  have : R.take l.length = fwd l := by
   obtain ⟨tl, rfl⟩ := hpre;rw [List.take_append_of_le_length (by rw [fwd_len]; exact Nat.le_refl _), List.take_of_length_le (by rw [fwd_len]; exact Nat.le_refl _)]
  rw [this, show mkS s (fun k => memL k (ancAt anc l.length)) ops (fwd l) = mkF s ops.length (ancAt anc l.length) l by simp [mkS, mkF, goS_F _ hf, goC_F _ hf]];exact h2
 | @opX l o ids ι us F x₀ h1 h2 h3 h4 h5 h6 ih =>
  rintro hf R ⟨x, hR⟩;obtain ⟨g1, g2, g3⟩ := ih x ⟨rfl, ⟨o, h1, rfl⟩, hf⟩ R hR;have hpre : fwd l <+: R := (FOk.pre (ops := ops)).trans g1;refine ⟨hpre, g2, fun i o' r hi ho hr => ?_⟩
  by_cases hi2 : l.length + 1 ≤ i
  ·obtain ⟨q1, q2⟩ := g3 i o' r (by simpa using hi2) ho hr;refine ⟨q1, ?_⟩;rcases q2 with q2 | ⟨q3, T, q4, q5⟩
   ·exact .inl q2
   exact .inr ⟨q3, T, q4, fun u hu => by obtain ⟨R', k1, k2⟩ := q5 u hu; exact ⟨R', ⟨x, k1⟩, k2⟩⟩
  have : i = l.length := by omega
  subst this;rw [h1] at ho;obtain rfl : o = o' := by simpa using ho
  have hat : ∀ y R', F y R' → R'[l.length]? = some (us y, ids) := by
   intro y R' hy;obtain ⟨q1, _⟩ := ih y ⟨rfl, ⟨o, h1, rfl⟩, hf⟩ R' hy;obtain ⟨tl, rfl⟩ := q1;rw [fwd_cons, List.append_assoc, List.getElem?_append_right (by rw [fwd_len]; exact Nat.le_refl _), fwd_len]; simp
  rw [hat x R hR] at hr;obtain rfl : (us x, ids) = r := by simpa using hr
  refine ⟨h4, .inr ⟨h2, (fun u => ∃ y, u = us y), ?_, ?_⟩⟩
  ·have : R.take l.length = fwd l := by
    obtain ⟨tl, rfl⟩ := hpre;rw [List.take_append_of_le_length (by rw [fwd_len]; exact Nat.le_refl _), List.take_of_length_le (by rw [fwd_len]; exact Nat.le_refl _)]
   rw [this, show mkS s (fun k => memL k (ancAt anc l.length)) ops (fwd l) = mkF s ops.length (ancAt anc l.length) l by simp [mkS, mkF, goS_F _ hf, goC_F _ hf]];exact h3
  rintro _ ⟨y, rfl⟩;obtain ⟨R', hR'⟩ := (h5 y).ex;refine ⟨R', ⟨y, hR'⟩, hat y R' hR', fun j hj hnj => ?_⟩;rcases Nat.lt_trichotomy j l.length with hlt | heq | hgt
  ·have p1 := (ih y ⟨rfl, ⟨o, h1, rfl⟩, hf⟩ R' hR').1;have p2 : fwd l <+: R' := (FOk.pre (ops := ops)).trans p1;obtain ⟨t1, rfl⟩ := hpre;obtain ⟨t2, rfl⟩ := p2;rw [List.getElem?_append_left (by rw [fwd_len]; exact hlt), List.getElem?_append_left (by rw [fwd_len]; exact hlt)]
  ·exact absurd heq hj
  exact h6 x y R R' hR hR' j hgt hnj
structure DG (P : Program) (ops : List Oper) (anc : List (List Nat)) (s : ASt) (Q : Exit → ASt → Prop) (rest : List Oper) (l : List FRec) (F : List ORec → Prop) : Prop where
 dx : ops.drop l.length = rest → DX P ops anc s Q l F
theorem drop_hd {rest : List Oper} {o : Oper} {k : Nat} (hr : ops.drop k = o :: rest) : ops[k]? = some o ∧ ops.drop (k + 1) = rest := by
 constructor
 ·have := congrArg (fun x => x[0]?) hr;simpa using this
 have := congrArg List.tail hr;simpa using this
theorem DG.fin {l : List FRec} {ps : List (Nat × Nat)} (n : Nat) (hn : Nat.beq ops.length n = true) (hl : Nat.beq l.length n = true) (h1 : coverOk n anc ps = true) (h2 : slotOk ops ps = true) (h3 : idsF l ps = true) (h : Q .normal (mkAll s n l)) : DG P ops anc s Q [] l (fun R => R = fwd l) := by
 refine ⟨fun _ => ?_⟩;have hn : ops.length = n := by simpa using hn
 subst hn;exact .fin hl h1 h2 h3 h
theorem DG.op {l : List FRec} {rest : List Oper} {o : Oper} {F : List ORec → Prop} (i : Nat) (row : List Nat) {ids : List Nat} {u : Upd} (n : Nat) (hi : Nat.beq l.length i = true) (hn : Nat.beq ops.length n = true) (hrow : ancAt anc i = row) (hst : StepOk P ops (mkF s n row l) o ids (s.nx + 8 * i) u) (hd : dstOk o.dst s.n = true) (h : DG P ops anc s Q rest ((i, o.dst, u, ids) :: l) F) : DG P ops anc s Q (o :: rest) l F := by
 refine ⟨fun hr => ?_⟩;have hi : l.length = i := by simpa using hi
 have hn : ops.length = n := by simpa using hn
 subst hi; subst hn; subst hrow;obtain ⟨h1, h2⟩ := drop_hd hr;exact .op h1 hst hd (h.dx h2)
theorem DG.opX {l : List FRec} {rest : List Oper} {o : Oper} {ι : Type} {us : ι → Upd} {F : ι → List ORec → Prop} (i : Nat) (row : List Nat) {ids : List Nat} (n : Nat) (x₀ : ι) (hi : Nat.beq l.length i = true) (hn : Nat.beq ops.length n = true) (hrow : ancAt anc i = row) (hg : o.guard = none) (hst : NOpR P ids (mkF s n row l) o (s.nx + 8 * i) (fun u => ∃ x, u = us x)) (hd : dstOk o.dst s.n = true)
  (h : ∀ x, DG P ops anc s Q rest ((i, o.dst, us x, ids) :: l) (F x)) (hs : ∀ x y R R', F x R → F y R' → ∀ j, i < j → i ∉ ancAt anc j → R'[j]? = R[j]?) : DG P ops anc s Q (o :: rest) l (fun R => ∃ x, F x R) := by
 refine ⟨fun hr => ?_⟩;have hi : l.length = i := by simpa using hi
 have hn : ops.length = n := by simpa using hn
 subst hi; subst hn; subst hrow;obtain ⟨h1, h2⟩ := drop_hd hr;exact .opX x₀ h1 hg hst hd (fun x => (h x).dx h2) hs
theorem DG.caseD {l : List FRec} {rest : List Oper} {F : List ORec → Prop} (j : Nat) {p : Prop} [Decidable p] (h : getF j l = some (aT (decide p))) (hp : p) (hT : DG P ops anc s Q rest (setF j (aT true) l) F) : DG P ops anc s Q rest l F := by
 rwa [setF_same (by rw [h]; simp [hp])] at hT
def behindAll (anc : List (List Nat)) (i n : Nat) : Bool := (List.range n).all fun j => Nat.ble j i || memL i (ancAt anc j)
theorem behind_same {ι : Type} {F : ι → List ORec → Prop} {n i : Nat} (hlen : ∀ x R, F x R → R.length = n) (h : behindAll anc i n = true) : ∀ x y R R', F x R → F y R' → ∀ j, i < j → i ∉ ancAt anc j → R'[j]? = R[j]? := by
 intro x y R R' h1 h2 j hj hnj;rcases Nat.lt_or_ge j n with hlt | hge
 ·simp only [behindAll, List.all_eq_true, List.mem_range, Bool.or_eq_true] at h;rcases h j hlt with g | g
  ·have : j ≤ i := by simpa using g
   omega
  exact absurd (memL_iff.1 g) hnj
 rw [List.getElem?_eq_none (by rw [hlen y R' h2]; exact hge), List.getElem?_eq_none (by rw [hlen x R h1]; exact hge)]
end
section
variable {P : Program} [PT P] {C : Ctx} {Q : Exit → ASt → Prop} {s : ASt} {ops : List Oper} {anc : List (List Nat)}
def DE (P : Program) (ops : List Oper) (anc : List (List Nat)) (s : ASt) (Q : Exit → ASt → Prop) (rest : List Oper) (l : List FRec) : Prop := ∃ F : List ORec → Prop, DG P ops anc s Q rest l F ∧ ∀ R, F R → R.length = ops.length
theorem DE.fin {l : List FRec} {ps : List (Nat × Nat)} (n : Nat) (hn : Nat.beq ops.length n = true) (hl : Nat.beq l.length n = true) (h1 : coverOk n anc ps = true) (h2 : slotOk ops ps = true) (h3 : idsF l ps = true) (h : Q .normal (mkAll s n l)) : DE P ops anc s Q [] l :=
 ⟨_, DG.fin n hn hl h1 h2 h3 h, fun R e => by
  subst e;rw [fwd_len];have h1 : ops.length = n := by simpa using hn
  have h2 : l.length = n := by simpa using hl
  omega⟩
theorem DE.op {l : List FRec} {rest : List Oper} {o : Oper} (i : Nat) (row : List Nat) {ids : List Nat} {u : Upd} (n : Nat) (hi : Nat.beq l.length i = true) (hn : Nat.beq ops.length n = true) (hrow : ancAt anc i = row) (hst : StepOk P ops (mkF s n row l) o ids (s.nx + 8 * i) u) (hd : dstOk o.dst s.n = true) (h : DE P ops anc s Q rest ((i, o.dst, u, ids) :: l)) : DE P ops anc s Q (o :: rest) l := by
 obtain ⟨F, h1, h2⟩ := h;exact ⟨F, DG.op i row n hi hn hrow hst hd h1, h2⟩
theorem DE.opX {l : List FRec} {rest : List Oper} {o : Oper} {ι : Type} {us : ι → Upd} (i : Nat) (row : List Nat) {ids : List Nat} (n : Nat) (x₀ : ι) (hi : Nat.beq l.length i = true) (hn : Nat.beq ops.length n = true) (hrow : ancAt anc i = row) (hg : o.guard = none) (hst : NOpR P ids (mkF s n row l) o (s.nx + 8 * i) (fun u => ∃ x, u = us x)) (hd : dstOk o.dst s.n = true) (hb : behindAll anc i n = true)
  (h : ∀ x, DE P ops anc s Q rest ((i, o.dst, us x, ids) :: l)) : DE P ops anc s Q (o :: rest) l := by
 have hn' : ops.length = n := by simpa using hn
 refine ⟨fun R => ∃ x, Classical.choose (h x) R, DG.opX i row n x₀ hi hn hrow hg hst hd (fun x => (Classical.choose_spec (h x)).1) (behind_same (fun x R hR => by rw [← hn']; exact (Classical.choose_spec (h x)).2 R hR) hb), fun R ⟨x, hR⟩ => (Classical.choose_spec (h x)).2 R hR⟩
end
abbrev nI (l : List Nat) : List Int := l.map fun t => ((t : Nat) : Int)
theorem nI_len (l : List Nat) : (nI l).length = l.length := List.length_map _
theorem nextL_len (E : List (Nat × Nat)) (f : Nat) : (nextL E f).length ≤ E.length := by unfold nextL; rw [List.length_map]; exact List.length_filter_le ..
theorem DistOf.lt {E : List (Nat × Nat)} {n s : Nat} {o : List Int} (h : DistOf E n s o) {v : Nat} (hv : 0 ≤ oa o v) : v < n := by have := oa_lt hv; rw [h.len] at this; exact this
theorem distF_le {E : List (Nat × Nat)} {n s : Nat} (hs : s < n) (hE : ∀ f t, (f, t) ∈ E → f < n ∧ t < n) (v : Nat) : -1 ≤ oa (distF E n s) v ∧ oa (distF E n s) v ≤ n := by
 obtain ⟨o, h⟩ := rnd_ex hs hE n;rw [h.dist.eq];exact ⟨h.lo v, h.hi0 rfl v⟩
end Go.Proofs.YtjodfopifgiipaaGreat
