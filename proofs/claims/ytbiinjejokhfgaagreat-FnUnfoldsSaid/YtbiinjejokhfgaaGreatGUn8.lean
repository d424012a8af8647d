/- Contracts of the functions of the program and of the reference, each proved by a walk through its code. -/
import Derived.Shelf.SlSortCmp.NoneTotal
import Derived.Shelf.SlGeneric
import Derived.Ground.SlsfProg
import Derived.Test.YtbiinjejokhfgaaGreatGUn7
set_option linter.all false
set_option maxRecDepth 20000
namespace Go.Proofs.YtbiinjejokhfgaaGreat
open Go.RowKit
abbrev SrtA (Fin : Nat → Prop) (w : World) (zs : List DV) : Type := {p : Value × DV // p.2 ∈ zs ∧ DRep Fin w p.2 p.1}
theorem sortWorld_heap {α : Type} [Inhabited α] (enc : α → Value) (w : World) (blk n : Nat) (d : Array α) (os : Array Obj) {j : Nat} (hj : j < w.heap.size) (hne : blk ≠ j) : (sortWorld enc w blk 0 n d os).heap[j]? = w.heap[j]? := by
 unfold sortWorld Sort.grow Sort.putRow Sort.mapBlock Sort.ahead;simp only;rw [Array.getElem?_append_left (by simpa using hj), Array.getElem?_modify, if_neg hne]
theorem sortWorld_blk {α : Type} [Inhabited α] (enc : α → Value) (w : World) (blk n : Nat) (d : Array α) (os : Array Obj) {arr : Array Value} {t : Nat} {fz : Nat × Nat} (hb : w.heap[blk]? = some (.cells arr t fz)) : (sortWorld enc w blk 0 n d os).heap[blk]? = some (.cells (Sort.putCells enc 0 d arr) t fz) := by
 have hj := lt_of_block hb;unfold sortWorld Sort.grow Sort.putRow Sort.mapBlock Sort.ahead;simp only;rw [Array.getElem?_append_left (by simpa using hj), Array.getElem?_modify, if_pos rfl, hb]
 rfl
theorem sortWorld_size {α : Type} [Inhabited α] (enc : α → Value) (w : World) (blk n : Nat) (d : Array α) (os : Array Obj) : w.heap.size ≤ (sortWorld enc w blk 0 n d os).heap.size := by
 unfold sortWorld;rw [Sort.size_grow, Sort.size_putRow]; exact Nat.le_add_right _ _
theorem ASpec.ofSortM {P : Program} {ρ : Go.Shelf.Ren} (L : Go.Proofs.SlLaysF.n6 P ρ) {g : FuncId} {t : Nat} (zs : List DV) (cf : DV → DV → Int) (hO : Sort.SWO fun x y : DV => decide (cf x y < 0)) (eg : Enters P g)
  (hcmp : ∀ (F : Nat → Prop) (W : World) (x y : DV) (v u : Value), x ∈ zs → y ∈ zs → DRep F W x v → DRep F W y u → Calls P g #[v, u] W fun e w' => e = .returned (.int .i64 (cf x y)) ∧ w' = W) (hsz : zs.length < 4611686018427387904) :
  ASpec P (ρ.f 6) [.own 0 zs.length, .clo g []] [(0, .arr t 1 (zs.map fun d => [d]))] (fun r chs => ∃ ys : List DV, ys.Perm zs ∧ ys.Pairwise (fun a b => ¬ cf b a < 0) ∧ r = .tup [] ∧ chs = [(0, .arr t 1 (ys.map fun d => [d]))]) := by
 intro w m Fin vs hfin hn ha hch hinj hm;have ha0 := ha 0 _ rfl;have ha1 := ha 1 _ rfl
 have hvs : vs = #[vs.getD 0 undef, vs.getD 1 undef] := by
  apply Array.ext
  ·rw [hn]; rfl
  intro i hi1 hi2
  match i with
  | 0 => simp [Array.getD_eq_getD_getElem?, Array.getElem?_eq_getElem hi1]
  | 1 => simp [Array.getD_eq_getD_getElem?, Array.getElem?_eq_getElem hi1]
  | i + 2 => simp at hi2; omega
 obtain ⟨-, p, hp, hr⟩ := hch 0 _ rfl
 have hone : ∀ (id : Nat) (c d : Chunk), getL id [((0 : Nat), d)] = some c → id = 0 ∧ c = d := by
  intro id c d hc;rw [getL_cons] at hc
  split at hc
  ·rename_i e; simp at hc; exact ⟨e, hc.symm⟩
  simp [getL] at hc
 generalize hv0 : vs.getD 0 undef = v0 at ha0;generalize hv1 : vs.getD 1 undef = v1 at ha1;rw [hv0, hv1] at hvs;subst hvs
 have e1 : v1 = .func (.func g) #[] #[] := by
  cases ha1 with
  | clo hs _ =>
   rename_i us h3;have hus : us = (#[] : Array Value) := Array.eq_empty_of_size_eq_zero hs;rw [hus]
 subst e1
 by_cases hz0 : zs = []
 ·subst hz0;cases ha0 with
  | own hq hq0 =>
   rename_i cap b;refine (AnyF.slices_SortFunc_none { L with } _ cap _ w).mono ?_;rintro e w' ⟨rfl, rfl⟩;refine ⟨_, _, _, m, fun k' => (Fin k' ∨ (∃ id c p, getL id [((0 : Nat), Chunk.arr t 1 (([] : List DV).map fun d => [d]))] = some c ∧ m id = some p ∧ occ p c k') ∨ w'.heap.size ≤ k') ∧ k' < w'.heap.size ∧ ∀ id c p, getL id [((0 : Nat), Chunk.arr t 1 (([] : List DV).map fun d => [d]))] = some c → m id = some p → ¬ occ p c k', rfl, ⟨[], .refl _, List.Pairwise.nil, rfl, rfl⟩, fun _ _ _ h => h, fun id hid => hm id (by simp only [List.length_singleton] at hid ⊢; omega), fun k' => Iff.rfl, ⟨rfl, rfl, rfl, Nat.le_refl _, fun _ _ _ => rfl⟩, .tup rfl (fun i c hc => by simp at hc), fun id c hc => ?_, fun id id' c c' p p' b hc hc' => ?_⟩
   ·obtain ⟨rfl, rfl⟩ := hone _ _ _ hc;refine ⟨p, hp, hr.turn (MLe.refl m) (fun k hk hlt => And.intro ⟨.inl hk, hlt, fun id c q hc hq5 => by obtain ⟨rfl, rfl⟩ := hone _ _ _ hc; exact (hfin k hk).2 0 _ q rfl hq5⟩ rfl) (fun _ _ => rfl), fun b hb => .inr ⟨0, _, p, rfl, hp, hb⟩⟩
   rw [(hone _ _ _ hc).1, (hone _ _ _ hc').1]; exact fun _ _ _ _ => rfl
 have hpos : 0 < zs.length := List.length_pos_iff.2 hz0;cases ha0 with
 | own hq hq0 =>
  rename_i cap b;cases b with
  | none => have := hq0 rfl; omega
  | some blk =>
   rw [hp] at hq;obtain rfl : p = (some blk, cap) := by simpa using hq
   cases hr with
   | arr hb hf hsz0 hl hmx h0' hrow hel =>
    rename_i arr fz;have hl' : zs.length ≤ cap := by simpa using hl
    have hlk : zs.length ≤ arr.size := by rw [hsz0, Nat.mul_one]; exact hl'
    have hcell : ∀ i (hi : i < zs.length), DRep Fin w zs[i] (arr.getD i undef) := by
     intro i hi;have := hel i [zs[i]] 0 zs[i] (by simp [List.getElem?_eq_getElem hi]) rfl
     rwa [Nat.mul_one, Nat.add_zero] at this
    have hbf : ¬ Fin blk := fun h => (hfin blk h).2 0 _ _ rfl hp (.inl rfl)
    let D : Array (SrtA Fin w zs) := Array.ofFn (n := zs.length) fun i => ⟨(arr.getD i.1 undef, zs[i.1]), List.getElem_mem _, hcell i.1 i.2⟩
    have hDs : D.size = zs.length := Array.size_ofFn
    haveI : Inhabited (SrtA Fin w zs) := ⟨⟨(arr.getD 0 undef, zs[0]), List.getElem_mem _, hcell 0 hpos⟩⟩
    let enc : SrtA Fin w zs → Value := fun a => a.1.1
    let cg : SrtA Fin w zs → SrtA Fin w zs → Int := fun a b => cf a.1.2 b.1.2
    have hDg : ∀ q (hq : q < zs.length), D[q]! = ⟨(arr.getD q undef, zs[q]), List.getElem_mem _, hcell q hq⟩ := fun q hq => by
     rw [getElem!_pos D q (by omega)];exact Array.getElem_ofFn _
    have hH : Sort.Holds enc w blk 0 D := by
     intro q hq;rw [hDs] at hq;rw [hDg q hq, Nat.zero_add];refine ⟨cell_getD hb (by omega), ?_⟩;unfold World.frozen?;simp only [hb];have := hf q (by omega);obtain ⟨lo, hi⟩ := fz;simp only [not_and, Nat.not_lt] at this ⊢;simpa using this
    have hlay : CmpLays1 P g #[] enc cg blk 0 D.size w := by
     intro mm os dk hdk x y;have hx := x.2.2.turn (F' := Fin) (w' := sortWorld enc w blk 0 mm dk os) (fun k hk hlt => ⟨hk, sortWorld_heap enc w blk mm dk os hlt (fun e => hbf (by rw [e]; exact hk))⟩);have hy := y.2.2.turn (F' := Fin) (w' := sortWorld enc w blk 0 mm dk os) (fun k hk hlt => ⟨hk, sortWorld_heap enc w blk mm dk os hlt (fun e => hbf (by rw [e]; exact hk))⟩);refine (hcmp Fin _ x.1.2 y.1.2 x.1.1 y.1.1 x.2.1 y.2.1 hx hy).mono ?_;rintro e w' ⟨rfl, rfl⟩;exact ⟨rfl, 0, #[], by rw [Sort.grow_empty]; rfl⟩
    refine (Any.slices_SortFunc L enc (fun a => a.2.2.one) cg ⟨fun a => hO.irrefl a.1.2, fun a b c => hO.trans a.1.2 b.1.2 c.1.2, fun a b c => hO.ntrans a.1.2 b.1.2 c.1.2⟩ g #[] blk 0 cap D w eg hlay hH (lt_of_block hb) (by omega)).mono ?_ |> fun h => by rw [hDs] at h; exact h
    rintro e w' ⟨rfl, d', n, os, ⟨hds, -, hperm⟩, hsrt, rfl⟩;have hbw := lt_of_block hb;have hd's : d'.size = zs.length := by rw [hds, hDs]
    have hfull : ∀ A : Array (SrtA Fin w zs), A.size = zs.length → (A.extract 0 D.size).toList = A.toList := fun A hA => by rw [hDs, ← hA, Array.extract_size]
    rw [hfull d' hd's, hfull D hDs] at hperm
    have hDz : D.toList.map (fun a => a.1.2) = zs := by
     apply List.ext_getElem
     ·rw [List.length_map, Array.length_toList, hDs]
     intro i h1 h2;rw [List.getElem_map, Array.getElem_toList, ← getElem!_pos D i (by omega), hDg i h2]
    obtain ⟨ys, hys⟩ := eqx (d'.toList.map (fun a => a.1.2));have hyp : ys.Perm zs := by rw [hys]; exact (hperm.map (fun a => a.1.2)).trans (List.Perm.of_eq hDz)
    have hyl : ys.length = zs.length := hyp.length_eq
    have hyg : ∀ i (hi : i < ys.length), ys[i] = (d'[i]!).1.2 := fun i hi => by
     subst hys;rw [List.getElem_map, Array.getElem_toList, ← getElem!_pos d' i (by omega)]
    have hyd : ∀ i (hi : i < ys.length), DRep Fin w ys[i] ((d'[i]!).1.1) := fun i hi => by rw [hyg i hi]; exact (d'[i]!).2.2
    refine ⟨_, _, _, m, fun k' => (Fin k' ∨ (∃ id c p, getL id [((0 : Nat), Chunk.arr t 1 (zs.map fun d => [d]))] = some c ∧ m id = some p ∧ occ p c k') ∨ w.heap.size ≤ k') ∧ k' < (sortWorld enc w blk 0 n d' os).heap.size ∧ ∀ id c p, getL id [((0 : Nat), Chunk.arr t 1 (ys.map fun d => [d]))] = some c → m id = some p → ¬ occ p c k', rfl, ⟨ys, hyp, ?_, rfl, rfl⟩, fun _ _ _ h => h, fun id hid => hm id (by simp only [List.length_singleton] at hid ⊢; omega), fun k' => Iff.rfl, ⟨rfl, rfl, rfl, sortWorld_size enc w blk n d' os, fun k' hk' hne => ?_⟩, .tup rfl (fun i c hc => by simp at hc), fun id c hc => ?_, fun id id' c c' p p' b hc hc' => ?_⟩
    ·rw [List.pairwise_iff_getElem];intro i j hi hj hij;rw [hyg i hi, hyg j hj];have := hsrt i j (Nat.zero_le _) hij (by omega);simpa [ltOf] using this
    ·exact sortWorld_heap enc w blk n d' os hk' (fun e => hne 0 _ _ rfl hp (.inl (congrArg some e)))
    ·obtain ⟨rfl, rfl⟩ := hone _ _ _ hc;refine ⟨_, hp, .arr (sortWorld_blk enc w blk n d' os hb) (fun i hi => hf i (by simpa [Sort.putCells] using hi)) (by simpa [Sort.putCells] using hsz0) (by rw [List.length_map, hyl]; exact hl') hmx h0' (fun i cs hi => ?_) (fun i cs j d hi hj => ?_), fun b hb' => .inr ⟨0, _, _, rfl, hp, hb'⟩⟩
     ·rw [List.getElem?_map, Option.map_eq_some_iff] at hi;obtain ⟨x, _, rfl⟩ := hi
      rfl
     rw [List.getElem?_map, Option.map_eq_some_iff] at hi;obtain ⟨x, hx, rfl⟩ := hi;have hi' : i < ys.length := (List.getElem?_eq_some_iff.1 hx).1;have hxx : ys[i] = x := (List.getElem?_eq_some_iff.1 hx).2;have hj0 : j = 0 := by have := (List.getElem?_eq_some_iff.1 hj).1; simpa using this
     subst hj0;obtain rfl : x = d := by simpa using hj
     have hi2 : i < arr.size := by omega
     have hval : (Sort.putCells enc 0 d' arr).getD (i * 1 + 0) undef = (d'[i]!).1.1 := by
      rw [Nat.mul_one, Nat.add_zero, Array.getD_eq_getD_getElem?];unfold Sort.putCells;rw [Array.getElem?_mapIdx, Array.getElem?_eq_getElem hi2];simp only [Option.map_some, Option.getD_some, Nat.zero_le, true_and, Nat.zero_add, Nat.sub_zero];rw [if_pos (by omega)]
     rw [hval, ← hxx];refine (hyd i hi').turn fun k hk hlt => ⟨⟨.inl hk, Nat.lt_of_lt_of_le hlt (sortWorld_size enc w blk n d' os), fun id c q hc hq5 => ?_⟩, sortWorld_heap enc w blk n d' os hlt (fun e => hbf (by rw [e]; exact hk))⟩
     obtain ⟨rfl, rfl⟩ := hone _ _ _ hc;exact (hfin k hk).2 0 (.arr t 1 (zs.map fun d => [d])) q rfl hq5
    rw [(hone _ _ _ hc).1, (hone _ _ _ hc').1]; exact fun _ _ _ _ => rfl
end Go.Proofs.YtbiinjejokhfgaaGreat
namespace Go.Proofs
open Go.Shelf
def Tryz.sortCh_ren : Go.Shelf.Ren := ⟨fun | 6 => 140 | 15 => 161 | 14 => 160 | 28 => 179 | 29 => 180 | 20 => 171 | 21 => 172 | 22 => 173 | 23 => 174 | 24 => 175 | 25 => 176 | 26 => 177 | 27 => 178 | 46 => 194 | 47 => 195 | 48 => 196 | 49 => 197 | 50 => 198 | 57 => 202 | n => n, fun | 22 => 168 | 24 => 36 | 25 => 171 | 3 => 3 | 39 => 177 | 0 => 0 | 53 => 197 | 55 => 86 | 4 => 4 | 46 => 191 | 45 => 190 | 50 => 32 | 5 => 5 | 9 => 9 | 66 => 207 | 70 => 211 | 76 => 215 | 77 => 216 | n => n, fun | n => n⟩
theorem Tryz.sortCh : Go.Proofs.SlLaysF.n6 Tryz.prog Tryz.sortCh_ren := {
 mixed := by kernel_rfl
 f6 := ⟨Tryz.f140.name, by decide, Tryz.func140.trans (congrArg some (by kernel_rfl))⟩
 f14 := ⟨Tryz.f160.name, by decide, Tryz.func160.trans (congrArg some (by kernel_rfl))⟩
 f15 := Tryz.func161.trans (congrArg some (by kernel_rfl))
 f20 := ⟨Tryz.f171.name, by decide, Tryz.func171.trans (congrArg some (by kernel_rfl))⟩
 f21 := ⟨Tryz.f172.name, by decide, Tryz.func172.trans (congrArg some (by kernel_rfl))⟩
 f22 := ⟨Tryz.f173.name, by decide, Tryz.func173.trans (congrArg some (by kernel_rfl))⟩
 f23 := ⟨Tryz.f174.name, by decide, Tryz.func174.trans (congrArg some (by kernel_rfl))⟩
 f24 := ⟨Tryz.f175.name, by decide, Tryz.func175.trans (congrArg some (by kernel_rfl))⟩
 f25 := ⟨Tryz.f176.name, by decide, Tryz.func176.trans (congrArg some (by kernel_rfl))⟩
 f26 := ⟨Tryz.f177.name, by decide, Tryz.func177.trans (congrArg some (by kernel_rfl))⟩
 f27 := ⟨Tryz.f178.name, by decide, Tryz.func178.trans (congrArg some (by kernel_rfl))⟩
 f28 := Tryz.func179.trans (congrArg some (by kernel_rfl))
 f29 := Tryz.func180.trans (congrArg some (by kernel_rfl))
 f46 := ⟨Tryz.f194.name, by decide, Tryz.func194.trans (congrArg some (by kernel_rfl))⟩
 f47 := Tryz.func195.trans (congrArg some (by kernel_rfl))
 f48 := Tryz.func196.trans (congrArg some (by kernel_rfl))
 f49 := ⟨Tryz.f197.name, by decide, Tryz.func197.trans (congrArg some (by kernel_rfl))⟩
 f50 := ⟨Tryz.f198.name, by decide, Tryz.func198.trans (congrArg some (by kernel_rfl))⟩
 f57 := ⟨Tryz.f202.name, by decide, Tryz.func202.trans (congrArg some (by kernel_rfl))⟩
 t0 := Tryz.underlying0
 a0 := Tryz.isAgg0
 z0 := Tryz.sizeOf0
 v0 := Tryz.zeroValue0
 t3 := Tryz.underlying3
 a3 := Tryz.isAgg3
 z3 := Tryz.sizeOf3
 v3 := Tryz.zeroValue3
 t4 := Tryz.underlying4
 a4 := Tryz.isAgg4
 z4 := Tryz.sizeOf4
 v4 := Tryz.zeroValue4
 t5 := Tryz.underlying5
 a5 := Tryz.isAgg5
 z5 := Tryz.sizeOf5
 v5 := Tryz.zeroValue5
 t9 := Tryz.underlying9
 a9 := Tryz.isAgg9
 z9 := Tryz.sizeOf9
 v9 := Tryz.zeroValue9
 t22 := Tryz.underlying168
 a22 := Tryz.isAgg168
 z22 := Tryz.sizeOf168
 v22 := Tryz.zeroValue168
 a24 := Tryz.isAgg36
 z24 := Tryz.sizeOf36
 t25 := Tryz.underlying171
 a25 := Tryz.isAgg171
 z25 := Tryz.sizeOf171
 v25 := Tryz.zeroValue171
 t39 := Tryz.underlying177
 a39 := Tryz.isAgg177
 z39 := Tryz.sizeOf177
 v39 := Tryz.zeroValue177
 t45 := Tryz.underlying190
 a45 := Tryz.isAgg190
 z45 := Tryz.sizeOf190
 v45 := Tryz.zeroValue190
 t46 := Tryz.underlying191
 a46 := Tryz.isAgg191
 z46 := Tryz.sizeOf191
 v46 := Tryz.zeroValue191
 t50 := Tryz.underlying32
 a50 := Tryz.isAgg32
 z50 := Tryz.sizeOf32
 v50 := Tryz.zeroValue32
 t53 := Tryz.underlying197
 a53 := Tryz.isAgg197
 z53 := Tryz.sizeOf197
 v53 := Tryz.zeroValue197
 t55 := Tryz.underlying86
 a55 := Tryz.isAgg86
 z55 := Tryz.sizeOf86
 v55 := Tryz.zeroValue86
 t66 := Tryz.underlying207
 a66 := Tryz.isAgg207
 z66 := Tryz.sizeOf207
 v66 := Tryz.zeroValue207
 t70 := Tryz.underlying211
 a70 := Tryz.isAgg211
 z70 := Tryz.sizeOf211
 v70 := Tryz.zeroValue211
 t76 := Tryz.underlying215
 a76 := Tryz.isAgg215
 z76 := Tryz.sizeOf215
 v76 := Tryz.zeroValue215
 t77 := Tryz.underlying216
 a77 := Tryz.isAgg216
 z77 := Tryz.sizeOf216
 v77 := Tryz.zeroValue216 }
end Go.Proofs
namespace Go.Proofs.YtbiinjejokhfgaaGreat
open Go.RowKit
theorem ahead_refl : ∀ x : List Int, aheadI x x = false
 | [] => rfl
 | a :: x => by rw [aheadI, if_pos rfl]; exact ahead_refl x
theorem ahead_trans : ∀ {x y z : List Int}, aheadI x y = true → aheadI y z = true → aheadI x z = true
 | [], [], _, h, _ => by simp [aheadI] at h
 | [], _ :: _, [], _, h => by simp [aheadI] at h
 | [], _ :: _, _ :: _, _, _ => rfl
 | _ :: _, [], _, h, _ => by simp [aheadI] at h
 | _ :: _, _ :: _, [], _, h => by simp [aheadI] at h
 | a :: x, b :: y, c :: z, h1, h2 => by
  rw [aheadI] at h1 h2 ⊢
  by_cases e1 : a = b
  ·subst e1;rw [if_pos rfl] at h1
   by_cases e2 : a = c
   ·rw [if_pos e2] at h2 ⊢; exact ahead_trans h1 h2
   rw [if_neg e2] at h2 ⊢; exact h2
  rw [if_neg e1, decide_eq_true_eq] at h1
  by_cases e2 : b = c
  ·subst e2;rw [if_neg e1, decide_eq_true_eq]; exact h1
  rw [if_neg e2, decide_eq_true_eq] at h2;rw [if_neg (by omega), decide_eq_true_eq]; omega
theorem ahead_eq : ∀ {x y : List Int}, aheadI x y = false → aheadI y x = false → x = y
 | [], [], _, _ => rfl
 | [], _ :: _, h, _ => by simp [aheadI] at h
 | _ :: _, [], _, h => by simp [aheadI] at h
 | a :: x, b :: y, h1, h2 => by
  rw [aheadI] at h1 h2
  by_cases e : a = b
  ·subst e;rw [if_pos rfl] at h1 h2;rw [ahead_eq h1 h2]
  rw [if_neg e, decide_eq_false_iff_not] at h1;rw [if_neg (fun q => e q.symm), decide_eq_false_iff_not] at h2;omega
theorem ahead_asym {x y : List Int} (h : aheadI x y = true) : aheadI y x = false := by
 rw [← Bool.not_eq_true];intro q;have := ahead_trans h q;rw [ahead_refl] at this; cases this
theorem lex_neg (x y : List Int) : lexI x y < 0 ↔ aheadI x y = true := by
 rw [lex_ahead]
 split
 ·simp_all
 split <;> simp_all
def decI : DV → List Int
 | .view _ _ els => els.map fun r => match r with
  | [.val (.int _ i)] => i
  | _ => 0
 | _ => []
theorem decI_vI (l : List Int) : decI (vI l) = l := by
 show (ints l).map _ = l;unfold ints;rw [List.map_map];exact List.map_id l
theorem rd_of {F : Nat → Prop} {W : World} {l : List Int} {v : Value} (hl : l.length ≤ 1000000000) (h : DRep F W (vI l) v) : RdI W v l := by
 generalize hd : vI l = d at h;cases h with
 | val => cases hd
 | nil => injection hd with _ _ e; have : l = [] := List.map_eq_nil_iff.1 e; subst this; exact ⟨0, 0, 0, _, rfl, hl, fun h => absurd h (Nat.lt_irrefl _), fun i h => absurd h (Nat.not_lt_zero _)⟩
 | empty => injection hd with _ _ e; have : l = [] := List.map_eq_nil_iff.1 e; subst this; exact ⟨0, 0, 0, _, rfl, hl, fun h => absurd h (Nat.lt_irrefl _), fun i h => absurd h (Nat.not_lt_zero _)⟩
 | @view _ _ _ e2 b off cap arr fz hF hb h1 h2 h3 h4 h5 =>
  injection hd with q1 q2 q3
  subst q1;subst q2;subst q3;rw [ints_len];refine ⟨b, off, cap, _, rfl, hl, fun _ => rfl, fun i hi => ?_⟩;rw [ints_len] at h1;have hv := (h5 i [dI l[i]] 0 (dI l[i]) (ints_at hi) rfl).val_is.1;rw [Nat.mul_one, Nat.add_zero] at hv;rw [← hv];exact cell_getD hb (by omega)
 | _ => cases hd
def srtL (l : List (List Int)) : Prop := l.Pairwise fun a b => aheadI b a = false
abbrev rwI (l : List (List Int)) : List (List DV) := l.map fun x => [vI x]
theorem rwI_len (l : List (List Int)) : (rwI l).length = l.length := List.length_map _
theorem rwI_get {l : List (List Int)} {k : Nat} (h : k < l.length) : (rwI l)[k]? = some [vI l[k]] := by rw [List.getElem?_map, List.getElem?_eq_getElem h]; rfl
theorem ASpec.wide {P : Program} {f : FuncId} {args : List AV} {chs : List (Nat × Chunk)} {R R' : AV → List (Nat × Chunk) → Prop} (h : ASpec P f args chs R) (hR : ∀ r chs', R r chs' → R' r chs') : ASpec P f args chs R' :=
 fun w m Fin vs h1 h2 h3 h4 h5 h6 => (h w m Fin vs h1 h2 h3 h4 h5 h6).mono fun _ _ ⟨v, r, chs', m', F', he, hr, rest⟩ => ⟨v, r, chs', m', F', he, hR _ _ hr, rest⟩
theorem lex_swo : Sort.SWO fun x y : DV => decide (lexI (decI x) (decI y) < 0) := by
 have e : ∀ x y : List Int, decide (lexI x y < 0) = aheadI x y := fun x y => by
  cases h : aheadI x y with
  | true => exact decide_eq_true ((lex_neg x y).2 h)
  | false => exact decide_eq_false fun q => by rw [(lex_neg x y).1 q] at h; cases h
 refine ⟨fun a => ?_, fun a b c h1 h2 => ?_, fun a b c h1 h2 => ?_⟩
 ·rw [e]; exact ahead_refl _
 ·rw [e] at h1 h2 ⊢; exact ahead_trans h1 h2
 rw [e] at h1 h2 ⊢;rw [← Bool.not_eq_true];intro h3;cases h4 : aheadI (decI b) (decI a) with
 | true =>
  have := ahead_trans h4 h3;rw [this] at h2; cases h2
 | false =>
  rw [ahead_eq h1 h4] at h3;rw [h3] at h2; cases h2
theorem perm_map_inv : ∀ {zs : List (List Int)} {ys : List DV}, ys.Perm (zs.map vI) → ys = (ys.map decI).map vI ∧ (ys.map decI).Perm zs := by
 intro zs ys h;constructor
 ·rw [List.map_map];refine (List.map_id ys).symm.trans (List.map_congr_left fun d hd => ?_);obtain ⟨l, _, rfl⟩ := List.mem_map.1 (h.mem_iff.1 hd);show vI l = vI (decI (vI l));rw [decI_vI]
 refine (h.map decI).trans (List.Perm.of_eq ?_);rw [List.map_map];refine (List.map_congr_left fun l _ => ?_).trans (List.map_id zs);exact decI_vI l
theorem sortCh_spec (zs : List (List Int)) (hl : zs.length ≤ 100000000) (hz : ∀ z, z ∈ zs → z.length ≤ 1000000) :
  ASpec Tryz.prog 140 [.own 0 zs.length, .clo 141 []] [(0, .arr 36 1 (rwI zs))] (fun r chs => ∃ ys : List (List Int), ys.Perm zs ∧ srtL ys ∧ r = .tup [] ∧ chs = [(0, .arr 36 1 (rwI ys))]) := by
 have h := ASpec.ofSortM (P := Tryz.prog) Tryz.sortCh (g := 141) (t := 36) (zs.map vI) (fun a b => lexI (decI a) (decI b)) lex_swo (enters_of Tryz.func141 rfl rfl) (fun F W x y v u hx hy hv hu => ?_) (by rw [List.length_map]; omega)
 ·rw [List.length_map, List.map_map] at h;refine ASpec.wide h ?_;rintro r chs ⟨ys, hp, hs, rfl, rfl⟩;obtain ⟨h1, h2⟩ := perm_map_inv hp;refine ⟨ys.map decI, h2, ?_, rfl, ?_⟩
  ·unfold srtL;rw [List.pairwise_map];refine hs.imp fun {a b} q => ?_
   rw [← Bool.not_eq_true];exact fun w => q ((lex_neg _ _).2 w)
  have e : ys.map (fun d => [d]) = rwI (ys.map decI) := by
   conv => lhs; rw [h1]
   rw [List.map_map]; rfl
  exact congrArg (fun q => [((0 : Nat), Chunk.arr 36 1 q)]) e
 obtain ⟨x, hx', rfl⟩ := List.mem_map.1 hx;obtain ⟨y, hy', rfl⟩ := List.mem_map.1 hy;rw [decI_vI, decI_vI];have h1 := hz x hx';have h2 := hz y hy';exact slCompare_calls v u x y W (rd_of (by omega) hv) (rd_of (by omega) hu)
theorem h_appendV (acc : List (List Int)) (z : List Int) {s : ASt} {dst : Option Nat} {ty : Nat} {pos : String} {af : Array Edge} {gd : Option (Nat × Bool)} {x y : Operand} {f : Nat} {ids ids2 : List Nat} {gone : List (Nat × Option Chunk)}
  (hto : AppTo s x 36 1 (rwI acc) ids gone) (harg : AppArg s y 1 [[vI z]] ids2) (h : acc.length + 1 ≤ 100000000) :
  NOp Tryz.prog (ids ++ ids2) s ⟨dst, .call { callee := .builtin .append, args := #[x, y], argTypes := #[168, 168] }, ty, pos, af, gd⟩ f ⟨.own f (acc ++ [z]).length, (f, some (.arr 36 1 (rwI (acc ++ [z])))) :: gone⟩ := by
 have hl : (acc ++ [z]).length = acc.length + 1 := by rw [List.length_append]; rfl
 have := h_append (P := Tryz.prog) (s := s) (dst := dst) (ty := ty) (pos := pos) (af := af) (gd := gd) (x := x) (y := y) (f := f) (t := 168) (tx := 168) (k := (acc ++ [z]).length) rfl rfl rfl rfl rfl rfl hto harg (by rw [hl, rwI_len]; rfl) (by omega) (by show (acc ++ [z]).length * 24 ≤ _; omega) (fun _ => by show 0 < 1; omega);have e : rwI acc ++ [[vI z]] = rwI (acc ++ [z]) := by unfold rwI; rw [List.map_append]; rfl
 rwa [e] at this
theorem cloneW_spec (l : List Int) (hl : l.length ≤ 1000000) : ASpec Tryz.prog 159 [.d (vI l)] [] (Fun1 (.own 0 l.length) [(0, .arr 3 1 (ints l))]) := by
 refine ASpec.of Tryz.func159 rfl rfl fun C hC => ?_
 refine AC.seq (AC.region ?_);refine za ?_;refine AL.nil (th_n (AC.seq (AC.seq (AC.region ?_))));refine zm ?_;refine AL.eqNil (ht := rfl) (hx := rfl) rfl (fun b hb => ?_);refine AL.nil (th_n ?_);refine AC.condB rfl (fun h0 => ?_) (fun h0 => ?_)
 ·refine AC.seq (AC.region ?_);refine za ?_;refine AL.nil (th_n ?_);have e : l = [] := by have := hb h0; simpa [ints] using this
  subst e;refine AC.weak (Weak.nilOwn (i := 2) (e := 3) (sz := 1) rfl (by decide)) ?_;refine AC.ret (th_r (bq_r ?_));exact retN [(0, _)] rfl (by repeat (first | exact rfl | refine ⟨_, rfl, ?_⟩)) (by repeat (first | exact True.intro | refine And.intro ?_ ?_ | exact rfl | refine ⟨_, _, rfl, rfl, ?_⟩)) rfl rfl
 refine AC.skip (th_n (AC.seq (AC.region ?_)));refine AL.q (by exact h_lit rfl rfl rfl rfl rfl rfl rfl rfl) rfl ?_;refine zm ?_;refine AL.q (by exact h_appendI [] l (.own rfl rfl rfl) (.view rfl) (by simp; omega) (by simp)) rfl ?_;refine AL.p (by exact as2 rfl) rfl ?_;refine AL.nil (th_n (AC.ret (bq_r ?_)));exact retN [(0, _)] rfl (by repeat (first | exact rfl | refine ⟨_, rfl, ?_⟩)) (by repeat (first | exact True.intro | refine And.intro ?_ ?_ | exact rfl | refine ⟨_, _, rfl, rfl, ?_⟩)) rfl rfl
def chB (u : Unf) (L A : List ES) (p : Int) (l : List Int) (c : Nat) : Bool := decide ((cAt u (c : Int)).place = p) && cosetI u L A (l ++ [(c : Int)])
def chD (u : Unf) (L A : List ES) : List Int → List Int → List (List Int)
 | [], l => [sortI l]
 | p :: ps, l => (List.range u.cs.length).flatMap fun c => if chB u L A p l c = true then chD u L A ps (l ++ [(c : Int)]) else []
def chP (u : Unf) (L A : List ES) (p : Int) (ps l : List Int) (k : Nat) : List (List Int) := (List.range k).flatMap fun c => if chB u L A p l c = true then chD u L A ps (l ++ [(c : Int)]) else []
theorem chP_all (u : Unf) (L A : List ES) (p : Int) (ps l : List Int) : chD u L A (p :: ps) l = chP u L A p ps l u.cs.length := rfl
theorem chP_succ (u : Unf) (L A : List ES) (p : Int) (ps l : List Int) (k : Nat) : chP u L A p ps l (k + 1) = chP u L A p ps l k ++ (if chB u L A p l k = true then chD u L A ps (l ++ [(k : Int)]) else []) := by
 unfold chP;rw [List.range_succ, List.flatMap_append];simp
theorem chD_len (u : Unf) (L A : List ES) : ∀ (ps l : List Int), (chD u L A ps l).length ≤ u.cs.length ^ ps.length
 | [], l => Nat.le_refl _
 | p :: ps, l => by
  have h : ∀ k, (chP u L A p ps l k).length ≤ k * u.cs.length ^ ps.length := by
   intro k
   induction k with
   | zero => exact Nat.zero_le _
   | succ k ih =>
    have := chD_len u L A ps (l ++ [(k : Int)]);rw [chP_succ, List.length_append, Nat.succ_mul];refine Nat.add_le_add ih ?_
    split
    ·exact this
    exact Nat.zero_le _
  have := h u.cs.length;rw [chP_all, List.length_cons, Nat.pow_succ, Nat.mul_comm];exact this
theorem chP_len (u : Unf) (L A : List ES) (p : Int) (ps l : List Int) : ∀ k, (chP u L A p ps l k).length ≤ k * u.cs.length ^ ps.length
 | 0 => Nat.zero_le _
 | k + 1 => by
  have ih := chP_len u L A p ps l k;have := chD_len u L A ps (l ++ [(k : Int)]);rw [chP_succ, List.length_append, Nat.succ_mul];refine Nat.add_le_add ih ?_
  split
  ·exact this
  exact Nat.zero_le _
structure ChA (u : Unf) (ps l : List Int) (n : Nat) : Prop where
 len : l.length + ps.length ≤ 1000
 ins : ∀ c, c ∈ l → 0 ≤ c ∧ c < u.cs.length
 bnd : n + u.cs.length ^ ps.length ≤ 90000000
def ChS (N : Net) (u : Unf) (L A : List ES) (ps l : List Int) (acc : List (List Int)) : Prop := ASpec Tryz.prog 139 [.d (.ref (brD N u L A)), .d (vI ps), .d (vI l), .own 0 acc.length] [(0, .arr 36 1 (rwI acc))] (Fun1 (.own 1 (acc ++ chD u L A ps l).length) [(1, .arr 36 1 (rwI (acc ++ chD u L A ps l)))])
theorem cha_next {u : Unf} {p : Int} {ps l : List Int} {L A : List ES} {n k : Nat} (h : ChA u (p :: ps) l n) (hk : k < u.cs.length) : ChA u ps (l ++ [(k : Int)]) (n + (chP u L A p ps l k).length) := by
 have h1 := h.len;have h3 := h.bnd;have h4 := chP_len u L A p ps l k;have h5 := Nat.mul_le_mul_right (u.cs.length ^ ps.length) hk;rw [Nat.succ_mul] at h5;rw [List.length_cons] at h1;rw [List.length_cons, Nat.pow_succ, Nat.mul_comm] at h3;refine ⟨by rw [List.length_append, List.length_singleton]; omega, fun c hc => ?_, by omega⟩;rcases List.mem_append.1 hc with q | q
 ·exact h.ins c q
 rw [List.mem_singleton] at q; omega
theorem en_brChosen : Enters Tryz.prog 139 := enters_of Tryz.func139 rfl rfl
theorem cons_of {ps : List Int} (h : ¬ ((ps.length : Int) = 0)) : ∃ p qs, ps = p :: qs := by
 cases ps with
 | nil => exact absurd rfl h
 | cons p qs => exact ⟨p, qs, rfl⟩
set_option maxHeartbeats 8000000 in
theorem chosen_step (N : Net) (u : Unf) (L A : List ES) (hW : WB u L A) (ps : List Int) (ih : ∀ p qs, ps = p :: qs → ∀ l acc, ChA u qs l acc.length → ChS N u L A qs l acc) (l : List Int) (acc : List (List Int)) (h : ChA u ps l acc.length) : ChS N u L A ps l acc := by
 have hl := h.len;have hb := h.bnd;have hw := hW.w;have hcl := hw.c;have hCl := cloneW_spec l (by omega);have hSo := slSort_spec l (by omega);have hsl := sortI_len l;have hpw1 : ps = [] → u.cs.length ^ ps.length = 1 := fun e => by rw [e]; rfl
 have hd0 : ps = [] → chD u L A ps l = [sortI l] := fun e => by rw [e]; rfl
 unfold ChS;obtain ⟨S, hS⟩ := eqx (sortI l);rw [← hS] at hSo hsl hd0;refine ASpec.of Tryz.func139 rfl rfl fun C hC => ?_
 refine AC.seq (AC.region ?_);refine za ?_;refine AL.nil (th_n (AC.seq (AC.seq (AC.region ?_))));refine zm ?_;refine kH ?_;refine zc ?_;refine AL.nil (th_n ?_);refine AC.condD rfl (fun h0 => ?_) (fun h0 => ?_)
 ·refine AC.seq ?_;have hnil : ps = [] := List.length_eq_zero_iff.1 (by omega);have hpw := hpw1 hnil;have hd := hd0 hnil;refine AC.region ?_;refine zm ?_;refine kU [] en_clone hCl ?_;refine AL.p (by exact as2 rfl) rfl ?_;refine AL.nil (th_n (AC.seq ?_));refine AC.weak (t := ⟨61, 300, [(0, .d (.ref (brD N u L A))), (1, .d (vI ps)), (2, .d (vI l)), (3, .own 100 acc.length), (9, .own 101 l.length)], [(100, some (.arr 36 1 (rwI acc))), (101, some (.arr 3 1 (ints l)))]⟩) (zw [(100, _), (101, _)] hC) ?_;refine AC.region ?_;refine kB ?_;refine kU [101] en_slSort hSo ?_;refine AL.nil (th_n (AC.seq ?_));refine AC.weak (Weak.freeze (i := 9) rfl rfl (Nat.le_of_eq (by rw [ints_len, hsl])) (List.take_of_length_le (by rw [ints_len, hsl]; exact Nat.le_refl _))) ?_;refine AC.weak (t := ⟨61, 500, [(3, .own 100 acc.length), (9, .d (vI S))], [(100, some (.arr 36 1 (rwI acc)))]⟩) (zw [(100, 100)] hC) ?_;refine AC.region ?_;refine kB ?_;refine zm ?_;refine AL.q (by exact h_litF rfl rfl rfl rfl rfl rfl rfl rfl) rfl ?_;refine AL.q (by exact h_appendV acc S (.own rfl rfl (by rw [rwI_len])) (.view rfl) (by omega)) rfl ?_;refine AL.p (by exact as2 rfl) rfl ?_;refine AL.nil (th_n (AC.ret (th_r (bq_r ?_))));exact retX [(1, _)] rfl ⟨rfl, rfl⟩ (by rw [hd]; repeat (first | exact rfl | refine ⟨_, rfl, ?_⟩)) (by rw [hd]; repeat (first | exact True.intro | refine And.intro ?_ ?_ | exact rfl | refine ⟨_, _, rfl, rfl, ?_⟩)) rfl rfl
 refine AC.skip (th_n (AC.seq (AC.seq ?_)));obtain ⟨p, qs, hps⟩ := cons_of h0;have hih := ih p qs hps;have hg0 : (ints ps)[0]? = some [dI p] := by rw [hps]; rfl
 have hdr : (ints ps).drop 1 = ints qs := by rw [hps]; rfl
 have hpl : ps.length = qs.length + 1 := by rw [hps]; rfl
 have hall : chD u L A ps l = chP u L A p qs l u.cs.length := by rw [hps]; exact chP_all u L A p qs l
 have hnx := fun (k : Nat) (hk : k < u.cs.length) => cha_next (L := L) (A := A) (k := k) (by rw [← hps]; exact h) hk
 clear hps hd0 hpw1;refine AC.region ?_;refine zm ?_;refine AL.p (by exact g_nilR rfl) rfl ?_;refine zf ?_;refine zf ?_;refine zr ?_;refine kH ?_;refine zm ?_;refine AL.nil (th_n (AC.block ?_));refine AC.loop (ι := Nat) (fun k => ⟨61, 600, [(0, .d (.ref (brD N u L A))), (1, .d (vI ps)), (2, .d (vI l)), (3, .own 100 (acc ++ chP u L A p qs l k).length), (28, .d (vCs u.cs)), (29, aI u.cs.length), (30, aI k)], [(100, some (.arr 36 1 (rwI (acc ++ chP u L A p qs l k))))]⟩) (fun k => k ≤ u.cs.length) (fun k => u.cs.length - k) (0) ?_ (Nat.zero_le _) ?_
 ·exact Weak.ren _ [(100, _)] hC rfl (by rw [show chP u L A p qs l 0 = [] from rfl, List.append_nil]; repeat (first | exact True.intro | refine And.intro ?_ ?_ | exact DLead.same | exact rfl | refine ⟨_, rfl, ?_⟩)) (by rw [show chP u L A p qs l 0 = [] from rfl, List.append_nil]; repeat (first | exact True.intro | refine And.intro ?_ ?_ | exact rfl | refine ⟨_, _, rfl, rfl, ?_⟩)) rfl rfl rfl
 intro k hk;refine AC.seq (AC.region ?_);refine zc ?_;refine AL.nil (th_n (AC.seq ?_));refine AC.condD rfl (fun h1 => ?_) (fun h1 => ?_)
 ·refine AC.skip (th_n (AC.seq (AC.block (AC.seq ?_))));have hk1 : k < u.cs.length := by omega
  have hget := condsL_get hk1;have hcv : cAt u (k : Int) = u.cs[k] := cAt_nat hk1;have hA := hnx k hk1;have hAi := hA.ins;have hAl := hA.len;have hAb := hA.bnd;have hB2 : (l ++ [(k : Int)]).length = l.length + 1 := by rw [List.length_append]; rfl
  have hCo := brIsCoSet_spec N u L A (l ++ [(k : Int)]) hW (by omega) hAi;have hsn := chP_succ u L A p qs l k;have hcb : chB u L A p l k = (decide (u.cs[k].place = p) && cosetI u L A (l ++ [(k : Int)])) := by unfold chB; rw [hcv]
  have hRc := hih (l ++ [(k : Int)]) (acc ++ chP u L A p qs l k) (by rw [List.length_append]; exact hA);unfold ChS at hRc;obtain ⟨D, hD⟩ := eqx (chD u L A qs (l ++ [(k : Int)]));obtain ⟨B, hB⟩ := eqx (chP u L A p qs l k);obtain ⟨c, hc⟩ := eqx (chB u L A p l k);obtain ⟨cs, hcs⟩ := eqx (cosetI u L A (l ++ [(k : Int)]));rw [← hD, ← hB] at hRc;rw [← hD, ← hB, ← hc] at hsn;rw [← hB] at hAb ⊢;rw [← hcs] at hCo;rw [← hc, ← hcs] at hcb;refine AC.region ?_;refine zm ?_;refine AL.p (by exact g_ia_view rfl rfl rfl rfl rfl (by rfl) (by assumption)) rfl ?_;refine kG ?_;refine kE ?_;refine za ?_;refine zs ?_;refine AL.nil (th_n (AC.seq (AC.seq ?_)));refine AC.drawn' mixed_ok [[], [0], [], [2], [2,3], [0,1,2,3,4]] (by decide) ?_;refine zd 0 [] 6 (by exact g_fa_ptr rfl rfl rfl rfl rfl) ?_;refine zd 1 [0] 6 (by exact g_load_ptr rfl rfl rfl rfl rfl) ?_;refine zd 2 [] 6 (by exact mv1 rfl) ?_;refine zd 3 [2] 6 (by exact g_ia_view (i := 0) rfl rfl rfl rfl rfl rfl hg0) ?_;refine zd 4 [2,3] 6 (by exact g_load_ref rfl rfl rfl) ?_;refine zd 5 [0,1,2,3,4] 6 (by exact g_cmp rfl rfl rfl) ?_;refine zj 6 ?_;refine th_n ?_;refine AC.condND rfl (fun h2 => ?_) (fun h2 => ?_)
  ·refine AC.exit (th_e (ib_y (th_n (AC.region ?_))));refine zA ?_;refine zm ?_;refine AL.nil (th_n ?_)
   (have w1 := ‹¬ u.cs[k].place = p›; rw [decide_eq_false w1, Bool.false_and] at hcb; rw [hcb, if_neg (by decide), List.append_nil] at hsn; exact ⟨k + 1, by omega, by omega, zw [(100, 100)] hC (by rw [hsn]; repeat (first | exact True.intro | refine And.intro ?_ ?_ | exact DLead.same | exact rfl | refine ⟨_, rfl, ?_⟩)) (by rw [hsn]; repeat (first | exact True.intro | refine And.intro ?_ ?_ | exact rfl | refine ⟨_, _, rfl, rfl, ?_⟩))⟩)
  refine AC.skip (th_n (AC.seq (AC.region ?_)));refine zm ?_;refine zm ?_;refine kI l.length (ints_len _) ?_;refine zm ?_;refine kI l.length (ints_len _) ?_;refine AL.p (by exact g_slice_tight (h := l.length) (r := ints l) rfl rfl rfl rfl .none (.some rfl rfl) (.some rfl rfl) (Nat.zero_le _) (by rw [ints_len]; exact Nat.le_refl _) (by rw [List.drop_zero]; exact List.take_of_length_le (Nat.le_of_eq (ints_len _)))) rfl ?_;refine zm ?_;refine AL.q (by exact h_litF rfl rfl rfl rfl rfl rfl rfl rfl) rfl ?_;refine AL.q (by exact h_appendI l [(k : Int)] (.tight rfl) (.view rfl) (by rw [hB2]; omega) (by simp)) rfl ?_;refine AL.p (by exact as2 rfl) rfl ?_;refine AL.nil (th_n (AC.seq ?_));refine AC.weak (Weak.freeze (i := 12) rfl rfl (Nat.le_of_eq (ints_len _).symm) (List.take_of_length_le (Nat.le_of_eq (ints_len _)))) ?_;refine AC.weak (t := ⟨61, 900, [(0, .d (.ref (brD N u L A))), (1, .d (vI ps)), (2, .d (vI l)), (3, .own 100 (acc ++ B).length), (12, .d (vI (l ++ [(k : Int)]))), (28, .d (vCs u.cs)), (29, aI u.cs.length), (30, aI k)], [(100, some (.arr 36 1 (rwI (acc ++ B))))]⟩) (zw [(100, 100)] hC) ?_;refine AC.region ?_;refine zm ?_;refine zm ?_;refine kV en_brIsCoSet hCo ?_;refine AL.nil (th_n ?_);refine AC.condB rfl (fun h3 => ?_) (fun h3 => ?_)
  ·refine AC.region ?_;refine zm ?_;refine zm ?_;refine AL.p (by exact g_slice_view (l := 1) (h := (ints ps).length) (r := ints qs) rfl rfl rfl rfl (.some rfl rfl) .none (by rw [ints_len]; omega) (Nat.le_refl _) (by rw [List.take_length]; exact hdr)) rfl ?_;refine zm ?_;refine kB ?_;refine kU [100] en_brChosen hRc ?_;refine AL.p (by exact as2 rfl) rfl ?_;refine AL.nil (ib_n (th_n (AC.region ?_)));refine zA ?_;refine zm ?_;refine AL.nil (th_n ?_)
   (have w1 := ‹u.cs[k].place = p›; have w2 := ‹cs = true›; rw [w2, decide_eq_true w1, Bool.true_and] at hcb; rw [hcb, if_pos rfl] at hsn; exact ⟨k + 1, by omega, by omega, zw [(100, _)] hC (by rw [hsn, ← List.append_assoc]; repeat (first | exact True.intro | refine And.intro ?_ ?_ | exact DLead.same | exact rfl | refine ⟨_, rfl, ?_⟩)) (by rw [hsn, ← List.append_assoc]; repeat (first | exact True.intro | refine And.intro ?_ ?_ | exact rfl | refine ⟨_, _, rfl, rfl, ?_⟩))⟩)
  refine AC.skip (ib_n (th_n (AC.region ?_)));refine zA ?_;refine zm ?_;refine AL.nil (th_n ?_)
  (have w1 := ‹cs = false›; rw [w1, Bool.and_false] at hcb; rw [hcb, if_neg (by decide), List.append_nil] at hsn; exact ⟨k + 1, by omega, by omega, zw [(100, 100)] hC (by rw [hsn]; repeat (first | exact True.intro | refine And.intro ?_ ?_ | exact DLead.same | exact rfl | refine ⟨_, rfl, ?_⟩)) (by rw [hsn]; repeat (first | exact True.intro | refine And.intro ?_ ?_ | exact rfl | refine ⟨_, _, rfl, rfl, ?_⟩))⟩)
 refine AC.exit (th_e (th_e (ib_y (th_n (AC.seq (AC.region ?_))))));refine kB ?_;refine AL.p (by exact as2 rfl) rfl ?_;refine AL.nil (th_n (AC.ret (bq_r ?_)));have hkk : k = u.cs.length := by omega
 exact retX [(1, 100)] rfl ⟨rfl, rfl⟩ (by rw [hall, ← hkk]; repeat (first | exact rfl | refine ⟨_, rfl, ?_⟩)) (by rw [hall, ← hkk]; repeat (first | exact True.intro | refine And.intro ?_ ?_ | exact rfl | refine ⟨_, _, rfl, rfl, ?_⟩)) rfl rfl
theorem chosen_spec (N : Net) (u : Unf) (L A : List ES) (hW : WB u L A) : ∀ (ps l : List Int) (acc : List (List Int)), ChA u ps l acc.length → ChS N u L A ps l acc := by
 intro ps
 induction ps with
 | nil => exact fun l acc h => chosen_step N u L A hW [] (fun p qs e => by cases e) l acc h
 | cons p ps ih => exact fun l acc h => chosen_step N u L A hW (p :: ps) (fun p' qs e => by cases e; exact ih) l acc h
set_option maxHeartbeats 8000000 in
theorem chosen_nil (N : Net) (u : Unf) (L A : List ES) (hW : WB u L A) (ps : List Int) (l : List Int) (h : ChA u ps l 0) : ASpec Tryz.prog 139 [.d (.ref (brD N u L A)), .d (vI ps), .d (vI l), .d (.val (.slice none 0 0))] [] (Fun1 (.own 0 (chD u L A ps l).length) [(0, .arr 36 1 (rwI (chD u L A ps l)))]) := by
 obtain ⟨acc, hacc⟩ : ∃ acc : List (List Int), acc = [] := ⟨_, rfl⟩;have h : ChA u ps l acc.length := by rw [hacc]; exact h
 have hJ : ∀ D : List (List Int), acc ++ D = D := fun D => by rw [hacc]; rfl
 rw [← hJ (chD u L A ps l)];clear hJ;have hl := h.len;have hb := h.bnd;have hw := hW.w;have hcl := hw.c;have hCl := cloneW_spec l (by omega);have hSo := slSort_spec l (by omega);have hsl := sortI_len l;have hpw1 : ps = [] → u.cs.length ^ ps.length = 1 := fun e => by rw [e]; rfl
 have hd0 : ps = [] → chD u L A ps l = [sortI l] := fun e => by rw [e]; rfl
 obtain ⟨S, hS⟩ := eqx (sortI l);rw [← hS] at hSo hsl hd0;refine ASpec.of Tryz.func139 rfl rfl fun C hC => ?_
 refine AC.seq ?_;refine AC.weak (Weak.nilOwn (i := 3) (e := 36) (sz := 1) rfl (by decide)) ?_;refine AC.weak (t := ⟨61, 60, [(0, .d (.ref (brD N u L A))), (1, .d (vI ps)), (2, .d (vI l)), (3, .own 50 acc.length)], [(50, some (.arr 36 1 (rwI acc)))]⟩) (zw [(50, _)] hC (by rw [hacc]; repeat (first | exact True.intro | refine And.intro ?_ ?_ | exact DLead.same | exact rfl | refine ⟨_, rfl, ?_⟩)) (by rw [hacc]; repeat (first | exact True.intro | refine And.intro ?_ ?_ | exact rfl | refine ⟨_, _, rfl, rfl, ?_⟩))) ?_;clear hacc;refine AC.region ?_;refine za ?_;refine AL.nil (th_n (AC.seq (AC.seq (AC.region ?_))));refine zm ?_;refine kH ?_;refine zc ?_;refine AL.nil (th_n ?_);refine AC.condD rfl (fun h0 => ?_) (fun h0 => ?_)
 ·refine AC.seq ?_;have hnil : ps = [] := List.length_eq_zero_iff.1 (by omega);have hpw := hpw1 hnil;have hd := hd0 hnil;refine AC.region ?_;refine zm ?_;refine kU [] en_clone hCl ?_;refine AL.p (by exact as2 rfl) rfl ?_;refine AL.nil (th_n (AC.seq ?_));refine AC.weak (t := ⟨61, 300, [(0, .d (.ref (brD N u L A))), (1, .d (vI ps)), (2, .d (vI l)), (3, .own 100 acc.length), (9, .own 101 l.length)], [(100, some (.arr 36 1 (rwI acc))), (101, some (.arr 3 1 (ints l)))]⟩) (zw [(100, _), (101, _)] hC) ?_;refine AC.region ?_;refine kB ?_;refine kU [101] en_slSort hSo ?_;refine AL.nil (th_n (AC.seq ?_));refine AC.weak (Weak.freeze (i := 9) rfl rfl (Nat.le_of_eq (by rw [ints_len, hsl])) (List.take_of_length_le (by rw [ints_len, hsl]; exact Nat.le_refl _))) ?_;refine AC.weak (t := ⟨61, 500, [(3, .own 100 acc.length), (9, .d (vI S))], [(100, some (.arr 36 1 (rwI acc)))]⟩) (zw [(100, 100)] hC) ?_;refine AC.region ?_;refine kB ?_;refine zm ?_;refine AL.q (by exact h_litF rfl rfl rfl rfl rfl rfl rfl rfl) rfl ?_;refine AL.q (by exact h_appendV acc S (.own rfl rfl (by rw [rwI_len])) (.view rfl) (by omega)) rfl ?_;refine AL.p (by exact as2 rfl) rfl ?_;refine AL.nil (th_n (AC.ret (th_r (bq_r ?_))));exact retX [(0, _)] rfl ⟨rfl, rfl⟩ (by rw [hd]; repeat (first | exact rfl | refine ⟨_, rfl, ?_⟩)) (by rw [hd]; repeat (first | exact True.intro | refine And.intro ?_ ?_ | exact rfl | refine ⟨_, _, rfl, rfl, ?_⟩)) rfl rfl
 refine AC.skip (th_n (AC.seq (AC.seq ?_)));obtain ⟨p, qs, hps⟩ := cons_of h0;have hih := chosen_spec N u L A hW qs;have hg0 : (ints ps)[0]? = some [dI p] := by rw [hps]; rfl
 have hdr : (ints ps).drop 1 = ints qs := by rw [hps]; rfl
 have hpl : ps.length = qs.length + 1 := by rw [hps]; rfl
 have hall : chD u L A ps l = chP u L A p qs l u.cs.length := by rw [hps]; exact chP_all u L A p qs l
 have hnx := fun (k : Nat) (hk : k < u.cs.length) => cha_next (L := L) (A := A) (k := k) (by rw [← hps]; exact h) hk
 clear hps hd0 hpw1;refine AC.region ?_;refine zm ?_;refine AL.p (by exact g_nilR rfl) rfl ?_;refine zf ?_;refine zf ?_;refine zr ?_;refine kH ?_;refine zm ?_;refine AL.nil (th_n (AC.block ?_));refine AC.loop (ι := Nat) (fun k => ⟨61, 600, [(0, .d (.ref (brD N u L A))), (1, .d (vI ps)), (2, .d (vI l)), (3, .own 100 (acc ++ chP u L A p qs l k).length), (28, .d (vCs u.cs)), (29, aI u.cs.length), (30, aI k)], [(100, some (.arr 36 1 (rwI (acc ++ chP u L A p qs l k))))]⟩) (fun k => k ≤ u.cs.length) (fun k => u.cs.length - k) (0) ?_ (Nat.zero_le _) ?_
 ·exact Weak.ren _ [(100, _)] hC rfl (by rw [show chP u L A p qs l 0 = [] from rfl, List.append_nil]; repeat (first | exact True.intro | refine And.intro ?_ ?_ | exact DLead.same | exact rfl | refine ⟨_, rfl, ?_⟩)) (by rw [show chP u L A p qs l 0 = [] from rfl, List.append_nil]; repeat (first | exact True.intro | refine And.intro ?_ ?_ | exact rfl | refine ⟨_, _, rfl, rfl, ?_⟩)) rfl rfl rfl
 intro k hk;refine AC.seq (AC.region ?_);refine zc ?_;refine AL.nil (th_n (AC.seq ?_));refine AC.condD rfl (fun h1 => ?_) (fun h1 => ?_)
 ·refine AC.skip (th_n (AC.seq (AC.block (AC.seq ?_))));have hk1 : k < u.cs.length := by omega
  have hget := condsL_get hk1;have hcv : cAt u (k : Int) = u.cs[k] := cAt_nat hk1;have hA := hnx k hk1;have hAi := hA.ins;have hAl := hA.len;have hAb := hA.bnd;have hB2 : (l ++ [(k : Int)]).length = l.length + 1 := by rw [List.length_append]; rfl
  have hCo := brIsCoSet_spec N u L A (l ++ [(k : Int)]) hW (by omega) hAi;have hsn := chP_succ u L A p qs l k;have hcb : chB u L A p l k = (decide (u.cs[k].place = p) && cosetI u L A (l ++ [(k : Int)])) := by unfold chB; rw [hcv]
  have hRc := hih (l ++ [(k : Int)]) (acc ++ chP u L A p qs l k) (by rw [List.length_append]; exact hA);unfold ChS at hRc;obtain ⟨D, hD⟩ := eqx (chD u L A qs (l ++ [(k : Int)]));obtain ⟨B, hB⟩ := eqx (chP u L A p qs l k);obtain ⟨c, hc⟩ := eqx (chB u L A p l k);obtain ⟨cs, hcs⟩ := eqx (cosetI u L A (l ++ [(k : Int)]));rw [← hD, ← hB] at hRc;rw [← hD, ← hB, ← hc] at hsn;rw [← hB] at hAb ⊢;rw [← hcs] at hCo;rw [← hc, ← hcs] at hcb;refine AC.region ?_;refine zm ?_;refine AL.p (by exact g_ia_view rfl rfl rfl rfl rfl (by rfl) (by assumption)) rfl ?_;refine kG ?_;refine kE ?_;refine za ?_;refine zs ?_;refine AL.nil (th_n (AC.seq (AC.seq ?_)));refine AC.drawn' mixed_ok [[], [0], [], [2], [2,3], [0,1,2,3,4]] (by decide) ?_;refine zd 0 [] 6 (by exact g_fa_ptr rfl rfl rfl rfl rfl) ?_;refine zd 1 [0] 6 (by exact g_load_ptr rfl rfl rfl rfl rfl) ?_;refine zd 2 [] 6 (by exact mv1 rfl) ?_;refine zd 3 [2] 6 (by exact g_ia_view (i := 0) rfl rfl rfl rfl rfl rfl hg0) ?_;refine zd 4 [2,3] 6 (by exact g_load_ref rfl rfl rfl) ?_;refine zd 5 [0,1,2,3,4] 6 (by exact g_cmp rfl rfl rfl) ?_;refine zj 6 ?_;refine th_n ?_;refine AC.condND rfl (fun h2 => ?_) (fun h2 => ?_)
  ·refine AC.exit (th_e (ib_y (th_n (AC.region ?_))));refine zA ?_;refine zm ?_;refine AL.nil (th_n ?_)
   (have w1 := ‹¬ u.cs[k].place = p›; rw [decide_eq_false w1, Bool.false_and] at hcb; rw [hcb, if_neg (by decide), List.append_nil] at hsn; exact ⟨k + 1, by omega, by omega, zw [(100, 100)] hC (by rw [hsn]; repeat (first | exact True.intro | refine And.intro ?_ ?_ | exact DLead.same | exact rfl | refine ⟨_, rfl, ?_⟩)) (by rw [hsn]; repeat (first | exact True.intro | refine And.intro ?_ ?_ | exact rfl | refine ⟨_, _, rfl, rfl, ?_⟩))⟩)
  refine AC.skip (th_n (AC.seq (AC.region ?_)));refine zm ?_;refine zm ?_;refine kI l.length (ints_len _) ?_;refine zm ?_;refine kI l.length (ints_len _) ?_;refine AL.p (by exact g_slice_tight (h := l.length) (r := ints l) rfl rfl rfl rfl .none (.some rfl rfl) (.some rfl rfl) (Nat.zero_le _) (by rw [ints_len]; exact Nat.le_refl _) (by rw [List.drop_zero]; exact List.take_of_length_le (Nat.le_of_eq (ints_len _)))) rfl ?_;refine zm ?_;refine AL.q (by exact h_litF rfl rfl rfl rfl rfl rfl rfl rfl) rfl ?_;refine AL.q (by exact h_appendI l [(k : Int)] (.tight rfl) (.view rfl) (by rw [hB2]; omega) (by simp)) rfl ?_;refine AL.p (by exact as2 rfl) rfl ?_;refine AL.nil (th_n (AC.seq ?_));refine AC.weak (Weak.freeze (i := 12) rfl rfl (Nat.le_of_eq (ints_len _).symm) (List.take_of_length_le (Nat.le_of_eq (ints_len _)))) ?_;refine AC.weak (t := ⟨61, 900, [(0, .d (.ref (brD N u L A))), (1, .d (vI ps)), (2, .d (vI l)), (3, .own 100 (acc ++ B).length), (12, .d (vI (l ++ [(k : Int)]))), (28, .d (vCs u.cs)), (29, aI u.cs.length), (30, aI k)], [(100, some (.arr 36 1 (rwI (acc ++ B))))]⟩) (zw [(100, 100)] hC) ?_;refine AC.region ?_;refine zm ?_;refine zm ?_;refine kV en_brIsCoSet hCo ?_;refine AL.nil (th_n ?_);refine AC.condB rfl (fun h3 => ?_) (fun h3 => ?_)
  ·refine AC.region ?_;refine zm ?_;refine zm ?_;refine AL.p (by exact g_slice_view (l := 1) (h := (ints ps).length) (r := ints qs) rfl rfl rfl rfl (.some rfl rfl) .none (by rw [ints_len]; omega) (Nat.le_refl _) (by rw [List.take_length]; exact hdr)) rfl ?_;refine zm ?_;refine kB ?_;refine kU [100] en_brChosen hRc ?_;refine AL.p (by exact as2 rfl) rfl ?_;refine AL.nil (ib_n (th_n (AC.region ?_)));refine zA ?_;refine zm ?_;refine AL.nil (th_n ?_)
   (have w1 := ‹u.cs[k].place = p›; have w2 := ‹cs = true›; rw [w2, decide_eq_true w1, Bool.true_and] at hcb; rw [hcb, if_pos rfl] at hsn; exact ⟨k + 1, by omega, by omega, zw [(100, _)] hC (by rw [hsn, ← List.append_assoc]; repeat (first | exact True.intro | refine And.intro ?_ ?_ | exact DLead.same | exact rfl | refine ⟨_, rfl, ?_⟩)) (by rw [hsn, ← List.append_assoc]; repeat (first | exact True.intro | refine And.intro ?_ ?_ | exact rfl | refine ⟨_, _, rfl, rfl, ?_⟩))⟩)
  refine AC.skip (ib_n (th_n (AC.region ?_)));refine zA ?_;refine zm ?_;refine AL.nil (th_n ?_)
  (have w1 := ‹cs = false›; rw [w1, Bool.and_false] at hcb; rw [hcb, if_neg (by decide), List.append_nil] at hsn; exact ⟨k + 1, by omega, by omega, zw [(100, 100)] hC (by rw [hsn]; repeat (first | exact True.intro | refine And.intro ?_ ?_ | exact DLead.same | exact rfl | refine ⟨_, rfl, ?_⟩)) (by rw [hsn]; repeat (first | exact True.intro | refine And.intro ?_ ?_ | exact rfl | refine ⟨_, _, rfl, rfl, ?_⟩))⟩)
 refine AC.exit (th_e (th_e (ib_y (th_n (AC.seq (AC.region ?_))))));refine kB ?_;refine AL.p (by exact as2 rfl) rfl ?_;refine AL.nil (th_n (AC.ret (bq_r ?_)));have hkk : k = u.cs.length := by omega
 exact retX [(0, 100)] rfl ⟨rfl, rfl⟩ (by rw [hall, ← hkk]; repeat (first | exact rfl | refine ⟨_, rfl, ?_⟩)) (by rw [hall, ← hkk]; repeat (first | exact True.intro | refine And.intro ?_ ?_ | exact rfl | refine ⟨_, _, rfl, rfl, ?_⟩)) rfl rfl
def srtC (l : List (List Int)) : List (List Int) := l.mergeSort fun a b => !aheadI b a
theorem srtC_srt (l : List (List Int)) : srtL (srtC l) := by
 have h := List.pairwise_mergeSort (le := fun a b => !aheadI b a) (fun a b c h1 h2 => ?_) (fun a b => ?_) l
 ·exact h.imp fun {a b} q => by simpa using q
 ·rw [Bool.not_eq_true'] at h1 h2 ⊢;rw [← Bool.not_eq_true];intro h3;cases h4 : aheadI a b with
  | true =>
   have := ahead_trans h3 h4;rw [this] at h2; cases h2
  | false =>
   rw [ahead_eq h4 h1] at h3;rw [h3] at h2; cases h2
 cases h : aheadI b a with
 | false => rfl
 | true => rw [ahead_asym h]; rfl
theorem srtC_perm (l : List (List Int)) : (srtC l).Perm l := List.mergeSort_perm _ _
theorem srt_uniq {x y : List (List Int)} (h : x.Perm y) (hx : srtL x) (hy : srtL y) : x = y :=
 h.eq_of_pairwise (fun a b _ _ h1 h2 => ahead_eq h2 h1) hx hy
theorem srtC_len (l : List (List Int)) : (srtC l).length = l.length := List.length_mergeSort _
theorem sortCh_fun (zs : List (List Int)) (hl : zs.length ≤ 100000000) (hz : ∀ z, z ∈ zs → z.length ≤ 1000000) :
  ASpec Tryz.prog 140 [.own 0 zs.length, .clo 141 []] [(0, .arr 36 1 (rwI zs))] (Fun1 (.tup []) [(0, .arr 36 1 (rwI (srtC zs)))]) := by
 refine ASpec.wide (sortCh_spec zs hl hz) ?_;rintro r chs ⟨ys, hp, hs, rfl, rfl⟩;rw [srt_uniq (hp.trans (srtC_perm zs).symm) hs (srtC_srt zs)];exact ⟨rfl, rfl⟩
theorem en_sortCh : Enters Tryz.prog 140 := enters_of Tryz.func140 rfl rfl
def extS (u : Unf) (t : Int) (L : List (List Int)) : List Ev := (L.filter fun l => !fitB u ⟨t, l⟩).map fun l => ⟨t, l⟩
def extK (N : Net) (u : Unf) (L A : List ES) : Nat → List Ev
 | 0 => []
 | k + 1 => extK N u L A k ++ extS u (k : Int) (srtC (chD u L A (tAt N (k : Int)).pre []))
theorem extS_succ {u : Unf} {t : Int} {L : List (List Int)} {j : Nat} (h : j < L.length) : extS u t (L.take (j + 1)) = extS u t (L.take j) ++ (if fitB u ⟨t, L[j]⟩ = true then [] else [⟨t, L[j]⟩]) := by
 unfold extS;rw [List.take_add_one, List.getElem?_eq_getElem h, List.filter_append, List.map_append];congr 1;rw [Option.toList_some, List.filter_cons, List.filter_nil];cases fitB u ⟨t, L[j]⟩ <;> rfl
theorem extS_len (u : Unf) (t : Int) (L : List (List Int)) : (extS u t L).length ≤ L.length := by
 unfold extS; rw [List.length_map]; exact List.length_filter_le ..
structure ExA (N : Net) (u : Unf) : Prop where
 ts : N.ts.length ≤ 24
 pre : ∀ t, t ∈ N.ts → t.pre.length ≤ 3
 cs : u.cs.length ≤ 100
theorem chD3_len {u : Unf} {L A : List ES} {ps l : List Int} (hc : u.cs.length ≤ 100) (hp : ps.length ≤ 3) : (chD u L A ps l).length ≤ 1000000 :=
 Nat.le_trans (chD_len u L A ps l) (Nat.le_trans (Nat.pow_le_pow_left hc _) (Nat.le_trans (Nat.pow_le_pow_right (by decide) hp) (by decide)))
theorem chD_mem {u : Unf} {L A : List ES} : ∀ {ps l x : List Int}, x ∈ chD u L A ps l → x.length = l.length + ps.length
 | [], l, x, h => by rw [List.mem_singleton.1 h, sortI_len]; rfl
 | p :: ps, l, x, h => by
  obtain ⟨c, _, hx⟩ := List.mem_flatMap.1 h
  split at hx
  ·have := chD_mem hx;rw [List.length_append, List.length_singleton] at this;rw [this, List.length_cons]; omega
  cases hx
theorem extK_len {N : Net} {u : Unf} {L A : List ES} (h : ExA N u) : ∀ k, k ≤ N.ts.length → (extK N u L A k).length ≤ k * 1000000
 | 0, _ => Nat.zero_le _
 | k + 1, hk => by
  have ih := extK_len (L := L) (A := A) h k (Nat.le_of_succ_le hk);have hps : (tAt N (k : Int)).pre.length ≤ 3 := by rw [tAt_nat hk]; exact h.pre _ (List.getElem_mem hk)
  have h2 := chD3_len (L := L) (A := A) (l := []) h.cs hps;have h3 := extS_len u (k : Int) (srtC (chD u L A (tAt N (k : Int)).pre []));rw [srtC_len] at h3;show (extK N u L A k ++ _).length ≤ _;rw [List.length_append, Nat.succ_mul];omega
set_option maxHeartbeats 8000000 in
theorem brExt_spec (N : Net) (u : Unf) (L A : List ES) (hW : WB u L A) (h : ExA N u) : ASpec Tryz.prog 98 [.d (.ref (brD N u L A))] [] (Pure1 (.d (vEs (extK N u L A N.ts.length)))) := by
 have hw := hW.w;have hts := h.ts;refine ASpec.of Tryz.func98 rfl rfl fun C hC => ?_
 refine AC.seq (AC.region ?_);refine za ?_;refine AL.nil (th_n (AC.seq (AC.region ?_)));refine AL.q (by exact h_lit rfl rfl rfl rfl rfl rfl rfl rfl) rfl ?_;refine AL.p (by exact as2 rfl) rfl ?_;refine AL.nil (th_n (AC.seq (AC.seq (AC.region ?_))));refine zm ?_;refine AL.p (by exact g_nilR rfl) rfl ?_;refine zf ?_;refine zf ?_;refine zr ?_;refine kI N.ts.length (List.length_map _) ?_;refine zm ?_;refine AL.nil (th_n (AC.block ?_));refine AC.loop (ι := Nat) (fun k => ⟨48, 300, [(0, .d (.ref (brD N u L A))), (3, .own 100 (extK N u L A k).length), (15, .d (vTs N.ts)), (16, aI N.ts.length), (17, aI k)], [(100, some (.arr 59 2 (evsL (extK N u L A k))))]⟩) (fun k => k ≤ N.ts.length) (fun k => N.ts.length - k) (0) ?_ (Nat.zero_le _) ?_
 ·exact zw [(100, _)] hC
 intro k hk;refine AC.seq (AC.region ?_);refine zc ?_;refine AL.nil (th_n (AC.seq ?_));refine AC.condD rfl (fun h0 => ?_) (fun h0 => ?_)
 ·refine AC.skip (th_n (AC.seq (AC.block (AC.seq ?_))));have hk1 : k < N.ts.length := by omega
  have hgt := tsL_get hk1;have hta : tAt N (k : Int) = N.ts[k] := tAt_nat hk1;have hps := h.pre _ (List.getElem_mem hk1);have hel := extK_len (L := L) (A := A) h k hk;have hes : extK N u L A (k + 1) = extK N u L A k ++ extS u (k : Int) (srtC (chD u L A N.ts[k].pre [])) := by rw [← hta]; rfl
  have hol := chD3_len (L := L) (A := A) (l := []) h.cs hps;have hmm := fun (x : List Int) (hx : x ∈ chD u L A N.ts[k].pre []) => chD_mem hx
  have hCh := chosen_nil N u L A hW N.ts[k].pre [] ⟨by simp; omega, fun c hc => absurd hc List.not_mem_nil, by have := Nat.le_trans (Nat.pow_le_pow_left h.cs _) (Nat.le_trans (Nat.pow_le_pow_right (by decide) hps) (show 100 ^ 3 ≤ 1000000 by decide)); omega⟩;have hSo := sortCh_fun (chD u L A N.ts[k].pre []) (by omega) (fun z hz => by have := hmm z hz; simp at this; omega);have hsl := srtC_len (chD u L A N.ts[k].pre []);have hsm : ∀ x, x ∈ srtC (chD u L A N.ts[k].pre []) → x.length ≤ 3 := fun x hx => by have := hmm x ((srtC_perm _).mem_iff.1 hx); simp at this; omega
  obtain ⟨D, hD⟩ := eqx (chD u L A N.ts[k].pre []);rw [← hD] at hCh hSo hol hes hsl hsm;obtain ⟨Y, hY⟩ := eqx (srtC D);rw [← hY] at hSo hes hsl hsm;obtain ⟨E, hE⟩ := eqx (extK N u L A k);rw [← hE] at hes hel ⊢;clear hmm hD hY hE;refine AC.region ?_;refine zm ?_;refine AL.p (by exact g_ia_view (i := k) rfl rfl rfl rfl rfl rfl hgt) rfl ?_;refine kG ?_;refine kE ?_;refine za ?_;refine zs ?_;refine AL.nil (th_n (AC.seq (AC.region ?_)));refine zm ?_;refine zF ?_;refine zl ?_;refine kU [] en_brChosen hCh ?_;refine AL.p (by exact as2 rfl) rfl ?_;refine AL.nil (th_n (AC.seq ?_));refine AC.weak (t := ⟨48, 700, [(0, .d (.ref (brD N u L A))), (3, .own 100 E.length), (4, aI k), (6, .own 101 D.length), (15, .d (vTs N.ts)), (16, aI N.ts.length), (17, aI k)], [(100, some (.arr 59 2 (evsL E))), (101, some (.arr 36 1 (rwI D)))]⟩) (zw [(100, 100), (101, _)] hC) ?_;refine AC.region ?_;refine kB ?_;refine kU [101] en_sortCh hSo ?_;refine AL.nil (th_n (AC.seq ?_));refine AC.weak (Weak.freeze (i := 6) rfl rfl (Nat.le_of_eq (by rw [rwI_len, hsl])) (List.take_of_length_le (by rw [rwI_len, hsl]; exact Nat.le_refl _))) ?_;refine AC.weak (t := ⟨48, 900, [(0, .d (.ref (brD N u L A))), (3, .own 100 E.length), (4, aI k), (6, .d (.view 36 1 (rwI Y))), (15, .d (vTs N.ts)), (16, aI N.ts.length), (17, aI k)], [(100, some (.arr 59 2 (evsL E)))]⟩) (zw [(100, 100)] hC) ?_;refine AC.region ?_;refine zm ?_;refine kI Y.length (rwI_len _) ?_;refine zm ?_;refine AL.nil (th_n (AC.block ?_));refine AC.loop (ι := Nat) (fun j => ⟨48, 1200, [(0, .d (.ref (brD N u L A))), (3, .own 100 (E ++ extS u (k : Int) (Y.take j)).length), (4, aI k), (15, .d (vTs N.ts)), (16, aI N.ts.length), (17, aI k), (28, .d (.view 36 1 (rwI Y))), (29, aI Y.length), (30, aI j)], [(100, some (.arr 59 2 (evsL (E ++ extS u (k : Int) (Y.take j)))))]⟩) (fun j => j ≤ Y.length) (fun j => Y.length - j) (0) ?_ (Nat.zero_le _) ?_
  ·exact Weak.ren _ [(100, 100)] hC rfl (by rw [show extS u (k : Int) (Y.take 0) = [] from rfl, List.append_nil]; repeat (first | exact True.intro | refine And.intro ?_ ?_ | exact DLead.same | exact rfl | refine ⟨_, rfl, ?_⟩)) (by rw [show extS u (k : Int) (Y.take 0) = [] from rfl, List.append_nil]; repeat (first | exact True.intro | refine And.intro ?_ ?_ | exact rfl | refine ⟨_, _, rfl, rfl, ?_⟩)) rfl rfl rfl
  intro j hj;refine AC.seq (AC.region ?_);refine zc ?_;refine AL.nil (th_n (AC.seq ?_));refine AC.condD rfl (fun h1 => ?_) (fun h1 => ?_)
  ·refine AC.skip (th_n (AC.seq (AC.block (AC.seq ?_))));have hj1 : j < Y.length := by omega
   have hgl := rwI_get hj1;have hyl := hsm _ (List.getElem_mem hj1);have hsn := extS_succ (u := u) (t := (k : Int)) hj1;have hsl2 := extS_len u (k : Int) (Y.take j);rw [List.length_take] at hsl2;obtain ⟨l, hl⟩ := eqx (Y[j]);rw [← hl] at hgl hyl hsn;have hIs := brIsIn_spec N u L A ⟨(k : Int), l⟩ hw (by dsimp only; omega);obtain ⟨X, hX⟩ := eqx (extS u (k : Int) (Y.take j));rw [← hX] at hsn hsl2 ⊢;obtain ⟨b, hb⟩ := eqx (fitB u ⟨(k : Int), l⟩);rw [← hb] at hIs hsn;refine AC.region ?_;refine AL.p (by exact g_ia_view (i := j) rfl rfl rfl rfl rfl rfl hgl) rfl ?_;refine zr ?_;refine za ?_;refine AL.nil (th_n (AC.seq (AC.region ?_)));refine zm ?_;refine zm ?_;refine AL.p (by exact g_build rfl rfl rfl) rfl ?_;refine kE ?_;refine zs ?_;refine AL.nil (th_n (AC.seq (AC.region ?_)));refine zm ?_;refine AL.p (by exact g_load_ptrN rfl rfl rfl rfl rfl) rfl ?_;refine kV en_brIsIn hIs ?_;refine kC ?_;refine AL.nil (th_n ?_);refine AC.condB rfl (fun h2 => ?_) (fun h2 => ?_)
   ·refine AC.region ?_;refine kB ?_;refine AL.p (by exact g_load_ptrN rfl rfl rfl rfl rfl) rfl ?_;refine AL.q (by exact h_litF rfl rfl rfl rfl rfl rfl rfl rfl) rfl ?_;refine AL.q (by exact h_appendE (E ++ X) [⟨(k : Int), l⟩] (.own rfl rfl (by simp)) (.view rfl) (by rw [List.length_append, List.length_append, List.length_singleton]; omega) (by simp)) rfl ?_;refine AL.p (by exact as2 rfl) rfl ?_;refine AL.nil (ib_n (th_n (AC.region ?_)));refine zA ?_;refine zm ?_;refine AL.nil (th_n ?_)
    (have w1 : b = false := (Bool.not_eq_true' _).mp h2; rw [w1, if_neg (by decide)] at hsn; exact ⟨j + 1, by omega, by omega, zw [(100, _)] hC (by rw [hsn, ← List.append_assoc]; repeat (first | exact True.intro | refine And.intro ?_ ?_ | exact DLead.same | exact rfl | refine ⟨_, rfl, ?_⟩)) (by rw [hsn, ← List.append_assoc]; repeat (first | exact True.intro | refine And.intro ?_ ?_ | exact rfl | refine ⟨_, _, rfl, rfl, ?_⟩))⟩)
   refine AC.skip (ib_n (th_n (AC.region ?_)));refine zA ?_;refine zm ?_;refine AL.nil (th_n ?_)
   (have w1 : b = true := (Bool.not_eq_false' _).mp h2; rw [w1, if_pos rfl, List.append_nil] at hsn; exact ⟨j + 1, by omega, by omega, zw [(100, 100)] hC (by rw [hsn]; repeat (first | exact True.intro | refine And.intro ?_ ?_ | exact DLead.same | exact rfl | refine ⟨_, rfl, ?_⟩)) (by rw [hsn]; repeat (first | exact True.intro | refine And.intro ?_ ?_ | exact rfl | refine ⟨_, _, rfl, rfl, ?_⟩))⟩)
  refine AC.exit (th_e (th_e (ib_y (ib_n (th_n (AC.region ?_))))));refine zA ?_;refine zm ?_;refine AL.nil (th_n ?_);have hjj : j = Y.length := by omega
  exact ⟨k + 1, by omega, by omega, zw [(100, 100)] hC (by rw [hes, hjj, List.take_length]; repeat (first | exact True.intro | refine And.intro ?_ ?_ | exact DLead.same | exact rfl | refine ⟨_, rfl, ?_⟩)) (by rw [hes, hjj, List.take_length]; repeat (first | exact True.intro | refine And.intro ?_ ?_ | exact rfl | refine ⟨_, _, rfl, rfl, ?_⟩))⟩
 refine AC.exit (th_e (th_e (ib_y (th_n (AC.seq (AC.region ?_))))));refine kB ?_;refine AL.p (by exact as2 rfl) rfl ?_;refine AL.nil (th_n ?_);refine AC.weak (Weak.freeze (i := 2) rfl rfl (Nat.le_of_eq (by simp)) (List.take_of_length_le (by simp))) ?_;refine AC.ret (bq_r ?_);have hkk : k = N.ts.length := by omega
 exact ret1 rfl (by rw [hkk])
theorem en_brExt : Enters Tryz.prog 98 := enters_of Tryz.func98 rfl rfl
theorem coset_perm {u : Unf} {L A : List ES} {a b : List Int} (h : a.Perm b) : cosetI u L A a = cosetI u L A b := by
 have hB : allB u L a = allB u L b := h.foldl_eq' (fun x _ y _ z => by rw [BitVec.or_assoc, BitVec.or_assoc, BitVec.or_comm (prodI u L x)]) 0;unfold cosetI;rw [hB, decide_eq_decide.2 h.nodup_iff];congr 2;congr 1;rw [Bool.eq_iff_iff, List.any_eq_true, List.any_eq_true];constructor
 ·rintro ⟨x, hx, e⟩; exact ⟨x, h.mem_iff.1 hx, e⟩
 rintro ⟨x, hx, e⟩; exact ⟨x, h.mem_iff.2 hx, e⟩
theorem sort_srtd {l : List Int} (hn : l.Nodup) : srtd (sortI l) := by
 have := (sort_le l).and ((sort_perm l).nodup_iff.2 hn);exact this.imp fun ⟨h1, h2⟩ => by omega
theorem sort_put {l : List Int} {c : Int} (hn : l.Nodup) (hc : c ∉ l) : sortI (l ++ [c]) = putI (sortI l) c := by
 have hn2 : (l ++ [c]).Nodup := List.nodup_append.2 ⟨hn, (List.pairwise_singleton _ _), fun a ha b hb e => hc (by rw [List.mem_singleton] at hb; rw [← hb, ← e]; exact ha)⟩;have hp := putI_srtd (sort_srtd hn) c;refine srtd_ext (sort_srtd hn2) hp.1 fun x => ?_
 rw [hp.2 x, (sort_perm _).mem_iff, (sort_perm _).mem_iff, List.mem_append, List.mem_singleton]
theorem flat_filter {α β γ : Type} (q : α → Bool) (f : α → β) (g : β → List γ) : ∀ l : List α, ((l.filter q).map f).flatMap g = l.flatMap fun c => if q c = true then g (f c) else []
 | [] => rfl
 | a :: l => by
  rw [List.filter_cons, List.flatMap_cons, ← flat_filter q f g l]
  split
  ·rw [List.map_cons, List.flatMap_cons]
  rw [List.nil_append]
theorem flat_congr {α β : Type} {f g : α → List β} : ∀ {l : List α}, (∀ a, a ∈ l → f a = g a) → l.flatMap f = l.flatMap g
 | [], _ => rfl
 | a :: l, h => by
  rw [List.flatMap_cons, List.flatMap_cons, h a List.mem_cons_self, flat_congr fun x hx => h x (List.mem_cons_of_mem _ hx)]
def chE (u : Unf) : List Int → List Int → List (List Int)
 | [], l => [l]
 | p :: ps, l => (chO u p l u.cs.length).flatMap (chE u ps)
theorem chF_fold (u : Unf) : ∀ (ps : List Int) (out : List (List Int)), ps.foldl (fun out p => chN u p out out.length) out = out.flatMap (chE u ps)
 | [], out => by
  show out = out.flatMap fun l => [l]
  rw [List.flatMap_singleton']
 | p :: ps, out => by
  rw [List.foldl_cons, chF_fold u ps, chN, List.take_length, List.flatMap_assoc]
  rfl
theorem chF_chE (u : Unf) (ps : List Int) : chF u ps = chE u ps [] := by
 unfold chF;rw [chF_fold];simp
theorem chB_place {u : Unf} {L A : List ES} {p : Int} {l : List Int} {c : Nat} (h : chB u L A p l c = true) : (cAt u (c : Int)).place = p ∧ cosetI u L A (l ++ [(c : Int)]) = true := by
 unfold chB at h;rw [Bool.and_eq_true, decide_eq_true_eq] at h;exact h
structure ChI (u : Unf) (ps l : List Int) : Prop where
 s : srtd ps
 n : l.Nodup
 ins : ∀ c, c ∈ l → 0 ≤ c ∧ c < u.cs.length
 pl : ∀ c, c ∈ l → ∀ p, p ∈ ps → (cAt u c).place < p
theorem ChI.notin {u : Unf} {p : Int} {ps l : List Int} (h : ChI u (p :: ps) l) {c : Nat} (hp : (cAt u (c : Int)).place = p) : (c : Int) ∉ l := fun q => by
 have := h.pl _ q p List.mem_cons_self;omega
theorem ChI.next {u : Unf} {p : Int} {ps l : List Int} (h : ChI u (p :: ps) l) {c : Nat} (hc : c < u.cs.length) (hp : (cAt u (c : Int)).place = p) : ChI u ps (l ++ [(c : Int)]) := by
 have hs := List.pairwise_cons.1 h.s;refine ⟨hs.2, List.nodup_append.2 ⟨h.n, (List.pairwise_singleton _ _), fun a ha b hb e => h.notin hp (by rw [List.mem_singleton] at hb; rw [← hb, ← e]; exact ha)⟩, fun x hx => ?_, fun x hx q hq => ?_⟩
 ·rcases List.mem_append.1 hx with e | e
  ·exact h.ins x e
  rw [List.mem_singleton] at e; omega
 rcases List.mem_append.1 hx with e | e
 ·exact h.pl x e q (List.mem_cons_of_mem _ hq)
 rw [List.mem_singleton] at e;have := hs.1 q hq;rw [e, hp]; exact this
theorem chD_E {u : Unf} {L A : List ES} (hT : Tru u L A) : ∀ {ps l : List Int}, ChI u ps l → chD u L A ps l = chE u ps (sortI l)
 | [], l, _ => rfl
 | p :: ps, l, h => by
  rw [chE, chO, flat_filter];refine flat_congr fun c hc => ?_
  have hcl : c < u.cs.length := List.mem_range.1 hc
  by_cases hp : (cAt u (c : Int)).place = p
  ·have hn := h.next hcl hp;have hsp := sort_put h.n (h.notin hp)
   have hco : togI u (putI (sortI l) (c : Int)) = cosetI u L A (l ++ [(c : Int)]) := by
    rw [← hsp, ← coset_tog hT (fun x hx => hn.ins x ((sort_perm _).mem_iff.1 hx)) ((sort_perm _).nodup_iff.2 hn.n)];exact coset_perm (sort_perm _)
   have hb : chB u L A p l c = (decide ((cAt u (c : Int)).place = p) && togI u (putI (sortI l) (c : Int))) := by unfold chB; rw [hco]
   rw [hb, chD_E hT hn, hsp]
  rw [if_neg (by unfold chB; rw [decide_eq_false hp, Bool.false_and]; decide), if_neg (by rw [decide_eq_false hp, Bool.false_and]; decide)]
theorem chD_ok {u : Unf} {L A : List ES} : ∀ {ps l x : List Int}, ChI u ps l → (ps = [] → cosetI u L A l = true) → x ∈ chD u L A ps l → srtd x ∧ (∀ c, c ∈ x → 0 ≤ c ∧ c < u.cs.length) ∧ (plK u x).Perm (plK u l ++ ps) ∧ cosetI u L A x = true
 | [], l, x, h, hc, hx => by
  obtain rfl : x = sortI l := List.mem_singleton.1 hx;refine ⟨sort_srtd h.n, fun c hc => h.ins c ((sort_perm _).mem_iff.1 hc), ?_, ?_⟩
  ·rw [List.append_nil]; exact (sort_perm l).map _
  rw [coset_perm (sort_perm l)]; exact hc rfl
 | p :: ps, l, x, h, _, hx => by
  obtain ⟨c, hc, hx⟩ := List.mem_flatMap.1 hx
  split at hx
  ·rename_i hb;obtain ⟨h1, h2⟩ := chB_place hb;obtain ⟨q1, q2, q3, q4⟩ := chD_ok (h.next (List.mem_range.1 hc) h1) (fun _ => h2) hx;refine ⟨q1, q2, ?_, q4⟩
   have e : plK u (l ++ [(c : Int)]) ++ ps = plK u l ++ p :: ps := by
    unfold plK;rw [List.map_append, List.append_assoc, List.map_singleton, List.singleton_append, h1]
   rw [← e]; exact q3
  cases hx
theorem sort_fix {l p : List Int} (h : l.Perm p) (hp : srtd p) : sortI l = p :=
 srtd_ext (sort_srtd (h.nodup_iff.2 (srtd_nodup hp))) hp fun x => by rw [(sort_perm l).mem_iff, h.mem_iff]
theorem ch_fits {N : Net} {u : Unf} {L A : List ES} (hN : NetS N) (hT : Tru u L A) {k : Nat} (hk : k < N.ts.length) {x : List Int} (hx : x ∈ chD u L A N.ts[k].pre []) : fitsI N u ⟨(k : Int), x⟩ = !fitB u ⟨(k : Int), x⟩ := by
 have ht := hN.t _ (List.getElem_mem hk);have hs := rising_srtd ht.2.2.2.1;obtain ⟨q1, q2, q3, q4⟩ := chD_ok ⟨hs, List.nodup_nil, fun c hc => absurd hc List.not_mem_nil, fun c hc => absurd hc List.not_mem_nil⟩ (fun e => by rw [e] at ht; exact absurd ht.1 (by simp)) hx;have e1 : inR N (k : Int) = true := by unfold inR; simp; omega
 have e2 : rising x 0 ((u.cs.length : Int) - 1) = true := srtd_rising q1 fun c hc => by have := q2 c hc; omega
 have e3 : sortI (plK u x) = N.ts[k].pre := sort_fix q3 hs;rw [← fits_both hN hT];unfold fitsJ fitA1;dsimp only;rw [e1, e2, tAt_nat hk, e3, decide_eq_true rfl, q4]
 rfl
def srtE (l : List Ev) : Prop := l.Pairwise fun a b => aheadI b.pre a.pre = false
theorem lessE_lt {h x : Ev} (q : x.t < h.t) : lessE h x = false := by
 unfold lessE;rw [decide_eq_false (by omega), decide_eq_false (by omega)]
 rfl
theorem lessE_eq {h x : Ev} (q : x.t = h.t) : lessE h x = aheadI h.pre x.pre := by
 unfold lessE;rw [decide_eq_false (by omega), decide_eq_true q.symm]
 rfl
theorem posE_above {l : List Ev} {h : Ev} : ∀ {k : Nat}, ∀ j, posE l h k ≤ j → j < k → lessE h (l.getD j ⟨0, []⟩) = true
 | 0, j, _, h2 => absurd h2 (Nat.not_lt_zero _)
 | k + 1, j, h1, h2 => by
  unfold posE at h1
  split at h1
  ·rename_i q
   by_cases e : j = k
   ·subst e; exact q
   exact posE_above j h1 (by omega)
  omega
theorem posE_below {l : List Ev} {h : Ev} : ∀ {k : Nat}, 0 < posE l h k → lessE h (l.getD (posE l h k - 1) ⟨0, []⟩) = false
 | 0, q => absurd q (Nat.lt_irrefl _)
 | k + 1, q => by
  unfold posE at q ⊢
  split
  ·rename_i w;rw [if_pos w] at q;exact posE_below q
  rename_i w;rw [Nat.add_sub_cancel];simpa using w
theorem ahead_le {a b c : List Int} (h1 : aheadI b a = false) (h2 : aheadI c b = false) : aheadI c a = false := by
 rw [← Bool.not_eq_true];intro h3;cases h4 : aheadI a b with
 | true =>
  have := ahead_trans h3 h4;rw [this] at h2; cases h2
 | false =>
  rw [ahead_eq h4 h1] at h3;rw [h3] at h2; cases h2
theorem getD_left {acc S : List Ev} {j : Nat} (h : j < acc.length) : (acc ++ S).getD j ⟨0, []⟩ ∈ acc := by
 rw [List.getD_eq_getElem?_getD, List.getElem?_append_left h, List.getElem?_eq_getElem h];exact List.getElem_mem h
theorem getD_right {acc S : List Ev} {i : Nat} (h : i < S.length) : (acc ++ S).getD (acc.length + i) ⟨0, []⟩ = S[i] := by
 rw [List.getD_eq_getElem?_getD, List.getElem?_append_right (by omega), Nat.add_sub_cancel_left, List.getElem?_eq_getElem h]
 rfl
theorem putE_app {acc S : List Ev} {h : Ev} (ha : ∀ x, x ∈ acc → x.t < h.t) (hS : ∀ x, x ∈ S → x.t = h.t) (hs : srtE S) : ∃ S', putE (acc ++ S) h = acc ++ S' ∧ S'.Perm (h :: S) ∧ srtE S' := by
 obtain ⟨k, hk⟩ := eqx (posE (acc ++ S) h (acc ++ S).length);have hle : k ≤ (acc ++ S).length := by rw [hk]; exact posE_le _ _ _
 have hab := fun j (h1 : k ≤ j) h2 => posE_above (l := acc ++ S) (h := h) (k := (acc ++ S).length) j (by rw [← hk]; exact h1) h2
 have hbe := fun (q : 0 < k) => posE_below (l := acc ++ S) (h := h) (k := (acc ++ S).length) (by rw [← hk]; exact q)
 rw [← hk] at hbe;rw [List.length_append] at hle hab
 have hka : acc.length ≤ k := by
  apply Nat.le_of_not_lt
  intro q;have h1 := hab k (Nat.le_refl _) (by omega);rw [lessE_lt (ha _ (getD_left q))] at h1; cases h1
 obtain ⟨i, rfl⟩ : ∃ i, k = acc.length + i := ⟨k - acc.length, by omega⟩
 have hup : ∀ j (hj : j < S.length), i ≤ j → aheadI h.pre S[j].pre = true := fun j hj hij => by
  have h1 := hab (acc.length + j) (by omega) (by omega);rw [getD_right hj, lessE_eq (hS _ (List.getElem_mem hj))] at h1;exact h1
 have hlo : ∀ j (hj : j < S.length), j < i → aheadI h.pre S[j].pre = false := fun j hj hij => by
  have hi1 : i - 1 < S.length := by omega
  have h1 := hbe (by omega);rw [show acc.length + i - 1 = acc.length + (i - 1) by omega, getD_right hi1, lessE_eq (hS _ (List.getElem_mem hi1))] at h1
  by_cases e : j = i - 1
  ·subst e; exact h1
  exact ahead_le (List.pairwise_iff_getElem.1 hs j (i - 1) hj hi1 (by omega)) h1
 refine ⟨S.take i ++ h :: S.drop i, ?_, ?_, ?_⟩
 ·unfold putE;rw [← hk, List.take_append, List.drop_append, Nat.add_sub_cancel_left, List.take_of_length_le (by omega), List.drop_of_length_le (by omega)];simp
 ·exact List.perm_middle.trans (List.Perm.of_eq (by rw [List.take_append_drop]))
 unfold srtE;rw [List.pairwise_append, List.pairwise_cons];refine ⟨List.Pairwise.sublist (List.take_sublist _ _) hs, ⟨fun b hb => ?_, List.Pairwise.sublist (List.drop_sublist _ _) hs⟩, fun a ha2 b hb => ?_⟩
 ·obtain ⟨j, hj, rfl⟩ := List.mem_drop_iff_getElem.1 hb;exact ahead_asym (hup _ _ (by omega))
 obtain ⟨j, hj, rfl⟩ := List.mem_take_iff_getElem.1 ha2;rcases List.mem_cons.1 hb with rfl | hb
 ·exact hlo j (by omega) (by omega)
 obtain ⟨j2, hj2, rfl⟩ := List.mem_drop_iff_getElem.1 hb;exact List.pairwise_iff_getElem.1 hs j (i + j2) (by omega) (by omega) (by omega)
theorem exO_sorted {N : Net} {u : Unf} {t : Int} {acc : List Ev} (ha : ∀ x, x ∈ acc → x.t < t) : ∀ (L : List (List Int)) (S : List Ev), (∀ x, x ∈ S → x.t = t) → srtE S →
  ∃ S', exO N u t (acc ++ S) L = acc ++ S' ∧ S'.Perm (((L.filter fun l => fitsI N u ⟨t, l⟩).map fun l => (⟨t, l⟩ : Ev)) ++ S) ∧ srtE S' ∧ ∀ x, x ∈ S' → x.t = t
 | [], S, hS, hs => ⟨S, rfl, List.Perm.refl _, hs, hS⟩
 | l :: L, S, hS, hs => by
  show ∃ S', exO N u t (exS N u t (acc ++ S) l) L = _ ∧ _;unfold exS;rw [List.filter_cons]
  split
  ·rename_i hf;obtain ⟨S1, h1, h2, h3⟩ := putE_app (acc := acc) (S := S) (h := ⟨t, l⟩) ha hS hs;rw [h1];obtain ⟨S2, q1, q2, q3, q4⟩ := exO_sorted ha L S1 (fun x hx => by rcases List.mem_cons.1 (h2.mem_iff.1 hx) with rfl | e; rfl; exact hS x e) h3;refine ⟨S2, q1, q2.trans ?_, q3, q4⟩;rw [List.map_cons, List.cons_append];exact (h2.append_left _).trans List.perm_middle
  exact exO_sorted ha L S hS hs
theorem srtE_eq {t : Int} {a b : List Ev} (h : a.Perm b) (ha : srtE a) (hb : srtE b) (hat : ∀ x, x ∈ a → x.t = t) : a = b := by
 have hbt : ∀ x, x ∈ b → x.t = t := fun x hx => hat x (h.mem_iff.2 hx)
 have e : ∀ l : List Ev, (∀ x, x ∈ l → x.t = t) → l = (l.map Ev.pre).map fun p => ⟨t, p⟩ := fun l hl => by
  rw [List.map_map];refine (List.map_id l).symm.trans (List.map_congr_left fun x hx => ?_);show x = ⟨t, x.pre⟩;rw [← hl x hx]
 rw [e a hat, e b hbt, srt_uniq (h.map Ev.pre) (List.pairwise_map.2 ha) (List.pairwise_map.2 hb)]
theorem exK_t {N : Net} {u : Unf} : ∀ (k : Nat) {x : Ev}, x ∈ exK N u k → x.t < k
 | 0, x, h => absurd h List.not_mem_nil
 | k + 1, x, h => by
  rcases exO_mem _ h with q | q
  ·have := exK_t k q; omega
  rw [q.2.1]; omega
theorem ext_both {N : Net} {u : Unf} {L A : List ES} (hN : NetS N) (hT : Tru u L A) : ∀ k, k ≤ N.ts.length → extK N u L A k = exK N u k
 | 0, _ => rfl
 | k + 1, hk => by
  have hk1 : k < N.ts.length := hk;have ht := hN.t _ (List.getElem_mem hk1);have hs := rising_srtd ht.2.2.2.1;have ih := ext_both (L := L) (A := A) hN hT k (Nat.le_of_succ_le hk)
  have hE : chF u N.ts[k].pre = chD u L A N.ts[k].pre [] := by
   rw [chF_chE, chD_E hT ⟨hs, List.nodup_nil, fun c hc => absurd hc List.not_mem_nil, fun c hc => absurd hc List.not_mem_nil⟩, sortI_nil]
  show extK N u L A k ++ extS u (k : Int) (srtC (chD u L A (tAt N (k : Int)).pre [])) = exO N u (k : Int) (exK N u k) (chF u (tAt N (k : Int)).pre);rw [tAt_nat hk1, ih, hE];obtain ⟨S', h1, h2, h3, h4⟩ := exO_sorted (N := N) (u := u) (t := (k : Int)) (acc := exK N u k) (fun x hx => exK_t k hx) (chD u L A N.ts[k].pre []) [] (fun x hx => absurd hx List.not_mem_nil) List.Pairwise.nil;rw [List.append_nil] at h1 h2;rw [h1];congr 1;have hf : ((chD u L A N.ts[k].pre []).filter fun l => fitsI N u ⟨(k : Int), l⟩) = (chD u L A N.ts[k].pre []).filter fun l => !fitB u ⟨(k : Int), l⟩ := List.filter_congr fun x hx => ch_fits hN hT hk1 hx
  rw [hf] at h2
  have hp : (extS u (k : Int) (srtC (chD u L A N.ts[k].pre []))).Perm S' := by
   refine List.Perm.trans ?_ h2.symm;unfold extS;exact ((srtC_perm _).filter _).map _
  refine srtE_eq (t := (k : Int)) hp ?_ h3 (fun x hx => h4 x (hp.mem_iff.1 hx));unfold extS srtE;rw [List.pairwise_map];exact List.Pairwise.sublist List.filter_sublist (srtC_srt _)
theorem fit_pre {N : Net} {u : Unf} {x : Ev} (hN : NetS N) (h : fitsI N u x = true) : x.pre ≠ [] := by
 intro e;obtain ⟨i, hi, hin⟩ := inR_nat (fits_inR h);have h2 := (hN.t _ (List.getElem_mem hin)).1;unfold fitsI at h;rw [Bool.and_eq_true] at h;have h3 := h.1;unfold fitA at h3;rw [Bool.and_eq_true, Bool.and_eq_true, decide_eq_true_eq] at h3;have h4 := h3.2.2;rw [e, hi, tAt_nat hin] at h4;simp at h4;omega
theorem nEs_evs {l : List Ev} (h : ∀ x, x ∈ l → x.pre ≠ []) : nEs l = evsL l := List.map_congr_left fun x hx => by
 show [dI x.t, nI x.pre] = [dI x.t, vI x.pre];rw [nI_ne (h x hx)]
theorem exI_lead {N : Net} {u : Unf} (hN : NetS N) : DLead (vEs (exI N u)) (.d (vNo (exI N u))) := by
 have h := nEs_evs fun x (hx : x ∈ exI N u) => fit_pre hN (exK_fit _ hx)
 have := vNo_lead (exI N u);show DLead (.view 59 2 (evsL (exI N u))) _;rw [← h]; exact this
def posR (N : Net) (m : List UInt8) (u : Unf) : List Ev := if goodU N m u = true then exI N u else []
theorem exI_len {N : Net} {u : Unf} (h : ExA N u) : (exI N u).length ≤ 24000000 := by
 have := exK_len h.cs h.pre N.ts.length (Nat.le_refl _);have h2 := h.ts;unfold exI;omega
set_option maxHeartbeats 2000000 in
theorem sPossE_spec (N : Net) (m : List UInt8) (u : Unf) (hB : NetL N) (hm : m.length ≤ 2000000) (hu : UnfL u) (hE : ExA N u) : ASpec Tryz.prog 40 [netA N, aS (bstr m), unfA u] [] (Pure1 (.tup [.d (vEs (posR N m u)), aT (goodU N m u)])) := by
 have hG := l7Good_spec N m u hB hm hu;have hX := fun (q : goodU N m u = true) => l7Extend_spec N u (goodU_iff q).n.B hE.ts hE.pre (goodU_iff q).tru.w.w hE.cs
 have hL := fun (q : goodU N m u = true) => exI_lead (u := u) (goodU_iff q).n
 unfold posR;obtain ⟨g, hg⟩ := eqx (goodU N m u);rw [← hg] at hG hX hL ⊢;refine ASpec.of Tryz.func40 rfl rfl fun C hC => ?_
 refine AC.seq (AC.region ?_);refine kD ?_;refine kD ?_;refine za ?_;refine za ?_;refine AL.nil (th_n (AC.seq (AC.seq (AC.region ?_))));refine kG ?_;refine zm ?_;refine kG ?_;refine kV en_l7Good hG ?_;refine kC ?_;refine AL.nil (th_n ?_);refine AC.condB rfl (fun h0 => ?_) (fun h0 => ?_)
 ·refine AC.seq (AC.region ?_);refine za ?_;refine za ?_;refine AL.nil (th_n (AC.ret (th_r (bq_r ?_))));have q := (Bool.not_eq_true' _).mp h0;exact ret0 rfl (by rw [q, if_neg Bool.false_ne_true]; repeat (first | exact rfl | exact DLead.same | exact DLead.nil | refine ⟨_, _, rfl, ?_, ?_⟩ | refine ⟨_, rfl, ?_⟩))
 refine AC.skip (th_n (AC.seq ?_));have q := (Bool.not_eq_false' _).mp h0;have hX2 := hX q;have hL2 := hL q;refine AC.region ?_;refine kG ?_;refine kG ?_;refine kV en_l7Extend hX2 ?_;refine za ?_;refine za ?_;refine AL.nil (th_n (AC.ret (bq_r ?_)));exact ret0 rfl (by rw [q, if_pos rfl]; repeat (first | exact rfl | exact hL2 | exact DLead.same | refine ⟨_, _, rfl, ?_, ?_⟩ | refine ⟨_, rfl, ?_⟩))
theorem en_sPossE : Enters Tryz.prog 40 := enters_of Tryz.func40 rfl rfl
theorem iPossE_f (N : Net) (m : List UInt8) (u : Unf) (hB : NetL N) (hm : m.length ≤ 2000000) (hu : UnfL u) (hg : goodU N m u = false) : ASpec Tryz.prog 39 [netA N, aS (bstr m), unfA u] [] (Pure1 (.tup [.d (vEs (posR N m u)), aT (goodU N m u)])) := by
 have hS := branchingOf_spec N m u hB hm hu;rw [brRes_f hg] at hS;unfold posR;rw [hg, if_neg Bool.false_ne_true];refine ASpec.of Tryz.func39 rfl rfl fun C hC => ?_
 refine AC.seq (AC.region ?_);refine kD ?_;refine kD ?_;refine za ?_;refine za ?_;refine AL.nil (th_n (AC.seq (AC.region ?_)));refine kG ?_;refine zm ?_;refine kG ?_;refine kU [] en_branchingOf hS ?_;refine AL.p (by exact mv5 rfl) rfl ?_;refine AL.p (by exact g_extract (r := .dead) rfl rfl) rfl ?_;refine AL.p (by exact g_extract (r := .d _) rfl rfl) rfl ?_;refine AL.p (by exact as9 rfl) rfl ?_;refine za ?_;refine AL.nil (th_n (AC.seq (AC.seq (AC.region ?_))));refine zm ?_;refine kC ?_;refine AL.nil (th_n ?_);refine AC.condB rfl (fun h0 => ?_) (fun h0 => ?_)
 ·refine AC.seq (AC.region ?_);refine za ?_;refine za ?_;refine AL.nil (th_n (AC.ret (th_r (bq_r ?_))));exact ret0 rfl (by repeat (first | exact rfl | exact DLead.same | exact DLead.nil | refine ⟨_, _, rfl, ?_, ?_⟩ | refine ⟨_, rfl, ?_⟩))
 refine AC.skip (th_n (AC.seq ?_));exact absurd h0 (by decide)
set_option maxHeartbeats 4000000 in
theorem iPossE_t (N : Net) (m : List UInt8) (u : Unf) (hB : NetL N) (hm : m.length ≤ 2000000) (hu : UnfL u) (hE : ExA N u) (hg : goodU N m u = true) : ASpec Tryz.prog 39 [netA N, aS (bstr m), unfA u] [] (Pure1 (.tup [.d (vEs (posR N m u)), aT (goodU N m u)])) := by
 have hS := branchingOf_spec N m u hB hm hu;have hT := (goodU_iff hg).tru;have hNs := (goodU_iff hg).n;rw [brRes_t hg] at hS;unfold posR;rw [hg, if_pos rfl];obtain ⟨L, hL⟩ := eqx (locL N m u);obtain ⟨A, hA⟩ := eqx (agaA N m u);rw [← hL, ← hA] at hT hS;have hX := brExt_spec N u L A hT.w hE;rw [ext_both hNs hT N.ts.length (Nat.le_refl _)] at hX
 change ASpec Tryz.prog 98 _ _ (Pure1 (.d (vEs (exI N u)))) at hX
 obtain ⟨E, hEE⟩ := eqx (exI N u);rw [← hEE] at hX ⊢;refine ASpec.of Tryz.func39 rfl rfl fun C hC => ?_
 refine AC.seq (AC.region ?_);refine kD ?_;refine kD ?_;refine za ?_;refine za ?_;refine AL.nil (th_n (AC.seq (AC.region ?_)));refine kG ?_;refine zm ?_;refine kG ?_;refine kU [] en_branchingOf hS ?_;refine AL.p (by exact mv5 rfl) rfl ?_;refine AL.p (by exact g_extract (r := .ptr _ _) rfl rfl) rfl ?_;refine AL.p (by exact g_extract (r := .d _) rfl rfl) rfl ?_;refine AL.p (by exact as3 rfl) rfl ?_;refine za ?_;refine AL.nil (th_n (AC.seq (AC.seq (AC.region ?_))));refine zm ?_;refine kC ?_;refine AL.nil (th_n ?_);refine AC.condB rfl (fun h0 => ?_) (fun h0 => ?_)
 ·refine AC.seq ?_;exact absurd h0 (by decide)
 refine AC.skip (th_n (AC.seq (AC.region ?_)));refine AL.p (by exact mv3 rfl) rfl ?_;refine AL.weak (Weak.freezeP 19 2 rfl rfl rfl rfl (own_le _ _) (own_take _ _) rfl) ?_;refine AL.weak (Weak.freezeP 19 3 rfl rfl rfl rfl (own_le _ _) (own_take _ _) rfl) ?_;refine AL.weak (Weak.freezeP 19 4 rfl rfl rfl rfl (own_le _ _) (own_take _ _) rfl) ?_;refine AL.weak (Weak.freezeP 19 5 rfl rfl rfl rfl (own_le _ _) (own_take _ _) rfl) ?_;refine AL.weak (Weak.freezeRef (ds := brD N u L A) 19 rfl rfl) ?_;refine AL.weak (t := ⟨21, 300, [(19, .d (.ref (brD N u L A)))], []⟩) (Weak.ren _ [] hC rfl (by repeat (first | exact True.intro | refine And.intro ?_ ?_ | exact DLead.same)) (by repeat (exact True.intro)) rfl rfl rfl) ?_;refine kV en_brExt hX ?_;refine za ?_;refine za ?_;refine AL.nil (th_n (AC.ret (bq_r ?_)));exact ret0 rfl (by repeat (first | exact rfl | exact DLead.same | refine ⟨_, _, rfl, ?_, ?_⟩ | refine ⟨_, rfl, ?_⟩))
theorem en_iPossE : Enters Tryz.prog 39 := enters_of Tryz.func39 rfl rfl
theorem iPossE_spec (N : Net) (m : List UInt8) (u : Unf) (hB : NetL N) (hm : m.length ≤ 2000000) (hu : UnfL u) (hE : ExA N u) : ASpec Tryz.prog 39 [netA N, aS (bstr m), unfA u] [] (Pure1 (.tup [.d (vEs (posR N m u)), aT (goodU N m u)])) := by
 cases hg : goodU N m u with
 | true => rw [← hg]; exact iPossE_t N m u hB hm hu hE hg
 | false => rw [← hg]; exact iPossE_f N m u hB hm hu hg
def iniB (N : Net) (m : List UInt8) : Bool := goodN N && bitsB m N.places
def iniU (N : Net) (m : List UInt8) : Unf := if iniB N m = true then ⟨madeI N m, []⟩ else ⟨[], []⟩
set_option maxHeartbeats 2000000 in
theorem sInitU_spec (N : Net) (m : List UInt8) (hB : NetL N) (hm : m.length ≤ 2000000) : ASpec Tryz.prog 43 [netA N, aS (bstr m)] [] (Pure1 (.tup [unfA (iniU N m), aT (iniB N m)])) := by
 have hA := l7Asked_spec N m hB hm
 change ASpec Tryz.prog 92 _ _ (Pure1 (aT (iniB N m))) at hA
 have hM := fun (q : iniB N m = true) => l7Made_spec N m (good_S (by unfold iniB at q; rw [Bool.and_eq_true] at q; exact q.1)) (bits_len (by unfold iniB at q; rw [Bool.and_eq_true] at q; exact q.2))
 unfold iniU;obtain ⟨g, hg⟩ := eqx (iniB N m);rw [← hg] at hA hM ⊢;refine ASpec.of Tryz.func43 rfl rfl fun C hC => ?_
 refine AC.seq (AC.region ?_);refine kD ?_;refine kE ?_;refine za ?_;refine AL.nil (th_n (AC.seq (AC.seq (AC.region ?_))));refine kG ?_;refine zm ?_;refine kV en_l7Asked hA ?_;refine kC ?_;refine AL.nil (th_n ?_);refine AC.condB rfl (fun h0 => ?_) (fun h0 => ?_)
 ·refine AC.seq (AC.region ?_);refine AL.p (by exact g_build rfl rfl rfl) rfl ?_;refine zs ?_;refine za ?_;refine AL.nil (th_n (AC.ret (th_r (bq_r ?_))));have q := (Bool.not_eq_true' _).mp h0;exact ret0 rfl (by rw [q, if_neg Bool.false_ne_true]; repeat (first | exact rfl | exact DLead.same | exact DLead.nil | refine ⟨_, _, rfl, ?_, ?_⟩ | refine ⟨_, rfl, ?_⟩))
 refine AC.skip (th_n (AC.seq ?_));have q := (Bool.not_eq_false' _).mp h0;have hM2 := hM q;refine AC.region ?_;refine kG ?_;refine zm ?_;refine kV en_l7Made hM2 ?_;refine AL.p (by exact g_build rfl rfl rfl) rfl ?_;refine zs ?_;refine za ?_;refine AL.nil (th_n (AC.ret (bq_r ?_)));exact ret0 rfl (by rw [q, if_pos rfl]; repeat (first | exact rfl | exact DLead.same | exact DLead.nil | refine ⟨_, _, rfl, ?_, ?_⟩ | refine ⟨_, rfl, ?_⟩))
theorem en_sInitU : Enters Tryz.prog 43 := enters_of Tryz.func43 rfl rfl
set_option maxHeartbeats 2000000 in
theorem iInitU_spec (N : Net) (m : List UInt8) (hB : NetL N) (hm : m.length ≤ 2000000) : ASpec Tryz.prog 42 [netA N, aS (bstr m)] [] (Pure1 (.tup [unfA (iniU N m), aT (iniB N m)])) := by
 have hA := IsValidMarking_gen N m hB hm
 change ASpec Tryz.prog 101 _ _ (Pure1 (aT (iniB N m))) at hA
 have hM := fun (q : iniB N m = true) => newBr_spec N m (good_S (by unfold iniB at q; rw [Bool.and_eq_true] at q; exact q.1)) (bits_len (by unfold iniB at q; rw [Bool.and_eq_true] at q; exact q.2))
 unfold iniU;obtain ⟨g, hg⟩ := eqx (iniB N m);rw [← hg] at hA hM ⊢;refine ASpec.of Tryz.func42 rfl rfl fun C hC => ?_
 refine AC.seq (AC.region ?_);refine kD ?_;refine kE ?_;refine za ?_;refine AL.nil (th_n (AC.seq (AC.seq (AC.region ?_))));refine kG ?_;refine zm ?_;refine kV en_IsValidMarking hA ?_;refine kC ?_;refine AL.nil (th_n ?_);refine AC.condB rfl (fun h0 => ?_) (fun h0 => ?_)
 ·refine AC.seq (AC.region ?_);refine AL.p (by exact g_build rfl rfl rfl) rfl ?_;refine zs ?_;refine za ?_;refine AL.nil (th_n (AC.ret (th_r (bq_r ?_))));have q := (Bool.not_eq_true' _).mp h0;exact ret0 rfl (by rw [q, if_neg Bool.false_ne_true]; repeat (first | exact rfl | exact DLead.same | exact DLead.nil | refine ⟨_, _, rfl, ?_, ?_⟩ | refine ⟨_, rfl, ?_⟩))
 refine AC.skip (th_n (AC.seq ?_));have q := (Bool.not_eq_false' _).mp h0;have hM2 := hM q;refine AC.region ?_;refine kG ?_;refine zm ?_;refine kU [] en_newBr hM2 ?_;refine AL.weak (Weak.freezeP 13 2 rfl rfl rfl rfl (own_le _ _) (own_take _ _) rfl) ?_;refine AL.weak (Weak.freezeP 13 3 rfl rfl rfl rfl (own_le _ _) (own_take _ _) rfl) ?_;refine AL.p (by exact g_nilP rfl) rfl ?_;refine zF ?_;refine AL.p (by exact g_load_ptrN rfl rfl rfl rfl rfl) rfl ?_;refine zs ?_;refine za ?_;refine AL.nil (th_n (AC.ret (bq_r ?_)));exact ret0 rfl (by rw [q, if_pos rfl]; repeat (first | exact rfl | exact DLead.same | refine ⟨_, _, rfl, ?_, ?_⟩ | refine ⟨_, rfl, ?_⟩))
theorem en_iInitU : Enters Tryz.prog 42 := enters_of Tryz.func42 rfl rfl
def appB (N : Net) (m : List UInt8) (u : Unf) (h : Ev) : Bool := goodU N m u && (fitsI N u h && limB (withI N u h))
def appU (N : Net) (m : List UInt8) (u : Unf) (h : Ev) : Unf := if appB N m u h = true then withI N u h else ⟨[], []⟩
set_option maxHeartbeats 4000000 in
theorem sAppE_spec (N : Net) (m : List UInt8) (u : Unf) (h : Ev) (hB : NetL N) (hm : m.length ≤ 2000000) (hu : UnfL u) (hh : h.pre.length ≤ 1000000) : ASpec Tryz.prog 18 [netA N, aS (bstr m), unfA u, evA h] [] (Pure1 (.tup [unfA (appU N m u h), aT (appB N m u h)])) := by
 have hG := l7Good_spec N m u hB hm hu;have hF := fun (q : goodU N m u = true) => l7Fits_spec N u h (goodU_iff q).n.B (goodU_iff q).tru.w.w (by omega)
 have hW := fun (q : goodU N m u = true) (q2 : fitsI N u h = true) => l7With_spec N u h (goodU_iff q).n.B (goodU_iff q).tru.w.w hh (fits_inR q2)
 have hL := fun (q : goodU N m u = true) (q2 : fitsI N u h = true) => l7Limits_spec (withI N u h) (by have := hu.e; show (u.es ++ [h]).length ≤ _; rw [List.length_append, List.length_singleton]; have := (goodU_iff q).e; omega) (by have h1 : (withI N u h).cs.length = u.cs.length + (tAt N h.t).post.length := withC_len _ _; have h2 := ((goodU_iff q).n.t _ (tAt_mem (fits_inR q2))).2.2.1; have h3 := (goodU_iff q).tru.w.w.c; omega)
 unfold appU;have hJ : appB N m u h = (goodU N m u && (fitsI N u h && limB (withI N u h))) := rfl;obtain ⟨v, hv⟩ := eqx (withI N u h);obtain ⟨g, hg⟩ := eqx (goodU N m u);obtain ⟨f, hf⟩ := eqx (fitsI N u h);obtain ⟨a, ha⟩ := eqx (appB N m u h);rw [← hg] at hG hF hW hL hJ;rw [← hf] at hF hW hL hJ;rw [← hv] at hW hL hJ ⊢;rw [← ha] at hJ ⊢;obtain ⟨l, hl⟩ := eqx (limB v);rw [← hl] at hL hJ;clear hl ha hf hg hv;refine ASpec.of Tryz.func18 rfl rfl fun C hC => ?_
 refine AC.seq (AC.region ?_);refine kD ?_;refine kD ?_;refine kD ?_;refine kE ?_;refine za ?_;refine AL.nil (th_n (AC.seq (AC.seq (AC.region ?_))));refine kG ?_;refine zm ?_;refine kG ?_;refine kV en_l7Good hG ?_;refine kC ?_;refine zm ?_;refine AL.caseGB rfl rfl (fun h0 => ?_) (fun h0 => ?_)
 ·refine zn ?_;refine zn ?_;refine zn ?_;refine zn ?_;refine zn ?_;refine zQ ?_;refine zm ?_;refine zn ?_;refine zn ?_;refine zn ?_;refine zn ?_;refine zn ?_;refine zn ?_;refine zQ ?_;refine AL.nil (th_n ?_);refine AC.condT rfl ?_;refine AC.seq (AC.region ?_);refine AL.p (by exact g_build rfl rfl rfl) rfl ?_;refine zs ?_;refine za ?_;refine AL.nil (th_n (AC.ret (th_r (bq_r ?_))));have e : a = false := by rw [hJ]; simp_all
  exact ret0 rfl (by rw [e, if_neg Bool.false_ne_true]; repeat (first | exact rfl | exact DLead.same | exact DLead.nil | refine ⟨_, _, rfl, ?_, ?_⟩ | refine ⟨_, rfl, ?_⟩))
 refine zy ?_;refine kG ?_;refine zy ?_;refine kG ?_;refine zy ?_;refine kG ?_;refine zy ?_;refine AL.q (by exact h_pure en_l7Fits rfl rfl (by repeat (first | exact rfl | exact DLead.same | refine ⟨_, _, rfl, ?_, ?_⟩ | refine ⟨_, rfl, ?_⟩)) (hF (by simp_all)) rfl) rfl ?_;refine zy ?_;refine kC ?_;refine zP ?_;refine zm ?_;refine AL.caseGB rfl rfl (fun h1 => ?_) (fun h1 => ?_)
 ·refine zn ?_;refine zn ?_;refine zn ?_;refine zn ?_;refine zn ?_;refine zn ?_;refine zQ ?_;refine AL.nil (th_n ?_);refine AC.condT rfl ?_;refine AC.seq (AC.region ?_);refine AL.p (by exact g_build rfl rfl rfl) rfl ?_;refine zs ?_;refine za ?_;refine AL.nil (th_n (AC.ret (th_r (bq_r ?_))));have e : a = false := by rw [hJ]; simp_all
  exact ret0 rfl (by rw [e, if_neg Bool.false_ne_true]; repeat (first | exact rfl | exact DLead.same | exact DLead.nil | refine ⟨_, _, rfl, ?_, ?_⟩ | refine ⟨_, rfl, ?_⟩))
 refine zy ?_;refine kG ?_;refine zy ?_;refine kG ?_;refine zy ?_;refine kG ?_;refine zy ?_;refine AL.q (by exact h_pure en_l7With rfl rfl (by repeat (first | exact rfl | exact DLead.same | refine ⟨_, _, rfl, ?_, ?_⟩ | refine ⟨_, rfl, ?_⟩)) (hW (by simp_all) (by simp_all)) rfl) rfl ?_;refine zy ?_;refine AL.q (by exact h_pure en_l7Limits rfl rfl (by repeat (first | exact rfl | exact DLead.same | refine ⟨_, _, rfl, ?_, ?_⟩ | refine ⟨_, rfl, ?_⟩)) (hL (by simp_all) (by simp_all)) rfl) rfl ?_;refine zy ?_;refine kC ?_;refine zP ?_;refine AL.nil (th_n ?_);refine AC.condB rfl (fun h2 => ?_) (fun h2 => ?_)
 ·refine AC.seq (AC.region ?_);refine AL.p (by exact g_build rfl rfl rfl) rfl ?_;refine zs ?_;refine za ?_;refine AL.nil (th_n (AC.ret (th_r (bq_r ?_))));have e : a = false := by rw [hJ]; simp_all
  exact ret0 rfl (by rw [e, if_neg Bool.false_ne_true]; repeat (first | exact rfl | exact DLead.same | exact DLead.nil | refine ⟨_, _, rfl, ?_, ?_⟩ | refine ⟨_, rfl, ?_⟩))
 refine AC.skip (th_n (AC.seq (AC.region ?_)));refine kG ?_;refine kG ?_;refine kG ?_;refine AL.q (by exact h_pure en_l7With rfl rfl (by repeat (first | exact rfl | exact DLead.same | refine ⟨_, _, rfl, ?_, ?_⟩ | refine ⟨_, rfl, ?_⟩)) (hW (by simp_all) (by simp_all)) rfl) rfl ?_;refine zs ?_;refine za ?_;refine AL.nil (th_n (AC.ret (bq_r ?_)));have e : a = true := by rw [hJ]; simp_all
 exact ret0 rfl (by rw [e, if_pos rfl]; repeat (first | exact rfl | exact DLead.same | refine ⟨_, _, rfl, ?_, ?_⟩ | refine ⟨_, rfl, ?_⟩))
theorem en_sAppE : Enters Tryz.prog 18 := enters_of Tryz.func18 rfl rfl
set_option maxHeartbeats 4000000 in
theorem iAppE_f (N : Net) (m : List UInt8) (u : Unf) (h : Ev) (hB : NetL N) (hm : m.length ≤ 2000000) (hu : UnfL u) (hh : h.pre.length ≤ 1000000) (hg : goodU N m u = false) : ASpec Tryz.prog 22 [netA N, aS (bstr m), unfA u, evA h] [] (Pure1 (.tup [unfA (appU N m u h), aT (appB N m u h)])) := by
 have hS := branchingOf_spec N m u hB hm hu;rw [brRes_f hg] at hS;have e : appB N m u h = false := by unfold appB; rw [hg]; rfl
 unfold appU;rw [e, if_neg Bool.false_ne_true];refine ASpec.of Tryz.func22 rfl rfl fun C hC => ?_
 refine AC.seq (AC.region ?_);refine kD ?_;refine kD ?_;refine kD ?_;refine kE ?_;refine za ?_;refine AL.nil (th_n (AC.seq (AC.region ?_)));refine kG ?_;refine zm ?_;refine kG ?_;refine kU [] en_branchingOf hS ?_;refine AL.p (by exact mv5 rfl) rfl ?_;refine AL.p (by exact g_extract (r := .dead) rfl rfl) rfl ?_;refine AL.p (by exact g_extract (r := .d _) rfl rfl) rfl ?_;refine AL.p (by exact as9 rfl) rfl ?_;refine za ?_;refine AL.nil (th_n (AC.seq (AC.seq (AC.region ?_))));refine zm ?_;refine kC ?_;refine zm ?_;refine zn ?_;refine zn ?_;refine zn ?_;refine zn ?_;refine zQ ?_;refine AL.nil (th_n ?_);refine AC.condT rfl ?_;refine AC.seq (AC.region ?_);refine AL.p (by exact g_build rfl rfl rfl) rfl ?_;refine zs ?_;refine za ?_;refine AL.nil (th_n (AC.ret (th_r (bq_r ?_))));exact ret0 rfl (by repeat (first | exact rfl | exact DLead.same | exact DLead.nil | refine ⟨_, _, rfl, ?_, ?_⟩ | refine ⟨_, rfl, ?_⟩))
set_option maxHeartbeats 8000000 in
theorem iAppE_t (N : Net) (m : List UInt8) (u : Unf) (h : Ev) (hB : NetL N) (hm : m.length ≤ 2000000) (hu : UnfL u) (hh : h.pre.length ≤ 1000000) (hg : goodU N m u = true) : ASpec Tryz.prog 22 [netA N, aS (bstr m), unfA u, evA h] [] (Pure1 (.tup [unfA (appU N m u h), aT (appB N m u h)])) := by
 have hS := branchingOf_spec N m u hB hm hu;have hG := goodU_iff hg;have hT := hG.tru;have hNs := hG.n;have hue := hG.e;have huc := hT.w.w.c;rw [brRes_t hg] at hS;have hJ : appB N m u h = (fitsI N u h && limB (withI N u h)) := by unfold appB; rw [hg]; rfl
 unfold appU;obtain ⟨L, hL⟩ := eqx (locL N m u);obtain ⟨A, hA⟩ := eqx (agaA N m u);rw [← hL, ← hA] at hT hS;have hF := brFits_spec N u L A h hNs.B hT.w (by omega);rw [fits_both hNs hT] at hF;have hAd := fun (q : fitsI N u h = true) => brAdd_spec N u L A h hNs.B hT.w (by omega) hh (fits_inR q) (fits_in q).1
 have hIf := fun (q2 : fitsI N u h = true) => isFull_spec (withI N u h) (by show (u.es ++ [h]).length ≤ _; rw [List.length_append, List.length_singleton]; omega) (by have h1 : (withI N u h).cs.length = u.cs.length + (tAt N h.t).post.length := withC_len _ _; have h2 := (hNs.t _ (tAt_mem (fits_inR q2))).2.2.1; omega)
 obtain ⟨v, hv⟩ := eqx (withI N u h);obtain ⟨f, hf⟩ := eqx (fitsI N u h);obtain ⟨a, ha⟩ := eqx (appB N m u h);rw [← hf] at hF hAd hIf hJ;rw [← hv] at hAd hIf hJ ⊢;rw [← ha] at hJ ⊢;obtain ⟨l, hl⟩ := eqx (limB v);rw [← hl] at hIf hJ;obtain ⟨L2, hL2⟩ := eqx (addL u L h);obtain ⟨A2, hA2⟩ := eqx (addA u A h);rw [← hL2, ← hA2] at hAd;clear hl ha hf hv hL hA hL2 hA2;refine ASpec.of Tryz.func22 rfl rfl fun C hC => ?_
 refine AC.seq (AC.region ?_);refine kD ?_;refine kD ?_;refine kD ?_;refine kE ?_;refine za ?_;refine AL.nil (th_n (AC.seq (AC.region ?_)));refine kG ?_;refine zm ?_;refine kG ?_;refine kU [] en_branchingOf hS ?_;refine AL.p (by exact mv5 rfl) rfl ?_;refine AL.p (by exact g_extract (r := .ptr _ _) rfl rfl) rfl ?_;refine AL.p (by exact g_extract (r := .d _) rfl rfl) rfl ?_;refine AL.p (by exact as3 rfl) rfl ?_;refine za ?_;refine AL.nil (th_n (AC.seq (AC.seq ?_)));refine AC.weak (t := ⟨41, 400, [(7, .d (.ref (evD h))), (8, .ptr 206 0), (10, .ptr 200 0), (11, aT true)], [(200, some (brC N 201 u.cs.length 202 u.es.length 203 L.length 204 A.length)), (201, some (.arr 143 2 (condsL u.cs))), (202, some (.arr 59 2 (evsL u.es))), (203, some (.arr 97 1 (esL L))), (204, some (.arr 97 1 (esL A))), (206, some (.cells 29 [.d (.val (.slice none 0 0)), .d (.val (.slice none 0 0))]))]⟩) (zw [(200, _), (201, _), (202, _), (203, _), (204, _), (206, _)] hC) ?_;refine AC.region ?_;refine zm ?_;refine kC ?_;refine zm ?_;refine AL.caseGB rfl rfl (fun h0 => ?_) (fun h0 => ?_)
 ·refine zn ?_;refine zn ?_;refine zn ?_;refine zn ?_;refine zQ ?_;refine AL.nil (th_n ?_);refine AC.condT rfl ?_;refine AC.seq (AC.region ?_);refine AL.p (by exact g_build rfl rfl rfl) rfl ?_;refine zs ?_;refine za ?_;refine AL.nil (th_n (AC.ret (th_r (bq_r ?_))));have e : a = false := by rw [hJ]; simp_all
  exact ret0 rfl (by rw [e, if_neg Bool.false_ne_true]; repeat (first | exact rfl | exact DLead.same | exact DLead.nil | refine ⟨_, _, rfl, ?_, ?_⟩ | refine ⟨_, rfl, ?_⟩))
 refine zy ?_;refine AL.p (by exact mv3 rfl) rfl ?_;refine zy ?_;refine kG ?_;refine zy ?_;refine AL.q (by exact h_borrow [200, 201, 202, 203, 204] en_brFits rfl rfl hF (br_lent [200, 201, 202, 203, 204] 200 201 202 203 204 rfl rfl rfl rfl rfl rfl rfl rfl rfl rfl (.cons (.agg (ds := evD h)) .nil)) rfl) rfl ?_;refine zy ?_;refine kC ?_;refine zP ?_;refine AL.nil (th_n ?_);refine AC.condB rfl (fun h1 => ?_) (fun h1 => ?_)
 ·refine AC.seq (AC.region ?_);refine AL.p (by exact g_build rfl rfl rfl) rfl ?_;refine zs ?_;refine za ?_;refine AL.nil (th_n (AC.ret (th_r (bq_r ?_))));have e : a = false := by rw [hJ]; simp_all
  exact ret0 rfl (by rw [e, if_neg Bool.false_ne_true]; repeat (first | exact rfl | exact DLead.same | exact DLead.nil | refine ⟨_, _, rfl, ?_, ?_⟩ | refine ⟨_, rfl, ?_⟩))
 refine AC.skip (th_n (AC.seq ?_));have qf : f = true := by simp_all
 have hAd2 := hAd qf;have hIf2 := hIf qf;refine AC.region ?_;refine AL.p (by exact mv3 rfl) rfl ?_;refine kG ?_;refine kU [200, 201, 202, 203, 204] en_brAdd hAd2 ?_;refine AL.nil (th_n (AC.seq (AC.seq (AC.region ?_))));refine AL.p (by exact mv3 rfl) rfl ?_;refine AL.weak (Weak.freezeP 31 2 rfl rfl rfl rfl (own_le _ _) (own_take _ _) rfl) ?_;refine AL.weak (Weak.freezeP 31 3 rfl rfl rfl rfl (own_le _ _) (own_take _ _) rfl) ?_;refine AL.p (by exact g_nilP rfl) rfl ?_;refine zF ?_;refine AL.p (by exact g_load_ptrN rfl rfl rfl rfl rfl) rfl ?_;refine kV en_isFull hIf2 ?_;refine AL.nil (th_n ?_);refine AC.condB rfl (fun h2 => ?_) (fun h2 => ?_)
 ·refine AC.seq (AC.region ?_);refine AL.p (by exact g_build rfl rfl rfl) rfl ?_;refine zs ?_;refine za ?_;refine AL.nil (th_n (AC.ret (th_r (bq_r ?_))));have e : a = false := by rw [hJ]; simp_all
  exact ret0 rfl (by rw [e, if_neg Bool.false_ne_true]; repeat (first | exact rfl | exact DLead.same | exact DLead.nil | refine ⟨_, _, rfl, ?_, ?_⟩ | refine ⟨_, rfl, ?_⟩))
 refine AC.skip (th_n (AC.seq (AC.region ?_)));refine AL.p (by exact mv3 rfl) rfl ?_;refine AL.p (by exact g_nilP rfl) rfl ?_;refine zF ?_;refine AL.p (by exact g_load_ptrN rfl rfl rfl rfl rfl) rfl ?_;refine zs ?_;refine za ?_;refine AL.nil (th_n (AC.ret (bq_r ?_)));have e : a = true := by rw [hJ]; simp_all
 exact ret0 rfl (by rw [e, if_pos rfl]; repeat (first | exact rfl | exact DLead.same | refine ⟨_, _, rfl, ?_, ?_⟩ | refine ⟨_, rfl, ?_⟩))
theorem en_iAppE : Enters Tryz.prog 22 := enters_of Tryz.func22 rfl rfl
theorem iAppE_spec (N : Net) (m : List UInt8) (u : Unf) (h : Ev) (hB : NetL N) (hm : m.length ≤ 2000000) (hu : UnfL u) (hh : h.pre.length ≤ 1000000) : ASpec Tryz.prog 22 [netA N, aS (bstr m), unfA u, evA h] [] (Pure1 (.tup [unfA (appU N m u h), aT (appB N m u h)])) := by
 cases hg : goodU N m u with
 | true => exact iAppE_t N m u h hB hm hu hh hg
 | false => exact iAppE_f N m u h hB hm hu hh hg
set_option maxHeartbeats 4000000 in
theorem qSameHs_spec (a : List Ev) (ha : a.length ≤ 100000000) (hp : ∀ x, x ∈ a → x.pre.length ≤ 1000000) : ASpec Tryz.prog 44 [.d (vEs a), .d (vEs a)] [] (Pure1 (aT true)) := by
 refine ASpec.of Tryz.func44 rfl rfl fun C hC => ?_
 refine AC.seq (AC.region ?_);refine za ?_;refine AL.nil (th_n (AC.seq (AC.seq (AC.region ?_))));refine zm ?_;refine kI a.length (evsL_len _) ?_;refine zm ?_;refine kI a.length (evsL_len _) ?_;refine AL.p (by exact g_neIr rfl rfl rfl) rfl ?_;refine AL.nil (th_n ?_);refine AC.condF rfl ?_;refine AC.skip (th_n (AC.seq (AC.seq (AC.region ?_))));refine zm ?_;refine kI a.length (evsL_len _) ?_;refine zm ?_;refine AL.nil (th_n (AC.block ?_));refine AC.loop (ι := Nat) (fun k => ⟨42, 0, [(0, .d (vEs a)), (1, .d (vEs a)), (12, aI a.length), (13, aI k)], []⟩) (fun k => k ≤ a.length) (fun k => a.length - k) (0) ?_ (Nat.zero_le _) ?_
 ·refine Weak.ren _ [] hC rfl ?_ ?_ rfl rfl rfl <;> repeat (first | exact True.intro | refine And.intro ?_ ?_ | exact DLead.same)
 intro k hk;refine AC.seq (AC.region ?_);refine zc ?_;refine AL.nil (th_n (AC.seq ?_));refine AC.condD rfl (fun h0 => ?_) (fun h0 => ?_)
 ·refine AC.skip (th_n (AC.seq (AC.block (AC.seq ?_))));have hk1 : k < a.length := by omega
  have hget := evsL_get hk1;have hpk := hp _ (List.getElem_mem hk1);have hQ := qSameN_spec a[k].pre hpk;refine AC.region ?_;refine zm ?_;refine za ?_;refine AL.nil (th_n (AC.seq ?_));refine AC.drawn' mixed_ok [[], [], [0,1], [0,1,2], [0,1,2,3], [], [], [5,6], [5,6,7], [5,6,7,8], [0,1,2,3,4,5,6,7,8,9], [0,1,2,3,4,5,6,7,8,9,10], [0,1,2,3,4,5,6,7,8,9,10,11], [0,1,2,3,4,5,6,7,8,9,10,11], [0,1,2,3,4,5,6,7,8,9,10,11,12,13], [0,1,2,3,4,5,6,7,8,9,10,11,12,13,14], [0,1,2,3,4,5,6,7,8,9,10,11,12,13,14,15], [0,1,2,3,4,5,6,7,8,9,10,11], [0,1,2,3,4,5,6,7,8,9,10,11], [0,1,2,3,4,5,6,7,8,9,10,11,17,18], [0,1,2,3,4,5,6,7,8,9,10,11,17,18,19], [0,1,2,3,4,5,6,7,8,9,10,11,17,18,19,20], [0,1,2,3,4,5,6,7,8,9,10,11,12,13,14,15,16,17,18,19,20,21], [0,1,2,3,4,5,6,7,8,9,10,11,12,13,14,15,16,17,18,19,20,21,22], [0,1,2,3,4,5,6,7,8,9,10,11,12,13,14,15,16,17,18,19,20,21,22,23]] (by decide) ?_;refine zd 0 [] 25 (by exact mv1 rfl) ?_;refine zd 1 [] 25 (by exact mv1 rfl) ?_;refine zd 2 [0,1] 25 (by exact g_ia_view rfl rfl rfl rfl rfl (by rfl) (by assumption)) ?_;refine zd 3 [0,1,2] 25 (by exact g_fa_ref rfl rfl rfl rfl rfl rfl) ?_;refine zd 4 [0,1,2,3] 25 (by exact g_load_ref rfl rfl rfl) ?_;refine zd 5 [] 25 (by exact mv1 rfl) ?_;refine zd 6 [] 25 (by exact mv1 rfl) ?_;refine zd 7 [5,6] 25 (by exact g_ia_view rfl rfl rfl rfl rfl (by rfl) (by assumption)) ?_;refine zd 8 [5,6,7] 25 (by exact g_fa_ref rfl rfl rfl rfl rfl rfl) ?_;refine zd 9 [5,6,7,8] 25 (by exact g_load_ref rfl rfl rfl) ?_;refine zd 10 (List.range 10) 25 (by exact g_neIr rfl rfl rfl) ?_;refine zd 11 (List.range 11) 25 (by exact mv1 rfl) ?_;refine ze 12 (List.range 12) 25 (by exact mv1 rfl) ?_;refine ze 13 (List.range 12) 25 (by exact mv1 rfl) ?_;refine ze 14 (List.range 14) 25 (by exact g_ia_view rfl rfl rfl rfl rfl (by rfl) (by assumption)) ?_;refine ze 15 (List.range 15) 25 (by exact g_fa_ref rfl rfl rfl rfl rfl rfl) ?_;refine ze 16 (List.range 16) 25 (by exact g_load_ref rfl rfl rfl) ?_;refine ze 17 (List.range 12) 25 (by exact mv1 rfl) ?_;refine ze 18 (List.range 12) 25 (by exact mv1 rfl) ?_;refine ze 19 [0,1,2,3,4,5,6,7,8,9,10,11,17,18] 25 (by exact g_ia_view rfl rfl rfl rfl rfl (by rfl) (by assumption)) ?_;refine ze 20 [0,1,2,3,4,5,6,7,8,9,10,11,17,18,19] 25 (by exact g_fa_ref rfl rfl rfl rfl rfl rfl) ?_;refine ze 21 [0,1,2,3,4,5,6,7,8,9,10,11,17,18,19,20] 25 (by exact g_load_ref rfl rfl rfl) ?_;refine zi 22 (List.range 22) 25 (by exact h_pure en_qSameN rfl rfl (by repeat (first | exact rfl | exact DLead.same | refine ⟨_, _, rfl, ?_, ?_⟩)) hQ rfl) ?_;refine ze 23 (List.range 23) 25 (by exact g_not rfl) ?_;refine zd 24 (List.range 24) 25 (by exact g_pickF (r := .d _) rfl rfl) ?_;refine zj 25 ?_;refine th_n ?_;refine AC.condF rfl ?_;refine AC.skip (ib_n (th_n (AC.region ?_)));refine zA ?_;refine zm ?_;refine AL.nil (th_n ?_);exact ⟨k + 1, by omega, by omega, Weak.ren _ [] hC rfl (by repeat (first | exact True.intro | refine And.intro ?_ ?_ | exact DLead.same)) (by repeat (exact True.intro)) rfl rfl rfl⟩
 refine AC.exit (th_e (th_e (ib_y (th_n (AC.seq (AC.region ?_))))));refine za ?_;refine AL.nil (th_n (AC.ret (bq_r ?_)));exact ret1 rfl rfl
theorem en_qSameHs : Enters Tryz.prog 44 := enters_of Tryz.func44 rfl rfl
set_option maxHeartbeats 4000000 in
theorem qSameU_spec (u : Unf) (hc : u.cs.length ≤ 100000000) (he : u.es.length ≤ 100000000) (hp : ∀ x, x ∈ u.es → x.pre.length ≤ 1000000) : ASpec Tryz.prog 45 [unfA u, unfA u] [] (Pure1 (aT true)) := by
 have hQ := qSameHs_spec u.es he hp;refine ASpec.of Tryz.func45 rfl rfl fun C hC => ?_
 refine AC.seq (AC.region ?_);refine kD ?_;refine kD ?_;refine za ?_;refine AL.nil (th_n (AC.seq (AC.seq (AC.region ?_))));refine zf ?_;refine zr ?_;refine kI u.cs.length (condsL_len _) ?_;refine zf ?_;refine zr ?_;refine kI u.cs.length (condsL_len _) ?_;refine AL.p (by exact g_neIr rfl rfl rfl) rfl ?_;refine zm ?_;refine zy ?_;refine zf ?_;refine zy ?_;refine zr ?_;refine zy ?_;refine zf ?_;refine zy ?_;refine zr ?_;refine zy ?_;refine kV en_qSameHs hQ ?_;refine zy ?_;refine kC ?_;refine zP ?_;refine AL.nil (th_n ?_);refine AC.condF rfl ?_;refine AC.skip (th_n (AC.seq (AC.seq (AC.region ?_))));refine zf ?_;refine zr ?_;refine kI u.cs.length (condsL_len _) ?_;refine zm ?_;refine AL.nil (th_n (AC.block ?_));refine AC.loop (ι := Nat) (fun k => ⟨39, 100, [(2, .d (.ref (unfD u))), (3, .d (.ref (unfD u))), (23, aI u.cs.length), (24, aI k)], []⟩) (fun k => k ≤ u.cs.length) (fun k => u.cs.length - k) (0) ?_ (Nat.zero_le _) ?_
 ·exact Weak.ren _ [] hC rfl (by repeat (first | exact True.intro | refine And.intro ?_ ?_ | exact DLead.same)) (by repeat (exact True.intro)) rfl rfl rfl
 intro k hk;refine AC.seq (AC.region ?_);refine zc ?_;refine AL.nil (th_n (AC.seq ?_));refine AC.condD rfl (fun h0 => ?_) (fun h0 => ?_)
 ·refine AC.skip (th_n (AC.seq (AC.block (AC.seq ?_))));have hk1 : k < u.cs.length := by omega
  have hget := condsL_get hk1;refine AC.region ?_;refine zm ?_;refine za ?_;refine AL.nil (th_n (AC.seq ?_));refine AC.drawn' mixed_ok [[], [0], [], [0,1,2], [0,1,2,3], [], [5], [], [5,6,7], [5,6,7,8], [0,1,2,3,4,5,6,7,8,9]] (by decide) ?_;refine zd 0 [] 11 (by exact g_fa_ref rfl rfl rfl rfl rfl rfl) ?_;refine zd 1 [0] 11 (by exact g_load_ref rfl rfl rfl) ?_;refine zd 2 [] 11 (by exact mv1 rfl) ?_;refine zd 3 [0,1,2] 11 (by exact g_ia_view rfl rfl rfl rfl rfl (by rfl) (by assumption)) ?_;refine zd 4 [0,1,2,3] 11 (by exact g_load_refN rfl rfl rfl rfl) ?_;refine zd 5 [] 11 (by exact g_fa_ref rfl rfl rfl rfl rfl rfl) ?_;refine zd 6 [5] 11 (by exact g_load_ref rfl rfl rfl) ?_;refine zd 7 [] 11 (by exact mv1 rfl) ?_;refine zd 8 [5,6,7] 11 (by exact g_ia_view rfl rfl rfl rfl rfl (by rfl) (by assumption)) ?_;refine zd 9 [5,6,7,8] 11 (by exact g_load_refN rfl rfl rfl rfl) ?_;refine zd 10 (List.range 10) 11 (by exact g_eq2 (r := false) (by decide +kernel) rfl rfl (by rw [decide_eq_true ⟨rfl, rfl⟩]; rfl)) ?_;refine zj 11 ?_;refine th_n ?_;refine AC.condF rfl ?_;refine AC.skip (ib_n (th_n (AC.region ?_)));refine zA ?_;refine zm ?_;refine AL.nil (th_n ?_);exact ⟨k + 1, by omega, by omega, Weak.ren _ [] hC rfl (by repeat (first | exact True.intro | refine And.intro ?_ ?_ | exact DLead.same)) (by repeat (exact True.intro)) rfl rfl rfl⟩
 refine AC.exit (th_e (th_e (ib_y (th_n (AC.seq (AC.region ?_))))));refine za ?_;refine AL.nil (th_n (AC.ret (bq_r ?_)));exact ret1 rfl rfl
theorem en_qSameU : Enters Tryz.prog 45 := enters_of Tryz.func45 rfl rfl
def Dr0 : AV → List (Nat × Chunk) → Prop := fun r chs => ∃ (N : Net) (m : List UInt8) (u : Unf), (CyOk N ∧ m.length ≤ 10 ∧ UnfW u) ∧ r = .tup [netA N, aS (bstr m), unfA u] ∧ chs = []
set_option maxHeartbeats 4000000 in
theorem sDrawIsUnf_ex (code : List UInt8) : ASpec Tryz.prog 97 [.d (vB code)] [] Dr0 := by
 have hp0 : (cur0 code).pos = 0 := rfl;have hA := curAnyUnf_ex (cur0 code) (by omega);refine ASpec.of Tryz.func97 rfl rfl fun C hC => ?_
 refine AC.seq (AC.region ?_);refine kE ?_;refine za ?_;refine kE ?_;refine AL.nil (th_n (AC.seq (AC.region ?_)));refine zm ?_;refine AL.p (by exact g_build rfl rfl rfl) rfl ?_;refine AL.q (by exact h_box rfl) rfl ?_;refine AL.p (by exact as3 rfl) rfl ?_;refine AL.nil (th_n (AC.seq (AC.region ?_)));refine AL.p (by exact mv3 rfl) rfl ?_;refine AL.r (by exact h_funR (cs := [16]) en_curAnyUnf rfl rfl (by repeat (first | exact rfl | refine ⟨_, _, rfl, ?_, ?_⟩ | refine ⟨_, rfl, ?_⟩)) (by repeat (first | exact True.intro | refine And.intro ?_ ?_ | exact DLead.same | exact rfl | refine ⟨_, _, rfl, rfl, ?_⟩ | refine ⟨_, rfl, ?_⟩ | refine ⟨_, _, rfl, ?_, ?_⟩)) hA rfl rfl rfl) rfl ?_;rintro _ ⟨_, _, ⟨N, m, u, c1, ⟨hN, hm, hu, hc1⟩, rfl, rfl⟩, rfl⟩;refine AL.p (by exact g_extract (r := .agg _) rfl rfl) rfl ?_;refine AL.p (by exact g_extract (r := .d _) rfl rfl) rfl ?_;refine AL.p (by exact g_extract (r := .agg _) rfl rfl) rfl ?_;refine zs ?_;refine za ?_;refine zs ?_;refine AL.nil (th_n (AC.ret (bq_r ?_)));exact retX [] rfl ⟨N, m, u, ⟨hN, hm, hu⟩, rfl, rfl⟩ (by repeat (first | exact rfl | exact DLead.same | refine ⟨_, _, rfl, ?_, ?_⟩ | refine ⟨_, rfl, ?_⟩)) (by repeat (exact True.intro)) rfl rfl
theorem en_sDrawIsUnf : Enters Tryz.prog 97 := enters_of Tryz.func97 rfl rfl
set_option maxHeartbeats 4000000 in
theorem sDrawPossE_ex (code : List UInt8) : ASpec Tryz.prog 38 [.d (vB code)] [] Dr0 := by
 have hA := sDrawIsUnf_ex code;refine ASpec.of Tryz.func38 rfl rfl fun C hC => ?_
 refine AC.seq (AC.region ?_);refine kE ?_;refine za ?_;refine kE ?_;refine AL.nil (th_n (AC.seq (AC.region ?_)));refine zm ?_;refine AL.r (by exact h_funR (cs := []) en_sDrawIsUnf rfl rfl (by repeat (first | exact rfl | exact DLead.same | refine ⟨_, _, rfl, ?_, ?_⟩)) (by repeat (exact True.intro)) hA rfl rfl rfl) rfl ?_;rintro _ ⟨_, _, ⟨N, m, u, ⟨hN, hm, hu⟩, rfl, rfl⟩, rfl⟩;refine AL.p (by exact g_extract (r := .agg _) rfl rfl) rfl ?_;refine AL.p (by exact g_extract (r := .d _) rfl rfl) rfl ?_;refine AL.p (by exact g_extract (r := .agg _) rfl rfl) rfl ?_;refine zs ?_;refine za ?_;refine zs ?_;refine AL.nil (th_n (AC.ret (bq_r ?_)));exact retX [] rfl ⟨N, m, u, ⟨hN, hm, hu⟩, rfl, rfl⟩ (by repeat (first | exact rfl | exact DLead.same | refine ⟨_, _, rfl, ?_, ?_⟩ | refine ⟨_, rfl, ?_⟩)) (by repeat (exact True.intro)) rfl rfl
theorem en_sDrawPossE : Enters Tryz.prog 38 := enters_of Tryz.func38 rfl rfl
end Go.Proofs.YtbiinjejokhfgaaGreat
