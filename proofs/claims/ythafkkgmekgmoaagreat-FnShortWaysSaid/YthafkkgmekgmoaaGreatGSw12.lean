/- Contracts of the functions of the program and of the reference, each proved by a walk through its code. -/
import Derived.WalkKit
import Derived.WalkSpells
import Derived.WalkLawsBesides
import Derived.Deep.Draws
import Derived.Lib.Hide
import Derived.Maps.AppendAt
import Derived.OwnWalk
import Derived.Deep.MidRow
import Derived.Laws.ResultCell
import Derived.Deep.Upon
import Derived.Great.FillDense
import Derived.Laws.Tables
import Derived.Laws.BytesArg
import Derived.Laws.MakeOwn
import Derived.Great.BuildSlice
import Derived.ArgAppend
import Derived.Deep.AppendSrc
import Derived.Test.YthafkkgmekgmoaaGreatProg
import Derived.KernelRfl
import Derived.Orders
import Derived.Laws.IdiomStrings
import Derived.Lib.AppendZerosOnto
import Derived.ProofKit
import Derived.OpenShut
import Derived.Lib.SliceRun
import Derived.Laws.StructEq
import Derived.ChangeKeysEq
import Derived.Sort.Grow
import Derived.Laws.RangeString
import Derived.Below
import Derived.Laws.Small
import Derived.MapKept
import Derived.WideMake
import Derived.Laws.IdiomCopy
import Derived.Shelf.Strings.Builder1
import Derived.Shelf.Strings.Builder2
import Derived.Shelf.Strings.OnBuilder
import Derived.Shelf.Bits.Mul64
import Derived.Test.YthafkkgmekgmoaaGreatRows
import Derived.Test.YthafkkgmekgmoaaGreatGSw11
set_option linter.all false
set_option maxRecDepth 20000
namespace Go.Proofs.YthafkkgmekgmoaaGreat
open Go.RowKit
theorem pathR_ok {c : SG} {k : Int} (h : (pathR c k).2 = true) : stateB c k = true ∧ pathR c k = (pathL c k.toNat, true) := by
 unfold pathR at h ⊢
 split at h
 ·rename_i q; exact ⟨q, if_pos q⟩
 ·cases h
theorem pathR_len {c : SG} (k : Int) : (pathR c k).1.length ≤ 300 := by
 unfold pathR
 split
 ·rename_i q; exact pathL_len (stateB_at q).1 _
 ·exact Nat.zero_le _
theorem path_chn {c : SG} (hv : validC c = true) {k : Nat} (hk : k < c.codes.length) : chnL c.arcs (pathL c k) = true := chnL_yes fun j hj => by
 have := (pathL_chn hv hk).facts.1 j hj
 unfold chJ
 rw [arAt_nat hj, Bool.and_eq_true, decide_eq_true_eq]
 exact ⟨this.2, conAr_iff.2 this.1⟩
theorem trc_path {c : SG} (hv : validC c = true) {k : Nat} (hk : k < c.codes.length) : trcR c (pathL c k) = (trcT c.sigs (pathL c k), true) := if_pos (by rw [hv, path_chn hv hk, decide_eq_true (by have := pathL_len hv k; omega)]; rfl)
theorem trcT_nil {s : List Sig} {l : List Ar} : trcT s l = [] ↔ l = [] := by
 have := join_ne (l := l.map (wrdA s)) (sep := [32]) (fun x hx => by obtain ⟨a, _, rfl⟩ := List.mem_map.1 hx; exact wrdA_pos s a)
 rw [List.map_eq_nil_iff] at this
 exact this
theorem atP_next {c : SG} (hv : validC c = true) {W : List Ar} {k : Nat} (h : Chn c.arcs W k) {j : Nat} (hj : j < W.length) :
  (W[j].from_ = atP W j ∧ W[j] ∈ c.arcs) ∧ leaveR c (atP W j) = (leaveL c (atP W j), true) ∧ (leaveL c (atP W j)).any (eqArB W[j]) = true ∧ atP W (j + 1) = W[j].to_ ∧
  cAtS c (atP W (j + 1)).toNat = (if W[j].sig < 0 then cAtS c (atP W j).toNat else (cAtS c (atP W j).toNat).set W[j].sig.toNat (bitLb W[j].up)) ∧ (cAtS c (atP W j).toNat).length = c.sigs.length ∧ W[j].sig < c.sigs.length := by
 obtain ⟨h1, h2⟩ := h.facts.1 j hj
 have ha := validC_arc hv h1
 have ht : atP W (j + 1) = W[j].to_ := by show (arAt W j).to_ = _; rw [arAt_nat hj]
 have hst : stateB c (atP W j) = true := by
  unfold stateB
  rw [hv, ← h2]
  simp only [Bool.true_and, Bool.and_eq_true, decide_eq_true_eq]
  omega
 refine ⟨⟨h2, h1⟩, if_pos hst, conAr_iff.2 (List.mem_filter.2 ⟨h1, decide_eq_true h2⟩), ht, ?_, ?_, (arc_sig hv h1).1⟩
 ·rw [ht, arc_turn hv h1, h2]
 ·exact validC_code hv (stateB_at hst).2.1
theorem with_self {c : SG} (hv : validC c = true) {k : Nat} (hk : k < c.codes.length) : withR c (cAtS c k) = (withL c (cAtS c k) c.codes.length, true) ∧ hasI (withL c (cAtS c k) c.codes.length) (k : Int) = true := by
 refine ⟨if_pos hv, ?_⟩
 unfold hasI withL nI
 rw [List.any_eq_true]
 exact ⟨(k : Int), List.mem_map.2 ⟨k, List.mem_filter.2 ⟨List.mem_range.2 hk, decide_eq_true rfl⟩, rfl⟩, decide_eq_true rfl⟩
theorem leaveR_len (c : SG) (k : Int) (h : SgL c) : (leaveR c k).1.length ≤ 1000000 := by
 have h1 := List.length_filter_le (fun v : Ar => decide (v.from_ = k)) c.arcs
 have h2 := h.a
 unfold leaveR
 split
 ·show (leaveL c k).length ≤ _
  unfold leaveL
  omega
 ·exact Nat.zero_le _
theorem withR_len (c : SG) (w : List UInt8) (h : SgL c) : (withR c w).1.length ≤ 1000000 := by
 have h1 := withL_len c w c.codes.length
 have h2 := h.n
 unfold withR
 split
 ·show (withL c w c.codes.length).length ≤ _
  omega
 ·exact Nat.zero_le _
def SgN : AV → List (Nat × Chunk) → Prop := fun r chs => ∃ (g : SG) (k : Int), (SgS 1 g ∧ -10 ≤ k ∧ k ≤ 2000) ∧ r = .tup [sgA g, aI k] ∧ chs = []
def SgNN : AV → List (Nat × Chunk) → Prop := fun r chs => ∃ (g : SG) (k j : Int), (SgS 1 g ∧ (-10 ≤ k ∧ k ≤ 2000) ∧ -10 ≤ j ∧ j ≤ 2000) ∧ r = .tup [sgA g, aI k, aI j] ∧ chs = []
def SgW : AV → List (Nat × Chunk) → Prop := fun r chs => ∃ (g : SG) (w : List UInt8), (SgS 1 g ∧ w.length ≤ 1000) ∧ r = .tup [sgA g, aS (bstr w)] ∧ chs = []
set_option maxHeartbeats 4000000 in
theorem sDrawArcsFrom_spec (code : List UInt8) : ASpec Tryz.prog 77 [.d (vB code)] [] SgN := by
 have hp0 : (cur0 code).pos = 0 := rfl
 have hA := anyCoded_spec (cur0 code) (by omega)
 refine ASpec.of Tryz.func77 rfl rfl fun C hC => ?_
 refine AC.seq (AC.region ?_)
 refine AL.q (by exact h_alloc rfl) rfl ?_
 refine za ?_
 refine AL.nil (th_n (AC.seq (AC.region ?_)))
 refine zm ?_
 refine AL.p (by exact g_build rfl rfl rfl) rfl ?_
 refine AL.q (by exact h_box rfl) rfl ?_
 refine AL.p (by exact as3 rfl) rfl ?_
 refine AL.nil (th_n (AC.seq (AC.region ?_)))
 refine AL.p (by exact mv3 rfl) rfl ?_
 refine AL.r (by exact h_funR (cs := [8]) en_anyCoded rfl rfl (by repeat (first | exact rfl | refine ⟨_, _, rfl, ?_, ?_⟩ | refine ⟨_, rfl, ?_⟩)) (by repeat (first | exact True.intro | refine And.intro ?_ ?_ | exact DLead.same | exact rfl | refine ⟨_, _, rfl, rfl, ?_⟩ | refine ⟨_, rfl, ?_⟩ | refine ⟨_, _, rfl, ?_, ?_⟩)) hA rfl rfl rfl) rfl ?_
 rintro _ ⟨_, _, ⟨x, c', ⟨hx, hc'⟩, rfl, rfl⟩, rfl⟩
 refine AL.q (by exact h_alloc rfl) rfl ?_
 refine zs ?_
 refine AL.nil (th_n (AC.seq ?_))
 refine AC.weak (t := ⟨22, 300, [(2, .ptr 201 0), (4, .ptr 202 0), (5, .ptr 200 0)], [(201, some (.cells 68 zSG)), (202, some (curC c')), (200, some (.cells 68 (sgC x)))]⟩) (zw [(201, _), (202, _), (200, _)] hC) ?_
 have hxn := hx.n
 have hK1 := pick_spec c' ((x.codes.length : Int) + 1) (by omega) (by omega)
 have b1 := c'.pick_in ((x.codes.length : Int) + 1) (by omega)
 have p1 := c'.pick_pos ((x.codes.length : Int) + 1)
 obtain ⟨p, hp⟩ : ∃ p, p = c'.pick ((x.codes.length : Int) + 1) := ⟨_, rfl⟩
 rw [← hp] at hK1 b1 p1
 have hK2 := pick_spec p.2 20 (by decide) (by omega)
 have b2 := p.2.pick_in 20 (by decide)
 obtain ⟨q, hq⟩ : ∃ q, q = p.2.pick 20 := ⟨_, rfl⟩
 rw [← hq] at hK2 b2
 have hq19 := quo19 b2
 refine AC.drawn' mixed_ok [[], [], [], [2], [2,3], [2,3,4], [1,2,3,4,5], [], [1,2,3,4,5,6,7], [1,2,3,4,5,6,7,8], [1,2,3,4,5,6,7,8,9], [0,1,2,3,4,5,6,7,8], [0,1,2,3,4,5,6,7,8,9,10,11]] (by decide) ?_
 refine DF.op 0 [] 13 rfl rfl rfl (.free rfl (NOp.of (by exact g_load_ptrN rfl rfl rfl rfl rfl))) rfl ?_
 refine DF.op 1 [] 13 rfl rfl rfl (.free rfl (NOp.of (by exact mv3 rfl))) rfl ?_
 refine DF.op 2 [] 13 rfl rfl rfl (.free rfl (NOp.of (by exact g_fa_ptr rfl rfl rfl rfl rfl))) rfl ?_
 refine DF.op 3 [2] 13 rfl rfl rfl (.free rfl (NOp.of (by exact g_load_ptr rfl rfl rfl rfl rfl))) rfl ?_
 refine DF.op 4 [2,3] 13 rfl rfl rfl (.free rfl (NOp.of (by exact g_len_view (k := x.codes.length) rfl rfl (tsX_len _)))) rfl ?_
 refine DF.op 5 [2,3,4] 13 rfl rfl rfl (.free rfl (NOp.of (by exact g_arith rfl rfl rfl (by exact wrap_i64 (by omega))))) rfl ?_
 refine DF.op 6 [1,2,3,4,5] 13 rfl rfl rfl (.free rfl (by exact h_fun (cs := [202]) en_pick rfl rfl (by repeat (first | exact rfl | exact DLead.same | refine ⟨_, _, rfl, ?_, ?_⟩ | refine ⟨_, rfl, ?_⟩)) (by repeat (first | exact True.intro | refine And.intro ?_ ?_ | exact DLead.same | exact rfl | refine ⟨_, _, rfl, rfl, ?_⟩ | refine ⟨_, rfl, ?_⟩ | refine ⟨_, _, rfl, ?_, ?_⟩)) hK1 rfl rfl rfl rfl)) rfl ?_
 refine DF.op 7 [] 13 rfl rfl rfl (.free rfl (NOp.of (by exact mv3 rfl))) rfl ?_
 refine DF.op 8 [1,2,3,4,5,6,7] 13 rfl rfl rfl (.free rfl (by exact h_fun (cs := [202]) en_pick rfl rfl (by repeat (first | exact rfl | exact DLead.same | refine ⟨_, _, rfl, ?_, ?_⟩ | refine ⟨_, rfl, ?_⟩)) (by repeat (first | exact True.intro | refine And.intro ?_ ?_ | exact DLead.same | exact rfl | refine ⟨_, _, rfl, rfl, ?_⟩ | refine ⟨_, rfl, ?_⟩ | refine ⟨_, _, rfl, ?_, ?_⟩)) hK2 rfl rfl rfl rfl)) rfl ?_
 refine DF.op 9 [1,2,3,4,5,6,7,8] 13 rfl rfl rfl (.free rfl (NOp.of (by exact g_quo (c := q.1 / 19) rfl rfl (by decide) hq19))) rfl ?_
 refine DF.op 10 [1,2,3,4,5,6,7,8,9] 13 rfl rfl rfl (.free rfl (NOp.of (by exact g_arith rfl rfl rfl (by exact wrap_i64 (by omega))))) rfl ?_
 refine DF.op 11 (List.range 9) 13 rfl rfl rfl (.free rfl (by exact h_store rfl rfl rfl rfl rfl rfl)) rfl ?_
 refine DF.op 12 (List.range 12) 13 rfl rfl rfl (.free rfl (NOp.of (by exact as1 rfl))) rfl ?_
 refine DF.fin (ps := [(0,1),(0,2),(0,3),(0,4),(0,5),(0,6),(0,7),(0,8),(0,9),(0,10),(1,0),(1,2),(1,3),(1,4),(1,5),(1,7),(2,0),(2,1),(2,7),(3,0),(3,1),(3,7),(4,0),(4,1),(4,7),(5,0),(5,1),(5,7),(6,0),(6,7),(7,0),(7,1),(7,2),(7,3),(7,4),(7,5),(7,6),(8,0),(9,0),(9,11),(10,0),(10,11),(11,9),(11,10)]) 13 rfl (by decide +kernel) (by decide +kernel) (by rfl) ?_
 refine th_n (AC.ret (bq_r ?_))
 exact retX [] rfl ⟨x, p.1 - q.1 / 19, ⟨hx, by omega⟩, rfl, rfl⟩ (by repeat (first | exact DLead.same | exact rfl | refine ⟨_, rfl, ?_⟩ | refine ⟨_, _, rfl, ?_, ?_⟩)) (by repeat (exact True.intro)) rfl rfl
theorem en_sDrawArcsFrom : Enters Tryz.prog 77 := enters_of Tryz.func77 rfl rfl
theorem sDrawShortP_spec (code : List UInt8) : ASpec Tryz.prog 70 [.d (vB code)] [] SgN := by
 have hA := sDrawArcsFrom_spec code
 refine ASpec.of Tryz.func70 rfl rfl fun C hC => ?_
 refine AC.seq (AC.region ?_)
 refine AL.q (by exact h_alloc rfl) rfl ?_
 refine za ?_
 refine AL.nil (th_n (AC.seq (AC.region ?_)))
 refine zm ?_
 refine AL.r (by exact h_funR (cs := []) en_sDrawArcsFrom rfl rfl (by repeat (first | exact rfl | exact DLead.same | refine ⟨_, _, rfl, ?_, ?_⟩)) (by repeat (exact True.intro)) hA rfl rfl rfl) rfl ?_
 rintro _ ⟨_, _, ⟨x, k, ⟨hx, hk⟩, rfl, rfl⟩, rfl⟩
 refine AL.p (by exact g_extract (r := .agg _) rfl rfl) rfl ?_
 refine AL.p (by exact g_extract (r := .d _) rfl rfl) rfl ?_
 refine zs ?_
 refine za ?_
 refine AL.nil (th_n (AC.ret (bq_r ?_)))
 exact retX [] rfl ⟨x, k, ⟨hx, hk⟩, rfl, rfl⟩ (by repeat (first | exact DLead.same | exact rfl | refine ⟨_, rfl, ?_⟩ | refine ⟨_, _, rfl, ?_, ?_⟩)) (by repeat (exact True.intro)) rfl rfl
theorem en_sDrawShortP : Enters Tryz.prog 70 := enters_of Tryz.func70 rfl rfl
set_option maxHeartbeats 4000000 in
theorem sDrawIsExc_spec (code : List UInt8) : ASpec Tryz.prog 79 [.d (vB code)] [] SgNN := by
 have hp0 : (cur0 code).pos = 0 := rfl
 have hA := anyCoded_spec (cur0 code) (by omega)
 refine ASpec.of Tryz.func79 rfl rfl fun C hC => ?_
 refine AC.seq (AC.region ?_)
 refine AL.q (by exact h_alloc rfl) rfl ?_
 refine za ?_
 refine za ?_
 refine AL.nil (th_n (AC.seq (AC.region ?_)))
 refine zm ?_
 refine AL.p (by exact g_build rfl rfl rfl) rfl ?_
 refine AL.q (by exact h_box rfl) rfl ?_
 refine AL.p (by exact as3 rfl) rfl ?_
 refine AL.nil (th_n (AC.seq (AC.region ?_)))
 refine AL.p (by exact mv3 rfl) rfl ?_
 refine AL.r (by exact h_funR (cs := [8]) en_anyCoded rfl rfl (by repeat (first | exact rfl | refine ⟨_, _, rfl, ?_, ?_⟩ | refine ⟨_, rfl, ?_⟩)) (by repeat (first | exact True.intro | refine And.intro ?_ ?_ | exact DLead.same | exact rfl | refine ⟨_, _, rfl, rfl, ?_⟩ | refine ⟨_, rfl, ?_⟩ | refine ⟨_, _, rfl, ?_, ?_⟩)) hA rfl rfl rfl) rfl ?_
 rintro _ ⟨_, _, ⟨x, c', ⟨hx, hc'⟩, rfl, rfl⟩, rfl⟩
 refine AL.q (by exact h_alloc rfl) rfl ?_
 refine zs ?_
 refine AL.nil (th_n (AC.seq ?_))
 refine AC.weak (t := ⟨25, 300, [(2, .ptr 201 0), (5, .ptr 202 0), (6, .ptr 200 0)], [(201, some (.cells 68 zSG)), (202, some (curC c')), (200, some (.cells 68 (sgC x)))]⟩) (zw [(201, _), (202, _), (200, _)] hC) ?_
 have hxn := hx.n
 have hK1 := pick_spec c' ((x.codes.length : Int) + 1) (by omega) (by omega)
 have b1 := c'.pick_in ((x.codes.length : Int) + 1) (by omega)
 have p1 := c'.pick_pos ((x.codes.length : Int) + 1)
 obtain ⟨p, hp⟩ : ∃ p, p = c'.pick ((x.codes.length : Int) + 1) := ⟨_, rfl⟩
 rw [← hp] at hK1 b1 p1
 have hK2 := pick_spec p.2 20 (by decide) (by omega)
 have b2 := p.2.pick_in 20 (by decide)
 have p2 := p.2.pick_pos 20
 obtain ⟨q, hq⟩ : ∃ q, q = p.2.pick 20 := ⟨_, rfl⟩
 rw [← hq] at hK2 b2 p2
 have hK3 := pick_spec q.2 4 (by decide) (by omega)
 have b3 := q.2.pick_in 4 (by decide)
 obtain ⟨r, hr⟩ : ∃ r, r = q.2.pick 4 := ⟨_, rfl⟩
 rw [← hr] at hK3 b3
 have hq19 := quo19 b2
 refine AC.drawn' mixed_ok [[], [], [], [2], [2,3], [2,3,4], [1,2,3,4,5], [], [1,2,3,4,5,6,7], [1,2,3,4,5,6,7,8], [1,2,3,4,5,6,7,8,9], [], [1,2,3,4,5,6,7,8,11], [0,1,2,3,4,5,6,7,8,11,12], [0,1,2,3,4,5,6,7,8,9,10,11,12,13], [0,1,2,3,4,5,6,7,8,9,10,11,12,13,14]] (by decide) ?_
 refine DF.op 0 [] 16 rfl rfl rfl (.free rfl (NOp.of (by exact g_load_ptrN rfl rfl rfl rfl rfl))) rfl ?_
 refine DF.op 1 [] 16 rfl rfl rfl (.free rfl (NOp.of (by exact mv3 rfl))) rfl ?_
 refine DF.op 2 [] 16 rfl rfl rfl (.free rfl (NOp.of (by exact g_fa_ptr rfl rfl rfl rfl rfl))) rfl ?_
 refine DF.op 3 [2] 16 rfl rfl rfl (.free rfl (NOp.of (by exact g_load_ptr rfl rfl rfl rfl rfl))) rfl ?_
 refine DF.op 4 [2,3] 16 rfl rfl rfl (.free rfl (NOp.of (by exact g_len_view (k := x.codes.length) rfl rfl (tsX_len _)))) rfl ?_
 refine DF.op 5 [2,3,4] 16 rfl rfl rfl (.free rfl (NOp.of (by exact g_arith rfl rfl rfl (by exact wrap_i64 (by omega))))) rfl ?_
 refine DF.op 6 [1,2,3,4,5] 16 rfl rfl rfl (.free rfl (by exact h_fun (cs := [202]) en_pick rfl rfl (by repeat (first | exact rfl | exact DLead.same | refine ⟨_, _, rfl, ?_, ?_⟩ | refine ⟨_, rfl, ?_⟩)) (by repeat (first | exact True.intro | refine And.intro ?_ ?_ | exact DLead.same | exact rfl | refine ⟨_, _, rfl, rfl, ?_⟩ | refine ⟨_, rfl, ?_⟩ | refine ⟨_, _, rfl, ?_, ?_⟩)) hK1 rfl rfl rfl rfl)) rfl ?_
 refine DF.op 7 [] 16 rfl rfl rfl (.free rfl (NOp.of (by exact mv3 rfl))) rfl ?_
 refine DF.op 8 [1,2,3,4,5,6,7] 16 rfl rfl rfl (.free rfl (by exact h_fun (cs := [202]) en_pick rfl rfl (by repeat (first | exact rfl | exact DLead.same | refine ⟨_, _, rfl, ?_, ?_⟩ | refine ⟨_, rfl, ?_⟩)) (by repeat (first | exact True.intro | refine And.intro ?_ ?_ | exact DLead.same | exact rfl | refine ⟨_, _, rfl, rfl, ?_⟩ | refine ⟨_, rfl, ?_⟩ | refine ⟨_, _, rfl, ?_, ?_⟩)) hK2 rfl rfl rfl rfl)) rfl ?_
 refine DF.op 9 [1,2,3,4,5,6,7,8] 16 rfl rfl rfl (.free rfl (NOp.of (by exact g_quo (c := q.1 / 19) rfl rfl (by decide) hq19))) rfl ?_
 refine DF.op 10 [1,2,3,4,5,6,7,8,9] 16 rfl rfl rfl (.free rfl (NOp.of (by exact g_arith rfl rfl rfl (by exact wrap_i64 (by omega))))) rfl ?_
 refine DF.op 11 [] 16 rfl rfl rfl (.free rfl (NOp.of (by exact mv3 rfl))) rfl ?_
 refine DF.op 12 [1,2,3,4,5,6,7,8,11] 16 rfl rfl rfl (.free rfl (by exact h_fun (cs := [202]) en_pick rfl rfl (by repeat (first | exact rfl | exact DLead.same | refine ⟨_, _, rfl, ?_, ?_⟩ | refine ⟨_, rfl, ?_⟩)) (by repeat (first | exact True.intro | refine And.intro ?_ ?_ | exact DLead.same | exact rfl | refine ⟨_, _, rfl, rfl, ?_⟩ | refine ⟨_, rfl, ?_⟩ | refine ⟨_, _, rfl, ?_, ?_⟩)) hK3 rfl rfl rfl rfl)) rfl ?_
 refine DF.op 13 [0,1,2,3,4,5,6,7,8,11,12] 16 rfl rfl rfl (.free rfl (by exact h_store rfl rfl rfl rfl rfl rfl)) rfl ?_
 refine DF.op 14 (List.range 14) 16 rfl rfl rfl (.free rfl (NOp.of (by exact as1 rfl))) rfl ?_
 refine DF.op 15 (List.range 15) 16 rfl rfl rfl (.free rfl (NOp.of (by exact as1 rfl))) rfl ?_
 refine DF.fin (ps := [(0,1),(0,2),(0,3),(0,4),(0,5),(0,6),(0,7),(0,8),(0,9),(0,10),(0,11),(0,12),(1,0),(1,2),(1,3),(1,4),(1,5),(1,7),(1,11),(2,0),(2,1),(2,7),(2,11),(3,0),(3,1),(3,7),(3,11),(4,0),(4,1),(4,7),(4,11),(5,0),(5,1),(5,7),(5,11),(6,0),(6,7),(6,11),(7,0),(7,1),(7,2),(7,3),(7,4),(7,5),(7,6),(7,11),(8,0),(8,11),(9,0),(9,11),(9,12),(9,13),(10,0),(10,11),(10,12),(10,13),(11,0),(11,1),(11,2),(11,3),(11,4),(11,5),(11,6),(11,7),(11,8),(11,9),(11,10),(12,0),(12,9),(12,10),(13,9),(13,10)]) 16 rfl (by decide +kernel) (by decide +kernel) (by rfl) ?_
 refine th_n (AC.ret (bq_r ?_))
 exact retX [] rfl ⟨x, p.1 - q.1 / 19, r.1, ⟨hx, by omega, by omega⟩, rfl, rfl⟩ (by repeat (first | exact DLead.same | exact rfl | refine ⟨_, rfl, ?_⟩ | refine ⟨_, _, rfl, ?_, ?_⟩)) (by repeat (exact True.intro)) rfl rfl
theorem en_sDrawIsExc : Enters Tryz.prog 79 := enters_of Tryz.func79 rfl rfl
set_option maxHeartbeats 4000000 in
theorem sDrawStates_spec (code : List UInt8) : ASpec Tryz.prog 82 [.d (vB code)] [] SgW := by
 have hp0 : (cur0 code).pos = 0 := rfl
 have hA := anyCoded_spec (cur0 code) (by omega)
 refine ASpec.of Tryz.func82 rfl rfl fun C hC => ?_
 refine AC.seq (AC.region ?_)
 refine AL.q (by exact h_alloc rfl) rfl ?_
 refine za ?_
 refine AL.nil (th_n (AC.seq (AC.region ?_)))
 refine zm ?_
 refine AL.p (by exact g_build rfl rfl rfl) rfl ?_
 refine AL.q (by exact h_box rfl) rfl ?_
 refine AL.p (by exact as3 rfl) rfl ?_
 refine AL.nil (th_n (AC.seq (AC.region ?_)))
 refine AL.p (by exact mv3 rfl) rfl ?_
 refine AL.r (by exact h_funR (cs := [8]) en_anyCoded rfl rfl (by repeat (first | exact rfl | refine ⟨_, _, rfl, ?_, ?_⟩ | refine ⟨_, rfl, ?_⟩)) (by repeat (first | exact True.intro | refine And.intro ?_ ?_ | exact DLead.same | exact rfl | refine ⟨_, _, rfl, rfl, ?_⟩ | refine ⟨_, rfl, ?_⟩ | refine ⟨_, _, rfl, ?_, ?_⟩)) hA rfl rfl rfl) rfl ?_
 rintro _ ⟨_, _, ⟨x, c', ⟨hx, hc'⟩, rfl, rfl⟩, rfl⟩
 refine AL.q (by exact h_alloc rfl) rfl ?_
 refine zs ?_
 refine AL.nil (th_n (AC.seq (AC.seq ?_)))
 refine AC.weak (t := ⟨27, 300, [(2, .ptr 201 0), (4, .ptr 202 0), (5, .ptr 200 0)], [(201, some (.cells 68 zSG)), (202, some (curC c')), (200, some (.cells 68 (sgC x)))]⟩) (zw [(201, _), (202, _), (200, _)] hC) ?_
 have hxn := hx.n
 have hx0 := hx.n0
 have hO := one_spec c' 5 (by decide) (by omega)
 have p1 := c'.pick_pos 5
 obtain ⟨d, hd⟩ : ∃ d, d = (c'.pick 5).2 := ⟨_, rfl⟩
 obtain ⟨b, hb⟩ : ∃ b, b = decide ((c'.pick 5).1 = 0) := ⟨_, rfl⟩
 rw [← hd] at hO p1
 rw [← hb] at hO
 have hOf := of_any d [[], [48, 48, 48], [49, 49]] (by decide) (by decide) (by omega)
 obtain ⟨st, hst⟩ : ∃ st, st = ([[], [48, 48, 48], [49, 49]] : List (List UInt8)).getD (d.pick (([[], [48, 48, 48], [49, 49]] : List (List UInt8)).length : Int)).1.toNat [] := ⟨_, rfl⟩
 have hstl : st.length ≤ 1000 := by rw [hst]; exact Nat.le_trans (getD_le (m := 3) (by decide) _) (by decide)
 rw [← hst] at hOf
 refine AC.region ?_
 refine AL.p (by exact mv3 rfl) rfl ?_
 refine AL.q (by exact h_fun (cs := [202]) en_one rfl rfl (by repeat (first | exact rfl | exact DLead.same | refine ⟨_, _, rfl, ?_, ?_⟩ | refine ⟨_, rfl, ?_⟩)) (by repeat (first | exact True.intro | refine And.intro ?_ ?_ | exact DLead.same | exact rfl | refine ⟨_, _, rfl, rfl, ?_⟩ | refine ⟨_, rfl, ?_⟩ | refine ⟨_, _, rfl, ?_, ?_⟩)) hO rfl rfl rfl rfl) rfl ?_
 refine AL.nil (th_n ?_)
 refine AC.condB rfl (fun h0 => ?_) (fun h0 => ?_)
 ·refine AC.seq ?_
  refine AC.drawn' mixed_ok [[], [], [], [1,2], [0,1,2,3], [0,1,2,3,4]] (by decide) ?_
  refine DF.op 0 [] 6 rfl rfl rfl (.free rfl (NOp.of (by exact g_load_ptrN rfl rfl rfl rfl rfl))) rfl ?_
  refine DF.op 1 [] 6 rfl rfl rfl (.free rfl (NOp.of (by exact mv3 rfl))) rfl ?_
  refine DF.op 2 [] 6 rfl rfl rfl (.free rfl (by exact h_litF rfl rfl rfl rfl rfl rfl rfl rfl)) rfl ?_
  refine DF.op 3 [1,2] 6 rfl rfl rfl (.free rfl (by exact h_fun (cs := [202]) en_of rfl rfl (by repeat (first | exact rfl | exact DLead.same | refine ⟨_, _, rfl, ?_, ?_⟩ | refine ⟨_, rfl, ?_⟩)) (by repeat (first | exact True.intro | refine And.intro ?_ ?_ | exact DLead.same | exact rfl | refine ⟨_, _, rfl, rfl, ?_⟩ | refine ⟨_, rfl, ?_⟩ | refine ⟨_, _, rfl, ?_, ?_⟩)) hOf rfl rfl rfl rfl)) rfl ?_
  refine DF.op 4 [0,1,2,3] 6 rfl rfl rfl (.free rfl (by exact h_store rfl rfl rfl rfl rfl rfl)) rfl ?_
  refine DF.op 5 [0,1,2,3,4] 6 rfl rfl rfl (.free rfl (NOp.of (by exact as1 rfl))) rfl ?_
  refine DF.fin (ps := [(0,1),(0,2),(0,3),(1,0),(1,2),(2,0),(2,1),(3,0)]) 6 rfl (by decide +kernel) (by decide +kernel) (by rfl) ?_
  refine th_n (AC.ret (th_r (bq_r ?_)))
  exact retX [] rfl ⟨x, st, ⟨hx, hstl⟩, rfl, rfl⟩ (by repeat (first | exact DLead.same | exact rfl | refine ⟨_, rfl, ?_⟩ | refine ⟨_, _, rfl, ?_, ?_⟩)) (by repeat (exact True.intro)) rfl rfl
 ·refine AC.skip (th_n (AC.seq ?_))
  have hK := pick_spec d (x.codes.length : Int) (by omega) (by omega)
  have hKi := d.pick_in (x.codes.length : Int) (by omega)
  obtain ⟨q, hq⟩ : ∃ q, q = d.pick (x.codes.length : Int) := ⟨_, rfl⟩
  rw [← hq] at hK hKi
  obtain ⟨i, hi⟩ : ∃ i : Nat, q.1 = (i : Int) := ⟨q.1.toNat, by omega⟩
  rw [hi] at hK
  have hget := tsX_get (l := x.codes) (k := i) (by omega)
  have hwl := hx.cl _ (List.getElem_mem (show i < x.codes.length by omega))
  refine AC.drawn' mixed_ok [[], [], [1], [], [], [4], [4,5], [3,4,5,6], [1,2,3,4,5,6,7], [1,2,3,4,5,6,7,8], [0,3,4,5,6,7], [0,1,2,3,4,5,6,7,8,9,10]] (by decide) ?_
  refine DF.op 0 [] 12 rfl rfl rfl (.free rfl (NOp.of (by exact g_load_ptrN rfl rfl rfl rfl rfl))) rfl ?_
  refine DF.op 1 [] 12 rfl rfl rfl (.free rfl (NOp.of (by exact g_fa_ptr rfl rfl rfl rfl rfl))) rfl ?_
  refine DF.op 2 [1] 12 rfl rfl rfl (.free rfl (NOp.of (by exact g_load_ptr rfl rfl rfl rfl rfl))) rfl ?_
  refine DF.op 3 [] 12 rfl rfl rfl (.free rfl (NOp.of (by exact mv3 rfl))) rfl ?_
  refine DF.op 4 [] 12 rfl rfl rfl (.free rfl (NOp.of (by exact g_fa_ptr rfl rfl rfl rfl rfl))) rfl ?_
  refine DF.op 5 [4] 12 rfl rfl rfl (.free rfl (NOp.of (by exact g_load_ptr rfl rfl rfl rfl rfl))) rfl ?_
  refine DF.op 6 [4,5] 12 rfl rfl rfl (.free rfl (NOp.of (by exact g_len_view (k := x.codes.length) rfl rfl (tsX_len _)))) rfl ?_
  refine DF.op 7 [3,4,5,6] 12 rfl rfl rfl (.free rfl (by exact h_fun (cs := [202]) en_pick rfl rfl (by repeat (first | exact rfl | exact DLead.same | refine ⟨_, _, rfl, ?_, ?_⟩ | refine ⟨_, rfl, ?_⟩)) (by repeat (first | exact True.intro | refine And.intro ?_ ?_ | exact DLead.same | exact rfl | refine ⟨_, _, rfl, rfl, ?_⟩ | refine ⟨_, rfl, ?_⟩ | refine ⟨_, _, rfl, ?_, ?_⟩)) hK rfl rfl rfl rfl)) rfl ?_
  refine DF.op 8 [1,2,3,4,5,6,7] 12 rfl rfl rfl (.free rfl (NOp.of (by exact g_ia_view (i := i) rfl rfl rfl rfl rfl rfl hget))) rfl ?_
  refine DF.op 9 [1,2,3,4,5,6,7,8] 12 rfl rfl rfl (.free rfl (NOp.of (by exact g_load_ref rfl rfl rfl))) rfl ?_
  refine DF.op 10 [0,3,4,5,6,7] 12 rfl rfl rfl (.free rfl (by exact h_store rfl rfl rfl rfl rfl rfl)) rfl ?_
  refine DF.op 11 (List.range 11) 12 rfl rfl rfl (.free rfl (NOp.of (by exact as1 rfl))) rfl ?_
  refine DF.fin (ps := [(0,1),(0,2),(0,3),(0,4),(0,5),(0,6),(0,7),(0,8),(0,9),(1,0),(1,3),(1,4),(1,5),(1,6),(1,7),(1,10),(2,0),(2,3),(2,4),(2,5),(2,6),(2,7),(2,10),(3,0),(3,1),(3,2),(3,4),(3,5),(3,6),(4,0),(4,1),(4,2),(4,3),(5,0),(5,1),(5,2),(5,3),(6,0),(6,1),(6,2),(6,3),(7,0),(7,1),(7,2),(8,0),(8,10),(9,0),(9,10),(10,1),(10,2),(10,8),(10,9)]) 12 rfl (by decide +kernel) (by decide +kernel) (by rfl) ?_
  refine th_n (AC.ret (bq_r ?_))
  exact retX [] rfl ⟨x, x.codes[i], ⟨hx, by omega⟩, rfl, rfl⟩ (by repeat (first | exact DLead.same | exact rfl | refine ⟨_, rfl, ?_⟩ | refine ⟨_, _, rfl, ?_, ?_⟩)) (by repeat (exact True.intro)) rfl rfl
theorem en_sDrawStates : Enters Tryz.prog 82 := enters_of Tryz.func82 rfl rfl
set_option maxHeartbeats 64000000 in
theorem FnShortWays_spec (code more : List UInt8) (hc : code.length ≤ 9223372036854775807) (hm : more.length ≤ 9223372036854775807) : ASpec Tryz.prog 7 [.d (vB code), .d (vB more)] [] (Pure1 (aT true)) := by
 have hBig := big_spec code more hc hm
 have hD1 := sDrawShortP_spec code
 have hD2 := sDrawArcsFrom_spec more
 have hD3 := sDrawIsExc_spec more
 have hD4 := sDrawStates_spec more
 refine ASpec.of Tryz.func7 rfl rfl fun C hC => ?_
 refine AC.seq (AC.region ?_)
 refine za ?_
 refine AL.nil (th_n (AC.seq (AC.seq (AC.region ?_))))
 refine zm ?_
 refine zm ?_
 refine AL.q (by exact h_pure en_big rfl rfl (by repeat (first | exact rfl | exact DLead.same | refine ⟨_, _, rfl, ?_, ?_⟩)) hBig rfl) rfl ?_
 refine AL.nil (th_n ?_)
 refine AC.condB rfl (fun h0 => ?_) (fun h0 => ?_)
 ·refine AC.seq (AC.region ?_)
  refine za ?_
  refine AL.nil (th_n (AC.ret (th_r (bq_r ?_))))
  exact ret1 rfl rfl
 ·refine AC.skip (th_n (AC.seq (AC.region ?_)))
  refine zm ?_
  refine AL.r (by exact h_funR (cs := []) en_sDrawShortP rfl rfl (by repeat (first | exact rfl | exact DLead.same | refine ⟨_, _, rfl, ?_, ?_⟩)) (by repeat (exact True.intro)) hD1 rfl rfl rfl) rfl ?_
  rintro _ ⟨_, _, ⟨c, k, ⟨hcs, hk⟩, rfl, rfl⟩, rfl⟩
  have hL := hcs.L (by omega)
  have hp1 := iShortP_spec c k hL
  have hp2 := sShortP_spec c k hL
  have hok := @pathR_ok c k
  have hpl := pathR_len (c := c) k
  have hSm := pSameArcs_spec (pathR c k).1 (pathR c k).1 (by omega) (by omega)
  rw [eqAL_self] at hSm
  obtain ⟨P, hP⟩ : ∃ P, P = pathR c k := ⟨_, rfl⟩
  rw [← hP] at hp1 hp2 hok hpl hSm
  clear hP
  refine AL.p (by exact mv5 rfl) rfl ?_
  refine AL.p (by exact g_extract (r := .agg _) rfl rfl) rfl ?_
  refine AL.p (by exact g_extract (r := .d _) rfl rfl) rfl ?_
  refine AL.q (by exact h_alloc rfl) rfl ?_
  refine zs ?_
  refine za ?_
  refine AL.nil (th_n (AC.seq ?_))
  refine AC.weak (t := ⟨270, 300, [(1, .d (vB more)), (5, .ptr 200 0), (6, aI k)], [(200, some (.cells 68 (sgC c)))]⟩) (zw [(200, _)] hC) ?_
  refine AC.region ?_
  refine AL.p (by exact g_load_ptrN rfl rfl rfl rfl rfl) rfl ?_
  refine zm ?_
  refine AL.q (by exact h_pure en_iShortP rfl rfl (by repeat (first | exact rfl | exact DLead.same | refine ⟨_, _, rfl, ?_, ?_⟩ | refine ⟨_, rfl, ?_⟩)) hp1 rfl) rfl ?_
  refine AL.p (by exact mv5 rfl) rfl ?_
  refine AL.p (by exact g_extract (r := .d _) rfl rfl) rfl ?_
  refine AL.p (by exact g_extract (r := .d _) rfl rfl) rfl ?_
  refine za ?_
  refine za ?_
  refine AL.nil (th_n (AC.seq (AC.region ?_)))
  refine AL.p (by exact g_load_ptrN rfl rfl rfl rfl rfl) rfl ?_
  refine zm ?_
  refine AL.q (by exact h_pure en_sShortP rfl rfl (by repeat (first | exact rfl | exact DLead.same | refine ⟨_, _, rfl, ?_, ?_⟩ | refine ⟨_, rfl, ?_⟩)) hp2 rfl) rfl ?_
  refine AL.p (by exact mv5 rfl) rfl ?_
  refine AL.p (by exact g_extract (r := .d _) rfl rfl) rfl ?_
  refine AL.p (by exact g_extract (r := .d _) rfl rfl) rfl ?_
  refine za ?_
  refine za ?_
  refine AL.nil (th_n (AC.seq (AC.seq (AC.region ?_))))
  refine zm ?_
  refine zm ?_
  refine AL.p (by exact g_neBr rfl rfl rfl) rfl ?_
  refine zm ?_
  refine zy ?_
  refine zm ?_
  refine zy ?_
  refine zm ?_
  refine zy ?_
  refine AL.q (by exact h_pure en_pSameArcs rfl rfl (by repeat (first | exact rfl | exact DLead.same | refine ⟨_, _, rfl, ?_, ?_⟩)) hSm rfl) rfl ?_
  refine zy ?_
  refine AL.p (by exact g_not rfl) rfl ?_
  refine zP ?_
  refine AL.nil (th_n ?_)
  refine AC.condF rfl ?_
  refine AC.skip (th_n ?_)
  refine AC.cut (fun (_ : Unit) => ⟨270, 2000, [(1, .d (vB more))], []⟩) (fun _ => True) ?_ ?_
  ·refine AC.seq (AC.region ?_)
   refine zm ?_
   refine AL.nil (th_n ?_)
   refine AC.condB rfl (fun h1 => ?_) (fun h1 => ?_)
   ·refine AC.seq ?_
    have hP2 : P.2 = true := ‹P.2 = true›
    obtain ⟨hst, hPe⟩ := hok hP2
    obtain ⟨hv, hkn, hke⟩ := stateB_at hst
    obtain ⟨k0, hk0⟩ : ∃ k0, k0 = k.toNat := ⟨_, rfl⟩
    rw [← hk0] at hPe hkn hke
    have hCh := pathL_chn hv hkn
    have hTr := trc_path hv hkn
    have hTn := @trcT_nil c.sigs (pathL c k0)
    have hEnd := hCh.facts.2
    have hWL := pathL_len hv k0
    have hNx := fun j (hj : j < (pathL c k0).length) => atP_next hv hCh hj
    have hWs := with_self hv hkn
    have hFm := iFmt_spec c (pathL c k0) hL (by have := pathL_len hv k0; omega)
    have hSt := iStates_spec c (cAtS c k0) hL
    have hAf := fun q => iArcsFrom_spec c q hL
    rw [hWs.1] at hSt
    rw [hTr] at hFm
    have hWl := withL_len c (cAtS c k0) c.codes.length
    have hn1 := hcs.n
    have hn0 := hcs.n0
    have hLh := lhas_spec (withL c (cAtS c k0) c.codes.length) (k0 : Int) (by omega)
    rw [hWs.2] at hLh
    have hlll := fun q => List.length_filter_le (fun v : Ar => decide (v.from_ = q)) c.arcs
    have hla := hcs.a
    have hg0 := cAtS_get (c := c) (i := 0) (by omega)
    have hgk := cAtS_get (c := c) (i := k0) hkn
    rw [hPe]
    rw [hke]
    obtain ⟨W, hW⟩ : ∃ W, W = pathL c k0 := ⟨_, rfl⟩
    rw [← hW] at hTn hEnd hNx hFm hWL ⊢
    obtain ⟨T, hT⟩ : ∃ T, T = trcT c.sigs W := ⟨_, rfl⟩
    rw [← hT] at hTn hFm
    have hTe : decide (bstr T = ⟨#[]⟩) = decide ((W.length : Int) = 0) := decide_eq_decide.2 ⟨fun h => (by have e2 : T = [] := bstr_inj (show bstr T = bstr [] from h); rw [hTn.1 e2]; rfl), fun h => (by have e2 : W = [] := List.length_eq_zero_iff.1 (by omega); rw [hTn.2 e2]; rfl)⟩
    clear hok hst hCh hTr hWs hT hW hPe hp1 hp2 hSm hpl hP2 hBig hD1
    refine AC.weak (t := ⟨270, 700, [(1, .d (vB more)), (5, .ptr 200 0), (6, aI k0), (7, .d (vArs W))], [(200, some (.cells 68 (sgC c)))]⟩) (zw [(200, 200)] hC) ?_
    refine AC.region ?_
    refine za ?_
    refine AL.nil (th_n (AC.seq (AC.region ?_)))
    refine zF ?_
    refine zl ?_
    refine AL.p (by exact g_ia_view (i := 0) rfl rfl rfl rfl rfl rfl hg0) rfl ?_
    refine zr ?_
    refine za ?_
    refine AL.nil (th_n (AC.seq (AC.seq (AC.region ?_))))
    refine zm ?_
    refine AL.p (by exact g_len_view (k := W.length) rfl rfl (arL_len _)) rfl ?_
    refine zm ?_
    refine AL.nil (th_n (AC.block ?_))
    refine AC.loop (ι := Nat) (fun j => ⟨270, 800, [(1, .d (vB more)), (5, .ptr 200 0), (6, aI k0), (7, .d (vArs W)), (11, aI (atP W j)), (12, aS (bstr (cAtS c (atP W j).toNat))), (78, .d (vArs W)), (79, aI W.length), (80, aI j)], [(200, some (.cells 68 (sgC c)))]⟩) (fun j => j ≤ W.length) (fun j => W.length - j) (0) ?_ (Nat.zero_le _) ?_
    ·exact zw [(200, 200)] hC
    ·intro j hj
     refine AC.seq (AC.region ?_)
     refine zc ?_
     refine AL.nil (th_n (AC.seq ?_))
     refine AC.condD rfl (fun h2 => ?_) (fun h2 => ?_)
     ·refine AC.skip (th_n ?_)
      refine AC.cut (fun (_ : Unit) => ⟨270, 2400, [(1, .d (vB more)), (5, .ptr 200 0), (6, aI k0), (7, .d (vArs W)), (11, aI (atP W (j + 1))), (12, aS (bstr (cAtS c (atP W (j + 1)).toNat))), (78, .d (vArs W)), (79, aI W.length), (80, aI j)], [(200, some (.cells 68 (sgC c)))]⟩) (fun _ => True) ?_ ?_
      ·refine AC.block (AC.seq ?_)
       have hj1 : j < W.length := by omega
       have hget := arL_get hj1
       obtain ⟨⟨hfr, hmem⟩, hlv, hany, hto, hcd, hcl, hsg⟩ := hNx j hj1
       rw [hfr] at hget
       have hAj := hAf (atP W j)
       rw [hlv] at hAj
       have hll := hlll (atP W j)
       have hle : leaveL c (atP W j) = c.arcs.filter (fun v => decide (v.from_ = atP W j)) := rfl
       rw [← hle] at hll
       obtain ⟨V, hV⟩ : ∃ V, V = cAtS c (atP W j).toNat := ⟨_, rfl⟩
       rw [← hV] at hcd hcl ⊢
       rw [hto] at hcd
       obtain ⟨p, hp⟩ : ∃ p, p = atP W j := ⟨_, rfl⟩
       rw [← hp] at hget hAj hany hll hfr ⊢
       obtain ⟨L, hLL⟩ : ∃ L, L = leaveL c p := ⟨_, rfl⟩
       rw [← hLL] at hAj hany hll
       obtain ⟨a, ha⟩ : ∃ a, a = W[j] := ⟨_, rfl⟩
       rw [← ha] at hget hany hto hcd hsg hfr
       have hsu := fun i (hi : i < L.length) => any_take (p := eqArB a) hi
       obtain ⟨M, hM⟩ : ∃ M : Nat → Bool, M = fun i => (L.take i).any (eqArB a) := ⟨_, rfl⟩
       have hMe : ∀ i, (L.take i).any (eqArB a) = M i := fun i => by rw [hM]
       have hM0 : M 0 = false := by rw [hM]; rfl
       have hMl : L.any (eqArB a) = M L.length := by rw [hM]; show _ = (L.take L.length).any _; rw [List.take_length]
       simp only [hMe] at hsu
       rw [hMl] at hany
       clear hM hMe hMl hV hp hLL ha hle hlv
       have hsz := bstr_size V
       have hsi : ¬ a.sig < 0 → a.sig = ((a.sig.toNat : Nat) : Int) ∧ a.sig.toNat < V.length := fun q => by omega
       refine AC.region ?_
       refine AL.p (by exact g_ia_view rfl rfl rfl rfl rfl (by rfl) (by assumption)) rfl ?_
       refine AL.p (by exact g_load_refN rfl rfl rfl rfl) rfl ?_
       refine AL.q (by exact h_alloc rfl) rfl ?_
       refine zs ?_
       refine AL.nil (th_n (AC.seq (AC.region ?_)))
       refine AL.p (by exact g_load_ptrN rfl rfl rfl rfl rfl) rfl ?_
       refine zm ?_
       refine AL.q (by exact h_pure en_iArcsFrom rfl rfl (by repeat (first | exact rfl | exact DLead.same | refine ⟨_, _, rfl, ?_, ?_⟩ | refine ⟨_, rfl, ?_⟩)) hAj rfl) rfl ?_
       refine AL.p (by exact mv5 rfl) rfl ?_
       refine AL.p (by exact g_extract (r := .d _) rfl rfl) rfl ?_
       refine AL.p (by exact g_extract (r := .d _) rfl rfl) rfl ?_
       refine za ?_
       refine za ?_
       refine AL.nil (th_n (AC.seq (AC.region ?_)))
       refine za ?_
       refine AL.nil (th_n (AC.seq (AC.seq (AC.region ?_))))
       refine zm ?_
       refine AL.p (by exact g_len_view (k := L.length) rfl rfl (arL_len _)) rfl ?_
       refine zm ?_
       refine AL.nil (th_n (AC.block ?_))
       refine AC.loop (ι := Nat) (fun i => ⟨270, 1100, [(1, .d (vB more)), (5, .ptr 200 0), (6, aI k0), (7, .d (vArs W)), (11, aI p), (12, aS (bstr V)), (14, .ptr 201 0), (16, aT true), (17, aT (M i)), (78, .d (vArs W)), (79, aI W.length), (80, aI j), (90, .d (vArs L)), (91, aI L.length), (92, aI i)], [(200, some (.cells 68 (sgC c))), (201, some (.cells 75 [aI p, aI a.sig, aT a.up, aI a.to_]))]⟩) (fun i => i ≤ L.length) (fun i => L.length - i) (0) ?_ (Nat.zero_le _) ?_
       ·exact Weak.ren _ [(200, 200), (201, _)] hC rfl (by rw [hM0]; repeat (first | exact True.intro | refine And.intro ?_ ?_ | exact DLead.same | exact rfl | refine ⟨_, rfl, ?_⟩)) (by repeat (first | exact True.intro | refine And.intro ?_ ?_ | exact DLead.same | exact rfl | refine ⟨_, _, rfl, rfl, ?_⟩ | refine ⟨_, rfl, ?_⟩ | refine ⟨_, _, rfl, ?_, ?_⟩)) rfl rfl rfl
       ·intro i hi
        refine AC.seq (AC.region ?_)
        refine zc ?_
        refine AL.nil (th_n (AC.seq ?_))
        refine AC.condD rfl (fun h3 => ?_) (fun h3 => ?_)
        ·refine AC.skip (th_n (AC.seq (AC.block (AC.seq ?_))))
         have hi1 : i < L.length := by omega
         have hget2 := arL_get hi1
         have hsi := hsu i hi1
         obtain ⟨y, hy⟩ : ∃ y, y = L[i] := ⟨_, rfl⟩
         rw [← hy] at hget2 hsi
         obtain ⟨m, hm⟩ : ∃ m, m = M i := ⟨_, rfl⟩
         rw [← hm] at hsi ⊢
         clear hm hy
         have hsi2 : M (i + 1) = (m || decide (p = y.from_ ∧ a.sig = y.sig ∧ a.up = y.up ∧ a.to_ = y.to_)) := by rw [hsi]; unfold eqArB; rw [hfr]
         refine AC.region ?_
         refine AL.p (by exact g_ia_view rfl rfl rfl rfl rfl (by rfl) (by assumption)) rfl ?_
         refine AL.p (by exact g_load_refN rfl rfl rfl rfl) rfl ?_
         refine AL.q (by exact h_alloc rfl) rfl ?_
         refine zs ?_
         refine AL.nil (th_n (AC.region ?_))
         refine zm ?_
         refine zm ?_
         refine AL.caseGB rfl rfl (fun h4 => ?_) (fun h4 => ?_)
         ·refine zn ?_
          refine zn ?_
          refine zn ?_
          refine zQ ?_
          refine za ?_
          refine AL.nil (ib_n (th_n (AC.region ?_)))
          refine zA ?_
          refine zm ?_
          refine AL.nil (th_n ?_)
          (have q := ‹m = true›; rw [q, Bool.true_or] at hsi2; exact ⟨i + 1, by omega, by omega, Weak.ren _ [(200, 200), (201, 201)] hC rfl (by rw [hsi2]; repeat (first | exact True.intro | refine And.intro ?_ ?_ | exact DLead.same | exact rfl | refine ⟨_, rfl, ?_⟩)) (by repeat (first | exact True.intro | refine And.intro ?_ ?_ | exact DLead.same | exact rfl | refine ⟨_, _, rfl, rfl, ?_⟩ | refine ⟨_, rfl, ?_⟩ | refine ⟨_, _, rfl, ?_, ?_⟩)) rfl rfl rfl⟩)
         ·refine zy ?_
          refine AL.p (by exact g_load_ptrN rfl rfl rfl rfl rfl) rfl ?_
          refine zy ?_
          refine AL.p (by exact g_load_ptrN rfl rfl rfl rfl rfl) rfl ?_
          refine zy ?_
          refine AL.p (by exact g_eq4 (r := decide (p = y.from_ ∧ a.sig = y.sig ∧ a.up = y.up ∧ a.to_ = y.to_)) (by decide +kernel) rfl rfl rfl) rfl ?_
          refine zP ?_
          refine za ?_
          refine AL.nil (ib_n (th_n (AC.region ?_)))
          refine zA ?_
          refine zm ?_
          refine AL.nil (th_n ?_)
          (have q := ‹m = false›; rw [q, Bool.false_or] at hsi2; exact ⟨i + 1, by omega, by omega, Weak.ren _ [(200, 200), (201, 201)] hC rfl (by rw [hsi2]; repeat (first | exact True.intro | refine And.intro ?_ ?_ | exact DLead.same | exact rfl | refine ⟨_, rfl, ?_⟩)) (by repeat (first | exact True.intro | refine And.intro ?_ ?_ | exact DLead.same | exact rfl | refine ⟨_, _, rfl, rfl, ?_⟩ | refine ⟨_, rfl, ?_⟩ | refine ⟨_, _, rfl, ?_, ?_⟩)) rfl rfl rfl⟩)
        ·refine AC.exit (th_e (th_e (ib_y (th_n (AC.seq (AC.seq ?_))))))
         have hii : i = L.length := by omega
         rw [hii, hany]
         refine AC.region ?_
         refine zm ?_
         refine AL.p (by exact g_not rfl) rfl ?_
         refine zm ?_
         refine zy ?_
         refine zm ?_
         refine zy ?_
         refine AL.p (by exact g_not rfl) rfl ?_
         refine zP ?_
         refine zm ?_
         refine zy ?_
         refine zF ?_
         refine zy ?_
         refine zl ?_
         refine zy ?_
         refine zm ?_
         refine zy ?_
         refine AL.p (by exact g_neIr rfl rfl rfl) rfl ?_
         refine zP ?_
         refine AL.nil (th_n ?_)
         refine AC.condF rfl ?_
         refine AC.skip (th_n (AC.seq (AC.region ?_)))
         refine zF ?_
         refine zl ?_
         refine za ?_
         refine AL.nil (th_n (AC.seq ?_))
         refine AC.weak (t := ⟨270, 1500, [(1, .d (vB more)), (5, .ptr 200 0), (6, aI k0), (7, .d (vArs W)), (11, aI a.to_), (12, aS (bstr V)), (14, .ptr 201 0), (78, .d (vArs W)), (79, aI W.length), (80, aI j)], [(200, some (.cells 68 (sgC c))), (201, some (.cells 75 [aI p, aI a.sig, aT a.up, aI a.to_]))]⟩) (zw [(200, 200), (201, 201)] hC) ?_
         refine AC.region ?_
         refine zF ?_
         refine zl ?_
         refine zc ?_
         refine zm ?_
         refine AL.caseG rfl rfl (fun h4 => ?_) (fun h4 => ?_)
         ·refine zy ?_
          refine zF ?_
          refine zy ?_
          refine zl ?_
          refine zy ?_
          refine zm ?_
          refine zy ?_
          refine AL.p (by exact g_len_str rfl rfl hsz) rfl ?_
          refine zy ?_
          refine zc ?_
          refine zQ ?_
          refine AL.nil (th_n ?_)
          refine AC.condD rfl (fun h5 => ?_) (fun h5 => ?_)
          ·refine AC.seq ?_
           have hq0 : ¬ a.sig < 0 := by omega
           rw [if_neg hq0] at hcd
           obtain ⟨hse, hsl⟩ := hsi hq0
           obtain ⟨g, hg⟩ : ∃ g, g = a.sig.toNat := ⟨_, rfl⟩
           rw [← hg] at hse hsl hcd
           rw [hse]
           have hx1 : (bstr V).extract 0 g = bstr (V.take g) := by rw [bstr_cut V (Nat.zero_le _) (by omega)]; simp
           have hx2 : (bstr V).extract (g + 1) (bstr V).size = bstr (V.drop (g + 1)) := by rw [hsz, bstr_cut V (by omega) (Nat.le_refl _), List.take_length]
           have hs1 : (bstr (V.take g)).size = g := by rw [bstr_size, List.length_take]; omega
           have hs3 : (bstr (V.drop (g + 1))).size = V.length - (g + 1) := by rw [bstr_size, List.length_drop]
           have hsp := fun b => set_parts (b := b) hsl
           have hcsz := hL.sg
           refine AC.region ?_
           refine za ?_
           refine AL.nil (th_n ?_)
           refine AC.cut (fun (_ : Unit) => ⟨270, 1700, [(1, .d (vB more)), (5, .ptr 200 0), (6, aI k0), (7, .d (vArs W)), (11, aI a.to_), (12, aS (bstr V)), (14, .ptr 201 0), (20, aS (bstr [bitLb a.up])), (78, .d (vArs W)), (79, aI W.length), (80, aI j)], [(200, some (.cells 68 (sgC c))), (201, some (.cells 75 [aI p, aI (g : Int), aT a.up, aI a.to_]))]⟩) (fun _ => True) ?_ ?_
           ·refine AC.seq (AC.region ?_)
            refine zF ?_
            refine zl ?_
            refine AL.nil (th_n ?_)
            refine AC.condB rfl (fun h6 => ?_) (fun h6 => ?_)
            ·refine AC.region ?_
             refine za ?_
             refine AL.nil (th_n ?_)
             (have q := ‹a.up = true›; exact ⟨(), trivial, Weak.ren _ [(200, 200), (201, 201)] hC rfl (by rw [q]; repeat (first | exact True.intro | refine And.intro ?_ ?_ | exact DLead.same | exact rfl | refine ⟨_, rfl, ?_⟩)) (by repeat (first | exact True.intro | refine And.intro ?_ ?_ | exact DLead.same | exact rfl | refine ⟨_, _, rfl, rfl, ?_⟩ | refine ⟨_, rfl, ?_⟩ | refine ⟨_, _, rfl, ?_, ?_⟩)) rfl rfl rfl⟩)
            ·refine AC.skip (th_n ?_)
             (have q := ‹a.up = false›; exact ⟨(), trivial, Weak.ren _ [(200, 200), (201, 201)] hC rfl (by rw [q]; repeat (first | exact True.intro | refine And.intro ?_ ?_ | exact DLead.same | exact rfl | refine ⟨_, rfl, ?_⟩)) (by repeat (first | exact True.intro | refine And.intro ?_ ?_ | exact DLead.same | exact rfl | refine ⟨_, _, rfl, rfl, ?_⟩ | refine ⟨_, rfl, ?_⟩ | refine ⟨_, _, rfl, ?_, ?_⟩)) rfl rfl rfl⟩)
           ·intro _ _
            have hs2 : (bstr [bitLb a.up]).size = 1 := rfl
            refine AC.drawn' mixed_ok [[], [], [1], [0,1,2], [], [0,1,2,3,4], [], [], [7], [7,8], [6,7,8,9], [0,1,2,3,4,5,6,7,8,9,10], [0,1,2,3,4,5,6,7,8,9,10,11]] (by decide) ?_
            refine DF.op 0 [] 13 rfl rfl rfl (.free rfl (NOp.of (by exact mv1 rfl))) rfl ?_
            refine DF.op 1 [] 13 rfl rfl rfl (.free rfl (NOp.of (by exact g_fa_ptr rfl rfl rfl rfl rfl))) rfl ?_
            refine DF.op 2 [1] 13 rfl rfl rfl (.free rfl (NOp.of (by exact g_load_ptr rfl rfl rfl rfl rfl))) rfl ?_
            refine DF.op 3 [0,1,2] 13 rfl rfl rfl (.free rfl (NOp.of (by exact g_slice_str (h := g) rfl rfl .none (.some rfl rfl) (Nat.zero_le _) (by omega) hx1))) rfl ?_
            refine DF.op 4 [] 13 rfl rfl rfl (.free rfl (NOp.of (by exact mv1 rfl))) rfl ?_
            refine DF.op 5 [0,1,2,3,4] 13 rfl rfl rfl (.free rfl (NOp.of (by exact g_sadd rfl rfl (by omega)))) rfl ?_
            refine DF.op 6 [] 13 rfl rfl rfl (.free rfl (NOp.of (by exact mv1 rfl))) rfl ?_
            refine DF.op 7 [] 13 rfl rfl rfl (.free rfl (NOp.of (by exact g_fa_ptr rfl rfl rfl rfl rfl))) rfl ?_
            refine DF.op 8 [7] 13 rfl rfl rfl (.free rfl (NOp.of (by exact g_load_ptr rfl rfl rfl rfl rfl))) rfl ?_
            refine DF.op 9 [7,8] 13 rfl rfl rfl (.free rfl (NOp.of (by exact g_arith rfl rfl rfl (by exact wrap_i64 (by omega))))) rfl ?_
            refine DF.op 10 [6,7,8,9] 13 rfl rfl rfl (.free rfl (NOp.of (by exact g_slice_str (l := g + 1) rfl rfl (.some rfl rfl) .none (by omega) (Nat.le_refl _) hx2))) rfl ?_
            refine DF.op 11 (List.range 11) 13 rfl rfl rfl (.free rfl (NOp.of (by exact g_sadd rfl rfl (by rw [ByteArray.size_append]; omega)))) rfl ?_
            refine DF.op 12 (List.range 12) 13 rfl rfl rfl (.free rfl (NOp.of (by exact as1 rfl))) rfl ?_
            refine DF.fin (ps := [(0,1),(0,2),(0,4),(0,6),(0,7),(0,8),(0,9),(0,10),(1,0),(1,4),(1,6),(1,7),(1,8),(1,9),(1,10),(2,0),(2,4),(2,6),(2,7),(2,8),(2,9),(2,10),(3,4),(3,6),(3,7),(3,8),(3,9),(3,10),(4,0),(4,1),(4,2),(4,3),(4,6),(4,7),(4,8),(4,9),(4,10),(5,6),(5,7),(5,8),(5,9),(5,10),(6,0),(6,1),(6,2),(6,3),(6,4),(6,5),(6,7),(6,8),(6,9),(7,0),(7,1),(7,2),(7,3),(7,4),(7,5),(7,6),(8,0),(8,1),(8,2),(8,3),(8,4),(8,5),(8,6),(9,0),(9,1),(9,2),(9,3),(9,4),(9,5),(9,6),(10,0),(10,1),(10,2),(10,3),(10,4),(10,5)]) 13 rfl (by decide +kernel) (by decide +kernel) (by rfl) ?_
            refine ib_n (th_n ?_)
            (have q := ‹¬ a.sig < 0›; have q2 := hsp (bitLb a.up); exact ⟨(), trivial, Weak.ren _ [(200, 200)] hC rfl (by rw [hto, hcd, ← hsp]; repeat (first | exact True.intro | refine And.intro ?_ ?_ | exact DLead.same | exact rfl | refine ⟨_, rfl, ?_⟩)) (by repeat (first | exact True.intro | refine And.intro ?_ ?_ | exact DLead.same | exact rfl | refine ⟨_, _, rfl, rfl, ?_⟩ | refine ⟨_, rfl, ?_⟩ | refine ⟨_, _, rfl, ?_, ?_⟩)) rfl rfl rfl⟩)
          ·refine AC.skip (ib_n (th_n ?_))
           (exfalso; omega)
         ·refine zn ?_
          refine zn ?_
          refine zn ?_
          refine zn ?_
          refine zn ?_
          refine zP ?_
          refine AL.nil (th_n ?_)
          refine AC.condF rfl ?_
          refine AC.skip (ib_n (th_n ?_))
          (have q : a.sig < 0 := (by omega); rw [if_pos q] at hcd; exact ⟨(), trivial, Weak.ren _ [(200, 200)] hC rfl (by rw [hto, hcd]; repeat (first | exact True.intro | refine And.intro ?_ ?_ | exact DLead.same | exact rfl | refine ⟨_, rfl, ?_⟩)) (by repeat (first | exact True.intro | refine And.intro ?_ ?_ | exact DLead.same | exact rfl | refine ⟨_, _, rfl, rfl, ?_⟩ | refine ⟨_, rfl, ?_⟩ | refine ⟨_, _, rfl, ?_, ?_⟩)) rfl rfl rfl⟩)
      ·intro _ _
       refine AC.region ?_
       refine zA ?_
       refine zm ?_
       refine AL.nil (th_n ?_)
       exact ⟨j + 1, by omega, by omega, zw [(200, 200)] hC⟩
     ·refine AC.exit (th_e (th_e (ib_y (th_n (AC.seq ?_)))))
      have hjj : j = W.length := by omega
      rw [hjj, hEnd]
      rw [show ((k0 : Int)).toNat = k0 from Int.toNat_natCast _]
      refine AC.region ?_
      refine AL.p (by exact g_load_ptrN rfl rfl rfl rfl rfl) rfl ?_
      refine zm ?_
      refine AL.q (by exact h_pure en_iFmt rfl rfl (by repeat (first | exact rfl | exact DLead.same | refine ⟨_, _, rfl, ?_, ?_⟩ | refine ⟨_, rfl, ?_⟩)) hFm rfl) rfl ?_
      refine AL.p (by exact mv5 rfl) rfl ?_
      refine AL.p (by exact g_extract (r := .d _) rfl rfl) rfl ?_
      refine AL.p (by exact g_extract (r := .d _) rfl rfl) rfl ?_
      refine za ?_
      refine za ?_
      refine AL.nil (th_n (AC.seq (AC.region ?_)))
      refine AL.p (by exact g_load_ptrN rfl rfl rfl rfl rfl) rfl ?_
      refine zm ?_
      refine AL.q (by exact h_pure en_iStates rfl rfl (by repeat (first | exact rfl | exact DLead.same | refine ⟨_, _, rfl, ?_, ?_⟩ | refine ⟨_, rfl, ?_⟩)) hSt rfl) rfl ?_
      refine AL.p (by exact mv5 rfl) rfl ?_
      refine AL.p (by exact g_extract (r := .d _) rfl rfl) rfl ?_
      refine AL.p (by exact g_extract (r := .d _) rfl rfl) rfl ?_
      refine za ?_
      refine za ?_
      refine AL.nil (th_n (AC.seq (AC.region ?_)))
      refine zm ?_
      refine zm ?_
      refine AL.p (by exact g_neIr rfl rfl rfl) rfl ?_
      refine zm ?_
      refine zy ?_
      refine zm ?_
      refine zy ?_
      refine zF ?_
      refine zy ?_
      refine zl ?_
      refine zy ?_
      refine zm ?_
      refine zy ?_
      refine AL.p (by exact g_ia_view (i := k0) rfl rfl rfl rfl rfl rfl hgk) rfl ?_
      refine zy ?_
      refine zr ?_
      refine zy ?_
      refine AL.p (by exact g_neSr rfl rfl rfl) rfl ?_
      refine zP ?_
      refine zm ?_
      refine zy ?_
      refine zm ?_
      refine zy ?_
      refine AL.p (by exact g_not rfl) rfl ?_
      refine zP ?_
      refine zm ?_
      refine zy ?_
      refine zm ?_
      refine zy ?_
      refine AL.p (by exact g_scmp (r := decide ((W.length : Int) = 0)) rfl rfl (by show some (decide (bstr T = ⟨#[]⟩)) = _; rw [hTe])) rfl ?_
      refine zy ?_
      refine zm ?_
      refine zy ?_
      refine AL.p (by exact g_len_view (k := W.length) rfl rfl (arL_len _)) rfl ?_
      refine zy ?_
      refine zc ?_
      refine zy ?_
      refine AL.p (by exact g_neBr rfl rfl rfl) rfl ?_
      refine zP ?_
      refine zm ?_
      refine zy ?_
      refine zm ?_
      refine zy ?_
      refine AL.p (by exact g_not rfl) rfl ?_
      refine zP ?_
      refine zm ?_
      refine zy ?_
      refine zm ?_
      refine zy ?_
      refine zm ?_
      refine zy ?_
      refine AL.q (by exact h_pure en_lhas rfl rfl (by repeat (first | exact rfl | exact DLead.same | refine ⟨_, _, rfl, ?_, ?_⟩)) hLh rfl) rfl ?_
      refine zy ?_
      refine AL.p (by exact g_not rfl) rfl ?_
      refine zP ?_
      refine AL.nil (th_n ?_)
      refine AC.condF rfl ?_
      refine AC.skip (th_n ?_)
      exact ⟨(), trivial, Weak.ren _ [] hC rfl (by repeat (first | exact True.intro | refine And.intro ?_ ?_ | exact DLead.same)) (by repeat (exact True.intro)) rfl rfl rfl⟩
   ·refine AC.skip (th_n ?_)
    exact ⟨(), trivial, Weak.ren _ [] hC rfl (by repeat (first | exact True.intro | refine And.intro ?_ ?_ | exact DLead.same)) (by repeat (exact True.intro)) rfl rfl rfl⟩
  ·intro _ _
   refine AC.seq (AC.region ?_)
   refine zm ?_
   refine AL.r (by exact h_funR (cs := []) en_sDrawArcsFrom rfl rfl (by repeat (first | exact rfl | exact DLead.same | refine ⟨_, _, rfl, ?_, ?_⟩)) (by repeat (exact True.intro)) hD2 rfl rfl rfl) rfl ?_
   rintro _ ⟨_, _, ⟨a, i, ⟨has, hi⟩, rfl, rfl⟩, rfl⟩
   refine AL.p (by exact mv5 rfl) rfl ?_
   refine AL.p (by exact g_extract (r := .agg _) rfl rfl) rfl ?_
   refine AL.p (by exact g_extract (r := .d _) rfl rfl) rfl ?_
   refine AL.q (by exact h_alloc rfl) rfl ?_
   refine zs ?_
   refine za ?_
   refine AL.nil (th_n (AC.seq ?_))
   have haL := has.L (by omega)
   have hf1 := iArcsFrom_spec a i haL
   have hf2 := sArcsFrom_spec a i haL
   have hfl := leaveR_len a i haL
   have hSm := pSameArcs_spec (leaveR a i).1 (leaveR a i).1 hfl hfl
   rw [eqAL_self] at hSm
   obtain ⟨F, hF⟩ : ∃ F, F = leaveR a i := ⟨_, rfl⟩
   rw [← hF] at hf1 hf2 hSm
   clear hF hfl
   refine AC.weak (t := ⟨270, 2300, [(1, .d (vB more)), (25, .ptr 200 0), (26, aI i)], [(200, some (.cells 68 (sgC a)))]⟩) (zw [(200, _)] hC) ?_
   refine AC.region ?_
   refine AL.p (by exact g_load_ptrN rfl rfl rfl rfl rfl) rfl ?_
   refine zm ?_
   refine AL.q (by exact h_pure en_iArcsFrom rfl rfl (by repeat (first | exact rfl | exact DLead.same | refine ⟨_, _, rfl, ?_, ?_⟩ | refine ⟨_, rfl, ?_⟩)) hf1 rfl) rfl ?_
   refine AL.p (by exact mv5 rfl) rfl ?_
   refine AL.p (by exact g_extract (r := .d _) rfl rfl) rfl ?_
   refine AL.p (by exact g_extract (r := .d _) rfl rfl) rfl ?_
   refine za ?_
   refine za ?_
   refine AL.nil (th_n (AC.seq (AC.region ?_)))
   refine AL.p (by exact g_load_ptrN rfl rfl rfl rfl rfl) rfl ?_
   refine zm ?_
   refine AL.q (by exact h_pure en_sArcsFrom rfl rfl (by repeat (first | exact rfl | exact DLead.same | refine ⟨_, _, rfl, ?_, ?_⟩ | refine ⟨_, rfl, ?_⟩)) hf2 rfl) rfl ?_
   refine AL.p (by exact mv5 rfl) rfl ?_
   refine AL.p (by exact g_extract (r := .d _) rfl rfl) rfl ?_
   refine AL.p (by exact g_extract (r := .d _) rfl rfl) rfl ?_
   refine za ?_
   refine za ?_
   refine AL.nil (th_n (AC.seq ?_))
   refine AC.weak (t := ⟨270, 2600, [(1, .d (vB more)), (27, .d (vArs F.1)), (28, aT F.2), (29, .d (vArs F.1)), (30, aT F.2)], []⟩) (Weak.ren _ [] hC rfl (by repeat (first | exact True.intro | refine And.intro ?_ ?_ | exact DLead.same)) (by repeat (exact True.intro)) rfl rfl rfl) ?_
   refine AC.region ?_
   refine zm ?_
   refine AL.r (by exact h_funR (cs := []) en_sDrawIsExc rfl rfl (by repeat (first | exact rfl | exact DLead.same | refine ⟨_, _, rfl, ?_, ?_⟩)) (by repeat (exact True.intro)) hD3 rfl rfl rfl) rfl ?_
   rintro _ ⟨_, _, ⟨b, j, g, ⟨hbs, hj, hg⟩, rfl, rfl⟩, rfl⟩
   refine AL.p (by exact mv5 rfl) rfl ?_
   refine AL.p (by exact g_extract (r := .agg _) rfl rfl) rfl ?_
   refine AL.p (by exact g_extract (r := .d _) rfl rfl) rfl ?_
   refine AL.p (by exact g_extract (r := .d _) rfl rfl) rfl ?_
   refine AL.q (by exact h_alloc rfl) rfl ?_
   refine zs ?_
   refine za ?_
   refine za ?_
   refine AL.nil (th_n (AC.seq ?_))
   have hbL := hbs.L (by omega)
   have he1 := iIsExc_spec b j g hbL
   have he2 := sIsExc_spec b j g hbL
   obtain ⟨X, hX⟩ : ∃ X, X = excR b j g := ⟨_, rfl⟩
   rw [← hX] at he1 he2
   clear hX
   refine AC.weak (t := ⟨270, 3000, [(1, .d (vB more)), (27, .d (vArs F.1)), (28, aT F.2), (29, .d (vArs F.1)), (30, aT F.2), (31, .ptr 200 0), (32, aI j), (33, aI g)], [(200, some (.cells 68 (sgC b)))]⟩) (zw [(200, _)] hC) ?_
   refine AC.region ?_
   refine AL.p (by exact g_load_ptrN rfl rfl rfl rfl rfl) rfl ?_
   refine zm ?_
   refine zm ?_
   refine AL.q (by exact h_pure en_iIsExc rfl rfl (by repeat (first | exact rfl | exact DLead.same | refine ⟨_, _, rfl, ?_, ?_⟩ | refine ⟨_, rfl, ?_⟩)) he1 rfl) rfl ?_
   refine AL.p (by exact mv5 rfl) rfl ?_
   refine AL.p (by exact g_extract (r := .d _) rfl rfl) rfl ?_
   refine AL.p (by exact g_extract (r := .d _) rfl rfl) rfl ?_
   refine za ?_
   refine za ?_
   refine AL.nil (th_n (AC.seq (AC.region ?_)))
   refine AL.p (by exact g_load_ptrN rfl rfl rfl rfl rfl) rfl ?_
   refine zm ?_
   refine zm ?_
   refine AL.q (by exact h_pure en_sIsExc rfl rfl (by repeat (first | exact rfl | exact DLead.same | refine ⟨_, _, rfl, ?_, ?_⟩ | refine ⟨_, rfl, ?_⟩)) he2 rfl) rfl ?_
   refine AL.p (by exact mv5 rfl) rfl ?_
   refine AL.p (by exact g_extract (r := .d _) rfl rfl) rfl ?_
   refine AL.p (by exact g_extract (r := .d _) rfl rfl) rfl ?_
   refine za ?_
   refine za ?_
   refine AL.nil (th_n (AC.seq ?_))
   refine AC.weak (t := ⟨270, 3600, [(1, .d (vB more)), (27, .d (vArs F.1)), (28, aT F.2), (29, .d (vArs F.1)), (30, aT F.2), (34, aT X.1), (35, aT X.2), (36, aT X.1), (37, aT X.2)], []⟩) (Weak.ren _ [] hC rfl (by repeat (first | exact True.intro | refine And.intro ?_ ?_ | exact DLead.same)) (by repeat (exact True.intro)) rfl rfl rfl) ?_
   refine AC.region ?_
   refine zm ?_
   refine AL.r (by exact h_funR (cs := []) en_sDrawStates rfl rfl (by repeat (first | exact rfl | exact DLead.same | refine ⟨_, _, rfl, ?_, ?_⟩)) (by repeat (exact True.intro)) hD4 rfl rfl rfl) rfl ?_
   rintro _ ⟨_, _, ⟨d, w, ⟨hds, hw⟩, rfl, rfl⟩, rfl⟩
   refine AL.p (by exact mv5 rfl) rfl ?_
   refine AL.p (by exact g_extract (r := .agg _) rfl rfl) rfl ?_
   refine AL.p (by exact g_extract (r := .d _) rfl rfl) rfl ?_
   refine AL.q (by exact h_alloc rfl) rfl ?_
   refine zs ?_
   refine za ?_
   refine AL.nil (th_n (AC.seq ?_))
   have hdL := hds.L (by omega)
   have hs1 := iStates_spec d w hdL
   have hs2 := sStates_spec d w hdL
   have hwl := withR_len d w hdL
   have hSI := sameInts_spec (withR d w).1 (withR d w).1 hwl hwl
   rw [decide_eq_true rfl] at hSI
   obtain ⟨Y, hY⟩ : ∃ Y, Y = withR d w := ⟨_, rfl⟩
   rw [← hY] at hs1 hs2 hSI
   clear hY hwl
   refine AC.weak (t := ⟨270, 4000, [(27, .d (vArs F.1)), (28, aT F.2), (29, .d (vArs F.1)), (30, aT F.2), (34, aT X.1), (35, aT X.2), (36, aT X.1), (37, aT X.2), (38, .ptr 200 0), (39, aS (bstr w))], [(200, some (.cells 68 (sgC d)))]⟩) (zw [(200, _)] hC) ?_
   refine AC.region ?_
   refine AL.p (by exact g_load_ptrN rfl rfl rfl rfl rfl) rfl ?_
   refine zm ?_
   refine AL.q (by exact h_pure en_iStates rfl rfl (by repeat (first | exact rfl | exact DLead.same | refine ⟨_, _, rfl, ?_, ?_⟩ | refine ⟨_, rfl, ?_⟩)) hs1 rfl) rfl ?_
   refine AL.p (by exact mv5 rfl) rfl ?_
   refine AL.p (by exact g_extract (r := .d _) rfl rfl) rfl ?_
   refine AL.p (by exact g_extract (r := .d _) rfl rfl) rfl ?_
   refine za ?_
   refine za ?_
   refine AL.nil (th_n (AC.seq (AC.region ?_)))
   refine AL.p (by exact g_load_ptrN rfl rfl rfl rfl rfl) rfl ?_
   refine zm ?_
   refine AL.q (by exact h_pure en_sStates rfl rfl (by repeat (first | exact rfl | exact DLead.same | refine ⟨_, _, rfl, ?_, ?_⟩ | refine ⟨_, rfl, ?_⟩)) hs2 rfl) rfl ?_
   refine AL.p (by exact mv5 rfl) rfl ?_
   refine AL.p (by exact g_extract (r := .d _) rfl rfl) rfl ?_
   refine AL.p (by exact g_extract (r := .d _) rfl rfl) rfl ?_
   refine za ?_
   refine za ?_
   refine AL.nil (th_n (AC.seq (AC.region ?_)))
   refine zm ?_
   refine zm ?_
   refine AL.p (by exact g_eqBr rfl rfl rfl) rfl ?_
   refine zm ?_
   refine zy ?_
   refine zm ?_
   refine zy ?_
   refine zm ?_
   refine zy ?_
   refine AL.q (by exact h_pure en_pSameArcs rfl rfl (by repeat (first | exact rfl | exact DLead.same | refine ⟨_, _, rfl, ?_, ?_⟩)) hSm rfl) rfl ?_
   refine zQ ?_
   refine zm ?_
   refine zy ?_
   refine zm ?_
   refine zy ?_
   refine zm ?_
   refine zy ?_
   refine AL.p (by exact g_eqBr rfl rfl rfl) rfl ?_
   refine zQ ?_
   refine zm ?_
   refine zy ?_
   refine zm ?_
   refine zy ?_
   refine zm ?_
   refine zy ?_
   refine AL.p (by exact g_eqBr rfl rfl rfl) rfl ?_
   refine zQ ?_
   refine zm ?_
   refine zy ?_
   refine zm ?_
   refine zy ?_
   refine zm ?_
   refine zy ?_
   refine AL.p (by exact g_eqBr rfl rfl rfl) rfl ?_
   refine zQ ?_
   refine zm ?_
   refine zy ?_
   refine zm ?_
   refine zy ?_
   refine zm ?_
   refine zy ?_
   refine AL.q (by exact h_pure en_sameInts rfl rfl (by repeat (first | exact rfl | exact DLead.same | refine ⟨_, _, rfl, ?_, ?_⟩)) hSI rfl) rfl ?_
   refine zQ ?_
   refine za ?_
   refine AL.nil (th_n (AC.ret (bq_r ?_)))
   exact ret1 rfl rfl
end Go.Proofs.YthafkkgmekgmoaaGreat
