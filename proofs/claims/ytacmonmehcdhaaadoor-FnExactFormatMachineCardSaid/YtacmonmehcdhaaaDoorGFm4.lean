/- Contracts of the functions of the program and of the reference, each proved by a walk through its code. -/
import Derived.WalkKit
import Derived.WalkSpells
import Derived.WalkLawsBesides
import Derived.Deep.Draws
import Derived.Lib.Hide
import Derived.Maps.AppendAt
import Derived.OwnWalk
import Derived.Deep.MidRow
import Derived.Laws.ResultCell
import Derived.Deep.Upon
import Derived.Great.FillDense
import Derived.Laws.Tables
import Derived.Laws.BytesArg
import Derived.Laws.MakeOwn
import Derived.Great.BuildSlice
import Derived.ArgAppend
import Derived.Deep.AppendSrc
import Derived.Test.YtacmonmehcdhaaaDoorProg
import Derived.KernelRfl
import Derived.Orders
import Derived.Laws.IdiomStrings
import Derived.Lib.AppendZerosOnto
import Derived.ProofKit
import Derived.OpenShut
import Derived.Laws.StructEq
import Derived.ChangeKeysEq
import Derived.Sort.Grow
import Derived.Shelf.Strings.Builder1
import Derived.Shelf.Strings.Builder2
import Derived.Shelf.Strings.OnBuilder
import Derived.Shelf.Strconv.Itoa0
import Derived.Shelf.Strconv.Itoa1
import Derived.Shelf.LaysM
import Derived.Shelf.Strconv.Itoa2
import Derived.Shelf.Strconv.Itoa3
import Derived.Test.YtacmonmehcdhaaaDoorRows
import Derived.Test.YtacmonmehcdhaaaDoorChecked
import Derived.Test.YtacmonmehcdhaaaDoorGFm3
set_option linter.all false
set_option maxRecDepth 20000
namespace Go.Proofs.YtacmonmehcdhaaaDoor
open Go.RowKit

def intBool (P : Program) (t : Nat) : Bool :=
  match P.underlying t with
  | some (.struct fs) =>
    !P.stoodInHeld t && !P.eqGuardType P.depth t &&
      match fs.toList with
      | [f, g] => f.name != "_" && g.name != "_" && f.offset == 0 && g.offset == 1 &&
        (match P.underlying f.type with | some (.int _) => true | _ => false) && (match P.underlying g.type with | some .bool => true | _ => false) && P.plainKey f.type && P.plainKey g.type
      | _ => false
  | _ => false
section
variable {P : Program} [PT P]
variable {s : ASt} {dst : Option Nat} {ty : Nat} {pos : String} {af : Array Edge} {gd : Option (Nat × Bool)} {x y : Operand} {xt yt : Nat}
theorem equalIB {t : Nat} {a c : Int} {b d : Bool} (h : intBool P t = true) (w : World) : (Op.equalIn 10000 t (.agg #[.int .i64 a, .bool b]) (.agg #[.int .i64 c, .bool d])).run P w = .ok (decide (a = c ∧ b = d)) w ∧ P.eqGuardType P.depth t = false := by
  unfold intBool at h
  split at h
  · rename_i fs hu
    simp only [Bool.and_eq_true, Bool.not_eq_true'] at h
    obtain ⟨⟨h1, h2⟩, h3⟩ := h
    refine ⟨?_, h2⟩
    have hF : P.fieldsOf t = fs := by unfold Program.fieldsOf; rw [hu]
    rw [run_equalIn_agg w 9999 t _ _ (by rw [hF]; exact hu) h1, hF]
    split at h3
    · rename_i f g he
      rw [he]
      simp only [Bool.and_eq_true, bne_iff_ne, ne_eq, beq_iff_eq] at h3
      obtain ⟨⟨⟨⟨⟨⟨⟨n1, n2⟩, o1⟩, o2⟩, u1⟩, u2⟩, p1⟩, p2⟩ := h3
      split at u1
      · rename_i k1 hu1
        split at u2
        · rename_i hu2
          simp only [Op.eqFields, ne_eq, n1, n2, not_false_eq_true, if_true, o1, o2, Sem.run_bind]
          rw [run_part_plain (w := w) p1 (v := .int .i64 a) rfl]
          simp only [Result.andThen_ok, Sem.run_bind]
          rw [run_part_plain (w := w) p1 (v := .int .i64 c) rfl]
          simp only [Result.andThen_ok, Sem.run_bind]
          rw [run_equalIn_int w _ _ _ _ _ _ hu1]
          simp only [Result.andThen_ok, Sem.run_ite]
          by_cases e1 : a = c
          · subst e1
            rw [if_neg (by simp)]
            simp only [Sem.run_bind]
            rw [run_part_plain (w := w) p2 (v := .bool b) rfl]
            simp only [Result.andThen_ok, Sem.run_bind]
            rw [run_part_plain (w := w) p2 (v := .bool d) rfl]
            simp only [Result.andThen_ok, Sem.run_bind]
            rw [run_equalIn_bool' w _ _ _ _ hu2]
            simp only [Result.andThen_ok, Sem.run_ite, Sem.run_pure]
            by_cases e2 : b = d
            · subst e2; simp
            · simp [e2]
          · rw [if_pos (by simp [e1])]
            simp [e1]
        · exact absurd u2 (by decide)
      · exact absurd u1 (by decide)
    · exact absurd h3 (by decide)
  · exact absurd h (by decide)
theorem ib_agg {m : Nat → Option (Option Nat × Nat)} {F : Nat → Prop} {w : World} {a : Int} {b : Bool} {v : Value} (h : ARep m F w (.agg [aI a, aT b]) v) : v = .agg #[.int .i64 a, .bool b] := by
  cases h with
  | agg h1 h2 h3 =>
    rename_i vs
    have e0 := h2 0 _ rfl
    have e1 := h2 1 _ rfl
    obtain ⟨e0, -⟩ := e0.val_eq
    obtain ⟨e1, -⟩ := e1.val_eq
    have hsz : vs.size = 2 := h1
    congr 1
    apply Array.ext
    · exact hsz
    · intro i hi hi2
      match i, hi, hi2 with
      | 0, hi, hi2 => rw [Array.getD_eq_getD_getElem?, Array.getElem?_eq_getElem hi] at e0; exact e0
      | 1, hi, hi2 => rw [Array.getD_eq_getD_getElem?, Array.getElem?_eq_getElem hi] at e1; exact e1
      | n + 2, hi, hi2 => omega
theorem g_eqIB {a c : Int} {b d : Bool} {op : BinOp} {r : Bool} (ht : intBool P xt = true) (hx : s.ev x = .agg [aI a, aT b]) (hy : s.ev y = .agg [aI c, aT d]) (hop : eqOf op (decide (a = c ∧ b = d)) = some r) :
    GOp P [] s ⟨dst, .binOp op xt x y yt, ty, pos, af, gd⟩ (aT r) := by
  refine ⟨fun s' ha C U a' w m hR => ?_⟩
  have h1 := hR.ev x
  have h2 := hR.ev y
  rw [ha.2.1 x (by simp [Op.operands]), hx] at h1
  rw [ha.2.1 y (by simp [Op.operands]), hy] at h2
  have e1 := ib_agg h1
  have e2 := ib_agg h2
  obtain ⟨q1, q2⟩ := equalIB (a := a) (b := b) (c := c) (d := d) ht w
  refine ⟨.bool r, ?_, .d (.val trivial)⟩
  simp only [execOp, e1, e2, Sem.run_bind, run_eqGuard_agg w op xt x y _ _ q2, Result.andThen_ok]
  cases op <;> simp only [eqOf, Option.some.injEq, reduceCtorEq] at hop
  · subst hop; rw [run_eql_struct, q1]; rfl
  · subst hop; rw [run_neq_struct, q1]; rfl
end
end Go.Proofs.YtacmonmehcdhaaaDoor

set_option linter.all false
set_option maxRecDepth 20000
namespace Go.Proofs.YtacmonmehcdhaaaDoor
open Go.RowKit

theorem lab_iff {a b : Lab} : a = b ↔ a.sig = b.sig ∧ a.up = b.up := by cases a; cases b; simp
theorem any_succ {α : Type} {p : α → Bool} {l : List α} {k : Nat} (hk : k < l.length) : (l.take (k + 1)).any p = ((l.take k).any p || p l[k]) := by
  rw [List.take_add_one, List.getElem?_eq_getElem hk, List.any_append]; simp
set_option maxHeartbeats 1000000 in
theorem indexLab_spec (l : List Lab) (hl : l.length ≤ 2000000) (v : Lab) : ASpec Tryd.prog 84 [.d (vLabs l), labA v] [] (Pure1 (aI (findI (fun x => decide (v = x)) l))) := by
  refine ASpec.of Tryd.func84 rfl rfl fun C hC => ?_
  refine AC.seq ?_
  refine AC.region ?_
  refine AL.q (by exact h_boxF rfl rfl) rfl ?_
  refine AL.p (by exact as1 rfl) rfl ?_
  refine AL.nil ?_
  refine th_n ?_
  refine AC.seq ?_
  refine AC.seq ?_
  refine AC.region ?_
  refine AL.p (by exact mv1 rfl) rfl ?_
  refine AL.p (by exact g_len_view rfl rfl (by exact List.length_map _)) rfl ?_
  refine AL.p (by exact mv1 rfl) rfl ?_
  refine AL.nil ?_
  refine th_n ?_
  refine AC.block ?_
  refine AC.loop (ι := Nat) (fun k => ⟨19, 0, [(0, .d (vLabs l)), (3, .d (.ref (labD v))), (6, .d (vLabs l)), (7, aI l.length), (8, aI k)], []⟩) (fun k => k ≤ l.length ∧ ∀ j (hj : j < l.length), j < k → (fun x => decide (v = x)) l[j] = false) (fun k => l.length - k) (0) ?_ (⟨Nat.zero_le _, fun j _ hj => by omega⟩) ?_
  · refine Weak.ren _ [] hC rfl ?_ ?_ rfl rfl rfl <;> repeat (first | exact True.intro | refine And.intro ?_ ?_ | exact DLead.same)
  · intro k ⟨hk, hall⟩
    refine AC.seq ?_
    refine AC.region ?_
    refine AL.p (by exact g_cmp rfl rfl rfl) rfl ?_
    refine AL.nil ?_
    refine th_n ?_
    refine AC.seq ?_
    refine AC.condD rfl (fun h0 => ?_) (fun h0 => ?_)
    · refine AC.skip ?_
      refine th_n ?_
      refine AC.seq ?_
      refine AC.block ?_
      refine AC.seq ?_
      have hk1 : k < l.length := by omega
      have hget := labsL_get hk1
      refine AC.region ?_
      refine AL.p (by exact mv1 rfl) rfl ?_
      refine AL.p (by exact as1 rfl) rfl ?_
      refine AL.nil ?_
      refine th_n ?_
      refine AC.seq ?_
      refine AC.drawn' mixed_ok [[], [], [], [1,2], [1,2,3], [0,1,2,3,4]] (by decide) ?_
      refine DF.op 0 [] 6 rfl rfl rfl (.free rfl (NOp.of (by exact g_load_refN rfl rfl rfl rfl))) rfl ?_
      refine DF.op 1 [] 6 rfl rfl rfl (.free rfl (NOp.of (by exact mv1 rfl))) rfl ?_
      refine DF.op 2 [] 6 rfl rfl rfl (.free rfl (NOp.of (by exact mv1 rfl))) rfl ?_
      refine DF.op 3 [1,2] 6 rfl rfl rfl (.free rfl (NOp.of (by exact g_ia_view rfl rfl rfl rfl rfl (by rfl) (by assumption)))) rfl ?_
      refine DF.op 4 [1,2,3] 6 rfl rfl rfl (.free rfl (NOp.of (by exact g_load_refN rfl rfl rfl rfl))) rfl ?_
      refine DF.op 5 [0,1,2,3,4] 6 rfl rfl rfl (.free rfl (NOp.of (by exact g_eqIB (by decide +kernel) rfl rfl rfl))) rfl ?_
      refine DF.fin (ps := [(0, 1), (0, 2), (0, 3), (0, 4), (1, 0), (1, 2), (2, 0), (2, 1), (3, 0), (4, 0)]) 6 rfl (by decide +kernel) (by decide +kernel) (by rfl) ?_
      refine th_n ?_
      refine AC.condD rfl (fun h1 => ?_) (fun h1 => ?_)
      · refine AC.seq ?_
        refine AC.region ?_
        refine AL.p (by exact mv1 rfl) rfl ?_
        refine AL.p (by exact as1 rfl) rfl ?_
        refine AL.nil ?_
        refine th_n ?_
        refine AC.ret ?_
        refine ib_r ?_
        refine th_r ?_
        refine th_r ?_
        refine ib_r ?_
        refine th_r ?_
        refine bq_r ?_
        exact ret1 rfl (by rw [findI_at hk1 (p := fun x => decide (v = x)) (decide_eq_true (lab_iff.2 h1)) (fun j hj => hall j (by omega) hj)])
      · refine AC.skip ?_
        refine ib_n ?_
        refine th_n ?_
        refine AC.region ?_
        refine AL.p (by exact g_arith rfl rfl rfl (by exact wrap_i64 (by omega))) rfl ?_
        refine AL.p (by exact mv1 rfl) rfl ?_
        refine AL.nil ?_
        refine th_n ?_
        exact ⟨k + 1, ⟨by omega, fun j hj hj2 => by rcases Nat.lt_succ_iff_lt_or_eq.1 hj2 with h | rfl; exact hall j hj h; exact decide_eq_false (fun e => h1 (lab_iff.1 e))⟩, by omega, Weak.ren _ [] hC rfl (by repeat (first | exact True.intro | refine And.intro ?_ ?_ | exact DLead.same)) (by repeat (exact True.intro)) rfl rfl rfl⟩
    · refine AC.exit ?_
      refine th_e ?_
      refine th_e ?_
      refine ib_y ?_
      refine th_n ?_
      refine AC.seq ?_
      refine AC.region ?_
      refine AL.p (by exact as1 rfl) rfl ?_
      refine AL.nil ?_
      refine th_n ?_
      refine AC.ret ?_
      refine bq_r ?_
      exact ret1 rfl (by rw [findI_none (fun j hj => hall j hj (by omega))])
theorem en_indexLab : Enters Tryd.prog 84 := enters_of Tryd.func84 rfl rfl
theorem containsLab_spec (l : List Lab) (hl : l.length ≤ 2000000) (v : Lab) : ASpec Tryd.prog 71 [.d (vLabs l), labA v] [] (Pure1 (aT (l.any (fun x => decide (v = x))))) := by
  have hI := indexLab_spec l hl v
  refine ASpec.of Tryd.func71 rfl rfl fun C hC => ?_
  refine AC.seq ?_
  refine AC.region ?_
  refine AL.q (by exact h_boxF rfl rfl) rfl ?_
  refine AL.p (by exact as1 rfl) rfl ?_
  refine AL.nil ?_
  refine th_n ?_
  refine AC.seq ?_
  refine AC.region ?_
  refine AL.p (by exact mv1 rfl) rfl ?_
  refine AL.p (by exact g_load_refN rfl rfl rfl rfl) rfl ?_
  refine AL.q (by exact h_pure en_indexLab rfl rfl (by repeat (first | exact rfl | exact DLead.same | refine ⟨_, _, rfl, ?_, ?_⟩ | refine ⟨_, rfl, ?_⟩)) hI rfl) rfl ?_
  refine AL.p (by exact g_cmp rfl rfl rfl) rfl ?_
  refine AL.p (by exact as1 rfl) rfl ?_
  refine AL.nil ?_
  refine th_n ?_
  refine AC.ret ?_
  refine bq_r ?_
  exact ret1 rfl (by rw [findI_any])
theorem en_containsLab : Enters Tryd.prog 71 := enters_of Tryd.func71 rfl rfl
set_option maxHeartbeats 1000000 in
theorem indexLabF_spec (l : List Lab) (hl : l.length ≤ 2000000) (g : FuncId) (ds : List DV) (hen : Enters Tryd.prog g) (p : Lab → Bool) (hp : ∀ t, t ∈ l → ASpec Tryd.prog g (labA t :: ds.map .d) [] (Pure1 (aT (p t)))) : ASpec Tryd.prog 83 [.d (vLabs l), .clo g (ds.map .d)] [] (Pure1 (aI (findI p l))) := by
  refine ASpec.of Tryd.func83 rfl rfl fun C hC => ?_
  refine AC.seq ?_
  refine AC.region ?_
  refine AL.p (by exact as1 rfl) rfl ?_
  refine AL.nil ?_
  refine th_n ?_
  refine AC.seq ?_
  refine AC.seq ?_
  refine AC.region ?_
  refine AL.p (by exact mv1 rfl) rfl ?_
  refine AL.p (by exact g_len_view rfl rfl (by exact List.length_map _)) rfl ?_
  refine AL.p (by exact mv1 rfl) rfl ?_
  refine AL.nil ?_
  refine th_n ?_
  refine AC.block ?_
  refine AC.loop (ι := Nat) (fun k => ⟨19, 0, [(0, .d (vLabs l)), (1, .clo g (ds.map .d)), (6, .d (vLabs l)), (7, aI l.length), (8, aI k)], []⟩) (fun k => k ≤ l.length ∧ ∀ j (hj : j < l.length), j < k → p l[j] = false) (fun k => l.length - k) (0) ?_ (⟨Nat.zero_le _, fun j _ hj => by omega⟩) ?_
  · refine Weak.ren _ [] hC rfl ⟨.same, ⟨_, rfl, leadsL_data _ ds⟩, ?_⟩ trivial rfl rfl rfl; repeat (first | exact True.intro | refine And.intro ?_ ?_ | exact DLead.same)
  · intro k ⟨hk, hall⟩
    refine AC.seq ?_
    refine AC.region ?_
    refine AL.p (by exact g_cmp rfl rfl rfl) rfl ?_
    refine AL.nil ?_
    refine th_n ?_
    refine AC.seq ?_
    refine AC.condD rfl (fun h0 => ?_) (fun h0 => ?_)
    · refine AC.skip ?_
      refine th_n ?_
      refine AC.seq ?_
      refine AC.block ?_
      refine AC.seq ?_
      have hk1 : k < l.length := by omega
      have hget := labsL_get hk1
      refine AC.region ?_
      refine AL.p (by exact mv1 rfl) rfl ?_
      refine AL.p (by exact as1 rfl) rfl ?_
      refine AL.nil ?_
      refine th_n ?_
      refine AC.seq ?_
      refine AC.region ?_
      refine AL.p (by exact mv6 rfl) rfl ?_
      refine AL.p (by exact mv1 rfl) rfl ?_
      refine AL.p (by exact mv1 rfl) rfl ?_
      refine AL.p (by exact g_ia_view rfl rfl rfl rfl rfl (by rfl) (by assumption)) rfl ?_
      refine AL.p (by exact g_load_refN rfl rfl rfl rfl) rfl ?_
      refine AL.q (by exact h_pure hen rfl rfl (by exact ⟨_, _, rfl, ⟨_, rfl, _, _, rfl, .same, _, _, rfl, .same, rfl⟩, leadsL_data _ ds⟩) (hp l[k] (List.getElem_mem hk1)) rfl) rfl ?_
      refine AL.nil ?_
      refine th_n ?_
      refine AC.condB rfl (fun h1 => ?_) (fun h1 => ?_)
      · refine AC.seq ?_
        refine AC.region ?_
        refine AL.p (by exact mv1 rfl) rfl ?_
        refine AL.p (by exact as1 rfl) rfl ?_
        refine AL.nil ?_
        refine th_n ?_
        refine AC.ret ?_
        refine ib_r ?_
        refine th_r ?_
        refine th_r ?_
        refine ib_r ?_
        refine th_r ?_
        refine bq_r ?_
        exact ret1 rfl (by rw [findI_at hk1 h1 (fun j hj => hall j (by omega) hj)])
      · refine AC.skip ?_
        refine ib_n ?_
        refine th_n ?_
        refine AC.region ?_
        refine AL.p (by exact g_arith rfl rfl rfl (by exact wrap_i64 (by omega))) rfl ?_
        refine AL.p (by exact mv1 rfl) rfl ?_
        refine AL.nil ?_
        refine th_n ?_
        exact ⟨k + 1, ⟨by omega, fun j hj hj2 => by rcases Nat.lt_succ_iff_lt_or_eq.1 hj2 with h | rfl; exact hall j hj h; exact h1⟩, by omega, Weak.ren _ [] hC rfl ⟨.same, ⟨_, rfl, leadsL_data _ ds⟩, by repeat (first | exact True.intro | refine And.intro ?_ ?_ | exact DLead.same)⟩ trivial rfl rfl rfl⟩
    · refine AC.exit ?_
      refine th_e ?_
      refine th_e ?_
      refine ib_y ?_
      refine th_n ?_
      refine AC.seq ?_
      refine AC.region ?_
      refine AL.p (by exact as1 rfl) rfl ?_
      refine AL.nil ?_
      refine th_n ?_
      refine AC.ret ?_
      refine bq_r ?_
      exact ret1 rfl (by rw [findI_none (fun j hj => hall j hj (by omega))])
theorem en_indexLabF : Enters Tryd.prog 83 := enters_of Tryd.func83 rfl rfl
set_option maxHeartbeats 1000000 in
theorem containsLabF_spec (l : List Lab) (hl : l.length ≤ 2000000) (g : FuncId) (ds : List DV) (hen : Enters Tryd.prog g) (p : Lab → Bool) (hp : ∀ t, t ∈ l → ASpec Tryd.prog g (labA t :: ds.map .d) [] (Pure1 (aT (p t)))) : ASpec Tryd.prog 69 [.d (vLabs l), .clo g (ds.map .d)] [] (Pure1 (aT (l.any p))) := by
  refine ASpec.of Tryd.func69 rfl rfl fun C hC => ?_
  refine AC.seq ?_
  refine AC.region ?_
  refine AL.p (by exact as1 rfl) rfl ?_
  refine AL.nil ?_
  refine th_n ?_
  refine AC.seq ?_
  refine AC.region ?_
  refine AL.p (by exact mv1 rfl) rfl ?_
  refine AL.p (by exact mv6 rfl) rfl ?_
  refine AL.q (by exact h_pure en_indexLabF rfl rfl (by exact ⟨_, _, rfl, .same, _, _, rfl, ⟨_, rfl, leadsL_data _ ds⟩, rfl⟩) (indexLabF_spec l hl g ds hen p hp) rfl) rfl ?_
  refine AL.p (by exact g_cmp rfl rfl rfl) rfl ?_
  refine AL.p (by exact as1 rfl) rfl ?_
  refine AL.nil ?_
  refine th_n ?_
  refine AC.ret ?_
  refine bq_r ?_
  exact ret1 rfl (by rw [findI_any])
theorem en_containsLabF : Enters Tryd.prog 69 := enters_of Tryd.func69 rfl rfl
theorem isMaximal1_spec (x : Lab) (b : Bur) (hb : b.inn.length ≤ 1048576) : ASpec Tryd.prog 70 [labA x, .d (.ref (burD b))] [] (Pure1 (aT (!b.inn.any (fun y => decide (x = y))))) := by
  have hI := containsLab_spec b.inn (by omega) x
  refine ASpec.of Tryd.func70 rfl rfl fun C hC => ?_
  refine AC.seq ?_
  refine AC.region ?_
  refine AL.q (by exact h_boxF rfl rfl) rfl ?_
  refine AL.p (by exact as1 rfl) rfl ?_
  refine AL.nil ?_
  refine th_n ?_
  refine AC.seq ?_
  refine AC.region ?_
  refine AL.p (by exact g_fa_ref rfl rfl rfl rfl rfl rfl) rfl ?_
  refine AL.p (by exact g_load_ref rfl rfl rfl) rfl ?_
  refine AL.p (by exact g_load_refN rfl rfl rfl rfl) rfl ?_
  refine AL.q (by exact h_pure en_containsLab rfl rfl (by repeat (first | exact rfl | exact DLead.same | refine ⟨_, _, rfl, ?_, ?_⟩ | refine ⟨_, rfl, ?_⟩)) hI rfl) rfl ?_
  refine AL.p (by exact g_not rfl) rfl ?_
  refine AL.p (by exact as1 rfl) rfl ?_
  refine AL.nil ?_
  refine th_n ?_
  refine AC.ret ?_
  refine bq_r ?_
  exact ret1 rfl rfl
theorem en_isMaximal1 : Enters Tryd.prog 70 := enters_of Tryd.func70 rfl rfl
theorem amongB_any (a b : List Lab) : amongB a b = !(a.any fun x => !(b.any fun y => decide (x = y))) := by
  unfold amongB
  induction a with
  | nil => rfl
  | cons x a ih => simp only [List.all_cons, List.any_cons, ih]; cases (b.any fun y => decide (x = y)) <;> simp
set_option maxHeartbeats 1000000 in
theorem l24Among_spec (a b : List Lab) (ha : a.length ≤ 2000000) (hb : b.length ≤ 2000000) : ASpec Tryd.prog 26 [.d (vLabs a), .d (vLabs b)] [] (Pure1 (aT (amongB a b))) := by
  refine ASpec.of Tryd.func26 rfl rfl fun C hC => ?_
  refine AC.seq ?_
  refine AC.region ?_
  refine AL.p (by exact as1 rfl) rfl ?_
  refine AL.nil ?_
  refine th_n ?_
  refine AC.seq ?_
  refine AC.seq ?_
  refine AC.region ?_
  refine AL.p (by exact mv1 rfl) rfl ?_
  refine AL.p (by exact g_len_view rfl rfl (by exact List.length_map _)) rfl ?_
  refine AL.p (by exact mv1 rfl) rfl ?_
  refine AL.nil ?_
  refine th_n ?_
  refine AC.block ?_
  refine AC.loop (ι := Nat) (fun k => ⟨32, 0, [(1, .d (vLabs b)), (10, .d (vLabs a)), (11, aI a.length), (12, aI k)], []⟩) (fun k => k ≤ a.length ∧ ∀ j (hj : j < a.length), j < k → b.any (fun y => decide (a[j] = y)) = true) (fun k => a.length - k) (0) ?_ (⟨Nat.zero_le _, fun j _ hj => by omega⟩) ?_
  · refine Weak.ren _ [] hC rfl ?_ ?_ rfl rfl rfl <;> repeat (first | exact True.intro | refine And.intro ?_ ?_ | exact DLead.same)
  · intro k ⟨hk, hall⟩
    refine AC.seq ?_
    refine AC.region ?_
    refine AL.p (by exact g_cmp rfl rfl rfl) rfl ?_
    refine AL.nil ?_
    refine th_n ?_
    refine AC.seq ?_
    refine AC.condD rfl (fun h0 => ?_) (fun h0 => ?_)
    · refine AC.skip ?_
      refine th_n ?_
      refine AC.seq ?_
      refine AC.block ?_
      refine AC.seq ?_
      have hk1 : k < a.length := by omega
      have hget := labsL_get hk1
      refine AC.region ?_
      refine AL.p (by exact g_ia_view rfl rfl rfl rfl rfl (by rfl) (by assumption)) rfl ?_
      refine AL.p (by exact g_load_refN rfl rfl rfl rfl) rfl ?_
      refine AL.q (by exact h_alloc rfl) rfl ?_
      refine AL.q (by exact h_store rfl rfl rfl rfl rfl rfl) rfl ?_
      refine AL.nil ?_
      refine th_n ?_
      refine AC.seq ?_
      refine AC.weak (Weak.freezeRef (ds := labD a[k]) 6 rfl rfl) ?_
      refine AC.region ?_
      refine AL.p (by exact as1 rfl) rfl ?_
      refine AL.nil ?_
      refine th_n ?_
      refine AC.seq ?_
      refine AC.seq ?_
      refine AC.region ?_
      refine AL.p (by exact mv1 rfl) rfl ?_
      refine AL.p (by exact g_len_view rfl rfl (by exact List.length_map _)) rfl ?_
      refine AL.p (by exact mv1 rfl) rfl ?_
      refine AL.nil ?_
      refine th_n ?_
      refine AC.block ?_
      refine AC.loop (ι := Nat) (fun q => ⟨32, 0, [(1, .d (vLabs b)), (10, .d (vLabs a)), (11, aI a.length), (12, aI k), (6, .d (.ref (labD a[k]))), (7, aT ((b.take q).any (fun y => decide (a[k] = y)))), (16, .d (vLabs b)), (17, aI b.length), (18, aI q)], []⟩) (fun q => q ≤ b.length) (fun q => b.length - q) (0) ?_ (Nat.zero_le _) ?_
      · refine Weak.ren _ [] hC rfl ?_ ?_ rfl rfl rfl <;> repeat (first | exact True.intro | refine And.intro ?_ ?_ | exact DLead.same)
      · intro q hq
        refine AC.seq ?_
        refine AC.region ?_
        refine AL.p (by exact g_cmp rfl rfl rfl) rfl ?_
        refine AL.nil ?_
        refine th_n ?_
        refine AC.seq ?_
        refine AC.condD rfl (fun h1 => ?_) (fun h1 => ?_)
        · refine AC.skip ?_
          refine th_n ?_
          refine AC.seq ?_
          refine AC.block ?_
          refine AC.seq ?_
          have hq1 : q < b.length := by omega
          have hget2 := labsL_get hq1
          have hsu := any_succ (p := fun y => decide (a[k] = y)) hq1
          obtain ⟨c, hc⟩ : ∃ c, c = (b.take q).any (fun y => decide (a[k] = y)) := ⟨_, rfl⟩
          rw [← hc] at hsu ⊢
          have hs1 : c = true → (b.take (q + 1)).any (fun y => decide (a[k] = y)) = true := fun e => by rw [hsu, e]; rfl
          have hs0 : c = false → (b.take (q + 1)).any (fun y => decide (a[k] = y)) = decide (a[k].sig = b[q].sig ∧ a[k].up = b[q].up) := fun e => by rw [hsu, e, Bool.false_or]; exact decide_eq_decide.2 lab_iff
          refine AC.region ?_
          refine AL.p (by exact g_ia_view rfl rfl rfl rfl rfl (by rfl) (by assumption)) rfl ?_
          refine AL.p (by exact g_load_refN rfl rfl rfl rfl) rfl ?_
          refine AL.q (by exact h_alloc rfl) rfl ?_
          refine AL.q (by exact h_store rfl rfl rfl rfl rfl rfl) rfl ?_
          refine AL.nil ?_
          refine th_n ?_
          refine AC.region ?_
          refine AL.p (by exact mv1 rfl) rfl ?_
          refine AL.p (by exact mv1 rfl) rfl ?_
          refine AL.caseGB rfl rfl (fun h2 => ?_) (fun h2 => ?_)
          · refine AL.not rfl rfl rfl rfl rfl ?_
            refine AL.not rfl rfl rfl rfl rfl ?_
            refine AL.not rfl rfl rfl rfl rfl ?_
            refine AL.p (by exact g_pickT (r := .d _) rfl rfl) rfl ?_
            refine AL.p (by exact as1 rfl) rfl ?_
            refine AL.nil ?_
            refine ib_n ?_
            refine th_n ?_
            refine AC.region ?_
            refine AL.p (by exact g_arith rfl rfl rfl (by exact wrap_i64 (by omega))) rfl ?_
            refine AL.p (by exact mv1 rfl) rfl ?_
            refine AL.nil ?_
            refine th_n ?_
            have e := hs1 h2
            exact ⟨q + 1, by omega, by omega, Weak.ren _ [] hC rfl (by rw [e]; repeat (first | exact True.intro | refine And.intro ?_ ?_ | exact DLead.same)) (by repeat (exact True.intro)) rfl rfl rfl⟩
          · refine AL.yes rfl rfl rfl ?_
            refine AL.p (by exact g_load_refN rfl rfl rfl rfl) rfl ?_
            refine AL.yes rfl rfl rfl ?_
            refine AL.p (by exact g_load_ptrN rfl rfl rfl rfl rfl) rfl ?_
            refine AL.yes rfl rfl rfl ?_
            refine AL.p (by exact g_eqIB (by decide +kernel) rfl rfl rfl) rfl ?_
            refine AL.p (by exact g_pickF (r := .d _) rfl rfl) rfl ?_
            refine AL.p (by exact as1 rfl) rfl ?_
            refine AL.nil ?_
            refine ib_n ?_
            refine th_n ?_
            refine AC.region ?_
            refine AL.p (by exact g_arith rfl rfl rfl (by exact wrap_i64 (by omega))) rfl ?_
            refine AL.p (by exact mv1 rfl) rfl ?_
            refine AL.nil ?_
            refine th_n ?_
            have e := hs0 h2
            exact ⟨q + 1, by omega, by omega, Weak.ren _ [] hC rfl (by rw [e]; repeat (first | exact True.intro | refine And.intro ?_ ?_ | exact DLead.same)) (by repeat (exact True.intro)) rfl rfl rfl⟩
        · refine AC.exit ?_
          refine th_e ?_
          refine th_e ?_
          refine ib_y ?_
          refine th_n ?_
          refine AC.seq ?_
          have hqq : q = b.length := by omega
          subst hqq
          rw [List.take_length]
          obtain ⟨c, hc⟩ : ∃ c, c = b.any (fun y => decide (a[k] = y)) := ⟨_, rfl⟩
          rw [← hc]
          refine AC.region ?_
          refine AL.p (by exact mv1 rfl) rfl ?_
          refine AL.p (by exact g_not rfl) rfl ?_
          refine AL.nil ?_
          refine th_n ?_
          refine AC.condB rfl (fun h2 => ?_) (fun h2 => ?_)
          · refine AC.seq ?_
            refine AC.region ?_
            refine AL.p (by exact as1 rfl) rfl ?_
            refine AL.nil ?_
            refine th_n ?_
            refine AC.ret ?_
            refine ib_r ?_
            refine th_r ?_
            refine th_r ?_
            refine ib_r ?_
            refine th_r ?_
            refine bq_r ?_
            have hno : amongB a b = false := List.all_eq_false.2 ⟨_, List.getElem_mem hk1, by have hcf : c = false := by { simpa using h2 }; show ¬ (b.any (fun y => decide (a[k] = y)) = true); rw [← hc, hcf]; simp⟩
            exact ret1 rfl (by rw [hno])
          · refine AC.skip ?_
            refine ib_n ?_
            refine th_n ?_
            refine AC.region ?_
            refine AL.p (by exact g_arith rfl rfl rfl (by exact wrap_i64 (by omega))) rfl ?_
            refine AL.p (by exact mv1 rfl) rfl ?_
            refine AL.nil ?_
            refine th_n ?_
            exact ⟨k + 1, ⟨by omega, fun j hj hj2 => by rcases Nat.lt_succ_iff_lt_or_eq.1 hj2 with h | rfl; exact hall j hj h; exact hc.symm.trans (by simpa using h2)⟩, by omega, Weak.ren _ [] hC rfl (by repeat (first | exact True.intro | refine And.intro ?_ ?_ | exact DLead.same)) (by repeat (exact True.intro)) rfl rfl rfl⟩
    · refine AC.exit ?_
      refine th_e ?_
      refine th_e ?_
      refine ib_y ?_
      refine th_n ?_
      refine AC.seq ?_
      refine AC.region ?_
      refine AL.p (by exact as1 rfl) rfl ?_
      refine AL.nil ?_
      refine th_n ?_
      refine AC.ret ?_
      refine bq_r ?_
      have hyes : amongB a b = true := List.all_eq_true.2 (fun x hx => by obtain ⟨j, hj, rfl⟩ := List.getElem_of_mem hx; exact hall j hj (by omega))
      exact ret1 rfl (by rw [hyes])
theorem en_l24Among : Enters Tryd.prog 26 := enters_of Tryd.func26 rfl rfl
/-- What is asked of a label at its place, in the walks' words. -/
theorem labK_at {s : List Sig} {l : List Lab} {kind : Int} {k : Nat} (hk : k < l.length) : labK s l kind k = ((decide (0 ≤ l[k].sig) && decide (l[k].sig ≤ (s.length : Int) - 1)) && (decide ((sAt s l[k].sig.toNat).kind = kind) && (!decide ((k : Int) > 0) || !decide ((lAt l (k - 1)).sig ≥ l[k].sig)))) := by
  unfold labK inI
  rw [lAt_nat hk]
  congr 2
  congr 1
  · by_cases h : k = 0
    · subst h; simp
    · simp [h]; omega
  · by_cases h : (lAt l (k - 1)).sig < l[k].sig
    · rw [decide_eq_true h, decide_eq_false (by omega)]; rfl
    · rw [decide_eq_false h, decide_eq_true (by omega)]; rfl
set_option maxHeartbeats 2000000 in
theorem areLabels_spec (s : List Sig) (l : List Lab) (kind : Int) (hs : s.length ≤ 1048576) (hl : l.length ≤ 1048576) : ASpec Tryd.prog 51 [.d (vSigs s), .d (vLabs l), aI kind] [] (Pure1 (aT (labsB s l kind))) := by
  refine ASpec.of Tryd.func51 rfl rfl fun C hC => ?_
  refine AC.seq ?_
  refine AC.region ?_
  refine AL.p (by exact as1 rfl) rfl ?_
  refine AL.nil ?_
  refine th_n ?_
  refine AC.seq ?_
  refine AC.seq ?_
  refine AC.region ?_
  refine AL.p (by exact mv1 rfl) rfl ?_
  refine AL.p (by exact g_len_view rfl rfl (by exact List.length_map _)) rfl ?_
  refine AL.p (by exact mv1 rfl) rfl ?_
  refine AL.nil ?_
  refine th_n ?_
  refine AC.block ?_
  refine AC.loop (ι := Nat) (fun k => ⟨49, 0, [(0, .d (vSigs s)), (1, .d (vLabs l)), (2, aI kind), (9, .d (vLabs l)), (10, aI l.length), (11, aI k)], []⟩) (fun k => k ≤ l.length ∧ ∀ j (hj : j < l.length), j < k → labK s l kind j = true) (fun k => l.length - k) (0) ?_ (⟨Nat.zero_le _, fun j _ hj => by omega⟩) ?_
  · refine Weak.ren _ [] hC rfl ?_ ?_ rfl rfl rfl <;> repeat (first | exact True.intro | refine And.intro ?_ ?_ | exact DLead.same)
  · intro k ⟨hk, hall⟩
    refine AC.seq ?_
    refine AC.region ?_
    refine AL.p (by exact g_cmp rfl rfl rfl) rfl ?_
    refine AL.nil ?_
    refine th_n ?_
    refine AC.seq ?_
    refine AC.condD rfl (fun h0 => ?_) (fun h0 => ?_)
    · refine AC.skip ?_
      refine th_n ?_
      refine AC.seq ?_
      refine AC.block ?_
      refine AC.seq ?_
      have hk1 : k < l.length := by omega
      have hget := labsL_get hk1
      have hpre : 0 < k → (labsL l)[k - 1]? = some (labD (lAt l (k - 1))) := fun h => by rw [lAt_nat (show k - 1 < l.length by omega)]; exact labsL_get (by omega)
      refine AC.region ?_
      refine AL.p (by exact mv1 rfl) rfl ?_
      refine AL.p (by exact g_ia_view rfl rfl rfl rfl rfl (by rfl) (by assumption)) rfl ?_
      refine AL.p (by exact g_load_refN rfl rfl rfl rfl) rfl ?_
      refine AL.q (by exact h_alloc rfl) rfl ?_
      refine AL.p (by exact as1 rfl) rfl ?_
      refine AL.q (by exact h_store rfl rfl rfl rfl rfl rfl) rfl ?_
      refine AL.nil ?_
      refine th_n ?_
      refine AC.seq ?_
      refine AC.weak (Weak.freezeRef (ds := labD l[k]) 8 rfl rfl) ?_
      have hK := labK_at (s := s) (kind := kind) hk1
      have hW := within_spec l[k].sig 0 ((s.length : Int) - 1)
      have hTi : (!(decide (0 ≤ l[k].sig) && decide (l[k].sig ≤ (s.length : Int) - 1))) = false → l[k].sig = (l[k].sig.toNat : Int) := by intro q; simp at q; omega
      have hTg : (!(decide (0 ≤ l[k].sig) && decide (l[k].sig ≤ (s.length : Int) - 1))) = false → (sigsL s)[l[k].sig.toNat]? = some (sigD (sAt s l[k].sig.toNat)) := by intro q; have q2 : l[k].sig.toNat < s.length := by { simp at q; omega }; rw [sAt_nat q2]; exact sigsL_get q2
      obtain ⟨b1, hb1⟩ : ∃ b, b = (decide (0 ≤ l[k].sig) && decide (l[k].sig ≤ (s.length : Int) - 1)) := ⟨_, rfl⟩
      rw [← hb1] at hW hK hTi hTg
      clear hb1
      refine AC.drawn' mixed_ok [[], [0], [], [2], [2,3], [0,1,2,3,4], [0,1,2,3,4,5], [0,1,2,3,4,5,6], [0,1,2,3,4,5,6,7], [0,1,2,3,4,5,6,7], [0,1,2,3,4,5,6,7,9], [0,1,2,3,4,5,6,7,8,9,10], [0,1,2,3,4,5,6,7,8,9,10,11], [0,1,2,3,4,5,6,7,8,9,10,11,12], [0,1,2,3,4,5,6,7], [0,1,2,3,4,5,6,7,8,9,10,11,12,13,14], [0,1,2,3,4,5,6,7,8,9,10,11,12,13,14,15], [0,1,2,3,4,5,6,7,8,9,10,11,12,13,14,15,16], [0,1,2,3,4,5,6,7,8,9,10,11,12,13,14,15,16,17], [0,1,2,3,4,5,6,7,8,9,10,11,12,13,14,15,16,17,18], [0,1,2,3,4,5,6,7,8,9,10,11,12,13,14,15,16,17,18,19], [0,1,2,3,4,5,6,7,8,9,10,11,12,13,14,15,16,17,18,19,20], [0,1,2,3,4,5,6,7,8,9,10,11,12,13,14,15,16,17,18,19,20], [0,1,2,3,4,5,6,7,8,9,10,11,12,13,14,15,16,17,18,19,20,22], [0,1,2,3,4,5,6,7,8,9,10,11,12,13,14,15,16,17,18,19,20,21,22,23], [0,1,2,3,4,5,6,7,8,9,10,11,12,13,14,15,16,17,18,19,20,21,22,23,24], [0,1,2,3,4,5,6,7,8,9,10,11,12,13,14,15,16,17,18,19,20,21,22,23,24,25], [0,1,2,3,4,5,6,7,8,9,10,11,12,13,14,15,16,17,18,19,20], [0,1,2,3,4,5,6,7,8,9,10,11,12,13,14,15,16,17,18,19,20,27], [0,1,2,3,4,5,6,7,8,9,10,11,12,13,14,15,16,17,18,19,20,21,22,23,24,25,26,27,28], [0,1,2,3,4,5,6,7,8,9,10,11,12,13,14,15,16,17,18,19,20,21,22,23,24,25,26,27,28,29], [0,1,2,3,4,5,6,7,8,9,10,11,12,13,14,15,16,17,18,19,20,21,22,23,24,25,26,27,28,29,30]] (by decide) ?_
      refine DF.op 0 [] 32 rfl rfl rfl (.free rfl (NOp.of (by exact g_fa_ref rfl rfl rfl rfl rfl rfl))) rfl ?_
      refine DF.op 1 [0] 32 rfl rfl rfl (.free rfl (NOp.of (by exact g_load_ref rfl rfl rfl))) rfl ?_
      refine DF.op 2 [] 32 rfl rfl rfl (.free rfl (NOp.of (by exact mv1 rfl))) rfl ?_
      refine DF.op 3 [2] 32 rfl rfl rfl (.free rfl (NOp.of (by exact g_len_view rfl rfl (by exact List.length_map _)))) rfl ?_
      refine DF.op 4 [2,3] 32 rfl rfl rfl (.free rfl (NOp.of (by exact g_arith rfl rfl rfl (by exact wrap_i64 (by omega))))) rfl ?_
      refine DF.op 5 [0,1,2,3,4] 32 rfl rfl rfl (.free rfl (by exact h_pure en_within rfl rfl (by repeat (first | exact rfl | exact DLead.same | refine ⟨_, _, rfl, ?_, ?_⟩)) hW rfl)) rfl ?_
      refine DF.op 6 [0,1,2,3,4,5] 32 rfl rfl rfl (.free rfl (NOp.of (by exact g_not rfl))) rfl ?_
      refine DF.op 7 [0,1,2,3,4,5,6] 32 rfl rfl rfl (.free rfl (NOp.of (by exact mv1 rfl))) rfl ?_
      refine DF.caseB 7 rfl (fun h1 => ?_) (fun h1 => ?_)
      · refine DF.op (ids := []) 8 [0,1,2,3,4,5,6,7] 32 rfl rfl rfl (.no rfl rfl rfl rfl rfl rfl) rfl ?_
        refine DF.op (ids := []) 9 [0,1,2,3,4,5,6,7] 32 rfl rfl rfl (.no rfl rfl rfl rfl rfl rfl) rfl ?_
        refine DF.op (ids := []) 10 [0,1,2,3,4,5,6,7,9] 32 rfl rfl rfl (.no rfl rfl rfl rfl rfl rfl) rfl ?_
        refine DF.op (ids := []) 11 [0,1,2,3,4,5,6,7,8,9,10] 32 rfl rfl rfl (.no rfl rfl rfl rfl rfl rfl) rfl ?_
        refine DF.op (ids := []) 12 [0,1,2,3,4,5,6,7,8,9,10,11] 32 rfl rfl rfl (.no rfl rfl rfl rfl rfl rfl) rfl ?_
        refine DF.op (ids := []) 13 [0,1,2,3,4,5,6,7,8,9,10,11,12] 32 rfl rfl rfl (.no rfl rfl rfl rfl rfl rfl) rfl ?_
        refine DF.op (ids := []) 14 [0,1,2,3,4,5,6,7] 32 rfl rfl rfl (.no rfl rfl rfl rfl rfl rfl) rfl ?_
        refine DF.op (ids := []) 15 [0,1,2,3,4,5,6,7,8,9,10,11,12,13,14] 32 rfl rfl rfl (.no rfl rfl rfl rfl rfl rfl) rfl ?_
        refine DF.op 16 [0,1,2,3,4,5,6,7,8,9,10,11,12,13,14,15] 32 rfl rfl rfl (.free rfl (NOp.of (by exact g_pickT (r := .d _) rfl rfl))) rfl ?_
        refine DF.op 17 [0,1,2,3,4,5,6,7,8,9,10,11,12,13,14,15,16] 32 rfl rfl rfl (.free rfl (NOp.of (by exact mv1 rfl))) rfl ?_
        refine DF.op (ids := []) 18 [0,1,2,3,4,5,6,7,8,9,10,11,12,13,14,15,16,17] 32 rfl rfl rfl (.no rfl rfl rfl rfl rfl rfl) rfl ?_
        refine DF.op (ids := []) 19 [0,1,2,3,4,5,6,7,8,9,10,11,12,13,14,15,16,17,18] 32 rfl rfl rfl (.no rfl rfl rfl rfl rfl rfl) rfl ?_
        refine DF.op (ids := []) 20 [0,1,2,3,4,5,6,7,8,9,10,11,12,13,14,15,16,17,18,19] 32 rfl rfl rfl (.no rfl rfl rfl rfl rfl rfl) rfl ?_
        refine DF.op (ids := []) 21 [0,1,2,3,4,5,6,7,8,9,10,11,12,13,14,15,16,17,18,19,20] 32 rfl rfl rfl (.noU rfl rfl rfl rfl) rfl ?_
        refine DF.op (ids := []) 22 [0,1,2,3,4,5,6,7,8,9,10,11,12,13,14,15,16,17,18,19,20] 32 rfl rfl rfl (.noU rfl rfl rfl rfl) rfl ?_
        refine DF.op (ids := []) 23 [0,1,2,3,4,5,6,7,8,9,10,11,12,13,14,15,16,17,18,19,20,22] 32 rfl rfl rfl (.noU rfl rfl rfl rfl) rfl ?_
        refine DF.op (ids := []) 24 [0,1,2,3,4,5,6,7,8,9,10,11,12,13,14,15,16,17,18,19,20,21,22,23] 32 rfl rfl rfl (.noU rfl rfl rfl rfl) rfl ?_
        refine DF.op (ids := []) 25 [0,1,2,3,4,5,6,7,8,9,10,11,12,13,14,15,16,17,18,19,20,21,22,23,24] 32 rfl rfl rfl (.noU rfl rfl rfl rfl) rfl ?_
        refine DF.op (ids := []) 26 [0,1,2,3,4,5,6,7,8,9,10,11,12,13,14,15,16,17,18,19,20,21,22,23,24,25] 32 rfl rfl rfl (.noU rfl rfl rfl rfl) rfl ?_
        refine DF.op (ids := []) 27 [0,1,2,3,4,5,6,7,8,9,10,11,12,13,14,15,16,17,18,19,20] 32 rfl rfl rfl (.noU rfl rfl rfl rfl) rfl ?_
        refine DF.op (ids := []) 28 [0,1,2,3,4,5,6,7,8,9,10,11,12,13,14,15,16,17,18,19,20,27] 32 rfl rfl rfl (.noU rfl rfl rfl rfl) rfl ?_
        refine DF.op (ids := []) 29 [0,1,2,3,4,5,6,7,8,9,10,11,12,13,14,15,16,17,18,19,20,21,22,23,24,25,26,27,28] 32 rfl rfl rfl (.noU rfl rfl rfl rfl) rfl ?_
        refine DF.op (ids := []) 30 [0,1,2,3,4,5,6,7,8,9,10,11,12,13,14,15,16,17,18,19,20,21,22,23,24,25,26,27,28,29] 32 rfl rfl rfl (.no rfl rfl rfl rfl rfl rfl) rfl ?_
        refine DF.op 31 [0,1,2,3,4,5,6,7,8,9,10,11,12,13,14,15,16,17,18,19,20,21,22,23,24,25,26,27,28,29,30] 32 rfl rfl rfl (.free rfl (NOp.of (by exact g_pickT (r := .d _) rfl rfl))) rfl ?_
        refine DF.fin (ps := [(0, 2), (0, 3), (0, 4), (1, 2), (1, 3), (1, 4), (2, 0), (2, 1), (3, 0), (3, 1), (4, 0), (4, 1), (8, 9), (8, 10), (8, 14), (9, 8), (9, 14), (10, 8), (10, 14), (11, 14), (12, 14), (13, 14), (14, 8), (14, 9), (14, 10), (14, 11), (14, 12), (14, 13), (21, 22), (21, 23), (21, 27), (21, 28), (22, 21), (22, 27), (22, 28), (23, 21), (23, 27), (23, 28), (24, 27), (24, 28), (25, 27), (25, 28), (26, 27), (26, 28), (27, 21), (27, 22), (27, 23), (27, 24), (27, 25), (27, 26), (28, 21), (28, 22), (28, 23), (28, 24), (28, 25), (28, 26)]) 32 rfl (by decide +kernel) (by decide +kernel) (by rfl) ?_
        refine th_n ?_
        refine AC.condT rfl ?_
        refine AC.seq ?_
        refine AC.region ?_
        refine AL.p (by exact as1 rfl) rfl ?_
        refine AL.nil ?_
        refine th_n ?_
        refine AC.ret ?_
        refine ib_r ?_
        refine th_r ?_
        refine th_r ?_
        refine ib_r ?_
        refine th_r ?_
        refine bq_r ?_
        have hno : labK s l kind k = false := by clear hTi hTg hpre hall hget hW; rw [hK]; simp_all
        exact ret1 rfl (by rw [labsB_no hk1 hno])
      · refine DF.op 8 [0,1,2,3,4,5,6,7] 32 rfl rfl rfl (.yes rfl rfl rfl rfl (NOp.of (by exact mv1 rfl))) rfl ?_
        refine DF.op 9 [0,1,2,3,4,5,6,7] 32 rfl rfl rfl (.yes rfl rfl rfl rfl (NOp.of (by exact g_fa_ref rfl rfl rfl rfl rfl rfl))) rfl ?_
        refine DF.op 10 [0,1,2,3,4,5,6,7,9] 32 rfl rfl rfl (.yes rfl rfl rfl rfl (NOp.of (by exact g_load_ref rfl rfl rfl))) rfl ?_
        refine DF.op 11 [0,1,2,3,4,5,6,7,8,9,10] 32 rfl rfl rfl (.yes rfl rfl rfl rfl (NOp.of (by exact g_ia_view (i := l[k].sig.toNat) rfl rfl rfl rfl rfl (hTi h1) (hTg h1)))) rfl ?_
        refine DF.op 12 [0,1,2,3,4,5,6,7,8,9,10,11] 32 rfl rfl rfl (.yes rfl rfl rfl rfl (NOp.of (by exact g_fa_ref rfl rfl rfl rfl rfl rfl))) rfl ?_
        refine DF.op 13 [0,1,2,3,4,5,6,7,8,9,10,11,12] 32 rfl rfl rfl (.yes rfl rfl rfl rfl (NOp.of (by exact g_load_ref rfl rfl rfl))) rfl ?_
        refine DF.op 14 [0,1,2,3,4,5,6,7] 32 rfl rfl rfl (.yes rfl rfl rfl rfl (NOp.of (by exact mv1 rfl))) rfl ?_
        refine DF.op 15 [0,1,2,3,4,5,6,7,8,9,10,11,12,13,14] 32 rfl rfl rfl (.yes rfl rfl rfl rfl (NOp.of (by exact g_cmp rfl rfl rfl))) rfl ?_
        refine DF.op 16 [0,1,2,3,4,5,6,7,8,9,10,11,12,13,14,15] 32 rfl rfl rfl (.free rfl (NOp.of (by exact g_pickF (r := .d _) rfl rfl))) rfl ?_
        refine DF.op 17 [0,1,2,3,4,5,6,7,8,9,10,11,12,13,14,15,16] 32 rfl rfl rfl (.free rfl (NOp.of (by exact mv1 rfl))) rfl ?_
        refine DF.caseB 17 rfl (fun h2 => ?_) (fun h2 => ?_)
        · refine DF.op (ids := []) 18 [0,1,2,3,4,5,6,7,8,9,10,11,12,13,14,15,16,17] 32 rfl rfl rfl (.no rfl rfl rfl rfl rfl rfl) rfl ?_
          refine DF.op (ids := []) 19 [0,1,2,3,4,5,6,7,8,9,10,11,12,13,14,15,16,17,18] 32 rfl rfl rfl (.no rfl rfl rfl rfl rfl rfl) rfl ?_
          refine DF.op (ids := []) 20 [0,1,2,3,4,5,6,7,8,9,10,11,12,13,14,15,16,17,18,19] 32 rfl rfl rfl (.no rfl rfl rfl rfl rfl rfl) rfl ?_
          refine DF.op (ids := []) 21 [0,1,2,3,4,5,6,7,8,9,10,11,12,13,14,15,16,17,18,19,20] 32 rfl rfl rfl (.noU rfl rfl rfl rfl) rfl ?_
          refine DF.op (ids := []) 22 [0,1,2,3,4,5,6,7,8,9,10,11,12,13,14,15,16,17,18,19,20] 32 rfl rfl rfl (.noU rfl rfl rfl rfl) rfl ?_
          refine DF.op (ids := []) 23 [0,1,2,3,4,5,6,7,8,9,10,11,12,13,14,15,16,17,18,19,20,22] 32 rfl rfl rfl (.noU rfl rfl rfl rfl) rfl ?_
          refine DF.op (ids := []) 24 [0,1,2,3,4,5,6,7,8,9,10,11,12,13,14,15,16,17,18,19,20,21,22,23] 32 rfl rfl rfl (.noU rfl rfl rfl rfl) rfl ?_
          refine DF.op (ids := []) 25 [0,1,2,3,4,5,6,7,8,9,10,11,12,13,14,15,16,17,18,19,20,21,22,23,24] 32 rfl rfl rfl (.noU rfl rfl rfl rfl) rfl ?_
          refine DF.op (ids := []) 26 [0,1,2,3,4,5,6,7,8,9,10,11,12,13,14,15,16,17,18,19,20,21,22,23,24,25] 32 rfl rfl rfl (.noU rfl rfl rfl rfl) rfl ?_
          refine DF.op (ids := []) 27 [0,1,2,3,4,5,6,7,8,9,10,11,12,13,14,15,16,17,18,19,20] 32 rfl rfl rfl (.noU rfl rfl rfl rfl) rfl ?_
          refine DF.op (ids := []) 28 [0,1,2,3,4,5,6,7,8,9,10,11,12,13,14,15,16,17,18,19,20,27] 32 rfl rfl rfl (.noU rfl rfl rfl rfl) rfl ?_
          refine DF.op (ids := []) 29 [0,1,2,3,4,5,6,7,8,9,10,11,12,13,14,15,16,17,18,19,20,21,22,23,24,25,26,27,28] 32 rfl rfl rfl (.noU rfl rfl rfl rfl) rfl ?_
          refine DF.op (ids := []) 30 [0,1,2,3,4,5,6,7,8,9,10,11,12,13,14,15,16,17,18,19,20,21,22,23,24,25,26,27,28,29] 32 rfl rfl rfl (.no rfl rfl rfl rfl rfl rfl) rfl ?_
          refine DF.op 31 [0,1,2,3,4,5,6,7,8,9,10,11,12,13,14,15,16,17,18,19,20,21,22,23,24,25,26,27,28,29,30] 32 rfl rfl rfl (.free rfl (NOp.of (by exact g_pickT (r := .d _) rfl rfl))) rfl ?_
          refine DF.fin (ps := [(0, 2), (0, 3), (0, 4), (1, 2), (1, 3), (1, 4), (2, 0), (2, 1), (3, 0), (3, 1), (4, 0), (4, 1), (8, 9), (8, 10), (8, 14), (9, 8), (9, 14), (10, 8), (10, 14), (11, 14), (12, 14), (13, 14), (14, 8), (14, 9), (14, 10), (14, 11), (14, 12), (14, 13), (21, 22), (21, 23), (21, 27), (21, 28), (22, 21), (22, 27), (22, 28), (23, 21), (23, 27), (23, 28), (24, 27), (24, 28), (25, 27), (25, 28), (26, 27), (26, 28), (27, 21), (27, 22), (27, 23), (27, 24), (27, 25), (27, 26), (28, 21), (28, 22), (28, 23), (28, 24), (28, 25), (28, 26)]) 32 rfl (by decide +kernel) (by decide +kernel) (by rfl) ?_
          refine th_n ?_
          refine AC.condT rfl ?_
          refine AC.seq ?_
          refine AC.region ?_
          refine AL.p (by exact as1 rfl) rfl ?_
          refine AL.nil ?_
          refine th_n ?_
          refine AC.ret ?_
          refine ib_r ?_
          refine th_r ?_
          refine th_r ?_
          refine ib_r ?_
          refine th_r ?_
          refine bq_r ?_
          have hno : labK s l kind k = false := by clear hTi hTg hpre hall hget hW; rw [hK]; simp_all
          exact ret1 rfl (by rw [labsB_no hk1 hno])
        · refine DF.op 18 [0,1,2,3,4,5,6,7,8,9,10,11,12,13,14,15,16,17] 32 rfl rfl rfl (.yes rfl rfl rfl rfl (NOp.of (by exact mv1 rfl))) rfl ?_
          refine DF.op 19 [0,1,2,3,4,5,6,7,8,9,10,11,12,13,14,15,16,17,18] 32 rfl rfl rfl (.yes rfl rfl rfl rfl (NOp.of (by exact g_cmp rfl rfl rfl))) rfl ?_
          refine DF.op 20 [0,1,2,3,4,5,6,7,8,9,10,11,12,13,14,15,16,17,18,19] 32 rfl rfl rfl (.yes rfl rfl rfl rfl (NOp.of (by exact mv1 rfl))) rfl ?_
          refine DF.caseD 20 rfl (fun h3 => ?_) (fun h3 => ?_)
          · refine DF.op 21 [0,1,2,3,4,5,6,7,8,9,10,11,12,13,14,15,16,17,18,19,20] 32 rfl rfl rfl (.yes rfl rfl rfl rfl (NOp.of (by exact mv1 rfl))) rfl ?_
            refine DF.op 22 [0,1,2,3,4,5,6,7,8,9,10,11,12,13,14,15,16,17,18,19,20] 32 rfl rfl rfl (.yes rfl rfl rfl rfl (NOp.of (by exact mv1 rfl))) rfl ?_
            refine DF.op 23 [0,1,2,3,4,5,6,7,8,9,10,11,12,13,14,15,16,17,18,19,20,22] 32 rfl rfl rfl (.yes rfl rfl rfl rfl (NOp.of (by exact g_arith rfl rfl rfl (by exact wrap_i64 (by omega))))) rfl ?_
            refine DF.op 24 [0,1,2,3,4,5,6,7,8,9,10,11,12,13,14,15,16,17,18,19,20,21,22,23] 32 rfl rfl rfl (.yes rfl rfl rfl rfl (NOp.of (by exact g_ia_view (i := k - 1) rfl rfl rfl rfl rfl (by omega) (hpre (by omega))))) rfl ?_
            refine DF.op 25 [0,1,2,3,4,5,6,7,8,9,10,11,12,13,14,15,16,17,18,19,20,21,22,23,24] 32 rfl rfl rfl (.yes rfl rfl rfl rfl (NOp.of (by exact g_fa_ref rfl rfl rfl rfl rfl rfl))) rfl ?_
            refine DF.op 26 [0,1,2,3,4,5,6,7,8,9,10,11,12,13,14,15,16,17,18,19,20,21,22,23,24,25] 32 rfl rfl rfl (.yes rfl rfl rfl rfl (NOp.of (by exact g_load_ref rfl rfl rfl))) rfl ?_
            refine DF.op 27 [0,1,2,3,4,5,6,7,8,9,10,11,12,13,14,15,16,17,18,19,20] 32 rfl rfl rfl (.yes rfl rfl rfl rfl (NOp.of (by exact g_fa_ref rfl rfl rfl rfl rfl rfl))) rfl ?_
            refine DF.op 28 [0,1,2,3,4,5,6,7,8,9,10,11,12,13,14,15,16,17,18,19,20,27] 32 rfl rfl rfl (.yes rfl rfl rfl rfl (NOp.of (by exact g_load_ref rfl rfl rfl))) rfl ?_
            refine DF.op 29 [0,1,2,3,4,5,6,7,8,9,10,11,12,13,14,15,16,17,18,19,20,21,22,23,24,25,26,27,28] 32 rfl rfl rfl (.yes rfl rfl rfl rfl (NOp.of (by exact g_cmp rfl rfl rfl))) rfl ?_
            refine DF.op 30 [0,1,2,3,4,5,6,7,8,9,10,11,12,13,14,15,16,17,18,19,20,21,22,23,24,25,26,27,28,29] 32 rfl rfl rfl (.yes rfl rfl rfl rfl (NOp.of (by exact g_pickT (r := .d _) rfl rfl))) rfl ?_
            refine DF.op 31 [0,1,2,3,4,5,6,7,8,9,10,11,12,13,14,15,16,17,18,19,20,21,22,23,24,25,26,27,28,29,30] 32 rfl rfl rfl (.free rfl (NOp.of (by exact g_pickF (r := .d _) rfl rfl))) rfl ?_
            refine DF.fin (ps := [(0, 2), (0, 3), (0, 4), (1, 2), (1, 3), (1, 4), (2, 0), (2, 1), (3, 0), (3, 1), (4, 0), (4, 1), (8, 9), (8, 10), (8, 14), (9, 8), (9, 14), (10, 8), (10, 14), (11, 14), (12, 14), (13, 14), (14, 8), (14, 9), (14, 10), (14, 11), (14, 12), (14, 13), (21, 22), (21, 23), (21, 27), (21, 28), (22, 21), (22, 27), (22, 28), (23, 21), (23, 27), (23, 28), (24, 27), (24, 28), (25, 27), (25, 28), (26, 27), (26, 28), (27, 21), (27, 22), (27, 23), (27, 24), (27, 25), (27, 26), (28, 21), (28, 22), (28, 23), (28, 24), (28, 25), (28, 26)]) 32 rfl (by decide +kernel) (by decide +kernel) (by rfl) ?_
            refine th_n ?_
            refine AC.condD rfl (fun h4 => ?_) (fun h4 => ?_)
            · refine AC.seq ?_
              refine AC.region ?_
              refine AL.p (by exact as1 rfl) rfl ?_
              refine AL.nil ?_
              refine th_n ?_
              refine AC.ret ?_
              refine ib_r ?_
              refine th_r ?_
              refine th_r ?_
              refine ib_r ?_
              refine th_r ?_
              refine bq_r ?_
              have hno : labK s l kind k = false := by clear hTi hTg hpre hall hget hW; rw [hK]; simp_all
              exact ret1 rfl (by rw [labsB_no hk1 hno])
            · refine AC.skip ?_
              refine ib_n ?_
              refine th_n ?_
              refine AC.region ?_
              refine AL.p (by exact g_arith rfl rfl rfl (by exact wrap_i64 (by omega))) rfl ?_
              refine AL.p (by exact mv1 rfl) rfl ?_
              refine AL.nil ?_
              refine th_n ?_
              have hyes : labK s l kind k = true := by clear hTi hTg hpre hall hget hW; rw [hK]; simp_all
              exact ⟨k + 1, ⟨by omega, fun j hj hj2 => by rcases Nat.lt_succ_iff_lt_or_eq.1 hj2 with h | rfl; exact hall j hj h; exact hyes⟩, by omega, Weak.ren _ [] hC rfl (by repeat (first | exact True.intro | refine And.intro ?_ ?_ | exact DLead.same)) (by repeat (exact True.intro)) rfl rfl rfl⟩
          · refine DF.op (ids := []) 21 [0,1,2,3,4,5,6,7,8,9,10,11,12,13,14,15,16,17,18,19,20] 32 rfl rfl rfl (.no rfl rfl rfl rfl rfl rfl) rfl ?_
            refine DF.op (ids := []) 22 [0,1,2,3,4,5,6,7,8,9,10,11,12,13,14,15,16,17,18,19,20] 32 rfl rfl rfl (.no rfl rfl rfl rfl rfl rfl) rfl ?_
            refine DF.op (ids := []) 23 [0,1,2,3,4,5,6,7,8,9,10,11,12,13,14,15,16,17,18,19,20,22] 32 rfl rfl rfl (.no rfl rfl rfl rfl rfl rfl) rfl ?_
            refine DF.op (ids := []) 24 [0,1,2,3,4,5,6,7,8,9,10,11,12,13,14,15,16,17,18,19,20,21,22,23] 32 rfl rfl rfl (.no rfl rfl rfl rfl rfl rfl) rfl ?_
            refine DF.op (ids := []) 25 [0,1,2,3,4,5,6,7,8,9,10,11,12,13,14,15,16,17,18,19,20,21,22,23,24] 32 rfl rfl rfl (.no rfl rfl rfl rfl rfl rfl) rfl ?_
            refine DF.op (ids := []) 26 [0,1,2,3,4,5,6,7,8,9,10,11,12,13,14,15,16,17,18,19,20,21,22,23,24,25] 32 rfl rfl rfl (.no rfl rfl rfl rfl rfl rfl) rfl ?_
            refine DF.op (ids := []) 27 [0,1,2,3,4,5,6,7,8,9,10,11,12,13,14,15,16,17,18,19,20] 32 rfl rfl rfl (.no rfl rfl rfl rfl rfl rfl) rfl ?_
            refine DF.op (ids := []) 28 [0,1,2,3,4,5,6,7,8,9,10,11,12,13,14,15,16,17,18,19,20,27] 32 rfl rfl rfl (.no rfl rfl rfl rfl rfl rfl) rfl ?_
            refine DF.op (ids := []) 29 [0,1,2,3,4,5,6,7,8,9,10,11,12,13,14,15,16,17,18,19,20,21,22,23,24,25,26,27,28] 32 rfl rfl rfl (.no rfl rfl rfl rfl rfl rfl) rfl ?_
            refine DF.op 30 [0,1,2,3,4,5,6,7,8,9,10,11,12,13,14,15,16,17,18,19,20,21,22,23,24,25,26,27,28,29] 32 rfl rfl rfl (.yes rfl rfl rfl rfl (NOp.of (by exact g_pickF (r := .d _) rfl rfl))) rfl ?_
            refine DF.op 31 [0,1,2,3,4,5,6,7,8,9,10,11,12,13,14,15,16,17,18,19,20,21,22,23,24,25,26,27,28,29,30] 32 rfl rfl rfl (.free rfl (NOp.of (by exact g_pickF (r := .d _) rfl rfl))) rfl ?_
            refine DF.fin (ps := [(0, 2), (0, 3), (0, 4), (1, 2), (1, 3), (1, 4), (2, 0), (2, 1), (3, 0), (3, 1), (4, 0), (4, 1), (8, 9), (8, 10), (8, 14), (9, 8), (9, 14), (10, 8), (10, 14), (11, 14), (12, 14), (13, 14), (14, 8), (14, 9), (14, 10), (14, 11), (14, 12), (14, 13), (21, 22), (21, 23), (21, 27), (21, 28), (22, 21), (22, 27), (22, 28), (23, 21), (23, 27), (23, 28), (24, 27), (24, 28), (25, 27), (25, 28), (26, 27), (26, 28), (27, 21), (27, 22), (27, 23), (27, 24), (27, 25), (27, 26), (28, 21), (28, 22), (28, 23), (28, 24), (28, 25), (28, 26)]) 32 rfl (by decide +kernel) (by decide +kernel) (by rfl) ?_
            refine th_n ?_
            refine AC.condF rfl ?_
            refine AC.skip ?_
            refine ib_n ?_
            refine th_n ?_
            refine AC.region ?_
            refine AL.p (by exact g_arith rfl rfl rfl (by exact wrap_i64 (by omega))) rfl ?_
            refine AL.p (by exact mv1 rfl) rfl ?_
            refine AL.nil ?_
            refine th_n ?_
            have hyes : labK s l kind k = true := by clear hTi hTg hpre hall hget hW; rw [hK]; simp_all
            exact ⟨k + 1, ⟨by omega, fun j hj hj2 => by rcases Nat.lt_succ_iff_lt_or_eq.1 hj2 with h | rfl; exact hall j hj h; exact hyes⟩, by omega, Weak.ren _ [] hC rfl (by repeat (first | exact True.intro | refine And.intro ?_ ?_ | exact DLead.same)) (by repeat (exact True.intro)) rfl rfl rfl⟩
    · refine AC.exit ?_
      refine th_e ?_
      refine th_e ?_
      refine ib_y ?_
      refine th_n ?_
      refine AC.seq ?_
      refine AC.region ?_
      refine AL.p (by exact as1 rfl) rfl ?_
      refine AL.nil ?_
      refine th_n ?_
      refine AC.ret ?_
      refine bq_r ?_
      exact ret1 rfl (by rw [labsB, allK_yes (fun j hj => hall j hj (by omega))])
theorem en_areLabels : Enters Tryd.prog 51 := enters_of Tryd.func51 rfl rfl
set_option maxHeartbeats 2000000 in
theorem l24Labels_spec (m : Mach) (l : List Lab) (kind : Int) (hs : m.sigs.length ≤ 1048576) (hl : l.length ≤ 1048576) : ASpec Tryd.prog 40 [machA m, .d (vLabs l), aI kind] [] (Pure1 (aT (labsB m.sigs l kind))) := by
  refine ASpec.of Tryd.func40 rfl rfl fun C hC => ?_
  refine AC.seq ?_
  refine AC.region ?_
  refine AL.q (by exact h_boxF rfl rfl) rfl ?_
  refine AL.p (by exact as1 rfl) rfl ?_
  refine AL.nil ?_
  refine th_n ?_
  refine AC.seq ?_
  refine AC.seq ?_
  refine AC.region ?_
  refine AL.p (by exact mv1 rfl) rfl ?_
  refine AL.p (by exact g_len_view rfl rfl (by exact List.length_map _)) rfl ?_
  refine AL.p (by exact mv1 rfl) rfl ?_
  refine AL.nil ?_
  refine th_n ?_
  refine AC.block ?_
  refine AC.loop (ι := Nat) (fun k => ⟨51, 0, [(3, .d (.ref (machD m))), (1, .d (vLabs l)), (2, aI kind), (9, .d (vLabs l)), (10, aI l.length), (11, aI k)], []⟩) (fun k => k ≤ l.length ∧ ∀ j (hj : j < l.length), j < k → labK m.sigs l kind j = true) (fun k => l.length - k) (0) ?_ (⟨Nat.zero_le _, fun j _ hj => by omega⟩) ?_
  · refine Weak.ren _ [] hC rfl ?_ ?_ rfl rfl rfl <;> repeat (first | exact True.intro | refine And.intro ?_ ?_ | exact DLead.same)
  · intro k ⟨hk, hall⟩
    refine AC.seq ?_
    refine AC.region ?_
    refine AL.p (by exact g_cmp rfl rfl rfl) rfl ?_
    refine AL.nil ?_
    refine th_n ?_
    refine AC.seq ?_
    refine AC.condD rfl (fun h0 => ?_) (fun h0 => ?_)
    · refine AC.skip ?_
      refine th_n ?_
      refine AC.seq ?_
      refine AC.block ?_
      refine AC.seq ?_
      have hk1 : k < l.length := by omega
      have hget := labsL_get hk1
      have hpre : 0 < k → (labsL l)[k - 1]? = some (labD (lAt l (k - 1))) := fun h => by rw [lAt_nat (show k - 1 < l.length by omega)]; exact labsL_get (by omega)
      refine AC.region ?_
      refine AL.p (by exact mv1 rfl) rfl ?_
      refine AL.p (by exact g_ia_view rfl rfl rfl rfl rfl (by rfl) (by assumption)) rfl ?_
      refine AL.p (by exact g_load_refN rfl rfl rfl rfl) rfl ?_
      refine AL.q (by exact h_alloc rfl) rfl ?_
      refine AL.p (by exact as1 rfl) rfl ?_
      refine AL.q (by exact h_store rfl rfl rfl rfl rfl rfl) rfl ?_
      refine AL.nil ?_
      refine th_n ?_
      refine AC.seq ?_
      refine AC.weak (Weak.freezeRef (ds := labD l[k]) 8 rfl rfl) ?_
      have hK := labK_at (s := m.sigs) (kind := kind) hk1
      have hW := l1In_spec l[k].sig 0 ((m.sigs.length : Int) - 1)
      have hTi : (!(decide (0 ≤ l[k].sig) && decide (l[k].sig ≤ (m.sigs.length : Int) - 1))) = false → l[k].sig = (l[k].sig.toNat : Int) := by intro q; simp at q; omega
      have hTg : (!(decide (0 ≤ l[k].sig) && decide (l[k].sig ≤ (m.sigs.length : Int) - 1))) = false → (sigsL m.sigs)[l[k].sig.toNat]? = some (sigD (sAt m.sigs l[k].sig.toNat)) := by intro q; have q2 : l[k].sig.toNat < m.sigs.length := by { simp at q; omega }; rw [sAt_nat q2]; exact sigsL_get q2
      obtain ⟨b1, hb1⟩ : ∃ b, b = (decide (0 ≤ l[k].sig) && decide (l[k].sig ≤ (m.sigs.length : Int) - 1)) := ⟨_, rfl⟩
      rw [← hb1] at hW hK hTi hTg
      clear hb1
      refine AC.drawn' mixed_ok [[], [0], [], [2], [2,3], [2,3,4], [0,1,2,3,4,5], [0,1,2,3,4,5,6], [0,1,2,3,4,5,6,7], [0,1,2,3,4,5,6,7,8], [0,1,2,3,4,5,6,7,8,9], [0,1,2,3,4,5,6,7,8], [0,1,2,3,4,5,6,7,8,11], [0,1,2,3,4,5,6,7,8,9,10,11,12], [0,1,2,3,4,5,6,7,8,9,10,11,12,13], [0,1,2,3,4,5,6,7,8,9,10,11,12,13,14], [0,1,2,3,4,5,6,7,8], [0,1,2,3,4,5,6,7,8,9,10,11,12,13,14,15,16], [0,1,2,3,4,5,6,7,8,9,10,11,12,13,14,15,16,17], [0,1,2,3,4,5,6,7,8,9,10,11,12,13,14,15,16,17,18], [0,1,2,3,4,5,6,7,8,9,10,11,12,13,14,15,16,17,18,19], [0,1,2,3,4,5,6,7,8,9,10,11,12,13,14,15,16,17,18,19,20], [0,1,2,3,4,5,6,7,8,9,10,11,12,13,14,15,16,17,18,19,20,21], [0,1,2,3,4,5,6,7,8,9,10,11,12,13,14,15,16,17,18,19,20,21,22], [0,1,2,3,4,5,6,7,8,9,10,11,12,13,14,15,16,17,18,19,20,21,22], [0,1,2,3,4,5,6,7,8,9,10,11,12,13,14,15,16,17,18,19,20,21,22,24], [0,1,2,3,4,5,6,7,8,9,10,11,12,13,14,15,16,17,18,19,20,21,22,23,24,25], [0,1,2,3,4,5,6,7,8,9,10,11,12,13,14,15,16,17,18,19,20,21,22,23,24,25,26], [0,1,2,3,4,5,6,7,8,9,10,11,12,13,14,15,16,17,18,19,20,21,22,23,24,25,26,27], [0,1,2,3,4,5,6,7,8,9,10,11,12,13,14,15,16,17,18,19,20,21,22], [0,1,2,3,4,5,6,7,8,9,10,11,12,13,14,15,16,17,18,19,20,21,22,29], [0,1,2,3,4,5,6,7,8,9,10,11,12,13,14,15,16,17,18,19,20,21,22,23,24,25,26,27,28,29,30], [0,1,2,3,4,5,6,7,8,9,10,11,12,13,14,15,16,17,18,19,20,21,22,23,24,25,26,27,28,29,30,31], [0,1,2,3,4,5,6,7,8,9,10,11,12,13,14,15,16,17,18,19,20,21,22,23,24,25,26,27,28,29,30,31,32]] (by decide) ?_
      refine DF.op 0 [] 34 rfl rfl rfl (.free rfl (NOp.of (by exact g_fa_ref rfl rfl rfl rfl rfl rfl))) rfl ?_
      refine DF.op 1 [0] 34 rfl rfl rfl (.free rfl (NOp.of (by exact g_load_ref rfl rfl rfl))) rfl ?_
      refine DF.op 2 [] 34 rfl rfl rfl (.free rfl (NOp.of (by exact g_fa_ref rfl rfl rfl rfl rfl rfl))) rfl ?_
      refine DF.op 3 [2] 34 rfl rfl rfl (.free rfl (NOp.of (by exact g_load_ref rfl rfl rfl))) rfl ?_
      refine DF.op 4 [2,3] 34 rfl rfl rfl (.free rfl (NOp.of (by exact g_len_view rfl rfl (by exact List.length_map _)))) rfl ?_
      refine DF.op 5 [2,3,4] 34 rfl rfl rfl (.free rfl (NOp.of (by exact g_arith rfl rfl rfl (by exact wrap_i64 (by omega))))) rfl ?_
      refine DF.op 6 [0,1,2,3,4,5] 34 rfl rfl rfl (.free rfl (by exact h_pure en_l1In rfl rfl (by repeat (first | exact rfl | exact DLead.same | refine ⟨_, _, rfl, ?_, ?_⟩)) hW rfl)) rfl ?_
      refine DF.op 7 [0,1,2,3,4,5,6] 34 rfl rfl rfl (.free rfl (NOp.of (by exact g_not rfl))) rfl ?_
      refine DF.op 8 [0,1,2,3,4,5,6,7] 34 rfl rfl rfl (.free rfl (NOp.of (by exact mv1 rfl))) rfl ?_
      refine DF.caseB 8 rfl (fun h1 => ?_) (fun h1 => ?_)
      · refine DF.op (ids := []) 9 [0,1,2,3,4,5,6,7,8] 34 rfl rfl rfl (.no rfl rfl rfl rfl rfl rfl) rfl ?_
        refine DF.op (ids := []) 10 [0,1,2,3,4,5,6,7,8,9] 34 rfl rfl rfl (.no rfl rfl rfl rfl rfl rfl) rfl ?_
        refine DF.op (ids := []) 11 [0,1,2,3,4,5,6,7,8] 34 rfl rfl rfl (.no rfl rfl rfl rfl rfl rfl) rfl ?_
        refine DF.op (ids := []) 12 [0,1,2,3,4,5,6,7,8,11] 34 rfl rfl rfl (.no rfl rfl rfl rfl rfl rfl) rfl ?_
        refine DF.op (ids := []) 13 [0,1,2,3,4,5,6,7,8,9,10,11,12] 34 rfl rfl rfl (.no rfl rfl rfl rfl rfl rfl) rfl ?_
        refine DF.op (ids := []) 14 [0,1,2,3,4,5,6,7,8,9,10,11,12,13] 34 rfl rfl rfl (.no rfl rfl rfl rfl rfl rfl) rfl ?_
        refine DF.op (ids := []) 15 [0,1,2,3,4,5,6,7,8,9,10,11,12,13,14] 34 rfl rfl rfl (.no rfl rfl rfl rfl rfl rfl) rfl ?_
        refine DF.op (ids := []) 16 [0,1,2,3,4,5,6,7,8] 34 rfl rfl rfl (.no rfl rfl rfl rfl rfl rfl) rfl ?_
        refine DF.op (ids := []) 17 [0,1,2,3,4,5,6,7,8,9,10,11,12,13,14,15,16] 34 rfl rfl rfl (.no rfl rfl rfl rfl rfl rfl) rfl ?_
        refine DF.op 18 [0,1,2,3,4,5,6,7,8,9,10,11,12,13,14,15,16,17] 34 rfl rfl rfl (.free rfl (NOp.of (by exact g_pickT (r := .d _) rfl rfl))) rfl ?_
        refine DF.op 19 [0,1,2,3,4,5,6,7,8,9,10,11,12,13,14,15,16,17,18] 34 rfl rfl rfl (.free rfl (NOp.of (by exact mv1 rfl))) rfl ?_
        refine DF.op (ids := []) 20 [0,1,2,3,4,5,6,7,8,9,10,11,12,13,14,15,16,17,18,19] 34 rfl rfl rfl (.no rfl rfl rfl rfl rfl rfl) rfl ?_
        refine DF.op (ids := []) 21 [0,1,2,3,4,5,6,7,8,9,10,11,12,13,14,15,16,17,18,19,20] 34 rfl rfl rfl (.no rfl rfl rfl rfl rfl rfl) rfl ?_
        refine DF.op (ids := []) 22 [0,1,2,3,4,5,6,7,8,9,10,11,12,13,14,15,16,17,18,19,20,21] 34 rfl rfl rfl (.no rfl rfl rfl rfl rfl rfl) rfl ?_
        refine DF.op (ids := []) 23 [0,1,2,3,4,5,6,7,8,9,10,11,12,13,14,15,16,17,18,19,20,21,22] 34 rfl rfl rfl (.noU rfl rfl rfl rfl) rfl ?_
        refine DF.op (ids := []) 24 [0,1,2,3,4,5,6,7,8,9,10,11,12,13,14,15,16,17,18,19,20,21,22] 34 rfl rfl rfl (.noU rfl rfl rfl rfl) rfl ?_
        refine DF.op (ids := []) 25 [0,1,2,3,4,5,6,7,8,9,10,11,12,13,14,15,16,17,18,19,20,21,22,24] 34 rfl rfl rfl (.noU rfl rfl rfl rfl) rfl ?_
        refine DF.op (ids := []) 26 [0,1,2,3,4,5,6,7,8,9,10,11,12,13,14,15,16,17,18,19,20,21,22,23,24,25] 34 rfl rfl rfl (.noU rfl rfl rfl rfl) rfl ?_
        refine DF.op (ids := []) 27 [0,1,2,3,4,5,6,7,8,9,10,11,12,13,14,15,16,17,18,19,20,21,22,23,24,25,26] 34 rfl rfl rfl (.noU rfl rfl rfl rfl) rfl ?_
        refine DF.op (ids := []) 28 [0,1,2,3,4,5,6,7,8,9,10,11,12,13,14,15,16,17,18,19,20,21,22,23,24,25,26,27] 34 rfl rfl rfl (.noU rfl rfl rfl rfl) rfl ?_
        refine DF.op (ids := []) 29 [0,1,2,3,4,5,6,7,8,9,10,11,12,13,14,15,16,17,18,19,20,21,22] 34 rfl rfl rfl (.noU rfl rfl rfl rfl) rfl ?_
        refine DF.op (ids := []) 30 [0,1,2,3,4,5,6,7,8,9,10,11,12,13,14,15,16,17,18,19,20,21,22,29] 34 rfl rfl rfl (.noU rfl rfl rfl rfl) rfl ?_
        refine DF.op (ids := []) 31 [0,1,2,3,4,5,6,7,8,9,10,11,12,13,14,15,16,17,18,19,20,21,22,23,24,25,26,27,28,29,30] 34 rfl rfl rfl (.noU rfl rfl rfl rfl) rfl ?_
        refine DF.op (ids := []) 32 [0,1,2,3,4,5,6,7,8,9,10,11,12,13,14,15,16,17,18,19,20,21,22,23,24,25,26,27,28,29,30,31] 34 rfl rfl rfl (.no rfl rfl rfl rfl rfl rfl) rfl ?_
        refine DF.op 33 [0,1,2,3,4,5,6,7,8,9,10,11,12,13,14,15,16,17,18,19,20,21,22,23,24,25,26,27,28,29,30,31,32] 34 rfl rfl rfl (.free rfl (NOp.of (by exact g_pickT (r := .d _) rfl rfl))) rfl ?_
        refine DF.fin (ps := [(0, 2), (0, 3), (0, 4), (0, 5), (1, 2), (1, 3), (1, 4), (1, 5), (2, 0), (2, 1), (3, 0), (3, 1), (4, 0), (4, 1), (5, 0), (5, 1), (9, 11), (9, 12), (9, 16), (10, 11), (10, 12), (10, 16), (11, 9), (11, 10), (11, 16), (12, 9), (12, 10), (12, 16), (13, 16), (14, 16), (15, 16), (16, 9), (16, 10), (16, 11), (16, 12), (16, 13), (16, 14), (16, 15), (23, 24), (23, 25), (23, 29), (23, 30), (24, 23), (24, 29), (24, 30), (25, 23), (25, 29), (25, 30), (26, 29), (26, 30), (27, 29), (27, 30), (28, 29), (28, 30), (29, 23), (29, 24), (29, 25), (29, 26), (29, 27), (29, 28), (30, 23), (30, 24), (30, 25), (30, 26), (30, 27), (30, 28)]) 34 rfl (by decide +kernel) (by decide +kernel) (by rfl) ?_
        refine th_n ?_
        refine AC.condT rfl ?_
        refine AC.seq ?_
        refine AC.region ?_
        refine AL.p (by exact as1 rfl) rfl ?_
        refine AL.nil ?_
        refine th_n ?_
        refine AC.ret ?_
        refine ib_r ?_
        refine th_r ?_
        refine th_r ?_
        refine ib_r ?_
        refine th_r ?_
        refine bq_r ?_
        have hno : labK m.sigs l kind k = false := by clear hTi hTg hpre hall hget hW; rw [hK]; simp_all
        exact ret1 rfl (by rw [labsB_no hk1 hno])
      · refine DF.op 9 [0,1,2,3,4,5,6,7,8] 34 rfl rfl rfl (.yes rfl rfl rfl rfl (NOp.of (by exact g_fa_ref rfl rfl rfl rfl rfl rfl))) rfl ?_
        refine DF.op 10 [0,1,2,3,4,5,6,7,8,9] 34 rfl rfl rfl (.yes rfl rfl rfl rfl (NOp.of (by exact g_load_ref rfl rfl rfl))) rfl ?_
        refine DF.op 11 [0,1,2,3,4,5,6,7,8] 34 rfl rfl rfl (.yes rfl rfl rfl rfl (NOp.of (by exact g_fa_ref rfl rfl rfl rfl rfl rfl))) rfl ?_
        refine DF.op 12 [0,1,2,3,4,5,6,7,8,11] 34 rfl rfl rfl (.yes rfl rfl rfl rfl (NOp.of (by exact g_load_ref rfl rfl rfl))) rfl ?_
        refine DF.op 13 [0,1,2,3,4,5,6,7,8,9,10,11,12] 34 rfl rfl rfl (.yes rfl rfl rfl rfl (NOp.of (by exact g_ia_view (i := l[k].sig.toNat) rfl rfl rfl rfl rfl (hTi h1) (hTg h1)))) rfl ?_
        refine DF.op 14 [0,1,2,3,4,5,6,7,8,9,10,11,12,13] 34 rfl rfl rfl (.yes rfl rfl rfl rfl (NOp.of (by exact g_fa_ref rfl rfl rfl rfl rfl rfl))) rfl ?_
        refine DF.op 15 [0,1,2,3,4,5,6,7,8,9,10,11,12,13,14] 34 rfl rfl rfl (.yes rfl rfl rfl rfl (NOp.of (by exact g_load_ref rfl rfl rfl))) rfl ?_
        refine DF.op 16 [0,1,2,3,4,5,6,7,8] 34 rfl rfl rfl (.yes rfl rfl rfl rfl (NOp.of (by exact mv1 rfl))) rfl ?_
        refine DF.op 17 [0,1,2,3,4,5,6,7,8,9,10,11,12,13,14,15,16] 34 rfl rfl rfl (.yes rfl rfl rfl rfl (NOp.of (by exact g_cmp rfl rfl rfl))) rfl ?_
        refine DF.op 18 [0,1,2,3,4,5,6,7,8,9,10,11,12,13,14,15,16,17] 34 rfl rfl rfl (.free rfl (NOp.of (by exact g_pickF (r := .d _) rfl rfl))) rfl ?_
        refine DF.op 19 [0,1,2,3,4,5,6,7,8,9,10,11,12,13,14,15,16,17,18] 34 rfl rfl rfl (.free rfl (NOp.of (by exact mv1 rfl))) rfl ?_
        refine DF.caseB 19 rfl (fun h2 => ?_) (fun h2 => ?_)
        · refine DF.op (ids := []) 20 [0,1,2,3,4,5,6,7,8,9,10,11,12,13,14,15,16,17,18,19] 34 rfl rfl rfl (.no rfl rfl rfl rfl rfl rfl) rfl ?_
          refine DF.op (ids := []) 21 [0,1,2,3,4,5,6,7,8,9,10,11,12,13,14,15,16,17,18,19,20] 34 rfl rfl rfl (.no rfl rfl rfl rfl rfl rfl) rfl ?_
          refine DF.op (ids := []) 22 [0,1,2,3,4,5,6,7,8,9,10,11,12,13,14,15,16,17,18,19,20,21] 34 rfl rfl rfl (.no rfl rfl rfl rfl rfl rfl) rfl ?_
          refine DF.op (ids := []) 23 [0,1,2,3,4,5,6,7,8,9,10,11,12,13,14,15,16,17,18,19,20,21,22] 34 rfl rfl rfl (.noU rfl rfl rfl rfl) rfl ?_
          refine DF.op (ids := []) 24 [0,1,2,3,4,5,6,7,8,9,10,11,12,13,14,15,16,17,18,19,20,21,22] 34 rfl rfl rfl (.noU rfl rfl rfl rfl) rfl ?_
          refine DF.op (ids := []) 25 [0,1,2,3,4,5,6,7,8,9,10,11,12,13,14,15,16,17,18,19,20,21,22,24] 34 rfl rfl rfl (.noU rfl rfl rfl rfl) rfl ?_
          refine DF.op (ids := []) 26 [0,1,2,3,4,5,6,7,8,9,10,11,12,13,14,15,16,17,18,19,20,21,22,23,24,25] 34 rfl rfl rfl (.noU rfl rfl rfl rfl) rfl ?_
          refine DF.op (ids := []) 27 [0,1,2,3,4,5,6,7,8,9,10,11,12,13,14,15,16,17,18,19,20,21,22,23,24,25,26] 34 rfl rfl rfl (.noU rfl rfl rfl rfl) rfl ?_
          refine DF.op (ids := []) 28 [0,1,2,3,4,5,6,7,8,9,10,11,12,13,14,15,16,17,18,19,20,21,22,23,24,25,26,27] 34 rfl rfl rfl (.noU rfl rfl rfl rfl) rfl ?_
          refine DF.op (ids := []) 29 [0,1,2,3,4,5,6,7,8,9,10,11,12,13,14,15,16,17,18,19,20,21,22] 34 rfl rfl rfl (.noU rfl rfl rfl rfl) rfl ?_
          refine DF.op (ids := []) 30 [0,1,2,3,4,5,6,7,8,9,10,11,12,13,14,15,16,17,18,19,20,21,22,29] 34 rfl rfl rfl (.noU rfl rfl rfl rfl) rfl ?_
          refine DF.op (ids := []) 31 [0,1,2,3,4,5,6,7,8,9,10,11,12,13,14,15,16,17,18,19,20,21,22,23,24,25,26,27,28,29,30] 34 rfl rfl rfl (.noU rfl rfl rfl rfl) rfl ?_
          refine DF.op (ids := []) 32 [0,1,2,3,4,5,6,7,8,9,10,11,12,13,14,15,16,17,18,19,20,21,22,23,24,25,26,27,28,29,30,31] 34 rfl rfl rfl (.no rfl rfl rfl rfl rfl rfl) rfl ?_
          refine DF.op 33 [0,1,2,3,4,5,6,7,8,9,10,11,12,13,14,15,16,17,18,19,20,21,22,23,24,25,26,27,28,29,30,31,32] 34 rfl rfl rfl (.free rfl (NOp.of (by exact g_pickT (r := .d _) rfl rfl))) rfl ?_
          refine DF.fin (ps := [(0, 2), (0, 3), (0, 4), (0, 5), (1, 2), (1, 3), (1, 4), (1, 5), (2, 0), (2, 1), (3, 0), (3, 1), (4, 0), (4, 1), (5, 0), (5, 1), (9, 11), (9, 12), (9, 16), (10, 11), (10, 12), (10, 16), (11, 9), (11, 10), (11, 16), (12, 9), (12, 10), (12, 16), (13, 16), (14, 16), (15, 16), (16, 9), (16, 10), (16, 11), (16, 12), (16, 13), (16, 14), (16, 15), (23, 24), (23, 25), (23, 29), (23, 30), (24, 23), (24, 29), (24, 30), (25, 23), (25, 29), (25, 30), (26, 29), (26, 30), (27, 29), (27, 30), (28, 29), (28, 30), (29, 23), (29, 24), (29, 25), (29, 26), (29, 27), (29, 28), (30, 23), (30, 24), (30, 25), (30, 26), (30, 27), (30, 28)]) 34 rfl (by decide +kernel) (by decide +kernel) (by rfl) ?_
          refine th_n ?_
          refine AC.condT rfl ?_
          refine AC.seq ?_
          refine AC.region ?_
          refine AL.p (by exact as1 rfl) rfl ?_
          refine AL.nil ?_
          refine th_n ?_
          refine AC.ret ?_
          refine ib_r ?_
          refine th_r ?_
          refine th_r ?_
          refine ib_r ?_
          refine th_r ?_
          refine bq_r ?_
          have hno : labK m.sigs l kind k = false := by clear hTi hTg hpre hall hget hW; rw [hK]; simp_all
          exact ret1 rfl (by rw [labsB_no hk1 hno])
        · refine DF.op 20 [0,1,2,3,4,5,6,7,8,9,10,11,12,13,14,15,16,17,18,19] 34 rfl rfl rfl (.yes rfl rfl rfl rfl (NOp.of (by exact mv1 rfl))) rfl ?_
          refine DF.op 21 [0,1,2,3,4,5,6,7,8,9,10,11,12,13,14,15,16,17,18,19,20] 34 rfl rfl rfl (.yes rfl rfl rfl rfl (NOp.of (by exact g_cmp rfl rfl rfl))) rfl ?_
          refine DF.op 22 [0,1,2,3,4,5,6,7,8,9,10,11,12,13,14,15,16,17,18,19,20,21] 34 rfl rfl rfl (.yes rfl rfl rfl rfl (NOp.of (by exact mv1 rfl))) rfl ?_
          refine DF.caseD 22 rfl (fun h3 => ?_) (fun h3 => ?_)
          · refine DF.op 23 [0,1,2,3,4,5,6,7,8,9,10,11,12,13,14,15,16,17,18,19,20,21,22] 34 rfl rfl rfl (.yes rfl rfl rfl rfl (NOp.of (by exact mv1 rfl))) rfl ?_
            refine DF.op 24 [0,1,2,3,4,5,6,7,8,9,10,11,12,13,14,15,16,17,18,19,20,21,22] 34 rfl rfl rfl (.yes rfl rfl rfl rfl (NOp.of (by exact mv1 rfl))) rfl ?_
            refine DF.op 25 [0,1,2,3,4,5,6,7,8,9,10,11,12,13,14,15,16,17,18,19,20,21,22,24] 34 rfl rfl rfl (.yes rfl rfl rfl rfl (NOp.of (by exact g_arith rfl rfl rfl (by exact wrap_i64 (by omega))))) rfl ?_
            refine DF.op 26 [0,1,2,3,4,5,6,7,8,9,10,11,12,13,14,15,16,17,18,19,20,21,22,23,24,25] 34 rfl rfl rfl (.yes rfl rfl rfl rfl (NOp.of (by exact g_ia_view (i := k - 1) rfl rfl rfl rfl rfl (by omega) (hpre (by omega))))) rfl ?_
            refine DF.op 27 [0,1,2,3,4,5,6,7,8,9,10,11,12,13,14,15,16,17,18,19,20,21,22,23,24,25,26] 34 rfl rfl rfl (.yes rfl rfl rfl rfl (NOp.of (by exact g_fa_ref rfl rfl rfl rfl rfl rfl))) rfl ?_
            refine DF.op 28 [0,1,2,3,4,5,6,7,8,9,10,11,12,13,14,15,16,17,18,19,20,21,22,23,24,25,26,27] 34 rfl rfl rfl (.yes rfl rfl rfl rfl (NOp.of (by exact g_load_ref rfl rfl rfl))) rfl ?_
            refine DF.op 29 [0,1,2,3,4,5,6,7,8,9,10,11,12,13,14,15,16,17,18,19,20,21,22] 34 rfl rfl rfl (.yes rfl rfl rfl rfl (NOp.of (by exact g_fa_ref rfl rfl rfl rfl rfl rfl))) rfl ?_
            refine DF.op 30 [0,1,2,3,4,5,6,7,8,9,10,11,12,13,14,15,16,17,18,19,20,21,22,29] 34 rfl rfl rfl (.yes rfl rfl rfl rfl (NOp.of (by exact g_load_ref rfl rfl rfl))) rfl ?_
            refine DF.op 31 [0,1,2,3,4,5,6,7,8,9,10,11,12,13,14,15,16,17,18,19,20,21,22,23,24,25,26,27,28,29,30] 34 rfl rfl rfl (.yes rfl rfl rfl rfl (NOp.of (by exact g_cmp rfl rfl rfl))) rfl ?_
            refine DF.op 32 [0,1,2,3,4,5,6,7,8,9,10,11,12,13,14,15,16,17,18,19,20,21,22,23,24,25,26,27,28,29,30,31] 34 rfl rfl rfl (.yes rfl rfl rfl rfl (NOp.of (by exact g_pickT (r := .d _) rfl rfl))) rfl ?_
            refine DF.op 33 [0,1,2,3,4,5,6,7,8,9,10,11,12,13,14,15,16,17,18,19,20,21,22,23,24,25,26,27,28,29,30,31,32] 34 rfl rfl rfl (.free rfl (NOp.of (by exact g_pickF (r := .d _) rfl rfl))) rfl ?_
            refine DF.fin (ps := [(0, 2), (0, 3), (0, 4), (0, 5), (1, 2), (1, 3), (1, 4), (1, 5), (2, 0), (2, 1), (3, 0), (3, 1), (4, 0), (4, 1), (5, 0), (5, 1), (9, 11), (9, 12), (9, 16), (10, 11), (10, 12), (10, 16), (11, 9), (11, 10), (11, 16), (12, 9), (12, 10), (12, 16), (13, 16), (14, 16), (15, 16), (16, 9), (16, 10), (16, 11), (16, 12), (16, 13), (16, 14), (16, 15), (23, 24), (23, 25), (23, 29), (23, 30), (24, 23), (24, 29), (24, 30), (25, 23), (25, 29), (25, 30), (26, 29), (26, 30), (27, 29), (27, 30), (28, 29), (28, 30), (29, 23), (29, 24), (29, 25), (29, 26), (29, 27), (29, 28), (30, 23), (30, 24), (30, 25), (30, 26), (30, 27), (30, 28)]) 34 rfl (by decide +kernel) (by decide +kernel) (by rfl) ?_
            refine th_n ?_
            refine AC.condD rfl (fun h4 => ?_) (fun h4 => ?_)
            · refine AC.seq ?_
              refine AC.region ?_
              refine AL.p (by exact as1 rfl) rfl ?_
              refine AL.nil ?_
              refine th_n ?_
              refine AC.ret ?_
              refine ib_r ?_
              refine th_r ?_
              refine th_r ?_
              refine ib_r ?_
              refine th_r ?_
              refine bq_r ?_
              have hno : labK m.sigs l kind k = false := by clear hTi hTg hpre hall hget hW; rw [hK]; simp_all
              exact ret1 rfl (by rw [labsB_no hk1 hno])
            · refine AC.skip ?_
              refine ib_n ?_
              refine th_n ?_
              refine AC.region ?_
              refine AL.p (by exact g_arith rfl rfl rfl (by exact wrap_i64 (by omega))) rfl ?_
              refine AL.p (by exact mv1 rfl) rfl ?_
              refine AL.nil ?_
              refine th_n ?_
              have hyes : labK m.sigs l kind k = true := by clear hTi hTg hpre hall hget hW; rw [hK]; simp_all
              exact ⟨k + 1, ⟨by omega, fun j hj hj2 => by rcases Nat.lt_succ_iff_lt_or_eq.1 hj2 with h | rfl; exact hall j hj h; exact hyes⟩, by omega, Weak.ren _ [] hC rfl (by repeat (first | exact True.intro | refine And.intro ?_ ?_ | exact DLead.same)) (by repeat (exact True.intro)) rfl rfl rfl⟩
          · refine DF.op (ids := []) 23 [0,1,2,3,4,5,6,7,8,9,10,11,12,13,14,15,16,17,18,19,20,21,22] 34 rfl rfl rfl (.no rfl rfl rfl rfl rfl rfl) rfl ?_
            refine DF.op (ids := []) 24 [0,1,2,3,4,5,6,7,8,9,10,11,12,13,14,15,16,17,18,19,20,21,22] 34 rfl rfl rfl (.no rfl rfl rfl rfl rfl rfl) rfl ?_
            refine DF.op (ids := []) 25 [0,1,2,3,4,5,6,7,8,9,10,11,12,13,14,15,16,17,18,19,20,21,22,24] 34 rfl rfl rfl (.no rfl rfl rfl rfl rfl rfl) rfl ?_
            refine DF.op (ids := []) 26 [0,1,2,3,4,5,6,7,8,9,10,11,12,13,14,15,16,17,18,19,20,21,22,23,24,25] 34 rfl rfl rfl (.no rfl rfl rfl rfl rfl rfl) rfl ?_
            refine DF.op (ids := []) 27 [0,1,2,3,4,5,6,7,8,9,10,11,12,13,14,15,16,17,18,19,20,21,22,23,24,25,26] 34 rfl rfl rfl (.no rfl rfl rfl rfl rfl rfl) rfl ?_
            refine DF.op (ids := []) 28 [0,1,2,3,4,5,6,7,8,9,10,11,12,13,14,15,16,17,18,19,20,21,22,23,24,25,26,27] 34 rfl rfl rfl (.no rfl rfl rfl rfl rfl rfl) rfl ?_
            refine DF.op (ids := []) 29 [0,1,2,3,4,5,6,7,8,9,10,11,12,13,14,15,16,17,18,19,20,21,22] 34 rfl rfl rfl (.no rfl rfl rfl rfl rfl rfl) rfl ?_
            refine DF.op (ids := []) 30 [0,1,2,3,4,5,6,7,8,9,10,11,12,13,14,15,16,17,18,19,20,21,22,29] 34 rfl rfl rfl (.no rfl rfl rfl rfl rfl rfl) rfl ?_
            refine DF.op (ids := []) 31 [0,1,2,3,4,5,6,7,8,9,10,11,12,13,14,15,16,17,18,19,20,21,22,23,24,25,26,27,28,29,30] 34 rfl rfl rfl (.no rfl rfl rfl rfl rfl rfl) rfl ?_
            refine DF.op 32 [0,1,2,3,4,5,6,7,8,9,10,11,12,13,14,15,16,17,18,19,20,21,22,23,24,25,26,27,28,29,30,31] 34 rfl rfl rfl (.yes rfl rfl rfl rfl (NOp.of (by exact g_pickF (r := .d _) rfl rfl))) rfl ?_
            refine DF.op 33 [0,1,2,3,4,5,6,7,8,9,10,11,12,13,14,15,16,17,18,19,20,21,22,23,24,25,26,27,28,29,30,31,32] 34 rfl rfl rfl (.free rfl (NOp.of (by exact g_pickF (r := .d _) rfl rfl))) rfl ?_
            refine DF.fin (ps := [(0, 2), (0, 3), (0, 4), (0, 5), (1, 2), (1, 3), (1, 4), (1, 5), (2, 0), (2, 1), (3, 0), (3, 1), (4, 0), (4, 1), (5, 0), (5, 1), (9, 11), (9, 12), (9, 16), (10, 11), (10, 12), (10, 16), (11, 9), (11, 10), (11, 16), (12, 9), (12, 10), (12, 16), (13, 16), (14, 16), (15, 16), (16, 9), (16, 10), (16, 11), (16, 12), (16, 13), (16, 14), (16, 15), (23, 24), (23, 25), (23, 29), (23, 30), (24, 23), (24, 29), (24, 30), (25, 23), (25, 29), (25, 30), (26, 29), (26, 30), (27, 29), (27, 30), (28, 29), (28, 30), (29, 23), (29, 24), (29, 25), (29, 26), (29, 27), (29, 28), (30, 23), (30, 24), (30, 25), (30, 26), (30, 27), (30, 28)]) 34 rfl (by decide +kernel) (by decide +kernel) (by rfl) ?_
            refine th_n ?_
            refine AC.condF rfl ?_
            refine AC.skip ?_
            refine ib_n ?_
            refine th_n ?_
            refine AC.region ?_
            refine AL.p (by exact g_arith rfl rfl rfl (by exact wrap_i64 (by omega))) rfl ?_
            refine AL.p (by exact mv1 rfl) rfl ?_
            refine AL.nil ?_
            refine th_n ?_
            have hyes : labK m.sigs l kind k = true := by clear hTi hTg hpre hall hget hW; rw [hK]; simp_all
            exact ⟨k + 1, ⟨by omega, fun j hj hj2 => by rcases Nat.lt_succ_iff_lt_or_eq.1 hj2 with h | rfl; exact hall j hj h; exact hyes⟩, by omega, Weak.ren _ [] hC rfl (by repeat (first | exact True.intro | refine And.intro ?_ ?_ | exact DLead.same)) (by repeat (exact True.intro)) rfl rfl rfl⟩
    · refine AC.exit ?_
      refine th_e ?_
      refine th_e ?_
      refine ib_y ?_
      refine th_n ?_
      refine AC.seq ?_
      refine AC.region ?_
      refine AL.p (by exact as1 rfl) rfl ?_
      refine AL.nil ?_
      refine th_n ?_
      refine AC.ret ?_
      refine bq_r ?_
      exact ret1 rfl (by rw [labsB, allK_yes (fun j hj => hall j hj (by omega))])
theorem en_l24Labels : Enters Tryd.prog 40 := enters_of Tryd.func40 rfl rfl
theorem pairB_at {l : List Bur} {i k : Nat} (hi : i < l.length) (hk : k < l.length) : pairB l i k = (!(decide ((i : Int) ≠ (k : Int)) && (decide (l[i].from_ = l[k].from_) && amongB l[i].inn l[k].inn))) := by
  unfold pairB
  rw [bAt_nat hi, bAt_nat hk]
  have : (decide ((i : Int) ≠ (k : Int))) = !decide (i = k) := by
    by_cases h : i = k
    · subst h; simp
    · rw [decide_eq_false h, decide_eq_true (by omega)]; rfl
  rw [this]
  cases decide (i = k) <;> cases decide (l[i].from_ = l[k].from_) <;> cases amongB l[i].inn l[k].inn <;> rfl
set_option maxHeartbeats 1000000 in
theorem isMaximal_spec (l : List Bur) (hl : l.length ≤ 1048576) (hb : ∀ t, t ∈ l → t.inn.length ≤ 1048576 ∧ t.out.length ≤ 1048576) : ASpec Tryd.prog 53 [.d (vBurs l)] [] (Pure1 (aT (maxB l))) := by
  refine ASpec.of Tryd.func53 rfl rfl fun C hC => ?_
  refine AC.seq ?_
  refine AC.region ?_
  refine AL.p (by exact as1 rfl) rfl ?_
  refine AL.nil ?_
  refine th_n ?_
  refine AC.seq ?_
  refine AC.seq ?_
  refine AC.region ?_
  refine AL.p (by exact mv1 rfl) rfl ?_
  refine AL.p (by exact g_len_view rfl rfl (by exact List.length_map _)) rfl ?_
  refine AL.p (by exact mv1 rfl) rfl ?_
  refine AL.nil ?_
  refine th_n ?_
  refine AC.block ?_
  refine AC.loop (ι := Nat) (fun i => ⟨40, 0, [(0, .d (vBurs l)), (7, .d (vBurs l)), (8, aI l.length), (9, aI i)], []⟩) (fun i => i ≤ l.length ∧ ∀ j, j < i → allK (pairB l j) l.length = true) (fun i => l.length - i) (0) ?_ (⟨Nat.zero_le _, fun j hj => by omega⟩) ?_
  · refine Weak.ren _ [] hC rfl ?_ ?_ rfl rfl rfl <;> repeat (first | exact True.intro | refine And.intro ?_ ?_ | exact DLead.same)
  · intro i ⟨hi, hall⟩
    refine AC.seq ?_
    refine AC.region ?_
    refine AL.p (by exact g_cmp rfl rfl rfl) rfl ?_
    refine AL.nil ?_
    refine th_n ?_
    refine AC.seq ?_
    refine AC.condD rfl (fun h0 => ?_) (fun h0 => ?_)
    · refine AC.skip ?_
      refine th_n ?_
      refine AC.seq ?_
      refine AC.block ?_
      refine AC.seq ?_
      have hi1 : i < l.length := by omega
      have hget := bursL_get hi1
      refine AC.region ?_
      refine AL.p (by exact mv1 rfl) rfl ?_
      refine AL.p (by exact g_ia_view rfl rfl rfl rfl rfl (by rfl) (by assumption)) rfl ?_
      refine AL.p (by exact g_load_refN rfl rfl rfl rfl) rfl ?_
      refine AL.q (by exact h_alloc rfl) rfl ?_
      refine AL.p (by exact as1 rfl) rfl ?_
      refine AL.q (by exact h_store rfl rfl rfl rfl rfl rfl) rfl ?_
      refine AL.nil ?_
      refine th_n ?_
      refine AC.seq ?_
      refine AC.weak (Weak.freezeRef (ds := burD l[i]) 4 rfl rfl) ?_
      refine AC.region ?_
      refine AL.p (by exact mv1 rfl) rfl ?_
      refine AL.p (by exact g_len_view rfl rfl (by exact List.length_map _)) rfl ?_
      refine AL.p (by exact mv1 rfl) rfl ?_
      refine AL.nil ?_
      refine th_n ?_
      refine AC.block ?_
      refine AC.loop (ι := Nat) (fun k => ⟨40, 0, [(0, .d (vBurs l)), (7, .d (vBurs l)), (8, aI l.length), (9, aI i), (3, aI i), (4, .d (.ref (burD l[i]))), (14, .d (vBurs l)), (15, aI l.length), (16, aI k)], []⟩) (fun k => k ≤ l.length ∧ ∀ j, j < k → pairB l i j = true) (fun k => l.length - k) (0) ?_ (⟨Nat.zero_le _, fun j hj => by omega⟩) ?_
      · refine Weak.ren _ [] hC rfl ?_ ?_ rfl rfl rfl <;> repeat (first | exact True.intro | refine And.intro ?_ ?_ | exact DLead.same)
      · intro k ⟨hk, hal2⟩
        refine AC.seq ?_
        refine AC.region ?_
        refine AL.p (by exact g_cmp rfl rfl rfl) rfl ?_
        refine AL.nil ?_
        refine th_n ?_
        refine AC.seq ?_
        refine AC.condD rfl (fun h1 => ?_) (fun h1 => ?_)
        · refine AC.skip ?_
          refine th_n ?_
          refine AC.seq ?_
          refine AC.block ?_
          refine AC.seq ?_
          have hk1 : k < l.length := by omega
          have hget2 := bursL_get hk1
          refine AC.region ?_
          refine AL.p (by exact mv1 rfl) rfl ?_
          refine AL.p (by exact g_ia_view rfl rfl rfl rfl rfl (by rfl) (by assumption)) rfl ?_
          refine AL.p (by exact g_load_refN rfl rfl rfl rfl) rfl ?_
          refine AL.q (by exact h_alloc rfl) rfl ?_
          refine AL.p (by exact as1 rfl) rfl ?_
          refine AL.q (by exact h_store rfl rfl rfl rfl rfl rfl) rfl ?_
          refine AL.nil ?_
          refine th_n ?_
          refine AC.seq ?_
          refine AC.weak (Weak.freezeRef (ds := burD l[k]) 6 rfl rfl) ?_
          have hP := pairB_at hi1 hk1
          have hbi := (hb _ (List.getElem_mem hi1)).1
          have hbk := (hb _ (List.getElem_mem hk1)).1
          have hS := containsLabF_spec l[i].inn (by omega) 70 [.ref (burD l[k])] en_isMaximal1 (fun x => !(l[k].inn.any fun y => decide (x = y))) (fun t _ => isMaximal1_spec t l[k] hbk)
          have hA := amongB_any l[i].inn l[k].inn
          obtain ⟨c, hc⟩ : ∃ c, c = l[i].inn.any (fun x => !(l[k].inn.any fun y => decide (x = y))) := ⟨_, rfl⟩
          rw [← hc] at hS hA
          rw [hA] at hP
          clear hc hA
          refine AC.region ?_
          refine AL.p (by exact mv1 rfl) rfl ?_
          refine AL.p (by exact mv1 rfl) rfl ?_
          refine AL.p (by exact g_cmp rfl rfl rfl) rfl ?_
          refine AL.p (by exact mv1 rfl) rfl ?_
          refine AL.caseGN rfl rfl (fun h2 => ?_) (fun h2 => ?_)
          · refine AL.yes rfl rfl rfl ?_
            refine AL.p (by exact g_fa_ref rfl rfl rfl rfl rfl rfl) rfl ?_
            refine AL.yes rfl rfl rfl ?_
            refine AL.p (by exact g_load_ref rfl rfl rfl) rfl ?_
            refine AL.yes rfl rfl rfl ?_
            refine AL.p (by exact g_fa_ref rfl rfl rfl rfl rfl rfl) rfl ?_
            refine AL.yes rfl rfl rfl ?_
            refine AL.p (by exact g_load_ref rfl rfl rfl) rfl ?_
            refine AL.yes rfl rfl rfl ?_
            refine AL.p (by exact g_cmp rfl rfl rfl) rfl ?_
            refine AL.p (by exact g_pickT (r := .d _) rfl rfl) rfl ?_
            refine AL.p (by exact mv1 rfl) rfl ?_
            refine AL.caseG rfl rfl (fun h3 => ?_) (fun h3 => ?_)
            · refine AL.yes rfl rfl rfl ?_
              refine AL.p (by exact g_fa_ref rfl rfl rfl rfl rfl rfl) rfl ?_
              refine AL.yes rfl rfl rfl ?_
              refine AL.p (by exact g_load_ref rfl rfl rfl) rfl ?_
              refine AL.yes rfl rfl rfl ?_
              refine AL.p (by exact g_fn rfl) rfl ?_
              refine AL.yes rfl rfl rfl ?_
              refine AL.q (by exact h_pure en_containsLabF rfl rfl (by exact ⟨_, _, rfl, .same, _, _, rfl, ⟨_, rfl, leadsL_data _ _⟩, rfl⟩) hS rfl) rfl ?_
              refine AL.yes rfl rfl rfl ?_
              refine AL.p (by exact g_not rfl) rfl ?_
              refine AL.p (by exact g_pickT (r := .d _) rfl rfl) rfl ?_
              refine AL.nil ?_
              refine th_n ?_
              refine AC.condB rfl (fun h4 => ?_) (fun h4 => ?_)
              · refine AC.seq ?_
                refine AC.region ?_
                refine AL.p (by exact as1 rfl) rfl ?_
                refine AL.nil ?_
                refine th_n ?_
                refine AC.ret ?_
                refine ib_r ?_
                refine th_r ?_
                refine th_r ?_
                refine ib_r ?_
                refine ib_r ?_
                refine th_r ?_
                refine th_r ?_
                refine ib_r ?_
                refine th_r ?_
                refine bq_r ?_
                have hno : pairB l i k = false := by rw [hP]; simp_all
                exact ret1 rfl (by rw [maxB, allK_no (f := fun i => allK (pairB l i) l.length) hi1 (allK_no hk1 hno)])
              · refine AC.skip ?_
                refine ib_n ?_
                refine th_n ?_
                refine AC.region ?_
                refine AL.p (by exact g_arith rfl rfl rfl (by exact wrap_i64 (by omega))) rfl ?_
                refine AL.p (by exact mv1 rfl) rfl ?_
                refine AL.nil ?_
                refine th_n ?_
                have hyes : pairB l i k = true := by rw [hP]; simp_all
                exact ⟨k + 1, ⟨by omega, fun j hj2 => by rcases Nat.lt_succ_iff_lt_or_eq.1 hj2 with h | rfl; exact hal2 j h; exact hyes⟩, by omega, Weak.ren _ [] hC rfl (by repeat (first | exact True.intro | refine And.intro ?_ ?_ | exact DLead.same)) (by repeat (exact True.intro)) rfl rfl rfl⟩
            · refine AL.not rfl rfl rfl rfl rfl ?_
              refine AL.not rfl rfl rfl rfl rfl ?_
              refine AL.not rfl rfl rfl rfl rfl ?_
              refine AL.not rfl rfl rfl rfl rfl ?_
              refine AL.not rfl rfl rfl rfl rfl ?_
              refine AL.p (by exact g_pickF (r := .d _) rfl rfl) rfl ?_
              refine AL.nil ?_
              refine th_n ?_
              refine AC.condF rfl ?_
              refine AC.skip ?_
              refine ib_n ?_
              refine th_n ?_
              refine AC.region ?_
              refine AL.p (by exact g_arith rfl rfl rfl (by exact wrap_i64 (by omega))) rfl ?_
              refine AL.p (by exact mv1 rfl) rfl ?_
              refine AL.nil ?_
              refine th_n ?_
              have hyes : pairB l i k = true := by rw [hP]; simp_all
              exact ⟨k + 1, ⟨by omega, fun j hj2 => by rcases Nat.lt_succ_iff_lt_or_eq.1 hj2 with h | rfl; exact hal2 j h; exact hyes⟩, by omega, Weak.ren _ [] hC rfl (by repeat (first | exact True.intro | refine And.intro ?_ ?_ | exact DLead.same)) (by repeat (exact True.intro)) rfl rfl rfl⟩
          · refine AL.not rfl rfl rfl rfl rfl ?_
            refine AL.not rfl rfl rfl rfl rfl ?_
            refine AL.not rfl rfl rfl rfl rfl ?_
            refine AL.not rfl rfl rfl rfl rfl ?_
            refine AL.not rfl rfl rfl rfl rfl ?_
            refine AL.p (by exact g_pickF (r := .d _) rfl rfl) rfl ?_
            refine AL.p (by exact mv1 rfl) rfl ?_
            refine AL.not rfl rfl rfl rfl rfl ?_
            refine AL.not rfl rfl rfl rfl rfl ?_
            refine AL.not rfl rfl rfl rfl rfl ?_
            refine AL.not rfl rfl rfl rfl rfl ?_
            refine AL.not rfl rfl rfl rfl rfl ?_
            refine AL.p (by exact g_pickF (r := .d _) rfl rfl) rfl ?_
            refine AL.nil ?_
            refine th_n ?_
            refine AC.condF rfl ?_
            refine AC.skip ?_
            refine ib_n ?_
            refine th_n ?_
            refine AC.region ?_
            refine AL.p (by exact g_arith rfl rfl rfl (by exact wrap_i64 (by omega))) rfl ?_
            refine AL.p (by exact mv1 rfl) rfl ?_
            refine AL.nil ?_
            refine th_n ?_
            have hyes : pairB l i k = true := by rw [hP]; simp_all
            exact ⟨k + 1, ⟨by omega, fun j hj2 => by rcases Nat.lt_succ_iff_lt_or_eq.1 hj2 with h | rfl; exact hal2 j h; exact hyes⟩, by omega, Weak.ren _ [] hC rfl (by repeat (first | exact True.intro | refine And.intro ?_ ?_ | exact DLead.same)) (by repeat (exact True.intro)) rfl rfl rfl⟩
        · refine AC.exit ?_
          refine th_e ?_
          refine th_e ?_
          refine ib_y ?_
          refine ib_n ?_
          refine th_n ?_
          refine AC.region ?_
          refine AL.p (by exact g_arith rfl rfl rfl (by exact wrap_i64 (by omega))) rfl ?_
          refine AL.p (by exact mv1 rfl) rfl ?_
          refine AL.nil ?_
          refine th_n ?_
          exact ⟨i + 1, ⟨by omega, fun j hj2 => by rcases Nat.lt_succ_iff_lt_or_eq.1 hj2 with h | rfl; exact hall j h; exact allK_yes (fun q hq => hal2 q (by omega))⟩, by omega, Weak.ren _ [] hC rfl (by repeat (first | exact True.intro | refine And.intro ?_ ?_ | exact DLead.same)) (by repeat (exact True.intro)) rfl rfl rfl⟩
    · refine AC.exit ?_
      refine th_e ?_
      refine th_e ?_
      refine ib_y ?_
      refine th_n ?_
      refine AC.seq ?_
      refine AC.region ?_
      refine AL.p (by exact as1 rfl) rfl ?_
      refine AL.nil ?_
      refine th_n ?_
      refine AC.ret ?_
      refine bq_r ?_
      exact ret1 rfl (by rw [maxB, allK_yes (f := fun i => allK (pairB l i) l.length) (fun q hq => hall q (by omega))])
theorem en_isMaximal : Enters Tryd.prog 53 := enters_of Tryd.func53 rfl rfl
end Go.Proofs.YtacmonmehcdhaaaDoor

set_option linter.all false
set_option maxRecDepth 20000
namespace Go.Proofs.YtacmonmehcdhaaaDoor
open Go.RowKit

set_option maxHeartbeats 1000000 in
theorem growLab_spec (n : Nat) (h0' : 0 < n) (hn : n ≤ 100000000) : ASpec Tryd.prog 90 [nilA, aI n] [] (Fun1 (.own 0 0) [(0, .arr 52 2 [])]) := by
  refine ASpec.of Tryd.func90 rfl rfl fun C hC => ?_
  refine AC.seq ?_
  refine AC.region ?_
  refine AL.p (by exact as1 rfl) rfl ?_
  refine AL.nil ?_
  refine th_n ?_
  refine AC.seq ?_
  refine AC.seq ?_
  refine AC.region ?_
  refine AL.p (by exact mv1 rfl) rfl ?_
  refine AL.p (by exact g_cmp rfl rfl rfl) rfl ?_
  refine AL.nil ?_
  refine th_n ?_
  refine AC.condD rfl (fun h0 => ?_) (fun h0 => ?_)
  · exact absurd h0 (by omega)
  · refine AC.skip ?_
    refine th_n ?_
    refine AC.seq ?_
    refine AC.seq ?_
    refine AC.region ?_
    refine AL.p (by exact mv1 rfl) rfl ?_
    refine AL.p (by exact mv1 rfl) rfl ?_
    refine AL.p (by exact g_cap_nil rfl rfl) rfl ?_
    refine AL.p (by exact mv1 rfl) rfl ?_
    refine AL.p (by exact g_len_nil rfl rfl) rfl ?_
    refine AL.p (by exact g_arith rfl rfl rfl (by exact wrap_i64 (by omega))) rfl ?_
    refine AL.p (by exact g_arith rfl rfl rfl (by exact wrap_i64 (by omega))) rfl ?_
    refine AL.p (by exact as1 rfl) rfl ?_
    refine AL.nil ?_
    refine th_n ?_
    refine AC.seq ?_
    refine AC.region ?_
    refine AL.p (by exact mv1 rfl) rfl ?_
    refine AL.p (by exact g_cmp rfl rfl rfl) rfl ?_
    refine AL.nil ?_
    refine th_n ?_
    refine AC.condD rfl (fun h1 => ?_) (fun h1 => ?_)
    · refine AC.region ?_
      refine AL.p (by exact mv1 rfl) rfl ?_
      refine AL.p (by exact mv1 rfl) rfl ?_
      refine AL.p (by exact g_cap_nil rfl rfl) rfl ?_
      refine AL.p (by exact g_slice_nil rfl rfl rfl (by exact .some rfl rfl)) rfl ?_
      refine AL.p (by exact mv1 rfl) rfl ?_
      refine AL.q (by exact h_growZ (k := n) rfl rfl rfl rfl rfl rfl rfl rfl (by omega) h0' (by omega) (by show n * 16 ≤ _; omega)) rfl ?_
      refine AL.p (by exact mv1 rfl) rfl ?_
      refine AL.p (by exact g_len_nil rfl rfl) rfl ?_
      refine AL.p (by exact g_slice_own rfl rfl rfl rfl (by exact .some rfl (by rfl)) (by exact Nat.zero_le _)) rfl ?_
      refine AL.p (by exact as2 rfl) rfl ?_
      refine AL.nil ?_
      refine th_n ?_
      refine AC.seq ?_
      refine AC.region ?_
      refine AL.p (by exact mv2 rfl) rfl ?_
      refine AL.p (by exact as2 rfl) rfl ?_
      refine AL.nil ?_
      refine th_n ?_
      refine AC.ret ?_
      refine bq_r ?_
      exact retN [(0, _)] rfl (by repeat (first | exact rfl | refine ⟨_, rfl, ?_⟩)) (by repeat (first | exact True.intro | refine And.intro ?_ ?_ | exact rfl | refine ⟨_, _, rfl, rfl, ?_⟩)) rfl rfl
    · refine AC.skip ?_
      refine th_n ?_
      refine AC.seq ?_
      refine AC.region ?_
      refine AL.p (by exact mv1 rfl) rfl ?_
      refine AL.p (by exact as1 rfl) rfl ?_
      refine AL.nil ?_
      refine th_n ?_
      refine AC.ret ?_
      refine bq_r ?_
      exact absurd h0' (by omega)
theorem en_growLab : Enters Tryd.prog 90 := enters_of Tryd.func90 rfl rfl
theorem labsL_all (l : List Lab) : (labsL l).take l.length = labsL l := by rw [List.take_of_length_le (by simp)]
theorem h_appendLb (acc new : List Lab) {s : ASt} {dst : Option Nat} {ty : Nat} {pos : String} {af : Array Edge} {gd : Option (Nat × Bool)} {x y : Operand} {f : Nat} {ids ids2 : List Nat} {gone : List (Nat × Option Chunk)}
    (hto : AppTo s x 52 2 (labsL acc) ids gone) (harg : AppArg s y 2 (labsL new) ids2) (h : (acc ++ new).length ≤ 100000000) (hnew : gone = [] → 0 < new.length) :
    NOp Tryd.prog (ids ++ ids2) s ⟨dst, .call { callee := .builtin .append, args := #[x, y], argTypes := #[48, 48] }, ty, pos, af, gd⟩ f ⟨.own f (acc ++ new).length, (f, some (.arr 52 2 (labsL (acc ++ new)))) :: gone⟩ := by
  have := h_append (P := Tryd.prog) (s := s) (dst := dst) (ty := ty) (pos := pos) (af := af) (gd := gd) (x := x) (y := y) (f := f) (t := 48) (tx := 48) (k := (acc ++ new).length) rfl rfl rfl rfl rfl rfl hto harg (by simp) (by omega) (by show (acc ++ new).length * 16 ≤ _; omega) (fun h => by rw [labsL_len]; exact hnew h)
  rwa [← List.map_append] at this
abbrev vLL (L : List (List Lab)) : DV := .view 48 1 (L.map fun l => [vLabs l])
theorem vLL_get {L : List (List Lab)} {k : Nat} (h : k < L.length) : (L.map fun l => [vLabs l])[k]? = some [vLabs L[k]] := by simp [List.getElem?_map, List.getElem?_eq_getElem h]
theorem take_flatL {L : List (List Lab)} {k : Nat} (hk : k < L.length) : (L.take (k + 1)).flatten = (L.take k).flatten ++ L[k] := by
  rw [List.take_add_one, List.getElem?_eq_getElem hk, List.flatten_append]; simp
theorem take_flat_leL (L : List (List Lab)) (k : Nat) : (L.take k).flatten.length ≤ L.flatten.length := by
  conv => rhs; rw [← List.take_append_drop k L, List.flatten_append, List.length_append]
  omega
set_option maxHeartbeats 2000000 in
theorem concatLab_spec (L : List (List Lab)) (hL : L.length ≤ 1000) (h0' : 0 < L.flatten.length) (hn : L.flatten.length ≤ 100000000) : ASpec Tryd.prog 81 [.d (vLL L)] [] (Pure1 (.d (vLabs L.flatten))) := by
  refine ASpec.of Tryd.func81 rfl rfl fun C hC => ?_
  refine AC.seq ?_
  refine AC.region ?_
  refine AL.p (by exact as1 rfl) rfl ?_
  refine AL.nil ?_
  refine th_n ?_
  refine AC.seq ?_
  refine AC.region ?_
  refine AL.p (by exact as1 rfl) rfl ?_
  refine AL.nil ?_
  refine th_n ?_
  refine AC.seq ?_
  refine AC.seq ?_
  refine AC.region ?_
  refine AL.p (by exact mv1 rfl) rfl ?_
  refine AL.p (by exact g_len_view rfl rfl (by exact List.length_map _)) rfl ?_
  refine AL.p (by exact mv1 rfl) rfl ?_
  refine AL.nil ?_
  refine th_n ?_
  refine AC.block ?_
  refine AC.loop (ι := Nat) (fun k => ⟨36, 0, [(0, .d (vLL L)), (3, aI (L.take k).flatten.length), (9, .d (vLL L)), (10, aI L.length), (11, aI k)], []⟩) (fun k => k ≤ L.length) (fun k => L.length - k) (0) ?_ (Nat.zero_le _) ?_
  · refine Weak.ren _ [] hC rfl ?_ ?_ rfl rfl rfl <;> repeat (first | exact True.intro | refine And.intro ?_ ?_ | exact DLead.same)
  · intro k hk
    refine AC.seq ?_
    refine AC.region ?_
    refine AL.p (by exact g_cmp rfl rfl rfl) rfl ?_
    refine AL.nil ?_
    refine th_n ?_
    refine AC.seq ?_
    refine AC.condD rfl (fun h0 => ?_) (fun h0 => ?_)
    · refine AC.skip ?_
      refine th_n ?_
      refine AC.seq ?_
      refine AC.block ?_
      refine AC.seq ?_
      have hk1 : k < L.length := by omega
      have hget := vLL_get hk1
      have hb := take_flat_leL L k
      have hb2 := take_flat_leL L (k + 1)
      have hfl := take_flatL hk1
      have hln : (L.take (k + 1)).flatten.length = (L.take k).flatten.length + L[k].length := by rw [hfl, List.length_append]
      refine AC.region ?_
      refine AL.p (by exact g_ia_view rfl rfl rfl rfl rfl (by rfl) (by assumption)) rfl ?_
      refine AL.p (by exact g_load_ref rfl rfl rfl) rfl ?_
      refine AL.p (by exact as1 rfl) rfl ?_
      refine AL.nil ?_
      refine th_n ?_
      refine AC.seq ?_
      refine AC.region ?_
      refine AL.p (by exact mv1 rfl) rfl ?_
      refine AL.p (by exact mv1 rfl) rfl ?_
      refine AL.p (by exact g_len_view rfl rfl (by exact List.length_map _)) rfl ?_
      refine AL.p (by exact g_arith rfl rfl rfl (by exact wrap_i64 (by omega))) rfl ?_
      refine AL.p (by exact as1 rfl) rfl ?_
      refine AL.nil ?_
      refine th_n ?_
      refine AC.seq ?_
      refine AC.region ?_
      refine AL.p (by exact mv1 rfl) rfl ?_
      refine AL.p (by exact g_cmp rfl rfl rfl) rfl ?_
      refine AL.nil ?_
      refine th_n ?_
      refine AC.condD rfl (fun h1 => ?_) (fun h1 => ?_)
      · exact absurd h1 (by omega)
      · refine AC.skip ?_
        refine ib_n ?_
        refine th_n ?_
        refine AC.region ?_
        refine AL.p (by exact g_arith rfl rfl rfl (by exact wrap_i64 (by omega))) rfl ?_
        refine AL.p (by exact mv1 rfl) rfl ?_
        refine AL.nil ?_
        refine th_n ?_
        exact ⟨k + 1, by omega, by omega, Weak.ren _ [] hC rfl (by repeat (first | exact True.intro | refine And.intro ?_ ?_ | exact DLead.same | exact DLead.eqI (by omega))) (by repeat (exact True.intro)) rfl rfl rfl⟩
    · refine AC.exit ?_
      refine th_e ?_
      refine th_e ?_
      refine ib_y ?_
      refine th_n ?_
      refine AC.seq ?_
      have hkk : k = L.length := by omega
      subst hkk
      have htl : L.take L.length = L := List.take_length
      rw [htl]
      refine AC.region ?_
      refine AL.p (by exact mv1 rfl) rfl ?_
      refine AL.q (by exact h_fun (cs := []) en_growLab rfl rfl (by repeat (first | exact rfl | exact DLead.same | refine ⟨_, _, rfl, ?_, ?_⟩)) (by repeat (exact True.intro)) (growLab_spec _ (by assumption) (by assumption)) rfl rfl rfl rfl) rfl ?_
      refine AL.p (by exact as2 rfl) rfl ?_
      refine AL.nil ?_
      refine th_n ?_
      refine AC.seq ?_
      refine AC.seq ?_
      refine AC.region ?_
      refine AL.p (by exact mv1 rfl) rfl ?_
      refine AL.p (by exact g_len_view rfl rfl (by exact List.length_map _)) rfl ?_
      refine AL.p (by exact mv1 rfl) rfl ?_
      refine AL.nil ?_
      refine th_n ?_
      refine AC.block ?_
      refine AC.loop (ι := Nat) (fun k => ⟨36, 108, [(0, .d (vLL L)), (6, .own 100 (L.take k).flatten.length), (25, .d (vLL L)), (26, aI L.length), (27, aI k)], [(100, some (.arr 52 2 (labsL (L.take k).flatten)))]⟩) (fun k => k ≤ L.length) (fun k => L.length - k) (0) ?_ (Nat.zero_le _) ?_
      · exact Weak.ren _ [(100, _)] hC rfl (by repeat (first | exact True.intro | refine And.intro ?_ ?_ | exact DLead.same | exact rfl | refine ⟨_, rfl, ?_⟩)) (by repeat (first | exact True.intro | refine And.intro ?_ ?_ | exact rfl | refine ⟨_, _, rfl, rfl, ?_⟩)) rfl rfl rfl
      · intro k hk
        refine AC.seq ?_
        refine AC.region ?_
        refine AL.p (by exact g_cmp rfl rfl rfl) rfl ?_
        refine AL.nil ?_
        refine th_n ?_
        refine AC.seq ?_
        refine AC.condD rfl (fun h1 => ?_) (fun h1 => ?_)
        · refine AC.skip ?_
          refine th_n ?_
          refine AC.seq ?_
          refine AC.block ?_
          refine AC.seq ?_
          have hk1 : k < L.length := by omega
          have hget := vLL_get hk1
          have hb2 := take_flat_leL L (k + 1)
          have hfl := take_flatL hk1
          refine AC.region ?_
          refine AL.p (by exact g_ia_view rfl rfl rfl rfl rfl (by rfl) (by assumption)) rfl ?_
          refine AL.p (by exact g_load_ref rfl rfl rfl) rfl ?_
          refine AL.p (by exact as1 rfl) rfl ?_
          refine AL.nil ?_
          refine th_n ?_
          refine AC.region ?_
          refine AL.p (by exact mv2 rfl) rfl ?_
          refine AL.p (by exact mv1 rfl) rfl ?_
          refine AL.q (by exact h_appendLb (L.take k).flatten L[k] (.own rfl rfl (labsL_len _).symm) (.view rfl) (by rw [← hfl]; omega) (by simp)) rfl ?_
          refine AL.p (by exact as2 rfl) rfl ?_
          refine AL.nil ?_
          refine ib_n ?_
          refine th_n ?_
          refine AC.region ?_
          refine AL.p (by exact g_arith rfl rfl rfl (by exact wrap_i64 (by omega))) rfl ?_
          refine AL.p (by exact mv1 rfl) rfl ?_
          refine AL.nil ?_
          refine th_n ?_
          exact ⟨k + 1, by omega, by omega, Weak.ren _ [(100, _)] hC rfl (by rw [hfl]; repeat (first | exact True.intro | refine And.intro ?_ ?_ | exact DLead.same | exact rfl | refine ⟨_, rfl, ?_⟩)) (by rw [hfl]; repeat (first | exact True.intro | refine And.intro ?_ ?_ | exact rfl | refine ⟨_, _, rfl, rfl, ?_⟩)) rfl rfl rfl⟩
        · refine AC.exit ?_
          refine th_e ?_
          refine th_e ?_
          refine ib_y ?_
          refine th_n ?_
          refine AC.seq ?_
          have hkk : k = L.length := by omega
          subst hkk
          rw [List.take_length]
          refine AC.weak (Weak.freeze (i := 6) rfl rfl (Nat.le_of_eq (labsL_len _).symm) (labsL_all _)) ?_
          refine AC.region ?_
          refine AL.p (by exact mv1 rfl) rfl ?_
          refine AL.p (by exact as1 rfl) rfl ?_
          refine AL.nil ?_
          refine th_n ?_
          refine AC.ret ?_
          refine bq_r ?_
          exact ret1 rfl rfl
theorem en_concatLab : Enters Tryd.prog 81 := enters_of Tryd.func81 rfl rfl

/-- The labels of a burst. -/
abbrev allL (b : Bur) : List Lab := b.inn ++ b.out
theorem burLabels_spec (b : Bur) (h1 : b.inn.length ≤ 1048576) (h2 : b.out.length ≤ 1048576) (h0' : b.inn.length ≠ 0) : ASpec Tryd.prog 67 [burA b] [] (Pure1 (.d (vLabs (allL b)))) := by
  have hf : [b.inn, b.out].flatten = allL b := by simp
  have hC1 := concatLab_spec [b.inn, b.out] (by simp) (by rw [hf, List.length_append]; omega) (by rw [hf, List.length_append]; omega)
  rw [hf] at hC1
  refine ASpec.of Tryd.func67 rfl rfl fun C hC => ?_
  refine AC.seq ?_
  refine AC.region ?_
  refine AL.q (by exact h_boxF rfl rfl) rfl ?_
  refine AL.p (by exact as1 rfl) rfl ?_
  refine AL.nil ?_
  refine th_n ?_
  refine AC.seq ?_
  refine AC.region ?_
  refine AL.p (by exact g_fa_ref rfl rfl rfl rfl rfl rfl) rfl ?_
  refine AL.p (by exact g_load_ref rfl rfl rfl) rfl ?_
  refine AL.p (by exact g_fa_ref rfl rfl rfl rfl rfl rfl) rfl ?_
  refine AL.p (by exact g_load_ref rfl rfl rfl) rfl ?_
  refine AL.q (by exact h_litF rfl rfl rfl rfl rfl rfl rfl rfl) rfl ?_
  refine AL.q (by exact h_pure en_concatLab rfl rfl (by repeat (first | exact rfl | exact DLead.same | refine ⟨_, _, rfl, ?_, ?_⟩)) hC1 rfl) rfl ?_
  refine AL.p (by exact as1 rfl) rfl ?_
  refine AL.nil ?_
  refine th_n ?_
  refine AC.ret ?_
  refine bq_r ?_
  exact ret1 rfl rfl
theorem en_burLabels : Enters Tryd.prog 67 := enters_of Tryd.func67 rfl rfl
theorem l24All_spec (b : Bur) (h1 : b.inn.length ≤ 1048576) (h2 : b.out.length ≤ 1048576) : ASpec Tryd.prog 59 [burA b] [] (Pure1 (.d (vLabs (allL b)))) := by
  refine ASpec.of Tryd.func59 rfl rfl fun C hC => ?_
  refine AC.seq ?_
  refine AC.region ?_
  refine AL.q (by exact h_boxF rfl rfl) rfl ?_
  refine AL.p (by exact as1 rfl) rfl ?_
  refine AL.nil ?_
  refine th_n ?_
  refine AC.seq ?_
  refine AC.drawn' mixed_ok [[], [], [1], [0,1,2], [], [4], [0,1,2,3,4,5], [0,1,2,3,4,5,6]] (by decide) ?_
  refine DF.op 0 [] 8 rfl rfl rfl (.free rfl (by exact h_lit rfl rfl rfl rfl rfl rfl rfl rfl)) rfl ?_
  refine DF.op 1 [] 8 rfl rfl rfl (.free rfl (NOp.of (by exact g_fa_ref rfl rfl rfl rfl rfl rfl))) rfl ?_
  refine DF.op 2 [1] 8 rfl rfl rfl (.free rfl (NOp.of (by exact g_load_ref rfl rfl rfl))) rfl ?_
  refine DF.op 3 [0,1,2] 8 rfl rfl rfl (.free rfl (by exact h_appendLb [] b.inn (.own rfl rfl rfl) (.view rfl) (by simp; omega) (by simp))) rfl ?_
  refine DF.op 4 [] 8 rfl rfl rfl (.free rfl (NOp.of (by exact g_fa_ref rfl rfl rfl rfl rfl rfl))) rfl ?_
  refine DF.op 5 [4] 8 rfl rfl rfl (.free rfl (NOp.of (by exact g_load_ref rfl rfl rfl))) rfl ?_
  refine DF.op 6 [0,1,2,3,4,5] 8 rfl rfl rfl (.free rfl (by exact h_appendLb ([] ++ b.inn) b.out (.own rfl rfl (labsL_len _).symm) (.view rfl) (by simp; omega) (by simp))) rfl ?_
  refine DF.op 7 [0,1,2,3,4,5,6] 8 rfl rfl rfl (.free rfl (NOp.of (by exact as2 rfl))) rfl ?_
  refine DF.fin (ps := [(0, 1), (0, 2), (0, 4), (0, 5), (1, 0), (1, 4), (1, 5), (2, 0), (2, 4), (2, 5), (3, 4), (3, 5), (4, 0), (4, 1), (4, 2), (4, 3), (5, 0), (5, 1), (5, 2), (5, 3)]) 8 rfl (by decide +kernel) (by decide +kernel) (by rfl) ?_
  refine th_n ?_
  refine AC.weak (Weak.freeze (i := 2) rfl rfl (Nat.le_of_eq (labsL_len _).symm) (labsL_all _)) ?_
  refine AC.ret ?_
  refine bq_r ?_
  exact ret1 rfl rfl
theorem en_l24All : Enters Tryd.prog 59 := enters_of Tryd.func59 rfl rfl
theorem iBit_spec (up : Bool) : ASpec Tryd.prog 80 [aT up] [] (Pure1 (.d (dB (bitLb up)))) := by
  refine ASpec.of Tryd.func80 rfl rfl fun C hC => ?_
  refine AC.seq ?_
  refine AC.region ?_
  refine AL.p (by exact as1 rfl) rfl ?_
  refine AL.nil ?_
  refine th_n ?_
  refine AC.seq ?_
  refine AC.seq ?_
  refine AC.region ?_
  refine AL.p (by exact mv1 rfl) rfl ?_
  refine AL.nil ?_
  refine th_n ?_
  refine AC.condB rfl (fun h0 => ?_) (fun h0 => ?_)
  · refine AC.seq ?_
    refine AC.region ?_
    refine AL.p (by exact as1 rfl) rfl ?_
    refine AL.nil ?_
    refine th_n ?_
    refine AC.ret ?_
    refine th_r ?_
    refine bq_r ?_
    exact ret1 rfl (by rw [h0]; rfl)
  · refine AC.skip ?_
    refine th_n ?_
    refine AC.seq ?_
    refine AC.region ?_
    refine AL.p (by exact as1 rfl) rfl ?_
    refine AL.nil ?_
    refine th_n ?_
    refine AC.ret ?_
    refine bq_r ?_
    exact ret1 rfl (by rw [h0]; rfl)
theorem en_iBit : Enters Tryd.prog 80 := enters_of Tryd.func80 rfl rfl
theorem l5Bit_spec (up : Bool) : ASpec Tryd.prog 61 [aT up] [] (Pure1 (aS (bstr [bitLb up]))) := by
  refine ASpec.of Tryd.func61 rfl rfl fun C hC => ?_
  refine AC.seq ?_
  refine AC.region ?_
  refine AL.p (by exact as1 rfl) rfl ?_
  refine AL.nil ?_
  refine th_n ?_
  refine AC.seq ?_
  refine AC.seq ?_
  refine AC.region ?_
  refine AL.p (by exact mv1 rfl) rfl ?_
  refine AL.nil ?_
  refine th_n ?_
  refine AC.condB rfl (fun h0 => ?_) (fun h0 => ?_)
  · refine AC.seq ?_
    refine AC.region ?_
    refine AL.p (by exact as1 rfl) rfl ?_
    refine AL.nil ?_
    refine th_n ?_
    refine AC.ret ?_
    refine th_r ?_
    refine bq_r ?_
    exact ret1 rfl (by rw [h0]; rfl)
  · refine AC.skip ?_
    refine th_n ?_
    refine AC.seq ?_
    refine AC.region ?_
    refine AL.p (by exact as1 rfl) rfl ?_
    refine AL.nil ?_
    refine th_n ?_
    refine AC.ret ?_
    refine bq_r ?_
    exact ret1 rfl (by rw [h0]; rfl)
theorem en_l5Bit : Enters Tryd.prog 61 := enters_of Tryd.func61 rfl rfl
theorem set_parts {c : List UInt8} {i : Nat} {b : UInt8} (h : i < c.length) : bstr (c.take i) ++ bstr [b] ++ bstr (c.drop (i + 1)) = bstr (c.set i b) := by
  rw [bstr_append, bstr_append, List.set_eq_take_append_cons_drop, if_pos h]; simp
set_option maxHeartbeats 1000000 in
theorem l5Set_spec (c : List UInt8) (i : Nat) (b : UInt8) (hc : c.length ≤ 2000000) (hi : i < c.length) : ASpec Tryd.prog 60 [aS (bstr c), aI i, aS (bstr [b])] [] (Pure1 (aS (bstr (c.set i b)))) := by
  have hsz := bstr_size c
  have hx1 : (bstr c).extract 0 i = bstr (c.take i) := by rw [bstr_cut c (Nat.zero_le _) (by omega)]; simp
  have hx2 : (bstr c).extract (i + 1) (bstr c).size = bstr (c.drop (i + 1)) := by rw [hsz, bstr_cut c (by omega) (Nat.le_refl _), List.take_length]
  have hs1 : (bstr (c.take i)).size = i := by rw [bstr_size, List.length_take]; omega
  have hs2 : (bstr [b]).size = 1 := rfl
  have hs3 : (bstr (c.drop (i + 1))).size = c.length - (i + 1) := by rw [bstr_size, List.length_drop]
  have hst := set_parts (b := b) hi
  refine ASpec.of Tryd.func60 rfl rfl fun C hC => ?_
  refine AC.seq ?_
  refine AC.region ?_
  refine AL.p (by exact as1 rfl) rfl ?_
  refine AL.nil ?_
  refine th_n ?_
  refine AC.seq ?_
  refine AC.drawn' mixed_ok [[], [], [0,1], [], [0,1,2,3], [], [], [6], [5,6,7], [0,1,2,3,4,5,6,7,8], [0,1,2,3,4,5,6,7,8,9]] (by decide) ?_
  refine DF.op 0 [] 11 rfl rfl rfl (.free rfl (NOp.of (by exact mv1 rfl))) rfl ?_
  refine DF.op 1 [] 11 rfl rfl rfl (.free rfl (NOp.of (by exact mv1 rfl))) rfl ?_
  refine DF.op 2 [0,1] 11 rfl rfl rfl (.free rfl (NOp.of (by exact g_slice_str (h := i) rfl rfl .none (.some rfl rfl) (Nat.zero_le _) (by omega) hx1))) rfl ?_
  refine DF.op 3 [] 11 rfl rfl rfl (.free rfl (NOp.of (by exact mv1 rfl))) rfl ?_
  refine DF.op 4 [0,1,2,3] 11 rfl rfl rfl (.free rfl (NOp.of (by exact g_sadd rfl rfl (by omega)))) rfl ?_
  refine DF.op 5 [] 11 rfl rfl rfl (.free rfl (NOp.of (by exact mv1 rfl))) rfl ?_
  refine DF.op 6 [] 11 rfl rfl rfl (.free rfl (NOp.of (by exact mv1 rfl))) rfl ?_
  refine DF.op 7 [6] 11 rfl rfl rfl (.free rfl (NOp.of (by exact g_arith rfl rfl rfl (by exact wrap_i64 (by omega))))) rfl ?_
  refine DF.op 8 [5,6,7] 11 rfl rfl rfl (.free rfl (NOp.of (by exact g_slice_str (l := i + 1) rfl rfl (.some rfl rfl) .none (by omega) (Nat.le_refl _) hx2))) rfl ?_
  refine DF.op 9 [0,1,2,3,4,5,6,7,8] 11 rfl rfl rfl (.free rfl (NOp.of (by exact g_sadd rfl rfl (by rw [ByteArray.size_append]; omega)))) rfl ?_
  refine DF.op 10 [0,1,2,3,4,5,6,7,8,9] 11 rfl rfl rfl (.free rfl (NOp.of (by exact as1 rfl))) rfl ?_
  refine DF.fin (ps := [(0, 1), (0, 3), (0, 5), (0, 6), (0, 7), (0, 8), (1, 0), (1, 3), (1, 5), (1, 6), (1, 7), (1, 8), (2, 3), (2, 5), (2, 6), (2, 7), (2, 8), (3, 0), (3, 1), (3, 2), (3, 5), (3, 6), (3, 7), (3, 8), (4, 5), (4, 6), (4, 7), (4, 8), (5, 0), (5, 1), (5, 2), (5, 3), (5, 4), (5, 6), (5, 7), (6, 0), (6, 1), (6, 2), (6, 3), (6, 4), (6, 5), (7, 0), (7, 1), (7, 2), (7, 3), (7, 4), (7, 5), (8, 0), (8, 1), (8, 2), (8, 3), (8, 4)]) 11 rfl (by decide +kernel) (by decide +kernel) (by rfl) ?_
  refine th_n ?_
  refine AC.ret ?_
  refine bq_r ?_
  exact ret1 rfl (by rw [hst])
theorem en_l5Set : Enters Tryd.prog 60 := enters_of Tryd.func60 rfl rfl
def turnR (c : List UInt8) (l : List Lab) : List UInt8 × Bool := match turnL c l with | some c' => (c', true) | none => ([], false)
theorem turnR_some {c c' : List UInt8} {l : List Lab} (h : turnL c l = some c') : turnR c l = (c', true) := by rw [turnR, h]
theorem turnR_none {c : List UInt8} {l : List Lab} (h : turnL c l = none) : turnR c l = ([], false) := by rw [turnR, h]
theorem turnL_yes {c : List UInt8} {l : List Lab} {k : Nat} (hk : k < l.length) (h : c.getD l[k].sig.toNat 0 = bitLb (!l[k].up)) : turnL c (l.drop k) = turnL (c.set l[k].sig.toNat (bitLb l[k].up)) (l.drop (k + 1)) := by
  rw [List.drop_eq_getElem_cons hk, turnL, if_pos h]
theorem turnL_no {c : List UInt8} {l : List Lab} {k : Nat} (hk : k < l.length) (h : ¬ c.getD l[k].sig.toNat 0 = bitLb (!l[k].up)) : turnL c (l.drop k) = none := by
  rw [List.drop_eq_getElem_cons hk, turnL, if_neg h]
theorem u8_iff {a b : UInt8} : ((a.toNat : Int) = (b.toNat : Int)) ↔ a = b := ⟨fun h => UInt8.toNat_inj.1 (by omega), fun h => by rw [h]⟩
set_option maxHeartbeats 2000000 in
theorem switchedCode_spec (c : List UInt8) (l : List Lab) (hc : c.length ≤ 2000000) (hl : l.length ≤ 4000000) (hin : ∀ x, x ∈ l → 0 ≤ x.sig ∧ x.sig < c.length) : ASpec Tryd.prog 66 [aS (bstr c), .d (vLabs l)] [] (Pure1 (.tup [aS (bstr (turnR c l).1), aT (turnR c l).2])) := by
  refine ASpec.of Tryd.func66 rfl rfl fun C hC => ?_
  refine AC.seq ?_
  refine AC.region ?_
  refine AL.p (by exact as1 rfl) rfl ?_
  refine AL.p (by exact as1 rfl) rfl ?_
  refine AL.nil ?_
  refine th_n ?_
  refine AC.seq ?_
  refine AC.region ?_
  refine AL.p (by exact mv1 rfl) rfl ?_
  refine AL.q (by exact h_bytesOfStr rfl rfl rfl rfl) rfl ?_
  refine AL.p (by exact as2 rfl) rfl ?_
  refine AL.nil ?_
  refine th_n ?_
  refine AC.seq ?_
  refine AC.seq ?_
  refine AC.region ?_
  refine AL.p (by exact mv1 rfl) rfl ?_
  refine AL.p (by exact g_len_view rfl rfl (by exact List.length_map _)) rfl ?_
  refine AL.p (by exact mv1 rfl) rfl ?_
  refine AL.nil ?_
  refine th_n ?_
  refine AC.block ?_
  refine AC.loop (ι := Nat × List UInt8) (fun x => ⟨37, 108, [(1, .d (vLabs l)), (6, .own 100 c.length), (11, .d (vLabs l)), (12, aI l.length), (13, aI x.1)], [(100, some (.arr 5 1 (byteEls x.2)))]⟩) (fun x => x.1 ≤ l.length ∧ x.2.length = c.length ∧ turnL x.2 (l.drop x.1) = turnL c l) (fun x => l.length - x.1) ((0, c)) ?_ (⟨Nat.zero_le _, rfl, rfl⟩) ?_
  · exact Weak.ren _ [(100, _)] hC rfl (by repeat (first | exact True.intro | refine And.intro ?_ ?_ | exact DLead.same | exact rfl | refine ⟨_, rfl, ?_⟩)) (by repeat (first | exact True.intro | refine And.intro ?_ ?_ | exact rfl | refine ⟨_, _, rfl, rfl, ?_⟩)) rfl rfl rfl
  · rintro ⟨k, mm⟩ ⟨hk, hmm, hput⟩
    dsimp only at hk hmm hput ⊢
    refine AC.seq ?_
    refine AC.region ?_
    refine AL.p (by exact g_cmp rfl rfl rfl) rfl ?_
    refine AL.nil ?_
    refine th_n ?_
    refine AC.seq ?_
    refine AC.condD rfl (fun h0 => ?_) (fun h0 => ?_)
    · refine AC.skip ?_
      refine th_n ?_
      refine AC.seq ?_
      refine AC.block ?_
      refine AC.seq ?_
      have hk1 : k < l.length := by omega
      have hget := labsL_get hk1
      have hpk := hin _ (List.getElem_mem hk1)
      have hI : l[k].sig = ((l[k].sig.toNat : Nat) : Int) := by omega
      have hgm := byteEls_get (m := mm) (k := l[k].sig.toNat) (by omega)
      have hbn := iBit_spec (!l[k].up)
      have hby := iBit_spec l[k].up
      refine AC.region ?_
      refine AL.p (by exact g_ia_view rfl rfl rfl rfl rfl (by rfl) (by assumption)) rfl ?_
      refine AL.p (by exact g_load_refN rfl rfl rfl rfl) rfl ?_
      refine AL.q (by exact h_alloc rfl) rfl ?_
      refine AL.q (by exact h_store rfl rfl rfl rfl rfl rfl) rfl ?_
      refine AL.nil ?_
      refine th_n ?_
      refine AC.seq ?_
      refine AC.seq ?_
      refine AC.weak (Weak.freezeRef (ds := labD l[k]) 8 rfl rfl) ?_
      refine AC.drawn' mixed_ok [[], [], [1], [0,1,2], [0,1,2,3], [], [5], [5,6], [5,6,7], [0,1,2,3,4,5,6,7,8]] (by decide) ?_
      refine DF.op 0 [] 10 rfl rfl rfl (.free rfl (NOp.of (by exact mv2 rfl))) rfl ?_
      refine DF.op 1 [] 10 rfl rfl rfl (.free rfl (NOp.of (by exact g_fa_ref rfl rfl rfl rfl rfl rfl))) rfl ?_
      refine DF.op 2 [1] 10 rfl rfl rfl (.free rfl (NOp.of (by exact g_load_ref rfl rfl rfl))) rfl ?_
      refine DF.op 3 [0,1,2] 10 rfl rfl rfl (.free rfl (NOp.of (by exact g_ia_own rfl rfl rfl rfl rfl (by assumption) (by omega) (by exact Nat.mul_one _)))) rfl ?_
      refine DF.op 4 [0,1,2,3] 10 rfl rfl rfl (.free rfl (NOp.of (by exact g_load_arr1 rfl rfl rfl rfl (by assumption)))) rfl ?_
      refine DF.op 5 [] 10 rfl rfl rfl (.free rfl (NOp.of (by exact g_fa_ref rfl rfl rfl rfl rfl rfl))) rfl ?_
      refine DF.op 6 [5] 10 rfl rfl rfl (.free rfl (NOp.of (by exact g_load_ref rfl rfl rfl))) rfl ?_
      refine DF.op 7 [5,6] 10 rfl rfl rfl (.free rfl (NOp.of (by exact g_not rfl))) rfl ?_
      refine DF.op 8 [5,6,7] 10 rfl rfl rfl (.free rfl (by exact h_pure en_iBit rfl rfl (by repeat (first | exact rfl | exact DLead.same | refine ⟨_, _, rfl, ?_, ?_⟩)) hbn rfl)) rfl ?_
      refine DF.op 9 [0,1,2,3,4,5,6,7,8] 10 rfl rfl rfl (.free rfl (NOp.of (by exact g_cmp rfl rfl rfl))) rfl ?_
      refine DF.fin (ps := [(0, 1), (0, 2), (0, 5), (0, 6), (0, 7), (0, 8), (1, 0), (1, 5), (1, 6), (1, 7), (1, 8), (2, 0), (2, 5), (2, 6), (2, 7), (2, 8), (3, 5), (3, 6), (3, 7), (3, 8), (4, 5), (4, 6), (4, 7), (4, 8), (5, 0), (5, 1), (5, 2), (5, 3), (5, 4), (6, 0), (6, 1), (6, 2), (6, 3), (6, 4), (7, 0), (7, 1), (7, 2), (7, 3), (7, 4), (8, 0), (8, 1), (8, 2), (8, 3), (8, 4)]) 10 rfl (by decide +kernel) (by decide +kernel) (by rfl) ?_
      refine th_n ?_
      refine AC.condND rfl (fun h1 => ?_) (fun h1 => ?_)
      · refine AC.seq ?_
        refine AC.region ?_
        refine AL.p (by exact as1 rfl) rfl ?_
        refine AL.p (by exact as1 rfl) rfl ?_
        refine AL.nil ?_
        refine th_n ?_
        refine AC.ret ?_
        refine th_r ?_
        refine ib_r ?_
        refine th_r ?_
        refine th_r ?_
        refine ib_r ?_
        refine th_r ?_
        refine bq_r ?_
        have e := turnR_none (hput.symm.trans (turnL_no hk1 (fun e => h1 (u8_iff.2 e))))
        exact ret2 rfl (by rw [e]; rfl) (by rw [e])
      · refine AC.skip ?_
        refine th_n ?_
        have h1' : mm.getD l[k].sig.toNat 0 = bitLb (!l[k].up) := u8_iff.1 (by simpa using h1)
        have hst := turnL_yes hk1 h1'
        refine AC.drawn' mixed_ok [[], [], [1], [], [3], [3,4], [0,1,2,3,4,5], [0,1,2,3,4,5,6]] (by decide) ?_
        refine DF.op 0 [] 8 rfl rfl rfl (.free rfl (NOp.of (by exact mv2 rfl))) rfl ?_
        refine DF.op 1 [] 8 rfl rfl rfl (.free rfl (NOp.of (by exact g_fa_ref rfl rfl rfl rfl rfl rfl))) rfl ?_
        refine DF.op 2 [1] 8 rfl rfl rfl (.free rfl (NOp.of (by exact g_load_ref rfl rfl rfl))) rfl ?_
        refine DF.op 3 [] 8 rfl rfl rfl (.free rfl (NOp.of (by exact g_fa_ref rfl rfl rfl rfl rfl rfl))) rfl ?_
        refine DF.op 4 [3] 8 rfl rfl rfl (.free rfl (NOp.of (by exact g_load_ref rfl rfl rfl))) rfl ?_
        refine DF.op 5 [3,4] 8 rfl rfl rfl (.free rfl (by exact h_pure en_iBit rfl rfl (by repeat (first | exact rfl | exact DLead.same | refine ⟨_, _, rfl, ?_, ?_⟩)) hby rfl)) rfl ?_
        refine DF.op 6 [0,1,2,3,4,5] 8 rfl rfl rfl (.free rfl (NOp.of (by exact g_ia_own rfl rfl rfl rfl rfl (by assumption) (by omega) (by exact Nat.mul_one _)))) rfl ?_
        refine DF.op 7 [0,1,2,3,4,5,6] 8 rfl rfl rfl (.free rfl (by exact h_store_arr1 rfl rfl rfl rfl (by exact .same) (by assumption))) rfl ?_
        refine DF.fin (ps := [(0, 1), (0, 2), (0, 3), (0, 4), (0, 5), (1, 0), (1, 3), (1, 4), (1, 5), (2, 0), (2, 3), (2, 4), (2, 5), (3, 0), (3, 1), (3, 2), (4, 0), (4, 1), (4, 2), (5, 0), (5, 1), (5, 2)]) 8 rfl (by decide +kernel) (by decide +kernel) (by rfl) ?_
        refine ib_n ?_
        refine th_n ?_
        refine AC.region ?_
        refine AL.p (by exact g_arith rfl rfl rfl (by exact wrap_i64 (by omega))) rfl ?_
        refine AL.p (by exact mv1 rfl) rfl ?_
        refine AL.nil ?_
        refine th_n ?_
        exact ⟨(k + 1, mm.set l[k].sig.toNat (bitLb l[k].up)), ⟨by show k + 1 ≤ _; omega, by rw [List.length_set]; exact hmm, by rw [← hst]; exact hput⟩, by show l.length - (k + 1) < l.length - k; omega, Weak.ren _ [(100, _)] hC rfl (by repeat (first | exact True.intro | refine And.intro ?_ ?_ | exact DLead.same | exact rfl | refine ⟨_, rfl, ?_⟩)) (by rw [← byteEls_set]; repeat (first | exact True.intro | refine And.intro ?_ ?_ | exact rfl | refine ⟨_, _, rfl, rfl, ?_⟩)) rfl rfl rfl⟩
    · refine AC.exit ?_
      refine th_e ?_
      refine th_e ?_
      refine ib_y ?_
      refine th_n ?_
      refine AC.seq ?_
      have hkk : k = l.length := by omega
      subst hkk
      rw [List.drop_length] at hput
      have e := turnR_some hput.symm
      refine AC.region ?_
      refine AL.p (by exact mv2 rfl) rfl ?_
      refine AL.p (by exact g_strOfBytes rfl rfl rfl rfl rfl rfl (by omega)) rfl ?_
      refine AL.p (by exact as1 rfl) rfl ?_
      refine AL.p (by exact as1 rfl) rfl ?_
      refine AL.nil ?_
      refine th_n ?_
      refine AC.ret ?_
      refine bq_r ?_
      exact ret2 rfl (by rw [e]) (by rw [e])
theorem en_switchedCode : Enters Tryd.prog 66 := enters_of Tryd.func66 rfl rfl
theorem bit_case {c : List UInt8} {i : Nat} {up : Bool} {n : Nat} (hb : BitC n c) (hi : i < c.length) : (decide (((c.getD i 0).toNat : Int) = 48) = up) ↔ c.getD i 0 = bitLb (!up) := by
  have hm : c.getD i 0 ∈ c := by rw [List.getD_eq_getElem?_getD, List.getElem?_eq_getElem hi]; exact List.getElem_mem hi
  rcases hb.2 _ hm with h | h <;> rw [h] <;> cases up <;> decide
set_option maxHeartbeats 2000000 in
theorem l24Turned_spec (c : List UInt8) (b : Bur) (n : Nat) (hc : n ≤ 1000000) (hbc : BitC n c) (h1' : b.inn.length ≤ 1048576) (h2' : b.out.length ≤ 1048576) (hin : ∀ x, x ∈ allL b → 0 ≤ x.sig ∧ x.sig < n) : ASpec Tryd.prog 43 [aS (bstr c), burA b] [] (Pure1 (.tup [aS (bstr (turnR c (allL b)).1), aT (turnR c (allL b)).2])) := by
  have hA := l24All_spec b h1' h2'
  have hln : (allL b).length ≤ 4000000 := by rw [List.length_append]; omega
  obtain ⟨l, hl⟩ : ∃ l, l = allL b := ⟨_, rfl⟩
  rw [← hl] at hA hin hln ⊢
  refine ASpec.of Tryd.func43 rfl rfl fun C hC => ?_
  refine AC.seq ?_
  refine AC.region ?_
  refine AL.q (by exact h_boxF rfl rfl) rfl ?_
  refine AL.p (by exact as1 rfl) rfl ?_
  refine AL.p (by exact as1 rfl) rfl ?_
  refine AL.nil ?_
  refine th_n ?_
  refine AC.seq ?_
  refine AC.seq ?_
  refine AC.region ?_
  refine AL.p (by exact g_load_refN rfl rfl rfl rfl) rfl ?_
  refine AL.q (by exact h_pure en_l24All rfl rfl (by repeat (first | exact rfl | exact DLead.same | refine ⟨_, _, rfl, ?_, ?_⟩ | refine ⟨_, rfl, ?_⟩)) hA rfl) rfl ?_
  refine AL.p (by exact g_len_view rfl rfl (by exact List.length_map _)) rfl ?_
  refine AL.p (by exact mv1 rfl) rfl ?_
  refine AL.nil ?_
  refine th_n ?_
  refine AC.block ?_
  refine AC.loop (ι := Nat × List UInt8) (fun x => ⟨32, 0, [(0, aS (bstr x.2)), (9, .d (vLabs l)), (10, aI l.length), (11, aI x.1)], []⟩) (fun x => x.1 ≤ l.length ∧ BitC n x.2 ∧ turnL x.2 (l.drop x.1) = turnL c l) (fun x => l.length - x.1) ((0, c)) ?_ (⟨Nat.zero_le _, hbc, rfl⟩) ?_
  · refine Weak.ren _ [] hC rfl ?_ ?_ rfl rfl rfl <;> repeat (first | exact True.intro | refine And.intro ?_ ?_ | exact DLead.same)
  · rintro ⟨k, mm⟩ ⟨hk, hmm, hput⟩
    dsimp only at hk hmm hput ⊢
    refine AC.seq ?_
    refine AC.region ?_
    refine AL.p (by exact g_cmp rfl rfl rfl) rfl ?_
    refine AL.nil ?_
    refine th_n ?_
    refine AC.seq ?_
    refine AC.condD rfl (fun h0 => ?_) (fun h0 => ?_)
    · refine AC.skip ?_
      refine th_n ?_
      refine AC.seq ?_
      refine AC.block ?_
      refine AC.seq ?_
      have hk1 : k < l.length := by omega
      have hget := labsL_get hk1
      have hpk := hin _ (List.getElem_mem hk1)
      have hml := hmm.1
      have hI : l[k].sig = ((l[k].sig.toNat : Nat) : Int) := by omega
      have hgm : (bstr mm).data.toList[l[k].sig.toNat]? = some (mm.getD l[k].sig.toNat 0) := bstr_getD (by omega)
      have hbc2 := bit_case (up := l[k].up) hmm (i := l[k].sig.toNat) (by omega)
      have hby := l5Bit_spec l[k].up
      have hS := l5Set_spec mm l[k].sig.toNat (bitLb l[k].up) (by omega) (by omega)
      rw [← hI] at hS
      refine AC.region ?_
      refine AL.p (by exact g_ia_view rfl rfl rfl rfl rfl (by rfl) (by assumption)) rfl ?_
      refine AL.p (by exact g_load_refN rfl rfl rfl rfl) rfl ?_
      refine AL.q (by exact h_alloc rfl) rfl ?_
      refine AL.q (by exact h_store rfl rfl rfl rfl rfl rfl) rfl ?_
      refine AL.nil ?_
      refine th_n ?_
      refine AC.seq ?_
      refine AC.seq ?_
      refine AC.weak (Weak.freezeRef (ds := labD l[k]) 7 rfl rfl) ?_
      refine AC.drawn' mixed_ok [[], [], [1], [0,1,2], [0,1,2,3], [], [5], [0,1,2,3,4,5,6]] (by decide) ?_
      refine DF.op 0 [] 8 rfl rfl rfl (.free rfl (NOp.of (by exact mv1 rfl))) rfl ?_
      refine DF.op 1 [] 8 rfl rfl rfl (.free rfl (NOp.of (by exact g_fa_ref rfl rfl rfl rfl rfl rfl))) rfl ?_
      refine DF.op 2 [1] 8 rfl rfl rfl (.free rfl (NOp.of (by exact g_load_ref rfl rfl rfl))) rfl ?_
      refine DF.op 3 [0,1,2] 8 rfl rfl rfl (.free rfl (NOp.of (by exact g_index rfl rfl rfl (by assumption) (by assumption)))) rfl ?_
      refine DF.op 4 [0,1,2,3] 8 rfl rfl rfl (.free rfl (NOp.of (by exact g_cmp rfl rfl rfl))) rfl ?_
      refine DF.op 5 [] 8 rfl rfl rfl (.free rfl (NOp.of (by exact g_fa_ref rfl rfl rfl rfl rfl rfl))) rfl ?_
      refine DF.op 6 [5] 8 rfl rfl rfl (.free rfl (NOp.of (by exact g_load_ref rfl rfl rfl))) rfl ?_
      refine DF.op 7 [0,1,2,3,4,5,6] 8 rfl rfl rfl (.free rfl (NOp.of (by exact g_neB rfl rfl rfl))) rfl ?_
      refine DF.fin (ps := [(0, 1), (0, 2), (0, 5), (0, 6), (1, 0), (1, 5), (1, 6), (2, 0), (2, 5), (2, 6), (3, 5), (3, 6), (4, 5), (4, 6), (5, 0), (5, 1), (5, 2), (5, 3), (5, 4), (6, 0), (6, 1), (6, 2), (6, 3), (6, 4)]) 8 rfl (by decide +kernel) (by decide +kernel) (by rfl) ?_
      refine th_n ?_
      refine AC.condND rfl (fun h1 => ?_) (fun h1 => ?_)
      · refine AC.seq ?_
        refine AC.region ?_
        refine AL.p (by exact as1 rfl) rfl ?_
        refine AL.p (by exact as1 rfl) rfl ?_
        refine AL.nil ?_
        refine th_n ?_
        refine AC.ret ?_
        refine th_r ?_
        refine ib_r ?_
        refine th_r ?_
        refine th_r ?_
        refine ib_r ?_
        refine th_r ?_
        refine bq_r ?_
        have e := turnR_none (hput.symm.trans (turnL_no hk1 (fun e => h1 (hbc2.2 e))))
        exact ret2 rfl (by rw [e]; rfl) (by rw [e])
      · refine AC.skip ?_
        refine th_n ?_
        have h1' : mm.getD l[k].sig.toNat 0 = bitLb (!l[k].up) := hbc2.1 (by simpa using h1)
        have hst := turnL_yes hk1 h1'
        refine AC.drawn' mixed_ok [[], [], [1], [], [3], [3,4], [0,1,2,3,4,5], [0,1,2,3,4,5,6]] (by decide) ?_
        refine DF.op 0 [] 8 rfl rfl rfl (.free rfl (NOp.of (by exact mv1 rfl))) rfl ?_
        refine DF.op 1 [] 8 rfl rfl rfl (.free rfl (NOp.of (by exact g_fa_ref rfl rfl rfl rfl rfl rfl))) rfl ?_
        refine DF.op 2 [1] 8 rfl rfl rfl (.free rfl (NOp.of (by exact g_load_ref rfl rfl rfl))) rfl ?_
        refine DF.op 3 [] 8 rfl rfl rfl (.free rfl (NOp.of (by exact g_fa_ref rfl rfl rfl rfl rfl rfl))) rfl ?_
        refine DF.op 4 [3] 8 rfl rfl rfl (.free rfl (NOp.of (by exact g_load_ref rfl rfl rfl))) rfl ?_
        refine DF.op 5 [3,4] 8 rfl rfl rfl (.free rfl (by exact h_pure en_l5Bit rfl rfl (by repeat (first | exact rfl | exact DLead.same | refine ⟨_, _, rfl, ?_, ?_⟩)) hby rfl)) rfl ?_
        refine DF.op 6 [0,1,2,3,4,5] 8 rfl rfl rfl (.free rfl (by exact h_pure en_l5Set rfl rfl (by repeat (first | exact rfl | exact DLead.same | refine ⟨_, _, rfl, ?_, ?_⟩)) hS rfl)) rfl ?_
        refine DF.op 7 [0,1,2,3,4,5,6] 8 rfl rfl rfl (.free rfl (NOp.of (by exact as1 rfl))) rfl ?_
        refine DF.fin (ps := [(0, 1), (0, 2), (0, 3), (0, 4), (0, 5), (1, 0), (1, 3), (1, 4), (1, 5), (2, 0), (2, 3), (2, 4), (2, 5), (3, 0), (3, 1), (3, 2), (4, 0), (4, 1), (4, 2), (5, 0), (5, 1), (5, 2)]) 8 rfl (by decide +kernel) (by decide +kernel) (by rfl) ?_
        refine ib_n ?_
        refine th_n ?_
        refine AC.region ?_
        refine AL.p (by exact g_arith rfl rfl rfl (by exact wrap_i64 (by omega))) rfl ?_
        refine AL.p (by exact mv1 rfl) rfl ?_
        refine AL.nil ?_
        refine th_n ?_
        exact ⟨(k + 1, mm.set l[k].sig.toNat (bitLb l[k].up)), ⟨by show k + 1 ≤ _; omega, hmm.set _ _, by rw [← hst]; exact hput⟩, by show l.length - (k + 1) < l.length - k; omega, Weak.ren _ [] hC rfl (by repeat (first | exact True.intro | refine And.intro ?_ ?_ | exact DLead.same)) (by repeat (exact True.intro)) rfl rfl rfl⟩
    · refine AC.exit ?_
      refine th_e ?_
      refine th_e ?_
      refine ib_y ?_
      refine th_n ?_
      refine AC.seq ?_
      have hkk : k = l.length := by omega
      subst hkk
      rw [List.drop_length] at hput
      have e := turnR_some hput.symm
      refine AC.region ?_
      refine AL.p (by exact mv1 rfl) rfl ?_
      refine AL.p (by exact as1 rfl) rfl ?_
      refine AL.p (by exact as1 rfl) rfl ?_
      refine AL.nil ?_
      refine th_n ?_
      refine AC.ret ?_
      refine bq_r ?_
      exact ret2 rfl (by rw [e]) (by rw [e])
theorem en_l24Turned : Enters Tryd.prog 43 := enters_of Tryd.func43 rfl rfl
end Go.Proofs.YtacmonmehcdhaaaDoor

