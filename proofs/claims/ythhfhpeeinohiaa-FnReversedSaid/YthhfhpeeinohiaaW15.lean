/- Walks: nets drawn. -/
import Derived.Test.YthhfhpeeinohiaaW14
import Derived.Test.YthhfhpeeinohiaaC3
set_option linter.all false
namespace Go.Proofs.Ythhfhpeeinohiaa
open Go.RowKit

theorem tsL_len (l : List Tn) : (tsL l).length = l.length := List.length_map _
theorem tsL_all (l : List Tn) : (tsL l).take l.length = tsL l := by rw [List.take_of_length_le (by simp)]
/-- append over lists of transitions. -/
theorem h_appendT (acc new : List Tn) {s : ASt} {dst : Option Nat} {ty : Nat} {pos : String} {af : Array Edge} {gd : Option (Nat × Bool)} {x y : Operand} {f : Nat} {ids ids2 : List Nat} {gone : List (Nat × Option Chunk)}
    (hto : AppTo s x 36 2 (tsL acc) ids gone) (harg : AppArg s y 2 (tsL new) ids2) (h : (acc ++ new).length ≤ 100000000) (hnew : gone = [] → 0 < new.length) :
    NOp Try.prog (ids ++ ids2) s ⟨dst, .call { callee := .builtin .append, args := #[x, y], argTypes := #[24, 24] }, ty, pos, af, gd⟩ f ⟨.own f (acc ++ new).length, (f, some (.arr 36 2 (tsL (acc ++ new)))) :: gone⟩ := by
  have := h_append (P := Try.prog) (s := s) (dst := dst) (ty := ty) (pos := pos) (af := af) (gd := gd) (x := x) (y := y) (f := f) (t := 24) (tx := 24) (k := (acc ++ new).length) rfl rfl rfl rfl rfl rfl hto harg (by simp) (by omega) (by show (acc ++ new).length * 48 ≤ _; omega) (fun h => by rw [tsL_len]; exact hnew h)
  rwa [← List.map_append] at this

def Cur.tn (c : Cur) (p : Int) : Tn × Cur :=
  (⟨(c.subset p 2).1, if (((c.subset p 2).2.subset p 2).2.pick 10).1 = 0 then [] else ((c.subset p 2).2.subset p 2).1⟩, (((c.subset p 2).2.subset p 2).2.pick 10).2)
theorem Cur.tn_in (c : Cur) (p : Int) : (c.tn p).1.pre.length ≤ 2 ∧ (c.tn p).1.post.length ≤ 2 ∧ (c.tn p).2.pos ≤ c.pos + 14 ∧ (c.tn p).2.code = c.code := by
  have h1 := c.subset_in p 2 (by decide)
  have h2 := (c.subset p 2).2.subset_in p 2 (by decide)
  have h3 := ((c.subset p 2).2.subset p 2).2.pick_pos 10
  have h4 := ((c.subset p 2).2.subset p 2).2.pick_code 10
  refine ⟨?_, ?_, ?_, ?_⟩
  · show (c.subset p 2).1.length ≤ 2; omega
  · show (if _ then ([] : List Int) else _).length ≤ 2
    split
    · simp
    · omega
  · show (((c.subset p 2).2.subset p 2).2.pick 10).2.pos ≤ _; omega
  · show (((c.subset p 2).2.subset p 2).2.pick 10).2.code = _; rw [h4, h2.2.2, h1.2.2]
def netN (p : Int) : Nat → Cur → List Tn → List Tn × Cur
  | 0, c, ts => (ts, c)
  | j + 1, c, ts => netN p j (c.tn p).2 (ts ++ [(c.tn p).1])
theorem netN_in (p : Int) : ∀ (j : Nat) (c : Cur) (ts : List Tn), (∀ t, t ∈ ts → t.pre.length ≤ 2 ∧ t.post.length ≤ 2) → (netN p j c ts).1.length = ts.length + j ∧ (∀ t, t ∈ (netN p j c ts).1 → t.pre.length ≤ 2 ∧ t.post.length ≤ 2) ∧ (netN p j c ts).2.pos ≤ c.pos + 14 * j ∧ (netN p j c ts).2.code = c.code
  | 0, c, ts, h => ⟨rfl, h, Nat.le_refl _, rfl⟩
  | j + 1, c, ts, h => by
    have h1 := c.tn_in p
    have h2 := netN_in p j (c.tn p).2 (ts ++ [(c.tn p).1]) (fun t ht => by
      rcases List.mem_append.1 ht with h' | h'
      · exact h t h'
      · rw [List.mem_singleton] at h'; subst h'; exact ⟨h1.1, h1.2.1⟩)
    simp only [List.length_append, List.length_cons, List.length_nil] at h2
    simp only [netN]
    exact ⟨by omega, h2.2.1, by omega, by rw [h2.2.2.2, h1.2.2.2]⟩
def Cur.netP (c : Cur) : Int := 2 + (c.pick 5).1
def Cur.netT (c : Cur) : List Tn × Cur := netN c.netP ((c.pick 5).2.pick 5).1.toNat ((c.pick 5).2.pick 5).2 []

set_option maxHeartbeats 4000000 in
theorem net_spec (c : Cur) (hp : c.pos ≤ 1000000000000) : ASpec Try.prog 66 [.ptr 0 0] [(0, curC c)] (Fun1 (.agg [aI c.netP, .own 1 c.netT.1.length]) [(0, curC c.netT.2), (1, .arr 36 2 (tsL c.netT.1))]) := by
  have hp1 := c.pick_in 5 (by decide)
  have hq1 := c.pick_pos 5
  have hp2 := (c.pick 5).2.pick_in 5 (by decide)
  have hq2 := (c.pick 5).2.pick_pos 5
  have hnp : 2 ≤ c.netP ∧ c.netP ≤ 6 := by unfold Cur.netP; omega
  refine ASpec.of Try.func66 rfl rfl fun C hC => ?_
  refine AC.seq ?_
  refine AC.region ?_
  refine AL.q (by exact h_alloc rfl) rfl ?_
  refine AL.nil ?_
  refine th_n ?_
  refine AC.seq ?_
  refine AC.region ?_
  refine AL.p (by first | exact g_move (r := .d _) rfl | exact g_move (r := .own _ _) rfl | exact g_move (r := .ptr _ _) rfl | exact g_move (r := .agg _) rfl | exact g_move (r := .tup _) rfl | exact g_move (r := .clo _ _) rfl | exact g_move (r := .tight _ _ _) rfl | exact g_move (r := .und) rfl | exact g_move (r := .dead) rfl) rfl ?_
  refine AL.q (by exact h_fun (cs := [0]) en_pick rfl rfl (by repeat (first | exact rfl | exact DLead.same | exact DLead.nil | refine ⟨_, _, rfl, ?_, ?_⟩ | refine ⟨_, rfl, ?_⟩ | exact ⟨_, rfl, rfl⟩)) (by repeat (first | exact True.intro | refine And.intro ?_ ?_ | exact DLead.same | exact DLead.eqI (by omega) | exact DLead.nil | exact rfl | refine ⟨_, _, rfl, rfl, ?_⟩ | refine ⟨_, rfl, ?_⟩ | refine ⟨_, _, rfl, ?_, ?_⟩)) (pick_spec _ _ (by first | assumption | omega) (by first | assumption | omega)) rfl rfl rfl rfl) rfl ?_
  refine AL.p (by first | exact g_arith rfl rfl rfl (by first | exact wrap_i64 (by omega) | exact wrap_u8 (by omega) | exact wrap_u64 (by omega) | rfl) | exact g_sadd rfl rfl (by first | assumption | omega | (simp only [ByteArray.size_append, bstr_size, List.length_take, List.length_drop, List.length_cons, List.length_nil]; omega))) rfl ?_
  refine AL.p (by exact g_build rfl rfl rfl) rfl ?_
  refine AL.q (by exact h_alloc rfl) rfl ?_
  refine AL.q (by first | exact h_store rfl rfl rfl rfl rfl rfl | exact h_store_arr1 rfl rfl rfl rfl (by first | exact .same | exact .nil) (by assumption) | exact h_store_arr rfl rfl rfl rfl (by first | exact .same | exact .nil) (by first | rfl | omega) (by first | assumption | rfl) (by omega)) rfl ?_
  refine AL.nil ?_
  refine th_n ?_
  refine AC.seq ?_
  refine AC.seq ?_
  refine AC.region ?_
  refine AL.p (by first | exact g_move (r := .d _) rfl | exact g_move (r := .own _ _) rfl | exact g_move (r := .ptr _ _) rfl | exact g_move (r := .agg _) rfl | exact g_move (r := .tup _) rfl | exact g_move (r := .clo _ _) rfl | exact g_move (r := .tight _ _ _) rfl | exact g_move (r := .und) rfl | exact g_move (r := .dead) rfl) rfl ?_
  refine AL.q (by exact h_fun (cs := [0]) en_pick rfl rfl (by repeat (first | exact rfl | exact DLead.same | exact DLead.nil | refine ⟨_, _, rfl, ?_, ?_⟩ | refine ⟨_, rfl, ?_⟩ | exact ⟨_, rfl, rfl⟩)) (by repeat (first | exact True.intro | refine And.intro ?_ ?_ | exact DLead.same | exact DLead.eqI (by omega) | exact DLead.nil | exact rfl | refine ⟨_, _, rfl, rfl, ?_⟩ | refine ⟨_, rfl, ?_⟩ | refine ⟨_, _, rfl, ?_, ?_⟩)) (pick_spec _ _ (by first | assumption | omega) (by first | assumption | omega)) rfl rfl rfl rfl) rfl ?_
  refine AL.p (by first | exact g_assign (r := .d _) rfl | exact g_assign (r := .own _ _) rfl | exact g_assign (r := .ptr _ _) rfl | exact g_assign (r := .agg _) rfl | exact g_assign (r := .tup _) rfl | exact g_assign (r := .clo _ _) rfl | exact g_assign (r := .tight _ _ _) rfl | exact g_assign (r := .und) rfl | exact g_assign (r := .dead) rfl) rfl ?_
  refine AL.nil ?_
  refine th_n ?_
  refine AC.block ?_
  refine AC.loop (ι := Nat × Cur × List Tn) (fun x => ⟨35, 128, [(0, .ptr 0 0), (2, .ptr 102 0), (3, .ptr 100 0), (4, aI x.1)], [(0, some (curC x.2.1)), (100, some (.cells 26 [aI c.netP, .own 101 x.2.2.length])), (101, some (.arr 36 2 (tsL x.2.2))), (102, some (.cells 26 [aI 0, .d (.val (.slice none 0 0))]))]⟩) (fun x => netN c.netP x.1 x.2.1 x.2.2 = c.netT ∧ x.2.2.length + x.1 ≤ 10 ∧ x.2.1.pos + 14 * x.1 ≤ 2000000000000) (fun x => x.1) ((((c.pick 5).2.pick 5).1.toNat, ((c.pick 5).2.pick 5).2, [])) ?_ (⟨rfl, by show 0 + ((c.pick 5).2.pick 5).1.toNat ≤ _; omega, by show ((c.pick 5).2.pick 5).2.pos + 14 * ((c.pick 5).2.pick 5).1.toNat ≤ _; omega⟩) ?_
  · exact (Weak.nilOwnP 3 1 (e := 36) (sz := 2) rfl rfl rfl rfl rfl).trans (Weak.ren _ [(100, _), (101, _), (102, _)] hC rfl (by repeat (first | exact True.intro | refine And.intro ?_ ?_ | exact DLead.same | exact DLead.eqI (by omega) | exact DLead.nil | exact rfl | refine ⟨_, _, rfl, rfl, ?_⟩ | refine ⟨_, rfl, ?_⟩ | refine ⟨_, _, rfl, ?_, ?_⟩)) (by repeat (first | exact True.intro | refine And.intro ?_ ?_ | exact DLead.same | exact DLead.eqI (by omega) | exact DLead.nil | exact rfl | refine ⟨_, _, rfl, rfl, ?_⟩ | refine ⟨_, rfl, ?_⟩ | refine ⟨_, _, rfl, ?_, ?_⟩)) rfl rfl rfl)
  · rintro ⟨j, cc, ts⟩ ⟨hsub, hlen, hpos⟩
    dsimp only at hsub hlen hpos ⊢
    refine AC.seq ?_
    refine AC.seq ?_
    refine AC.region ?_
    refine AL.p (by first | exact g_move (r := .d _) rfl | exact g_move (r := .own _ _) rfl | exact g_move (r := .ptr _ _) rfl | exact g_move (r := .agg _) rfl | exact g_move (r := .tup _) rfl | exact g_move (r := .clo _ _) rfl | exact g_move (r := .tight _ _ _) rfl | exact g_move (r := .und) rfl | exact g_move (r := .dead) rfl) rfl ?_
    refine AL.p (by first | exact g_cmp rfl rfl rfl | exact g_scmp rfl rfl rfl | exact g_eqB rfl rfl rfl | exact g_neB rfl rfl rfl) rfl ?_
    refine AL.nil ?_
    refine th_n ?_
    first | refine AC.condD rfl (fun h0 => ?_) (fun h0 => ?_) | refine AC.condND rfl (fun h0 => ?_) (fun h0 => ?_) | refine AC.condB rfl (fun h0 => ?_) (fun h0 => ?_) | refine AC.condNB rfl (fun h0 => ?_) (fun h0 => ?_)
    · refine AC.skip ?_
      refine th_n ?_
      refine AC.seq ?_
      refine AC.block ?_
      refine AC.seq ?_
      obtain ⟨i, rfl⟩ : ∃ i, j = i + 1 := ⟨j - 1, by omega⟩
      have ht := cc.tn_in c.netP
      have hs1 := cc.subset_in c.netP 2 (by decide)
      have hs2 := (cc.subset c.netP 2).2.subset_in c.netP 2 (by decide)
      have hs3 := ((cc.subset c.netP 2).2.subset c.netP 2).2.pick_pos 10
      refine AC.drawn' mixed_ok [[], [], [1], [0,1,2], [], [], [5], [0,1,2,3,4,5,6], [0,1,2,3,4,5,6,7], [], [0,1,2,3,4,5,6,7,8,9]] (by decide) ?_
      refine DF.op 0 [] 11 rfl rfl rfl (.free rfl (NOp.of (by first | exact g_move (r := .d _) rfl | exact g_move (r := .own _ _) rfl | exact g_move (r := .ptr _ _) rfl | exact g_move (r := .agg _) rfl | exact g_move (r := .tup _) rfl | exact g_move (r := .clo _ _) rfl | exact g_move (r := .tight _ _ _) rfl | exact g_move (r := .und) rfl | exact g_move (r := .dead) rfl))) rfl ?_
      refine DF.op 1 [] 11 rfl rfl rfl (.free rfl (NOp.of (by first | exact g_fa_ref rfl rfl rfl rfl rfl rfl | exact g_fa_ptr rfl rfl rfl rfl rfl))) rfl ?_
      refine DF.op 2 [1] 11 rfl rfl rfl (.free rfl (NOp.of (by first | exact g_load_ref rfl rfl rfl | exact g_load_ptr rfl rfl rfl rfl rfl | exact g_load_refN rfl rfl rfl rfl | exact g_load_ptrN rfl rfl rfl rfl rfl | exact g_load_arr1 rfl rfl rfl rfl (by assumption) | exact g_load_arr rfl rfl rfl rfl (by first | rfl | omega) (by first | assumption | rfl) (by first | assumption | rfl)))) rfl ?_
      refine DF.op 3 [0,1,2] 11 rfl rfl rfl (.free rfl (by exact h_fun (cs := [0]) en_subset rfl rfl (by repeat (first | exact rfl | exact DLead.same | exact DLead.nil | refine ⟨_, _, rfl, ?_, ?_⟩ | refine ⟨_, rfl, ?_⟩ | exact ⟨_, rfl, rfl⟩)) (by repeat (first | exact True.intro | refine And.intro ?_ ?_ | exact DLead.same | exact DLead.eqI (by omega) | exact DLead.nil | exact rfl | refine ⟨_, _, rfl, rfl, ?_⟩ | refine ⟨_, rfl, ?_⟩ | refine ⟨_, _, rfl, ?_, ?_⟩)) (subset_spec _ _ _ (by first | assumption | omega) (by first | assumption | omega) (by first | assumption | omega) (by first | assumption | omega)) rfl rfl rfl rfl)) rfl ?_
      refine DF.op 4 [] 11 rfl rfl rfl (.free rfl (NOp.of (by first | exact g_move (r := .d _) rfl | exact g_move (r := .own _ _) rfl | exact g_move (r := .ptr _ _) rfl | exact g_move (r := .agg _) rfl | exact g_move (r := .tup _) rfl | exact g_move (r := .clo _ _) rfl | exact g_move (r := .tight _ _ _) rfl | exact g_move (r := .und) rfl | exact g_move (r := .dead) rfl))) rfl ?_
      refine DF.op 5 [] 11 rfl rfl rfl (.free rfl (NOp.of (by first | exact g_fa_ref rfl rfl rfl rfl rfl rfl | exact g_fa_ptr rfl rfl rfl rfl rfl))) rfl ?_
      refine DF.op 6 [5] 11 rfl rfl rfl (.free rfl (NOp.of (by first | exact g_load_ref rfl rfl rfl | exact g_load_ptr rfl rfl rfl rfl rfl | exact g_load_refN rfl rfl rfl rfl | exact g_load_ptrN rfl rfl rfl rfl rfl | exact g_load_arr1 rfl rfl rfl rfl (by assumption) | exact g_load_arr rfl rfl rfl rfl (by first | rfl | omega) (by first | assumption | rfl) (by first | assumption | rfl)))) rfl ?_
      refine DF.op 7 [0,1,2,3,4,5,6] 11 rfl rfl rfl (.free rfl (by exact h_fun (cs := [0]) en_subset rfl rfl (by repeat (first | exact rfl | exact DLead.same | exact DLead.nil | refine ⟨_, _, rfl, ?_, ?_⟩ | refine ⟨_, rfl, ?_⟩ | exact ⟨_, rfl, rfl⟩)) (by repeat (first | exact True.intro | refine And.intro ?_ ?_ | exact DLead.same | exact DLead.eqI (by omega) | exact DLead.nil | exact rfl | refine ⟨_, _, rfl, rfl, ?_⟩ | refine ⟨_, rfl, ?_⟩ | refine ⟨_, _, rfl, ?_, ?_⟩)) (subset_spec _ _ _ (by first | assumption | omega) (by first | assumption | omega) (by first | assumption | omega) (by first | assumption | omega)) rfl rfl rfl rfl)) rfl ?_
      refine DF.op 8 [0,1,2,3,4,5,6,7] 11 rfl rfl rfl (.free rfl (NOp.of (by exact g_build rfl rfl rfl))) rfl ?_
      refine DF.op 9 [] 11 rfl rfl rfl (.free rfl (by exact h_alloc rfl)) rfl ?_
      refine DF.op 10 [0,1,2,3,4,5,6,7,8,9] 11 rfl rfl rfl (.free rfl (by first | exact h_store rfl rfl rfl rfl rfl rfl | exact h_store_arr1 rfl rfl rfl rfl (by first | exact .same | exact .nil) (by assumption) | exact h_store_arr rfl rfl rfl rfl (by first | exact .same | exact .nil) (by first | rfl | omega) (by first | assumption | rfl) (by omega))) rfl ?_
      refine DF.fin (ps := [(0, 1), (0, 2), (0, 4), (0, 5), (0, 6), (0, 9), (1, 0), (1, 4), (1, 5), (1, 6), (1, 9), (2, 0), (2, 4), (2, 5), (2, 6), (2, 9), (3, 4), (3, 5), (3, 6), (3, 9), (4, 0), (4, 1), (4, 2), (4, 3), (4, 5), (4, 6), (4, 9), (5, 0), (5, 1), (5, 2), (5, 3), (5, 4), (5, 9), (6, 0), (6, 1), (6, 2), (6, 3), (6, 4), (6, 9), (7, 9), (8, 9), (9, 0), (9, 1), (9, 2), (9, 3), (9, 4), (9, 5), (9, 6), (9, 7), (9, 8)]) 11 rfl (by decide) (by decide) (by rfl) ?_
      refine th_n ?_
      refine AC.cut (fun (_ : Unit) => ⟨35, 136, [(0, .ptr 0 0), (2, .ptr 102 0), (3, .ptr 100 0), (4, aI ((i + 1 : Nat) : Int)), (5, .ptr 103 0)], [(0, some (curC (cc.tn c.netP).2)), (100, some (.cells 26 [aI c.netP, .own 101 ts.length])), (101, some (.arr 36 2 (tsL ts))), (102, some (.cells 26 [aI 0, .d (.val (.slice none 0 0))])), (103, some (.cells 36 [.d (vI (cc.tn c.netP).1.pre), .d (vI (cc.tn c.netP).1.post)]))]⟩) (fun _ => True) ?_ ?_
      · refine AC.seq ?_
        refine AC.region ?_
        refine AL.p (by first | exact g_move (r := .d _) rfl | exact g_move (r := .own _ _) rfl | exact g_move (r := .ptr _ _) rfl | exact g_move (r := .agg _) rfl | exact g_move (r := .tup _) rfl | exact g_move (r := .clo _ _) rfl | exact g_move (r := .tight _ _ _) rfl | exact g_move (r := .und) rfl | exact g_move (r := .dead) rfl) rfl ?_
        refine AL.q (by exact h_fun (cs := [0]) en_one rfl rfl (by repeat (first | exact rfl | exact DLead.same | exact DLead.nil | refine ⟨_, _, rfl, ?_, ?_⟩ | refine ⟨_, rfl, ?_⟩ | exact ⟨_, rfl, rfl⟩)) (by repeat (first | exact True.intro | refine And.intro ?_ ?_ | exact DLead.same | exact DLead.eqI (by omega) | exact DLead.nil | exact rfl | refine ⟨_, _, rfl, rfl, ?_⟩ | refine ⟨_, rfl, ?_⟩ | refine ⟨_, _, rfl, ?_, ?_⟩)) (one_spec _ _ (by first | assumption | omega) (by first | assumption | omega)) rfl rfl rfl rfl) rfl ?_
        refine AL.nil ?_
        refine th_n ?_
        first | refine AC.condD rfl (fun h1 => ?_) (fun h1 => ?_) | refine AC.condND rfl (fun h1 => ?_) (fun h1 => ?_) | refine AC.condB rfl (fun h1 => ?_) (fun h1 => ?_) | refine AC.condNB rfl (fun h1 => ?_) (fun h1 => ?_)
        · refine AC.region ?_
          refine AL.p (by first | exact g_fa_ref rfl rfl rfl rfl rfl rfl | exact g_fa_ptr rfl rfl rfl rfl rfl) rfl ?_
          refine AL.q (by first | exact h_store rfl rfl rfl rfl rfl rfl | exact h_store_arr1 rfl rfl rfl rfl (by first | exact .same | exact .nil) (by assumption) | exact h_store_arr rfl rfl rfl rfl (by first | exact .same | exact .nil) (by first | rfl | omega) (by first | assumption | rfl) (by omega)) rfl ?_
          refine AL.nil ?_
          refine th_n ?_
          first | (have e : (cc.tn c.netP).1.post = [] := (by show (if _ then ([] : List Int) else _) = _; rw [if_pos h1]); exact ⟨(), trivial, Weak.ren _ [(100, _), (101, _), (102, _), (103, _)] hC rfl (by repeat (first | exact True.intro | refine And.intro ?_ ?_ | exact DLead.same | exact DLead.eqI (by omega) | exact DLead.nil | exact rfl | refine ⟨_, _, rfl, rfl, ?_⟩ | refine ⟨_, rfl, ?_⟩ | refine ⟨_, _, rfl, ?_, ?_⟩)) (by rw [e]; repeat (first | exact True.intro | refine And.intro ?_ ?_ | exact DLead.same | exact DLead.eqI (by omega) | exact DLead.nil | exact rfl | refine ⟨_, _, rfl, rfl, ?_⟩ | refine ⟨_, rfl, ?_⟩ | refine ⟨_, _, rfl, ?_, ?_⟩)) rfl rfl rfl⟩) | (have e : (cc.tn c.netP).1.post = ((cc.subset c.netP 2).2.subset c.netP 2).1 := (by show (if _ then ([] : List Int) else _) = _; rw [if_neg h1]); exact ⟨(), trivial, Weak.ren _ [(100, _), (101, _), (102, _), (103, _)] hC rfl (by repeat (first | exact True.intro | refine And.intro ?_ ?_ | exact DLead.same | exact DLead.eqI (by omega) | exact DLead.nil | exact rfl | refine ⟨_, _, rfl, rfl, ?_⟩ | refine ⟨_, rfl, ?_⟩ | refine ⟨_, _, rfl, ?_, ?_⟩)) (by rw [e]; repeat (first | exact True.intro | refine And.intro ?_ ?_ | exact DLead.same | exact DLead.eqI (by omega) | exact DLead.nil | exact rfl | refine ⟨_, _, rfl, rfl, ?_⟩ | refine ⟨_, rfl, ?_⟩ | refine ⟨_, _, rfl, ?_, ?_⟩)) rfl rfl rfl⟩)
        · refine AC.skip ?_
          refine th_n ?_
          first | (have e : (cc.tn c.netP).1.post = [] := (by show (if _ then ([] : List Int) else _) = _; rw [if_pos h1]); exact ⟨(), trivial, Weak.ren _ [(100, _), (101, _), (102, _), (103, _)] hC rfl (by repeat (first | exact True.intro | refine And.intro ?_ ?_ | exact DLead.same | exact DLead.eqI (by omega) | exact DLead.nil | exact rfl | refine ⟨_, _, rfl, rfl, ?_⟩ | refine ⟨_, rfl, ?_⟩ | refine ⟨_, _, rfl, ?_, ?_⟩)) (by rw [e]; repeat (first | exact True.intro | refine And.intro ?_ ?_ | exact DLead.same | exact DLead.eqI (by omega) | exact DLead.nil | exact rfl | refine ⟨_, _, rfl, rfl, ?_⟩ | refine ⟨_, rfl, ?_⟩ | refine ⟨_, _, rfl, ?_, ?_⟩)) rfl rfl rfl⟩) | (have e : (cc.tn c.netP).1.post = ((cc.subset c.netP 2).2.subset c.netP 2).1 := (by show (if _ then ([] : List Int) else _) = _; rw [if_neg h1]); exact ⟨(), trivial, Weak.ren _ [(100, _), (101, _), (102, _), (103, _)] hC rfl (by repeat (first | exact True.intro | refine And.intro ?_ ?_ | exact DLead.same | exact DLead.eqI (by omega) | exact DLead.nil | exact rfl | refine ⟨_, _, rfl, rfl, ?_⟩ | refine ⟨_, rfl, ?_⟩ | refine ⟨_, _, rfl, ?_, ?_⟩)) (by rw [e]; repeat (first | exact True.intro | refine And.intro ?_ ?_ | exact DLead.same | exact DLead.eqI (by omega) | exact DLead.nil | exact rfl | refine ⟨_, _, rfl, rfl, ?_⟩ | refine ⟨_, rfl, ?_⟩ | refine ⟨_, _, rfl, ?_, ?_⟩)) rfl rfl rfl⟩)
      · intro _ _
        refine AC.region ?_
        refine AL.p (by first | exact g_fa_ref rfl rfl rfl rfl rfl rfl | exact g_fa_ptr rfl rfl rfl rfl rfl) rfl ?_
        refine AL.p (by first | exact g_load_ref rfl rfl rfl | exact g_load_ptr rfl rfl rfl rfl rfl | exact g_load_refN rfl rfl rfl rfl | exact g_load_ptrN rfl rfl rfl rfl rfl | exact g_load_arr1 rfl rfl rfl rfl (by assumption) | exact g_load_arr rfl rfl rfl rfl (by first | rfl | omega) (by first | assumption | rfl) (by first | assumption | rfl)) rfl ?_
        refine AL.p (by first | exact g_load_ref rfl rfl rfl | exact g_load_ptr rfl rfl rfl rfl rfl | exact g_load_refN rfl rfl rfl rfl | exact g_load_ptrN rfl rfl rfl rfl rfl | exact g_load_arr1 rfl rfl rfl rfl (by assumption) | exact g_load_arr rfl rfl rfl rfl (by first | rfl | omega) (by first | assumption | rfl) (by first | assumption | rfl)) rfl ?_
        refine AL.q (by exact h_litF rfl rfl rfl rfl rfl rfl rfl rfl) rfl ?_
        refine AL.q (by exact h_appendT ts [(cc.tn c.netP).1] (.own rfl rfl (tsL_len _).symm) (.view rfl) (by simp; omega) (by simp)) rfl ?_
        refine AL.p (by first | exact g_fa_ref rfl rfl rfl rfl rfl rfl | exact g_fa_ptr rfl rfl rfl rfl rfl) rfl ?_
        refine AL.q (by first | exact h_store rfl rfl rfl rfl rfl rfl | exact h_store_arr1 rfl rfl rfl rfl (by first | exact .same | exact .nil) (by assumption) | exact h_store_arr rfl rfl rfl rfl (by first | exact .same | exact .nil) (by first | rfl | omega) (by first | assumption | rfl) (by omega)) rfl ?_
        refine AL.nil ?_
        refine ib_n ?_
        refine th_n ?_
        refine AC.region ?_
        refine AL.p (by first | exact g_move (r := .d _) rfl | exact g_move (r := .own _ _) rfl | exact g_move (r := .ptr _ _) rfl | exact g_move (r := .agg _) rfl | exact g_move (r := .tup _) rfl | exact g_move (r := .clo _ _) rfl | exact g_move (r := .tight _ _ _) rfl | exact g_move (r := .und) rfl | exact g_move (r := .dead) rfl) rfl ?_
        refine AL.p (by exact g_arith rfl rfl rfl (by first | exact wrap_i64 (by omega) | exact wrap_u8 (by omega) | exact wrap_u64 (by omega) | rfl)) rfl ?_
        refine AL.p (by first | exact g_assign (r := .d _) rfl | exact g_assign (r := .own _ _) rfl | exact g_assign (r := .ptr _ _) rfl | exact g_assign (r := .agg _) rfl | exact g_assign (r := .tup _) rfl | exact g_assign (r := .clo _ _) rfl | exact g_assign (r := .tight _ _ _) rfl | exact g_assign (r := .und) rfl | exact g_assign (r := .dead) rfl) rfl ?_
        refine AL.nil ?_
        refine th_n ?_
        exact ⟨(i, (cc.tn c.netP).2, ts ++ [(cc.tn c.netP).1]), ⟨hsub, by show (ts ++ [_]).length + i ≤ _; rw [List.length_append]; show ts.length + 1 + i ≤ _; omega, by show (cc.tn c.netP).2.pos + 14 * i ≤ _; omega⟩, by show i < i + 1; omega, Weak.ren _ [(100, _), (101, _), (102, _)] hC rfl (by repeat (first | exact True.intro | refine And.intro ?_ ?_ | exact DLead.same | exact DLead.eqI (by omega) | exact DLead.nil | exact rfl | refine ⟨_, _, rfl, rfl, ?_⟩ | refine ⟨_, rfl, ?_⟩ | refine ⟨_, _, rfl, ?_, ?_⟩)) (by repeat (first | exact True.intro | refine And.intro ?_ ?_ | exact DLead.same | exact DLead.eqI (by omega) | exact DLead.nil | exact rfl | refine ⟨_, _, rfl, rfl, ?_⟩ | refine ⟨_, rfl, ?_⟩ | refine ⟨_, _, rfl, ?_, ?_⟩)) rfl rfl rfl⟩
    · refine AC.exit ?_
      refine th_e ?_
      refine th_e ?_
      refine ib_y ?_
      refine th_n ?_
      refine AC.seq ?_
      refine AC.region ?_
      refine AL.p (by first | exact g_load_ref rfl rfl rfl | exact g_load_ptr rfl rfl rfl rfl rfl | exact g_load_refN rfl rfl rfl rfl | exact g_load_ptrN rfl rfl rfl rfl rfl | exact g_load_arr1 rfl rfl rfl rfl (by assumption) | exact g_load_arr rfl rfl rfl rfl (by first | rfl | omega) (by first | assumption | rfl) (by first | assumption | rfl)) rfl ?_
      refine AL.q (by first | exact h_store rfl rfl rfl rfl rfl rfl | exact h_store_arr1 rfl rfl rfl rfl (by first | exact .same | exact .nil) (by assumption) | exact h_store_arr rfl rfl rfl rfl (by first | exact .same | exact .nil) (by first | rfl | omega) (by first | assumption | rfl) (by omega)) rfl ?_
      refine AL.nil ?_
      refine th_n ?_
      refine AC.ret ?_
      refine bq_r ?_
      have hj : j = 0 := by omega
      subst hj
      have e : c.netT = (ts, cc) := hsub.symm
      exact retN [(1, _)] rfl (by rw [e]; repeat (first | exact True.intro | refine And.intro ?_ ?_ | exact DLead.same | exact DLead.eqI (by omega) | exact DLead.nil | exact rfl | refine ⟨_, _, rfl, rfl, ?_⟩ | refine ⟨_, rfl, ?_⟩ | refine ⟨_, _, rfl, ?_, ?_⟩)) (by rw [e]; repeat (first | exact True.intro | refine And.intro ?_ ?_ | exact DLead.same | exact DLead.eqI (by omega) | exact DLead.nil | exact rfl | refine ⟨_, _, rfl, rfl, ?_⟩ | refine ⟨_, rfl, ?_⟩ | refine ⟨_, _, rfl, ?_, ?_⟩)) rfl rfl
theorem en_net : Enters Try.prog 66 := enters_of Try.func66 rfl rfl
end Go.Proofs.Ythhfhpeeinohiaa
