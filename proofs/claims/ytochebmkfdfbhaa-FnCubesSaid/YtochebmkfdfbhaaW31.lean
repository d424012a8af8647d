/- Walks: cubes contained and met, both sides. -/
import Derived.Test.YtochebmkfdfbhaaW30
set_option linter.all false
namespace Go.Proofs.Ytochebmkfdfbhaa
open Go.RowKit

def at1 (m : List UInt8) (i : Nat) : Int := ((m.getD i 0).toNat : Int)
def okAt (a b : List UInt8) (i : Nat) : Bool := decide (at1 a i = 45) || decide (at1 a i = at1 b i)
def hasC (a b : List UInt8) : Bool := allN a.length (okAt a b)
set_option maxHeartbeats 1000000 in
theorem contains_spec (a b : List UInt8) (ha : a.length ≤ 2000000) (hl : b.length = a.length) : ASpec Try.prog 33 [aS (bstr a), aS (bstr b)] [] (Pure1 (aT (hasC a b))) := by
  have hsz := bstr_size a
  refine ASpec.of Try.func33 rfl rfl fun C hC => ?_
  refine AC.seq ?_
  refine AC.region ?_
  refine AL.p (by first | exact as1 rfl | exact as2 rfl | exact as3 rfl | exact as4 rfl | exact as5 rfl | exact as6 rfl | exact as7 rfl | exact as8 rfl | exact as9 rfl) rfl ?_
  refine AL.nil ?_
  refine th_n ?_
  refine AC.seq ?_
  refine AC.seq ?_
  refine AC.region ?_
  refine AL.p (by first | exact mv1 rfl | exact mv2 rfl | exact mv3 rfl | exact mv4 rfl | exact mv5 rfl | exact mv6 rfl | exact mv7 rfl | exact mv8 rfl | exact mv9 rfl) rfl ?_
  refine AL.p (by exact g_len_str (k := a.length) rfl rfl hsz) rfl ?_
  refine AL.p (by first | exact mv1 rfl | exact mv2 rfl | exact mv3 rfl | exact mv4 rfl | exact mv5 rfl | exact mv6 rfl | exact mv7 rfl | exact mv8 rfl | exact mv9 rfl) rfl ?_
  refine AL.nil ?_
  refine th_n ?_
  refine AC.block ?_
  refine AC.loop (ι := Nat) (fun k => ⟨25, 0, [(0, aS (bstr a)), (1, aS (bstr b)), (7, aI a.length), (8, aI k)], []⟩) (fun k => k ≤ a.length ∧ ∀ j, j < k → okAt a b j = true) (fun k => a.length - k) (0) ?_ (⟨Nat.zero_le _, fun j hj => by omega⟩) ?_
  · refine Weak.ren _ [] hC rfl ?_ ?_ rfl rfl rfl <;> repeat (first | exact True.intro | refine And.intro ?_ ?_ | exact DLead.same | exact DLead.eqI (by omega) | exact DLead.nil | exact rfl)
  · intro k ⟨hk, hall⟩
    refine AC.seq ?_
    refine AC.region ?_
    refine AL.p (by first | exact g_cmp rfl rfl rfl | exact g_scmp rfl rfl rfl | exact g_eqB rfl rfl rfl | exact g_neB rfl rfl rfl) rfl ?_
    refine AL.nil ?_
    refine th_n ?_
    refine AC.seq ?_
    first | refine AC.condD rfl (fun h0 => ?_) (fun h0 => ?_) | refine AC.condND rfl (fun h0 => ?_) (fun h0 => ?_) | refine AC.condB rfl (fun h0 => ?_) (fun h0 => ?_) | refine AC.condNB rfl (fun h0 => ?_) (fun h0 => ?_)
    · refine AC.skip ?_
      refine th_n ?_
      refine AC.seq ?_
      refine AC.block ?_
      refine AC.seq ?_
      have hk1 : k < a.length := by omega
      have hga : (bstr a).data.toList[k]? = some (a.getD k 0) := bstr_getD hk1
      have hgb : (bstr b).data.toList[k]? = some (b.getD k 0) := bstr_getD (by omega)
      refine AC.region ?_
      refine AL.p (by first | exact mv1 rfl | exact mv2 rfl | exact mv3 rfl | exact mv4 rfl | exact mv5 rfl | exact mv6 rfl | exact mv7 rfl | exact mv8 rfl | exact mv9 rfl) rfl ?_
      refine AL.p (by first | exact as1 rfl | exact as2 rfl | exact as3 rfl | exact as4 rfl | exact as5 rfl | exact as6 rfl | exact as7 rfl | exact as8 rfl | exact as9 rfl) rfl ?_
      refine AL.nil ?_
      refine th_n ?_
      refine AC.seq ?_
      refine AC.drawn' mixed_ok [[], [], [0,1], [0,1,2], [0,1,2,3], [0,1,2,3,4], [0,1,2,3,4], [0,1,2,3,4,5,6], [0,1,2,3,4], [0,1,2,3,4], [0,1,2,3,4,8,9], [0,1,2,3,4,5,6,7,8,9,10], [0,1,2,3,4,5,6,7,8,9,10,11]] (by decide) ?_
      refine DF.op 0 [] 13 rfl rfl rfl (.free rfl (NOp.of (by first | exact mv1 rfl | exact mv2 rfl | exact mv3 rfl | exact mv4 rfl | exact mv5 rfl | exact mv6 rfl | exact mv7 rfl | exact mv8 rfl | exact mv9 rfl))) rfl ?_
      refine DF.op 1 [] 13 rfl rfl rfl (.free rfl (NOp.of (by first | exact mv1 rfl | exact mv2 rfl | exact mv3 rfl | exact mv4 rfl | exact mv5 rfl | exact mv6 rfl | exact mv7 rfl | exact mv8 rfl | exact mv9 rfl))) rfl ?_
      refine DF.op 2 [0,1] 13 rfl rfl rfl (.free rfl (NOp.of (by exact g_index rfl rfl rfl (by first | rfl | assumption) (by assumption)))) rfl ?_
      refine DF.op 3 [0,1,2] 13 rfl rfl rfl (.free rfl (NOp.of (by first | exact g_cmp rfl rfl rfl | exact g_scmp rfl rfl rfl | exact g_eqB rfl rfl rfl | exact g_neB rfl rfl rfl))) rfl ?_
      refine DF.op 4 [0,1,2,3] 13 rfl rfl rfl (.free rfl (NOp.of (by first | exact mv1 rfl | exact mv2 rfl | exact mv3 rfl | exact mv4 rfl | exact mv5 rfl | exact mv6 rfl | exact mv7 rfl | exact mv8 rfl | exact mv9 rfl))) rfl ?_
      first | refine DF.caseD 4 rfl (fun h1 => ?_) (fun h1 => ?_) | refine DF.caseB 4 rfl (fun h1 => ?_) (fun h1 => ?_)
      · refine DF.op 5 [0,1,2,3,4] 13 rfl rfl rfl (.yes rfl rfl rfl rfl (NOp.of (by first | exact mv1 rfl | exact mv2 rfl | exact mv3 rfl | exact mv4 rfl | exact mv5 rfl | exact mv6 rfl | exact mv7 rfl | exact mv8 rfl | exact mv9 rfl))) rfl ?_
        refine DF.op 6 [0,1,2,3,4] 13 rfl rfl rfl (.yes rfl rfl rfl rfl (NOp.of (by first | exact mv1 rfl | exact mv2 rfl | exact mv3 rfl | exact mv4 rfl | exact mv5 rfl | exact mv6 rfl | exact mv7 rfl | exact mv8 rfl | exact mv9 rfl))) rfl ?_
        refine DF.op 7 [0,1,2,3,4,5,6] 13 rfl rfl rfl (.yes rfl rfl rfl rfl (NOp.of (by exact g_index rfl rfl rfl (by first | rfl | assumption) (by assumption)))) rfl ?_
        refine DF.op 8 [0,1,2,3,4] 13 rfl rfl rfl (.yes rfl rfl rfl rfl (NOp.of (by first | exact mv1 rfl | exact mv2 rfl | exact mv3 rfl | exact mv4 rfl | exact mv5 rfl | exact mv6 rfl | exact mv7 rfl | exact mv8 rfl | exact mv9 rfl))) rfl ?_
        refine DF.op 9 [0,1,2,3,4] 13 rfl rfl rfl (.yes rfl rfl rfl rfl (NOp.of (by first | exact mv1 rfl | exact mv2 rfl | exact mv3 rfl | exact mv4 rfl | exact mv5 rfl | exact mv6 rfl | exact mv7 rfl | exact mv8 rfl | exact mv9 rfl))) rfl ?_
        refine DF.op 10 [0,1,2,3,4,8,9] 13 rfl rfl rfl (.yes rfl rfl rfl rfl (NOp.of (by exact g_index rfl rfl rfl (by first | rfl | assumption) (by assumption)))) rfl ?_
        refine DF.op 11 [0,1,2,3,4,5,6,7,8,9,10] 13 rfl rfl rfl (.yes rfl rfl rfl rfl (NOp.of (by first | exact g_cmp rfl rfl rfl | exact g_scmp rfl rfl rfl | exact g_eqB rfl rfl rfl | exact g_neB rfl rfl rfl))) rfl ?_
        refine DF.op 12 [0,1,2,3,4,5,6,7,8,9,10,11] 13 rfl rfl rfl (.free rfl (NOp.of (by first | exact g_pickT (r := .d _) rfl rfl | exact g_pickF (r := .d _) rfl rfl))) rfl ?_
        refine DF.fin (ps := [(0, 1), (1, 0), (5, 6), (5, 8), (5, 9), (5, 10), (6, 5), (6, 8), (6, 9), (6, 10), (7, 8), (7, 9), (7, 10), (8, 5), (8, 6), (8, 7), (8, 9), (9, 5), (9, 6), (9, 7), (9, 8), (10, 5), (10, 6), (10, 7)]) 13 rfl (by decide +kernel) (by decide +kernel) (by rfl) ?_
        refine th_n ?_
        first | refine AC.condD rfl (fun h2 => ?_) (fun h2 => ?_) | refine AC.condND rfl (fun h2 => ?_) (fun h2 => ?_) | refine AC.condB rfl (fun h2 => ?_) (fun h2 => ?_) | refine AC.condNB rfl (fun h2 => ?_) (fun h2 => ?_)
        · refine AC.seq ?_
          refine AC.region ?_
          refine AL.p (by first | exact as1 rfl | exact as2 rfl | exact as3 rfl | exact as4 rfl | exact as5 rfl | exact as6 rfl | exact as7 rfl | exact as8 rfl | exact as9 rfl) rfl ?_
          refine AL.nil ?_
          refine th_n ?_
          refine AC.ret ?_
          refine ib_r ?_
          refine th_r ?_
          refine th_r ?_
          refine ib_r ?_
          refine th_r ?_
          refine bq_r ?_
          have hb : okAt a b k = false := by simp_all [okAt, at1]
          exact ret1 rfl (by rw [hasC, allN_false hk1 hb])
        · refine AC.skip ?_
          refine ib_n ?_
          refine th_n ?_
          refine AC.region ?_
          refine AL.p (by first | exact g_arith rfl rfl rfl (by first | exact wrap_i64 (by omega) | exact wrap_u8 (by omega) | exact wrap_u64 (by omega) | rfl) | exact g_sadd rfl rfl (by first | assumption | omega | (simp only [ByteArray.size_append, bstr_size, List.length_take, List.length_drop, List.length_cons, List.length_nil]; omega))) rfl ?_
          refine AL.p (by first | exact mv1 rfl | exact mv2 rfl | exact mv3 rfl | exact mv4 rfl | exact mv5 rfl | exact mv6 rfl | exact mv7 rfl | exact mv8 rfl | exact mv9 rfl) rfl ?_
          refine AL.nil ?_
          refine th_n ?_
          have hb : okAt a b k = true := by simp_all [okAt, at1]
          exact ⟨k + 1, ⟨by omega, fun j hj => by rcases Nat.lt_succ_iff_lt_or_eq.1 hj with h | rfl; exact hall j h; exact hb⟩, by omega, Weak.ren _ [] hC rfl (by repeat (first | exact True.intro | refine And.intro ?_ ?_ | exact DLead.same | exact DLead.eqI (by omega) | exact DLead.nil | exact rfl)) (by repeat (first | exact True.intro | refine And.intro ?_ ?_ | exact DLead.same | exact DLead.eqI (by omega) | exact DLead.nil | exact rfl | refine ⟨_, _, rfl, rfl, ?_⟩ | refine ⟨_, rfl, ?_⟩ | refine ⟨_, _, rfl, ?_, ?_⟩)) rfl rfl rfl⟩
      · refine DF.op (ids := []) 5 [0,1,2,3,4] 13 rfl rfl rfl (.no rfl rfl rfl rfl rfl rfl) rfl ?_
        refine DF.op (ids := []) 6 [0,1,2,3,4] 13 rfl rfl rfl (.no rfl rfl rfl rfl rfl rfl) rfl ?_
        refine DF.op (ids := []) 7 [0,1,2,3,4,5,6] 13 rfl rfl rfl (.no rfl rfl rfl rfl rfl rfl) rfl ?_
        refine DF.op (ids := []) 8 [0,1,2,3,4] 13 rfl rfl rfl (.no rfl rfl rfl rfl rfl rfl) rfl ?_
        refine DF.op (ids := []) 9 [0,1,2,3,4] 13 rfl rfl rfl (.no rfl rfl rfl rfl rfl rfl) rfl ?_
        refine DF.op (ids := []) 10 [0,1,2,3,4,8,9] 13 rfl rfl rfl (.no rfl rfl rfl rfl rfl rfl) rfl ?_
        refine DF.op (ids := []) 11 [0,1,2,3,4,5,6,7,8,9,10] 13 rfl rfl rfl (.no rfl rfl rfl rfl rfl rfl) rfl ?_
        refine DF.op 12 [0,1,2,3,4,5,6,7,8,9,10,11] 13 rfl rfl rfl (.free rfl (NOp.of (by first | exact g_pickT (r := .d _) rfl rfl | exact g_pickF (r := .d _) rfl rfl))) rfl ?_
        refine DF.fin (ps := [(0, 1), (1, 0), (5, 6), (5, 8), (5, 9), (5, 10), (6, 5), (6, 8), (6, 9), (6, 10), (7, 8), (7, 9), (7, 10), (8, 5), (8, 6), (8, 7), (8, 9), (9, 5), (9, 6), (9, 7), (9, 8), (10, 5), (10, 6), (10, 7)]) 13 rfl (by decide +kernel) (by decide +kernel) (by rfl) ?_
        refine th_n ?_
        refine AC.condF rfl ?_
        refine AC.skip ?_
        refine ib_n ?_
        refine th_n ?_
        refine AC.region ?_
        refine AL.p (by first | exact g_arith rfl rfl rfl (by first | exact wrap_i64 (by omega) | exact wrap_u8 (by omega) | exact wrap_u64 (by omega) | rfl) | exact g_sadd rfl rfl (by first | assumption | omega | (simp only [ByteArray.size_append, bstr_size, List.length_take, List.length_drop, List.length_cons, List.length_nil]; omega))) rfl ?_
        refine AL.p (by first | exact mv1 rfl | exact mv2 rfl | exact mv3 rfl | exact mv4 rfl | exact mv5 rfl | exact mv6 rfl | exact mv7 rfl | exact mv8 rfl | exact mv9 rfl) rfl ?_
        refine AL.nil ?_
        refine th_n ?_
        have hb : okAt a b k = true := by simp_all [okAt, at1]
        exact ⟨k + 1, ⟨by omega, fun j hj => by rcases Nat.lt_succ_iff_lt_or_eq.1 hj with h | rfl; exact hall j h; exact hb⟩, by omega, Weak.ren _ [] hC rfl (by repeat (first | exact True.intro | refine And.intro ?_ ?_ | exact DLead.same | exact DLead.eqI (by omega) | exact DLead.nil | exact rfl)) (by repeat (first | exact True.intro | refine And.intro ?_ ?_ | exact DLead.same | exact DLead.eqI (by omega) | exact DLead.nil | exact rfl | refine ⟨_, _, rfl, rfl, ?_⟩ | refine ⟨_, rfl, ?_⟩ | refine ⟨_, _, rfl, ?_, ?_⟩)) rfl rfl rfl⟩
    · refine AC.exit ?_
      refine th_e ?_
      refine th_e ?_
      refine ib_y ?_
      refine th_n ?_
      refine AC.seq ?_
      refine AC.region ?_
      refine AL.p (by first | exact as1 rfl | exact as2 rfl | exact as3 rfl | exact as4 rfl | exact as5 rfl | exact as6 rfl | exact as7 rfl | exact as8 rfl | exact as9 rfl) rfl ?_
      refine AL.nil ?_
      refine th_n ?_
      refine AC.ret ?_
      refine bq_r ?_
      exact ret1 rfl (by rw [hasC, allN_true (fun j hj => hall j (by omega))])
theorem en_contains : Enters Try.prog 33 := enters_of Try.func33 rfl rfl
set_option maxHeartbeats 1000000 in
theorem l13Has_spec (a b : List UInt8) (ha : a.length ≤ 2000000) (hl : b.length = a.length) : ASpec Try.prog 37 [aS (bstr a), aS (bstr b)] [] (Pure1 (aT (hasC a b))) := by
  have hsz := bstr_size a
  refine ASpec.of Try.func37 rfl rfl fun C hC => ?_
  refine AC.seq ?_
  refine AC.region ?_
  refine AL.p (by first | exact as1 rfl | exact as2 rfl | exact as3 rfl | exact as4 rfl | exact as5 rfl | exact as6 rfl | exact as7 rfl | exact as8 rfl | exact as9 rfl) rfl ?_
  refine AL.nil ?_
  refine th_n ?_
  refine AC.seq ?_
  refine AC.seq ?_
  refine AC.region ?_
  refine AL.p (by first | exact as1 rfl | exact as2 rfl | exact as3 rfl | exact as4 rfl | exact as5 rfl | exact as6 rfl | exact as7 rfl | exact as8 rfl | exact as9 rfl) rfl ?_
  refine AL.nil ?_
  refine th_n ?_
  refine AC.block ?_
  refine AC.loop (ι := Nat) (fun k => ⟨25, 0, [(0, aS (bstr a)), (1, aS (bstr b)), (5, aI k)], []⟩) (fun k => k ≤ a.length ∧ ∀ j, j < k → okAt a b j = true) (fun k => a.length - k) (0) ?_ (⟨Nat.zero_le _, fun j hj => by omega⟩) ?_
  · refine Weak.ren _ [] hC rfl ?_ ?_ rfl rfl rfl <;> repeat (first | exact True.intro | refine And.intro ?_ ?_ | exact DLead.same | exact DLead.eqI (by omega) | exact DLead.nil | exact rfl)
  · intro k ⟨hk, hall⟩
    refine AC.seq ?_
    refine AC.seq ?_
    refine AC.region ?_
    refine AL.p (by first | exact mv1 rfl | exact mv2 rfl | exact mv3 rfl | exact mv4 rfl | exact mv5 rfl | exact mv6 rfl | exact mv7 rfl | exact mv8 rfl | exact mv9 rfl) rfl ?_
    refine AL.p (by first | exact mv1 rfl | exact mv2 rfl | exact mv3 rfl | exact mv4 rfl | exact mv5 rfl | exact mv6 rfl | exact mv7 rfl | exact mv8 rfl | exact mv9 rfl) rfl ?_
    refine AL.p (by exact g_len_str (k := a.length) rfl rfl hsz) rfl ?_
    refine AL.p (by first | exact g_cmp rfl rfl rfl | exact g_scmp rfl rfl rfl | exact g_eqB rfl rfl rfl | exact g_neB rfl rfl rfl) rfl ?_
    refine AL.nil ?_
    refine th_n ?_
    first | refine AC.condD rfl (fun h0 => ?_) (fun h0 => ?_) | refine AC.condND rfl (fun h0 => ?_) (fun h0 => ?_) | refine AC.condB rfl (fun h0 => ?_) (fun h0 => ?_) | refine AC.condNB rfl (fun h0 => ?_) (fun h0 => ?_)
    · refine AC.skip ?_
      refine th_n ?_
      refine AC.seq ?_
      refine AC.block ?_
      refine AC.seq ?_
      have hk1 : k < a.length := by omega
      have hga : (bstr a).data.toList[k]? = some (a.getD k 0) := bstr_getD hk1
      have hgb : (bstr b).data.toList[k]? = some (b.getD k 0) := bstr_getD (by omega)
      refine AC.drawn' mixed_ok [[], [], [0,1], [0,1,2], [0,1,2,3], [0,1,2,3,4], [0,1,2,3,4], [0,1,2,3,4,5,6], [0,1,2,3,4], [0,1,2,3,4], [0,1,2,3,4,8,9], [0,1,2,3,4,5,6,7,8,9,10], [0,1,2,3,4,5,6,7,8,9,10,11]] (by decide) ?_
      refine DF.op 0 [] 13 rfl rfl rfl (.free rfl (NOp.of (by first | exact mv1 rfl | exact mv2 rfl | exact mv3 rfl | exact mv4 rfl | exact mv5 rfl | exact mv6 rfl | exact mv7 rfl | exact mv8 rfl | exact mv9 rfl))) rfl ?_
      refine DF.op 1 [] 13 rfl rfl rfl (.free rfl (NOp.of (by first | exact mv1 rfl | exact mv2 rfl | exact mv3 rfl | exact mv4 rfl | exact mv5 rfl | exact mv6 rfl | exact mv7 rfl | exact mv8 rfl | exact mv9 rfl))) rfl ?_
      refine DF.op 2 [0,1] 13 rfl rfl rfl (.free rfl (NOp.of (by exact g_index rfl rfl rfl (by first | rfl | assumption) (by assumption)))) rfl ?_
      refine DF.op 3 [0,1,2] 13 rfl rfl rfl (.free rfl (NOp.of (by first | exact g_cmp rfl rfl rfl | exact g_scmp rfl rfl rfl | exact g_eqB rfl rfl rfl | exact g_neB rfl rfl rfl))) rfl ?_
      refine DF.op 4 [0,1,2,3] 13 rfl rfl rfl (.free rfl (NOp.of (by first | exact mv1 rfl | exact mv2 rfl | exact mv3 rfl | exact mv4 rfl | exact mv5 rfl | exact mv6 rfl | exact mv7 rfl | exact mv8 rfl | exact mv9 rfl))) rfl ?_
      first | refine DF.caseD 4 rfl (fun h1 => ?_) (fun h1 => ?_) | refine DF.caseB 4 rfl (fun h1 => ?_) (fun h1 => ?_)
      · refine DF.op 5 [0,1,2,3,4] 13 rfl rfl rfl (.yes rfl rfl rfl rfl (NOp.of (by first | exact mv1 rfl | exact mv2 rfl | exact mv3 rfl | exact mv4 rfl | exact mv5 rfl | exact mv6 rfl | exact mv7 rfl | exact mv8 rfl | exact mv9 rfl))) rfl ?_
        refine DF.op 6 [0,1,2,3,4] 13 rfl rfl rfl (.yes rfl rfl rfl rfl (NOp.of (by first | exact mv1 rfl | exact mv2 rfl | exact mv3 rfl | exact mv4 rfl | exact mv5 rfl | exact mv6 rfl | exact mv7 rfl | exact mv8 rfl | exact mv9 rfl))) rfl ?_
        refine DF.op 7 [0,1,2,3,4,5,6] 13 rfl rfl rfl (.yes rfl rfl rfl rfl (NOp.of (by exact g_index rfl rfl rfl (by first | rfl | assumption) (by assumption)))) rfl ?_
        refine DF.op 8 [0,1,2,3,4] 13 rfl rfl rfl (.yes rfl rfl rfl rfl (NOp.of (by first | exact mv1 rfl | exact mv2 rfl | exact mv3 rfl | exact mv4 rfl | exact mv5 rfl | exact mv6 rfl | exact mv7 rfl | exact mv8 rfl | exact mv9 rfl))) rfl ?_
        refine DF.op 9 [0,1,2,3,4] 13 rfl rfl rfl (.yes rfl rfl rfl rfl (NOp.of (by first | exact mv1 rfl | exact mv2 rfl | exact mv3 rfl | exact mv4 rfl | exact mv5 rfl | exact mv6 rfl | exact mv7 rfl | exact mv8 rfl | exact mv9 rfl))) rfl ?_
        refine DF.op 10 [0,1,2,3,4,8,9] 13 rfl rfl rfl (.yes rfl rfl rfl rfl (NOp.of (by exact g_index rfl rfl rfl (by first | rfl | assumption) (by assumption)))) rfl ?_
        refine DF.op 11 [0,1,2,3,4,5,6,7,8,9,10] 13 rfl rfl rfl (.yes rfl rfl rfl rfl (NOp.of (by first | exact g_cmp rfl rfl rfl | exact g_scmp rfl rfl rfl | exact g_eqB rfl rfl rfl | exact g_neB rfl rfl rfl))) rfl ?_
        refine DF.op 12 [0,1,2,3,4,5,6,7,8,9,10,11] 13 rfl rfl rfl (.free rfl (NOp.of (by first | exact g_pickT (r := .d _) rfl rfl | exact g_pickF (r := .d _) rfl rfl))) rfl ?_
        refine DF.fin (ps := [(0, 1), (1, 0), (5, 6), (5, 8), (5, 9), (5, 10), (6, 5), (6, 8), (6, 9), (6, 10), (7, 8), (7, 9), (7, 10), (8, 5), (8, 6), (8, 7), (8, 9), (9, 5), (9, 6), (9, 7), (9, 8), (10, 5), (10, 6), (10, 7)]) 13 rfl (by decide +kernel) (by decide +kernel) (by rfl) ?_
        refine th_n ?_
        first | refine AC.condD rfl (fun h2 => ?_) (fun h2 => ?_) | refine AC.condND rfl (fun h2 => ?_) (fun h2 => ?_) | refine AC.condB rfl (fun h2 => ?_) (fun h2 => ?_) | refine AC.condNB rfl (fun h2 => ?_) (fun h2 => ?_)
        · refine AC.seq ?_
          refine AC.region ?_
          refine AL.p (by first | exact as1 rfl | exact as2 rfl | exact as3 rfl | exact as4 rfl | exact as5 rfl | exact as6 rfl | exact as7 rfl | exact as8 rfl | exact as9 rfl) rfl ?_
          refine AL.nil ?_
          refine th_n ?_
          refine AC.ret ?_
          refine ib_r ?_
          refine th_r ?_
          refine th_r ?_
          refine ib_r ?_
          refine th_r ?_
          refine bq_r ?_
          have hb : okAt a b k = false := by simp_all [okAt, at1]
          exact ret1 rfl (by rw [hasC, allN_false hk1 hb])
        · refine AC.skip ?_
          refine ib_n ?_
          refine th_n ?_
          refine AC.region ?_
          refine AL.p (by first | exact mv1 rfl | exact mv2 rfl | exact mv3 rfl | exact mv4 rfl | exact mv5 rfl | exact mv6 rfl | exact mv7 rfl | exact mv8 rfl | exact mv9 rfl) rfl ?_
          refine AL.p (by first | exact g_arith rfl rfl rfl (by first | exact wrap_i64 (by omega) | exact wrap_u8 (by omega) | exact wrap_u64 (by omega) | rfl) | exact g_sadd rfl rfl (by first | assumption | omega | (simp only [ByteArray.size_append, bstr_size, List.length_take, List.length_drop, List.length_cons, List.length_nil]; omega))) rfl ?_
          refine AL.p (by first | exact as1 rfl | exact as2 rfl | exact as3 rfl | exact as4 rfl | exact as5 rfl | exact as6 rfl | exact as7 rfl | exact as8 rfl | exact as9 rfl) rfl ?_
          refine AL.nil ?_
          refine th_n ?_
          have hb : okAt a b k = true := by simp_all [okAt, at1]
          exact ⟨k + 1, ⟨by omega, fun j hj => by rcases Nat.lt_succ_iff_lt_or_eq.1 hj with h | rfl; exact hall j h; exact hb⟩, by omega, Weak.ren _ [] hC rfl (by repeat (first | exact True.intro | refine And.intro ?_ ?_ | exact DLead.same | exact DLead.eqI (by omega) | exact DLead.nil | exact rfl)) (by repeat (first | exact True.intro | refine And.intro ?_ ?_ | exact DLead.same | exact DLead.eqI (by omega) | exact DLead.nil | exact rfl | refine ⟨_, _, rfl, rfl, ?_⟩ | refine ⟨_, rfl, ?_⟩ | refine ⟨_, _, rfl, ?_, ?_⟩)) rfl rfl rfl⟩
      · refine DF.op (ids := []) 5 [0,1,2,3,4] 13 rfl rfl rfl (.no rfl rfl rfl rfl rfl rfl) rfl ?_
        refine DF.op (ids := []) 6 [0,1,2,3,4] 13 rfl rfl rfl (.no rfl rfl rfl rfl rfl rfl) rfl ?_
        refine DF.op (ids := []) 7 [0,1,2,3,4,5,6] 13 rfl rfl rfl (.no rfl rfl rfl rfl rfl rfl) rfl ?_
        refine DF.op (ids := []) 8 [0,1,2,3,4] 13 rfl rfl rfl (.no rfl rfl rfl rfl rfl rfl) rfl ?_
        refine DF.op (ids := []) 9 [0,1,2,3,4] 13 rfl rfl rfl (.no rfl rfl rfl rfl rfl rfl) rfl ?_
        refine DF.op (ids := []) 10 [0,1,2,3,4,8,9] 13 rfl rfl rfl (.no rfl rfl rfl rfl rfl rfl) rfl ?_
        refine DF.op (ids := []) 11 [0,1,2,3,4,5,6,7,8,9,10] 13 rfl rfl rfl (.no rfl rfl rfl rfl rfl rfl) rfl ?_
        refine DF.op 12 [0,1,2,3,4,5,6,7,8,9,10,11] 13 rfl rfl rfl (.free rfl (NOp.of (by first | exact g_pickT (r := .d _) rfl rfl | exact g_pickF (r := .d _) rfl rfl))) rfl ?_
        refine DF.fin (ps := [(0, 1), (1, 0), (5, 6), (5, 8), (5, 9), (5, 10), (6, 5), (6, 8), (6, 9), (6, 10), (7, 8), (7, 9), (7, 10), (8, 5), (8, 6), (8, 7), (8, 9), (9, 5), (9, 6), (9, 7), (9, 8), (10, 5), (10, 6), (10, 7)]) 13 rfl (by decide +kernel) (by decide +kernel) (by rfl) ?_
        refine th_n ?_
        refine AC.condF rfl ?_
        refine AC.skip ?_
        refine ib_n ?_
        refine th_n ?_
        refine AC.region ?_
        refine AL.p (by first | exact mv1 rfl | exact mv2 rfl | exact mv3 rfl | exact mv4 rfl | exact mv5 rfl | exact mv6 rfl | exact mv7 rfl | exact mv8 rfl | exact mv9 rfl) rfl ?_
        refine AL.p (by first | exact g_arith rfl rfl rfl (by first | exact wrap_i64 (by omega) | exact wrap_u8 (by omega) | exact wrap_u64 (by omega) | rfl) | exact g_sadd rfl rfl (by first | assumption | omega | (simp only [ByteArray.size_append, bstr_size, List.length_take, List.length_drop, List.length_cons, List.length_nil]; omega))) rfl ?_
        refine AL.p (by first | exact as1 rfl | exact as2 rfl | exact as3 rfl | exact as4 rfl | exact as5 rfl | exact as6 rfl | exact as7 rfl | exact as8 rfl | exact as9 rfl) rfl ?_
        refine AL.nil ?_
        refine th_n ?_
        have hb : okAt a b k = true := by simp_all [okAt, at1]
        exact ⟨k + 1, ⟨by omega, fun j hj => by rcases Nat.lt_succ_iff_lt_or_eq.1 hj with h | rfl; exact hall j h; exact hb⟩, by omega, Weak.ren _ [] hC rfl (by repeat (first | exact True.intro | refine And.intro ?_ ?_ | exact DLead.same | exact DLead.eqI (by omega) | exact DLead.nil | exact rfl)) (by repeat (first | exact True.intro | refine And.intro ?_ ?_ | exact DLead.same | exact DLead.eqI (by omega) | exact DLead.nil | exact rfl | refine ⟨_, _, rfl, rfl, ?_⟩ | refine ⟨_, rfl, ?_⟩ | refine ⟨_, _, rfl, ?_, ?_⟩)) rfl rfl rfl⟩
    · refine AC.exit ?_
      refine th_e ?_
      refine th_e ?_
      refine ib_y ?_
      refine th_n ?_
      refine AC.seq ?_
      refine AC.region ?_
      refine AL.p (by first | exact as1 rfl | exact as2 rfl | exact as3 rfl | exact as4 rfl | exact as5 rfl | exact as6 rfl | exact as7 rfl | exact as8 rfl | exact as9 rfl) rfl ?_
      refine AL.nil ?_
      refine th_n ?_
      refine AC.ret ?_
      refine bq_r ?_
      exact ret1 rfl (by rw [hasC, allN_true (fun j hj => hall j (by omega))])
theorem en_l13Has : Enters Try.prog 37 := enters_of Try.func37 rfl rfl
def isIn (a b : List UInt8) : Bool := allN a.length (okAt b a)
set_option maxHeartbeats 1000000 in
theorem l13IsIn_spec (a b : List UInt8) (ha : a.length ≤ 2000000) (hl : b.length = a.length) : ASpec Try.prog 34 [aS (bstr a), aS (bstr b)] [] (Pure1 (aT (isIn a b))) := by
  have hsz := bstr_size a
  refine ASpec.of Try.func34 rfl rfl fun C hC => ?_
  refine AC.seq ?_
  refine AC.region ?_
  refine AL.p (by first | exact as1 rfl | exact as2 rfl | exact as3 rfl | exact as4 rfl | exact as5 rfl | exact as6 rfl | exact as7 rfl | exact as8 rfl | exact as9 rfl) rfl ?_
  refine AL.nil ?_
  refine th_n ?_
  refine AC.seq ?_
  refine AC.seq ?_
  refine AC.region ?_
  refine AL.p (by first | exact as1 rfl | exact as2 rfl | exact as3 rfl | exact as4 rfl | exact as5 rfl | exact as6 rfl | exact as7 rfl | exact as8 rfl | exact as9 rfl) rfl ?_
  refine AL.nil ?_
  refine th_n ?_
  refine AC.block ?_
  refine AC.loop (ι := Nat) (fun k => ⟨25, 0, [(0, aS (bstr a)), (1, aS (bstr b)), (5, aI k)], []⟩) (fun k => k ≤ a.length ∧ ∀ j, j < k → okAt b a j = true) (fun k => a.length - k) (0) ?_ (⟨Nat.zero_le _, fun j hj => by omega⟩) ?_
  · refine Weak.ren _ [] hC rfl ?_ ?_ rfl rfl rfl <;> repeat (first | exact True.intro | refine And.intro ?_ ?_ | exact DLead.same | exact DLead.eqI (by omega) | exact DLead.nil | exact rfl)
  · intro k ⟨hk, hall⟩
    refine AC.seq ?_
    refine AC.seq ?_
    refine AC.region ?_
    refine AL.p (by first | exact mv1 rfl | exact mv2 rfl | exact mv3 rfl | exact mv4 rfl | exact mv5 rfl | exact mv6 rfl | exact mv7 rfl | exact mv8 rfl | exact mv9 rfl) rfl ?_
    refine AL.p (by first | exact mv1 rfl | exact mv2 rfl | exact mv3 rfl | exact mv4 rfl | exact mv5 rfl | exact mv6 rfl | exact mv7 rfl | exact mv8 rfl | exact mv9 rfl) rfl ?_
    refine AL.p (by exact g_len_str (k := a.length) rfl rfl hsz) rfl ?_
    refine AL.p (by first | exact g_cmp rfl rfl rfl | exact g_scmp rfl rfl rfl | exact g_eqB rfl rfl rfl | exact g_neB rfl rfl rfl) rfl ?_
    refine AL.nil ?_
    refine th_n ?_
    first | refine AC.condD rfl (fun h0 => ?_) (fun h0 => ?_) | refine AC.condND rfl (fun h0 => ?_) (fun h0 => ?_) | refine AC.condB rfl (fun h0 => ?_) (fun h0 => ?_) | refine AC.condNB rfl (fun h0 => ?_) (fun h0 => ?_)
    · refine AC.skip ?_
      refine th_n ?_
      refine AC.seq ?_
      refine AC.block ?_
      refine AC.seq ?_
      have hk1 : k < a.length := by omega
      have hga : (bstr a).data.toList[k]? = some (a.getD k 0) := bstr_getD hk1
      have hgb : (bstr b).data.toList[k]? = some (b.getD k 0) := bstr_getD (by omega)
      refine AC.drawn' mixed_ok [[], [], [0,1], [0,1,2], [0,1,2,3], [0,1,2,3,4], [0,1,2,3,4], [0,1,2,3,4,5,6], [0,1,2,3,4], [0,1,2,3,4], [0,1,2,3,4,8,9], [0,1,2,3,4,5,6,7,8,9,10], [0,1,2,3,4,5,6,7,8,9,10,11]] (by decide) ?_
      refine DF.op 0 [] 13 rfl rfl rfl (.free rfl (NOp.of (by first | exact mv1 rfl | exact mv2 rfl | exact mv3 rfl | exact mv4 rfl | exact mv5 rfl | exact mv6 rfl | exact mv7 rfl | exact mv8 rfl | exact mv9 rfl))) rfl ?_
      refine DF.op 1 [] 13 rfl rfl rfl (.free rfl (NOp.of (by first | exact mv1 rfl | exact mv2 rfl | exact mv3 rfl | exact mv4 rfl | exact mv5 rfl | exact mv6 rfl | exact mv7 rfl | exact mv8 rfl | exact mv9 rfl))) rfl ?_
      refine DF.op 2 [0,1] 13 rfl rfl rfl (.free rfl (NOp.of (by exact g_index rfl rfl rfl (by first | rfl | assumption) (by assumption)))) rfl ?_
      refine DF.op 3 [0,1,2] 13 rfl rfl rfl (.free rfl (NOp.of (by first | exact g_cmp rfl rfl rfl | exact g_scmp rfl rfl rfl | exact g_eqB rfl rfl rfl | exact g_neB rfl rfl rfl))) rfl ?_
      refine DF.op 4 [0,1,2,3] 13 rfl rfl rfl (.free rfl (NOp.of (by first | exact mv1 rfl | exact mv2 rfl | exact mv3 rfl | exact mv4 rfl | exact mv5 rfl | exact mv6 rfl | exact mv7 rfl | exact mv8 rfl | exact mv9 rfl))) rfl ?_
      first | refine DF.caseD 4 rfl (fun h1 => ?_) (fun h1 => ?_) | refine DF.caseB 4 rfl (fun h1 => ?_) (fun h1 => ?_)
      · refine DF.op 5 [0,1,2,3,4] 13 rfl rfl rfl (.yes rfl rfl rfl rfl (NOp.of (by first | exact mv1 rfl | exact mv2 rfl | exact mv3 rfl | exact mv4 rfl | exact mv5 rfl | exact mv6 rfl | exact mv7 rfl | exact mv8 rfl | exact mv9 rfl))) rfl ?_
        refine DF.op 6 [0,1,2,3,4] 13 rfl rfl rfl (.yes rfl rfl rfl rfl (NOp.of (by first | exact mv1 rfl | exact mv2 rfl | exact mv3 rfl | exact mv4 rfl | exact mv5 rfl | exact mv6 rfl | exact mv7 rfl | exact mv8 rfl | exact mv9 rfl))) rfl ?_
        refine DF.op 7 [0,1,2,3,4,5,6] 13 rfl rfl rfl (.yes rfl rfl rfl rfl (NOp.of (by exact g_index rfl rfl rfl (by first | rfl | assumption) (by assumption)))) rfl ?_
        refine DF.op 8 [0,1,2,3,4] 13 rfl rfl rfl (.yes rfl rfl rfl rfl (NOp.of (by first | exact mv1 rfl | exact mv2 rfl | exact mv3 rfl | exact mv4 rfl | exact mv5 rfl | exact mv6 rfl | exact mv7 rfl | exact mv8 rfl | exact mv9 rfl))) rfl ?_
        refine DF.op 9 [0,1,2,3,4] 13 rfl rfl rfl (.yes rfl rfl rfl rfl (NOp.of (by first | exact mv1 rfl | exact mv2 rfl | exact mv3 rfl | exact mv4 rfl | exact mv5 rfl | exact mv6 rfl | exact mv7 rfl | exact mv8 rfl | exact mv9 rfl))) rfl ?_
        refine DF.op 10 [0,1,2,3,4,8,9] 13 rfl rfl rfl (.yes rfl rfl rfl rfl (NOp.of (by exact g_index rfl rfl rfl (by first | rfl | assumption) (by assumption)))) rfl ?_
        refine DF.op 11 [0,1,2,3,4,5,6,7,8,9,10] 13 rfl rfl rfl (.yes rfl rfl rfl rfl (NOp.of (by first | exact g_cmp rfl rfl rfl | exact g_scmp rfl rfl rfl | exact g_eqB rfl rfl rfl | exact g_neB rfl rfl rfl))) rfl ?_
        refine DF.op 12 [0,1,2,3,4,5,6,7,8,9,10,11] 13 rfl rfl rfl (.free rfl (NOp.of (by first | exact g_pickT (r := .d _) rfl rfl | exact g_pickF (r := .d _) rfl rfl))) rfl ?_
        refine DF.fin (ps := [(0, 1), (1, 0), (5, 6), (5, 8), (5, 9), (5, 10), (6, 5), (6, 8), (6, 9), (6, 10), (7, 8), (7, 9), (7, 10), (8, 5), (8, 6), (8, 7), (8, 9), (9, 5), (9, 6), (9, 7), (9, 8), (10, 5), (10, 6), (10, 7)]) 13 rfl (by decide +kernel) (by decide +kernel) (by rfl) ?_
        refine th_n ?_
        first | refine AC.condD rfl (fun h2 => ?_) (fun h2 => ?_) | refine AC.condND rfl (fun h2 => ?_) (fun h2 => ?_) | refine AC.condB rfl (fun h2 => ?_) (fun h2 => ?_) | refine AC.condNB rfl (fun h2 => ?_) (fun h2 => ?_)
        · refine AC.seq ?_
          refine AC.region ?_
          refine AL.p (by first | exact as1 rfl | exact as2 rfl | exact as3 rfl | exact as4 rfl | exact as5 rfl | exact as6 rfl | exact as7 rfl | exact as8 rfl | exact as9 rfl) rfl ?_
          refine AL.nil ?_
          refine th_n ?_
          refine AC.ret ?_
          refine ib_r ?_
          refine th_r ?_
          refine th_r ?_
          refine ib_r ?_
          refine th_r ?_
          refine bq_r ?_
          have hb : okAt b a k = false := by simp_all [okAt, at1]
          exact ret1 rfl (by rw [isIn, allN_false hk1 hb])
        · refine AC.skip ?_
          refine ib_n ?_
          refine th_n ?_
          refine AC.region ?_
          refine AL.p (by first | exact mv1 rfl | exact mv2 rfl | exact mv3 rfl | exact mv4 rfl | exact mv5 rfl | exact mv6 rfl | exact mv7 rfl | exact mv8 rfl | exact mv9 rfl) rfl ?_
          refine AL.p (by first | exact g_arith rfl rfl rfl (by first | exact wrap_i64 (by omega) | exact wrap_u8 (by omega) | exact wrap_u64 (by omega) | rfl) | exact g_sadd rfl rfl (by first | assumption | omega | (simp only [ByteArray.size_append, bstr_size, List.length_take, List.length_drop, List.length_cons, List.length_nil]; omega))) rfl ?_
          refine AL.p (by first | exact as1 rfl | exact as2 rfl | exact as3 rfl | exact as4 rfl | exact as5 rfl | exact as6 rfl | exact as7 rfl | exact as8 rfl | exact as9 rfl) rfl ?_
          refine AL.nil ?_
          refine th_n ?_
          have hb : okAt b a k = true := by simp_all [okAt, at1]
          exact ⟨k + 1, ⟨by omega, fun j hj => by rcases Nat.lt_succ_iff_lt_or_eq.1 hj with h | rfl; exact hall j h; exact hb⟩, by omega, Weak.ren _ [] hC rfl (by repeat (first | exact True.intro | refine And.intro ?_ ?_ | exact DLead.same | exact DLead.eqI (by omega) | exact DLead.nil | exact rfl)) (by repeat (first | exact True.intro | refine And.intro ?_ ?_ | exact DLead.same | exact DLead.eqI (by omega) | exact DLead.nil | exact rfl | refine ⟨_, _, rfl, rfl, ?_⟩ | refine ⟨_, rfl, ?_⟩ | refine ⟨_, _, rfl, ?_, ?_⟩)) rfl rfl rfl⟩
      · refine DF.op (ids := []) 5 [0,1,2,3,4] 13 rfl rfl rfl (.no rfl rfl rfl rfl rfl rfl) rfl ?_
        refine DF.op (ids := []) 6 [0,1,2,3,4] 13 rfl rfl rfl (.no rfl rfl rfl rfl rfl rfl) rfl ?_
        refine DF.op (ids := []) 7 [0,1,2,3,4,5,6] 13 rfl rfl rfl (.no rfl rfl rfl rfl rfl rfl) rfl ?_
        refine DF.op (ids := []) 8 [0,1,2,3,4] 13 rfl rfl rfl (.no rfl rfl rfl rfl rfl rfl) rfl ?_
        refine DF.op (ids := []) 9 [0,1,2,3,4] 13 rfl rfl rfl (.no rfl rfl rfl rfl rfl rfl) rfl ?_
        refine DF.op (ids := []) 10 [0,1,2,3,4,8,9] 13 rfl rfl rfl (.no rfl rfl rfl rfl rfl rfl) rfl ?_
        refine DF.op (ids := []) 11 [0,1,2,3,4,5,6,7,8,9,10] 13 rfl rfl rfl (.no rfl rfl rfl rfl rfl rfl) rfl ?_
        refine DF.op 12 [0,1,2,3,4,5,6,7,8,9,10,11] 13 rfl rfl rfl (.free rfl (NOp.of (by first | exact g_pickT (r := .d _) rfl rfl | exact g_pickF (r := .d _) rfl rfl))) rfl ?_
        refine DF.fin (ps := [(0, 1), (1, 0), (5, 6), (5, 8), (5, 9), (5, 10), (6, 5), (6, 8), (6, 9), (6, 10), (7, 8), (7, 9), (7, 10), (8, 5), (8, 6), (8, 7), (8, 9), (9, 5), (9, 6), (9, 7), (9, 8), (10, 5), (10, 6), (10, 7)]) 13 rfl (by decide +kernel) (by decide +kernel) (by rfl) ?_
        refine th_n ?_
        refine AC.condF rfl ?_
        refine AC.skip ?_
        refine ib_n ?_
        refine th_n ?_
        refine AC.region ?_
        refine AL.p (by first | exact mv1 rfl | exact mv2 rfl | exact mv3 rfl | exact mv4 rfl | exact mv5 rfl | exact mv6 rfl | exact mv7 rfl | exact mv8 rfl | exact mv9 rfl) rfl ?_
        refine AL.p (by first | exact g_arith rfl rfl rfl (by first | exact wrap_i64 (by omega) | exact wrap_u8 (by omega) | exact wrap_u64 (by omega) | rfl) | exact g_sadd rfl rfl (by first | assumption | omega | (simp only [ByteArray.size_append, bstr_size, List.length_take, List.length_drop, List.length_cons, List.length_nil]; omega))) rfl ?_
        refine AL.p (by first | exact as1 rfl | exact as2 rfl | exact as3 rfl | exact as4 rfl | exact as5 rfl | exact as6 rfl | exact as7 rfl | exact as8 rfl | exact as9 rfl) rfl ?_
        refine AL.nil ?_
        refine th_n ?_
        have hb : okAt b a k = true := by simp_all [okAt, at1]
        exact ⟨k + 1, ⟨by omega, fun j hj => by rcases Nat.lt_succ_iff_lt_or_eq.1 hj with h | rfl; exact hall j h; exact hb⟩, by omega, Weak.ren _ [] hC rfl (by repeat (first | exact True.intro | refine And.intro ?_ ?_ | exact DLead.same | exact DLead.eqI (by omega) | exact DLead.nil | exact rfl)) (by repeat (first | exact True.intro | refine And.intro ?_ ?_ | exact DLead.same | exact DLead.eqI (by omega) | exact DLead.nil | exact rfl | refine ⟨_, _, rfl, rfl, ?_⟩ | refine ⟨_, rfl, ?_⟩ | refine ⟨_, _, rfl, ?_, ?_⟩)) rfl rfl rfl⟩
    · refine AC.exit ?_
      refine th_e ?_
      refine th_e ?_
      refine ib_y ?_
      refine th_n ?_
      refine AC.seq ?_
      refine AC.region ?_
      refine AL.p (by first | exact as1 rfl | exact as2 rfl | exact as3 rfl | exact as4 rfl | exact as5 rfl | exact as6 rfl | exact as7 rfl | exact as8 rfl | exact as9 rfl) rfl ?_
      refine AL.nil ?_
      refine th_n ?_
      refine AC.ret ?_
      refine bq_r ?_
      exact ret1 rfl (by rw [isIn, allN_true (fun j hj => hall j (by omega))])
theorem en_l13IsIn : Enters Try.prog 34 := enters_of Try.func34 rfl rfl

/-- append over lists of bytes. -/
theorem h_appendB (acc new : List UInt8) {s : ASt} {dst : Option Nat} {ty : Nat} {pos : String} {af : Array Edge} {gd : Option (Nat × Bool)} {x y : Operand} {f : Nat} {ids ids2 : List Nat} {gone : List (Nat × Option Chunk)}
    (hto : AppTo s x 5 1 (byteEls acc) ids gone) (harg : AppArg s y 1 (byteEls new) ids2) (h : (acc ++ new).length ≤ 100000000) (hnew : gone = [] → 0 < new.length) :
    NOp Try.prog (ids ++ ids2) s ⟨dst, .call { callee := .builtin .append, args := #[x, y], argTypes := #[22, 22] }, ty, pos, af, gd⟩ f ⟨.own f (acc ++ new).length, (f, some (.arr 5 1 (byteEls (acc ++ new)))) :: gone⟩ := by
  have := h_append (P := Try.prog) (s := s) (dst := dst) (ty := ty) (pos := pos) (af := af) (gd := gd) (x := x) (y := y) (f := f) (t := 22) (tx := 22) (k := (acc ++ new).length) rfl rfl rfl rfl rfl rfl hto harg (by simp) (by omega) (by show (acc ++ new).length * 1 ≤ _; omega) (fun h => by rw [List.length_map]; exact hnew h)
  rwa [← List.map_append] at this
def mtAt (a b : List UInt8) (i : Nat) : Option UInt8 := if at1 a i = 45 ∨ at1 a i = at1 b i then some (b.getD i 0) else if at1 b i = 45 then some (a.getD i 0) else none
def meetV (a b : List UInt8) (k : Nat) : List UInt8 := (List.range k).map (fun i => (mtAt a b i).getD 0)
def meetI (a b : List UInt8) : List UInt8 × Bool := if allN a.length (fun i => (mtAt a b i).isSome) = true then (meetV a b a.length, true) else ([], false)
theorem meetV_succ (a b : List UInt8) (k : Nat) : meetV a b (k + 1) = meetV a b k ++ [(mtAt a b k).getD 0] := by unfold meetV; rw [List.range_succ, List.map_append]; rfl
theorem meetV_len (a b : List UInt8) (k : Nat) : (meetV a b k).length = k := by unfold meetV; rw [List.length_map, List.length_range]
theorem meetI_no {a b : List UInt8} {k : Nat} (hk : k < a.length) (h : mtAt a b k = none) : meetI a b = ([], false) := by unfold meetI; rw [allN_false hk (by rw [h]; rfl)]; rfl
theorem meetI_yes {a b : List UInt8} (h : ∀ j, j < a.length → (mtAt a b j).isSome = true) : meetI a b = (meetV a b a.length, true) := by unfold meetI; rw [allN_true h]; rfl
theorem at1_inj {a b : List UInt8} {i : Nat} (h : at1 a i = at1 b i) : a.getD i 0 = b.getD i 0 := by
  unfold at1 at h
  exact UInt8.toNat_inj.1 (by omega)
theorem mtAt_alt (a b : List UInt8) (i : Nat) : mtAt a b i = if at1 a i = at1 b i ∨ at1 b i = 45 then some (a.getD i 0) else if at1 a i = 45 then some (b.getD i 0) else none := by
  unfold mtAt
  by_cases h1 : at1 a i = 45 <;> by_cases h2 : at1 b i = 45 <;> by_cases h3 : at1 a i = at1 b i
  · rw [if_pos (.inl h1), if_pos (.inl h3), at1_inj h3]
  · omega
  · omega
  · rw [if_pos (.inl h1), if_neg (by omega), if_pos h1]
  · omega
  · rw [if_neg (by omega), if_pos h2, if_pos (.inr h2)]
  · rw [if_pos (.inr h3), if_pos (.inl h3), at1_inj h3]
  · rw [if_neg (by omega), if_neg h2, if_neg (by omega), if_neg h1]
theorem mt_b1 {a b : List UInt8} {k : Nat} (h : at1 a k = 45) : mtAt a b k = some (b.getD k 0) := if_pos (.inl h)
theorem mt_b2 {a b : List UInt8} {k : Nat} (h : at1 a k = at1 b k) : mtAt a b k = some (b.getD k 0) := if_pos (.inr h)
theorem mt_a {a b : List UInt8} {k : Nat} (h1 : ¬ at1 a k = 45) (h2 : ¬ at1 a k = at1 b k) (h3 : at1 b k = 45) : mtAt a b k = some (a.getD k 0) := by unfold mtAt; rw [if_neg (by omega), if_pos h3]
theorem sm_a1 {a b : List UInt8} {k : Nat} (h : at1 a k = at1 b k) : mtAt a b k = some (a.getD k 0) := by rw [mtAt_alt, if_pos (.inl h)]
theorem sm_a2 {a b : List UInt8} {k : Nat} (h : at1 b k = 45) : mtAt a b k = some (a.getD k 0) := by rw [mtAt_alt, if_pos (.inr h)]
theorem sm_b {a b : List UInt8} {k : Nat} (h1 : ¬ at1 a k = at1 b k) (h2 : ¬ at1 b k = 45) (h3 : at1 a k = 45) : mtAt a b k = some (b.getD k 0) := by rw [mtAt_alt, if_neg (by omega), if_pos h3]
theorem meetV_on {a b : List UInt8} {k : Nat} {x : UInt8} (h : mtAt a b k = some x) : meetV a b (k + 1) = meetV a b k ++ [x] := by rw [meetV_succ, h]; rfl
theorem meet_more {a b : List UInt8} {k : Nat} {x : UInt8} (hall : ∀ j, j < k → (mtAt a b j).isSome = true) (h : mtAt a b k = some x) : ∀ j, j < k + 1 → (mtAt a b j).isSome = true := fun j hj => by
  rcases Nat.lt_succ_iff_lt_or_eq.1 hj with h2 | rfl
  · exact hall j h2
  · rw [h]; rfl
set_option maxHeartbeats 1000000 in
theorem intersected_spec (a b : List UInt8) (ha : a.length ≤ 2000000) (hl : b.length = a.length) : ASpec Try.prog 20 [aS (bstr a), aS (bstr b)] [] (Pure1 (.tup [aS (bstr (meetI a b).1), aT (meetI a b).2])) := by
  have hsz := bstr_size a
  refine ASpec.of Try.func20 rfl rfl fun C hC => ?_
  refine AC.seq ?_
  refine AC.region ?_
  refine AL.p (by first | exact as1 rfl | exact as2 rfl | exact as3 rfl | exact as4 rfl | exact as5 rfl | exact as6 rfl | exact as7 rfl | exact as8 rfl | exact as9 rfl) rfl ?_
  refine AL.p (by first | exact as1 rfl | exact as2 rfl | exact as3 rfl | exact as4 rfl | exact as5 rfl | exact as6 rfl | exact as7 rfl | exact as8 rfl | exact as9 rfl) rfl ?_
  refine AL.nil ?_
  refine th_n ?_
  refine AC.seq ?_
  refine AC.region ?_
  refine AL.q (by exact h_lit rfl rfl rfl rfl rfl rfl rfl rfl) rfl ?_
  refine AL.p (by first | exact as1 rfl | exact as2 rfl | exact as3 rfl | exact as4 rfl | exact as5 rfl | exact as6 rfl | exact as7 rfl | exact as8 rfl | exact as9 rfl) rfl ?_
  refine AL.nil ?_
  refine th_n ?_
  refine AC.seq ?_
  refine AC.seq ?_
  refine AC.region ?_
  refine AL.p (by first | exact mv1 rfl | exact mv2 rfl | exact mv3 rfl | exact mv4 rfl | exact mv5 rfl | exact mv6 rfl | exact mv7 rfl | exact mv8 rfl | exact mv9 rfl) rfl ?_
  refine AL.p (by exact g_len_str (k := a.length) rfl rfl hsz) rfl ?_
  refine AL.p (by first | exact mv1 rfl | exact mv2 rfl | exact mv3 rfl | exact mv4 rfl | exact mv5 rfl | exact mv6 rfl | exact mv7 rfl | exact mv8 rfl | exact mv9 rfl) rfl ?_
  refine AL.nil ?_
  refine th_n ?_
  refine AC.block ?_
  refine AC.loop (ι := Nat) (fun k => ⟨48, 108, [(0, aS (bstr a)), (1, aS (bstr b)), (6, .own 100 k), (10, aI a.length), (11, aI k)], [(100, some (.arr 5 1 (byteEls (meetV a b k))))]⟩) (fun k => k ≤ a.length ∧ ∀ j, j < k → (mtAt a b j).isSome = true) (fun k => a.length - k) (0) ?_ (⟨Nat.zero_le _, fun j hj => by omega⟩) ?_
  · exact Weak.ren _ [(100, _)] hC rfl (by repeat (first | exact True.intro | refine And.intro ?_ ?_ | exact DLead.same | exact DLead.eqI (by omega) | exact DLead.nil | exact rfl | refine ⟨_, _, rfl, rfl, ?_⟩ | refine ⟨_, rfl, ?_⟩ | refine ⟨_, _, rfl, ?_, ?_⟩)) (by repeat (first | exact True.intro | refine And.intro ?_ ?_ | exact DLead.same | exact DLead.eqI (by omega) | exact DLead.nil | exact rfl | refine ⟨_, _, rfl, rfl, ?_⟩ | refine ⟨_, rfl, ?_⟩ | refine ⟨_, _, rfl, ?_, ?_⟩)) rfl rfl rfl
  · intro k ⟨hk, hall⟩
    refine AC.seq ?_
    refine AC.region ?_
    refine AL.p (by first | exact g_cmp rfl rfl rfl | exact g_scmp rfl rfl rfl | exact g_eqB rfl rfl rfl | exact g_neB rfl rfl rfl) rfl ?_
    refine AL.nil ?_
    refine th_n ?_
    refine AC.seq ?_
    first | refine AC.condD rfl (fun h0 => ?_) (fun h0 => ?_) | refine AC.condND rfl (fun h0 => ?_) (fun h0 => ?_) | refine AC.condB rfl (fun h0 => ?_) (fun h0 => ?_) | refine AC.condNB rfl (fun h0 => ?_) (fun h0 => ?_)
    · refine AC.skip ?_
      refine th_n ?_
      refine AC.seq ?_
      refine AC.block ?_
      refine AC.seq ?_
      have hk1 : k < a.length := by omega
      have hga : (bstr a).data.toList[k]? = some (a.getD k 0) := bstr_getD hk1
      have hgb : (bstr b).data.toList[k]? = some (b.getD k 0) := bstr_getD (by omega)
      have hml := meetV_len a b k
      refine AC.region ?_
      refine AL.p (by first | exact mv1 rfl | exact mv2 rfl | exact mv3 rfl | exact mv4 rfl | exact mv5 rfl | exact mv6 rfl | exact mv7 rfl | exact mv8 rfl | exact mv9 rfl) rfl ?_
      refine AL.p (by first | exact as1 rfl | exact as2 rfl | exact as3 rfl | exact as4 rfl | exact as5 rfl | exact as6 rfl | exact as7 rfl | exact as8 rfl | exact as9 rfl) rfl ?_
      refine AL.nil ?_
      refine th_n ?_
      refine AC.block ?_
      refine AC.seq ?_
      refine AC.drawn' mixed_ok [[], [], [0,1], [0,1,2], [0,1,2,3], [0,1,2,3,4], [0,1,2,3,4], [0,1,2,3,4,5,6], [0,1,2,3,4], [0,1,2,3,4], [0,1,2,3,4,8,9], [0,1,2,3,4,5,6,7,8,9,10], [0,1,2,3,4,5,6,7,8,9,10,11], [0,1,2,3,4,5,6,7,8,9,10,11,12]] (by decide) ?_
      refine DF.op 0 [] 14 rfl rfl rfl (.free rfl (NOp.of (by first | exact mv1 rfl | exact mv2 rfl | exact mv3 rfl | exact mv4 rfl | exact mv5 rfl | exact mv6 rfl | exact mv7 rfl | exact mv8 rfl | exact mv9 rfl))) rfl ?_
      refine DF.op 1 [] 14 rfl rfl rfl (.free rfl (NOp.of (by first | exact mv1 rfl | exact mv2 rfl | exact mv3 rfl | exact mv4 rfl | exact mv5 rfl | exact mv6 rfl | exact mv7 rfl | exact mv8 rfl | exact mv9 rfl))) rfl ?_
      refine DF.op 2 [0,1] 14 rfl rfl rfl (.free rfl (NOp.of (by exact g_index rfl rfl rfl (by first | rfl | assumption) (by assumption)))) rfl ?_
      refine DF.op 3 [0,1,2] 14 rfl rfl rfl (.free rfl (NOp.of (by first | exact g_cmp rfl rfl rfl | exact g_scmp rfl rfl rfl | exact g_eqB rfl rfl rfl | exact g_neB rfl rfl rfl))) rfl ?_
      refine DF.op 4 [0,1,2,3] 14 rfl rfl rfl (.free rfl (NOp.of (by first | exact mv1 rfl | exact mv2 rfl | exact mv3 rfl | exact mv4 rfl | exact mv5 rfl | exact mv6 rfl | exact mv7 rfl | exact mv8 rfl | exact mv9 rfl))) rfl ?_
      first | refine DF.caseD 4 rfl (fun h1 => ?_) (fun h1 => ?_) | refine DF.caseB 4 rfl (fun h1 => ?_) (fun h1 => ?_)
      · refine DF.op (ids := []) 5 [0,1,2,3,4] 14 rfl rfl rfl (.no rfl rfl rfl rfl rfl rfl) rfl ?_
        refine DF.op (ids := []) 6 [0,1,2,3,4] 14 rfl rfl rfl (.no rfl rfl rfl rfl rfl rfl) rfl ?_
        refine DF.op (ids := []) 7 [0,1,2,3,4,5,6] 14 rfl rfl rfl (.no rfl rfl rfl rfl rfl rfl) rfl ?_
        refine DF.op (ids := []) 8 [0,1,2,3,4] 14 rfl rfl rfl (.no rfl rfl rfl rfl rfl rfl) rfl ?_
        refine DF.op (ids := []) 9 [0,1,2,3,4] 14 rfl rfl rfl (.no rfl rfl rfl rfl rfl rfl) rfl ?_
        refine DF.op (ids := []) 10 [0,1,2,3,4,8,9] 14 rfl rfl rfl (.no rfl rfl rfl rfl rfl rfl) rfl ?_
        refine DF.op (ids := []) 11 [0,1,2,3,4,5,6,7,8,9,10] 14 rfl rfl rfl (.no rfl rfl rfl rfl rfl rfl) rfl ?_
        refine DF.op 12 [0,1,2,3,4,5,6,7,8,9,10,11] 14 rfl rfl rfl (.free rfl (NOp.of (by first | exact g_pickT (r := .d _) rfl rfl | exact g_pickF (r := .d _) rfl rfl))) rfl ?_
        refine DF.op 13 [0,1,2,3,4,5,6,7,8,9,10,11,12] 14 rfl rfl rfl (.free rfl (NOp.of (by first | exact as1 rfl | exact as2 rfl | exact as3 rfl | exact as4 rfl | exact as5 rfl | exact as6 rfl | exact as7 rfl | exact as8 rfl | exact as9 rfl))) rfl ?_
        refine DF.fin (ps := [(0, 1), (1, 0), (5, 6), (5, 8), (5, 9), (5, 10), (6, 5), (6, 8), (6, 9), (6, 10), (7, 8), (7, 9), (7, 10), (8, 5), (8, 6), (8, 7), (8, 9), (9, 5), (9, 6), (9, 7), (9, 8), (10, 5), (10, 6), (10, 7)]) 14 rfl (by decide +kernel) (by decide +kernel) (by rfl) ?_
        refine th_n ?_
        refine AC.condT rfl ?_
        refine AC.region ?_
        refine AL.p (by first | exact mv1 rfl | exact mv2 rfl | exact mv3 rfl | exact mv4 rfl | exact mv5 rfl | exact mv6 rfl | exact mv7 rfl | exact mv8 rfl | exact mv9 rfl) rfl ?_
        refine AL.p (by first | exact mv1 rfl | exact mv2 rfl | exact mv3 rfl | exact mv4 rfl | exact mv5 rfl | exact mv6 rfl | exact mv7 rfl | exact mv8 rfl | exact mv9 rfl) rfl ?_
        refine AL.p (by first | exact mv1 rfl | exact mv2 rfl | exact mv3 rfl | exact mv4 rfl | exact mv5 rfl | exact mv6 rfl | exact mv7 rfl | exact mv8 rfl | exact mv9 rfl) rfl ?_
        refine AL.p (by exact g_index rfl rfl rfl (by first | rfl | assumption) (by assumption)) rfl ?_
        refine AL.q (by exact h_litF rfl rfl rfl rfl rfl rfl rfl rfl) rfl ?_
        refine AL.q (by exact h_appendB (meetV a b k) [b.getD k 0] (.own rfl rfl (by rw [List.length_map, hml])) (.view rfl) (by rw [List.length_append, hml]; show k + 1 ≤ _; omega) (by simp)) rfl ?_
        refine AL.p (by first | exact as1 rfl | exact as2 rfl | exact as3 rfl | exact as4 rfl | exact as5 rfl | exact as6 rfl | exact as7 rfl | exact as8 rfl | exact as9 rfl) rfl ?_
        refine AL.nil ?_
        refine ib_n ?_
        refine ib_n ?_
        refine th_n ?_
        refine AC.region ?_
        refine AL.p (by first | exact g_arith rfl rfl rfl (by first | exact wrap_i64 (by omega) | exact wrap_u8 (by omega) | exact wrap_u64 (by omega) | rfl) | exact g_sadd rfl rfl (by first | assumption | omega | (simp only [ByteArray.size_append, bstr_size, List.length_take, List.length_drop, List.length_cons, List.length_nil]; omega))) rfl ?_
        refine AL.p (by first | exact mv1 rfl | exact mv2 rfl | exact mv3 rfl | exact mv4 rfl | exact mv5 rfl | exact mv6 rfl | exact mv7 rfl | exact mv8 rfl | exact mv9 rfl) rfl ?_
        refine AL.nil ?_
        refine th_n ?_
        first | (have hb := mt_b1 (b := b) h1; have e := meetV_on hb; have hl5 : (meetV a b k ++ [b.getD k 0]).length = k + 1 := (by rw [List.length_append, hml]; rfl); exact ⟨k + 1, ⟨by omega, meet_more hall hb⟩, by omega, Weak.ren _ [(100, _)] hC rfl (by rw [← hl5]; repeat (first | exact True.intro | refine And.intro ?_ ?_ | exact DLead.same | exact DLead.eqI (by omega) | exact DLead.nil | exact rfl | refine ⟨_, _, rfl, rfl, ?_⟩ | refine ⟨_, rfl, ?_⟩ | refine ⟨_, _, rfl, ?_, ?_⟩)) (by rw [e]; repeat (first | exact True.intro | refine And.intro ?_ ?_ | exact DLead.same | exact DLead.eqI (by omega) | exact DLead.nil | exact rfl | refine ⟨_, _, rfl, rfl, ?_⟩ | refine ⟨_, rfl, ?_⟩ | refine ⟨_, _, rfl, ?_, ?_⟩)) rfl rfl rfl⟩) | (have hb := mt_a h1 h2 h3; have e := meetV_on hb; have hl5 : (meetV a b k ++ [a.getD k 0]).length = k + 1 := (by rw [List.length_append, hml]; rfl); exact ⟨k + 1, ⟨by omega, meet_more hall hb⟩, by omega, Weak.ren _ [(100, _)] hC rfl (by rw [← hl5]; repeat (first | exact True.intro | refine And.intro ?_ ?_ | exact DLead.same | exact DLead.eqI (by omega) | exact DLead.nil | exact rfl | refine ⟨_, _, rfl, rfl, ?_⟩ | refine ⟨_, rfl, ?_⟩ | refine ⟨_, _, rfl, ?_, ?_⟩)) (by rw [e]; repeat (first | exact True.intro | refine And.intro ?_ ?_ | exact DLead.same | exact DLead.eqI (by omega) | exact DLead.nil | exact rfl | refine ⟨_, _, rfl, rfl, ?_⟩ | refine ⟨_, rfl, ?_⟩ | refine ⟨_, _, rfl, ?_, ?_⟩)) rfl rfl rfl⟩) | (have hb := mt_b2 h2; have e := meetV_on hb; have hl5 : (meetV a b k ++ [b.getD k 0]).length = k + 1 := (by rw [List.length_append, hml]; rfl); exact ⟨k + 1, ⟨by omega, meet_more hall hb⟩, by omega, Weak.ren _ [(100, _)] hC rfl (by rw [← hl5]; repeat (first | exact True.intro | refine And.intro ?_ ?_ | exact DLead.same | exact DLead.eqI (by omega) | exact DLead.nil | exact rfl | refine ⟨_, _, rfl, rfl, ?_⟩ | refine ⟨_, rfl, ?_⟩ | refine ⟨_, _, rfl, ?_, ?_⟩)) (by rw [e]; repeat (first | exact True.intro | refine And.intro ?_ ?_ | exact DLead.same | exact DLead.eqI (by omega) | exact DLead.nil | exact rfl | refine ⟨_, _, rfl, rfl, ?_⟩ | refine ⟨_, rfl, ?_⟩ | refine ⟨_, _, rfl, ?_, ?_⟩)) rfl rfl rfl⟩)
      · refine DF.op 5 [0,1,2,3,4] 14 rfl rfl rfl (.yes rfl rfl rfl rfl (NOp.of (by first | exact mv1 rfl | exact mv2 rfl | exact mv3 rfl | exact mv4 rfl | exact mv5 rfl | exact mv6 rfl | exact mv7 rfl | exact mv8 rfl | exact mv9 rfl))) rfl ?_
        refine DF.op 6 [0,1,2,3,4] 14 rfl rfl rfl (.yes rfl rfl rfl rfl (NOp.of (by first | exact mv1 rfl | exact mv2 rfl | exact mv3 rfl | exact mv4 rfl | exact mv5 rfl | exact mv6 rfl | exact mv7 rfl | exact mv8 rfl | exact mv9 rfl))) rfl ?_
        refine DF.op 7 [0,1,2,3,4,5,6] 14 rfl rfl rfl (.yes rfl rfl rfl rfl (NOp.of (by exact g_index rfl rfl rfl (by first | rfl | assumption) (by assumption)))) rfl ?_
        refine DF.op 8 [0,1,2,3,4] 14 rfl rfl rfl (.yes rfl rfl rfl rfl (NOp.of (by first | exact mv1 rfl | exact mv2 rfl | exact mv3 rfl | exact mv4 rfl | exact mv5 rfl | exact mv6 rfl | exact mv7 rfl | exact mv8 rfl | exact mv9 rfl))) rfl ?_
        refine DF.op 9 [0,1,2,3,4] 14 rfl rfl rfl (.yes rfl rfl rfl rfl (NOp.of (by first | exact mv1 rfl | exact mv2 rfl | exact mv3 rfl | exact mv4 rfl | exact mv5 rfl | exact mv6 rfl | exact mv7 rfl | exact mv8 rfl | exact mv9 rfl))) rfl ?_
        refine DF.op 10 [0,1,2,3,4,8,9] 14 rfl rfl rfl (.yes rfl rfl rfl rfl (NOp.of (by exact g_index rfl rfl rfl (by first | rfl | assumption) (by assumption)))) rfl ?_
        refine DF.op 11 [0,1,2,3,4,5,6,7,8,9,10] 14 rfl rfl rfl (.yes rfl rfl rfl rfl (NOp.of (by first | exact g_cmp rfl rfl rfl | exact g_scmp rfl rfl rfl | exact g_eqB rfl rfl rfl | exact g_neB rfl rfl rfl))) rfl ?_
        refine DF.op 12 [0,1,2,3,4,5,6,7,8,9,10,11] 14 rfl rfl rfl (.free rfl (NOp.of (by first | exact g_pickT (r := .d _) rfl rfl | exact g_pickF (r := .d _) rfl rfl))) rfl ?_
        refine DF.op 13 [0,1,2,3,4,5,6,7,8,9,10,11,12] 14 rfl rfl rfl (.free rfl (NOp.of (by first | exact as1 rfl | exact as2 rfl | exact as3 rfl | exact as4 rfl | exact as5 rfl | exact as6 rfl | exact as7 rfl | exact as8 rfl | exact as9 rfl))) rfl ?_
        refine DF.fin (ps := [(0, 1), (1, 0), (5, 6), (5, 8), (5, 9), (5, 10), (6, 5), (6, 8), (6, 9), (6, 10), (7, 8), (7, 9), (7, 10), (8, 5), (8, 6), (8, 7), (8, 9), (9, 5), (9, 6), (9, 7), (9, 8), (10, 5), (10, 6), (10, 7)]) 14 rfl (by decide +kernel) (by decide +kernel) (by rfl) ?_
        refine th_n ?_
        first | refine AC.condD rfl (fun h2 => ?_) (fun h2 => ?_) | refine AC.condND rfl (fun h2 => ?_) (fun h2 => ?_) | refine AC.condB rfl (fun h2 => ?_) (fun h2 => ?_) | refine AC.condNB rfl (fun h2 => ?_) (fun h2 => ?_)
        · refine AC.region ?_
          refine AL.p (by first | exact mv1 rfl | exact mv2 rfl | exact mv3 rfl | exact mv4 rfl | exact mv5 rfl | exact mv6 rfl | exact mv7 rfl | exact mv8 rfl | exact mv9 rfl) rfl ?_
          refine AL.p (by first | exact mv1 rfl | exact mv2 rfl | exact mv3 rfl | exact mv4 rfl | exact mv5 rfl | exact mv6 rfl | exact mv7 rfl | exact mv8 rfl | exact mv9 rfl) rfl ?_
          refine AL.p (by first | exact mv1 rfl | exact mv2 rfl | exact mv3 rfl | exact mv4 rfl | exact mv5 rfl | exact mv6 rfl | exact mv7 rfl | exact mv8 rfl | exact mv9 rfl) rfl ?_
          refine AL.p (by exact g_index rfl rfl rfl (by first | rfl | assumption) (by assumption)) rfl ?_
          refine AL.q (by exact h_litF rfl rfl rfl rfl rfl rfl rfl rfl) rfl ?_
          refine AL.q (by exact h_appendB (meetV a b k) [b.getD k 0] (.own rfl rfl (by rw [List.length_map, hml])) (.view rfl) (by rw [List.length_append, hml]; show k + 1 ≤ _; omega) (by simp)) rfl ?_
          refine AL.p (by first | exact as1 rfl | exact as2 rfl | exact as3 rfl | exact as4 rfl | exact as5 rfl | exact as6 rfl | exact as7 rfl | exact as8 rfl | exact as9 rfl) rfl ?_
          refine AL.nil ?_
          refine ib_n ?_
          refine ib_n ?_
          refine th_n ?_
          refine AC.region ?_
          refine AL.p (by first | exact g_arith rfl rfl rfl (by first | exact wrap_i64 (by omega) | exact wrap_u8 (by omega) | exact wrap_u64 (by omega) | rfl) | exact g_sadd rfl rfl (by first | assumption | omega | (simp only [ByteArray.size_append, bstr_size, List.length_take, List.length_drop, List.length_cons, List.length_nil]; omega))) rfl ?_
          refine AL.p (by first | exact mv1 rfl | exact mv2 rfl | exact mv3 rfl | exact mv4 rfl | exact mv5 rfl | exact mv6 rfl | exact mv7 rfl | exact mv8 rfl | exact mv9 rfl) rfl ?_
          refine AL.nil ?_
          refine th_n ?_
          first | (have hb := mt_b1 (b := b) h1; have e := meetV_on hb; have hl5 : (meetV a b k ++ [b.getD k 0]).length = k + 1 := (by rw [List.length_append, hml]; rfl); exact ⟨k + 1, ⟨by omega, meet_more hall hb⟩, by omega, Weak.ren _ [(100, _)] hC rfl (by rw [← hl5]; repeat (first | exact True.intro | refine And.intro ?_ ?_ | exact DLead.same | exact DLead.eqI (by omega) | exact DLead.nil | exact rfl | refine ⟨_, _, rfl, rfl, ?_⟩ | refine ⟨_, rfl, ?_⟩ | refine ⟨_, _, rfl, ?_, ?_⟩)) (by rw [e]; repeat (first | exact True.intro | refine And.intro ?_ ?_ | exact DLead.same | exact DLead.eqI (by omega) | exact DLead.nil | exact rfl | refine ⟨_, _, rfl, rfl, ?_⟩ | refine ⟨_, rfl, ?_⟩ | refine ⟨_, _, rfl, ?_, ?_⟩)) rfl rfl rfl⟩) | (have hb := mt_a h1 h2 h3; have e := meetV_on hb; have hl5 : (meetV a b k ++ [a.getD k 0]).length = k + 1 := (by rw [List.length_append, hml]; rfl); exact ⟨k + 1, ⟨by omega, meet_more hall hb⟩, by omega, Weak.ren _ [(100, _)] hC rfl (by rw [← hl5]; repeat (first | exact True.intro | refine And.intro ?_ ?_ | exact DLead.same | exact DLead.eqI (by omega) | exact DLead.nil | exact rfl | refine ⟨_, _, rfl, rfl, ?_⟩ | refine ⟨_, rfl, ?_⟩ | refine ⟨_, _, rfl, ?_, ?_⟩)) (by rw [e]; repeat (first | exact True.intro | refine And.intro ?_ ?_ | exact DLead.same | exact DLead.eqI (by omega) | exact DLead.nil | exact rfl | refine ⟨_, _, rfl, rfl, ?_⟩ | refine ⟨_, rfl, ?_⟩ | refine ⟨_, _, rfl, ?_, ?_⟩)) rfl rfl rfl⟩) | (have hb := mt_b2 h2; have e := meetV_on hb; have hl5 : (meetV a b k ++ [b.getD k 0]).length = k + 1 := (by rw [List.length_append, hml]; rfl); exact ⟨k + 1, ⟨by omega, meet_more hall hb⟩, by omega, Weak.ren _ [(100, _)] hC rfl (by rw [← hl5]; repeat (first | exact True.intro | refine And.intro ?_ ?_ | exact DLead.same | exact DLead.eqI (by omega) | exact DLead.nil | exact rfl | refine ⟨_, _, rfl, rfl, ?_⟩ | refine ⟨_, rfl, ?_⟩ | refine ⟨_, _, rfl, ?_, ?_⟩)) (by rw [e]; repeat (first | exact True.intro | refine And.intro ?_ ?_ | exact DLead.same | exact DLead.eqI (by omega) | exact DLead.nil | exact rfl | refine ⟨_, _, rfl, rfl, ?_⟩ | refine ⟨_, rfl, ?_⟩ | refine ⟨_, _, rfl, ?_, ?_⟩)) rfl rfl rfl⟩)
        · refine AC.seq ?_
          refine AC.region ?_
          refine AL.p (by first | exact mv1 rfl | exact mv2 rfl | exact mv3 rfl | exact mv4 rfl | exact mv5 rfl | exact mv6 rfl | exact mv7 rfl | exact mv8 rfl | exact mv9 rfl) rfl ?_
          refine AL.p (by first | exact mv1 rfl | exact mv2 rfl | exact mv3 rfl | exact mv4 rfl | exact mv5 rfl | exact mv6 rfl | exact mv7 rfl | exact mv8 rfl | exact mv9 rfl) rfl ?_
          refine AL.p (by exact g_index rfl rfl rfl (by first | rfl | assumption) (by assumption)) rfl ?_
          refine AL.p (by first | exact g_cmp rfl rfl rfl | exact g_scmp rfl rfl rfl | exact g_eqB rfl rfl rfl | exact g_neB rfl rfl rfl) rfl ?_
          refine AL.p (by first | exact as1 rfl | exact as2 rfl | exact as3 rfl | exact as4 rfl | exact as5 rfl | exact as6 rfl | exact as7 rfl | exact as8 rfl | exact as9 rfl) rfl ?_
          refine AL.nil ?_
          refine th_n ?_
          first | refine AC.condD rfl (fun h3 => ?_) (fun h3 => ?_) | refine AC.condND rfl (fun h3 => ?_) (fun h3 => ?_) | refine AC.condB rfl (fun h3 => ?_) (fun h3 => ?_) | refine AC.condNB rfl (fun h3 => ?_) (fun h3 => ?_)
          · refine AC.region ?_
            refine AL.p (by first | exact mv1 rfl | exact mv2 rfl | exact mv3 rfl | exact mv4 rfl | exact mv5 rfl | exact mv6 rfl | exact mv7 rfl | exact mv8 rfl | exact mv9 rfl) rfl ?_
            refine AL.p (by first | exact mv1 rfl | exact mv2 rfl | exact mv3 rfl | exact mv4 rfl | exact mv5 rfl | exact mv6 rfl | exact mv7 rfl | exact mv8 rfl | exact mv9 rfl) rfl ?_
            refine AL.p (by first | exact mv1 rfl | exact mv2 rfl | exact mv3 rfl | exact mv4 rfl | exact mv5 rfl | exact mv6 rfl | exact mv7 rfl | exact mv8 rfl | exact mv9 rfl) rfl ?_
            refine AL.p (by exact g_index rfl rfl rfl (by first | rfl | assumption) (by assumption)) rfl ?_
            refine AL.q (by exact h_litF rfl rfl rfl rfl rfl rfl rfl rfl) rfl ?_
            refine AL.q (by exact h_appendB (meetV a b k) [a.getD k 0] (.own rfl rfl (by rw [List.length_map, hml])) (.view rfl) (by rw [List.length_append, hml]; show k + 1 ≤ _; omega) (by simp)) rfl ?_
            refine AL.p (by first | exact as1 rfl | exact as2 rfl | exact as3 rfl | exact as4 rfl | exact as5 rfl | exact as6 rfl | exact as7 rfl | exact as8 rfl | exact as9 rfl) rfl ?_
            refine AL.nil ?_
            refine ib_n ?_
            refine ib_n ?_
            refine th_n ?_
            refine AC.region ?_
            refine AL.p (by first | exact g_arith rfl rfl rfl (by first | exact wrap_i64 (by omega) | exact wrap_u8 (by omega) | exact wrap_u64 (by omega) | rfl) | exact g_sadd rfl rfl (by first | assumption | omega | (simp only [ByteArray.size_append, bstr_size, List.length_take, List.length_drop, List.length_cons, List.length_nil]; omega))) rfl ?_
            refine AL.p (by first | exact mv1 rfl | exact mv2 rfl | exact mv3 rfl | exact mv4 rfl | exact mv5 rfl | exact mv6 rfl | exact mv7 rfl | exact mv8 rfl | exact mv9 rfl) rfl ?_
            refine AL.nil ?_
            refine th_n ?_
            first | (have hb := mt_b1 (b := b) h1; have e := meetV_on hb; have hl5 : (meetV a b k ++ [b.getD k 0]).length = k + 1 := (by rw [List.length_append, hml]; rfl); exact ⟨k + 1, ⟨by omega, meet_more hall hb⟩, by omega, Weak.ren _ [(100, _)] hC rfl (by rw [← hl5]; repeat (first | exact True.intro | refine And.intro ?_ ?_ | exact DLead.same | exact DLead.eqI (by omega) | exact DLead.nil | exact rfl | refine ⟨_, _, rfl, rfl, ?_⟩ | refine ⟨_, rfl, ?_⟩ | refine ⟨_, _, rfl, ?_, ?_⟩)) (by rw [e]; repeat (first | exact True.intro | refine And.intro ?_ ?_ | exact DLead.same | exact DLead.eqI (by omega) | exact DLead.nil | exact rfl | refine ⟨_, _, rfl, rfl, ?_⟩ | refine ⟨_, rfl, ?_⟩ | refine ⟨_, _, rfl, ?_, ?_⟩)) rfl rfl rfl⟩) | (have hb := mt_a h1 h2 h3; have e := meetV_on hb; have hl5 : (meetV a b k ++ [a.getD k 0]).length = k + 1 := (by rw [List.length_append, hml]; rfl); exact ⟨k + 1, ⟨by omega, meet_more hall hb⟩, by omega, Weak.ren _ [(100, _)] hC rfl (by rw [← hl5]; repeat (first | exact True.intro | refine And.intro ?_ ?_ | exact DLead.same | exact DLead.eqI (by omega) | exact DLead.nil | exact rfl | refine ⟨_, _, rfl, rfl, ?_⟩ | refine ⟨_, rfl, ?_⟩ | refine ⟨_, _, rfl, ?_, ?_⟩)) (by rw [e]; repeat (first | exact True.intro | refine And.intro ?_ ?_ | exact DLead.same | exact DLead.eqI (by omega) | exact DLead.nil | exact rfl | refine ⟨_, _, rfl, rfl, ?_⟩ | refine ⟨_, rfl, ?_⟩ | refine ⟨_, _, rfl, ?_, ?_⟩)) rfl rfl rfl⟩) | (have hb := mt_b2 h2; have e := meetV_on hb; have hl5 : (meetV a b k ++ [b.getD k 0]).length = k + 1 := (by rw [List.length_append, hml]; rfl); exact ⟨k + 1, ⟨by omega, meet_more hall hb⟩, by omega, Weak.ren _ [(100, _)] hC rfl (by rw [← hl5]; repeat (first | exact True.intro | refine And.intro ?_ ?_ | exact DLead.same | exact DLead.eqI (by omega) | exact DLead.nil | exact rfl | refine ⟨_, _, rfl, rfl, ?_⟩ | refine ⟨_, rfl, ?_⟩ | refine ⟨_, _, rfl, ?_, ?_⟩)) (by rw [e]; repeat (first | exact True.intro | refine And.intro ?_ ?_ | exact DLead.same | exact DLead.eqI (by omega) | exact DLead.nil | exact rfl | refine ⟨_, _, rfl, rfl, ?_⟩ | refine ⟨_, rfl, ?_⟩ | refine ⟨_, _, rfl, ?_, ?_⟩)) rfl rfl rfl⟩)
          · refine AC.seq ?_
            refine AC.region ?_
            refine AL.p (by first | exact as1 rfl | exact as2 rfl | exact as3 rfl | exact as4 rfl | exact as5 rfl | exact as6 rfl | exact as7 rfl | exact as8 rfl | exact as9 rfl) rfl ?_
            refine AL.p (by first | exact as1 rfl | exact as2 rfl | exact as3 rfl | exact as4 rfl | exact as5 rfl | exact as6 rfl | exact as7 rfl | exact as8 rfl | exact as9 rfl) rfl ?_
            refine AL.nil ?_
            refine th_n ?_
            refine AC.ret ?_
            refine ib_r ?_
            refine ib_r ?_
            refine th_r ?_
            refine th_r ?_
            refine ib_r ?_
            refine th_r ?_
            refine bq_r ?_
            have hb : mtAt a b k = none := by unfold mtAt at1; rw [if_neg (by omega), if_neg (by omega)]
            rw [meetI_no hk1 hb]
            exact ret0 rfl (by repeat (first | exact True.intro | refine And.intro ?_ ?_ | exact DLead.same | exact DLead.eqI (by omega) | exact DLead.nil | exact rfl | refine ⟨_, _, rfl, rfl, ?_⟩ | refine ⟨_, rfl, ?_⟩ | refine ⟨_, _, rfl, ?_, ?_⟩))
    · refine AC.exit ?_
      refine th_e ?_
      refine th_e ?_
      refine ib_y ?_
      refine th_n ?_
      refine AC.seq ?_
      have hkk : k = a.length := by omega
      subst hkk
      refine AC.region ?_
      refine AL.p (by first | exact mv1 rfl | exact mv2 rfl | exact mv3 rfl | exact mv4 rfl | exact mv5 rfl | exact mv6 rfl | exact mv7 rfl | exact mv8 rfl | exact mv9 rfl) rfl ?_
      refine AL.p (by exact g_strOfBytes (l := meetV a b a.length) rfl rfl rfl rfl rfl rfl (meetV_len a b a.length).symm) rfl ?_
      refine AL.p (by first | exact as1 rfl | exact as2 rfl | exact as3 rfl | exact as4 rfl | exact as5 rfl | exact as6 rfl | exact as7 rfl | exact as8 rfl | exact as9 rfl) rfl ?_
      refine AL.p (by first | exact as1 rfl | exact as2 rfl | exact as3 rfl | exact as4 rfl | exact as5 rfl | exact as6 rfl | exact as7 rfl | exact as8 rfl | exact as9 rfl) rfl ?_
      refine AL.nil ?_
      refine th_n ?_
      refine AC.ret ?_
      refine bq_r ?_
      rw [meetI_yes hall]
      exact ret0 rfl (by repeat (first | exact True.intro | refine And.intro ?_ ?_ | exact DLead.same | exact DLead.eqI (by omega) | exact DLead.nil | exact rfl | refine ⟨_, _, rfl, rfl, ?_⟩ | refine ⟨_, rfl, ?_⟩ | refine ⟨_, _, rfl, ?_, ?_⟩))
theorem en_intersected : Enters Try.prog 20 := enters_of Try.func20 rfl rfl
theorem cut1 {a : List UInt8} {k : Nat} (hk : k < a.length) : (bstr a).extract k (k + 1) = bstr [a.getD k 0] := by
  rw [bstr_cut a (by omega) (by omega), List.take_add_one, List.getElem?_eq_getElem hk]
  congr 1
  rw [List.drop_append_of_le_length (by rw [List.length_take]; omega), List.drop_eq_nil_of_le (by rw [List.length_take]; omega)]
  simp [List.getD_eq_getElem?_getD, List.getElem?_eq_getElem hk]
set_option maxHeartbeats 1000000 in
theorem l13Meet_spec (a b : List UInt8) (ha : a.length ≤ 2000000) (hl : b.length = a.length) : ASpec Try.prog 22 [aS (bstr a), aS (bstr b)] [] (Pure1 (.tup [aS (bstr (meetI a b).1), aT (meetI a b).2])) := by
  have hsz := bstr_size a
  have hszb := bstr_size b
  refine ASpec.of Try.func22 rfl rfl fun C hC => ?_
  refine AC.seq ?_
  refine AC.region ?_
  refine AL.p (by first | exact as1 rfl | exact as2 rfl | exact as3 rfl | exact as4 rfl | exact as5 rfl | exact as6 rfl | exact as7 rfl | exact as8 rfl | exact as9 rfl) rfl ?_
  refine AL.p (by first | exact as1 rfl | exact as2 rfl | exact as3 rfl | exact as4 rfl | exact as5 rfl | exact as6 rfl | exact as7 rfl | exact as8 rfl | exact as9 rfl) rfl ?_
  refine AL.nil ?_
  refine th_n ?_
  refine AC.seq ?_
  refine AC.region ?_
  refine AL.p (by first | exact as1 rfl | exact as2 rfl | exact as3 rfl | exact as4 rfl | exact as5 rfl | exact as6 rfl | exact as7 rfl | exact as8 rfl | exact as9 rfl) rfl ?_
  refine AL.nil ?_
  refine th_n ?_
  refine AC.seq ?_
  refine AC.seq ?_
  refine AC.region ?_
  refine AL.p (by first | exact as1 rfl | exact as2 rfl | exact as3 rfl | exact as4 rfl | exact as5 rfl | exact as6 rfl | exact as7 rfl | exact as8 rfl | exact as9 rfl) rfl ?_
  refine AL.nil ?_
  refine th_n ?_
  refine AC.block ?_
  refine AC.loop (ι := Nat) (fun k => ⟨48, 108, [(0, aS (bstr a)), (1, aS (bstr b)), (6, aS (bstr (meetV a b k))), (7, aI k)], []⟩) (fun k => k ≤ a.length ∧ ∀ j, j < k → (mtAt a b j).isSome = true) (fun k => a.length - k) (0) ?_ (⟨Nat.zero_le _, fun j hj => by omega⟩) ?_
  · refine Weak.ren _ [] hC rfl ?_ ?_ rfl rfl rfl <;> repeat (first | exact True.intro | refine And.intro ?_ ?_ | exact DLead.same | exact DLead.eqI (by omega) | exact DLead.nil | exact rfl)
  · intro k ⟨hk, hall⟩
    refine AC.seq ?_
    refine AC.seq ?_
    refine AC.region ?_
    refine AL.p (by first | exact mv1 rfl | exact mv2 rfl | exact mv3 rfl | exact mv4 rfl | exact mv5 rfl | exact mv6 rfl | exact mv7 rfl | exact mv8 rfl | exact mv9 rfl) rfl ?_
    refine AL.p (by first | exact mv1 rfl | exact mv2 rfl | exact mv3 rfl | exact mv4 rfl | exact mv5 rfl | exact mv6 rfl | exact mv7 rfl | exact mv8 rfl | exact mv9 rfl) rfl ?_
    refine AL.p (by exact g_len_str (k := a.length) rfl rfl hsz) rfl ?_
    refine AL.p (by first | exact g_cmp rfl rfl rfl | exact g_scmp rfl rfl rfl | exact g_eqB rfl rfl rfl | exact g_neB rfl rfl rfl) rfl ?_
    refine AL.nil ?_
    refine th_n ?_
    first | refine AC.condD rfl (fun h0 => ?_) (fun h0 => ?_) | refine AC.condND rfl (fun h0 => ?_) (fun h0 => ?_) | refine AC.condB rfl (fun h0 => ?_) (fun h0 => ?_) | refine AC.condNB rfl (fun h0 => ?_) (fun h0 => ?_)
    · refine AC.skip ?_
      refine th_n ?_
      refine AC.seq ?_
      refine AC.block ?_
      refine AC.block ?_
      refine AC.seq ?_
      have hk1 : k < a.length := by omega
      have hga : (bstr a).data.toList[k]? = some (a.getD k 0) := bstr_getD hk1
      have hgb : (bstr b).data.toList[k]? = some (b.getD k 0) := bstr_getD (by omega)
      have hml : (bstr (meetV a b k)).size = k := by rw [bstr_size, meetV_len]
      have hKJ : (k : Int) + 1 = ((k + 1 : Nat) : Int) := by omega
      have hs1 : ∀ x : UInt8, (bstr [x]).size = 1 := fun x => bstr_size _
      refine AC.drawn' mixed_ok [[], [], [0,1], [], [], [3,4], [0,1,2,3,4,5], [0,1,2,3,4,5,6], [0,1,2,3,4,5,6,7], [0,1,2,3,4,5,6,7], [0,1,2,3,4,5,6,7,8,9], [0,1,2,3,4,5,6,7,8,9,10], [0,1,2,3,4,5,6,7,8,9,10,11], [0,1,2,3,4,5,6,7,8,9,10,11,12]] (by decide) ?_
      refine DF.op 0 [] 14 rfl rfl rfl (.free rfl (NOp.of (by first | exact mv1 rfl | exact mv2 rfl | exact mv3 rfl | exact mv4 rfl | exact mv5 rfl | exact mv6 rfl | exact mv7 rfl | exact mv8 rfl | exact mv9 rfl))) rfl ?_
      refine DF.op 1 [] 14 rfl rfl rfl (.free rfl (NOp.of (by first | exact mv1 rfl | exact mv2 rfl | exact mv3 rfl | exact mv4 rfl | exact mv5 rfl | exact mv6 rfl | exact mv7 rfl | exact mv8 rfl | exact mv9 rfl))) rfl ?_
      refine DF.op 2 [0,1] 14 rfl rfl rfl (.free rfl (NOp.of (by exact g_index rfl rfl rfl (by first | rfl | assumption) (by assumption)))) rfl ?_
      refine DF.op 3 [] 14 rfl rfl rfl (.free rfl (NOp.of (by first | exact mv1 rfl | exact mv2 rfl | exact mv3 rfl | exact mv4 rfl | exact mv5 rfl | exact mv6 rfl | exact mv7 rfl | exact mv8 rfl | exact mv9 rfl))) rfl ?_
      refine DF.op 4 [] 14 rfl rfl rfl (.free rfl (NOp.of (by first | exact mv1 rfl | exact mv2 rfl | exact mv3 rfl | exact mv4 rfl | exact mv5 rfl | exact mv6 rfl | exact mv7 rfl | exact mv8 rfl | exact mv9 rfl))) rfl ?_
      refine DF.op 5 [3,4] 14 rfl rfl rfl (.free rfl (NOp.of (by exact g_index rfl rfl rfl (by first | rfl | assumption) (by assumption)))) rfl ?_
      refine DF.op 6 [0,1,2,3,4,5] 14 rfl rfl rfl (.free rfl (NOp.of (by first | exact g_cmp rfl rfl rfl | exact g_scmp rfl rfl rfl | exact g_eqB rfl rfl rfl | exact g_neB rfl rfl rfl))) rfl ?_
      refine DF.op 7 [0,1,2,3,4,5,6] 14 rfl rfl rfl (.free rfl (NOp.of (by first | exact mv1 rfl | exact mv2 rfl | exact mv3 rfl | exact mv4 rfl | exact mv5 rfl | exact mv6 rfl | exact mv7 rfl | exact mv8 rfl | exact mv9 rfl))) rfl ?_
      first | refine DF.caseD 7 rfl (fun h1 => ?_) (fun h1 => ?_) | refine DF.caseB 7 rfl (fun h1 => ?_) (fun h1 => ?_)
      · refine DF.op (ids := []) 8 [0,1,2,3,4,5,6,7] 14 rfl rfl rfl (.no rfl rfl rfl rfl rfl rfl) rfl ?_
        refine DF.op (ids := []) 9 [0,1,2,3,4,5,6,7] 14 rfl rfl rfl (.no rfl rfl rfl rfl rfl rfl) rfl ?_
        refine DF.op (ids := []) 10 [0,1,2,3,4,5,6,7,8,9] 14 rfl rfl rfl (.no rfl rfl rfl rfl rfl rfl) rfl ?_
        refine DF.op (ids := []) 11 [0,1,2,3,4,5,6,7,8,9,10] 14 rfl rfl rfl (.no rfl rfl rfl rfl rfl rfl) rfl ?_
        refine DF.op 12 [0,1,2,3,4,5,6,7,8,9,10,11] 14 rfl rfl rfl (.free rfl (NOp.of (by first | exact g_pickT (r := .d _) rfl rfl | exact g_pickF (r := .d _) rfl rfl))) rfl ?_
        refine DF.op 13 [0,1,2,3,4,5,6,7,8,9,10,11,12] 14 rfl rfl rfl (.free rfl (NOp.of (by first | exact as1 rfl | exact as2 rfl | exact as3 rfl | exact as4 rfl | exact as5 rfl | exact as6 rfl | exact as7 rfl | exact as8 rfl | exact as9 rfl))) rfl ?_
        refine DF.fin (ps := [(0, 1), (0, 3), (0, 4), (0, 5), (1, 0), (1, 3), (1, 4), (1, 5), (2, 3), (2, 4), (2, 5), (3, 0), (3, 1), (3, 2), (3, 4), (4, 0), (4, 1), (4, 2), (4, 3), (5, 0), (5, 1), (5, 2), (8, 9), (9, 8)]) 14 rfl (by decide +kernel) (by decide +kernel) (by rfl) ?_
        refine th_n ?_
        refine AC.condT rfl ?_
        refine AC.region ?_
        refine AL.p (by first | exact mv1 rfl | exact mv2 rfl | exact mv3 rfl | exact mv4 rfl | exact mv5 rfl | exact mv6 rfl | exact mv7 rfl | exact mv8 rfl | exact mv9 rfl) rfl ?_
        refine AL.p (by first | exact mv1 rfl | exact mv2 rfl | exact mv3 rfl | exact mv4 rfl | exact mv5 rfl | exact mv6 rfl | exact mv7 rfl | exact mv8 rfl | exact mv9 rfl) rfl ?_
        refine AL.p (by first | exact mv1 rfl | exact mv2 rfl | exact mv3 rfl | exact mv4 rfl | exact mv5 rfl | exact mv6 rfl | exact mv7 rfl | exact mv8 rfl | exact mv9 rfl) rfl ?_
        refine AL.p (by first | exact mv1 rfl | exact mv2 rfl | exact mv3 rfl | exact mv4 rfl | exact mv5 rfl | exact mv6 rfl | exact mv7 rfl | exact mv8 rfl | exact mv9 rfl) rfl ?_
        refine AL.p (by first | exact g_arith rfl rfl rfl (by first | exact wrap_i64 (by omega) | exact wrap_u8 (by omega) | exact wrap_u64 (by omega) | rfl) | exact g_sadd rfl rfl (by first | assumption | omega | (simp only [ByteArray.size_append, bstr_size, List.length_take, List.length_drop, List.length_cons, List.length_nil]; omega))) rfl ?_
        refine AL.p (by exact g_slice_str (l := k) (h := k + 1) rfl rfl (.some rfl rfl) (.some rfl hKJ) (by omega) (by omega) (cut1 hk1)) rfl ?_
        refine AL.p (by exact g_sadd rfl rfl (by rw [hml, hs1]; omega)) rfl ?_
        refine AL.p (by first | exact as1 rfl | exact as2 rfl | exact as3 rfl | exact as4 rfl | exact as5 rfl | exact as6 rfl | exact as7 rfl | exact as8 rfl | exact as9 rfl) rfl ?_
        refine AL.nil ?_
        refine ib_n ?_
        refine ib_n ?_
        refine th_n ?_
        refine AC.region ?_
        refine AL.p (by first | exact mv1 rfl | exact mv2 rfl | exact mv3 rfl | exact mv4 rfl | exact mv5 rfl | exact mv6 rfl | exact mv7 rfl | exact mv8 rfl | exact mv9 rfl) rfl ?_
        refine AL.p (by first | exact g_arith rfl rfl rfl (by first | exact wrap_i64 (by omega) | exact wrap_u8 (by omega) | exact wrap_u64 (by omega) | rfl) | exact g_sadd rfl rfl (by first | assumption | omega | (simp only [ByteArray.size_append, bstr_size, List.length_take, List.length_drop, List.length_cons, List.length_nil]; omega))) rfl ?_
        refine AL.p (by first | exact as1 rfl | exact as2 rfl | exact as3 rfl | exact as4 rfl | exact as5 rfl | exact as6 rfl | exact as7 rfl | exact as8 rfl | exact as9 rfl) rfl ?_
        refine AL.nil ?_
        refine th_n ?_
        first | (have hb := sm_a1 h1; have e : bstr (meetV a b (k + 1)) = bstr (meetV a b k) ++ bstr [a.getD k 0] := (by rw [meetV_on hb, bstr_append]); exact ⟨k + 1, ⟨by omega, meet_more hall hb⟩, by omega, Weak.ren _ [] hC rfl (by rw [e]; repeat (first | exact True.intro | refine And.intro ?_ ?_ | exact DLead.same | exact DLead.eqI (by omega) | exact DLead.nil | exact rfl | refine ⟨_, _, rfl, rfl, ?_⟩ | refine ⟨_, rfl, ?_⟩ | refine ⟨_, _, rfl, ?_, ?_⟩)) (by repeat (first | exact True.intro | refine And.intro ?_ ?_ | exact DLead.same | exact DLead.eqI (by omega) | exact DLead.nil | exact rfl | refine ⟨_, _, rfl, rfl, ?_⟩ | refine ⟨_, rfl, ?_⟩ | refine ⟨_, _, rfl, ?_, ?_⟩)) rfl rfl rfl⟩) | (have hb := sm_b h1 h2 h3; have e : bstr (meetV a b (k + 1)) = bstr (meetV a b k) ++ bstr [b.getD k 0] := (by rw [meetV_on hb, bstr_append]); exact ⟨k + 1, ⟨by omega, meet_more hall hb⟩, by omega, Weak.ren _ [] hC rfl (by rw [e]; repeat (first | exact True.intro | refine And.intro ?_ ?_ | exact DLead.same | exact DLead.eqI (by omega) | exact DLead.nil | exact rfl | refine ⟨_, _, rfl, rfl, ?_⟩ | refine ⟨_, rfl, ?_⟩ | refine ⟨_, _, rfl, ?_, ?_⟩)) (by repeat (first | exact True.intro | refine And.intro ?_ ?_ | exact DLead.same | exact DLead.eqI (by omega) | exact DLead.nil | exact rfl | refine ⟨_, _, rfl, rfl, ?_⟩ | refine ⟨_, rfl, ?_⟩ | refine ⟨_, _, rfl, ?_, ?_⟩)) rfl rfl rfl⟩) | (have hb := sm_a2 (a := a) h2; have e : bstr (meetV a b (k + 1)) = bstr (meetV a b k) ++ bstr [a.getD k 0] := (by rw [meetV_on hb, bstr_append]); exact ⟨k + 1, ⟨by omega, meet_more hall hb⟩, by omega, Weak.ren _ [] hC rfl (by rw [e]; repeat (first | exact True.intro | refine And.intro ?_ ?_ | exact DLead.same | exact DLead.eqI (by omega) | exact DLead.nil | exact rfl | refine ⟨_, _, rfl, rfl, ?_⟩ | refine ⟨_, rfl, ?_⟩ | refine ⟨_, _, rfl, ?_, ?_⟩)) (by repeat (first | exact True.intro | refine And.intro ?_ ?_ | exact DLead.same | exact DLead.eqI (by omega) | exact DLead.nil | exact rfl | refine ⟨_, _, rfl, rfl, ?_⟩ | refine ⟨_, rfl, ?_⟩ | refine ⟨_, _, rfl, ?_, ?_⟩)) rfl rfl rfl⟩)
      · refine DF.op 8 [0,1,2,3,4,5,6,7] 14 rfl rfl rfl (.yes rfl rfl rfl rfl (NOp.of (by first | exact mv1 rfl | exact mv2 rfl | exact mv3 rfl | exact mv4 rfl | exact mv5 rfl | exact mv6 rfl | exact mv7 rfl | exact mv8 rfl | exact mv9 rfl))) rfl ?_
        refine DF.op 9 [0,1,2,3,4,5,6,7] 14 rfl rfl rfl (.yes rfl rfl rfl rfl (NOp.of (by first | exact mv1 rfl | exact mv2 rfl | exact mv3 rfl | exact mv4 rfl | exact mv5 rfl | exact mv6 rfl | exact mv7 rfl | exact mv8 rfl | exact mv9 rfl))) rfl ?_
        refine DF.op 10 [0,1,2,3,4,5,6,7,8,9] 14 rfl rfl rfl (.yes rfl rfl rfl rfl (NOp.of (by exact g_index rfl rfl rfl (by first | rfl | assumption) (by assumption)))) rfl ?_
        refine DF.op 11 [0,1,2,3,4,5,6,7,8,9,10] 14 rfl rfl rfl (.yes rfl rfl rfl rfl (NOp.of (by first | exact g_cmp rfl rfl rfl | exact g_scmp rfl rfl rfl | exact g_eqB rfl rfl rfl | exact g_neB rfl rfl rfl))) rfl ?_
        refine DF.op 12 [0,1,2,3,4,5,6,7,8,9,10,11] 14 rfl rfl rfl (.free rfl (NOp.of (by first | exact g_pickT (r := .d _) rfl rfl | exact g_pickF (r := .d _) rfl rfl))) rfl ?_
        refine DF.op 13 [0,1,2,3,4,5,6,7,8,9,10,11,12] 14 rfl rfl rfl (.free rfl (NOp.of (by first | exact as1 rfl | exact as2 rfl | exact as3 rfl | exact as4 rfl | exact as5 rfl | exact as6 rfl | exact as7 rfl | exact as8 rfl | exact as9 rfl))) rfl ?_
        refine DF.fin (ps := [(0, 1), (0, 3), (0, 4), (0, 5), (1, 0), (1, 3), (1, 4), (1, 5), (2, 3), (2, 4), (2, 5), (3, 0), (3, 1), (3, 2), (3, 4), (4, 0), (4, 1), (4, 2), (4, 3), (5, 0), (5, 1), (5, 2), (8, 9), (9, 8)]) 14 rfl (by decide +kernel) (by decide +kernel) (by rfl) ?_
        refine th_n ?_
        first | refine AC.condD rfl (fun h2 => ?_) (fun h2 => ?_) | refine AC.condND rfl (fun h2 => ?_) (fun h2 => ?_) | refine AC.condB rfl (fun h2 => ?_) (fun h2 => ?_) | refine AC.condNB rfl (fun h2 => ?_) (fun h2 => ?_)
        · refine AC.region ?_
          refine AL.p (by first | exact mv1 rfl | exact mv2 rfl | exact mv3 rfl | exact mv4 rfl | exact mv5 rfl | exact mv6 rfl | exact mv7 rfl | exact mv8 rfl | exact mv9 rfl) rfl ?_
          refine AL.p (by first | exact mv1 rfl | exact mv2 rfl | exact mv3 rfl | exact mv4 rfl | exact mv5 rfl | exact mv6 rfl | exact mv7 rfl | exact mv8 rfl | exact mv9 rfl) rfl ?_
          refine AL.p (by first | exact mv1 rfl | exact mv2 rfl | exact mv3 rfl | exact mv4 rfl | exact mv5 rfl | exact mv6 rfl | exact mv7 rfl | exact mv8 rfl | exact mv9 rfl) rfl ?_
          refine AL.p (by first | exact mv1 rfl | exact mv2 rfl | exact mv3 rfl | exact mv4 rfl | exact mv5 rfl | exact mv6 rfl | exact mv7 rfl | exact mv8 rfl | exact mv9 rfl) rfl ?_
          refine AL.p (by first | exact g_arith rfl rfl rfl (by first | exact wrap_i64 (by omega) | exact wrap_u8 (by omega) | exact wrap_u64 (by omega) | rfl) | exact g_sadd rfl rfl (by first | assumption | omega | (simp only [ByteArray.size_append, bstr_size, List.length_take, List.length_drop, List.length_cons, List.length_nil]; omega))) rfl ?_
          refine AL.p (by exact g_slice_str (l := k) (h := k + 1) rfl rfl (.some rfl rfl) (.some rfl hKJ) (by omega) (by omega) (cut1 hk1)) rfl ?_
          refine AL.p (by exact g_sadd rfl rfl (by rw [hml, hs1]; omega)) rfl ?_
          refine AL.p (by first | exact as1 rfl | exact as2 rfl | exact as3 rfl | exact as4 rfl | exact as5 rfl | exact as6 rfl | exact as7 rfl | exact as8 rfl | exact as9 rfl) rfl ?_
          refine AL.nil ?_
          refine ib_n ?_
          refine ib_n ?_
          refine th_n ?_
          refine AC.region ?_
          refine AL.p (by first | exact mv1 rfl | exact mv2 rfl | exact mv3 rfl | exact mv4 rfl | exact mv5 rfl | exact mv6 rfl | exact mv7 rfl | exact mv8 rfl | exact mv9 rfl) rfl ?_
          refine AL.p (by first | exact g_arith rfl rfl rfl (by first | exact wrap_i64 (by omega) | exact wrap_u8 (by omega) | exact wrap_u64 (by omega) | rfl) | exact g_sadd rfl rfl (by first | assumption | omega | (simp only [ByteArray.size_append, bstr_size, List.length_take, List.length_drop, List.length_cons, List.length_nil]; omega))) rfl ?_
          refine AL.p (by first | exact as1 rfl | exact as2 rfl | exact as3 rfl | exact as4 rfl | exact as5 rfl | exact as6 rfl | exact as7 rfl | exact as8 rfl | exact as9 rfl) rfl ?_
          refine AL.nil ?_
          refine th_n ?_
          first | (have hb := sm_a1 h1; have e : bstr (meetV a b (k + 1)) = bstr (meetV a b k) ++ bstr [a.getD k 0] := (by rw [meetV_on hb, bstr_append]); exact ⟨k + 1, ⟨by omega, meet_more hall hb⟩, by omega, Weak.ren _ [] hC rfl (by rw [e]; repeat (first | exact True.intro | refine And.intro ?_ ?_ | exact DLead.same | exact DLead.eqI (by omega) | exact DLead.nil | exact rfl | refine ⟨_, _, rfl, rfl, ?_⟩ | refine ⟨_, rfl, ?_⟩ | refine ⟨_, _, rfl, ?_, ?_⟩)) (by repeat (first | exact True.intro | refine And.intro ?_ ?_ | exact DLead.same | exact DLead.eqI (by omega) | exact DLead.nil | exact rfl | refine ⟨_, _, rfl, rfl, ?_⟩ | refine ⟨_, rfl, ?_⟩ | refine ⟨_, _, rfl, ?_, ?_⟩)) rfl rfl rfl⟩) | (have hb := sm_b h1 h2 h3; have e : bstr (meetV a b (k + 1)) = bstr (meetV a b k) ++ bstr [b.getD k 0] := (by rw [meetV_on hb, bstr_append]); exact ⟨k + 1, ⟨by omega, meet_more hall hb⟩, by omega, Weak.ren _ [] hC rfl (by rw [e]; repeat (first | exact True.intro | refine And.intro ?_ ?_ | exact DLead.same | exact DLead.eqI (by omega) | exact DLead.nil | exact rfl | refine ⟨_, _, rfl, rfl, ?_⟩ | refine ⟨_, rfl, ?_⟩ | refine ⟨_, _, rfl, ?_, ?_⟩)) (by repeat (first | exact True.intro | refine And.intro ?_ ?_ | exact DLead.same | exact DLead.eqI (by omega) | exact DLead.nil | exact rfl | refine ⟨_, _, rfl, rfl, ?_⟩ | refine ⟨_, rfl, ?_⟩ | refine ⟨_, _, rfl, ?_, ?_⟩)) rfl rfl rfl⟩) | (have hb := sm_a2 (a := a) h2; have e : bstr (meetV a b (k + 1)) = bstr (meetV a b k) ++ bstr [a.getD k 0] := (by rw [meetV_on hb, bstr_append]); exact ⟨k + 1, ⟨by omega, meet_more hall hb⟩, by omega, Weak.ren _ [] hC rfl (by rw [e]; repeat (first | exact True.intro | refine And.intro ?_ ?_ | exact DLead.same | exact DLead.eqI (by omega) | exact DLead.nil | exact rfl | refine ⟨_, _, rfl, rfl, ?_⟩ | refine ⟨_, rfl, ?_⟩ | refine ⟨_, _, rfl, ?_, ?_⟩)) (by repeat (first | exact True.intro | refine And.intro ?_ ?_ | exact DLead.same | exact DLead.eqI (by omega) | exact DLead.nil | exact rfl | refine ⟨_, _, rfl, rfl, ?_⟩ | refine ⟨_, rfl, ?_⟩ | refine ⟨_, _, rfl, ?_, ?_⟩)) rfl rfl rfl⟩)
        · refine AC.seq ?_
          refine AC.region ?_
          refine AL.p (by first | exact mv1 rfl | exact mv2 rfl | exact mv3 rfl | exact mv4 rfl | exact mv5 rfl | exact mv6 rfl | exact mv7 rfl | exact mv8 rfl | exact mv9 rfl) rfl ?_
          refine AL.p (by first | exact mv1 rfl | exact mv2 rfl | exact mv3 rfl | exact mv4 rfl | exact mv5 rfl | exact mv6 rfl | exact mv7 rfl | exact mv8 rfl | exact mv9 rfl) rfl ?_
          refine AL.p (by exact g_index rfl rfl rfl (by first | rfl | assumption) (by assumption)) rfl ?_
          refine AL.p (by first | exact g_cmp rfl rfl rfl | exact g_scmp rfl rfl rfl | exact g_eqB rfl rfl rfl | exact g_neB rfl rfl rfl) rfl ?_
          refine AL.p (by first | exact as1 rfl | exact as2 rfl | exact as3 rfl | exact as4 rfl | exact as5 rfl | exact as6 rfl | exact as7 rfl | exact as8 rfl | exact as9 rfl) rfl ?_
          refine AL.nil ?_
          refine th_n ?_
          first | refine AC.condD rfl (fun h3 => ?_) (fun h3 => ?_) | refine AC.condND rfl (fun h3 => ?_) (fun h3 => ?_) | refine AC.condB rfl (fun h3 => ?_) (fun h3 => ?_) | refine AC.condNB rfl (fun h3 => ?_) (fun h3 => ?_)
          · refine AC.region ?_
            refine AL.p (by first | exact mv1 rfl | exact mv2 rfl | exact mv3 rfl | exact mv4 rfl | exact mv5 rfl | exact mv6 rfl | exact mv7 rfl | exact mv8 rfl | exact mv9 rfl) rfl ?_
            refine AL.p (by first | exact mv1 rfl | exact mv2 rfl | exact mv3 rfl | exact mv4 rfl | exact mv5 rfl | exact mv6 rfl | exact mv7 rfl | exact mv8 rfl | exact mv9 rfl) rfl ?_
            refine AL.p (by first | exact mv1 rfl | exact mv2 rfl | exact mv3 rfl | exact mv4 rfl | exact mv5 rfl | exact mv6 rfl | exact mv7 rfl | exact mv8 rfl | exact mv9 rfl) rfl ?_
            refine AL.p (by first | exact mv1 rfl | exact mv2 rfl | exact mv3 rfl | exact mv4 rfl | exact mv5 rfl | exact mv6 rfl | exact mv7 rfl | exact mv8 rfl | exact mv9 rfl) rfl ?_
            refine AL.p (by first | exact g_arith rfl rfl rfl (by first | exact wrap_i64 (by omega) | exact wrap_u8 (by omega) | exact wrap_u64 (by omega) | rfl) | exact g_sadd rfl rfl (by first | assumption | omega | (simp only [ByteArray.size_append, bstr_size, List.length_take, List.length_drop, List.length_cons, List.length_nil]; omega))) rfl ?_
            refine AL.p (by exact g_slice_str (l := k) (h := k + 1) rfl rfl (.some rfl rfl) (.some rfl hKJ) (by omega) (by omega) (cut1 (by omega))) rfl ?_
            refine AL.p (by exact g_sadd rfl rfl (by rw [hml, hs1]; omega)) rfl ?_
            refine AL.p (by first | exact as1 rfl | exact as2 rfl | exact as3 rfl | exact as4 rfl | exact as5 rfl | exact as6 rfl | exact as7 rfl | exact as8 rfl | exact as9 rfl) rfl ?_
            refine AL.nil ?_
            refine ib_n ?_
            refine ib_n ?_
            refine th_n ?_
            refine AC.region ?_
            refine AL.p (by first | exact mv1 rfl | exact mv2 rfl | exact mv3 rfl | exact mv4 rfl | exact mv5 rfl | exact mv6 rfl | exact mv7 rfl | exact mv8 rfl | exact mv9 rfl) rfl ?_
            refine AL.p (by first | exact g_arith rfl rfl rfl (by first | exact wrap_i64 (by omega) | exact wrap_u8 (by omega) | exact wrap_u64 (by omega) | rfl) | exact g_sadd rfl rfl (by first | assumption | omega | (simp only [ByteArray.size_append, bstr_size, List.length_take, List.length_drop, List.length_cons, List.length_nil]; omega))) rfl ?_
            refine AL.p (by first | exact as1 rfl | exact as2 rfl | exact as3 rfl | exact as4 rfl | exact as5 rfl | exact as6 rfl | exact as7 rfl | exact as8 rfl | exact as9 rfl) rfl ?_
            refine AL.nil ?_
            refine th_n ?_
            first | (have hb := sm_a1 h1; have e : bstr (meetV a b (k + 1)) = bstr (meetV a b k) ++ bstr [a.getD k 0] := (by rw [meetV_on hb, bstr_append]); exact ⟨k + 1, ⟨by omega, meet_more hall hb⟩, by omega, Weak.ren _ [] hC rfl (by rw [e]; repeat (first | exact True.intro | refine And.intro ?_ ?_ | exact DLead.same | exact DLead.eqI (by omega) | exact DLead.nil | exact rfl | refine ⟨_, _, rfl, rfl, ?_⟩ | refine ⟨_, rfl, ?_⟩ | refine ⟨_, _, rfl, ?_, ?_⟩)) (by repeat (first | exact True.intro | refine And.intro ?_ ?_ | exact DLead.same | exact DLead.eqI (by omega) | exact DLead.nil | exact rfl | refine ⟨_, _, rfl, rfl, ?_⟩ | refine ⟨_, rfl, ?_⟩ | refine ⟨_, _, rfl, ?_, ?_⟩)) rfl rfl rfl⟩) | (have hb := sm_b h1 h2 h3; have e : bstr (meetV a b (k + 1)) = bstr (meetV a b k) ++ bstr [b.getD k 0] := (by rw [meetV_on hb, bstr_append]); exact ⟨k + 1, ⟨by omega, meet_more hall hb⟩, by omega, Weak.ren _ [] hC rfl (by rw [e]; repeat (first | exact True.intro | refine And.intro ?_ ?_ | exact DLead.same | exact DLead.eqI (by omega) | exact DLead.nil | exact rfl | refine ⟨_, _, rfl, rfl, ?_⟩ | refine ⟨_, rfl, ?_⟩ | refine ⟨_, _, rfl, ?_, ?_⟩)) (by repeat (first | exact True.intro | refine And.intro ?_ ?_ | exact DLead.same | exact DLead.eqI (by omega) | exact DLead.nil | exact rfl | refine ⟨_, _, rfl, rfl, ?_⟩ | refine ⟨_, rfl, ?_⟩ | refine ⟨_, _, rfl, ?_, ?_⟩)) rfl rfl rfl⟩) | (have hb := sm_a2 (a := a) h2; have e : bstr (meetV a b (k + 1)) = bstr (meetV a b k) ++ bstr [a.getD k 0] := (by rw [meetV_on hb, bstr_append]); exact ⟨k + 1, ⟨by omega, meet_more hall hb⟩, by omega, Weak.ren _ [] hC rfl (by rw [e]; repeat (first | exact True.intro | refine And.intro ?_ ?_ | exact DLead.same | exact DLead.eqI (by omega) | exact DLead.nil | exact rfl | refine ⟨_, _, rfl, rfl, ?_⟩ | refine ⟨_, rfl, ?_⟩ | refine ⟨_, _, rfl, ?_, ?_⟩)) (by repeat (first | exact True.intro | refine And.intro ?_ ?_ | exact DLead.same | exact DLead.eqI (by omega) | exact DLead.nil | exact rfl | refine ⟨_, _, rfl, rfl, ?_⟩ | refine ⟨_, rfl, ?_⟩ | refine ⟨_, _, rfl, ?_, ?_⟩)) rfl rfl rfl⟩)
          · refine AC.seq ?_
            refine AC.region ?_
            refine AL.p (by first | exact as1 rfl | exact as2 rfl | exact as3 rfl | exact as4 rfl | exact as5 rfl | exact as6 rfl | exact as7 rfl | exact as8 rfl | exact as9 rfl) rfl ?_
            refine AL.p (by first | exact as1 rfl | exact as2 rfl | exact as3 rfl | exact as4 rfl | exact as5 rfl | exact as6 rfl | exact as7 rfl | exact as8 rfl | exact as9 rfl) rfl ?_
            refine AL.nil ?_
            refine th_n ?_
            refine AC.ret ?_
            refine ib_r ?_
            refine ib_r ?_
            refine th_r ?_
            refine th_r ?_
            refine ib_r ?_
            refine th_r ?_
            refine bq_r ?_
            have hb : mtAt a b k = none := by rw [mtAt_alt]; unfold at1; rw [if_neg (by omega), if_neg (by omega)]
            rw [meetI_no hk1 hb]
            exact ret0 rfl (by repeat (first | exact True.intro | refine And.intro ?_ ?_ | exact DLead.same | exact DLead.eqI (by omega) | exact DLead.nil | exact rfl | refine ⟨_, _, rfl, rfl, ?_⟩ | refine ⟨_, rfl, ?_⟩ | refine ⟨_, _, rfl, ?_, ?_⟩))
    · refine AC.exit ?_
      refine th_e ?_
      refine th_e ?_
      refine ib_y ?_
      refine th_n ?_
      refine AC.seq ?_
      refine AC.region ?_
      refine AL.p (by first | exact mv1 rfl | exact mv2 rfl | exact mv3 rfl | exact mv4 rfl | exact mv5 rfl | exact mv6 rfl | exact mv7 rfl | exact mv8 rfl | exact mv9 rfl) rfl ?_
      refine AL.p (by first | exact as1 rfl | exact as2 rfl | exact as3 rfl | exact as4 rfl | exact as5 rfl | exact as6 rfl | exact as7 rfl | exact as8 rfl | exact as9 rfl) rfl ?_
      refine AL.p (by first | exact as1 rfl | exact as2 rfl | exact as3 rfl | exact as4 rfl | exact as5 rfl | exact as6 rfl | exact as7 rfl | exact as8 rfl | exact as9 rfl) rfl ?_
      refine AL.nil ?_
      refine th_n ?_
      refine AC.ret ?_
      refine bq_r ?_
      have hkk : k = a.length := by omega
      subst hkk
      rw [meetI_yes hall]
      exact ret0 rfl (by repeat (first | exact True.intro | refine And.intro ?_ ?_ | exact DLead.same | exact DLead.eqI (by omega) | exact DLead.nil | exact rfl | refine ⟨_, _, rfl, rfl, ?_⟩ | refine ⟨_, rfl, ?_⟩ | refine ⟨_, _, rfl, ?_, ?_⟩))
theorem en_l13Meet : Enters Try.prog 22 := enters_of Try.func22 rfl rfl
end Go.Proofs.Ytochebmkfdfbhaa
