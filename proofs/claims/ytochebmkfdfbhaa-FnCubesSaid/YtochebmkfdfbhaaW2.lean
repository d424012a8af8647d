/- Walks: the cursor that draws. -/
import Derived.Test.YtochebmkfdfbhaaB9
import Derived.Test.YtochebmkfdfbhaaTy
set_option linter.all false
namespace Go.Proofs.Ytochebmkfdfbhaa
open Go.RowKit

/-- A cursor over bytes. -/
structure Cur where
  code : List UInt8
  pos : Nat
  seed : Int
abbrev bytesL (l : List UInt8) : List (List DV) := l.map fun b => [dB b]
abbrev vB (l : List UInt8) : DV := .view 5 1 (bytesL l)
abbrev curC (c : Cur) : Chunk := .cells 36 [.d (vB c.code), aI c.pos, .d (.val (.int .u64 c.seed))]
def cur0 (code : List UInt8) : Cur := ⟨code, 0, 0⟩
theorem bytes_get {l : List UInt8} {k : Nat} (h : k < l.length) : (bytesL l)[k]? = some [dB (l.getD k 0)] := by
  simp [bytesL, List.getElem?_map, List.getElem?_eq_getElem h, List.getD]
def Cur.byte (c : Cur) : Int := if c.pos < c.code.length then ((c.code.getD c.pos 0).toNat : Int) else 0
def Cur.turn (c : Cur) : Int := IntKind.u64.wrap (IntKind.u64.wrap (IntKind.u64.wrap (c.seed * 6364136223846793005) + c.byte) + 1442695040888963407)
def drawn (seed : Int) : Int := IntKind.i64.wrap (IntKind.u64.wrap (BitVec.ofInt 64 (seed.fdiv (2 ^ (min (40 : Int).toNat 64))) &&& BitVec.ofInt 64 255).toNat)
def Cur.after (c : Cur) : Cur := ⟨c.code, c.pos + 1, c.turn⟩
def Cur.next (c : Cur) : Int := if c.pos + 1 ≤ c.code.length then c.byte else drawn c.turn
theorem Cur.byte_in (c : Cur) : 0 ≤ c.byte ∧ c.byte ≤ 255 := by
  unfold Cur.byte
  split
  · have := (c.code.getD c.pos 0).toNat_lt; omega
  · omega

set_option maxHeartbeats 1000000 in
theorem next_spec (c : Cur) (hp : c.pos ≤ 1000000000000000) : ASpec Try.prog 38 [.ptr 0 0] [(0, curC c)] (Fun1 (aI c.next) [(0, curC c.after)]) := by
  refine ASpec.of Try.func38 rfl rfl fun C hC => ?_
  refine AC.seq ?_
  refine AC.region ?_
  refine AL.p (by first | exact as1 rfl | exact as2 rfl | exact as3 rfl | exact as4 rfl | exact as5 rfl | exact as6 rfl | exact as7 rfl | exact as8 rfl | exact as9 rfl) rfl ?_
  refine AL.nil ?_
  refine th_n ?_
  refine AC.seq ?_
  refine AC.region ?_
  refine AL.p (by first | exact as1 rfl | exact as2 rfl | exact as3 rfl | exact as4 rfl | exact as5 rfl | exact as6 rfl | exact as7 rfl | exact as8 rfl | exact as9 rfl) rfl ?_
  refine AL.nil ?_
  refine th_n ?_
  refine AC.cut (fun (_ : Unit) => ⟨62, 1, [(0, .ptr 0 0), (3, aI c.byte)], [(0, some (curC c))]⟩) (fun _ => True) ?_ ?_
  · refine AC.seq ?_
    refine AC.drawn' mixed_ok [[], [0], [0,1], [0,1,2], [], [4], [4,5], [4,5,6], [4,5,6,7], [0,1,2,3,4,5,6,7,8]] (by decide) ?_
    refine DF.op 0 [] 10 rfl rfl rfl (.free rfl (NOp.of (by first | exact mv1 rfl | exact mv2 rfl | exact mv3 rfl | exact mv4 rfl | exact mv5 rfl | exact mv6 rfl | exact mv7 rfl | exact mv8 rfl | exact mv9 rfl))) rfl ?_
    refine DF.op 1 [0] 10 rfl rfl rfl (.free rfl (NOp.of (by first | exact g_nilP rfl | exact g_nilR rfl))) rfl ?_
    refine DF.op 2 [0,1] 10 rfl rfl rfl (.free rfl (NOp.of (by first | exact g_fa_ref rfl rfl rfl rfl rfl rfl | exact g_fa_ptr rfl rfl rfl rfl rfl))) rfl ?_
    refine DF.op 3 [0,1,2] 10 rfl rfl rfl (.free rfl (NOp.of (by first | exact g_load_ref rfl rfl rfl | exact g_load_ptr rfl rfl rfl rfl rfl | exact g_load_refN rfl rfl rfl rfl | exact g_load_ptrN rfl rfl rfl rfl rfl | exact g_load_arr1 rfl rfl rfl rfl (by assumption) | exact g_load_arr rfl rfl rfl rfl (by first | rfl | omega) (by first | assumption | rfl) (by first | assumption | rfl)))) rfl ?_
    refine DF.op 4 [] 10 rfl rfl rfl (.free rfl (NOp.of (by first | exact mv1 rfl | exact mv2 rfl | exact mv3 rfl | exact mv4 rfl | exact mv5 rfl | exact mv6 rfl | exact mv7 rfl | exact mv8 rfl | exact mv9 rfl))) rfl ?_
    refine DF.op 5 [4] 10 rfl rfl rfl (.free rfl (NOp.of (by first | exact g_nilP rfl | exact g_nilR rfl))) rfl ?_
    refine DF.op 6 [4,5] 10 rfl rfl rfl (.free rfl (NOp.of (by first | exact g_fa_ref rfl rfl rfl rfl rfl rfl | exact g_fa_ptr rfl rfl rfl rfl rfl))) rfl ?_
    refine DF.op 7 [4,5,6] 10 rfl rfl rfl (.free rfl (NOp.of (by first | exact g_load_ref rfl rfl rfl | exact g_load_ptr rfl rfl rfl rfl rfl | exact g_load_refN rfl rfl rfl rfl | exact g_load_ptrN rfl rfl rfl rfl rfl | exact g_load_arr1 rfl rfl rfl rfl (by assumption) | exact g_load_arr rfl rfl rfl rfl (by first | rfl | omega) (by first | assumption | rfl) (by first | assumption | rfl)))) rfl ?_
    refine DF.op 8 [4,5,6,7] 10 rfl rfl rfl (.free rfl (NOp.of (by first | exact g_len_view rfl rfl (by first | exact List.length_map _ | rfl) | exact g_len_str rfl rfl rfl | exact g_len_nil rfl rfl | exact g_len_own (sz := 1) (els := []) (e' := 0) rfl rfl (by simp only [maxLen]; omega) | exact g_len_tight rfl rfl (by first | exact List.length_map _ | rfl)))) rfl ?_
    refine DF.op 9 [0,1,2,3,4,5,6,7,8] 10 rfl rfl rfl (.free rfl (NOp.of (by first | exact g_cmp rfl rfl rfl | exact g_scmp rfl rfl rfl | exact g_eqB rfl rfl rfl | exact g_neB rfl rfl rfl))) rfl ?_
    refine DF.fin (ps := [(0, 4), (0, 5), (0, 6), (0, 7), (0, 8), (1, 4), (1, 5), (1, 6), (1, 7), (1, 8), (2, 4), (2, 5), (2, 6), (2, 7), (2, 8), (3, 4), (3, 5), (3, 6), (3, 7), (3, 8), (4, 0), (4, 1), (4, 2), (4, 3), (5, 0), (5, 1), (5, 2), (5, 3), (6, 0), (6, 1), (6, 2), (6, 3), (7, 0), (7, 1), (7, 2), (7, 3), (8, 0), (8, 1), (8, 2), (8, 3)]) 10 rfl (by decide +kernel) (by decide +kernel) (by rfl) ?_
    refine th_n ?_
    first | refine AC.condD rfl (fun h0 => ?_) (fun h0 => ?_) | refine AC.condND rfl (fun h0 => ?_) (fun h0 => ?_) | refine AC.condB rfl (fun h0 => ?_) (fun h0 => ?_) | refine AC.condNB rfl (fun h0 => ?_) (fun h0 => ?_)
    · have hk : c.pos < c.code.length := by omega
      have hget : (bytesL c.code)[c.pos]? = some [dB (c.code.getD c.pos 0)] := bytes_get hk
      have hlt := (c.code.getD c.pos 0).toNat_lt
      refine AC.drawn' mixed_ok [[], [0], [0,1], [0,1,2], [], [4], [4,5], [4,5,6], [0,1,2,3,4,5,6,7], [0,1,2,3,4,5,6,7,8], [0,1,2,3,4,5,6,7,8,9], [0,1,2,3,4,5,6,7,8,9,10]] (by decide) ?_
      refine DF.op 0 [] 12 rfl rfl rfl (.free rfl (NOp.of (by first | exact mv1 rfl | exact mv2 rfl | exact mv3 rfl | exact mv4 rfl | exact mv5 rfl | exact mv6 rfl | exact mv7 rfl | exact mv8 rfl | exact mv9 rfl))) rfl ?_
      refine DF.op 1 [0] 12 rfl rfl rfl (.free rfl (NOp.of (by first | exact g_nilP rfl | exact g_nilR rfl))) rfl ?_
      refine DF.op 2 [0,1] 12 rfl rfl rfl (.free rfl (NOp.of (by first | exact g_fa_ref rfl rfl rfl rfl rfl rfl | exact g_fa_ptr rfl rfl rfl rfl rfl))) rfl ?_
      refine DF.op 3 [0,1,2] 12 rfl rfl rfl (.free rfl (NOp.of (by first | exact g_load_ref rfl rfl rfl | exact g_load_ptr rfl rfl rfl rfl rfl | exact g_load_refN rfl rfl rfl rfl | exact g_load_ptrN rfl rfl rfl rfl rfl | exact g_load_arr1 rfl rfl rfl rfl (by assumption) | exact g_load_arr rfl rfl rfl rfl (by first | rfl | omega) (by first | assumption | rfl) (by first | assumption | rfl)))) rfl ?_
      refine DF.op 4 [] 12 rfl rfl rfl (.free rfl (NOp.of (by first | exact mv1 rfl | exact mv2 rfl | exact mv3 rfl | exact mv4 rfl | exact mv5 rfl | exact mv6 rfl | exact mv7 rfl | exact mv8 rfl | exact mv9 rfl))) rfl ?_
      refine DF.op 5 [4] 12 rfl rfl rfl (.free rfl (NOp.of (by first | exact g_nilP rfl | exact g_nilR rfl))) rfl ?_
      refine DF.op 6 [4,5] 12 rfl rfl rfl (.free rfl (NOp.of (by first | exact g_fa_ref rfl rfl rfl rfl rfl rfl | exact g_fa_ptr rfl rfl rfl rfl rfl))) rfl ?_
      refine DF.op 7 [4,5,6] 12 rfl rfl rfl (.free rfl (NOp.of (by first | exact g_load_ref rfl rfl rfl | exact g_load_ptr rfl rfl rfl rfl rfl | exact g_load_refN rfl rfl rfl rfl | exact g_load_ptrN rfl rfl rfl rfl rfl | exact g_load_arr1 rfl rfl rfl rfl (by assumption) | exact g_load_arr rfl rfl rfl rfl (by first | rfl | omega) (by first | assumption | rfl) (by first | assumption | rfl)))) rfl ?_
      refine DF.op 8 [0,1,2,3,4,5,6,7] 12 rfl rfl rfl (.free rfl (NOp.of (by first | exact g_ia_view rfl rfl rfl rfl rfl (by first | rfl | assumption) (by first | assumption | rfl) | exact g_ia_own rfl rfl rfl rfl rfl (by first | rfl | assumption) (by omega) (by first | exact Nat.mul_one _ | rfl | omega)))) rfl ?_
      refine DF.op 9 [0,1,2,3,4,5,6,7,8] 12 rfl rfl rfl (.free rfl (NOp.of (by first | exact g_load_ref rfl rfl rfl | exact g_load_ptr rfl rfl rfl rfl rfl | exact g_load_refN rfl rfl rfl rfl | exact g_load_ptrN rfl rfl rfl rfl rfl | exact g_load_arr1 rfl rfl rfl rfl (by assumption) | exact g_load_arr rfl rfl rfl rfl (by first | rfl | omega) (by first | assumption | rfl) (by first | assumption | rfl)))) rfl ?_
      first | refine DF.op 10 [0,1,2,3,4,5,6,7,8,9] 12 rfl rfl rfl (.free rfl (NOp.of (by exact g_convI rfl rfl rfl (by first | exact wrap_i64 (by omega) | exact wrap_u8 (by omega) | exact wrap_u64 (by omega) | rfl)))) rfl ?_ | refine DF.op 10 [0,1,2,3,4,5,6,7,8,9] 12 rfl rfl rfl (.free rfl (NOp.of (by exact g_strOfBytes rfl rfl rfl rfl rfl rfl (by first | rfl | assumption | omega)))) rfl ?_ | refine DF.op 10 [0,1,2,3,4,5,6,7,8,9] 12 rfl rfl rfl (.free rfl (by exact h_bytesOfStr rfl rfl rfl rfl)) rfl ?_
      refine DF.op 11 [0,1,2,3,4,5,6,7,8,9,10] 12 rfl rfl rfl (.free rfl (NOp.of (by first | exact as1 rfl | exact as2 rfl | exact as3 rfl | exact as4 rfl | exact as5 rfl | exact as6 rfl | exact as7 rfl | exact as8 rfl | exact as9 rfl))) rfl ?_
      refine DF.fin (ps := [(0, 4), (0, 5), (0, 6), (0, 7), (1, 4), (1, 5), (1, 6), (1, 7), (2, 4), (2, 5), (2, 6), (2, 7), (3, 4), (3, 5), (3, 6), (3, 7), (4, 0), (4, 1), (4, 2), (4, 3), (5, 0), (5, 1), (5, 2), (5, 3), (6, 0), (6, 1), (6, 2), (6, 3), (7, 0), (7, 1), (7, 2), (7, 3)]) 12 rfl (by decide +kernel) (by decide +kernel) (by rfl) ?_
      refine th_n ?_
      have hb : c.byte = if c.pos < c.code.length then ((c.code.getD c.pos 0).toNat : Int) else 0 := rfl
      exact ⟨(), trivial, Weak.ren _ [] hC rfl (by refine ⟨?_, ?_, ?_⟩; repeat (first | exact True.intro | refine And.intro ?_ ?_ | exact DLead.same | exact DLead.eqI (by omega) | exact DLead.nil | exact rfl | refine ⟨_, _, rfl, rfl, ?_⟩ | refine ⟨_, rfl, ?_⟩ | refine ⟨_, _, rfl, ?_, ?_⟩); (try (exact DLead.eqI (by rw [hb]; split <;> omega))); repeat (first | exact True.intro | refine And.intro ?_ ?_ | exact DLead.same | exact DLead.eqI (by omega) | exact DLead.nil | exact rfl | refine ⟨_, _, rfl, rfl, ?_⟩ | refine ⟨_, rfl, ?_⟩ | refine ⟨_, _, rfl, ?_, ?_⟩)) (by repeat (first | exact True.intro | refine And.intro ?_ ?_ | exact DLead.same | exact DLead.eqI (by omega) | exact DLead.nil | exact rfl | refine ⟨_, _, rfl, rfl, ?_⟩ | refine ⟨_, rfl, ?_⟩ | refine ⟨_, _, rfl, ?_, ?_⟩)) rfl rfl rfl⟩
    · refine AC.skip ?_
      refine th_n ?_
      have hb : c.byte = if c.pos < c.code.length then ((c.code.getD c.pos 0).toNat : Int) else 0 := rfl
      exact ⟨(), trivial, Weak.ren _ [] hC rfl (by refine ⟨?_, ?_, ?_⟩; repeat (first | exact True.intro | refine And.intro ?_ ?_ | exact DLead.same | exact DLead.eqI (by omega) | exact DLead.nil | exact rfl | refine ⟨_, _, rfl, rfl, ?_⟩ | refine ⟨_, rfl, ?_⟩ | refine ⟨_, _, rfl, ?_, ?_⟩); (try (exact DLead.eqI (by rw [hb]; split <;> omega))); repeat (first | exact True.intro | refine And.intro ?_ ?_ | exact DLead.same | exact DLead.eqI (by omega) | exact DLead.nil | exact rfl | refine ⟨_, _, rfl, rfl, ?_⟩ | refine ⟨_, rfl, ?_⟩ | refine ⟨_, _, rfl, ?_, ?_⟩)) (by repeat (first | exact True.intro | refine And.intro ?_ ?_ | exact DLead.same | exact DLead.eqI (by omega) | exact DLead.nil | exact rfl | refine ⟨_, _, rfl, rfl, ?_⟩ | refine ⟨_, rfl, ?_⟩ | refine ⟨_, _, rfl, ?_, ?_⟩)) rfl rfl rfl⟩
  · intro _ _
    have hbi := c.byte_in
    refine AC.seq ?_
    refine AC.region ?_
    refine AL.p (by first | exact mv1 rfl | exact mv2 rfl | exact mv3 rfl | exact mv4 rfl | exact mv5 rfl | exact mv6 rfl | exact mv7 rfl | exact mv8 rfl | exact mv9 rfl) rfl ?_
    refine AL.p (by first | exact g_nilP rfl | exact g_nilR rfl) rfl ?_
    refine AL.p (by first | exact g_fa_ref rfl rfl rfl rfl rfl rfl | exact g_fa_ptr rfl rfl rfl rfl rfl) rfl ?_
    refine AL.p (by first | exact g_load_ref rfl rfl rfl | exact g_load_ptr rfl rfl rfl rfl rfl | exact g_load_refN rfl rfl rfl rfl | exact g_load_ptrN rfl rfl rfl rfl rfl | exact g_load_arr1 rfl rfl rfl rfl (by assumption) | exact g_load_arr rfl rfl rfl rfl (by first | rfl | omega) (by first | assumption | rfl) (by first | assumption | rfl)) rfl ?_
    refine AL.p (by first | exact g_arith rfl rfl rfl (by first | exact wrap_i64 (by omega) | exact wrap_u8 (by omega) | exact wrap_u64 (by omega) | rfl) | exact g_sadd rfl rfl (by first | assumption | omega | (simp only [ByteArray.size_append, bstr_size, List.length_take, List.length_drop, List.length_cons, List.length_nil]; omega))) rfl ?_
    refine AL.p (by first | exact g_nilP rfl | exact g_nilR rfl) rfl ?_
    refine AL.p (by first | exact g_fa_ref rfl rfl rfl rfl rfl rfl | exact g_fa_ptr rfl rfl rfl rfl rfl) rfl ?_
    refine AL.q (by first | exact h_store rfl rfl rfl rfl rfl rfl | exact h_store_arr1 rfl rfl rfl rfl (by first | exact .same | exact .nil) (by assumption) | exact h_store_arr rfl rfl rfl rfl (by first | exact .same | exact .nil) (by first | rfl | omega) (by first | assumption | rfl) (by omega)) rfl ?_
    refine AL.nil ?_
    refine th_n ?_
    refine AC.seq ?_
    refine AC.region ?_
    refine AL.p (by first | exact mv1 rfl | exact mv2 rfl | exact mv3 rfl | exact mv4 rfl | exact mv5 rfl | exact mv6 rfl | exact mv7 rfl | exact mv8 rfl | exact mv9 rfl) rfl ?_
    refine AL.p (by first | exact mv1 rfl | exact mv2 rfl | exact mv3 rfl | exact mv4 rfl | exact mv5 rfl | exact mv6 rfl | exact mv7 rfl | exact mv8 rfl | exact mv9 rfl) rfl ?_
    refine AL.p (by first | exact g_nilP rfl | exact g_nilR rfl) rfl ?_
    refine AL.p (by first | exact g_fa_ref rfl rfl rfl rfl rfl rfl | exact g_fa_ptr rfl rfl rfl rfl rfl) rfl ?_
    refine AL.p (by first | exact g_load_ref rfl rfl rfl | exact g_load_ptr rfl rfl rfl rfl rfl | exact g_load_refN rfl rfl rfl rfl | exact g_load_ptrN rfl rfl rfl rfl rfl | exact g_load_arr1 rfl rfl rfl rfl (by assumption) | exact g_load_arr rfl rfl rfl rfl (by first | rfl | omega) (by first | assumption | rfl) (by first | assumption | rfl)) rfl ?_
    refine AL.p (by exact g_arith rfl rfl rfl (by first | exact wrap_i64 (by omega) | exact wrap_u8 (by omega) | exact wrap_u64 (by omega) | rfl)) rfl ?_
    refine AL.p (by first | exact mv1 rfl | exact mv2 rfl | exact mv3 rfl | exact mv4 rfl | exact mv5 rfl | exact mv6 rfl | exact mv7 rfl | exact mv8 rfl | exact mv9 rfl) rfl ?_
    first | refine AL.p (by exact g_convI rfl rfl rfl (by first | exact wrap_i64 (by omega) | exact wrap_u8 (by omega) | exact wrap_u64 (by omega) | rfl)) rfl ?_ | refine AL.p (by exact g_strOfBytes rfl rfl rfl rfl rfl rfl (by first | rfl | assumption | omega)) rfl ?_ | refine AL.q (by exact h_bytesOfStr rfl rfl rfl rfl) rfl ?_
    refine AL.p (by first | exact g_arith rfl rfl rfl (by first | exact wrap_i64 (by omega) | exact wrap_u8 (by omega) | exact wrap_u64 (by omega) | rfl) | exact g_sadd rfl rfl (by first | assumption | omega | (simp only [ByteArray.size_append, bstr_size, List.length_take, List.length_drop, List.length_cons, List.length_nil]; omega))) rfl ?_
    refine AL.p (by first | exact g_arith rfl rfl rfl (by first | exact wrap_i64 (by omega) | exact wrap_u8 (by omega) | exact wrap_u64 (by omega) | rfl) | exact g_sadd rfl rfl (by first | assumption | omega | (simp only [ByteArray.size_append, bstr_size, List.length_take, List.length_drop, List.length_cons, List.length_nil]; omega))) rfl ?_
    refine AL.p (by first | exact g_nilP rfl | exact g_nilR rfl) rfl ?_
    refine AL.p (by first | exact g_fa_ref rfl rfl rfl rfl rfl rfl | exact g_fa_ptr rfl rfl rfl rfl rfl) rfl ?_
    refine AL.q (by first | exact h_store rfl rfl rfl rfl rfl rfl | exact h_store_arr1 rfl rfl rfl rfl (by first | exact .same | exact .nil) (by assumption) | exact h_store_arr rfl rfl rfl rfl (by first | exact .same | exact .nil) (by first | rfl | omega) (by first | assumption | rfl) (by omega)) rfl ?_
    refine AL.nil ?_
    refine th_n ?_
    refine AC.seq ?_
    refine AC.seq ?_
    refine AC.drawn' mixed_ok [[], [0], [0,1], [0,1,2], [], [4], [4,5], [4,5,6], [4,5,6,7], [0,1,2,3,4,5,6,7,8]] (by decide) ?_
    refine DF.op 0 [] 10 rfl rfl rfl (.free rfl (NOp.of (by first | exact mv1 rfl | exact mv2 rfl | exact mv3 rfl | exact mv4 rfl | exact mv5 rfl | exact mv6 rfl | exact mv7 rfl | exact mv8 rfl | exact mv9 rfl))) rfl ?_
    refine DF.op 1 [0] 10 rfl rfl rfl (.free rfl (NOp.of (by first | exact g_nilP rfl | exact g_nilR rfl))) rfl ?_
    refine DF.op 2 [0,1] 10 rfl rfl rfl (.free rfl (NOp.of (by first | exact g_fa_ref rfl rfl rfl rfl rfl rfl | exact g_fa_ptr rfl rfl rfl rfl rfl))) rfl ?_
    refine DF.op 3 [0,1,2] 10 rfl rfl rfl (.free rfl (NOp.of (by first | exact g_load_ref rfl rfl rfl | exact g_load_ptr rfl rfl rfl rfl rfl | exact g_load_refN rfl rfl rfl rfl | exact g_load_ptrN rfl rfl rfl rfl rfl | exact g_load_arr1 rfl rfl rfl rfl (by assumption) | exact g_load_arr rfl rfl rfl rfl (by first | rfl | omega) (by first | assumption | rfl) (by first | assumption | rfl)))) rfl ?_
    refine DF.op 4 [] 10 rfl rfl rfl (.free rfl (NOp.of (by first | exact mv1 rfl | exact mv2 rfl | exact mv3 rfl | exact mv4 rfl | exact mv5 rfl | exact mv6 rfl | exact mv7 rfl | exact mv8 rfl | exact mv9 rfl))) rfl ?_
    refine DF.op 5 [4] 10 rfl rfl rfl (.free rfl (NOp.of (by first | exact g_nilP rfl | exact g_nilR rfl))) rfl ?_
    refine DF.op 6 [4,5] 10 rfl rfl rfl (.free rfl (NOp.of (by first | exact g_fa_ref rfl rfl rfl rfl rfl rfl | exact g_fa_ptr rfl rfl rfl rfl rfl))) rfl ?_
    refine DF.op 7 [4,5,6] 10 rfl rfl rfl (.free rfl (NOp.of (by first | exact g_load_ref rfl rfl rfl | exact g_load_ptr rfl rfl rfl rfl rfl | exact g_load_refN rfl rfl rfl rfl | exact g_load_ptrN rfl rfl rfl rfl rfl | exact g_load_arr1 rfl rfl rfl rfl (by assumption) | exact g_load_arr rfl rfl rfl rfl (by first | rfl | omega) (by first | assumption | rfl) (by first | assumption | rfl)))) rfl ?_
    refine DF.op 8 [4,5,6,7] 10 rfl rfl rfl (.free rfl (NOp.of (by first | exact g_len_view rfl rfl (by first | exact List.length_map _ | rfl) | exact g_len_str rfl rfl rfl | exact g_len_nil rfl rfl | exact g_len_own (sz := 1) (els := []) (e' := 0) rfl rfl (by simp only [maxLen]; omega) | exact g_len_tight rfl rfl (by first | exact List.length_map _ | rfl)))) rfl ?_
    refine DF.op 9 [0,1,2,3,4,5,6,7,8] 10 rfl rfl rfl (.free rfl (NOp.of (by first | exact g_cmp rfl rfl rfl | exact g_scmp rfl rfl rfl | exact g_eqB rfl rfl rfl | exact g_neB rfl rfl rfl))) rfl ?_
    refine DF.fin (ps := [(0, 4), (0, 5), (0, 6), (0, 7), (0, 8), (1, 4), (1, 5), (1, 6), (1, 7), (1, 8), (2, 4), (2, 5), (2, 6), (2, 7), (2, 8), (3, 4), (3, 5), (3, 6), (3, 7), (3, 8), (4, 0), (4, 1), (4, 2), (4, 3), (5, 0), (5, 1), (5, 2), (5, 3), (6, 0), (6, 1), (6, 2), (6, 3), (7, 0), (7, 1), (7, 2), (7, 3), (8, 0), (8, 1), (8, 2), (8, 3)]) 10 rfl (by decide +kernel) (by decide +kernel) (by rfl) ?_
    refine th_n ?_
    first | refine AC.condD rfl (fun h0 => ?_) (fun h0 => ?_) | refine AC.condND rfl (fun h0 => ?_) (fun h0 => ?_) | refine AC.condB rfl (fun h0 => ?_) (fun h0 => ?_) | refine AC.condNB rfl (fun h0 => ?_) (fun h0 => ?_)
    · refine AC.seq ?_
      refine AC.region ?_
      refine AL.p (by first | exact mv1 rfl | exact mv2 rfl | exact mv3 rfl | exact mv4 rfl | exact mv5 rfl | exact mv6 rfl | exact mv7 rfl | exact mv8 rfl | exact mv9 rfl) rfl ?_
      refine AL.p (by first | exact as1 rfl | exact as2 rfl | exact as3 rfl | exact as4 rfl | exact as5 rfl | exact as6 rfl | exact as7 rfl | exact as8 rfl | exact as9 rfl) rfl ?_
      refine AL.nil ?_
      refine th_n ?_
      refine AC.ret ?_
      refine th_r ?_
      refine bq_r ?_
      exact retF rfl (by show DLead _ _; exact DLead.eqI (by unfold Cur.next; rw [if_pos (by omega)])) (by repeat (first | exact True.intro | refine And.intro ?_ ?_ | exact DLead.same | exact DLead.eqI (by omega) | exact DLead.nil | exact rfl | refine ⟨_, _, rfl, rfl, ?_⟩ | refine ⟨_, rfl, ?_⟩ | refine ⟨_, _, rfl, ?_, ?_⟩)) rfl
    · refine AC.skip ?_
      refine th_n ?_
      refine AC.seq ?_
      refine AC.region ?_
      refine AL.p (by first | exact mv1 rfl | exact mv2 rfl | exact mv3 rfl | exact mv4 rfl | exact mv5 rfl | exact mv6 rfl | exact mv7 rfl | exact mv8 rfl | exact mv9 rfl) rfl ?_
      refine AL.p (by first | exact g_nilP rfl | exact g_nilR rfl) rfl ?_
      refine AL.p (by first | exact g_fa_ref rfl rfl rfl rfl rfl rfl | exact g_fa_ptr rfl rfl rfl rfl rfl) rfl ?_
      refine AL.p (by first | exact g_load_ref rfl rfl rfl | exact g_load_ptr rfl rfl rfl rfl rfl | exact g_load_refN rfl rfl rfl rfl | exact g_load_ptrN rfl rfl rfl rfl rfl | exact g_load_arr1 rfl rfl rfl rfl (by assumption) | exact g_load_arr rfl rfl rfl rfl (by first | rfl | omega) (by first | assumption | rfl) (by first | assumption | rfl)) rfl ?_
      refine AL.p (by exact g_shr rfl rfl (by first | decide | omega) (by rfl)) rfl ?_
      refine AL.p (by exact g_bits rfl rfl rfl) rfl ?_
      first | refine AL.p (by exact g_convI rfl rfl rfl (by first | exact wrap_i64 (by omega) | exact wrap_u8 (by omega) | exact wrap_u64 (by omega) | rfl)) rfl ?_ | refine AL.p (by exact g_strOfBytes rfl rfl rfl rfl rfl rfl (by first | rfl | assumption | omega)) rfl ?_ | refine AL.q (by exact h_bytesOfStr rfl rfl rfl rfl) rfl ?_
      refine AL.p (by first | exact as1 rfl | exact as2 rfl | exact as3 rfl | exact as4 rfl | exact as5 rfl | exact as6 rfl | exact as7 rfl | exact as8 rfl | exact as9 rfl) rfl ?_
      refine AL.nil ?_
      refine th_n ?_
      refine AC.ret ?_
      refine bq_r ?_
      exact retF rfl (by show DLead _ _; exact DLead.eqI (by unfold Cur.next; rw [if_neg (by omega)]; rfl)) (by repeat (first | exact True.intro | refine And.intro ?_ ?_ | exact DLead.same | exact DLead.eqI (by omega) | exact DLead.nil | exact rfl | refine ⟨_, _, rfl, rfl, ?_⟩ | refine ⟨_, rfl, ?_⟩ | refine ⟨_, _, rfl, ?_, ?_⟩)) rfl
theorem en_next : Enters Try.prog 38 := enters_of Try.func38 rfl rfl
end Go.Proofs.Ytochebmkfdfbhaa
