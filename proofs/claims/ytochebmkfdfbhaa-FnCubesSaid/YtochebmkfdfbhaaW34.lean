/- Walks: the smallest cube, as offered. -/
import Derived.Test.YtochebmkfdfbhaaW33
set_option linter.all false
namespace Go.Proofs.Ytochebmkfdfbhaa
open Go.RowKit

def supP (l : List (List UInt8)) (i : Nat) : List UInt8 := (List.range i).map (supAt l l.length)
theorem supP_succ (l : List (List UInt8)) (i : Nat) : supP l (i + 1) = supP l i ++ [supAt l l.length i] := by unfold supP; rw [List.range_succ, List.map_append]; rfl
theorem supP_len (l : List (List UInt8)) (i : Nat) : (supP l i).length = i := by unfold supP; rw [List.length_map, List.length_range]
theorem bstr1_ne {x y : UInt8} (h : ¬ bstr [x] = bstr [y]) : ¬ (x.toNat : Int) = (y.toNat : Int) := fun e => h (by rw [UInt8.toNat_inj.1 (by omega : x.toNat = y.toNat)])
theorem bstr1_eq {x y : UInt8} (h : bstr [x] = bstr [y]) : (x.toNat : Int) = (y.toNat : Int) := by have := bstr_inj h; simp only [List.cons.injEq, and_true] at this; rw [this]
set_option maxHeartbeats 4000000 in
theorem l13Of_spec (l : List (List UInt8)) (h0 : 0 < l.length) (hl : l.length ≤ 1000000) (hn : (fst0 l).length ≤ 1000) (hall : ∀ c, c ∈ l → c.length = (fst0 l).length) : ASpec Try.prog 32 [.d (vSs l)] [] (Pure1 (aS (bstr (superV l)))) := by
  have hget0 := fst0_at h0
  have hsz := bstr_size (fst0 l)
  have hs1 : ∀ x : UInt8, (bstr [x]).size = 1 := fun x => bstr_size _
  obtain ⟨n, hnn⟩ : ∃ n, n = (fst0 l).length := ⟨_, rfl⟩
  rw [← hnn] at hsz hn
  refine ASpec.of Try.func32 rfl rfl fun C hC => ?_
  refine AC.seq ?_
  refine AC.region ?_
  refine AL.p (by first | exact as1 rfl | exact as2 rfl | exact as3 rfl | exact as4 rfl | exact as5 rfl | exact as6 rfl | exact as7 rfl | exact as8 rfl | exact as9 rfl) rfl ?_
  refine AL.nil ?_
  refine th_n ?_
  refine AC.seq ?_
  refine AC.region ?_
  refine AL.p (by first | exact as1 rfl | exact as2 rfl | exact as3 rfl | exact as4 rfl | exact as5 rfl | exact as6 rfl | exact as7 rfl | exact as8 rfl | exact as9 rfl) rfl ?_
  refine AL.nil ?_
  refine th_n ?_
  refine AC.seq ?_
  refine AC.seq ?_
  refine AC.region ?_
  refine AL.p (by first | exact as1 rfl | exact as2 rfl | exact as3 rfl | exact as4 rfl | exact as5 rfl | exact as6 rfl | exact as7 rfl | exact as8 rfl | exact as9 rfl) rfl ?_
  refine AL.nil ?_
  refine th_n ?_
  refine AC.block ?_
  refine AC.loop (ι := Nat) (fun i => ⟨41, 108, [(0, .d (vSs l)), (3, aS (bstr (supP l i))), (4, aI i)], []⟩) (fun i => i ≤ n) (fun i => n - i) (0) ?_ (Nat.zero_le _) ?_
  · refine Weak.ren _ [] hC rfl ?_ ?_ rfl rfl rfl <;> repeat (first | exact True.intro | refine And.intro ?_ ?_ | exact DLead.same | exact DLead.eqI (by omega) | exact DLead.nil | exact rfl)
  · intro i hi
    refine AC.seq ?_
    refine AC.seq ?_
    refine AC.region ?_
    refine AL.p (by first | exact mv1 rfl | exact mv2 rfl | exact mv3 rfl | exact mv4 rfl | exact mv5 rfl | exact mv6 rfl | exact mv7 rfl | exact mv8 rfl | exact mv9 rfl) rfl ?_
    refine AL.p (by first | exact mv1 rfl | exact mv2 rfl | exact mv3 rfl | exact mv4 rfl | exact mv5 rfl | exact mv6 rfl | exact mv7 rfl | exact mv8 rfl | exact mv9 rfl) rfl ?_
    refine AL.p (by exact g_ia_view (i := 0) rfl rfl rfl rfl rfl rfl hget0) rfl ?_
    refine AL.p (by first | exact g_load_ref rfl rfl rfl | exact g_load_ptr rfl rfl rfl rfl rfl | exact g_load_refN rfl rfl rfl rfl | exact g_load_ptrN rfl rfl rfl rfl rfl | exact g_load_arr1 rfl rfl rfl rfl (by assumption) | exact g_load_arr rfl rfl rfl rfl (by first | rfl | omega) (by first | assumption | rfl) (by first | assumption | rfl)) rfl ?_
    refine AL.p (by exact g_len_str (k := n) rfl rfl hsz) rfl ?_
    refine AL.p (by first | exact g_cmp rfl rfl rfl | exact g_scmp rfl rfl rfl | exact g_eqB rfl rfl rfl | exact g_neB rfl rfl rfl) rfl ?_
    refine AL.nil ?_
    refine th_n ?_
    first | refine AC.condD rfl (fun h0 => ?_) (fun h0 => ?_) | refine AC.condND rfl (fun h0 => ?_) (fun h0 => ?_) | refine AC.condB rfl (fun h0 => ?_) (fun h0 => ?_) | refine AC.condNB rfl (fun h0 => ?_) (fun h0 => ?_)
    · refine AC.skip ?_
      refine th_n ?_
      refine AC.seq ?_
      refine AC.block ?_
      refine AC.seq ?_
      have hi1 : i < n := by omega
      have hKJ : (i : Int) + 1 = ((i + 1 : Nat) : Int) := by omega
      refine AC.region ?_
      refine AL.p (by first | exact mv1 rfl | exact mv2 rfl | exact mv3 rfl | exact mv4 rfl | exact mv5 rfl | exact mv6 rfl | exact mv7 rfl | exact mv8 rfl | exact mv9 rfl) rfl ?_
      refine AL.p (by exact g_ia_view (i := 0) rfl rfl rfl rfl rfl rfl hget0) rfl ?_
      refine AL.p (by first | exact g_load_ref rfl rfl rfl | exact g_load_ptr rfl rfl rfl rfl rfl | exact g_load_refN rfl rfl rfl rfl | exact g_load_ptrN rfl rfl rfl rfl rfl | exact g_load_arr1 rfl rfl rfl rfl (by assumption) | exact g_load_arr rfl rfl rfl rfl (by first | rfl | omega) (by first | assumption | rfl) (by first | assumption | rfl)) rfl ?_
      refine AL.p (by first | exact mv1 rfl | exact mv2 rfl | exact mv3 rfl | exact mv4 rfl | exact mv5 rfl | exact mv6 rfl | exact mv7 rfl | exact mv8 rfl | exact mv9 rfl) rfl ?_
      refine AL.p (by first | exact mv1 rfl | exact mv2 rfl | exact mv3 rfl | exact mv4 rfl | exact mv5 rfl | exact mv6 rfl | exact mv7 rfl | exact mv8 rfl | exact mv9 rfl) rfl ?_
      refine AL.p (by first | exact g_arith rfl rfl rfl (by first | exact wrap_i64 (by omega) | exact wrap_u8 (by omega) | exact wrap_u64 (by omega) | rfl) | exact g_sadd rfl rfl (by first | assumption | omega | (simp only [ByteArray.size_append, bstr_size, List.length_take, List.length_drop, List.length_cons, List.length_nil]; omega))) rfl ?_
      refine AL.p (by exact g_slice_str (l := i) (h := i + 1) rfl rfl (.some rfl rfl) (.some rfl hKJ) (by omega) (by omega) (cut1 (by omega))) rfl ?_
      refine AL.p (by first | exact as1 rfl | exact as2 rfl | exact as3 rfl | exact as4 rfl | exact as5 rfl | exact as6 rfl | exact as7 rfl | exact as8 rfl | exact as9 rfl) rfl ?_
      refine AL.nil ?_
      refine th_n ?_
      refine AC.seq ?_
      refine AC.seq ?_
      refine AC.region ?_
      refine AL.p (by first | exact mv1 rfl | exact mv2 rfl | exact mv3 rfl | exact mv4 rfl | exact mv5 rfl | exact mv6 rfl | exact mv7 rfl | exact mv8 rfl | exact mv9 rfl) rfl ?_
      refine AL.p (by first | exact g_len_view rfl rfl (by first | exact List.length_map _ | rfl) | exact g_len_str rfl rfl rfl | exact g_len_nil rfl rfl | exact g_len_own (sz := 1) (els := []) (e' := 0) rfl rfl (by simp only [maxLen]; omega) | exact g_len_tight rfl rfl (by first | exact List.length_map _ | rfl)) rfl ?_
      refine AL.p (by first | exact mv1 rfl | exact mv2 rfl | exact mv3 rfl | exact mv4 rfl | exact mv5 rfl | exact mv6 rfl | exact mv7 rfl | exact mv8 rfl | exact mv9 rfl) rfl ?_
      refine AL.nil ?_
      refine th_n ?_
      refine AC.block ?_
      refine AC.loop (ι := Nat) (fun k => ⟨41, 108, [(0, .d (vSs l)), (3, aS (bstr (supP l i))), (4, aI i), (5, aS (bstr [supAt l k i])), (23, .d (vSs l)), (24, aI l.length), (25, aI k)], []⟩) (fun k => k ≤ l.length) (fun k => l.length - k) (0) ?_ (Nat.zero_le _) ?_
      · exact Weak.ren _ [] hC rfl (by rw [sup_zero]; repeat (first | exact True.intro | refine And.intro ?_ ?_ | exact DLead.same | exact DLead.eqI (by omega) | exact DLead.nil | exact rfl | refine ⟨_, _, rfl, rfl, ?_⟩ | refine ⟨_, rfl, ?_⟩ | refine ⟨_, _, rfl, ?_, ?_⟩)) (by repeat (first | exact True.intro | refine And.intro ?_ ?_ | exact DLead.same | exact DLead.eqI (by omega) | exact DLead.nil | exact rfl | refine ⟨_, _, rfl, rfl, ?_⟩ | refine ⟨_, rfl, ?_⟩ | refine ⟨_, _, rfl, ?_, ?_⟩)) rfl rfl rfl
      · intro k hk
        refine AC.seq ?_
        refine AC.region ?_
        refine AL.p (by first | exact g_cmp rfl rfl rfl | exact g_scmp rfl rfl rfl | exact g_eqB rfl rfl rfl | exact g_neB rfl rfl rfl) rfl ?_
        refine AL.nil ?_
        refine th_n ?_
        refine AC.seq ?_
        first | refine AC.condD rfl (fun h1 => ?_) (fun h1 => ?_) | refine AC.condND rfl (fun h1 => ?_) (fun h1 => ?_) | refine AC.condB rfl (fun h1 => ?_) (fun h1 => ?_) | refine AC.condNB rfl (fun h1 => ?_) (fun h1 => ?_)
        · refine AC.skip ?_
          refine th_n ?_
          refine AC.seq ?_
          refine AC.block ?_
          refine AC.seq ?_
          have hk1 : k < l.length := by omega
          have hget := strs_at hk1
          have hck := hall _ (List.getElem_mem hk1)
          have hcz := bstr_size l[k]
          have hst := sup_step (l := l) i hk1
          refine AC.region ?_
          refine AL.p (by first | exact g_ia_view rfl rfl rfl rfl rfl (by first | rfl | assumption) (by first | assumption | rfl) | exact g_ia_own rfl rfl rfl rfl rfl (by first | rfl | assumption) (by omega) (by first | exact Nat.mul_one _ | rfl | omega)) rfl ?_
          refine AL.p (by first | exact g_load_ref rfl rfl rfl | exact g_load_ptr rfl rfl rfl rfl rfl | exact g_load_refN rfl rfl rfl rfl | exact g_load_ptrN rfl rfl rfl rfl rfl | exact g_load_arr1 rfl rfl rfl rfl (by assumption) | exact g_load_arr rfl rfl rfl rfl (by first | rfl | omega) (by first | assumption | rfl) (by first | assumption | rfl)) rfl ?_
          refine AL.p (by first | exact as1 rfl | exact as2 rfl | exact as3 rfl | exact as4 rfl | exact as5 rfl | exact as6 rfl | exact as7 rfl | exact as8 rfl | exact as9 rfl) rfl ?_
          refine AL.nil ?_
          refine th_n ?_
          refine AC.seq ?_
          refine AC.region ?_
          refine AL.p (by first | exact mv1 rfl | exact mv2 rfl | exact mv3 rfl | exact mv4 rfl | exact mv5 rfl | exact mv6 rfl | exact mv7 rfl | exact mv8 rfl | exact mv9 rfl) rfl ?_
          refine AL.p (by first | exact mv1 rfl | exact mv2 rfl | exact mv3 rfl | exact mv4 rfl | exact mv5 rfl | exact mv6 rfl | exact mv7 rfl | exact mv8 rfl | exact mv9 rfl) rfl ?_
          refine AL.p (by first | exact mv1 rfl | exact mv2 rfl | exact mv3 rfl | exact mv4 rfl | exact mv5 rfl | exact mv6 rfl | exact mv7 rfl | exact mv8 rfl | exact mv9 rfl) rfl ?_
          refine AL.p (by first | exact g_arith rfl rfl rfl (by first | exact wrap_i64 (by omega) | exact wrap_u8 (by omega) | exact wrap_u64 (by omega) | rfl) | exact g_sadd rfl rfl (by first | assumption | omega | (simp only [ByteArray.size_append, bstr_size, List.length_take, List.length_drop, List.length_cons, List.length_nil]; omega))) rfl ?_
          refine AL.p (by exact g_slice_str (l := i) (h := i + 1) rfl rfl (.some rfl rfl) (.some rfl hKJ) (by omega) (by omega) (cut1 (by omega))) rfl ?_
          refine AL.p (by first | exact mv1 rfl | exact mv2 rfl | exact mv3 rfl | exact mv4 rfl | exact mv5 rfl | exact mv6 rfl | exact mv7 rfl | exact mv8 rfl | exact mv9 rfl) rfl ?_
          refine AL.p (by first | exact g_cmp rfl rfl rfl | exact g_scmp rfl rfl rfl | exact g_eqB rfl rfl rfl | exact g_neB rfl rfl rfl) rfl ?_
          refine AL.nil ?_
          refine th_n ?_
          first | refine AC.condD rfl (fun h2 => ?_) (fun h2 => ?_) | refine AC.condND rfl (fun h2 => ?_) (fun h2 => ?_) | refine AC.condB rfl (fun h2 => ?_) (fun h2 => ?_) | refine AC.condNB rfl (fun h2 => ?_) (fun h2 => ?_)
          · refine AC.region ?_
            refine AL.p (by first | exact as1 rfl | exact as2 rfl | exact as3 rfl | exact as4 rfl | exact as5 rfl | exact as6 rfl | exact as7 rfl | exact as8 rfl | exact as9 rfl) rfl ?_
            refine AL.nil ?_
            refine ib_n ?_
            refine th_n ?_
            refine AC.region ?_
            refine AL.p (by first | exact g_arith rfl rfl rfl (by first | exact wrap_i64 (by omega) | exact wrap_u8 (by omega) | exact wrap_u64 (by omega) | rfl) | exact g_sadd rfl rfl (by first | assumption | omega | (simp only [ByteArray.size_append, bstr_size, List.length_take, List.length_drop, List.length_cons, List.length_nil]; omega))) rfl ?_
            refine AL.p (by first | exact mv1 rfl | exact mv2 rfl | exact mv3 rfl | exact mv4 rfl | exact mv5 rfl | exact mv6 rfl | exact mv7 rfl | exact mv8 rfl | exact mv9 rfl) rfl ?_
            refine AL.nil ?_
            refine th_n ?_
            first | (have e := hst.trans (if_neg (fun e' => bstr1_ne h2 e'.symm)); exact ⟨k + 1, by omega, by omega, Weak.ren _ [] hC rfl (by rw [e]; repeat (first | exact True.intro | refine And.intro ?_ ?_ | exact DLead.same | exact DLead.eqI (by omega) | exact DLead.nil | exact rfl | refine ⟨_, _, rfl, rfl, ?_⟩ | refine ⟨_, rfl, ?_⟩ | refine ⟨_, _, rfl, ?_, ?_⟩)) (by repeat (first | exact True.intro | refine And.intro ?_ ?_ | exact DLead.same | exact DLead.eqI (by omega) | exact DLead.nil | exact rfl | refine ⟨_, _, rfl, rfl, ?_⟩ | refine ⟨_, rfl, ?_⟩ | refine ⟨_, _, rfl, ?_, ?_⟩)) rfl rfl rfl⟩) | (have e := hst.trans (if_pos (bstr1_eq h2).symm); exact ⟨k + 1, by omega, by omega, Weak.ren _ [] hC rfl (by rw [e]; repeat (first | exact True.intro | refine And.intro ?_ ?_ | exact DLead.same | exact DLead.eqI (by omega) | exact DLead.nil | exact rfl | refine ⟨_, _, rfl, rfl, ?_⟩ | refine ⟨_, rfl, ?_⟩ | refine ⟨_, _, rfl, ?_, ?_⟩)) (by repeat (first | exact True.intro | refine And.intro ?_ ?_ | exact DLead.same | exact DLead.eqI (by omega) | exact DLead.nil | exact rfl | refine ⟨_, _, rfl, rfl, ?_⟩ | refine ⟨_, rfl, ?_⟩ | refine ⟨_, _, rfl, ?_, ?_⟩)) rfl rfl rfl⟩)
          · refine AC.skip ?_
            refine ib_n ?_
            refine th_n ?_
            refine AC.region ?_
            refine AL.p (by first | exact g_arith rfl rfl rfl (by first | exact wrap_i64 (by omega) | exact wrap_u8 (by omega) | exact wrap_u64 (by omega) | rfl) | exact g_sadd rfl rfl (by first | assumption | omega | (simp only [ByteArray.size_append, bstr_size, List.length_take, List.length_drop, List.length_cons, List.length_nil]; omega))) rfl ?_
            refine AL.p (by first | exact mv1 rfl | exact mv2 rfl | exact mv3 rfl | exact mv4 rfl | exact mv5 rfl | exact mv6 rfl | exact mv7 rfl | exact mv8 rfl | exact mv9 rfl) rfl ?_
            refine AL.nil ?_
            refine th_n ?_
            first | (have e := hst.trans (if_neg (fun e' => bstr1_ne h2 e'.symm)); exact ⟨k + 1, by omega, by omega, Weak.ren _ [] hC rfl (by rw [e]; repeat (first | exact True.intro | refine And.intro ?_ ?_ | exact DLead.same | exact DLead.eqI (by omega) | exact DLead.nil | exact rfl | refine ⟨_, _, rfl, rfl, ?_⟩ | refine ⟨_, rfl, ?_⟩ | refine ⟨_, _, rfl, ?_, ?_⟩)) (by repeat (first | exact True.intro | refine And.intro ?_ ?_ | exact DLead.same | exact DLead.eqI (by omega) | exact DLead.nil | exact rfl | refine ⟨_, _, rfl, rfl, ?_⟩ | refine ⟨_, rfl, ?_⟩ | refine ⟨_, _, rfl, ?_, ?_⟩)) rfl rfl rfl⟩) | (have e := hst.trans (if_pos (bstr1_eq h2).symm); exact ⟨k + 1, by omega, by omega, Weak.ren _ [] hC rfl (by rw [e]; repeat (first | exact True.intro | refine And.intro ?_ ?_ | exact DLead.same | exact DLead.eqI (by omega) | exact DLead.nil | exact rfl | refine ⟨_, _, rfl, rfl, ?_⟩ | refine ⟨_, rfl, ?_⟩ | refine ⟨_, _, rfl, ?_, ?_⟩)) (by repeat (first | exact True.intro | refine And.intro ?_ ?_ | exact DLead.same | exact DLead.eqI (by omega) | exact DLead.nil | exact rfl | refine ⟨_, _, rfl, rfl, ?_⟩ | refine ⟨_, rfl, ?_⟩ | refine ⟨_, _, rfl, ?_, ?_⟩)) rfl rfl rfl⟩)
        · refine AC.exit ?_
          refine th_e ?_
          refine th_e ?_
          refine ib_y ?_
          refine th_n ?_
          have hkk : k = l.length := by omega
          subst hkk
          have hpz : (bstr (supP l i)).size = i := by rw [bstr_size, supP_len]
          refine AC.region ?_
          refine AL.p (by first | exact mv1 rfl | exact mv2 rfl | exact mv3 rfl | exact mv4 rfl | exact mv5 rfl | exact mv6 rfl | exact mv7 rfl | exact mv8 rfl | exact mv9 rfl) rfl ?_
          refine AL.p (by first | exact mv1 rfl | exact mv2 rfl | exact mv3 rfl | exact mv4 rfl | exact mv5 rfl | exact mv6 rfl | exact mv7 rfl | exact mv8 rfl | exact mv9 rfl) rfl ?_
          refine AL.p (by exact g_sadd rfl rfl (by rw [hpz, hs1]; omega)) rfl ?_
          refine AL.p (by first | exact as1 rfl | exact as2 rfl | exact as3 rfl | exact as4 rfl | exact as5 rfl | exact as6 rfl | exact as7 rfl | exact as8 rfl | exact as9 rfl) rfl ?_
          refine AL.nil ?_
          refine ib_n ?_
          refine th_n ?_
          refine AC.region ?_
          refine AL.p (by first | exact mv1 rfl | exact mv2 rfl | exact mv3 rfl | exact mv4 rfl | exact mv5 rfl | exact mv6 rfl | exact mv7 rfl | exact mv8 rfl | exact mv9 rfl) rfl ?_
          refine AL.p (by first | exact g_arith rfl rfl rfl (by first | exact wrap_i64 (by omega) | exact wrap_u8 (by omega) | exact wrap_u64 (by omega) | rfl) | exact g_sadd rfl rfl (by first | assumption | omega | (simp only [ByteArray.size_append, bstr_size, List.length_take, List.length_drop, List.length_cons, List.length_nil]; omega))) rfl ?_
          refine AL.p (by first | exact as1 rfl | exact as2 rfl | exact as3 rfl | exact as4 rfl | exact as5 rfl | exact as6 rfl | exact as7 rfl | exact as8 rfl | exact as9 rfl) rfl ?_
          refine AL.nil ?_
          refine th_n ?_
          exact ⟨i + 1, by omega, by omega, Weak.ren _ [] hC rfl (by rw [supP_succ, ← bstr_append]; repeat (first | exact True.intro | refine And.intro ?_ ?_ | exact DLead.same | exact DLead.eqI (by omega) | exact DLead.nil | exact rfl | refine ⟨_, _, rfl, rfl, ?_⟩ | refine ⟨_, rfl, ?_⟩ | refine ⟨_, _, rfl, ?_, ?_⟩)) (by repeat (first | exact True.intro | refine And.intro ?_ ?_ | exact DLead.same | exact DLead.eqI (by omega) | exact DLead.nil | exact rfl | refine ⟨_, _, rfl, rfl, ?_⟩ | refine ⟨_, rfl, ?_⟩ | refine ⟨_, _, rfl, ?_, ?_⟩)) rfl rfl rfl⟩
    · refine AC.exit ?_
      refine th_e ?_
      refine th_e ?_
      refine ib_y ?_
      refine th_n ?_
      refine AC.seq ?_
      refine AC.region ?_
      refine AL.p (by first | exact mv1 rfl | exact mv2 rfl | exact mv3 rfl | exact mv4 rfl | exact mv5 rfl | exact mv6 rfl | exact mv7 rfl | exact mv8 rfl | exact mv9 rfl) rfl ?_
      refine AL.p (by first | exact as1 rfl | exact as2 rfl | exact as3 rfl | exact as4 rfl | exact as5 rfl | exact as6 rfl | exact as7 rfl | exact as8 rfl | exact as9 rfl) rfl ?_
      refine AL.nil ?_
      refine th_n ?_
      refine AC.ret ?_
      refine bq_r ?_
      have hii : i = n := by omega
      have e : supP l i = superV l := by rw [hii, hnn]; rfl
      exact ret1 rfl (by rw [e])
theorem en_l13Of : Enters Try.prog 32 := enters_of Try.func32 rfl rfl
def okS (l : List (List UInt8)) : Bool := ((decide (1 ≤ (l.length : Int)) && decide ((l.length : Int) ≤ 300)) && (decide (1 ≤ ((fst0 l).length : Int)) && decide (((fst0 l).length : Int) ≤ 8))) && l.all (fun c => bitsB c (fst0 l).length)
def superI (l : List (List UInt8)) : List UInt8 × Bool := if okS l = true then (superV l, true) else ([], false)
theorem superI_no {l : List (List UInt8)} (h : okS l = false) : superI l = ([], false) := by unfold superI; rw [h]; rfl
theorem superI_yes {l : List (List UInt8)} (h : okS l = true) : superI l = (superV l, true) := by unfold superI; rw [h]; rfl
theorem bit_lit (x : UInt8) : bit x = (lit3 x && !(x == 45)) := by
  by_cases h48 : (x.toNat : Int) = 48
  · have : x = 48 := UInt8.toNat_inj.1 (by show x.toNat = 48; omega)
    subst this; decide
  · by_cases h49 : (x.toNat : Int) = 49
    · have : x = 49 := UInt8.toNat_inj.1 (by show x.toNat = 49; omega)
      subst this; decide
    · by_cases h45 : (x.toNat : Int) = 45
      · have : x = 45 := UInt8.toNat_inj.1 (by show x.toNat = 45; omega)
        subst this; decide
      · unfold bit lit3
        rw [decide_eq_false h48, decide_eq_false h49, decide_eq_false h45]; rfl
theorem bits_lits (l : List UInt8) : l.all bit = (l.all lit3 && !l.contains 45) := by
  induction l with
  | nil => rfl
  | cons x l ih =>
    rw [List.all_cons, List.all_cons, ih, bit_lit, List.contains_cons]
    have e : (45 == x) = (x == 45) := by rw [Bool.eq_iff_iff, beq_iff_eq, beq_iff_eq]; exact eq_comm
    rw [e]
    cases lit3 x <;> cases (x == 45) <;> cases l.all lit3 <;> cases l.contains 45 <;> rfl
theorem codeB_eq (c : List UInt8) (n : Int) : codeB c n = (bitsB c n && (decide (1 ≤ n) && decide (n ≤ 8))) := by
  unfold codeB bitsB cubeB
  rw [bits_lits]
  cases c.all lit3 <;> cases c.contains 45 <;> cases decide ((c.length : Int) = n) <;> cases decide (1 ≤ n) <;> cases decide (n ≤ 8) <;> rfl
theorem okS_eq {l : List (List UInt8)} (h0 : 0 < l.length) : ((decide (1 ≤ (l.length : Int)) && decide ((l.length : Int) ≤ 300)) && !l.any (fun c => !codeB c (fst0 l).length)) = okS l := by
  unfold okS
  have : (!l.any (fun c => !codeB c (fst0 l).length)) = ((decide (1 ≤ ((fst0 l).length : Int)) && decide (((fst0 l).length : Int) ≤ 8)) && l.all (fun c => bitsB c (fst0 l).length)) := by
    rw [List.any_eq_not_all_not, Bool.not_not]
    rw [Bool.eq_iff_iff, List.all_eq_true, Bool.and_eq_true, List.all_eq_true]
    constructor
    · intro h
      have h1 := h _ (fst0_mem h0)
      rw [Bool.not_not, codeB_eq, Bool.and_eq_true] at h1
      exact ⟨h1.2, fun c hc => by have h2 := h c hc; rw [Bool.not_not, codeB_eq, Bool.and_eq_true] at h2; exact h2.1⟩
    · rintro ⟨h1, h2⟩ c hc
      rw [Bool.not_not, codeB_eq, h2 c hc, h1]; rfl
  rw [this]
  simp only [Bool.and_assoc]
theorem bits_len' {m : List UInt8} {n : Int} (h : bitsB m n = true) : (m.length : Int) = n := by
  simp only [bitsB, Bool.and_eq_true, decide_eq_true_eq] at h; exact h.2
theorem okS_len {l : List (List UInt8)} (h : okS l = true) : 0 < l.length ∧ l.length ≤ 300 ∧ (fst0 l).length ≤ 8 ∧ ∀ c, c ∈ l → c.length = (fst0 l).length := by
  simp only [okS, Bool.and_eq_true, decide_eq_true_eq, List.all_eq_true] at h
  exact ⟨by omega, by omega, by omega, fun c hc => by have := bits_len' (h.2 c hc); omega⟩
set_option maxHeartbeats 2000000 in
theorem iSuper_spec (l : List (List UInt8)) (hl : l.length ≤ 1000000) (hb : ∀ c, c ∈ l → c.length ≤ 2000000) : ASpec Try.prog 10 [.d (vSs l)] [] (Pure1 (.tup [aS (bstr (superI l).1), aT (superI l).2])) := by
  refine ASpec.of Try.func10 rfl rfl fun C hC => ?_
  refine AC.seq ?_
  refine AC.region ?_
  refine AL.q (by exact h_boxF rfl rfl) rfl ?_
  refine AL.p (by first | exact as1 rfl | exact as2 rfl | exact as3 rfl | exact as4 rfl | exact as5 rfl | exact as6 rfl | exact as7 rfl | exact as8 rfl | exact as9 rfl) rfl ?_
  refine AL.p (by first | exact as1 rfl | exact as2 rfl | exact as3 rfl | exact as4 rfl | exact as5 rfl | exact as6 rfl | exact as7 rfl | exact as8 rfl | exact as9 rfl) rfl ?_
  refine AL.nil ?_
  refine th_n ?_
  refine AC.seq ?_
  refine AC.seq ?_
  refine AC.region ?_
  refine AL.p (by first | exact g_load_ref rfl rfl rfl | exact g_load_ptr rfl rfl rfl rfl rfl | exact g_load_refN rfl rfl rfl rfl | exact g_load_ptrN rfl rfl rfl rfl rfl | exact g_load_arr1 rfl rfl rfl rfl (by assumption) | exact g_load_arr rfl rfl rfl rfl (by first | rfl | omega) (by first | assumption | rfl) (by first | assumption | rfl)) rfl ?_
  refine AL.p (by first | exact g_len_view rfl rfl (by first | exact List.length_map _ | rfl) | exact g_len_str rfl rfl rfl | exact g_len_nil rfl rfl | exact g_len_own (sz := 1) (els := []) (e' := 0) rfl rfl (by simp only [maxLen]; omega) | exact g_len_tight rfl rfl (by first | exact List.length_map _ | rfl)) rfl ?_
  refine AL.q (by exact h_pure en_within rfl rfl (by repeat (first | exact rfl | exact DLead.same | exact DLead.nil | refine ⟨_, _, rfl, ?_, ?_⟩ | refine ⟨_, rfl, ?_⟩ | exact ⟨_, rfl, rfl⟩)) (within_spec _ _ _) rfl) rfl ?_
  refine AL.p (by first | exact g_not rfl | exact g_neg rfl (by first | exact wrap_i64 (by omega) | exact wrap_u8 (by omega) | exact wrap_u64 (by omega) | rfl)) rfl ?_
  refine AL.p (by first | exact mv1 rfl | exact mv2 rfl | exact mv3 rfl | exact mv4 rfl | exact mv5 rfl | exact mv6 rfl | exact mv7 rfl | exact mv8 rfl | exact mv9 rfl) rfl ?_
  first | refine AL.caseG rfl rfl (fun h0 => ?_) (fun h0 => ?_) | refine AL.caseGN rfl rfl (fun h0 => ?_) (fun h0 => ?_) | refine AL.caseGB rfl rfl (fun h0 => ?_) (fun h0 => ?_) | refine AL.caseGNB rfl rfl (fun h0 => ?_) (fun h0 => ?_)
  · refine AL.not rfl rfl rfl rfl rfl ?_
    refine AL.not rfl rfl rfl rfl rfl ?_
    refine AL.not rfl rfl rfl rfl rfl ?_
    refine AL.p (by first | exact g_pickT (r := .d _) rfl rfl | exact g_pickF (r := .d _) rfl rfl) rfl ?_
    refine AL.nil ?_
    refine th_n ?_
    refine AC.condT rfl ?_
    refine AC.seq ?_
    refine AC.region ?_
    refine AL.p (by first | exact as1 rfl | exact as2 rfl | exact as3 rfl | exact as4 rfl | exact as5 rfl | exact as6 rfl | exact as7 rfl | exact as8 rfl | exact as9 rfl) rfl ?_
    refine AL.p (by first | exact as1 rfl | exact as2 rfl | exact as3 rfl | exact as4 rfl | exact as5 rfl | exact as6 rfl | exact as7 rfl | exact as8 rfl | exact as9 rfl) rfl ?_
    refine AL.nil ?_
    refine th_n ?_
    refine AC.ret ?_
    refine th_r ?_
    refine bq_r ?_
    first | (have h := (Bool.not_eq_true' _).mp h0; have h2 : okS l = false := (by unfold okS; rw [h]; rfl); rw [superI_no h2]; exact ret0 rfl (by repeat (first | exact True.intro | refine And.intro ?_ ?_ | exact DLead.same | exact DLead.eqI (by omega) | exact DLead.nil | exact rfl | refine ⟨_, _, rfl, rfl, ?_⟩ | refine ⟨_, rfl, ?_⟩ | refine ⟨_, _, rfl, ?_, ?_⟩))) | (have h2 : okS l = false := (by rw [← hoe, h1, Bool.not_true, Bool.and_false]); rw [superI_no h2]; exact ret0 rfl (by repeat (first | exact True.intro | refine And.intro ?_ ?_ | exact DLead.same | exact DLead.eqI (by omega) | exact DLead.nil | exact rfl | refine ⟨_, _, rfl, rfl, ?_⟩ | refine ⟨_, rfl, ?_⟩ | refine ⟨_, _, rfl, ?_, ?_⟩)))
  · refine AL.yes rfl rfl rfl ?_
    have h00 : 0 < l.length := by have := h0; simp at this; omega
    have hoe := okS_eq h00
    refine AL.p (by first | exact g_load_ref rfl rfl rfl | exact g_load_ptr rfl rfl rfl rfl rfl | exact g_load_refN rfl rfl rfl rfl | exact g_load_ptrN rfl rfl rfl rfl rfl | exact g_load_arr1 rfl rfl rfl rfl (by assumption) | exact g_load_arr rfl rfl rfl rfl (by first | rfl | omega) (by first | assumption | rfl) (by first | assumption | rfl)) rfl ?_
    refine AL.yes rfl rfl rfl ?_
    refine AL.p (by exact g_fn rfl) rfl ?_
    refine AL.yes rfl rfl rfl ?_
    refine AL.q (by exact h_pure en_cfStr rfl rfl (by repeat (first | exact rfl | exact DLead.same | exact DLead.nil | refine ⟨_, _, rfl, ?_, ?_⟩ | refine ⟨_, rfl, ?_⟩)) (cfStr_spec l hl 27 [.ref [vSs l]] en_iSuper1 (fun c => !codeB c (fst0 l).length) (fun c h => iSuper1_spec l c h00 (hb c h))) rfl) rfl ?_
    refine AL.p (by first | exact g_pickT (r := .d _) rfl rfl | exact g_pickF (r := .d _) rfl rfl) rfl ?_
    refine AL.nil ?_
    refine th_n ?_
    first | refine AC.condD rfl (fun h1 => ?_) (fun h1 => ?_) | refine AC.condND rfl (fun h1 => ?_) (fun h1 => ?_) | refine AC.condB rfl (fun h1 => ?_) (fun h1 => ?_) | refine AC.condNB rfl (fun h1 => ?_) (fun h1 => ?_)
    · refine AC.seq ?_
      refine AC.region ?_
      refine AL.p (by first | exact as1 rfl | exact as2 rfl | exact as3 rfl | exact as4 rfl | exact as5 rfl | exact as6 rfl | exact as7 rfl | exact as8 rfl | exact as9 rfl) rfl ?_
      refine AL.p (by first | exact as1 rfl | exact as2 rfl | exact as3 rfl | exact as4 rfl | exact as5 rfl | exact as6 rfl | exact as7 rfl | exact as8 rfl | exact as9 rfl) rfl ?_
      refine AL.nil ?_
      refine th_n ?_
      refine AC.ret ?_
      refine th_r ?_
      refine bq_r ?_
      first | (have h := (Bool.not_eq_true' _).mp h0; have h2 : okS l = false := (by unfold okS; rw [h]; rfl); rw [superI_no h2]; exact ret0 rfl (by repeat (first | exact True.intro | refine And.intro ?_ ?_ | exact DLead.same | exact DLead.eqI (by omega) | exact DLead.nil | exact rfl | refine ⟨_, _, rfl, rfl, ?_⟩ | refine ⟨_, rfl, ?_⟩ | refine ⟨_, _, rfl, ?_, ?_⟩))) | (have h2 : okS l = false := (by rw [← hoe, h1, Bool.not_true, Bool.and_false]); rw [superI_no h2]; exact ret0 rfl (by repeat (first | exact True.intro | refine And.intro ?_ ?_ | exact DLead.same | exact DLead.eqI (by omega) | exact DLead.nil | exact rfl | refine ⟨_, _, rfl, rfl, ?_⟩ | refine ⟨_, rfl, ?_⟩ | refine ⟨_, _, rfl, ?_, ?_⟩)))
    · refine AC.skip ?_
      refine th_n ?_
      refine AC.seq ?_
      have h2 : okS l = true := by rw [← hoe, (Bool.not_eq_false' _).mp h0, h1]; rfl
      have hls := okS_len h2
      have hS := supercube_spec l hls.1 hl (by omega) hls.2.2.2
      rw [superI_yes h2]
      obtain ⟨V, hV⟩ : ∃ V, V = superV l := ⟨_, rfl⟩
      rw [← hV] at hS ⊢
      refine AC.region ?_
      refine AL.p (by first | exact g_load_ref rfl rfl rfl | exact g_load_ptr rfl rfl rfl rfl rfl | exact g_load_refN rfl rfl rfl rfl | exact g_load_ptrN rfl rfl rfl rfl rfl | exact g_load_arr1 rfl rfl rfl rfl (by assumption) | exact g_load_arr rfl rfl rfl rfl (by first | rfl | omega) (by first | assumption | rfl) (by first | assumption | rfl)) rfl ?_
      refine AL.q (by exact h_pure en_supercube rfl rfl (by repeat (first | exact rfl | exact DLead.same | exact DLead.nil | refine ⟨_, _, rfl, ?_, ?_⟩ | refine ⟨_, rfl, ?_⟩)) hS rfl) rfl ?_
      refine AL.p (by first | exact as1 rfl | exact as2 rfl | exact as3 rfl | exact as4 rfl | exact as5 rfl | exact as6 rfl | exact as7 rfl | exact as8 rfl | exact as9 rfl) rfl ?_
      refine AL.p (by first | exact as1 rfl | exact as2 rfl | exact as3 rfl | exact as4 rfl | exact as5 rfl | exact as6 rfl | exact as7 rfl | exact as8 rfl | exact as9 rfl) rfl ?_
      refine AL.nil ?_
      refine th_n ?_
      refine AC.ret ?_
      refine bq_r ?_
      exact ret0 rfl (by repeat (first | exact True.intro | refine And.intro ?_ ?_ | exact DLead.same | exact DLead.eqI (by omega) | exact DLead.nil | exact rfl | refine ⟨_, _, rfl, rfl, ?_⟩ | refine ⟨_, rfl, ?_⟩ | refine ⟨_, _, rfl, ?_, ?_⟩))
theorem en_iSuper : Enters Try.prog 10 := enters_of Try.func10 rfl rfl
set_option maxHeartbeats 2000000 in
theorem sSuper_spec (l : List (List UInt8)) (hl : l.length ≤ 1000000) (hb : ∀ c, c ∈ l → c.length ≤ 2000000) : ASpec Try.prog 11 [.d (vSs l)] [] (Pure1 (.tup [aS (bstr (superI l).1), aT (superI l).2])) := by
  have hsz := bstr_size (fst0 l)
  refine ASpec.of Try.func11 rfl rfl fun C hC => ?_
  refine AC.seq ?_
  refine AC.region ?_
  refine AL.p (by first | exact as1 rfl | exact as2 rfl | exact as3 rfl | exact as4 rfl | exact as5 rfl | exact as6 rfl | exact as7 rfl | exact as8 rfl | exact as9 rfl) rfl ?_
  refine AL.p (by first | exact as1 rfl | exact as2 rfl | exact as3 rfl | exact as4 rfl | exact as5 rfl | exact as6 rfl | exact as7 rfl | exact as8 rfl | exact as9 rfl) rfl ?_
  refine AL.nil ?_
  refine th_n ?_
  refine AC.seq ?_
  refine AC.seq ?_
  refine AC.region ?_
  refine AL.p (by first | exact mv1 rfl | exact mv2 rfl | exact mv3 rfl | exact mv4 rfl | exact mv5 rfl | exact mv6 rfl | exact mv7 rfl | exact mv8 rfl | exact mv9 rfl) rfl ?_
  refine AL.p (by first | exact g_len_view rfl rfl (by first | exact List.length_map _ | rfl) | exact g_len_str rfl rfl rfl | exact g_len_nil rfl rfl | exact g_len_own (sz := 1) (els := []) (e' := 0) rfl rfl (by simp only [maxLen]; omega) | exact g_len_tight rfl rfl (by first | exact List.length_map _ | rfl)) rfl ?_
  refine AL.q (by exact h_pure en_l1In rfl rfl (by repeat (first | exact rfl | exact DLead.same | exact DLead.nil | refine ⟨_, _, rfl, ?_, ?_⟩ | refine ⟨_, rfl, ?_⟩ | exact ⟨_, rfl, rfl⟩)) (l1In_spec _ _ _) rfl) rfl ?_
  refine AL.p (by first | exact g_not rfl | exact g_neg rfl (by first | exact wrap_i64 (by omega) | exact wrap_u8 (by omega) | exact wrap_u64 (by omega) | rfl)) rfl ?_
  refine AL.p (by first | exact mv1 rfl | exact mv2 rfl | exact mv3 rfl | exact mv4 rfl | exact mv5 rfl | exact mv6 rfl | exact mv7 rfl | exact mv8 rfl | exact mv9 rfl) rfl ?_
  first | refine AL.caseG rfl rfl (fun h0 => ?_) (fun h0 => ?_) | refine AL.caseGN rfl rfl (fun h0 => ?_) (fun h0 => ?_) | refine AL.caseGB rfl rfl (fun h0 => ?_) (fun h0 => ?_) | refine AL.caseGNB rfl rfl (fun h0 => ?_) (fun h0 => ?_)
  · refine AL.not rfl rfl rfl rfl rfl ?_
    refine AL.not rfl rfl rfl rfl rfl ?_
    refine AL.not rfl rfl rfl rfl rfl ?_
    refine AL.not rfl rfl rfl rfl rfl ?_
    refine AL.not rfl rfl rfl rfl rfl ?_
    refine AL.not rfl rfl rfl rfl rfl ?_
    refine AL.p (by first | exact g_pickT (r := .d _) rfl rfl | exact g_pickF (r := .d _) rfl rfl) rfl ?_
    refine AL.nil ?_
    refine th_n ?_
    refine AC.condT rfl ?_
    refine AC.seq ?_
    refine AC.region ?_
    refine AL.p (by first | exact as1 rfl | exact as2 rfl | exact as3 rfl | exact as4 rfl | exact as5 rfl | exact as6 rfl | exact as7 rfl | exact as8 rfl | exact as9 rfl) rfl ?_
    refine AL.p (by first | exact as1 rfl | exact as2 rfl | exact as3 rfl | exact as4 rfl | exact as5 rfl | exact as6 rfl | exact as7 rfl | exact as8 rfl | exact as9 rfl) rfl ?_
    refine AL.nil ?_
    refine th_n ?_
    refine AC.ret ?_
    refine th_r ?_
    refine bq_r ?_
    first | (have h := (Bool.not_eq_true' _).mp h0; have h2 : okS l = false := (by unfold okS; rw [h]; rfl); rw [superI_no h2]; exact ret0 rfl (by repeat (first | exact True.intro | refine And.intro ?_ ?_ | exact DLead.same | exact DLead.eqI (by omega) | exact DLead.nil | exact rfl | refine ⟨_, _, rfl, rfl, ?_⟩ | refine ⟨_, rfl, ?_⟩ | refine ⟨_, _, rfl, ?_, ?_⟩))) | (have h := (Bool.not_eq_true' _).mp h1; have h2 : okS l = false := (by unfold okS; rw [h, Bool.and_false]; rfl); rw [superI_no h2]; exact ret0 rfl (by repeat (first | exact True.intro | refine And.intro ?_ ?_ | exact DLead.same | exact DLead.eqI (by omega) | exact DLead.nil | exact rfl | refine ⟨_, _, rfl, rfl, ?_⟩ | refine ⟨_, rfl, ?_⟩ | refine ⟨_, _, rfl, ?_, ?_⟩)))
  · refine AL.yes rfl rfl rfl ?_
    have h00 : 0 < l.length := by have := h0; simp at this; omega
    have hget0 := fst0_at h00
    refine AL.p (by first | exact mv1 rfl | exact mv2 rfl | exact mv3 rfl | exact mv4 rfl | exact mv5 rfl | exact mv6 rfl | exact mv7 rfl | exact mv8 rfl | exact mv9 rfl) rfl ?_
    refine AL.yes rfl rfl rfl ?_
    refine AL.p (by exact g_ia_view (i := 0) rfl rfl rfl rfl rfl rfl hget0) rfl ?_
    refine AL.yes rfl rfl rfl ?_
    refine AL.p (by first | exact g_load_ref rfl rfl rfl | exact g_load_ptr rfl rfl rfl rfl rfl | exact g_load_refN rfl rfl rfl rfl | exact g_load_ptrN rfl rfl rfl rfl rfl | exact g_load_arr1 rfl rfl rfl rfl (by assumption) | exact g_load_arr rfl rfl rfl rfl (by first | rfl | omega) (by first | assumption | rfl) (by first | assumption | rfl)) rfl ?_
    refine AL.yes rfl rfl rfl ?_
    refine AL.p (by exact g_len_str (k := (fst0 l).length) rfl rfl hsz) rfl ?_
    refine AL.yes rfl rfl rfl ?_
    refine AL.q (by exact h_pure en_l1In rfl rfl (by repeat (first | exact rfl | exact DLead.same | exact DLead.nil | refine ⟨_, _, rfl, ?_, ?_⟩ | refine ⟨_, rfl, ?_⟩ | exact ⟨_, rfl, rfl⟩)) (l1In_spec _ _ _) rfl) rfl ?_
    refine AL.yes rfl rfl rfl ?_
    refine AL.p (by first | exact g_not rfl | exact g_neg rfl (by first | exact wrap_i64 (by omega) | exact wrap_u8 (by omega) | exact wrap_u64 (by omega) | rfl)) rfl ?_
    refine AL.p (by first | exact g_pickT (r := .d _) rfl rfl | exact g_pickF (r := .d _) rfl rfl) rfl ?_
    refine AL.nil ?_
    refine th_n ?_
    first | refine AC.condD rfl (fun h1 => ?_) (fun h1 => ?_) | refine AC.condND rfl (fun h1 => ?_) (fun h1 => ?_) | refine AC.condB rfl (fun h1 => ?_) (fun h1 => ?_) | refine AC.condNB rfl (fun h1 => ?_) (fun h1 => ?_)
    · refine AC.seq ?_
      refine AC.region ?_
      refine AL.p (by first | exact as1 rfl | exact as2 rfl | exact as3 rfl | exact as4 rfl | exact as5 rfl | exact as6 rfl | exact as7 rfl | exact as8 rfl | exact as9 rfl) rfl ?_
      refine AL.p (by first | exact as1 rfl | exact as2 rfl | exact as3 rfl | exact as4 rfl | exact as5 rfl | exact as6 rfl | exact as7 rfl | exact as8 rfl | exact as9 rfl) rfl ?_
      refine AL.nil ?_
      refine th_n ?_
      refine AC.ret ?_
      refine th_r ?_
      refine bq_r ?_
      first | (have h := (Bool.not_eq_true' _).mp h0; have h2 : okS l = false := (by unfold okS; rw [h]; rfl); rw [superI_no h2]; exact ret0 rfl (by repeat (first | exact True.intro | refine And.intro ?_ ?_ | exact DLead.same | exact DLead.eqI (by omega) | exact DLead.nil | exact rfl | refine ⟨_, _, rfl, rfl, ?_⟩ | refine ⟨_, rfl, ?_⟩ | refine ⟨_, _, rfl, ?_, ?_⟩))) | (have h := (Bool.not_eq_true' _).mp h1; have h2 : okS l = false := (by unfold okS; rw [h, Bool.and_false]; rfl); rw [superI_no h2]; exact ret0 rfl (by repeat (first | exact True.intro | refine And.intro ?_ ?_ | exact DLead.same | exact DLead.eqI (by omega) | exact DLead.nil | exact rfl | refine ⟨_, _, rfl, rfl, ?_⟩ | refine ⟨_, rfl, ?_⟩ | refine ⟨_, _, rfl, ?_, ?_⟩)))
    · refine AC.skip ?_
      refine th_n ?_
      refine AC.seq ?_
      refine AC.seq ?_
      refine AC.region ?_
      refine AL.p (by first | exact mv1 rfl | exact mv2 rfl | exact mv3 rfl | exact mv4 rfl | exact mv5 rfl | exact mv6 rfl | exact mv7 rfl | exact mv8 rfl | exact mv9 rfl) rfl ?_
      refine AL.p (by first | exact g_len_view rfl rfl (by first | exact List.length_map _ | rfl) | exact g_len_str rfl rfl rfl | exact g_len_nil rfl rfl | exact g_len_own (sz := 1) (els := []) (e' := 0) rfl rfl (by simp only [maxLen]; omega) | exact g_len_tight rfl rfl (by first | exact List.length_map _ | rfl)) rfl ?_
      refine AL.p (by first | exact mv1 rfl | exact mv2 rfl | exact mv3 rfl | exact mv4 rfl | exact mv5 rfl | exact mv6 rfl | exact mv7 rfl | exact mv8 rfl | exact mv9 rfl) rfl ?_
      refine AL.nil ?_
      refine th_n ?_
      refine AC.block ?_
      refine AC.loop (ι := Nat) (fun k => ⟨34, 108, [(0, .d (vSs l)), (18, .d (vSs l)), (19, aI l.length), (20, aI k)], []⟩) (fun k => k ≤ l.length ∧ ∀ j (hj : j < l.length), j < k → bitsB l[j] (fst0 l).length = true) (fun k => l.length - k) (0) ?_ (⟨Nat.zero_le _, fun j _ hj => by omega⟩) ?_
      · refine Weak.ren _ [] hC rfl ?_ ?_ rfl rfl rfl <;> repeat (first | exact True.intro | refine And.intro ?_ ?_ | exact DLead.same | exact DLead.eqI (by omega) | exact DLead.nil | exact rfl)
      · intro k ⟨hk, hall⟩
        refine AC.seq ?_
        refine AC.region ?_
        refine AL.p (by first | exact g_cmp rfl rfl rfl | exact g_scmp rfl rfl rfl | exact g_eqB rfl rfl rfl | exact g_neB rfl rfl rfl) rfl ?_
        refine AL.nil ?_
        refine th_n ?_
        refine AC.seq ?_
        first | refine AC.condD rfl (fun h2 => ?_) (fun h2 => ?_) | refine AC.condND rfl (fun h2 => ?_) (fun h2 => ?_) | refine AC.condB rfl (fun h2 => ?_) (fun h2 => ?_) | refine AC.condNB rfl (fun h2 => ?_) (fun h2 => ?_)
        · refine AC.skip ?_
          refine th_n ?_
          refine AC.seq ?_
          refine AC.block ?_
          refine AC.seq ?_
          have hk1 : k < l.length := by omega
          have hget := strs_at hk1
          have hck := hb _ (List.getElem_mem hk1)
          refine AC.region ?_
          refine AL.p (by first | exact g_ia_view rfl rfl rfl rfl rfl (by first | rfl | assumption) (by first | assumption | rfl) | exact g_ia_own rfl rfl rfl rfl rfl (by first | rfl | assumption) (by omega) (by first | exact Nat.mul_one _ | rfl | omega)) rfl ?_
          refine AL.p (by first | exact g_load_ref rfl rfl rfl | exact g_load_ptr rfl rfl rfl rfl rfl | exact g_load_refN rfl rfl rfl rfl | exact g_load_ptrN rfl rfl rfl rfl rfl | exact g_load_arr1 rfl rfl rfl rfl (by assumption) | exact g_load_arr rfl rfl rfl rfl (by first | rfl | omega) (by first | assumption | rfl) (by first | assumption | rfl)) rfl ?_
          refine AL.p (by first | exact as1 rfl | exact as2 rfl | exact as3 rfl | exact as4 rfl | exact as5 rfl | exact as6 rfl | exact as7 rfl | exact as8 rfl | exact as9 rfl) rfl ?_
          refine AL.nil ?_
          refine th_n ?_
          refine AC.seq ?_
          refine AC.region ?_
          refine AL.p (by first | exact mv1 rfl | exact mv2 rfl | exact mv3 rfl | exact mv4 rfl | exact mv5 rfl | exact mv6 rfl | exact mv7 rfl | exact mv8 rfl | exact mv9 rfl) rfl ?_
          refine AL.p (by first | exact mv1 rfl | exact mv2 rfl | exact mv3 rfl | exact mv4 rfl | exact mv5 rfl | exact mv6 rfl | exact mv7 rfl | exact mv8 rfl | exact mv9 rfl) rfl ?_
          refine AL.p (by exact g_ia_view (i := 0) rfl rfl rfl rfl rfl rfl hget0) rfl ?_
          refine AL.p (by first | exact g_load_ref rfl rfl rfl | exact g_load_ptr rfl rfl rfl rfl rfl | exact g_load_refN rfl rfl rfl rfl | exact g_load_ptrN rfl rfl rfl rfl rfl | exact g_load_arr1 rfl rfl rfl rfl (by assumption) | exact g_load_arr rfl rfl rfl rfl (by first | rfl | omega) (by first | assumption | rfl) (by first | assumption | rfl)) rfl ?_
          refine AL.p (by exact g_len_str (k := (fst0 l).length) rfl rfl hsz) rfl ?_
          refine AL.q (by exact h_pure en_l5Code rfl rfl (by repeat (first | exact rfl | exact DLead.same | exact DLead.nil | refine ⟨_, _, rfl, ?_, ?_⟩ | refine ⟨_, rfl, ?_⟩ | exact ⟨_, rfl, rfl⟩)) (l5Code_spec _ _ (by first | assumption | omega)) rfl) rfl ?_
          refine AL.p (by first | exact g_not rfl | exact g_neg rfl (by first | exact wrap_i64 (by omega) | exact wrap_u8 (by omega) | exact wrap_u64 (by omega) | rfl)) rfl ?_
          refine AL.nil ?_
          refine th_n ?_
          first | refine AC.condD rfl (fun h3 => ?_) (fun h3 => ?_) | refine AC.condND rfl (fun h3 => ?_) (fun h3 => ?_) | refine AC.condB rfl (fun h3 => ?_) (fun h3 => ?_) | refine AC.condNB rfl (fun h3 => ?_) (fun h3 => ?_)
          · refine AC.seq ?_
            refine AC.region ?_
            refine AL.p (by first | exact as1 rfl | exact as2 rfl | exact as3 rfl | exact as4 rfl | exact as5 rfl | exact as6 rfl | exact as7 rfl | exact as8 rfl | exact as9 rfl) rfl ?_
            refine AL.p (by first | exact as1 rfl | exact as2 rfl | exact as3 rfl | exact as4 rfl | exact as5 rfl | exact as6 rfl | exact as7 rfl | exact as8 rfl | exact as9 rfl) rfl ?_
            refine AL.nil ?_
            refine th_n ?_
            refine AC.ret ?_
            refine ib_r ?_
            refine th_r ?_
            refine th_r ?_
            refine ib_r ?_
            refine th_r ?_
            refine bq_r ?_
            have h := (Bool.not_eq_true' _).mp h3
            have h2 : okS l = false := by unfold okS; rw [List.all_eq_false.2 ⟨_, List.getElem_mem hk1, by rw [h]; decide⟩, Bool.and_false]
            rw [superI_no h2]
            exact ret0 rfl (by repeat (first | exact True.intro | refine And.intro ?_ ?_ | exact DLead.same | exact DLead.eqI (by omega) | exact DLead.nil | exact rfl | refine ⟨_, _, rfl, rfl, ?_⟩ | refine ⟨_, rfl, ?_⟩ | refine ⟨_, _, rfl, ?_, ?_⟩))
          · refine AC.skip ?_
            refine ib_n ?_
            refine th_n ?_
            refine AC.region ?_
            refine AL.p (by first | exact g_arith rfl rfl rfl (by first | exact wrap_i64 (by omega) | exact wrap_u8 (by omega) | exact wrap_u64 (by omega) | rfl) | exact g_sadd rfl rfl (by first | assumption | omega | (simp only [ByteArray.size_append, bstr_size, List.length_take, List.length_drop, List.length_cons, List.length_nil]; omega))) rfl ?_
            refine AL.p (by first | exact mv1 rfl | exact mv2 rfl | exact mv3 rfl | exact mv4 rfl | exact mv5 rfl | exact mv6 rfl | exact mv7 rfl | exact mv8 rfl | exact mv9 rfl) rfl ?_
            refine AL.nil ?_
            refine th_n ?_
            have h := (Bool.not_eq_false' _).mp h3
            exact ⟨k + 1, ⟨by omega, fun j hj hj2 => by rcases Nat.lt_succ_iff_lt_or_eq.1 hj2 with h' | rfl; exact hall j hj h'; exact h⟩, by omega, Weak.ren _ [] hC rfl (by repeat (first | exact True.intro | refine And.intro ?_ ?_ | exact DLead.same | exact DLead.eqI (by omega) | exact DLead.nil | exact rfl | refine ⟨_, _, rfl, rfl, ?_⟩ | refine ⟨_, rfl, ?_⟩ | refine ⟨_, _, rfl, ?_, ?_⟩)) (by repeat (first | exact True.intro | refine And.intro ?_ ?_ | exact DLead.same | exact DLead.eqI (by omega) | exact DLead.nil | exact rfl | refine ⟨_, _, rfl, rfl, ?_⟩ | refine ⟨_, rfl, ?_⟩ | refine ⟨_, _, rfl, ?_, ?_⟩)) rfl rfl rfl⟩
        · refine AC.exit ?_
          refine th_e ?_
          refine th_e ?_
          refine ib_y ?_
          refine th_n ?_
          refine AC.seq ?_
          have h2 : okS l = true := by unfold okS; rw [(Bool.not_eq_false' _).mp h0, (Bool.not_eq_false' _).mp h1, List.all_eq_true.2 (fun x hx => by obtain ⟨j, hj, rfl⟩ := List.getElem_of_mem hx; exact hall j hj (by omega))]; rfl
          have hls := okS_len h2
          have hS := l13Of_spec l hls.1 hl (by omega) hls.2.2.2
          rw [superI_yes h2]
          obtain ⟨V, hV⟩ : ∃ V, V = superV l := ⟨_, rfl⟩
          rw [← hV] at hS ⊢
          refine AC.region ?_
          refine AL.p (by first | exact mv1 rfl | exact mv2 rfl | exact mv3 rfl | exact mv4 rfl | exact mv5 rfl | exact mv6 rfl | exact mv7 rfl | exact mv8 rfl | exact mv9 rfl) rfl ?_
          refine AL.q (by exact h_pure en_l13Of rfl rfl (by repeat (first | exact rfl | exact DLead.same | exact DLead.nil | refine ⟨_, _, rfl, ?_, ?_⟩ | refine ⟨_, rfl, ?_⟩)) hS rfl) rfl ?_
          refine AL.p (by first | exact as1 rfl | exact as2 rfl | exact as3 rfl | exact as4 rfl | exact as5 rfl | exact as6 rfl | exact as7 rfl | exact as8 rfl | exact as9 rfl) rfl ?_
          refine AL.p (by first | exact as1 rfl | exact as2 rfl | exact as3 rfl | exact as4 rfl | exact as5 rfl | exact as6 rfl | exact as7 rfl | exact as8 rfl | exact as9 rfl) rfl ?_
          refine AL.nil ?_
          refine th_n ?_
          refine AC.ret ?_
          refine bq_r ?_
          exact ret0 rfl (by repeat (first | exact True.intro | refine And.intro ?_ ?_ | exact DLead.same | exact DLead.eqI (by omega) | exact DLead.nil | exact rfl | refine ⟨_, _, rfl, rfl, ?_⟩ | refine ⟨_, rfl, ?_⟩ | refine ⟨_, _, rfl, ?_, ?_⟩))
theorem en_sSuper : Enters Try.prog 11 := enters_of Try.func11 rfl rfl
end Go.Proofs.Ytochebmkfdfbhaa
