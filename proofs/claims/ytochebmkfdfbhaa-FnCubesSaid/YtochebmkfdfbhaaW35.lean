/- Walks: draws of cubes and codes. -/
import Derived.Test.YtochebmkfdfbhaaW34
set_option linter.all false
namespace Go.Proofs.Ytochebmkfdfbhaa
open Go.RowKit

def litN (al : List UInt8) : Nat → Cur → List UInt8 → List UInt8 × Cur
  | 0, c, s => (s, c)
  | j + 1, c, s => litN al j (c.pick al.length).2 (s ++ [al.getD (c.pick al.length).1.toNat 0])
theorem litN_len (al : List UInt8) : ∀ (j : Nat) (c : Cur) (s : List UInt8), (litN al j c s).1.length = s.length + j ∧ (litN al j c s).2.pos ≤ c.pos + 2 * j
  | 0, c, s => ⟨rfl, Nat.le_refl _⟩
  | j + 1, c, s => by
    have h := litN_len al j (c.pick al.length).2 (s ++ [al.getD (c.pick al.length).1.toNat 0])
    have h2 := c.pick_pos al.length
    simp only [List.length_append, List.length_cons, List.length_nil] at h
    simp only [litN]
    exact ⟨by omega, by omega⟩
def Cur.lits (c : Cur) (al : List UInt8) (n : Int) : List UInt8 × Cur := litN al n.toNat c []
theorem Cur.lits_in (c : Cur) (al : List UInt8) (n : Int) : (c.lits al n).1.length = n.toNat ∧ (c.lits al n).2.pos ≤ c.pos + 2 * n.toNat := by
  have h := litN_len al n.toNat c []
  simp only [List.length_nil] at h
  exact ⟨by show (litN _ _ _ _).1.length = _; omega, h.2⟩
theorem lit3_get {k : Nat} (h : k < 3) : ([[dS ⟨#[48]⟩], [dS ⟨#[49]⟩], [dS ⟨#[45]⟩]] : List (List DV))[k]? = some [dS (bstr [([48, 49, 45] : List UInt8).getD k 0])] := by
  match k, h with
  | 0, _ => rfl
  | 1, _ => rfl
  | 2, _ => rfl
theorem lit2_get {k : Nat} (h : k < 2) : ([[dS ⟨#[48]⟩], [dS ⟨#[49]⟩]] : List (List DV))[k]? = some [dS (bstr [([48, 49] : List UInt8).getD k 0])] := by
  match k, h with
  | 0, _ => rfl
  | 1, _ => rfl
set_option maxHeartbeats 2000000 in
theorem cube_spec (c : Cur) (n : Int) (hn : n ≤ 1000) (hp : c.pos ≤ 10000000000000) : ASpec Try.prog 18 [.ptr 0 0, aI n] [(0, curC c)] (Fun1 (aS (bstr (c.lits [48, 49, 45] n).1)) [(0, curC (c.lits [48, 49, 45] n).2)]) := by
  have hs1 : ∀ x : UInt8, (bstr [x]).size = 1 := fun x => bstr_size _
  obtain ⟨R, hR⟩ : ∃ R, R = c.lits [48, 49, 45] n := ⟨_, rfl⟩
  refine ASpec.of Try.func18 rfl rfl fun C hC => ?_
  refine AC.seq ?_
  refine AC.region ?_
  refine AL.p (by first | exact as1 rfl | exact as2 rfl | exact as3 rfl | exact as4 rfl | exact as5 rfl | exact as6 rfl | exact as7 rfl | exact as8 rfl | exact as9 rfl) rfl ?_
  refine AL.nil ?_
  refine th_n ?_
  refine AC.seq ?_
  refine AC.region ?_
  refine AL.p (by first | exact as1 rfl | exact as2 rfl | exact as3 rfl | exact as4 rfl | exact as5 rfl | exact as6 rfl | exact as7 rfl | exact as8 rfl | exact as9 rfl) rfl ?_
  refine AL.nil ?_
  refine th_n ?_
  refine AC.seq ?_
  refine AC.seq ?_
  refine AC.region ?_
  refine AL.p (by first | exact as1 rfl | exact as2 rfl | exact as3 rfl | exact as4 rfl | exact as5 rfl | exact as6 rfl | exact as7 rfl | exact as8 rfl | exact as9 rfl) rfl ?_
  refine AL.nil ?_
  refine th_n ?_
  refine AC.block ?_
  refine AC.loop (ι := Nat × Cur × List UInt8) (fun x => ⟨18, 108, [(0, .ptr 0 0), (1, aI n), (5, aS (bstr x.2.2)), (6, aI x.1)], [(0, some (curC x.2.1))]⟩) (fun x => x.1 ≤ n.toNat ∧ x.2.2.length = x.1 ∧ litN [48, 49, 45] (n.toNat - x.1) x.2.1 x.2.2 = R ∧ x.2.1.pos ≤ c.pos + 2 * x.1) (fun x => n.toNat - x.1) ((0, c, [])) ?_ (⟨Nat.zero_le _, rfl, hR.symm, Nat.le_refl _⟩) ?_
  · exact Weak.ren _ [] hC rfl (by repeat (first | exact True.intro | refine And.intro ?_ ?_ | exact DLead.same | exact DLead.eqI (by omega) | exact DLead.nil | exact rfl | refine ⟨_, _, rfl, rfl, ?_⟩ | refine ⟨_, rfl, ?_⟩ | refine ⟨_, _, rfl, ?_, ?_⟩)) (by repeat (first | exact True.intro | refine And.intro ?_ ?_ | exact DLead.same | exact DLead.eqI (by omega) | exact DLead.nil | exact rfl | refine ⟨_, _, rfl, rfl, ?_⟩ | refine ⟨_, rfl, ?_⟩ | refine ⟨_, _, rfl, ?_, ?_⟩)) rfl rfl rfl
  · rintro ⟨i, cc, s⟩ ⟨hi, hsl, hsub, hpos⟩
    dsimp only at hi hsl hsub hpos ⊢
    refine AC.seq ?_
    refine AC.seq ?_
    refine AC.region ?_
    refine AL.p (by first | exact mv1 rfl | exact mv2 rfl | exact mv3 rfl | exact mv4 rfl | exact mv5 rfl | exact mv6 rfl | exact mv7 rfl | exact mv8 rfl | exact mv9 rfl) rfl ?_
    refine AL.p (by first | exact mv1 rfl | exact mv2 rfl | exact mv3 rfl | exact mv4 rfl | exact mv5 rfl | exact mv6 rfl | exact mv7 rfl | exact mv8 rfl | exact mv9 rfl) rfl ?_
    refine AL.p (by first | exact g_cmp rfl rfl rfl | exact g_scmp rfl rfl rfl | exact g_eqB rfl rfl rfl | exact g_neB rfl rfl rfl) rfl ?_
    refine AL.nil ?_
    refine th_n ?_
    first | refine AC.condD rfl (fun h0 => ?_) (fun h0 => ?_) | refine AC.condND rfl (fun h0 => ?_) (fun h0 => ?_) | refine AC.condB rfl (fun h0 => ?_) (fun h0 => ?_) | refine AC.condNB rfl (fun h0 => ?_) (fun h0 => ?_)
    · refine AC.skip ?_
      refine th_n ?_
      refine AC.seq ?_
      refine AC.block ?_
      have hi1 : i < n.toNat := by omega
      have hpk := cc.pick_in 3 (by decide)
      have hpp := cc.pick_pos 3
      have hget := lit3_get (k := (cc.pick 3).1.toNat) (by omega)
      have hsz : (bstr s).size = i := by rw [bstr_size, hsl]
      obtain ⟨x, hx⟩ : ∃ x, x = ([48, 49, 45] : List UInt8).getD (cc.pick 3).1.toNat 0 := ⟨_, rfl⟩
      have hsub2 : litN [48, 49, 45] (n.toNat - (i + 1)) (cc.pick 3).2 (s ++ [x]) = R := by rw [← hsub, show n.toNat - i = (n.toNat - (i + 1)) + 1 from by omega, hx]; rfl
      rw [← hx] at hget
      refine AC.region ?_
      refine AL.p (by first | exact mv1 rfl | exact mv2 rfl | exact mv3 rfl | exact mv4 rfl | exact mv5 rfl | exact mv6 rfl | exact mv7 rfl | exact mv8 rfl | exact mv9 rfl) rfl ?_
      refine AL.p (by first | exact mv1 rfl | exact mv2 rfl | exact mv3 rfl | exact mv4 rfl | exact mv5 rfl | exact mv6 rfl | exact mv7 rfl | exact mv8 rfl | exact mv9 rfl) rfl ?_
      refine AL.q (by exact h_litF rfl rfl rfl rfl rfl rfl rfl rfl) rfl ?_
      refine AL.q (by exact h_fun (cs := [0]) en_of rfl rfl (by repeat (first | exact rfl | exact DLead.same | exact DLead.nil | refine ⟨_, _, rfl, ?_, ?_⟩ | refine ⟨_, rfl, ?_⟩)) (by repeat (first | exact True.intro | refine And.intro ?_ ?_ | exact DLead.same | exact DLead.eqI (by omega) | exact DLead.nil | exact rfl | refine ⟨_, _, rfl, rfl, ?_⟩ | refine ⟨_, rfl, ?_⟩ | refine ⟨_, _, rfl, ?_, ?_⟩)) (of_spec cc [[dS ⟨#[48]⟩], [dS ⟨#[49]⟩], [dS ⟨#[45]⟩]] (bstr [x]) (by decide) (by decide) (by omega) hget) rfl rfl rfl rfl) rfl ?_
      refine AL.p (by exact g_sadd rfl rfl (by rw [hsz, hs1]; omega)) rfl ?_
      refine AL.p (by first | exact as1 rfl | exact as2 rfl | exact as3 rfl | exact as4 rfl | exact as5 rfl | exact as6 rfl | exact as7 rfl | exact as8 rfl | exact as9 rfl) rfl ?_
      refine AL.nil ?_
      refine ib_n ?_
      refine th_n ?_
      refine AC.region ?_
      refine AL.p (by first | exact mv1 rfl | exact mv2 rfl | exact mv3 rfl | exact mv4 rfl | exact mv5 rfl | exact mv6 rfl | exact mv7 rfl | exact mv8 rfl | exact mv9 rfl) rfl ?_
      refine AL.p (by first | exact g_arith rfl rfl rfl (by first | exact wrap_i64 (by omega) | exact wrap_u8 (by omega) | exact wrap_u64 (by omega) | rfl) | exact g_sadd rfl rfl (by first | assumption | omega | (simp only [ByteArray.size_append, bstr_size, List.length_take, List.length_drop, List.length_cons, List.length_nil]; omega))) rfl ?_
      refine AL.p (by first | exact as1 rfl | exact as2 rfl | exact as3 rfl | exact as4 rfl | exact as5 rfl | exact as6 rfl | exact as7 rfl | exact as8 rfl | exact as9 rfl) rfl ?_
      refine AL.nil ?_
      refine th_n ?_
      exact ⟨(i + 1, (cc.pick 3).2, s ++ [x]), ⟨by show i + 1 ≤ _; omega, by show (s ++ [x]).length = i + 1; rw [List.length_append, hsl]; rfl, hsub2, by show (cc.pick 3).2.pos ≤ c.pos + 2 * (i + 1); omega⟩, by show n.toNat - (i + 1) < n.toNat - i; omega, Weak.ren _ [] hC rfl (by rw [← bstr_append]; repeat (first | exact True.intro | refine And.intro ?_ ?_ | exact DLead.same | exact DLead.eqI (by omega) | exact DLead.nil | exact rfl | refine ⟨_, _, rfl, rfl, ?_⟩ | refine ⟨_, rfl, ?_⟩ | refine ⟨_, _, rfl, ?_, ?_⟩)) (by repeat (first | exact True.intro | refine And.intro ?_ ?_ | exact DLead.same | exact DLead.eqI (by omega) | exact DLead.nil | exact rfl | refine ⟨_, _, rfl, rfl, ?_⟩ | refine ⟨_, rfl, ?_⟩ | refine ⟨_, _, rfl, ?_, ?_⟩)) rfl rfl rfl⟩
    · refine AC.exit ?_
      refine th_e ?_
      refine th_e ?_
      refine ib_y ?_
      refine th_n ?_
      refine AC.seq ?_
      refine AC.region ?_
      refine AL.p (by first | exact mv1 rfl | exact mv2 rfl | exact mv3 rfl | exact mv4 rfl | exact mv5 rfl | exact mv6 rfl | exact mv7 rfl | exact mv8 rfl | exact mv9 rfl) rfl ?_
      refine AL.p (by first | exact as1 rfl | exact as2 rfl | exact as3 rfl | exact as4 rfl | exact as5 rfl | exact as6 rfl | exact as7 rfl | exact as8 rfl | exact as9 rfl) rfl ?_
      refine AL.nil ?_
      refine th_n ?_
      refine AC.ret ?_
      refine bq_r ?_
      have hii : n.toNat - i = 0 := by omega
      rw [hii] at hsub
      have e : c.lits [48, 49, 45] n = (s, cc) := by rw [← hR, ← hsub]; rfl
      exact retF rfl (by rw [e]; repeat (first | exact True.intro | refine And.intro ?_ ?_ | exact DLead.same | exact DLead.eqI (by omega) | exact DLead.nil | exact rfl | refine ⟨_, _, rfl, rfl, ?_⟩ | refine ⟨_, rfl, ?_⟩ | refine ⟨_, _, rfl, ?_, ?_⟩)) (by rw [e]; repeat (first | exact True.intro | refine And.intro ?_ ?_ | exact DLead.same | exact DLead.eqI (by omega) | exact DLead.nil | exact rfl | refine ⟨_, _, rfl, rfl, ?_⟩ | refine ⟨_, rfl, ?_⟩ | refine ⟨_, _, rfl, ?_, ?_⟩)) rfl
theorem en_cube : Enters Try.prog 18 := enters_of Try.func18 rfl rfl
set_option maxHeartbeats 2000000 in
theorem code1_spec (c : Cur) (n : Int) (hn : n ≤ 1000) (hp : c.pos ≤ 10000000000000) : ASpec Try.prog 23 [.ptr 0 0, aI n] [(0, curC c)] (Fun1 (aS (bstr (c.lits [48, 49] n).1)) [(0, curC (c.lits [48, 49] n).2)]) := by
  have hs1 : ∀ x : UInt8, (bstr [x]).size = 1 := fun x => bstr_size _
  obtain ⟨R, hR⟩ : ∃ R, R = c.lits [48, 49] n := ⟨_, rfl⟩
  refine ASpec.of Try.func23 rfl rfl fun C hC => ?_
  refine AC.seq ?_
  refine AC.region ?_
  refine AL.p (by first | exact as1 rfl | exact as2 rfl | exact as3 rfl | exact as4 rfl | exact as5 rfl | exact as6 rfl | exact as7 rfl | exact as8 rfl | exact as9 rfl) rfl ?_
  refine AL.nil ?_
  refine th_n ?_
  refine AC.seq ?_
  refine AC.region ?_
  refine AL.p (by first | exact as1 rfl | exact as2 rfl | exact as3 rfl | exact as4 rfl | exact as5 rfl | exact as6 rfl | exact as7 rfl | exact as8 rfl | exact as9 rfl) rfl ?_
  refine AL.nil ?_
  refine th_n ?_
  refine AC.seq ?_
  refine AC.seq ?_
  refine AC.region ?_
  refine AL.p (by first | exact as1 rfl | exact as2 rfl | exact as3 rfl | exact as4 rfl | exact as5 rfl | exact as6 rfl | exact as7 rfl | exact as8 rfl | exact as9 rfl) rfl ?_
  refine AL.nil ?_
  refine th_n ?_
  refine AC.block ?_
  refine AC.loop (ι := Nat × Cur × List UInt8) (fun x => ⟨18, 108, [(0, .ptr 0 0), (1, aI n), (5, aS (bstr x.2.2)), (6, aI x.1)], [(0, some (curC x.2.1))]⟩) (fun x => x.1 ≤ n.toNat ∧ x.2.2.length = x.1 ∧ litN [48, 49] (n.toNat - x.1) x.2.1 x.2.2 = R ∧ x.2.1.pos ≤ c.pos + 2 * x.1) (fun x => n.toNat - x.1) ((0, c, [])) ?_ (⟨Nat.zero_le _, rfl, hR.symm, Nat.le_refl _⟩) ?_
  · exact Weak.ren _ [] hC rfl (by repeat (first | exact True.intro | refine And.intro ?_ ?_ | exact DLead.same | exact DLead.eqI (by omega) | exact DLead.nil | exact rfl | refine ⟨_, _, rfl, rfl, ?_⟩ | refine ⟨_, rfl, ?_⟩ | refine ⟨_, _, rfl, ?_, ?_⟩)) (by repeat (first | exact True.intro | refine And.intro ?_ ?_ | exact DLead.same | exact DLead.eqI (by omega) | exact DLead.nil | exact rfl | refine ⟨_, _, rfl, rfl, ?_⟩ | refine ⟨_, rfl, ?_⟩ | refine ⟨_, _, rfl, ?_, ?_⟩)) rfl rfl rfl
  · rintro ⟨i, cc, s⟩ ⟨hi, hsl, hsub, hpos⟩
    dsimp only at hi hsl hsub hpos ⊢
    refine AC.seq ?_
    refine AC.seq ?_
    refine AC.region ?_
    refine AL.p (by first | exact mv1 rfl | exact mv2 rfl | exact mv3 rfl | exact mv4 rfl | exact mv5 rfl | exact mv6 rfl | exact mv7 rfl | exact mv8 rfl | exact mv9 rfl) rfl ?_
    refine AL.p (by first | exact mv1 rfl | exact mv2 rfl | exact mv3 rfl | exact mv4 rfl | exact mv5 rfl | exact mv6 rfl | exact mv7 rfl | exact mv8 rfl | exact mv9 rfl) rfl ?_
    refine AL.p (by first | exact g_cmp rfl rfl rfl | exact g_scmp rfl rfl rfl | exact g_eqB rfl rfl rfl | exact g_neB rfl rfl rfl) rfl ?_
    refine AL.nil ?_
    refine th_n ?_
    first | refine AC.condD rfl (fun h0 => ?_) (fun h0 => ?_) | refine AC.condND rfl (fun h0 => ?_) (fun h0 => ?_) | refine AC.condB rfl (fun h0 => ?_) (fun h0 => ?_) | refine AC.condNB rfl (fun h0 => ?_) (fun h0 => ?_)
    · refine AC.skip ?_
      refine th_n ?_
      refine AC.seq ?_
      refine AC.block ?_
      have hi1 : i < n.toNat := by omega
      have hpk := cc.pick_in 2 (by decide)
      have hpp := cc.pick_pos 2
      have hget := lit2_get (k := (cc.pick 2).1.toNat) (by omega)
      have hsz : (bstr s).size = i := by rw [bstr_size, hsl]
      obtain ⟨x, hx⟩ : ∃ x, x = ([48, 49] : List UInt8).getD (cc.pick 2).1.toNat 0 := ⟨_, rfl⟩
      have hsub2 : litN [48, 49] (n.toNat - (i + 1)) (cc.pick 2).2 (s ++ [x]) = R := by rw [← hsub, show n.toNat - i = (n.toNat - (i + 1)) + 1 from by omega, hx]; rfl
      rw [← hx] at hget
      refine AC.region ?_
      refine AL.p (by first | exact mv1 rfl | exact mv2 rfl | exact mv3 rfl | exact mv4 rfl | exact mv5 rfl | exact mv6 rfl | exact mv7 rfl | exact mv8 rfl | exact mv9 rfl) rfl ?_
      refine AL.p (by first | exact mv1 rfl | exact mv2 rfl | exact mv3 rfl | exact mv4 rfl | exact mv5 rfl | exact mv6 rfl | exact mv7 rfl | exact mv8 rfl | exact mv9 rfl) rfl ?_
      refine AL.q (by exact h_litF rfl rfl rfl rfl rfl rfl rfl rfl) rfl ?_
      refine AL.q (by exact h_fun (cs := [0]) en_of rfl rfl (by repeat (first | exact rfl | exact DLead.same | exact DLead.nil | refine ⟨_, _, rfl, ?_, ?_⟩ | refine ⟨_, rfl, ?_⟩)) (by repeat (first | exact True.intro | refine And.intro ?_ ?_ | exact DLead.same | exact DLead.eqI (by omega) | exact DLead.nil | exact rfl | refine ⟨_, _, rfl, rfl, ?_⟩ | refine ⟨_, rfl, ?_⟩ | refine ⟨_, _, rfl, ?_, ?_⟩)) (of_spec cc [[dS ⟨#[48]⟩], [dS ⟨#[49]⟩]] (bstr [x]) (by decide) (by decide) (by omega) hget) rfl rfl rfl rfl) rfl ?_
      refine AL.p (by exact g_sadd rfl rfl (by rw [hsz, hs1]; omega)) rfl ?_
      refine AL.p (by first | exact as1 rfl | exact as2 rfl | exact as3 rfl | exact as4 rfl | exact as5 rfl | exact as6 rfl | exact as7 rfl | exact as8 rfl | exact as9 rfl) rfl ?_
      refine AL.nil ?_
      refine ib_n ?_
      refine th_n ?_
      refine AC.region ?_
      refine AL.p (by first | exact mv1 rfl | exact mv2 rfl | exact mv3 rfl | exact mv4 rfl | exact mv5 rfl | exact mv6 rfl | exact mv7 rfl | exact mv8 rfl | exact mv9 rfl) rfl ?_
      refine AL.p (by first | exact g_arith rfl rfl rfl (by first | exact wrap_i64 (by omega) | exact wrap_u8 (by omega) | exact wrap_u64 (by omega) | rfl) | exact g_sadd rfl rfl (by first | assumption | omega | (simp only [ByteArray.size_append, bstr_size, List.length_take, List.length_drop, List.length_cons, List.length_nil]; omega))) rfl ?_
      refine AL.p (by first | exact as1 rfl | exact as2 rfl | exact as3 rfl | exact as4 rfl | exact as5 rfl | exact as6 rfl | exact as7 rfl | exact as8 rfl | exact as9 rfl) rfl ?_
      refine AL.nil ?_
      refine th_n ?_
      exact ⟨(i + 1, (cc.pick 2).2, s ++ [x]), ⟨by show i + 1 ≤ _; omega, by show (s ++ [x]).length = i + 1; rw [List.length_append, hsl]; rfl, hsub2, by show (cc.pick 2).2.pos ≤ c.pos + 2 * (i + 1); omega⟩, by show n.toNat - (i + 1) < n.toNat - i; omega, Weak.ren _ [] hC rfl (by rw [← bstr_append]; repeat (first | exact True.intro | refine And.intro ?_ ?_ | exact DLead.same | exact DLead.eqI (by omega) | exact DLead.nil | exact rfl | refine ⟨_, _, rfl, rfl, ?_⟩ | refine ⟨_, rfl, ?_⟩ | refine ⟨_, _, rfl, ?_, ?_⟩)) (by repeat (first | exact True.intro | refine And.intro ?_ ?_ | exact DLead.same | exact DLead.eqI (by omega) | exact DLead.nil | exact rfl | refine ⟨_, _, rfl, rfl, ?_⟩ | refine ⟨_, rfl, ?_⟩ | refine ⟨_, _, rfl, ?_, ?_⟩)) rfl rfl rfl⟩
    · refine AC.exit ?_
      refine th_e ?_
      refine th_e ?_
      refine ib_y ?_
      refine th_n ?_
      refine AC.seq ?_
      refine AC.region ?_
      refine AL.p (by first | exact mv1 rfl | exact mv2 rfl | exact mv3 rfl | exact mv4 rfl | exact mv5 rfl | exact mv6 rfl | exact mv7 rfl | exact mv8 rfl | exact mv9 rfl) rfl ?_
      refine AL.p (by first | exact as1 rfl | exact as2 rfl | exact as3 rfl | exact as4 rfl | exact as5 rfl | exact as6 rfl | exact as7 rfl | exact as8 rfl | exact as9 rfl) rfl ?_
      refine AL.nil ?_
      refine th_n ?_
      refine AC.ret ?_
      refine bq_r ?_
      have hii : n.toNat - i = 0 := by omega
      rw [hii] at hsub
      have e : c.lits [48, 49] n = (s, cc) := by rw [← hR, ← hsub]; rfl
      exact retF rfl (by rw [e]; repeat (first | exact True.intro | refine And.intro ?_ ?_ | exact DLead.same | exact DLead.eqI (by omega) | exact DLead.nil | exact rfl | refine ⟨_, _, rfl, rfl, ?_⟩ | refine ⟨_, rfl, ?_⟩ | refine ⟨_, _, rfl, ?_, ?_⟩)) (by rw [e]; repeat (first | exact True.intro | refine And.intro ?_ ?_ | exact DLead.same | exact DLead.eqI (by omega) | exact DLead.nil | exact rfl | refine ⟨_, _, rfl, rfl, ?_⟩ | refine ⟨_, rfl, ?_⟩ | refine ⟨_, _, rfl, ?_, ?_⟩)) rfl
theorem en_code1 : Enters Try.prog 23 := enters_of Try.func23 rfl rfl
end Go.Proofs.Ytochebmkfdfbhaa
