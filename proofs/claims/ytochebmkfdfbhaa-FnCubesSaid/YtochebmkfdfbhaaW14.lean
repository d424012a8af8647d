/- Walks: spoilt texts. -/
import Derived.Test.YtochebmkfdfbhaaW13
set_option linter.all false
namespace Go.Proofs.Ytochebmkfdfbhaa
open Go.RowKit

/-- One spoiling. -/
def spoil1 (c : Cur) (s al : List UInt8) : List UInt8 :=
  if (((c.pick s.length).2.pick al.length).2.pick 3).1 = 0 then s.take (c.pick s.length).1.toNat ++ [al.getD ((c.pick s.length).2.pick al.length).1.toNat 0] ++ s.drop (c.pick s.length).1.toNat
  else if (((c.pick s.length).2.pick al.length).2.pick 3).1 = 1 then s.take (c.pick s.length).1.toNat ++ [al.getD ((c.pick s.length).2.pick al.length).1.toNat 0] ++ s.drop ((c.pick s.length).1.toNat + 1)
  else s.take (c.pick s.length).1.toNat ++ s.drop ((c.pick s.length).1.toNat + 1)
def spoilC (c : Cur) (s al : List UInt8) : Cur := (((c.pick s.length).2.pick al.length).2.pick 3).2
def spoilN (al : List UInt8) : Nat → Cur → List UInt8 → List UInt8 × Cur
  | 0, c, s => (s, c)
  | j + 1, c, s => if s.length = 0 then (s, c) else spoilN al j (spoilC c s al) (spoil1 c s al)
theorem spoilN_nil {al : List UInt8} {j : Nat} {c : Cur} {s : List UInt8} (h : s.length = 0) : spoilN al j c s = (s, c) := by
  cases j with
  | zero => rfl
  | succ j => rw [spoilN, if_pos h]
theorem spoil1_len (c : Cur) (s al : List UInt8) (hs : 0 < s.length) : (spoil1 c s al).length ≤ s.length + 1 := by
  have h := c.pick_in s.length (by omega)
  unfold spoil1
  split
  · simp; omega
  · split <;> (simp; omega)
theorem spoilC_pos (c : Cur) (s al : List UInt8) : (spoilC c s al).pos ≤ c.pos + 6 ∧ (spoilC c s al).code = c.code := by
  have h1 := c.pick_pos s.length
  have h2 := (c.pick s.length).2.pick_pos al.length
  have h3 := ((c.pick s.length).2.pick al.length).2.pick_pos 3
  refine ⟨by unfold spoilC; omega, ?_⟩
  unfold spoilC
  rw [Cur.pick_code, Cur.pick_code, Cur.pick_code]
theorem spoilN_len (al : List UInt8) : ∀ (j : Nat) (c : Cur) (s : List UInt8), (spoilN al j c s).1.length ≤ s.length + j ∧ (spoilN al j c s).2.pos ≤ c.pos + 6 * j ∧ (spoilN al j c s).2.code = c.code
  | 0, c, s => ⟨Nat.le_refl _, Nat.le_refl _, rfl⟩
  | j + 1, c, s => by
    unfold spoilN
    split
    · exact ⟨by show s.length ≤ _; omega, by show c.pos ≤ _; omega, rfl⟩
    · rename_i hs
      have h := spoilN_len al j (spoilC c s al) (spoil1 c s al)
      have h1 := spoil1_len c s al (by omega)
      have h2 := spoilC_pos c s al
      exact ⟨by omega, by omega, by rw [h.2.2, h2.2]⟩
def Cur.spoilt (c : Cur) (s al : List UInt8) : List UInt8 × Cur := spoilN al (1 + (c.pick 2).1).toNat (c.pick 2).2 s
theorem Cur.spoilt_in (c : Cur) (s al : List UInt8) : (c.spoilt s al).1.length ≤ s.length + 2 ∧ (c.spoilt s al).2.pos ≤ c.pos + 14 ∧ (c.spoilt s al).2.code = c.code := by
  have h := spoilN_len al (1 + (c.pick 2).1).toNat (c.pick 2).2 s
  have h1 := c.pick_in 2 (by decide)
  have h2 := c.pick_pos 2
  have h3 := c.pick_code 2
  refine ⟨?_, ?_, ?_⟩
  · show (spoilN _ _ _ _).1.length ≤ _; omega
  · show (spoilN _ _ _ _).2.pos ≤ _; omega
  · show (spoilN _ _ _ _).2.code = _; rw [h.2.2, h3]
theorem bstr_cut (s : List UInt8) {l h : Nat} (hl : l ≤ h) (hh : h ≤ s.length) : (bstr s).extract l h = bstr ((s.take h).drop l) := by
  have : ((bstr s).extract l h).data.toList = (s.take h).drop l := by
    simp [bstr, ByteArray.data_extract, List.extract_eq_drop_take, List.drop_take]
  rw [← bstr_of ((bstr s).extract l h), this]
set_option maxHeartbeats 4000000 in
theorem spoilt_spec (c : Cur) (s al : List UInt8) (hs : s.length ≤ 50000) (ha0 : 0 < al.length) (ha : al.length ≤ 60000) (hp : c.pos ≤ 10000000000000) : ASpec Try.prog 35 [.ptr 0 0, aS (bstr s), aS (bstr al)] [(0, curC c)] (Fun1 (aS (bstr (c.spoilt s al).1)) [(0, curC (c.spoilt s al).2)]) := by
  have hpi := c.pick_in 2 (by decide)
  have hpp := c.pick_pos 2
  have hasz := bstr_size al
  refine ASpec.of Try.func35 rfl rfl fun C hC => ?_
  refine AC.seq ?_
  refine AC.region ?_
  refine AL.p (by first | exact as1 rfl | exact as2 rfl | exact as3 rfl | exact as4 rfl | exact as5 rfl | exact as6 rfl | exact as7 rfl | exact as8 rfl | exact as9 rfl) rfl ?_
  refine AL.nil ?_
  refine th_n ?_
  refine AC.seq ?_
  refine AC.seq ?_
  refine AC.region ?_
  refine AL.p (by first | exact mv1 rfl | exact mv2 rfl | exact mv3 rfl | exact mv4 rfl | exact mv5 rfl | exact mv6 rfl | exact mv7 rfl | exact mv8 rfl | exact mv9 rfl) rfl ?_
  refine AL.q (by exact h_fun (cs := [0]) en_pick rfl rfl (by repeat (first | exact rfl | exact DLead.same | exact DLead.nil | refine ⟨_, _, rfl, ?_, ?_⟩ | refine ⟨_, rfl, ?_⟩ | exact ⟨_, rfl, rfl⟩)) (by repeat (first | exact True.intro | refine And.intro ?_ ?_ | exact DLead.same | exact DLead.eqI (by omega) | exact DLead.nil | exact rfl | refine ⟨_, _, rfl, rfl, ?_⟩ | refine ⟨_, rfl, ?_⟩ | refine ⟨_, _, rfl, ?_, ?_⟩)) (pick_spec _ _ (by first | assumption | omega) (by first | assumption | omega)) rfl rfl rfl rfl) rfl ?_
  refine AL.p (by first | exact g_arith rfl rfl rfl (by first | exact wrap_i64 (by omega) | exact wrap_u8 (by omega) | exact wrap_u64 (by omega) | rfl) | exact g_sadd rfl rfl (by first | assumption | omega | (simp only [ByteArray.size_append, bstr_size, List.length_take, List.length_drop, List.length_cons, List.length_nil]; omega))) rfl ?_
  refine AL.p (by first | exact as1 rfl | exact as2 rfl | exact as3 rfl | exact as4 rfl | exact as5 rfl | exact as6 rfl | exact as7 rfl | exact as8 rfl | exact as9 rfl) rfl ?_
  refine AL.nil ?_
  refine th_n ?_
  refine AC.block ?_
  refine AC.loop (ι := Nat × Cur × List UInt8) (fun x => ⟨68, 8, [(0, .ptr 0 0), (1, aS (bstr x.2.2)), (2, aS (bstr al)), (7, aI x.1)], [(0, some (curC x.2.1))]⟩) (fun x => spoilN al x.1 x.2.1 x.2.2 = c.spoilt s al ∧ x.2.2.length + x.1 ≤ 60000 ∧ x.2.1.pos + 6 * x.1 ≤ 20000000000000) (fun x => x.1) (((1 + (c.pick 2).1).toNat, (c.pick 2).2, s)) ?_ (⟨rfl, by show s.length + (1 + (c.pick 2).1).toNat ≤ _; omega, by show (c.pick 2).2.pos + 6 * (1 + (c.pick 2).1).toNat ≤ _; omega⟩) ?_
  · exact Weak.ren _ [] hC rfl (by repeat (first | exact True.intro | refine And.intro ?_ ?_ | exact DLead.same | exact DLead.eqI (by omega) | exact DLead.nil | exact rfl | refine ⟨_, _, rfl, rfl, ?_⟩ | refine ⟨_, rfl, ?_⟩ | refine ⟨_, _, rfl, ?_, ?_⟩)) (by repeat (first | exact True.intro | refine And.intro ?_ ?_ | exact DLead.same | exact DLead.eqI (by omega) | exact DLead.nil | exact rfl | refine ⟨_, _, rfl, rfl, ?_⟩ | refine ⟨_, rfl, ?_⟩ | refine ⟨_, _, rfl, ?_, ?_⟩)) rfl rfl rfl
  · rintro ⟨j, cc, m⟩ ⟨hsub, hlen, hpos⟩
    dsimp only at hsub hlen hpos ⊢
    have hsz := bstr_size m
    refine AC.seq ?_
    refine AC.seq ?_
    refine AC.region ?_
    refine AL.p (by first | exact mv1 rfl | exact mv2 rfl | exact mv3 rfl | exact mv4 rfl | exact mv5 rfl | exact mv6 rfl | exact mv7 rfl | exact mv8 rfl | exact mv9 rfl) rfl ?_
    refine AL.p (by first | exact g_cmp rfl rfl rfl | exact g_scmp rfl rfl rfl | exact g_eqB rfl rfl rfl | exact g_neB rfl rfl rfl) rfl ?_
    refine AL.p (by first | exact mv1 rfl | exact mv2 rfl | exact mv3 rfl | exact mv4 rfl | exact mv5 rfl | exact mv6 rfl | exact mv7 rfl | exact mv8 rfl | exact mv9 rfl) rfl ?_
    first | refine AL.caseG rfl rfl (fun h0 => ?_) (fun h0 => ?_) | refine AL.caseGN rfl rfl (fun h0 => ?_) (fun h0 => ?_) | refine AL.caseGB rfl rfl (fun h0 => ?_) (fun h0 => ?_) | refine AL.caseGNB rfl rfl (fun h0 => ?_) (fun h0 => ?_)
    · refine AL.yes rfl rfl rfl ?_
      refine AL.p (by first | exact mv1 rfl | exact mv2 rfl | exact mv3 rfl | exact mv4 rfl | exact mv5 rfl | exact mv6 rfl | exact mv7 rfl | exact mv8 rfl | exact mv9 rfl) rfl ?_
      refine AL.yes rfl rfl rfl ?_
      refine AL.p (by exact g_len_str (k := m.length) rfl rfl hsz) rfl ?_
      refine AL.yes rfl rfl rfl ?_
      refine AL.p (by first | exact g_cmp rfl rfl rfl | exact g_scmp rfl rfl rfl | exact g_eqB rfl rfl rfl | exact g_neB rfl rfl rfl) rfl ?_
      refine AL.p (by first | exact g_pickT (r := .d _) rfl rfl | exact g_pickF (r := .d _) rfl rfl) rfl ?_
      refine AL.nil ?_
      refine th_n ?_
      first | refine AC.condD rfl (fun h1 => ?_) (fun h1 => ?_) | refine AC.condND rfl (fun h1 => ?_) (fun h1 => ?_) | refine AC.condB rfl (fun h1 => ?_) (fun h1 => ?_) | refine AC.condNB rfl (fun h1 => ?_) (fun h1 => ?_)
      · refine AC.skip ?_
        refine th_n ?_
        refine AC.seq ?_
        refine AC.block ?_
        refine AC.seq ?_
        obtain ⟨i, rfl⟩ : ∃ i, j = i + 1 := ⟨j - 1, by omega⟩
        have hm0 : 0 < m.length := by omega
        have e1 : spoilN al i (spoilC cc m al) (spoil1 cc m al) = c.spoilt s al := by rw [← hsub, spoilN, if_neg (by omega)]
        have hl1 := spoil1_len cc m al hm0
        have hl2 := spoilC_pos cc m al
        have hk := cc.pick_in m.length (by omega)
        have hkp := cc.pick_pos m.length
        have hk2 := (cc.pick m.length).2.pick_in al.length (by omega)
        have hkp2 := (cc.pick m.length).2.pick_pos al.length
        have hI : ((cc.pick m.length).2.pick al.length).1 = ((((cc.pick m.length).2.pick al.length).1.toNat : Nat) : Int) := by omega
        have hget : (bstr al).data.toList[((cc.pick m.length).2.pick al.length).1.toNat]? = some (al.getD ((cc.pick m.length).2.pick al.length).1.toNat 0) := bstr_getD (by omega)
        refine AC.region ?_
        refine AL.p (by first | exact mv1 rfl | exact mv2 rfl | exact mv3 rfl | exact mv4 rfl | exact mv5 rfl | exact mv6 rfl | exact mv7 rfl | exact mv8 rfl | exact mv9 rfl) rfl ?_
        refine AL.p (by first | exact mv1 rfl | exact mv2 rfl | exact mv3 rfl | exact mv4 rfl | exact mv5 rfl | exact mv6 rfl | exact mv7 rfl | exact mv8 rfl | exact mv9 rfl) rfl ?_
        refine AL.p (by exact g_len_str (k := m.length) rfl rfl hsz) rfl ?_
        refine AL.q (by exact h_fun (cs := [0]) en_pick rfl rfl (by repeat (first | exact rfl | exact DLead.same | exact DLead.nil | refine ⟨_, _, rfl, ?_, ?_⟩ | refine ⟨_, rfl, ?_⟩ | exact ⟨_, rfl, rfl⟩)) (by repeat (first | exact True.intro | refine And.intro ?_ ?_ | exact DLead.same | exact DLead.eqI (by omega) | exact DLead.nil | exact rfl | refine ⟨_, _, rfl, rfl, ?_⟩ | refine ⟨_, rfl, ?_⟩ | refine ⟨_, _, rfl, ?_, ?_⟩)) (pick_spec _ _ (by first | assumption | omega) (by first | assumption | omega)) rfl rfl rfl rfl) rfl ?_
        refine AL.p (by first | exact as1 rfl | exact as2 rfl | exact as3 rfl | exact as4 rfl | exact as5 rfl | exact as6 rfl | exact as7 rfl | exact as8 rfl | exact as9 rfl) rfl ?_
        refine AL.nil ?_
        refine th_n ?_
        refine AC.seq ?_
        refine AC.region ?_
        refine AL.p (by first | exact mv1 rfl | exact mv2 rfl | exact mv3 rfl | exact mv4 rfl | exact mv5 rfl | exact mv6 rfl | exact mv7 rfl | exact mv8 rfl | exact mv9 rfl) rfl ?_
        refine AL.p (by first | exact mv1 rfl | exact mv2 rfl | exact mv3 rfl | exact mv4 rfl | exact mv5 rfl | exact mv6 rfl | exact mv7 rfl | exact mv8 rfl | exact mv9 rfl) rfl ?_
        refine AL.p (by first | exact mv1 rfl | exact mv2 rfl | exact mv3 rfl | exact mv4 rfl | exact mv5 rfl | exact mv6 rfl | exact mv7 rfl | exact mv8 rfl | exact mv9 rfl) rfl ?_
        refine AL.p (by exact g_len_str (k := al.length) rfl rfl hasz) rfl ?_
        refine AL.q (by exact h_fun (cs := [0]) en_pick rfl rfl (by repeat (first | exact rfl | exact DLead.same | exact DLead.nil | refine ⟨_, _, rfl, ?_, ?_⟩ | refine ⟨_, rfl, ?_⟩ | exact ⟨_, rfl, rfl⟩)) (by repeat (first | exact True.intro | refine And.intro ?_ ?_ | exact DLead.same | exact DLead.eqI (by omega) | exact DLead.nil | exact rfl | refine ⟨_, _, rfl, rfl, ?_⟩ | refine ⟨_, rfl, ?_⟩ | refine ⟨_, _, rfl, ?_, ?_⟩)) (pick_spec _ _ (by first | assumption | omega) (by first | assumption | omega)) rfl rfl rfl rfl) rfl ?_
        refine AL.p (by exact g_index rfl rfl rfl (by first | rfl | assumption) (by assumption)) rfl ?_
        refine AL.q (by exact h_lit rfl rfl rfl rfl rfl rfl rfl rfl) rfl ?_
        refine AL.p (by exact g_strOfBytes (l := [al.getD ((cc.pick m.length).2.pick al.length).1.toNat 0]) rfl rfl rfl rfl rfl rfl rfl) rfl ?_
        refine AL.p (by first | exact as1 rfl | exact as2 rfl | exact as3 rfl | exact as4 rfl | exact as5 rfl | exact as6 rfl | exact as7 rfl | exact as8 rfl | exact as9 rfl) rfl ?_
        refine AL.nil ?_
        refine th_n ?_
        refine AC.seq ?_
        refine AC.region ?_
        refine AL.p (by first | exact mv1 rfl | exact mv2 rfl | exact mv3 rfl | exact mv4 rfl | exact mv5 rfl | exact mv6 rfl | exact mv7 rfl | exact mv8 rfl | exact mv9 rfl) rfl ?_
        refine AL.q (by exact h_fun (cs := [0]) en_pick rfl rfl (by repeat (first | exact rfl | exact DLead.same | exact DLead.nil | refine ⟨_, _, rfl, ?_, ?_⟩ | refine ⟨_, rfl, ?_⟩ | exact ⟨_, rfl, rfl⟩)) (by repeat (first | exact True.intro | refine And.intro ?_ ?_ | exact DLead.same | exact DLead.eqI (by omega) | exact DLead.nil | exact rfl | refine ⟨_, _, rfl, rfl, ?_⟩ | refine ⟨_, rfl, ?_⟩ | refine ⟨_, _, rfl, ?_, ?_⟩)) (pick_spec _ _ (by first | assumption | omega) (by first | assumption | omega)) rfl rfl rfl rfl) rfl ?_
        refine AL.nil ?_
        refine th_n ?_
        refine AC.block ?_
        refine AC.seq ?_
        obtain ⟨K, hK⟩ : ∃ K, K = (cc.pick m.length).1.toNat := ⟨_, rfl⟩
        have hKI : (cc.pick m.length).1 = (K : Int) := by omega
        have hKJ : (cc.pick m.length).1 + 1 = ((K + 1 : Nat) : Int) := by omega
        have hKm : K + 1 ≤ m.length := by omega
        have hx1 : (bstr m).extract 0 K = bstr (m.take K) := by rw [bstr_cut m (Nat.zero_le _) (by omega)]; rfl
        have hx2 : (bstr m).extract K (bstr m).size = bstr (m.drop K) := by rw [hsz, bstr_cut m (by omega) (Nat.le_refl _), List.take_length]
        have hx3 : (bstr m).extract (K + 1) (bstr m).size = bstr (m.drop (K + 1)) := by rw [hsz, bstr_cut m (by omega) (Nat.le_refl _), List.take_length]
        refine AC.region ?_
        refine AL.p (by first | exact g_cmp rfl rfl rfl | exact g_scmp rfl rfl rfl | exact g_eqB rfl rfl rfl | exact g_neB rfl rfl rfl) rfl ?_
        refine AL.p (by first | exact as1 rfl | exact as2 rfl | exact as3 rfl | exact as4 rfl | exact as5 rfl | exact as6 rfl | exact as7 rfl | exact as8 rfl | exact as9 rfl) rfl ?_
        refine AL.nil ?_
        refine th_n ?_
        first | refine AC.condD rfl (fun h2 => ?_) (fun h2 => ?_) | refine AC.condND rfl (fun h2 => ?_) (fun h2 => ?_) | refine AC.condB rfl (fun h2 => ?_) (fun h2 => ?_) | refine AC.condNB rfl (fun h2 => ?_) (fun h2 => ?_)
        · refine AC.drawn' mixed_ok [[], [], [0,1], [], [0,1,2,3], [], [], [5,6], [0,1,2,3,4,5,6,7], [0,1,2,3,4,5,6,7,8]] (by decide) ?_
          refine DF.op 0 [] 10 rfl rfl rfl (.free rfl (NOp.of (by first | exact mv1 rfl | exact mv2 rfl | exact mv3 rfl | exact mv4 rfl | exact mv5 rfl | exact mv6 rfl | exact mv7 rfl | exact mv8 rfl | exact mv9 rfl))) rfl ?_
          refine DF.op 1 [] 10 rfl rfl rfl (.free rfl (NOp.of (by first | exact mv1 rfl | exact mv2 rfl | exact mv3 rfl | exact mv4 rfl | exact mv5 rfl | exact mv6 rfl | exact mv7 rfl | exact mv8 rfl | exact mv9 rfl))) rfl ?_
          refine DF.op 2 [0,1] 10 rfl rfl rfl (.free rfl (NOp.of (by exact g_slice_str (h := K) rfl rfl .none (.some rfl hKI) (Nat.zero_le _) (by omega) hx1))) rfl ?_
          refine DF.op 3 [] 10 rfl rfl rfl (.free rfl (NOp.of (by first | exact mv1 rfl | exact mv2 rfl | exact mv3 rfl | exact mv4 rfl | exact mv5 rfl | exact mv6 rfl | exact mv7 rfl | exact mv8 rfl | exact mv9 rfl))) rfl ?_
          refine DF.op 4 [0,1,2,3] 10 rfl rfl rfl (.free rfl (NOp.of (by first | exact g_arith rfl rfl rfl (by first | exact wrap_i64 (by omega) | exact wrap_u8 (by omega) | exact wrap_u64 (by omega) | rfl) | exact g_sadd rfl rfl (by first | assumption | omega | (simp only [ByteArray.size_append, bstr_size, List.length_take, List.length_drop, List.length_cons, List.length_nil]; omega))))) rfl ?_
          refine DF.op 5 [] 10 rfl rfl rfl (.free rfl (NOp.of (by first | exact mv1 rfl | exact mv2 rfl | exact mv3 rfl | exact mv4 rfl | exact mv5 rfl | exact mv6 rfl | exact mv7 rfl | exact mv8 rfl | exact mv9 rfl))) rfl ?_
          refine DF.op 6 [] 10 rfl rfl rfl (.free rfl (NOp.of (by first | exact mv1 rfl | exact mv2 rfl | exact mv3 rfl | exact mv4 rfl | exact mv5 rfl | exact mv6 rfl | exact mv7 rfl | exact mv8 rfl | exact mv9 rfl))) rfl ?_
          refine DF.op 7 [5,6] 10 rfl rfl rfl (.free rfl (NOp.of (by exact g_slice_str (l := K) rfl rfl (.some rfl hKI) .none (by omega) (Nat.le_refl _) hx2))) rfl ?_
          refine DF.op 8 [0,1,2,3,4,5,6,7] 10 rfl rfl rfl (.free rfl (NOp.of (by first | exact g_arith rfl rfl rfl (by first | exact wrap_i64 (by omega) | exact wrap_u8 (by omega) | exact wrap_u64 (by omega) | rfl) | exact g_sadd rfl rfl (by first | assumption | omega | (simp only [ByteArray.size_append, bstr_size, List.length_take, List.length_drop, List.length_cons, List.length_nil]; omega))))) rfl ?_
          refine DF.op 9 [0,1,2,3,4,5,6,7,8] 10 rfl rfl rfl (.free rfl (NOp.of (by first | exact as1 rfl | exact as2 rfl | exact as3 rfl | exact as4 rfl | exact as5 rfl | exact as6 rfl | exact as7 rfl | exact as8 rfl | exact as9 rfl))) rfl ?_
          refine DF.fin (ps := [(0, 1), (0, 3), (0, 5), (0, 6), (0, 7), (1, 0), (1, 3), (1, 5), (1, 6), (1, 7), (2, 3), (2, 5), (2, 6), (2, 7), (3, 0), (3, 1), (3, 2), (3, 5), (3, 6), (3, 7), (4, 5), (4, 6), (4, 7), (5, 0), (5, 1), (5, 2), (5, 3), (5, 4), (5, 6), (6, 0), (6, 1), (6, 2), (6, 3), (6, 4), (6, 5), (7, 0), (7, 1), (7, 2), (7, 3), (7, 4)]) 10 rfl (by decide +kernel) (by decide +kernel) (by rfl) ?_
          refine ib_n ?_
          refine ib_n ?_
          refine th_n ?_
          refine AC.region ?_
          refine AL.p (by first | exact mv1 rfl | exact mv2 rfl | exact mv3 rfl | exact mv4 rfl | exact mv5 rfl | exact mv6 rfl | exact mv7 rfl | exact mv8 rfl | exact mv9 rfl) rfl ?_
          refine AL.p (by exact g_arith rfl rfl rfl (by first | exact wrap_i64 (by omega) | exact wrap_u8 (by omega) | exact wrap_u64 (by omega) | rfl)) rfl ?_
          refine AL.p (by first | exact as1 rfl | exact as2 rfl | exact as3 rfl | exact as4 rfl | exact as5 rfl | exact as6 rfl | exact as7 rfl | exact as8 rfl | exact as9 rfl) rfl ?_
          refine AL.nil ?_
          refine th_n ?_
          first | (have e2 : bstr (spoil1 cc m al) = bstr (m.take K) ++ bstr [al.getD ((cc.pick m.length).2.pick al.length).1.toNat 0] ++ bstr (m.drop K) := (by unfold spoil1; rw [if_pos h2, ← hK, bstr_append, bstr_append]); exact ⟨(i, spoilC cc m al, spoil1 cc m al), ⟨e1, by show (spoil1 cc m al).length + i ≤ _; omega, by show (spoilC cc m al).pos + 6 * i ≤ _; omega⟩, by show i < i + 1; omega, Weak.ren _ [] hC rfl (by rw [e2]; repeat (first | exact True.intro | refine And.intro ?_ ?_ | exact DLead.same | exact DLead.eqI (by omega) | exact DLead.nil | exact rfl | refine ⟨_, _, rfl, rfl, ?_⟩ | refine ⟨_, rfl, ?_⟩ | refine ⟨_, _, rfl, ?_, ?_⟩)) (by repeat (first | exact True.intro | refine And.intro ?_ ?_ | exact DLead.same | exact DLead.eqI (by omega) | exact DLead.nil | exact rfl | refine ⟨_, _, rfl, rfl, ?_⟩ | refine ⟨_, rfl, ?_⟩ | refine ⟨_, _, rfl, ?_, ?_⟩)) rfl rfl rfl⟩) | (have e2 : bstr (spoil1 cc m al) = bstr (m.take K) ++ bstr [al.getD ((cc.pick m.length).2.pick al.length).1.toNat 0] ++ bstr (m.drop (K + 1)) := (by unfold spoil1; rw [if_neg h2, if_pos h3, ← hK, bstr_append, bstr_append]); exact ⟨(i, spoilC cc m al, spoil1 cc m al), ⟨e1, by show (spoil1 cc m al).length + i ≤ _; omega, by show (spoilC cc m al).pos + 6 * i ≤ _; omega⟩, by show i < i + 1; omega, Weak.ren _ [] hC rfl (by rw [e2]; repeat (first | exact True.intro | refine And.intro ?_ ?_ | exact DLead.same | exact DLead.eqI (by omega) | exact DLead.nil | exact rfl | refine ⟨_, _, rfl, rfl, ?_⟩ | refine ⟨_, rfl, ?_⟩ | refine ⟨_, _, rfl, ?_, ?_⟩)) (by repeat (first | exact True.intro | refine And.intro ?_ ?_ | exact DLead.same | exact DLead.eqI (by omega) | exact DLead.nil | exact rfl | refine ⟨_, _, rfl, rfl, ?_⟩ | refine ⟨_, rfl, ?_⟩ | refine ⟨_, _, rfl, ?_, ?_⟩)) rfl rfl rfl⟩) | (have e2 : bstr (spoil1 cc m al) = bstr (m.take K) ++ bstr (m.drop (K + 1)) := (by unfold spoil1; rw [if_neg h2, if_neg h3, ← hK, bstr_append]); exact ⟨(i, spoilC cc m al, spoil1 cc m al), ⟨e1, by show (spoil1 cc m al).length + i ≤ _; omega, by show (spoilC cc m al).pos + 6 * i ≤ _; omega⟩, by show i < i + 1; omega, Weak.ren _ [] hC rfl (by rw [e2]; repeat (first | exact True.intro | refine And.intro ?_ ?_ | exact DLead.same | exact DLead.eqI (by omega) | exact DLead.nil | exact rfl | refine ⟨_, _, rfl, rfl, ?_⟩ | refine ⟨_, rfl, ?_⟩ | refine ⟨_, _, rfl, ?_, ?_⟩)) (by repeat (first | exact True.intro | refine And.intro ?_ ?_ | exact DLead.same | exact DLead.eqI (by omega) | exact DLead.nil | exact rfl | refine ⟨_, _, rfl, rfl, ?_⟩ | refine ⟨_, rfl, ?_⟩ | refine ⟨_, _, rfl, ?_, ?_⟩)) rfl rfl rfl⟩)
        · refine AC.seq ?_
          refine AC.region ?_
          refine AL.p (by first | exact g_cmp rfl rfl rfl | exact g_scmp rfl rfl rfl | exact g_eqB rfl rfl rfl | exact g_neB rfl rfl rfl) rfl ?_
          refine AL.p (by first | exact as1 rfl | exact as2 rfl | exact as3 rfl | exact as4 rfl | exact as5 rfl | exact as6 rfl | exact as7 rfl | exact as8 rfl | exact as9 rfl) rfl ?_
          refine AL.nil ?_
          refine th_n ?_
          first | refine AC.condD rfl (fun h3 => ?_) (fun h3 => ?_) | refine AC.condND rfl (fun h3 => ?_) (fun h3 => ?_) | refine AC.condB rfl (fun h3 => ?_) (fun h3 => ?_) | refine AC.condNB rfl (fun h3 => ?_) (fun h3 => ?_)
          · refine AC.drawn' mixed_ok [[], [], [0,1], [], [0,1,2,3], [], [], [6], [5,6,7], [0,1,2,3,4,5,6,7,8], [0,1,2,3,4,5,6,7,8,9]] (by decide) ?_
            refine DF.op 0 [] 11 rfl rfl rfl (.free rfl (NOp.of (by first | exact mv1 rfl | exact mv2 rfl | exact mv3 rfl | exact mv4 rfl | exact mv5 rfl | exact mv6 rfl | exact mv7 rfl | exact mv8 rfl | exact mv9 rfl))) rfl ?_
            refine DF.op 1 [] 11 rfl rfl rfl (.free rfl (NOp.of (by first | exact mv1 rfl | exact mv2 rfl | exact mv3 rfl | exact mv4 rfl | exact mv5 rfl | exact mv6 rfl | exact mv7 rfl | exact mv8 rfl | exact mv9 rfl))) rfl ?_
            refine DF.op 2 [0,1] 11 rfl rfl rfl (.free rfl (NOp.of (by exact g_slice_str (h := K) rfl rfl .none (.some rfl hKI) (Nat.zero_le _) (by omega) hx1))) rfl ?_
            refine DF.op 3 [] 11 rfl rfl rfl (.free rfl (NOp.of (by first | exact mv1 rfl | exact mv2 rfl | exact mv3 rfl | exact mv4 rfl | exact mv5 rfl | exact mv6 rfl | exact mv7 rfl | exact mv8 rfl | exact mv9 rfl))) rfl ?_
            refine DF.op 4 [0,1,2,3] 11 rfl rfl rfl (.free rfl (NOp.of (by first | exact g_arith rfl rfl rfl (by first | exact wrap_i64 (by omega) | exact wrap_u8 (by omega) | exact wrap_u64 (by omega) | rfl) | exact g_sadd rfl rfl (by first | assumption | omega | (simp only [ByteArray.size_append, bstr_size, List.length_take, List.length_drop, List.length_cons, List.length_nil]; omega))))) rfl ?_
            refine DF.op 5 [] 11 rfl rfl rfl (.free rfl (NOp.of (by first | exact mv1 rfl | exact mv2 rfl | exact mv3 rfl | exact mv4 rfl | exact mv5 rfl | exact mv6 rfl | exact mv7 rfl | exact mv8 rfl | exact mv9 rfl))) rfl ?_
            refine DF.op 6 [] 11 rfl rfl rfl (.free rfl (NOp.of (by first | exact mv1 rfl | exact mv2 rfl | exact mv3 rfl | exact mv4 rfl | exact mv5 rfl | exact mv6 rfl | exact mv7 rfl | exact mv8 rfl | exact mv9 rfl))) rfl ?_
            refine DF.op 7 [6] 11 rfl rfl rfl (.free rfl (NOp.of (by first | exact g_arith rfl rfl rfl (by first | exact wrap_i64 (by omega) | exact wrap_u8 (by omega) | exact wrap_u64 (by omega) | rfl) | exact g_sadd rfl rfl (by first | assumption | omega | (simp only [ByteArray.size_append, bstr_size, List.length_take, List.length_drop, List.length_cons, List.length_nil]; omega))))) rfl ?_
            refine DF.op 8 [5,6,7] 11 rfl rfl rfl (.free rfl (NOp.of (by exact g_slice_str (l := K + 1) rfl rfl (.some rfl hKJ) .none (by omega) (Nat.le_refl _) hx3))) rfl ?_
            refine DF.op 9 [0,1,2,3,4,5,6,7,8] 11 rfl rfl rfl (.free rfl (NOp.of (by first | exact g_arith rfl rfl rfl (by first | exact wrap_i64 (by omega) | exact wrap_u8 (by omega) | exact wrap_u64 (by omega) | rfl) | exact g_sadd rfl rfl (by first | assumption | omega | (simp only [ByteArray.size_append, bstr_size, List.length_take, List.length_drop, List.length_cons, List.length_nil]; omega))))) rfl ?_
            refine DF.op 10 [0,1,2,3,4,5,6,7,8,9] 11 rfl rfl rfl (.free rfl (NOp.of (by first | exact as1 rfl | exact as2 rfl | exact as3 rfl | exact as4 rfl | exact as5 rfl | exact as6 rfl | exact as7 rfl | exact as8 rfl | exact as9 rfl))) rfl ?_
            refine DF.fin (ps := [(0, 1), (0, 3), (0, 5), (0, 6), (0, 7), (0, 8), (1, 0), (1, 3), (1, 5), (1, 6), (1, 7), (1, 8), (2, 3), (2, 5), (2, 6), (2, 7), (2, 8), (3, 0), (3, 1), (3, 2), (3, 5), (3, 6), (3, 7), (3, 8), (4, 5), (4, 6), (4, 7), (4, 8), (5, 0), (5, 1), (5, 2), (5, 3), (5, 4), (5, 6), (5, 7), (6, 0), (6, 1), (6, 2), (6, 3), (6, 4), (6, 5), (7, 0), (7, 1), (7, 2), (7, 3), (7, 4), (7, 5), (8, 0), (8, 1), (8, 2), (8, 3), (8, 4)]) 11 rfl (by decide +kernel) (by decide +kernel) (by rfl) ?_
            refine ib_n ?_
            refine ib_n ?_
            refine th_n ?_
            refine AC.region ?_
            refine AL.p (by first | exact mv1 rfl | exact mv2 rfl | exact mv3 rfl | exact mv4 rfl | exact mv5 rfl | exact mv6 rfl | exact mv7 rfl | exact mv8 rfl | exact mv9 rfl) rfl ?_
            refine AL.p (by exact g_arith rfl rfl rfl (by first | exact wrap_i64 (by omega) | exact wrap_u8 (by omega) | exact wrap_u64 (by omega) | rfl)) rfl ?_
            refine AL.p (by first | exact as1 rfl | exact as2 rfl | exact as3 rfl | exact as4 rfl | exact as5 rfl | exact as6 rfl | exact as7 rfl | exact as8 rfl | exact as9 rfl) rfl ?_
            refine AL.nil ?_
            refine th_n ?_
            first | (have e2 : bstr (spoil1 cc m al) = bstr (m.take K) ++ bstr [al.getD ((cc.pick m.length).2.pick al.length).1.toNat 0] ++ bstr (m.drop K) := (by unfold spoil1; rw [if_pos h2, ← hK, bstr_append, bstr_append]); exact ⟨(i, spoilC cc m al, spoil1 cc m al), ⟨e1, by show (spoil1 cc m al).length + i ≤ _; omega, by show (spoilC cc m al).pos + 6 * i ≤ _; omega⟩, by show i < i + 1; omega, Weak.ren _ [] hC rfl (by rw [e2]; repeat (first | exact True.intro | refine And.intro ?_ ?_ | exact DLead.same | exact DLead.eqI (by omega) | exact DLead.nil | exact rfl | refine ⟨_, _, rfl, rfl, ?_⟩ | refine ⟨_, rfl, ?_⟩ | refine ⟨_, _, rfl, ?_, ?_⟩)) (by repeat (first | exact True.intro | refine And.intro ?_ ?_ | exact DLead.same | exact DLead.eqI (by omega) | exact DLead.nil | exact rfl | refine ⟨_, _, rfl, rfl, ?_⟩ | refine ⟨_, rfl, ?_⟩ | refine ⟨_, _, rfl, ?_, ?_⟩)) rfl rfl rfl⟩) | (have e2 : bstr (spoil1 cc m al) = bstr (m.take K) ++ bstr [al.getD ((cc.pick m.length).2.pick al.length).1.toNat 0] ++ bstr (m.drop (K + 1)) := (by unfold spoil1; rw [if_neg h2, if_pos h3, ← hK, bstr_append, bstr_append]); exact ⟨(i, spoilC cc m al, spoil1 cc m al), ⟨e1, by show (spoil1 cc m al).length + i ≤ _; omega, by show (spoilC cc m al).pos + 6 * i ≤ _; omega⟩, by show i < i + 1; omega, Weak.ren _ [] hC rfl (by rw [e2]; repeat (first | exact True.intro | refine And.intro ?_ ?_ | exact DLead.same | exact DLead.eqI (by omega) | exact DLead.nil | exact rfl | refine ⟨_, _, rfl, rfl, ?_⟩ | refine ⟨_, rfl, ?_⟩ | refine ⟨_, _, rfl, ?_, ?_⟩)) (by repeat (first | exact True.intro | refine And.intro ?_ ?_ | exact DLead.same | exact DLead.eqI (by omega) | exact DLead.nil | exact rfl | refine ⟨_, _, rfl, rfl, ?_⟩ | refine ⟨_, rfl, ?_⟩ | refine ⟨_, _, rfl, ?_, ?_⟩)) rfl rfl rfl⟩) | (have e2 : bstr (spoil1 cc m al) = bstr (m.take K) ++ bstr (m.drop (K + 1)) := (by unfold spoil1; rw [if_neg h2, if_neg h3, ← hK, bstr_append]); exact ⟨(i, spoilC cc m al, spoil1 cc m al), ⟨e1, by show (spoil1 cc m al).length + i ≤ _; omega, by show (spoilC cc m al).pos + 6 * i ≤ _; omega⟩, by show i < i + 1; omega, Weak.ren _ [] hC rfl (by rw [e2]; repeat (first | exact True.intro | refine And.intro ?_ ?_ | exact DLead.same | exact DLead.eqI (by omega) | exact DLead.nil | exact rfl | refine ⟨_, _, rfl, rfl, ?_⟩ | refine ⟨_, rfl, ?_⟩ | refine ⟨_, _, rfl, ?_, ?_⟩)) (by repeat (first | exact True.intro | refine And.intro ?_ ?_ | exact DLead.same | exact DLead.eqI (by omega) | exact DLead.nil | exact rfl | refine ⟨_, _, rfl, rfl, ?_⟩ | refine ⟨_, rfl, ?_⟩ | refine ⟨_, _, rfl, ?_, ?_⟩)) rfl rfl rfl⟩)
          · refine AC.drawn' mixed_ok [[], [], [0,1], [], [], [4], [3,4,5], [0,1,2,3,4,5,6], [0,1,2,3,4,5,6,7]] (by decide) ?_
            refine DF.op 0 [] 9 rfl rfl rfl (.free rfl (NOp.of (by first | exact mv1 rfl | exact mv2 rfl | exact mv3 rfl | exact mv4 rfl | exact mv5 rfl | exact mv6 rfl | exact mv7 rfl | exact mv8 rfl | exact mv9 rfl))) rfl ?_
            refine DF.op 1 [] 9 rfl rfl rfl (.free rfl (NOp.of (by first | exact mv1 rfl | exact mv2 rfl | exact mv3 rfl | exact mv4 rfl | exact mv5 rfl | exact mv6 rfl | exact mv7 rfl | exact mv8 rfl | exact mv9 rfl))) rfl ?_
            refine DF.op 2 [0,1] 9 rfl rfl rfl (.free rfl (NOp.of (by exact g_slice_str (h := K) rfl rfl .none (.some rfl hKI) (Nat.zero_le _) (by omega) hx1))) rfl ?_
            refine DF.op 3 [] 9 rfl rfl rfl (.free rfl (NOp.of (by first | exact mv1 rfl | exact mv2 rfl | exact mv3 rfl | exact mv4 rfl | exact mv5 rfl | exact mv6 rfl | exact mv7 rfl | exact mv8 rfl | exact mv9 rfl))) rfl ?_
            refine DF.op 4 [] 9 rfl rfl rfl (.free rfl (NOp.of (by first | exact mv1 rfl | exact mv2 rfl | exact mv3 rfl | exact mv4 rfl | exact mv5 rfl | exact mv6 rfl | exact mv7 rfl | exact mv8 rfl | exact mv9 rfl))) rfl ?_
            refine DF.op 5 [4] 9 rfl rfl rfl (.free rfl (NOp.of (by first | exact g_arith rfl rfl rfl (by first | exact wrap_i64 (by omega) | exact wrap_u8 (by omega) | exact wrap_u64 (by omega) | rfl) | exact g_sadd rfl rfl (by first | assumption | omega | (simp only [ByteArray.size_append, bstr_size, List.length_take, List.length_drop, List.length_cons, List.length_nil]; omega))))) rfl ?_
            refine DF.op 6 [3,4,5] 9 rfl rfl rfl (.free rfl (NOp.of (by exact g_slice_str (l := K + 1) rfl rfl (.some rfl hKJ) .none (by omega) (Nat.le_refl _) hx3))) rfl ?_
            refine DF.op 7 [0,1,2,3,4,5,6] 9 rfl rfl rfl (.free rfl (NOp.of (by first | exact g_arith rfl rfl rfl (by first | exact wrap_i64 (by omega) | exact wrap_u8 (by omega) | exact wrap_u64 (by omega) | rfl) | exact g_sadd rfl rfl (by first | assumption | omega | (simp only [ByteArray.size_append, bstr_size, List.length_take, List.length_drop, List.length_cons, List.length_nil]; omega))))) rfl ?_
            refine DF.op 8 [0,1,2,3,4,5,6,7] 9 rfl rfl rfl (.free rfl (NOp.of (by first | exact as1 rfl | exact as2 rfl | exact as3 rfl | exact as4 rfl | exact as5 rfl | exact as6 rfl | exact as7 rfl | exact as8 rfl | exact as9 rfl))) rfl ?_
            refine DF.fin (ps := [(0, 1), (0, 3), (0, 4), (0, 5), (0, 6), (1, 0), (1, 3), (1, 4), (1, 5), (1, 6), (2, 3), (2, 4), (2, 5), (2, 6), (3, 0), (3, 1), (3, 2), (3, 4), (3, 5), (4, 0), (4, 1), (4, 2), (4, 3), (5, 0), (5, 1), (5, 2), (5, 3), (6, 0), (6, 1), (6, 2)]) 9 rfl (by decide +kernel) (by decide +kernel) (by rfl) ?_
            refine ib_n ?_
            refine ib_n ?_
            refine th_n ?_
            refine AC.region ?_
            refine AL.p (by first | exact mv1 rfl | exact mv2 rfl | exact mv3 rfl | exact mv4 rfl | exact mv5 rfl | exact mv6 rfl | exact mv7 rfl | exact mv8 rfl | exact mv9 rfl) rfl ?_
            refine AL.p (by exact g_arith rfl rfl rfl (by first | exact wrap_i64 (by omega) | exact wrap_u8 (by omega) | exact wrap_u64 (by omega) | rfl)) rfl ?_
            refine AL.p (by first | exact as1 rfl | exact as2 rfl | exact as3 rfl | exact as4 rfl | exact as5 rfl | exact as6 rfl | exact as7 rfl | exact as8 rfl | exact as9 rfl) rfl ?_
            refine AL.nil ?_
            refine th_n ?_
            first | (have e2 : bstr (spoil1 cc m al) = bstr (m.take K) ++ bstr [al.getD ((cc.pick m.length).2.pick al.length).1.toNat 0] ++ bstr (m.drop K) := (by unfold spoil1; rw [if_pos h2, ← hK, bstr_append, bstr_append]); exact ⟨(i, spoilC cc m al, spoil1 cc m al), ⟨e1, by show (spoil1 cc m al).length + i ≤ _; omega, by show (spoilC cc m al).pos + 6 * i ≤ _; omega⟩, by show i < i + 1; omega, Weak.ren _ [] hC rfl (by rw [e2]; repeat (first | exact True.intro | refine And.intro ?_ ?_ | exact DLead.same | exact DLead.eqI (by omega) | exact DLead.nil | exact rfl | refine ⟨_, _, rfl, rfl, ?_⟩ | refine ⟨_, rfl, ?_⟩ | refine ⟨_, _, rfl, ?_, ?_⟩)) (by repeat (first | exact True.intro | refine And.intro ?_ ?_ | exact DLead.same | exact DLead.eqI (by omega) | exact DLead.nil | exact rfl | refine ⟨_, _, rfl, rfl, ?_⟩ | refine ⟨_, rfl, ?_⟩ | refine ⟨_, _, rfl, ?_, ?_⟩)) rfl rfl rfl⟩) | (have e2 : bstr (spoil1 cc m al) = bstr (m.take K) ++ bstr [al.getD ((cc.pick m.length).2.pick al.length).1.toNat 0] ++ bstr (m.drop (K + 1)) := (by unfold spoil1; rw [if_neg h2, if_pos h3, ← hK, bstr_append, bstr_append]); exact ⟨(i, spoilC cc m al, spoil1 cc m al), ⟨e1, by show (spoil1 cc m al).length + i ≤ _; omega, by show (spoilC cc m al).pos + 6 * i ≤ _; omega⟩, by show i < i + 1; omega, Weak.ren _ [] hC rfl (by rw [e2]; repeat (first | exact True.intro | refine And.intro ?_ ?_ | exact DLead.same | exact DLead.eqI (by omega) | exact DLead.nil | exact rfl | refine ⟨_, _, rfl, rfl, ?_⟩ | refine ⟨_, rfl, ?_⟩ | refine ⟨_, _, rfl, ?_, ?_⟩)) (by repeat (first | exact True.intro | refine And.intro ?_ ?_ | exact DLead.same | exact DLead.eqI (by omega) | exact DLead.nil | exact rfl | refine ⟨_, _, rfl, rfl, ?_⟩ | refine ⟨_, rfl, ?_⟩ | refine ⟨_, _, rfl, ?_, ?_⟩)) rfl rfl rfl⟩) | (have e2 : bstr (spoil1 cc m al) = bstr (m.take K) ++ bstr (m.drop (K + 1)) := (by unfold spoil1; rw [if_neg h2, if_neg h3, ← hK, bstr_append]); exact ⟨(i, spoilC cc m al, spoil1 cc m al), ⟨e1, by show (spoil1 cc m al).length + i ≤ _; omega, by show (spoilC cc m al).pos + 6 * i ≤ _; omega⟩, by show i < i + 1; omega, Weak.ren _ [] hC rfl (by rw [e2]; repeat (first | exact True.intro | refine And.intro ?_ ?_ | exact DLead.same | exact DLead.eqI (by omega) | exact DLead.nil | exact rfl | refine ⟨_, _, rfl, rfl, ?_⟩ | refine ⟨_, rfl, ?_⟩ | refine ⟨_, _, rfl, ?_, ?_⟩)) (by repeat (first | exact True.intro | refine And.intro ?_ ?_ | exact DLead.same | exact DLead.eqI (by omega) | exact DLead.nil | exact rfl | refine ⟨_, _, rfl, rfl, ?_⟩ | refine ⟨_, rfl, ?_⟩ | refine ⟨_, _, rfl, ?_, ?_⟩)) rfl rfl rfl⟩)
      · refine AC.exit ?_
        refine th_e ?_
        refine th_e ?_
        refine ib_y ?_
        refine th_n ?_
        refine AC.seq ?_
        refine AC.region ?_
        refine AL.p (by first | exact mv1 rfl | exact mv2 rfl | exact mv3 rfl | exact mv4 rfl | exact mv5 rfl | exact mv6 rfl | exact mv7 rfl | exact mv8 rfl | exact mv9 rfl) rfl ?_
        refine AL.p (by first | exact as1 rfl | exact as2 rfl | exact as3 rfl | exact as4 rfl | exact as5 rfl | exact as6 rfl | exact as7 rfl | exact as8 rfl | exact as9 rfl) rfl ?_
        refine AL.nil ?_
        refine th_n ?_
        refine AC.ret ?_
        refine bq_r ?_
        have e : c.spoilt s al = (m, cc) := by first | (rw [← hsub]; exact spoilN_nil (by omega)) | (have hj : j = 0 := (by omega); subst hj; exact hsub.symm)
        exact retF rfl (by rw [e]; repeat (first | exact True.intro | refine And.intro ?_ ?_ | exact DLead.same | exact DLead.eqI (by omega) | exact DLead.nil | exact rfl | refine ⟨_, _, rfl, rfl, ?_⟩ | refine ⟨_, rfl, ?_⟩ | refine ⟨_, _, rfl, ?_, ?_⟩)) (by rw [e]; repeat (first | exact True.intro | refine And.intro ?_ ?_ | exact DLead.same | exact DLead.eqI (by omega) | exact DLead.nil | exact rfl | refine ⟨_, _, rfl, rfl, ?_⟩ | refine ⟨_, rfl, ?_⟩ | refine ⟨_, _, rfl, ?_, ?_⟩)) rfl
    · refine AL.not rfl rfl rfl rfl rfl ?_
      refine AL.not rfl rfl rfl rfl rfl ?_
      refine AL.not rfl rfl rfl rfl rfl ?_
      refine AL.p (by first | exact g_pickT (r := .d _) rfl rfl | exact g_pickF (r := .d _) rfl rfl) rfl ?_
      refine AL.nil ?_
      refine th_n ?_
      refine AC.condF rfl ?_
      refine AC.exit ?_
      refine th_e ?_
      refine th_e ?_
      refine ib_y ?_
      refine th_n ?_
      refine AC.seq ?_
      refine AC.region ?_
      refine AL.p (by first | exact mv1 rfl | exact mv2 rfl | exact mv3 rfl | exact mv4 rfl | exact mv5 rfl | exact mv6 rfl | exact mv7 rfl | exact mv8 rfl | exact mv9 rfl) rfl ?_
      refine AL.p (by first | exact as1 rfl | exact as2 rfl | exact as3 rfl | exact as4 rfl | exact as5 rfl | exact as6 rfl | exact as7 rfl | exact as8 rfl | exact as9 rfl) rfl ?_
      refine AL.nil ?_
      refine th_n ?_
      refine AC.ret ?_
      refine bq_r ?_
      have e : c.spoilt s al = (m, cc) := by first | (rw [← hsub]; exact spoilN_nil (by omega)) | (have hj : j = 0 := (by omega); subst hj; exact hsub.symm)
      exact retF rfl (by rw [e]; repeat (first | exact True.intro | refine And.intro ?_ ?_ | exact DLead.same | exact DLead.eqI (by omega) | exact DLead.nil | exact rfl | refine ⟨_, _, rfl, rfl, ?_⟩ | refine ⟨_, rfl, ?_⟩ | refine ⟨_, _, rfl, ?_, ?_⟩)) (by rw [e]; repeat (first | exact True.intro | refine And.intro ?_ ?_ | exact DLead.same | exact DLead.eqI (by omega) | exact DLead.nil | exact rfl | refine ⟨_, _, rfl, rfl, ?_⟩ | refine ⟨_, rfl, ?_⟩ | refine ⟨_, _, rfl, ?_, ?_⟩)) rfl
theorem en_spoilt : Enters Try.prog 35 := enters_of Try.func35 rfl rfl
end Go.Proofs.Ytochebmkfdfbhaa
