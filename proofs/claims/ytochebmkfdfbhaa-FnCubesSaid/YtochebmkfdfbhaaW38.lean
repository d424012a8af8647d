/- Walk: the law FnCubes. -/
import Derived.Test.YtochebmkfdfbhaaW37
set_option linter.all false
namespace Go.Proofs.Ytochebmkfdfbhaa
open Go.RowKit

theorem take_all {f : List UInt8 → Bool} {l : List (List UInt8)} {k : Nat} (hk : k < l.length) : (l.take (k + 1)).all f = ((l.take k).all f && f l[k]) := by
  rw [List.take_add_one, List.getElem?_eq_getElem hk, List.all_append]; simp
theorem and3_t {x p q : Bool} (h : x = true) (h2 : p = true) : (x && (p && q)) = q := by rw [h, h2]; rfl
theorem and3_f {x p q : Bool} (h : p = false) : (x && (p && q)) = false := by rw [h, Bool.false_and, Bool.and_false]
theorem and3_o {x p q : Bool} (h : x = false) : (x && (p && q)) = false := by rw [h]; rfl
theorem lit3_lt {b : UInt8} (h : lit3 b = true) : b.toNat < 128 := by
  simp only [lit3, Bool.or_eq_true, decide_eq_true_eq] at h
  omega
set_option maxRecDepth 20000 in
set_option maxHeartbeats 4000000 in
theorem FnCubes_gen (code more : List UInt8) (a b d e f g : List UInt8) (l : List (List UInt8)) (hc : code.length ≤ 9223372036854775807) (hm : more.length ≤ 9223372036854775807)
    (hD : ASpec Try.prog 5 [.d (vB code)] [] (Pure1 (.tup [aS (bstr a), aS (bstr b)]))) (hS : ASpec Try.prog 9 [.d (vB more)] [] (Pure1 (.d (vSs l))))
    (hB : ASpec Try.prog 13 [.d (vB more)] [] (Pure1 (.tup [aS (bstr d), aS (bstr e)]))) (hH : ASpec Try.prog 15 [.d (vB more)] [] (Pure1 (.tup [aS (bstr f), aS (bstr g)])))
    (ha : a.length ≤ 10) (hb : b.length ≤ 10) (hd : d.length ≤ 10) (he : e.length ≤ 10) (hf : f.length ≤ 10) (hg : g.length ≤ 10) (hl : l.length ≤ 10) (hll : ∀ t, t ∈ l → t.length ≤ 10) : ASpec Try.prog 3 [.d (vB code), .d (vB more)] [] (Pure1 (aT true)) := by
  have hM0 := iInter_spec a b (by omega) (by omega)
  have hM1 := sInter_spec a b (by omega) (by omega)
  have hMl := inter_len a b
  have hMs1 := inter_sub (a := a) (b := b)
  have hMs2 := inter_sub2 (a := a) (b := b)
  have hMs3 := inter_sym (a := a) (b := b)
  obtain ⟨M, hM⟩ : ∃ M, M = interI a b := ⟨_, rfl⟩
  rw [← hM] at hM0 hM1 hMl hMs1 hMs2 hMs3
  have hX0 := iSub_spec M.1 a (by omega) (by omega)
  have hY0 := iSub_spec M.1 b (by omega) (by omega)
  have hZ0 := iInter_spec b a (by omega) (by omega)
  obtain ⟨X, hX⟩ : ∃ X, X = subI M.1 a := ⟨_, rfl⟩
  obtain ⟨Y, hY⟩ : ∃ Y, Y = subI M.1 b := ⟨_, rfl⟩
  obtain ⟨Z, hZ⟩ : ∃ Z, Z = interI b a := ⟨_, rfl⟩
  rw [← hX] at hX0 hMs1
  rw [← hY] at hY0 hMs2
  rw [← hZ] at hZ0 hMs3
  have hL0 := iSuper_spec l (by omega) (fun t ht => by have := hll t ht; omega)
  have hL1 := sSuper_spec l (by omega) (fun t ht => by have := hll t ht; omega)
  obtain ⟨L, hL⟩ : ∃ L, L = superI l := ⟨_, rfl⟩
  rw [← hL] at hL0 hL1
  have hB0 := iSub_spec d e (by omega) (by omega)
  have hB1 := sSub_spec d e (by omega) (by omega)
  obtain ⟨I, hI⟩ : ∃ I, I = subI d e := ⟨_, rfl⟩
  rw [← hI] at hB0 hB1
  have hH0 := iHas_spec f g (by omega) (by omega)
  have hH1 := sHas_spec f g (by omega) (by omega)
  obtain ⟨J, hJ⟩ : ∃ J, J = hasI2 f g := ⟨_, rfl⟩
  rw [← hJ] at hH0 hH1
  refine ASpec.of Try.func3 rfl rfl fun C hC => ?_
  refine AC.seq ?_
  refine AC.region ?_
  refine AL.p (by first | exact as1 rfl | exact as2 rfl | exact as3 rfl | exact as4 rfl | exact as5 rfl | exact as6 rfl | exact as7 rfl | exact as8 rfl | exact as9 rfl) rfl ?_
  refine AL.nil ?_
  refine th_n ?_
  refine AC.seq ?_
  refine AC.seq ?_
  refine AC.region ?_
  refine AL.p (by first | exact mv1 rfl | exact mv2 rfl | exact mv3 rfl | exact mv4 rfl | exact mv5 rfl | exact mv6 rfl | exact mv7 rfl | exact mv8 rfl | exact mv9 rfl) rfl ?_
  refine AL.p (by first | exact mv1 rfl | exact mv2 rfl | exact mv3 rfl | exact mv4 rfl | exact mv5 rfl | exact mv6 rfl | exact mv7 rfl | exact mv8 rfl | exact mv9 rfl) rfl ?_
  refine AL.q (by exact h_pure en_big rfl rfl (by repeat (first | exact rfl | exact DLead.same | exact DLead.nil | refine ⟨_, _, rfl, ?_, ?_⟩ | refine ⟨_, rfl, ?_⟩)) (big_spec code more hc hm) rfl) rfl ?_
  refine AL.nil ?_
  refine th_n ?_
  first | refine AC.condD rfl (fun h0 => ?_) (fun h0 => ?_) | refine AC.condND rfl (fun h0 => ?_) (fun h0 => ?_) | refine AC.condB rfl (fun h0 => ?_) (fun h0 => ?_) | refine AC.condNB rfl (fun h0 => ?_) (fun h0 => ?_)
  · refine AC.seq ?_
    refine AC.region ?_
    refine AL.p (by first | exact as1 rfl | exact as2 rfl | exact as3 rfl | exact as4 rfl | exact as5 rfl | exact as6 rfl | exact as7 rfl | exact as8 rfl | exact as9 rfl) rfl ?_
    refine AL.nil ?_
    refine th_n ?_
    refine AC.ret ?_
    refine th_r ?_
    refine bq_r ?_
    exact ret1 rfl rfl
  · refine AC.skip ?_
    refine th_n ?_
    refine AC.seq ?_
    refine AC.region ?_
    refine AL.p (by first | exact mv1 rfl | exact mv2 rfl | exact mv3 rfl | exact mv4 rfl | exact mv5 rfl | exact mv6 rfl | exact mv7 rfl | exact mv8 rfl | exact mv9 rfl) rfl ?_
    refine AL.q (by exact h_pure en_sDrawInter rfl rfl (by repeat (first | exact rfl | exact DLead.same | exact DLead.nil | refine ⟨_, _, rfl, ?_, ?_⟩ | refine ⟨_, rfl, ?_⟩)) hD rfl) rfl ?_
    refine AL.p (by first | exact mv1 rfl | exact mv2 rfl | exact mv3 rfl | exact mv4 rfl | exact mv5 rfl | exact mv6 rfl | exact mv7 rfl | exact mv8 rfl | exact mv9 rfl) rfl ?_
    refine AL.p (by first | exact g_extract (r := .d _) rfl rfl | exact g_extract (r := .own _ _) rfl rfl | exact g_extract (r := .agg _) rfl rfl) rfl ?_
    refine AL.p (by first | exact g_extract (r := .d _) rfl rfl | exact g_extract (r := .own _ _) rfl rfl | exact g_extract (r := .agg _) rfl rfl) rfl ?_
    refine AL.p (by first | exact as1 rfl | exact as2 rfl | exact as3 rfl | exact as4 rfl | exact as5 rfl | exact as6 rfl | exact as7 rfl | exact as8 rfl | exact as9 rfl) rfl ?_
    refine AL.p (by first | exact as1 rfl | exact as2 rfl | exact as3 rfl | exact as4 rfl | exact as5 rfl | exact as6 rfl | exact as7 rfl | exact as8 rfl | exact as9 rfl) rfl ?_
    refine AL.nil ?_
    refine th_n ?_
    refine AC.seq ?_
    refine AC.region ?_
    refine AL.p (by first | exact mv1 rfl | exact mv2 rfl | exact mv3 rfl | exact mv4 rfl | exact mv5 rfl | exact mv6 rfl | exact mv7 rfl | exact mv8 rfl | exact mv9 rfl) rfl ?_
    refine AL.p (by first | exact mv1 rfl | exact mv2 rfl | exact mv3 rfl | exact mv4 rfl | exact mv5 rfl | exact mv6 rfl | exact mv7 rfl | exact mv8 rfl | exact mv9 rfl) rfl ?_
    refine AL.q (by exact h_pure en_iInter rfl rfl (by repeat (first | exact rfl | exact DLead.same | exact DLead.nil | refine ⟨_, _, rfl, ?_, ?_⟩ | refine ⟨_, rfl, ?_⟩)) hM0 rfl) rfl ?_
    refine AL.p (by first | exact mv1 rfl | exact mv2 rfl | exact mv3 rfl | exact mv4 rfl | exact mv5 rfl | exact mv6 rfl | exact mv7 rfl | exact mv8 rfl | exact mv9 rfl) rfl ?_
    refine AL.p (by first | exact g_extract (r := .d _) rfl rfl | exact g_extract (r := .own _ _) rfl rfl | exact g_extract (r := .agg _) rfl rfl) rfl ?_
    refine AL.p (by first | exact g_extract (r := .d _) rfl rfl | exact g_extract (r := .own _ _) rfl rfl | exact g_extract (r := .agg _) rfl rfl) rfl ?_
    refine AL.p (by first | exact as1 rfl | exact as2 rfl | exact as3 rfl | exact as4 rfl | exact as5 rfl | exact as6 rfl | exact as7 rfl | exact as8 rfl | exact as9 rfl) rfl ?_
    refine AL.p (by first | exact as1 rfl | exact as2 rfl | exact as3 rfl | exact as4 rfl | exact as5 rfl | exact as6 rfl | exact as7 rfl | exact as8 rfl | exact as9 rfl) rfl ?_
    refine AL.nil ?_
    refine th_n ?_
    refine AC.seq ?_
    refine AC.region ?_
    refine AL.p (by first | exact mv1 rfl | exact mv2 rfl | exact mv3 rfl | exact mv4 rfl | exact mv5 rfl | exact mv6 rfl | exact mv7 rfl | exact mv8 rfl | exact mv9 rfl) rfl ?_
    refine AL.p (by first | exact mv1 rfl | exact mv2 rfl | exact mv3 rfl | exact mv4 rfl | exact mv5 rfl | exact mv6 rfl | exact mv7 rfl | exact mv8 rfl | exact mv9 rfl) rfl ?_
    refine AL.q (by exact h_pure en_sInter rfl rfl (by repeat (first | exact rfl | exact DLead.same | exact DLead.nil | refine ⟨_, _, rfl, ?_, ?_⟩ | refine ⟨_, rfl, ?_⟩)) hM1 rfl) rfl ?_
    refine AL.p (by first | exact mv1 rfl | exact mv2 rfl | exact mv3 rfl | exact mv4 rfl | exact mv5 rfl | exact mv6 rfl | exact mv7 rfl | exact mv8 rfl | exact mv9 rfl) rfl ?_
    refine AL.p (by first | exact g_extract (r := .d _) rfl rfl | exact g_extract (r := .own _ _) rfl rfl | exact g_extract (r := .agg _) rfl rfl) rfl ?_
    refine AL.p (by first | exact g_extract (r := .d _) rfl rfl | exact g_extract (r := .own _ _) rfl rfl | exact g_extract (r := .agg _) rfl rfl) rfl ?_
    refine AL.p (by first | exact as1 rfl | exact as2 rfl | exact as3 rfl | exact as4 rfl | exact as5 rfl | exact as6 rfl | exact as7 rfl | exact as8 rfl | exact as9 rfl) rfl ?_
    refine AL.p (by first | exact as1 rfl | exact as2 rfl | exact as3 rfl | exact as4 rfl | exact as5 rfl | exact as6 rfl | exact as7 rfl | exact as8 rfl | exact as9 rfl) rfl ?_
    refine AL.nil ?_
    refine th_n ?_
    refine AC.seq ?_
    refine AC.seq ?_
    refine AC.region ?_
    refine AL.p (by first | exact mv1 rfl | exact mv2 rfl | exact mv3 rfl | exact mv4 rfl | exact mv5 rfl | exact mv6 rfl | exact mv7 rfl | exact mv8 rfl | exact mv9 rfl) rfl ?_
    refine AL.p (by first | exact mv1 rfl | exact mv2 rfl | exact mv3 rfl | exact mv4 rfl | exact mv5 rfl | exact mv6 rfl | exact mv7 rfl | exact mv8 rfl | exact mv9 rfl) rfl ?_
    refine AL.p (by first | exact g_cmp rfl rfl rfl | exact g_scmp rfl rfl rfl | exact g_eqB rfl rfl rfl | exact g_neB rfl rfl rfl) rfl ?_
    refine AL.p (by first | exact mv1 rfl | exact mv2 rfl | exact mv3 rfl | exact mv4 rfl | exact mv5 rfl | exact mv6 rfl | exact mv7 rfl | exact mv8 rfl | exact mv9 rfl) rfl ?_
    first | refine AL.caseG rfl rfl (fun h1 => ?_) (fun h1 => ?_) | refine AL.caseGN rfl rfl (fun h1 => ?_) (fun h1 => ?_) | refine AL.caseGB rfl rfl (fun h1 => ?_) (fun h1 => ?_) | refine AL.caseGNB rfl rfl (fun h1 => ?_) (fun h1 => ?_)
    · refine AL.not rfl rfl rfl rfl rfl ?_
      refine AL.not rfl rfl rfl rfl rfl ?_
      refine AL.not rfl rfl rfl rfl rfl ?_
      refine AL.p (by first | exact g_pickT (r := .d _) rfl rfl | exact g_pickF (r := .d _) rfl rfl) rfl ?_
      refine AL.nil ?_
      refine th_n ?_
      refine AC.condT rfl ?_
      refine AC.seq ?_
      first | (exfalso; simp at h1; done) | (exfalso; simp at h2; done)
    · refine AL.yes rfl rfl rfl ?_
      refine AL.p (by first | exact mv1 rfl | exact mv2 rfl | exact mv3 rfl | exact mv4 rfl | exact mv5 rfl | exact mv6 rfl | exact mv7 rfl | exact mv8 rfl | exact mv9 rfl) rfl ?_
      refine AL.yes rfl rfl rfl ?_
      refine AL.p (by first | exact mv1 rfl | exact mv2 rfl | exact mv3 rfl | exact mv4 rfl | exact mv5 rfl | exact mv6 rfl | exact mv7 rfl | exact mv8 rfl | exact mv9 rfl) rfl ?_
      refine AL.yes rfl rfl rfl ?_
      refine AL.p (by first | exact g_cmp rfl rfl rfl | exact g_scmp rfl rfl rfl | exact g_eqB rfl rfl rfl | exact g_neB rfl rfl rfl) rfl ?_
      refine AL.p (by first | exact g_pickT (r := .d _) rfl rfl | exact g_pickF (r := .d _) rfl rfl) rfl ?_
      refine AL.nil ?_
      refine th_n ?_
      first | refine AC.condD rfl (fun h2 => ?_) (fun h2 => ?_) | refine AC.condND rfl (fun h2 => ?_) (fun h2 => ?_) | refine AC.condB rfl (fun h2 => ?_) (fun h2 => ?_) | refine AC.condNB rfl (fun h2 => ?_) (fun h2 => ?_)
      · refine AC.seq ?_
        first | (exfalso; simp at h1; done) | (exfalso; simp at h2; done)
      · refine AC.skip ?_
        refine th_n ?_
        refine AC.cut (fun (_ : Unit) => ⟨255, 108, [(1, .d (vB more))], []⟩) (fun _ => True) ?_ ?_
        · refine AC.seq ?_
          refine AC.region ?_
          refine AL.p (by first | exact mv1 rfl | exact mv2 rfl | exact mv3 rfl | exact mv4 rfl | exact mv5 rfl | exact mv6 rfl | exact mv7 rfl | exact mv8 rfl | exact mv9 rfl) rfl ?_
          refine AL.nil ?_
          refine th_n ?_
          first | refine AC.condD rfl (fun h3 => ?_) (fun h3 => ?_) | refine AC.condND rfl (fun h3 => ?_) (fun h3 => ?_) | refine AC.condB rfl (fun h3 => ?_) (fun h3 => ?_) | refine AC.condNB rfl (fun h3 => ?_) (fun h3 => ?_)
          · refine AC.seq ?_
            have hMo : M.2 = true := by assumption
            have k1 := hMs1 hMo
            have k2 := hMs2 hMo
            have k3 := hMs3 hMo
            refine AC.region ?_
            refine AL.p (by first | exact mv1 rfl | exact mv2 rfl | exact mv3 rfl | exact mv4 rfl | exact mv5 rfl | exact mv6 rfl | exact mv7 rfl | exact mv8 rfl | exact mv9 rfl) rfl ?_
            refine AL.p (by first | exact mv1 rfl | exact mv2 rfl | exact mv3 rfl | exact mv4 rfl | exact mv5 rfl | exact mv6 rfl | exact mv7 rfl | exact mv8 rfl | exact mv9 rfl) rfl ?_
            refine AL.q (by exact h_pure en_iSub rfl rfl (by repeat (first | exact rfl | exact DLead.same | exact DLead.nil | refine ⟨_, _, rfl, ?_, ?_⟩ | refine ⟨_, rfl, ?_⟩)) hX0 rfl) rfl ?_
            refine AL.p (by first | exact mv1 rfl | exact mv2 rfl | exact mv3 rfl | exact mv4 rfl | exact mv5 rfl | exact mv6 rfl | exact mv7 rfl | exact mv8 rfl | exact mv9 rfl) rfl ?_
            refine AL.p (by first | exact g_extract (r := .d _) rfl rfl | exact g_extract (r := .own _ _) rfl rfl | exact g_extract (r := .agg _) rfl rfl) rfl ?_
            refine AL.p (by first | exact g_extract (r := .d _) rfl rfl | exact g_extract (r := .own _ _) rfl rfl | exact g_extract (r := .agg _) rfl rfl) rfl ?_
            refine AL.p (by first | exact as1 rfl | exact as2 rfl | exact as3 rfl | exact as4 rfl | exact as5 rfl | exact as6 rfl | exact as7 rfl | exact as8 rfl | exact as9 rfl) rfl ?_
            refine AL.p (by first | exact as1 rfl | exact as2 rfl | exact as3 rfl | exact as4 rfl | exact as5 rfl | exact as6 rfl | exact as7 rfl | exact as8 rfl | exact as9 rfl) rfl ?_
            refine AL.nil ?_
            refine th_n ?_
            refine AC.seq ?_
            refine AC.region ?_
            refine AL.p (by first | exact mv1 rfl | exact mv2 rfl | exact mv3 rfl | exact mv4 rfl | exact mv5 rfl | exact mv6 rfl | exact mv7 rfl | exact mv8 rfl | exact mv9 rfl) rfl ?_
            refine AL.p (by first | exact mv1 rfl | exact mv2 rfl | exact mv3 rfl | exact mv4 rfl | exact mv5 rfl | exact mv6 rfl | exact mv7 rfl | exact mv8 rfl | exact mv9 rfl) rfl ?_
            refine AL.q (by exact h_pure en_iSub rfl rfl (by repeat (first | exact rfl | exact DLead.same | exact DLead.nil | refine ⟨_, _, rfl, ?_, ?_⟩ | refine ⟨_, rfl, ?_⟩)) hY0 rfl) rfl ?_
            refine AL.p (by first | exact mv1 rfl | exact mv2 rfl | exact mv3 rfl | exact mv4 rfl | exact mv5 rfl | exact mv6 rfl | exact mv7 rfl | exact mv8 rfl | exact mv9 rfl) rfl ?_
            refine AL.p (by first | exact g_extract (r := .d _) rfl rfl | exact g_extract (r := .own _ _) rfl rfl | exact g_extract (r := .agg _) rfl rfl) rfl ?_
            refine AL.p (by first | exact g_extract (r := .d _) rfl rfl | exact g_extract (r := .own _ _) rfl rfl | exact g_extract (r := .agg _) rfl rfl) rfl ?_
            refine AL.p (by first | exact as1 rfl | exact as2 rfl | exact as3 rfl | exact as4 rfl | exact as5 rfl | exact as6 rfl | exact as7 rfl | exact as8 rfl | exact as9 rfl) rfl ?_
            refine AL.p (by first | exact as1 rfl | exact as2 rfl | exact as3 rfl | exact as4 rfl | exact as5 rfl | exact as6 rfl | exact as7 rfl | exact as8 rfl | exact as9 rfl) rfl ?_
            refine AL.nil ?_
            refine th_n ?_
            refine AC.seq ?_
            refine AC.region ?_
            refine AL.p (by first | exact mv1 rfl | exact mv2 rfl | exact mv3 rfl | exact mv4 rfl | exact mv5 rfl | exact mv6 rfl | exact mv7 rfl | exact mv8 rfl | exact mv9 rfl) rfl ?_
            refine AL.p (by first | exact mv1 rfl | exact mv2 rfl | exact mv3 rfl | exact mv4 rfl | exact mv5 rfl | exact mv6 rfl | exact mv7 rfl | exact mv8 rfl | exact mv9 rfl) rfl ?_
            refine AL.q (by exact h_pure en_iInter rfl rfl (by repeat (first | exact rfl | exact DLead.same | exact DLead.nil | refine ⟨_, _, rfl, ?_, ?_⟩ | refine ⟨_, rfl, ?_⟩)) hZ0 rfl) rfl ?_
            refine AL.p (by first | exact mv1 rfl | exact mv2 rfl | exact mv3 rfl | exact mv4 rfl | exact mv5 rfl | exact mv6 rfl | exact mv7 rfl | exact mv8 rfl | exact mv9 rfl) rfl ?_
            refine AL.p (by first | exact g_extract (r := .d _) rfl rfl | exact g_extract (r := .own _ _) rfl rfl | exact g_extract (r := .agg _) rfl rfl) rfl ?_
            refine AL.p (by first | exact g_extract (r := .d _) rfl rfl | exact g_extract (r := .own _ _) rfl rfl | exact g_extract (r := .agg _) rfl rfl) rfl ?_
            refine AL.p (by first | exact as1 rfl | exact as2 rfl | exact as3 rfl | exact as4 rfl | exact as5 rfl | exact as6 rfl | exact as7 rfl | exact as8 rfl | exact as9 rfl) rfl ?_
            refine AL.p (by first | exact as1 rfl | exact as2 rfl | exact as3 rfl | exact as4 rfl | exact as5 rfl | exact as6 rfl | exact as7 rfl | exact as8 rfl | exact as9 rfl) rfl ?_
            refine AL.nil ?_
            refine th_n ?_
            refine AC.seq ?_
            refine AC.region ?_
            refine AL.p (by first | exact mv1 rfl | exact mv2 rfl | exact mv3 rfl | exact mv4 rfl | exact mv5 rfl | exact mv6 rfl | exact mv7 rfl | exact mv8 rfl | exact mv9 rfl) rfl ?_
            refine AL.p (by first | exact g_not rfl | exact g_neg rfl (by first | exact wrap_i64 (by omega) | exact wrap_u8 (by omega) | exact wrap_u64 (by omega) | rfl)) rfl ?_
            refine AL.p (by first | exact mv1 rfl | exact mv2 rfl | exact mv3 rfl | exact mv4 rfl | exact mv5 rfl | exact mv6 rfl | exact mv7 rfl | exact mv8 rfl | exact mv9 rfl) rfl ?_
            first | refine AL.caseG rfl rfl (fun h4 => ?_) (fun h4 => ?_) | refine AL.caseGN rfl rfl (fun h4 => ?_) (fun h4 => ?_) | refine AL.caseGB rfl rfl (fun h4 => ?_) (fun h4 => ?_) | refine AL.caseGNB rfl rfl (fun h4 => ?_) (fun h4 => ?_)
            · refine AL.not rfl rfl rfl rfl rfl ?_
              refine AL.not rfl rfl rfl rfl rfl ?_
              refine AL.p (by first | exact g_pickT (r := .d _) rfl rfl | exact g_pickF (r := .d _) rfl rfl) rfl ?_
              refine AL.p (by first | exact mv1 rfl | exact mv2 rfl | exact mv3 rfl | exact mv4 rfl | exact mv5 rfl | exact mv6 rfl | exact mv7 rfl | exact mv8 rfl | exact mv9 rfl) rfl ?_
              refine AL.not rfl rfl rfl rfl rfl ?_
              refine AL.not rfl rfl rfl rfl rfl ?_
              refine AL.p (by first | exact g_pickT (r := .d _) rfl rfl | exact g_pickF (r := .d _) rfl rfl) rfl ?_
              refine AL.p (by first | exact mv1 rfl | exact mv2 rfl | exact mv3 rfl | exact mv4 rfl | exact mv5 rfl | exact mv6 rfl | exact mv7 rfl | exact mv8 rfl | exact mv9 rfl) rfl ?_
              refine AL.not rfl rfl rfl rfl rfl ?_
              refine AL.not rfl rfl rfl rfl rfl ?_
              refine AL.p (by first | exact g_pickT (r := .d _) rfl rfl | exact g_pickF (r := .d _) rfl rfl) rfl ?_
              refine AL.p (by first | exact mv1 rfl | exact mv2 rfl | exact mv3 rfl | exact mv4 rfl | exact mv5 rfl | exact mv6 rfl | exact mv7 rfl | exact mv8 rfl | exact mv9 rfl) rfl ?_
              refine AL.not rfl rfl rfl rfl rfl ?_
              refine AL.not rfl rfl rfl rfl rfl ?_
              refine AL.p (by first | exact g_pickT (r := .d _) rfl rfl | exact g_pickF (r := .d _) rfl rfl) rfl ?_
              refine AL.p (by first | exact mv1 rfl | exact mv2 rfl | exact mv3 rfl | exact mv4 rfl | exact mv5 rfl | exact mv6 rfl | exact mv7 rfl | exact mv8 rfl | exact mv9 rfl) rfl ?_
              refine AL.not rfl rfl rfl rfl rfl ?_
              refine AL.not rfl rfl rfl rfl rfl ?_
              refine AL.not rfl rfl rfl rfl rfl ?_
              refine AL.p (by first | exact g_pickT (r := .d _) rfl rfl | exact g_pickF (r := .d _) rfl rfl) rfl ?_
              refine AL.nil ?_
              refine th_n ?_
              refine AC.condT rfl ?_
              refine AC.seq ?_
              exfalso
              first | (rw [k1] at h4; simp at h4; done) | (rw [k1] at h5; simp at h5; done) | (rw [k2] at h6; simp at h6; done) | (rw [k2] at h7; simp at h7; done) | (rw [k3] at h8; simp at h8; done) | (rw [k3] at h9; exact h9 rfl)
            · refine AL.yes rfl rfl rfl ?_
              refine AL.p (by first | exact mv1 rfl | exact mv2 rfl | exact mv3 rfl | exact mv4 rfl | exact mv5 rfl | exact mv6 rfl | exact mv7 rfl | exact mv8 rfl | exact mv9 rfl) rfl ?_
              refine AL.yes rfl rfl rfl ?_
              refine AL.p (by first | exact g_not rfl | exact g_neg rfl (by first | exact wrap_i64 (by omega) | exact wrap_u8 (by omega) | exact wrap_u64 (by omega) | rfl)) rfl ?_
              refine AL.p (by first | exact g_pickT (r := .d _) rfl rfl | exact g_pickF (r := .d _) rfl rfl) rfl ?_
              refine AL.p (by first | exact mv1 rfl | exact mv2 rfl | exact mv3 rfl | exact mv4 rfl | exact mv5 rfl | exact mv6 rfl | exact mv7 rfl | exact mv8 rfl | exact mv9 rfl) rfl ?_
              first | refine AL.caseG rfl rfl (fun h5 => ?_) (fun h5 => ?_) | refine AL.caseGN rfl rfl (fun h5 => ?_) (fun h5 => ?_) | refine AL.caseGB rfl rfl (fun h5 => ?_) (fun h5 => ?_) | refine AL.caseGNB rfl rfl (fun h5 => ?_) (fun h5 => ?_)
              · refine AL.not rfl rfl rfl rfl rfl ?_
                refine AL.not rfl rfl rfl rfl rfl ?_
                refine AL.p (by first | exact g_pickT (r := .d _) rfl rfl | exact g_pickF (r := .d _) rfl rfl) rfl ?_
                refine AL.p (by first | exact mv1 rfl | exact mv2 rfl | exact mv3 rfl | exact mv4 rfl | exact mv5 rfl | exact mv6 rfl | exact mv7 rfl | exact mv8 rfl | exact mv9 rfl) rfl ?_
                refine AL.not rfl rfl rfl rfl rfl ?_
                refine AL.not rfl rfl rfl rfl rfl ?_
                refine AL.p (by first | exact g_pickT (r := .d _) rfl rfl | exact g_pickF (r := .d _) rfl rfl) rfl ?_
                refine AL.p (by first | exact mv1 rfl | exact mv2 rfl | exact mv3 rfl | exact mv4 rfl | exact mv5 rfl | exact mv6 rfl | exact mv7 rfl | exact mv8 rfl | exact mv9 rfl) rfl ?_
                refine AL.not rfl rfl rfl rfl rfl ?_
                refine AL.not rfl rfl rfl rfl rfl ?_
                refine AL.p (by first | exact g_pickT (r := .d _) rfl rfl | exact g_pickF (r := .d _) rfl rfl) rfl ?_
                refine AL.p (by first | exact mv1 rfl | exact mv2 rfl | exact mv3 rfl | exact mv4 rfl | exact mv5 rfl | exact mv6 rfl | exact mv7 rfl | exact mv8 rfl | exact mv9 rfl) rfl ?_
                refine AL.not rfl rfl rfl rfl rfl ?_
                refine AL.not rfl rfl rfl rfl rfl ?_
                refine AL.not rfl rfl rfl rfl rfl ?_
                refine AL.p (by first | exact g_pickT (r := .d _) rfl rfl | exact g_pickF (r := .d _) rfl rfl) rfl ?_
                refine AL.nil ?_
                refine th_n ?_
                refine AC.condT rfl ?_
                refine AC.seq ?_
                exfalso
                first | (rw [k1] at h4; simp at h4; done) | (rw [k1] at h5; simp at h5; done) | (rw [k2] at h6; simp at h6; done) | (rw [k2] at h7; simp at h7; done) | (rw [k3] at h8; simp at h8; done) | (rw [k3] at h9; exact h9 rfl)
              · refine AL.yes rfl rfl rfl ?_
                refine AL.p (by first | exact mv1 rfl | exact mv2 rfl | exact mv3 rfl | exact mv4 rfl | exact mv5 rfl | exact mv6 rfl | exact mv7 rfl | exact mv8 rfl | exact mv9 rfl) rfl ?_
                refine AL.yes rfl rfl rfl ?_
                refine AL.p (by first | exact g_not rfl | exact g_neg rfl (by first | exact wrap_i64 (by omega) | exact wrap_u8 (by omega) | exact wrap_u64 (by omega) | rfl)) rfl ?_
                refine AL.p (by first | exact g_pickT (r := .d _) rfl rfl | exact g_pickF (r := .d _) rfl rfl) rfl ?_
                refine AL.p (by first | exact mv1 rfl | exact mv2 rfl | exact mv3 rfl | exact mv4 rfl | exact mv5 rfl | exact mv6 rfl | exact mv7 rfl | exact mv8 rfl | exact mv9 rfl) rfl ?_
                first | refine AL.caseG rfl rfl (fun h6 => ?_) (fun h6 => ?_) | refine AL.caseGN rfl rfl (fun h6 => ?_) (fun h6 => ?_) | refine AL.caseGB rfl rfl (fun h6 => ?_) (fun h6 => ?_) | refine AL.caseGNB rfl rfl (fun h6 => ?_) (fun h6 => ?_)
                · refine AL.not rfl rfl rfl rfl rfl ?_
                  refine AL.not rfl rfl rfl rfl rfl ?_
                  refine AL.p (by first | exact g_pickT (r := .d _) rfl rfl | exact g_pickF (r := .d _) rfl rfl) rfl ?_
                  refine AL.p (by first | exact mv1 rfl | exact mv2 rfl | exact mv3 rfl | exact mv4 rfl | exact mv5 rfl | exact mv6 rfl | exact mv7 rfl | exact mv8 rfl | exact mv9 rfl) rfl ?_
                  refine AL.not rfl rfl rfl rfl rfl ?_
                  refine AL.not rfl rfl rfl rfl rfl ?_
                  refine AL.p (by first | exact g_pickT (r := .d _) rfl rfl | exact g_pickF (r := .d _) rfl rfl) rfl ?_
                  refine AL.p (by first | exact mv1 rfl | exact mv2 rfl | exact mv3 rfl | exact mv4 rfl | exact mv5 rfl | exact mv6 rfl | exact mv7 rfl | exact mv8 rfl | exact mv9 rfl) rfl ?_
                  refine AL.not rfl rfl rfl rfl rfl ?_
                  refine AL.not rfl rfl rfl rfl rfl ?_
                  refine AL.not rfl rfl rfl rfl rfl ?_
                  refine AL.p (by first | exact g_pickT (r := .d _) rfl rfl | exact g_pickF (r := .d _) rfl rfl) rfl ?_
                  refine AL.nil ?_
                  refine th_n ?_
                  refine AC.condT rfl ?_
                  refine AC.seq ?_
                  exfalso
                  first | (rw [k1] at h4; simp at h4; done) | (rw [k1] at h5; simp at h5; done) | (rw [k2] at h6; simp at h6; done) | (rw [k2] at h7; simp at h7; done) | (rw [k3] at h8; simp at h8; done) | (rw [k3] at h9; exact h9 rfl)
                · refine AL.yes rfl rfl rfl ?_
                  refine AL.p (by first | exact mv1 rfl | exact mv2 rfl | exact mv3 rfl | exact mv4 rfl | exact mv5 rfl | exact mv6 rfl | exact mv7 rfl | exact mv8 rfl | exact mv9 rfl) rfl ?_
                  refine AL.yes rfl rfl rfl ?_
                  refine AL.p (by first | exact g_not rfl | exact g_neg rfl (by first | exact wrap_i64 (by omega) | exact wrap_u8 (by omega) | exact wrap_u64 (by omega) | rfl)) rfl ?_
                  refine AL.p (by first | exact g_pickT (r := .d _) rfl rfl | exact g_pickF (r := .d _) rfl rfl) rfl ?_
                  refine AL.p (by first | exact mv1 rfl | exact mv2 rfl | exact mv3 rfl | exact mv4 rfl | exact mv5 rfl | exact mv6 rfl | exact mv7 rfl | exact mv8 rfl | exact mv9 rfl) rfl ?_
                  first | refine AL.caseG rfl rfl (fun h7 => ?_) (fun h7 => ?_) | refine AL.caseGN rfl rfl (fun h7 => ?_) (fun h7 => ?_) | refine AL.caseGB rfl rfl (fun h7 => ?_) (fun h7 => ?_) | refine AL.caseGNB rfl rfl (fun h7 => ?_) (fun h7 => ?_)
                  · refine AL.not rfl rfl rfl rfl rfl ?_
                    refine AL.not rfl rfl rfl rfl rfl ?_
                    refine AL.p (by first | exact g_pickT (r := .d _) rfl rfl | exact g_pickF (r := .d _) rfl rfl) rfl ?_
                    refine AL.p (by first | exact mv1 rfl | exact mv2 rfl | exact mv3 rfl | exact mv4 rfl | exact mv5 rfl | exact mv6 rfl | exact mv7 rfl | exact mv8 rfl | exact mv9 rfl) rfl ?_
                    refine AL.not rfl rfl rfl rfl rfl ?_
                    refine AL.not rfl rfl rfl rfl rfl ?_
                    refine AL.not rfl rfl rfl rfl rfl ?_
                    refine AL.p (by first | exact g_pickT (r := .d _) rfl rfl | exact g_pickF (r := .d _) rfl rfl) rfl ?_
                    refine AL.nil ?_
                    refine th_n ?_
                    refine AC.condT rfl ?_
                    refine AC.seq ?_
                    exfalso
                    first | (rw [k1] at h4; simp at h4; done) | (rw [k1] at h5; simp at h5; done) | (rw [k2] at h6; simp at h6; done) | (rw [k2] at h7; simp at h7; done) | (rw [k3] at h8; simp at h8; done) | (rw [k3] at h9; exact h9 rfl)
                  · refine AL.yes rfl rfl rfl ?_
                    refine AL.p (by first | exact mv1 rfl | exact mv2 rfl | exact mv3 rfl | exact mv4 rfl | exact mv5 rfl | exact mv6 rfl | exact mv7 rfl | exact mv8 rfl | exact mv9 rfl) rfl ?_
                    refine AL.yes rfl rfl rfl ?_
                    refine AL.p (by first | exact g_not rfl | exact g_neg rfl (by first | exact wrap_i64 (by omega) | exact wrap_u8 (by omega) | exact wrap_u64 (by omega) | rfl)) rfl ?_
                    refine AL.p (by first | exact g_pickT (r := .d _) rfl rfl | exact g_pickF (r := .d _) rfl rfl) rfl ?_
                    refine AL.p (by first | exact mv1 rfl | exact mv2 rfl | exact mv3 rfl | exact mv4 rfl | exact mv5 rfl | exact mv6 rfl | exact mv7 rfl | exact mv8 rfl | exact mv9 rfl) rfl ?_
                    first | refine AL.caseG rfl rfl (fun h8 => ?_) (fun h8 => ?_) | refine AL.caseGN rfl rfl (fun h8 => ?_) (fun h8 => ?_) | refine AL.caseGB rfl rfl (fun h8 => ?_) (fun h8 => ?_) | refine AL.caseGNB rfl rfl (fun h8 => ?_) (fun h8 => ?_)
                    · refine AL.not rfl rfl rfl rfl rfl ?_
                      refine AL.not rfl rfl rfl rfl rfl ?_
                      refine AL.not rfl rfl rfl rfl rfl ?_
                      refine AL.p (by first | exact g_pickT (r := .d _) rfl rfl | exact g_pickF (r := .d _) rfl rfl) rfl ?_
                      refine AL.nil ?_
                      refine th_n ?_
                      refine AC.condT rfl ?_
                      refine AC.seq ?_
                      exfalso
                      first | (rw [k1] at h4; simp at h4; done) | (rw [k1] at h5; simp at h5; done) | (rw [k2] at h6; simp at h6; done) | (rw [k2] at h7; simp at h7; done) | (rw [k3] at h8; simp at h8; done) | (rw [k3] at h9; exact h9 rfl)
                    · refine AL.yes rfl rfl rfl ?_
                      refine AL.p (by first | exact mv1 rfl | exact mv2 rfl | exact mv3 rfl | exact mv4 rfl | exact mv5 rfl | exact mv6 rfl | exact mv7 rfl | exact mv8 rfl | exact mv9 rfl) rfl ?_
                      refine AL.yes rfl rfl rfl ?_
                      refine AL.p (by first | exact mv1 rfl | exact mv2 rfl | exact mv3 rfl | exact mv4 rfl | exact mv5 rfl | exact mv6 rfl | exact mv7 rfl | exact mv8 rfl | exact mv9 rfl) rfl ?_
                      refine AL.yes rfl rfl rfl ?_
                      refine AL.p (by first | exact g_cmp rfl rfl rfl | exact g_scmp rfl rfl rfl | exact g_eqB rfl rfl rfl | exact g_neB rfl rfl rfl) rfl ?_
                      refine AL.p (by first | exact g_pickT (r := .d _) rfl rfl | exact g_pickF (r := .d _) rfl rfl) rfl ?_
                      refine AL.nil ?_
                      refine th_n ?_
                      first | refine AC.condD rfl (fun h9 => ?_) (fun h9 => ?_) | refine AC.condND rfl (fun h9 => ?_) (fun h9 => ?_) | refine AC.condB rfl (fun h9 => ?_) (fun h9 => ?_) | refine AC.condNB rfl (fun h9 => ?_) (fun h9 => ?_)
                      · refine AC.seq ?_
                        exfalso
                        first | (rw [k1] at h4; simp at h4; done) | (rw [k1] at h5; simp at h5; done) | (rw [k2] at h6; simp at h6; done) | (rw [k2] at h7; simp at h7; done) | (rw [k3] at h8; simp at h8; done) | (rw [k3] at h9; exact h9 rfl)
                      · refine AC.skip ?_
                        refine th_n ?_
                        exact ⟨(), trivial, Weak.ren _ [] hC rfl (by repeat (first | exact True.intro | refine And.intro ?_ ?_ | exact DLead.same | exact DLead.eqI (by omega) | exact DLead.nil | exact rfl | refine ⟨_, _, rfl, rfl, ?_⟩ | refine ⟨_, rfl, ?_⟩ | refine ⟨_, _, rfl, ?_, ?_⟩)) (by repeat (first | exact True.intro | refine And.intro ?_ ?_ | exact DLead.same | exact DLead.eqI (by omega) | exact DLead.nil | exact rfl | refine ⟨_, _, rfl, rfl, ?_⟩ | refine ⟨_, rfl, ?_⟩ | refine ⟨_, _, rfl, ?_, ?_⟩)) rfl rfl rfl⟩
          · refine AC.skip ?_
            refine th_n ?_
            exact ⟨(), trivial, Weak.ren _ [] hC rfl (by repeat (first | exact True.intro | refine And.intro ?_ ?_ | exact DLead.same | exact DLead.eqI (by omega) | exact DLead.nil | exact rfl | refine ⟨_, _, rfl, rfl, ?_⟩ | refine ⟨_, rfl, ?_⟩ | refine ⟨_, _, rfl, ?_, ?_⟩)) (by repeat (first | exact True.intro | refine And.intro ?_ ?_ | exact DLead.same | exact DLead.eqI (by omega) | exact DLead.nil | exact rfl | refine ⟨_, _, rfl, rfl, ?_⟩ | refine ⟨_, rfl, ?_⟩ | refine ⟨_, _, rfl, ?_, ?_⟩)) rfl rfl rfl⟩
        · intro _ _
          refine AC.seq ?_
          refine AC.region ?_
          refine AL.p (by first | exact mv1 rfl | exact mv2 rfl | exact mv3 rfl | exact mv4 rfl | exact mv5 rfl | exact mv6 rfl | exact mv7 rfl | exact mv8 rfl | exact mv9 rfl) rfl ?_
          refine AL.q (by exact h_pure en_sDrawSuper rfl rfl (by repeat (first | exact rfl | exact DLead.same | exact DLead.nil | refine ⟨_, _, rfl, ?_, ?_⟩ | refine ⟨_, rfl, ?_⟩)) hS rfl) rfl ?_
          refine AL.p (by first | exact as1 rfl | exact as2 rfl | exact as3 rfl | exact as4 rfl | exact as5 rfl | exact as6 rfl | exact as7 rfl | exact as8 rfl | exact as9 rfl) rfl ?_
          refine AL.nil ?_
          refine th_n ?_
          refine AC.seq ?_
          refine AC.region ?_
          refine AL.p (by first | exact mv1 rfl | exact mv2 rfl | exact mv3 rfl | exact mv4 rfl | exact mv5 rfl | exact mv6 rfl | exact mv7 rfl | exact mv8 rfl | exact mv9 rfl) rfl ?_
          refine AL.q (by exact h_pure en_iSuper rfl rfl (by repeat (first | exact rfl | exact DLead.same | exact DLead.nil | refine ⟨_, _, rfl, ?_, ?_⟩ | refine ⟨_, rfl, ?_⟩)) hL0 rfl) rfl ?_
          refine AL.p (by first | exact mv1 rfl | exact mv2 rfl | exact mv3 rfl | exact mv4 rfl | exact mv5 rfl | exact mv6 rfl | exact mv7 rfl | exact mv8 rfl | exact mv9 rfl) rfl ?_
          refine AL.p (by first | exact g_extract (r := .d _) rfl rfl | exact g_extract (r := .own _ _) rfl rfl | exact g_extract (r := .agg _) rfl rfl) rfl ?_
          refine AL.p (by first | exact g_extract (r := .d _) rfl rfl | exact g_extract (r := .own _ _) rfl rfl | exact g_extract (r := .agg _) rfl rfl) rfl ?_
          refine AL.p (by first | exact as1 rfl | exact as2 rfl | exact as3 rfl | exact as4 rfl | exact as5 rfl | exact as6 rfl | exact as7 rfl | exact as8 rfl | exact as9 rfl) rfl ?_
          refine AL.p (by first | exact as1 rfl | exact as2 rfl | exact as3 rfl | exact as4 rfl | exact as5 rfl | exact as6 rfl | exact as7 rfl | exact as8 rfl | exact as9 rfl) rfl ?_
          refine AL.nil ?_
          refine th_n ?_
          refine AC.seq ?_
          refine AC.region ?_
          refine AL.p (by first | exact mv1 rfl | exact mv2 rfl | exact mv3 rfl | exact mv4 rfl | exact mv5 rfl | exact mv6 rfl | exact mv7 rfl | exact mv8 rfl | exact mv9 rfl) rfl ?_
          refine AL.q (by exact h_pure en_sSuper rfl rfl (by repeat (first | exact rfl | exact DLead.same | exact DLead.nil | refine ⟨_, _, rfl, ?_, ?_⟩ | refine ⟨_, rfl, ?_⟩)) hL1 rfl) rfl ?_
          refine AL.p (by first | exact mv1 rfl | exact mv2 rfl | exact mv3 rfl | exact mv4 rfl | exact mv5 rfl | exact mv6 rfl | exact mv7 rfl | exact mv8 rfl | exact mv9 rfl) rfl ?_
          refine AL.p (by first | exact g_extract (r := .d _) rfl rfl | exact g_extract (r := .own _ _) rfl rfl | exact g_extract (r := .agg _) rfl rfl) rfl ?_
          refine AL.p (by first | exact g_extract (r := .d _) rfl rfl | exact g_extract (r := .own _ _) rfl rfl | exact g_extract (r := .agg _) rfl rfl) rfl ?_
          refine AL.p (by first | exact as1 rfl | exact as2 rfl | exact as3 rfl | exact as4 rfl | exact as5 rfl | exact as6 rfl | exact as7 rfl | exact as8 rfl | exact as9 rfl) rfl ?_
          refine AL.p (by first | exact as1 rfl | exact as2 rfl | exact as3 rfl | exact as4 rfl | exact as5 rfl | exact as6 rfl | exact as7 rfl | exact as8 rfl | exact as9 rfl) rfl ?_
          refine AL.nil ?_
          refine th_n ?_
          refine AC.seq ?_
          refine AC.seq ?_
          refine AC.region ?_
          refine AL.p (by first | exact mv1 rfl | exact mv2 rfl | exact mv3 rfl | exact mv4 rfl | exact mv5 rfl | exact mv6 rfl | exact mv7 rfl | exact mv8 rfl | exact mv9 rfl) rfl ?_
          refine AL.p (by first | exact mv1 rfl | exact mv2 rfl | exact mv3 rfl | exact mv4 rfl | exact mv5 rfl | exact mv6 rfl | exact mv7 rfl | exact mv8 rfl | exact mv9 rfl) rfl ?_
          refine AL.p (by first | exact g_cmp rfl rfl rfl | exact g_scmp rfl rfl rfl | exact g_eqB rfl rfl rfl | exact g_neB rfl rfl rfl) rfl ?_
          refine AL.p (by first | exact mv1 rfl | exact mv2 rfl | exact mv3 rfl | exact mv4 rfl | exact mv5 rfl | exact mv6 rfl | exact mv7 rfl | exact mv8 rfl | exact mv9 rfl) rfl ?_
          first | refine AL.caseG rfl rfl (fun h3 => ?_) (fun h3 => ?_) | refine AL.caseGN rfl rfl (fun h3 => ?_) (fun h3 => ?_) | refine AL.caseGB rfl rfl (fun h3 => ?_) (fun h3 => ?_) | refine AL.caseGNB rfl rfl (fun h3 => ?_) (fun h3 => ?_)
          · refine AL.not rfl rfl rfl rfl rfl ?_
            refine AL.not rfl rfl rfl rfl rfl ?_
            refine AL.not rfl rfl rfl rfl rfl ?_
            refine AL.p (by first | exact g_pickT (r := .d _) rfl rfl | exact g_pickF (r := .d _) rfl rfl) rfl ?_
            refine AL.nil ?_
            refine th_n ?_
            refine AC.condT rfl ?_
            refine AC.seq ?_
            first | exact absurd rfl h3 | exact absurd rfl h4
          · refine AL.yes rfl rfl rfl ?_
            refine AL.p (by first | exact mv1 rfl | exact mv2 rfl | exact mv3 rfl | exact mv4 rfl | exact mv5 rfl | exact mv6 rfl | exact mv7 rfl | exact mv8 rfl | exact mv9 rfl) rfl ?_
            refine AL.yes rfl rfl rfl ?_
            refine AL.p (by first | exact mv1 rfl | exact mv2 rfl | exact mv3 rfl | exact mv4 rfl | exact mv5 rfl | exact mv6 rfl | exact mv7 rfl | exact mv8 rfl | exact mv9 rfl) rfl ?_
            refine AL.yes rfl rfl rfl ?_
            refine AL.p (by first | exact g_cmp rfl rfl rfl | exact g_scmp rfl rfl rfl | exact g_eqB rfl rfl rfl | exact g_neB rfl rfl rfl) rfl ?_
            refine AL.p (by first | exact g_pickT (r := .d _) rfl rfl | exact g_pickF (r := .d _) rfl rfl) rfl ?_
            refine AL.nil ?_
            refine th_n ?_
            first | refine AC.condD rfl (fun h4 => ?_) (fun h4 => ?_) | refine AC.condND rfl (fun h4 => ?_) (fun h4 => ?_) | refine AC.condB rfl (fun h4 => ?_) (fun h4 => ?_) | refine AC.condNB rfl (fun h4 => ?_) (fun h4 => ?_)
            · refine AC.seq ?_
              first | exact absurd rfl h3 | exact absurd rfl h4
            · refine AC.skip ?_
              refine th_n ?_
              refine AC.cut (fun (_ : Unit) => ⟨255, 108, [(1, .d (vB more))], []⟩) (fun _ => True) ?_ ?_
              · refine AC.seq ?_
                refine AC.region ?_
                refine AL.p (by first | exact mv1 rfl | exact mv2 rfl | exact mv3 rfl | exact mv4 rfl | exact mv5 rfl | exact mv6 rfl | exact mv7 rfl | exact mv8 rfl | exact mv9 rfl) rfl ?_
                refine AL.nil ?_
                refine th_n ?_
                first | refine AC.condD rfl (fun h5 => ?_) (fun h5 => ?_) | refine AC.condND rfl (fun h5 => ?_) (fun h5 => ?_) | refine AC.condB rfl (fun h5 => ?_) (fun h5 => ?_) | refine AC.condNB rfl (fun h5 => ?_) (fun h5 => ?_)
                · refine AC.seq ?_
                  refine AC.seq ?_
                  have hLo : L.2 = true := by assumption
                  have hok : okS l = true := by by_cases gg : okS l = true; exact gg; rw [hL, superI_no (Bool.eq_false_iff.2 gg)] at hLo; cases hLo
                  have hL1' : L.1 = superV l := by rw [hL, superI_yes hok]
                  obtain ⟨V, hV⟩ : ∃ V, V = superV l := ⟨_, rfl⟩
                  rw [← hV] at hL1'
                  rw [hL1']
                  have hof := okS_of hok
                  have hVl : V.length = (fst0 l).length := by rw [hV]; exact superV_len l
                  have hVc := cubeB_of (sup_cube hok)
                  rw [← hV] at hVc
                  have hVz := bstr_size V
                  refine AC.region ?_
                  refine AL.p (by first | exact mv1 rfl | exact mv2 rfl | exact mv3 rfl | exact mv4 rfl | exact mv5 rfl | exact mv6 rfl | exact mv7 rfl | exact mv8 rfl | exact mv9 rfl) rfl ?_
                  refine AL.p (by first | exact g_len_view rfl rfl (by first | exact List.length_map _ | rfl) | exact g_len_str rfl rfl rfl | exact g_len_nil rfl rfl | exact g_len_own (sz := 1) (els := []) (e' := 0) rfl rfl (by simp only [maxLen]; omega) | exact g_len_tight rfl rfl (by first | exact List.length_map _ | rfl)) rfl ?_
                  refine AL.p (by first | exact mv1 rfl | exact mv2 rfl | exact mv3 rfl | exact mv4 rfl | exact mv5 rfl | exact mv6 rfl | exact mv7 rfl | exact mv8 rfl | exact mv9 rfl) rfl ?_
                  refine AL.nil ?_
                  refine th_n ?_
                  refine AC.block ?_
                  refine AC.loop (ι := Nat) (fun k => ⟨255, 108, [(1, .d (vB more)), (17, .d (vSs l)), (18, aS (bstr V)), (136, .d (vSs l)), (137, aI l.length), (138, aI k)], []⟩) (fun k => k ≤ l.length) (fun k => l.length - k) (0) ?_ (Nat.zero_le _) ?_
                  · refine Weak.ren _ [] hC rfl ?_ ?_ rfl rfl rfl <;> repeat (first | exact True.intro | refine And.intro ?_ ?_ | exact DLead.same | exact DLead.eqI (by omega) | exact DLead.nil | exact rfl)
                  · intro k hk
                    refine AC.seq ?_
                    refine AC.region ?_
                    refine AL.p (by first | exact g_cmp rfl rfl rfl | exact g_scmp rfl rfl rfl | exact g_eqB rfl rfl rfl | exact g_neB rfl rfl rfl) rfl ?_
                    refine AL.nil ?_
                    refine th_n ?_
                    refine AC.seq ?_
                    first | refine AC.condD rfl (fun h6 => ?_) (fun h6 => ?_) | refine AC.condND rfl (fun h6 => ?_) (fun h6 => ?_) | refine AC.condB rfl (fun h6 => ?_) (fun h6 => ?_) | refine AC.condNB rfl (fun h6 => ?_) (fun h6 => ?_)
                    · refine AC.skip ?_
                      refine th_n ?_
                      refine AC.seq ?_
                      refine AC.block ?_
                      refine AC.seq ?_
                      have hk1 : k < l.length := by omega
                      have hget := strs_at hk1
                      have hxl := hll _ (List.getElem_mem hk1)
                      have hK := iHas_spec V l[k] (by omega) (by omega)
                      have hs := sup_has hok (List.getElem_mem hk1)
                      rw [← hV] at hs
                      obtain ⟨Q, hQ⟩ : ∃ Q, Q = hasI2 V l[k] := ⟨_, rfl⟩
                      rw [← hQ] at hK hs
                      refine AC.region ?_
                      refine AL.p (by first | exact g_ia_view rfl rfl rfl rfl rfl (by first | rfl | assumption) (by first | assumption | rfl) | exact g_ia_own rfl rfl rfl rfl rfl (by first | rfl | assumption) (by omega) (by first | exact Nat.mul_one _ | rfl | omega)) rfl ?_
                      refine AL.p (by first | exact g_load_ref rfl rfl rfl | exact g_load_ptr rfl rfl rfl rfl rfl | exact g_load_refN rfl rfl rfl rfl | exact g_load_ptrN rfl rfl rfl rfl rfl | exact g_load_arr1 rfl rfl rfl rfl (by assumption) | exact g_load_arr rfl rfl rfl rfl (by first | rfl | omega) (by first | assumption | rfl) (by first | assumption | rfl)) rfl ?_
                      refine AL.p (by first | exact as1 rfl | exact as2 rfl | exact as3 rfl | exact as4 rfl | exact as5 rfl | exact as6 rfl | exact as7 rfl | exact as8 rfl | exact as9 rfl) rfl ?_
                      refine AL.nil ?_
                      refine th_n ?_
                      refine AC.seq ?_
                      refine AC.region ?_
                      refine AL.p (by first | exact mv1 rfl | exact mv2 rfl | exact mv3 rfl | exact mv4 rfl | exact mv5 rfl | exact mv6 rfl | exact mv7 rfl | exact mv8 rfl | exact mv9 rfl) rfl ?_
                      refine AL.p (by first | exact mv1 rfl | exact mv2 rfl | exact mv3 rfl | exact mv4 rfl | exact mv5 rfl | exact mv6 rfl | exact mv7 rfl | exact mv8 rfl | exact mv9 rfl) rfl ?_
                      refine AL.q (by exact h_pure en_iHas rfl rfl (by repeat (first | exact rfl | exact DLead.same | exact DLead.nil | refine ⟨_, _, rfl, ?_, ?_⟩ | refine ⟨_, rfl, ?_⟩)) hK rfl) rfl ?_
                      refine AL.p (by first | exact mv1 rfl | exact mv2 rfl | exact mv3 rfl | exact mv4 rfl | exact mv5 rfl | exact mv6 rfl | exact mv7 rfl | exact mv8 rfl | exact mv9 rfl) rfl ?_
                      refine AL.p (by first | exact g_extract (r := .d _) rfl rfl | exact g_extract (r := .own _ _) rfl rfl | exact g_extract (r := .agg _) rfl rfl) rfl ?_
                      refine AL.p (by first | exact g_extract (r := .d _) rfl rfl | exact g_extract (r := .own _ _) rfl rfl | exact g_extract (r := .agg _) rfl rfl) rfl ?_
                      refine AL.p (by first | exact as1 rfl | exact as2 rfl | exact as3 rfl | exact as4 rfl | exact as5 rfl | exact as6 rfl | exact as7 rfl | exact as8 rfl | exact as9 rfl) rfl ?_
                      refine AL.p (by first | exact as1 rfl | exact as2 rfl | exact as3 rfl | exact as4 rfl | exact as5 rfl | exact as6 rfl | exact as7 rfl | exact as8 rfl | exact as9 rfl) rfl ?_
                      refine AL.nil ?_
                      refine th_n ?_
                      refine AC.seq ?_
                      refine AC.region ?_
                      refine AL.p (by first | exact mv1 rfl | exact mv2 rfl | exact mv3 rfl | exact mv4 rfl | exact mv5 rfl | exact mv6 rfl | exact mv7 rfl | exact mv8 rfl | exact mv9 rfl) rfl ?_
                      refine AL.p (by first | exact g_not rfl | exact g_neg rfl (by first | exact wrap_i64 (by omega) | exact wrap_u8 (by omega) | exact wrap_u64 (by omega) | rfl)) rfl ?_
                      refine AL.p (by first | exact mv1 rfl | exact mv2 rfl | exact mv3 rfl | exact mv4 rfl | exact mv5 rfl | exact mv6 rfl | exact mv7 rfl | exact mv8 rfl | exact mv9 rfl) rfl ?_
                      first | refine AL.caseG rfl rfl (fun h7 => ?_) (fun h7 => ?_) | refine AL.caseGN rfl rfl (fun h7 => ?_) (fun h7 => ?_) | refine AL.caseGB rfl rfl (fun h7 => ?_) (fun h7 => ?_) | refine AL.caseGNB rfl rfl (fun h7 => ?_) (fun h7 => ?_)
                      · refine AL.not rfl rfl rfl rfl rfl ?_
                        refine AL.not rfl rfl rfl rfl rfl ?_
                        refine AL.p (by first | exact g_pickT (r := .d _) rfl rfl | exact g_pickF (r := .d _) rfl rfl) rfl ?_
                        refine AL.nil ?_
                        refine th_n ?_
                        refine AC.condT rfl ?_
                        refine AC.seq ?_
                        exfalso
                        first | (rw [hs] at h7; simp at h7; done) | (rw [hs] at h8; simp at h8; done)
                      · refine AL.yes rfl rfl rfl ?_
                        refine AL.p (by first | exact mv1 rfl | exact mv2 rfl | exact mv3 rfl | exact mv4 rfl | exact mv5 rfl | exact mv6 rfl | exact mv7 rfl | exact mv8 rfl | exact mv9 rfl) rfl ?_
                        refine AL.yes rfl rfl rfl ?_
                        refine AL.p (by first | exact g_not rfl | exact g_neg rfl (by first | exact wrap_i64 (by omega) | exact wrap_u8 (by omega) | exact wrap_u64 (by omega) | rfl)) rfl ?_
                        refine AL.p (by first | exact g_pickT (r := .d _) rfl rfl | exact g_pickF (r := .d _) rfl rfl) rfl ?_
                        refine AL.nil ?_
                        refine th_n ?_
                        first | refine AC.condD rfl (fun h8 => ?_) (fun h8 => ?_) | refine AC.condND rfl (fun h8 => ?_) (fun h8 => ?_) | refine AC.condB rfl (fun h8 => ?_) (fun h8 => ?_) | refine AC.condNB rfl (fun h8 => ?_) (fun h8 => ?_)
                        · refine AC.seq ?_
                          exfalso
                          first | (rw [hs] at h7; simp at h7; done) | (rw [hs] at h8; simp at h8; done)
                        · refine AC.skip ?_
                          refine ib_n ?_
                          refine th_n ?_
                          refine AC.region ?_
                          refine AL.p (by first | exact g_arith rfl rfl rfl (by first | exact wrap_i64 (by omega) | exact wrap_u8 (by omega) | exact wrap_u64 (by omega) | rfl) | exact g_sadd rfl rfl (by first | assumption | omega | (simp only [ByteArray.size_append, bstr_size, List.length_take, List.length_drop, List.length_cons, List.length_nil]; omega))) rfl ?_
                          refine AL.p (by first | exact mv1 rfl | exact mv2 rfl | exact mv3 rfl | exact mv4 rfl | exact mv5 rfl | exact mv6 rfl | exact mv7 rfl | exact mv8 rfl | exact mv9 rfl) rfl ?_
                          refine AL.nil ?_
                          refine th_n ?_
                          exact ⟨k + 1, by omega, by omega, Weak.ren _ [] hC rfl (by repeat (first | exact True.intro | refine And.intro ?_ ?_ | exact DLead.same | exact DLead.eqI (by omega) | exact DLead.nil | exact rfl | refine ⟨_, _, rfl, rfl, ?_⟩ | refine ⟨_, rfl, ?_⟩ | refine ⟨_, _, rfl, ?_, ?_⟩)) (by repeat (first | exact True.intro | refine And.intro ?_ ?_ | exact DLead.same | exact DLead.eqI (by omega) | exact DLead.nil | exact rfl | refine ⟨_, _, rfl, rfl, ?_⟩ | refine ⟨_, rfl, ?_⟩ | refine ⟨_, _, rfl, ?_, ?_⟩)) rfl rfl rfl⟩
                    · refine AC.exit ?_
                      refine th_e ?_
                      refine th_e ?_
                      refine ib_y ?_
                      refine th_n ?_
                      refine AC.seq ?_
                      refine AC.region ?_
                      refine AL.p (by first | exact mv1 rfl | exact mv2 rfl | exact mv3 rfl | exact mv4 rfl | exact mv5 rfl | exact mv6 rfl | exact mv7 rfl | exact mv8 rfl | exact mv9 rfl) rfl ?_
                      refine AL.q (by exact h_range rfl rfl) rfl ?_
                      refine AL.nil ?_
                      refine th_n ?_
                      refine AC.block ?_
                      refine AC.loop (ι := Nat) (fun i => ⟨255, 108, [(1, .d (vB more)), (17, .d (vSs l)), (18, aS (bstr V)), (156, .ptr 100 0)], [(100, some (.iter (bstr V) i))]⟩) (fun i => i ≤ V.length) (fun i => V.length - i) (0) ?_ (Nat.zero_le _) ?_
                      · exact Weak.ren _ [(100, _)] hC rfl (by repeat (first | exact True.intro | refine And.intro ?_ ?_ | exact DLead.same | exact DLead.eqI (by omega) | exact DLead.nil | exact rfl | refine ⟨_, _, rfl, rfl, ?_⟩ | refine ⟨_, rfl, ?_⟩ | refine ⟨_, _, rfl, ?_, ?_⟩)) (by repeat (first | exact True.intro | refine And.intro ?_ ?_ | exact DLead.same | exact DLead.eqI (by omega) | exact DLead.nil | exact rfl | refine ⟨_, _, rfl, rfl, ?_⟩ | refine ⟨_, rfl, ?_⟩ | refine ⟨_, _, rfl, ?_, ?_⟩)) rfl rfl rfl
                      · intro i hi
                        refine AC.seq ?_
                        refine AC.region ?_
                        rcases Nat.lt_or_ge i V.length with hlt | hge
                        · refine AL.q (by exact h_next_yes (bv := V.getD i 0) rfl rfl (bstr_getD hlt) (lit3_lt (lit3_of hVc.1 hlt)) (by omega)) rfl ?_
                          refine AL.p (by first | exact g_extract (r := .d _) rfl rfl | exact g_extract (r := .own _ _) rfl rfl | exact g_extract (r := .agg _) rfl rfl) rfl ?_
                          refine AL.nil ?_
                          refine th_n ?_
                          refine AC.seq ?_
                          refine AC.condT rfl ?_
                          refine AC.skip ?_
                          refine th_n ?_
                          refine AC.block ?_
                          refine AC.seq ?_
                          have hgV := bstr_getD hlt
                          have hget0 := fst0_at hof.1
                          have hKJ : (i : Int) + 1 = ((i + 1 : Nat) : Int) := by omega
                          have h0z := bstr_size (fst0 l)
                          have hx1 : (bstr V).extract 0 i = bstr (V.take i) := by rw [bstr_cut V (Nat.zero_le _) (by omega)]; rfl
                          have hx2 : (bstr (fst0 l)).extract i (i + 1) = bstr [(fst0 l).getD i 0] := cut1 (by omega)
                          have hx3 : (bstr V).extract (i + 1) (bstr V).size = bstr (V.drop (i + 1)) := by rw [hVz, bstr_cut V (by omega) (Nat.le_refl _), List.take_length]
                          have hz1 : (bstr (V.take i)).size = i := by rw [bstr_size, List.length_take]; omega
                          have hz2 : (bstr [(fst0 l).getD i 0]).size = 1 := bstr_size _
                          have hz3 : (bstr (V.drop (i + 1))).size ≤ 10 := by rw [bstr_size, List.length_drop]; omega
                          have hz4 : (bstr (V.take i) ++ bstr [(fst0 l).getD i 0]).size = i + 1 := by rw [ByteArray.size_append, hz1, hz2]
                          have hsm : bstr (V.take i) ++ bstr [(fst0 l).getD i 0] ++ bstr (V.drop (i + 1)) = bstr (smallC l i) := by rw [bstr_append, bstr_append, hV]; rfl
                          have hsl := small_len (l := l) (i := i) (by rw [← hV]; exact hlt)
                          rw [← hV] at hsl
                          have hsn := small_no hok (i := i) (by rw [← hV]; exact hlt)
                          rw [← hV] at hsn
                          obtain ⟨T, hT⟩ : ∃ T, T = smallC l i := ⟨_, rfl⟩
                          rw [← hT] at hsm hsl hsn
                          refine AC.region ?_
                          refine AL.p (by first | exact g_extract (r := .d _) rfl rfl | exact g_extract (r := .own _ _) rfl rfl | exact g_extract (r := .agg _) rfl rfl) rfl ?_
                          refine AL.p (by first | exact as1 rfl | exact as2 rfl | exact as3 rfl | exact as4 rfl | exact as5 rfl | exact as6 rfl | exact as7 rfl | exact as8 rfl | exact as9 rfl) rfl ?_
                          refine AL.nil ?_
                          refine th_n ?_
                          refine AC.seq ?_
                          refine AC.drawn' mixed_ok [[], [], [0,1], [], [3], [3,4], [], [], [7], [3,4,5,6,7,8], [0,1,2,3,4,5,6,7,8,9], [], [], [12], [11,12,13], [0,1,2,3,4,5,6,7,8,9,10,11,12,13,14], [0,1,2,3,4,5,6,7,8,9,10,11,12,13,14,15]] (by decide) ?_
                          refine DF.op 0 [] 17 rfl rfl rfl (.free rfl (NOp.of (by first | exact mv1 rfl | exact mv2 rfl | exact mv3 rfl | exact mv4 rfl | exact mv5 rfl | exact mv6 rfl | exact mv7 rfl | exact mv8 rfl | exact mv9 rfl))) rfl ?_
                          refine DF.op 1 [] 17 rfl rfl rfl (.free rfl (NOp.of (by first | exact mv1 rfl | exact mv2 rfl | exact mv3 rfl | exact mv4 rfl | exact mv5 rfl | exact mv6 rfl | exact mv7 rfl | exact mv8 rfl | exact mv9 rfl))) rfl ?_
                          refine DF.op 2 [0,1] 17 rfl rfl rfl (.free rfl (NOp.of (by exact g_slice_str (l := 0) (h := i) rfl rfl .none (.some rfl rfl) (Nat.zero_le _) (by omega) hx1))) rfl ?_
                          refine DF.op 3 [] 17 rfl rfl rfl (.free rfl (NOp.of (by first | exact mv1 rfl | exact mv2 rfl | exact mv3 rfl | exact mv4 rfl | exact mv5 rfl | exact mv6 rfl | exact mv7 rfl | exact mv8 rfl | exact mv9 rfl))) rfl ?_
                          refine DF.op 4 [3] 17 rfl rfl rfl (.free rfl (NOp.of (by exact g_ia_view (i := 0) rfl rfl rfl rfl rfl rfl hget0))) rfl ?_
                          refine DF.op 5 [3,4] 17 rfl rfl rfl (.free rfl (NOp.of (by first | exact g_load_ref rfl rfl rfl | exact g_load_ptr rfl rfl rfl rfl rfl | exact g_load_refN rfl rfl rfl rfl | exact g_load_ptrN rfl rfl rfl rfl rfl | exact g_load_arr1 rfl rfl rfl rfl (by assumption) | exact g_load_arr rfl rfl rfl rfl (by first | rfl | omega) (by first | assumption | rfl) (by first | assumption | rfl)))) rfl ?_
                          refine DF.op 6 [] 17 rfl rfl rfl (.free rfl (NOp.of (by first | exact mv1 rfl | exact mv2 rfl | exact mv3 rfl | exact mv4 rfl | exact mv5 rfl | exact mv6 rfl | exact mv7 rfl | exact mv8 rfl | exact mv9 rfl))) rfl ?_
                          refine DF.op 7 [] 17 rfl rfl rfl (.free rfl (NOp.of (by first | exact mv1 rfl | exact mv2 rfl | exact mv3 rfl | exact mv4 rfl | exact mv5 rfl | exact mv6 rfl | exact mv7 rfl | exact mv8 rfl | exact mv9 rfl))) rfl ?_
                          refine DF.op 8 [7] 17 rfl rfl rfl (.free rfl (NOp.of (by first | exact g_arith rfl rfl rfl (by first | exact wrap_i64 (by omega) | exact wrap_u8 (by omega) | exact wrap_u64 (by omega) | rfl) | exact g_sadd rfl rfl (by first | assumption | omega | (simp only [ByteArray.size_append, bstr_size, List.length_take, List.length_drop, List.length_cons, List.length_nil]; omega))))) rfl ?_
                          refine DF.op 9 [3,4,5,6,7,8] 17 rfl rfl rfl (.free rfl (NOp.of (by exact g_slice_str (l := i) (h := i + 1) rfl rfl (.some rfl rfl) (.some rfl hKJ) (by omega) (by omega) hx2))) rfl ?_
                          refine DF.op 10 [0,1,2,3,4,5,6,7,8,9] 17 rfl rfl rfl (.free rfl (NOp.of (by exact g_sadd rfl rfl (by rw [hz1, hz2]; omega)))) rfl ?_
                          refine DF.op 11 [] 17 rfl rfl rfl (.free rfl (NOp.of (by first | exact mv1 rfl | exact mv2 rfl | exact mv3 rfl | exact mv4 rfl | exact mv5 rfl | exact mv6 rfl | exact mv7 rfl | exact mv8 rfl | exact mv9 rfl))) rfl ?_
                          refine DF.op 12 [] 17 rfl rfl rfl (.free rfl (NOp.of (by first | exact mv1 rfl | exact mv2 rfl | exact mv3 rfl | exact mv4 rfl | exact mv5 rfl | exact mv6 rfl | exact mv7 rfl | exact mv8 rfl | exact mv9 rfl))) rfl ?_
                          refine DF.op 13 [12] 17 rfl rfl rfl (.free rfl (NOp.of (by first | exact g_arith rfl rfl rfl (by first | exact wrap_i64 (by omega) | exact wrap_u8 (by omega) | exact wrap_u64 (by omega) | rfl) | exact g_sadd rfl rfl (by first | assumption | omega | (simp only [ByteArray.size_append, bstr_size, List.length_take, List.length_drop, List.length_cons, List.length_nil]; omega))))) rfl ?_
                          refine DF.op 14 [11,12,13] 17 rfl rfl rfl (.free rfl (NOp.of (by exact g_slice_str (l := i + 1) rfl rfl (.some rfl hKJ) .none (by omega) (Nat.le_refl _) hx3))) rfl ?_
                          refine DF.op 15 [0,1,2,3,4,5,6,7,8,9,10,11,12,13,14] 17 rfl rfl rfl (.free rfl (NOp.of (by exact g_sadd rfl rfl (by rw [hz4]; omega)))) rfl ?_
                          refine DF.op 16 [0,1,2,3,4,5,6,7,8,9,10,11,12,13,14,15] 17 rfl rfl rfl (.free rfl (NOp.of (by first | exact as1 rfl | exact as2 rfl | exact as3 rfl | exact as4 rfl | exact as5 rfl | exact as6 rfl | exact as7 rfl | exact as8 rfl | exact as9 rfl))) rfl ?_
                          refine DF.fin (ps := [(0, 1), (0, 3), (0, 4), (0, 5), (0, 6), (0, 7), (0, 8), (0, 9), (0, 11), (0, 12), (0, 13), (0, 14), (1, 0), (1, 3), (1, 4), (1, 5), (1, 6), (1, 7), (1, 8), (1, 9), (1, 11), (1, 12), (1, 13), (1, 14), (2, 3), (2, 4), (2, 5), (2, 6), (2, 7), (2, 8), (2, 9), (2, 11), (2, 12), (2, 13), (2, 14), (3, 0), (3, 1), (3, 2), (3, 6), (3, 7), (3, 8), (3, 11), (3, 12), (3, 13), (3, 14), (4, 0), (4, 1), (4, 2), (4, 6), (4, 7), (4, 8), (4, 11), (4, 12), (4, 13), (4, 14), (5, 0), (5, 1), (5, 2), (5, 6), (5, 7), (5, 8), (5, 11), (5, 12), (5, 13), (5, 14), (6, 0), (6, 1), (6, 2), (6, 3), (6, 4), (6, 5), (6, 7), (6, 8), (6, 11), (6, 12), (6, 13), (6, 14), (7, 0), (7, 1), (7, 2), (7, 3), (7, 4), (7, 5), (7, 6), (7, 11), (7, 12), (7, 13), (7, 14), (8, 0), (8, 1), (8, 2), (8, 3), (8, 4), (8, 5), (8, 6), (8, 11), (8, 12), (8, 13), (8, 14), (9, 0), (9, 1), (9, 2), (9, 11), (9, 12), (9, 13), (9, 14), (10, 11), (10, 12), (10, 13), (10, 14), (11, 0), (11, 1), (11, 2), (11, 3), (11, 4), (11, 5), (11, 6), (11, 7), (11, 8), (11, 9), (11, 10), (11, 12), (11, 13), (12, 0), (12, 1), (12, 2), (12, 3), (12, 4), (12, 5), (12, 6), (12, 7), (12, 8), (12, 9), (12, 10), (12, 11), (13, 0), (13, 1), (13, 2), (13, 3), (13, 4), (13, 5), (13, 6), (13, 7), (13, 8), (13, 9), (13, 10), (13, 11), (14, 0), (14, 1), (14, 2), (14, 3), (14, 4), (14, 5), (14, 6), (14, 7), (14, 8), (14, 9), (14, 10)]) 17 rfl (by decide +kernel) (by decide +kernel) (by rfl) ?_
                          refine th_n ?_
                          refine AC.seq ?_
                          refine AC.region ?_
                          refine AL.p (by first | exact as1 rfl | exact as2 rfl | exact as3 rfl | exact as4 rfl | exact as5 rfl | exact as6 rfl | exact as7 rfl | exact as8 rfl | exact as9 rfl) rfl ?_
                          refine AL.nil ?_
                          refine th_n ?_
                          refine AC.seq ?_
                          refine AC.seq ?_
                          refine AC.region ?_
                          refine AL.p (by first | exact mv1 rfl | exact mv2 rfl | exact mv3 rfl | exact mv4 rfl | exact mv5 rfl | exact mv6 rfl | exact mv7 rfl | exact mv8 rfl | exact mv9 rfl) rfl ?_
                          refine AL.p (by first | exact g_len_view rfl rfl (by first | exact List.length_map _ | rfl) | exact g_len_str rfl rfl rfl | exact g_len_nil rfl rfl | exact g_len_own (sz := 1) (els := []) (e' := 0) rfl rfl (by simp only [maxLen]; omega) | exact g_len_tight rfl rfl (by first | exact List.length_map _ | rfl)) rfl ?_
                          refine AL.p (by first | exact mv1 rfl | exact mv2 rfl | exact mv3 rfl | exact mv4 rfl | exact mv5 rfl | exact mv6 rfl | exact mv7 rfl | exact mv8 rfl | exact mv9 rfl) rfl ?_
                          refine AL.nil ?_
                          refine th_n ?_
                          refine AC.block ?_
                          refine AC.loop (ι := Nat) (fun k => ⟨255, 108, [(1, .d (vB more)), (17, .d (vSs l)), (18, aS (bstr V)), (156, .ptr 100 0), (26, aI i), (27, aS (bstr T)), (28, aT ((l.take k).all (fun x => (hasI2 T x).2 && (hasI2 T x).1))), (176, .d (vSs l)), (177, aI l.length), (178, aI k)], [(100, some (.iter (bstr V) (i + 1)))]⟩) (fun k => k ≤ l.length) (fun k => l.length - k) (0) ?_ (Nat.zero_le _) ?_
                          · exact Weak.ren _ [(100, _)] hC rfl (by rw [← hsm]; repeat (first | exact True.intro | refine And.intro ?_ ?_ | exact DLead.same | exact DLead.eqI (by omega) | exact DLead.nil | exact rfl | refine ⟨_, _, rfl, rfl, ?_⟩ | refine ⟨_, rfl, ?_⟩ | refine ⟨_, _, rfl, ?_, ?_⟩)) (by repeat (first | exact True.intro | refine And.intro ?_ ?_ | exact DLead.same | exact DLead.eqI (by omega) | exact DLead.nil | exact rfl | refine ⟨_, _, rfl, rfl, ?_⟩ | refine ⟨_, rfl, ?_⟩ | refine ⟨_, _, rfl, ?_, ?_⟩)) rfl rfl rfl
                          · intro k hk
                            refine AC.seq ?_
                            refine AC.region ?_
                            refine AL.p (by first | exact g_cmp rfl rfl rfl | exact g_scmp rfl rfl rfl | exact g_eqB rfl rfl rfl | exact g_neB rfl rfl rfl) rfl ?_
                            refine AL.nil ?_
                            refine th_n ?_
                            refine AC.seq ?_
                            first | refine AC.condD rfl (fun h7 => ?_) (fun h7 => ?_) | refine AC.condND rfl (fun h7 => ?_) (fun h7 => ?_) | refine AC.condB rfl (fun h7 => ?_) (fun h7 => ?_) | refine AC.condNB rfl (fun h7 => ?_) (fun h7 => ?_)
                            · refine AC.skip ?_
                              refine th_n ?_
                              refine AC.seq ?_
                              refine AC.block ?_
                              refine AC.seq ?_
                              have hk1 : k < l.length := by omega
                              have hget := strs_at hk1
                              have hxl := hll _ (List.getElem_mem hk1)
                              have hK := iHas_spec T l[k] (by omega) (by omega)
                              have hta := take_all (f := fun x => (hasI2 T x).2 && (hasI2 T x).1) hk1
                              obtain ⟨Q, hQ⟩ : ∃ Q, Q = hasI2 T l[k] := ⟨_, rfl⟩
                              rw [← hQ] at hK hta
                              refine AC.region ?_
                              refine AL.p (by first | exact g_ia_view rfl rfl rfl rfl rfl (by first | rfl | assumption) (by first | assumption | rfl) | exact g_ia_own rfl rfl rfl rfl rfl (by first | rfl | assumption) (by omega) (by first | exact Nat.mul_one _ | rfl | omega)) rfl ?_
                              refine AL.p (by first | exact g_load_ref rfl rfl rfl | exact g_load_ptr rfl rfl rfl rfl rfl | exact g_load_refN rfl rfl rfl rfl | exact g_load_ptrN rfl rfl rfl rfl rfl | exact g_load_arr1 rfl rfl rfl rfl (by assumption) | exact g_load_arr rfl rfl rfl rfl (by first | rfl | omega) (by first | assumption | rfl) (by first | assumption | rfl)) rfl ?_
                              refine AL.p (by first | exact as1 rfl | exact as2 rfl | exact as3 rfl | exact as4 rfl | exact as5 rfl | exact as6 rfl | exact as7 rfl | exact as8 rfl | exact as9 rfl) rfl ?_
                              refine AL.nil ?_
                              refine th_n ?_
                              refine AC.seq ?_
                              refine AC.region ?_
                              refine AL.p (by first | exact mv1 rfl | exact mv2 rfl | exact mv3 rfl | exact mv4 rfl | exact mv5 rfl | exact mv6 rfl | exact mv7 rfl | exact mv8 rfl | exact mv9 rfl) rfl ?_
                              refine AL.p (by first | exact mv1 rfl | exact mv2 rfl | exact mv3 rfl | exact mv4 rfl | exact mv5 rfl | exact mv6 rfl | exact mv7 rfl | exact mv8 rfl | exact mv9 rfl) rfl ?_
                              refine AL.q (by exact h_pure en_iHas rfl rfl (by repeat (first | exact rfl | exact DLead.same | exact DLead.nil | refine ⟨_, _, rfl, ?_, ?_⟩ | refine ⟨_, rfl, ?_⟩)) hK rfl) rfl ?_
                              refine AL.p (by first | exact mv1 rfl | exact mv2 rfl | exact mv3 rfl | exact mv4 rfl | exact mv5 rfl | exact mv6 rfl | exact mv7 rfl | exact mv8 rfl | exact mv9 rfl) rfl ?_
                              refine AL.p (by first | exact g_extract (r := .d _) rfl rfl | exact g_extract (r := .own _ _) rfl rfl | exact g_extract (r := .agg _) rfl rfl) rfl ?_
                              refine AL.p (by first | exact g_extract (r := .d _) rfl rfl | exact g_extract (r := .own _ _) rfl rfl | exact g_extract (r := .agg _) rfl rfl) rfl ?_
                              refine AL.p (by first | exact as1 rfl | exact as2 rfl | exact as3 rfl | exact as4 rfl | exact as5 rfl | exact as6 rfl | exact as7 rfl | exact as8 rfl | exact as9 rfl) rfl ?_
                              refine AL.p (by first | exact as1 rfl | exact as2 rfl | exact as3 rfl | exact as4 rfl | exact as5 rfl | exact as6 rfl | exact as7 rfl | exact as8 rfl | exact as9 rfl) rfl ?_
                              refine AL.nil ?_
                              refine th_n ?_
                              refine AC.region ?_
                              refine AL.p (by first | exact mv1 rfl | exact mv2 rfl | exact mv3 rfl | exact mv4 rfl | exact mv5 rfl | exact mv6 rfl | exact mv7 rfl | exact mv8 rfl | exact mv9 rfl) rfl ?_
                              refine AL.p (by first | exact mv1 rfl | exact mv2 rfl | exact mv3 rfl | exact mv4 rfl | exact mv5 rfl | exact mv6 rfl | exact mv7 rfl | exact mv8 rfl | exact mv9 rfl) rfl ?_
                              first | refine AL.caseG rfl rfl (fun h8 => ?_) (fun h8 => ?_) | refine AL.caseGN rfl rfl (fun h8 => ?_) (fun h8 => ?_) | refine AL.caseGB rfl rfl (fun h8 => ?_) (fun h8 => ?_) | refine AL.caseGNB rfl rfl (fun h8 => ?_) (fun h8 => ?_)
                              · refine AL.yes rfl rfl rfl ?_
                                refine AL.p (by first | exact mv1 rfl | exact mv2 rfl | exact mv3 rfl | exact mv4 rfl | exact mv5 rfl | exact mv6 rfl | exact mv7 rfl | exact mv8 rfl | exact mv9 rfl) rfl ?_
                                refine AL.p (by first | exact g_pickT (r := .d _) rfl rfl | exact g_pickF (r := .d _) rfl rfl) rfl ?_
                                refine AL.p (by first | exact mv1 rfl | exact mv2 rfl | exact mv3 rfl | exact mv4 rfl | exact mv5 rfl | exact mv6 rfl | exact mv7 rfl | exact mv8 rfl | exact mv9 rfl) rfl ?_
                                first | refine AL.caseG rfl rfl (fun h9 => ?_) (fun h9 => ?_) | refine AL.caseGN rfl rfl (fun h9 => ?_) (fun h9 => ?_) | refine AL.caseGB rfl rfl (fun h9 => ?_) (fun h9 => ?_) | refine AL.caseGNB rfl rfl (fun h9 => ?_) (fun h9 => ?_)
                                · refine AL.yes rfl rfl rfl ?_
                                  refine AL.p (by first | exact mv1 rfl | exact mv2 rfl | exact mv3 rfl | exact mv4 rfl | exact mv5 rfl | exact mv6 rfl | exact mv7 rfl | exact mv8 rfl | exact mv9 rfl) rfl ?_
                                  refine AL.p (by first | exact g_pickT (r := .d _) rfl rfl | exact g_pickF (r := .d _) rfl rfl) rfl ?_
                                  refine AL.p (by first | exact as1 rfl | exact as2 rfl | exact as3 rfl | exact as4 rfl | exact as5 rfl | exact as6 rfl | exact as7 rfl | exact as8 rfl | exact as9 rfl) rfl ?_
                                  refine AL.nil ?_
                                  refine ib_n ?_
                                  refine th_n ?_
                                  refine AC.region ?_
                                  refine AL.p (by first | exact g_arith rfl rfl rfl (by first | exact wrap_i64 (by omega) | exact wrap_u8 (by omega) | exact wrap_u64 (by omega) | rfl) | exact g_sadd rfl rfl (by first | assumption | omega | (simp only [ByteArray.size_append, bstr_size, List.length_take, List.length_drop, List.length_cons, List.length_nil]; omega))) rfl ?_
                                  refine AL.p (by first | exact mv1 rfl | exact mv2 rfl | exact mv3 rfl | exact mv4 rfl | exact mv5 rfl | exact mv6 rfl | exact mv7 rfl | exact mv8 rfl | exact mv9 rfl) rfl ?_
                                  refine AL.nil ?_
                                  refine th_n ?_
                                  first | have e := hta.trans (and3_t h8 h9) | have e := hta.trans (and3_f h9) | have e := hta.trans (and3_o h8)
                                  exact ⟨k + 1, by omega, by omega, Weak.ren _ [(100, _)] hC rfl (by rw [e]; repeat (first | exact True.intro | refine And.intro ?_ ?_ | exact DLead.same | exact DLead.eqI (by omega) | exact DLead.nil | exact rfl | refine ⟨_, _, rfl, rfl, ?_⟩ | refine ⟨_, rfl, ?_⟩ | refine ⟨_, _, rfl, ?_, ?_⟩)) (by repeat (first | exact True.intro | refine And.intro ?_ ?_ | exact DLead.same | exact DLead.eqI (by omega) | exact DLead.nil | exact rfl | refine ⟨_, _, rfl, rfl, ?_⟩ | refine ⟨_, rfl, ?_⟩ | refine ⟨_, _, rfl, ?_, ?_⟩)) rfl rfl rfl⟩
                                · refine AL.not rfl rfl rfl rfl rfl ?_
                                  refine AL.p (by first | exact g_pickT (r := .d _) rfl rfl | exact g_pickF (r := .d _) rfl rfl) rfl ?_
                                  refine AL.p (by first | exact as1 rfl | exact as2 rfl | exact as3 rfl | exact as4 rfl | exact as5 rfl | exact as6 rfl | exact as7 rfl | exact as8 rfl | exact as9 rfl) rfl ?_
                                  refine AL.nil ?_
                                  refine ib_n ?_
                                  refine th_n ?_
                                  refine AC.region ?_
                                  refine AL.p (by first | exact g_arith rfl rfl rfl (by first | exact wrap_i64 (by omega) | exact wrap_u8 (by omega) | exact wrap_u64 (by omega) | rfl) | exact g_sadd rfl rfl (by first | assumption | omega | (simp only [ByteArray.size_append, bstr_size, List.length_take, List.length_drop, List.length_cons, List.length_nil]; omega))) rfl ?_
                                  refine AL.p (by first | exact mv1 rfl | exact mv2 rfl | exact mv3 rfl | exact mv4 rfl | exact mv5 rfl | exact mv6 rfl | exact mv7 rfl | exact mv8 rfl | exact mv9 rfl) rfl ?_
                                  refine AL.nil ?_
                                  refine th_n ?_
                                  first | have e := hta.trans (and3_t h8 h9) | have e := hta.trans (and3_f h9) | have e := hta.trans (and3_o h8)
                                  exact ⟨k + 1, by omega, by omega, Weak.ren _ [(100, _)] hC rfl (by rw [e]; repeat (first | exact True.intro | refine And.intro ?_ ?_ | exact DLead.same | exact DLead.eqI (by omega) | exact DLead.nil | exact rfl | refine ⟨_, _, rfl, rfl, ?_⟩ | refine ⟨_, rfl, ?_⟩ | refine ⟨_, _, rfl, ?_, ?_⟩)) (by repeat (first | exact True.intro | refine And.intro ?_ ?_ | exact DLead.same | exact DLead.eqI (by omega) | exact DLead.nil | exact rfl | refine ⟨_, _, rfl, rfl, ?_⟩ | refine ⟨_, rfl, ?_⟩ | refine ⟨_, _, rfl, ?_, ?_⟩)) rfl rfl rfl⟩
                              · refine AL.not rfl rfl rfl rfl rfl ?_
                                refine AL.p (by first | exact g_pickT (r := .d _) rfl rfl | exact g_pickF (r := .d _) rfl rfl) rfl ?_
                                refine AL.p (by first | exact mv1 rfl | exact mv2 rfl | exact mv3 rfl | exact mv4 rfl | exact mv5 rfl | exact mv6 rfl | exact mv7 rfl | exact mv8 rfl | exact mv9 rfl) rfl ?_
                                refine AL.not rfl rfl rfl rfl rfl ?_
                                refine AL.p (by first | exact g_pickT (r := .d _) rfl rfl | exact g_pickF (r := .d _) rfl rfl) rfl ?_
                                refine AL.p (by first | exact as1 rfl | exact as2 rfl | exact as3 rfl | exact as4 rfl | exact as5 rfl | exact as6 rfl | exact as7 rfl | exact as8 rfl | exact as9 rfl) rfl ?_
                                refine AL.nil ?_
                                refine ib_n ?_
                                refine th_n ?_
                                refine AC.region ?_
                                refine AL.p (by first | exact g_arith rfl rfl rfl (by first | exact wrap_i64 (by omega) | exact wrap_u8 (by omega) | exact wrap_u64 (by omega) | rfl) | exact g_sadd rfl rfl (by first | assumption | omega | (simp only [ByteArray.size_append, bstr_size, List.length_take, List.length_drop, List.length_cons, List.length_nil]; omega))) rfl ?_
                                refine AL.p (by first | exact mv1 rfl | exact mv2 rfl | exact mv3 rfl | exact mv4 rfl | exact mv5 rfl | exact mv6 rfl | exact mv7 rfl | exact mv8 rfl | exact mv9 rfl) rfl ?_
                                refine AL.nil ?_
                                refine th_n ?_
                                first | have e := hta.trans (and3_t h8 h9) | have e := hta.trans (and3_f h9) | have e := hta.trans (and3_o h8)
                                exact ⟨k + 1, by omega, by omega, Weak.ren _ [(100, _)] hC rfl (by rw [e]; repeat (first | exact True.intro | refine And.intro ?_ ?_ | exact DLead.same | exact DLead.eqI (by omega) | exact DLead.nil | exact rfl | refine ⟨_, _, rfl, rfl, ?_⟩ | refine ⟨_, rfl, ?_⟩ | refine ⟨_, _, rfl, ?_, ?_⟩)) (by repeat (first | exact True.intro | refine And.intro ?_ ?_ | exact DLead.same | exact DLead.eqI (by omega) | exact DLead.nil | exact rfl | refine ⟨_, _, rfl, rfl, ?_⟩ | refine ⟨_, rfl, ?_⟩ | refine ⟨_, _, rfl, ?_, ?_⟩)) rfl rfl rfl⟩
                            · refine AC.exit ?_
                              refine th_e ?_
                              refine th_e ?_
                              refine ib_y ?_
                              refine th_n ?_
                              refine AC.seq ?_
                              refine AC.region ?_
                              refine AL.p (by first | exact mv1 rfl | exact mv2 rfl | exact mv3 rfl | exact mv4 rfl | exact mv5 rfl | exact mv6 rfl | exact mv7 rfl | exact mv8 rfl | exact mv9 rfl) rfl ?_
                              refine AL.p (by first | exact mv1 rfl | exact mv2 rfl | exact mv3 rfl | exact mv4 rfl | exact mv5 rfl | exact mv6 rfl | exact mv7 rfl | exact mv8 rfl | exact mv9 rfl) rfl ?_
                              refine AL.p (by exact g_index rfl rfl rfl (by first | rfl | assumption) (by assumption)) rfl ?_
                              refine AL.p (by first | exact g_cmp rfl rfl rfl | exact g_scmp rfl rfl rfl | exact g_eqB rfl rfl rfl | exact g_neB rfl rfl rfl) rfl ?_
                              refine AL.p (by first | exact mv1 rfl | exact mv2 rfl | exact mv3 rfl | exact mv4 rfl | exact mv5 rfl | exact mv6 rfl | exact mv7 rfl | exact mv8 rfl | exact mv9 rfl) rfl ?_
                              first | refine AL.caseG rfl rfl (fun h8 => ?_) (fun h8 => ?_) | refine AL.caseGN rfl rfl (fun h8 => ?_) (fun h8 => ?_) | refine AL.caseGB rfl rfl (fun h8 => ?_) (fun h8 => ?_) | refine AL.caseGNB rfl rfl (fun h8 => ?_) (fun h8 => ?_)
                              · refine AL.yes rfl rfl rfl ?_
                                refine AL.p (by first | exact mv1 rfl | exact mv2 rfl | exact mv3 rfl | exact mv4 rfl | exact mv5 rfl | exact mv6 rfl | exact mv7 rfl | exact mv8 rfl | exact mv9 rfl) rfl ?_
                                refine AL.p (by first | exact g_pickT (r := .d _) rfl rfl | exact g_pickF (r := .d _) rfl rfl) rfl ?_
                                refine AL.nil ?_
                                refine th_n ?_
                                first | refine AC.condD rfl (fun h9 => ?_) (fun h9 => ?_) | refine AC.condND rfl (fun h9 => ?_) (fun h9 => ?_) | refine AC.condB rfl (fun h9 => ?_) (fun h9 => ?_) | refine AC.condNB rfl (fun h9 => ?_) (fun h9 => ?_)
                                · refine AC.seq ?_
                                  exfalso
                                  have hkk : k = l.length := by omega
                                  rw [hkk, List.take_length] at h9
                                  obtain ⟨x, hx, hxf⟩ := hsn h8
                                  have h10 := List.all_eq_true.1 h9 x hx
                                  rw [hxf] at h10
                                  simp at h10
                                · refine AC.skip ?_
                                  refine ib_n ?_
                                  refine th_n ?_
                                  exact ⟨i + 1, by omega, by omega, Weak.ren _ [(100, _)] hC rfl (by repeat (first | exact True.intro | refine And.intro ?_ ?_ | exact DLead.same | exact DLead.eqI (by omega) | exact DLead.nil | exact rfl | refine ⟨_, _, rfl, rfl, ?_⟩ | refine ⟨_, rfl, ?_⟩ | refine ⟨_, _, rfl, ?_, ?_⟩)) (by repeat (first | exact True.intro | refine And.intro ?_ ?_ | exact DLead.same | exact DLead.eqI (by omega) | exact DLead.nil | exact rfl | refine ⟨_, _, rfl, rfl, ?_⟩ | refine ⟨_, rfl, ?_⟩ | refine ⟨_, _, rfl, ?_, ?_⟩)) rfl rfl rfl⟩
                              · refine AL.not rfl rfl rfl rfl rfl ?_
                                refine AL.p (by first | exact g_pickT (r := .d _) rfl rfl | exact g_pickF (r := .d _) rfl rfl) rfl ?_
                                refine AL.nil ?_
                                refine th_n ?_
                                refine AC.condF rfl ?_
                                refine AC.skip ?_
                                refine ib_n ?_
                                refine th_n ?_
                                exact ⟨i + 1, by omega, by omega, Weak.ren _ [(100, _)] hC rfl (by repeat (first | exact True.intro | refine And.intro ?_ ?_ | exact DLead.same | exact DLead.eqI (by omega) | exact DLead.nil | exact rfl | refine ⟨_, _, rfl, rfl, ?_⟩ | refine ⟨_, rfl, ?_⟩ | refine ⟨_, _, rfl, ?_, ?_⟩)) (by repeat (first | exact True.intro | refine And.intro ?_ ?_ | exact DLead.same | exact DLead.eqI (by omega) | exact DLead.nil | exact rfl | refine ⟨_, _, rfl, rfl, ?_⟩ | refine ⟨_, rfl, ?_⟩ | refine ⟨_, _, rfl, ?_, ?_⟩)) rfl rfl rfl⟩
                        · refine AL.p (by exact g_next_no rfl rfl (by rw [hVz]; exact hge)) rfl ?_
                          refine AL.p (by first | exact g_extract (r := .d _) rfl rfl | exact g_extract (r := .own _ _) rfl rfl | exact g_extract (r := .agg _) rfl rfl) rfl ?_
                          refine AL.nil ?_
                          refine th_n ?_
                          refine AC.seq ?_
                          refine AC.condF rfl ?_
                          refine AC.exit ?_
                          refine th_e ?_
                          refine th_e ?_
                          refine ib_y ?_
                          refine th_n ?_
                          exact ⟨(), trivial, Weak.ren _ [] hC rfl (by repeat (first | exact True.intro | refine And.intro ?_ ?_ | exact DLead.same | exact DLead.eqI (by omega) | exact DLead.nil | exact rfl | refine ⟨_, _, rfl, rfl, ?_⟩ | refine ⟨_, rfl, ?_⟩ | refine ⟨_, _, rfl, ?_, ?_⟩)) (by repeat (first | exact True.intro | refine And.intro ?_ ?_ | exact DLead.same | exact DLead.eqI (by omega) | exact DLead.nil | exact rfl | refine ⟨_, _, rfl, rfl, ?_⟩ | refine ⟨_, rfl, ?_⟩ | refine ⟨_, _, rfl, ?_, ?_⟩)) rfl rfl rfl⟩
                · refine AC.skip ?_
                  refine th_n ?_
                  exact ⟨(), trivial, Weak.ren _ [] hC rfl (by repeat (first | exact True.intro | refine And.intro ?_ ?_ | exact DLead.same | exact DLead.eqI (by omega) | exact DLead.nil | exact rfl | refine ⟨_, _, rfl, rfl, ?_⟩ | refine ⟨_, rfl, ?_⟩ | refine ⟨_, _, rfl, ?_, ?_⟩)) (by repeat (first | exact True.intro | refine And.intro ?_ ?_ | exact DLead.same | exact DLead.eqI (by omega) | exact DLead.nil | exact rfl | refine ⟨_, _, rfl, rfl, ?_⟩ | refine ⟨_, rfl, ?_⟩ | refine ⟨_, _, rfl, ?_, ?_⟩)) rfl rfl rfl⟩
              · intro _ _
                refine AC.seq ?_
                refine AC.region ?_
                refine AL.p (by first | exact mv1 rfl | exact mv2 rfl | exact mv3 rfl | exact mv4 rfl | exact mv5 rfl | exact mv6 rfl | exact mv7 rfl | exact mv8 rfl | exact mv9 rfl) rfl ?_
                refine AL.q (by exact h_pure en_sDrawSub rfl rfl (by repeat (first | exact rfl | exact DLead.same | exact DLead.nil | refine ⟨_, _, rfl, ?_, ?_⟩ | refine ⟨_, rfl, ?_⟩)) hB rfl) rfl ?_
                refine AL.p (by first | exact mv1 rfl | exact mv2 rfl | exact mv3 rfl | exact mv4 rfl | exact mv5 rfl | exact mv6 rfl | exact mv7 rfl | exact mv8 rfl | exact mv9 rfl) rfl ?_
                refine AL.p (by first | exact g_extract (r := .d _) rfl rfl | exact g_extract (r := .own _ _) rfl rfl | exact g_extract (r := .agg _) rfl rfl) rfl ?_
                refine AL.p (by first | exact g_extract (r := .d _) rfl rfl | exact g_extract (r := .own _ _) rfl rfl | exact g_extract (r := .agg _) rfl rfl) rfl ?_
                refine AL.p (by first | exact as1 rfl | exact as2 rfl | exact as3 rfl | exact as4 rfl | exact as5 rfl | exact as6 rfl | exact as7 rfl | exact as8 rfl | exact as9 rfl) rfl ?_
                refine AL.p (by first | exact as1 rfl | exact as2 rfl | exact as3 rfl | exact as4 rfl | exact as5 rfl | exact as6 rfl | exact as7 rfl | exact as8 rfl | exact as9 rfl) rfl ?_
                refine AL.nil ?_
                refine th_n ?_
                refine AC.seq ?_
                refine AC.region ?_
                refine AL.p (by first | exact mv1 rfl | exact mv2 rfl | exact mv3 rfl | exact mv4 rfl | exact mv5 rfl | exact mv6 rfl | exact mv7 rfl | exact mv8 rfl | exact mv9 rfl) rfl ?_
                refine AL.p (by first | exact mv1 rfl | exact mv2 rfl | exact mv3 rfl | exact mv4 rfl | exact mv5 rfl | exact mv6 rfl | exact mv7 rfl | exact mv8 rfl | exact mv9 rfl) rfl ?_
                refine AL.q (by exact h_pure en_iSub rfl rfl (by repeat (first | exact rfl | exact DLead.same | exact DLead.nil | refine ⟨_, _, rfl, ?_, ?_⟩ | refine ⟨_, rfl, ?_⟩)) hB0 rfl) rfl ?_
                refine AL.p (by first | exact mv1 rfl | exact mv2 rfl | exact mv3 rfl | exact mv4 rfl | exact mv5 rfl | exact mv6 rfl | exact mv7 rfl | exact mv8 rfl | exact mv9 rfl) rfl ?_
                refine AL.p (by first | exact g_extract (r := .d _) rfl rfl | exact g_extract (r := .own _ _) rfl rfl | exact g_extract (r := .agg _) rfl rfl) rfl ?_
                refine AL.p (by first | exact g_extract (r := .d _) rfl rfl | exact g_extract (r := .own _ _) rfl rfl | exact g_extract (r := .agg _) rfl rfl) rfl ?_
                refine AL.p (by first | exact as1 rfl | exact as2 rfl | exact as3 rfl | exact as4 rfl | exact as5 rfl | exact as6 rfl | exact as7 rfl | exact as8 rfl | exact as9 rfl) rfl ?_
                refine AL.p (by first | exact as1 rfl | exact as2 rfl | exact as3 rfl | exact as4 rfl | exact as5 rfl | exact as6 rfl | exact as7 rfl | exact as8 rfl | exact as9 rfl) rfl ?_
                refine AL.nil ?_
                refine th_n ?_
                refine AC.seq ?_
                refine AC.region ?_
                refine AL.p (by first | exact mv1 rfl | exact mv2 rfl | exact mv3 rfl | exact mv4 rfl | exact mv5 rfl | exact mv6 rfl | exact mv7 rfl | exact mv8 rfl | exact mv9 rfl) rfl ?_
                refine AL.p (by first | exact mv1 rfl | exact mv2 rfl | exact mv3 rfl | exact mv4 rfl | exact mv5 rfl | exact mv6 rfl | exact mv7 rfl | exact mv8 rfl | exact mv9 rfl) rfl ?_
                refine AL.q (by exact h_pure en_sSub rfl rfl (by repeat (first | exact rfl | exact DLead.same | exact DLead.nil | refine ⟨_, _, rfl, ?_, ?_⟩ | refine ⟨_, rfl, ?_⟩)) hB1 rfl) rfl ?_
                refine AL.p (by first | exact mv1 rfl | exact mv2 rfl | exact mv3 rfl | exact mv4 rfl | exact mv5 rfl | exact mv6 rfl | exact mv7 rfl | exact mv8 rfl | exact mv9 rfl) rfl ?_
                refine AL.p (by first | exact g_extract (r := .d _) rfl rfl | exact g_extract (r := .own _ _) rfl rfl | exact g_extract (r := .agg _) rfl rfl) rfl ?_
                refine AL.p (by first | exact g_extract (r := .d _) rfl rfl | exact g_extract (r := .own _ _) rfl rfl | exact g_extract (r := .agg _) rfl rfl) rfl ?_
                refine AL.p (by first | exact as1 rfl | exact as2 rfl | exact as3 rfl | exact as4 rfl | exact as5 rfl | exact as6 rfl | exact as7 rfl | exact as8 rfl | exact as9 rfl) rfl ?_
                refine AL.p (by first | exact as1 rfl | exact as2 rfl | exact as3 rfl | exact as4 rfl | exact as5 rfl | exact as6 rfl | exact as7 rfl | exact as8 rfl | exact as9 rfl) rfl ?_
                refine AL.nil ?_
                refine th_n ?_
                refine AC.seq ?_
                refine AC.region ?_
                refine AL.p (by first | exact mv1 rfl | exact mv2 rfl | exact mv3 rfl | exact mv4 rfl | exact mv5 rfl | exact mv6 rfl | exact mv7 rfl | exact mv8 rfl | exact mv9 rfl) rfl ?_
                refine AL.q (by exact h_pure en_sDrawHas rfl rfl (by repeat (first | exact rfl | exact DLead.same | exact DLead.nil | refine ⟨_, _, rfl, ?_, ?_⟩ | refine ⟨_, rfl, ?_⟩)) hH rfl) rfl ?_
                refine AL.p (by first | exact mv1 rfl | exact mv2 rfl | exact mv3 rfl | exact mv4 rfl | exact mv5 rfl | exact mv6 rfl | exact mv7 rfl | exact mv8 rfl | exact mv9 rfl) rfl ?_
                refine AL.p (by first | exact g_extract (r := .d _) rfl rfl | exact g_extract (r := .own _ _) rfl rfl | exact g_extract (r := .agg _) rfl rfl) rfl ?_
                refine AL.p (by first | exact g_extract (r := .d _) rfl rfl | exact g_extract (r := .own _ _) rfl rfl | exact g_extract (r := .agg _) rfl rfl) rfl ?_
                refine AL.p (by first | exact as1 rfl | exact as2 rfl | exact as3 rfl | exact as4 rfl | exact as5 rfl | exact as6 rfl | exact as7 rfl | exact as8 rfl | exact as9 rfl) rfl ?_
                refine AL.p (by first | exact as1 rfl | exact as2 rfl | exact as3 rfl | exact as4 rfl | exact as5 rfl | exact as6 rfl | exact as7 rfl | exact as8 rfl | exact as9 rfl) rfl ?_
                refine AL.nil ?_
                refine th_n ?_
                refine AC.seq ?_
                refine AC.region ?_
                refine AL.p (by first | exact mv1 rfl | exact mv2 rfl | exact mv3 rfl | exact mv4 rfl | exact mv5 rfl | exact mv6 rfl | exact mv7 rfl | exact mv8 rfl | exact mv9 rfl) rfl ?_
                refine AL.p (by first | exact mv1 rfl | exact mv2 rfl | exact mv3 rfl | exact mv4 rfl | exact mv5 rfl | exact mv6 rfl | exact mv7 rfl | exact mv8 rfl | exact mv9 rfl) rfl ?_
                refine AL.q (by exact h_pure en_iHas rfl rfl (by repeat (first | exact rfl | exact DLead.same | exact DLead.nil | refine ⟨_, _, rfl, ?_, ?_⟩ | refine ⟨_, rfl, ?_⟩)) hH0 rfl) rfl ?_
                refine AL.p (by first | exact mv1 rfl | exact mv2 rfl | exact mv3 rfl | exact mv4 rfl | exact mv5 rfl | exact mv6 rfl | exact mv7 rfl | exact mv8 rfl | exact mv9 rfl) rfl ?_
                refine AL.p (by first | exact g_extract (r := .d _) rfl rfl | exact g_extract (r := .own _ _) rfl rfl | exact g_extract (r := .agg _) rfl rfl) rfl ?_
                refine AL.p (by first | exact g_extract (r := .d _) rfl rfl | exact g_extract (r := .own _ _) rfl rfl | exact g_extract (r := .agg _) rfl rfl) rfl ?_
                refine AL.p (by first | exact as1 rfl | exact as2 rfl | exact as3 rfl | exact as4 rfl | exact as5 rfl | exact as6 rfl | exact as7 rfl | exact as8 rfl | exact as9 rfl) rfl ?_
                refine AL.p (by first | exact as1 rfl | exact as2 rfl | exact as3 rfl | exact as4 rfl | exact as5 rfl | exact as6 rfl | exact as7 rfl | exact as8 rfl | exact as9 rfl) rfl ?_
                refine AL.nil ?_
                refine th_n ?_
                refine AC.seq ?_
                refine AC.region ?_
                refine AL.p (by first | exact mv1 rfl | exact mv2 rfl | exact mv3 rfl | exact mv4 rfl | exact mv5 rfl | exact mv6 rfl | exact mv7 rfl | exact mv8 rfl | exact mv9 rfl) rfl ?_
                refine AL.p (by first | exact mv1 rfl | exact mv2 rfl | exact mv3 rfl | exact mv4 rfl | exact mv5 rfl | exact mv6 rfl | exact mv7 rfl | exact mv8 rfl | exact mv9 rfl) rfl ?_
                refine AL.q (by exact h_pure en_sHas rfl rfl (by repeat (first | exact rfl | exact DLead.same | exact DLead.nil | refine ⟨_, _, rfl, ?_, ?_⟩ | refine ⟨_, rfl, ?_⟩)) hH1 rfl) rfl ?_
                refine AL.p (by first | exact mv1 rfl | exact mv2 rfl | exact mv3 rfl | exact mv4 rfl | exact mv5 rfl | exact mv6 rfl | exact mv7 rfl | exact mv8 rfl | exact mv9 rfl) rfl ?_
                refine AL.p (by first | exact g_extract (r := .d _) rfl rfl | exact g_extract (r := .own _ _) rfl rfl | exact g_extract (r := .agg _) rfl rfl) rfl ?_
                refine AL.p (by first | exact g_extract (r := .d _) rfl rfl | exact g_extract (r := .own _ _) rfl rfl | exact g_extract (r := .agg _) rfl rfl) rfl ?_
                refine AL.p (by first | exact as1 rfl | exact as2 rfl | exact as3 rfl | exact as4 rfl | exact as5 rfl | exact as6 rfl | exact as7 rfl | exact as8 rfl | exact as9 rfl) rfl ?_
                refine AL.p (by first | exact as1 rfl | exact as2 rfl | exact as3 rfl | exact as4 rfl | exact as5 rfl | exact as6 rfl | exact as7 rfl | exact as8 rfl | exact as9 rfl) rfl ?_
                refine AL.nil ?_
                refine th_n ?_
                refine AC.seq ?_
                refine AC.region ?_
                refine AL.p (by first | exact mv1 rfl | exact mv2 rfl | exact mv3 rfl | exact mv4 rfl | exact mv5 rfl | exact mv6 rfl | exact mv7 rfl | exact mv8 rfl | exact mv9 rfl) rfl ?_
                refine AL.p (by first | exact mv1 rfl | exact mv2 rfl | exact mv3 rfl | exact mv4 rfl | exact mv5 rfl | exact mv6 rfl | exact mv7 rfl | exact mv8 rfl | exact mv9 rfl) rfl ?_
                refine AL.p (by first | exact g_cmp rfl rfl rfl | exact g_scmp rfl rfl rfl | exact g_eqB rfl rfl rfl | exact g_neB rfl rfl rfl) rfl ?_
                refine AL.p (by first | exact mv1 rfl | exact mv2 rfl | exact mv3 rfl | exact mv4 rfl | exact mv5 rfl | exact mv6 rfl | exact mv7 rfl | exact mv8 rfl | exact mv9 rfl) rfl ?_
                first | refine AL.caseG rfl rfl (fun h5 => ?_) (fun h5 => ?_) | refine AL.caseGN rfl rfl (fun h5 => ?_) (fun h5 => ?_) | refine AL.caseGB rfl rfl (fun h5 => ?_) (fun h5 => ?_) | refine AL.caseGNB rfl rfl (fun h5 => ?_) (fun h5 => ?_)
                · refine AL.yes rfl rfl rfl ?_
                  refine AL.p (by first | exact mv1 rfl | exact mv2 rfl | exact mv3 rfl | exact mv4 rfl | exact mv5 rfl | exact mv6 rfl | exact mv7 rfl | exact mv8 rfl | exact mv9 rfl) rfl ?_
                  refine AL.yes rfl rfl rfl ?_
                  refine AL.p (by first | exact mv1 rfl | exact mv2 rfl | exact mv3 rfl | exact mv4 rfl | exact mv5 rfl | exact mv6 rfl | exact mv7 rfl | exact mv8 rfl | exact mv9 rfl) rfl ?_
                  refine AL.yes rfl rfl rfl ?_
                  refine AL.p (by first | exact g_cmp rfl rfl rfl | exact g_scmp rfl rfl rfl | exact g_eqB rfl rfl rfl | exact g_neB rfl rfl rfl) rfl ?_
                  refine AL.p (by first | exact g_pickT (r := .d _) rfl rfl | exact g_pickF (r := .d _) rfl rfl) rfl ?_
                  refine AL.p (by first | exact mv1 rfl | exact mv2 rfl | exact mv3 rfl | exact mv4 rfl | exact mv5 rfl | exact mv6 rfl | exact mv7 rfl | exact mv8 rfl | exact mv9 rfl) rfl ?_
                  first | refine AL.caseG rfl rfl (fun h6 => ?_) (fun h6 => ?_) | refine AL.caseGN rfl rfl (fun h6 => ?_) (fun h6 => ?_) | refine AL.caseGB rfl rfl (fun h6 => ?_) (fun h6 => ?_) | refine AL.caseGNB rfl rfl (fun h6 => ?_) (fun h6 => ?_)
                  · refine AL.yes rfl rfl rfl ?_
                    refine AL.p (by first | exact mv1 rfl | exact mv2 rfl | exact mv3 rfl | exact mv4 rfl | exact mv5 rfl | exact mv6 rfl | exact mv7 rfl | exact mv8 rfl | exact mv9 rfl) rfl ?_
                    refine AL.yes rfl rfl rfl ?_
                    refine AL.p (by first | exact mv1 rfl | exact mv2 rfl | exact mv3 rfl | exact mv4 rfl | exact mv5 rfl | exact mv6 rfl | exact mv7 rfl | exact mv8 rfl | exact mv9 rfl) rfl ?_
                    refine AL.yes rfl rfl rfl ?_
                    refine AL.p (by first | exact g_cmp rfl rfl rfl | exact g_scmp rfl rfl rfl | exact g_eqB rfl rfl rfl | exact g_neB rfl rfl rfl) rfl ?_
                    refine AL.p (by first | exact g_pickT (r := .d _) rfl rfl | exact g_pickF (r := .d _) rfl rfl) rfl ?_
                    refine AL.p (by first | exact mv1 rfl | exact mv2 rfl | exact mv3 rfl | exact mv4 rfl | exact mv5 rfl | exact mv6 rfl | exact mv7 rfl | exact mv8 rfl | exact mv9 rfl) rfl ?_
                    first | refine AL.caseG rfl rfl (fun h7 => ?_) (fun h7 => ?_) | refine AL.caseGN rfl rfl (fun h7 => ?_) (fun h7 => ?_) | refine AL.caseGB rfl rfl (fun h7 => ?_) (fun h7 => ?_) | refine AL.caseGNB rfl rfl (fun h7 => ?_) (fun h7 => ?_)
                    · refine AL.yes rfl rfl rfl ?_
                      refine AL.p (by first | exact mv1 rfl | exact mv2 rfl | exact mv3 rfl | exact mv4 rfl | exact mv5 rfl | exact mv6 rfl | exact mv7 rfl | exact mv8 rfl | exact mv9 rfl) rfl ?_
                      refine AL.yes rfl rfl rfl ?_
                      refine AL.p (by first | exact mv1 rfl | exact mv2 rfl | exact mv3 rfl | exact mv4 rfl | exact mv5 rfl | exact mv6 rfl | exact mv7 rfl | exact mv8 rfl | exact mv9 rfl) rfl ?_
                      refine AL.yes rfl rfl rfl ?_
                      refine AL.p (by first | exact g_cmp rfl rfl rfl | exact g_scmp rfl rfl rfl | exact g_eqB rfl rfl rfl | exact g_neB rfl rfl rfl) rfl ?_
                      refine AL.p (by first | exact g_pickT (r := .d _) rfl rfl | exact g_pickF (r := .d _) rfl rfl) rfl ?_
                      refine AL.p (by first | exact as1 rfl | exact as2 rfl | exact as3 rfl | exact as4 rfl | exact as5 rfl | exact as6 rfl | exact as7 rfl | exact as8 rfl | exact as9 rfl) rfl ?_
                      refine AL.nil ?_
                      refine th_n ?_
                      refine AC.ret ?_
                      refine bq_r ?_
                      first | exact absurd rfl h5 | exact absurd rfl h6 | exact absurd rfl h7 | exact absurd rfl h8 | exact absurd rfl h4 | exact ret1 rfl rfl | exact ret1 rfl (by simp)
                    · refine AL.not rfl rfl rfl rfl rfl ?_
                      refine AL.not rfl rfl rfl rfl rfl ?_
                      refine AL.not rfl rfl rfl rfl rfl ?_
                      refine AL.p (by first | exact g_pickT (r := .d _) rfl rfl | exact g_pickF (r := .d _) rfl rfl) rfl ?_
                      refine AL.p (by first | exact as1 rfl | exact as2 rfl | exact as3 rfl | exact as4 rfl | exact as5 rfl | exact as6 rfl | exact as7 rfl | exact as8 rfl | exact as9 rfl) rfl ?_
                      refine AL.nil ?_
                      refine th_n ?_
                      refine AC.ret ?_
                      refine bq_r ?_
                      first | exact absurd rfl h5 | exact absurd rfl h6 | exact absurd rfl h7 | exact absurd rfl h8 | exact absurd rfl h4 | exact ret1 rfl rfl | exact ret1 rfl (by simp)
                  · refine AL.not rfl rfl rfl rfl rfl ?_
                    refine AL.not rfl rfl rfl rfl rfl ?_
                    refine AL.not rfl rfl rfl rfl rfl ?_
                    refine AL.p (by first | exact g_pickT (r := .d _) rfl rfl | exact g_pickF (r := .d _) rfl rfl) rfl ?_
                    refine AL.p (by first | exact mv1 rfl | exact mv2 rfl | exact mv3 rfl | exact mv4 rfl | exact mv5 rfl | exact mv6 rfl | exact mv7 rfl | exact mv8 rfl | exact mv9 rfl) rfl ?_
                    refine AL.not rfl rfl rfl rfl rfl ?_
                    refine AL.not rfl rfl rfl rfl rfl ?_
                    refine AL.not rfl rfl rfl rfl rfl ?_
                    refine AL.p (by first | exact g_pickT (r := .d _) rfl rfl | exact g_pickF (r := .d _) rfl rfl) rfl ?_
                    refine AL.p (by first | exact as1 rfl | exact as2 rfl | exact as3 rfl | exact as4 rfl | exact as5 rfl | exact as6 rfl | exact as7 rfl | exact as8 rfl | exact as9 rfl) rfl ?_
                    refine AL.nil ?_
                    refine th_n ?_
                    refine AC.ret ?_
                    refine bq_r ?_
                    first | exact absurd rfl h5 | exact absurd rfl h6 | exact absurd rfl h7 | exact absurd rfl h8 | exact absurd rfl h4 | exact ret1 rfl rfl | exact ret1 rfl (by simp)
                · refine AL.not rfl rfl rfl rfl rfl ?_
                  refine AL.not rfl rfl rfl rfl rfl ?_
                  refine AL.not rfl rfl rfl rfl rfl ?_
                  refine AL.p (by first | exact g_pickT (r := .d _) rfl rfl | exact g_pickF (r := .d _) rfl rfl) rfl ?_
                  refine AL.p (by first | exact mv1 rfl | exact mv2 rfl | exact mv3 rfl | exact mv4 rfl | exact mv5 rfl | exact mv6 rfl | exact mv7 rfl | exact mv8 rfl | exact mv9 rfl) rfl ?_
                  refine AL.not rfl rfl rfl rfl rfl ?_
                  refine AL.not rfl rfl rfl rfl rfl ?_
                  refine AL.not rfl rfl rfl rfl rfl ?_
                  refine AL.p (by first | exact g_pickT (r := .d _) rfl rfl | exact g_pickF (r := .d _) rfl rfl) rfl ?_
                  refine AL.p (by first | exact mv1 rfl | exact mv2 rfl | exact mv3 rfl | exact mv4 rfl | exact mv5 rfl | exact mv6 rfl | exact mv7 rfl | exact mv8 rfl | exact mv9 rfl) rfl ?_
                  refine AL.not rfl rfl rfl rfl rfl ?_
                  refine AL.not rfl rfl rfl rfl rfl ?_
                  refine AL.not rfl rfl rfl rfl rfl ?_
                  refine AL.p (by first | exact g_pickT (r := .d _) rfl rfl | exact g_pickF (r := .d _) rfl rfl) rfl ?_
                  refine AL.p (by first | exact as1 rfl | exact as2 rfl | exact as3 rfl | exact as4 rfl | exact as5 rfl | exact as6 rfl | exact as7 rfl | exact as8 rfl | exact as9 rfl) rfl ?_
                  refine AL.nil ?_
                  refine th_n ?_
                  refine AC.ret ?_
                  refine bq_r ?_
                  first | exact absurd rfl h5 | exact absurd rfl h6 | exact absurd rfl h7 | exact absurd rfl h8 | exact absurd rfl h4 | exact ret1 rfl rfl | exact ret1 rfl (by simp)
theorem en_FnCubes : Enters Try.prog 3 := enters_of Try.func3 rfl rfl
theorem FnCubes_spec (code more : List UInt8) (hc : code.length ≤ 9223372036854775807) (hm : more.length ≤ 9223372036854775807) : ASpec Try.prog 3 [.d (vB code), .d (vB more)] [] (Pure1 (aT true)) := by
  obtain ⟨a, b, h1, h2, hD⟩ := sDrawInter_ex code
  obtain ⟨l, h3, h4, hS⟩ := sDrawSuper_ex more
  obtain ⟨d, e, h5, h6, hB⟩ := sDrawSub_ex more
  obtain ⟨f, g, h7, h8, hH⟩ := sDrawHas_ex more
  exact FnCubes_gen code more a b d e f g l hc hm hD hS hB hH h1 h2 h5 h6 h7 h8 h3 h4
end Go.Proofs.Ytochebmkfdfbhaa
