/- Contracts of the functions of the program and of the reference, each proved by a walk through its code. -/
import Derived.MapKept
import Derived.WideMake
import Derived.Test.YtbofmbjefbpnaaaGreatGRa4
set_option linter.all false
set_option maxRecDepth 20000
namespace Go.Proofs.YtbofmbjefbpnaaaGreat
open Go.RowKit
def nmOf (w : List UInt8) : List UInt8 := (splitL w 47).getD 0 []
def labOf (l : List Sig) (w : List UInt8) : Lab :=
 if (((nmOf w).getD 0 0).toNat : Int) = 126 then ⟨-1, false⟩ else ⟨findI (fun x => decide (x.name = (nmOf w).take ((nmOf w).length - 1))) l, decide ((((nmOf w).getD ((nmOf w).length - 1) 0).toNat : Int) = 43)⟩
def transF (b : Bs) (w : List UInt8) : Nat × Bs :=
 if b.ws.findIdx (fun x => decide (x = w)) < b.ws.length then (b.ws.findIdx (fun x => decide (x = w)), b) else (b.ws.length, { b with ws := b.ws ++ [w], ts := b.ts ++ [⟨[], []⟩], labs := b.labs ++ [labOf b.sigs w] })
theorem transF_yes {b : Bs} {nm : List UInt8} {k : Nat} (hk : k < b.ws.length) (h : b.ws[k] = nm) (hp : ∀ j (hj : j < b.ws.length), j < k → ¬ b.ws[j] = nm) : transF b nm = (k, b) := by
 have e : b.ws.findIdx (fun x => decide (x = nm)) = k := (List.findIdx_eq hk).2 ⟨decide_eq_true h, fun j hj => by simpa using hp j (by omega) hj⟩;rw [transF, e, if_pos hk]
theorem transF_no {b : Bs} {nm : List UInt8} (hp : ∀ j (hj : j < b.ws.length), ¬ b.ws[j] = nm) : transF b nm = (b.ws.length, { b with ws := b.ws ++ [nm], ts := b.ts ++ [⟨[], []⟩], labs := b.labs ++ [labOf b.sigs nm] }) := by
 have e : b.ws.findIdx (fun x => decide (x = nm)) = b.ws.length := List.findIdx_eq_length.2 (fun x hx => by obtain ⟨j, hj, rfl⟩ := List.getElem_of_mem hx; simpa using hp j hj);rw [transF, e, if_neg (Nat.lt_irrefl _)]
theorem splitL_pos (s : List UInt8) (b : UInt8) : 0 < (splitL s b).length := by unfold splitL; rw [List.length_append]; simp
theorem splitL_get0 (s : List UInt8) (b : UInt8) : (sxL (splitL s b))[0]? = some [dS (bstr ((splitL s b).getD 0 []))] := by
 have h := splitL_pos s b;rw [sxL_get h, List.getD_eq_getElem?_getD, List.getElem?_eq_getElem h]; rfl
theorem tsNil (l : List Tn) : ∀ (i : Nat) (cs' : List DV), (tsL (l ++ [⟨[], []⟩]))[i]? = some cs' → ∃ cs, (tsL l ++ [[.val (.slice none 0 0), .val (.slice none 0 0)]])[i]? = some cs ∧ cs'.length = cs.length ∧ ∀ (j : Nat) (d' : DV), cs'[j]? = some d' → ∃ d, cs[j]? = some d ∧ DTo d d' := by
 intro i cs' h;rw [tsL, List.map_append] at h;rcases Nat.lt_or_ge i (tsL l).length with hi | hi
 ·rw [List.getElem?_append_left hi] at h;exact ⟨cs', by rw [List.getElem?_append_left hi]; exact h, rfl, fun j d' hj => ⟨d', hj, .refl _⟩⟩
 rw [List.getElem?_append_right hi] at h;rw [List.getElem?_append_right hi]
 change ([tnD ⟨[], []⟩] : List (List DV))[i - (tsL l).length]? = _ at h
 generalize i - (tsL l).length = q at h ⊢
 match q, h with
 | 0, h =>
  simp only [List.getElem?_cons_zero, Option.some.injEq] at h;subst h;refine ⟨_, rfl, rfl, fun j d' hj => ?_⟩
  match j, hj with
  | 0, hj => simp only [List.getElem?_cons_zero, Option.some.injEq] at hj; subst hj; exact ⟨_, rfl, .nil⟩
  | 1, hj => simp only [List.getElem?_cons_succ, List.getElem?_cons_zero, Option.some.injEq] at hj; subst hj; exact ⟨_, rfl, .nil⟩
set_option maxHeartbeats 4000000 in
theorem bTrans_spec (b : Bs) (w : List UInt8) (hb : BsL b) (hw : w.length ≤ 1000000) (h0 : 0 < (nmOf w).length) : ASpec Tryz.prog 244 [.ptr 0 0, aS (bstr w)] (bChs b 1 2 3 4 5) (Fun1 (aI (transF b w).1) (bChs (transF b w).2 6 2 7 4 8)) := by
 have hws := hb.w;have hts := hb.t;have hls := hb.l;have hsg := hb.s;have hS := l1Split_spec w 47 hw;have hS0 := splitL_get0 w 47
 have hnl : (nmOf w).length ≤ w.length := by
  unfold nmOf splitL;rw [List.getD_eq_getElem?_getD];cases e : ((splitK w 47 w.length).1 ++ [w.drop (splitK w 47 w.length).2])[0]? with
  | none => simp
  | some x => exact splitL_mem (List.mem_of_getElem? e)
 have hn0 : (bstr (nmOf w)).data.toList[0]? = some ((nmOf w).getD 0 0) := bstr_getD h0;have hnz : (bstr (nmOf w)).data.toList[(nmOf w).length - 1]? = some ((nmOf w).getD ((nmOf w).length - 1) 0) := bstr_getD (by omega);have hnc : (bstr (nmOf w)).extract 0 ((nmOf w).length - 1) = bstr ((nmOf w).take ((nmOf w).length - 1)) := bstr_cut _ (Nat.zero_le _) (by omega);have hsz := bstr_size (nmOf w);have hL := l2Signal_spec b.sigs (by omega) ((nmOf w).take ((nmOf w).length - 1));have hlab : labOf b.sigs w = if (((nmOf w).getD 0 0).toNat : Int) = 126 then ⟨-1, false⟩ else ⟨findI (fun x => decide (x.name = (nmOf w).take ((nmOf w).length - 1))) b.sigs, decide ((((nmOf w).getD ((nmOf w).length - 1) 0).toNat : Int) = 43)⟩ := rfl
 have hnm : (splitL w 47).getD 0 [] = nmOf w := rfl;rw [hnm] at hS0;obtain ⟨nm, hnmE⟩ := eqx (nmOf w);rw [← hnmE] at h0 hS0 hnl hn0 hnz hnc hsz hL hlab;obtain ⟨sp, hsp⟩ := eqx (splitL w 47);rw [← hsp] at hS hS0;refine ASpec.of Tryz.func244 rfl rfl fun C hC => ?_
 refine AC.seq (AC.region ?_);refine za ?_;refine AL.nil (th_n (AC.seq (AC.seq (AC.region ?_))));refine AL.p (by exact mv3 rfl) rfl ?_;refine AL.p (by exact g_nilP rfl) rfl ?_;refine zF ?_;refine zl ?_;refine AL.p (by exact g_len_own (sz := 1) (els := []) (e' := 0) rfl rfl (by simp only [maxLen]; omega)) rfl ?_;refine zm ?_;refine AL.nil (th_n (AC.block ?_));refine AC.loop (ι := Nat) (fun k => ⟨92, 136, [(0, .ptr 0 0), (1, aS (bstr w)), (12, .own 5 b.ws.length), (13, aI b.ws.length), (14, aI k)], chL (bChs b 1 2 3 4 5)⟩) (fun k => k ≤ b.ws.length ∧ ∀ j (hj : j < b.ws.length), j < k → ¬ b.ws[j] = w) (fun k => b.ws.length - k) (0) ?_ (⟨Nat.zero_le _, fun j _ hj => by omega⟩) ?_
 ·exact zw [] hC
 intro k ⟨hk, hall⟩;refine AC.seq (AC.region ?_);refine zc ?_;refine AL.nil (th_n (AC.seq ?_));refine AC.condD rfl (fun h0 => ?_) (fun h0 => ?_)
 ·refine AC.skip (th_n (AC.seq (AC.block (AC.seq ?_))));have hk1 : k < b.ws.length := by omega
  have hget := sxL_get hk1;refine AC.region ?_;refine zm ?_;refine AL.p (by exact g_ia_own rfl rfl rfl rfl rfl (by rfl) (by omega) (by exact Nat.mul_one _)) rfl ?_;refine AL.p (by exact g_load_arr1 rfl rfl rfl rfl (by assumption)) rfl ?_;refine za ?_;refine za ?_;refine AL.nil (th_n (AC.seq (AC.region ?_)));refine zm ?_;refine zm ?_;refine AL.p (by exact g_scmp rfl rfl rfl) rfl ?_;refine AL.nil (th_n ?_);refine AC.condD rfl (fun h1 => ?_) (fun h1 => ?_)
  ·refine AC.seq (AC.region ?_);refine zm ?_;refine za ?_;refine AL.nil (th_n (AC.ret (ib_r (th_r (th_r (ib_r (th_r (bq_r ?_))))))));have e := transF_yes hk1 (bstr_inj h1) hall;exact retN [(6, 1), (7, 3), (8, 5)] rfl (by rw [e]; repeat (exact DLead.same)) (by rw [e]; repeat (first | exact True.intro | refine And.intro ?_ ?_ | exact DLead.same | exact rfl | refine ⟨_, _, rfl, rfl, ?_⟩ | refine ⟨_, rfl, ?_⟩ | refine ⟨_, _, rfl, ?_, ?_⟩)) rfl rfl
  refine AC.skip (ib_n (th_n (AC.region ?_)));refine zA ?_;refine zm ?_;refine AL.nil (th_n ?_);exact ⟨k + 1, ⟨by omega, fun j hj hj2 => by rcases Nat.lt_succ_iff_lt_or_eq.1 hj2 with h | rfl; exact hall j hj h; exact fun e => h1 (by rw [e])⟩, by omega, zw [] hC⟩
 refine AC.exit (th_e (th_e (ib_y (th_n (AC.seq ?_)))));have e := transF_no (fun j hj => hall j hj (by omega));have hln : (b.ws ++ [w]).length = b.ws.length + 1 := by simp
 have hlt : (b.ts ++ [(⟨[], []⟩ : Tn)]).length = b.ts.length + 1 := by simp
 refine AC.region ?_;refine AL.p (by exact mv3 rfl) rfl ?_;refine AL.p (by exact mv3 rfl) rfl ?_;refine AL.p (by exact g_nilP rfl) rfl ?_;refine zF ?_;refine zl ?_;refine zm ?_;refine AL.q (by exact h_litF rfl rfl rfl rfl rfl rfl rfl rfl) rfl ?_;refine AL.q (by exact h_appendSx b.ws [w] (.own rfl rfl (sxL_len _).symm) (.view rfl) (by omega) (by simp)) rfl ?_;refine AL.p (by exact g_nilP rfl) rfl ?_;refine zF ?_;refine zs ?_;refine AL.nil (th_n (AC.seq (AC.region ?_)));refine zm ?_;refine kV en_l1Split hS ?_;refine AL.p (by exact g_ia_view (i := 0) rfl rfl rfl rfl rfl rfl hS0) rfl ?_;refine zr ?_;refine za ?_;refine AL.nil (th_n (AC.seq (AC.region ?_)));refine AL.p (by exact g_build rfl rfl rfl) rfl ?_;refine kE ?_;refine zs ?_;refine AL.nil (th_n ?_);refine AC.cut (fun (x : Lab) => ⟨92, 200, [(0, .ptr 0 0), (8, .ptr 101 0)], [(0, some (.cells 217 [aI b.ps.length, .own 1 b.ts.length, .own 2 b.sigs.length, .own 3 b.labs.length, aS (bstr b.start), .own 4 b.ps.length, .own 100 (b.ws ++ [w]).length])), (1, some (.arr 249 2 (tsL b.ts))), (2, some (.arr 123 2 (sigsL b.sigs))), (3, some (.arr 64 2 (labsL b.labs))), (4, some (.arr 9 1 (sxL b.ps))), (100, some (.arr 9 1 (sxL (b.ws ++ [w])))), (101, some (.cells 64 [aI x.sig, aT x.up]))]⟩) (fun x => x = labOf b.sigs w) ?_ ?_
 ·refine AC.seq (AC.region ?_);refine zm ?_;refine AL.p (by exact g_index rfl rfl rfl (by rfl) (by assumption)) rfl ?_;refine zc ?_;refine AL.nil (th_n ?_);refine AC.condND rfl (fun h1 => ?_) (fun h1 => ?_)
  ·refine AC.drawn' mixed_ok [[], [0], [0,1], [0,1,2], [0,1,2,3], [], [], [6], [6,7], [5,6,7,8], [0,1,2,3,4,5,6,7,8,9], [], [], [12], [12,13], [11,12,13,14], [11,12,13,14,15], [0,1,2,3,4,5,6,7,8,9,10,11,12,13,14,15,16], [0,1,2,3,4,5,6,7,8,9,10,11,12,13,14,15,16,17]] (by decide) ?_;refine zd 0 [] 19 (by exact mv3 rfl) ?_;refine zd 1 [0] 19 (by exact g_nilP rfl) ?_;refine zd 2 [0,1] 19 (by exact g_fa_ptr rfl rfl rfl rfl rfl) ?_;refine zd 3 [0,1,2] 19 (by exact g_fa_ptr rfl rfl rfl rfl rfl) ?_;refine zd 4 [0,1,2,3] 19 (by exact g_load_ptr rfl rfl rfl rfl rfl) ?_;refine zd 5 [] 19 (by exact mv1 rfl) ?_;refine zd 6 [] 19 (by exact mv1 rfl) ?_;refine zd 7 [6] 19 (by exact g_len_str (k := nm.length) rfl rfl hsz) ?_;refine zd 8 [6,7] 19 (by exact g_arith rfl rfl rfl (by exact wrap_i64 (by omega))) ?_;refine zd 9 [5,6,7,8] 19 (by exact g_slice_str (l := 0) (h := nm.length - 1) rfl rfl .none (.some rfl (by omega)) (Nat.zero_le _) (by rw [hsz]; omega) hnc) ?_;refine zh 10 (List.range 10) 19 (by exact h_borrow [2] en_l2Signal rfl rfl hL (.cons (.of (.own (id := 2) rfl rfl (ownl _ _) (ownt _ _))) (.cons (.of .d) .nil)) rfl) ?_;refine zd 11 [] 19 (by exact mv1 rfl) ?_;refine zd 12 [] 19 (by exact mv1 rfl) ?_;refine zd 13 [12] 19 (by exact g_len_str (k := nm.length) rfl rfl hsz) ?_;refine zd 14 [12,13] 19 (by exact g_arith rfl rfl rfl (by exact wrap_i64 (by omega))) ?_;refine zd 15 [11,12,13,14] 19 (by exact g_index (i := nm.length - 1) rfl rfl rfl (by omega) hnz) ?_;refine zd 16 [11,12,13,14,15] 19 (by exact g_cmp rfl rfl rfl) ?_;refine zd 17 (List.range 17) 19 (by exact g_build rfl rfl rfl) ?_;refine zh 18 (List.range 18) 19 (by exact h_store rfl rfl rfl rfl rfl rfl) ?_;refine zj 19 ?_;refine th_n ?_
   (have e2 := hlab.trans (if_neg h1); exact ⟨_, e2.symm, zw [(100, 144), (101, 168)] hC⟩)
  refine AC.skip (th_n ?_)
  (have e2 := hlab.trans (if_pos h1); exact ⟨_, e2.symm, zw [(100, 144), (101, 168)] hC⟩)
 rintro x hx;refine AC.seq (AC.region ?_);refine AL.p (by exact mv3 rfl) rfl ?_;refine AL.p (by exact mv3 rfl) rfl ?_;refine AL.p (by exact g_nilP rfl) rfl ?_;refine zF ?_;refine zF ?_;refine zF ?_;refine zl ?_;refine AL.p (by exact g_build rfl rfl rfl) rfl ?_;refine AL.q (by exact h_litF rfl rfl rfl rfl rfl rfl rfl rfl) rfl ?_;refine AL.q (by exact h_append (els := tsL b.ts) (new := [[.val (.slice none 0 0), .val (.slice none 0 0)]]) (k := (b.ts ++ [(⟨[], []⟩ : Tn)]).length) rfl rfl rfl rfl rfl rfl (.own rfl rfl (List.length_map _).symm) (.view rfl) (by simp) (by rw [hlt]; omega) (by rw [hlt]; show (b.ts.length + 1) * 48 ≤ _; omega) (by simp)) rfl ?_;refine AL.weak (Weak.arrTo 208 (els' := tsL (b.ts ++ [⟨[], []⟩])) rfl (by simp) (tsNil b.ts)) ?_;refine AL.p (by exact g_nilP rfl) rfl ?_;refine zF ?_;refine zF ?_;refine zF ?_;refine zs ?_;refine AL.nil (th_n (AC.seq ?_));refine AC.drawn' mixed_ok [[], [], [1], [1,2], [1,2,3], [1,2,3,4], [], [6], [1,2,3,4,5,6,7], [0,1,2,3,4,5,6,7,8], [0,1,2,3,4,5,6,7,8,9], [0,1,2,3,4,5,6,7,8,9,10], [0,1,2,3,4,5,6,7,8,9,10,11]] (by decide) ?_;refine zd 0 [] 13 (by exact mv3 rfl) ?_;refine zd 1 [] 13 (by exact mv3 rfl) ?_;refine zd 2 [1] 13 (by exact g_nilP rfl) ?_;refine zd 3 [1,2] 13 (by exact g_fa_ptr rfl rfl rfl rfl rfl) ?_;refine zd 4 [1,2,3] 13 (by exact g_fa_ptr rfl rfl rfl rfl rfl) ?_;refine zd 5 [1,2,3,4] 13 (by exact g_load_ptr rfl rfl rfl rfl rfl) ?_;refine zd 6 [] 13 (by exact g_load_ptrN rfl rfl rfl rfl rfl) ?_;refine zh 7 [6] 13 (by exact h_litF rfl rfl rfl rfl rfl rfl rfl rfl) ?_;refine zh 8 [1,2,3,4,5,6,7] 13 (by exact h_appendLx b.labs [x] (.own rfl rfl (labsL_len _).symm) (.view rfl) (by rw [List.length_append]; simp only [List.length_cons, List.length_nil]; omega) (by simp)) ?_;refine zd 9 (List.range 9) 13 (by exact g_nilP rfl) ?_;refine zd 10 (List.range 10) 13 (by exact g_fa_ptr rfl rfl rfl rfl rfl) ?_;refine zd 11 (List.range 11) 13 (by exact g_fa_ptr rfl rfl rfl rfl rfl) ?_;refine zh 12 (List.range 12) 13 (by exact h_store rfl rfl rfl rfl rfl rfl) ?_;refine zj 13 ?_;refine th_n (AC.seq (AC.region ?_));refine AL.p (by exact mv3 rfl) rfl ?_;refine AL.p (by exact g_nilP rfl) rfl ?_;refine zF ?_;refine zl ?_;refine AL.p (by exact g_len_own (sz := 1) (els := []) (e' := 0) rfl rfl (by simp only [maxLen]; omega)) rfl ?_;refine zA ?_;refine za ?_;refine AL.nil (th_n (AC.ret (bq_r ?_)));subst hx;exact retN [(6, 208), (7, 288), (8, 100)] rfl (by rw [e]; exact DLead.eqI (by omega)) (by rw [e]; dsimp only; repeat (first | exact True.intro | refine And.intro ?_ ?_ | exact DLead.same | exact rfl | refine ⟨_, _, rfl, rfl, ?_⟩ | refine ⟨_, rfl, ?_⟩ | refine ⟨_, _, rfl, ?_, ?_⟩)) rfl rfl
theorem en_bTrans : Enters Tryz.prog 244 := enters_of Tryz.func244 rfl rfl
structure BsM (n : Nat) (b : Bs) : Prop where
 s : b.sigs.length ≤ n
 t : b.ts.length ≤ n
 l : b.labs.length ≤ n
 st : b.start.length ≤ n
 p : b.ps.length ≤ n
 w : b.ws.length ≤ n
 pp : ∀ t, t ∈ b.ts → t.pre.length ≤ n ∧ t.post.length ≤ n
 wt : b.ws.length = b.ts.length
 lt : b.labs.length = b.ts.length
 sp : b.start.length = b.ps.length
theorem BsM.L {n : Nat} {b : Bs} (h : BsM n b) (hn : n ≤ 100000) : BsL b := ⟨by have := h.s; omega, by have := h.t; omega, by have := h.l; omega, by have := h.st; omega, by have := h.p; omega, by have := h.w; omega⟩
theorem BsM.mono {n m : Nat} {b : Bs} (h : BsM n b) (hm : n ≤ m) : BsM m b := ⟨by have := h.s; omega, by have := h.t; omega, by have := h.l; omega, by have := h.st; omega, by have := h.p; omega, by have := h.w; omega, fun t ht => by have := h.pp t ht; omega, h.wt, h.lt, h.sp⟩
theorem placeF_M {n : Nat} {b : Bs} (h : BsM n b) (nm : List UInt8) : BsM (n + 1) (placeF b nm).2 ∧ (placeF b nm).1 < (placeF b nm).2.ps.length := by
 have h1 := h.s; have h2 := h.t; have h3 := h.l; have h4 := h.st; have h5 := h.p; have h6 := h.w; have h7 := h.wt; have h8 := h.lt; have h9 := h.sp;have hpp : ∀ t, t ∈ b.ts → t.pre.length ≤ n + 1 ∧ t.post.length ≤ n + 1 := fun t ht => by have := h.pp t ht; omega
 unfold placeF
 split
 ·rename_i hk;exact ⟨h.mono (by omega), hk⟩
 exact ⟨⟨by dsimp only; omega, by dsimp only; omega, by dsimp only; omega, by simp; omega, by simp; omega, by dsimp only; omega, hpp, h7, h8, by simp; omega⟩, by simp⟩
theorem transF_M {n : Nat} {b : Bs} (h : BsM n b) (w : List UInt8) : BsM (n + 1) (transF b w).2 ∧ (transF b w).1 < (transF b w).2.ts.length ∧ (transF b w).2.ps = b.ps := by
 have h1 := h.s; have h2 := h.t; have h3 := h.l; have h4 := h.st; have h5 := h.p; have h6 := h.w; have h7 := h.wt; have h8 := h.lt; have h9 := h.sp;have hpp : ∀ t, t ∈ b.ts → t.pre.length ≤ n + 1 ∧ t.post.length ≤ n + 1 := fun t ht => by have := h.pp t ht; omega
 unfold transF
 split
 ·rename_i hk;exact ⟨h.mono (by omega), by dsimp only; omega, rfl⟩
 exact ⟨⟨by dsimp only; omega, by simp; omega, by simp; omega, by dsimp only; omega, by dsimp only; omega, by simp; omega, (fun t ht => by
  rcases List.mem_append.1 ht with ht | ht
  ·exact hpp t ht
  rw [List.mem_singleton] at ht; subst ht; simp), by simp; omega, by simp; omega, h9⟩, by simp; omega, rfl⟩
def tnAt (l : List Tn) (k : Nat) : Tn := l.getD k ⟨[], []⟩
theorem tnAt_nat {l : List Tn} {k : Nat} (h : k < l.length) : tnAt l k = l[k] := by unfold tnAt; rw [List.getD_eq_getElem?_getD, List.getElem?_eq_getElem h]; rfl
def setPoF (b : Bs) (t : Nat) (p : Int) : Bs := { b with ts := b.ts.set t ⟨(tnAt b.ts t).pre, putI (tnAt b.ts t).post p⟩ }
def setPrF (b : Bs) (t : Nat) (p : Int) : Bs := { b with ts := b.ts.set t ⟨putI (tnAt b.ts t).pre p, (tnAt b.ts t).post⟩ }
def postF (b : Bs) (w : List UInt8) (p : Int) : Bs := if ((w.getD 0 0).toNat : Int) = 95 then b else setPoF (transF b w).2 (transF b w).1 p
def preF (b : Bs) (w : List UInt8) (p : Int) : Bs := if ((w.getD 0 0).toNat : Int) = 95 then b else setPrF (transF b w).2 (transF b w).1 p
theorem tnAt_M {n : Nat} {b : Bs} (h : BsM n b) (t : Nat) : (tnAt b.ts t).pre.length ≤ n ∧ (tnAt b.ts t).post.length ≤ n := by
 rcases Nat.lt_or_ge t b.ts.length with ht | ht
 ·rw [tnAt_nat ht]; exact h.pp _ (List.getElem_mem ht)
 unfold tnAt; rw [List.getD_eq_getElem?_getD, List.getElem?_eq_none ht]; simp
theorem setF_M {n : Nat} {b : Bs} (h : BsM n b) (t : Nat) {x : Tn} (hx : x.pre.length ≤ n + 1 ∧ x.post.length ≤ n + 1) : BsM (n + 1) { b with ts := b.ts.set t x } := by
 have h1 := h.s; have h2 := h.t; have h3 := h.l; have h4 := h.st; have h5 := h.p; have h6 := h.w; have h7 := h.wt; have h8 := h.lt; have h9 := h.sp;refine ⟨by dsimp only; omega, by rw [List.length_set]; omega, by dsimp only; omega, by dsimp only; omega, by dsimp only; omega, by dsimp only; omega, fun y hy => ?_, by rw [List.length_set]; exact h7, by rw [List.length_set]; exact h8, h9⟩;rcases List.mem_or_eq_of_mem_set hy with hy | rfl
 ·have := h.pp y hy; omega
 exact hx
theorem postF_M {n : Nat} {b : Bs} (h : BsM n b) (w : List UInt8) (p : Int) : BsM (n + 2) (postF b w p) ∧ (postF b w p).ps = b.ps := by
 unfold postF
 split
 ·exact ⟨h.mono (by omega), rfl⟩
 have ht := transF_M h w;have h2 := tnAt_M ht.1 (transF b w).1;exact ⟨setF_M ht.1 _ ⟨by dsimp only; omega, by have := putI_len (tnAt (transF b w).2.ts (transF b w).1).post p; dsimp only; omega⟩, ht.2.2⟩
theorem preF_M {n : Nat} {b : Bs} (h : BsM n b) (w : List UInt8) (p : Int) : BsM (n + 2) (preF b w p) ∧ (preF b w p).ps = b.ps := by
 unfold preF
 split
 ·exact ⟨h.mono (by omega), rfl⟩
 have ht := transF_M h w;have h2 := tnAt_M ht.1 (transF b w).1;exact ⟨setF_M ht.1 _ ⟨by have := putI_len (tnAt (transF b w).2.ts (transF b w).1).pre p; dsimp only; omega, by dsimp only; omega⟩, ht.2.2⟩
def arcT (t : List UInt8) : List UInt8 := if ((t.getD 0 0).toNat : Int) = 42 then t.drop 1 else t
def arcA (t : List UInt8) : List UInt8 := (splitL (arcT t) 62).getD 0 []
def arcB (t : List UInt8) : List UInt8 := (splitL (arcT t) 62).getD 1 []
def arcM (t : List UInt8) : List UInt8 := if (((arcA t).getD 0 0).toNat : Int) = 95 then arcA t else arcT t
def arcN (t : List UInt8) : List UInt8 := if (((arcB t).getD 0 0).toNat : Int) = 95 then arcB t else arcM t
def markP (m : Bool) (b : Bs) (p : Nat) : Bs := if m = true then { b with start := b.start.take p ++ [49] ++ b.start.drop (p + 1) } else b
def arcF (b : Bs) (t : List UInt8) : Bs :=
 markP (decide (((t.getD 0 0).toNat : Int) = 42)) (preF (postF (placeF b (arcN t)).2 (arcA t) (placeF b (arcN t)).1) (arcB t) (placeF b (arcN t)).1) (placeF b (arcN t)).1
def arcOk (t : List UInt8) : Bool := decide (0 < t.length) && decide (2 ≤ (splitL (arcT t) 62).length) && decide (0 < (arcA t).length) && decide (0 < (arcB t).length) && decide (0 < (nmOf (arcA t)).length) && decide (0 < (nmOf (arcB t)).length)
theorem markP_M {n : Nat} {b : Bs} (h : BsM n b) (m : Bool) {p : Nat} (hp : p < b.ps.length) : BsM n (markP m b p) := by
 unfold markP
 split
 ·have h9 := h.sp;have h10 := h.st;exact ⟨h.s, h.t, h.l, by simp; omega, h.p, h.w, h.pp, h.wt, h.lt, by simp; omega⟩
 exact h
theorem arcF_M {n : Nat} {b : Bs} (h : BsM n b) (t : List UInt8) : BsM (n + 5) (arcF b t) := by
 have h1 := placeF_M h (arcN t);have h2 := postF_M h1.1 (arcA t) (placeF b (arcN t)).1;have h3 := preF_M h2.1 (arcB t) (placeF b (arcN t)).1;exact markP_M h3.1 _ (by rw [h3.2, h2.2]; exact h1.2)
theorem arc_sizes (t : List UInt8) : (arcT t).length ≤ t.length ∧ (arcA t).length ≤ t.length ∧ (arcB t).length ≤ t.length ∧ (arcN t).length ≤ t.length := by
 have h1 : (arcT t).length ≤ t.length := by unfold arcT; split <;> simp
 have hg : ∀ k, ((splitL (arcT t) 62).getD k []).length ≤ (arcT t).length := by
  intro k;rw [List.getD_eq_getElem?_getD];cases e : (splitL (arcT t) 62)[k]? with
  | none => simp
  | some x => exact splitL_mem (List.mem_of_getElem? e)
 have h2 : (arcA t).length ≤ t.length := Nat.le_trans (hg 0) h1;have h3 : (arcB t).length ≤ t.length := Nat.le_trans (hg 1) h1;refine ⟨h1, h2, h3, ?_⟩;unfold arcN arcM
 split
 ·exact h3
 split
 ·exact h2
 exact h1
theorem tsSetPo (b : Bs) {t : Nat} (ht : t < b.ts.length) (p : Int) : (tsL b.ts).set t ([vI b.ts[t].pre, vI b.ts[t].post].set 1 (vI (putI b.ts[t].post p))) = tsL (setPoF b t p).ts := by
 unfold setPoF tsL;rw [tnAt_nat ht, List.map_set]; rfl
theorem tsSetPr (b : Bs) {t : Nat} (ht : t < b.ts.length) (p : Int) : (tsL b.ts).set t ([vI b.ts[t].pre, vI b.ts[t].post].set 0 (vI (putI b.ts[t].pre p))) = tsL (setPrF b t p).ts := by
 unfold setPrF tsL;rw [tnAt_nat ht, List.map_set]; rfl
theorem setPoF_len (b : Bs) (t : Nat) (p : Int) : (setPoF b t p).ts.length = b.ts.length := List.length_set ..
theorem setPrF_len (b : Bs) (t : Nat) (p : Int) : (setPrF b t p).ts.length = b.ts.length := List.length_set ..
set_option maxHeartbeats 8000000 in
theorem bArc_spec (n : Nat) (b : Bs) (t : List UInt8) (hb : BsM n b) (hn : n ≤ 90000) (ht : t.length ≤ 100000) (hok : arcOk t = true) : ASpec Tryz.prog 211 [.ptr 0 0, aS (bstr t)] (bChs b 1 2 3 4 5) (Fun1 (.tup []) (bChs (arcF b t) 6 2 7 8 9)) := by
 have hsizes := arc_sizes t;simp only [arcOk, Bool.and_eq_true, decide_eq_true_eq] at hok;obtain ⟨⟨⟨⟨⟨ho1, ho2⟩, ho3⟩, ho4⟩, ho5⟩, ho6⟩ := hok;have hP := placeF_M hb (arcN t);have hPs := bPlace_spec b (arcN t) (hb.L (by omega));have hQ := postF_M hP.1 (arcA t) (placeF b (arcN t)).1;have hR := preF_M hQ.1 (arcB t) (placeF b (arcN t)).1;have hT1 := transF_M hP.1 (arcA t);have hT1s := bTrans_spec (placeF b (arcN t)).2 (arcA t) (hP.1.L (by omega)) (by omega) ho5;have hT2 := transF_M hQ.1 (arcB t);have hT2s := bTrans_spec (postF (placeF b (arcN t)).2 (arcA t) (placeF b (arcN t)).1) (arcB t) (hQ.1.L (by omega)) (by omega) ho6;have hA : arcF b t = markP (decide (((t.getD 0 0).toNat : Int) = 42)) (preF (postF (placeF b (arcN t)).2 (arcA t) (placeF b (arcN t)).1) (arcB t) (placeF b (arcN t)).1) (placeF b (arcN t)).1 := rfl;have hps : (preF (postF (placeF b (arcN t)).2 (arcA t) (placeF b (arcN t)).1) (arcB t) (placeF b (arcN t)).1).ps = (placeF b (arcN t)).2.ps := by rw [hR.2, hQ.2]
 have hS := l1Split_spec (arcT t) 62 (by omega);have hg0 : (sxL (splitL (arcT t) 62))[0]? = some [dS (bstr (arcA t))] := splitL_get0 _ _;have hg1 : (sxL (splitL (arcT t) 62))[1]? = some [dS (bstr (arcB t))] := by rw [sxL_get (by omega)]; unfold arcB; rw [List.getD_eq_getElem?_getD, List.getElem?_eq_getElem (by omega)]; rfl
 have hi0 : (bstr t).data.toList[0]? = some (t.getD 0 0) := bstr_getD ho1;have hd1 : (bstr t).extract 1 (bstr t).size = bstr (t.drop 1) := by rw [bstr_size, bstr_cut t ho1 (Nat.le_refl _), List.take_length]
 have hia : (bstr (arcA t)).data.toList[0]? = some ((arcA t).getD 0 0) := bstr_getD ho3;have hib : (bstr (arcB t)).data.toList[0]? = some ((arcB t).getD 0 0) := bstr_getD ho4;have hTe : arcT t = if ((t.getD 0 0).toNat : Int) = 42 then t.drop 1 else t := rfl
 have hMe : arcM t = if (((arcA t).getD 0 0).toNat : Int) = 95 then arcA t else arcT t := rfl
 have hNe : arcN t = if (((arcB t).getD 0 0).toNat : Int) = 95 then arcB t else arcM t := rfl
 have hQe : postF (placeF b (arcN t)).2 (arcA t) (placeF b (arcN t)).1 = if (((arcA t).getD 0 0).toNat : Int) = 95 then (placeF b (arcN t)).2 else setPoF (transF (placeF b (arcN t)).2 (arcA t)).2 (transF (placeF b (arcN t)).2 (arcA t)).1 (placeF b (arcN t)).1 := rfl
 have hRe : preF (postF (placeF b (arcN t)).2 (arcA t) (placeF b (arcN t)).1) (arcB t) (placeF b (arcN t)).1 = if (((arcB t).getD 0 0).toNat : Int) = 95 then postF (placeF b (arcN t)).2 (arcA t) (placeF b (arcN t)).1 else setPrF (transF (postF (placeF b (arcN t)).2 (arcA t) (placeF b (arcN t)).1) (arcB t)).2 (transF (postF (placeF b (arcN t)).2 (arcA t) (placeF b (arcN t)).1) (arcB t)).1 (placeF b (arcN t)).1 := rfl
 have hts1 := hT1.1.t;have hts2 := hT2.1.t;have htt1 := tnAt_M hT1.1 (transF (placeF b (arcN t)).2 (arcA t)).1;have htt2 := tnAt_M hT2.1 (transF (postF (placeF b (arcN t)).2 (arcA t) (placeF b (arcN t)).1) (arcB t)).1;have hst := hR.1.st;have hsp := hR.1.sp;have hPp := hP.2;rw [hps] at hsp;obtain ⟨p, hpE⟩ := eqx ((placeF b (arcN t)).1);obtain ⟨b1, hb1E⟩ := eqx ((placeF b (arcN t)).2);rw [← hpE, ← hb1E] at hPs hQ hR hT2 hT2s hA hQe hRe hst hsp hts2 htt2 hPp;rw [← hb1E] at hT1 hT1s hts1 htt1;obtain ⟨b2, hb2E⟩ := eqx (postF b1 (arcA t) p);rw [← hb2E] at hR hT2 hT2s hA hQe hRe hst hsp hts2 htt2;obtain ⟨b3, hb3E⟩ := eqx (preF b2 (arcB t) p);rw [← hb3E] at hA hRe hst hsp;obtain ⟨c1, hc1E⟩ := eqx (transF b1 (arcA t));rw [← hc1E] at hT1 hT1s hts1 htt1 hQe;obtain ⟨c2, hc2E⟩ := eqx (transF b2 (arcB t));rw [← hc2E] at hT2 hT2s hts2 htt2 hRe;obtain ⟨nm, hnmE⟩ := eqx (arcN t);rw [← hnmE] at hPs hNe;obtain ⟨txt, htxt⟩ := eqx (arcT t);rw [← htxt] at hS hg0 hg1 hTe hMe;obtain ⟨fr, hfr⟩ := eqx (arcA t);rw [← hfr] at hg0 hia hMe hQe hT1s;obtain ⟨to, hto⟩ := eqx (arcB t);rw [← hto] at hg1 hib hNe hRe hT2s;obtain ⟨sp, hspE⟩ := eqx (splitL txt 62);rw [← hspE] at hS hg0 hg1;obtain ⟨nn, hnn⟩ := eqx (arcM t);rw [← hnn] at hMe hNe;have hrow1 := tsL_get hT1.2.1;have hrow2 := tsL_get hT2.2.1;have hset1 := tsSetPo c1.2 hT1.2.1 p;have hset2 := tsSetPr c2.2 hT2.2.1 p;have hsl1 := setPoF_len c1.2 c1.1 p;have hsl2 := setPrF_len c2.2 c2.1 p;rw [tnAt_nat hT1.2.1] at htt1;rw [tnAt_nat hT2.2.1] at htt2;clear hpE hb1E hb2E hb3E hc1E hc2E hnmE htxt hfr hto hspE hnn;have hcutA : (bstr b3.start).extract 0 p = bstr (b3.start.take p) := bstr_cut b3.start (Nat.zero_le _) (by omega);have hcutB : (bstr b3.start).extract (p + 1) (bstr b3.start).size = bstr (b3.start.drop (p + 1)) := by rw [bstr_size, bstr_cut b3.start (by omega) (Nat.le_refl _), List.take_length]
 refine ASpec.of Tryz.func211 rfl rfl fun C hC => ?_
 refine AC.seq (AC.region ?_);refine zm ?_;refine AL.p (by exact g_index rfl rfl rfl (by rfl) (by assumption)) rfl ?_;refine zc ?_;refine za ?_;refine AL.nil (th_n ?_);refine AC.cut (fun (_ : Unit) => ⟨114, 100, [(0, .ptr 0 0), (1, aS (bstr txt)), (4, aT (decide (((t.getD 0 0).toNat : Int) = 42)))], chL (bChs b 1 2 3 4 5)⟩) (fun _ => True) ?_ ?_
 ·refine AC.seq (AC.region ?_);refine zm ?_;refine AL.nil (th_n ?_);refine AC.condD rfl (fun h0 => ?_) (fun h0 => ?_)
  ·refine AC.region ?_;refine zm ?_;refine AL.p (by exact g_slice_str (l := 1) (h := (bstr t).size) rfl rfl (.some rfl rfl) .none (by rw [bstr_size]; omega) (Nat.le_refl _) hd1) rfl ?_;refine za ?_;refine AL.nil (th_n ?_)
   (have e := hTe.trans (if_pos h0); exact ⟨(), trivial, Weak.ren _ [] hC rfl (by rw [e, decide_eq_true h0]; repeat (first | exact True.intro | refine And.intro ?_ ?_ | exact DLead.same | exact rfl | refine ⟨_, rfl, ?_⟩)) (by repeat (first | exact True.intro | refine And.intro ?_ ?_ | exact DLead.same | exact rfl | refine ⟨_, _, rfl, rfl, ?_⟩ | refine ⟨_, rfl, ?_⟩ | refine ⟨_, _, rfl, ?_, ?_⟩)) rfl rfl rfl⟩)
  refine AC.skip (th_n ?_)
  (have e := hTe.trans (if_neg h0); exact ⟨(), trivial, Weak.ren _ [] hC rfl (by rw [e, decide_eq_false h0]; repeat (first | exact True.intro | refine And.intro ?_ ?_ | exact DLead.same | exact rfl | refine ⟨_, rfl, ?_⟩)) (by repeat (first | exact True.intro | refine And.intro ?_ ?_ | exact DLead.same | exact rfl | refine ⟨_, _, rfl, rfl, ?_⟩ | refine ⟨_, rfl, ?_⟩ | refine ⟨_, _, rfl, ?_, ?_⟩)) rfl rfl rfl⟩)
 intro _ _;refine AC.seq (AC.region ?_);refine zm ?_;refine kV en_l1Split hS ?_;refine za ?_;refine AL.nil (th_n (AC.seq ?_));refine AC.drawn' mixed_ok [[], [0], [0,1], [], [3], [3,4], [0,1,2], [0,1,2,3,4,5,6]] (by decide) ?_;refine zd 0 [] 8 (by exact mv1 rfl) ?_;refine zd 1 [0] 8 (by exact g_ia_view (i := 0) rfl rfl rfl rfl rfl rfl hg0) ?_;refine zd 2 [0,1] 8 (by exact g_load_ref rfl rfl rfl) ?_;refine zd 3 [] 8 (by exact mv1 rfl) ?_;refine zd 4 [3] 8 (by exact g_ia_view (i := 1) rfl rfl rfl rfl rfl rfl hg1) ?_;refine zd 5 [3,4] 8 (by exact g_load_ref rfl rfl rfl) ?_;refine zd 6 [0,1,2] 8 (by exact as1 rfl) ?_;refine zd 7 [0,1,2,3,4,5,6] 8 (by exact as1 rfl) ?_;refine zj 8 ?_;refine th_n (AC.seq (AC.region ?_));refine zm ?_;refine za ?_;refine AL.nil (th_n ?_);refine AC.cut (fun (_ : Unit) => ⟨114, 200, [(0, .ptr 0 0), (4, aT (decide (((t.getD 0 0).toNat : Int) = 42))), (6, aS (bstr fr)), (7, aS (bstr to)), (8, aS (bstr nn))], chL (bChs b 1 2 3 4 5)⟩) (fun _ => True) ?_ ?_
 ·refine AC.seq (AC.region ?_);refine zm ?_;refine AL.p (by exact g_index rfl rfl rfl (by rfl) (by assumption)) rfl ?_;refine zc ?_;refine AL.nil (th_n ?_);refine AC.condD rfl (fun h0 => ?_) (fun h0 => ?_)
  ·refine AC.region ?_;refine zm ?_;refine za ?_;refine AL.nil (th_n ?_)
   (have e := hMe.trans (if_pos h0); exact ⟨(), trivial, Weak.ren _ [] hC rfl (by rw [e]; repeat (first | exact True.intro | refine And.intro ?_ ?_ | exact DLead.same | exact rfl | refine ⟨_, rfl, ?_⟩)) (by repeat (first | exact True.intro | refine And.intro ?_ ?_ | exact DLead.same | exact rfl | refine ⟨_, _, rfl, rfl, ?_⟩ | refine ⟨_, rfl, ?_⟩ | refine ⟨_, _, rfl, ?_, ?_⟩)) rfl rfl rfl⟩)
  refine AC.skip (th_n ?_)
  (have e := hMe.trans (if_neg h0); exact ⟨(), trivial, Weak.ren _ [] hC rfl (by rw [e]; repeat (first | exact True.intro | refine And.intro ?_ ?_ | exact DLead.same | exact rfl | refine ⟨_, rfl, ?_⟩)) (by repeat (first | exact True.intro | refine And.intro ?_ ?_ | exact DLead.same | exact rfl | refine ⟨_, _, rfl, rfl, ?_⟩ | refine ⟨_, rfl, ?_⟩ | refine ⟨_, _, rfl, ?_, ?_⟩)) rfl rfl rfl⟩)
 intro _ _;refine AC.cut (fun (_ : Unit) => ⟨114, 200, [(0, .ptr 0 0), (4, aT (decide (((t.getD 0 0).toNat : Int) = 42))), (6, aS (bstr fr)), (7, aS (bstr to)), (8, aS (bstr nm))], chL (bChs b 1 2 3 4 5)⟩) (fun _ => True) ?_ ?_
 ·refine AC.seq (AC.region ?_);refine zm ?_;refine AL.p (by exact g_index rfl rfl rfl (by rfl) (by assumption)) rfl ?_;refine zc ?_;refine AL.nil (th_n ?_);refine AC.condD rfl (fun h0 => ?_) (fun h0 => ?_)
  ·refine AC.region ?_;refine zm ?_;refine za ?_;refine AL.nil (th_n ?_)
   (have e := hNe.trans (if_pos h0); exact ⟨(), trivial, Weak.ren _ [] hC rfl (by rw [e]; repeat (first | exact True.intro | refine And.intro ?_ ?_ | exact DLead.same | exact rfl | refine ⟨_, rfl, ?_⟩)) (by repeat (first | exact True.intro | refine And.intro ?_ ?_ | exact DLead.same | exact rfl | refine ⟨_, _, rfl, rfl, ?_⟩ | refine ⟨_, rfl, ?_⟩ | refine ⟨_, _, rfl, ?_, ?_⟩)) rfl rfl rfl⟩)
  refine AC.skip (th_n ?_)
  (have e := hNe.trans (if_neg h0); exact ⟨(), trivial, Weak.ren _ [] hC rfl (by rw [e]; repeat (first | exact True.intro | refine And.intro ?_ ?_ | exact DLead.same | exact rfl | refine ⟨_, rfl, ?_⟩)) (by repeat (first | exact True.intro | refine And.intro ?_ ?_ | exact DLead.same | exact rfl | refine ⟨_, _, rfl, rfl, ?_⟩ | refine ⟨_, rfl, ?_⟩ | refine ⟨_, _, rfl, ?_, ?_⟩)) rfl rfl rfl⟩)
 intro _ _;refine AC.cut (fun (_ : Unit) => ⟨114, 300, [(0, .ptr 0 0), (4, aT (decide (((t.getD 0 0).toNat : Int) = 42))), (6, aS (bstr fr)), (7, aS (bstr to)), (9, aI p)], chL (bChs b1 1 2 3 104 5)⟩) (fun _ => True) ?_ ?_
 ·refine AC.region ?_;refine AL.p (by exact mv3 rfl) rfl ?_;refine zm ?_;refine kU [0, 1, 2, 3, 4, 5] en_bPlace hPs ?_;refine za ?_;refine AL.nil (th_n ?_);exact ⟨(), trivial, zw [(104, 200)] hC⟩
 intro _ _;refine AC.cut (fun (_ : Unit) => ⟨114, 600, [(0, .ptr 0 0), (4, aT (decide (((t.getD 0 0).toNat : Int) = 42))), (7, aS (bstr to)), (9, aI p)], chL (bChs b2 101 2 103 104 105)⟩) (fun _ => True) ?_ ?_
 ·refine AC.seq (AC.region ?_);refine zm ?_;refine AL.p (by exact g_index rfl rfl rfl (by rfl) (by assumption)) rfl ?_;refine zc ?_;refine AL.nil (th_n ?_);refine AC.condND rfl (fun h0 => ?_) (fun h0 => ?_)
  ·refine AC.seq (AC.region ?_);refine AL.p (by exact mv3 rfl) rfl ?_;refine zm ?_;refine kU [0, 1, 2, 3, 104, 5] en_bTrans hT1s ?_;refine za ?_;refine AL.nil (th_n ?_);refine AC.drawn' mixed_ok [[], [0], [0,1], [0,1,2], [0,1,2,3], [0,1,2,3,4], [], [], [7], [7,8], [7,8,9], [7,8,9,10], [7,8,9,10,11], [], [7,8,9,10,11,12,13], [7,8,9,10,11,12,13,14], [7,8,9,10,11,12,13,14,15], [], [7,8,9,10,11,12,13,14,15,16,17], [0,1,2,3,4,5,6,7,8,9,10,11,12,13,14,15,16,17,18], [0,1,2,3,4,5,6,7,8,9,10,11,12,13,14,15,16,17,18,19], [0,1,2,3,4,5,6,7,8,9,10,11,12,13,14,15,16,17,18,19,20]] (by decide) ?_;refine zd 0 [] 22 (by exact mv3 rfl) ?_;refine zd 1 [0] 22 (by exact g_nilP rfl) ?_;refine zd 2 [0,1] 22 (by exact g_fa_ptr rfl rfl rfl rfl rfl) ?_;refine zd 3 [0,1,2] 22 (by exact g_fa_ptr rfl rfl rfl rfl rfl) ?_;refine zd 4 [0,1,2,3] 22 (by exact g_fa_ptr rfl rfl rfl rfl rfl) ?_;refine zd 5 [0,1,2,3,4] 22 (by exact g_load_ptr rfl rfl rfl rfl rfl) ?_;refine zd 6 [] 22 (by exact mv1 rfl) ?_;refine zd 7 [] 22 (by exact mv3 rfl) ?_;refine zd 8 [7] 22 (by exact g_nilP rfl) ?_;refine zd 9 [7,8] 22 (by exact g_fa_ptr rfl rfl rfl rfl rfl) ?_;refine zd 10 [7,8,9] 22 (by exact g_fa_ptr rfl rfl rfl rfl rfl) ?_;refine zd 11 [7,8,9,10] 22 (by exact g_fa_ptr rfl rfl rfl rfl rfl) ?_;refine zd 12 [7,8,9,10,11] 22 (by exact g_load_ptr rfl rfl rfl rfl rfl) ?_;refine zd 13 [] 22 (by exact mv1 rfl) ?_;refine zd 14 [7,8,9,10,11,12,13] 22 (by exact g_ia_own (i := c1.1) (l := c1.2.ts.length) rfl rfl rfl rfl rfl rfl hT1.2.1 rfl) ?_;refine zd 15 [7,8,9,10,11,12,13,14] 22 (by exact g_fa_ptr rfl rfl rfl rfl rfl) ?_;refine zd 16 [7,8,9,10,11,12,13,14,15] 22 (by exact g_load_arr (i := c1.1) (j := 1) rfl rfl rfl rfl rfl hrow1 rfl) ?_;refine zd 17 [] 22 (by exact mv1 rfl) ?_;refine zh 18 [7,8,9,10,11,12,13,14,15,16,17] 22 (by exact h_pure en_l1Put rfl rfl (by repeat (first | exact rfl | exact DLead.same | refine ⟨_, _, rfl, ?_, ?_⟩)) (l1Put_spec c1.2.ts[c1.1].post p (by omega)) rfl) ?_;refine zd 19 (List.range 19) 22 (by exact g_ia_own (i := c1.1) (l := c1.2.ts.length) rfl rfl rfl rfl rfl rfl hT1.2.1 rfl) ?_;refine zd 20 (List.range 20) 22 (by exact g_fa_ptr rfl rfl rfl rfl rfl) ?_;refine zh 21 (List.range 21) 22 (by exact h_store_arr (i := c1.1) (j := 1) (cs := [vI c1.2.ts[c1.1].pre, vI c1.2.ts[c1.1].post]) (d := vI (putI c1.2.ts[c1.1].post p)) rfl rfl rfl rfl .same rfl hrow1 (by decide)) ?_;refine zj 22 ?_;refine th_n ?_;rcases Decidable.em (((fr.getD 0 0).toNat : Int) = 95) with hx | hx
   ·(have e := hQe.trans (if_pos hx); exact absurd hx h0)
   (have e := hQe.trans (if_neg hx); exact ⟨(), trivial, Weak.ren _ [(101, 300), (103, 301), (104, 104), (105, 302)] hC rfl (by repeat (first | exact True.intro | refine And.intro ?_ ?_ | exact DLead.same | exact rfl | refine ⟨_, rfl, ?_⟩)) (by subst e; repeat (first | exact True.intro | refine And.intro ?_ ?_ | exact DLead.same | exact rfl | exact congrArg (AV.own _) hsl1.symm | exact congrArg (Chunk.arr _ _) hset1 | refine ⟨_, _, rfl, rfl, ?_⟩ | refine ⟨_, rfl, ?_⟩ | refine ⟨_, _, rfl, ?_, ?_⟩)) rfl rfl rfl⟩)
  refine AC.skip (th_n ?_);rcases Decidable.em (((fr.getD 0 0).toNat : Int) = 95) with hx | hx
  ·(have e := hQe.trans (if_pos hx); exact ⟨(), trivial, zw [(101, 1), (103, 3), (104, 104), (105, 5)] hC (b := by rw [e]; repeat (first | exact True.intro | refine And.intro ?_ ?_ | exact DLead.same | exact rfl | refine ⟨_, _, rfl, rfl, ?_⟩ | refine ⟨_, rfl, ?_⟩ | refine ⟨_, _, rfl, ?_, ?_⟩))⟩)
  (have e := hQe.trans (if_neg hx); exact absurd h0 hx)
 intro _ _;refine AC.cut (fun (_ : Unit) => ⟨114, 1000, [(0, .ptr 0 0), (4, aT (decide (((t.getD 0 0).toNat : Int) = 42))), (9, aI p)], chL (bChs b3 201 2 203 204 205)⟩) (fun _ => True) ?_ ?_
 ·refine AC.seq (AC.region ?_);refine zm ?_;refine AL.p (by exact g_index rfl rfl rfl (by rfl) (by assumption)) rfl ?_;refine zc ?_;refine AL.nil (th_n ?_);refine AC.condND rfl (fun h0 => ?_) (fun h0 => ?_)
  ·refine AC.seq (AC.region ?_);refine AL.p (by exact mv3 rfl) rfl ?_;refine zm ?_;refine kU [0, 101, 2, 103, 104, 105] en_bTrans hT2s ?_;refine za ?_;refine AL.nil (th_n ?_);refine AC.drawn' mixed_ok [[], [0], [0,1], [0,1,2], [0,1,2,3], [0,1,2,3,4], [], [], [7], [7,8], [7,8,9], [7,8,9,10], [7,8,9,10,11], [], [7,8,9,10,11,12,13], [7,8,9,10,11,12,13,14], [7,8,9,10,11,12,13,14,15], [], [7,8,9,10,11,12,13,14,15,16,17], [0,1,2,3,4,5,6,7,8,9,10,11,12,13,14,15,16,17,18], [0,1,2,3,4,5,6,7,8,9,10,11,12,13,14,15,16,17,18,19], [0,1,2,3,4,5,6,7,8,9,10,11,12,13,14,15,16,17,18,19,20]] (by decide) ?_;refine zd 0 [] 22 (by exact mv3 rfl) ?_;refine zd 1 [0] 22 (by exact g_nilP rfl) ?_;refine zd 2 [0,1] 22 (by exact g_fa_ptr rfl rfl rfl rfl rfl) ?_;refine zd 3 [0,1,2] 22 (by exact g_fa_ptr rfl rfl rfl rfl rfl) ?_;refine zd 4 [0,1,2,3] 22 (by exact g_fa_ptr rfl rfl rfl rfl rfl) ?_;refine zd 5 [0,1,2,3,4] 22 (by exact g_load_ptr rfl rfl rfl rfl rfl) ?_;refine zd 6 [] 22 (by exact mv1 rfl) ?_;refine zd 7 [] 22 (by exact mv3 rfl) ?_;refine zd 8 [7] 22 (by exact g_nilP rfl) ?_;refine zd 9 [7,8] 22 (by exact g_fa_ptr rfl rfl rfl rfl rfl) ?_;refine zd 10 [7,8,9] 22 (by exact g_fa_ptr rfl rfl rfl rfl rfl) ?_;refine zd 11 [7,8,9,10] 22 (by exact g_fa_ptr rfl rfl rfl rfl rfl) ?_;refine zd 12 [7,8,9,10,11] 22 (by exact g_load_ptr rfl rfl rfl rfl rfl) ?_;refine zd 13 [] 22 (by exact mv1 rfl) ?_;refine zd 14 [7,8,9,10,11,12,13] 22 (by exact g_ia_own (i := c2.1) (l := c2.2.ts.length) rfl rfl rfl rfl rfl rfl hT2.2.1 rfl) ?_;refine zd 15 [7,8,9,10,11,12,13,14] 22 (by exact g_fa_ptr rfl rfl rfl rfl rfl) ?_;refine zd 16 [7,8,9,10,11,12,13,14,15] 22 (by exact g_load_arr (i := c2.1) (j := 0) rfl rfl rfl rfl rfl hrow2 rfl) ?_;refine zd 17 [] 22 (by exact mv1 rfl) ?_;refine zh 18 [7,8,9,10,11,12,13,14,15,16,17] 22 (by exact h_pure en_l1Put rfl rfl (by repeat (first | exact rfl | exact DLead.same | refine ⟨_, _, rfl, ?_, ?_⟩)) (l1Put_spec c2.2.ts[c2.1].pre p (by omega)) rfl) ?_;refine zd 19 (List.range 19) 22 (by exact g_ia_own (i := c2.1) (l := c2.2.ts.length) rfl rfl rfl rfl rfl rfl hT2.2.1 rfl) ?_;refine zd 20 (List.range 20) 22 (by exact g_fa_ptr rfl rfl rfl rfl rfl) ?_;refine zh 21 (List.range 21) 22 (by exact h_store_arr (i := c2.1) (j := 0) (cs := [vI c2.2.ts[c2.1].pre, vI c2.2.ts[c2.1].post]) (d := vI (putI c2.2.ts[c2.1].pre p)) rfl rfl rfl rfl .same rfl hrow2 (by decide)) ?_;refine zj 22 ?_;refine th_n ?_;rcases Decidable.em (((to.getD 0 0).toNat : Int) = 95) with hx | hx
   ·(have e := hRe.trans (if_pos hx); exact absurd hx h0)
   (have e := hRe.trans (if_neg hx); exact ⟨(), trivial, Weak.ren _ [(201, 600), (203, 601), (204, 104), (205, 602)] hC rfl (by repeat (first | exact True.intro | refine And.intro ?_ ?_ | exact DLead.same | exact rfl | refine ⟨_, rfl, ?_⟩)) (by subst e; repeat (first | exact True.intro | refine And.intro ?_ ?_ | exact DLead.same | exact rfl | exact congrArg (AV.own _) hsl2.symm | exact congrArg (Chunk.arr _ _) hset2 | refine ⟨_, _, rfl, rfl, ?_⟩ | refine ⟨_, rfl, ?_⟩ | refine ⟨_, _, rfl, ?_, ?_⟩)) rfl rfl rfl⟩)
  refine AC.skip (th_n ?_);rcases Decidable.em (((to.getD 0 0).toNat : Int) = 95) with hx | hx
  ·(have e := hRe.trans (if_pos hx); exact ⟨(), trivial, zw [(201, 101), (203, 103), (204, 104), (205, 105)] hC (b := by rw [e]; repeat (first | exact True.intro | refine And.intro ?_ ?_ | exact DLead.same | exact rfl | refine ⟨_, _, rfl, rfl, ?_⟩ | refine ⟨_, rfl, ?_⟩ | refine ⟨_, _, rfl, ?_, ?_⟩))⟩)
  (have e := hRe.trans (if_neg hx); exact absurd h0 hx)
 intro _ _;refine AC.seq (AC.region ?_);refine zm ?_;refine AL.nil (th_n ?_);refine AC.condD rfl (fun h0 => ?_) (fun h0 => ?_)
 ·refine AC.drawn' mixed_ok [[], [], [1], [1,2], [1,2,3], [1,2,3,4], [], [1,2,3,4,5,6], [1,2,3,4,5,6,7], [], [9], [9,10], [9,10,11], [9,10,11,12], [], [14], [9,10,11,12,13,14,15], [1,2,3,4,5,6,7,8,9,10,11,12,13,14,15,16], [0,1,2,3,4,5,6,7,8,9,10,11,12,13,14,15,16,17], [0,1,2,3,4,5,6,7,8,9,10,11,12,13,14,15,16,17,18], [0,1,2,3,4,5,6,7,8,9,10,11,12,13,14,15,16,17,18,19], [0,1,2,3,4,5,6,7,8,9,10,11,12,13,14,15,16,17,18,19,20]] (by decide) ?_;refine zd 0 [] 22 (by exact mv3 rfl) ?_;refine zd 1 [] 22 (by exact mv3 rfl) ?_;refine zd 2 [1] 22 (by exact g_nilP rfl) ?_;refine zd 3 [1,2] 22 (by exact g_fa_ptr rfl rfl rfl rfl rfl) ?_;refine zd 4 [1,2,3] 22 (by exact g_fa_ptr rfl rfl rfl rfl rfl) ?_;refine zd 5 [1,2,3,4] 22 (by exact g_load_ptr rfl rfl rfl rfl rfl) ?_;refine zd 6 [] 22 (by exact mv1 rfl) ?_;refine zd 7 [1,2,3,4,5,6] 22 (by exact g_slice_str (l := 0) (h := p) rfl rfl .none (.some rfl rfl) (Nat.zero_le _) (by rw [bstr_size]; omega) hcutA) ?_;refine zd 8 [1,2,3,4,5,6,7] 22 (by exact g_saddB (a := b3.start.take p) (b := [49]) rfl rfl (by simp only [List.length_cons, List.length_nil, List.length_take]; omega)) ?_;refine zd 9 [] 22 (by exact mv3 rfl) ?_;refine zd 10 [9] 22 (by exact g_nilP rfl) ?_;refine zd 11 [9,10] 22 (by exact g_fa_ptr rfl rfl rfl rfl rfl) ?_;refine zd 12 [9,10,11] 22 (by exact g_fa_ptr rfl rfl rfl rfl rfl) ?_;refine zd 13 [9,10,11,12] 22 (by exact g_load_ptr rfl rfl rfl rfl rfl) ?_;refine zd 14 [] 22 (by exact mv1 rfl) ?_;refine zd 15 [14] 22 (by exact g_arith rfl rfl rfl (by exact wrap_i64 (by omega))) ?_;refine zd 16 [9,10,11,12,13,14,15] 22 (by exact g_slice_str (l := p + 1) (h := (bstr b3.start).size) rfl rfl (.some rfl rfl) .none (by rw [bstr_size]; omega) (Nat.le_refl _) hcutB) ?_;refine zd 17 [1,2,3,4,5,6,7,8,9,10,11,12,13,14,15,16] 22 (by exact g_saddB (a := b3.start.take p ++ [49]) (b := b3.start.drop (p + 1)) rfl rfl (by simp only [List.length_cons, List.length_nil, List.length_append, List.length_take, List.length_drop]; omega)) ?_;refine zd 18 (List.range 18) 22 (by exact g_nilP rfl) ?_;refine zd 19 (List.range 19) 22 (by exact g_fa_ptr rfl rfl rfl rfl rfl) ?_;refine zd 20 (List.range 20) 22 (by exact g_fa_ptr rfl rfl rfl rfl rfl) ?_;refine zh 21 (List.range 21) 22 (by exact h_store rfl rfl rfl rfl rfl rfl) ?_;refine zj 22 ?_;refine bq_n ?_
  (have e : arcF b t = { b3 with start := b3.start.take p ++ [49] ++ b3.start.drop (p + 1) } := (by rw [hA]; exact if_pos (decide_eq_true h0)); exact retN [(6, 201), (7, 203), (8, 204), (9, 205)] rfl (by repeat (first | exact rfl | refine ⟨_, rfl, ?_⟩)) (by rw [e]; dsimp only [bChs, bC]; repeat (first | exact True.intro | refine And.intro ?_ ?_ | exact DLead.same | exact rfl | refine ⟨_, _, rfl, rfl, ?_⟩ | refine ⟨_, rfl, ?_⟩ | refine ⟨_, _, rfl, ?_, ?_⟩)) rfl rfl)
 refine AC.skip (bq_n ?_)
 (have e : arcF b t = b3 := (by rw [hA]; exact if_neg (by simpa using h0)); exact retN [(6, 201), (7, 203), (8, 204), (9, 205)] rfl (by repeat (first | exact rfl | refine ⟨_, rfl, ?_⟩)) (by rw [e]; repeat (first | exact True.intro | refine And.intro ?_ ?_ | exact DLead.same | exact rfl | refine ⟨_, _, rfl, rfl, ?_⟩ | refine ⟨_, rfl, ?_⟩ | refine ⟨_, _, rfl, ?_, ?_⟩)) rfl rfl)
theorem en_bArc : Enters Tryz.prog 211 := enters_of Tryz.func211 rfl rfl
def oneSigs (l : List UInt8) (k : Int) : List Sig := l.map fun b => ⟨[b], k⟩
def sigsTo (ls : List (List UInt8)) : Nat → List Sig
 | 0 => []
 | k + 1 => sigsTo ls k ++ oneSigs (ls.getD k []) ((k : Int) + 1)
theorem oneSigs_len (l : List UInt8) (k : Int) : (oneSigs l k).length = l.length := List.length_map _
theorem oneSigs_snoc (l : List UInt8) (k : Int) {q : Nat} (h : q < l.length) : oneSigs (l.take (q + 1)) k = oneSigs (l.take q) k ++ [⟨[l[q]], k⟩] := by
 unfold oneSigs;rw [List.take_add_one, List.getElem?_eq_getElem h, List.map_append]; rfl
def begS (ls : List (List UInt8)) : Bs := ⟨sigsTo ls 3, [], [], [], [], []⟩
def arcsF (b : Bs) (l : List (List UInt8)) : Bs := l.foldl arcF b
theorem arcsF_snoc (b : Bs) (l : List (List UInt8)) {k : Nat} (h : k < l.length) : arcsF b (l.take (k + 1)) = arcF (arcsF b (l.take k)) l[k] := by
 unfold arcsF;rw [List.take_add_one, List.getElem?_eq_getElem h, List.foldl_append]; rfl
def stgOf (b : Bs) : Stg := ⟨⟨b.ps.length, b.ts⟩, b.sigs, b.labs, b.start⟩
def buildS (ins outs inner arcs : List UInt8) : Stg := stgOf (arcsF (begS [ins, outs, inner]) (splitL arcs 32))
abbrev stgO (s : Stg) (i j k : Nat) : AV := .agg [aI s.net.places, .own i s.net.ts.length, .own j s.sigs.length, .own k s.labs.length, aS (bstr s.start)]
abbrev stgChs (s : Stg) (i j k : Nat) : List (Nat × Chunk) := [(i, .arr 249 2 (tsL s.net.ts)), (j, .arr 123 2 (sigsL s.sigs)), (k, .arr 64 2 (labsL s.labs))]
abbrev bChA (b : Bs) (i0 i1 i2 i3 i4 i5 : Nat) : List (Nat × Chunk) := [(i0, bC b i1 i2 i3 i4 i5), (i1, .arr 249 2 (tsL b.ts)), (i2, .arr 123 2 (sigsL b.sigs)), (i3, .arr 64 2 (labsL b.labs)), (i4, .arr 9 1 (sxL b.ps)), (i5, .arr 9 1 (sxL b.ws))]
abbrev zStg : List AV := [aI 0, .d (.val (.slice none 0 0)), .d (.val (.slice none 0 0)), .d (.val (.slice none 0 0)), aS ByteArray.empty]
theorem sigsTo_len (ls : List (List UInt8)) : ∀ k, (∀ l, l ∈ ls → l.length ≤ 100) → (sigsTo ls k).length ≤ 100 * k
 | 0, h => by simp [sigsTo]
 | k + 1, h => by
  have := sigsTo_len ls k h
  have h2 : (ls.getD k []).length ≤ 100 := by
   rw [List.getD_eq_getElem?_getD];cases e : ls[k]? with
   | none => simp
   | some x => exact h x (List.mem_of_getElem? e)
  rw [sigsTo, List.length_append, oneSigs_len]; omega
theorem begS_M (ls : List (List UInt8)) (h : ∀ l, l ∈ ls → l.length ≤ 100) : BsM 300 (begS ls) := ⟨sigsTo_len ls 3 h, Nat.zero_le _, Nat.zero_le _, Nat.zero_le _, Nat.zero_le _, Nat.zero_le _, fun t ht => (by cases ht), rfl, rfl, rfl⟩
theorem arcsF_M (b : Bs) (n : Nat) (hb : BsM n b) (l : List (List UInt8)) : ∀ k, BsM (n + 5 * k) (arcsF b (l.take k))
 | 0 => hb
 | k + 1 => by
  rcases Nat.lt_or_ge k l.length with h | h
  ·rw [arcsF_snoc b l h]; exact (arcF_M (arcsF_M b n hb l k) l[k]).mono (by omega)
  have := arcsF_M b n hb l k;rw [List.take_of_length_le h] at this;rw [List.take_of_length_le (by omega)]; exact this.mono (by omega)
theorem splitK_cnt (s : List UInt8) (b : UInt8) : ∀ k, (splitK s b k).1.length ≤ k
 | 0 => Nat.le_refl _
 | k + 1 => by have := splitK_cnt s b k; rw [splitK]; split <;> simp <;> omega
theorem splitL_cnt (s : List UInt8) (b : UInt8) : (splitL s b).length ≤ s.length + 1 := by have := splitK_cnt s b s.length; unfold splitL; rw [List.length_append]; simp; exact this
theorem h_appendSg (acc new : List Sig) {s : ASt} {dst : Option Nat} {ty : Nat} {pos : String} {af : Array Edge} {gd : Option (Nat × Bool)} {x y : Operand} {f : Nat} {ids ids2 : List Nat} {gone : List (Nat × Option Chunk)}
  (hto : AppTo s x 123 2 (sigsL acc) ids gone) (harg : AppArg s y 2 (sigsL new) ids2) (h : (acc ++ new).length ≤ 100000000) (hnew : gone = [] → 0 < new.length) :
  NOp Tryz.prog (ids ++ ids2) s ⟨dst, .call { callee := .builtin .append, args := #[x, y], argTypes := #[23, 23] }, ty, pos, af, gd⟩ f ⟨.own f (acc ++ new).length, (f, some (.arr 123 2 (sigsL (acc ++ new)))) :: gone⟩ := by
 have := h_append (P := Tryz.prog) (s := s) (dst := dst) (ty := ty) (pos := pos) (af := af) (gd := gd) (x := x) (y := y) (f := f) (t := 23) (tx := 23) (k := (acc ++ new).length) rfl rfl rfl rfl rfl rfl hto harg (by simp) (by omega) (by show (acc ++ new).length * 24 ≤ _; omega) (fun h => by rw [sigsL_len]; exact hnew h)
 rwa [← List.map_append] at this
set_option maxHeartbeats 8000000 in
theorem l2Build_spec (ins outs inner arcs : List UInt8) (h1 : ins.length ≤ 100) (h2 : outs.length ≤ 100) (h3 : inner.length ≤ 100) (h4 : arcs.length ≤ 1000) (hok : (splitL arcs 32).all arcOk = true) : ASpec Tryz.prog 168 [aS (bstr ins), aS (bstr outs), aS (bstr inner), aS (bstr arcs)] [] (Fun1 (stgO (buildS ins outs inner arcs) 0 1 2) (stgChs (buildS ins outs inner arcs) 0 1 2)) := by
 obtain ⟨ls, hls⟩ := eqx ([ins, outs, inner]);have hlen : ls.length = 3 := by rw [hls]; rfl
 have hsm : ∀ l, l ∈ ls → l.length ≤ 100 := by rw [hls]; intro l hl; simp only [List.mem_cons, List.not_mem_nil, or_false] at hl; rcases hl with rfl | rfl | rfl <;> assumption
 have hB0 := begS_M ls hsm;have hS := l1Split_spec arcs 32 (by omega);have hcnt := splitL_cnt arcs 32;have hmm : ∀ x, x ∈ splitL arcs 32 → x.length ≤ arcs.length := fun x hx => splitL_mem hx
 have hbs : buildS ins outs inner arcs = stgOf (arcsF (begS ls) (splitL arcs 32)) := by rw [hls]; rfl
 obtain ⟨al, hal⟩ := eqx (splitL arcs 32);rw [← hal] at hS hcnt hbs hok hmm;clear hal;have hlit : ([[dS (bstr ins)], [dS (bstr outs)], [dS (bstr inner)]] : List (List DV)) = sxL ls := by rw [hls]; rfl
 refine ASpec.of Tryz.func168 rfl rfl fun C hC => ?_
 refine AC.seq (AC.region ?_);refine kE ?_;refine AL.nil (th_n (AC.seq (AC.region ?_)));refine AL.p (by exact g_build rfl rfl rfl) rfl ?_;refine AL.q (by exact h_box rfl) rfl ?_;refine AL.p (by exact as3 rfl) rfl ?_;refine AL.nil (th_n (AC.seq (AC.seq (AC.region ?_))));refine zm ?_;refine zm ?_;refine zm ?_;refine AL.q (by exact h_litF (els := [[dS (bstr ins)], [dS (bstr outs)], [dS (bstr inner)]]) rfl rfl rfl rfl rfl rfl rfl rfl) rfl ?_;rw [hlit];refine AL.p (by exact g_len_view (k := 3) rfl rfl (by rw [sxL_len]; exact hlen)) rfl ?_;refine zm ?_;refine AL.nil (th_n (AC.block ?_));refine AC.loop (ι := Nat) (fun k => ⟨68, 300, [(3, aS (bstr arcs)), (8, .ptr 200 0), (9, .ptr 100 0), (20, .d (vSx ls)), (21, aI (3 : Nat)), (22, aI k)], (200, some (.cells 173 zStg)) :: chL (bChA ⟨sigsTo ls k, [], [], [], [], []⟩ 100 101 102 103 104 105)⟩) (fun k => k ≤ 3) (fun k => 3 - k) (0) ?_ (Nat.zero_le _) ?_
 ·refine Weak.trans (Weak.ren (t := ⟨68, 300, [(3, aS (bstr arcs)), (8, .ptr 200 0), (9, .ptr 100 0), (20, .d (vSx ls)), (21, aI (3 : Nat)), (22, aI (0 : Nat))], [(100, some (.cells 217 [aI 0, .d (.val (.slice none 0 0)), .d (.val (.slice none 0 0)), .d (.val (.slice none 0 0)), aS ByteArray.empty, .d (.val (.slice none 0 0)), .d (.val (.slice none 0 0))])), (200, some (.cells 173 zStg))]⟩) _ [(200, 0), (100, 8)] hC rfl (by repeat (first | exact True.intro | refine And.intro ?_ ?_ | exact DLead.same | exact rfl | refine ⟨_, rfl, ?_⟩)) (by repeat (first | exact True.intro | refine And.intro ?_ ?_ | exact DLead.same | exact rfl | refine ⟨_, _, rfl, rfl, ?_⟩ | refine ⟨_, rfl, ?_⟩ | refine ⟨_, _, rfl, ?_, ?_⟩)) rfl rfl rfl) ?_;refine Weak.trans (Weak.nilOwnP 9 1 (e := 249) (sz := 2) rfl rfl rfl rfl rfl) ?_;refine Weak.trans (t := ⟨68, 308, [(3, aS (bstr arcs)), (8, .ptr 200 0), (9, .ptr 100 0), (20, .d (vSx ls)), (21, aI (3 : Nat)), (22, aI (0 : Nat))], [(100, some (.cells 217 [aI 0, .own 300 0, .d (.val (.slice none 0 0)), .d (.val (.slice none 0 0)), aS ByteArray.empty, .d (.val (.slice none 0 0)), .d (.val (.slice none 0 0))])), (300, some (.arr 249 2 [])), (200, some (.cells 173 zStg))]⟩) (zw [(200, 200), (100, 100), (300, 300)] hC) ?_;refine Weak.trans (Weak.nilOwnP 9 2 (e := 123) (sz := 2) rfl rfl rfl rfl rfl) ?_;refine Weak.trans (t := ⟨68, 316, [(3, aS (bstr arcs)), (8, .ptr 200 0), (9, .ptr 100 0), (20, .d (vSx ls)), (21, aI (3 : Nat)), (22, aI (0 : Nat))], [(100, some (.cells 217 [aI 0, .own 300 0, .own 308 0, .d (.val (.slice none 0 0)), aS ByteArray.empty, .d (.val (.slice none 0 0)), .d (.val (.slice none 0 0))])), (308, some (.arr 123 2 [])), (300, some (.arr 249 2 [])), (200, some (.cells 173 zStg))]⟩) (zw [(200, 200), (100, 100), (300, 300), (308, 308)] hC) ?_;refine Weak.trans (Weak.nilOwnP 9 3 (e := 64) (sz := 2) rfl rfl rfl rfl rfl) ?_;refine Weak.trans (t := ⟨68, 324, [(3, aS (bstr arcs)), (8, .ptr 200 0), (9, .ptr 100 0), (20, .d (vSx ls)), (21, aI (3 : Nat)), (22, aI (0 : Nat))], [(100, some (.cells 217 [aI 0, .own 300 0, .own 308 0, .own 316 0, aS ByteArray.empty, .d (.val (.slice none 0 0)), .d (.val (.slice none 0 0))])), (316, some (.arr 64 2 [])), (308, some (.arr 123 2 [])), (300, some (.arr 249 2 [])), (200, some (.cells 173 zStg))]⟩) (zw [(200, 200), (100, 100), (300, 300), (308, 308), (316, 316)] hC) ?_;refine Weak.trans (Weak.nilOwnP 9 5 (e := 9) (sz := 1) rfl rfl rfl rfl rfl) ?_;refine Weak.trans (t := ⟨68, 332, [(3, aS (bstr arcs)), (8, .ptr 200 0), (9, .ptr 100 0), (20, .d (vSx ls)), (21, aI (3 : Nat)), (22, aI (0 : Nat))], [(100, some (.cells 217 [aI 0, .own 300 0, .own 308 0, .own 316 0, aS ByteArray.empty, .own 324 0, .d (.val (.slice none 0 0))])), (324, some (.arr 9 1 [])), (316, some (.arr 64 2 [])), (308, some (.arr 123 2 [])), (300, some (.arr 249 2 [])), (200, some (.cells 173 zStg))]⟩) (zw [(200, 200), (100, 100), (300, 300), (308, 308), (316, 316), (324, 324)] hC) ?_;refine Weak.trans (Weak.nilOwnP 9 6 (e := 9) (sz := 1) rfl rfl rfl rfl rfl) ?_;refine Weak.trans (t := ⟨68, 340, [(3, aS (bstr arcs)), (8, .ptr 200 0), (9, .ptr 100 0), (20, .d (vSx ls)), (21, aI (3 : Nat)), (22, aI (0 : Nat))], [(100, some (.cells 217 [aI 0, .own 300 0, .own 308 0, .own 316 0, aS ByteArray.empty, .own 324 0, .own 332 0])), (332, some (.arr 9 1 [])), (324, some (.arr 9 1 [])), (316, some (.arr 64 2 [])), (308, some (.arr 123 2 [])), (300, some (.arr 249 2 [])), (200, some (.cells 173 zStg))]⟩) (zw [(200, 200), (100, 100), (300, 300), (308, 308), (316, 316), (324, 324), (332, 332)] hC) ?_;exact zw [(200, 200), (100, 100), (101, 300), (102, 308), (103, 316), (104, 324), (105, 332)] hC
 intro k hk;refine AC.seq (AC.region ?_);refine zc ?_;refine AL.nil (th_n (AC.seq ?_));refine AC.condD rfl (fun h0 => ?_) (fun h0 => ?_)
 ·refine AC.skip (th_n (AC.seq (AC.block (AC.seq ?_))));have hk1 : k < ls.length := by omega
  have hget := sxL_get hk1;have hsl := sigsTo_len ls k hsm;have hone := hsm _ (List.getElem_mem hk1);have hsuc : sigsTo ls (k + 1) = sigsTo ls k ++ oneSigs ls[k] ((k : Int) + 1) := by rw [sigsTo, List.getD_eq_getElem?_getD, List.getElem?_eq_getElem hk1]; rfl
  obtain ⟨w, hw⟩ := eqx (ls[k]);rw [← hw] at hget hone hsuc;clear hw;have hsz := bstr_size w;refine AC.region ?_;refine zm ?_;refine AL.p (by exact g_ia_view rfl rfl rfl rfl rfl (by rfl) (by assumption)) rfl ?_;refine zr ?_;refine za ?_;refine za ?_;refine AL.nil (th_n (AC.seq (AC.region ?_)));refine za ?_;refine AL.nil (th_n (AC.block ?_));refine AC.loop (ι := Nat) (fun q => ⟨68, 300, [(3, aS (bstr arcs)), (8, .ptr 200 0), (9, .ptr 100 0), (20, .d (vSx ls)), (21, aI (3 : Nat)), (22, aI k), (10, aI k), (11, aS (bstr w)), (12, aI q)], (200, some (.cells 173 zStg)) :: chL (bChA ⟨sigsTo ls k ++ oneSigs (w.take q) ((k : Int) + 1), [], [], [], [], []⟩ 100 101 102 103 104 105)⟩) (fun q => q ≤ w.length) (fun q => w.length - q) (0) ?_ (Nat.zero_le _) ?_
  ·exact Weak.ren _ [(200, 200), (100, 100), (101, 101), (102, 102), (103, 103), (104, 104), (105, 105)] hC rfl (by repeat (first | exact True.intro | refine And.intro ?_ ?_ | exact DLead.same | exact rfl | refine ⟨_, rfl, ?_⟩)) (by rw [List.take_zero, show oneSigs [] ((k : Int) + 1) = [] from rfl, List.append_nil]; repeat (first | exact True.intro | refine And.intro ?_ ?_ | exact DLead.same | exact rfl | refine ⟨_, _, rfl, rfl, ?_⟩ | refine ⟨_, rfl, ?_⟩ | refine ⟨_, _, rfl, ?_, ?_⟩)) rfl rfl rfl
  intro q hq;refine AC.seq (AC.seq (AC.region ?_));refine zm ?_;refine zm ?_;refine AL.p (by exact g_len_str rfl rfl rfl) rfl ?_;refine zc ?_;refine AL.nil (th_n ?_);refine AC.condD rfl (fun h1 => ?_) (fun h1 => ?_)
  ·refine AC.skip (th_n (AC.seq (AC.block ?_)));have hq1 : q < w.length := by omega
   have hsn := oneSigs_snoc w ((k : Int) + 1) hq1;have hcut : (bstr w).extract q (q + 1) = bstr [w[q]] := by rw [bstr_cut w (by omega) (by omega), List.drop_take, Nat.add_sub_cancel_left, List.drop_eq_getElem_cons hq1]; rfl
   have hacc : (sigsTo ls k ++ oneSigs (w.take q) ((k : Int) + 1)).length ≤ 400 := by rw [List.length_append, oneSigs_len, List.length_take]; omega
   obtain ⟨acc, hac⟩ := eqx (sigsTo ls k ++ oneSigs (w.take q) ((k : Int) + 1));have hnext : sigsTo ls k ++ oneSigs (w.take (q + 1)) ((k : Int) + 1) = acc ++ [⟨[w[q]], (k : Int) + 1⟩] := by rw [hsn, ← List.append_assoc, ← hac]
   rw [← hac] at hacc ⊢;refine AC.drawn' mixed_ok [[], [], [1], [1,2], [1,2,3], [1,2,3,4], [], [], [], [8], [6,7,8,9], [], [11], [6,7,8,9,10,11,12], [6,7,8,9,10,11,12,13], [1,2,3,4,5,6,7,8,9,10,11,12,13,14], [0,1,2,3,4,5,6,7,8,9,10,11,12,13,14,15], [0,1,2,3,4,5,6,7,8,9,10,11,12,13,14,15,16], [0,1,2,3,4,5,6,7,8,9,10,11,12,13,14,15,16,17], [0,1,2,3,4,5,6,7,8,9,10,11,12,13,14,15,16,17,18]] (by decide) ?_;refine zd 0 [] 20 (by exact mv3 rfl) ?_;refine zd 1 [] 20 (by exact mv3 rfl) ?_;refine zd 2 [1] 20 (by exact g_nilP rfl) ?_;refine zd 3 [1,2] 20 (by exact g_fa_ptr rfl rfl rfl rfl rfl) ?_;refine zd 4 [1,2,3] 20 (by exact g_fa_ptr rfl rfl rfl rfl rfl) ?_;refine zd 5 [1,2,3,4] 20 (by exact g_load_ptr rfl rfl rfl rfl rfl) ?_;refine zd 6 [] 20 (by exact mv1 rfl) ?_;refine zd 7 [] 20 (by exact mv1 rfl) ?_;refine zd 8 [] 20 (by exact mv1 rfl) ?_;refine zd 9 [8] 20 (by exact g_arith rfl rfl rfl (by exact wrap_i64 (by omega))) ?_;refine zd 10 [6,7,8,9] 20 (by exact g_slice_str (l := q) (h := q + 1) rfl rfl (.some rfl rfl) (.some rfl (by omega)) (by omega) (by omega) hcut) ?_;refine zd 11 [] 20 (by exact mv1 rfl) ?_;refine zd 12 [11] 20 (by exact g_arith rfl rfl rfl (by exact wrap_i64 (by omega))) ?_;refine zd 13 [6,7,8,9,10,11,12] 20 (by exact g_build rfl rfl rfl) ?_;refine zh 14 [6,7,8,9,10,11,12,13] 20 (by exact h_litF rfl rfl rfl rfl rfl rfl rfl rfl) ?_;refine zh 15 [1,2,3,4,5,6,7,8,9,10,11,12,13,14] 20 (by exact h_appendSg acc [⟨[w[q]], (k : Int) + 1⟩] (.own rfl rfl (sigsL_len _).symm) (.view rfl) (by rw [List.length_append]; simp only [List.length_cons, List.length_nil]; omega) (by simp)) ?_;refine zd 16 (List.range 16) 20 (by exact g_nilP rfl) ?_;refine zd 17 (List.range 17) 20 (by exact g_fa_ptr rfl rfl rfl rfl rfl) ?_;refine zd 18 (List.range 18) 20 (by exact g_fa_ptr rfl rfl rfl rfl rfl) ?_;refine zh 19 (List.range 19) 20 (by exact h_store rfl rfl rfl rfl rfl rfl) ?_;refine zj 20 ?_;refine ib_n (th_n (AC.region ?_));refine zm ?_;refine zA ?_;refine za ?_;refine AL.nil (th_n ?_);exact ⟨q + 1, by omega, by omega, zw [(200, 200), (100, 100), (101, 101), (102, _), (103, 103), (104, 104), (105, 105)] hC (b := by rw [hnext]; repeat (first | exact True.intro | refine And.intro ?_ ?_ | exact DLead.same | exact rfl | refine ⟨_, _, rfl, rfl, ?_⟩ | refine ⟨_, rfl, ?_⟩ | refine ⟨_, _, rfl, ?_, ?_⟩))⟩
  refine AC.exit (th_e (th_e (ib_y (ib_n (th_n (AC.region ?_))))));refine zA ?_;refine zm ?_;refine AL.nil (th_n ?_);have hqq : q = w.length := by omega
  have e : sigsTo ls (k + 1) = sigsTo ls k ++ oneSigs (w.take q) ((k : Int) + 1) := by rw [hsuc, hqq, List.take_length]
  exact ⟨k + 1, by omega, by omega, zw [(200, 200), (100, 100), (101, 101), (102, 102), (103, 103), (104, 104), (105, 105)] hC (b := by rw [e]; repeat (first | exact True.intro | refine And.intro ?_ ?_ | exact DLead.same | exact rfl | refine ⟨_, _, rfl, rfl, ?_⟩ | refine ⟨_, rfl, ?_⟩ | refine ⟨_, _, rfl, ?_, ?_⟩))⟩
 refine AC.exit (th_e (th_e (ib_y (th_n (AC.seq (AC.seq ?_))))));have hk3 : k = 3 := by omega
 subst hk3;refine AC.region ?_;refine zm ?_;refine kV en_l1Split hS ?_;refine kI al.length (sxL_len _) ?_;refine zm ?_;refine AL.nil (th_n (AC.block ?_));refine AC.loop (ι := Nat) (fun k => ⟨68, 600, [(8, .ptr 200 0), (9, .ptr 100 0), (54, .d (vSx al)), (55, aI al.length), (56, aI k)], (200, some (.cells 173 zStg)) :: chL (bChA (arcsF (begS ls) (al.take k)) 100 101 102 103 104 105)⟩) (fun k => k ≤ al.length) (fun k => al.length - k) (0) ?_ (Nat.zero_le _) ?_
 ·exact zw [(200, 200), (100, 100), (101, 101), (102, 102), (103, 103), (104, 104), (105, 105)] hC
 intro k hk;refine AC.seq (AC.region ?_);refine zc ?_;refine AL.nil (th_n (AC.seq ?_));refine AC.condD rfl (fun h1 => ?_) (fun h1 => ?_)
 ·refine AC.skip (th_n (AC.seq (AC.block (AC.seq ?_))));have hk1 : k < al.length := by omega
  have hget := sxL_get hk1;have hM := arcsF_M (begS ls) 300 hB0 al k;have hsn := arcsF_snoc (begS ls) al hk1;have hA := bArc_spec (300 + 5 * k) (arcsF (begS ls) (al.take k)) al[k] hM (by omega) (by have := hmm _ (List.getElem_mem hk1); omega) (List.all_eq_true.1 hok _ (List.getElem_mem hk1));rw [← hsn] at hA;obtain ⟨bk, hbk⟩ := eqx (arcsF (begS ls) (al.take k));obtain ⟨bn, hbn⟩ := eqx (arcsF (begS ls) (al.take (k + 1)));rw [← hbk, ← hbn] at hA;rw [← hbk];refine AC.region ?_;refine AL.p (by exact g_ia_view rfl rfl rfl rfl rfl (by rfl) (by assumption)) rfl ?_;refine zr ?_;refine za ?_;refine AL.nil (th_n (AC.region ?_));refine AL.p (by exact mv3 rfl) rfl ?_;refine zm ?_;refine kU [100, 101, 102, 103, 104, 105] en_bArc hA ?_;refine AL.nil (ib_n (th_n (AC.region ?_)));refine zA ?_;refine zm ?_;refine AL.nil (th_n ?_);exact ⟨k + 1, by omega, by omega, zw [(200, 200), (100, 100), (101, 600), (102, 102), (103, 601), (104, 602), (105, 603)] hC (b := by rw [← hbn]; repeat (first | exact True.intro | refine And.intro ?_ ?_ | exact DLead.same | exact rfl | refine ⟨_, _, rfl, rfl, ?_⟩ | refine ⟨_, rfl, ?_⟩ | refine ⟨_, _, rfl, ?_, ?_⟩))⟩
 refine AC.exit (th_e (th_e (ib_y (th_n (AC.seq ?_)))));have hkk : k = al.length := by omega
 subst hkk;rw [List.take_length];obtain ⟨bz, hbz⟩ := eqx (arcsF (begS ls) al);rw [← hbz] at hbs ⊢;refine AC.region ?_;refine AL.p (by exact mv3 rfl) rfl ?_;refine AL.p (by exact g_nilP rfl) rfl ?_;refine zF ?_;refine AL.p (by exact g_load_ptrN rfl rfl rfl rfl rfl) rfl ?_;refine zs ?_;refine AL.nil (th_n (AC.ret (bq_r ?_)));exact retN [(0, 101), (1, 102), (2, 103)] rfl (by rw [hbs]; repeat (first | exact rfl | exact DLead.same | refine ⟨_, _, rfl, ?_, ?_⟩ | refine ⟨_, rfl, ?_⟩)) (by rw [hbs]; repeat (first | exact True.intro | refine And.intro ?_ ?_ | exact rfl | refine ⟨_, _, rfl, rfl, ?_⟩)) rfl rfl
theorem en_l2Build : Enters Tryz.prog 168 := enters_of Tryz.func168 rfl rfl
def noNet : Net := ⟨0, []⟩
def netOf (N : Net) : Net := if goodN N = true then N else noNet
def shT (d : Int) (t : Tn) : Tn := ⟨mapI t.pre d, mapI t.post d⟩
def unionN (a b : Net) : Net := ⟨a.places + b.places, a.ts ++ b.ts.map (shT a.places)⟩
def unionR (a b : Net) : Net × Bool := if (goodN a && goodN b) = true then (netOf (unionN a b), goodN (unionN a b)) else (noNet, false)
theorem takeM {f : Tn → Tn} {l : List Tn} {k : Nat} (hk : k < l.length) : (l.take (k + 1)).map f = (l.take k).map f ++ [f l[k]] := by
 rw [List.take_add_one, List.getElem?_eq_getElem hk, List.map_append]; rfl
theorem takeM_len {f : Tn → Tn} {l : List Tn} {k : Nat} (hk : k ≤ l.length) : ((l.take k).map f).length = k := by rw [List.length_map, List.length_take]; omega
theorem good_rng {N : Net} (hg : goodN N = true) : ∀ t, t ∈ N.ts → (∀ x, x ∈ t.pre → 0 ≤ x ∧ x ≤ N.places - 1) ∧ (∀ x, x ∈ t.post → 0 ≤ x ∧ x ≤ N.places - 1) := by
 intro x hx;simp only [goodN, Bool.and_eq_true, Bool.not_eq_true', List.any_eq_false, decide_eq_true_eq] at hg;have h1 := hg.2 x hx;simp only [badT, Bool.or_eq_true, decide_eq_true_eq, not_or, Bool.not_eq_true', Bool.not_eq_false] at h1;exact ⟨fun p hp => rising_in h1.1.2 p hp, fun p hp => rising_in h1.2 p hp⟩
theorem good_far {N : Net} (hg : goodN N = true) : ∀ t, t ∈ N.ts → (∀ x, x ∈ t.pre → -1000000 ≤ x ∧ x ≤ 1000000) ∧ (∀ x, x ∈ t.post → -1000000 ≤ x ∧ x ≤ 1000000) := by
 intro t ht;have h := good_rng hg t ht;have hp := good_places hg;exact ⟨fun x hx => by have := h.1 x hx; omega, fun x hx => by have := h.2 x hx; omega⟩
theorem unionN_B {a b : Net} (ha : NetB a) (hb : NetB b) (ga : goodN a = true) (gb : goodN b = true) : NetB (unionN a b) := by
 have h1 := good_places ga;have h2 := good_places gb;refine ⟨by show -1000000 ≤ a.places + b.places ∧ a.places + b.places ≤ 1000000; omega, by show (a.ts ++ b.ts.map (shT a.places)).length ≤ _; rw [List.length_append, List.length_map]; omega, fun t ht => ?_⟩;rcases List.mem_append.1 ht with h | h
 ·exact ha.t t h
 obtain ⟨u, hu, rfl⟩ := List.mem_map.1 h;have := hb.t u hu;exact ⟨by show (mapI _ _).length ≤ _; rw [mapI_len]; exact this.1, by show (mapI _ _).length ≤ _; rw [mapI_len]; exact this.2⟩
set_option maxHeartbeats 4000000 in
theorem l1OwnN_spec (N : Net) (hB : NetB N) : ASpec Tryz.prog 261 [netA N] [] (Fun1 (.agg [aI N.places, .own 0 N.ts.length]) [(0, .arr 249 2 (tsL N.ts))]) := by
 have hl := hB.l;refine ASpec.of Tryz.func261 rfl rfl fun C hC => ?_
 refine AC.seq (AC.region ?_);refine kD ?_;refine kE ?_;refine AL.nil (th_n (AC.seq (AC.region ?_)));refine zf ?_;refine zr ?_;refine AL.p (by exact g_build rfl rfl rfl) rfl ?_;refine kE ?_;refine zs ?_;refine AL.nil (th_n (AC.seq (AC.seq (AC.region ?_))));refine zf ?_;refine zr ?_;refine kH ?_;refine zm ?_;refine AL.nil (th_n (AC.block ?_));refine AC.loop (ι := Nat) (fun k => ⟨30, 128, [(2, .ptr 102 0), (3, .ptr 100 0), (10, .d (vTs N.ts)), (11, aI N.ts.length), (12, aI k)], [(100, some (.cells 171 [aI N.places, .own 101 k])), (101, some (.arr 249 2 (tsL (N.ts.take k)))), (102, some (.cells 171 [aI 0, .d (.val (.slice none 0 0))]))]⟩) (fun k => k ≤ N.ts.length) (fun k => N.ts.length - k) (0) ?_ (Nat.zero_le _) ?_
 ·exact (Weak.nilOwnP 3 1 (e := 249) (sz := 2) rfl rfl rfl rfl rfl).trans (zw [(100, _), (101, _), (102, _)] hC)
 intro k hk;refine AC.seq (AC.region ?_);refine zc ?_;refine AL.nil (th_n (AC.seq ?_));refine AC.condD rfl (fun h0 => ?_) (fun h0 => ?_)
 ·refine AC.skip (th_n (AC.seq (AC.block (AC.seq ?_))));have hk1 : k < N.ts.length := by omega
  have hget := tsL_get hk1;have hl1 := (hB.t _ (List.getElem_mem hk1)).1;have hl2 := (hB.t _ (List.getElem_mem hk1)).2;have htl : (N.ts.take k).length = k := by rw [List.length_take]; omega
  have htk : N.ts.take (k + 1) = N.ts.take k ++ [N.ts[k]] := by rw [List.take_add_one, List.getElem?_eq_getElem hk1]; rfl
  refine AC.region ?_;refine AL.p (by exact g_ia_view rfl rfl rfl rfl rfl (by rfl) (by assumption)) rfl ?_;refine kG ?_;refine kE ?_;refine zs ?_;refine AL.nil (th_n ?_);refine AC.drawn' mixed_ok [[], [0], [], [2], [2,3], [], [5], [2,3,4,5,6], [2,3,4,5,6,7], [2,3,4,5,6,7,8], [0,1,2,3,4,5,6,7,8,9], [0,1,2,3,4,5,6,7,8,9,10], [0,1,2,3,4,5,6,7,8,9,10,11]] (by decide) ?_;refine zd 0 [] 13 (by exact g_fa_ptr rfl rfl rfl rfl rfl) ?_;refine zd 1 [0] 13 (by exact g_load_ptr rfl rfl rfl rfl rfl) ?_;refine zd 2 [] 13 (by exact g_fa_ptr rfl rfl rfl rfl rfl) ?_;refine zd 3 [2] 13 (by exact g_load_ptr rfl rfl rfl rfl rfl) ?_;refine zh 4 [2,3] 13 (by exact h_pure en_l1Own rfl rfl (by repeat (first | exact rfl | exact DLead.same | refine ⟨_, _, rfl, ?_, ?_⟩)) (l1Own_spec _ (by assumption)) rfl) ?_;refine zd 5 [] 13 (by exact g_fa_ptr rfl rfl rfl rfl rfl) ?_;refine zd 6 [5] 13 (by exact g_load_ptr rfl rfl rfl rfl rfl) ?_;refine zh 7 [2,3,4,5,6] 13 (by exact h_pure en_l1Own rfl rfl (by repeat (first | exact rfl | exact DLead.same | refine ⟨_, _, rfl, ?_, ?_⟩)) (l1Own_spec _ (by assumption)) rfl) ?_;refine zd 8 [2,3,4,5,6,7] 13 (by exact g_build rfl rfl rfl) ?_;refine zh 9 [2,3,4,5,6,7,8] 13 (by exact h_litF rfl rfl rfl rfl rfl rfl rfl rfl) ?_;refine zh 10 (List.range 10) 13 (by exact h_appendT (N.ts.take k) [N.ts[k]] (.own rfl rfl (by rw [tsL_len, htl])) (.view rfl) (by simp; omega) (by simp)) ?_;refine zd 11 (List.range 11) 13 (by exact g_fa_ptr rfl rfl rfl rfl rfl) ?_;refine zh 12 (List.range 12) 13 (by exact h_store rfl rfl rfl rfl rfl rfl) ?_;refine zj 13 ?_;refine ib_n (th_n (AC.region ?_));refine zA ?_;refine zm ?_;refine AL.nil (th_n ?_);have hl3 : (N.ts.take k ++ [N.ts[k]]).length = k + 1 := by rw [List.length_append, htl]; rfl
  exact ⟨k + 1, by omega, by omega, zw [(100, _), (101, _), (102, _)] hC (b := by rw [htk, ← hl3]; repeat (first | exact True.intro | refine And.intro ?_ ?_ | exact DLead.same | exact rfl | refine ⟨_, _, rfl, rfl, ?_⟩ | refine ⟨_, rfl, ?_⟩ | refine ⟨_, _, rfl, ?_, ?_⟩))⟩
 refine AC.exit (th_e (th_e (ib_y (th_n (AC.seq (AC.region ?_))))));refine AL.p (by exact g_load_ptrN rfl rfl rfl rfl rfl) rfl ?_;refine zs ?_;refine AL.nil (th_n (AC.ret (bq_r ?_)));have hkk : k = N.ts.length := by omega
 subst hkk;exact retN [(0, _)] rfl (by repeat (first | exact DLead.same | exact rfl | refine ⟨_, rfl, ?_⟩ | refine ⟨_, _, rfl, ?_, ?_⟩)) (by rw [List.take_length]; repeat (first | exact True.intro | refine And.intro ?_ ?_ | exact rfl | refine ⟨_, _, rfl, rfl, ?_⟩)) rfl rfl
theorem en_l1OwnN : Enters Tryz.prog 261 := enters_of Tryz.func261 rfl rfl
theorem unionR_no {a b : Net} (h : (goodN a && goodN b) = false) : unionR a b = (noNet, false) := by unfold unionR; rw [h]; rfl
theorem unionR_yes {a b : Net} (h : (goodN a && goodN b) = true) : unionR a b = (netOf (unionN a b), goodN (unionN a b)) := by unfold unionR; rw [h]; rfl
set_option maxHeartbeats 4000000 in
theorem sUnion_spec (a b : Net) (ha : NetB a) (hb : NetB b) : ASpec Tryz.prog 242 [netA a, netA b] [] (Pure1 (.tup [netA (unionR a b).1, aT (unionR a b).2])) := by
 have hap := ha.p;have hbp := hb.p;have hl1 := ha.l;have hl2 := hb.l;refine ASpec.of Tryz.func242 rfl rfl fun C hC => ?_
 refine AC.seq (AC.region ?_);refine kD ?_;refine kD ?_;refine kE ?_;refine za ?_;refine AL.nil (th_n (AC.seq (AC.seq (AC.region ?_))));refine kG ?_;refine AL.q (by exact h_pure en_l1Good rfl rfl (by repeat (first | exact rfl | exact DLead.same | refine ⟨_, _, rfl, ?_, ?_⟩ | refine ⟨_, rfl, ?_⟩)) (l1Good_spec _ (by assumption)) rfl) rfl ?_;refine kC ?_;refine zm ?_;refine AL.caseGB rfl rfl (fun h0 => ?_) (fun h0 => ?_)
 ·refine zn ?_;refine zn ?_;refine zn ?_;refine zQ ?_;refine AL.nil (th_n ?_);refine AC.condT rfl ?_;refine AC.seq (AC.region ?_);refine AL.p (by exact g_build rfl rfl rfl) rfl ?_;refine zs ?_;refine za ?_;refine AL.nil (th_n (AC.ret (th_r (bq_r ?_))))
  (have h : (goodN a && goodN b) = false := (by rw [(Bool.not_eq_true' _).mp h0]; rfl); rw [unionR_no h]; exact ret0 rfl (by repeat (first | exact DLead.same | exact DLead.nil | exact rfl | refine ⟨_, rfl, ?_⟩ | refine ⟨_, _, rfl, ?_, ?_⟩)))
 refine zy ?_;refine kG ?_;refine zy ?_;refine AL.q (by exact h_pure en_l1Good rfl rfl (by repeat (first | exact rfl | exact DLead.same | refine ⟨_, _, rfl, ?_, ?_⟩ | refine ⟨_, rfl, ?_⟩)) (l1Good_spec _ (by assumption)) rfl) rfl ?_;refine zy ?_;refine kC ?_;refine zP ?_;refine AL.nil (th_n ?_);refine AC.condB rfl (fun h1 => ?_) (fun h1 => ?_)
 ·refine AC.seq (AC.region ?_);refine AL.p (by exact g_build rfl rfl rfl) rfl ?_;refine zs ?_;refine za ?_;refine AL.nil (th_n (AC.ret (th_r (bq_r ?_))))
  (have h : (goodN a && goodN b) = false := (by rw [(Bool.not_eq_true' _).mp h1, Bool.and_false]); rw [unionR_no h]; exact ret0 rfl (by repeat (first | exact DLead.same | exact DLead.nil | exact rfl | refine ⟨_, rfl, ?_⟩ | refine ⟨_, _, rfl, ?_, ?_⟩)))
 refine AC.skip (th_n (AC.seq ?_));have h0' : goodN a = true := by simpa using h0
 have h1' : goodN b = true := by simpa using h1
 have hp1 := good_places h0';have hp2 := good_places h1';refine AC.region ?_;refine kG ?_;refine kU [] en_l1OwnN (l1OwnN_spec a ha) ?_;refine kE ?_;refine zs ?_;refine AL.nil (th_n (AC.seq (AC.region ?_)));refine zF ?_;refine zl ?_;refine zf ?_;refine zr ?_;refine zA ?_;refine zF ?_;refine zs ?_;refine AL.nil (th_n (AC.seq (AC.seq (AC.region ?_))));refine zf ?_;refine zr ?_;refine kH ?_;refine zm ?_;refine AL.nil (th_n (AC.block ?_));refine AC.loop (ι := Nat) (fun k => ⟨55, 128, [(2, .d (.ref (netD a))), (4, .ptr 102 0), (6, .ptr 100 0), (27, .d (vTs b.ts)), (28, aI b.ts.length), (29, aI k)], [(100, some (.cells 171 [aI (a.places + b.places), .own 101 (a.ts.length + k)])), (101, some (.arr 249 2 (tsL (a.ts ++ (b.ts.take k).map (shT a.places))))), (102, some (.cells 171 [aI 0, .d (.val (.slice none 0 0))]))]⟩) (fun k => k ≤ b.ts.length) (fun k => b.ts.length - k) (0) ?_ (Nat.zero_le _) ?_
 ·exact zw [(100, _), (101, _), (102, _)] hC (b := by rw [show a.ts ++ (b.ts.take 0).map (shT a.places) = a.ts from List.append_nil _]; repeat (first | exact True.intro | refine And.intro ?_ ?_ | exact DLead.same | exact rfl | refine ⟨_, _, rfl, rfl, ?_⟩ | refine ⟨_, rfl, ?_⟩ | refine ⟨_, _, rfl, ?_, ?_⟩))
 intro k hk;refine AC.seq (AC.region ?_);refine zc ?_;refine AL.nil (th_n (AC.seq ?_));refine AC.condD rfl (fun h2 => ?_) (fun h2 => ?_)
 ·refine AC.skip (th_n (AC.seq (AC.block (AC.seq ?_))));have hk1 : k < b.ts.length := by omega
  have hget := tsL_get hk1;have hl3 := (hb.t _ (List.getElem_mem hk1)).1;have hl4 := (hb.t _ (List.getElem_mem hk1)).2;have hr1 := (good_far h1' _ (List.getElem_mem hk1)).1;have hr2 := (good_far h1' _ (List.getElem_mem hk1)).2;have htl : (a.ts ++ (b.ts.take k).map (shT a.places)).length = a.ts.length + k := by rw [List.length_append, takeM_len hk]
  refine AC.region ?_;refine AL.p (by exact g_ia_view rfl rfl rfl rfl rfl (by rfl) (by assumption)) rfl ?_;refine kG ?_;refine kE ?_;refine zs ?_;refine AL.nil (th_n ?_);refine AC.drawn' mixed_ok [[], [0], [], [2], [], [4], [2,3,4,5], [], [7], [], [9], [2,3,4,5,6,7,8,9,10], [2,3,4,5,6,7,8,9,10,11], [2,3,4,5,6,7,8,9,10,11,12], [0,1,2,3,4,5,6,7,8,9,10,11,12,13], [0,1,2,3,4,5,6,7,8,9,10,11,12,13,14], [0,1,2,3,4,5,6,7,8,9,10,11,12,13,14,15]] (by decide) ?_;refine zd 0 [] 17 (by exact g_fa_ptr rfl rfl rfl rfl rfl) ?_;refine zd 1 [0] 17 (by exact g_load_ptr rfl rfl rfl rfl rfl) ?_;refine zd 2 [] 17 (by exact g_fa_ptr rfl rfl rfl rfl rfl) ?_;refine zd 3 [2] 17 (by exact g_load_ptr rfl rfl rfl rfl rfl) ?_;refine zd 4 [] 17 (by exact g_fa_ref rfl rfl rfl rfl rfl rfl) ?_;refine zd 5 [4] 17 (by exact g_load_ref rfl rfl rfl) ?_;refine zh 6 [2,3,4,5] 17 (by exact h_pure en_l1Shift rfl rfl (by repeat (first | exact rfl | exact DLead.same | refine ⟨_, _, rfl, ?_, ?_⟩)) (l1Shift_spec _ _ (by assumption) (by assumption) (by assumption)) rfl) ?_;refine zd 7 [] 17 (by exact g_fa_ptr rfl rfl rfl rfl rfl) ?_;refine zd 8 [7] 17 (by exact g_load_ptr rfl rfl rfl rfl rfl) ?_;refine zd 9 [] 17 (by exact g_fa_ref rfl rfl rfl rfl rfl rfl) ?_;refine zd 10 [9] 17 (by exact g_load_ref rfl rfl rfl) ?_;refine zh 11 [2,3,4,5,6,7,8,9,10] 17 (by exact h_pure en_l1Shift rfl rfl (by repeat (first | exact rfl | exact DLead.same | refine ⟨_, _, rfl, ?_, ?_⟩)) (l1Shift_spec _ _ (by assumption) (by assumption) (by assumption)) rfl) ?_;refine zd 12 [2,3,4,5,6,7,8,9,10,11] 17 (by exact g_build rfl rfl rfl) ?_;refine zh 13 [2,3,4,5,6,7,8,9,10,11,12] 17 (by exact h_litF rfl rfl rfl rfl rfl rfl rfl rfl) ?_;refine zh 14 (List.range 14) 17 (by exact h_appendT (a.ts ++ (b.ts.take k).map (shT a.places)) [shT a.places b.ts[k]] (.own rfl rfl (by rw [tsL_len, htl])) (.view rfl) (by rw [List.length_append, htl]; show a.ts.length + k + 1 ≤ _; omega) (by simp)) ?_;refine zd 15 (List.range 15) 17 (by exact g_fa_ptr rfl rfl rfl rfl rfl) ?_;refine zh 16 (List.range 16) 17 (by exact h_store rfl rfl rfl rfl rfl rfl) ?_;refine zj 17 ?_;refine ib_n (th_n (AC.region ?_));refine zA ?_;refine zm ?_;refine AL.nil (th_n ?_);have hl5 : (a.ts ++ (b.ts.take k).map (shT a.places) ++ [shT a.places b.ts[k]]).length = a.ts.length + (k + 1) := by rw [List.length_append, htl]; rfl
  have e6 : a.ts ++ (b.ts.take (k + 1)).map (shT a.places) = a.ts ++ (b.ts.take k).map (shT a.places) ++ [shT a.places b.ts[k]] := by rw [takeM hk1, List.append_assoc]
  exact ⟨k + 1, by omega, by omega, zw [(100, _), (101, _), (102, _)] hC (b := by rw [e6, ← hl5]; repeat (first | exact True.intro | refine And.intro ?_ ?_ | exact DLead.same | exact rfl | refine ⟨_, _, rfl, rfl, ?_⟩ | refine ⟨_, rfl, ?_⟩ | refine ⟨_, _, rfl, ?_, ?_⟩))⟩
 refine AC.exit (th_e (th_e (ib_y (th_n (AC.seq (AC.seq ?_))))));have hkk : k = b.ts.length := by omega
 subst hkk;rw [List.take_length];refine AC.weak (Weak.freezeP (els' := tsL (unionN a b).ts) 6 1 rfl rfl rfl rfl (by rw [tsL_len, List.length_append, List.length_map]; exact Nat.le_refl _) (List.take_of_length_le (by rw [tsL_len, List.length_append, List.length_map]; exact Nat.le_refl _)) rfl) ?_;have hG := l1Good_spec (unionN a b) (unionN_B ha hb h0' h1');have hRR := unionR_yes (a := a) (b := b) (by rw [h0', h1']; rfl);refine AC.region ?_;refine AL.p (by exact g_load_ptrN rfl rfl rfl rfl rfl) rfl ?_;refine kV en_l1Good hG ?_;refine kC ?_;refine AL.nil (th_n ?_);refine AC.condB rfl (fun h3 => ?_) (fun h3 => ?_)
 ·refine AC.seq (AC.region ?_);refine AL.p (by exact g_build rfl rfl rfl) rfl ?_;refine zs ?_;refine za ?_;refine AL.nil (th_n (AC.ret (th_r (bq_r ?_))));have h : goodN (unionN a b) = false := by simpa using h3
  rw [hRR, netOf, h, if_neg Bool.false_ne_true];exact ret0 rfl (by repeat (first | exact DLead.same | exact DLead.nil | exact rfl | refine ⟨_, rfl, ?_⟩ | refine ⟨_, _, rfl, ?_, ?_⟩))
 refine AC.skip (th_n (AC.seq (AC.region ?_)));refine AL.p (by exact g_load_ptrN rfl rfl rfl rfl rfl) rfl ?_;refine zs ?_;refine za ?_;refine AL.nil (th_n (AC.ret (bq_r ?_)));have h : goodN (unionN a b) = true := by simpa using h3
 rw [hRR, netOf, h, if_pos rfl];exact ret0 rfl (by repeat (first | exact DLead.same | exact rfl | refine ⟨_, rfl, ?_⟩ | refine ⟨_, _, rfl, ?_, ?_⟩))
theorem en_sUnion : Enters Tryz.prog 242 := enters_of Tryz.func242 rfl rfl
def shLab (n : Nat) (x : Lab) : Lab := if 0 ≤ x.sig then ⟨x.sig + n, x.up⟩ else x
def zS : Stg := ⟨⟨0, []⟩, [], [], []⟩
def unionT (a b : Stg) : Stg := ⟨(unionR a.net b.net).1, a.sigs ++ b.sigs, a.labs ++ b.labs.map (shLab a.sigs.length), a.start ++ b.start⟩
def unionS (a b : Stg) : Stg × Bool := if ((unionR a.net b.net).2 && (goodS a && goodS b)) && goodS (unionT a b) then (unionT a b, true) else (zS, false)
structure StgB (s : Stg) : Prop where
 n : NetB s.net
 sg : s.sigs.length ≤ 100000
 sn : ∀ t, t ∈ s.sigs → t.name.length ≤ 100000
 l : s.labs.length ≤ 100000
 lb : ∀ x, x ∈ s.labs → -1000000 ≤ x.sig ∧ x.sig ≤ 1000000
 st : s.start.length ≤ 100000
theorem StgB.L {s : Stg} (h : StgB s) : StgL s := ⟨h.n.L, by have := h.sg; omega, fun t ht => by have := h.sn t ht; omega, by have := h.l; omega, by have := h.st; omega⟩
theorem takeLab {f : Lab → Lab} {l : List Lab} {k : Nat} (hk : k < l.length) : (l.take (k + 1)).map f = (l.take k).map f ++ [f l[k]] := by
 rw [List.take_add_one, List.getElem?_eq_getElem hk, List.map_append]; rfl
abbrev stgQ (s : Stg) (j k : Nat) : AV := .agg [aI s.net.places, .d (vTs s.net.ts), .own j s.sigs.length, .own k s.labs.length, aS (bstr s.start)]
set_option maxHeartbeats 8000000 in
theorem sUnionSTGs_own (a b : Stg) (ha : StgB a) (hb : StgB b) (hT : NetL (unionR a.net b.net).1) (hok : (unionS a b).2 = true) : ASpec Tryz.prog 208 [stgA a, stgA b] [] (Fun1 (.tup [stgQ (unionT a b) 0 1, aT true]) [(0, .arr 123 2 (sigsL (unionT a b).sigs)), (1, .arr 64 2 (labsL (unionT a b).labs))]) := by
 have hU := sUnion_spec a.net b.net ha.n hb.n;have hGa := l2Good_spec a ha.L;have hGb := l2Good_spec b hb.L
 have hcond : (((unionR a.net b.net).2 && (goodS a && goodS b)) && goodS (unionT a b)) = true := by
  unfold unionS at hok
  split at hok
  ·assumption
  cases hok
 simp only [Bool.and_eq_true] at hcond;obtain ⟨⟨hc1, hc2, hc3⟩, hc4⟩ := hcond;rw [hc2] at hGa;rw [hc3] at hGb;rw [hc1] at hU;have hsa := ha.sg;have hsb := hb.sg;have hla := ha.l;have hlb := hb.l;have hta := ha.st;have htb := hb.st
 have hGt := l2Good_spec (unionT a b) ⟨hT, by show (a.sigs ++ b.sigs).length ≤ _; rw [List.length_append]; omega, (fun t ht => by
  rcases List.mem_append.1 ht with h | h
  ·have := ha.sn t h; omega
  have := hb.sn t h; omega), by show (a.labs ++ b.labs.map _).length ≤ _; rw [List.length_append, List.length_map]; omega, by show (a.start ++ b.start).length ≤ _; rw [List.length_append]; omega⟩
 rw [hc4] at hGt;have hU1 : unionT a b = ⟨(unionR a.net b.net).1, a.sigs ++ b.sigs, a.labs ++ b.labs.map (shLab a.sigs.length), a.start ++ b.start⟩ := rfl;obtain ⟨U, hUU⟩ := eqx ((unionR a.net b.net).1);rw [← hUU] at hU hU1;obtain ⟨T, hTT⟩ := eqx (unionT a b);rw [← hTT] at hGt hU1 ⊢;clear hTT hUU hT hok;refine ASpec.of Tryz.func208 rfl rfl fun C hC => ?_
 refine AC.seq (AC.region ?_);refine kD ?_;refine kD ?_;refine kE ?_;refine za ?_;refine AL.nil (th_n (AC.seq (AC.region ?_)));refine zf ?_;refine kG ?_;refine zf ?_;refine kG ?_;refine kV en_sUnion hU ?_;refine AL.p (by exact mv5 rfl) rfl ?_;refine AL.p (by exact g_extract (r := .agg _) rfl rfl) rfl ?_;refine AL.p (by exact g_extract (r := .d _) rfl rfl) rfl ?_;refine kE ?_;refine zs ?_;refine za ?_;refine AL.nil (th_n (AC.seq (AC.seq (AC.region ?_))));refine zm ?_;refine kC ?_;refine zm ?_;refine AL.caseGB rfl rfl (fun h0 => ?_) (fun h0 => ?_)
 ·refine zn ?_;refine zn ?_;refine zn ?_;refine zQ ?_;refine zm ?_;refine zn ?_;refine zn ?_;refine zn ?_;refine zQ ?_;refine AL.nil (th_n ?_);refine AC.condT rfl ?_;refine AC.seq ?_;exfalso; simp_all
 refine zy ?_;refine kG ?_;refine zy ?_;refine kV en_l2Good hGa ?_;refine zy ?_;refine kC ?_;refine zP ?_;refine zm ?_;refine AL.caseGB rfl rfl (fun h1 => ?_) (fun h1 => ?_)
 ·refine zn ?_;refine zn ?_;refine zn ?_;refine zQ ?_;refine AL.nil (th_n ?_);refine AC.condT rfl ?_;refine AC.seq ?_;exfalso; simp_all
 refine zy ?_;refine kG ?_;refine zy ?_;refine kV en_l2Good hGb ?_;refine zy ?_;refine kC ?_;refine zP ?_;refine AL.nil (th_n ?_);refine AC.condB rfl (fun h2 => ?_) (fun h2 => ?_)
 ·refine AC.seq ?_;exfalso; simp_all
 refine AC.skip (th_n (AC.seq ?_));refine AC.drawn' mixed_ok [[], [], [], [2], [1,2,3], [], [5], [1,2,3,4,5,6], [], [], [9], [1,2,3,4,5,6,7,8,9,10], [], [12], [], [14], [12,13,14,15], [0,1,2,3,4,5,6,7,8,9,10,11,12,13,14,15,16], [], [0,1,2,3,4,5,6,7,8,9,10,11,12,13,14,15,16,17,18]] (by decide) ?_;refine zd 0 [] 20 (by exact g_load_ptrN rfl rfl rfl rfl rfl) ?_;refine zh 1 [] 20 (by exact h_lit rfl rfl rfl rfl rfl rfl rfl rfl) ?_;refine zd 2 [] 20 (by exact g_fa_ref rfl rfl rfl rfl rfl rfl) ?_;refine zd 3 [2] 20 (by exact g_load_ref rfl rfl rfl) ?_;refine zh 4 [1,2,3] 20 (by exact h_appendSg [] a.sigs (.own rfl rfl rfl) (.view rfl) (by rw [List.nil_append]; omega) (by simp)) ?_;refine zd 5 [] 20 (by exact g_fa_ref rfl rfl rfl rfl rfl rfl) ?_;refine zd 6 [5] 20 (by exact g_load_ref rfl rfl rfl) ?_;refine zh 7 [1,2,3,4,5,6] 20 (by exact h_appendSg a.sigs b.sigs (.own rfl rfl (sigsL_len _).symm) (.view rfl) (by rw [List.length_append]; omega) (by simp)) ?_;refine zh 8 [] 20 (by exact h_lit rfl rfl rfl rfl rfl rfl rfl rfl) ?_;refine zd 9 [] 20 (by exact g_fa_ref rfl rfl rfl rfl rfl rfl) ?_;refine zd 10 [9] 20 (by exact g_load_ref rfl rfl rfl) ?_;refine zh 11 [1,2,3,4,5,6,7,8,9,10] 20 (by exact h_appendLx [] a.labs (.own rfl rfl rfl) (.view rfl) (by rw [List.nil_append]; omega) (by simp)) ?_;refine zd 12 [] 20 (by exact g_fa_ref rfl rfl rfl rfl rfl rfl) ?_;refine zd 13 [12] 20 (by exact g_load_ref rfl rfl rfl) ?_;refine zd 14 [] 20 (by exact g_fa_ref rfl rfl rfl rfl rfl rfl) ?_;refine zd 15 [14] 20 (by exact g_load_ref rfl rfl rfl) ?_;refine zd 16 [12,13,14,15] 20 (by exact g_saddB (a := a.start) (b := b.start) rfl rfl (by omega)) ?_;refine zd 17 (List.range 17) 20 (by exact g_build rfl rfl rfl) ?_;refine zh 18 [] 20 (by exact h_alloc rfl) ?_;refine zh 19 (List.range 19) 20 (by exact h_store rfl rfl rfl rfl rfl rfl) ?_;refine zj 20 ?_;refine th_n (AC.seq (AC.seq (AC.region ?_)));refine zf ?_;refine zr ?_;refine kH ?_;refine zm ?_;refine AL.nil (th_n (AC.block ?_));refine AC.loop (ι := Nat) (fun k => ⟨79, 400, [(2, .d (.ref (stgD a))), (4, .ptr 201 0), (8, .ptr 200 0), (51, .d (vLabs b.labs)), (52, aI b.labs.length), (53, aI k)], [(200, some (.cells 173 [aI U.places, .d (vTs U.ts), .own 101 (a.sigs ++ b.sigs).length, .own 102 (a.labs ++ (b.labs.take k).map (shLab a.sigs.length)).length, aS (bstr (a.start ++ b.start))])), (101, some (.arr 123 2 (sigsL (a.sigs ++ b.sigs)))), (102, some (.arr 64 2 (labsL (a.labs ++ (b.labs.take k).map (shLab a.sigs.length))))), (201, some (.cells 173 zStg))]⟩) (fun k => k ≤ b.labs.length) (fun k => b.labs.length - k) (0) ?_ (Nat.zero_le _) ?_
 ·exact zw [(200, _), (101, _), (102, _), (201, _)] hC (b := by rw [List.take_zero, List.map_nil, List.append_nil a.labs]; repeat (first | exact True.intro | refine And.intro ?_ ?_ | exact DLead.same | exact rfl | refine ⟨_, _, rfl, rfl, ?_⟩ | refine ⟨_, rfl, ?_⟩ | refine ⟨_, _, rfl, ?_, ?_⟩))
 intro k hk;refine AC.seq (AC.region ?_);refine zc ?_;refine AL.nil (th_n (AC.seq ?_));refine AC.condD rfl (fun h3 => ?_) (fun h3 => ?_)
 ·refine AC.skip (th_n (AC.seq (AC.block (AC.seq ?_))));have hk1 : k < b.labs.length := by omega
  have hget := labsL_get hk1;have htk := takeLab (f := shLab a.sigs.length) hk1;have hbd := hb.lb _ (List.getElem_mem hk1);have hacc : (a.labs ++ (b.labs.take k).map (shLab a.sigs.length)).length ≤ 300000 := by rw [List.length_append, List.length_map, List.length_take]; omega
  obtain ⟨acc, hac⟩ := eqx (a.labs ++ (b.labs.take k).map (shLab a.sigs.length));have hnext : a.labs ++ (b.labs.take (k + 1)).map (shLab a.sigs.length) = acc ++ [shLab a.sigs.length b.labs[k]] := by rw [htk, ← List.append_assoc, ← hac]
  rw [← hac] at hacc ⊢;have hsh : shLab a.sigs.length b.labs[k] = if 0 ≤ b.labs[k].sig then ⟨b.labs[k].sig + a.sigs.length, b.labs[k].up⟩ else b.labs[k] := rfl
  obtain ⟨x, hx⟩ := eqx (b.labs[k]);rw [← hx] at hget hbd hsh hnext;refine AC.region ?_;refine AL.p (by exact g_ia_view rfl rfl rfl rfl rfl (by rfl) (by assumption)) rfl ?_;refine kG ?_;refine kE ?_;refine zs ?_;refine AL.nil (th_n ?_);refine AC.cut (fun (_ : Unit) => ⟨79, 600, [(2, .d (.ref (stgD a))), (4, .ptr 201 0), (8, .ptr 200 0), (10, .ptr 202 0), (51, .d (vLabs b.labs)), (52, aI b.labs.length), (53, aI k)], [(200, some (.cells 173 [aI U.places, .d (vTs U.ts), .own 101 (a.sigs ++ b.sigs).length, .own 102 acc.length, aS (bstr (a.start ++ b.start))])), (101, some (.arr 123 2 (sigsL (a.sigs ++ b.sigs)))), (102, some (.arr 64 2 (labsL acc))), (201, some (.cells 173 zStg)), (202, some (.cells 64 [aI (shLab a.sigs.length x).sig, aT (shLab a.sigs.length x).up]))]⟩) (fun _ => True) ?_ ?_
  ·refine AC.seq (AC.region ?_);refine zF ?_;refine zl ?_;refine zc ?_;refine AL.nil (th_n ?_);refine AC.condD rfl (fun h4 => ?_) (fun h4 => ?_)
   ·refine AC.region ?_;refine zF ?_;refine zl ?_;refine zf ?_;refine zr ?_;refine kI a.sigs.length (sigsL_len _) ?_;refine zA ?_;refine zF ?_;refine zs ?_;refine AL.nil (th_n ?_);have e := hsh.trans (if_pos h4);exact ⟨(), trivial, zw [(200, 200), (101, 101), (102, 102), (201, 201), (202, 400)] hC (b := by rw [e]; repeat (first | exact True.intro | refine And.intro ?_ ?_ | exact DLead.same | exact rfl | refine ⟨_, _, rfl, rfl, ?_⟩ | refine ⟨_, rfl, ?_⟩ | refine ⟨_, _, rfl, ?_, ?_⟩))⟩
   refine AC.skip (th_n ?_);have e := hsh.trans (if_neg h4);exact ⟨(), trivial, zw [(200, 200), (101, 101), (102, 102), (201, 201), (202, 400)] hC (b := by rw [e]; repeat (first | exact True.intro | refine And.intro ?_ ?_ | exact DLead.same | exact rfl | refine ⟨_, _, rfl, rfl, ?_⟩ | refine ⟨_, rfl, ?_⟩ | refine ⟨_, _, rfl, ?_, ?_⟩))⟩
  intro _ _;refine AC.region ?_;refine zF ?_;refine zl ?_;refine AL.p (by exact g_load_ptrN rfl rfl rfl rfl rfl) rfl ?_;refine AL.q (by exact h_litF rfl rfl rfl rfl rfl rfl rfl rfl) rfl ?_;refine AL.q (by exact h_appendLx acc [shLab a.sigs.length x] (.own rfl rfl (labsL_len _).symm) (.view rfl) (by rw [List.length_append]; simp only [List.length_cons, List.length_nil]; omega) (by simp)) rfl ?_;refine zF ?_;refine zs ?_;refine AL.nil (ib_n (th_n (AC.region ?_)));refine zA ?_;refine zm ?_;refine AL.nil (th_n ?_);exact ⟨k + 1, by omega, by omega, zw [(200, 200), (101, 101), (102, _), (201, 201)] hC (b := by rw [hnext]; repeat (first | exact True.intro | refine And.intro ?_ ?_ | exact DLead.same | exact rfl | refine ⟨_, _, rfl, rfl, ?_⟩ | refine ⟨_, rfl, ?_⟩ | refine ⟨_, _, rfl, ?_, ?_⟩))⟩
 refine AC.exit (th_e (th_e (ib_y (th_n (AC.seq (AC.seq ?_))))));have hkk : k = b.labs.length := by omega
 subst hkk;rw [List.take_length];obtain ⟨t1, t2, t3, t4⟩ : T.net = U ∧ T.sigs = a.sigs ++ b.sigs ∧ T.labs = a.labs ++ b.labs.map (shLab a.sigs.length) ∧ T.start = a.start ++ b.start := by rw [hU1]; exact ⟨rfl, rfl, rfl, rfl⟩
 rw [← t1, ← t2, ← t3, ← t4];refine AC.region ?_;refine AL.p (by exact g_load_ptrN rfl rfl rfl rfl rfl) rfl ?_;refine AL.q (by exact h_borrow [101, 102] en_l2Good rfl rfl hGt (.cons (.aggs (ds := stgD T) (.cons .d (.cons .d (.cons (.own (id := 101) rfl rfl (ownl _ _) (ownt _ _)) (.cons (.own (id := 102) rfl rfl (ownl _ _) (ownt _ _)) (.cons .d .nil)))))) .nil) rfl) rfl ?_;refine kC ?_;refine AL.nil (th_n ?_);refine AC.condB rfl (fun h4 => ?_) (fun h4 => ?_)
 ·refine AC.seq ?_;exact absurd ‹(!true) = true› (by decide)
 refine AC.skip (th_n (AC.seq (AC.region ?_)));refine AL.p (by exact g_load_ptrN rfl rfl rfl rfl rfl) rfl ?_;refine zs ?_;refine za ?_;refine AL.nil (th_n (AC.ret (bq_r ?_)));exact retN [(0, 101), (1, 102)] rfl (by repeat (first | exact rfl | exact DLead.same | refine ⟨_, _, rfl, ?_, ?_⟩ | refine ⟨_, rfl, ?_⟩)) (by repeat (first | exact True.intro | refine And.intro ?_ ?_ | exact rfl | refine ⟨_, _, rfl, rfl, ?_⟩)) rfl rfl
theorem en_sUnionSTGs : Enters Tryz.prog 208 := enters_of Tryz.func208 rfl rfl
theorem goodS_sigs {s : Stg} (h : goodS s = true) : (1 ≤ s.sigs.length ∧ s.sigs.length ≤ 8) ∧ (∀ x, x ∈ s.sigs → nameB x.name = true) ∧ goodN s.net = true ∧ s.labs.length = s.net.ts.length := by
 simp only [goodS, Bool.and_eq_true, decide_eq_true_eq] at h;obtain ⟨⟨h1, h2⟩, h3, h4, h5⟩ := h;unfold sigsB at h3;rw [Bool.and_eq_true] at h3;have h6 := inI_iff.1 h3.2;refine ⟨by omega, fun x hx => ?_, h1, by omega⟩;obtain ⟨k, hk, rfl⟩ := List.getElem_of_mem hx;have := allK_iff.1 h3.1 k hk;unfold sigK at this;rw [Bool.and_eq_true, sAt_nat hk] at this;exact this.1
section
variable {P : Program} [PT P] {C : Ctx} {s : ASt}
theorem Weak.freezeA {i id k n e sz : Nat} {cs : List AV} {els els' : List (List DV)} (hs : s.get i = .agg cs) (hk : cs[k]? = some (.own id n)) (hc : s.chunk id = some (.arr e sz els)) (hn : n ≤ els.length) (he : els.take n = els') : Weak C s { n := s.n, nx := s.nx, sl := (i, .agg (cs.set k (.d (.view e sz els')))) :: s.sl, ch := (id, none) :: s.ch } := by
 subst he;refine ⟨?_⟩;rintro a w ⟨m, hR⟩
 have hch : ∀ j c, (getL j ((id, none) :: s.ch)).getD none = some c → j ≠ id ∧ s.chunk j = some c := by
  intro j c h;rw [getL_cons] at h
  split at h
  ·simp at h
  rename_i e; exact ⟨e, h⟩
 have hF : ∀ q, Fz C m s w q → Fz C m { n := s.n, nx := s.nx, sl := (i, .agg (cs.set k (.d (.view e sz (els.take n))))) :: s.sl, ch := (id, none) :: s.ch } w q := fun q hq => ⟨hq.1, hq.2.1, fun j c p h1 h2 => hq.2.2 j c p (hch j c h1).2 h2⟩
 obtain ⟨q, hq, hCq, hloc⟩ := hR.ch id _ hc
 have hFb : ∀ b, q.1 = some b → Fz C m { n := s.n, nx := s.nx, sl := (i, .agg (cs.set k (.d (.view e sz (els.take n))))) :: s.sl, ch := (id, none) :: s.ch } w b := by
  intro b hb;refine ⟨.inr (hloc b (.inl hb)), hCq.lt (.inl hb), fun j c p h1 h2 h3 => ?_⟩;obtain ⟨hne, h4⟩ := hch j c h1;exact hne (hR.inj j id c _ p q h4 hc h2 hq b h3 (.inl hb))
 refine ⟨m, hR.fr, hR.fin, hR.sz, fun j => ?_, fun j c h1 => ?_, fun j j' c c' p p' h1 h2 hp hp' b hb hb' => hR.inj j j' c c' p p' (hch j c h1).2 (hch j' c' h2).2 hp hp' b hb hb', hR.un, hR.defers, hR.m0, hR.m0k⟩
 ·show ARep _ _ _ ((getL j ((i, .agg (cs.set k (.d (.view e sz (els.take n))))) :: s.sl)).getD .dead) _;rw [getL_cons]
  by_cases hj : j = i
  ·subst hj;rw [if_pos rfl];have hv := hR.sl j;rw [hs] at hv;generalize a.tmps.getD j undef = v at hv;simp only [Option.getD_some];cases hv with
   | agg g1 g2 g3 =>
    refine .agg (by rw [List.length_set]; exact g1) (fun i' c hc' => ?_) g3
    by_cases hik : k = i'
    ·subst hik;rw [List.getElem?_set_self (List.getElem?_eq_some_iff.1 hk).1] at hc';simp only [Option.some.injEq] at hc';subst hc';exact .d (own_view (g2 k _ hk) hq (hR.chunkAt hc hq) hn hF hFb)
    rw [List.getElem?_set_ne hik] at hc';exact (g2 i' c hc').turn (MLe.refl m) (fun k hk _ => ⟨hF k hk, rfl⟩)
  rw [if_neg hj];exact (hR.sl j).turn (MLe.refl m) (fun k hk _ => ⟨hF k hk, rfl⟩)
 obtain ⟨hne, h4⟩ := hch j c h1;obtain ⟨p, hp, hr, hl⟩ := hR.ch j c h4;exact ⟨p, hp, hr.turn (MLe.refl m) (fun k hk _ => ⟨hF k hk, rfl⟩) (fun _ _ => rfl), hl⟩
theorem Weak.freezeA3 (i : Nat) {id1 id2 id3 n1 n2 n3 e1 e2 e3 z1 z2 z3 : Nat} {x y : AV} {els1 els2 els3 els1' els2' els3' : List (List DV)} (hs : s.get i = .agg [x, .own id1 n1, .own id2 n2, .own id3 n3, y]) (hc1 : s.chunk id1 = some (.arr e1 z1 els1)) (hc2 : s.chunk id2 = some (.arr e2 z2 els2)) (hc3 : s.chunk id3 = some (.arr e3 z3 els3))
  (h12 : Nat.beq id2 id1 = false) (h13 : Nat.beq id3 id1 = false) (h23 : Nat.beq id3 id2 = false) (hn1 : n1 ≤ els1.length) (hn2 : n2 ≤ els2.length) (hn3 : n3 ≤ els3.length) (he1 : els1.take n1 = els1') (he2 : els2.take n2 = els2') (he3 : els3.take n3 = els3') :
  Weak C s { n := s.n, nx := s.nx, sl := (i, .agg [x, .d (.view e1 z1 els1'), .d (.view e2 z2 els2'), .d (.view e3 z3 els3'), y]) :: s.sl, ch := (id3, none) :: (id2, none) :: (id1, none) :: s.ch } := by
 have a1 := Weak.freezeA (C := C) (k := 1) hs rfl hc1 hn1 he1;have g : ∀ (z : AV) (l : List (Nat × AV)) (c : List (Nat × Option Chunk)), ({ n := s.n, nx := s.nx, sl := (i, z) :: l, ch := c } : ASt).get i = z := fun z l c => by show (getL i ((i, z) :: l)).getD .dead = z; rw [getL_cons, if_pos rfl]; rfl
 have k2 : ∀ (l : List (Nat × AV)), ({ n := s.n, nx := s.nx, sl := l, ch := (id1, none) :: s.ch } : ASt).chunk id2 = some (.arr e2 z2 els2) := fun l => by show (getL id2 ((id1, none) :: s.ch)).getD none = _; rw [getL_cons, if_neg (Nat.ne_of_beq_eq_false h12)]; exact hc2
 have k3 : ∀ (l : List (Nat × AV)), ({ n := s.n, nx := s.nx, sl := l, ch := (id2, none) :: (id1, none) :: s.ch } : ASt).chunk id3 = some (.arr e3 z3 els3) := fun l => by show (getL id3 ((id2, none) :: (id1, none) :: s.ch)).getD none = _; rw [getL_cons, if_neg (Nat.ne_of_beq_eq_false h23), getL_cons, if_neg (Nat.ne_of_beq_eq_false h13)]; exact hc3
 have a2 := Weak.freezeA (C := C) (k := 2) (cs := [x, .d (.view e1 z1 els1'), .own id2 n2, .own id3 n3, y]) (g _ s.sl ((id1, none) :: s.ch)) rfl (k2 _) hn2 he2;have a3 := Weak.freezeA (C := C) (k := 3) (cs := [x, .d (.view e1 z1 els1'), .d (.view e2 z2 els2'), .own id3 n3, y]) (g _ ((i, .agg [x, .d (.view e1 z1 els1'), .own id2 n2, .own id3 n3, y]) :: s.sl) ((id2, none) :: (id1, none) :: s.ch)) rfl (k3 _) hn3 he3;refine ((a1.trans a2).trans a3).trans ⟨fun a w h => h.weak rfl (Nat.le_refl _) (fun j => .inr ?_) (fun j c h => h)⟩;show (getL j (_ :: _)).getD AV.dead = (getL j (_ :: _ :: _ :: _)).getD AV.dead;rw [getL_cons, getL_cons]
 split
 ·rfl
 rename_i hne; rw [getL_cons, if_neg hne, getL_cons, if_neg hne]
end
section
variable {P : Program} [PT P] {s : ASt} {dst : Option Nat} {ty : Nat} {pos : String} {af : Array Edge} {gd : Option (Nat × Bool)} {x y : Operand} {xt yt : Nat}
theorem g_neBr {a : Bool} {n bt : Nat} {zs : List ZK} (ht : PT.ty P xt = some ⟨.bool, n, bt, zs⟩) (hx : s.ev x = aT a) (hy : s.ev y = aT a) : GOp P [] s ⟨dst, .binOp .neq xt x y yt, ty, pos, af, gd⟩ (aT false) := by
 have h := g_neB (P := P) (dst := dst) (ty := ty) (pos := pos) (af := af) (gd := gd) (yt := yt) ht hx hy
 rwa [beq_self_eq_true] at h
theorem g_neIr {k : IntKind} {a b : Int} (hx : s.ev x = .d (.val (.int k a))) (hy : s.ev y = .d (.val (.int k b))) (h : a = b) : GOp P [] s ⟨dst, .binOp .neq xt x y yt, ty, pos, af, gd⟩ (aT false) := g_cmp hx hy (by show some (!decide (a = b)) = _; rw [decide_eq_true h]; rfl)
end
theorem run_zero {P : Program} {w : World} {t : TypeId} {z : Value} (h : (P.info? t).bind (·.zero) = some z) : (zeroValue t).run P w = .ok z w := by
 cases hi : P.info? t with
 | none => simp [hi] at h
 | some i => simp [hi] at h; simp [zeroValue, typeInfo, hi, h]
section
variable {P : Program} [PT P] {s : ASt} {dst : Option Nat} {ty : Nat} {pos : String} {af : Array Edge} {gd : Option (Nat × Bool)} {x y z : Operand} {f t : Nat}
end
structure Mv where
 from_ : Int
 by_ : Int
 to_ : Int
abbrev mvD (d : Mv) : List DV := [dI d.from_, dI d.by_, dI d.to_]
abbrev mvL (l : List Mv) : List (List DV) := l.map mvD
abbrev vMvs (l : List Mv) : DV := .view 212 3 (mvL l)
theorem mvL_len (l : List Mv) : (mvL l).length = l.length := List.length_map _
theorem mvL_get {l : List Mv} {k : Nat} (h : k < l.length) : (mvL l)[k]? = some [dI l[k].from_, dI l[k].by_, dI l[k].to_] := by rw [List.getElem?_map, List.getElem?_eq_getElem h]; rfl
theorem h_appendMv (acc new : List Mv) {s : ASt} {dst : Option Nat} {ty : Nat} {pos : String} {af : Array Edge} {gd : Option (Nat × Bool)} {x y : Operand} {f : Nat} {ids ids2 : List Nat} {gone : List (Nat × Option Chunk)}
  (hto : AppTo s x 212 3 (mvL acc) ids gone) (harg : AppArg s y 3 (mvL new) ids2) (h : (acc ++ new).length ≤ 100000000) (hnew : gone = [] → 0 < new.length) :
  NOp Tryz.prog (ids ++ ids2) s ⟨dst, .call { callee := .builtin .append, args := #[x, y], argTypes := #[204, 204] }, ty, pos, af, gd⟩ f ⟨.own f (acc ++ new).length, (f, some (.arr 212 3 (mvL (acc ++ new)))) :: gone⟩ := by
 have := h_append (P := Tryz.prog) (s := s) (dst := dst) (ty := ty) (pos := pos) (af := af) (gd := gd) (x := x) (y := y) (f := f) (t := 204) (tx := 204) (k := (acc ++ new).length) rfl rfl rfl rfl rfl rfl hto harg (by simp) (by omega) (by show (acc ++ new).length * 24 ≤ _; omega) (fun h => by rw [mvL_len]; exact hnew h)
 rwa [← List.map_append] at this
abbrev tsX (l : List (List UInt8)) : List (List DV) := l.map (fun s => [dS (bstr s)])
theorem tsX_len (l : List (List UInt8)) : (tsX l).length = l.length := List.length_map _
theorem tsX_get {l : List (List UInt8)} {k : Nat} (h : k < l.length) : (tsX l)[k]? = some [dS (bstr l[k])] := by rw [List.getElem?_map, List.getElem?_eq_getElem h]; rfl
theorem h_appendX (acc new : List (List UInt8)) {s : ASt} {dst : Option Nat} {ty : Nat} {pos : String} {af : Array Edge} {gd : Option (Nat × Bool)} {x y : Operand} {f : Nat} {ids ids2 : List Nat} {gone : List (Nat × Option Chunk)}
  (hto : AppTo s x 9 1 (tsX acc) ids gone) (harg : AppArg s y 1 (tsX new) ids2) (h : (acc ++ new).length ≤ 100000000) (hnew : gone = [] → 0 < new.length) :
  NOp Tryz.prog (ids ++ ids2) s ⟨dst, .call { callee := .builtin .append, args := #[x, y], argTypes := #[24, 24] }, ty, pos, af, gd⟩ f ⟨.own f (acc ++ new).length, (f, some (.arr 9 1 (tsX (acc ++ new)))) :: gone⟩ := by
 have := h_append (P := Tryz.prog) (s := s) (dst := dst) (ty := ty) (pos := pos) (af := af) (gd := gd) (x := x) (y := y) (f := f) (t := 24) (tx := 24) (k := (acc ++ new).length) rfl rfl rfl rfl rfl rfl hto harg (by simp) (by omega) (by show (acc ++ new).length * 16 ≤ _; omega) (fun h => by rw [tsX_len]; exact hnew h)
 rwa [← List.map_append] at this
structure Ex where
 marks : List (List UInt8)
 moves : List Mv
def posL (m : List UInt8) : List (List UInt8) → Option Nat
 | [] => none
 | a :: l => if m = a then some 0 else (posL m l).map (· + 1)
theorem posL_lt {m : List UInt8} : ∀ {l : List (List UInt8)} {i : Nat}, posL m l = some i → i < l.length
 | [], i, h => by cases h
 | a :: l, i, h => by
  rw [posL] at h
  split at h
  ·cases h; simp
  cases hp : posL m l with
  | none => rw [hp] at h; cases h
  | some j =>
   rw [hp] at h;cases h;have := posL_lt hp;simpa using this
def mkAt (x : Ex) (k : Nat) : List UInt8 := x.marks.getD k []
theorem mkAt_nat {x : Ex} {k : Nat} (h : k < x.marks.length) : mkAt x k = x.marks[k] := by unfold mkAt; rw [List.getD_eq_getElem?_getD, List.getElem?_eq_getElem h]; rfl
def exIn (N : Net) (k : Nat) (m : List UInt8) : List Int → Ex → Ex × Option (Int × Int)
 | [], x => (x, none)
 | t :: ts, x =>
  if (fireI N m t).2 = true then
   match posL (fireI N m t).1 x.marks with
   | some i => exIn N k m ts ⟨x.marks, x.moves ++ [⟨k, t, i⟩]⟩
   | none => if x.marks.length = 300 then (x, some (-1, -1)) else exIn N k m ts ⟨x.marks ++ [(fireI N m t).1], x.moves ++ [⟨k, t, x.marks.length⟩]⟩
  else (x, some ((k : Int), t))
def exOut (N : Net) : Nat → Nat → Ex → Ex × Option (Int × Int)
 | 0, _, x => (x, none)
 | n + 1, k, x => if k < x.marks.length then
   (match exIn N k (mkAt x k) (readyL N (mkAt x k) N.ts.length) x with
   | (y, none) => exOut N n (k + 1) y
   | r => r) else (x, none)
theorem exOut_end {N : Net} {n k : Nat} {x : Ex} {F : Ex × Option (Int × Int)} (hn : 0 < n) (hk : ¬ k < x.marks.length) (h : exOut N n k x = F) : (x, none) = F := by
 obtain ⟨q, rfl⟩ : ∃ q, n = q + 1 := ⟨n - 1, by omega⟩;rw [exOut, if_neg hk] at h;exact h
def explR (N : Net) (start : List UInt8) : Ex × Option (Int × Int) := exOut N 301 0 ⟨[start], []⟩
def exB (r : Ex × Option (Int × Int)) : Bool := match r.2 with | some _ => false | none => true
abbrev rgA (x : Ex) : AV := .agg [.d (.view 9 1 (tsX x.marks)), .d (vMvs x.moves)]
abbrev rgD (x : Ex) : List DV := [.view 9 1 (tsX x.marks), vMvs x.moves]
abbrev rgC (x : Ex) : List AV := [.d (.view 9 1 (tsX x.marks)), .d (vMvs x.moves)]
abbrev zRG : List AV := [.d (.val (.slice none 0 0)), .d (.val (.slice none 0 0))]
structure ExI (N : Net) (x : Ex) (q : Nat) : Prop where
 n : x.marks.length ≤ 300
 b : ∀ m, m ∈ x.marks → bitsB m N.places = true
 l : x.moves.length ≤ q
theorem ExI.len {N : Net} {x : Ex} {q : Nat} (h : ExI N x q) (hp : N.places ≤ 30) : ∀ m, m ∈ x.marks → m.length ≤ 30 := fun m hm => by have := bits_len (h.b m hm); omega
theorem exIn_I {N : Net} {k : Nat} {m : List UInt8} (hm : bitsB m N.places = true) : ∀ (L : List Int) {x : Ex} {q : Nat}, ExI N x q → ExI N (exIn N k m L x).1 (q + L.length)
 | [], x, q, h => h
 | t :: ts, x, q, h => by
  rw [exIn]
  split
  ·rename_i hf;have hb := fireI_bits (N := N) hm hf
   split
   ·rename_i i he;have := exIn_I (k := k) hm ts (x := ⟨x.marks, x.moves ++ [⟨k, t, (i : Int)⟩]⟩) (q := q + 1) ⟨h.n, h.b, by show (x.moves ++ _).length ≤ _; rw [List.length_append]; have := h.l; simp only [List.length_cons, List.length_nil]; omega⟩;rw [List.length_cons, show q + (ts.length + 1) = q + 1 + ts.length by omega];exact this
   split
   ·exact ⟨h.n, h.b, by have := h.l; dsimp only; omega⟩
   rename_i hn;have := exIn_I (k := k) hm ts (x := ⟨x.marks ++ [(fireI N m t).1], x.moves ++ [⟨k, t, x.marks.length⟩]⟩) (q := q + 1) ⟨by show (x.marks ++ _).length ≤ _; rw [List.length_append]; have := h.n; simp only [List.length_cons, List.length_nil]; omega, fun a ha => (List.mem_append.1 ha).elim (h.b a) (fun h => by rw [List.mem_singleton.1 h]; exact hb), by show (x.moves ++ _).length ≤ _; rw [List.length_append]; have := h.l; simp only [List.length_cons, List.length_nil]; omega⟩;rw [List.length_cons, show q + (ts.length + 1) = q + 1 + ts.length by omega];exact this
  exact ⟨h.n, h.b, by have := h.l; dsimp only; omega⟩
theorem exOut_I {N : Net} (hN : N.ts.length ≤ 24) : ∀ (n k : Nat) {x : Ex} {q : Nat}, ExI N x q → ExI N (exOut N n k x).1 (q + 24 * n)
 | 0, k, x, q, h => h
 | n + 1, k, x, q, h => by
  rw [exOut]
  split
  ·rename_i hk;have hm := h.b _ (List.getElem_mem hk);rw [← mkAt_nat hk] at hm;have hL := readyL_len N (mkAt x k) N.ts.length;have h1 := exIn_I (k := k) hm (readyL N (mkAt x k) N.ts.length) h
   split
   ·rename_i y e;rw [e] at h1;have := exOut_I hN n (k + 1) (x := y) (q := q + 24) ⟨h1.n, h1.b, by have := h1.l; dsimp only at this; omega⟩;rw [show q + 24 * (n + 1) = q + 24 + 24 * n by omega];exact this
   exact ⟨h1.n, h1.b, by have := h1.l; omega⟩
  exact ⟨h.n, h.b, by have := h.l; dsimp only; omega⟩
def explS (s : Stg) : Ex × Bool := if (goodS s && exB (explR s.net s.start)) = true then ((explR s.net s.start).1, true) else (⟨[], []⟩, false)
theorem explS_in (s : Stg) : (explS s).1.marks.length ≤ 300 ∧ (explS s).1.moves.length ≤ 10000 := by
 unfold explS
 split
 ·rename_i h;have hg := (Bool.and_eq_true_iff.1 h).1
  have h1 : goodN s.net = true ∧ bitsB s.start s.net.places = true := by
   simp only [goodS, Bool.and_eq_true] at hg;exact hg.1
  have := exOut_I (good_places h1.1).2.2 301 0 (x := ⟨[s.start], []⟩) (q := 0) ⟨by show 1 ≤ 300; omega, fun m hm => by rw [List.mem_singleton.1 hm]; exact h1.2, Nat.le_refl _⟩;exact ⟨this.n, Nat.le_trans this.l (by omega)⟩
 exact ⟨Nat.zero_le _, Nat.zero_le _⟩
theorem findI_or {α : Type} (p : α → Bool) (l : List α) : (findI p l = -1 ∧ ∀ j (hj : j < l.length), p l[j] = false) ∨ ∃ k, ∃ hk : k < l.length, findI p l = (k : Int) ∧ p l[k] = true ∧ ∀ j (hj : j < l.length), j < k → p l[j] = false := by
 by_cases h : l.findIdx p < l.length
 ·right;refine ⟨l.findIdx p, h, ?_, List.findIdx_getElem, fun j hj hjk => by simpa using List.not_of_lt_findIdx hjk⟩;unfold findI;rw [if_pos h]
 left;have e : l.findIdx p = l.length := by have := List.findIdx_le_length (p := p) (xs := l); omega
 refine ⟨by unfold findI; rw [if_neg h], fun j hj => ?_⟩;have := List.findIdx_eq_length.1 e l[j] (List.getElem_mem hj);simpa using this
theorem filter_no {α : Type} {p : α → Bool} {l : List α} (h : ∀ j (hj : j < l.length), p l[j] = false) : l.filter (fun x => !p x) = l := by
 rw [List.filter_eq_self];intro x hx;obtain ⟨j, hj, rfl⟩ := List.getElem_of_mem hx;rw [h j hj]; rfl
theorem filt_take {α : Type} {p : α → Bool} {l : List α} {k : Nat} (hk : k < l.length) : (l.take (k + 1)).filter (fun x => !p x) = (l.take k).filter (fun x => !p x) ++ (if p l[k] = true then [] else [l[k]]) := by
 rw [List.take_add_one, List.getElem?_eq_getElem hk, List.filter_append];congr 1;cases h : p l[k] <;> simp [h]
structure DelI {α : Type} (p : α → Bool) (l : List α) (i j : Nat) (e : List α) : Prop where
 len : e.length = l.length
 lt : i < j
 le : j ≤ l.length
 kept : e.take i = (l.take j).filter fun x => !p x
 rest : e.drop j = l.drop j
theorem DelI.get {α : Type} {p : α → Bool} {l e : List α} {i j : Nat} (h : DelI p l i j e) (hj : j < l.length) : e[j]? = some l[j] := by
 have : (e.drop j)[0]? = (l.drop j)[0]? := by rw [h.rest]
 rw [List.getElem?_drop, List.getElem?_drop, Nat.add_zero, List.getElem?_eq_getElem hj] at this;exact this
theorem DelI.skip {α : Type} {p : α → Bool} {l e : List α} {i j : Nat} (h : DelI p l i j e) (hj : j < l.length) (hp : p l[j] = true) : DelI p l i (j + 1) e :=
 ⟨h.len, by have := h.lt; omega, hj, by rw [filt_take hj, if_pos hp, List.append_nil]; exact h.kept, by
  have : (e.drop j).drop 1 = (l.drop j).drop 1 := by rw [h.rest]
  rwa [List.drop_drop, List.drop_drop] at this⟩
theorem DelI.move {α : Type} {p : α → Bool} {l e : List α} {i j : Nat} (h : DelI p l i j e) (hj : j < l.length) (hp : p l[j] = false) : DelI p l (i + 1) (j + 1) (e.set i l[j]) := by
 have h1 := h.len;have h2 := h.lt;refine ⟨by rw [List.length_set]; exact h1, by omega, hj, ?_, ?_⟩
 ·rw [filt_take hj, if_neg (by rw [hp]; simp), ← h.kept, List.take_add_one, List.take_set_of_le (Nat.le_refl _), List.getElem?_set_self (by omega)]
  rfl
 rw [List.drop_set_of_lt (by omega)];have : (e.drop j).drop 1 = (l.drop j).drop 1 := by rw [h.rest]
 rwa [List.drop_drop, List.drop_drop] at this
end Go.Proofs.YtbofmbjefbpnaaaGreat
