/- Contracts of the functions of the program and of the reference, each proved by a walk through its code. -/
import Derived.Laws.IdiomCopy
import Derived.Test.YtbiinjejokhfgaaGreatGUn6
set_option linter.all false
set_option maxRecDepth 20000
namespace Go.Proofs.YtbiinjejokhfgaaGreat
open Go.RowKit
def zeroF (m : List UInt8) (k : Nat) : List UInt8 := (List.range k).foldl (fun m i => m.set i 48) m
theorem zeroF_succ (m : List UInt8) (k : Nat) : zeroF m (k + 1) = (zeroF m k).set k 48 := by unfold zeroF; rw [List.range_succ, List.foldl_append]; rfl
theorem zeroF_len (m : List UInt8) : ∀ k, (zeroF m k).length = m.length
 | 0 => rfl
 | k + 1 => by rw [zeroF_succ, List.length_set]; exact zeroF_len m k
set_option maxHeartbeats 8000000 in
theorem curBegun_ex (N : Net) (c : Cur) (hN : 1 ≤ N.places ∧ N.places ≤ 1000) (hp : c.pos ≤ 100000000) : ∃ (m : List UInt8) (c' : Cur), m.length = N.places.toNat ∧ c'.pos ≤ c.pos + 2 * N.places.toNat + 4 ∧ ASpec Tryz.prog 147 [.ptr 0 0, netA N] [(0, curC c)] (Fun1 (aS (bstr m)) [(0, curC c')]) := by
 have hM := markOf_spec c N.places (by omega) (by omega) (by omega);have hMl := markOf_len c N.places;obtain ⟨M, hMM⟩ := eqx (c.markOf N.places);rw [← hMM] at hM hMl;have hO := one_spec M.2 4 (by decide) (by omega);have ho := M.2.pick_pos 4;obtain ⟨o, hoo⟩ := eqx (M.2.pick 4);rw [← hoo] at hO ho;have hQ := pick_spec o.2 N.places (by omega) (by omega);have hq := o.2.pick_in N.places (by omega);have hq2 := o.2.pick_pos N.places;obtain ⟨q, hqq⟩ := eqx (o.2.pick N.places);rw [← hqq] at hQ hq hq2;refine ⟨if o.1 = 0 then M.1 else ((zeroF M.1 M.1.length).set 0 49).set q.1.toNat 49, if o.1 = 0 then o.2 else q.2, ?_, ?_, ?_⟩
 ·split
  ·exact hMl.1
  rw [List.length_set, List.length_set, zeroF_len]; exact hMl.1
 ·split <;> omega
 refine ASpec.of Tryz.func147 rfl rfl fun C hC => ?_
 refine AC.seq (AC.region ?_);refine kD ?_;refine za ?_;refine AL.nil (th_n (AC.seq (AC.region ?_)));refine AL.p (by exact mv3 rfl) rfl ?_;refine zf ?_;refine zr ?_;refine kU [0] en_markOf hM ?_;refine AL.q (by exact h_bytesOfStr rfl rfl rfl rfl) rfl ?_;refine AL.p (by exact as2 rfl) rfl ?_;refine AL.nil (th_n (AC.seq (AC.seq (AC.region ?_))));refine AL.p (by exact mv3 rfl) rfl ?_;refine kU [0] en_one hO ?_;refine AL.nil (th_n ?_);refine AC.condD rfl (fun h0 => ?_) (fun h0 => ?_)
 ·refine AC.seq (AC.region ?_);refine kB ?_;refine AL.p (by exact g_strOfBytes rfl rfl rfl rfl rfl rfl (by rfl)) rfl ?_;refine za ?_;refine AL.nil (th_n (AC.ret (th_r (bq_r ?_))));have q0 : o.1 = 0 := by assumption
  rw [if_pos q0, if_pos q0];exact retF rfl (by repeat (exact DLead.same)) (by repeat (first | exact True.intro | refine And.intro ?_ ?_ | exact DLead.same | exact rfl | refine ⟨_, _, rfl, rfl, ?_⟩ | refine ⟨_, rfl, ?_⟩ | refine ⟨_, _, rfl, ?_, ?_⟩)) rfl
 refine AC.skip (th_n (AC.seq (AC.seq ?_)));have q0 : ¬ o.1 = 0 := by assumption
 rw [if_neg q0, if_neg q0];have hl0 : M.1.length = N.places.toNat := hMl.1;refine AC.region ?_;refine kB ?_;refine AL.p (by exact g_len_own (sz := 1) (els := []) (e' := 0) rfl rfl (by simp only [maxLen]; omega)) rfl ?_;refine zm ?_;refine AL.nil (th_n (AC.block ?_));refine AC.loop (ι := Nat) (fun k => ⟨35, 400, [(0, .ptr 0 0), (3, .d (.ref (netD N))), (5, .own 100 M.1.length), (17, aI M.1.length), (18, aI k)], [(0, some (curC o.2)), (100, some (.arr 5 1 (byteEls (zeroF M.1 k))))]⟩) (fun k => k ≤ M.1.length) (fun k => M.1.length - k) (0) ?_ (Nat.zero_le _) ?_
 ·exact zw [(0, 0), (100, _)] hC
 intro k hk;refine AC.seq (AC.region ?_);refine zc ?_;refine AL.nil (th_n (AC.seq ?_));refine AC.condD rfl (fun h1 => ?_) (fun h1 => ?_)
 ·refine AC.skip (th_n (AC.seq (AC.block (AC.seq ?_))));have hk1 : k < M.1.length := by omega
  have hzl := zeroF_len M.1 k;have hgm := byteEls_get (m := zeroF M.1 k) (k := k) (by omega);refine AC.region ?_;refine zm ?_;refine za ?_;refine AL.nil (th_n (AC.region ?_));refine kB ?_;refine zm ?_;refine AL.p (by exact g_ia_own (i := k) (l := M.1.length) rfl rfl rfl rfl rfl rfl (by omega) rfl) rfl ?_;refine AL.q (by exact h_store_arr (i := k) (j := 0) (d := dB 48) rfl rfl rfl rfl .same rfl hgm (by decide)) rfl ?_;refine AL.nil (ib_n (th_n (AC.region ?_)));refine zA ?_;refine zm ?_;refine AL.nil (th_n ?_);exact ⟨k + 1, by omega, by omega, zw [(0, 0), (100, 100)] hC (b := by rw [zeroF_succ, ← byteEls_set]; repeat (first | exact True.intro | refine And.intro ?_ ?_ | exact DLead.same | exact rfl | refine ⟨_, _, rfl, rfl, ?_⟩ | refine ⟨_, rfl, ?_⟩ | refine ⟨_, _, rfl, ?_, ?_⟩))⟩
 refine AC.exit (th_e (th_e (ib_y (th_n (AC.seq ?_)))));have hkk : k = M.1.length := by omega
 rw [hkk];have hzl := zeroF_len M.1 M.1.length;obtain ⟨Z, hZ⟩ := eqx (zeroF M.1 M.1.length);rw [← hZ] at hzl ⊢;have hg0 := byteEls_get (m := Z) (k := 0) (by omega);obtain ⟨i, hi⟩ : ∃ i : Nat, q.1 = i := ⟨q.1.toNat, by omega⟩;rw [hi] at hQ;rw [hi, Int.toNat_natCast];have hgi := byteEls_get (m := Z.set 0 49) (k := i) (by rw [List.length_set]; omega);refine AC.region ?_;refine kB ?_;refine AL.p (by exact g_ia_own (i := 0) (l := M.1.length) rfl rfl rfl rfl rfl rfl (by omega) rfl) rfl ?_;refine AL.q (by exact h_store_arr (i := 0) (j := 0) (d := dB 49) rfl rfl rfl rfl .same rfl hg0 (by decide)) rfl ?_;refine AL.nil (th_n (AC.seq ?_));refine AC.weak (t := ⟨35, 900, [(0, .ptr 0 0), (3, .d (.ref (netD N))), (5, .own 100 M.1.length)], [(0, some (curC o.2)), (100, some (.arr 5 1 (byteEls (Z.set 0 49))))]⟩) (zw [(0, 0), (100, 100)] hC (b := by rw [← byteEls_set]; repeat (first | exact True.intro | refine And.intro ?_ ?_ | exact DLead.same | exact rfl | refine ⟨_, _, rfl, rfl, ?_⟩ | refine ⟨_, rfl, ?_⟩ | refine ⟨_, _, rfl, ?_, ?_⟩))) ?_;refine AC.region ?_;refine kB ?_;refine AL.p (by exact mv3 rfl) rfl ?_;refine zf ?_;refine zr ?_;refine kU [0] en_pick hQ ?_;refine AL.p (by exact g_ia_own (i := i) (l := M.1.length) rfl rfl rfl rfl rfl rfl (by omega) rfl) rfl ?_;refine AL.q (by exact h_store_arr (i := i) (j := 0) (d := dB 49) rfl rfl rfl rfl .same rfl hgi (by decide)) rfl ?_;refine AL.nil (th_n (AC.seq ?_));refine AC.weak (t := ⟨35, 1200, [(5, .own 100 M.1.length)], [(0, some (curC q.2)), (100, some (.arr 5 1 (byteEls ((Z.set 0 49).set i 49))))]⟩) (zw [(0, 0), (100, 100)] hC (b := by rw [← byteEls_set _ i]; repeat (first | exact True.intro | refine And.intro ?_ ?_ | exact DLead.same | exact rfl | refine ⟨_, _, rfl, rfl, ?_⟩ | refine ⟨_, rfl, ?_⟩ | refine ⟨_, _, rfl, ?_, ?_⟩))) ?_;have hfl : ((Z.set 0 49).set i 49).length = M.1.length := by rw [List.length_set, List.length_set, hzl]
 refine AC.region ?_;refine kB ?_;refine AL.p (by exact g_strOfBytes rfl rfl rfl rfl rfl rfl (by omega)) rfl ?_;refine za ?_;refine AL.nil (th_n (AC.ret (bq_r ?_)));exact retF rfl (by repeat (exact DLead.same)) (by repeat (first | exact True.intro | refine And.intro ?_ ?_ | exact DLead.same | exact rfl | refine ⟨_, _, rfl, rfl, ?_⟩ | refine ⟨_, rfl, ?_⟩ | refine ⟨_, _, rfl, ?_, ?_⟩)) rfl
theorem en_curBegun : Enters Tryz.prog 147 := enters_of Tryz.func147 rfl rfl
set_option maxHeartbeats 1000000 in
theorem l7MadeO_spec (N : Net) (m : List UInt8) (hN : 1 ≤ N.places ∧ N.places ≤ 1000) (hm : (m.length : Int) = N.places) : ASpec Tryz.prog 103 [netA N, aS (bstr m), .d (.val (.slice none 0 0))] [] (Fun1 (.own 0 (madeI N m).length) [(0, .arr 143 2 (condsL (madeI N m)))]) := by
 have hpl := hN;obtain ⟨P, hP⟩ : ∃ P : Nat, N.places = (P : Int) := ⟨N.places.toNat, by omega⟩;have hmd : madeI N m = madeL m P := by unfold madeI; rw [hP, Int.toNat_natCast]
 refine ASpec.of Tryz.func103 rfl rfl fun C hC => ?_
 refine AC.seq (AC.region ?_);refine kD ?_;refine za ?_;refine AL.nil (th_n (AC.seq (AC.region ?_)));refine za ?_;refine AL.nil (th_n (AC.seq (AC.seq (AC.region ?_))));refine za ?_;refine AL.nil (th_n (AC.block ?_));refine AC.loop (ι := Nat) (fun k => ⟨56, 108, [(1, aS (bstr m)), (2, .d (.val (.slice none 0 0))), (3, .d (.ref (netD N))), (7, .own 100 (madeL m k).length), (8, aI k)], [(100, some (.arr 143 2 (condsL (madeL m k))))]⟩) (fun k => k ≤ P) (fun k => P - k) (0) ?_ (Nat.zero_le _) ?_
 ·exact (Weak.nilOwn (i := 7) (e := 143) (sz := 2) rfl (by decide)).trans (zw [(100, _)] hC)
 intro k hk;refine AC.seq (AC.seq (AC.region ?_));refine zm ?_;refine zf ?_;refine zr ?_;refine zc ?_;refine AL.nil (th_n ?_);refine AC.condD rfl (fun h0 => ?_) (fun h0 => ?_)
 ·refine AC.skip (th_n (AC.seq (AC.block (AC.seq ?_))));have hk1 : k < m.length := by omega
  have hget := bstr_at hk1;have hgd : m.getD k 0 = m[k] := by rw [List.getD_eq_getElem?_getD, List.getElem?_eq_getElem hk1]; rfl
  have hln := madeL_len m k;refine AC.region ?_;refine zm ?_;refine zm ?_;refine AL.p (by exact g_index rfl rfl rfl (by rfl) (by assumption)) rfl ?_;refine zc ?_;refine AL.nil (th_n ?_);refine AC.condD rfl (fun h1 => ?_) (fun h1 => ?_)
  ·refine AC.region ?_;refine kB ?_;refine zm ?_;refine AL.p (by exact g_build rfl rfl rfl) rfl ?_;refine AL.q (by exact h_litF rfl rfl rfl rfl rfl rfl rfl rfl) rfl ?_;refine AL.q (by exact h_appendC (madeL m k) [⟨(k : Int), -1⟩] (.own rfl rfl (condsL_len _).symm) (.view rfl) (by simp; omega) (by simp)) rfl ?_;refine AL.p (by exact as2 rfl) rfl ?_;refine AL.nil (ib_n (th_n (AC.region ?_)));refine zm ?_;refine zA ?_;refine za ?_;refine AL.nil (th_n ?_)
   (have e := madeL_t (m := m) (k := k) (mk_t hgd h1); exact ⟨k + 1, by omega, by omega, zw [(100, _)] hC (by rw [e]; repeat (first | exact True.intro | refine And.intro ?_ ?_ | exact DLead.same | exact rfl | refine ⟨_, rfl, ?_⟩)) (by rw [e]; repeat (first | exact True.intro | refine And.intro ?_ ?_ | exact rfl | refine ⟨_, _, rfl, rfl, ?_⟩))⟩)
  refine AC.skip (ib_n (th_n (AC.region ?_)));refine zm ?_;refine zA ?_;refine za ?_;refine AL.nil (th_n ?_)
  (have e := madeL_f (m := m) (k := k) (mk_f hgd h1); exact ⟨k + 1, by omega, by omega, zw [(100, _)] hC (by rw [e]; repeat (first | exact True.intro | refine And.intro ?_ ?_ | exact DLead.same | exact rfl | refine ⟨_, rfl, ?_⟩)) (by rw [e]; repeat (first | exact True.intro | refine And.intro ?_ ?_ | exact rfl | refine ⟨_, _, rfl, rfl, ?_⟩))⟩)
 refine AC.exit (th_e (th_e (ib_y (th_n (AC.seq (AC.seq ?_))))));have hkP : k = P := by omega
 subst hkP;refine AC.region ?_;refine zm ?_;refine AL.p (by exact g_len_nil rfl rfl) rfl ?_;refine zm ?_;refine AL.nil (th_n (AC.block ?_));refine AC.loop (ι := Unit) (fun _ => ⟨56, 108, [(7, .own 100 (madeL m k).length), (29, aI 0), (30, aI 0)], [(100, some (.arr 143 2 (condsL (madeL m k))))]⟩) (fun _ => True) (fun _ => 0) (()) ?_ (trivial) ?_
 ·exact zw [(100, 100)] hC
 intro _ _;refine AC.seq (AC.region ?_);refine zc ?_;refine AL.nil (th_n (AC.seq ?_));refine AC.condD rfl (fun h1 => ?_) (fun h1 => ?_)
 ·refine AC.skip (th_n (AC.seq (AC.block (AC.seq ?_))));exact absurd h1 (by omega)
 refine AC.exit (th_e (th_e (ib_y (th_n (AC.seq (AC.region ?_))))));refine kB ?_;refine AL.p (by exact as2 rfl) rfl ?_;refine AL.nil (th_n (AC.ret (bq_r ?_)));exact retN [(0, 100)] rfl (by rw [hmd]; repeat (first | exact rfl | refine ⟨_, rfl, ?_⟩)) (by rw [hmd]; repeat (first | exact True.intro | refine And.intro ?_ ?_ | exact rfl | refine ⟨_, _, rfl, rfl, ?_⟩)) rfl rfl
inductive TRep (w : World) : (Nat → Prop) → DV → Value → Prop
 | val {S : Nat → Prop} {v : Value} : (∀ k, ¬ S k) → okV v → TRep w S (.val v) v
 | nil {S : Nat → Prop} {e sz : Nat} : (∀ k, ¬ S k) → TRep w S (.view e sz []) (.slice none 0 0)
 | view {S : Nat → Prop} {e sz : Nat} {els : List (List DV)} {b cap : Nat} {vs : Array Value} {fz : Nat × Nat} (Ts : Nat → Nat → Prop) : w.heap[b]? = some (.cells vs e fz) → (∀ (i : Nat), i < vs.size → ¬ (fz.1 ≤ i ∧ i < fz.2)) → vs.size = cap * sz → els.length ≤ cap → cap ≤ maxLen → 0 < sz →
   (∀ (i : Nat) (cs : List DV), els[i]? = some cs → cs.length = sz) → (∀ (i : Nat) (cs : List DV) (j : Nat) (d : DV), els[i]? = some cs → cs[j]? = some d → TRep w (Ts (i * sz + j)) d (vs.getD (i * sz + j) undef)) →
   (∀ c, ¬ Ts c b) → (∀ c c' k, Ts c k → Ts c' k → c = c') → (∀ k, S k ↔ k = b ∨ ∃ c, c < els.length * sz ∧ Ts c k) → TRep w S (.view e sz els) (.slice (some ⟨b, 0, none⟩) els.length cap)
theorem TRep.lt {w : World} {S : Nat → Prop} {x : DV} {v : Value} (h : TRep w S x v) : ∀ k, S k → k < w.heap.size := by
 induction h with
 | val h _ => intro k h'; exact absurd h' (h k)
 | nil h => intro k h'; exact absurd h' (h k)
 | @view S e sz els b cap vs fz Ts hb _ _ _ _ hz hr _ _ _ hS ih =>
  intro k hk;rcases (hS k).1 hk with rfl | ⟨c, hc, hk⟩
  ·exact lt_of_block hb
  have h1 : c / sz < els.length := Nat.div_lt_of_lt_mul (by rw [Nat.mul_comm]; exact hc);have h2 : c % sz < sz := Nat.mod_lt _ hz;have e1 := List.getElem?_eq_getElem h1;have h3 := hr _ _ e1;have e2 : c / sz * sz + c % sz = c := Nat.div_add_mod' c sz;have := ih _ _ _ _ e1 (List.getElem?_eq_getElem (by rw [h3]; exact h2)) k;rw [e2] at this;exact this hk
theorem TRep.turn {w w' : World} {S : Nat → Prop} {x : DV} {v : Value} (h : TRep w S x v) : (∀ k, S k → w'.heap[k]? = w.heap[k]?) → TRep w' S x v := by
 induction h with
 | val h0 h => intro _; exact .val h0 h
 | nil h0 => intro _; exact .nil h0
 | @view S e sz els b cap vs fz Ts hb h1 h2 h3 h4 h5 h6 h7 h8 h9 h10 ih =>
  intro hk;refine .view Ts ((hk _ ((h10 _).2 (.inl rfl))).trans hb) h1 h2 h3 h4 h5 h6 (fun i cs j d hi hj => ih i cs j d hi hj (fun k hk' => hk k ((h10 k).2 (.inr ⟨_, ?_, hk'⟩)))) h8 h9 h10;have hi1 := (List.getElem?_eq_some_iff.1 hi).1;have hj1 := (List.getElem?_eq_some_iff.1 hj).1;rw [h6 i cs hi] at hj1;have h := Nat.mul_le_mul_right sz hi1;rw [Nat.succ_mul] at h;omega
theorem TRep.data {w : World} {S : Nat → Prop} {x : DV} {v : Value} (h : TRep w S x v) : DRep S w x v := by
 induction h with
 | val _ h => exact .val h
 | nil _ => exact .nil
 | @view S e sz els b cap vs fz Ts hb h1 h2 h3 h4 h5 h6 h7 h8 h9 h10 ih =>
  refine .view ((h10 _).2 (.inl rfl)) hb h3 h4 (by rw [Nat.zero_add, h2]; exact Nat.le_refl _) h6 (fun i cs j d hi hj => ?_);rw [Nat.zero_add];refine (ih i cs j d hi hj).mono fun k hk => (h10 k).2 (.inr ⟨_, ?_, hk⟩)
  have hi1 := (List.getElem?_eq_some_iff.1 hi).1;have hj1 := (List.getElem?_eq_some_iff.1 hj).1;rw [h6 i cs hi] at hj1;have h := Nat.mul_le_mul_right sz hi1;rw [Nat.succ_mul] at h;omega
theorem TRep.congr {w : World} {S S' : Nat → Prop} {x : DV} {v : Value} (h : TRep w S x v) (he : ∀ k, S k ↔ S' k) : TRep w S' x v := by
 have : S = S' := funext fun k => propext (he k)
 subst this; exact h
def TL (w : World) (S : Nat → Prop) (L : List DV) (V : List Value) : Prop :=
 ∃ Ts : Nat → Nat → Prop, V.length = L.length ∧ (∀ i d v, L[i]? = some d → V[i]? = some v → TRep w (Ts i) d v) ∧ (∀ i j k, Ts i k → Ts j k → i = j) ∧ ∀ k, S k ↔ ∃ i, i < L.length ∧ Ts i k
theorem TL.turn {w w' : World} {S : Nat → Prop} {L : List DV} {V : List Value} (h : TL w S L V) (hk : ∀ k, S k → w'.heap[k]? = w.heap[k]?) : TL w' S L V := by
 obtain ⟨Ts, h1, h2, h3, h4⟩ := h;exact ⟨Ts, h1, fun i d v hd hv => (h2 i d v hd hv).turn fun k hk' => hk k ((h4 k).2 ⟨i, (List.getElem?_eq_some_iff.1 hd).1, hk'⟩), h3, h4⟩
theorem TL.lt {w : World} {S : Nat → Prop} {L : List DV} {V : List Value} (h : TL w S L V) (k : Nat) (hk : S k) : k < w.heap.size := by
 obtain ⟨Ts, h1, h2, h3, h4⟩ := h;obtain ⟨i, hi, hk'⟩ := (h4 k).1 hk;exact (h2 i _ _ (List.getElem?_eq_getElem hi) (List.getElem?_eq_getElem (by omega))).lt k hk'
theorem TL.data {w : World} {S : Nat → Prop} {L : List DV} {V : List Value} (h : TL w S L V) (i : Nat) {d : DV} {v : Value} (hd : L[i]? = some d) (hv : V[i]? = some v) : DRep S w d v := by
 obtain ⟨Ts, h1, h2, h3, h4⟩ := h;exact (h2 i d v hd hv).data.mono fun k hk => (h4 k).2 ⟨i, (List.getElem?_eq_some_iff.1 hd).1, hk⟩
theorem TL.len {w : World} {S : Nat → Prop} {L : List DV} {V : List Value} (h : TL w S L V) : V.length = L.length := h.choose_spec.1
theorem TL.nil (w : World) : TL w (fun _ => False) [] [] := ⟨fun _ _ => False, rfl, fun i d v h => by simp at h, fun _ _ _ h => h.elim, fun k => ⟨fun h => h.elim, fun ⟨_, h, _⟩ => by simp at h⟩⟩
theorem TL.one {w : World} {S : Nat → Prop} {d : DV} {v : Value} (h : TRep w S d v) : TL w S [d] [v] := by
 refine ⟨fun i k => i = 0 ∧ S k, rfl, fun i d' v' hd hv => ?_, fun i j k h1 h2 => h1.1.trans h2.1.symm, fun k => ⟨fun h => ⟨0, by simp, rfl, h⟩, fun ⟨_, _, h⟩ => h.2⟩⟩;cases i with
 | zero =>
  simp at hd hv; subst hd; subst hv;exact h.congr fun k => by simp
 | succ i => simp at hd
theorem TL.app {w : World} {S S' : Nat → Prop} {L L' : List DV} {V V' : List Value} (h : TL w S L V) (h' : TL w S' L' V') (hd : ∀ k, S k → ¬ S' k) : TL w (fun k => S k ∨ S' k) (L ++ L') (V ++ V') := by
 obtain ⟨Ts, h1, h2, h3, h4⟩ := h;obtain ⟨Ts', g1, g2, g3, g4⟩ := h';refine ⟨fun i k => (i < L.length ∧ Ts i k) ∨ (L.length ≤ i ∧ i < L.length + L'.length ∧ Ts' (i - L.length) k), by simp [h1, g1], fun i d v hd' hv => ?_, fun i j k hi hj => ?_, fun k => ⟨fun h => ?_, fun h => ?_⟩⟩
 ·by_cases hi : i < L.length
  ·rw [List.getElem?_append_left hi] at hd';rw [List.getElem?_append_left (by omega)] at hv;exact (h2 i d v hd' hv).congr fun k => by simp [hi, Nat.not_le.2 hi]
  have hlt := (List.getElem?_eq_some_iff.1 hd').1;rw [List.length_append] at hlt;rw [List.getElem?_append_right (by omega)] at hd' hv;rw [h1] at hv;exact (g2 _ d v hd' hv).congr fun k => by simp [hi, hlt, Nat.le_of_not_lt hi]
 ·rcases hi with ⟨a1, a2⟩ | ⟨a1, a2, a3⟩ <;> rcases hj with ⟨b1, b2⟩ | ⟨b1, b2, b3⟩
  ·exact h3 i j k a2 b2
  ·exact absurd ((g4 k).2 ⟨_, by omega, b3⟩) (hd k ((h4 k).2 ⟨i, a1, a2⟩))
  ·exact absurd ((g4 k).2 ⟨_, by omega, a3⟩) (hd k ((h4 k).2 ⟨j, b1, b2⟩))
  have := g3 _ _ k a3 b3; omega
 ·rcases h with h | h
  ·obtain ⟨i, hi, hk⟩ := (h4 k).1 h;exact ⟨i, by rw [List.length_append]; omega, .inl ⟨hi, hk⟩⟩
  obtain ⟨i, hi, hk⟩ := (g4 k).1 h;refine ⟨L.length + i, by rw [List.length_append]; omega, .inr ⟨by omega, by omega, ?_⟩⟩;rw [show L.length + i - L.length = i by omega]; exact hk
 obtain ⟨i, _, ⟨a1, a2⟩ | ⟨a1, a2, a3⟩⟩ := h
 ·exact .inl ((h4 k).2 ⟨i, a1, a2⟩)
 exact .inr ((g4 k).2 ⟨_, by omega, a3⟩)
theorem TL.cons {w : World} {S S' : Nat → Prop} {d : DV} {v : Value} {L : List DV} {V : List Value} (h : TRep w S d v) (h' : TL w S' L V) (hd : ∀ k, S k → ¬ S' k) : TL w (fun k => S k ∨ S' k) (d :: L) (v :: V) := (TL.one h).app h' hd
def TX (w : World) (S : Nat → Prop) (c : Nat) (L : List DV) (V : List Value) : Prop :=
 ∃ Ts : Nat → Nat → Prop, V.length = L.length ∧ (∀ i d v, i ≠ c → L[i]? = some d → V[i]? = some v → TRep w (Ts i) d v) ∧ (∀ i j k, Ts i k → Ts j k → i = j) ∧ (∀ k, ¬ Ts c k) ∧ ∀ k, S k ↔ ∃ i, i < L.length ∧ Ts i k
theorem TX.turn {w w' : World} {S : Nat → Prop} {c : Nat} {L : List DV} {V : List Value} (h : TX w S c L V) (hk : ∀ k, S k → w'.heap[k]? = w.heap[k]?) : TX w' S c L V := by
 obtain ⟨Ts, h1, h2, h3, h4, h5⟩ := h;exact ⟨Ts, h1, fun i d v hi hd hv => (h2 i d v hi hd hv).turn fun k hk' => hk k ((h5 k).2 ⟨i, (List.getElem?_eq_some_iff.1 hd).1, hk'⟩), h3, h4, h5⟩
theorem TL.split {w : World} {S : Nat → Prop} {L : List DV} {V : List Value} (h : TL w S L V) {c : Nat} {d : DV} {v : Value} (hd : L[c]? = some d) (hv : V[c]? = some v) : ∃ S1 S2, TRep w S1 d v ∧ TX w S2 c L V ∧ (∀ k, S1 k → ¬ S2 k) ∧ ∀ k, S k ↔ S1 k ∨ S2 k := by
 obtain ⟨Ts, h1, h2, h3, h4⟩ := h;have hlt := (List.getElem?_eq_some_iff.1 hd).1;refine ⟨Ts c, fun k => ∃ i, i < L.length ∧ i ≠ c ∧ Ts i k, h2 c d v hd hv, ⟨fun i k => i ≠ c ∧ Ts i k, h1, fun i d v hi hd hv => ?_, fun i j k hi hj => h3 i j k hi.2 hj.2, fun k hk => hk.1 rfl, fun k => Iff.rfl⟩, fun k hk ⟨i, _, hi, hk'⟩ => hi (h3 i c k hk' hk), fun k => ⟨fun hk => ?_, fun hk => ?_⟩⟩
 ·exact (h2 i d v hd hv).congr fun k => by simp [hi]
 ·obtain ⟨i, hi, hk⟩ := (h4 k).1 hk
  by_cases hic : i = c
  ·subst hic; exact .inl hk
  exact .inr ⟨i, hi, hic, hk⟩
 rcases hk with hk | ⟨i, hi, _, hk⟩
 ·exact (h4 k).2 ⟨c, hlt, hk⟩
 exact (h4 k).2 ⟨i, hi, hk⟩
theorem TX.join {w : World} {S1 S2 : Nat → Prop} {c : Nat} {L : List DV} {V : List Value} {d : DV} {v : Value} (h : TX w S2 c L V) (h1 : TRep w S1 d v) (hc : c < L.length) (hv : V[c]? = some v) (hd : ∀ k, S1 k → ¬ S2 k) : TL w (fun k => S1 k ∨ S2 k) (L.set c d) V := by
 obtain ⟨Ts, g1, g2, g3, g4, g5⟩ := h;refine ⟨fun i k => (i = c ∧ S1 k) ∨ (i < L.length ∧ Ts i k), by simpa using g1, fun i d' v' hd' hv' => ?_, fun i j k hi hj => ?_, fun k => ⟨fun hk => ?_, fun hk => ?_⟩⟩
 ·by_cases hi : c = i
  ·subst hi;rw [List.getElem?_set_self hc] at hd';rw [hv] at hv';simp only [Option.some.injEq] at hd' hv';subst hd'; subst hv';exact h1.congr fun k => by simp [g4]
  rw [List.getElem?_set_ne hi] at hd';have hl := (List.getElem?_eq_some_iff.1 hd').1;have hi' : ¬ i = c := fun e => hi e.symm
  exact (g2 i d' v' hi' hd' hv').congr fun k => by simp [hi', hl]
 ·rcases hi with ⟨a1, a2⟩ | ⟨a1, a2⟩ <;> rcases hj with ⟨b1, b2⟩ | ⟨b1, b2⟩
  ·rw [a1, b1]
  ·exact absurd ((g5 k).2 ⟨j, b1, b2⟩) (hd k a2)
  ·exact absurd ((g5 k).2 ⟨i, a1, a2⟩) (hd k b2)
  exact g3 i j k a2 b2
 ·rcases hk with hk | hk
  ·exact ⟨c, by simpa using hc, .inl ⟨rfl, hk⟩⟩
  obtain ⟨i, hi, hk⟩ := (g5 k).1 hk;exact ⟨i, by simpa using hi, .inr ⟨hi, hk⟩⟩
 obtain ⟨i, _, ⟨_, hk⟩ | ⟨hi, hk⟩⟩ := hk
 ·exact .inl hk
 exact .inr ((g5 k).2 ⟨i, hi, hk⟩)
section
variable {P : Program} [PT P] {C : Ctx} {Q : Exit → ASt → Prop} {s : ASt} {ops : Array Oper} {U U' : Nat → Prop} {a : Act} {w : World} {m : Nat → Option (Option Nat × Nat)}
def mNew (m : Nat → Option (Option Nat × Nat)) (new : List (Nat × Chunk)) (pm : Nat → Option Nat × Nat) (j : Nat) : Option (Option Nat × Nat) :=
 match getL j new with
 | some _ => some (pm j)
 | none => m j
theorem mNew_some {new : List (Nat × Chunk)} {pm : Nat → Option Nat × Nat} {j : Nat} {c : Chunk} (h : getL j new = some c) : mNew m new pm j = some (pm j) := by simp [mNew, h]
theorem mNew_none {new : List (Nat × Chunk)} {pm : Nat → Option Nat × Nat} {j : Nat} (h : getL j new = none) : mNew m new pm j = m j := by simp [mNew, h]
theorem RelM.repack (h : RelM C U s a w m) {t : ASt} (new : List (Nat × Chunk)) (pm : Nat → Option Nat × Nat) (gone : List Nat) (hn : t.n = s.n)
  (ht : ∀ id c, t.chunk id = some c → getL id new = some c ∨ (getL id new = none ∧ id ∉ gone ∧ s.chunk id = some c))
  (hU : ∀ id c, getL id new = some c → U id ∨ m id = some (pm id))
  (hU' : ∀ j, U' j → U j ∧ getL j new = none)
  (hocc : ∀ id c b, getL id new = some c → occ (pm id) c b → ∃ j c0 q, j ∈ gone ∧ s.chunk j = some c0 ∧ m j = some q ∧ occ q c0 b)
  (hdis : ∀ id id' c c' b, getL id new = some c → getL id' new = some c' → occ (pm id) c b → occ (pm id') c' b → id = id')
  (hrep : ∀ F', (∀ k, Fz C m s w k → F' k) → ∀ id c, getL id new = some c → CRep (mNew m new pm) F' w (pm id) c)
  (hsl : MLe m (mNew m new pm) → ∀ F', (∀ k, Fz C m s w k → F' k) → ∀ i, ARep (mNew m new pm) F' w (t.get i) (a.tmps.getD i undef)) : RelM C U' t a w (mNew m new pm) := by
 have hle : MLe m (mNew m new pm) := by
  intro j p hp;cases hg : getL j new with
  | none => rw [mNew_none hg]; exact hp
  | some c =>
   rcases hU j c hg with h1 | h1
   ·rw [h.un j h1] at hp; cases hp
   rw [hp] at h1; rw [mNew_some hg, h1]
 have hF : ∀ k, Fz C m s w k → Fz C (mNew m new pm) t w k := by
  intro k hk;refine ⟨hk.1, hk.2.1, fun id c p h1 h2 ho => ?_⟩;rcases ht id c h1 with g | ⟨g, _, g3⟩
  ·rw [mNew_some g] at h2;obtain rfl : pm id = p := by simpa using h2
   obtain ⟨j, c0, q, _, q2, q3, q4⟩ := hocc id c k g ho;exact hk.2.2 j c0 q q2 q3 q4
  rw [mNew_none g] at h2;exact hk.2.2 id c p g3 h2 ho
 refine ⟨h.fr, h.fin, by rw [hn]; exact h.sz, hsl hle _ hF, fun id c h1 => ?_, fun id id' c c' p p' h1 h2 hp hp' b hb hb' => ?_, fun j hj => ?_, h.defers, fun id p hp => hle id p (h.m0 id p hp), h.m0k⟩
 ·rcases ht id c h1 with g | ⟨g, _, g3⟩
  ·refine ⟨pm id, mNew_some g, hrep _ hF id c g, fun b hb => ?_⟩;obtain ⟨j, c0, q, _, q2, q3, q4⟩ := hocc id c b g hb;obtain ⟨q', hq', _, hl⟩ := h.ch j c0 q2;rw [q3] at hq';obtain rfl : q = q' := by simpa using hq'
   exact hl b q4
  obtain ⟨p, hp, hr, hl⟩ := h.ch id c g3;exact ⟨p, hle _ _ hp, hr.turn hle (fun k hk _ => ⟨hF k hk, rfl⟩) (fun _ _ => rfl), hl⟩
 ·rcases ht id c h1 with g | ⟨g, g2, g3⟩ <;> rcases ht id' c' h2 with g' | ⟨g', g2', g3'⟩
  ·rw [mNew_some g] at hp;rw [mNew_some g'] at hp';obtain rfl : pm id = p := by simpa using hp
   obtain rfl : pm id' = p' := by simpa using hp'
   exact hdis id id' c c' b g g' hb hb'
  ·rw [mNew_some g] at hp;rw [mNew_none g'] at hp';obtain rfl : pm id = p := by simpa using hp
   obtain ⟨j, c0, q, q1, q2, q3, q4⟩ := hocc id c b g hb;have := h.inj j id' c0 c' q p' q2 g3' q3 hp' b q4 hb';subst this;exact absurd q1 g2'
  ·rw [mNew_none g] at hp;rw [mNew_some g'] at hp';obtain rfl : pm id' = p' := by simpa using hp'
   obtain ⟨j, c0, q, q1, q2, q3, q4⟩ := hocc id' c' b g' hb';have := h.inj j id c0 c q p q2 g3 q3 hp b q4 hb;subst this;exact absurd q1 g2
  rw [mNew_none g] at hp;rw [mNew_none g'] at hp';exact h.inj id id' c c' p p' g3 g3' hp hp' b hb hb'
 obtain ⟨h1, h2⟩ := hU' j hj;rw [mNew_none h2];exact h.un j h1
structure WeakR (C : Ctx) (s : ASt) (T : ASt → Prop) : Prop where
 run : ∀ a w, Rel C s a w → ∃ t, T t ∧ Rel C t a w
theorem CRep.predAt {F : Nat → Prop} {p : Option Nat × Nat} {S : Nat → Prop} {K : World → Prop} (h : CRep m F w p (.pred S K)) : p = (none, 0) ∧ K w ∧ (∀ w w', (∀ k, S k → w'.heap[k]? = w.heap[k]?) → K w → K w') ∧ ∀ k, S k → k < w.heap.size := by
 cases h with
 | pred h1 h2 h3 => exact ⟨rfl, h1, h2, h3⟩
theorem occ_pred' {S : Nat → Prop} {K : World → Prop} {k : Nat} (h : occ (none, 0) (.pred S K) k) : S k := by
 rcases h with h | h
 ·cases h
 exact h
theorem Weak.join (id1 id2 : Nat) {S1 S2 : Nat → Prop} {K1 K2 : World → Prop} (K : World → Prop) (h1 : s.chunk id1 = some (.pred S1 K1)) (h2 : s.chunk id2 = some (.pred S2 K2)) (hne : Nat.beq id1 id2 = false)
  (hK : ∀ w, K1 w → K2 w → (∀ k, S1 k → ¬ S2 k) → K w) (hcl : ∀ w w', (∀ k, S1 k ∨ S2 k → w'.heap[k]? = w.heap[k]?) → K w → K w') :
  Weak C s { n := s.n, nx := s.nx, sl := s.sl, ch := (id1, some (.pred (fun k => S1 k ∨ S2 k) K)) :: (id2, none) :: s.ch } := by
 refine ⟨?_⟩;rintro a w ⟨m, hR⟩;have hne : id1 ≠ id2 := Nat.ne_of_beq_eq_false hne;obtain ⟨p1, q1, c1, l1⟩ := hR.ch id1 _ h1;obtain ⟨p2, q2, c2, l2⟩ := hR.ch id2 _ h2;obtain ⟨rfl, k1, cl1, lt1⟩ := c1.predAt;obtain ⟨rfl, k2, cl2, lt2⟩ := c2.predAt;have hd : ∀ k, S1 k → ¬ S2 k := fun k g1 g2 => hne (hR.inj id1 id2 _ _ _ _ h1 h2 q1 q2 k (.inr g1) (.inr g2))
 refine ⟨_, hR.repack (U' := fun i => s.nx ≤ i) [(id1, .pred (fun k => S1 k ∨ S2 k) K)] (fun _ => (none, 0)) [id1, id2] rfl (fun i c h => ?_) (fun i c h => .inr ?_) (fun i hi => ⟨hi, ?_⟩) (fun i c b h hb => ?_) (fun i i' c c' b h h' _ _ => ?_) (fun F' _ i c h => ?_) (fun hle F' hF i => (hR.sl i).turn hle (fun k hk _ => ⟨hF k hk, rfl⟩))⟩
 ·change (getL i (_ :: _ :: _)).getD none = _ at h
  rw [getL_cons] at h;rw [getL_cons]
  split at h
  ·rename_i ei; rw [if_pos ei]; exact .inl (by simpa using h)
  rename_i ei;rw [if_neg ei];rw [getL_cons] at h
  split at h
  ·cases h
  rename_i ei'; exact .inr ⟨rfl, by simp [ei, ei'], h⟩
 ·obtain ⟨rfl, _⟩ := getL_one h; exact q1
 ·rw [getL_cons]
  split
  ·rename_i ei; subst ei; have := hR.un i hi; rw [q1] at this; cases this
  rfl
 ·obtain ⟨rfl, rfl⟩ := getL_one h;rcases occ_pred' hb with g | g
  ·exact ⟨i, _, _, by simp, h1, q1, .inr g⟩
  exact ⟨id2, _, _, by simp, h2, q2, .inr g⟩
 ·rw [(getL_one h).1, (getL_one h').1]
 obtain ⟨rfl, rfl⟩ := getL_one h;exact .pred (hK w k1 k2 hd) hcl (fun k hk => hk.elim (lt1 k) (lt2 k))
theorem Weak.cons (id : Nat) {S : Nat → Prop} {K : World → Prop} (K' : World → Prop) (h0 : s.chunk id = some (.pred S K)) (hK : ∀ w, K w → K' w) (hcl : ∀ w w', (∀ k, S k → w'.heap[k]? = w.heap[k]?) → K' w → K' w') :
  Weak C s { n := s.n, nx := s.nx, sl := s.sl, ch := (id, some (.pred S K')) :: s.ch } := by
 refine ⟨?_⟩;rintro a w ⟨m, hR⟩;obtain ⟨p1, q1, c1, l1⟩ := hR.ch id _ h0;obtain ⟨rfl, k1, cl1, lt1⟩ := c1.predAt;refine ⟨_, hR.repack (U' := fun i => s.nx ≤ i) [(id, .pred S K')] (fun _ => (none, 0)) [id] rfl (fun i c h => ?_) (fun i c h => .inr ?_) (fun i hi => ⟨hi, ?_⟩) (fun i c b h hb => ?_) (fun i i' c c' b h h' _ _ => ?_) (fun F' _ i c h => ?_) (fun hle F' hF i => (hR.sl i).turn hle (fun k hk _ => ⟨hF k hk, rfl⟩))⟩
 ·change (getL i (_ :: _)).getD none = _ at h
  rw [getL_cons] at h;rw [getL_cons]
  split at h
  ·rename_i ei; rw [if_pos ei]; exact .inl (by simpa using h)
  rename_i ei;rw [if_neg ei];exact .inr ⟨rfl, by simpa using ei, h⟩
 ·obtain ⟨rfl, _⟩ := getL_one h; exact q1
 ·rw [getL_cons]
  split
  ·rename_i ei; subst ei; have := hR.un i hi; rw [q1] at this; cases this
  rfl
 ·obtain ⟨rfl, rfl⟩ := getL_one h;exact ⟨_, _, _, by simp, h0, q1, .inr (occ_pred' hb)⟩
 ·rw [(getL_one h).1, (getL_one h').1]
 obtain ⟨rfl, rfl⟩ := getL_one h;exact .pred (hK w k1) hcl lt1
end
def rowsV (sz n : Nat) (V : List Value) : List (List DV) := (List.range n).map fun i => (List.range sz).map fun j => DV.val ((V[i * sz + j]?).getD undef)
theorem rowsV_len (sz n : Nat) (V : List Value) : (rowsV sz n V).length = n := by simp [rowsV]
theorem rowsV_get {sz n : Nat} {V : List Value} {i : Nat} (h : i < n) : (rowsV sz n V)[i]? = some ((List.range sz).map fun j => DV.val ((V[i * sz + j]?).getD undef)) := by simp [rowsV, h]
theorem rowsV_row {sz n : Nat} {V : List Value} {i : Nat} {cs : List DV} (h : (rowsV sz n V)[i]? = some cs) : i < n ∧ cs.length = sz ∧ ∀ (j : Nat) d, cs[j]? = some d → j < sz ∧ d = .val ((V[i * sz + j]?).getD undef) := by
 have hi := (List.getElem?_eq_some_iff.1 h).1;rw [rowsV_len] at hi;rw [rowsV_get hi] at h;simp only [Option.some.injEq] at h;subst h;refine ⟨hi, by simp, fun j d hd => ?_⟩;rw [List.getElem?_map, Option.map_eq_some_iff] at hd;obtain ⟨q, hq, rfl⟩ := hd;have := (List.getElem?_eq_some_iff.1 hq).1
 have h2 : q = j := by
  have := (List.getElem?_eq_some_iff.1 hq).2;simpa using this.symm
 subst h2;exact ⟨by simpa using this, rfl⟩
theorem row_lt {i j n sz : Nat} (hi : i < n) (hj : j < sz) : i * sz + j < n * sz := by
 have h := Nat.mul_le_mul_right sz hi;rw [Nat.succ_mul] at h;omega
theorem flat_len : ∀ {els : List (List DV)} {sz : Nat}, (∀ cs, cs ∈ els → cs.length = sz) → els.flatten.length = els.length * sz
 | [], sz, _ => by simp
 | c :: els, sz, h => by
  rw [List.flatten_cons, List.length_append, flat_len (els := els) (fun cs hc => h cs (List.mem_cons_of_mem _ hc)), h c (by simp), List.length_cons, Nat.succ_mul]; omega
theorem flat_get : ∀ {els : List (List DV)} {sz : Nat} (_ : ∀ cs, cs ∈ els → cs.length = sz) {i j : Nat} {cs : List DV} {d : DV}, els[i]? = some cs → cs[j]? = some d → els.flatten[i * sz + j]? = some d
 | [], sz, _, i, j, cs, d, hi, _ => by simp at hi
 | c :: els, sz, h, i, j, cs, d, hi, hj => by
  have hc := h c (by simp);have hlt := (List.getElem?_eq_some_iff.1 hj).1;cases i with
  | zero =>
   simp at hi; subst hi;rw [List.flatten_cons, Nat.zero_mul, Nat.zero_add, List.getElem?_append_left hlt]; exact hj
  | succ i =>
   rw [List.getElem?_cons_succ] at hi;rw [List.flatten_cons, List.getElem?_append_right (by rw [hc, Nat.succ_mul]; omega), hc, show (i + 1) * sz + j - sz = i * sz + j by rw [Nat.succ_mul]; omega];exact flat_get (fun cs hc => h cs (List.mem_cons_of_mem _ hc)) hi hj
theorem rowsV_flat {els : List (List DV)} {sz : Nat} (h : ∀ cs, cs ∈ els → cs.length = sz) (hz : 0 < sz) {c : Nat} (hc : c < els.flatten.length) : ∃ i j cs d, els[i]? = some cs ∧ cs[j]? = some d ∧ c = i * sz + j ∧ els.flatten[c]? = some d := by
 rw [flat_len h] at hc;have h1 : c / sz < els.length := Nat.div_lt_of_lt_mul (by rw [Nat.mul_comm]; exact hc);have h2 : c % sz < sz := Nat.mod_lt _ hz;have e1 := List.getElem?_eq_getElem h1;have h3 := h _ (List.mem_of_getElem? e1);have e2 : c = c / sz * sz + c % sz := (Nat.div_add_mod' c sz).symm;have e3 := List.getElem?_eq_getElem (show c % sz < (els[c / sz]).length by omega);refine ⟨_, _, _, _, e1, e3, e2, ?_⟩;have := flat_get h e1 e3
 rwa [← e2] at this
theorem TRep.parts {w : World} {S : Nat → Prop} {e sz : Nat} {els : List (List DV)} {v : Value} (h : TRep w S (.view e sz els) v) (hz : 0 < sz) : ∃ (p : Option Nat × Nat) (V : List Value) (S' : Nat → Prop),
  v = .slice (p.1.map fun b => ⟨b, 0, none⟩) els.length p.2 ∧ (p.1 = none → els.length = 0 ∧ p.2 = 0) ∧ V.length = els.length * sz ∧ (∀ cs, cs ∈ els → cs.length = sz) ∧ TL w S' els.flatten V ∧ (∀ k, S k ↔ p.1 = some k ∨ S' k) ∧ (∀ k, p.1 = some k → ¬ S' k) ∧
  (∀ (c : Nat) x, els.flatten[c]? = some (.val x) → V[c]? = some x) ∧ ∀ m F, CRep m F w p (.arr e sz (rowsV sz els.length V)) := by
 cases h with
 | nil h => exact ⟨(none, 0), [], S, rfl, fun _ => ⟨rfl, rfl⟩, by simp, fun cs hc => by simp at hc, ⟨fun _ _ => False, rfl, fun i d v h => by simp at h, fun _ _ _ h => h.elim, fun k => ⟨fun h' => absurd h' (h k), fun ⟨_, h, _⟩ => by simp at h⟩⟩, fun k => by simp, fun k h => by simp at h, fun c x hc => by simp at hc, fun m F => .nil hz⟩
 | @view _ _ _ _ b cap vs fz Ts hb h1 h2 h3 h4 h5 h6 h7 h8 h9 h10 =>
  have hrow : ∀ cs, cs ∈ els → cs.length = sz := fun cs hc => by
   obtain ⟨i, hi⟩ := List.mem_iff_getElem?.1 hc;exact h6 i cs hi
  have hfl := flat_len hrow;have hcap := Nat.mul_le_mul_right sz h3;have hV : ∀ c, c < els.length * sz → ((List.range (els.length * sz)).map fun c => vs.getD c undef)[c]? = some (vs.getD c undef) := fun c hc => by simp [hc]
  have hT : ∀ c d, els.flatten[c]? = some d → TRep w (Ts c) d (vs.getD c undef) := by
   intro c d hd;obtain ⟨i, j, cs, d', e1, e2, rfl, e3⟩ := rowsV_flat hrow h5 (List.getElem?_eq_some_iff.1 hd).1;rw [e3] at hd;obtain rfl : d' = d := by simpa using hd
   exact h7 i cs j d' e1 e2
  refine ⟨(some b, cap), (List.range (els.length * sz)).map fun c => vs.getD c undef, fun k => ∃ c, c < els.length * sz ∧ Ts c k, rfl, fun h => by simp at h, by simp, hrow, ⟨Ts, by simp [hfl], fun c d v hd hv => ?_, h9, fun k => by rw [hfl]⟩, fun k => by rw [h10 k]; simp [eq_comm], fun k hk => ?_, fun c x hc => ?_, fun m F => .arr hb h1 h2 (by rw [rowsV_len]; exact h3) h4 h5 (fun i cs hi => (rowsV_row hi).2.1) (fun i cs j d hi hj => ?_)⟩
  ·have hlt := (List.getElem?_eq_some_iff.1 hd).1;rw [hfl] at hlt;rw [hV c hlt] at hv;simp only [Option.some.injEq] at hv;subst hv;exact hT c d hd
  ·simp only [Option.some.injEq] at hk;subst hk;rintro ⟨c, _, hc⟩;exact h8 c hc
  ·have hlt := (List.getElem?_eq_some_iff.1 hc).1;rw [hfl] at hlt;rw [hV c hlt];have := hT c _ hc;generalize vs.getD c undef = u at this;cases this; rfl
  obtain ⟨hi1, _, hrw⟩ := rowsV_row hi;obtain ⟨hj1, rfl⟩ := hrw j d hj;have hlt := row_lt hi1 hj1;rw [hV _ hlt, Option.getD_some];refine .val ?_;have hlt' : i * sz + j < els.flatten.length := by rw [hfl]; exact hlt
  have hE := List.getElem?_eq_getElem hlt';generalize els.flatten[i * sz + j] = dd at hE;have := hT _ _ hE;generalize vs.getD (i * sz + j) undef = u at this;cases this <;> first | assumption | trivial
theorem TRep.whole {w : World} {m : Nat → Option (Option Nat × Nat)} {F S' : Nat → Prop} {e sz : Nat} {els : List (List DV)} {V : List Value} {p : Option Nat × Nat} (hp : p.1 = none → els.length = 0 ∧ p.2 = 0) (hrow : ∀ cs, cs ∈ els → cs.length = sz) (hL : TL w S' els.flatten V) (hS : ∀ k, p.1 = some k → ¬ S' k)
  (hC : CRep m F w p (.arr e sz (rowsV sz els.length V))) : TRep w (fun k => p.1 = some k ∨ S' k) (.view e sz els) (.slice (p.1.map fun b => ⟨b, 0, none⟩) els.length p.2) := by
 have hfl := flat_len hrow;obtain ⟨Ts, g1, g2, g3, g4⟩ := hL;generalize hE : rowsV sz els.length V = E at hC;cases hC with
 | nil h =>
  have : els = [] := by
   have h2 := congrArg List.length hE;rw [rowsV_len] at h2;exact List.eq_nil_of_length_eq_zero h2
  subst this;refine .nil fun k hk => ?_
  rcases hk with hk | hk
  ·simp at hk
  obtain ⟨i, hi, _⟩ := (g4 k).1 hk;simp at hi
 | @arr b cap _ _ _ vs fz hb hf hsz hl hm h0' hrw hel =>
  subst hE;rw [rowsV_len] at hl;refine .view (fun c k => c < els.length * sz ∧ Ts c k) hb hf hsz hl hm h0' (fun i cs hi => hrow cs (List.mem_of_getElem? hi)) (fun i cs j d hi hj => ?_) (fun c hc => hS b rfl ((g4 b).2 ⟨c, by rw [hfl]; exact hc.1, hc.2⟩)) (fun c c' k h1 h2 => g3 c c' k h1.2 h2.2) (fun k => ?_)
  ·have hi1 := (List.getElem?_eq_some_iff.1 hi).1;have hj1 := (List.getElem?_eq_some_iff.1 hj).1;rw [hrow cs (List.mem_of_getElem? hi)] at hj1;have hlt := row_lt hi1 hj1;have hx := hel i _ j (DV.val ((V[i * sz + j]?).getD undef)) (rowsV_get hi1) (by simp [hj1]);have hfg := flat_get hrow hi hj;have hv := List.getElem?_eq_getElem (show i * sz + j < V.length by omega);have := g2 _ _ _ hfg hv;rw [hv, Option.getD_some] at hx;generalize vs.getD (i * sz + j) undef = u at hx;cases hx;exact this.congr fun k => by simp [hlt]
  rw [g4 k, hfl];constructor
  ·rintro (h | ⟨c, hc, hk⟩)
   ·simp only [Option.some.injEq] at h; exact .inl h.symm
   exact .inr ⟨c, hc, hc, hk⟩
  rintro (rfl | ⟨c, hc, _, hk⟩)
  ·exact .inl rfl
  exact .inr ⟨c, hc, hk⟩
theorem TL.congr {w : World} {S S' : Nat → Prop} {L : List DV} {V : List Value} (h : TL w S L V) (he : ∀ k, S k ↔ S' k) : TL w S' L V := by
 have : S = S' := funext fun k => propext (he k)
 subst this; exact h
section
variable {P : Program} [PT P] {C : Ctx} {Q : Exit → ASt → Prop} {s : ASt} {ops : Array Oper}
theorem WeakR.okI (i : Nat) {k : IntKind} {x : Int} (hs : s.get i = .d (.val (.int k x))) : WeakR C s fun t => okV (.int k x) ∧ t = s := by
 refine ⟨fun a w hR => ?_⟩;obtain ⟨m, hm⟩ := hR;have := hm.sl i;rw [hs] at this;refine ⟨s, ⟨?_, rfl⟩, m, hm⟩;generalize a.tmps.getD i undef = u at this;cases this with | d h => cases h with | val h => exact h
theorem retX (ρ : List (Nat × Nat)) {fn : Func} {k : Nat} {R : AV → List (Nat × Chunk) → Prop} {x r : AV} {chs' : List (Nat × Chunk)} (hx : resAV P s fn.results.toList = some x) (hR : R r chs') (h : r.leads (sig k ρ) x) (hc : leadsC (sig k ρ) s (chL chs')) (ha : apartL (sig k ρ) (keysC (chL chs')) = true) (hρ : ρ.all (fun p => Nat.blt p.1 (k + 8)) = true) : RetQ P fn k R s := by
 obtain ⟨x', r', c', ρ', h1, ⟨rfl, rfl⟩, h3, h4, h5, h6⟩ := (retN ρ hx h hc ha hρ : RetQ P fn k (Fun1 r chs') s).out;exact ⟨⟨x', _, _, ρ', h1, hR, h3, h4, h5, h6⟩⟩
theorem h_funR {dst : Option Nat} {ty : Nat} {pos : String} {af : Array Edge} {g : FuncId} {caps ys ars : List AV} {fx : Operand} {xs : Array Operand} {ats : Array TypeId} {chs : List (Nat × Chunk)} {R : AV → List (Nat × Chunk) → Prop} {cs : List Nat} {f : Nat} {gd : Option (Nat × Bool)} (hen : Enters P g) (hf : s.ev fx = .clo g caps) (hys : xs.toList.map s.ev ++ caps = ys)
  (hlead : AV.leadsL (sigC cs) ars ys) (hch : leadsC (sigC cs) s (chL chs)) (hspec : ASpec P g ars chs R) (hkeys : chs.map (·.1) = List.range cs.length) (hlen : chs.length = cs.length) (hnd : nodupB cs = true) :
  NOpR P cs s ⟨dst, .call { callee := .value fx, args := xs, argTypes := ats }, ty, pos, af, gd⟩ f (fun u => ∃ r chs', R r chs' ∧ u = callU cs f r chs') :=
 h_callR (cs := cs) hen hf hys hspec hlead hlen (fun id c h => by
  obtain ⟨⟨j, d, h1, h2, h3⟩, _⟩ := leadsC_get hch id c (by rw [getL_chL]; exact h)
  exact ⟨j, d, h1, h2, h3⟩) (fun id j h => by
  obtain ⟨c, hc⟩ := keys_range hkeys (i := id) (List.mem_range.2 (List.getElem?_eq_some_iff.1 h).1);obtain ⟨⟨j', d, h1, h2, _⟩, _⟩ := leadsC_get hch id c (by rw [getL_chL]; exact hc);have h1' : cs[id]? = some j' := h1;rw [h] at h1';obtain rfl : j = j' := by simpa using h1'
  exact ⟨d, h2⟩) (fun i i' j => nodupB_inj hnd i i' j)
end
def CyOk (N : Net) : Prop := (2 ≤ N.places ∧ N.places ≤ 6) ∧ N.ts.length ≤ 8 ∧ ∀ t, t ∈ N.ts → t.pre.length ≤ 3 ∧ t.post.length ≤ 3
def CyE (pos : Nat) : AV → List (Nat × Chunk) → Prop := fun r chs => ∃ (N : Net) (c : Cur), (CyOk N ∧ c.pos ≤ pos) ∧ r = .agg [aI N.places, .own 1 N.ts.length] ∧ chs = [(0, curC c), (1, .arr 153 2 (tsL N.ts))]
theorem tsL_set {ts : List Tn} {i : Nat} (t : Tn) {x : Tn} {j : Nat} {d : DV} (h : (tnD x).set j d = tnD t) : (tsL ts).set i ((tnD x).set j d) = tsL (ts.set i t) := by rw [h]; exact (List.map_set ..).symm
theorem cyAll {α : Type} {PF : α → Prop} {l : List α} {i : Nat} {x : α} (h : ∀ y, y ∈ l → PF y) (hx : PF x) : ∀ y, y ∈ l.set i x → PF y := fun y hy => by
 rcases List.mem_or_eq_of_mem_set hy with q | rfl
 ·exact h y q
 exact hx
theorem set_get {α : Type} {l : List α} {i : Nat} {x : α} (h : i < l.length) : (l.set i x)[i]? = some x := by rw [List.getElem?_set_self h]
def CyL (j : Nat) (t : Tn) : Prop := t.pre.length + j ≤ 3 ∧ t.post.length + j ≤ 3
set_option maxHeartbeats 8000000 in
theorem curCyclic_ex (c : Cur) (hp : c.pos ≤ 1000000) : ASpec Tryz.prog 146 [.ptr 0 0] [(0, curC c)] (CyE (c.pos + 100)) := by
 have hO := one_spec c 5 (by decide) (by omega);have ho := c.pick_pos 5;obtain ⟨o, hoo⟩ := eqx (c.pick 5);rw [← hoo] at hO ho;have hN := net_spec o.2 (by omega);have hNi := o.2.netT_in;have hPi : 2 ≤ o.2.netP ∧ o.2.netP ≤ 6 := by have := o.2.pick_in 5 (by decide); unfold Cur.netP; omega
 obtain ⟨T, hT⟩ := eqx o.2.netT;obtain ⟨P0, hP0⟩ := eqx o.2.netP;rw [← hT, ← hP0] at hN;rw [← hT] at hNi;rw [← hP0] at hPi;have hQ := pick_spec o.2 5 (by decide) (by omega);have hq := o.2.pick_in 5 (by decide);have hq2 := o.2.pick_pos 5;obtain ⟨q, hqq⟩ := eqx (o.2.pick 5);rw [← hqq] at hQ hq hq2;obtain ⟨P, hP⟩ : ∃ P : Nat, 2 + q.1 = (P : Int) := ⟨(2 + q.1).toNat, by omega⟩;have hR := pick_spec q.2 3 (by decide) (by omega);have hr := q.2.pick_in 3 (by decide);have hr2 := q.2.pick_pos 3;obtain ⟨r, hrr⟩ := eqx (q.2.pick 3);rw [← hrr] at hR hr hr2;clear hoo hqq hrr hT hP0;refine ASpec.of Tryz.func146 rfl rfl fun C hC => ?_
 refine AC.seq (AC.region ?_);refine kE ?_;refine AL.nil (th_n (AC.seq (AC.seq (AC.region ?_))));refine AL.p (by exact mv3 rfl) rfl ?_;refine kU [0] en_one hO ?_;refine AL.nil (th_n ?_);refine AC.condD rfl (fun h0 => ?_) (fun h0 => ?_)
 ·refine AC.seq (AC.region ?_);refine AL.p (by exact mv3 rfl) rfl ?_;refine kU [0] en_net hN ?_;refine zs ?_;refine AL.nil (th_n (AC.ret (th_r (bq_r ?_))));exact retX [(1, _)] rfl ⟨⟨P0, T.1⟩, T.2, ⟨⟨hPi, by show T.1.length ≤ 8; have := hNi.1; omega, fun t ht => by have := hNi.2.1 t ht; omega⟩, by have := hNi.2.2.1; omega⟩, rfl, rfl⟩ (by repeat (first | exact DLead.same | exact rfl | refine ⟨_, rfl, ?_⟩ | refine ⟨_, _, rfl, ?_, ?_⟩)) (by repeat (first | exact True.intro | refine And.intro ?_ ?_ | exact DLead.same | exact rfl | refine ⟨_, _, rfl, rfl, ?_⟩ | refine ⟨_, rfl, ?_⟩ | refine ⟨_, _, rfl, ?_, ?_⟩)) rfl rfl
 refine AC.skip (th_n (AC.seq (AC.region ?_)));refine AL.p (by exact mv3 rfl) rfl ?_;refine kU [0] en_pick hQ ?_;refine zA ?_;refine AL.p (by exact g_build rfl rfl rfl) rfl ?_;refine kE ?_;refine zs ?_;refine AL.nil (th_n (AC.seq (AC.seq (AC.region ?_))));refine za ?_;refine AL.nil (th_n (AC.block ?_));refine AC.loop (ι := Nat × List Tn) (fun x => ⟨94, 136, [(0, .ptr 0 0), (2, .ptr 102 0), (3, .ptr 100 0), (4, aI x.1)], [(0, some (curC q.2)), (100, some (.cells 25 [aI P, .own 101 x.2.length])), (101, some (.arr 153 2 (tsL x.2))), (102, some (.cells 25 [aI 0, .d (.val (.slice none 0 0))]))]⟩) (fun x => x.1 ≤ P ∧ x.2.length = x.1 ∧ ∀ t, t ∈ x.2 → CyL 2 t) (fun x => P - x.1) ((0, [])) ?_ (⟨Nat.zero_le _, rfl, fun t ht => absurd ht List.not_mem_nil⟩) ?_
 ·exact (Weak.nilOwnP 3 1 (e := 153) (sz := 2) rfl rfl rfl rfl rfl).trans (zw [(100, _), (101, _), (102, _)] hC)
 rintro ⟨k, ts⟩ ⟨hk, hkl, hts⟩;dsimp only at hk hkl hts ⊢;refine AC.seq (AC.seq (AC.region ?_));refine zm ?_;refine zF ?_;refine zl ?_;refine zc ?_;refine AL.nil (th_n ?_);refine AC.condD rfl (fun h1 => ?_) (fun h1 => ?_)
 ·refine AC.skip (th_n (AC.seq (AC.block ?_)));have hkP : k < P := by omega
  obtain ⟨x, hx⟩ : ∃ x, ((k : Int) + 1).tmod (P : Int) = x := ⟨_, rfl⟩;refine AC.drawn' mixed_ok [[], [0], [], [2], [], [4], [], [6], [4,5,6,7], [4,5,6,7,8], [2,3,4,5,6,7,8,9], [2,3,4,5,6,7,8,9,10], [0,1,2,3,4,5,6,7,8,9,10,11], [0,1,2,3,4,5,6,7,8,9,10,11,12], [0,1,2,3,4,5,6,7,8,9,10,11,12,13]] (by decide) ?_;refine zd 0 [] 15 (by exact g_fa_ptr rfl rfl rfl rfl rfl) ?_;refine zd 1 [0] 15 (by exact g_load_ptr rfl rfl rfl rfl rfl) ?_;refine zd 2 [] 15 (by exact mv1 rfl) ?_;refine zh 3 [2] 15 (by exact h_litF rfl rfl rfl rfl rfl rfl rfl rfl) ?_;refine zd 4 [] 15 (by exact mv1 rfl) ?_;refine zd 5 [4] 15 (by exact g_arith rfl rfl rfl (by exact wrap_i64 (by omega))) ?_;refine zd 6 [] 15 (by exact g_fa_ptr rfl rfl rfl rfl rfl) ?_;refine zd 7 [6] 15 (by exact g_load_ptr rfl rfl rfl rfl rfl) ?_;refine zd 8 [4,5,6,7] 15 (by exact g_rem (c := x) rfl rfl (by omega) hx) ?_;refine zh 9 [4,5,6,7,8] 15 (by exact h_litF rfl rfl rfl rfl rfl rfl rfl rfl) ?_;refine zd 10 [2,3,4,5,6,7,8,9] 15 (by exact g_build rfl rfl rfl) ?_;refine zh 11 [2,3,4,5,6,7,8,9,10] 15 (by exact h_litF rfl rfl rfl rfl rfl rfl rfl rfl) ?_;refine zh 12 (List.range 12) 15 (by exact h_appendT ts [⟨[(k : Int)], [x]⟩] (.own rfl rfl (tsL_len _).symm) (.view rfl) (by rw [List.length_append]; simp only [List.length_cons, List.length_nil]; omega) (by simp)) ?_;refine zd 13 (List.range 13) 15 (by exact g_fa_ptr rfl rfl rfl rfl rfl) ?_;refine zh 14 (List.range 14) 15 (by exact h_store rfl rfl rfl rfl rfl rfl) ?_;refine zj 15 ?_;refine ib_n (th_n (AC.region ?_));refine zm ?_;refine zA ?_;refine za ?_;refine AL.nil (th_n ?_);exact ⟨(k + 1, ts ++ [⟨[(k : Int)], [x]⟩]), ⟨by dsimp only; omega, by dsimp only; rw [List.length_append, hkl]; rfl, fun t ht => (List.mem_append.1 ht).elim (hts t) (fun g => by rw [List.mem_singleton.1 g]; exact ⟨Nat.le_refl _, Nat.le_refl _⟩)⟩, by dsimp only; omega, zw [(100, _), (101, _), (102, _)] hC⟩
 refine AC.exit (th_e (th_e (ib_y (th_n (AC.seq (AC.seq (AC.region ?_)))))));refine AL.p (by exact mv3 rfl) rfl ?_;refine kU [0] en_pick hR ?_;refine za ?_;refine AL.nil (th_n (AC.block ?_));refine AC.loop (ι := Nat × Cur × List Tn) (fun y => ⟨94, 300, [(0, .ptr 0 0), (2, .ptr 102 0), (3, .ptr 100 0), (5, aI y.1)], [(0, some (curC y.2.1)), (100, some (.cells 25 [aI P, .own 101 y.2.2.length])), (101, some (.arr 153 2 (tsL y.2.2))), (102, some (.cells 25 [aI 0, .d (.val (.slice none 0 0))]))]⟩) (fun y => y.1 ≤ 2 ∧ y.2.2.length = P ∧ y.2.1.pos + 20 * y.1 ≤ c.pos + 60 ∧ ∀ t, t ∈ y.2.2 → CyL y.1 t) (fun y => y.1) ((r.1.toNat, r.2, ts)) ?_ (⟨by dsimp only; omega, by dsimp only; omega, by dsimp only; omega, fun t ht => by have := hts t ht; unfold CyL at this ⊢; omega⟩) ?_
 ·exact zw [(100, 100), (101, 101), (102, 102)] hC
 rintro ⟨j, e, us⟩ ⟨hj, hul, hep, hus⟩;dsimp only at hj hul hep hus ⊢;refine AC.seq (AC.seq (AC.region ?_));refine zm ?_;refine zc ?_;refine AL.nil (th_n ?_);refine AC.condD rfl (fun h2 => ?_) (fun h2 => ?_)
 ·refine AC.skip (th_n ?_);refine AC.cut (fun (z : Cur × List Tn) => ⟨94, 1200, [(0, .ptr 0 0), (2, .ptr 102 0), (3, .ptr 100 0), (5, aI j)], [(0, some (curC z.1)), (100, some (.cells 25 [aI P, .own 101 z.2.length])), (101, some (.arr 153 2 (tsL z.2))), (102, some (.cells 25 [aI 0, .d (.val (.slice none 0 0))]))]⟩) (fun z => 1 ≤ j ∧ z.2.length = P ∧ z.1.pos + 20 * (j - 1) ≤ c.pos + 60 ∧ ∀ t, t ∈ z.2 → CyL (j - 1) t) ?_ ?_
  ·refine AC.block (AC.seq ?_);have hK := pick_spec e us.length (by omega) (by omega);have hk1 := e.pick_in us.length (by omega);have hk2 := e.pick_pos us.length;obtain ⟨K, hKK⟩ := eqx (e.pick us.length);rw [← hKK] at hK hk1 hk2;obtain ⟨i, hi⟩ : ∃ i : Nat, K.1 = (i : Int) := ⟨K.1.toNat, by omega⟩;have hil : i < us.length := by omega
   have hrow : (tsL us)[i]? = some (tnD us[i]) := by rw [List.getElem?_map, List.getElem?_eq_getElem hil]; rfl
   have hui := hus _ (List.getElem_mem hil);obtain ⟨t, ht⟩ := eqx (us[i]);rw [← ht] at hrow hui;have hY := pick_spec K.2 P (by omega) (by omega);have hy2 := K.2.pick_pos P;obtain ⟨Y, hYY⟩ := eqx (K.2.pick P);rw [← hYY] at hY hy2;have hpu := l1Put_spec t.pre Y.1 (by unfold CyL at hui; omega);have hpl := putI_len t.pre Y.1;have hst := tsL_set (ts := us) (i := i) ⟨putI t.pre Y.1, t.post⟩ (x := t) (j := 0) (d := vI (putI t.pre Y.1)) rfl;have hO2 := one_spec Y.2 2 (by decide) (by omega);have ho2 := Y.2.pick_pos 2;obtain ⟨o2, hoo2⟩ := eqx (Y.2.pick 2);rw [← hoo2] at hO2 ho2;have hZ := pick_spec o2.2 P (by omega) (by omega);have hz2 := o2.2.pick_pos P;obtain ⟨Z, hZZ⟩ := eqx (o2.2.pick P);rw [← hZZ] at hZ hz2;have hpz := l1Put_spec t.post Z.1 (by unfold CyL at hui; omega);have hpzl := putI_len t.post Z.1;clear hKK hYY hoo2 hZZ ht;refine AC.drawn' mixed_ok [[], [0], [], [], [3], [3,4], [2,3,4,5], [0,1,2,3,4,5,6], [0,1,2,3,4,5,6,7]] (by decide) ?_;refine zd 0 [] 9 (by exact g_fa_ptr rfl rfl rfl rfl rfl) ?_;refine zd 1 [0] 9 (by exact g_load_ptr rfl rfl rfl rfl rfl) ?_;refine zd 2 [] 9 (by exact mv3 rfl) ?_;refine zd 3 [] 9 (by exact g_fa_ptr rfl rfl rfl rfl rfl) ?_;refine zd 4 [3] 9 (by exact g_load_ptr rfl rfl rfl rfl rfl) ?_;refine zd 5 [3,4] 9 (by exact g_len_own (sz := 1) (els := []) (e' := 0) rfl rfl (by simp only [maxLen]; omega)) ?_;refine zh 6 [2,3,4,5] 9 (by exact h_fun (cs := [0]) en_pick rfl rfl (by repeat (first | exact rfl | exact DLead.same | refine ⟨_, _, rfl, ?_, ?_⟩ | refine ⟨_, rfl, ?_⟩)) (by repeat (first | exact True.intro | refine And.intro ?_ ?_ | exact DLead.same | exact rfl | refine ⟨_, _, rfl, rfl, ?_⟩ | refine ⟨_, rfl, ?_⟩ | refine ⟨_, _, rfl, ?_, ?_⟩)) hK rfl rfl rfl rfl) ?_;refine zd 7 [0,1,2,3,4,5,6] 9 (by exact g_ia_own (i := i) (l := us.length) rfl rfl rfl rfl rfl hi hil rfl) ?_;refine zd 8 [0,1,2,3,4,5,6,7] 9 (by exact as3 rfl) ?_;refine zj 9 ?_;refine th_n (AC.seq ?_);refine AC.weak (t := ⟨94, 600, [(0, .ptr 0 0), (2, .ptr 102 0), (3, .ptr 100 0), (5, aI j), (6, .ptr 101 (i * 2))], [(0, some (curC K.2)), (100, some (.cells 25 [aI P, .own 101 us.length])), (101, some (.arr 153 2 (tsL us))), (102, some (.cells 25 [aI 0, .d (.val (.slice none 0 0))]))]⟩) (zw [(100, 100), (101, 101), (102, 102)] hC) ?_;refine AC.drawn' mixed_ok [[], [], [1], [1,2], [1,2,3], [], [], [6], [5,6,7], [1,2,3,4,5,6,7,8], [0,1,2,3,4,5,6,7,8,9], [0,1,2,3,4,5,6,7,8,9,10], [0,1,2,3,4,5,6,7,8,9,10,11]] (by decide) ?_;refine zd 0 [] 13 (by exact mv3 rfl) ?_;refine zd 1 [] 13 (by exact mv3 rfl) ?_;refine zd 2 [1] 13 (by exact g_nilP rfl) ?_;refine zd 3 [1,2] 13 (by exact g_fa_ptr rfl rfl rfl rfl rfl) ?_;refine zd 4 [1,2,3] 13 (by exact g_load_arr (i := i) (j := 0) rfl rfl rfl rfl rfl hrow rfl) ?_;refine zd 5 [] 13 (by exact mv3 rfl) ?_;refine zd 6 [] 13 (by exact g_fa_ptr rfl rfl rfl rfl rfl) ?_;refine zd 7 [6] 13 (by exact g_load_ptr rfl rfl rfl rfl rfl) ?_;refine zh 8 [5,6,7] 13 (by exact h_fun (cs := [0]) en_pick rfl rfl (by repeat (first | exact rfl | exact DLead.same | refine ⟨_, _, rfl, ?_, ?_⟩ | refine ⟨_, rfl, ?_⟩)) (by repeat (first | exact True.intro | refine And.intro ?_ ?_ | exact DLead.same | exact rfl | refine ⟨_, _, rfl, rfl, ?_⟩ | refine ⟨_, rfl, ?_⟩ | refine ⟨_, _, rfl, ?_, ?_⟩)) hY rfl rfl rfl rfl) ?_;refine zh 9 [1,2,3,4,5,6,7,8] 13 (by exact h_pure en_l1Put rfl rfl (by repeat (first | exact rfl | exact DLead.same | refine ⟨_, _, rfl, ?_, ?_⟩)) hpu rfl) ?_;refine zd 10 (List.range 10) 13 (by exact g_nilP rfl) ?_;refine zd 11 (List.range 11) 13 (by exact g_fa_ptr rfl rfl rfl rfl rfl) ?_;refine zh 12 (List.range 12) 13 (by exact h_store_arr (i := i) (j := 0) (d := vI (putI t.pre Y.1)) rfl rfl rfl rfl .same rfl hrow (by decide)) ?_;refine zj 13 ?_;refine th_n (AC.seq ?_);refine AC.weak (t := ⟨94, 900, [(0, .ptr 0 0), (2, .ptr 102 0), (3, .ptr 100 0), (5, aI j), (6, .ptr 101 (i * 2))], [(0, some (curC Y.2)), (100, some (.cells 25 [aI P, .own 101 us.length])), (101, some (.arr 153 2 (tsL (us.set i ⟨putI t.pre Y.1, t.post⟩)))), (102, some (.cells 25 [aI 0, .d (.val (.slice none 0 0))]))]⟩) (zw [(100, 100), (101, 101), (102, 102)] hC (b := by rw [← hst]; repeat (first | exact True.intro | refine And.intro ?_ ?_ | exact DLead.same | exact rfl | refine ⟨_, _, rfl, rfl, ?_⟩ | refine ⟨_, rfl, ?_⟩ | refine ⟨_, _, rfl, ?_, ?_⟩))) ?_
   refine AC.region ?_;refine AL.p (by exact mv3 rfl) rfl ?_;refine kU [0] en_one hO2 ?_;refine AL.nil (th_n ?_);refine AC.condD rfl (fun h3 => ?_) (fun h3 => ?_)
   ·have hrow2 : (tsL (us.set i ⟨putI t.pre Y.1, t.post⟩))[i]? = some (tnD ⟨putI t.pre Y.1, t.post⟩) := by rw [List.getElem?_map, set_get hil]; rfl
    have hst2 := tsL_set (ts := us.set i ⟨putI t.pre Y.1, t.post⟩) (i := i) ⟨putI t.pre Y.1, putI t.post Z.1⟩ (x := ⟨putI t.pre Y.1, t.post⟩) (j := 1) (d := vI (putI t.post Z.1)) rfl;rw [List.set_set] at hst2;refine AC.drawn' mixed_ok [[], [], [1], [1,2], [1,2,3], [], [], [6], [5,6,7], [1,2,3,4,5,6,7,8], [0,1,2,3,4,5,6,7,8,9], [0,1,2,3,4,5,6,7,8,9,10], [0,1,2,3,4,5,6,7,8,9,10,11]] (by decide) ?_;refine zd 0 [] 13 (by exact mv3 rfl) ?_;refine zd 1 [] 13 (by exact mv3 rfl) ?_;refine zd 2 [1] 13 (by exact g_nilP rfl) ?_;refine zd 3 [1,2] 13 (by exact g_fa_ptr rfl rfl rfl rfl rfl) ?_;refine zd 4 [1,2,3] 13 (by exact g_load_arr (i := i) (j := 1) rfl rfl rfl rfl rfl hrow2 rfl) ?_;refine zd 5 [] 13 (by exact mv3 rfl) ?_;refine zd 6 [] 13 (by exact g_fa_ptr rfl rfl rfl rfl rfl) ?_;refine zd 7 [6] 13 (by exact g_load_ptr rfl rfl rfl rfl rfl) ?_;refine zh 8 [5,6,7] 13 (by exact h_fun (cs := [0]) en_pick rfl rfl (by repeat (first | exact rfl | exact DLead.same | refine ⟨_, _, rfl, ?_, ?_⟩ | refine ⟨_, rfl, ?_⟩)) (by repeat (first | exact True.intro | refine And.intro ?_ ?_ | exact DLead.same | exact rfl | refine ⟨_, _, rfl, rfl, ?_⟩ | refine ⟨_, rfl, ?_⟩ | refine ⟨_, _, rfl, ?_, ?_⟩)) hZ rfl rfl rfl rfl) ?_;refine zh 9 [1,2,3,4,5,6,7,8] 13 (by exact h_pure en_l1Put rfl rfl (by repeat (first | exact rfl | exact DLead.same | refine ⟨_, _, rfl, ?_, ?_⟩)) hpz rfl) ?_;refine zd 10 (List.range 10) 13 (by exact g_nilP rfl) ?_;refine zd 11 (List.range 11) 13 (by exact g_fa_ptr rfl rfl rfl rfl rfl) ?_;refine zh 12 (List.range 12) 13 (by exact h_store_arr (i := i) (j := 1) (d := vI (putI t.post Z.1)) rfl rfl rfl rfl .same rfl hrow2 (by decide)) ?_;refine zj 13 ?_;refine ib_n (th_n ?_)
    (have g := ‹o2.1 = 0›; exact ⟨(Z.2, us.set i ⟨putI t.pre Y.1, putI t.post Z.1⟩), ⟨by omega, by dsimp only; rw [List.length_set]; exact hul, by dsimp only; omega, cyAll (fun y hy => by have := hus y hy; unfold CyL at this ⊢; omega) (by unfold CyL at hui ⊢; dsimp only; omega)⟩, zw [(100, 100), (101, 101), (102, 102)] hC (b := by rw [List.length_set, ← hst2]; repeat (first | exact True.intro | refine And.intro ?_ ?_ | exact DLead.same | exact rfl | refine ⟨_, _, rfl, rfl, ?_⟩ | refine ⟨_, rfl, ?_⟩ | refine ⟨_, _, rfl, ?_, ?_⟩))⟩)
   refine AC.skip (ib_n (th_n ?_))
   (have g := ‹¬ o2.1 = 0›; exact ⟨(o2.2, us.set i ⟨putI t.pre Y.1, t.post⟩), ⟨by omega, by dsimp only; rw [List.length_set]; exact hul, by dsimp only; omega, cyAll (fun y hy => by have := hus y hy; unfold CyL at this ⊢; omega) (by unfold CyL at hui ⊢; dsimp only; omega)⟩, zw [(100, 100), (101, 101), (102, 102)] hC (b := by rw [List.length_set]; repeat (first | exact True.intro | refine And.intro ?_ ?_ | exact DLead.same | exact rfl | refine ⟨_, _, rfl, rfl, ?_⟩ | refine ⟨_, rfl, ?_⟩ | refine ⟨_, _, rfl, ?_, ?_⟩))⟩)
  rintro ⟨e2, vs⟩ ⟨hj1, hvl, hep2, hvs⟩;dsimp only at hvl hep2 hvs ⊢;refine AC.region ?_;refine zm ?_;refine zA ?_;refine za ?_;refine AL.nil (th_n ?_);exact ⟨(j - 1, e2, vs), ⟨by dsimp only; omega, hvl, hep2, hvs⟩, by dsimp only; omega, zw [(100, 100), (101, 101), (102, 102)] hC⟩
 refine AC.exit (th_e (th_e (ib_y (th_n ?_))));refine AC.cut (fun (z : Cur × List Tn) => ⟨94, 1500, [(2, .ptr 102 0), (3, .ptr 100 0)], [(0, some (curC z.1)), (100, some (.cells 25 [aI P, .own 101 z.2.length])), (101, some (.arr 153 2 (tsL z.2))), (102, some (.cells 25 [aI 0, .d (.val (.slice none 0 0))]))]⟩) (fun z => z.2.length ≤ 8 ∧ z.1.pos ≤ c.pos + 100 ∧ ∀ t, t ∈ z.2 → CyL 0 t) ?_ ?_
 ·refine AC.seq ?_;have hO3 := one_spec e 2 (by decide) (by omega);have ho3 := e.pick_pos 2;obtain ⟨o3, hoo3⟩ := eqx (e.pick 2);rw [← hoo3] at hO3 ho3;have hA := pick_spec o3.2 P (by omega) (by omega);have ha := o3.2.pick_pos P;obtain ⟨A, hAA⟩ := eqx (o3.2.pick P);rw [← hAA] at hA ha;have hB := pick_spec A.2 P (by omega) (by omega);have hb := A.2.pick_pos P;obtain ⟨B, hBB⟩ := eqx (A.2.pick P);rw [← hBB] at hB hb;clear hoo3 hAA hBB;refine AC.region ?_;refine AL.p (by exact mv3 rfl) rfl ?_;refine kU [0] en_one hO3 ?_;refine AL.nil (th_n ?_);refine AC.condD rfl (fun h3 => ?_) (fun h3 => ?_)
  ·refine AC.drawn' mixed_ok [[], [0], [], [], [3], [2,3,4], [2,3,4,5], [], [], [8], [2,3,4,5,7,8,9], [2,3,4,5,7,8,9,10], [2,3,4,5,6,7,8,9,10,11], [2,3,4,5,6,7,8,9,10,11,12], [0,1,2,3,4,5,6,7,8,9,10,11,12,13], [0,1,2,3,4,5,6,7,8,9,10,11,12,13,14], [0,1,2,3,4,5,6,7,8,9,10,11,12,13,14,15]] (by decide) ?_;refine zd 0 [] 17 (by exact g_fa_ptr rfl rfl rfl rfl rfl) ?_;refine zd 1 [0] 17 (by exact g_load_ptr rfl rfl rfl rfl rfl) ?_;refine zd 2 [] 17 (by exact mv3 rfl) ?_;refine zd 3 [] 17 (by exact g_fa_ptr rfl rfl rfl rfl rfl) ?_;refine zd 4 [3] 17 (by exact g_load_ptr rfl rfl rfl rfl rfl) ?_;refine zh 5 [2,3,4] 17 (by exact h_fun (cs := [0]) en_pick rfl rfl (by repeat (first | exact rfl | exact DLead.same | refine ⟨_, _, rfl, ?_, ?_⟩ | refine ⟨_, rfl, ?_⟩)) (by repeat (first | exact True.intro | refine And.intro ?_ ?_ | exact DLead.same | exact rfl | refine ⟨_, _, rfl, rfl, ?_⟩ | refine ⟨_, rfl, ?_⟩ | refine ⟨_, _, rfl, ?_, ?_⟩)) hA rfl rfl rfl rfl) ?_;refine zh 6 [2,3,4,5] 17 (by exact h_litF rfl rfl rfl rfl rfl rfl rfl rfl) ?_;refine zd 7 [] 17 (by exact mv3 rfl) ?_;refine zd 8 [] 17 (by exact g_fa_ptr rfl rfl rfl rfl rfl) ?_;refine zd 9 [8] 17 (by exact g_load_ptr rfl rfl rfl rfl rfl) ?_;refine zh 10 [2,3,4,5,7,8,9] 17 (by exact h_fun (cs := [0]) en_pick rfl rfl (by repeat (first | exact rfl | exact DLead.same | refine ⟨_, _, rfl, ?_, ?_⟩ | refine ⟨_, rfl, ?_⟩)) (by repeat (first | exact True.intro | refine And.intro ?_ ?_ | exact DLead.same | exact rfl | refine ⟨_, _, rfl, rfl, ?_⟩ | refine ⟨_, rfl, ?_⟩ | refine ⟨_, _, rfl, ?_, ?_⟩)) hB rfl rfl rfl rfl) ?_;refine zh 11 [2,3,4,5,7,8,9,10] 17 (by exact h_litF rfl rfl rfl rfl rfl rfl rfl rfl) ?_;refine zd 12 [2,3,4,5,6,7,8,9,10,11] 17 (by exact g_build rfl rfl rfl) ?_;refine zh 13 [2,3,4,5,6,7,8,9,10,11,12] 17 (by exact h_litF rfl rfl rfl rfl rfl rfl rfl rfl) ?_;refine zh 14 (List.range 14) 17 (by exact h_appendT us [⟨[A.1], [B.1]⟩] (.own rfl rfl (tsL_len _).symm) (.view rfl) (by rw [List.length_append]; simp only [List.length_cons, List.length_nil]; omega) (by simp)) ?_;refine zd 15 (List.range 15) 17 (by exact g_fa_ptr rfl rfl rfl rfl rfl) ?_;refine zh 16 (List.range 16) 17 (by exact h_store rfl rfl rfl rfl rfl rfl) ?_;refine zj 17 ?_;refine th_n ?_
   (have g := ‹o3.1 = 0›; exact ⟨(B.2, us ++ [⟨[A.1], [B.1]⟩]), ⟨by dsimp only; rw [List.length_append, List.length_singleton]; omega, by dsimp only; omega, fun t ht => (List.mem_append.1 ht).elim (fun h => by have := hus t h; unfold CyL at this ⊢; omega) (fun g => by rw [List.mem_singleton.1 g]; exact ⟨Nat.le_of_ble_eq_true rfl, Nat.le_of_ble_eq_true rfl⟩)⟩, zw [(100, 100), (101, _), (102, 102)] hC⟩)
  refine AC.skip (th_n ?_)
  (have g := ‹¬ o3.1 = 0›; exact ⟨(o3.2, us), ⟨by dsimp only; omega, by dsimp only; omega, fun t ht => by have := hus t ht; unfold CyL at this ⊢; omega⟩, zw [(100, 100), (101, 101), (102, 102)] hC⟩)
 rintro ⟨e3, ws⟩ ⟨hwl, hep3, hws⟩;dsimp only at hwl hep3 hws ⊢;refine AC.seq (AC.region ?_);refine AL.p (by exact g_load_ptrN rfl rfl rfl rfl rfl) rfl ?_;refine zs ?_;refine AL.nil (th_n (AC.ret (bq_r ?_)));exact retX [(1, 101)] rfl ⟨⟨P, ws⟩, e3, ⟨⟨⟨by show (2 : Int) ≤ (P : Int); omega, by show (P : Int) ≤ 6; omega⟩, hwl, fun t ht => by have := hws t ht; unfold CyL at this; omega⟩, hep3⟩, rfl, rfl⟩ (by repeat (first | exact DLead.same | exact rfl | refine ⟨_, rfl, ?_⟩ | refine ⟨_, _, rfl, ?_, ?_⟩)) (by repeat (first | exact True.intro | refine And.intro ?_ ?_ | exact DLead.same | exact rfl | refine ⟨_, _, rfl, rfl, ?_⟩ | refine ⟨_, rfl, ?_⟩ | refine ⟨_, _, rfl, ?_, ?_⟩)) rfl rfl
theorem en_curCyclic : Enters Tryz.prog 146 := enters_of Tryz.func146 rfl rfl
section
variable {P : Program} [PT P] {C : Ctx} {s : ASt}
theorem Weak.freezeA {i id k n e sz : Nat} {cs : List AV} {els els' : List (List DV)} (hs : s.get i = .agg cs) (hk : cs[k]? = some (.own id n)) (hc : s.chunk id = some (.arr e sz els)) (hn : n ≤ els.length) (he : els.take n = els') : Weak C s { n := s.n, nx := s.nx, sl := (i, .agg (cs.set k (.d (.view e sz els')))) :: s.sl, ch := (id, none) :: s.ch } := by
 subst he;refine ⟨?_⟩;rintro a w ⟨m, hR⟩
 have hch : ∀ j c, (getL j ((id, none) :: s.ch)).getD none = some c → j ≠ id ∧ s.chunk j = some c := by
  intro j c h;rw [getL_cons] at h
  split at h
  ·simp at h
  rename_i e; exact ⟨e, h⟩
 have hF : ∀ q, Fz C m s w q → Fz C m { n := s.n, nx := s.nx, sl := (i, .agg (cs.set k (.d (.view e sz (els.take n))))) :: s.sl, ch := (id, none) :: s.ch } w q := fun q hq => ⟨hq.1, hq.2.1, fun j c p h1 h2 => hq.2.2 j c p (hch j c h1).2 h2⟩
 obtain ⟨q, hq, hCq, hloc⟩ := hR.ch id _ hc
 have hFb : ∀ b, q.1 = some b → Fz C m { n := s.n, nx := s.nx, sl := (i, .agg (cs.set k (.d (.view e sz (els.take n))))) :: s.sl, ch := (id, none) :: s.ch } w b := by
  intro b hb;refine ⟨.inr (hloc b (.inl hb)), hCq.lt (.inl hb), fun j c p h1 h2 h3 => ?_⟩;obtain ⟨hne, h4⟩ := hch j c h1;exact hne (hR.inj j id c _ p q h4 hc h2 hq b h3 (.inl hb))
 refine ⟨m, hR.fr, hR.fin, hR.sz, fun j => ?_, fun j c h1 => ?_, fun j j' c c' p p' h1 h2 hp hp' b hb hb' => hR.inj j j' c c' p p' (hch j c h1).2 (hch j' c' h2).2 hp hp' b hb hb', hR.un, hR.defers, hR.m0, hR.m0k⟩
 ·show ARep _ _ _ ((getL j ((i, .agg (cs.set k (.d (.view e sz (els.take n))))) :: s.sl)).getD .dead) _;rw [getL_cons]
  by_cases hj : j = i
  ·subst hj;rw [if_pos rfl];have hv := hR.sl j;rw [hs] at hv;generalize a.tmps.getD j undef = v at hv;simp only [Option.getD_some];cases hv with
   | agg g1 g2 g3 =>
    refine .agg (by rw [List.length_set]; exact g1) (fun i' c hc' => ?_) g3
    by_cases hik : k = i'
    ·subst hik;rw [List.getElem?_set_self (List.getElem?_eq_some_iff.1 hk).1] at hc';simp only [Option.some.injEq] at hc';subst hc';exact .d (own_view (g2 k _ hk) hq (hR.chunkAt hc hq) hn hF hFb)
    rw [List.getElem?_set_ne hik] at hc';exact (g2 i' c hc').turn (MLe.refl m) (fun k hk _ => ⟨hF k hk, rfl⟩)
  rw [if_neg hj];exact (hR.sl j).turn (MLe.refl m) (fun k hk _ => ⟨hF k hk, rfl⟩)
 obtain ⟨hne, h4⟩ := hch j c h1;obtain ⟨p, hp, hr, hl⟩ := hR.ch j c h4;exact ⟨p, hp, hr.turn (MLe.refl m) (fun k hk _ => ⟨hF k hk, rfl⟩) (fun _ _ => rfl), hl⟩
end
set_option maxHeartbeats 1000000 in
theorem pickB_spec (c : Cur) (n : Int) (hn : n ≤ 1000000000) (hp : c.pos ≤ 100000000000000) : ASpec Tryz.prog 48 [.ptr 0 0, aI n] [(0, curC c)] (Fun1 (aI (c.pick n).1) [(0, curC (c.pick n).2)]) := by
 have hi := c.next_in;have hi2 := c.after.next_in;have hpa : c.after.pos ≤ 1000000000000000 := by show c.pos + 1 ≤ _; omega
 refine ASpec.of Tryz.func48 rfl rfl fun C hC => ?_
 refine AC.seq (AC.region ?_);refine za ?_;refine AL.nil (th_n (AC.seq (AC.seq (AC.region ?_))));refine zm ?_;refine zc ?_;refine AL.nil (th_n ?_);refine AC.condD rfl (fun h0 => ?_) (fun h0 => ?_)
 ·refine AC.seq (AC.region ?_);refine za ?_;refine AL.nil (th_n (AC.ret (th_r (bq_r ?_))));have e : c.pick n = (0, c) := by unfold Cur.pick; rw [if_pos h0]
  exact retF rfl (by rw [e]; repeat (exact DLead.same)) (by rw [e]; repeat (first | exact True.intro | refine And.intro ?_ ?_ | exact DLead.same | exact rfl | refine ⟨_, _, rfl, rfl, ?_⟩ | refine ⟨_, rfl, ?_⟩ | refine ⟨_, _, rfl, ?_, ?_⟩)) rfl
 refine AC.skip (th_n (AC.seq (AC.region ?_)));refine AL.p (by exact mv3 rfl) rfl ?_;refine AL.q (by exact h_fun (cs := [0]) en_next rfl rfl (by repeat (first | exact rfl | refine ⟨_, _, rfl, ?_, ?_⟩ | refine ⟨_, rfl, ?_⟩)) (by repeat (first | exact True.intro | refine And.intro ?_ ?_ | exact DLead.same | exact rfl | refine ⟨_, _, rfl, rfl, ?_⟩ | refine ⟨_, rfl, ?_⟩ | refine ⟨_, _, rfl, ?_, ?_⟩)) (next_spec _ (by omega)) rfl rfl rfl rfl) rfl ?_;refine za ?_;refine AL.nil (th_n (AC.seq (AC.seq (AC.region ?_))));refine zm ?_;refine zc ?_;refine AL.nil (th_n ?_);refine AC.condD rfl (fun h1 => ?_) (fun h1 => ?_)
 ·refine AC.region ?_;refine zm ?_;refine zA ?_;refine AL.p (by exact mv3 rfl) rfl ?_;refine AL.q (by exact h_fun (cs := [0]) en_next rfl rfl (by repeat (first | exact rfl | refine ⟨_, _, rfl, ?_, ?_⟩ | refine ⟨_, rfl, ?_⟩)) (by repeat (first | exact True.intro | refine And.intro ?_ ?_ | exact DLead.same | exact rfl | refine ⟨_, _, rfl, rfl, ?_⟩ | refine ⟨_, rfl, ?_⟩ | refine ⟨_, _, rfl, ?_, ?_⟩)) (next_spec _ (by assumption)) rfl rfl rfl rfl) rfl ?_;refine zA ?_;refine za ?_;refine AL.nil (th_n (AC.seq (AC.region ?_)));refine zm ?_;refine zm ?_;refine AL.p (by exact g_rem rfl rfl (by omega) rfl) rfl ?_;refine za ?_;refine AL.nil (th_n (AC.ret (bq_r ?_)))
  (have e : c.pick n = ((c.next * 256 + c.after.next).tmod n, c.after.after) := (by unfold Cur.pick; rw [if_neg h0, if_pos h1]); exact retF rfl (by rw [e]; repeat (exact DLead.same)) (by rw [e]; repeat (first | exact True.intro | refine And.intro ?_ ?_ | exact DLead.same | exact rfl | refine ⟨_, _, rfl, rfl, ?_⟩ | refine ⟨_, rfl, ?_⟩ | refine ⟨_, _, rfl, ?_, ?_⟩)) rfl)
 refine AC.skip (th_n (AC.seq (AC.region ?_)));refine zm ?_;refine zm ?_;refine AL.p (by exact g_rem rfl rfl (by omega) rfl) rfl ?_;refine za ?_;refine AL.nil (th_n (AC.ret (bq_r ?_)))
 (have e : c.pick n = (c.next.tmod n, c.after) := (by unfold Cur.pick; rw [if_neg h0, if_neg h1]); exact retF rfl (by rw [e]; repeat (exact DLead.same)) (by rw [e]; repeat (first | exact True.intro | refine And.intro ?_ ?_ | exact DLead.same | exact rfl | refine ⟨_, _, rfl, rfl, ?_⟩ | refine ⟨_, rfl, ?_⟩ | refine ⟨_, _, rfl, ?_, ?_⟩)) rfl)
structure UnfK (u : Unf) : Prop where
 w : WF u
 e : u.es.length ≤ 7
 c : u.cs.length ≤ 6 + 3 * u.es.length
theorem CyOk.B {N : Net} (h : CyOk N) : NetB N := ⟨by have := h.1; omega, by have := h.2.1; omega, fun t ht => by have := h.2.2 t ht; omega⟩
theorem UnfK.fit {N : Net} {u : Unf} {h : Ev} (hN : CyOk N) (hu : UnfK u) (he : u.es.length < 7) (hf : fitsI N u h = true) : UnfK (withI N u h) ∧ (withI N u h).es.length = u.es.length + 1 := by
 have hr := fits_rising hf;have hl := rising_len hr;have hc := hu.c;have hpl := (hN.2.2 _ (tAt_mem (fits_inR hf))).2;have hcl : (withI N u h).cs.length = u.cs.length + (tAt N h.t).post.length := withC_len _ _;have hel : (withI N u h).es.length = u.es.length + 1 := by show (u.es ++ [h]).length = _; rw [List.length_append]; rfl
 refine ⟨⟨⟨?_, ?_, ?_, by omega, by omega⟩, by omega, by omega⟩, hel⟩
 ·intro e he c hc';rcases List.mem_append.1 he with h1 | h1
  ·have := hu.w.p e h1 c hc'; omega
  rw [List.mem_singleton] at h1; subst h1;have := rising_in hr c hc'; omega
 ·intro c hc';rcases List.mem_append.1 hc' with h1 | h1
  ·have := hu.w.b c h1; omega
  obtain ⟨p, hp, rfl⟩ := List.mem_map.1 h1;show -1 ≤ (u.es.length : Int) ∧ (u.es.length : Int) < _;omega
 intro e he;rcases List.mem_append.1 he with h1 | h1
 ·exact hu.w.l e h1
 rw [List.mem_singleton] at h1; subst h1; omega
theorem unfK_zero {N : Net} (hN : CyOk N) (m : List UInt8) : UnfK ⟨madeI N m, []⟩ := by
 have h1 := madeL_len m N.places.toNat;have h2 := hN.1;refine ⟨⟨fun e he => absurd he List.not_mem_nil, fun c hc => ?_, fun e he => absurd he List.not_mem_nil, Nat.zero_le _, by show (madeL m N.places.toNat).length ≤ _; omega⟩, Nat.zero_le _, by show (madeL m N.places.toNat).length ≤ _; omega⟩;obtain ⟨p, _, rfl⟩ := List.mem_map.1 (show c ∈ madeL m N.places.toNat from hc);exact ⟨Int.le_refl _, by show (-1 : Int) < _; omega⟩
theorem limB_t {u : Unf} (h : UnfK u) : limB u = true := by
 unfold limB;rw [Bool.and_eq_true, decide_eq_true_eq, decide_eq_true_eq];have := h.e;have := h.c;omega
def UnE (pos : Nat) : AV → List (Nat × Chunk) → Prop := fun r chs => ∃ (N : Net) (m : List UInt8) (u : Unf) (c : Cur), (CyOk N ∧ m.length ≤ 6 ∧ UnfK u ∧ c.pos ≤ pos) ∧ r = .tup [netA N, aS (bstr m), .agg [.own 1 u.cs.length, .own 2 u.es.length]] ∧ chs = [(0, curC c), (1, .arr 143 2 (condsL u.cs)), (2, .arr 59 2 (evsL u.es))]
theorem vNE_get {l : List Ev} {k : Nat} (h : k < l.length) : (l.map fun x => [dI x.t, nI x.pre])[k]? = some [dI l[k].t, nI l[k].pre] := by rw [List.getElem?_map, List.getElem?_eq_getElem h]; rfl
set_option maxHeartbeats 8000000 in
theorem curUnfolded_ex (c : Cur) (hp : c.pos ≤ 100000) : ASpec Tryz.prog 104 [.ptr 0 0, aI 7] [(0, curC c)] (UnE (c.pos + 200)) := by
 have hCy := curCyclic_ex c (by omega);refine ASpec.of Tryz.func104 rfl rfl fun C hC => ?_
 refine AC.seq (AC.region ?_);refine kE ?_;refine za ?_;refine kE ?_;refine AL.nil (th_n (AC.seq (AC.region ?_)));refine AL.p (by exact mv3 rfl) rfl ?_;refine AL.r (by exact h_funR (cs := [0]) en_curCyclic rfl rfl (by repeat (first | exact rfl | refine ⟨_, _, rfl, ?_, ?_⟩ | refine ⟨_, rfl, ?_⟩)) (by repeat (first | exact True.intro | refine And.intro ?_ ?_ | exact DLead.same | exact rfl | refine ⟨_, _, rfl, rfl, ?_⟩ | refine ⟨_, rfl, ?_⟩ | refine ⟨_, _, rfl, ?_, ?_⟩)) hCy rfl rfl rfl) rfl ?_;rintro _ ⟨_, _, ⟨N, c1, ⟨hN, hc1⟩, rfl, rfl⟩, rfl⟩;refine AL.weak (Weak.freezeA (i := 14) (k := 1) rfl rfl rfl (Nat.le_of_eq (tsL_len _).symm) (tsL_all _)) ?_;refine kE ?_;refine zs ?_;refine AL.nil (th_n (AC.seq ?_));obtain ⟨m, c2, hm, hc2, hB⟩ := curBegun_ex N c1 (by have := hN.1; omega) (by omega);have hPl := hN.1;refine AC.weak (t := ⟨52, 300, [(0, .ptr 0 0), (1, aI 7), (4, .ptr 103 0), (5, aS ByteArray.empty), (6, .ptr 104 0), (7, .ptr 105 0)], [(0, some (curC c1)), (103, some (.cells 25 [aI 0, .d (.val (.slice none 0 0))])), (104, some (.cells 29 [.d (.val (.slice none 0 0)), .d (.val (.slice none 0 0))])), (105, some (.cells 25 [aI N.places, .d (vTs N.ts)]))]⟩) (zw [(103, _), (104, _), (105, _)] hC) ?_;refine AC.region ?_;refine AL.p (by exact mv3 rfl) rfl ?_;refine AL.p (by exact g_load_ptrN rfl rfl rfl rfl rfl) rfl ?_;refine kU [0] en_curBegun hB ?_;refine za ?_;refine AL.nil (th_n (AC.seq ?_));have hM := l7MadeO_spec N m (by omega) (by omega);refine AC.region ?_;refine AL.p (by exact g_load_ptrN rfl rfl rfl rfl rfl) rfl ?_;refine zm ?_;refine kU [] en_l7Made hM ?_;refine AL.p (by exact g_build rfl rfl rfl) rfl ?_;refine kE ?_;refine zs ?_;refine AL.nil (th_n ?_);refine AC.cut (fun (z : Cur × Unf) => ⟨52, 900, [(4, .ptr 103 0), (6, .ptr 104 0), (7, .ptr 105 0), (8, aS (bstr m)), (9, .ptr 106 0)], [(0, some (curC z.1)), (103, some (.cells 25 [aI 0, .d (.val (.slice none 0 0))])), (104, some (.cells 29 [.d (.val (.slice none 0 0)), .d (.val (.slice none 0 0))])), (105, some (.cells 25 [aI N.places, .d (vTs N.ts)])), (106, some (.cells 29 [.own 107 z.2.cs.length, .own 108 z.2.es.length])), (107, some (.arr 143 2 (condsL z.2.cs))), (108, some (.arr 59 2 (evsL z.2.es)))]⟩) (fun z => UnfK z.2 ∧ z.1.pos ≤ c.pos + 200) ?_ ?_
 ·refine AC.seq ?_;have hQ := pick_spec c2 8 (by decide) (by omega);have hq1 := c2.pick_in 8 (by decide);have hq2 := c2.pick_pos 8;obtain ⟨q, hqq⟩ := eqx (c2.pick 8);rw [← hqq] at hQ hq1 hq2;have hU0 := unfK_zero hN m;refine AC.region ?_;refine AL.p (by exact mv3 rfl) rfl ?_;refine zm ?_;refine AL.p (by exact g_arith (c := 8) rfl rfl rfl rfl) rfl ?_;refine kU [0] en_pick hQ ?_;refine za ?_;refine AL.nil (th_n (AC.block ?_));refine AC.loop (ι := Nat × Cur × Unf) (fun x => ⟨52, 600, [(0, .ptr 0 0), (4, .ptr 103 0), (6, .ptr 104 0), (7, .ptr 105 0), (8, aS (bstr m)), (9, .ptr 106 0), (10, aI x.1)], [(0, some (curC x.2.1)), (103, some (.cells 25 [aI 0, .d (.val (.slice none 0 0))])), (104, some (.cells 29 [.d (.val (.slice none 0 0)), .d (.val (.slice none 0 0))])), (105, some (.cells 25 [aI N.places, .d (vTs N.ts)])), (106, some (.cells 29 [.own 107 x.2.2.cs.length, .own 108 x.2.2.es.length])), (107, some (.arr 143 2 (condsL x.2.2.cs))), (108, some (.arr 59 2 (evsL x.2.2.es)))]⟩) (fun x => UnfK x.2.2 ∧ x.1 + x.2.2.es.length ≤ 7 ∧ x.2.1.pos + 2 * x.1 ≤ c.pos + 200) (fun x => x.1) ((q.1.toNat, q.2, ⟨madeI N m, []⟩)) ?_ (⟨hU0, by show q.1.toNat + 0 ≤ 7; omega, by show q.2.pos + 2 * q.1.toNat ≤ _; omega⟩) ?_
  ·exact (Weak.nilOwnP 9 1 (e := 59) (sz := 2) rfl rfl rfl rfl rfl).trans (zw [(103, 103), (104, 104), (105, 105), (106, _), (107, _), (108, _)] hC)
  rintro ⟨k, e, u⟩ ⟨hu, hk, he⟩;dsimp only at hu hk he ⊢;refine AC.seq (AC.seq (AC.region ?_));refine zm ?_;refine zc ?_;refine AL.nil (th_n ?_);refine AC.condD rfl (fun h0 => ?_) (fun h0 => ?_)
  ·refine AC.skip (th_n (AC.seq (AC.block (AC.seq ?_))));have hk0 : 0 < k := by omega
   have huc := hu.c;have hue := hu.e;have hE := l7Extend_spec N u hN.B (by have := hN.2.1; omega) (fun t ht => (hN.2.2 t ht).1) hu.w (by omega);have hEl := exK_len (N := N) (u := u) (by omega) (fun t ht => (hN.2.2 t ht).1) N.ts.length (Nat.le_refl _);have hEf := fun (x : Ev) (hx : x ∈ exI N u) => exK_fit N.ts.length hx
   have hNl := hN.2.1;have hLl : (exI N u).length ≤ 8000000 := Nat.le_trans hEl (by omega);obtain ⟨L, hL⟩ := eqx (exI N u);rw [← hL] at hE hEf hLl;clear hEl;refine AC.region ?_;refine AL.p (by exact g_load_ptrN rfl rfl rfl rfl rfl) rfl ?_;rcases Classical.em (L = []) with hx | hx
   ·rw [hx] at hE; refine AL.p (by exact g_load_ptrN rfl rfl rfl rfl rfl) rfl ?_;refine AL.q (by exact h_borrow [107, 108] en_l7Extend rfl rfl hE (.cons (.agg (ds := [dI N.places, vTs N.ts])) (.cons (.aggs (.cons (.own rfl rfl (Nat.le_of_eq (condsL_len _).symm) (List.take_of_length_le (Nat.le_of_eq (condsL_len _)))) (.cons (.own rfl rfl (Nat.le_of_eq (evsL_len _).symm) (List.take_of_length_le (Nat.le_of_eq (evsL_len _)))) .nil))) .nil)) rfl) rfl ?_;refine za ?_;refine AL.nil (th_n (AC.seq (AC.seq (AC.region ?_))));refine zm ?_;refine AL.p (by exact g_len_nil rfl rfl) rfl ?_;refine zc ?_;refine AL.nil (th_n ?_);refine AC.condT rfl ?_;refine AC.exit (th_e ?_);refine ib_no rfl ?_;refine th_e (th_e (ib_y (th_n ?_)))
    (have g := ‹L = []›; exact ⟨(e, u), ⟨hu, by dsimp only; omega⟩, zw [(103, 103), (104, 104), (105, 105), (106, 106), (107, 107), (108, 108)] hC⟩)
   rw [vNo_ne hx] at hE; refine AL.weak ((Weak.freezeP (els' := condsL u.cs) 9 0 rfl rfl rfl rfl (Nat.le_of_eq (condsL_len _).symm) (List.take_of_length_le (Nat.le_of_eq (condsL_len _))) rfl).trans (Weak.freezeP (els' := evsL u.es) 9 1 rfl rfl rfl rfl (Nat.le_of_eq (evsL_len _).symm) (List.take_of_length_le (Nat.le_of_eq (evsL_len _))) rfl)) ?_; refine AL.p (by exact g_load_ptrN rfl rfl rfl rfl rfl) rfl ?_;refine kV en_l7Extend hE ?_;refine za ?_;refine AL.nil (th_n (AC.seq (AC.seq (AC.region ?_))));refine zm ?_;refine kI L.length (List.length_map _) ?_;refine zc ?_;refine AL.nil (th_n ?_);refine AC.condD rfl (fun h1 => ?_) (fun h1 => ?_)
   ·refine AC.exit (th_e ?_);refine ib_no rfl ?_;refine th_e (th_e (ib_y (th_n ?_)))
    (have g := ‹¬ L = []›; exact absurd (List.eq_nil_of_length_eq_zero (by omega)) g)
   refine AC.skip (th_n (AC.seq ?_));have hL0 : 0 < L.length := by omega
   have hQ := pickB_spec e L.length (by omega) (by omega);have hq1 := e.pick_in L.length (by omega);have hq2 := e.pick_pos L.length;obtain ⟨K, hKK⟩ := eqx (e.pick L.length);rw [← hKK] at hQ hq1 hq2;obtain ⟨i, hi⟩ : ∃ i : Nat, K.1 = (i : Int) := ⟨K.1.toNat, by omega⟩;have hil : i < L.length := by omega
   have hrow := vNE_get hil;have hfit := hEf _ (List.getElem_mem hil);obtain ⟨h, hh⟩ := eqx (L[i]);rw [← hh] at hrow hfit;have hf2 := UnfK.fit hN hu (by omega) hfit;have hW := l7WithO_spec N u h hN.B hu.w (by have h1 := rising_len (fits_rising hfit); omega) (fits_inR hfit);have hLm := l7Limits_spec (withI N u h) (by have := hf2.1.e; omega) (by have := hf2.1.c; have := hf2.1.e; omega);rw [limB_t hf2.1] at hLm;clear hKK hh;refine AC.drawn' mixed_ok [[], [], [], [], [], [4], [3,4,5], [2,3,4,5,6], [2,3,4,5,6,7], [0,1,2,3,4,5,6,7,8], [], [0,1,2,3,4,5,6,7,8,9,10]] (by decide) ?_;refine zd 0 [] 12 (by exact g_load_ptrN rfl rfl rfl rfl rfl) ?_;refine zd 1 [] 12 (by exact g_load_ptrN rfl rfl rfl rfl rfl) ?_;refine zd 2 [] 12 (by exact mv1 rfl) ?_;refine zd 3 [] 12 (by exact mv3 rfl) ?_;refine zd 4 [] 12 (by exact mv1 rfl) ?_;refine zd 5 [4] 12 (by exact g_len_view (k := L.length) rfl rfl (List.length_map _)) ?_;refine zh 6 [3,4,5] 12 (by exact h_fun (cs := [0]) en_pick rfl rfl (by repeat (first | exact rfl | exact DLead.same | refine ⟨_, _, rfl, ?_, ?_⟩ | refine ⟨_, rfl, ?_⟩)) (by repeat (first | exact True.intro | refine And.intro ?_ ?_ | exact DLead.same | exact rfl | refine ⟨_, _, rfl, rfl, ?_⟩ | refine ⟨_, rfl, ?_⟩ | refine ⟨_, _, rfl, ?_, ?_⟩)) hQ rfl rfl rfl rfl) ?_;refine zd 7 [2,3,4,5,6] 12 (by exact g_ia_view (i := i) rfl rfl rfl rfl rfl hi hrow) ?_;refine zd 8 [2,3,4,5,6,7] 12 (by exact g_load_refN rfl rfl rfl rfl) ?_;refine zh 9 (List.range 9) 12 (by exact h_fun (cs := []) en_l7With rfl rfl (by repeat (first | exact rfl | exact DLead.same | exact nI_lead _ | refine ⟨_, _, rfl, ?_, ?_⟩ | refine ⟨_, rfl, ?_⟩)) (by repeat (exact True.intro)) hW rfl rfl rfl rfl) ?_;refine zh 10 [] 12 (by exact h_alloc rfl) ?_;refine zh 11 (List.range 11) 12 (by exact h_store rfl rfl rfl rfl rfl rfl) ?_;refine zj 12 ?_;refine th_n (AC.seq ?_);refine AC.weak (t := ⟨52, 1500, [(0, .ptr 0 0), (4, .ptr 103 0), (6, .ptr 104 0), (7, .ptr 105 0), (8, aS (bstr m)), (9, .ptr 106 0), (10, aI k), (12, .ptr 109 0)], [(0, some (curC K.2)), (103, some (.cells 25 [aI 0, .d (.val (.slice none 0 0))])), (104, some (.cells 29 [.d (.val (.slice none 0 0)), .d (.val (.slice none 0 0))])), (105, some (.cells 25 [aI N.places, .d (vTs N.ts)])), (106, some (.cells 29 [.d (vCs u.cs), .d (vEs u.es)])), (109, some (.cells 29 [.own 107 (withI N u h).cs.length, .own 108 (withI N u h).es.length])), (107, some (.arr 143 2 (condsL (withI N u h).cs))), (108, some (.arr 59 2 (evsL (withI N u h).es)))]⟩) (zw [(103, 103), (104, 104), (105, 105), (106, 106), (109, _), (107, _), (108, _)] hC) ?_;refine AC.region ?_;refine AL.p (by exact g_load_ptrN rfl rfl rfl rfl rfl) rfl ?_;refine AL.q (by exact h_borrow [107, 108] en_l7Limits rfl rfl hLm (.cons (.aggs (.cons (.own rfl rfl (Nat.le_of_eq (condsL_len _).symm) (List.take_of_length_le (Nat.le_of_eq (condsL_len _)))) (.cons (.own rfl rfl (Nat.le_of_eq (evsL_len _).symm) (List.take_of_length_le (Nat.le_of_eq (evsL_len _)))) .nil))) .nil) rfl) rfl ?_;refine AL.nil (th_n ?_);refine AC.condT rfl ?_;refine AC.region ?_;refine AL.p (by exact g_load_ptrN rfl rfl rfl rfl rfl) rfl ?_;refine zs ?_;refine AL.nil (ib_n (th_n (AC.region ?_)));refine zm ?_;refine zA ?_;refine za ?_;refine AL.nil (th_n ?_);exact ⟨(k - 1, K.2, withI N u h), ⟨hf2.1, by dsimp only; omega, by dsimp only; omega⟩, by dsimp only; omega, zw [(103, 103), (104, 104), (105, 105), (106, 106), (107, 107), (108, 108)] hC⟩
  refine AC.exit (th_e (th_e (ib_y (th_n ?_))))
  (have g := ‹¬ (0 : Int) < (k : Int)›; exact ⟨(e, u), ⟨hu, by dsimp only; omega⟩, zw [(103, 103), (104, 104), (105, 105), (106, 106), (107, 107), (108, 108)] hC⟩)
 rintro ⟨e2, u2⟩ ⟨hu2, he2⟩;dsimp only at hu2 he2 ⊢;refine AC.seq ?_;refine AC.drawn' mixed_ok [[], [], [], [0], [0,1,3], [0,1,2,3,4]] (by decide) ?_;refine zd 0 [] 6 (by exact g_load_ptrN rfl rfl rfl rfl rfl) ?_;refine zd 1 [] 6 (by exact mv1 rfl) ?_;refine zd 2 [] 6 (by exact g_load_ptrN rfl rfl rfl rfl rfl) ?_;refine zh 3 [0] 6 (by exact h_store rfl rfl rfl rfl rfl rfl) ?_;refine zd 4 [0,1,3] 6 (by exact as1 rfl) ?_;refine zh 5 [0,1,2,3,4] 6 (by exact h_store rfl rfl rfl rfl rfl rfl) ?_;refine zj 6 ?_;refine th_n (AC.ret (bq_r ?_));exact retX [(1, 107), (2, 108)] rfl ⟨N, m, u2, e2, ⟨hN, by omega, hu2, he2⟩, rfl, rfl⟩ (by repeat (first | exact rfl | exact DLead.same | refine ⟨_, _, rfl, ?_, ?_⟩ | refine ⟨_, rfl, ?_⟩)) (by repeat (first | exact True.intro | refine And.intro ?_ ?_ | exact DLead.same | exact rfl | refine ⟨_, _, rfl, rfl, ?_⟩ | refine ⟨_, rfl, ?_⟩ | refine ⟨_, _, rfl, ?_, ?_⟩)) rfl rfl
theorem en_curUnfolded : Enters Tryz.prog 104 := enters_of Tryz.func104 rfl rfl
structure UnfW (u : Unf) : Prop where
 e : u.es.length ≤ 7
 c : u.cs.length ≤ 27
 l : ∀ x, x ∈ u.es → x.pre.length ≤ 1000000
theorem UnfK.W {u : Unf} (h : UnfK u) : UnfW u := ⟨h.e, by have := h.c; have := h.e; omega, h.w.l⟩
theorem UnfW.L {u : Unf} (h : UnfW u) : UnfL u := ⟨by have := h.e; omega, by have := h.c; omega, fun x hx => by have := h.l x hx; omega⟩
theorem CyOk.L {N : Net} (h : CyOk N) : NetL N := ⟨by have := h.1; omega, by have := h.2.1; omega, fun t ht => by have := h.2.2 t ht; omega⟩
def AnE (pos : Nat) : AV → List (Nat × Chunk) → Prop := fun r chs => ∃ (N : Net) (m : List UInt8) (u : Unf) (c : Cur), (CyOk N ∧ m.length ≤ 10 ∧ UnfW u ∧ c.pos ≤ pos) ∧ r = .tup [netA N, aS (bstr m), unfA u] ∧ chs = [(0, curC c)]
theorem condsL_set {cs : List Cond} {i : Nat} (t : Cond) {x : Cond} {j : Nat} {d : DV} (h : (condD x).set j d = condD t) : (condsL cs).set i ((condD x).set j d) = condsL (cs.set i t) := by rw [h]; exact (List.map_set ..).symm
theorem evsL_set {es : List Ev} {i : Nat} (t : Ev) {x : Ev} {j : Nat} {d : DV} (h : (evD x).set j d = evD t) : (evsL es).set i ((evD x).set j d) = evsL (es.set i t) := by rw [h]; exact (List.map_set ..).symm
theorem UnfW.setC {u : Unf} (h : UnfW u) (i : Nat) (x : Cond) : UnfW ⟨u.cs.set i x, u.es⟩ := ⟨h.e, by show (u.cs.set i x).length ≤ 27; rw [List.length_set]; exact h.c, h.l⟩
theorem UnfW.setE {u : Unf} (h : UnfW u) (i : Nat) {x : Ev} (hx : x.pre.length ≤ 1000000) : UnfW ⟨u.cs, u.es.set i x⟩ := ⟨by show (u.es.set i x).length ≤ 7; rw [List.length_set]; exact h.e, h.c, cyAll h.l hx⟩
set_option maxHeartbeats 8000000 in
theorem curAnyUnf_ex (c : Cur) (hp : c.pos ≤ 10000) : ASpec Tryz.prog 47 [.ptr 0 0] [(0, curC c)] (AnE (c.pos + 300)) := by
 have hU := curUnfolded_ex c (by omega);refine ASpec.of Tryz.func47 rfl rfl fun C hC => ?_
 refine AC.seq (AC.region ?_);refine kE ?_;refine za ?_;refine kE ?_;refine AL.nil (th_n (AC.seq (AC.region ?_)));refine AL.p (by exact mv3 rfl) rfl ?_;refine AL.r (by exact h_funR (cs := [0]) en_curUnfolded rfl rfl (by repeat (first | exact rfl | exact DLead.same | refine ⟨_, _, rfl, ?_, ?_⟩ | refine ⟨_, rfl, ?_⟩)) (by repeat (first | exact True.intro | refine And.intro ?_ ?_ | exact DLead.same | exact rfl | refine ⟨_, _, rfl, rfl, ?_⟩ | refine ⟨_, rfl, ?_⟩ | refine ⟨_, _, rfl, ?_, ?_⟩)) hU rfl rfl rfl) rfl ?_;rintro _ ⟨_, _, ⟨N, m, u, c1, ⟨hN, hm, hu, hc1⟩, rfl, rfl⟩, rfl⟩;refine AL.p (by exact mv5 rfl) rfl ?_;refine AL.p (by exact g_extract (r := .agg _) rfl rfl) rfl ?_;refine AL.p (by exact g_extract (r := .d _) rfl rfl) rfl ?_;refine AL.p (by exact g_extract (r := .agg _) rfl rfl) rfl ?_;refine kE ?_;refine kE ?_;refine zs ?_;refine za ?_;refine zs ?_;refine AL.nil (th_n ?_);refine AC.cut (fun (z : Cur × List UInt8 × Unf) => ⟨72, 900, [(2, .ptr 103 0), (4, .ptr 104 0), (5, .ptr 105 0), (6, aS (bstr z.2.1)), (7, .ptr 106 0)], [(0, some (curC z.1)), (103, some (.cells 25 [aI 0, .d (.val (.slice none 0 0))])), (104, some (.cells 29 [.d (.val (.slice none 0 0)), .d (.val (.slice none 0 0))])), (105, some (.cells 25 [aI N.places, .d (vTs N.ts)])), (106, some (.cells 29 [.own 107 z.2.2.cs.length, .own 108 z.2.2.es.length])), (107, some (.arr 143 2 (condsL z.2.2.cs))), (108, some (.arr 59 2 (evsL z.2.2.es)))]⟩) (fun z => z.1.pos ≤ c.pos + 300 ∧ z.2.1.length ≤ 10 ∧ UnfW z.2.2) ?_ ?_
 ·refine AC.seq ?_;have hw := hu.W;have hK := pick_spec c1 24 (by decide) (by omega);have hk2 := c1.pick_pos 24;obtain ⟨K, hKK⟩ := eqx (c1.pick 24);rw [← hKK] at hK hk2;have hCn := hw.c;have hEn := hw.e;refine AC.weak (t := ⟨72, 300, [(0, .ptr 0 0), (2, .ptr 103 0), (4, .ptr 104 0), (5, .ptr 105 0), (6, aS (bstr m)), (7, .ptr 106 0)], [(0, some (curC c1)), (103, some (.cells 25 [aI 0, .d (.val (.slice none 0 0))])), (104, some (.cells 29 [.d (.val (.slice none 0 0)), .d (.val (.slice none 0 0))])), (105, some (.cells 25 [aI N.places, .d (vTs N.ts)])), (106, some (.cells 29 [.own 107 u.cs.length, .own 108 u.es.length])), (107, some (.arr 143 2 (condsL u.cs))), (108, some (.arr 59 2 (evsL u.es)))]⟩) (zw [(103, _), (104, _), (105, _), (106, _), (107, _), (108, _)] hC) ?_;refine AC.region ?_;refine AL.p (by exact mv3 rfl) rfl ?_;refine kU [0] en_pick hK ?_;refine AL.nil (th_n (AC.block (AC.seq (AC.region ?_))));refine zc ?_;refine za ?_;refine AL.nil (th_n ?_);refine AC.condD rfl (fun h0 => ?_) (fun h0 => ?_)
  ·refine AC.seq (AC.region ?_);refine zF ?_;refine zl ?_;refine AL.p (by exact g_len_own (sz := 1) (els := []) (e' := 0) rfl rfl (by simp only [maxLen]; omega)) rfl ?_;refine zc ?_;refine AL.nil (th_n ?_);refine AC.condD rfl (fun h1 => ?_) (fun h1 => ?_)
   ·have hn0 : 0 < u.cs.length := by omega
    have hA := pick_spec K.2 u.cs.length (by omega) (by omega);have ha1 := K.2.pick_in u.cs.length (by omega);have ha2 := K.2.pick_pos u.cs.length;obtain ⟨A, hAA⟩ := eqx (K.2.pick u.cs.length);rw [← hAA] at hA ha1 ha2;have hB := pick_spec A.2 8 (by decide) (by omega);have hb2 := A.2.pick_pos 8;obtain ⟨B, hBB⟩ := eqx (A.2.pick 8);rw [← hBB] at hB hb2;obtain ⟨i, hi⟩ : ∃ i : Nat, A.1 = (i : Int) := ⟨A.1.toNat, by omega⟩;have hil : i < u.cs.length := by omega
    have hrow := condsL_get hil;have hst := condsL_set (cs := u.cs) (i := i) ⟨B.1, u.cs[i].by_⟩ (x := u.cs[i]) (j := 0) (d := dI B.1) rfl;have hww := hw.setC i ⟨B.1, u.cs[i].by_⟩;have hsl : (u.cs.set i ⟨B.1, u.cs[i].by_⟩).length = u.cs.length := List.length_set ..;refine AC.drawn' mixed_ok [[], [0], [], [], [3], [3,4], [2,3,4,5], [], [2,3,4,5,6,7], [0,1,2,3,4,5,6,7,8], [0,1,2,3,4,5,6,7,8,9], [0,1,2,3,4,5,6,7,8,9,10]] (by decide) ?_;refine zd 0 [] 12 (by exact g_fa_ptr rfl rfl rfl rfl rfl) ?_;refine zd 1 [0] 12 (by exact g_load_ptr rfl rfl rfl rfl rfl) ?_;refine zd 2 [] 12 (by exact mv3 rfl) ?_;refine zd 3 [] 12 (by exact g_fa_ptr rfl rfl rfl rfl rfl) ?_;refine zd 4 [3] 12 (by exact g_load_ptr rfl rfl rfl rfl rfl) ?_;refine zd 5 [3,4] 12 (by exact g_len_own (sz := 1) (els := []) (e' := 0) rfl rfl (by simp only [maxLen]; omega)) ?_;refine zh 6 [2,3,4,5] 12 (by exact h_fun (cs := [0]) en_pick rfl rfl (by repeat (first | exact rfl | exact DLead.same | refine ⟨_, _, rfl, ?_, ?_⟩ | refine ⟨_, rfl, ?_⟩)) (by repeat (first | exact True.intro | refine And.intro ?_ ?_ | exact DLead.same | exact rfl | refine ⟨_, _, rfl, rfl, ?_⟩ | refine ⟨_, rfl, ?_⟩ | refine ⟨_, _, rfl, ?_, ?_⟩)) hA rfl rfl rfl rfl) ?_;refine zd 7 [] 12 (by exact mv3 rfl) ?_;refine zh 8 [2,3,4,5,6,7] 12 (by exact h_fun (cs := [0]) en_pick rfl rfl (by repeat (first | exact rfl | exact DLead.same | refine ⟨_, _, rfl, ?_, ?_⟩ | refine ⟨_, rfl, ?_⟩)) (by repeat (first | exact True.intro | refine And.intro ?_ ?_ | exact DLead.same | exact rfl | refine ⟨_, _, rfl, rfl, ?_⟩ | refine ⟨_, rfl, ?_⟩ | refine ⟨_, _, rfl, ?_, ?_⟩)) hB rfl rfl rfl rfl) ?_;refine zd 9 (List.range 9) 12 (by exact g_ia_own (i := i) (l := u.cs.length) rfl rfl rfl rfl rfl hi hil rfl) ?_;refine zd 10 (List.range 10) 12 (by exact g_fa_ptr rfl rfl rfl rfl rfl) ?_;refine zh 11 (List.range 11) 12 (by exact h_store_arr (i := i) (j := 0) (d := dI B.1) rfl rfl rfl rfl .same rfl hrow (by decide)) ?_;refine zj 12 ?_;refine ib_n (th_n ?_)
    (have g := ‹(0 : Int) < (u.cs.length : Int)›; exact ⟨(B.2, m, ⟨u.cs.set i ⟨B.1, u.cs[i].by_⟩, u.es⟩), ⟨by dsimp only; omega, by dsimp only; omega, hww⟩, zw [(103, 103), (104, 104), (105, 105), (106, 106), (107, 107), (108, 108)] hC (b := by dsimp only; rw [hsl, ← hst]; repeat (first | exact True.intro | refine And.intro ?_ ?_ | exact DLead.same | exact rfl | refine ⟨_, _, rfl, rfl, ?_⟩ | refine ⟨_, rfl, ?_⟩ | refine ⟨_, _, rfl, ?_, ?_⟩))⟩)
   refine AC.skip (ib_n (th_n ?_));exact ⟨(K.2, m, u), ⟨by dsimp only; omega, by dsimp only; omega, hw⟩, zw [(103, 103), (104, 104), (105, 105), (106, 106), (107, 107), (108, 108)] hC⟩
  refine AC.seq (AC.region ?_);refine zc ?_;refine za ?_;refine AL.nil (th_n ?_);refine AC.condD rfl (fun h1 => ?_) (fun h1 => ?_)
  ·refine AC.seq (AC.region ?_);refine zF ?_;refine zl ?_;refine AL.p (by exact g_len_own (sz := 1) (els := []) (e' := 0) rfl rfl (by simp only [maxLen]; omega)) rfl ?_;refine zc ?_;refine AL.nil (th_n ?_);refine AC.condD rfl (fun h2 => ?_) (fun h2 => ?_)
   ·have hn0 : 0 < u.es.length := by omega
    have hA := pick_spec K.2 u.es.length (by omega) (by omega);have ha1 := K.2.pick_in u.es.length (by omega);have ha2 := K.2.pick_pos u.es.length;obtain ⟨A, hAA⟩ := eqx (K.2.pick u.es.length);rw [← hAA] at hA ha1 ha2;have hB := pick_spec A.2 5 (by decide) (by omega);have hb2 := A.2.pick_pos 5;obtain ⟨B, hBB⟩ := eqx (A.2.pick 5);rw [← hBB] at hB hb2;obtain ⟨i, hi⟩ : ∃ i : Nat, A.1 = (i : Int) := ⟨A.1.toNat, by omega⟩;have hil : i < u.es.length := by omega
    have hrow := evsL_get hil;have hst := evsL_set (es := u.es) (i := i) ⟨u.es[i].t, [B.1]⟩ (x := u.es[i]) (j := 1) (d := vI [B.1]) rfl;have hww := hw.setE i (x := ⟨u.es[i].t, [B.1]⟩) (Nat.le_of_ble_eq_true rfl);have hsl : (u.es.set i ⟨u.es[i].t, [B.1]⟩).length = u.es.length := List.length_set ..;refine AC.drawn' mixed_ok [[], [0], [], [], [3], [3,4], [2,3,4,5], [], [2,3,4,5,6,7], [2,3,4,5,6,7,8], [0,1,2,3,4,5,6,7,8,9], [0,1,2,3,4,5,6,7,8,9,10], [0,1,2,3,4,5,6,7,8,9,10,11]] (by decide) ?_;refine zd 0 [] 13 (by exact g_fa_ptr rfl rfl rfl rfl rfl) ?_;refine zd 1 [0] 13 (by exact g_load_ptr rfl rfl rfl rfl rfl) ?_;refine zd 2 [] 13 (by exact mv3 rfl) ?_;refine zd 3 [] 13 (by exact g_fa_ptr rfl rfl rfl rfl rfl) ?_;refine zd 4 [3] 13 (by exact g_load_ptr rfl rfl rfl rfl rfl) ?_;refine zd 5 [3,4] 13 (by exact g_len_own (sz := 1) (els := []) (e' := 0) rfl rfl (by simp only [maxLen]; omega)) ?_;refine zh 6 [2,3,4,5] 13 (by exact h_fun (cs := [0]) en_pick rfl rfl (by repeat (first | exact rfl | exact DLead.same | refine ⟨_, _, rfl, ?_, ?_⟩ | refine ⟨_, rfl, ?_⟩)) (by repeat (first | exact True.intro | refine And.intro ?_ ?_ | exact DLead.same | exact rfl | refine ⟨_, _, rfl, rfl, ?_⟩ | refine ⟨_, rfl, ?_⟩ | refine ⟨_, _, rfl, ?_, ?_⟩)) hA rfl rfl rfl rfl) ?_;refine zd 7 [] 13 (by exact mv3 rfl) ?_;refine zh 8 [2,3,4,5,6,7] 13 (by exact h_fun (cs := [0]) en_pick rfl rfl (by repeat (first | exact rfl | exact DLead.same | refine ⟨_, _, rfl, ?_, ?_⟩ | refine ⟨_, rfl, ?_⟩)) (by repeat (first | exact True.intro | refine And.intro ?_ ?_ | exact DLead.same | exact rfl | refine ⟨_, _, rfl, rfl, ?_⟩ | refine ⟨_, rfl, ?_⟩ | refine ⟨_, _, rfl, ?_, ?_⟩)) hB rfl rfl rfl rfl) ?_;refine zh 9 [2,3,4,5,6,7,8] 13 (by exact h_litF rfl rfl rfl rfl rfl rfl rfl rfl) ?_;refine zd 10 (List.range 10) 13 (by exact g_ia_own (i := i) (l := u.es.length) rfl rfl rfl rfl rfl hi hil rfl) ?_;refine zd 11 (List.range 11) 13 (by exact g_fa_ptr rfl rfl rfl rfl rfl) ?_;refine zh 12 (List.range 12) 13 (by exact h_store_arr (i := i) (j := 1) (d := vI [B.1]) rfl rfl rfl rfl .same rfl hrow (by decide)) ?_;refine zj 13 ?_;refine ib_n (th_n ?_)
    (have g := ‹K.1 = 1›; have g2 := ‹(0 : Int) < (u.es.length : Int)›; exact ⟨(B.2, m, ⟨u.cs, u.es.set i ⟨u.es[i].t, [B.1]⟩⟩), ⟨by dsimp only; omega, by dsimp only; omega, hww⟩, zw [(103, 103), (104, 104), (105, 105), (106, 106), (107, 107), (108, 108)] hC (b := by dsimp only; rw [hsl, ← hst]; repeat (first | exact True.intro | refine And.intro ?_ ?_ | exact DLead.same | exact rfl | refine ⟨_, _, rfl, rfl, ?_⟩ | refine ⟨_, rfl, ?_⟩ | refine ⟨_, _, rfl, ?_, ?_⟩))⟩)
   refine AC.skip (ib_n (th_n ?_));exact ⟨(K.2, m, u), ⟨by dsimp only; omega, by dsimp only; omega, hw⟩, zw [(103, 103), (104, 104), (105, 105), (106, 106), (107, 107), (108, 108)] hC⟩
  refine AC.seq (AC.region ?_);refine zc ?_;refine za ?_;refine AL.nil (th_n ?_);refine AC.condD rfl (fun h2 => ?_) (fun h2 => ?_)
  ·have hS := spoilt_spec K.2 m [48, 49] (by omega) (by decide) (by decide) (by omega);have hs2 := K.2.spoilt_in m [48, 49];obtain ⟨S, hSS⟩ := eqx (K.2.spoilt m [48, 49]);rw [← hSS] at hS hs2;refine AC.region ?_;refine AL.p (by exact mv3 rfl) rfl ?_;refine zm ?_;refine kU [0] en_spoilt hS ?_;refine za ?_;refine AL.nil (ib_n (th_n ?_))
   (have g := ‹K.1 = 2›; exact ⟨(S.2, S.1, u), ⟨by dsimp only; omega, by dsimp only; omega, hw⟩, zw [(103, 103), (104, 104), (105, 105), (106, 106), (107, 107), (108, 108)] hC⟩)
  refine AC.seq (AC.region ?_);refine zc ?_;refine za ?_;refine AL.nil (th_n ?_);refine AC.condD rfl (fun h3 => ?_) (fun h3 => ?_)
  ·refine AC.seq (AC.region ?_);refine zF ?_;refine zl ?_;refine AL.p (by exact g_len_own (sz := 1) (els := []) (e' := 0) rfl rfl (by simp only [maxLen]; omega)) rfl ?_;refine zc ?_;refine AL.nil (th_n ?_);refine AC.condD rfl (fun h4 => ?_) (fun h4 => ?_)
   ·have hn0 : 0 < u.es.length := by omega
    have hB := pick_spec K.2 9 (by decide) (by omega);have hb1 := K.2.pick_in 9 (by decide);have hb2 := K.2.pick_pos 9;obtain ⟨B, hBB⟩ := eqx (K.2.pick 9);rw [← hBB] at hB hb1 hb2;have hrow := evsL_get hn0;have hst := evsL_set (es := u.es) (i := 0) ⟨B.1 - 1, u.es[0].pre⟩ (x := u.es[0]) (j := 0) (d := dI (B.1 - 1)) rfl;have hww := hw.setE 0 (x := ⟨B.1 - 1, u.es[0].pre⟩) (show u.es[0].pre.length ≤ 1000000 from hw.l _ (List.getElem_mem hn0));have hsl : (u.es.set 0 ⟨B.1 - 1, u.es[0].pre⟩).length = u.es.length := List.length_set ..;refine AC.drawn' mixed_ok [[], [0], [], [2], [2,3], [0,1,2,3,4], [0,1,2,3,4,5], [0,1,2,3,4,5,6]] (by decide) ?_;refine zd 0 [] 8 (by exact g_fa_ptr rfl rfl rfl rfl rfl) ?_;refine zd 1 [0] 8 (by exact g_load_ptr rfl rfl rfl rfl rfl) ?_;refine zd 2 [] 8 (by exact mv3 rfl) ?_;refine zh 3 [2] 8 (by exact h_fun (cs := [0]) en_pick rfl rfl (by repeat (first | exact rfl | exact DLead.same | refine ⟨_, _, rfl, ?_, ?_⟩ | refine ⟨_, rfl, ?_⟩)) (by repeat (first | exact True.intro | refine And.intro ?_ ?_ | exact DLead.same | exact rfl | refine ⟨_, _, rfl, rfl, ?_⟩ | refine ⟨_, rfl, ?_⟩ | refine ⟨_, _, rfl, ?_, ?_⟩)) hB rfl rfl rfl rfl) ?_;refine zd 4 [2,3] 8 (by exact g_arith rfl rfl rfl (by exact wrap_i64 (by omega))) ?_;refine zd 5 [0,1,2,3,4] 8 (by exact g_ia_own (i := 0) (l := u.es.length) rfl rfl rfl rfl rfl rfl hn0 rfl) ?_;refine zd 6 [0,1,2,3,4,5] 8 (by exact g_fa_ptr rfl rfl rfl rfl rfl) ?_;refine zh 7 [0,1,2,3,4,5,6] 8 (by exact h_store_arr (i := 0) (j := 0) (d := dI (B.1 - 1)) rfl rfl rfl rfl .same rfl hrow (by decide)) ?_;refine zj 8 ?_;refine ib_n (th_n ?_)
    (have g := ‹K.1 = 3›; have g2 := ‹(0 : Int) < (u.es.length : Int)›; exact ⟨(B.2, m, ⟨u.cs, u.es.set 0 ⟨B.1 - 1, u.es[0].pre⟩⟩), ⟨by dsimp only; omega, by dsimp only; omega, hww⟩, zw [(103, 103), (104, 104), (105, 105), (106, 106), (107, 107), (108, 108)] hC (b := by dsimp only; rw [hsl, ← hst]; repeat (first | exact True.intro | refine And.intro ?_ ?_ | exact DLead.same | exact rfl | refine ⟨_, _, rfl, rfl, ?_⟩ | refine ⟨_, rfl, ?_⟩ | refine ⟨_, _, rfl, ?_, ?_⟩))⟩)
   refine AC.skip (ib_n (th_n ?_));exact ⟨(K.2, m, u), ⟨by dsimp only; omega, by dsimp only; omega, hw⟩, zw [(103, 103), (104, 104), (105, 105), (106, 106), (107, 107), (108, 108)] hC⟩
  refine AC.skip (ib_n (th_n ?_));exact ⟨(K.2, m, u), ⟨by dsimp only; omega, by dsimp only; omega, hw⟩, zw [(103, 103), (104, 104), (105, 105), (106, 106), (107, 107), (108, 108)] hC⟩
 rintro ⟨e, p, v⟩ ⟨he, hpl, hv⟩;dsimp only at he hpl hv ⊢;refine AC.seq ?_;refine AC.weak ((Weak.freezeP (els' := condsL v.cs) 7 0 rfl rfl rfl rfl (Nat.le_of_eq (condsL_len _).symm) (List.take_of_length_le (Nat.le_of_eq (condsL_len _))) rfl).trans (Weak.freezeP (els' := evsL v.es) 7 1 rfl rfl rfl rfl (Nat.le_of_eq (evsL_len _).symm) (List.take_of_length_le (Nat.le_of_eq (evsL_len _))) rfl)) ?_;refine AC.drawn' mixed_ok [[], [], [], [0], [0,1,3], [0,1,2,3,4]] (by decide) ?_;refine zd 0 [] 6 (by exact g_load_ptrN rfl rfl rfl rfl rfl) ?_;refine zd 1 [] 6 (by exact mv1 rfl) ?_;refine zd 2 [] 6 (by exact g_load_ptrN rfl rfl rfl rfl rfl) ?_;refine zh 3 [0] 6 (by exact h_store rfl rfl rfl rfl rfl rfl) ?_;refine zd 4 [0,1,3] 6 (by exact as1 rfl) ?_;refine zh 5 [0,1,2,3,4] 6 (by exact h_store rfl rfl rfl rfl rfl rfl) ?_;refine zj 6 ?_;refine th_n (AC.ret (bq_r ?_));exact retX [] rfl ⟨N, p, v, e, ⟨hN, hpl, hv, he⟩, rfl, rfl⟩ (by repeat (first | exact rfl | exact DLead.same | refine ⟨_, _, rfl, ?_, ?_⟩ | refine ⟨_, rfl, ?_⟩)) (by repeat (first | exact True.intro | refine And.intro ?_ ?_ | exact DLead.same | exact rfl | refine ⟨_, _, rfl, rfl, ?_⟩ | refine ⟨_, rfl, ?_⟩ | refine ⟨_, _, rfl, ?_, ?_⟩)) rfl rfl
theorem en_curAnyUnf : Enters Tryz.prog 47 := enters_of Tryz.func47 rfl rfl
section
variable {P : Program} [PT P] {s : ASt} {dst : Option Nat} {ty : Nat} {pos : String} {af : Array Edge} {gd : Option (Nat × Bool)} {x y : Operand} {xt yt : Nat}
theorem g_neBr {a : Bool} {n bt : Nat} {zs : List ZK} (ht : PT.ty P xt = some ⟨.bool, n, bt, zs⟩) (hx : s.ev x = aT a) (hy : s.ev y = aT a) : GOp P [] s ⟨dst, .binOp .neq xt x y yt, ty, pos, af, gd⟩ (aT false) := by
 have h := g_neB (P := P) (dst := dst) (ty := ty) (pos := pos) (af := af) (gd := gd) (yt := yt) ht hx hy
 rwa [beq_self_eq_true] at h
theorem g_neIr {k : IntKind} {a b : Int} (hx : s.ev x = .d (.val (.int k a))) (hy : s.ev y = .d (.val (.int k b))) (h : a = b) : GOp P [] s ⟨dst, .binOp .neq xt x y yt, ty, pos, af, gd⟩ (aT false) := g_cmp hx hy (by show some (!decide (a = b)) = _; rw [decide_eq_true h]; rfl)
end
section
variable {P : Program} [PT P] {s : ASt} {dst : Option Nat} {ty : Nat} {pos : String} {af : Array Edge} {gd : Option (Nat × Bool)} {x y : Operand} {xt yt : Nat}
end
theorem srtd_rising {l : List Int} {lo hi : Int} (h : srtd l) (hin : ∀ x, x ∈ l → lo ≤ x ∧ x ≤ hi) : rising l lo hi = true := by
 refine allN_true fun k hk => ?_
 have hg : ∀ j (hj : j < l.length), l.getD j 0 = l[j] := fun j hj => by rw [List.getD_eq_getElem?_getD, List.getElem?_eq_getElem hj]; rfl
 have h1 := hin _ (List.getElem_mem hk);unfold riseAt;rw [hg k hk, decide_eq_true h1.1, decide_eq_true h1.2, Bool.true_and, Bool.true_and, Bool.not_eq_true', Bool.and_eq_false_iff]
 by_cases h0 : k = 0
 ·left; subst h0; rfl
 right;rw [hg (k - 1) (by omega), decide_eq_false_iff_not];have := List.pairwise_iff_getElem.1 h (k - 1) k (by omega) hk (by omega);omega
theorem qSameN_spec (a : List Int) (ha : a.length ≤ 1000000) : ASpec Tryz.prog 13 [.d (vI a), .d (vI a)] [] (Pure1 (aT true)) := by
 refine ASpec.of Tryz.func13 rfl rfl fun C hC => ?_
 refine AC.seq (AC.region ?_);refine za ?_;refine AL.nil (th_n (AC.seq (AC.seq (AC.region ?_))));refine zm ?_;refine kH ?_;refine zm ?_;refine kH ?_;refine AL.p (by exact g_neIr rfl rfl rfl) rfl ?_;refine AL.nil (th_n ?_);refine AC.condF rfl ?_;refine AC.skip (th_n (AC.seq (AC.seq (AC.region ?_))));refine zm ?_;refine kH ?_;refine zm ?_;refine AL.nil (th_n (AC.block ?_));refine AC.loop (ι := Nat) (fun k => ⟨26, 0, [(0, .d (vI a)), (1, .d (vI a)), (12, aI a.length), (13, aI k)], []⟩) (fun k => k ≤ a.length) (fun k => a.length - k) (0) ?_ (Nat.zero_le _) ?_
 ·refine Weak.ren _ [] hC rfl ?_ ?_ rfl rfl rfl <;> repeat (first | exact True.intro | refine And.intro ?_ ?_ | exact DLead.same)
 intro k hk;refine AC.seq (AC.region ?_);refine zc ?_;refine AL.nil (th_n (AC.seq ?_));refine AC.condD rfl (fun h0 => ?_) (fun h0 => ?_)
 ·refine AC.skip (th_n (AC.seq (AC.block (AC.seq ?_))));have hk1 : k < a.length := by omega
  have hget : (ints a)[k]? = some [dI (a.getD k 0)] := ints_get hk1;refine AC.region ?_;refine zm ?_;refine za ?_;refine AL.nil (th_n (AC.seq ?_));refine AC.drawn' mixed_ok [[], [], [0,1], [0,1,2], [], [], [4,5], [4,5,6], [0,1,2,3,4,5,6,7]] (by decide) ?_;refine zd 0 [] 9 (by exact mv1 rfl) ?_;refine zd 1 [] 9 (by exact mv1 rfl) ?_;refine zd 2 [0,1] 9 (by exact g_ia_view rfl rfl rfl rfl rfl (by rfl) (by assumption)) ?_;refine zd 3 [0,1,2] 9 (by exact g_load_ref rfl rfl rfl) ?_;refine zd 4 [] 9 (by exact mv1 rfl) ?_;refine zd 5 [] 9 (by exact mv1 rfl) ?_;refine zd 6 [4,5] 9 (by exact g_ia_view rfl rfl rfl rfl rfl (by rfl) (by assumption)) ?_;refine zd 7 [4,5,6] 9 (by exact g_load_ref rfl rfl rfl) ?_;refine zd 8 [0,1,2,3,4,5,6,7] 9 (by exact g_neIr rfl rfl rfl) ?_;refine zj 9 ?_;refine th_n ?_;refine AC.condF rfl ?_;refine AC.skip (ib_n (th_n (AC.region ?_)));refine zA ?_;refine zm ?_;refine AL.nil (th_n ?_);exact ⟨k + 1, by omega, by omega, Weak.ren _ [] hC rfl (by repeat (first | exact True.intro | refine And.intro ?_ ?_ | exact DLead.same)) (by repeat (exact True.intro)) rfl rfl rfl⟩
 refine AC.exit (th_e (th_e (ib_y (th_n (AC.seq (AC.region ?_))))));refine za ?_;refine AL.nil (th_n (AC.ret (bq_r ?_)));exact ret1 rfl rfl
theorem en_qSameN : Enters Tryz.prog 13 := enters_of Tryz.func13 rfl rfl
def RdI (W : World) (v : Value) (l : List Int) : Prop := ∃ (b off cap : Nat) (a : Option Addr), v = .slice a l.length cap ∧ l.length ≤ 1000000000 ∧ (0 < l.length → a = some ⟨b, off, none⟩) ∧ ∀ (i : Nat) (h : i < l.length), W.cell? ⟨b, off + i, none⟩ = some (.int .i64 l[i])
theorem lex_lt {x y : List Int} {k : Nat} (h : ∀ i, i < k → x[i]? = y[i]?) (hx : k < x.length) (hy : k < y.length) (hl : x[k] < y[k]) : lexI x y = -1 := by
 rw [lex_ne h hx hy (by unfold cmp1; rw [if_pos hl]; decide)]; unfold cmp1; rw [if_pos hl]
theorem lex_gt {x y : List Int} {k : Nat} (h : ∀ i, i < k → x[i]? = y[i]?) (hx : k < x.length) (hy : k < y.length) (hl : y[k] < x[k]) : lexI x y = 1 := by
 rw [lex_ne h hx hy (by unfold cmp1; rw [if_neg (by omega), if_pos hl]; decide)]; unfold cmp1; rw [if_neg (by omega), if_pos hl]
set_option maxHeartbeats 1000000 in
theorem slCompare_calls (v u : Value) (x y : List Int) (W : World) (hx : RdI W v x) (hy : RdI W u y) : Calls Tryz.prog 141 #[v, u] W fun e w' => e = .returned (.int .i64 (lexI x y)) ∧ w' = W := by
 obtain ⟨b, o, c, a, rfl, hxl, hxa, hxc⟩ := hx;obtain ⟨b2, o2, c2, a2, rfl, hyl, hya, hyc⟩ := hy;have HXA := Lib.hid hxa;have HYA := Lib.hid hya;have HXC := Lib.hid hxc;have HYC := Lib.hid hyc;clear hxa hya hxc hyc
 go_enter Tryz.func141, Tryz.ntmps141
 go_wp2
 go_loopg [11] x.length (fun mm v11 wr => ∃ k, mm = x.length - k ∧ k ≤ x.length ∧ k ≤ y.length ∧ v11 = .int .i64 k ∧ wr = W ∧ ∀ i, i < k → x[i]? = y[i]?)
 case atStart => exact ⟨0, rfl, Nat.zero_le _, Nat.zero_le _, rfl, rfl, fun i hi => by omega⟩
 case round =>
  obtain ⟨k, rfl, hk, hky, rfl, rfl, hall⟩ := hrel;have HA := Lib.hid hall;clear hall
  by_cases hlt : k < x.length
  ·obtain rfl := HXA.out (by omega);have cx := HXC.out k hlt
   by_cases hly : k < y.length
   ·obtain rfl := HYA.out (by omega);have cy := HYC.out k hly;clear HXA HYA HXC HYC
    go_wp2
    ·go_ret
     exact ⟨congrArg (fun z => Ending.returned (Value.int .i64 z)) (lex_lt HA.out hlt hly ‹_›).symm, rfl⟩
    ·go_ret
     exact ⟨congrArg (fun z => Ending.returned (Value.int .i64 z)) (lex_gt HA.out hlt hly ‹_›).symm, rfl⟩
    go_roundg (x.length - (k + 1))
    case rel => exact ⟨k + 1, rfl, by omega, by omega, by go_num, rfl, eq_step HA.out hlt hly (by omega)⟩
    case measure => omega
   go_wp2
   go_ret
   exact ⟨congrArg (fun z => Ending.returned (Value.int .i64 z)) (lex_long HA.out hlt hky (by omega)).symm, rfl⟩
  go_wp2
  ·go_ret
   exact ⟨congrArg (fun z => Ending.returned (Value.int .i64 z)) (lex_short HA.out (by omega) hk hky (by omega)).symm, rfl⟩
  go_ret
  exact ⟨congrArg (fun z => Ending.returned (Value.int .i64 z)) (lex_same HA.out (by omega) hk hky (by omega)).symm, rfl⟩
end Go.Proofs.YtbiinjejokhfgaaGreat
