/- Contracts of the functions of the program and of the reference, each proved by a walk through its code. -/
import Derived.Test.YtknfdlakkbmdcaaGreatGAe2
set_option linter.all false
set_option maxRecDepth 20000
namespace Go.Proofs.YtknfdlakkbmdcaaGreat
open Go.RowKit
def fillR (R : List (List DV)) (z : List DV) (k : Nat) : List (List DV) := R.take k ++ List.replicate (R.length - k) z
theorem fill_zero (R : List (List DV)) (z : List DV) : fillR R z 0 = List.replicate R.length z := rfl
theorem fill_all (R : List (List DV)) (z : List DV) : fillR R z R.length = R := by unfold fillR; rw [List.take_length, Nat.sub_self]; exact List.append_nil _
theorem fill_len (R : List (List DV)) (z : List DV) {k : Nat} (h : k ≤ R.length) : (fillR R z k).length = R.length := by unfold fillR; rw [List.length_append, List.length_take, List.length_replicate]; omega
theorem fill_get {R : List (List DV)} {z : List DV} {k : Nat} (h : k < R.length) : (fillR R z k)[k]? = some z := by
 unfold fillR;rw [List.getElem?_append_right (by rw [List.length_take]; omega), List.length_take, List.getElem?_replicate, if_pos (by omega)]
theorem fill_set {R : List (List DV)} {z r : List DV} {k : Nat} (h : k < R.length) (hr : R[k]? = some r) : (fillR R z k).set k r = fillR R z (k + 1) := by
 have hr' : R[k] = r := (List.getElem?_eq_some_iff.1 hr).2;refine List.ext_getElem? fun i => ?_
 rw [List.getElem?_set];unfold fillR
 by_cases h1 : k = i
 ·subst h1;rw [if_pos rfl, if_pos (by rw [List.length_append, List.length_take, List.length_replicate]; omega), List.getElem?_append_left (by rw [List.length_take]; omega), List.getElem?_take, if_pos (by omega), hr]
 rw [if_neg h1]
 by_cases h2 : i < k
 ·rw [List.getElem?_append_left (by rw [List.length_take]; omega), List.getElem?_append_left (by rw [List.length_take]; omega), List.getElem?_take, List.getElem?_take, if_pos h2, if_pos (by omega)]
 rw [List.getElem?_append_right (by rw [List.length_take]; omega), List.getElem?_append_right (by rw [List.length_take]; omega), List.length_take, List.length_take, List.getElem?_replicate, List.getElem?_replicate]
 by_cases h3 : i < R.length
 ·rw [if_pos (by omega), if_pos (by omega)]
 rw [if_neg (by omega), if_neg (by omega)]
structure Cond where
 place : Int
 by_ : Int
 deriving DecidableEq
structure Ev where
 t : Int
 pre : List Int
 deriving DecidableEq
structure Unf where
 cs : List Cond
 es : List Ev
 deriving DecidableEq
abbrev condD (c : Cond) : List DV := [dI c.place, dI c.by_]
abbrev condA (c : Cond) : AV := .agg [aI c.place, aI c.by_]
abbrev evD (e : Ev) : List DV := [dI e.t, vI e.pre]
abbrev evA (e : Ev) : AV := .agg [aI e.t, .d (vI e.pre)]
abbrev condsL (l : List Cond) : List (List DV) := l.map condD
abbrev evsL (l : List Ev) : List (List DV) := l.map evD
abbrev vCs (l : List Cond) : DV := .view 88 2 (condsL l)
abbrev vEs (l : List Ev) : DV := .view 46 2 (evsL l)
abbrev unfA (u : Unf) : AV := .agg [.d (vCs u.cs), .d (vEs u.es)]
abbrev unfD (u : Unf) : List DV := [vCs u.cs, vEs u.es]
abbrev vLTs (l : List Tn) : DV := .view 84 2 (tsL l)
abbrev vLCs (l : List Cond) : DV := .view 97 2 (condsL l)
abbrev vLEs (l : List Ev) : DV := .view 31 2 (evsL l)
abbrev lnetA (n : Net) : AV := .agg [aI n.places, .d (vLTs n.ts)]
abbrev lunfA (u : Unf) : AV := .agg [.d (vLCs u.cs), .d (vLEs u.es)]
theorem condsL_get {l : List Cond} {k : Nat} (h : k < l.length) : (condsL l)[k]? = some [dI l[k].place, dI l[k].by_] := by simp [condsL, List.getElem?_map, List.getElem?_eq_getElem h]
theorem evsL_get {l : List Ev} {k : Nat} (h : k < l.length) : (evsL l)[k]? = some [dI l[k].t, vI l[k].pre] := by simp [evsL, List.getElem?_map, List.getElem?_eq_getElem h]
def szI (n : Nat) (left : Int) : Int := if left - n < 0 then -1 else left - n
theorem szIntS_spec (l : List Int) (left : Int) (h : 0 ≤ left ∧ left ≤ 1048576) (hl : l.length ≤ 9223372036854775807) : ASpec Tryz.prog 22 [.d (vI l), aI left] [] (Pure1 (aI (szI l.length left))) := by
 refine ASpec.of Tryz.func22 rfl rfl fun C hC => ?_
 refine AC.seq (AC.region ?_);refine za ?_;refine AL.nil (th_n (AC.seq (AC.region ?_)));refine zm ?_;refine zm ?_;refine kH ?_;refine zA ?_;refine za ?_;refine AL.nil (th_n (AC.seq (AC.seq (AC.region ?_))));refine zm ?_;refine zc ?_;refine AL.nil (th_n ?_);refine AC.condD rfl (fun h0 => ?_) (fun h0 => ?_)
 ·refine AC.seq (AC.region ?_);refine za ?_;refine AL.nil (th_n (AC.ret (th_r (bq_r ?_))));exact ret1 rfl (by rw [szI, if_pos h0])
 refine AC.skip (th_n (AC.seq (AC.region ?_)));refine zm ?_;refine za ?_;refine AL.nil (th_n (AC.ret (bq_r ?_)));exact ret1 rfl (by rw [szI, if_neg h0])
theorem en_szIntS : Enters Tryz.prog 22 := enters_of Tryz.func22 rfl rfl
theorem szCondS_spec (l : List Cond) (left : Int) (h : 0 ≤ left ∧ left ≤ 1048576) (hl : l.length ≤ 9223372036854775807) : ASpec Tryz.prog 20 [.d (vLCs l), aI left] [] (Pure1 (aI (szI l.length left))) := by
 refine ASpec.of Tryz.func20 rfl rfl fun C hC => ?_
 refine AC.seq (AC.region ?_);refine za ?_;refine AL.nil (th_n (AC.seq (AC.region ?_)));refine zm ?_;refine zm ?_;refine kH ?_;refine zA ?_;refine za ?_;refine AL.nil (th_n (AC.seq (AC.seq (AC.region ?_))));refine zm ?_;refine zc ?_;refine AL.nil (th_n ?_);refine AC.condD rfl (fun h0 => ?_) (fun h0 => ?_)
 ·refine AC.seq (AC.region ?_);refine za ?_;refine AL.nil (th_n (AC.ret (th_r (bq_r ?_))));exact ret1 rfl (by rw [szI, if_pos h0])
 refine AC.skip (th_n (AC.seq (AC.region ?_)));refine zm ?_;refine za ?_;refine AL.nil (th_n (AC.ret (bq_r ?_)));exact ret1 rfl (by rw [szI, if_neg h0])
theorem en_szCondS : Enters Tryz.prog 20 := enters_of Tryz.func20 rfl rfl
theorem szI_in {n : Nat} {left : Int} (h : 0 ≤ left ∧ left ≤ 1048576) : szI n left = -1 ∨ (0 ≤ szI n left ∧ szI n left ≤ left ∧ (n : Int) ≤ left) := by
 unfold szI
 split
 ·exact .inl rfl
 right; omega
def szT (t : Tn) (left : Int) : Int := if szI t.pre.length left < 0 then -1 else szI t.post.length (szI t.pre.length left)
theorem szT_in {t : Tn} {left : Int} (h : 0 ≤ left ∧ left ≤ 1048576) : szT t left = -1 ∨ (0 ≤ szT t left ∧ szT t left ≤ left ∧ (t.pre.length : Int) ≤ left ∧ (t.post.length : Int) ≤ left) := by
 unfold szT;rcases szI_in (n := t.pre.length) h with h1 | h1
 ·rw [h1]; exact .inl rfl
 rw [if_neg (by omega)];rcases szI_in (n := t.post.length) (left := szI t.pre.length left) ⟨by omega, by omega⟩ with h2 | h2
 ·exact .inl h2
 right; omega
set_option maxHeartbeats 1000000 in
theorem szTn_spec (t : Tn) (left : Int) (h : 0 ≤ left ∧ left ≤ 1048576) (h1 : t.pre.length ≤ 9223372036854775807) (h2 : t.post.length ≤ 9223372036854775807) : ASpec Tryz.prog 45 [tnA t, aI left] [] (Pure1 (aI (szT t left))) := by
 have hin := szI_in (n := t.pre.length) h;have hK1 := szIntS_spec t.pre left h h1;obtain ⟨a, ha⟩ := eqx (szI t.pre.length left);have hsz : szT t left = if a < 0 then -1 else szI t.post.length a := by rw [ha]; rfl
 rw [hsz];rw [← ha] at hin hK1;refine ASpec.of Tryz.func45 rfl rfl fun C hC => ?_
 refine AC.seq (AC.region ?_);refine kD ?_;refine za ?_;refine AL.nil (th_n (AC.seq (AC.region ?_)));refine zf ?_;refine zr ?_;refine zm ?_;refine kV en_szIntS hK1 ?_;refine za ?_;refine AL.nil (th_n (AC.seq (AC.seq (AC.region ?_))));refine zm ?_;refine zc ?_;refine AL.nil (th_n ?_);refine AC.condD rfl (fun h0 => ?_) (fun h0 => ?_)
 ·refine AC.seq (AC.region ?_);refine za ?_;refine AL.nil (th_n (AC.ret (th_r (bq_r ?_))));exact ret1 rfl (by rw [if_pos h0])
 refine AC.skip (th_n (AC.seq ?_));have hK2 := szIntS_spec t.post a ⟨by omega, by omega⟩ h2;refine AC.region ?_;refine zf ?_;refine zr ?_;refine zm ?_;refine kV en_szIntS hK2 ?_;refine za ?_;refine AL.nil (th_n (AC.seq (AC.seq (AC.region ?_))));refine zm ?_;refine zc ?_;refine AL.nil (th_n ?_);refine AC.condD rfl (fun h1 => ?_) (fun h1 => ?_)
 ·refine AC.seq (AC.region ?_);refine za ?_;refine AL.nil (th_n (AC.ret (th_r (bq_r ?_))));have hin2 := szI_in (n := t.post.length) (left := a) ⟨by omega, by omega⟩;have e : szI t.post.length a = -1 := by omega
  exact ret1 rfl (by rw [if_neg h0, e])
 refine AC.skip (th_n (AC.seq (AC.region ?_)));refine zm ?_;refine za ?_;refine AL.nil (th_n (AC.ret (bq_r ?_)));exact ret1 rfl (by rw [if_neg h0])
theorem en_szTn : Enters Tryz.prog 45 := enters_of Tryz.func45 rfl rfl
def szTs : List Tn → Int → Int
 | [], left => left
 | t :: ts, left => if szT t left < 0 then -1 else szTs ts (szT t left)
def szNt (ts : List Tn) (left : Int) : Int := if left - ts.length < 0 then -1 else szTs ts (left - ts.length)
theorem szTs_in : ∀ (ts : List Tn) (left : Int), 0 ≤ left ∧ left ≤ 1048576 → szTs ts left = -1 ∨ (0 ≤ szTs ts left ∧ szTs ts left ≤ left ∧ ∀ t, t ∈ ts → (t.pre.length : Int) ≤ left ∧ (t.post.length : Int) ≤ left)
 | [], left, h => .inr ⟨h.1, Int.le_refl _, fun t ht => by cases ht⟩
 | t :: ts, left, h => by
  simp only [szTs];rcases szT_in (t := t) h with h1 | h1
  ·rw [h1]; exact .inl rfl
  rw [if_neg (by omega)];rcases szTs_in ts (szT t left) ⟨h1.1, by omega⟩ with h2 | h2
  ·exact .inl h2
  refine .inr ⟨h2.1, by omega, fun u hu => ?_⟩;rcases List.mem_cons.1 hu with rfl | hu
  ·exact ⟨h1.2.2.1, h1.2.2.2⟩
  have := h2.2.2 u hu; omega
theorem szNt_in {ts : List Tn} {left : Int} (h : 0 ≤ left ∧ left ≤ 1048576) : szNt ts left = -1 ∨ (0 ≤ szNt ts left ∧ szNt ts left ≤ left ∧ (ts.length : Int) ≤ left ∧ ∀ t, t ∈ ts → (t.pre.length : Int) ≤ left ∧ (t.post.length : Int) ≤ left) := by
 unfold szNt
 split
 ·exact .inl rfl
 rcases szTs_in ts (left - ts.length) ⟨by omega, by omega⟩ with h2 | h2
 ·exact .inl h2
 exact .inr ⟨h2.1, by omega, by omega, fun t ht => by have := h2.2.2 t ht; omega⟩
set_option maxHeartbeats 1000000 in
theorem szTnS_spec (ts : List Tn) (left : Int) (h : 0 ≤ left ∧ left ≤ 1048576) (hl : ts.length ≤ 9223372036854775807) (hb : ∀ t, t ∈ ts → t.pre.length ≤ 9223372036854775807 ∧ t.post.length ≤ 9223372036854775807) : ASpec Tryz.prog 19 [.d (vLTs ts), aI left] [] (Pure1 (aI (szNt ts left))) := by
 refine ASpec.of Tryz.func19 rfl rfl fun C hC => ?_
 refine AC.seq (AC.region ?_);refine za ?_;refine AL.nil (th_n (AC.seq (AC.region ?_)));refine zm ?_;refine zm ?_;refine kH ?_;refine zA ?_;refine za ?_;refine AL.nil (th_n (AC.seq (AC.seq (AC.region ?_))));refine zm ?_;refine zc ?_;refine AL.nil (th_n ?_);refine AC.condD rfl (fun h0 => ?_) (fun h0 => ?_)
 ·refine AC.seq (AC.region ?_);refine za ?_;refine AL.nil (th_n (AC.ret (th_r (bq_r ?_))));exact ret1 rfl (by rw [szNt, if_pos h0])
 refine AC.skip (th_n (AC.seq (AC.seq (AC.region ?_))));refine za ?_;refine AL.nil (th_n (AC.block ?_));refine AC.loop (ι := Nat × Int) (fun x => ⟨27, 0, [(0, .d (vLTs ts)), (1, aI x.2), (5, aI x.1)], []⟩) (fun x => x.1 ≤ ts.length ∧ (0 ≤ x.2 ∧ x.2 ≤ 1048576) ∧ szTs (ts.drop x.1) x.2 = szNt ts left) (fun x => ts.length - x.1) ((0, left - ts.length)) ?_ (⟨Nat.zero_le _, ⟨by show 0 ≤ left - (ts.length : Int); omega, by show left - (ts.length : Int) ≤ _; omega⟩, by rw [szNt, if_neg h0]; rfl⟩) ?_
 ·refine Weak.ren _ [] hC rfl ?_ ?_ rfl rfl rfl <;> repeat (first | exact True.intro | refine And.intro ?_ ?_ | exact DLead.same)
 rintro ⟨k, lf⟩ ⟨hk, hlf, hsub⟩;dsimp only at hk hlf hsub ⊢;refine AC.seq (AC.seq (AC.region ?_));refine zm ?_;refine zm ?_;refine kH ?_;refine zc ?_;refine AL.nil (th_n ?_);refine AC.condD rfl (fun h1 => ?_) (fun h1 => ?_)
 ·refine AC.skip (th_n (AC.seq (AC.block (AC.seq ?_))));have hk1 : k < ts.length := by omega
  have hget := tsL_get hk1;have hbk := hb _ (List.getElem_mem hk1);have hK := szTn_spec ts[k] lf hlf hbk.1 hbk.2;have hin := szT_in (t := ts[k]) hlf;rw [List.drop_eq_getElem_cons hk1] at hsub;simp only [szTs] at hsub;obtain ⟨a, ha⟩ := eqx (szT ts[k] lf);rw [← ha] at hK hin hsub;refine AC.region ?_;refine zm ?_;refine zm ?_;refine AL.p (by exact g_ia_view rfl rfl rfl rfl rfl (by rfl) (by assumption)) rfl ?_;refine kG ?_;refine zm ?_;refine kV en_szTn hK ?_;refine za ?_;refine AL.nil (th_n (AC.seq (AC.region ?_)));refine zm ?_;refine zc ?_;refine AL.nil (th_n ?_);refine AC.condD rfl (fun h2 => ?_) (fun h2 => ?_)
  ·refine AC.seq (AC.region ?_);refine za ?_;refine AL.nil (th_n (AC.ret (ib_r (th_r (th_r (ib_r (th_r (bq_r ?_))))))));exact ret1 rfl (by rw [← hsub, if_pos h2])
  refine AC.skip (ib_n (th_n (AC.region ?_)));refine zm ?_;refine zA ?_;refine za ?_;refine AL.nil (th_n ?_);rw [if_neg h2] at hsub;exact ⟨(k + 1, a), ⟨by show k + 1 ≤ _; omega, ⟨by show 0 ≤ a; omega, by show a ≤ _; omega⟩, hsub⟩, by show ts.length - (k + 1) < ts.length - k; omega, Weak.ren _ [] hC rfl (by repeat (first | exact True.intro | refine And.intro ?_ ?_ | exact DLead.same)) (by repeat (exact True.intro)) rfl rfl rfl⟩
 refine AC.exit (th_e (th_e (ib_y (th_n (AC.seq (AC.region ?_))))));refine zm ?_;refine za ?_;refine AL.nil (th_n (AC.ret (bq_r ?_)));have hkk : k = ts.length := by omega
 rw [hkk, List.drop_length] at hsub;exact ret1 rfl (by rw [← hsub]; rfl)
theorem en_szTnS : Enters Tryz.prog 19 := enters_of Tryz.func19 rfl rfl
set_option maxHeartbeats 1000000 in
theorem szNet_spec (n : Net) (left : Int) (h : 0 ≤ left ∧ left ≤ 1048576) (hl : n.ts.length ≤ 9223372036854775807) (hb : ∀ t, t ∈ n.ts → t.pre.length ≤ 9223372036854775807 ∧ t.post.length ≤ 9223372036854775807) : ASpec Tryz.prog 4 [lnetA n, aI left] [] (Pure1 (aI (szNt n.ts left))) := by
 have hK := szTnS_spec n.ts left h hl hb;have hin := szNt_in (ts := n.ts) h;obtain ⟨a, ha⟩ := eqx (szNt n.ts left);rw [← ha] at hK hin ⊢;refine ASpec.of Tryz.func4 rfl rfl fun C hC => ?_
 refine AC.seq (AC.region ?_);refine kD ?_;refine za ?_;refine AL.nil (th_n (AC.seq (AC.region ?_)));refine zf ?_;refine zr ?_;refine zm ?_;refine kV en_szTnS hK ?_;refine za ?_;refine AL.nil (th_n (AC.seq (AC.seq (AC.region ?_))));refine zm ?_;refine zc ?_;refine AL.nil (th_n ?_);refine AC.condD rfl (fun h0 => ?_) (fun h0 => ?_)
 ·refine AC.seq (AC.region ?_);refine za ?_;refine AL.nil (th_n (AC.ret (th_r (bq_r ?_))));have e : a = -1 := by omega
  exact ret1 rfl (by rw [e])
 refine AC.skip (th_n (AC.seq (AC.region ?_)));refine zm ?_;refine za ?_;refine AL.nil (th_n (AC.ret (bq_r ?_)));exact ret1 rfl rfl
theorem en_szNet : Enters Tryz.prog 4 := enters_of Tryz.func4 rfl rfl
def szE (e : Ev) (left : Int) : Int := szI e.pre.length left
def szEs : List Ev → Int → Int
 | [], left => left
 | e :: es, left => if szE e left < 0 then -1 else szEs es (szE e left)
def szEt (es : List Ev) (left : Int) : Int := if left - es.length < 0 then -1 else szEs es (left - es.length)
def szU (u : Unf) (left : Int) : Int := if szI u.cs.length left < 0 then -1 else szEt u.es (szI u.cs.length left)
theorem szEs_in : ∀ (es : List Ev) (left : Int), 0 ≤ left ∧ left ≤ 1048576 → szEs es left = -1 ∨ (0 ≤ szEs es left ∧ szEs es left ≤ left ∧ ∀ t, t ∈ es → (t.pre.length : Int) ≤ left)
 | [], left, h => .inr ⟨h.1, Int.le_refl _, fun t ht => by cases ht⟩
 | t :: ts, left, h => by
  simp only [szEs];have hi := szI_in (n := t.pre.length) h;rcases hi with h1 | h1
  ·rw [show szE t left = -1 from h1]; exact .inl rfl
  have h1' : 0 ≤ szE t left ∧ szE t left ≤ left ∧ (t.pre.length : Int) ≤ left := h1;rw [if_neg (by omega)];rcases szEs_in ts (szE t left) ⟨h1'.1, by omega⟩ with h2 | h2
  ·exact .inl h2
  refine .inr ⟨h2.1, by omega, fun u hu => ?_⟩;rcases List.mem_cons.1 hu with rfl | hu
  ·exact h1'.2.2
  have := h2.2.2 u hu; omega
theorem szEt_in {es : List Ev} {left : Int} (h : 0 ≤ left ∧ left ≤ 1048576) : szEt es left = -1 ∨ (0 ≤ szEt es left ∧ szEt es left ≤ left ∧ (es.length : Int) ≤ left ∧ ∀ t, t ∈ es → (t.pre.length : Int) ≤ left) := by
 unfold szEt
 split
 ·exact .inl rfl
 rcases szEs_in es (left - es.length) ⟨by omega, by omega⟩ with h2 | h2
 ·exact .inl h2
 exact .inr ⟨h2.1, by omega, by omega, fun t ht => by have := h2.2.2 t ht; omega⟩
theorem szU_in {u : Unf} {left : Int} (h : 0 ≤ left ∧ left ≤ 1048576) : szU u left = -1 ∨ (0 ≤ szU u left ∧ szU u left ≤ left ∧ (u.cs.length : Int) ≤ left ∧ (u.es.length : Int) ≤ left ∧ ∀ t, t ∈ u.es → (t.pre.length : Int) ≤ left) := by
 unfold szU;rcases szI_in (n := u.cs.length) h with h1 | h1
 ·rw [h1]; exact .inl rfl
 rw [if_neg (by omega)];rcases szEt_in (es := u.es) (left := szI u.cs.length left) ⟨by omega, by omega⟩ with h2 | h2
 ·exact .inl h2
 exact .inr ⟨h2.1, by omega, by omega, by omega, fun t ht => by have := h2.2.2.2 t ht; omega⟩
set_option maxHeartbeats 1000000 in
theorem szEv_spec (e : Ev) (left : Int) (h : 0 ≤ left ∧ left ≤ 1048576) (h1 : e.pre.length ≤ 9223372036854775807) : ASpec Tryz.prog 6 [evA e, aI left] [] (Pure1 (aI (szE e left))) := by
 have hK := szIntS_spec e.pre left h h1;have hin := szI_in (n := e.pre.length) h;obtain ⟨a, ha⟩ := eqx (szI e.pre.length left);have e0 : szE e left = a := ha.symm;rw [e0];rw [← ha] at hK hin;refine ASpec.of Tryz.func6 rfl rfl fun C hC => ?_
 refine AC.seq (AC.region ?_);refine kD ?_;refine za ?_;refine AL.nil (th_n (AC.seq (AC.region ?_)));refine zf ?_;refine zr ?_;refine zm ?_;refine kV en_szIntS hK ?_;refine za ?_;refine AL.nil (th_n (AC.seq (AC.seq (AC.region ?_))));refine zm ?_;refine zc ?_;refine AL.nil (th_n ?_);refine AC.condD rfl (fun h0 => ?_) (fun h0 => ?_)
 ·refine AC.seq (AC.region ?_);refine za ?_;refine AL.nil (th_n (AC.ret (th_r (bq_r ?_))));have e : a = -1 := by omega
  exact ret1 rfl (by rw [e])
 refine AC.skip (th_n (AC.seq (AC.region ?_)));refine zm ?_;refine za ?_;refine AL.nil (th_n (AC.ret (bq_r ?_)));exact ret1 rfl rfl
theorem en_szEv : Enters Tryz.prog 6 := enters_of Tryz.func6 rfl rfl
set_option maxHeartbeats 1000000 in
theorem szEvS_spec (es : List Ev) (left : Int) (h : 0 ≤ left ∧ left ≤ 1048576) (hl : es.length ≤ 9223372036854775807) (hb : ∀ t, t ∈ es → t.pre.length ≤ 9223372036854775807) : ASpec Tryz.prog 21 [.d (vLEs es), aI left] [] (Pure1 (aI (szEt es left))) := by
 refine ASpec.of Tryz.func21 rfl rfl fun C hC => ?_
 refine AC.seq (AC.region ?_);refine za ?_;refine AL.nil (th_n (AC.seq (AC.region ?_)));refine zm ?_;refine zm ?_;refine kH ?_;refine zA ?_;refine za ?_;refine AL.nil (th_n (AC.seq (AC.seq (AC.region ?_))));refine zm ?_;refine zc ?_;refine AL.nil (th_n ?_);refine AC.condD rfl (fun h0 => ?_) (fun h0 => ?_)
 ·refine AC.seq (AC.region ?_);refine za ?_;refine AL.nil (th_n (AC.ret (th_r (bq_r ?_))));exact ret1 rfl (by rw [szEt, if_pos h0])
 refine AC.skip (th_n (AC.seq (AC.seq (AC.region ?_))));refine za ?_;refine AL.nil (th_n (AC.block ?_));refine AC.loop (ι := Nat × Int) (fun x => ⟨27, 0, [(0, .d (vLEs es)), (1, aI x.2), (5, aI x.1)], []⟩) (fun x => x.1 ≤ es.length ∧ (0 ≤ x.2 ∧ x.2 ≤ 1048576) ∧ szEs (es.drop x.1) x.2 = szEt es left) (fun x => es.length - x.1) ((0, left - es.length)) ?_ (⟨Nat.zero_le _, ⟨by show 0 ≤ left - (es.length : Int); omega, by show left - (es.length : Int) ≤ _; omega⟩, by rw [szEt, if_neg h0]; rfl⟩) ?_
 ·refine Weak.ren _ [] hC rfl ?_ ?_ rfl rfl rfl <;> repeat (first | exact True.intro | refine And.intro ?_ ?_ | exact DLead.same)
 rintro ⟨k, lf⟩ ⟨hk, hlf, hsub⟩;dsimp only at hk hlf hsub ⊢;refine AC.seq (AC.seq (AC.region ?_));refine zm ?_;refine zm ?_;refine kH ?_;refine zc ?_;refine AL.nil (th_n ?_);refine AC.condD rfl (fun h1 => ?_) (fun h1 => ?_)
 ·refine AC.skip (th_n (AC.seq (AC.block (AC.seq ?_))));have hk1 : k < es.length := by omega
  have hget := evsL_get hk1;have hK := szEv_spec es[k] lf hlf (hb _ (List.getElem_mem hk1));have hin : szE es[k] lf = -1 ∨ (0 ≤ szE es[k] lf ∧ szE es[k] lf ≤ lf ∧ (es[k].pre.length : Int) ≤ lf) := szI_in (n := es[k].pre.length) hlf;rw [List.drop_eq_getElem_cons hk1] at hsub;simp only [szEs] at hsub;obtain ⟨a, ha⟩ := eqx (szE es[k] lf);rw [← ha] at hK hin hsub;refine AC.region ?_;refine zm ?_;refine zm ?_;refine AL.p (by exact g_ia_view rfl rfl rfl rfl rfl (by rfl) (by assumption)) rfl ?_;refine kG ?_;refine zm ?_;refine kV en_szEv hK ?_;refine za ?_;refine AL.nil (th_n (AC.seq (AC.region ?_)));refine zm ?_;refine zc ?_;refine AL.nil (th_n ?_);refine AC.condD rfl (fun h2 => ?_) (fun h2 => ?_)
  ·refine AC.seq (AC.region ?_);refine za ?_;refine AL.nil (th_n (AC.ret (ib_r (th_r (th_r (ib_r (th_r (bq_r ?_))))))));exact ret1 rfl (by rw [← hsub, if_pos h2])
  refine AC.skip (ib_n (th_n (AC.region ?_)));refine zm ?_;refine zA ?_;refine za ?_;refine AL.nil (th_n ?_);rw [if_neg h2] at hsub;exact ⟨(k + 1, a), ⟨by show k + 1 ≤ _; omega, ⟨by show 0 ≤ a; omega, by show a ≤ _; omega⟩, hsub⟩, by show es.length - (k + 1) < es.length - k; omega, Weak.ren _ [] hC rfl (by repeat (first | exact True.intro | refine And.intro ?_ ?_ | exact DLead.same)) (by repeat (exact True.intro)) rfl rfl rfl⟩
 refine AC.exit (th_e (th_e (ib_y (th_n (AC.seq (AC.region ?_))))));refine zm ?_;refine za ?_;refine AL.nil (th_n (AC.ret (bq_r ?_)));have hkk : k = es.length := by omega
 rw [hkk, List.drop_length] at hsub;exact ret1 rfl (by rw [← hsub]; rfl)
theorem en_szEvS : Enters Tryz.prog 21 := enters_of Tryz.func21 rfl rfl
set_option maxHeartbeats 1000000 in
theorem szUnf_spec (u : Unf) (left : Int) (h : 0 ≤ left ∧ left ≤ 1048576) (hc : u.cs.length ≤ 9223372036854775807) (hl : u.es.length ≤ 9223372036854775807) (hb : ∀ t, t ∈ u.es → t.pre.length ≤ 9223372036854775807) : ASpec Tryz.prog 5 [lunfA u, aI left] [] (Pure1 (aI (szU u left))) := by
 have hK := szCondS_spec u.cs left h hc;have hin := szI_in (n := u.cs.length) h;obtain ⟨a, ha⟩ := eqx (szI u.cs.length left);have e0 : szU u left = if a < 0 then -1 else szEt u.es a := by rw [ha]; rfl
 rw [e0];rw [← ha] at hK hin;refine ASpec.of Tryz.func5 rfl rfl fun C hC => ?_
 refine AC.seq (AC.region ?_);refine kD ?_;refine za ?_;refine AL.nil (th_n (AC.seq (AC.region ?_)));refine zf ?_;refine zr ?_;refine zm ?_;refine kV en_szCondS hK ?_;refine za ?_;refine AL.nil (th_n (AC.seq (AC.seq (AC.region ?_))));refine zm ?_;refine zc ?_;refine AL.nil (th_n ?_);refine AC.condD rfl (fun h0 => ?_) (fun h0 => ?_)
 ·refine AC.seq (AC.region ?_);refine za ?_;refine AL.nil (th_n (AC.ret (th_r (bq_r ?_))));exact ret1 rfl (by rw [if_pos h0])
 refine AC.skip (th_n (AC.seq ?_));have hK2 := szEvS_spec u.es a ⟨by omega, by omega⟩ hl hb;have hin2 := szEt_in (es := u.es) (left := a) ⟨by omega, by omega⟩;refine AC.region ?_;refine zf ?_;refine zr ?_;refine zm ?_;refine kV en_szEvS hK2 ?_;refine za ?_;refine AL.nil (th_n (AC.seq (AC.seq (AC.region ?_))));refine zm ?_;refine zc ?_;refine AL.nil (th_n ?_);refine AC.condD rfl (fun h1 => ?_) (fun h1 => ?_)
 ·refine AC.seq (AC.region ?_);refine za ?_;refine AL.nil (th_n (AC.ret (th_r (bq_r ?_))));have e : szEt u.es a = -1 := by omega
  exact ret1 rfl (by rw [if_neg h0, e])
 refine AC.skip (th_n (AC.seq (AC.region ?_)));refine zm ?_;refine za ?_;refine AL.nil (th_n (AC.ret (bq_r ?_)));exact ret1 rfl (by rw [if_neg h0])
theorem en_szUnf : Enters Tryz.prog 5 := enters_of Tryz.func5 rfl rfl
set_option maxHeartbeats 1000000 in
theorem toIntS_spec (l : List Int) (hl : l.length ≤ 1048576) : ASpec Tryz.prog 30 [.d (vI l)] [] (Pure1 (.d (vI l))) := by
 refine ASpec.of Tryz.func30 rfl rfl fun C hC => ?_
 refine AC.seq (AC.region ?_);refine za ?_;refine AL.nil (th_n (AC.seq (AC.region ?_)));refine zm ?_;refine kH ?_;refine AL.q (by exact h_make (k := l.length) rfl rfl rfl rfl rfl rfl rfl rfl (by show 8 * l.length ≤ _; omega) (by omega)) rfl ?_;refine AL.p (by exact as2 rfl) rfl ?_;refine AL.nil (th_n (AC.seq (AC.seq (AC.region ?_))));refine za ?_;refine AL.nil (th_n (AC.block ?_));refine AC.loop (ι := Nat) (fun k => ⟨22, 108, [(0, .d (vI l)), (3, .own 100 l.length), (4, aI k)], [(100, some (.arr 3 1 (fillR (ints l) [dI 0] k)))]⟩) (fun k => k ≤ l.length) (fun k => l.length - k) (0) ?_ (Nat.zero_le _) ?_
 ·exact zw [(100, _)] hC (b := by rw [fill_zero, ints_len]; repeat (first | exact True.intro | refine And.intro ?_ ?_ | exact rfl | refine ⟨_, _, rfl, rfl, ?_⟩))
 intro k hk;refine AC.seq (AC.seq (AC.region ?_));refine zm ?_;refine zm ?_;refine kH ?_;refine zc ?_;refine AL.nil (th_n ?_);refine AC.condD rfl (fun h0 => ?_) (fun h0 => ?_)
 ·refine AC.skip (th_n (AC.seq (AC.block ?_)));have hk1 : k < l.length := by omega
  have hget := ints_at hk1;have hfl := fill_len (ints l) [dI 0] (k := k) (by rw [ints_len]; omega);rw [ints_len] at hfl;have hgf := fill_get (R := ints l) (z := [dI 0]) (k := k) (by rw [ints_len]; omega);have hst := fill_set (R := ints l) (z := [dI 0]) (k := k) (by rw [ints_len]; omega) hget;refine AC.region ?_;refine kB ?_;refine zm ?_;refine zm ?_;refine zm ?_;refine AL.p (by exact g_ia_view rfl rfl rfl rfl rfl (by rfl) (by assumption)) rfl ?_;refine zr ?_;refine AL.p (by exact g_ia_own rfl rfl rfl rfl rfl (by rfl) (by omega) (by exact Nat.mul_one _)) rfl ?_;refine AL.q (by exact h_store_arr1 rfl rfl rfl rfl (by exact .same) (by assumption)) rfl ?_;refine AL.nil (ib_n (th_n (AC.region ?_)));refine zm ?_;refine zA ?_;refine za ?_;refine AL.nil (th_n ?_);exact ⟨k + 1, by omega, by omega, zw [(100, _)] hC (b := by rw [← hst]; repeat (first | exact True.intro | refine And.intro ?_ ?_ | exact rfl | refine ⟨_, _, rfl, rfl, ?_⟩))⟩
 refine AC.exit (th_e (th_e (ib_y (th_n (AC.seq ?_)))));have hkk : k = l.length := by omega
 have hfa := fill_all (ints l) [dI 0];rw [ints_len] at hfa;rw [hkk, hfa];refine AC.weak (Weak.freeze (i := 3) rfl rfl (Nat.le_of_eq (ints_len _).symm) (ints_all _)) ?_;refine AC.region ?_;refine zm ?_;refine za ?_;refine AL.nil (th_n (AC.ret (bq_r ?_)));exact ret1 rfl rfl
theorem en_toIntS : Enters Tryz.prog 30 := enters_of Tryz.func30 rfl rfl
set_option maxHeartbeats 1000000 in
theorem toTn_spec (t : Tn) (h1 : t.pre.length ≤ 1048576) (h2 : t.post.length ≤ 1048576) : ASpec Tryz.prog 54 [tnA t] [] (Pure1 (tnA t)) := by
 refine ASpec.of Tryz.func54 rfl rfl fun C hC => ?_
 refine AC.seq (AC.region ?_);refine kD ?_;refine kE ?_;refine AL.nil (th_n (AC.seq (AC.region ?_)));refine kE ?_;refine AL.nil (th_n (AC.seq (AC.region ?_)));refine zf ?_;refine zr ?_;refine AL.q (by exact h_pure en_toIntS rfl rfl (by repeat (first | exact rfl | exact DLead.same | refine ⟨_, _, rfl, ?_, ?_⟩)) (toIntS_spec _ (by assumption)) rfl) rfl ?_;refine zF ?_;refine zs ?_;refine AL.nil (th_n (AC.seq (AC.region ?_)));refine zf ?_;refine zr ?_;refine AL.q (by exact h_pure en_toIntS rfl rfl (by repeat (first | exact rfl | exact DLead.same | refine ⟨_, _, rfl, ?_, ?_⟩)) (toIntS_spec _ (by assumption)) rfl) rfl ?_;refine zF ?_;refine zs ?_;refine AL.nil (th_n (AC.seq (AC.region ?_)));refine AL.p (by exact g_load_ptrN rfl rfl rfl rfl rfl) rfl ?_;refine zs ?_;refine AL.nil (th_n (AC.ret (bq_r ?_)));exact ret0 rfl (by repeat (first | exact DLead.same | exact rfl | refine ⟨_, rfl, ?_⟩ | refine ⟨_, _, rfl, ?_, ?_⟩))
theorem en_toTn : Enters Tryz.prog 54 := enters_of Tryz.func54 rfl rfl
set_option maxHeartbeats 2000000 in
theorem toTnS_spec (ts : List Tn) (hl : ts.length ≤ 1048576) (hb : ∀ t, t ∈ ts → t.pre.length ≤ 1048576 ∧ t.post.length ≤ 1048576) : ASpec Tryz.prog 27 [.d (vLTs ts)] [] (Pure1 (.d (vTs ts))) := by
 have hrl : (tsL ts).length = ts.length := List.length_map _;refine ASpec.of Tryz.func27 rfl rfl fun C hC => ?_
 refine AC.seq (AC.region ?_);refine za ?_;refine AL.nil (th_n (AC.seq (AC.region ?_)));refine zm ?_;refine kH ?_;refine AL.q (by exact h_make (k := ts.length) rfl rfl rfl rfl rfl rfl rfl rfl (by show 48 * ts.length ≤ _; omega) (by omega)) rfl ?_;refine AL.p (by exact as2 rfl) rfl ?_;refine AL.nil (th_n (AC.seq (AC.seq (AC.region ?_))));refine za ?_;refine AL.nil (th_n (AC.block ?_));refine AC.loop (ι := Nat) (fun k => ⟨23, 108, [(0, .d (vLTs ts)), (3, .own 100 ts.length), (4, aI k)], [(100, some (.arr 91 2 (fillR (tsL ts) [DV.val (.slice none 0 0), DV.val (.slice none 0 0)] k)))]⟩) (fun k => k ≤ ts.length) (fun k => ts.length - k) (0) ?_ (Nat.zero_le _) ?_
 ·exact zw [(100, _)] hC (b := by rw [fill_zero, hrl]; repeat (first | exact True.intro | refine And.intro ?_ ?_ | exact rfl | refine ⟨_, _, rfl, rfl, ?_⟩))
 intro k hk;refine AC.seq (AC.seq (AC.region ?_));refine zm ?_;refine zm ?_;refine kH ?_;refine zc ?_;refine AL.nil (th_n ?_);refine AC.condD rfl (fun h0 => ?_) (fun h0 => ?_)
 ·refine AC.skip (th_n (AC.seq (AC.block ?_)));have hk1 : k < ts.length := by omega
  have hget := tsL_get hk1;have hb1 := (hb _ (List.getElem_mem hk1)).1;have hb2 := (hb _ (List.getElem_mem hk1)).2;have hfl := fill_len (tsL ts) [DV.val (.slice none 0 0), DV.val (.slice none 0 0)] (k := k) (by omega);have hst := fill_set (R := tsL ts) (z := [DV.val (.slice none 0 0), DV.val (.slice none 0 0)]) (k := k) (by omega) hget;refine AC.region ?_;refine kB ?_;refine zm ?_;refine zm ?_;refine zm ?_;refine AL.p (by exact g_ia_view rfl rfl rfl rfl rfl (by rfl) (by assumption)) rfl ?_;refine kG ?_;refine AL.q (by exact h_pure en_toTn rfl rfl (by repeat (first | exact rfl | exact DLead.same | refine ⟨_, _, rfl, ?_, ?_⟩ | refine ⟨_, rfl, ?_⟩)) (toTn_spec _ (by assumption) (by assumption)) rfl) rfl ?_;refine AL.p (by exact g_ia_own rfl rfl rfl rfl rfl (by rfl) (by omega) (by rfl)) rfl ?_;refine AL.q (by exact h_store_row (i := k) (ds := tnD ts[k]) rfl rfl rfl rfl rfl rfl rfl (by omega)) rfl ?_;refine AL.nil (ib_n (th_n (AC.region ?_)));refine zm ?_;refine zA ?_;refine za ?_;refine AL.nil (th_n ?_);exact ⟨k + 1, by omega, by omega, zw [(100, _)] hC (b := by rw [← hst]; repeat (first | exact True.intro | refine And.intro ?_ ?_ | exact rfl | refine ⟨_, _, rfl, rfl, ?_⟩))⟩
 refine AC.exit (th_e (th_e (ib_y (th_n (AC.seq ?_)))));have hkk : k = ts.length := by omega
 have hfa := fill_all (tsL ts) [DV.val (.slice none 0 0), DV.val (.slice none 0 0)];rw [hrl] at hfa;rw [hkk, hfa];refine AC.weak (Weak.freeze (els' := tsL ts) (i := 3) rfl rfl (by omega) (List.take_of_length_le (by omega))) ?_;refine AC.region ?_;refine zm ?_;refine za ?_;refine AL.nil (th_n (AC.ret (bq_r ?_)));exact ret1 rfl rfl
theorem en_toTnS : Enters Tryz.prog 27 := enters_of Tryz.func27 rfl rfl
set_option maxHeartbeats 1000000 in
theorem toCond_spec (c : Cond)  : ASpec Tryz.prog 55 [condA c] [] (Pure1 (condA c)) := by
 refine ASpec.of Tryz.func55 rfl rfl fun C hC => ?_
 refine AC.seq (AC.region ?_);refine kD ?_;refine kE ?_;refine AL.nil (th_n (AC.seq (AC.region ?_)));refine kE ?_;refine AL.nil (th_n (AC.seq (AC.region ?_)));refine zf ?_;refine zr ?_;refine zF ?_;refine zs ?_;refine AL.nil (th_n (AC.seq (AC.region ?_)));refine zf ?_;refine zr ?_;refine zF ?_;refine zs ?_;refine AL.nil (th_n (AC.seq (AC.region ?_)));refine AL.p (by exact g_load_ptrN rfl rfl rfl rfl rfl) rfl ?_;refine zs ?_;refine AL.nil (th_n (AC.ret (bq_r ?_)));exact ret0 rfl (by repeat (first | exact DLead.same | exact rfl | refine ⟨_, rfl, ?_⟩ | refine ⟨_, _, rfl, ?_, ?_⟩))
theorem en_toCond : Enters Tryz.prog 55 := enters_of Tryz.func55 rfl rfl
set_option maxHeartbeats 2000000 in
theorem toCondS_spec (cs : List Cond) (hl : cs.length ≤ 1048576)  : ASpec Tryz.prog 28 [.d (vLCs cs)] [] (Pure1 (.d (vCs cs))) := by
 have hrl : (condsL cs).length = cs.length := List.length_map _;refine ASpec.of Tryz.func28 rfl rfl fun C hC => ?_
 refine AC.seq (AC.region ?_);refine za ?_;refine AL.nil (th_n (AC.seq (AC.region ?_)));refine zm ?_;refine kH ?_;refine AL.q (by exact h_make (k := cs.length) rfl rfl rfl rfl rfl rfl rfl rfl (by show 16 * cs.length ≤ _; omega) (by omega)) rfl ?_;refine AL.p (by exact as2 rfl) rfl ?_;refine AL.nil (th_n (AC.seq (AC.seq (AC.region ?_))));refine za ?_;refine AL.nil (th_n (AC.block ?_));refine AC.loop (ι := Nat) (fun k => ⟨23, 108, [(0, .d (vLCs cs)), (3, .own 100 cs.length), (4, aI k)], [(100, some (.arr 88 2 (fillR (condsL cs) [dI 0, dI 0] k)))]⟩) (fun k => k ≤ cs.length) (fun k => cs.length - k) (0) ?_ (Nat.zero_le _) ?_
 ·exact zw [(100, _)] hC (b := by rw [fill_zero, hrl]; repeat (first | exact True.intro | refine And.intro ?_ ?_ | exact rfl | refine ⟨_, _, rfl, rfl, ?_⟩))
 intro k hk;refine AC.seq (AC.seq (AC.region ?_));refine zm ?_;refine zm ?_;refine kH ?_;refine zc ?_;refine AL.nil (th_n ?_);refine AC.condD rfl (fun h0 => ?_) (fun h0 => ?_)
 ·refine AC.skip (th_n (AC.seq (AC.block ?_)));have hk1 : k < cs.length := by omega
  have hget := condsL_get hk1;have hfl := fill_len (condsL cs) [dI 0, dI 0] (k := k) (by omega);have hst := fill_set (R := condsL cs) (z := [dI 0, dI 0]) (k := k) (by omega) hget;refine AC.region ?_;refine kB ?_;refine zm ?_;refine zm ?_;refine zm ?_;refine AL.p (by exact g_ia_view rfl rfl rfl rfl rfl (by rfl) (by assumption)) rfl ?_;refine kG ?_;refine AL.q (by exact h_pure en_toCond rfl rfl (by repeat (first | exact rfl | exact DLead.same | refine ⟨_, _, rfl, ?_, ?_⟩ | refine ⟨_, rfl, ?_⟩)) (toCond_spec _) rfl) rfl ?_;refine AL.p (by exact g_ia_own rfl rfl rfl rfl rfl (by rfl) (by omega) (by rfl)) rfl ?_;refine AL.q (by exact h_store_row (i := k) (ds := condD cs[k]) rfl rfl rfl rfl rfl rfl rfl (by omega)) rfl ?_;refine AL.nil (ib_n (th_n (AC.region ?_)));refine zm ?_;refine zA ?_;refine za ?_;refine AL.nil (th_n ?_);exact ⟨k + 1, by omega, by omega, zw [(100, _)] hC (b := by rw [← hst]; repeat (first | exact True.intro | refine And.intro ?_ ?_ | exact rfl | refine ⟨_, _, rfl, rfl, ?_⟩))⟩
 refine AC.exit (th_e (th_e (ib_y (th_n (AC.seq ?_)))));have hkk : k = cs.length := by omega
 have hfa := fill_all (condsL cs) [dI 0, dI 0];rw [hrl] at hfa;rw [hkk, hfa];refine AC.weak (Weak.freeze (els' := condsL cs) (i := 3) rfl rfl (by omega) (List.take_of_length_le (by omega))) ?_;refine AC.region ?_;refine zm ?_;refine za ?_;refine AL.nil (th_n (AC.ret (bq_r ?_)));exact ret1 rfl rfl
theorem en_toCondS : Enters Tryz.prog 28 := enters_of Tryz.func28 rfl rfl
set_option maxHeartbeats 1000000 in
theorem toEv_spec (e : Ev) (h1 : e.pre.length ≤ 1048576) : ASpec Tryz.prog 10 [evA e] [] (Pure1 (evA e)) := by
 refine ASpec.of Tryz.func10 rfl rfl fun C hC => ?_
 refine AC.seq (AC.region ?_);refine kD ?_;refine kE ?_;refine AL.nil (th_n (AC.seq (AC.region ?_)));refine kE ?_;refine AL.nil (th_n (AC.seq (AC.region ?_)));refine zf ?_;refine zr ?_;refine zF ?_;refine zs ?_;refine AL.nil (th_n (AC.seq (AC.region ?_)));refine zf ?_;refine zr ?_;refine AL.q (by exact h_pure en_toIntS rfl rfl (by repeat (first | exact rfl | exact DLead.same | refine ⟨_, _, rfl, ?_, ?_⟩)) (toIntS_spec _ (by assumption)) rfl) rfl ?_;refine zF ?_;refine zs ?_;refine AL.nil (th_n (AC.seq (AC.region ?_)));refine AL.p (by exact g_load_ptrN rfl rfl rfl rfl rfl) rfl ?_;refine zs ?_;refine AL.nil (th_n (AC.ret (bq_r ?_)));exact ret0 rfl (by repeat (first | exact DLead.same | exact rfl | refine ⟨_, rfl, ?_⟩ | refine ⟨_, _, rfl, ?_, ?_⟩))
theorem en_toEv : Enters Tryz.prog 10 := enters_of Tryz.func10 rfl rfl
set_option maxHeartbeats 2000000 in
theorem toEvS_spec (es : List Ev) (hl : es.length ≤ 1048576) (hb : ∀ t, t ∈ es → t.pre.length ≤ 1048576) : ASpec Tryz.prog 29 [.d (vLEs es)] [] (Pure1 (.d (vEs es))) := by
 have hrl : (evsL es).length = es.length := List.length_map _;refine ASpec.of Tryz.func29 rfl rfl fun C hC => ?_
 refine AC.seq (AC.region ?_);refine za ?_;refine AL.nil (th_n (AC.seq (AC.region ?_)));refine zm ?_;refine kH ?_;refine AL.q (by exact h_make (k := es.length) rfl rfl rfl rfl rfl rfl rfl rfl (by show 32 * es.length ≤ _; omega) (by omega)) rfl ?_;refine AL.p (by exact as2 rfl) rfl ?_;refine AL.nil (th_n (AC.seq (AC.seq (AC.region ?_))));refine za ?_;refine AL.nil (th_n (AC.block ?_));refine AC.loop (ι := Nat) (fun k => ⟨23, 108, [(0, .d (vLEs es)), (3, .own 100 es.length), (4, aI k)], [(100, some (.arr 46 2 (fillR (evsL es) [dI 0, DV.val (.slice none 0 0)] k)))]⟩) (fun k => k ≤ es.length) (fun k => es.length - k) (0) ?_ (Nat.zero_le _) ?_
 ·exact zw [(100, _)] hC (b := by rw [fill_zero, hrl]; repeat (first | exact True.intro | refine And.intro ?_ ?_ | exact rfl | refine ⟨_, _, rfl, rfl, ?_⟩))
 intro k hk;refine AC.seq (AC.seq (AC.region ?_));refine zm ?_;refine zm ?_;refine kH ?_;refine zc ?_;refine AL.nil (th_n ?_);refine AC.condD rfl (fun h0 => ?_) (fun h0 => ?_)
 ·refine AC.skip (th_n (AC.seq (AC.block ?_)));have hk1 : k < es.length := by omega
  have hget := evsL_get hk1;have hb1 := hb _ (List.getElem_mem hk1);have hfl := fill_len (evsL es) [dI 0, DV.val (.slice none 0 0)] (k := k) (by omega);have hst := fill_set (R := evsL es) (z := [dI 0, DV.val (.slice none 0 0)]) (k := k) (by omega) hget;refine AC.region ?_;refine kB ?_;refine zm ?_;refine zm ?_;refine zm ?_;refine AL.p (by exact g_ia_view rfl rfl rfl rfl rfl (by rfl) (by assumption)) rfl ?_;refine kG ?_;refine AL.q (by exact h_pure en_toEv rfl rfl (by repeat (first | exact rfl | exact DLead.same | refine ⟨_, _, rfl, ?_, ?_⟩ | refine ⟨_, rfl, ?_⟩)) (toEv_spec _ (by assumption)) rfl) rfl ?_;refine AL.p (by exact g_ia_own rfl rfl rfl rfl rfl (by rfl) (by omega) (by rfl)) rfl ?_;refine AL.q (by exact h_store_row (i := k) (ds := evD es[k]) rfl rfl rfl rfl rfl rfl rfl (by omega)) rfl ?_;refine AL.nil (ib_n (th_n (AC.region ?_)));refine zm ?_;refine zA ?_;refine za ?_;refine AL.nil (th_n ?_);exact ⟨k + 1, by omega, by omega, zw [(100, _)] hC (b := by rw [← hst]; repeat (first | exact True.intro | refine And.intro ?_ ?_ | exact rfl | refine ⟨_, _, rfl, rfl, ?_⟩))⟩
 refine AC.exit (th_e (th_e (ib_y (th_n (AC.seq ?_)))));have hkk : k = es.length := by omega
 have hfa := fill_all (evsL es) [dI 0, DV.val (.slice none 0 0)];rw [hrl] at hfa;rw [hkk, hfa];refine AC.weak (Weak.freeze (els' := evsL es) (i := 3) rfl rfl (by omega) (List.take_of_length_le (by omega))) ?_;refine AC.region ?_;refine zm ?_;refine za ?_;refine AL.nil (th_n (AC.ret (bq_r ?_)));exact ret1 rfl rfl
theorem en_toEvS : Enters Tryz.prog 29 := enters_of Tryz.func29 rfl rfl
set_option maxHeartbeats 1000000 in
theorem toNet_spec (n : Net) (hl : n.ts.length ≤ 1048576) (hb : ∀ t, t ∈ n.ts → t.pre.length ≤ 1048576 ∧ t.post.length ≤ 1048576) : ASpec Tryz.prog 8 [lnetA n] [] (Pure1 (netA n)) := by
 refine ASpec.of Tryz.func8 rfl rfl fun C hC => ?_
 refine AC.seq (AC.region ?_);refine kD ?_;refine kE ?_;refine AL.nil (th_n (AC.seq (AC.region ?_)));refine kE ?_;refine AL.nil (th_n (AC.seq (AC.region ?_)));refine zf ?_;refine zr ?_;refine zF ?_;refine zs ?_;refine AL.nil (th_n (AC.seq (AC.region ?_)));refine zf ?_;refine zr ?_;refine AL.q (by exact h_pure en_toTnS rfl rfl (by repeat (first | exact rfl | exact DLead.same | refine ⟨_, _, rfl, ?_, ?_⟩)) (toTnS_spec _ (by assumption) (by assumption)) rfl) rfl ?_;refine zF ?_;refine zs ?_;refine AL.nil (th_n (AC.seq (AC.region ?_)));refine AL.p (by exact g_load_ptrN rfl rfl rfl rfl rfl) rfl ?_;refine zs ?_;refine AL.nil (th_n (AC.ret (bq_r ?_)));exact ret0 rfl (by repeat (first | exact DLead.same | exact rfl | refine ⟨_, rfl, ?_⟩ | refine ⟨_, _, rfl, ?_, ?_⟩))
theorem en_toNet : Enters Tryz.prog 8 := enters_of Tryz.func8 rfl rfl
set_option maxHeartbeats 1000000 in
theorem toUnf_spec (u : Unf) (hc : u.cs.length ≤ 1048576) (hl : u.es.length ≤ 1048576) (hb : ∀ t, t ∈ u.es → t.pre.length ≤ 1048576) : ASpec Tryz.prog 9 [lunfA u] [] (Pure1 (unfA u)) := by
 refine ASpec.of Tryz.func9 rfl rfl fun C hC => ?_
 refine AC.seq (AC.region ?_);refine kD ?_;refine kE ?_;refine AL.nil (th_n (AC.seq (AC.region ?_)));refine kE ?_;refine AL.nil (th_n (AC.seq (AC.region ?_)));refine zf ?_;refine zr ?_;refine AL.q (by exact h_pure en_toCondS rfl rfl (by repeat (first | exact rfl | exact DLead.same | refine ⟨_, _, rfl, ?_, ?_⟩)) (toCondS_spec _ (by assumption)) rfl) rfl ?_;refine zF ?_;refine zs ?_;refine AL.nil (th_n (AC.seq (AC.region ?_)));refine zf ?_;refine zr ?_;refine AL.q (by exact h_pure en_toEvS rfl rfl (by repeat (first | exact rfl | exact DLead.same | refine ⟨_, _, rfl, ?_, ?_⟩)) (toEvS_spec _ (by assumption) (by assumption)) rfl) rfl ?_;refine zF ?_;refine zs ?_;refine AL.nil (th_n (AC.seq (AC.region ?_)));refine AL.p (by exact g_load_ptrN rfl rfl rfl rfl rfl) rfl ?_;refine zs ?_;refine AL.nil (th_n (AC.ret (bq_r ?_)));exact ret0 rfl (by repeat (first | exact DLead.same | exact rfl | refine ⟨_, rfl, ?_⟩ | refine ⟨_, _, rfl, ?_, ?_⟩))
theorem en_toUnf : Enters Tryz.prog 9 := enters_of Tryz.func9 rfl rfl
set_option maxHeartbeats 1000000 in
theorem eqIntS_spec (a b : List Int) (ha : a.length ≤ 1048576) (hb : b.length ≤ 1048576)  : ASpec Tryz.prog 38 [.d (vI a), .d (vI b)] [] (Pure1 (aT (decide (a = b)))) := by
 refine ASpec.of Tryz.func38 rfl rfl fun C hC => ?_
 refine AC.seq (AC.region ?_);refine za ?_;refine AL.nil (th_n (AC.seq (AC.seq (AC.region ?_))));refine zm ?_;refine kH ?_;refine zm ?_;refine kH ?_;refine zc ?_;refine AL.nil (th_n ?_);refine AC.condND rfl (fun h0 => ?_) (fun h0 => ?_)
 ·refine AC.seq (AC.region ?_);refine za ?_;refine AL.nil (th_n (AC.ret (th_r (bq_r ?_))));have hne : a ≠ b := fun e => h0 (by rw [e])
  exact ret1 rfl (by rw [decide_eq_false hne])
 refine AC.skip (th_n (AC.seq (AC.seq (AC.region ?_))));refine za ?_;refine AL.nil (th_n (AC.block ?_));refine AC.loop (ι := Nat) (fun k => ⟨26, 0, [(0, .d (vI a)), (1, .d (vI b)), (5, aI k)], []⟩) (fun k => k ≤ a.length ∧ ∀ j (h1 : j < a.length) (h2 : j < b.length), j < k → a[j] = b[j]) (fun k => a.length - k) (0) ?_ (⟨Nat.zero_le _, fun j _ _ hj => by omega⟩) ?_
 ·refine Weak.ren _ [] hC rfl ?_ ?_ rfl rfl rfl <;> repeat (first | exact True.intro | refine And.intro ?_ ?_ | exact DLead.same)
 intro k ⟨hk, hall⟩;refine AC.seq (AC.seq (AC.region ?_));refine zm ?_;refine zm ?_;refine kH ?_;refine zc ?_;refine AL.nil (th_n ?_);refine AC.condD rfl (fun h1 => ?_) (fun h1 => ?_)
 ·refine AC.skip (th_n (AC.seq (AC.block (AC.seq ?_))));have hk1 : k < a.length := by omega
  have hk2 : k < b.length := by omega
  have hgeta := ints_at hk1;have hgetb := ints_at hk2;refine AC.drawn' mixed_ok [[], [], [0,1], [0,1,2], [], [], [4,5], [4,5,6], [0,1,2,3,4,5,6,7]] (by decide) ?_;refine zd 0 [] 9 (by exact mv1 rfl) ?_;refine zd 1 [] 9 (by exact mv1 rfl) ?_;refine zd 2 [0,1] 9 (by exact g_ia_view rfl rfl rfl rfl rfl (by rfl) (by assumption)) ?_;refine zd 3 [0,1,2] 9 (by exact g_load_ref rfl rfl rfl) ?_;refine zd 4 [] 9 (by exact mv1 rfl) ?_;refine zd 5 [] 9 (by exact mv1 rfl) ?_;refine zd 6 [4,5] 9 (by exact g_ia_view rfl rfl rfl rfl rfl (by rfl) (by assumption)) ?_;refine zd 7 [4,5,6] 9 (by exact g_load_ref rfl rfl rfl) ?_;refine zd 8 [0,1,2,3,4,5,6,7] 9 (by exact g_cmp rfl rfl rfl) ?_;refine zj 9 ?_;refine th_n ?_;refine AC.condND rfl (fun h2 => ?_) (fun h2 => ?_)
  ·refine AC.seq (AC.region ?_);refine za ?_;refine AL.nil (th_n (AC.ret (ib_r (th_r (th_r (ib_r (th_r (bq_r ?_))))))));have hne : a ≠ b := fun e => by subst e; simp at h2
   exact ret1 rfl (by rw [decide_eq_false hne])
  refine AC.skip (ib_n (th_n (AC.region ?_)));refine zm ?_;refine zA ?_;refine za ?_;refine AL.nil (th_n ?_);have hkk : a[k] = b[k] := by simpa using h2
  exact ⟨k + 1, ⟨by omega, fun j h1 h2 hj => by rcases Nat.lt_succ_iff_lt_or_eq.1 hj with h | rfl; exact hall j h1 h2 h; exact hkk⟩, by omega, Weak.ren _ [] hC rfl (by repeat (first | exact True.intro | refine And.intro ?_ ?_ | exact DLead.same)) (by repeat (exact True.intro)) rfl rfl rfl⟩
 refine AC.exit (th_e (th_e (ib_y (th_n (AC.seq (AC.region ?_))))));refine za ?_;refine AL.nil (th_n (AC.ret (bq_r ?_)));have he : a = b := List.ext_getElem (by omega) (fun j h1 h2 => hall j h1 h2 (by omega));exact ret1 rfl (by rw [decide_eq_true he])
theorem en_eqIntS : Enters Tryz.prog 38 := enters_of Tryz.func38 rfl rfl
theorem eqTn_dec (a b : Tn) : decide (a = b) = (decide (a.pre = b.pre) && decide (a.post = b.post)) := by
 cases a; cases b;simp only [Tn.mk.injEq];exact Bool.decide_and _ _
set_option maxHeartbeats 1000000 in
theorem eqTn_spec (a b : Tn) (h1 : a.pre.length ≤ 1048576) (h2 : b.pre.length ≤ 1048576) (h3 : a.post.length ≤ 1048576) (h4 : b.post.length ≤ 1048576) : ASpec Tryz.prog 68 [tnA a, tnA b] [] (Pure1 (aT (decide (a = b)))) := by
 rw [eqTn_dec];refine ASpec.of Tryz.func68 rfl rfl fun C hC => ?_
 refine AC.seq (AC.region ?_);refine kD ?_;refine kD ?_;refine za ?_;refine AL.nil (th_n (AC.seq (AC.seq (AC.region ?_))));refine zf ?_;refine zr ?_;refine zf ?_;refine zr ?_;refine AL.q (by exact h_pure en_eqIntS rfl rfl (by repeat (first | exact rfl | exact DLead.same | refine ⟨_, _, rfl, ?_, ?_⟩)) (eqIntS_spec _ _ (by assumption) (by assumption)) rfl) rfl ?_;refine kC ?_;refine AL.nil (th_n ?_);refine AC.condND rfl (fun h0 => ?_) (fun h0 => ?_)
 ·refine AC.seq (AC.region ?_);refine za ?_;refine AL.nil (th_n (AC.ret (th_r (bq_r ?_))));exact ret1 rfl (by simp_all)
 refine AC.skip (th_n (AC.seq (AC.seq (AC.region ?_))));refine zf ?_;refine zr ?_;refine zf ?_;refine zr ?_;refine AL.q (by exact h_pure en_eqIntS rfl rfl (by repeat (first | exact rfl | exact DLead.same | refine ⟨_, _, rfl, ?_, ?_⟩)) (eqIntS_spec _ _ (by assumption) (by assumption)) rfl) rfl ?_;refine kC ?_;refine AL.nil (th_n ?_);refine AC.condND rfl (fun h1 => ?_) (fun h1 => ?_)
 ·refine AC.seq (AC.region ?_);refine za ?_;refine AL.nil (th_n (AC.ret (th_r (bq_r ?_))));exact ret1 rfl (by simp_all)
 refine AC.skip (th_n (AC.seq (AC.region ?_)));refine za ?_;refine AL.nil (th_n (AC.ret (bq_r ?_)));exact ret1 rfl (by simp_all)
theorem en_eqTn : Enters Tryz.prog 68 := enters_of Tryz.func68 rfl rfl
set_option maxHeartbeats 1000000 in
theorem eqTnS_spec (a b : List Tn) (ha : a.length ≤ 1048576) (hb : b.length ≤ 1048576) (hba : ∀ t, t ∈ a → t.pre.length ≤ 1048576 ∧ t.post.length ≤ 1048576) (hbb : ∀ t, t ∈ b → t.pre.length ≤ 1048576 ∧ t.post.length ≤ 1048576) : ASpec Tryz.prog 37 [.d (vTs a), .d (vTs b)] [] (Pure1 (aT (decide (a = b)))) := by
 refine ASpec.of Tryz.func37 rfl rfl fun C hC => ?_
 refine AC.seq (AC.region ?_);refine za ?_;refine AL.nil (th_n (AC.seq (AC.seq (AC.region ?_))));refine zm ?_;refine kH ?_;refine zm ?_;refine kH ?_;refine zc ?_;refine AL.nil (th_n ?_);refine AC.condND rfl (fun h0 => ?_) (fun h0 => ?_)
 ·refine AC.seq (AC.region ?_);refine za ?_;refine AL.nil (th_n (AC.ret (th_r (bq_r ?_))));have hne : a ≠ b := fun e => h0 (by rw [e])
  exact ret1 rfl (by rw [decide_eq_false hne])
 refine AC.skip (th_n (AC.seq (AC.seq (AC.region ?_))));refine za ?_;refine AL.nil (th_n (AC.block ?_));refine AC.loop (ι := Nat) (fun k => ⟨27, 0, [(0, .d (vTs a)), (1, .d (vTs b)), (5, aI k)], []⟩) (fun k => k ≤ a.length ∧ ∀ j (h1 : j < a.length) (h2 : j < b.length), j < k → a[j] = b[j]) (fun k => a.length - k) (0) ?_ (⟨Nat.zero_le _, fun j _ _ hj => by omega⟩) ?_
 ·refine Weak.ren _ [] hC rfl ?_ ?_ rfl rfl rfl <;> repeat (first | exact True.intro | refine And.intro ?_ ?_ | exact DLead.same)
 intro k ⟨hk, hall⟩;refine AC.seq (AC.seq (AC.region ?_));refine zm ?_;refine zm ?_;refine kH ?_;refine zc ?_;refine AL.nil (th_n ?_);refine AC.condD rfl (fun h1 => ?_) (fun h1 => ?_)
 ·refine AC.skip (th_n (AC.seq (AC.block (AC.seq ?_))));have hk1 : k < a.length := by omega
  have hk2 : k < b.length := by omega
  have hgeta := tsL_get hk1;have hgetb := tsL_get hk2;have q1 := (hba _ (List.getElem_mem hk1)).1;have q2 := (hba _ (List.getElem_mem hk1)).2;have q3 := (hbb _ (List.getElem_mem hk2)).1;have q4 := (hbb _ (List.getElem_mem hk2)).2;refine AC.drawn' mixed_ok [[], [], [0,1], [0,1,2], [], [], [4,5], [4,5,6], [0,1,2,3,4,5,6,7], [0,1,2,3,4,5,6,7,8]] (by decide) ?_;refine zd 0 [] 10 (by exact mv1 rfl) ?_;refine zd 1 [] 10 (by exact mv1 rfl) ?_;refine zd 2 [0,1] 10 (by exact g_ia_view rfl rfl rfl rfl rfl (by rfl) (by assumption)) ?_;refine zd 3 [0,1,2] 10 (by exact g_load_refN rfl rfl rfl rfl) ?_;refine zd 4 [] 10 (by exact mv1 rfl) ?_;refine zd 5 [] 10 (by exact mv1 rfl) ?_;refine zd 6 [4,5] 10 (by exact g_ia_view rfl rfl rfl rfl rfl (by rfl) (by assumption)) ?_;refine zd 7 [4,5,6] 10 (by exact g_load_refN rfl rfl rfl rfl) ?_;refine zh 8 [0,1,2,3,4,5,6,7] 10 (by exact h_pure en_eqTn rfl rfl (by repeat (first | exact rfl | exact DLead.same | refine ⟨_, _, rfl, ?_, ?_⟩ | refine ⟨_, rfl, ?_⟩)) (eqTn_spec _ _ (by assumption) (by assumption) (by assumption) (by assumption)) rfl) ?_;refine zd 9 (List.range 9) 10 (by exact g_not rfl) ?_;refine zj 10 ?_;refine th_n ?_;refine AC.condND rfl (fun h2 => ?_) (fun h2 => ?_)
  ·refine AC.seq (AC.region ?_);refine za ?_;refine AL.nil (th_n (AC.ret (ib_r (th_r (th_r (ib_r (th_r (bq_r ?_))))))));have hne : a ≠ b := fun e => by subst e; simp at h2
   exact ret1 rfl (by rw [decide_eq_false hne])
  refine AC.skip (ib_n (th_n (AC.region ?_)));refine zm ?_;refine zA ?_;refine za ?_;refine AL.nil (th_n ?_);have hkk : a[k] = b[k] := by simpa using h2
  exact ⟨k + 1, ⟨by omega, fun j h1 h2 hj => by rcases Nat.lt_succ_iff_lt_or_eq.1 hj with h | rfl; exact hall j h1 h2 h; exact hkk⟩, by omega, Weak.ren _ [] hC rfl (by repeat (first | exact True.intro | refine And.intro ?_ ?_ | exact DLead.same)) (by repeat (exact True.intro)) rfl rfl rfl⟩
 refine AC.exit (th_e (th_e (ib_y (th_n (AC.seq (AC.region ?_))))));refine za ?_;refine AL.nil (th_n (AC.ret (bq_r ?_)));have he : a = b := List.ext_getElem (by omega) (fun j h1 h2 => hall j h1 h2 (by omega));exact ret1 rfl (by rw [decide_eq_true he])
theorem en_eqTnS : Enters Tryz.prog 37 := enters_of Tryz.func37 rfl rfl
theorem eqCond_dec (a b : Cond) : decide (a = b) = (decide (a.place = b.place) && decide (a.by_ = b.by_)) := by
 cases a; cases b;simp only [Cond.mk.injEq];exact Bool.decide_and _ _
set_option maxHeartbeats 1000000 in
theorem eqCond_spec (a b : Cond)  : ASpec Tryz.prog 67 [condA a, condA b] [] (Pure1 (aT (decide (a = b)))) := by
 rw [eqCond_dec];refine ASpec.of Tryz.func67 rfl rfl fun C hC => ?_
 refine AC.seq (AC.region ?_);refine kD ?_;refine kD ?_;refine za ?_;refine AL.nil (th_n (AC.seq (AC.seq (AC.region ?_))));refine zf ?_;refine zr ?_;refine zf ?_;refine zr ?_;refine zc ?_;refine AL.nil (th_n ?_);refine AC.condND rfl (fun h0 => ?_) (fun h0 => ?_)
 ·refine AC.seq (AC.region ?_);refine za ?_;refine AL.nil (th_n (AC.ret (th_r (bq_r ?_))));exact ret1 rfl (by simp_all)
 refine AC.skip (th_n (AC.seq (AC.seq (AC.region ?_))));refine zf ?_;refine zr ?_;refine zf ?_;refine zr ?_;refine zc ?_;refine AL.nil (th_n ?_);refine AC.condND rfl (fun h1 => ?_) (fun h1 => ?_)
 ·refine AC.seq (AC.region ?_);refine za ?_;refine AL.nil (th_n (AC.ret (th_r (bq_r ?_))));exact ret1 rfl (by simp_all)
 refine AC.skip (th_n (AC.seq (AC.region ?_)));refine za ?_;refine AL.nil (th_n (AC.ret (bq_r ?_)));exact ret1 rfl (by simp_all)
theorem en_eqCond : Enters Tryz.prog 67 := enters_of Tryz.func67 rfl rfl
set_option maxHeartbeats 1000000 in
theorem eqCondS_spec (a b : List Cond) (ha : a.length ≤ 1048576) (hb : b.length ≤ 1048576)  : ASpec Tryz.prog 35 [.d (vCs a), .d (vCs b)] [] (Pure1 (aT (decide (a = b)))) := by
 refine ASpec.of Tryz.func35 rfl rfl fun C hC => ?_
 refine AC.seq (AC.region ?_);refine za ?_;refine AL.nil (th_n (AC.seq (AC.seq (AC.region ?_))));refine zm ?_;refine kH ?_;refine zm ?_;refine kH ?_;refine zc ?_;refine AL.nil (th_n ?_);refine AC.condND rfl (fun h0 => ?_) (fun h0 => ?_)
 ·refine AC.seq (AC.region ?_);refine za ?_;refine AL.nil (th_n (AC.ret (th_r (bq_r ?_))));have hne : a ≠ b := fun e => h0 (by rw [e])
  exact ret1 rfl (by rw [decide_eq_false hne])
 refine AC.skip (th_n (AC.seq (AC.seq (AC.region ?_))));refine za ?_;refine AL.nil (th_n (AC.block ?_));refine AC.loop (ι := Nat) (fun k => ⟨27, 0, [(0, .d (vCs a)), (1, .d (vCs b)), (5, aI k)], []⟩) (fun k => k ≤ a.length ∧ ∀ j (h1 : j < a.length) (h2 : j < b.length), j < k → a[j] = b[j]) (fun k => a.length - k) (0) ?_ (⟨Nat.zero_le _, fun j _ _ hj => by omega⟩) ?_
 ·refine Weak.ren _ [] hC rfl ?_ ?_ rfl rfl rfl <;> repeat (first | exact True.intro | refine And.intro ?_ ?_ | exact DLead.same)
 intro k ⟨hk, hall⟩;refine AC.seq (AC.seq (AC.region ?_));refine zm ?_;refine zm ?_;refine kH ?_;refine zc ?_;refine AL.nil (th_n ?_);refine AC.condD rfl (fun h1 => ?_) (fun h1 => ?_)
 ·refine AC.skip (th_n (AC.seq (AC.block (AC.seq ?_))));have hk1 : k < a.length := by omega
  have hk2 : k < b.length := by omega
  have hgeta := condsL_get hk1;have hgetb := condsL_get hk2;refine AC.drawn' mixed_ok [[], [], [0,1], [0,1,2], [], [], [4,5], [4,5,6], [0,1,2,3,4,5,6,7], [0,1,2,3,4,5,6,7,8]] (by decide) ?_;refine zd 0 [] 10 (by exact mv1 rfl) ?_;refine zd 1 [] 10 (by exact mv1 rfl) ?_;refine zd 2 [0,1] 10 (by exact g_ia_view rfl rfl rfl rfl rfl (by rfl) (by assumption)) ?_;refine zd 3 [0,1,2] 10 (by exact g_load_refN rfl rfl rfl rfl) ?_;refine zd 4 [] 10 (by exact mv1 rfl) ?_;refine zd 5 [] 10 (by exact mv1 rfl) ?_;refine zd 6 [4,5] 10 (by exact g_ia_view rfl rfl rfl rfl rfl (by rfl) (by assumption)) ?_;refine zd 7 [4,5,6] 10 (by exact g_load_refN rfl rfl rfl rfl) ?_;refine zh 8 [0,1,2,3,4,5,6,7] 10 (by exact h_pure en_eqCond rfl rfl (by repeat (first | exact rfl | exact DLead.same | refine ⟨_, _, rfl, ?_, ?_⟩ | refine ⟨_, rfl, ?_⟩)) (eqCond_spec _ _) rfl) ?_;refine zd 9 (List.range 9) 10 (by exact g_not rfl) ?_;refine zj 10 ?_;refine th_n ?_;refine AC.condND rfl (fun h2 => ?_) (fun h2 => ?_)
  ·refine AC.seq (AC.region ?_);refine za ?_;refine AL.nil (th_n (AC.ret (ib_r (th_r (th_r (ib_r (th_r (bq_r ?_))))))));have hne : a ≠ b := fun e => by subst e; simp at h2
   exact ret1 rfl (by rw [decide_eq_false hne])
  refine AC.skip (ib_n (th_n (AC.region ?_)));refine zm ?_;refine zA ?_;refine za ?_;refine AL.nil (th_n ?_);have hkk : a[k] = b[k] := by simpa using h2
  exact ⟨k + 1, ⟨by omega, fun j h1 h2 hj => by rcases Nat.lt_succ_iff_lt_or_eq.1 hj with h | rfl; exact hall j h1 h2 h; exact hkk⟩, by omega, Weak.ren _ [] hC rfl (by repeat (first | exact True.intro | refine And.intro ?_ ?_ | exact DLead.same)) (by repeat (exact True.intro)) rfl rfl rfl⟩
 refine AC.exit (th_e (th_e (ib_y (th_n (AC.seq (AC.region ?_))))));refine za ?_;refine AL.nil (th_n (AC.ret (bq_r ?_)));have he : a = b := List.ext_getElem (by omega) (fun j h1 h2 => hall j h1 h2 (by omega));exact ret1 rfl (by rw [decide_eq_true he])
theorem en_eqCondS : Enters Tryz.prog 35 := enters_of Tryz.func35 rfl rfl
theorem eqEv_dec (a b : Ev) : decide (a = b) = (decide (a.t = b.t) && decide (a.pre = b.pre)) := by
 cases a; cases b;simp only [Ev.mk.injEq];exact Bool.decide_and _ _
set_option maxHeartbeats 1000000 in
theorem eqEv_spec (a b : Ev) (h1 : a.pre.length ≤ 1048576) (h2 : b.pre.length ≤ 1048576) : ASpec Tryz.prog 14 [evA a, evA b] [] (Pure1 (aT (decide (a = b)))) := by
 rw [eqEv_dec];refine ASpec.of Tryz.func14 rfl rfl fun C hC => ?_
 refine AC.seq (AC.region ?_);refine kD ?_;refine kD ?_;refine za ?_;refine AL.nil (th_n (AC.seq (AC.seq (AC.region ?_))));refine zf ?_;refine zr ?_;refine zf ?_;refine zr ?_;refine zc ?_;refine AL.nil (th_n ?_);refine AC.condND rfl (fun h0 => ?_) (fun h0 => ?_)
 ·refine AC.seq (AC.region ?_);refine za ?_;refine AL.nil (th_n (AC.ret (th_r (bq_r ?_))));exact ret1 rfl (by simp_all)
 refine AC.skip (th_n (AC.seq (AC.seq (AC.region ?_))));refine zf ?_;refine zr ?_;refine zf ?_;refine zr ?_;refine AL.q (by exact h_pure en_eqIntS rfl rfl (by repeat (first | exact rfl | exact DLead.same | refine ⟨_, _, rfl, ?_, ?_⟩)) (eqIntS_spec _ _ (by assumption) (by assumption)) rfl) rfl ?_;refine kC ?_;refine AL.nil (th_n ?_);refine AC.condND rfl (fun h1 => ?_) (fun h1 => ?_)
 ·refine AC.seq (AC.region ?_);refine za ?_;refine AL.nil (th_n (AC.ret (th_r (bq_r ?_))));exact ret1 rfl (by simp_all)
 refine AC.skip (th_n (AC.seq (AC.region ?_)));refine za ?_;refine AL.nil (th_n (AC.ret (bq_r ?_)));exact ret1 rfl (by simp_all)
theorem en_eqEv : Enters Tryz.prog 14 := enters_of Tryz.func14 rfl rfl
set_option maxHeartbeats 1000000 in
theorem eqEvS_spec (a b : List Ev) (ha : a.length ≤ 1048576) (hb : b.length ≤ 1048576) (hba : ∀ t, t ∈ a → t.pre.length ≤ 1048576) (hbb : ∀ t, t ∈ b → t.pre.length ≤ 1048576) : ASpec Tryz.prog 36 [.d (vEs a), .d (vEs b)] [] (Pure1 (aT (decide (a = b)))) := by
 refine ASpec.of Tryz.func36 rfl rfl fun C hC => ?_
 refine AC.seq (AC.region ?_);refine za ?_;refine AL.nil (th_n (AC.seq (AC.seq (AC.region ?_))));refine zm ?_;refine kH ?_;refine zm ?_;refine kH ?_;refine zc ?_;refine AL.nil (th_n ?_);refine AC.condND rfl (fun h0 => ?_) (fun h0 => ?_)
 ·refine AC.seq (AC.region ?_);refine za ?_;refine AL.nil (th_n (AC.ret (th_r (bq_r ?_))));have hne : a ≠ b := fun e => h0 (by rw [e])
  exact ret1 rfl (by rw [decide_eq_false hne])
 refine AC.skip (th_n (AC.seq (AC.seq (AC.region ?_))));refine za ?_;refine AL.nil (th_n (AC.block ?_));refine AC.loop (ι := Nat) (fun k => ⟨27, 0, [(0, .d (vEs a)), (1, .d (vEs b)), (5, aI k)], []⟩) (fun k => k ≤ a.length ∧ ∀ j (h1 : j < a.length) (h2 : j < b.length), j < k → a[j] = b[j]) (fun k => a.length - k) (0) ?_ (⟨Nat.zero_le _, fun j _ _ hj => by omega⟩) ?_
 ·refine Weak.ren _ [] hC rfl ?_ ?_ rfl rfl rfl <;> repeat (first | exact True.intro | refine And.intro ?_ ?_ | exact DLead.same)
 intro k ⟨hk, hall⟩;refine AC.seq (AC.seq (AC.region ?_));refine zm ?_;refine zm ?_;refine kH ?_;refine zc ?_;refine AL.nil (th_n ?_);refine AC.condD rfl (fun h1 => ?_) (fun h1 => ?_)
 ·refine AC.skip (th_n (AC.seq (AC.block (AC.seq ?_))));have hk1 : k < a.length := by omega
  have hk2 : k < b.length := by omega
  have hgeta := evsL_get hk1;have hgetb := evsL_get hk2;have q1 := hba _ (List.getElem_mem hk1);have q2 := hbb _ (List.getElem_mem hk2);refine AC.drawn' mixed_ok [[], [], [0,1], [0,1,2], [], [], [4,5], [4,5,6], [0,1,2,3,4,5,6,7], [0,1,2,3,4,5,6,7,8]] (by decide) ?_;refine zd 0 [] 10 (by exact mv1 rfl) ?_;refine zd 1 [] 10 (by exact mv1 rfl) ?_;refine zd 2 [0,1] 10 (by exact g_ia_view rfl rfl rfl rfl rfl (by rfl) (by assumption)) ?_;refine zd 3 [0,1,2] 10 (by exact g_load_refN rfl rfl rfl rfl) ?_;refine zd 4 [] 10 (by exact mv1 rfl) ?_;refine zd 5 [] 10 (by exact mv1 rfl) ?_;refine zd 6 [4,5] 10 (by exact g_ia_view rfl rfl rfl rfl rfl (by rfl) (by assumption)) ?_;refine zd 7 [4,5,6] 10 (by exact g_load_refN rfl rfl rfl rfl) ?_;refine zh 8 [0,1,2,3,4,5,6,7] 10 (by exact h_pure en_eqEv rfl rfl (by repeat (first | exact rfl | exact DLead.same | refine ⟨_, _, rfl, ?_, ?_⟩ | refine ⟨_, rfl, ?_⟩)) (eqEv_spec _ _ (by assumption) (by assumption)) rfl) ?_;refine zd 9 (List.range 9) 10 (by exact g_not rfl) ?_;refine zj 10 ?_;refine th_n ?_;refine AC.condND rfl (fun h2 => ?_) (fun h2 => ?_)
  ·refine AC.seq (AC.region ?_);refine za ?_;refine AL.nil (th_n (AC.ret (ib_r (th_r (th_r (ib_r (th_r (bq_r ?_))))))));have hne : a ≠ b := fun e => by subst e; simp at h2
   exact ret1 rfl (by rw [decide_eq_false hne])
  refine AC.skip (ib_n (th_n (AC.region ?_)));refine zm ?_;refine zA ?_;refine za ?_;refine AL.nil (th_n ?_);have hkk : a[k] = b[k] := by simpa using h2
  exact ⟨k + 1, ⟨by omega, fun j h1 h2 hj => by rcases Nat.lt_succ_iff_lt_or_eq.1 hj with h | rfl; exact hall j h1 h2 h; exact hkk⟩, by omega, Weak.ren _ [] hC rfl (by repeat (first | exact True.intro | refine And.intro ?_ ?_ | exact DLead.same)) (by repeat (exact True.intro)) rfl rfl rfl⟩
 refine AC.exit (th_e (th_e (ib_y (th_n (AC.seq (AC.region ?_))))));refine za ?_;refine AL.nil (th_n (AC.ret (bq_r ?_)));have he : a = b := List.ext_getElem (by omega) (fun j h1 h2 => hall j h1 h2 (by omega));exact ret1 rfl (by rw [decide_eq_true he])
theorem en_eqEvS : Enters Tryz.prog 36 := enters_of Tryz.func36 rfl rfl
theorem eqNet_dec (a b : Net) : decide (a = b) = (decide (a.places = b.places) && decide (a.ts = b.ts)) := by
 cases a; cases b;simp only [Net.mk.injEq];exact Bool.decide_and _ _
set_option maxHeartbeats 1000000 in
theorem eqNet_spec (a b : Net) (h1 : a.ts.length ≤ 1048576) (h2 : b.ts.length ≤ 1048576) (h3 : ∀ t, t ∈ a.ts → t.pre.length ≤ 1048576 ∧ t.post.length ≤ 1048576) (h4 : ∀ t, t ∈ b.ts → t.pre.length ≤ 1048576 ∧ t.post.length ≤ 1048576) : ASpec Tryz.prog 13 [netA a, netA b] [] (Pure1 (aT (decide (a = b)))) := by
 rw [eqNet_dec];refine ASpec.of Tryz.func13 rfl rfl fun C hC => ?_
 refine AC.seq (AC.region ?_);refine kD ?_;refine kD ?_;refine za ?_;refine AL.nil (th_n (AC.seq (AC.seq (AC.region ?_))));refine zf ?_;refine zr ?_;refine zf ?_;refine zr ?_;refine zc ?_;refine AL.nil (th_n ?_);refine AC.condND rfl (fun h0 => ?_) (fun h0 => ?_)
 ·refine AC.seq (AC.region ?_);refine za ?_;refine AL.nil (th_n (AC.ret (th_r (bq_r ?_))));exact ret1 rfl (by simp_all)
 refine AC.skip (th_n (AC.seq (AC.seq (AC.region ?_))));refine zf ?_;refine zr ?_;refine zf ?_;refine zr ?_;refine AL.q (by exact h_pure en_eqTnS rfl rfl (by repeat (first | exact rfl | exact DLead.same | refine ⟨_, _, rfl, ?_, ?_⟩)) (eqTnS_spec _ _ (by assumption) (by assumption) (by assumption) (by assumption)) rfl) rfl ?_;refine kC ?_;refine AL.nil (th_n ?_);refine AC.condND rfl (fun h1 => ?_) (fun h1 => ?_)
 ·refine AC.seq (AC.region ?_);refine za ?_;refine AL.nil (th_n (AC.ret (th_r (bq_r ?_))));exact ret1 rfl (by simp_all)
 refine AC.skip (th_n (AC.seq (AC.region ?_)));refine za ?_;refine AL.nil (th_n (AC.ret (bq_r ?_)));exact ret1 rfl (by simp_all)
theorem en_eqNet : Enters Tryz.prog 13 := enters_of Tryz.func13 rfl rfl
theorem eqUnf_dec (a b : Unf) : decide (a = b) = (decide (a.cs = b.cs) && decide (a.es = b.es)) := by
 cases a; cases b;simp only [Unf.mk.injEq];exact Bool.decide_and _ _
set_option maxHeartbeats 1000000 in
theorem eqUnf_spec (a b : Unf) (h1 : a.es.length ≤ 1048576) (h2 : b.es.length ≤ 1048576) (h3 : ∀ t, t ∈ a.es → t.pre.length ≤ 1048576) (h4 : ∀ t, t ∈ b.es → t.pre.length ≤ 1048576) (h5 : a.cs.length ≤ 1048576) (h6 : b.cs.length ≤ 1048576) : ASpec Tryz.prog 12 [unfA a, unfA b] [] (Pure1 (aT (decide (a = b)))) := by
 rw [eqUnf_dec];refine ASpec.of Tryz.func12 rfl rfl fun C hC => ?_
 refine AC.seq (AC.region ?_);refine kD ?_;refine kD ?_;refine za ?_;refine AL.nil (th_n (AC.seq (AC.seq (AC.region ?_))));refine zf ?_;refine zr ?_;refine zf ?_;refine zr ?_;refine AL.q (by exact h_pure en_eqCondS rfl rfl (by repeat (first | exact rfl | exact DLead.same | refine ⟨_, _, rfl, ?_, ?_⟩)) (eqCondS_spec _ _ (by assumption) (by assumption)) rfl) rfl ?_;refine kC ?_;refine AL.nil (th_n ?_);refine AC.condND rfl (fun h0 => ?_) (fun h0 => ?_)
 ·refine AC.seq (AC.region ?_);refine za ?_;refine AL.nil (th_n (AC.ret (th_r (bq_r ?_))));exact ret1 rfl (by simp_all)
 refine AC.skip (th_n (AC.seq (AC.seq (AC.region ?_))));refine zf ?_;refine zr ?_;refine zf ?_;refine zr ?_;refine AL.q (by exact h_pure en_eqEvS rfl rfl (by repeat (first | exact rfl | exact DLead.same | refine ⟨_, _, rfl, ?_, ?_⟩)) (eqEvS_spec _ _ (by assumption) (by assumption) (by assumption) (by assumption)) rfl) rfl ?_;refine kC ?_;refine AL.nil (th_n ?_);refine AC.condND rfl (fun h1 => ?_) (fun h1 => ?_)
 ·refine AC.seq (AC.region ?_);refine za ?_;refine AL.nil (th_n (AC.ret (th_r (bq_r ?_))));exact ret1 rfl (by simp_all)
 refine AC.skip (th_n (AC.seq (AC.region ?_)));refine za ?_;refine AL.nil (th_n (AC.ret (bq_r ?_)));exact ret1 rfl (by simp_all)
theorem en_eqUnf : Enters Tryz.prog 12 := enters_of Tryz.func12 rfl rfl
def inR (N : Net) (t : Int) : Bool := decide (0 ≤ t) && decide (t ≤ (N.ts.length : Int) - 1)
def Cur.pick (c : Cur) (n : Int) : Int × Cur :=
 if n ≤ 1 then (0, c) else if 200 < n then ((c.next * 256 + c.after.next).tmod n, c.after.after) else (c.next.tmod n, c.after)
def putI (l : List Int) (x : Int) : List Int :=
 if l[l.findIdx (fun y => decide (x ≤ y))]? = some x then l else l.take (l.findIdx (fun y => decide (x ≤ y))) ++ [x] ++ l.drop (l.findIdx (fun y => decide (x ≤ y)))
theorem putI_len (l : List Int) (x : Int) : (putI l x).length ≤ l.length + 1 := by
 unfold putI
 split
 ·omega
 simp; omega
theorem idx_at {l : List Int} {x : Int} {k : Nat} (hk : k < l.length) (h : ¬ l[k] < x) (hp : ∀ j (hj : j < k), l[j]'(by omega) < x) : l.findIdx (fun y => decide (x ≤ y)) = k :=
 (List.findIdx_eq hk).2 ⟨by simp; omega, fun j hj => by have := hp j hj; simp; omega⟩
theorem idx_end {l : List Int} {x : Int} (hp : ∀ j (hj : j < l.length), l[j] < x) {k : Nat} (hk : l.length = k) : l.findIdx (fun y => decide (x ≤ y)) = k := by
 subst hk;exact List.findIdx_eq_length.2 (fun y hy => by obtain ⟨j, hj, rfl⟩ := List.getElem_of_mem hy; have := hp j hj; simp; omega)
theorem putI_same {l : List Int} {x : Int} {k : Nat} (h : l.findIdx (fun y => decide (x ≤ y)) = k) (hk : k < l.length) (he : l[k] = x) : putI l x = l := by
 unfold putI; rw [h, List.getElem?_eq_getElem hk, he, if_pos rfl]
theorem putI_at {l : List Int} {x : Int} {k : Nat} (h : l.findIdx (fun y => decide (x ≤ y)) = k) (hk : k < l.length) (he : ¬ l[k] = x) : putI l x = l.take k ++ [x] ++ l.drop k := by
 unfold putI; rw [h, List.getElem?_eq_getElem hk, if_neg (by simpa using he)]
theorem putI_end {l : List Int} {x : Int} {k : Nat} (h : l.findIdx (fun y => decide (x ≤ y)) = k) (hk : l.length ≤ k) : putI l x = l.take k ++ [x] ++ l.drop k := by
 unfold putI; rw [h, List.getElem?_eq_none hk, if_neg (by simp)]
set_option maxHeartbeats 2000000 in
theorem l1Put_spec (l : List Int) (x : Int) (hl : l.length ≤ 1000000) : ASpec Tryz.prog 72 [.d (vI l), aI x] [] (Pure1 (.d (vI (putI l x)))) := by
 refine ASpec.of Tryz.func72 rfl rfl fun C hC => ?_
 refine AC.seq (AC.region ?_);refine za ?_;refine AL.nil (th_n (AC.seq (AC.region ?_)));refine za ?_;refine AL.nil (th_n ?_);refine AC.cut (fun (k : Nat) => ⟨48, 0, [(0, .d (vI l)), (1, aI x), (5, aI k)], []⟩) (fun k => k ≤ l.length ∧ l.findIdx (fun y => decide (x ≤ y)) = k) ?_ ?_
 ·refine AC.block ?_;refine AC.loop (ι := Nat) (fun k => ⟨48, 0, [(0, .d (vI l)), (1, aI x), (5, aI k)], []⟩) (fun k => k ≤ l.length ∧ ∀ j (hj : j < l.length), j < k → l[j] < x) (fun k => l.length - k) (0) ?_ (⟨Nat.zero_le _, fun j _ hj => by omega⟩) ?_
  ·refine Weak.ren _ [] hC rfl ?_ ?_ rfl rfl rfl <;> repeat (first | exact True.intro | refine And.intro ?_ ?_ | exact DLead.same)
  intro k ⟨hk, hall⟩;refine AC.seq (AC.seq (AC.region ?_));refine zm ?_;refine zm ?_;refine kH ?_;refine zc ?_;refine zm ?_;refine AL.caseG rfl rfl (fun h0 => ?_) (fun h0 => ?_)
  ·refine zy ?_;have hk1 : k < l.length := by omega
   have hget := ints_at hk1;refine zm ?_;refine zy ?_;refine zm ?_;refine zy ?_;refine AL.p (by exact g_ia_view rfl rfl rfl rfl rfl (by rfl) (by assumption)) rfl ?_;refine zy ?_;refine zr ?_;refine zy ?_;refine zm ?_;refine zy ?_;refine zc ?_;refine zQ ?_;refine AL.nil (th_n ?_);refine AC.condD rfl (fun h1 => ?_) (fun h1 => ?_)
   ·refine AC.skip (th_n (AC.block (AC.region ?_)));refine zm ?_;refine zA ?_;refine za ?_;refine AL.nil (ib_n (th_n ?_));exact ⟨k + 1, ⟨by omega, fun j hj hj2 => by rcases Nat.lt_succ_iff_lt_or_eq.1 hj2 with h | rfl; exact hall j hj h; exact h1⟩, by omega, Weak.ren _ [] hC rfl (by repeat (first | exact True.intro | refine And.intro ?_ ?_ | exact DLead.same)) (by repeat (exact True.intro)) rfl rfl rfl⟩
   refine AC.exit (th_e (th_e (ib_y (th_n ?_))));exact ⟨k, ⟨hk, idx_at hk1 h1 (fun j hj => hall j (by omega) hj)⟩, Weak.ren _ [] hC rfl (by repeat (first | exact True.intro | refine And.intro ?_ ?_ | exact DLead.same)) (by repeat (exact True.intro)) rfl rfl rfl⟩
  refine zn ?_;refine zn ?_;refine zn ?_;refine zn ?_;refine zn ?_;refine zn ?_;refine zP ?_;refine AL.nil (th_n ?_);refine AC.condF rfl ?_;refine AC.exit (th_e (th_e (ib_y (th_n ?_))));exact ⟨k, ⟨hk, idx_end (fun j hj => hall j hj (by omega)) (by omega)⟩, Weak.ren _ [] hC rfl (by repeat (first | exact True.intro | refine And.intro ?_ ?_ | exact DLead.same)) (by repeat (exact True.intro)) rfl rfl rfl⟩
 intro k ⟨hk, hidx⟩;refine AC.seq (AC.seq (AC.region ?_));refine zm ?_;refine zm ?_;refine kH ?_;refine zc ?_;refine zm ?_;refine AL.caseG rfl rfl (fun h0 => ?_) (fun h0 => ?_)
 ·refine zy ?_;have hk1 : k < l.length := by omega
  have hget := ints_at hk1;refine zm ?_;refine zy ?_;refine zm ?_;refine zy ?_;refine AL.p (by exact g_ia_view rfl rfl rfl rfl rfl (by rfl) (by assumption)) rfl ?_;refine zy ?_;refine zr ?_;refine zy ?_;refine zm ?_;refine zy ?_;refine zc ?_;refine zQ ?_;refine AL.nil (th_n ?_);refine AC.condD rfl (fun h1 => ?_) (fun h1 => ?_)
  ·refine AC.seq (AC.region ?_);refine zm ?_;refine za ?_;refine AL.nil (th_n (AC.ret (th_r (bq_r ?_))));have e : putI l x = l := putI_same hidx hk1 h1;exact ret1 rfl (by rw [e])
  refine AC.skip (th_n (AC.seq ?_));have e : putI l x = l.take k ++ [x] ++ l.drop k := by exact putI_at hidx hk1 h1
  refine AC.region ?_;refine AL.q (by exact h_lit rfl rfl rfl rfl rfl rfl rfl rfl) rfl ?_;refine zm ?_;refine zm ?_;refine AL.p (by exact g_slice_view (r := ints (l.take k)) rfl rfl rfl rfl .none (.some rfl rfl) (Nat.zero_le _) (by rw [ints_len]; exact hk) (by simp [List.map_take])) rfl ?_;refine AL.q (by exact h_appendI [] (l.take k) (.own rfl rfl rfl) (.view rfl) (by simp; omega) (by simp)) rfl ?_;refine AL.p (by exact as2 rfl) rfl ?_;refine AL.nil (th_n (AC.seq (AC.region ?_)));refine kB ?_;refine zm ?_;refine AL.q (by exact h_litF rfl rfl rfl rfl rfl rfl rfl rfl) rfl ?_;refine AL.q (by exact h_appendI ([] ++ l.take k) [x] (.own rfl rfl (ints_len _).symm) (.view rfl) (by simp; omega) (by simp)) rfl ?_;refine AL.p (by exact as2 rfl) rfl ?_;refine AL.nil (th_n (AC.seq (AC.region ?_)));refine kB ?_;refine zm ?_;refine zm ?_;refine AL.p (by exact g_slice_view (r := ints (l.drop k)) rfl rfl rfl rfl (.some rfl rfl) .none (by rw [ints_len]; exact hk) (Nat.le_refl _) (by rw [List.take_length]; exact (List.map_drop ..).symm)) rfl ?_;refine AL.q (by exact h_appendI ([] ++ l.take k ++ [x]) (l.drop k) (.own rfl rfl (ints_len _).symm) (.view rfl) (by simp; omega) (by simp)) rfl ?_;refine AL.weak (Weak.freeze (i := 47) rfl rfl (Nat.le_of_eq (ints_len _).symm) (ints_all _)) ?_;refine za ?_;refine AL.nil (th_n (AC.ret (bq_r ?_)));exact ret1 rfl (by rw [e]; rfl)
 refine zn ?_;refine zn ?_;refine zn ?_;refine zn ?_;refine zn ?_;refine zn ?_;refine zP ?_;refine AL.nil (th_n ?_);refine AC.condF rfl ?_;refine AC.skip (th_n (AC.seq ?_));have e : putI l x = l.take k ++ [x] ++ l.drop k := by exact putI_end hidx (by omega)
 refine AC.region ?_;refine AL.q (by exact h_lit rfl rfl rfl rfl rfl rfl rfl rfl) rfl ?_;refine zm ?_;refine zm ?_;refine AL.p (by exact g_slice_view (r := ints (l.take k)) rfl rfl rfl rfl .none (.some rfl rfl) (Nat.zero_le _) (by rw [ints_len]; exact hk) (by simp [List.map_take])) rfl ?_;refine AL.q (by exact h_appendI [] (l.take k) (.own rfl rfl rfl) (.view rfl) (by simp; omega) (by simp)) rfl ?_;refine AL.p (by exact as2 rfl) rfl ?_;refine AL.nil (th_n (AC.seq (AC.region ?_)));refine kB ?_;refine zm ?_;refine AL.q (by exact h_litF rfl rfl rfl rfl rfl rfl rfl rfl) rfl ?_;refine AL.q (by exact h_appendI ([] ++ l.take k) [x] (.own rfl rfl (ints_len _).symm) (.view rfl) (by simp; omega) (by simp)) rfl ?_;refine AL.p (by exact as2 rfl) rfl ?_;refine AL.nil (th_n (AC.seq (AC.region ?_)));refine kB ?_;refine zm ?_;refine zm ?_;refine AL.p (by exact g_slice_view (r := ints (l.drop k)) rfl rfl rfl rfl (.some rfl rfl) .none (by rw [ints_len]; exact hk) (Nat.le_refl _) (by rw [List.take_length]; exact (List.map_drop ..).symm)) rfl ?_;refine AL.q (by exact h_appendI ([] ++ l.take k ++ [x]) (l.drop k) (.own rfl rfl (ints_len _).symm) (.view rfl) (by simp; omega) (by simp)) rfl ?_;refine AL.weak (Weak.freeze (i := 47) rfl rfl (Nat.le_of_eq (ints_len _).symm) (ints_all _)) ?_;refine za ?_;refine AL.nil (th_n (AC.ret (bq_r ?_)));exact ret1 rfl (by rw [e]; rfl)
theorem en_l1Put : Enters Tryz.prog 72 := enters_of Tryz.func72 rfl rfl
theorem tsL_len (l : List Tn) : (tsL l).length = l.length := List.length_map _
def small (N : Net) : Prop := 0 ≤ N.places ∧ N.places ≤ 31 ∧ N.ts.length ≤ 4 ∧ ∀ t, t ∈ N.ts → t.pre.length ≤ 2 ∧ t.post.length ≤ 2
theorem getD_at {l : List Int} {k : Nat} (h : k < l.length) : l.getD k 0 = l[k] := by rw [List.getD_eq_getElem?_getD, List.getElem?_eq_getElem h]; rfl
theorem same_of {a b : List Int} (hl : a.length = b.length) (h : ∀ j, j < a.length → a.getD j 0 = b.getD j 0) : a = b :=
 List.ext_getElem hl fun j ha hb => by have := h j ha; rwa [getD_at ha, getD_at hb] at this
theorem same_no {a b : List Int} {j : Nat} (h : a.getD j 0 ≠ b.getD j 0) : a ≠ b := fun e => h (by rw [e])
theorem slEqual_spec (a b : List Int) (ha : a.length ≤ 1000000) (hb : b.length ≤ 1000000) : ASpec Tryz.prog 61 [.d (vI a), .d (vI b)] [] (Pure1 (aT (decide (a = b)))) := by
 refine ASpec.of Tryz.func61 rfl rfl fun C hC => ?_
 refine AC.seq (AC.region ?_);refine za ?_;refine AL.nil (th_n (AC.seq (AC.seq (AC.region ?_))));refine zm ?_;refine kH ?_;refine zm ?_;refine kH ?_;refine zc ?_;refine AL.nil (th_n ?_);refine AC.condND rfl (fun h0 => ?_) (fun h0 => ?_)
 ·refine AC.seq (AC.region ?_);refine za ?_;refine AL.nil (th_n (AC.ret (th_r (bq_r ?_))));have hne : a ≠ b := fun e => h0 (by rw [e])
  exact ret1 rfl (by rw [decide_eq_false hne])
 refine AC.skip (th_n (AC.seq (AC.seq (AC.region ?_))));refine zm ?_;refine kH ?_;refine zm ?_;refine AL.nil (th_n (AC.block ?_));refine AC.loop (ι := Nat) (fun k => ⟨26, 0, [(0, .d (vI a)), (1, .d (vI b)), (12, aI a.length), (13, aI k)], []⟩) (fun k => k ≤ a.length ∧ ∀ j, j < k → a.getD j 0 = b.getD j 0) (fun k => a.length - k) (0) ?_ (⟨Nat.zero_le _, fun j hj => by omega⟩) ?_
 ·refine Weak.ren _ [] hC rfl ?_ ?_ rfl rfl rfl <;> repeat (first | exact True.intro | refine And.intro ?_ ?_ | exact DLead.same)
 intro k ⟨hk, hall⟩;refine AC.seq (AC.region ?_);refine zc ?_;refine AL.nil (th_n (AC.seq ?_));refine AC.condD rfl (fun h1 => ?_) (fun h1 => ?_)
 ·refine AC.skip (th_n (AC.seq (AC.block (AC.seq ?_))));have hk1 : k < a.length := by omega
  have hl : a.length = b.length := by omega
  have hget : (ints a)[k]? = some [dI (a.getD k 0)] := ints_get hk1;have hget2 : (ints b)[k]? = some [dI (b.getD k 0)] := ints_get (by omega);refine AC.region ?_;refine zm ?_;refine za ?_;refine AL.nil (th_n (AC.seq ?_));refine AC.drawn' mixed_ok [[], [], [0,1], [0,1,2], [], [], [4,5], [4,5,6], [0,1,2,3,4,5,6,7]] (by decide) ?_;refine zd 0 [] 9 (by exact mv1 rfl) ?_;refine zd 1 [] 9 (by exact mv1 rfl) ?_;refine zd 2 [0,1] 9 (by exact g_ia_view rfl rfl rfl rfl rfl (by rfl) (by assumption)) ?_;refine zd 3 [0,1,2] 9 (by exact g_load_ref rfl rfl rfl) ?_;refine zd 4 [] 9 (by exact mv1 rfl) ?_;refine zd 5 [] 9 (by exact mv1 rfl) ?_;refine zd 6 [4,5] 9 (by exact g_ia_view rfl rfl rfl rfl rfl (by rfl) (by assumption)) ?_;refine zd 7 [4,5,6] 9 (by exact g_load_ref rfl rfl rfl) ?_;refine zd 8 [0,1,2,3,4,5,6,7] 9 (by exact g_cmp rfl rfl rfl) ?_;refine zj 9 ?_;refine th_n ?_;refine AC.condND rfl (fun h2 => ?_) (fun h2 => ?_)
  ·refine AC.seq (AC.region ?_);refine za ?_;refine AL.nil (th_n (AC.ret (ib_r (th_r (th_r (ib_r (th_r (bq_r ?_))))))));have hne : a ≠ b := same_no (by simpa using h2);exact ret1 rfl (by rw [decide_eq_false hne])
  refine AC.skip (ib_n (th_n (AC.region ?_)));refine zA ?_;refine zm ?_;refine AL.nil (th_n ?_);exact ⟨k + 1, ⟨by omega, fun j hj => by rcases Nat.lt_succ_iff_lt_or_eq.1 hj with h | rfl; exact hall j h; simpa using h2⟩, by omega, Weak.ren _ [] hC rfl (by repeat (first | exact True.intro | refine And.intro ?_ ?_ | exact DLead.same)) (by repeat (exact True.intro)) rfl rfl rfl⟩
 refine AC.exit (th_e (th_e (ib_y (th_n (AC.seq (AC.region ?_))))));refine za ?_;refine AL.nil (th_n (AC.ret (bq_r ?_)));have he : a = b := same_of (by omega) (fun j hj => hall j (by omega));exact ret1 rfl (by rw [decide_eq_true he])
theorem en_slEqual : Enters Tryz.prog 61 := enters_of Tryz.func61 rfl rfl
theorem l1Same_spec (a b : List Int) (ha : a.length ≤ 1000000) (hb : b.length ≤ 1000000) : ASpec Tryz.prog 50 [.d (vI a), .d (vI b)] [] (Pure1 (aT (decide (a = b)))) := by
 refine ASpec.of Tryz.func50 rfl rfl fun C hC => ?_
 refine AC.seq (AC.region ?_);refine za ?_;refine AL.nil (th_n (AC.seq (AC.seq (AC.region ?_))));refine zm ?_;refine kH ?_;refine zm ?_;refine kH ?_;refine zc ?_;refine AL.nil (th_n ?_);refine AC.condND rfl (fun h0 => ?_) (fun h0 => ?_)
 ·refine AC.seq (AC.region ?_);refine za ?_;refine AL.nil (th_n (AC.ret (th_r (bq_r ?_))));have hne : a ≠ b := fun e => h0 (by rw [e])
  exact ret1 rfl (by rw [decide_eq_false hne])
 refine AC.skip (th_n (AC.seq (AC.seq (AC.region ?_))));refine zm ?_;refine kH ?_;refine zm ?_;refine AL.nil (th_n (AC.block ?_));refine AC.loop (ι := Nat) (fun k => ⟨26, 0, [(0, .d (vI a)), (1, .d (vI b)), (12, aI a.length), (13, aI k)], []⟩) (fun k => k ≤ a.length ∧ ∀ j, j < k → a.getD j 0 = b.getD j 0) (fun k => a.length - k) (0) ?_ (⟨Nat.zero_le _, fun j hj => by omega⟩) ?_
 ·refine Weak.ren _ [] hC rfl ?_ ?_ rfl rfl rfl <;> repeat (first | exact True.intro | refine And.intro ?_ ?_ | exact DLead.same)
 intro k ⟨hk, hall⟩;refine AC.seq (AC.region ?_);refine zc ?_;refine AL.nil (th_n (AC.seq ?_));refine AC.condD rfl (fun h1 => ?_) (fun h1 => ?_)
 ·refine AC.skip (th_n (AC.seq (AC.block (AC.seq ?_))));have hk1 : k < a.length := by omega
  have hl : a.length = b.length := by omega
  have hget : (ints a)[k]? = some [dI (a.getD k 0)] := ints_get hk1;have hget2 : (ints b)[k]? = some [dI (b.getD k 0)] := ints_get (by omega);refine AC.region ?_;refine zm ?_;refine za ?_;refine AL.nil (th_n (AC.seq ?_));refine AC.drawn' mixed_ok [[], [], [0,1], [0,1,2], [], [], [4,5], [4,5,6], [0,1,2,3,4,5,6,7]] (by decide) ?_;refine zd 0 [] 9 (by exact mv1 rfl) ?_;refine zd 1 [] 9 (by exact mv1 rfl) ?_;refine zd 2 [0,1] 9 (by exact g_ia_view rfl rfl rfl rfl rfl (by rfl) (by assumption)) ?_;refine zd 3 [0,1,2] 9 (by exact g_load_ref rfl rfl rfl) ?_;refine zd 4 [] 9 (by exact mv1 rfl) ?_;refine zd 5 [] 9 (by exact mv1 rfl) ?_;refine zd 6 [4,5] 9 (by exact g_ia_view rfl rfl rfl rfl rfl (by rfl) (by assumption)) ?_;refine zd 7 [4,5,6] 9 (by exact g_load_ref rfl rfl rfl) ?_;refine zd 8 [0,1,2,3,4,5,6,7] 9 (by exact g_cmp rfl rfl rfl) ?_;refine zj 9 ?_;refine th_n ?_;refine AC.condND rfl (fun h2 => ?_) (fun h2 => ?_)
  ·refine AC.seq (AC.region ?_);refine za ?_;refine AL.nil (th_n (AC.ret (ib_r (th_r (th_r (ib_r (th_r (bq_r ?_))))))));have hne : a ≠ b := same_no (by simpa using h2);exact ret1 rfl (by rw [decide_eq_false hne])
  refine AC.skip (ib_n (th_n (AC.region ?_)));refine zA ?_;refine zm ?_;refine AL.nil (th_n ?_);exact ⟨k + 1, ⟨by omega, fun j hj => by rcases Nat.lt_succ_iff_lt_or_eq.1 hj with h | rfl; exact hall j h; simpa using h2⟩, by omega, Weak.ren _ [] hC rfl (by repeat (first | exact True.intro | refine And.intro ?_ ?_ | exact DLead.same)) (by repeat (exact True.intro)) rfl rfl rfl⟩
 refine AC.exit (th_e (th_e (ib_y (th_n (AC.seq (AC.region ?_))))));refine za ?_;refine AL.nil (th_n (AC.ret (bq_r ?_)));have he : a = b := same_of (by omega) (fun j hj => hall j (by omega));exact ret1 rfl (by rw [decide_eq_true he])
theorem en_l1Same : Enters Tryz.prog 50 := enters_of Tryz.func50 rfl rfl
theorem l1Has_spec (l : List Int) (n : Int) (hl : l.length ≤ 1000000) : ASpec Tryz.prog 90 [.d (vI l), aI n] [] (Pure1 (aT (hasI l n))) := by
 refine ASpec.of Tryz.func90 rfl rfl fun C hC => ?_
 refine AC.seq (AC.region ?_);refine za ?_;refine AL.nil (th_n (AC.seq (AC.seq (AC.region ?_))));refine zm ?_;refine kH ?_;refine zm ?_;refine AL.nil (th_n (AC.block ?_));refine AC.loop (ι := Nat) (fun k => ⟨17, 0, [(1, aI n), (7, .d (vI l)), (8, aI l.length), (9, aI k)], []⟩) (fun k => k ≤ l.length ∧ ∀ j (hj : j < l.length), j < k → decide (l[j] = n) = false) (fun k => l.length - k) (0) ?_ (⟨Nat.zero_le _, fun j _ hj => by omega⟩) ?_
 ·refine Weak.ren _ [] hC rfl ?_ ?_ rfl rfl rfl <;> repeat (first | exact True.intro | refine And.intro ?_ ?_ | exact DLead.same)
 intro k ⟨hk, hall⟩;refine AC.seq (AC.region ?_);refine zc ?_;refine AL.nil (th_n (AC.seq ?_));refine AC.condD rfl (fun h0 => ?_) (fun h0 => ?_)
 ·refine AC.skip (th_n (AC.seq (AC.block (AC.seq ?_))));have hk1 : k < l.length := by omega
  have hget := ints_at hk1;refine AC.region ?_;refine AL.p (by exact g_ia_view rfl rfl rfl rfl rfl (by rfl) (by assumption)) rfl ?_;refine zr ?_;refine za ?_;refine AL.nil (th_n (AC.seq (AC.region ?_)));refine zm ?_;refine zm ?_;refine zc ?_;refine AL.nil (th_n ?_);refine AC.condD rfl (fun h1 => ?_) (fun h1 => ?_)
  ·refine AC.seq (AC.region ?_);refine za ?_;refine AL.nil (th_n (AC.ret (ib_r (th_r (th_r (ib_r (th_r (bq_r ?_))))))));exact ret1 rfl (by rw [hasI, List.any_eq_true.2 ⟨_, List.getElem_mem hk1, by simpa using h1⟩])
  refine AC.skip (ib_n (th_n (AC.region ?_)));refine zA ?_;refine zm ?_;refine AL.nil (th_n ?_);exact ⟨k + 1, ⟨by omega, fun j hj hj2 => by rcases Nat.lt_succ_iff_lt_or_eq.1 hj2 with h | rfl; exact hall j hj h; simpa using h1⟩, by omega, Weak.ren _ [] hC rfl (by repeat (first | exact True.intro | refine And.intro ?_ ?_ | exact DLead.same)) (by repeat (exact True.intro)) rfl rfl rfl⟩
 refine AC.exit (th_e (th_e (ib_y (th_n (AC.seq (AC.region ?_))))));refine za ?_;refine AL.nil (th_n (AC.ret (bq_r ?_)));exact ret1 rfl (by rw [hasI, List.any_eq_false.2 (fun x hx => by obtain ⟨j, hj, rfl⟩ := List.getElem_of_mem hx; have := hall j hj (by omega); rw [this]; decide)])
theorem en_l1Has : Enters Tryz.prog 90 := enters_of Tryz.func90 rfl rfl
theorem l1Own_spec (l : List Int) (hl : l.length ≤ 1000000) : ASpec Tryz.prog 76 [.d (vI l)] [] (Pure1 (.d (vI l))) := by
 refine ASpec.of Tryz.func76 rfl rfl fun C hC => ?_
 refine AC.seq (AC.region ?_);refine za ?_;refine AL.nil (th_n (AC.seq (AC.region ?_)));refine AL.q (by exact h_lit rfl rfl rfl rfl rfl rfl rfl rfl) rfl ?_;refine zm ?_;refine AL.q (by exact h_appendI [] l (.own rfl rfl rfl) (.view rfl) (by simp; omega) (by simp)) rfl ?_;refine AL.weak (Weak.freeze (i := 5) rfl rfl (Nat.le_of_eq (ints_len _).symm) (ints_all _)) ?_;refine za ?_;refine AL.nil (th_n (AC.ret (bq_r ?_)));exact ret1 rfl rfl
theorem en_l1Own : Enters Tryz.prog 76 := enters_of Tryz.func76 rfl rfl
end Go.Proofs.YtknfdlakkbmdcaaGreat
