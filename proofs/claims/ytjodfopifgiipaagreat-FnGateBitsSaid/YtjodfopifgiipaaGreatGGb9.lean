/- Contracts of the functions of the program and of the reference, each proved by a walk through its code. -/
import Derived.Test.YtjodfopifgiipaaGreatGGb8
set_option linter.all false
set_option maxRecDepth 20000
namespace Go.Proofs.YtjodfopifgiipaaGreat
open Go.RowKit
def litP (c : Tx) (i : Nat) : Nat := ((c.take i).filter fun b => !decide ((b.toNat : Int) = 45)).length
theorem litP_succ {c : Tx} {i : Nat} (h : i < c.length) : litP c (i + 1) = litP c i + (if (!decide (at1 c i = 45)) = true then 1 else 0) := by
 unfold litP;rw [filt_sn _ h, List.length_append];congr 1;have e : at1 c i = (c[i].toNat : Int) := by unfold at1; rw [List.getD_eq_getElem?_getD, List.getElem?_eq_getElem h]; rfl
 rw [e]
 split <;> rfl
theorem litP_all (c : Tx) : litP c c.length = litC c := by unfold litP litC; rw [List.take_length]
theorem litP_le (c : Tx) (i : Nat) : litP c i ≤ c.length := by
 unfold litP;have h1 := List.length_filter_le (fun b : UInt8 => !decide ((b.toNat : Int) = 45)) (c.take i);rw [List.length_take] at h1;omega
theorem litS_snoc {l : List Tx} {j : Nat} (h : j < l.length) : litS (l.take (j + 1)) = litS (l.take j) + litC l[j] := by
 unfold litS;rw [List.take_add_one, List.getElem?_eq_getElem h, List.map_append, List.sum_append];simp
theorem litS_le {l : List Tx} (hb : ∀ c, c ∈ l → c.length ≤ 1000) : ∀ j, j ≤ l.length → litS (l.take j) ≤ j * 1000
 | 0, _ => Nat.le_refl _
 | j + 1, h => by
  have ih := litS_le hb j (by omega);rw [litS_snoc (by omega)];have h1 := litP_le l[j] l[j].length;rw [litP_all] at h1;have := hb _ (List.getElem_mem (by omega : j < l.length));omega
set_option maxHeartbeats 4000000 in
theorem literalsI_spec (l : List Tx) (hl : l.length ≤ 1000000) (hb : ∀ c, c ∈ l → c.length ≤ 1000) : ASpec Tryz.prog 38 [.d (vSs l)] [] (Pure1 (aI (litS l : Nat))) := by
 have hS := fun j hj => litS_le hb j hj
 refine ASpec.of Tryz.func38 rfl rfl fun C hC => ?_
 refine AC.seq (AC.region ?_);refine za ?_;refine AL.nil (th_n (AC.seq (AC.region ?_)));refine za ?_;refine AL.nil (th_n (AC.seq (AC.seq (AC.region ?_))));refine zm ?_;refine kI l.length (strsL_len _) ?_;refine zm ?_;refine AL.nil (th_n (AC.block ?_));refine AC.loop (ι := Nat) (fun j => ⟨27, 100, [(3, aI (litS (l.take j) : Nat)), (7, .d (vSs l)), (8, aI l.length), (9, aI j)], []⟩) (fun j => j ≤ l.length) (fun j => l.length - j) (0) ?_ (Nat.zero_le _) ?_
 ·exact Weak.ren _ [] hC rfl (by repeat (first | exact True.intro | refine And.intro ?_ ?_ | exact DLead.same)) (by repeat (exact True.intro)) rfl rfl rfl
 intro j hj;refine AC.seq (AC.region ?_);refine zc ?_;refine AL.nil (th_n (AC.seq ?_));refine AC.condD rfl (fun h0 => ?_) (fun h0 => ?_)
 ·refine AC.skip (th_n (AC.seq (AC.block (AC.seq ?_))));have hj1 : j < l.length := by omega
  have hget := strs_at hj1;have hsn := litS_snoc hj1;have hSj := hS j hj;have hbc := hb _ (List.getElem_mem hj1);obtain ⟨c, hc⟩ := eqx (l[j]);rw [← hc] at hget hsn hbc;obtain ⟨N, hN⟩ := eqx (litS (l.take j));rw [← hN] at hsn hSj ⊢;clear hc hN;refine AC.region ?_;refine AL.p (by exact g_ia_view (i := j) rfl rfl rfl rfl rfl rfl hget) rfl ?_;refine zr ?_;refine za ?_;refine AL.nil (th_n (AC.seq (AC.region ?_)));refine zm ?_;refine AL.p (by exact g_len_str (k := c.length) rfl rfl (by rw [bstr_size])) rfl ?_;refine zm ?_;refine AL.nil (th_n (AC.block ?_));refine AC.loop (ι := Nat) (fun i => ⟨27, 200, [(3, aI (N + litP c i : Nat)), (5, aS (bstr c)), (7, .d (vSs l)), (8, aI l.length), (9, aI j), (14, aI c.length), (15, aI i)], []⟩) (fun i => i ≤ c.length) (fun i => c.length - i) (0) ?_ (Nat.zero_le _) ?_
  ·exact Weak.ren _ [] hC rfl (by repeat (first | exact True.intro | refine And.intro ?_ ?_ | exact DLead.same)) (by repeat (exact True.intro)) rfl rfl rfl
  intro i hi;refine AC.seq (AC.region ?_);refine zc ?_;refine AL.nil (th_n (AC.seq ?_));refine AC.condD rfl (fun h1 => ?_) (fun h1 => ?_)
  ·refine AC.skip (th_n (AC.seq (AC.block (AC.seq ?_))));have hi1 : i < c.length := by omega
   have hgi := bstr_getD hi1;have hlp := litP_succ hi1;have hll := litP_le c i;obtain ⟨d, hd⟩ := eqx (!decide (at1 c i = 45));rw [← hd] at hlp;obtain ⟨M, hM⟩ := eqx (litP c i);rw [← hM] at hlp hll ⊢;clear hM;refine AC.region ?_;refine zm ?_;refine za ?_;refine AL.nil (th_n (AC.seq (AC.region ?_)));refine zm ?_;refine zm ?_;refine AL.p (by exact g_index (i := i) rfl rfl rfl rfl hgi) rfl ?_;refine AL.p (by exact g_cmp (r := d) rfl rfl (congrArg some hd.symm)) rfl ?_;refine AL.nil (th_n ?_);refine AC.condB rfl (fun h2 => ?_) (fun h2 => ?_)
   ·refine AC.region ?_;refine zm ?_;refine zA ?_;refine za ?_;refine AL.nil (ib_n (th_n (AC.region ?_)));refine zA ?_;refine zm ?_;refine AL.nil (th_n ?_)
    (have q := ‹d = true›; rw [if_pos q] at hlp; exact ⟨i + 1, by omega, by omega, Weak.ren _ [] hC rfl (by rw [hlp, show ((N + (M + 1) : Nat) : Int) = ((N + M : Nat) : Int) + 1 by omega]; repeat (first | exact True.intro | refine And.intro ?_ ?_ | exact DLead.same)) (by repeat (exact True.intro)) rfl rfl rfl⟩)
   refine AC.skip (ib_n (th_n (AC.region ?_)));refine zA ?_;refine zm ?_;refine AL.nil (th_n ?_)
   (have q := ‹d = false›; rw [if_neg (by rw [q]; decide), Nat.add_zero] at hlp; exact ⟨i + 1, by omega, by omega, Weak.ren _ [] hC rfl (by rw [hlp]; repeat (first | exact True.intro | refine And.intro ?_ ?_ | exact DLead.same)) (by repeat (exact True.intro)) rfl rfl rfl⟩)
  refine AC.exit (th_e (th_e (ib_y (ib_n (th_n (AC.region ?_))))));refine zA ?_;refine zm ?_;refine AL.nil (th_n ?_);have hii : i = c.length := by omega
  rw [hii, litP_all, ← hsn];exact ⟨j + 1, by omega, by omega, Weak.ren _ [] hC rfl (by repeat (first | exact True.intro | refine And.intro ?_ ?_ | exact DLead.same)) (by repeat (exact True.intro)) rfl rfl rfl⟩
 refine AC.exit (th_e (th_e (ib_y (th_n (AC.seq ?_)))));have hjj : j = l.length := by omega
 rw [hjj, List.take_length];refine AC.region ?_;refine zm ?_;refine za ?_;refine AL.nil (th_n (AC.ret (bq_r ?_)));exact ret1 rfl rfl
theorem en_literalsI : Enters Tryz.prog 38 := enters_of Tryz.func38 rfl rfl
set_option maxHeartbeats 4000000 in
theorem l14Lits_spec (l : List Tx) (hl : l.length ≤ 1000000) (hb : ∀ c, c ∈ l → c.length ≤ 1000) : ASpec Tryz.prog 39 [.d (vSs l)] [] (Pure1 (aI (litS l : Nat))) := by
 have hS := fun j hj => litS_le hb j hj
 refine ASpec.of Tryz.func39 rfl rfl fun C hC => ?_
 refine AC.seq (AC.region ?_);refine za ?_;refine AL.nil (th_n (AC.seq (AC.region ?_)));refine za ?_;refine AL.nil (th_n (AC.seq (AC.seq (AC.region ?_))));refine zm ?_;refine kI l.length (strsL_len _) ?_;refine zm ?_;refine AL.nil (th_n (AC.block ?_));refine AC.loop (ι := Nat) (fun j => ⟨27, 100, [(3, aI (litS (l.take j) : Nat)), (7, .d (vSs l)), (8, aI l.length), (9, aI j)], []⟩) (fun j => j ≤ l.length) (fun j => l.length - j) (0) ?_ (Nat.zero_le _) ?_
 ·exact Weak.ren _ [] hC rfl (by repeat (first | exact True.intro | refine And.intro ?_ ?_ | exact DLead.same)) (by repeat (exact True.intro)) rfl rfl rfl
 intro j hj;refine AC.seq (AC.region ?_);refine zc ?_;refine AL.nil (th_n (AC.seq ?_));refine AC.condD rfl (fun h0 => ?_) (fun h0 => ?_)
 ·refine AC.skip (th_n (AC.seq (AC.block (AC.seq ?_))));have hj1 : j < l.length := by omega
  have hget := strs_at hj1;have hsn := litS_snoc hj1;have hSj := hS j hj;have hbc := hb _ (List.getElem_mem hj1);obtain ⟨c, hc⟩ := eqx (l[j]);rw [← hc] at hget hsn hbc;obtain ⟨N, hN⟩ := eqx (litS (l.take j));rw [← hN] at hsn hSj ⊢;clear hc hN;refine AC.region ?_;refine AL.p (by exact g_ia_view (i := j) rfl rfl rfl rfl rfl rfl hget) rfl ?_;refine zr ?_;refine za ?_;refine AL.nil (th_n (AC.seq (AC.region ?_)));refine za ?_;refine AL.nil (th_n (AC.block ?_));refine AC.loop (ι := Nat) (fun i => ⟨27, 200, [(3, aI (N + litP c i : Nat)), (5, aS (bstr c)), (6, aI i), (7, .d (vSs l)), (8, aI l.length), (9, aI j)], []⟩) (fun i => i ≤ c.length) (fun i => c.length - i) (0) ?_ (Nat.zero_le _) ?_
  ·exact Weak.ren _ [] hC rfl (by repeat (first | exact True.intro | refine And.intro ?_ ?_ | exact DLead.same)) (by repeat (exact True.intro)) rfl rfl rfl
  intro i hi;refine AC.seq (AC.seq (AC.region ?_));refine zm ?_;refine zm ?_;refine AL.p (by exact g_len_str (k := c.length) rfl rfl (by rw [bstr_size])) rfl ?_;refine zc ?_;refine AL.nil (th_n ?_);refine AC.condD rfl (fun h1 => ?_) (fun h1 => ?_)
  ·refine AC.skip (th_n (AC.seq (AC.block (AC.seq ?_))));have hi1 : i < c.length := by omega
   have hgi := bstr_getD hi1;have hlp := litP_succ hi1;have hll := litP_le c i;obtain ⟨d, hd⟩ := eqx (!decide (at1 c i = 45));rw [← hd] at hlp;obtain ⟨M, hM⟩ := eqx (litP c i);rw [← hM] at hlp hll ⊢;clear hM;refine AC.region ?_;refine zm ?_;refine zm ?_;refine AL.p (by exact g_index (i := i) rfl rfl rfl rfl hgi) rfl ?_;refine AL.p (by exact g_cmp (r := d) rfl rfl (congrArg some hd.symm)) rfl ?_;refine AL.nil (th_n ?_);refine AC.condB rfl (fun h2 => ?_) (fun h2 => ?_)
   ·refine AC.region ?_;refine zm ?_;refine zA ?_;refine za ?_;refine AL.nil (ib_n (th_n (AC.region ?_)));refine zm ?_;refine zA ?_;refine za ?_;refine AL.nil (th_n ?_)
    (have q := ‹d = true›; rw [if_pos q] at hlp; exact ⟨i + 1, by omega, by omega, Weak.ren _ [] hC rfl (by rw [hlp, show ((N + (M + 1) : Nat) : Int) = ((N + M : Nat) : Int) + 1 by omega]; repeat (first | exact True.intro | refine And.intro ?_ ?_ | exact DLead.same)) (by repeat (exact True.intro)) rfl rfl rfl⟩)
   refine AC.skip (ib_n (th_n (AC.region ?_)));refine zm ?_;refine zA ?_;refine za ?_;refine AL.nil (th_n ?_)
   (have q := ‹d = false›; rw [if_neg (by rw [q]; decide), Nat.add_zero] at hlp; exact ⟨i + 1, by omega, by omega, Weak.ren _ [] hC rfl (by rw [hlp]; repeat (first | exact True.intro | refine And.intro ?_ ?_ | exact DLead.same)) (by repeat (exact True.intro)) rfl rfl rfl⟩)
  refine AC.exit (th_e (th_e (ib_y (ib_n (th_n (AC.region ?_))))));refine zA ?_;refine zm ?_;refine AL.nil (th_n ?_);have hii : i = c.length := by omega
  rw [hii, litP_all, ← hsn];exact ⟨j + 1, by omega, by omega, Weak.ren _ [] hC rfl (by repeat (first | exact True.intro | refine And.intro ?_ ?_ | exact DLead.same)) (by repeat (exact True.intro)) rfl rfl rfl⟩
 refine AC.exit (th_e (th_e (ib_y (th_n (AC.seq ?_)))));have hjj : j = l.length := by omega
 rw [hjj, List.take_length];refine AC.region ?_;refine zm ?_;refine za ?_;refine AL.nil (th_n (AC.ret (bq_r ?_)));exact ret1 rfl rfl
theorem en_l14Lits : Enters Tryz.prog 39 := enters_of Tryz.func39 rfl rfl
theorem primesL_mem {n : Nat} {on off : List Tx} {p : Tx} (h : p ∈ primesL n on off) : p.length = n ∧ anyH p off = false ∧ p.all lit3 = true := by
 obtain ⟨h1, h2⟩ := List.mem_filter.1 h;obtain ⟨h3, h4⟩ := (cubesN_mem n p).1 h1;unfold primP at h2;simp only [Bool.and_eq_true, Bool.not_eq_true'] at h2;exact ⟨h3, h2.1.2, List.all_eq_true.2 fun b hb => by rcases h4 b hb with e | e | e <;> rw [e] <;> decide⟩
theorem prR_in {n : Int} {on off : List Tx} (h : (prR n on off).2 = true) : onoffB n on off = true ∧ (prR n on off).1 = primesL n.toNat on off ∧ (primesL n.toNat on off).length ≤ 60 := by
 unfold prR at h ⊢
 split at h
 ·rename_i hc;rw [if_pos hc];exact ⟨hc.1, rfl, hc.2⟩
 cases h
mutual
def AV.under (k : Nat) : AV → Bool
 | .own id _ => Nat.blt id k
 | .ptr id _ => Nat.blt id k
 | .part id _ _ => Nat.blt id k
 | .mp id => Nat.blt id k
 | .agg cs => AV.underL k cs
 | .tup cs => AV.underL k cs
 | .clo _ cs => AV.underL k cs
 | _ => true
def AV.underL (k : Nat) : List AV → Bool
 | [] => true
 | c :: cs => c.under k && AV.underL k cs
end
theorem AV.underL_get {k : Nat} : ∀ {cs : List AV}, AV.underL k cs = true → ∀ (i : Nat) c, cs[i]? = some c → c.under k = true
 | [], _, i, c, h => by simp at h
 | c :: cs, hf, i, c', h => by
  simp only [AV.underL, Bool.and_eq_true] at hf;cases i with
  | zero => simp at h; subst h; exact hf.1
  | succ i => exact AV.underL_get hf.2 i c' (by simpa using h)
def Chunk.under (k : Nat) : Chunk → Bool
 | .cells _ cs => AV.underL k cs
 | .lock id _ => Nat.blt id k
 | _ => true
theorem blt_lt {a b : Nat} (h : Nat.blt a b = true) : a < b := by simpa using h
theorem ARep.under {k : Nat} {m m2 : Nat → Option (Option Nat × Nat)} {F F2 : Nat → Prop} {w : World} (hm : ∀ id p, id < k → m id = some p → m2 id = some p) (hF : ∀ b, F b → F2 b) {x : AV} {v : Value} (h : ARep m F w x v) : x.under k = true → ARep m2 F2 w x v := by
 induction h with
 | dead => exact fun _ => .dead
 | und => exact fun _ => .und
 | d h => exact fun _ => .d (h.mono hF)
 | own h h0 => exact fun hu => .own (hm _ _ (blt_lt hu) h) h0
 | ptr h => exact fun hu => .ptr (hm _ _ (blt_lt hu) h)
 | part h h1 => exact fun hu => .part (hm _ _ (blt_lt hu) h) h1
 | mp h => exact fun hu => .mp (hm _ _ (blt_lt hu) h)
 | tight h => exact fun _ => .tight (h.mono hF)
 | agg h1 _ h3 ih => exact fun hu => .agg h1 (fun i c hc => ih i c hc (AV.underL_get (by simpa [AV.under] using hu) i c hc)) h3
 | tup h1 _ ih => exact fun hu => .tup h1 (fun i c hc => ih i c hc (AV.underL_get (by simpa [AV.under] using hu) i c hc))
 | clo h1 _ ih => exact fun hu => .clo h1 (fun i c hc => ih i c hc (AV.underL_get (by simpa [AV.under] using hu) i c hc))
theorem CRep.under {k : Nat} {m m2 : Nat → Option (Option Nat × Nat)} {F F2 : Nat → Prop} {w : World} (hm : ∀ id p, id < k → m id = some p → m2 id = some p) (hF : ∀ b, F b → F2 b) {p : Option Nat × Nat} {c : Chunk} (h : CRep m F w p c) (hu : c.under k = true) : CRep m2 F2 w p c := by
 cases h with
 | cells h1 h2 h3 h4 => exact .cells h1 h2 (fun i c hc => (h3 i c hc).under hm hF (AV.underL_get hu i c hc)) h4
 | arr h1 h2 h3 h4 h5 h6 h7 h8 => exact .arr h1 h2 h3 h4 h5 h6 h7 (fun i cs j d hi hj => (h8 i cs j d hi hj).mono hF)
 | nil h => exact .nil h
 | iter h => exact .iter h
 | map h => exact .map h
 | obj h => exact .obj h
 | pred h1 h2 h3 => exact .pred h1 h2 h3
 | lock h => exact .lock (hm _ _ (blt_lt hu) h)
def BOk (M w : Nat) (B : Option (List Tx)) : Prop := ∀ b, B = some b → b.length = M ∧ ∀ x, x ∈ b → x.length = w
theorem fold_snoc {α β : Type} (f : β → α → β) (b : β) {l : List α} {j : Nat} (h : j < l.length) : (l.take (j + 1)).foldl f b = f ((l.take j).foldl f b) l[j] := by
 rw [List.take_add_one, List.getElem?_eq_getElem h, List.foldl_append]; rfl
def minO (B : Option (List Tx)) : List Tx × Bool := (B.getD [], B.isSome)
def minR (n : Int) (on off : List Tx) : List Tx × Bool := if (prR n on off).2 = true then minO (minT (prR n on off).1 on) else ([], false)
theorem minAt_yes {P on : List Tx} {f m : Nat} {b : List Tx} (h : chooseN P m on [] none = some b) : minAt P on (f + 1) m = some b := by rw [minAt, h]
theorem minAt_no {P on : List Tx} {f m : Nat} (h : chooseN P m on [] none = none) : minAt P on (f + 1) m = minAt P on f (m + 1) := by rw [minAt, h]
theorem fidx_at {l : List Tx} {x : Tx} {k : Nat} (hk : k < l.length) (h : ¬ l[k] < x) (hb : ∀ j (hj : j < k), l[j]'(by omega) < x) : l.findIdx (fun y => !decide (y < x)) = k := by
 rw [List.findIdx_eq hk];refine ⟨by rw [decide_eq_false h]; rfl, fun j hj => ?_⟩;rw [decide_eq_true (hb j hj)]; rfl
theorem fidx_end {l : List Tx} {x : Tx} {k : Nat} (hb : ∀ j (hj : j < l.length), l[j] < x) (hk : k = l.length) : l.findIdx (fun y => !decide (y < x)) = k := by
 rw [hk, List.findIdx_eq_length];intro y hy;obtain ⟨j, hj, rfl⟩ := List.getElem_of_mem hy;rw [decide_eq_true (hb j hj)]; rfl
set_option maxHeartbeats 4000000 in
theorem l14Put_spec (l : List Tx) (x : Tx) (hl : l.length ≤ 1000000) : ASpec Tryz.prog 138 [.d (vSs l), aS (bstr x)] [] (Pure1 (.d (vSs (putT l x)))) := by
 refine ASpec.of Tryz.func138 rfl rfl fun C hC => ?_
 refine AC.seq (AC.region ?_);refine za ?_;refine AL.nil (th_n (AC.seq (AC.region ?_)));refine za ?_;refine AL.nil (th_n ?_);refine AC.cut (fun (k : Nat) => ⟨31, 200, [(0, .d (vSs l)), (1, aS (bstr x)), (5, aI k)], []⟩) (fun k => k ≤ l.length ∧ l.findIdx (fun y => !decide (y < x)) = k) ?_ ?_
 ·refine AC.block ?_;refine AC.loop (ι := Nat) (fun k => ⟨31, 100, [(0, .d (vSs l)), (1, aS (bstr x)), (5, aI k)], []⟩) (fun k => k ≤ l.length ∧ ∀ j (hj : j < l.length), j < k → l[j] < x) (fun k => l.length - k) (0) ?_ (⟨Nat.zero_le _, fun j _ hj => by omega⟩) ?_
  ·exact Weak.ren _ [] hC rfl (by repeat (first | exact True.intro | refine And.intro ?_ ?_ | exact DLead.same)) (by repeat (exact True.intro)) rfl rfl rfl
  rintro k ⟨hk, hall⟩;refine AC.seq (AC.seq (AC.region ?_));refine zm ?_;refine zm ?_;refine kI l.length (strsL_len _) ?_;refine zc ?_;refine zm ?_;refine AL.caseG rfl rfl (fun h0 => ?_) (fun h0 => ?_)
  ·refine zy ?_;have hk1 : k < l.length := by omega
   have hget := strs_at hk1;have hlt := bless l[k] x;refine zm ?_;refine zy ?_;refine zm ?_;refine zy ?_;refine AL.p (by exact g_ia_view (i := k) rfl rfl rfl rfl rfl rfl hget) rfl ?_;refine zy ?_;refine zr ?_;refine zy ?_;refine zm ?_;refine zy ?_;refine AL.p (by exact g_scmp (r := decide (l[k] < x)) rfl rfl (congrArg some hlt)) rfl ?_;refine zQ ?_;refine AL.nil (th_n ?_);refine AC.condD rfl (fun h1 => ?_) (fun h1 => ?_)
   ·refine AC.skip (th_n (AC.block (AC.region ?_)));refine zm ?_;refine zA ?_;refine za ?_;refine AL.nil (ib_n (th_n ?_));exact ⟨k + 1, ⟨by omega, fun j hj hj2 => by rcases Nat.lt_succ_iff_lt_or_eq.1 hj2 with h | rfl; exact hall j hj h; (assumption)⟩, by omega, Weak.ren _ [] hC rfl (by repeat (first | exact True.intro | refine And.intro ?_ ?_ | exact DLead.same)) (by repeat (exact True.intro)) rfl rfl rfl⟩
   refine AC.exit (th_e (th_e (ib_y (th_n ?_))))
   (have hk1 : k < l.length := (by omega); have h9 : ¬ l[k] < x := (by assumption); exact ⟨k, ⟨hk, fidx_at hk1 h9 (fun j hj => hall j (by omega) hj)⟩, Weak.ren _ [] hC rfl (by repeat (first | exact True.intro | refine And.intro ?_ ?_ | exact DLead.same)) (by repeat (exact True.intro)) rfl rfl rfl⟩)
  refine zn ?_;refine zn ?_;refine zn ?_;refine zn ?_;refine zn ?_;refine zn ?_;refine zP ?_;refine AL.nil (th_n ?_);refine AC.condF rfl ?_;refine AC.exit (th_e (th_e (ib_y (th_n ?_))));exact ⟨k, ⟨hk, fidx_end (fun j hj => hall j hj (by omega)) (by omega)⟩, Weak.ren _ [] hC rfl (by repeat (first | exact True.intro | refine And.intro ?_ ?_ | exact DLead.same)) (by repeat (exact True.intro)) rfl rfl rfl⟩
 rintro k ⟨hk, hidx⟩;refine AC.seq ?_;have e : putT l x = l.take k ++ [x] ++ l.drop k := by unfold putT; rw [hidx]
 have htk : strsL (l.take k) = (strsL l).take k := by unfold strsL; rw [List.map_take]
 have hdk : strsL (l.drop k) = (strsL l).drop k := by unfold strsL; rw [List.map_drop]
 have htl : (l.take k).length = k := by rw [List.length_take]; omega
 have hdl : (l.drop k).length = l.length - k := List.length_drop;have hOw := l1OwnT_spec (l.take k) (by omega);refine AC.drawn' mixed_ok [[], [], [0,1], [0,1,2], [], [4], [0,1,2,3,4,5], [], [], [7,8], [0,1,2,3,4,5,6,7,8,9], [0,1,2,3,4,5,6,7,8,9,10]] (by decide) ?_;refine zd 0 [] 12 (by exact mv1 rfl) ?_;refine zd 1 [] 12 (by exact mv1 rfl) ?_;refine zd 2 [0,1] 12 (by exact g_slice_view (r := strsL (l.take k)) rfl rfl rfl rfl .none (.some rfl rfl) (Nat.zero_le _) (by rw [strsL_len]; exact hk) (by rw [List.drop_zero, htk])) ?_;refine zh 3 [0,1,2] 12 (by exact h_fun (cs := []) en_l1OwnS rfl rfl (by repeat (first | exact rfl | exact DLead.same | refine ⟨_, _, rfl, ?_, ?_⟩)) (by repeat (exact True.intro)) hOw rfl rfl rfl rfl) ?_;refine zd 4 [] 12 (by exact mv1 rfl) ?_;refine zh 5 [4] 12 (by exact h_litF rfl rfl rfl rfl rfl rfl rfl rfl) ?_;refine zh 6 [0,1,2,3,4,5] 12 (by exact h_appendTx (l.take k) [x] (.own rfl rfl (strsL_len _).symm) (.view rfl) (by rw [List.length_append]; simp only [List.length_cons, List.length_nil]; omega) (by simp)) ?_;refine zd 7 [] 12 (by exact mv1 rfl) ?_;refine zd 8 [] 12 (by exact mv1 rfl) ?_;refine zd 9 [7,8] 12 (by exact g_slice_view (l := k) (r := strsL (l.drop k)) rfl rfl rfl rfl (.some rfl rfl) .none (by rw [strsL_len]; omega) (Nat.le_refl _) (by rw [List.take_length, hdk])) ?_;refine zh 10 (List.range 10) 12 (by exact h_appendTx (l.take k ++ [x]) (l.drop k) (.own rfl rfl (strsL_len _).symm) (.view rfl) (by rw [List.length_append, List.length_append]; simp only [List.length_cons, List.length_nil]; omega) (by simp)) ?_;refine zd 11 (List.range 11) 12 (by exact as2 rfl) ?_;refine zj 12 ?_;refine th_n ?_;refine AC.weak (Weak.freeze (i := 4) rfl rfl (Nat.le_of_eq (strsL_len _).symm) (List.take_of_length_le (Nat.le_of_eq (strsL_len _)))) ?_;refine AC.ret (bq_r ?_);exact ret1 rfl (by rw [e])
theorem en_l14Put : Enters Tryz.prog 138 := enters_of Tryz.func138 rfl rfl
def schC (P on : List Tx) (B : Option (List Tx)) : Chunk := .cells 167 [.d (vSs P), .d (vSs on), .d (vSs (B.getD [])), aT B.isSome]
theorem ltL_drop {a b : List Tx} {i : Nat} (ha : i < a.length) (hb : i < b.length) : ltL (a.drop i) (b.drop i) = if a.getD i [] = b.getD i [] then ltL (a.drop (i + 1)) (b.drop (i + 1)) else decide (a.getD i [] < b.getD i []) := by
 rw [← List.getElem_cons_drop ha, ← List.getElem_cons_drop hb, ltL, tx_at ha, tx_at hb]
set_option maxHeartbeats 4000000 in
theorem betterS_spec (P on l : List Tx) (B : Option (List Tx)) (hl : l.length ≤ 1000000) (hb : ∀ c, c ∈ l → c.length ≤ 1000) (hB : ∀ b, B = some b → b.length = l.length ∧ ∀ c, c ∈ b → c.length ≤ 1000) : ASpec Tryz.prog 139 [.ptr 0 0, .d (vSs l)] [(0, schC P on B)] (Fun1 (aT (betT l B)) [(0, schC P on B)]) := by
 have h1 := l14Lits_spec l hl hb
 have hBl : (B.getD []).length ≤ 1000000 ∧ ∀ c, c ∈ B.getD [] → c.length ≤ 1000 := by
  cases B with
  | none => exact ⟨Nat.zero_le _, fun c hc => by cases hc⟩
  | some b => exact ⟨by have := (hB b rfl).1; show b.length ≤ _; omega, (hB b rfl).2⟩
 have h2 := l14Lits_spec (B.getD []) hBl.1 hBl.2
 have h3 : B.isSome = true → (B.getD []).length = l.length := fun h => by
  cases B with
  | none => cases h
  | some b => exact (hB b rfl).1
 have h4 : B.isSome = true → betT l B = (decide (litS l < litS (B.getD [])) || (decide (litS l = litS (B.getD [])) && ltL l (B.getD []))) := fun h => by
  cases B with
  | none => cases h
  | some b => rfl
 have h5 : B.isSome = false → betT l B = true := fun h => by
  cases B with
  | none => rfl
  | some b => cases h
 unfold schC;obtain ⟨W, hW⟩ := eqx (B.getD []);rw [← hW] at h2 h3 h4 ⊢;obtain ⟨f, hf⟩ := eqx B.isSome;rw [← hf] at h3 h4 h5 ⊢;obtain ⟨R, hR⟩ := eqx (betT l B);rw [← hR] at h4 h5 ⊢;obtain ⟨N, hN⟩ := eqx (litS l);obtain ⟨M, hM⟩ := eqx (litS W);rw [← hN] at h1 h4;rw [← hM] at h2 h4;have hD := fun i h1 h2 => ltL_drop (a := l) (b := W) (i := i) h1 h2
 clear hf hR hN hM hW hB hBl;refine ASpec.of Tryz.func139 rfl rfl fun C hC => ?_
 refine AC.seq (AC.region ?_);refine za ?_;refine AL.nil (th_n (AC.seq ?_));refine AC.drawn' mixed_ok [[], [0], [], [2], [2,3], [2,3,4], [0,1,2,3,4,5], [0,1,2,3,4,5,6], [0,1,2,3,4,5,6,7]] (by decide) ?_;refine zd 0 [] 9 (by exact mv1 rfl) ?_;refine zh 1 [0] 9 (by exact h_pure en_l14Lits rfl rfl (by repeat (first | exact rfl | exact DLead.same | refine ⟨_, _, rfl, ?_, ?_⟩)) h1 rfl) ?_;refine zd 2 [] 9 (by exact mv3 rfl) ?_;refine zd 3 [2] 9 (by exact g_nilP rfl) ?_;refine zd 4 [2,3] 9 (by exact g_fa_ptr rfl rfl rfl rfl rfl) ?_;refine zd 5 [2,3,4] 9 (by exact g_load_ptr rfl rfl rfl rfl rfl) ?_;refine zh 6 [0,1,2,3,4,5] 9 (by exact h_pure en_l14Lits rfl rfl (by repeat (first | exact rfl | exact DLead.same | refine ⟨_, _, rfl, ?_, ?_⟩)) h2 rfl) ?_;refine zd 7 [0,1,2,3,4,5,6] 9 (by exact as1 rfl) ?_;refine zd 8 [0,1,2,3,4,5,6,7] 9 (by exact as1 rfl) ?_;refine zj 9 ?_;refine th_n (AC.seq (AC.seq (AC.region ?_)));refine AL.p (by exact mv3 rfl) rfl ?_;refine AL.p (by exact g_nilP rfl) rfl ?_;refine zF ?_;refine zl ?_;refine kC ?_;refine zm ?_;refine AL.caseGB rfl rfl (fun h0 => ?_) (fun h0 => ?_)
 ·refine zn ?_;refine zn ?_;refine zn ?_;refine zQ ?_;refine AL.nil (th_n ?_);refine AC.condT rfl ?_;refine AC.seq (AC.region ?_);refine AL.p (by exact mv3 rfl) rfl ?_;refine AL.p (by exact g_nilP rfl) rfl ?_;refine zF ?_;refine zl ?_;refine kC ?_;refine zm ?_;refine AL.caseGB rfl rfl (fun h1 => ?_) (fun h1 => ?_)
  ·refine zn ?_;refine zn ?_;refine zn ?_;refine zQ ?_;refine za ?_;refine AL.nil (th_n (AC.ret (th_r (bq_r ?_))))
   (have q := ‹(!f) = true›; exact retF rfl (by rw [h5 (by simpa using q)]; repeat (exact DLead.same)) (by repeat (first | exact True.intro | refine And.intro ?_ ?_ | exact DLead.same | exact rfl | refine ⟨_, _, rfl, rfl, ?_⟩ | refine ⟨_, rfl, ?_⟩ | refine ⟨_, _, rfl, ?_, ?_⟩)) rfl)
  refine zy ?_;refine zm ?_;refine zy ?_;refine zm ?_;refine zy ?_;refine zc ?_;refine zP ?_;refine za ?_;refine AL.nil (th_n (AC.ret (th_r (bq_r ?_))));exact absurd (‹(!f) = true›.symm.trans ‹(!f) = false›) (by decide)
 refine zy ?_;refine zm ?_;refine zy ?_;refine zm ?_;refine zy ?_;refine zc ?_;refine zP ?_;refine AL.nil (th_n ?_);refine AC.condND rfl (fun h1 => ?_) (fun h1 => ?_)
 ·refine AC.seq (AC.region ?_);refine AL.p (by exact mv3 rfl) rfl ?_;refine AL.p (by exact g_nilP rfl) rfl ?_;refine zF ?_;refine zl ?_;refine kC ?_;refine zm ?_;refine AL.caseGB rfl rfl (fun h2 => ?_) (fun h2 => ?_)
  ·refine zn ?_;refine zn ?_;refine zn ?_;refine zQ ?_;refine za ?_;refine AL.nil (th_n (AC.ret (th_r (bq_r ?_))));exact absurd (‹(!f) = true›.symm.trans ‹(!f) = false›) (by decide)
  refine zy ?_;refine zm ?_;refine zy ?_;refine zm ?_;refine zy ?_;refine zc ?_;refine zP ?_;refine za ?_;refine AL.nil (th_n (AC.ret (th_r (bq_r ?_))))
  (have q := ‹(!f) = false›; have h6 := h4 (by simpa using q); exact retF rfl (by rw [h6, decide_eq_false (show ¬ N = M by omega), Bool.false_and, Bool.or_false, show decide (N < M) = decide ((N : Int) < (M : Int)) from decide_eq_decide.2 ⟨fun h => by omega, fun h => by omega⟩]; repeat (exact DLead.same)) (by repeat (first | exact True.intro | refine And.intro ?_ ?_ | exact DLead.same | exact rfl | refine ⟨_, _, rfl, rfl, ?_⟩ | refine ⟨_, rfl, ?_⟩ | refine ⟨_, _, rfl, ?_, ?_⟩)) rfl)
 refine AC.skip (th_n (AC.seq (AC.seq ?_)));have hft : f = true := by have q := ‹(!f) = false›; simpa using q
 have hNM : N = M := by omega
 have hwl := h3 hft;have h6 := h4 hft;rw [decide_eq_false (show ¬ N < M by omega), decide_eq_true hNM, Bool.true_and, Bool.false_or] at h6;refine AC.region ?_;refine zm ?_;refine kI l.length (strsL_len _) ?_;refine zm ?_;refine AL.nil (th_n (AC.block ?_));refine AC.loop (ι := Nat) (fun i => ⟨65, 300, [(0, .ptr 0 0), (1, .d (vSs l)), (36, aI l.length), (37, aI i)], [(0, some (.cells 167 [.d (vSs P), .d (vSs on), .d (vSs W), aT f]))]⟩) (fun i => i ≤ l.length ∧ R = ltL (l.drop i) (W.drop i)) (fun i => l.length - i) (0) ?_ (⟨Nat.zero_le _, h6⟩) ?_
 ·exact zw [] hC
 rintro i ⟨hi, hRi⟩;refine AC.seq (AC.region ?_);refine zc ?_;refine AL.nil (th_n (AC.seq ?_));refine AC.condD rfl (fun h2 => ?_) (fun h2 => ?_)
 ·refine AC.skip (th_n (AC.seq (AC.block (AC.seq ?_))));have hi1 : i < l.length := by omega
  have hg1 := strs_get hi1;have hg2 := strs_get (l := W) (k := i) (by omega);have hDi := hD i hi1 (by omega);obtain ⟨u, hu⟩ := eqx (l.getD i []);obtain ⟨v, hv⟩ := eqx (W.getD i []);rw [← hu] at hg1 hDi;rw [← hv] at hg2 hDi;have hlt := bless u v;clear hu hv;refine AC.region ?_;refine zm ?_;refine za ?_;refine AL.nil (th_n (AC.seq ?_));refine AC.drawn' mixed_ok [[], [], [0,1], [0,1,2], [], [4], [4,5], [4,5,6], [], [4,5,6,7,8], [4,5,6,7,8,9], [0,1,2,3,4,5,6,7,8,9,10]] (by decide) ?_;refine zd 0 [] 12 (by exact mv1 rfl) ?_;refine zd 1 [] 12 (by exact mv1 rfl) ?_;refine zd 2 [0,1] 12 (by exact g_ia_view (i := i) rfl rfl rfl rfl rfl rfl hg1) ?_;refine zd 3 [0,1,2] 12 (by exact g_load_ref rfl rfl rfl) ?_;refine zd 4 [] 12 (by exact mv3 rfl) ?_;refine zd 5 [4] 12 (by exact g_nilP rfl) ?_;refine zd 6 [4,5] 12 (by exact g_fa_ptr rfl rfl rfl rfl rfl) ?_;refine zd 7 [4,5,6] 12 (by exact g_load_ptr rfl rfl rfl rfl rfl) ?_;refine zd 8 [] 12 (by exact mv1 rfl) ?_;refine zd 9 [4,5,6,7,8] 12 (by exact g_ia_view (i := i) rfl rfl rfl rfl rfl rfl hg2) ?_;refine zd 10 [4,5,6,7,8,9] 12 (by exact g_load_ref rfl rfl rfl) ?_;refine zd 11 (List.range 11) 12 (by exact g_scmp rfl rfl rfl) ?_;refine zj 12 ?_;refine th_n ?_;refine AC.condND rfl (fun h3 => ?_) (fun h3 => ?_)
  ·refine AC.seq ?_;refine AC.drawn' mixed_ok [[], [], [0,1], [0,1,2], [], [4], [4,5], [4,5,6], [], [4,5,6,7,8], [4,5,6,7,8,9], [0,1,2,3,4,5,6,7,8,9,10], [0,1,2,3,4,5,6,7,8,9,10,11]] (by decide) ?_;refine zd 0 [] 13 (by exact mv1 rfl) ?_;refine zd 1 [] 13 (by exact mv1 rfl) ?_;refine zd 2 [0,1] 13 (by exact g_ia_view (i := i) rfl rfl rfl rfl rfl rfl hg1) ?_;refine zd 3 [0,1,2] 13 (by exact g_load_ref rfl rfl rfl) ?_;refine zd 4 [] 13 (by exact mv3 rfl) ?_;refine zd 5 [4] 13 (by exact g_nilP rfl) ?_;refine zd 6 [4,5] 13 (by exact g_fa_ptr rfl rfl rfl rfl rfl) ?_;refine zd 7 [4,5,6] 13 (by exact g_load_ptr rfl rfl rfl rfl rfl) ?_;refine zd 8 [] 13 (by exact mv1 rfl) ?_;refine zd 9 [4,5,6,7,8] 13 (by exact g_ia_view (i := i) rfl rfl rfl rfl rfl rfl hg2) ?_;refine zd 10 [4,5,6,7,8,9] 13 (by exact g_load_ref rfl rfl rfl) ?_;refine zd 11 (List.range 11) 13 (by exact g_scmp (r := decide (u < v)) rfl rfl (congrArg some hlt)) ?_;refine zd 12 (List.range 12) 13 (by exact as1 rfl) ?_;refine zj 13 ?_;refine th_n (AC.ret (ib_r (th_r (th_r (ib_r (th_r (bq_r ?_)))))));have hne : ¬ u = v := fun e => absurd (congrArg bstr e) (by assumption)
   exact retF rfl (by rw [hRi, hDi, if_neg hne]; repeat (exact DLead.same)) (by repeat (first | exact True.intro | refine And.intro ?_ ?_ | exact DLead.same | exact rfl | refine ⟨_, _, rfl, rfl, ?_⟩ | refine ⟨_, rfl, ?_⟩ | refine ⟨_, _, rfl, ?_, ?_⟩)) rfl
  refine AC.skip (ib_n (th_n (AC.region ?_)));refine zA ?_;refine zm ?_;refine AL.nil (th_n ?_);have he : u = v := bstr_inj (by assumption);exact ⟨i + 1, ⟨by omega, by rw [hRi, hDi, if_pos he]⟩, by omega, zw [] hC⟩
 refine AC.exit (th_e (th_e (ib_y (th_n (AC.seq (AC.region ?_))))));refine za ?_;refine AL.nil (th_n (AC.ret (bq_r ?_)));have hii : i = l.length := by omega
 exact retF rfl (by rw [hRi, hii, List.drop_length, ← hwl, List.drop_length]; repeat (exact DLead.same)) (by repeat (first | exact True.intro | refine And.intro ?_ ?_ | exact DLead.same | exact rfl | refine ⟨_, _, rfl, rfl, ?_⟩ | refine ⟨_, rfl, ?_⟩ | refine ⟨_, _, rfl, ?_, ?_⟩)) rfl
theorem en_betterS : Enters Tryz.prog 139 := enters_of Tryz.func139 rfl rfl
structure SrOk (P on taken : List Tx) (m M w : Nat) : Prop where
 w8 : w ≤ 8
 m6 : M ≤ 6
 sum : taken.length + m = M
 pl : P.length ≤ 60
 ol : on.length ≤ 64
 pw : ∀ p, p ∈ P → p.length = w
 ow : ∀ c, c ∈ on → c.length = w
 tw : ∀ p, p ∈ taken → p.length = w
 nl : noLess P m (unC on taken)
theorem unC_first {on taken : List Tx} {i : Nat} (hi : i < on.length) (hall : ∀ j (hj : j < on.length), j < i → covB taken on[j] = true) (h : covB taken on[i] = false) : ∃ t, unC on taken = on[i] :: t := by
 unfold unC;have e : on = on.take i ++ on[i] :: on.drop (i + 1) := by rw [List.getElem_cons_drop, List.take_append_drop]
 have h1 : (on.take i).filter (fun x => !covB taken x) = [] := List.filter_eq_nil_iff.2 fun x hx => by
  obtain ⟨j, hj, rfl⟩ := List.mem_take_iff_getElem.1 hx;rw [hall j (by omega) (by omega)]; decide
 refine ⟨(on.drop (i + 1)).filter (fun x => !covB taken x), ?_⟩
 conv => lhs; rw [e]
 rw [List.filter_append, h1, List.nil_append, List.filter_cons, if_pos (by rw [h]; rfl)]
theorem unC_none {on taken : List Tx} (hall : ∀ j (hj : j < on.length), covB taken on[j] = true) : unC on taken = [] := by
 unfold unC;refine List.filter_eq_nil_iff.2 fun x hx => ?_
 obtain ⟨j, hj, rfl⟩ := List.getElem_of_mem hx;rw [hall j hj]; decide
def srF (P on : List Tx) (m : Nat) (taken : List Tx) (c : Tx) (B : Option (List Tx)) (p : Tx) : Option (List Tx) := if 0 < m ∧ hasC p c = true then searchN P on (m - 1) (putT taken p) B else B
theorem foldl_id {α β : Type} (f : β → α → β) : ∀ (L : List α) (B : β), (∀ B a, f B a = B) → L.foldl f B = B
 | [], _, _ => rfl
 | a :: L, B, h => by rw [List.foldl_cons, h, foldl_id f L B h]
theorem search_fold {P on taken : List Tx} {m : Nat} {B : Option (List Tx)} {c : Tx} {t : List Tx} (h : unC on taken = c :: t) : searchN P on m taken B = P.foldl (srF P on m taken c) B := by
 cases m with
 | zero => rw [searchN_zero h, foldl_id]; intro B a; unfold srF; rw [if_neg (fun q => absurd q.1 (Nat.lt_irrefl 0))]
 | succ k =>
  rw [searchN_succ h];refine foldl_ext _ _ P B fun B p _ => ?_
  unfold srF
  by_cases hc : hasC p c = true
  ·rw [if_pos hc, if_pos ⟨Nat.succ_pos k, hc⟩]; rfl
  rw [if_neg hc, if_neg (fun q => hc q.2)]
theorem sr_next {P on taken t : List Tx} {k M w : Nat} {p c : Tx} (h : SrOk P on taken (k + 1) M w) (hp : p ∈ P) (hu : unC on taken = c :: t) (hc : hasC p c = true) : SrOk P on (putT taken p) k M w := by
 have hnl := h.nl;rw [hu] at hnl;refine ⟨h.w8, h.m6, by rw [put_len]; have := h.sum; omega, h.pl, h.ol, h.pw, h.ow, fun q hq => ?_, by rw [unC_put, hu]; exact noLess_next hnl hp hc⟩;rcases List.mem_append.1 ((putT_perm taken p).mem_iff.1 hq) with e | e
 ·exact h.tw q e
 rw [List.mem_singleton.1 e]; exact h.pw p hp
theorem foldl_inv {α β : Type} (f : β → α → β) (Q : β → Prop) : ∀ (L : List α) (B : β), Q B → (∀ B a, a ∈ L → Q B → Q (f B a)) → Q (L.foldl f B)
 | [], _, h, _ => h
 | a :: L, B, h, hf => by rw [List.foldl_cons]; exact foldl_inv f Q L _ (hf B a List.mem_cons_self h) fun B b hb => hf B b (List.mem_cons_of_mem _ hb)
theorem con_ok {M w : Nat} {l : List Tx} {B : Option (List Tx)} (hl : l.length = M) (hw : ∀ x, x ∈ l → x.length = w) (hB : BOk M w B) : BOk M w (conT l B) := by
 rcases conT_or l B with e | e
 ·rw [e]; exact hB
 rw [e]; intro b hb; obtain rfl : l = b := Option.some.inj hb; exact ⟨hl, hw⟩
theorem search_ok (P on : List Tx) (M w : Nat) : ∀ (m : Nat) (taken : List Tx) (B : Option (List Tx)), SrOk P on taken m M w → BOk M w B → BOk M w (searchN P on m taken B) := by
 intro m
 induction m with
 | zero =>
  intro taken B h hB;cases hu : unC on taken with
  | nil => rw [searchN_nil hu]; exact con_ok (by have := h.sum; omega) h.tw hB
  | cons c t => rw [searchN_zero hu]; exact hB
 | succ k ih =>
  intro taken B h hB;cases hu : unC on taken with
  | nil =>
   have := h.nl;rw [hu] at this;have := noLess_nil this;omega
  | cons c t =>
   rw [searchN_succ hu];refine foldl_inv _ _ P B hB fun B' p hp hB' => ?_
   by_cases hc : hasC p c = true
   ·rw [if_pos hc]; exact ih _ _ (sr_next h hp hu hc) hB'
   rw [if_neg hc]; exact hB'
theorem en_searchS : Enters Tryz.prog 126 := enters_of Tryz.func126 rfl rfl
def SrSpec (P on taken : List Tx) (m : Nat) (B : Option (List Tx)) : Prop := ASpec Tryz.prog 126 [.ptr 0 0, .d (vSs taken), aI m] [(0, schC P on B)] (Fun1 (.tup []) [(0, schC P on (searchN P on m taken B))])
set_option maxHeartbeats 16000000 in
theorem search_step (P on : List Tx) (M w m : Nat) (ih : ∀ k, k < m → ∀ taken B, SrOk P on taken k M w → BOk M w B → SrSpec P on taken k B) (taken : List Tx) (B : Option (List Tx)) (hK : SrOk P on taken m M w) (hB : BOk M w B) : SrSpec P on taken m B := by
 have hw8 := hK.w8;have hm6 := hK.m6;have hsum := hK.sum;have hpl := hK.pl;have hol := hK.ol;have hpw := hK.pw;have how := hK.ow;have htw := hK.tw;have hIn := fun (c : Tx) (hc : c.length = w) => l13In_spec taken c (by omega) (by omega) (fun x hx => by rw [hc, htw x hx])
 have hfirst := fun i hi hall h => unC_first (on := on) (taken := taken) (i := i) hi hall h
 have hnone := @unC_none on taken
 have hBt : unC on taken = [] → ASpec Tryz.prog 139 [.ptr 0 0, .d (vSs taken)] [(0, schC P on B)] (Fun1 (aT (betT taken B)) [(0, schC P on B)]) := fun h => by
  have hn := hK.nl;rw [h] at hn;have h0 := noLess_nil hn;exact betterS_spec P on taken B (by omega) (fun c hc => by rw [htw c hc]; omega) (fun b hb => by obtain ⟨h1, h2⟩ := hB b hb; exact ⟨by omega, fun c hc => by rw [h2 c hc]; omega⟩)
 have hEnd : unC on taken = [] → searchN P on m taken B = conT taken B := fun h => searchN_nil h
 have hCon : conT taken B = if betT taken B = true then some taken else B := rfl
 have hFold := fun c t (h : unC on taken = c :: t) => search_fold (P := P) (m := m) (B := B) h
 have hPut := fun p => l14Put_spec taken p (by omega)
 have hNx := fun (p c : Tx) (t : List Tx) k (hk : m = k + 1) (hp : p ∈ P) (hu : unC on taken = c :: t) (hc : hasC p c = true) => sr_next (k := k) (by rw [← hk]; exact hK) hp hu hc
 unfold SrSpec;obtain ⟨R, hR⟩ := eqx (searchN P on m taken B);rw [← hR] at hEnd hFold ⊢;have hEnd := hEnd;clear hR;refine ASpec.of Tryz.func126 rfl rfl fun C hC => ?_
 refine AC.seq (AC.seq (AC.region ?_));refine AL.p (by exact mv3 rfl) rfl ?_;refine AL.p (by exact g_nilP rfl) rfl ?_;refine zF ?_;refine zl ?_;refine kI on.length (strsL_len _) ?_;refine zm ?_;refine AL.nil (th_n (AC.block ?_));refine AC.loop (ι := Nat) (fun i => ⟨57, 100, [(0, .ptr 0 0), (1, .d (vSs taken)), (2, aI m), (13, .d (vSs on)), (14, aI on.length), (15, aI i)], [(0, some (schC P on B))]⟩) (fun i => i ≤ on.length ∧ ∀ j (hj : j < on.length), j < i → covB taken on[j] = true) (fun i => on.length - i) (0) ?_ (⟨Nat.zero_le _, fun j _ h => by omega⟩) ?_
 ·exact zw [] hC
 rintro i ⟨hi, hall⟩;refine AC.seq (AC.region ?_);refine zc ?_;refine AL.nil (th_n (AC.seq ?_));refine AC.condD rfl (fun h0 => ?_) (fun h0 => ?_)
 ·refine AC.skip (th_n (AC.seq (AC.block (AC.seq ?_))));have hi1 : i < on.length := by omega
  have hget := strs_at hi1;have hfi := hfirst i hi1 hall;have hcw := how _ (List.getElem_mem hi1);have hmore : covB taken on[i] = true → ∀ j (hj : j < on.length), j < i + 1 → covB taken on[j] = true := fun h j hj hji => by rcases Nat.lt_succ_iff_lt_or_eq.1 hji with q | rfl; exact hall j hj q; exact h
  obtain ⟨c, hc⟩ := eqx (on[i]);rw [← hc] at hget hfi hcw hmore;have hInc := hIn c hcw;obtain ⟨b, hb⟩ := eqx (covB taken c);rw [← hb] at hInc hfi hmore;clear hc hb;refine AC.region ?_;refine AL.p (by exact g_ia_view (i := i) rfl rfl rfl rfl rfl rfl hget) rfl ?_;refine zr ?_;refine za ?_;refine AL.nil (th_n (AC.seq (AC.seq (AC.region ?_))));refine zm ?_;refine zm ?_;refine kV en_l13In hInc ?_;refine AL.nil (th_n ?_);refine AC.condB rfl (fun h1 => ?_) (fun h1 => ?_)
  ·refine AC.exit (th_e (ib_y (th_n (AC.region ?_))));refine zA ?_;refine zm ?_;refine AL.nil (th_n ?_);exact ⟨i + 1, ⟨by omega, hmore ‹b = true›⟩, by omega, zw [] hC⟩
  refine AC.skip (th_n (AC.seq (AC.seq ?_)));obtain ⟨t, hu⟩ := hfi ‹b = false›;have hFo := hFold c t hu;have hFd : ∀ B' p, srF P on m taken c B' p = if 0 < m ∧ hasC p c = true then searchN P on (m - 1) (putT taken p) B' else B' := fun _ _ => rfl
  obtain ⟨f, hf⟩ := eqx (srF P on m taken c);rw [← hf] at hFo hFd;clear hf;refine AC.region ?_;refine AL.p (by exact mv3 rfl) rfl ?_;refine AL.p (by exact g_nilP rfl) rfl ?_;refine zF ?_;refine zl ?_;refine kI P.length (strsL_len _) ?_;refine zm ?_;refine AL.nil (th_n (AC.block ?_));refine AC.loop (ι := Nat × Option (List Tx)) (fun y => ⟨57, 300, [(0, .ptr 0 0), (1, .d (vSs taken)), (2, aI m), (7, aS (bstr c)), (25, .d (vSs P)), (26, aI P.length), (27, aI y.1)], [(0, some (schC P on y.2))]⟩) (fun y => y.1 ≤ P.length ∧ y.2 = (P.take y.1).foldl f B ∧ BOk M w y.2) (fun y => P.length - y.1) ((0, B)) ?_ (⟨Nat.zero_le _, rfl, hB⟩) ?_
  ·exact zw [] hC
  rintro ⟨j, D⟩ ⟨hj, hD, hBj⟩;dsimp only at hj hD hBj ⊢;refine AC.seq (AC.region ?_);refine zc ?_;refine AL.nil (th_n (AC.seq ?_));refine AC.condD rfl (fun h2 => ?_) (fun h2 => ?_)
  ·refine AC.skip (th_n (AC.seq (AC.block (AC.seq ?_))));have hj1 : j < P.length := by omega
   have hgp := strs_at hj1;have hpm := List.getElem_mem hj1;have hsn := fold_snoc f B hj1;rw [← hD, hFd] at hsn;obtain ⟨p, hp⟩ := eqx (P[j]);rw [← hp] at hgp hpm hsn;have hpw1 := hpw p hpm;have hH := l13Has_spec p c (by omega) (by omega);have hPu := hPut p;have hCall : 0 < m → hasC p c = true → SrSpec P on (putT taken p) (m - 1) D ∧ BOk M w (searchN P on (m - 1) (putT taken p) D) := fun h0 h => by have q := hNx p c t (m - 1) (by omega) hpm hu h; exact ⟨ih (m - 1) (by omega) _ _ q hBj, search_ok P on M w _ _ _ q hBj⟩
   unfold SrSpec at hCall;obtain ⟨b2, hb2⟩ := eqx (hasC p c);rw [← hb2] at hH hsn hCall;obtain ⟨E, hE⟩ := eqx (searchN P on (m - 1) (putT taken p) D);rw [← hE] at hsn hCall;obtain ⟨T, hT⟩ := eqx (putT taken p);rw [← hT] at hPu hCall;clear hp hb2 hE hT;refine AC.region ?_;refine AL.p (by exact g_ia_view (i := j) rfl rfl rfl rfl rfl rfl hgp) rfl ?_;refine zr ?_;refine za ?_;refine AL.nil (th_n (AC.seq (AC.region ?_)));refine zm ?_;refine zc ?_;refine zm ?_;refine AL.caseG rfl rfl (fun h3 => ?_) (fun h3 => ?_)
   ·refine zy ?_;refine zm ?_;refine zy ?_;refine zm ?_;refine zy ?_;refine kV en_l13Has hH ?_;refine zQ ?_;refine AL.nil (th_n ?_);refine AC.condB rfl (fun h4 => ?_) (fun h4 => ?_)
    ·have h0m : 0 < m := by omega
     have hb2t : b2 = true := by assumption
     obtain ⟨hC1, hC2⟩ := hCall h0m hb2t;rw [if_pos ⟨h0m, hb2t⟩] at hsn;refine AC.region ?_;refine AL.p (by exact mv3 rfl) rfl ?_;refine zm ?_;refine zm ?_;refine kV en_l14Put hPu ?_;refine zm ?_;refine AL.p (by exact g_arith (e := ((m - 1 : Nat) : Int)) rfl rfl rfl (by rw [show (m : Int) - 1 = ((m - 1 : Nat) : Int) by omega]; exact wrap_i64 (by omega))) rfl ?_;refine kU [0] en_searchS hC1 ?_;refine AL.nil (ib_n (th_n (AC.region ?_)));refine zA ?_;refine zm ?_;refine AL.nil (th_n ?_)
     (have w1 := ‹b2 = true›; exact ⟨(j + 1, E), ⟨by dsimp only; omega, hsn.symm, hC2⟩, by dsimp only; omega, zw [] hC⟩)
    refine AC.skip (ib_n (th_n (AC.region ?_)));refine zA ?_;refine zm ?_;refine AL.nil (th_n ?_)
    (have w1 := ‹b2 = false›; rw [if_neg (fun q => by rw [w1] at q; exact absurd q.2 (by decide))] at hsn; exact ⟨(j + 1, D), ⟨by dsimp only; omega, hsn.symm, hBj⟩, by dsimp only; omega, zw [] hC⟩)
   refine zn ?_;refine zn ?_;refine zn ?_;refine zP ?_;refine AL.nil (th_n ?_);refine AC.condF rfl ?_;refine AC.skip (ib_n (th_n (AC.region ?_)));refine zA ?_;refine zm ?_;refine AL.nil (th_n ?_)
   (rw [if_neg (fun q => absurd q.1 (by omega))] at hsn; exact ⟨(j + 1, D), ⟨by dsimp only; omega, hsn.symm, hBj⟩, by dsimp only; omega, zw [] hC⟩)
  refine AC.exit (th_e (th_e (ib_y (th_n (AC.ret (ib_r (th_r (th_r (ib_r (th_r (bq_r ?_)))))))))));have hjj : j = P.length := by omega
  have e : R = D := by rw [hFo, hD, hjj, List.take_length]
  exact retF rfl (by repeat (first | exact rfl | refine ⟨_, rfl, ?_⟩)) (by rw [e]; repeat (first | exact True.intro | refine And.intro ?_ ?_ | exact DLead.same | exact rfl | refine ⟨_, _, rfl, rfl, ?_⟩ | refine ⟨_, rfl, ?_⟩ | refine ⟨_, _, rfl, ?_, ?_⟩)) rfl
 refine AC.exit (th_e (th_e (ib_y (th_n (AC.seq ?_)))));have hu0 : unC on taken = [] := hnone fun j hj => hall j hj (by omega)
 have hBt0 := hBt hu0;have hEn := (hEnd hu0).trans hCon;refine AC.region ?_;refine AL.p (by exact mv3 rfl) rfl ?_;refine zm ?_;refine kU [0] en_betterS hBt0 ?_;refine AL.nil (th_n ?_);refine AC.condB rfl (fun h1 => ?_) (fun h1 => ?_)
 ·refine AC.seq (AC.region ?_);refine AL.p (by exact mv3 rfl) rfl ?_;refine zm ?_;refine AL.p (by exact g_nilP rfl) rfl ?_;refine zF ?_;refine zs ?_;refine AL.nil (th_n (AC.region ?_));refine AL.p (by exact mv3 rfl) rfl ?_;refine AL.p (by exact g_nilP rfl) rfl ?_;refine zF ?_;refine zs ?_;refine AL.nil (bq_n ?_)
  (have q := ‹betT taken B = true›; rw [if_pos q] at hEn; exact retF rfl (by repeat (first | exact rfl | refine ⟨_, rfl, ?_⟩)) (by rw [hEn]; repeat (first | exact True.intro | refine And.intro ?_ ?_ | exact DLead.same | exact rfl | refine ⟨_, _, rfl, rfl, ?_⟩ | refine ⟨_, rfl, ?_⟩ | refine ⟨_, _, rfl, ?_, ?_⟩)) rfl)
 refine AC.skip (bq_n ?_)
 (have q := ‹betT taken B = false›; rw [if_neg (by rw [q]; decide)] at hEn; exact retF rfl (by repeat (first | exact rfl | refine ⟨_, rfl, ?_⟩)) (by rw [hEn]; repeat (first | exact True.intro | refine And.intro ?_ ?_ | exact DLead.same | exact rfl | refine ⟨_, _, rfl, rfl, ?_⟩ | refine ⟨_, rfl, ?_⟩ | refine ⟨_, _, rfl, ?_, ?_⟩)) rfl)
theorem search_spec (P on : List Tx) (M w m : Nat) : ∀ taken B, SrOk P on taken m M w → BOk M w B → SrSpec P on taken m B := by
 induction m using Nat.strongRecOn with
 | _ m ih => exact search_step P on M w m ih
theorem unC_nil (on : List Tx) : unC on [] = on := by unfold unC; exact List.filter_eq_self.2 fun x _ => rfl
theorem search_top {P on : List Tx} {m : Nat} (h : noLess P m on) : searchN P on m [] none = chooseN P m on [] none := by
 have := search_choose P on m [] none (by rw [unC_nil]; exact h)
 rwa [sortT_nil, unC_nil] at this
theorem noLess_succ {P on : List Tx} {m : Nat} (h : noLess P m on) (hc : chooseN P m on [] none = none) : noLess P (m + 1) on := fun k hk => by
 rcases Nat.lt_succ_iff_lt_or_eq.1 hk with q | rfl
 ·exact h k q
 exact choose_leaf hc
set_option maxHeartbeats 8000000 in
theorem l14Least_spec (w : Nat) (on off : List Tx) (h8 : w ≤ 8) (hol : on.length ≤ 64) (hfl : off.length ≤ 256) (hon : ∀ x, x ∈ on → x.length = w) (hof : ∀ x, x ∈ off → x.length = w) (hp60 : (primesL w on off).length ≤ 60) : ASpec Tryz.prog 109 [aI w, .d (vSs on), .d (vSs off)] [] (Pure1 (.tup [.d (vSs (minO (minT (primesL w on off) on)).1), aT (minO (minT (primesL w on off) on)).2])) := by
 have hP := l14Primes_spec w on off h8 (by omega) (by omega) hon hof;have hpw : ∀ p, p ∈ primesL w on off → p.length = w := fun p hp => (primesL_mem hp).1
 obtain ⟨P, hPP⟩ := eqx (primesL w on off);rw [← hPP] at hP hpw hp60 ⊢;have hCh : ∀ m, m ≤ 6 → noLess P m on → SrSpec P on [] m none := fun m hm hn => search_spec P on m w m [] none ⟨h8, hm, by simp, hp60, hol, hpw, hon, fun p hp => absurd hp List.not_mem_nil, by rw [unC_nil]; exact hn⟩ (fun b hb => by cases hb)
 obtain ⟨R, hR⟩ := eqx (minO (minT P on));rw [← hR];clear hPP;refine ASpec.of Tryz.func109 rfl rfl fun C hC => ?_
 refine AC.seq (AC.region ?_);refine za ?_;refine za ?_;refine AL.nil (th_n (AC.seq (AC.seq (AC.region ?_))));refine za ?_;refine AL.nil (th_n (AC.block ?_));refine AC.loop (ι := Nat) (fun m => ⟨32, 300, [(0, aI w), (1, .d (vSs on)), (2, .d (vSs off)), (8, aI m)], []⟩) (fun m => m ≤ 7 ∧ minT P on = minAt P on (7 - m) m ∧ noLess P m on) (fun m => 7 - m) (0) ?_ (⟨Nat.zero_le _, rfl, fun k hk => absurd hk (Nat.not_lt_zero _)⟩) ?_
 ·exact Weak.ren _ [] hC rfl (by repeat (first | exact True.intro | refine And.intro ?_ ?_ | exact DLead.same)) (by repeat (exact True.intro)) rfl rfl rfl
 rintro m ⟨hm, hmi, hnl⟩;refine AC.seq (AC.seq (AC.region ?_));refine zm ?_;refine zc ?_;refine AL.nil (th_n ?_);refine AC.condD rfl (fun h0 => ?_) (fun h0 => ?_)
 ·refine AC.skip (th_n (AC.seq (AC.block (AC.seq ?_))));have hm6 : m ≤ 6 := by omega
  have hCm := hCh m hm6 hnl;have hyes := @minAt_yes P on (6 - m) m;have hno := @minAt_no P on (6 - m) m;rw [show 6 - m + 1 = 7 - m by omega] at hyes hno;unfold SrSpec at hCm;rw [search_top hnl] at hCm;have hnl2 := noLess_succ hnl;obtain ⟨B, hB⟩ := eqx (chooseN P m on [] none);rw [← hB] at hCm hyes hno hnl2;have hsB : B.isSome = true → minT P on = B := fun h => by obtain ⟨b, hb⟩ := Option.isSome_iff_exists.1 h; rw [hmi, hyes hb, hb]
  have hBn : B.isSome = false → B = none := fun h => by cases B with | none => rfl | some b => cases h
  have hnB : B.isSome = false → minT P on = minAt P on (7 - (m + 1)) (m + 1) := fun h => by rw [hmi, hno (hBn h), show 6 - m = 7 - (m + 1) by omega]
  have hmo : minO B = (B.getD [], B.isSome) := rfl;refine AC.region ?_;refine zm ?_;refine zm ?_;refine zm ?_;refine kV en_l14Primes hP ?_;refine zm ?_;refine AL.p (by exact g_build rfl rfl rfl) rfl ?_;refine AL.q (by exact h_box rfl) rfl ?_;refine AL.p (by exact as3 rfl) rfl ?_;refine AL.nil (th_n (AC.seq ?_));refine AC.weak (t := ⟨32, 400, [(0, aI w), (1, .d (vSs on)), (2, .d (vSs off)), (8, aI m), (9, .ptr 200 0)], [(200, some (schC P on none))]⟩) (Weak.ren _ [(200, _)] hC rfl (by repeat (first | exact True.intro | refine And.intro ?_ ?_ | exact DLead.same | exact rfl | refine ⟨_, rfl, ?_⟩)) (by unfold schC; repeat (first | exact True.intro | refine And.intro ?_ ?_ | exact DLead.same | exact DLead.nil | exact rfl | refine ⟨_, _, rfl, rfl, ?_⟩ | refine ⟨_, rfl, ?_⟩ | refine ⟨_, _, rfl, ?_, ?_⟩)) rfl rfl rfl) ?_;refine AC.region ?_;refine AL.p (by exact mv3 rfl) rfl ?_;refine zm ?_;refine kU [200] en_searchS hCm ?_;refine AL.nil (th_n (AC.seq ?_));unfold schC;refine AC.region ?_;refine AL.p (by exact mv3 rfl) rfl ?_;refine AL.p (by exact g_nilP rfl) rfl ?_;refine zF ?_;refine zl ?_;refine AL.nil (th_n ?_);refine AC.condB rfl (fun h1 => ?_) (fun h1 => ?_)
  ·refine AC.seq (AC.region ?_);refine AL.p (by exact mv3 rfl) rfl ?_;refine AL.p (by exact g_nilP rfl) rfl ?_;refine zF ?_;refine zl ?_;refine za ?_;refine za ?_;refine AL.nil (th_n (AC.ret (ib_r (th_r (th_r (ib_r (th_r (bq_r ?_))))))));have hs : B.isSome = true := by assumption
   have e : R = minO B := by rw [hR, hsB hs]
   exact ret0 rfl (by rw [e, hmo, hs]; repeat (first | exact DLead.same | exact rfl | refine ⟨_, rfl, ?_⟩ | refine ⟨_, _, rfl, ?_, ?_⟩))
  refine AC.skip (ib_n (th_n (AC.region ?_)));refine zm ?_;refine zA ?_;refine za ?_;refine AL.nil (th_n ?_);exact ⟨m + 1, ⟨by omega, hnB (by assumption), hnl2 (hBn (by assumption))⟩, by omega, Weak.ren _ [] hC rfl (by repeat (first | exact True.intro | refine And.intro ?_ ?_ | exact DLead.same)) (by repeat (exact True.intro)) rfl rfl rfl⟩
 refine AC.exit (th_e (th_e (ib_y (th_n (AC.seq (AC.region ?_))))));refine za ?_;refine za ?_;refine AL.nil (th_n (AC.ret (bq_r ?_)));have hm7 : m = 7 := by omega
 have e : R = ([], false) := by rw [hR, hmi, hm7]; rfl
 exact ret0 rfl (by rw [e]; show AV.leads _ (.tup [.d (vSs []), aT false]) _; repeat (first | exact DLead.same | exact DLead.nil | exact rfl | refine ⟨_, rfl, ?_⟩ | refine ⟨_, _, rfl, ?_, ?_⟩))
theorem en_l14Least : Enters Tryz.prog 109 := enters_of Tryz.func109 rfl rfl
theorem sMinC_spec (n : Int) (on off : List Tx) (hl : on.length ≤ 1000000) (hl2 : off.length ≤ 1000000) (hb : ∀ c, c ∈ on → c.length ≤ 2000000) (hb2 : ∀ c, c ∈ off → c.length ≤ 2000000) : ASpec Tryz.prog 91 [aI n, .d (vSs on), .d (vSs off)] [] (Pure1 (.tup [.d (vSs (minR n on off).1), aT (minR n on off).2])) := by
 have hP := sPrimes_spec n on off hl hl2 hb hb2;have hR : minR n on off = if (prR n on off).2 = true then minO (minT (prR n on off).1 on) else ([], false) := rfl
 have hL : (prR n on off).2 = true → ASpec Tryz.prog 109 [aI n, .d (vSs on), .d (vSs off)] [] (Pure1 (.tup [.d (vSs (minO (minT (prR n on off).1 on)).1), aT (minO (minT (prR n on off).1 on)).2])) := fun h => by
  obtain ⟨h1, h2, h3⟩ := prR_in h;obtain ⟨w, rfl, _, h8, hol, hfl, hon, hof, _⟩ := onoff_in h1;rw [h2];exact l14Least_spec w on off h8 hol hfl (fun x hx => (hon x hx).1) (fun x hx => (hof x hx).1) h3
 obtain ⟨A, hA⟩ := eqx (prR n on off);rw [← hA] at hP hR hL;obtain ⟨R, hRR⟩ := eqx (minR n on off);rw [← hRR] at hR ⊢;obtain ⟨Q, hQ⟩ := eqx (minO (minT A.1 on));rw [← hQ] at hR hL;clear hA hRR hQ;refine ASpec.of Tryz.func91 rfl rfl fun C hC => ?_
 refine AC.seq (AC.region ?_);refine za ?_;refine za ?_;refine AL.nil (th_n (AC.seq (AC.seq (AC.region ?_))));refine zm ?_;refine zm ?_;refine zm ?_;refine kV en_sPrimes hP ?_;refine AL.p (by exact mv5 rfl) rfl ?_;refine AL.p (by exact g_extract (r := .d _) rfl rfl) rfl ?_;refine AL.p (by exact g_extract (r := .d _) rfl rfl) rfl ?_;refine za ?_;refine za ?_;refine AL.nil (th_n (AC.seq (AC.region ?_)));refine zm ?_;refine kC ?_;refine AL.nil (th_n ?_);refine AC.condB rfl (fun h0 => ?_) (fun h0 => ?_)
 ·refine AC.seq (AC.region ?_);refine za ?_;refine za ?_;refine AL.nil (th_n (AC.ret (th_r (bq_r ?_))));have e : R = ([], false) := hR.trans (if_neg (by have q := ‹(!A.2) = true›; simpa using q));exact ret0 rfl (by rw [e]; show AV.leads _ (.tup [.d (vSs []), aT false]) _; repeat (first | exact DLead.same | exact DLead.nil | exact rfl | refine ⟨_, rfl, ?_⟩ | refine ⟨_, _, rfl, ?_, ?_⟩))
 refine AC.skip (th_n (AC.seq ?_));have hA1 : A.2 = true := by have q := ‹(!A.2) = false›; simpa using q
 have hL1 := hL hA1;rw [if_pos hA1] at hR;refine AC.region ?_;refine zm ?_;refine zm ?_;refine zm ?_;refine kV en_l14Least hL1 ?_;refine AL.p (by exact g_extract (r := .d _) rfl rfl) rfl ?_;refine AL.p (by exact g_extract (r := .d _) rfl rfl) rfl ?_;refine za ?_;refine za ?_;refine AL.nil (th_n (AC.ret (bq_r ?_)));exact ret0 rfl (by rw [hR]; repeat (first | exact DLead.same | exact rfl | refine ⟨_, rfl, ?_⟩ | refine ⟨_, _, rfl, ?_, ?_⟩))
theorem en_sMinC : Enters Tryz.prog 91 := enters_of Tryz.func91 rfl rfl
def litN (al : List UInt8) : Nat → Cur → List UInt8 → List UInt8 × Cur
 | 0, c, s => (s, c)
 | j + 1, c, s => litN al j (c.pick al.length).2 (s ++ [al.getD (c.pick al.length).1.toNat 0])
theorem litN_len (al : List UInt8) : ∀ (j : Nat) (c : Cur) (s : List UInt8), (litN al j c s).1.length = s.length + j ∧ (litN al j c s).2.pos ≤ c.pos + 2 * j
 | 0, c, s => ⟨rfl, Nat.le_refl _⟩
 | j + 1, c, s => by
  have h := litN_len al j (c.pick al.length).2 (s ++ [al.getD (c.pick al.length).1.toNat 0]);have h2 := c.pick_pos al.length;simp only [List.length_append, List.length_cons, List.length_nil] at h;simp only [litN];exact ⟨by omega, by omega⟩
def Cur.lits (c : Cur) (al : List UInt8) (n : Int) : List UInt8 × Cur := litN al n.toNat c []
theorem Cur.lits_in (c : Cur) (al : List UInt8) (n : Int) : (c.lits al n).1.length = n.toNat ∧ (c.lits al n).2.pos ≤ c.pos + 2 * n.toNat := by
 have h := litN_len al n.toNat c [];simp only [List.length_nil] at h;exact ⟨by show (litN _ _ _ _).1.length = _; omega, h.2⟩
theorem lit3_get {k : Nat} (h : k < 3) : ([[dS ⟨#[48]⟩], [dS ⟨#[49]⟩], [dS ⟨#[45]⟩]] : List (List DV))[k]? = some [dS (bstr [([48, 49, 45] : List UInt8).getD k 0])] := by
 match k, h with
 | 0, _ => rfl
 | 1, _ => rfl
 | 2, _ => rfl
theorem lit2_get {k : Nat} (h : k < 2) : ([[dS ⟨#[48]⟩], [dS ⟨#[49]⟩]] : List (List DV))[k]? = some [dS (bstr [([48, 49] : List UInt8).getD k 0])] := by
 match k, h with
 | 0, _ => rfl
 | 1, _ => rfl
set_option maxHeartbeats 2000000 in
theorem cube_spec (c : Cur) (n : Int) (hn : n ≤ 1000) (hp : c.pos ≤ 10000000000000) : ASpec Tryz.prog 71 [.ptr 0 0, aI n] [(0, curC c)] (Fun1 (aS (bstr (c.lits [48, 49, 45] n).1)) [(0, curC (c.lits [48, 49, 45] n).2)]) := by
 have hs1 : ∀ x : UInt8, (bstr [x]).size = 1 := fun x => bstr_size _
 obtain ⟨R, hR⟩ := eqx (c.lits [48, 49, 45] n);refine ASpec.of Tryz.func71 rfl rfl fun C hC => ?_
 refine AC.seq (AC.region ?_);refine za ?_;refine AL.nil (th_n (AC.seq (AC.region ?_)));refine za ?_;refine AL.nil (th_n (AC.seq (AC.seq (AC.region ?_))));refine za ?_;refine AL.nil (th_n (AC.block ?_));refine AC.loop (ι := Nat × Cur × List UInt8) (fun x => ⟨18, 108, [(0, .ptr 0 0), (1, aI n), (5, aS (bstr x.2.2)), (6, aI x.1)], [(0, some (curC x.2.1))]⟩) (fun x => x.1 ≤ n.toNat ∧ x.2.2.length = x.1 ∧ litN [48, 49, 45] (n.toNat - x.1) x.2.1 x.2.2 = R ∧ x.2.1.pos ≤ c.pos + 2 * x.1) (fun x => n.toNat - x.1) ((0, c, [])) ?_ (⟨Nat.zero_le _, rfl, hR.symm, Nat.le_refl _⟩) ?_
 ·exact zw [] hC
 rintro ⟨i, cc, s⟩ ⟨hi, hsl, hsub, hpos⟩;dsimp only at hi hsl hsub hpos ⊢;refine AC.seq (AC.seq (AC.region ?_));refine zm ?_;refine zm ?_;refine zc ?_;refine AL.nil (th_n ?_);refine AC.condD rfl (fun h0 => ?_) (fun h0 => ?_)
 ·refine AC.skip (th_n (AC.seq (AC.block ?_)));have hi1 : i < n.toNat := by omega
  have hpk := cc.pick_in 3 (by decide);have hpp := cc.pick_pos 3;have hget := lit3_get (k := (cc.pick 3).1.toNat) (by omega);have hsz : (bstr s).size = i := by rw [bstr_size, hsl]
  obtain ⟨x, hx⟩ := eqx (([48, 49, 45] : List UInt8).getD (cc.pick 3).1.toNat 0);have hsub2 : litN [48, 49, 45] (n.toNat - (i + 1)) (cc.pick 3).2 (s ++ [x]) = R := by rw [← hsub, show n.toNat - i = (n.toNat - (i + 1)) + 1 from by omega, hx]; rfl
  rw [← hx] at hget;refine AC.region ?_;refine zm ?_;refine AL.p (by exact mv3 rfl) rfl ?_;refine AL.q (by exact h_litF rfl rfl rfl rfl rfl rfl rfl rfl) rfl ?_;refine AL.q (by exact h_fun (cs := [0]) en_of rfl rfl (by repeat (first | exact rfl | exact DLead.same | refine ⟨_, _, rfl, ?_, ?_⟩ | refine ⟨_, rfl, ?_⟩)) (by repeat (first | exact True.intro | refine And.intro ?_ ?_ | exact DLead.same | exact rfl | refine ⟨_, _, rfl, rfl, ?_⟩ | refine ⟨_, rfl, ?_⟩ | refine ⟨_, _, rfl, ?_, ?_⟩)) (of_spec cc [[dS ⟨#[48]⟩], [dS ⟨#[49]⟩], [dS ⟨#[45]⟩]] (bstr [x]) (by decide) (by decide) (by omega) hget) rfl rfl rfl rfl) rfl ?_;refine AL.p (by exact g_sadd rfl rfl (by rw [hsz, hs1]; omega)) rfl ?_;refine za ?_;refine AL.nil (ib_n (th_n (AC.region ?_)));refine zm ?_;refine zA ?_;refine za ?_;refine AL.nil (th_n ?_);exact ⟨(i + 1, (cc.pick 3).2, s ++ [x]), ⟨by show i + 1 ≤ _; omega, by show (s ++ [x]).length = i + 1; rw [List.length_append, hsl]; rfl, hsub2, by show (cc.pick 3).2.pos ≤ c.pos + 2 * (i + 1); omega⟩, by show n.toNat - (i + 1) < n.toNat - i; omega, Weak.ren _ [] hC rfl (by rw [← bstr_append]; repeat (first | exact True.intro | refine And.intro ?_ ?_ | exact DLead.same | exact rfl | refine ⟨_, rfl, ?_⟩)) (by repeat (first | exact True.intro | refine And.intro ?_ ?_ | exact DLead.same | exact rfl | refine ⟨_, _, rfl, rfl, ?_⟩ | refine ⟨_, rfl, ?_⟩ | refine ⟨_, _, rfl, ?_, ?_⟩)) rfl rfl rfl⟩
 refine AC.exit (th_e (th_e (ib_y (th_n (AC.seq (AC.region ?_))))));refine zm ?_;refine za ?_;refine AL.nil (th_n (AC.ret (bq_r ?_)));have hii : n.toNat - i = 0 := by omega
 rw [hii] at hsub;have e : c.lits [48, 49, 45] n = (s, cc) := by rw [← hR, ← hsub]; rfl
 exact retF rfl (by rw [e]; repeat (exact DLead.same)) (by rw [e]; repeat (first | exact True.intro | refine And.intro ?_ ?_ | exact DLead.same | exact rfl | refine ⟨_, _, rfl, rfl, ?_⟩ | refine ⟨_, rfl, ?_⟩ | refine ⟨_, _, rfl, ?_, ?_⟩)) rfl
theorem en_cube : Enters Tryz.prog 71 := enters_of Tryz.func71 rfl rfl
set_option maxHeartbeats 2000000 in
theorem code1_spec (c : Cur) (n : Int) (hn : n ≤ 1000) (hp : c.pos ≤ 10000000000000) : ASpec Tryz.prog 19 [.ptr 0 0, aI n] [(0, curC c)] (Fun1 (aS (bstr (c.lits [48, 49] n).1)) [(0, curC (c.lits [48, 49] n).2)]) := by
 have hs1 : ∀ x : UInt8, (bstr [x]).size = 1 := fun x => bstr_size _
 obtain ⟨R, hR⟩ := eqx (c.lits [48, 49] n);refine ASpec.of Tryz.func19 rfl rfl fun C hC => ?_
 refine AC.seq (AC.region ?_);refine za ?_;refine AL.nil (th_n (AC.seq (AC.region ?_)));refine za ?_;refine AL.nil (th_n (AC.seq (AC.seq (AC.region ?_))));refine za ?_;refine AL.nil (th_n (AC.block ?_));refine AC.loop (ι := Nat × Cur × List UInt8) (fun x => ⟨18, 108, [(0, .ptr 0 0), (1, aI n), (5, aS (bstr x.2.2)), (6, aI x.1)], [(0, some (curC x.2.1))]⟩) (fun x => x.1 ≤ n.toNat ∧ x.2.2.length = x.1 ∧ litN [48, 49] (n.toNat - x.1) x.2.1 x.2.2 = R ∧ x.2.1.pos ≤ c.pos + 2 * x.1) (fun x => n.toNat - x.1) ((0, c, [])) ?_ (⟨Nat.zero_le _, rfl, hR.symm, Nat.le_refl _⟩) ?_
 ·exact zw [] hC
 rintro ⟨i, cc, s⟩ ⟨hi, hsl, hsub, hpos⟩;dsimp only at hi hsl hsub hpos ⊢;refine AC.seq (AC.seq (AC.region ?_));refine zm ?_;refine zm ?_;refine zc ?_;refine AL.nil (th_n ?_);refine AC.condD rfl (fun h0 => ?_) (fun h0 => ?_)
 ·refine AC.skip (th_n (AC.seq (AC.block ?_)));have hi1 : i < n.toNat := by omega
  have hpk := cc.pick_in 2 (by decide);have hpp := cc.pick_pos 2;have hget := lit2_get (k := (cc.pick 2).1.toNat) (by omega);have hsz : (bstr s).size = i := by rw [bstr_size, hsl]
  obtain ⟨x, hx⟩ := eqx (([48, 49] : List UInt8).getD (cc.pick 2).1.toNat 0);have hsub2 : litN [48, 49] (n.toNat - (i + 1)) (cc.pick 2).2 (s ++ [x]) = R := by rw [← hsub, show n.toNat - i = (n.toNat - (i + 1)) + 1 from by omega, hx]; rfl
  rw [← hx] at hget;refine AC.region ?_;refine zm ?_;refine AL.p (by exact mv3 rfl) rfl ?_;refine AL.q (by exact h_litF rfl rfl rfl rfl rfl rfl rfl rfl) rfl ?_;refine AL.q (by exact h_fun (cs := [0]) en_of rfl rfl (by repeat (first | exact rfl | exact DLead.same | refine ⟨_, _, rfl, ?_, ?_⟩ | refine ⟨_, rfl, ?_⟩)) (by repeat (first | exact True.intro | refine And.intro ?_ ?_ | exact DLead.same | exact rfl | refine ⟨_, _, rfl, rfl, ?_⟩ | refine ⟨_, rfl, ?_⟩ | refine ⟨_, _, rfl, ?_, ?_⟩)) (of_spec cc [[dS ⟨#[48]⟩], [dS ⟨#[49]⟩]] (bstr [x]) (by decide) (by decide) (by omega) hget) rfl rfl rfl rfl) rfl ?_;refine AL.p (by exact g_sadd rfl rfl (by rw [hsz, hs1]; omega)) rfl ?_;refine za ?_;refine AL.nil (ib_n (th_n (AC.region ?_)));refine zm ?_;refine zA ?_;refine za ?_;refine AL.nil (th_n ?_);exact ⟨(i + 1, (cc.pick 2).2, s ++ [x]), ⟨by show i + 1 ≤ _; omega, by show (s ++ [x]).length = i + 1; rw [List.length_append, hsl]; rfl, hsub2, by show (cc.pick 2).2.pos ≤ c.pos + 2 * (i + 1); omega⟩, by show n.toNat - (i + 1) < n.toNat - i; omega, Weak.ren _ [] hC rfl (by rw [← bstr_append]; repeat (first | exact True.intro | refine And.intro ?_ ?_ | exact DLead.same | exact rfl | refine ⟨_, rfl, ?_⟩)) (by repeat (first | exact True.intro | refine And.intro ?_ ?_ | exact DLead.same | exact rfl | refine ⟨_, _, rfl, rfl, ?_⟩ | refine ⟨_, rfl, ?_⟩ | refine ⟨_, _, rfl, ?_, ?_⟩)) rfl rfl rfl⟩
 refine AC.exit (th_e (th_e (ib_y (th_n (AC.seq (AC.region ?_))))));refine zm ?_;refine za ?_;refine AL.nil (th_n (AC.ret (bq_r ?_)));have hii : n.toNat - i = 0 := by omega
 rw [hii] at hsub;have e : c.lits [48, 49] n = (s, cc) := by rw [← hR, ← hsub]; rfl
 exact retF rfl (by rw [e]; repeat (exact DLead.same)) (by rw [e]; repeat (first | exact True.intro | refine And.intro ?_ ?_ | exact DLead.same | exact rfl | refine ⟨_, _, rfl, rfl, ?_⟩ | refine ⟨_, rfl, ?_⟩ | refine ⟨_, _, rfl, ?_, ?_⟩)) rfl
theorem en_code1 : Enters Tryz.prog 19 := enters_of Tryz.func19 rfl rfl
def covN (n : Int) : Nat → Cur → List (List UInt8) → List (List UInt8) × Cur
 | 0, c, l => (l, c)
 | j + 1, c, l => covN n j (c.lits [48, 49, 45] n).2 (l ++ [(c.lits [48, 49, 45] n).1])
def badC (x : List UInt8) (i : Int) : List UInt8 := ([[], [120], x ++ [49]] : List (List UInt8)).getD i.toNat []
def endC (l : List (List UInt8)) (c : Cur) : List (List UInt8) × Cur := if (l.length : Int) > 0 then (if (c.pick 15).1 = 0 then (l.set 0 (badC (fst0 l) ((c.pick 15).2.pick 3).1), ((c.pick 15).2.pick 3).2) else (l, (c.pick 15).2)) else (l, c)
def Cur.cover (c : Cur) (n : Int) : List (List UInt8) × Cur := endC (covN n (c.pick 5).1.toNat (c.pick 5).2 []).1 (covN n (c.pick 5).1.toNat (c.pick 5).2 []).2
theorem endC_a {l : List (List UInt8)} {c : Cur} (h1 : (l.length : Int) > 0) (h2 : (c.pick 15).1 = 0) : endC l c = (l.set 0 (badC (fst0 l) ((c.pick 15).2.pick 3).1), ((c.pick 15).2.pick 3).2) := by rw [endC, if_pos h1, if_pos h2]
theorem endC_b {l : List (List UInt8)} {c : Cur} (h1 : (l.length : Int) > 0) (h2 : ¬ (c.pick 15).1 = 0) : endC l c = (l, (c.pick 15).2) := by rw [endC, if_pos h1, if_neg h2]
theorem endC_c {l : List (List UInt8)} {c : Cur} (h1 : ¬ (l.length : Int) > 0) : endC l c = (l, c) := if_neg h1
theorem badC_len (x : List UInt8) {i : Int} (h : 0 ≤ i ∧ i < 3) : (badC x i).length ≤ x.length + 1 := by
 have : i = 0 ∨ i = 1 ∨ i = 2 := by omega
 rcases this with rfl | rfl | rfl
 ·exact Nat.zero_le _
 ·show 1 ≤ _; omega
 show (x ++ [49]).length ≤ _; rw [List.length_append]; exact Nat.le_refl _
theorem bad_get (x : List UInt8) {i : Int} (h : 0 ≤ i ∧ i < 3) : ([[dS (bstr [])], [dS (bstr [120])], [dS (bstr (x ++ [49]))]] : List (List DV))[i.toNat]? = some [dS (bstr (badC x i))] := by
 have : i = 0 ∨ i = 1 ∨ i = 2 := by omega
 rcases this with rfl | rfl | rfl <;> rfl
theorem covN_in (n : Int) (hn : n ≤ 10) : ∀ (j : Nat) (c : Cur) (l : List (List UInt8)), (∀ x, x ∈ l → x.length = n.toNat) → (covN n j c l).1.length = l.length + j ∧ (∀ x, x ∈ (covN n j c l).1 → x.length = n.toNat) ∧ (covN n j c l).2.pos ≤ c.pos + 20 * j
 | 0, c, l, h => ⟨rfl, h, Nat.le_refl _⟩
 | j + 1, c, l, h => by
  have h1 := c.lits_in [48, 49, 45] n
  have h2 := covN_in n hn j (c.lits [48, 49, 45] n).2 (l ++ [(c.lits [48, 49, 45] n).1]) (fun x hx => by
   rcases List.mem_append.1 hx with q | q
   ·exact h x q
   rw [List.mem_singleton.1 q]; exact h1.1)
  simp only [List.length_append, List.length_cons, List.length_nil] at h2;exact ⟨by show (covN n j _ _).1.length = _; omega, h2.2.1, by show (covN n j _ _).2.pos ≤ _; omega⟩
theorem cover_in (c : Cur) (n : Int) (hn : n ≤ 10) : (c.cover n).1.length ≤ 4 ∧ (∀ x, x ∈ (c.cover n).1 → x.length ≤ n.toNat + 1) ∧ (c.cover n).2.pos ≤ c.pos + 90 := by
 have h1 := c.pick_in 5 (by decide);have h2 := c.pick_pos 5;have h3 := covN_in n hn (c.pick 5).1.toNat (c.pick 5).2 [] (fun x hx => absurd hx List.not_mem_nil);obtain ⟨R, hR⟩ := eqx (covN n (c.pick 5).1.toNat (c.pick 5).2 []);rw [← hR] at h3;have e : c.cover n = endC R.1 R.2 := by rw [hR]; rfl
 rw [e];simp only [List.length_nil] at h3;have h4 := R.2.pick_pos 15;have h5 := (R.2.pick 15).2.pick_pos 3;have h6 := (R.2.pick 15).2.pick_in 3 (by decide);unfold endC
 split
 ·rename_i q
  split
  ·refine ⟨by rw [List.length_set]; omega, fun x hx => ?_, by dsimp only; omega⟩;have hf := h3.2.1 _ (fst0_mem (l := R.1) (by omega));rcases List.mem_or_eq_of_mem_set hx with q | q
   ·have := h3.2.1 x q; omega
   have := badC_len (fst0 R.1) h6; rw [q]; omega
  exact ⟨by dsimp only; omega, fun x hx => by have := h3.2.1 x hx; omega, by dsimp only; omega⟩
 exact ⟨by dsimp only; omega, fun x hx => by have := h3.2.1 x hx; omega, by dsimp only; omega⟩
theorem en_curCover : Enters Tryz.prog 46 := enters_of Tryz.func46 rfl rfl
theorem pri_mem {n : Int} {on off : List Tx} (h : (prR n on off).2 = true) {p : Tx} (hp : p ∈ (prR n on off).1) : p.length ≤ 8 ∧ p.all lit3 = true := by
 obtain ⟨h1, h2, h3⟩ := prR_in h;rw [h2] at hp;obtain ⟨m, rfl, g1, g2, _⟩ := onoff_in h1;obtain ⟨e1, _, e3⟩ := primesL_mem hp;exact ⟨by rw [e1]; exact g2, e3⟩
theorem min_is {n : Int} {on off : List Tx} (h : (prR n on off).2 = true) (h2 : (minR n on off).2 = true) : MinOf (prR n on off).1 on (minR n on off).1 := by
 unfold minR at h2 ⊢;rw [if_pos h] at h2 ⊢;unfold minO at h2 ⊢;dsimp only at h2 ⊢;cases e : minT (prR n on off).1 on with
 | none => rw [e] at h2; cases h2
 | some b => exact minT_of e
theorem min_pr {n : Int} {on off : List Tx} (h2 : (minR n on off).2 = true) : (prR n on off).2 = true := by
 unfold minR at h2
 split at h2
 ·assumption
 cases h2
theorem min_len {n : Int} {on off : List Tx} : (minR n on off).1.length ≤ 60 := by
 cases e : (minR n on off).2 with
 | true => exact Nat.le_of_lt (Nat.lt_of_lt_of_le (min_is (min_pr e) e).len (by decide))
 | false =>
  unfold minR at e ⊢
  split at e
  ·rename_i q;rw [if_pos q];unfold minO at e ⊢;dsimp only at e ⊢;cases e2 : minT (prR n on off).1 on with
   | none => exact Nat.zero_le _
   | some b => rw [e2] at e; cases e
  rename_i q; rw [if_neg q]; exact Nat.zero_le _
theorem min_lit {n : Int} {on off : List Tx} (h2 : (minR n on off).2 = true) : ∀ p, p ∈ (minR n on off).1 → p.length ≤ 8 := fun p hp => (pri_mem (min_pr h2) ((min_is (min_pr h2) h2).sub p hp)).1
def excB (c : SG) (k g : Int) : Bool := c.arcs.any fun v => decide (v.from_ = k) && decide (v.sig = g)
theorem exc_no {c : SG} {k g : Int} (h : ∀ j (hj : j < c.arcs.length), ¬ (c.arcs[j].from_ = k ∧ c.arcs[j].sig = g)) : excB c k g = false := by
 refine List.any_eq_false.2 fun a ha => ?_
 obtain ⟨j, hj, rfl⟩ := List.getElem_of_mem ha;rw [Bool.and_eq_true, decide_eq_true_eq, decide_eq_true_eq]; exact h j hj
theorem exc_yes {c : SG} {k g : Int} {j : Nat} (hj : j < c.arcs.length) (h : c.arcs[j].from_ = k ∧ c.arcs[j].sig = g) : excB c k g = true := List.any_eq_true.2 ⟨_, List.getElem_mem hj, by rw [Bool.and_eq_true, decide_eq_true_eq, decide_eq_true_eq]; exact h⟩
set_option maxHeartbeats 2000000 in
theorem l5Exc_spec (c : SG) (k g : Int) (hl : c.arcs.length ≤ 1000000) : ASpec Tryz.prog 104 [sgA c, aI k, aI g] [] (Pure1 (aT (excB c k g))) := by
 refine ASpec.of Tryz.func104 rfl rfl fun C hC => ?_
 refine AC.seq (AC.region ?_);refine kD ?_;refine za ?_;refine AL.nil (th_n (AC.seq (AC.seq (AC.region ?_))));refine zf ?_;refine zr ?_;refine kI c.arcs.length (arL_len _) ?_;refine zm ?_;refine AL.nil (th_n (AC.block ?_));refine AC.loop (ι := Nat) (fun j => ⟨27, 300, [(1, aI k), (2, aI g), (10, .d (vArs c.arcs)), (11, aI c.arcs.length), (12, aI j)], []⟩) (fun j => j ≤ c.arcs.length ∧ ∀ i (hi : i < c.arcs.length), i < j → ¬ (c.arcs[i].from_ = k ∧ c.arcs[i].sig = g)) (fun j => c.arcs.length - j) (0) ?_ (⟨Nat.zero_le _, fun i _ hi => absurd hi (Nat.not_lt_zero _)⟩) ?_
 ·exact Weak.ren _ [] hC rfl (by repeat (first | exact True.intro | refine And.intro ?_ ?_ | exact DLead.same)) (by repeat (exact True.intro)) rfl rfl rfl
 rintro j ⟨hj, hall⟩;refine AC.seq (AC.region ?_);refine zc ?_;refine AL.nil (th_n (AC.seq ?_));refine AC.condD rfl (fun h0 => ?_) (fun h0 => ?_)
 ·refine AC.skip (th_n (AC.seq (AC.block (AC.seq ?_))));have hj1 : j < c.arcs.length := by omega
  have hget := arL_get hj1;have hy := exc_yes (k := k) (g := g) hj1;have hnx : ¬ (c.arcs[j].from_ = k ∧ c.arcs[j].sig = g) → ∀ i (hi : i < c.arcs.length), i < j + 1 → ¬ (c.arcs[i].from_ = k ∧ c.arcs[i].sig = g) := fun q i hi h2 => by rcases Nat.lt_succ_iff_lt_or_eq.1 h2 with h | rfl; exact hall i hi h; exact q
  obtain ⟨v, hv⟩ := eqx (c.arcs[j]);rw [← hv] at hget hy hnx;clear hv;refine AC.region ?_;refine AL.p (by exact g_ia_view rfl rfl rfl rfl rfl (by rfl) (by assumption)) rfl ?_;refine kG ?_;refine kE ?_;refine zs ?_;refine AL.nil (th_n (AC.seq (AC.region ?_)));refine zF ?_;refine zl ?_;refine zm ?_;refine zc ?_;refine zm ?_;refine AL.caseG rfl rfl (fun h1 => ?_) (fun h1 => ?_)
  ·refine zy ?_;refine zF ?_;refine zy ?_;refine zl ?_;refine zy ?_;refine zm ?_;refine zy ?_;refine zc ?_;refine zQ ?_;refine AL.nil (th_n ?_);refine AC.condD rfl (fun h2 => ?_) (fun h2 => ?_)
   ·refine AC.seq (AC.region ?_);refine za ?_;refine AL.nil (th_n (AC.ret (ib_r (th_r (th_r (ib_r (th_r (bq_r ?_))))))));exact ret1 rfl (by rw [hy ⟨‹v.from_ = k›, ‹v.sig = g›⟩])
   refine AC.skip (ib_n (th_n (AC.region ?_)));refine zA ?_;refine zm ?_;refine AL.nil (th_n ?_);exact ⟨j + 1, ⟨by omega, hnx (by rintro ⟨q1, q2⟩; exact absurd q2 (by assumption))⟩, by omega, Weak.ren _ [] hC rfl (by repeat (first | exact True.intro | refine And.intro ?_ ?_ | exact DLead.same)) (by repeat (exact True.intro)) rfl rfl rfl⟩
  refine zn ?_;refine zn ?_;refine zn ?_;refine zn ?_;refine zP ?_;refine AL.nil (th_n ?_);refine AC.condF rfl ?_;refine AC.skip (ib_n (th_n (AC.region ?_)));refine zA ?_;refine zm ?_;refine AL.nil (th_n ?_);exact ⟨j + 1, ⟨by omega, hnx (by rintro ⟨q1, q2⟩; exact absurd q1 (by assumption))⟩, by omega, Weak.ren _ [] hC rfl (by repeat (first | exact True.intro | refine And.intro ?_ ?_ | exact DLead.same)) (by repeat (exact True.intro)) rfl rfl rfl⟩
 refine AC.exit (th_e (th_e (ib_y (th_n (AC.seq (AC.region ?_))))));refine za ?_;refine AL.nil (th_n (AC.ret (bq_r ?_)));exact ret1 rfl (by rw [exc_no fun i hi => hall i hi (by omega)])
theorem en_l5Exc : Enters Tryz.prog 104 := enters_of Tryz.func104 rfl rfl
def arAt (L : List Ar) (i : Nat) : Ar := L.getD i ⟨0, 0, false, 0⟩
theorem arAt_nat {L : List Ar} {i : Nat} (h : i < L.length) : arAt L i = L[i] := by unfold arAt; rw [List.getD_eq_getElem?_getD, List.getElem?_eq_getElem h]; rfl
theorem arAt_get {L : List Ar} {i : Nat} (h : i < L.length) : (arL L)[i]? = some (arD (arAt L i)) := by rw [arAt_nat h]; exact arL_get h
def fromE (L : List Ar) : List (Nat × Nat) := (List.range L.length).map fun j => ((arAt L j).from_.toNat, j)
theorem fromE_len (L : List Ar) : (fromE L).length = L.length := by unfold fromE; simp
theorem fromE_next (L : List Ar) (k : Nat) : nextL (fromE L) k = (List.range L.length).filter fun j => decide ((arAt L j).from_.toNat = k) := by
 unfold nextL fromE;rw [List.filter_map, List.map_map];have : ((fun x : Nat × Nat => x.2) ∘ fun j => ((arAt L j).from_.toNat, j)) = id := rfl;rw [this, List.map_id]; rfl
def ownS (s : List Sig) (g : Int) : Bool := if g < 0 then true else !decide ((sAt s g.toNat).kind = 1)
theorem l6Own_spec (c : SG) (g : Int) (hg : g < c.sigs.length) : ASpec Tryz.prog 105 [sgA c, aI g] [] (Pure1 (aT (ownS c.sigs g))) := by
 have hI : ¬ g < 0 → g = ((g.toNat : Nat) : Int) := by omega
 have hget : ¬ g < 0 → (sigsL c.sigs)[g.toNat]? = some (sigD (sAt c.sigs g.toNat)) := by intro h; have h2 : g.toNat < c.sigs.length := by { omega }; rw [sAt_nat h2]; exact sigsL_get h2
 have hR : ownS c.sigs g = if g < 0 then true else !decide ((sAt c.sigs g.toNat).kind = 1) := rfl
 obtain ⟨R, hRR⟩ := eqx (ownS c.sigs g);rw [← hRR] at hR ⊢;clear hRR;refine ASpec.of Tryz.func105 rfl rfl fun C hC => ?_
 refine AC.seq (AC.region ?_);refine kD ?_;refine za ?_;refine AL.nil (th_n (AC.seq (AC.region ?_)));refine zm ?_;refine zc ?_;refine zm ?_;refine AL.caseG rfl rfl (fun h0 => ?_) (fun h0 => ?_)
 ·refine zn ?_;refine zn ?_;refine zn ?_;refine zn ?_;refine zn ?_;refine zn ?_;refine zn ?_;refine zQ ?_;refine za ?_;refine AL.nil (th_n (AC.ret (bq_r ?_)))
  (have q := ‹g < 0›; exact ret1 rfl (by rw [hR, if_pos (by omega)]))
 refine zy ?_;have hI1 := hI (by omega);have hget1 := hget (by omega);refine zf ?_;refine zy ?_;refine zr ?_;refine zy ?_;refine zm ?_;refine zy ?_;refine AL.p (by exact g_ia_view rfl rfl rfl rfl rfl (by assumption) (by assumption)) rfl ?_;refine zy ?_;refine zf ?_;refine zy ?_;refine zr ?_;refine zy ?_;refine zc ?_;refine zP ?_;refine za ?_;refine AL.nil (th_n (AC.ret (bq_r ?_)));exact ret1 rfl (by rw [hR, if_neg (by omega)])
theorem en_l6Own : Enters Tryz.prog 105 := enters_of Tryz.func105 rfl rfl
def ownL (s : List Sig) (n : Nat) : List Int := nI ((List.range n).filter fun i => ownS s (i : Int))
theorem ownL_succ (s : List Sig) (n : Nat) : ownL s (n + 1) = ownL s n ++ (if ownS s (n : Int) = true then [(n : Int)] else []) := by
 unfold ownL nI;rw [List.range_succ, List.filter_append, List.map_append];congr 1
 by_cases h : ownS s (n : Int) = true <;> simp [h]
theorem ownL_len (s : List Sig) (n : Nat) : (ownL s n).length ≤ n := by
 unfold ownL;rw [nI_len];have := List.length_filter_le (fun i => ownS s ((i : Nat) : Int)) (List.range n)
 rwa [List.length_range] at this
theorem ownS_nat (s : List Sig) {i : Nat} (h : i < s.length) : ownS s (i : Int) = !decide (s[i].kind = 1) := by
 unfold ownS;rw [if_neg (by omega), Int.toNat_natCast, sAt_nat h]
set_option maxHeartbeats 2000000 in
theorem outputs_spec (c : SG) (hl : c.sigs.length ≤ 1000000) : ASpec Tryz.prog 29 [sgA c] [] (Pure1 (.d (vI (ownL c.sigs c.sigs.length)))) := by
 have hS := ownL_succ c.sigs;have hLl := ownL_len c.sigs;refine ASpec.of Tryz.func29 rfl rfl fun C hC => ?_
 refine AC.seq (AC.region ?_);refine kD ?_;refine za ?_;refine AL.nil (th_n (AC.seq (AC.region ?_)));refine AL.q (by exact h_lit rfl rfl rfl rfl rfl rfl rfl rfl) rfl ?_;refine AL.p (by exact as2 rfl) rfl ?_;refine AL.nil (th_n (AC.seq (AC.seq (AC.region ?_))));refine zf ?_;refine zr ?_;refine kI c.sigs.length (List.length_map _) ?_;refine zm ?_;refine AL.nil (th_n (AC.block ?_));refine AC.loop (ι := Nat) (fun k => ⟨24, 300, [(1, .d (.ref (sgD c))), (3, .own 100 (ownL c.sigs k).length), (8, .d (vSigs c.sigs)), (9, aI c.sigs.length), (10, aI k)], [(100, some (.arr 3 1 (ints (ownL c.sigs k))))]⟩) (fun k => k ≤ c.sigs.length) (fun k => c.sigs.length - k) (0) ?_ (Nat.zero_le _) ?_
 ·exact zw [(100, _)] hC
 intro k hk;refine AC.seq (AC.region ?_);refine zc ?_;refine AL.nil (th_n (AC.seq ?_));refine AC.condD rfl (fun h0 => ?_) (fun h0 => ?_)
 ·refine AC.skip (th_n (AC.seq (AC.block (AC.seq ?_))));have hk1 : k < c.sigs.length := by omega
  have hget := sigsL_get hk1;have hSk := hS k;have hO := ownS_nat c.sigs hk1;rw [hO] at hSk;have hl2 := hLl k;obtain ⟨x, hx⟩ := eqx (c.sigs[k]);rw [← hx] at hget hSk;clear hx hO;refine AC.region ?_;refine zm ?_;refine AL.p (by exact g_ia_view rfl rfl rfl rfl rfl (by rfl) (by assumption)) rfl ?_;refine kG ?_;refine kE ?_;refine za ?_;refine zs ?_;refine AL.nil (th_n (AC.seq (AC.region ?_)));refine zF ?_;refine zl ?_;refine zc ?_;refine AL.nil (th_n ?_);refine AC.condND rfl (fun h1 => ?_) (fun h1 => ?_)
  ·refine AC.region ?_;refine kB ?_;refine zm ?_;refine AL.q (by exact h_litF rfl rfl rfl rfl rfl rfl rfl rfl) rfl ?_;refine AL.q (by exact h_appendI (ownL c.sigs k) [(k : Int)] (.own rfl rfl (ints_len _).symm) (.view rfl) (by rw [List.length_append]; simp only [List.length_cons, List.length_nil]; omega) (by simp)) rfl ?_;refine AL.p (by exact as2 rfl) rfl ?_;refine AL.nil (ib_n (th_n (AC.region ?_)));refine zA ?_;refine zm ?_;refine AL.nil (th_n ?_)
   (have q := ‹¬ x.kind = 1›; rw [decide_eq_false q, Bool.not_false, if_pos rfl] at hSk; exact ⟨k + 1, by omega, by omega, zw [(100, _)] hC (by rw [hSk]; repeat (first | exact True.intro | refine And.intro ?_ ?_ | exact DLead.same | exact rfl | refine ⟨_, rfl, ?_⟩)) (by rw [hSk]; repeat (first | exact True.intro | refine And.intro ?_ ?_ | exact rfl | refine ⟨_, _, rfl, rfl, ?_⟩))⟩)
  refine AC.skip (ib_n (th_n (AC.region ?_)));refine zA ?_;refine zm ?_;refine AL.nil (th_n ?_)
  (have q := ‹x.kind = 1›; rw [decide_eq_true q, Bool.not_true, if_neg (by decide), List.append_nil] at hSk; exact ⟨k + 1, by omega, by omega, zw [(100, 100)] hC (by rw [hSk]; repeat (first | exact True.intro | refine And.intro ?_ ?_ | exact DLead.same | exact rfl | refine ⟨_, rfl, ?_⟩)) (by rw [hSk]; repeat (first | exact True.intro | refine And.intro ?_ ?_ | exact rfl | refine ⟨_, _, rfl, rfl, ?_⟩))⟩)
 refine AC.exit (th_e (th_e (ib_y (th_n (AC.seq ?_)))));have hkk : k = c.sigs.length := by omega
 rw [hkk];refine AC.weak (Weak.freeze (i := 3) rfl rfl (Nat.le_of_eq (ints_len _).symm) (List.take_of_length_le (Nat.le_of_eq (ints_len _)))) ?_;refine AC.region ?_;refine zm ?_;refine za ?_;refine AL.nil (th_n (AC.ret (bq_r ?_)));exact ret1 rfl rfl
theorem en_outputs : Enters Tryz.prog 29 := enters_of Tryz.func29 rfl rfl
set_option maxHeartbeats 2000000 in
theorem l6Owned_spec (c : SG) (hl : c.sigs.length ≤ 1000000) : ASpec Tryz.prog 88 [sgA c] [] (Pure1 (.d (vI (ownL c.sigs c.sigs.length)))) := by
 have hS := ownL_succ c.sigs;have hLl := ownL_len c.sigs;refine ASpec.of Tryz.func88 rfl rfl fun C hC => ?_
 refine AC.seq (AC.region ?_);refine kD ?_;refine za ?_;refine AL.nil (th_n (AC.seq (AC.region ?_)));refine za ?_;refine AL.nil (th_n (AC.seq (AC.seq (AC.region ?_))));refine zf ?_;refine zr ?_;refine kI c.sigs.length (List.length_map _) ?_;refine zm ?_;refine AL.nil (th_n (AC.block ?_));refine AC.loop (ι := Nat) (fun k => ⟨20, 300, [(1, .d (.ref (sgD c))), (3, .own 100 (ownL c.sigs k).length), (7, aI c.sigs.length), (8, aI k)], [(100, some (.arr 3 1 (ints (ownL c.sigs k))))]⟩) (fun k => k ≤ c.sigs.length) (fun k => c.sigs.length - k) (0) ?_ (Nat.zero_le _) ?_
 ·exact (Weak.nilOwn (i := 3) (e := 3) (sz := 1) rfl (by decide)).trans (zw [(100, _)] hC)
 intro k hk;refine AC.seq (AC.region ?_);refine zc ?_;refine AL.nil (th_n (AC.seq ?_));refine AC.condD rfl (fun h0 => ?_) (fun h0 => ?_)
 ·refine AC.skip (th_n (AC.seq (AC.block (AC.seq ?_))));have hk1 : k < c.sigs.length := by omega
  have hSk := hS k;have hO := l6Own_spec c (k : Int) (by omega);have hl2 := hLl k;obtain ⟨b, hb⟩ := eqx (ownS c.sigs (k : Int));rw [← hb] at hO hSk;clear hb;refine AC.region ?_;refine zm ?_;refine za ?_;refine AL.nil (th_n (AC.seq (AC.region ?_)));refine kG ?_;refine zm ?_;refine kV en_l6Own hO ?_;refine AL.nil (th_n ?_);refine AC.condB rfl (fun h1 => ?_) (fun h1 => ?_)
  ·refine AC.region ?_;refine kB ?_;refine zm ?_;refine AL.q (by exact h_litF rfl rfl rfl rfl rfl rfl rfl rfl) rfl ?_;refine AL.q (by exact h_appendI (ownL c.sigs k) [(k : Int)] (.own rfl rfl (ints_len _).symm) (.view rfl) (by rw [List.length_append]; simp only [List.length_cons, List.length_nil]; omega) (by simp)) rfl ?_;refine AL.p (by exact as2 rfl) rfl ?_;refine AL.nil (ib_n (th_n (AC.region ?_)));refine zA ?_;refine zm ?_;refine AL.nil (th_n ?_)
   (have q := ‹b = true›; rw [if_pos q] at hSk; exact ⟨k + 1, by omega, by omega, zw [(100, _)] hC (by rw [hSk]; repeat (first | exact True.intro | refine And.intro ?_ ?_ | exact DLead.same | exact rfl | refine ⟨_, rfl, ?_⟩)) (by rw [hSk]; repeat (first | exact True.intro | refine And.intro ?_ ?_ | exact rfl | refine ⟨_, _, rfl, rfl, ?_⟩))⟩)
  refine AC.skip (ib_n (th_n (AC.region ?_)));refine zA ?_;refine zm ?_;refine AL.nil (th_n ?_)
  (have q := ‹b = false›; rw [q, if_neg (by decide), List.append_nil] at hSk; exact ⟨k + 1, by omega, by omega, zw [(100, 100)] hC (by rw [hSk]; repeat (first | exact True.intro | refine And.intro ?_ ?_ | exact DLead.same | exact rfl | refine ⟨_, rfl, ?_⟩)) (by rw [hSk]; repeat (first | exact True.intro | refine And.intro ?_ ?_ | exact rfl | refine ⟨_, _, rfl, rfl, ?_⟩))⟩)
 refine AC.exit (th_e (th_e (ib_y (th_n (AC.seq ?_)))));have hkk : k = c.sigs.length := by omega
 rw [hkk];refine AC.weak (Weak.freeze (i := 3) rfl rfl (Nat.le_of_eq (ints_len _).symm) (List.take_of_length_le (Nat.le_of_eq (ints_len _)))) ?_;refine AC.region ?_;refine zm ?_;refine za ?_;refine AL.nil (th_n (AC.ret (bq_r ?_)));exact ret1 rfl rfl
theorem en_l6Owned : Enters Tryz.prog 88 := enters_of Tryz.func88 rfl rfl
theorem validC_at {c : SG} (h : validC c = true) : (1 ≤ c.codes.length ∧ c.codes.length ≤ 300) ∧ c.arcs.length ≤ 4000 ∧ (∀ a, a ∈ c.arcs → ArIn c.codes.length a) ∧ ∀ v, v < c.codes.length → 0 ≤ oa (distF (arcE c.arcs) c.codes.length 0) v := by
 unfold validC at h;simp only [Bool.and_eq_true, decide_eq_true_eq, List.all_eq_true] at h;obtain ⟨⟨⟨⟨⟨_, h2⟩, h3⟩, _⟩, h5⟩, h6⟩ := h;refine ⟨by omega, h3, fun a ha => arcG_in (h5 a ha), fun v hv => ?_⟩;unfold allU at h6;have := List.all_eq_true.1 h6 v (List.mem_range.2 hv);exact of_decide_eq_true this
inductive Chn (L : List Ar) : List Ar → Nat → Prop
 | nil : Chn L [] 0
 | snoc {p : List Ar} {f : Nat} {a : Ar} {v : Nat} : Chn L p f → a ∈ L → a.from_ = (f : Int) → a.to_ = (v : Int) → Chn L (p ++ [a]) v
def atP (p : List Ar) (j : Nat) : Int := match j with | 0 => 0 | j + 1 => (arAt p j).to_
theorem Chn.facts {L p : List Ar} {v : Nat} (h : Chn L p v) : (∀ j (hj : j < p.length), p[j] ∈ L ∧ p[j].from_ = atP p j) ∧ atP p p.length = (v : Int) := by
 induction h with
 | nil => exact ⟨fun j hj => by simp at hj, rfl⟩
 | snoc h ha hf ht ih =>
  rename_i p f a v;obtain ⟨h1, h2⟩ := ih
  have hat : ∀ j, j ≤ p.length → atP (p ++ [a]) j = atP p j := by
   intro j hj;cases j with
   | zero => rfl
   | succ j => show (arAt (p ++ [a]) j).to_ = (arAt p j).to_; rw [arAt_nat (by simp; omega), arAt_nat (by omega), List.getElem_append_left (by omega)]
  refine ⟨fun j hj => ?_, ?_⟩
  ·rw [List.length_append] at hj;simp only [List.length_cons, List.length_nil] at hj;rw [hat j (by omega)];rcases Nat.lt_or_ge j p.length with g | g
   ·have := h1 j g;rw [List.getElem_append_left g];exact ⟨this.1, this.2⟩
   obtain rfl : j = p.length := by omega
   rw [List.getElem_concat_length rfl, h2];exact ⟨ha, hf⟩
  rw [List.length_append];show (arAt (p ++ [a]) p.length).to_ = _;rw [arAt_nat (by simp), List.getElem_concat_length rfl, ht]
theorem validC_arc {c : SG} (h : validC c = true) {a : Ar} (ha : a ∈ c.arcs) : ((0 ≤ a.from_ ∧ a.from_ < c.codes.length) ∧ 0 ≤ a.to_ ∧ a.to_ < c.codes.length) ∧ labOk ⟨a.sig, a.up⟩ c.sigs.length = true ∧ fitS a (cAtS c a.from_.toNat) (cAtS c a.to_.toNat) = true := by
 obtain ⟨_, _, hin, _⟩ := validC_at h;unfold validC at h;simp only [Bool.and_eq_true, List.all_eq_true] at h;obtain ⟨⟨_, h5⟩, _⟩ := h;have := h5 a ha;unfold arcG at this;simp only [Bool.and_eq_true] at this;exact ⟨hin a ha, this.1.2, this.2⟩
structure SigOk (s : List Sig) : Prop where
 l : 1 ≤ s.length ∧ s.length ≤ 8
 n : ∀ x, x ∈ s → 1 ≤ x.name.length ∧ x.name.length ≤ 6
theorem SigOk.of {s : List Sig} (h : sigsB s = true) : SigOk s := by
 unfold sigsB at h;rw [Bool.and_eq_true] at h;have hl := inI_iff.1 h.2;refine ⟨by omega, fun x hx => ?_⟩;obtain ⟨j, hj, rfl⟩ := List.getElem_of_mem hx;have := allK_iff.1 h.1 j hj;unfold sigK at this;rw [sAt_nat hj, Bool.and_eq_true] at this;have h1 := this.1;unfold nameB at h1;rw [Bool.and_eq_true] at h1;have := inI_iff.1 h1.2;omega
theorem sig_names {c : SG} (h : validC c = true) : (1 ≤ c.sigs.length ∧ c.sigs.length ≤ 8) ∧ ∀ t, t ∈ c.sigs → t.name.length ≤ 1000 := by
 unfold validC at h;simp only [Bool.and_eq_true] at h;have hs := SigOk.of h.1.1.1.1.1;exact ⟨hs.l, fun t ht => by have := hs.n t ht; omega⟩
theorem arc_sig {c : SG} (h : validC c = true) {a : Ar} (ha : a ∈ c.arcs) : a.sig < c.sigs.length ∧ a.sig < 8 ∧ -1 ≤ a.sig := by
 have := (validC_arc h ha).2.1;have h8 := (sig_names h).1;unfold labOk at this;simp only [Bool.or_eq_true, Bool.and_eq_true, decide_eq_true_eq] at this;omega
end Go.Proofs.YtjodfopifgiipaaGreat
