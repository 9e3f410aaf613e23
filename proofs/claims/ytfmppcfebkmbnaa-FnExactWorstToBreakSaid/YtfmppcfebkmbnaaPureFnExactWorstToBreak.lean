/- The pure statement of FnExactWorstToBreak: the printed function returns true for all arguments within their kinds; no other condition. -/
import Derived.Test.YtfmppcfebkmbnaaPFnExactWorstToBreakx
namespace Go.Proofs.Ytfmppcfebkmbnaa.Pure
open Go.RowKit Go.Proofs.Ytfmppcfebkmbnaa.PFnExactWorstToBreak Go.Proofs.YtfmppcfebkmbnaaW.PrintWords Go.Proofs.YtfmppcfebkmbnaaW.PrintLast Go.Proofs.YtfmppcfebkmbnaaW.PrintMore
set_option linter.unusedVariables false
set_option linter.unusedSimpArgs false
theorem in_val (a b c : Int) : spec_l1In.f a b c = some (decide (b ≤ a ∧ a ≤ c)) := by
  unfold spec_l1In.f
  by_cases h : b ≤ a <;> simp [h]
theorem within_val (a b c : Int) : impl_within.f a b c = some (decide (b ≤ a ∧ a ≤ c)) := by
  unfold impl_within.f
  by_cases h : b ≤ a <;> simp [h]

theorem wsucc (i : Nat) (h : i < 4611686018427387904) : wrap64 ((i : Int) + 1) = ((i + 1 : Nat) : Int) := by
  unfold wrap64
  omega
theorem kpred {d k : Nat} (h : d < k) : ∃ m, k = m + 1 := ⟨k - 1, by omega⟩
theorem rd_nat (l : List Int) (i : Nat) : rd l (i : Int) = l.getD i 0 := by simp [rd]
theorem take_set_succ (x : List Int) (i : Nat) (v : Int) (h : i < x.length) : (x.set i v).take (i + 1) = x.take i ++ [v] := by
  rw [List.take_add_one, List.take_set_of_le (Nat.le_refl i), List.getElem?_set_self h]
  rfl
theorem take_get_succ (x : List Int) (i : Nat) (h : i < x.length) : x.take (i + 1) = x.take i ++ [x.getD i 0] := by
  rw [List.take_add_one, List.getElem?_eq_getElem h, List.getD_eq_getElem?_getD, List.getElem?_eq_getElem h]
  rfl
theorem w_id {x : Int} (h0 : -4611686018427387904 ≤ x) (h1 : x ≤ 4611686018427387904) : wrap64 x = x := by
  unfold wrap64
  omega
theorem w_sub (k r : Nat) (h : r ≤ k) (hk : k ≤ 1000000000) : wrap64 ((k : Int) - (r : Int)) = ((k - r : Nat) : Int) := by
  rw [w_id (by omega) (by omega)]
  omega
theorem w_add (a b : Nat) (h : a ≤ 1000000000) (hb : b ≤ 1000000000) : wrap64 ((a : Int) + (b : Int)) = ((a + b : Nat) : Int) := by
  rw [w_id (by omega) (by omega)]
  omega
theorem w_pred (k : Nat) (h : 1 ≤ k) (hk : k ≤ 1000000000) : wrap64 ((k : Int) - 1) = ((k - 1 : Nat) : Int) := by
  rw [w_id (by omega) (by omega)]
  omega

theorem Ev.ite_true {α : Type} {g f : Nat → Option α} {r : α} {b : Bool} (h : b = true) (k : Ev g r) : Ev (fun n => if b = true then g n else f n) r := by
  subst h
  simpa using k
theorem Ev.ite_false {α : Type} {g f : Nat → Option α} {r : α} {b : Bool} (h : b = false) (k : Ev f r) : Ev (fun n => if b = true then g n else f n) r := by
  subst h
  simpa using k

theorem toIntS_l (l : List Int) (hB : l.length ≤ 1048576) : ∀ (d k i : Nat) (x : List Int), l.length - i = d → d < k → i ≤ l.length → x.length = l.length → x.take i = l.take i →
    laws_toIntS.l0 k l x (i : Int) = some l := by
  intro d
  induction d with
  | zero =>
    intro k i x hd hk hi hx ht
    obtain ⟨k, rfl⟩ := kpred hk
    have e : i = l.length := by omega
    simp only [laws_toIntS.l0]
    rw [if_neg (by omega)]
    have h1 := ht
    rw [e, List.take_length, ← hx, List.take_length] at h1
    rw [h1]
  | succ d ih =>
    intro k i x hd hk hi hx ht
    obtain ⟨k, rfl⟩ := kpred hk
    simp only [laws_toIntS.l0]
    rw [if_pos (by omega), if_pos (by omega), if_pos (by omega), wsucc i (by omega), Int.toNat_natCast, rd_nat]
    refine ih k (i + 1) _ (by omega) (by omega) (by omega) (by simpa using hx) ?_
    rw [take_set_succ _ _ _ (by omega), take_get_succ _ _ (by omega), ht]
theorem toIntS_val (l : List Int) (hB : l.length ≤ 1048576) (k : Nat) (hk : l.length < k) : laws_toIntS.f k l = some l := by
  unfold laws_toIntS.f
  rw [if_pos (by omega), if_pos (by rw [Int.toNat_natCast]; omega)]
  exact toIntS_l l hB l.length k 0 _ (by omega) hk (by omega) (by simp) (by simp)

theorem toIntS_ev (l : List Int) (hB : l.length ≤ 1048576) : Ev (fun k => laws_toIntS.f k l) l := ⟨l.length + 1, fun k hk => toIntS_val l hB k (by omega)⟩

theorem eqIntS_l (l : List Int) (hB : l.length ≤ 1048576) : ∀ (d k i : Nat), l.length - i = d → d < k → i ≤ l.length → laws_eqIntS.l0 k l l (i : Int) = some true := by
  intro d
  induction d with
  | zero =>
    intro k i hd hk hi
    obtain ⟨k, rfl⟩ := kpred hk
    simp only [laws_eqIntS.l0]
    rw [if_neg (by omega)]
  | succ d ih =>
    intro k i hd hk hi
    obtain ⟨k, rfl⟩ := kpred hk
    simp only [laws_eqIntS.l0]
    rw [if_pos (by omega), if_pos (by omega), if_pos (by omega), if_pos trivial, wsucc i (by omega)]
    exact ih k (i + 1) (by omega) (by omega) (by omega)
theorem eqIntS_val (l : List Int) (hB : l.length ≤ 1048576) (k : Nat) (hk : l.length < k) : laws_eqIntS.f k l l = some true := by
  unfold laws_eqIntS.f
  rw [if_pos rfl]
  exact eqIntS_l l hB l.length k 0 (by omega) hk (by omega)

theorem eqIntS_ev (l : List Int) (hB : l.length ≤ 1048576) : Ev (fun k => laws_eqIntS.f k l l) true := ⟨l.length + 1, fun k hk => eqIntS_val l hB k (by omega)⟩

/-- Numbers increase, and are from lo to hi; p: the one before. -/
def riseV (lo hi : Int) : Option Int → List Int → Bool
  | _, [] => true
  | p, x :: xs => decide (lo ≤ x ∧ x ≤ hi) && (match p with | none => true | some q => decide (q < x)) && riseV lo hi (some x) xs
theorem drop_cons' (l : List Int) (i : Nat) (h : i < l.length) : l.drop i = l.getD i 0 :: l.drop (i + 1) := by
  rw [List.drop_eq_getElem_cons h, List.getD_eq_getElem?_getD, List.getElem?_eq_getElem h]
  rfl
def before (l : List Int) (i : Nat) : Option Int := if i = 0 then none else some (l.getD (i - 1) 0)
theorem rising_l (l : List Int) (hl : l.length ≤ 1048576) (lo hh : Int) : ∀ (d i : Nat), l.length - i = d → i ≤ l.length →
    Ev (fun k => spec_l1Rising.l0 k l lo hh l (l.length : Int) (i : Int)) (riseV lo hh (before l i) (l.drop i)) ∧ Ev (fun k => impl_rise.l0 k l lo hh l (l.length : Int) (i : Int)) (riseV lo hh (before l i) (l.drop i)) := by
  intro d
  induction d with
  | zero =>
    intro i hd hi
    rw [List.drop_eq_nil_of_le (by omega)]
    refine ⟨Ev.step (fun k => ?_) (Ev.now _), Ev.step (fun k => ?_) (Ev.now _)⟩
    · simp only [spec_l1Rising.l0]
      rw [if_neg (by omega)]
      rfl
    · simp only [impl_rise.l0]
      rw [if_neg (by omega)]
      rfl
  | succ d ih =>
    intro i hd hi
    obtain ⟨ih1, ih2⟩ := ih (i + 1) (by omega) (by omega)
    have hb : before l (i + 1) = some (l.getD i 0) := by simp [before]
    rw [hb, ← wsucc i (by omega)] at ih1 ih2
    rw [drop_cons' l i (by omega)]
    simp only [riseV]
    by_cases h1 : lo ≤ l.getD i 0 ∧ l.getD i 0 ≤ hh
    · rw [decide_eq_true h1]
      by_cases h0 : i = 0
      · have hbi : before l i = none := by simp [before, h0]
        rw [hbi]
        refine ⟨Ev.step (fun k => ?_) ih1, Ev.step (fun k => ?_) ih2⟩
        · simp only [spec_l1Rising.l0]
          rw [if_pos (by omega), if_pos (by omega), if_pos (by omega), rd_nat, in_val]
          simp only [Option.bind_some]
          rw [decide_eq_true h1, if_pos rfl, if_neg (by omega)]
        · simp only [impl_rise.l0]
          rw [if_pos (by omega), if_pos (by omega), if_pos (by omega), rd_nat, within_val]
          simp only [Option.bind_some]
          rw [decide_eq_true h1, if_pos rfl, if_neg (by omega)]
      · have hbi : before l i = some (l.getD (i - 1) 0) := by simp [before, h0]
        have hw : wrap64 ((i : Int) - 1) = ((i - 1 : Nat) : Int) := by
          unfold wrap64
          omega
        rw [hbi]
        by_cases h2 : l.getD (i - 1) 0 < l.getD i 0
        · simp only [decide_eq_true h2]
          refine ⟨Ev.step (fun k => ?_) ih1, Ev.step (fun k => ?_) ih2⟩
          · simp only [spec_l1Rising.l0]
            rw [if_pos (by omega), if_pos (by omega), if_pos (by omega), rd_nat, in_val]
            simp only [Option.bind_some]
            rw [decide_eq_true h1, if_pos rfl, if_pos (by omega), hw, if_pos (by omega), if_pos (by omega), rd_nat, if_neg (by omega)]
          · simp only [impl_rise.l0]
            rw [if_pos (by omega), if_pos (by omega), if_pos (by omega), rd_nat, within_val]
            simp only [Option.bind_some]
            rw [decide_eq_true h1, if_pos rfl, if_pos (by omega), hw, if_pos (by omega), if_pos (by omega), rd_nat, if_neg (by omega)]
        · simp only [decide_eq_false h2]
          refine ⟨Ev.step (fun k => ?_) (Ev.now _), Ev.step (fun k => ?_) (Ev.now _)⟩
          · simp only [spec_l1Rising.l0]
            rw [if_pos (by omega), if_pos (by omega), if_pos (by omega), rd_nat, in_val]
            simp only [Option.bind_some]
            rw [decide_eq_true h1, if_pos rfl, if_pos (by omega), hw, if_pos (by omega), if_pos (by omega), rd_nat, if_pos (by omega)]
            rfl
          · simp only [impl_rise.l0]
            rw [if_pos (by omega), if_pos (by omega), if_pos (by omega), rd_nat, within_val]
            simp only [Option.bind_some]
            rw [decide_eq_true h1, if_pos rfl, if_pos (by omega), hw, if_pos (by omega), if_pos (by omega), rd_nat, if_pos (by omega)]
            rfl
    · rw [decide_eq_false h1]
      refine ⟨Ev.step (fun k => ?_) (Ev.now _), Ev.step (fun k => ?_) (Ev.now _)⟩
      · simp only [spec_l1Rising.l0]
        rw [if_pos (by omega), if_pos (by omega), if_pos (by omega), rd_nat, in_val]
        simp only [Option.bind_some]
        rw [decide_eq_false h1, if_neg (by simp)]
        rfl
      · simp only [impl_rise.l0]
        rw [if_pos (by omega), if_pos (by omega), if_pos (by omega), rd_nat, within_val]
        simp only [Option.bind_some]
        rw [decide_eq_false h1, if_neg (by simp)]
        rfl
theorem rising_ev (l : List Int) (hl : l.length ≤ 1048576) (lo hi : Int) : Ev (fun k => spec_l1Rising.f k l lo hi) (riseV lo hi none l) ∧ Ev (fun k => impl_rise.f k l lo hi) (riseV lo hi none l) := by
  have h := rising_l l hl lo hi _ 0 rfl (by omega)
  simp only [before, List.drop_zero, if_true] at h
  exact h
/-- The numbers are stairs. -/
def goodS (s : Int) (a b : List Int) : Bool := decide (1 ≤ s ∧ s ≤ 60) && (decide (1 ≤ (a.length : Int) ∧ (a.length : Int) ≤ 5) && (riseV 1 9 none a && riseV 1 (s - 1) none b))
theorem clGood_ev (s : Int) (a b : List Int) (ha : a.length ≤ 1048576) (hb : b.length ≤ 1048576) : Ev (fun k => spec_clGood.f k s a b) (goodS s a b) := by
  unfold spec_clGood.f goodS
  simp only [in_val, Option.bind_some]
  by_cases h1 : 1 ≤ s ∧ s ≤ 60
  · have hw : wrap64 (s - 1) = s - 1 := by
      unfold wrap64
      omega
    simp only [decide_eq_true h1, Bool.true_and, hw, if_true]
    by_cases h2 : 1 ≤ (a.length : Int) ∧ (a.length : Int) ≤ 5
    · simp only [decide_eq_true h2, Bool.true_and, if_true]
      refine Ev.bind (rising_ev a ha 1 9).1 ?_
      cases h3 : riseV 1 9 none a
      · simp only [Bool.false_and]
        exact Ev.congr (fun k => if_neg (by simp)) (Ev.now _)
      · simp only [Bool.true_and, if_true]
        exact Ev.bind (rising_ev b hb 1 (s - 1)).1 (Ev.now _)
    · simp only [decide_eq_false h2, Bool.false_and]
      exact Ev.congr (fun k => if_neg (by simp)) (Ev.now _)
  · simp only [decide_eq_false h1, Bool.false_and]
    exact Ev.congr (fun k => if_neg (by simp)) (Ev.now _)
theorem areStairs_ev (s : Int) (a b : List Int) (ha : a.length ≤ 1048576) (hb : b.length ≤ 1048576) : Ev (fun k => impl_AreStairs.f k s a b) (goodS s a b) := by
  unfold impl_AreStairs.f goodS
  simp only [within_val, Option.bind_some]
  by_cases h1 : 1 ≤ s ∧ s ≤ 60
  · have hw : wrap64 (s - 1) = s - 1 := by
      unfold wrap64
      omega
    simp only [decide_eq_true h1, Bool.true_and, hw, if_true]
    by_cases h2 : 1 ≤ (a.length : Int) ∧ (a.length : Int) ≤ 5
    · simp only [decide_eq_true h2, Bool.true_and, if_true]
      refine Ev.bind (rising_ev a ha 1 9).2 ?_
      cases h3 : riseV 1 9 none a
      · simp only [Bool.false_and]
        exact Ev.congr (fun k => if_neg (by simp)) (Ev.now _)
      · simp only [Bool.true_and, if_true]
        exact Ev.bind (rising_ev b hb 1 (s - 1)).2 (Ev.now _)
    · simp only [decide_eq_false h2, Bool.false_and]
      exact Ev.congr (fun k => if_neg (by simp)) (Ev.now _)
  · simp only [decide_eq_false h1, Bool.false_and]
    exact Ev.congr (fun k => if_neg (by simp)) (Ev.now _)
theorem szIntS_val (l : List Int) (n : Int) : laws_szIntS.f l n = some (if wrap64 (n - (l.length : Int)) < 0 then -1 else wrap64 (n - (l.length : Int))) := by
  unfold laws_szIntS.f
  split <;> rfl
theorem szStairs_yes (s : Int) (a b : List Int) (h : a.length + b.length ≤ 1048576) : laws_szStairs.f s a b 1048576 = some (1048576 - (a.length : Int) - (b.length : Int)) := by
  have w1 : wrap64 (1048576 - (a.length : Int)) = 1048576 - (a.length : Int) := by
    unfold wrap64
    omega
  have w2 : wrap64 (1048576 - (a.length : Int) - (b.length : Int)) = 1048576 - (a.length : Int) - (b.length : Int) := by
    unfold wrap64
    omega
  unfold laws_szStairs.f
  rw [szIntS_val, w1, if_neg (by omega)]
  simp only [Option.bind_some]
  rw [if_neg (by omega), szIntS_val, w2, if_neg (by omega)]
  simp only [Option.bind_some]
  rw [if_neg (by omega)]

theorem szStairs_no (s : Int) (a b : List Int) (ha : a.length ≤ maxLen) (hb : b.length ≤ maxLen) (h : ¬ a.length + b.length ≤ 1048576) : laws_szStairs.f s a b 1048576 = some (-1) := by
  unfold maxLen at ha hb
  unfold laws_szStairs.f
  rw [szIntS_val]
  simp only [Option.bind_some]
  have w1 : wrap64 (1048576 - (a.length : Int)) = 1048576 - (a.length : Int) := by
    unfold wrap64
    omega
  rw [w1]
  by_cases h1 : 1048576 - (a.length : Int) < 0
  · rw [if_pos h1, if_pos (by omega)]
  · rw [if_neg h1, if_neg h1, szIntS_val]
    have w2 : wrap64 (1048576 - (a.length : Int) - (b.length : Int)) = 1048576 - (a.length : Int) - (b.length : Int) := by
      unfold wrap64
      omega
    simp only [Option.bind_some]
    rw [w2, if_pos (by omega)]

theorem drop_info {α : Type} {d : α} {l : List α} {i : Nat} {x : α} {xs : List α} (h : l.drop i = x :: xs) : i < l.length ∧ l.getD i d = x ∧ l.drop (i + 1) = xs := by
  have hl : l.length - i = xs.length + 1 := by
    have := congrArg List.length h
    rwa [List.length_drop, List.length_cons] at this
  have hi : i < l.length := by omega
  rw [List.drop_eq_getElem_cons hi] at h
  refine ⟨hi, ?_, (List.cons.inj h).2⟩
  rw [List.getD_eq_getElem?_getD, List.getElem?_eq_getElem hi]
  exact (List.cons.inj h).1
theorem drop_nil' {α : Type} {l : List α} {i : Nat} (h : l.drop i = []) : l.length ≤ i := by
  have := congrArg List.length h
  rw [List.length_drop, List.length_nil] at this
  omega
theorem has_l (l : List Int) (hl : l.length ≤ 1048576) (a : Int) : ∀ (ks : List Int) (i : Nat), l.drop i = ks → Ev (fun k => spec_l1Has.l0 k a l (l.length : Int) (i : Int)) (decide (a ∈ ks)) ∧
    ∃ r, Ev (fun k => slices_Index_int_int.l0 k l a (l.length : Int) (i : Int)) r ∧ (decide (r ≥ 0)) = decide (a ∈ ks) := by
  intro ks
  induction ks with
  | nil =>
    intro i hd
    have := drop_nil' hd
    refine ⟨Ev.step (fun k => ?_) (Ev.now _), -1, Ev.step (fun k => ?_) (Ev.now _), by simp⟩
    · simp only [spec_l1Has.l0]
      rw [if_neg (by omega)]
      simp
    · simp only [slices_Index_int_int.l0]
      rw [if_neg (by omega)]
  | cons x ks ih =>
    intro i hd
    obtain ⟨hi, hx, hd'⟩ := drop_info (d := 0) hd
    obtain ⟨h1, r, h2, h3⟩ := ih (i + 1) hd'
    rw [← wsucc i (by omega)] at h1 h2
    by_cases ha : x = a
    · refine ⟨Ev.step (fun k => ?_) (Ev.now _), (i : Int), Ev.step (fun k => ?_) (Ev.now _), ?_⟩
      · simp only [spec_l1Has.l0]
        rw [if_pos (by omega), if_pos (by omega), if_pos (by omega), rd_nat, hx, if_pos ha]
        simp [ha]
      · simp only [slices_Index_int_int.l0]
        rw [if_pos (by omega), if_pos (by omega), if_pos (by omega), rd_nat, hx, if_pos ha.symm]
      · rw [decide_eq_true (by omega : (i : Int) ≥ 0), decide_eq_true (by simp [ha])]
    · have he : (decide (a ∈ x :: ks)) = decide (a ∈ ks) := by
        have : ¬ a = x := fun h => ha h.symm
        simp [this]
      rw [he]
      refine ⟨Ev.step (fun k => ?_) h1, r, Ev.step (fun k => ?_) h2, h3⟩
      · simp only [spec_l1Has.l0]
        rw [if_pos (by omega), if_pos (by omega), if_pos (by omega), rd_nat, hx, if_neg ha]
      · simp only [slices_Index_int_int.l0]
        rw [if_pos (by omega), if_pos (by omega), if_pos (by omega), rd_nat, hx, if_neg (fun h => ha h.symm)]
theorem has_ev (l : List Int) (hl : l.length ≤ 1048576) (a : Int) : Ev (fun k => spec_l1Has.f k l a) (decide (a ∈ l)) := (has_l l hl a l 0 rfl).1
theorem contains_ev (l : List Int) (hl : l.length ≤ 1048576) (a : Int) : Ev (fun k => slices_Contains_int_int.f k l a) (decide (a ∈ l)) := by
  obtain ⟨r, h2, h3⟩ := (has_l l hl a l 0 rfl).2
  exact Ev.bind (f := fun k t => some (decide (t ≥ 0))) h2 (h3 ▸ Ev.now _)
theorem stands_ev (s : Int) (S B : List Int) (hB : B.length ≤ 1048576) (a : Int) : Ev (fun k => spec_clStands.f k s S B a) (decide (0 ≤ a ∧ a ≤ s) && !decide (a ∈ B)) := by
  unfold spec_clStands.f
  simp only [in_val, Option.bind_some]
  by_cases h : 0 ≤ a ∧ a ≤ s
  · simp only [decide_eq_true h, if_true, Bool.true_and]
    exact Ev.bind (has_ev B hB a) (Ev.now _)
  · simp only [decide_eq_false h, Bool.false_and]
    exact Ev.congr (fun k => if_neg (by simp)) (Ev.now _)
theorem broken_ev (s : Int) (S B : List Int) (hB : B.length ≤ 1048576) (a : Int) : Ev (fun k => impl_Stairs_isBroken.f k s S B a) (decide (a ∈ B)) := by
  unfold impl_Stairs_isBroken.f
  exact Ev.bind (contains_ev B hB a) (Ev.now _)

theorem rise_mem {lo hi : Int} : ∀ {p : Option Int} {l : List Int}, riseV lo hi p l = true → ∀ x ∈ l, lo ≤ x ∧ x ≤ hi := by
  intro p l
  induction l generalizing p with
  | nil => intro _ x hx; simp at hx
  | cons y l ih =>
    intro h x hx
    simp only [riseV, Bool.and_eq_true, decide_eq_true_eq] at h
    rcases List.mem_cons.mp hx with rfl | hx
    · exact h.1.1
    · exact ih h.2 x hx
theorem goodS_bd {s : Int} {S B : List Int} (h : goodS s S B = true) : 1 ≤ s ∧ s ≤ 60 ∧ 1 ≤ S.length ∧ S.length ≤ 5 ∧ (∀ x ∈ S, 1 ≤ x ∧ x ≤ 9) ∧ (∀ x ∈ B, 1 ≤ x ∧ x ≤ s - 1) ∧ riseV 1 9 none S = true := by
  simp only [goodS, Bool.and_eq_true, decide_eq_true_eq] at h
  obtain ⟨⟨h1, h2⟩, ⟨h3, h4⟩, h5, h6⟩ := h
  exact ⟨h1, h2, by omega, by omega, rise_mem h5, rise_mem h6, h5⟩

def ci (T : List Nat) : List Int := T.map (fun x : Nat => (x : Int))
theorem ci_len (T : List Nat) : (ci T).length = T.length := by simp [ci]
theorem ci_get (T : List Nat) (i : Nat) : (ci T).getD i 0 = ((T.getD i 0 : Nat) : Int) := by
  simp only [ci, List.getD_eq_getElem?_getD, List.getElem?_map]
  cases T[i]? <;> simp
def incN : Nat → List Nat → Prop
  | _, [] => True
  | p, x :: xs => p < x ∧ incN x xs
/-- The sum over the strides that end at n at the latest. -/
def gs (f : Nat → Int) (n j : Nat) : List Nat → Int
  | [] => 0
  | s :: ss => (if j + s ≤ n then f (j + s) else 0) + gs f n j ss
theorem gs_congr {f f' : Nat → Int} {n j : Nat} : ∀ {T : List Nat}, (∀ t ∈ T, 1 ≤ t) → (∀ i, j < i → i ≤ n → f i = f' i) → gs f n j T = gs f' n j T := by
  intro T
  induction T with
  | nil => intro _ _; rfl
  | cons s T ih =>
    intro h1 h2
    simp only [gs]
    rw [ih (fun t ht => h1 t (List.mem_cons_of_mem _ ht)) h2]
    have := h1 s (List.mem_cons_self ..)
    by_cases hs : j + s ≤ n
    · rw [if_pos hs, if_pos hs, h2 (j + s) (by omega) hs]
    · rw [if_neg hs, if_neg hs]
theorem gs_nonneg {f : Nat → Int} {n j : Nat} (hf : ∀ i, j < i → i ≤ n → 0 ≤ f i) : ∀ (T : List Nat), (∀ t ∈ T, 1 ≤ t) → 0 ≤ gs f n j T := by
  intro T
  induction T with
  | nil => intro _; exact Int.le_refl _
  | cons s T ih =>
    intro h
    have h1 := ih (fun t ht => h t (List.mem_cons_of_mem _ ht))
    have h2 := h s (List.mem_cons_self ..)
    simp only [gs]
    by_cases hs : j + s ≤ n
    · have := hf (j + s) (by omega) hs
      rw [if_pos hs]
      omega
    · rw [if_neg hs]
      omega
theorem gs_mem {f : Nat → Int} {n j : Nat} (hf : ∀ i, j < i → i ≤ n → 0 ≤ f i) {T : List Nat} (hT : ∀ t ∈ T, 1 ≤ t) {s : Nat} (hs : s ∈ T) (hn : j + s ≤ n) : f (j + s) ≤ gs f n j T := by
  induction T with
  | nil => simp at hs
  | cons t T ih =>
    have h1 := gs_nonneg hf T (fun x hx => hT x (List.mem_cons_of_mem _ hx))
    simp only [gs]
    rcases List.mem_cons.mp hs with h | h
    · subst h
      rw [if_pos hn]
      omega
    · have h2 := ih (fun x hx => hT x (List.mem_cons_of_mem _ hx)) h
      have h3 := hT t (List.mem_cons_self ..)
      by_cases ht : j + t ≤ n
      · have := hf (j + t) (by omega) ht
        rw [if_pos ht]
        omega
      · rw [if_neg ht]
        omega
theorem gs_pos {f : Nat → Int} {n j : Nat} (hf : ∀ i, j < i → i ≤ n → 0 ≤ f i) : ∀ {T : List Nat}, (∀ t ∈ T, 1 ≤ t) → (0 < gs f n j T ↔ ∃ s ∈ T, j + s ≤ n ∧ 0 < f (j + s)) := by
  intro T
  induction T with
  | nil => intro _; simp [gs]
  | cons t T ih =>
    intro hT
    have hT' : ∀ t ∈ T, 1 ≤ t := fun x hx => hT x (List.mem_cons_of_mem _ hx)
    have h1 := gs_nonneg hf T hT'
    have h2 := hT t (List.mem_cons_self ..)
    have h3 := ih hT'
    simp only [gs]
    constructor
    · intro h
      by_cases ht : j + t ≤ n
      · rw [if_pos ht] at h
        by_cases h4 : 0 < f (j + t)
        · exact ⟨t, List.mem_cons_self .., ht, h4⟩
        · have := hf (j + t) (by omega) ht
          obtain ⟨s, a, b⟩ := h3.1 (by omega)
          exact ⟨s, List.mem_cons_of_mem _ a, b⟩
      · rw [if_neg ht] at h
        obtain ⟨s, a, b⟩ := h3.1 (by omega)
        exact ⟨s, List.mem_cons_of_mem _ a, b⟩
    · rintro ⟨s, a, b, c⟩
      rcases List.mem_cons.mp a with e | a
      · subst e
        rw [if_pos b]
        omega
      · have := h3.2 ⟨s, a, b, c⟩
        by_cases ht : j + t ≤ n
        · have := hf (j + t) (by omega) ht
          rw [if_pos ht]
          omega
        · rw [if_neg ht]
          omega
def p2 : Nat → Int
  | 0 => 1
  | d + 1 => 2 * p2 d
theorem p2_pos : ∀ d, 1 ≤ p2 d
  | 0 => by simp [p2]
  | d + 1 => by have := p2_pos d; simp only [p2]; omega
theorem p2_mono {a b : Nat} (h : a ≤ b) : p2 a ≤ p2 b := by
  obtain ⟨c, rfl⟩ := Nat.exists_eq_add_of_le h
  clear h
  induction c with
  | zero => exact Int.le_refl _
  | succ c ih =>
    have := p2_pos (a + c)
    show p2 a ≤ 2 * p2 (a + c)
    omega
theorem p2_60 {d : Nat} (h : d ≤ 60) : p2 d ≤ 1152921504606846976 := by
  have := p2_mono h
  have h2 : p2 60 = 1152921504606846976 := by decide +kernel
  omega
theorem gs_bd {f : Nat → Int} {n j : Nat} (hf : ∀ i, j < i → i ≤ n → 0 ≤ f i ∧ f i ≤ p2 (n - i)) : ∀ (T : List Nat) (p : Nat), incN p T → 0 ≤ gs f n j T ∧ gs f n j T ≤ p2 (n - j - p) := by
  intro T
  induction T with
  | nil =>
    intro p _
    have := p2_pos (n - j - p)
    simp only [gs]
    omega
  | cons s T ih =>
    intro p h
    obtain ⟨h1, h2⟩ := h
    obtain ⟨i1, i2⟩ := ih s h2
    simp only [gs]
    by_cases hs : j + s ≤ n
    · rw [if_pos hs]
      have hb := hf (j + s) (by omega) hs
      have e1 : n - (j + s) = n - j - s := by omega
      rw [e1] at hb
      have h3 : p2 (n - j - s + 1) ≤ p2 (n - j - p) := p2_mono (by omega)
      simp only [p2] at h3
      omega
    · rw [if_neg hs]
      have h3 : p2 (n - j - s) ≤ p2 (n - j - p) := p2_mono (by omega)
      omega
def dpv (n : Nat) (base : Int) (g : (Nat → Int) → Nat → Int) : Nat → Nat → Int
  | 0, _ => base
  | d + 1, j => if j + (d + 1) = n then g (dpv n base g d) j else dpv n base g d j
theorem dpv_stable (n : Nat) (base : Int) (g : (Nat → Int) → Nat → Int) (d j : Nat) (h : n ≤ j + d) : ∀ e, dpv n base g (d + e) j = dpv n base g d j := by
  intro e
  induction e with
  | zero => rfl
  | succ e ih =>
    show dpv n base g ((d + e) + 1) j = _
    rw [← ih]
    simp only [dpv]
    rw [if_neg (by omega)]
theorem dpv_top (n : Nat) (base : Int) (g : (Nat → Int) → Nat → Int) : dpv n base g n n = base := by
  have := dpv_stable n base g 0 n (by omega) n
  rw [Nat.zero_add] at this
  rw [this]
  rfl
theorem dpv_rec (n : Nat) (base : Int) (g : (Nat → Int) → Nat → Int) (hg : ∀ f f' j, (∀ i, j < i → i ≤ n → f i = f' i) → g f j = g f' j) (j : Nat) (hj : j < n) : dpv n base g n j = g (dpv n base g n) j := by
  have h1 := dpv_stable n base g (n - j) j (by omega) j
  have e1 : n - j + j = n := by omega
  rw [e1] at h1
  rw [h1]
  obtain ⟨d, hd⟩ : ∃ d, n - j = d + 1 := ⟨n - j - 1, by omega⟩
  rw [hd]
  simp only [dpv]
  rw [if_pos (by omega)]
  refine hg _ _ j (fun i h2 h3 => ?_)
  have h4 := dpv_stable n base g d i (by omega) (n - d)
  have e2 : d + (n - d) = n := by omega
  rw [e2] at h4
  exact h4.symm
/-- How many climbs there are from a step. -/
def V (n : Nat) (T : List Nat) (B : List Int) : Nat → Int := dpv n 1 (fun f j => if (j : Int) ∈ B then 0 else gs f n j T) n
theorem V_top (n : Nat) (T : List Nat) (B : List Int) : V n T B n = 1 := dpv_top ..
theorem V_rec (n : Nat) (T : List Nat) (B : List Int) (hT : ∀ t ∈ T, 1 ≤ t) (j : Nat) (hj : j < n) : V n T B j = if (j : Int) ∈ B then 0 else gs (V n T B) n j T := by
  refine dpv_rec n 1 _ (fun f f' j h => ?_) j hj
  show (if (j : Int) ∈ B then (0 : Int) else gs f n j T) = (if (j : Int) ∈ B then 0 else gs f' n j T)
  rw [gs_congr hT h]
theorem V_bd (n : Nat) (T : List Nat) (B : List Int) (hT : ∀ t ∈ T, 1 ≤ t) (hi : incN 0 T) : ∀ (d j : Nat), n - j ≤ d → j ≤ n → 0 ≤ V n T B j ∧ V n T B j ≤ p2 (n - j) := by
  intro d
  induction d with
  | zero =>
    intro j h1 h2
    obtain rfl : j = n := by omega
    rw [V_top, Nat.sub_self]
    simp [p2]
  | succ d ih =>
    intro j h1 h2
    by_cases hj : j = n
    · subst hj
      rw [V_top, Nat.sub_self]
      simp [p2]
    · rw [V_rec n T B hT j (by omega)]
      have := p2_pos (n - j)
      split
      · omega
      · exact gs_bd (fun i h3 h4 => ih i (by omega) h4) T 0 hi
/-- A row of n + 1 numbers that is filled from its end. -/
def arr (n : Nat) (f : Nat → Int) (m : Nat) : List Int := (List.range (n + 1)).map (fun j => if m ≤ j then f j else 0)
theorem arr_len (n : Nat) (f : Nat → Int) (m : Nat) : (arr n f m).length = n + 1 := by simp [arr]
theorem arr_get (n : Nat) (f : Nat → Int) (m j : Nat) (h : j ≤ n) : (arr n f m).getD j 0 = if m ≤ j then f j else 0 := by
  simp only [arr, List.getD_eq_getElem?_getD, List.getElem?_map, List.getElem?_range (show j < n + 1 by omega), Option.map_some, Option.getD_some]
theorem arr_ext {n : Nat} {f : Nat → Int} {m : Nat} {x : List Int} (hl : x.length = n + 1) (h : ∀ j, j ≤ n → x.getD j 0 = if m ≤ j then f j else 0) : x = arr n f m := by
  refine List.ext_getElem (by rw [hl, arr_len]) (fun j h1 h2 => ?_)
  have h3 := h j (by omega)
  rw [← arr_get n f m j (by omega), List.getD_eq_getElem?_getD, List.getD_eq_getElem?_getD, List.getElem?_eq_getElem h1, List.getElem?_eq_getElem h2] at h3
  exact h3
theorem getD_set (x : List Int) (i : Nat) (v : Int) (j : Nat) (hi : i < x.length) : (x.set i v).getD j 0 = if i = j then v else x.getD j 0 := by
  rw [List.getD_eq_getElem?_getD, List.getD_eq_getElem?_getD, List.getElem?_set]
  by_cases h : i = j
  · rw [if_pos h, if_pos h, if_pos hi]
    rfl
  · rw [if_neg h, if_neg h]
theorem arr_set (n : Nat) (f : Nat → Int) (m : Nat) (h : m ≤ n) : (arr n f (m + 1)).set m (f m) = arr n f m := by
  refine arr_ext (by rw [List.length_set, arr_len]) (fun j hj => ?_)
  rw [getD_set _ _ _ _ (by rw [arr_len]; omega), arr_get n f _ j hj]
  by_cases h1 : m = j
  · subst h1
    rw [if_pos rfl, if_pos (Nat.le_refl _)]
  · rw [if_neg h1]
    by_cases h2 : m ≤ j
    · rw [if_pos h2, if_pos (by omega)]
    · rw [if_neg h2, if_neg (by omega)]
theorem arr_put (n : Nat) (f : Nat → Int) (m : Nat) (v : Int) (h : m ≤ n) (hv : f m = v) : (arr n f (m + 1)).set m v = arr n f m := hv ▸ arr_set n f m h
theorem arr_zero (n : Nat) (f : Nat → Int) (m : Nat) (h : m ≤ n) : arr n f (m + 1) = (arr n f (m + 1)).set m 0 := by
  symm
  refine arr_ext (by rw [List.length_set, arr_len]) (fun j hj => ?_)
  rw [getD_set _ _ _ _ (by rw [arr_len]; omega), arr_get n f _ j hj]
  by_cases h1 : m = j
  · subst h1
    rw [if_pos rfl, if_neg (by omega)]
  · rw [if_neg h1]
theorem arr_top (n : Nat) (f : Nat → Int) (v : Int) (h : f n = v) : (List.replicate (n + 1) (0 : Int)).set n v = arr n f n := by
  refine arr_ext (by rw [List.length_set, List.length_replicate]) (fun j hj => ?_)
  rw [getD_set _ _ _ _ (by rw [List.length_replicate]; omega)]
  by_cases h1 : n = j
  · subst h1
    rw [if_pos rfl, if_pos (Nat.le_refl _), h]
  · rw [if_neg h1, if_neg (by omega), List.getD_eq_getElem?_getD, List.getElem?_replicate]
    split <;> rfl
theorem arr_rd0 (n : Nat) (f : Nat → Int) (j : Nat) (h : j ≤ n) : rd (arr n f 0) (j : Int) = f j := by
  rw [rd_nat, arr_get n f 0 j h, if_pos (by omega)]

theorem rise_inc : ∀ (S : List Int) (p : Option Int) (q : Nat), riseV 1 9 p S = true → (match p with | none => q = 0 | some z => z = (q : Int)) → incN q (S.map Int.toNat) := by
  intro S
  induction S with
  | nil => intro p q _ _; trivial
  | cons x S ih =>
    intro p q h hp
    simp only [riseV, Bool.and_eq_true, decide_eq_true_eq] at h
    obtain ⟨⟨h1, h2⟩, h3⟩ := h
    refine ⟨?_, ih (some x) x.toNat h3 (by simp only; omega)⟩
    cases p with
    | none => simp only at hp; omega
    | some z => simp only [decide_eq_true_eq] at hp h2; omega
theorem goodS_nat {s : Int} {S B : List Int} (h : goodS s S B = true) : ∃ (n : Nat) (T : List Nat), s = (n : Int) ∧ S = ci T ∧ 1 ≤ n ∧ n ≤ 60 ∧ T.length ≤ 5 ∧ (∀ t ∈ T, 1 ≤ t ∧ t ≤ 9) ∧ incN 0 T ∧ (∀ x ∈ B, 1 ≤ x ∧ x ≤ (n : Int) - 1) := by
  obtain ⟨h1, h2, h3, h4, h5, h6, h7⟩ := goodS_bd h
  refine ⟨s.toNat, S.map Int.toNat, by omega, ?_, by omega, by omega, by simpa using h4, ?_, rise_inc S none 0 h7 rfl, ?_⟩
  · simp only [ci, List.map_map]
    conv => lhs; rw [← List.map_id S]
    refine List.map_congr_left (fun x hx => ?_)
    have := h5 x hx
    simp only [id, Function.comp]
    omega
  · intro t ht
    obtain ⟨x, hx, rfl⟩ := List.mem_map.mp ht
    have := h5 x hx
    omega
  · intro x hx
    have := h6 x hx
    omega

theorem up_l1 (n : Nat) (T : List Nat) (B : List Int) (f : Nat → Int) (hn : n ≤ 60) (hB : B.length ≤ 1048576) (hT : ∀ t ∈ T, 1 ≤ t ∧ t ≤ 9) (hTl : T.length ≤ 5) (m : Nat) (hm : m < n) (hf : ∀ i, m < i → i ≤ n → 0 ≤ f i) (r : List Int) :
    ∀ (ss : List Nat) (i : Nat) (acc : Int), T.drop i = ss → 0 ≤ acc → acc + gs f n m ss ≤ 1152921504606846976 →
    Ev (fun k => impl_Stairs_up.l0 k ((arr n f (m + 1)).set m (if (m : Int) ∈ B then acc else acc + gs f n m ss)) (wrap64 ((m : Int) - 1)) (n : Int) (ci T) B) r →
    Ev (fun k => impl_Stairs_up.l1 k ((arr n f (m + 1)).set m acc) (m : Int) (ci T) ((ci T).length : Int) (i : Int) (n : Int) (ci T) B) r := by
  intro ss
  induction ss with
  | nil =>
    intro i acc hd h0 h1 h
    have := drop_nil' hd
    refine Ev.step (fun k => ?_) h
    simp only [impl_Stairs_up.l1]
    rw [if_neg (by rw [ci_len]; omega)]
    simp only [gs, Int.add_zero, ite_self]
  | cons s ss ih =>
    intro i acc hd h0 h1 h
    obtain ⟨hi, hx, hd'⟩ := drop_info (d := 0) hd
    have hs := hT s (hx ▸ (by rw [List.getD_eq_getElem?_getD, List.getElem?_eq_getElem hi]; exact List.getElem_mem hi))
    have hi2 : (i : Int) < ((ci T).length : Int) := by rw [ci_len]; omega
    simp only [gs] at h h1
    have step0 : ∀ k, impl_Stairs_up.l1 (k + 1) ((arr n f (m + 1)).set m acc) (m : Int) (ci T) ((ci T).length : Int) (i : Int) (n : Int) (ci T) B =
        if ((m + s : Nat) : Int) ≤ (n : Int) then ((impl_Stairs_isBroken.f k (n : Int) (ci T) B (m : Int)).bind fun t => (if t = true then (impl_Stairs_up.l1 k ((arr n f (m + 1)).set m acc) (m : Int) (ci T) ((ci T).length : Int) ((i + 1 : Nat) : Int) (n : Int) (ci T) B) else (if 0 ≤ (m : Int) then (if (m : Int) < (((arr n f (m + 1)).set m acc).length : Int) then (if 0 ≤ ((m + s : Nat) : Int) then (if ((m + s : Nat) : Int) < (((arr n f (m + 1)).set m acc).length : Int) then (impl_Stairs_up.l1 k (((arr n f (m + 1)).set m acc).set (m : Int).toNat (wrap64 ((rd ((arr n f (m + 1)).set m acc) (m : Int)) + (rd ((arr n f (m + 1)).set m acc) ((m + s : Nat) : Int))))) (m : Int) (ci T) ((ci T).length : Int) ((i + 1 : Nat) : Int) (n : Int) (ci T) B) else none) else none) else none) else none))) else (impl_Stairs_up.l1 k ((arr n f (m + 1)).set m acc) (m : Int) (ci T) ((ci T).length : Int) ((i + 1 : Nat) : Int) (n : Int) (ci T) B) := by
      intro k
      simp only [impl_Stairs_up.l1]
      rw [if_pos hi2, if_pos (by omega), if_pos hi2, rd_nat, ci_get, hx, w_add m s (by omega) (by omega), wsucc i (by omega)]
    by_cases hs2 : m + s ≤ n
    · rw [if_pos hs2] at h h1
      have hfs := hf (m + s) (by omega) hs2
      by_cases hb : (m : Int) ∈ B
      · rw [if_pos hb] at h
        refine Ev.step (fun k => (step0 k).trans (if_pos (by omega))) (Ev.bind (broken_ev _ _ B hB _) (Ev.ite_true (decide_eq_true hb) ?_))
        refine ih (i + 1) acc hd' h0 (by omega) ?_
        rw [if_pos hb]
        exact h
      · rw [if_neg hb] at h
        refine Ev.step (fun k => (step0 k).trans (if_pos (by omega))) (Ev.bind (broken_ev _ _ B hB _) (Ev.ite_false (decide_eq_false hb) ?_))
        have hlen : ((arr n f (m + 1)).set m acc).length = n + 1 := by rw [List.length_set, arr_len]
        have g1 : rd ((arr n f (m + 1)).set m acc) (m : Int) = acc := by
          rw [rd_nat, getD_set _ _ _ _ (by rw [arr_len]; omega), if_pos rfl]
        have g2 : rd ((arr n f (m + 1)).set m acc) ((m + s : Nat) : Int) = f (m + s) := by
          rw [rd_nat, getD_set _ _ _ _ (by rw [arr_len]; omega), if_neg (by omega), arr_get _ _ _ _ hs2, if_pos (by omega)]
        have h2 := ih (i + 1) (acc + f (m + s)) hd' (by omega) (by omega) (by rw [if_neg hb, Int.add_assoc]; exact h)
        refine Ev.congr (fun k => ?_) h2
        rw [hlen, if_pos (by omega), if_pos (by omega), if_pos (by omega), if_pos (by omega), g1, g2, Int.toNat_natCast, List.set_set]
        have hgn : acc + f (m + s) ≤ 4611686018427387904 := by
          have := gs_nonneg hf ss (fun t ht => (hT t (List.mem_of_mem_drop (hd' ▸ ht : t ∈ T.drop (i + 1)))).1)
          omega
        rw [w_id (by omega) hgn]
    · rw [if_neg hs2, Int.zero_add] at h h1
      exact Ev.step (fun k => (step0 k).trans (if_neg (by omega))) (ih (i + 1) acc hd' h0 h1 h)
theorem up_l0 (n : Nat) (T : List Nat) (B : List Int) (hn : n ≤ 60) (hB : B.length ≤ 1048576) (hT : ∀ t ∈ T, 1 ≤ t ∧ t ≤ 9) (hTl : T.length ≤ 5) (hi : incN 0 T) : ∀ (m : Nat), m ≤ n →
    Ev (fun k => impl_Stairs_up.l0 k (arr n (V n T B) m) (wrap64 ((m : Int) - 1)) (n : Int) (ci T) B) (arr n (V n T B) 0) := by
  have hT1 : ∀ t ∈ T, 1 ≤ t := fun t ht => (hT t ht).1
  intro m
  induction m with
  | zero =>
    intro _
    refine Ev.step (fun k => ?_) (Ev.now _)
    simp only [impl_Stairs_up.l0]
    rw [w_id (by omega) (by omega), if_neg (by omega)]
  | succ m ih =>
    intro hm
    have e : wrap64 (((m + 1 : Nat) : Int) - 1) = (m : Int) := by
      rw [w_pred (m + 1) (by omega) (by omega), Nat.add_sub_cancel]
    rw [e]
    clear e
    have hb : ∀ i, m < i → i ≤ n → 0 ≤ V n T B i ∧ V n T B i ≤ p2 (n - i) := fun i _ h => V_bd n T B hT1 hi _ i (Nat.le_refl _) h
    have h1 := up_l1 n T B (V n T B) hn hB hT hTl m (by omega) (fun i h1 h2 => (hb i h1 h2).1) (arr n (V n T B) 0) T 0 0 rfl (by omega) (by have := (gs_bd hb T 0 hi).2; have := p2_60 (d := n - m - 0) (by omega); omega)
      (by rw [Int.zero_add, arr_put n _ m _ (by omega) (V_rec n T B hT1 m (by omega))]; exact ih (by omega))
    rw [← arr_zero n _ m (by omega)] at h1
    refine Ev.step (fun k => ?_) h1
    simp only [impl_Stairs_up.l0]
    rw [if_pos (by omega)]
    rfl
theorem up_ev (n : Nat) (T : List Nat) (B : List Int) (hn : n ≤ 60) (hB : B.length ≤ 1048576) (hT : ∀ t ∈ T, 1 ≤ t ∧ t ≤ 9) (hTl : T.length ≤ 5) (hi : incN 0 T) : Ev (fun k => impl_Stairs_up.f k (n : Int) (ci T) B) (arr n (V n T B) 0) := by
  refine Ev.congr (fun k => ?_) (up_l0 n T B hn hB hT hTl hi n (Nat.le_refl _))
  unfold impl_Stairs_up.f
  rw [wsucc n (by omega), if_pos (by omega), Int.toNat_natCast, if_pos (by omega)]
  simp only [Option.bind_some]
  rw [if_pos (by omega), List.length_replicate, if_pos (by omega), Int.toNat_natCast, arr_top n _ 1 (V_top n T B)]
/-- The count that the specification keeps: no larger than this. -/
def cp (x : Int) : Int := if x < 1000000000000001 then x else 1000000000000001
theorem cp_bd {x : Int} (h : 0 ≤ x) : 0 ≤ cp x ∧ cp x ≤ 1000000000000001 := by
  unfold cp
  split <;> omega
theorem cp_add {a b : Int} (ha : 0 ≤ a) (hb : 0 ≤ b) : (if cp a + cp b < 1000000000000001 then cp a + cp b else 1000000000000001) = cp (a + b) := by
  unfold cp
  (repeat' split) <;> omega
theorem cp_id {a : Int} (h : a ≤ 1000000000000000) : cp a = a := by
  unfold cp
  rw [if_pos (by omega)]
theorem cp_le {a : Int} : (decide (cp a ≤ 1000000000000000)) = decide (a ≤ 1000000000000000) := by
  unfold cp
  split
  · rfl
  · rw [decide_eq_false (by omega), decide_eq_false (by omega)]
theorem leastv (a b : Int) : spec_l1Least.f a b = some (if a < b then a else b) := by
  unfold spec_l1Least.f
  split <;> rfl
theorem ways_l1 (n : Nat) (T : List Nat) (B : List Int) (f : Nat → Int) (hn : n ≤ 60) (hT : ∀ t ∈ T, 1 ≤ t ∧ t ≤ 9) (hTl : T.length ≤ 5) (m : Nat) (hm : m < n) (hf : ∀ i, m < i → i ≤ n → 0 ≤ f i) (r : List Int) :
    ∀ (ss : List Nat) (i : Nat) (acc : Int), T.drop i = ss → 0 ≤ acc →
    Ev (fun k => spec_clWays.l0 k ((arr n (fun j => cp (f j)) (m + 1)).set m (cp (acc + gs f n m ss))) (wrap64 ((m : Int) - 1)) (n : Int) (ci T) B) r →
    Ev (fun k => spec_clWays.l1 k ((arr n (fun j => cp (f j)) (m + 1)).set m (cp acc)) (m : Int) (ci T) ((ci T).length : Int) (i : Int) (n : Int) (ci T) B) r := by
  intro ss
  induction ss with
  | nil =>
    intro i acc hd h0 h
    have := drop_nil' hd
    refine Ev.step (fun k => ?_) h
    simp only [spec_clWays.l1]
    rw [if_neg (by rw [ci_len]; omega)]
    simp only [gs, Int.add_zero]
  | cons s ss ih =>
    intro i acc hd h0 h
    obtain ⟨hi, hx, hd'⟩ := drop_info (d := 0) hd
    have hs := hT s (hx ▸ (by rw [List.getD_eq_getElem?_getD, List.getElem?_eq_getElem hi]; exact List.getElem_mem hi))
    have hi2 : (i : Int) < ((ci T).length : Int) := by rw [ci_len]; omega
    simp only [gs] at h
    have hlen : ((arr n (fun j => cp (f j)) (m + 1)).set m (cp acc)).length = n + 1 := by rw [List.length_set, arr_len]
    by_cases hs2 : m + s ≤ n
    · rw [if_pos hs2] at h
      have hfs := hf (m + s) (by omega) hs2
      have b1 := cp_bd h0
      have b2 := cp_bd hfs
      have g1 : rd ((arr n (fun j => cp (f j)) (m + 1)).set m (cp acc)) (m : Int) = cp acc := by
        rw [rd_nat, getD_set _ _ _ _ (by rw [arr_len]; omega), if_pos rfl]
      have g2 : rd ((arr n (fun j => cp (f j)) (m + 1)).set m (cp acc)) ((m + s : Nat) : Int) = cp (f (m + s)) := by
        rw [rd_nat, getD_set _ _ _ _ (by rw [arr_len]; omega), if_neg (by omega), arr_get _ _ _ _ hs2, if_pos (by omega)]
      refine Ev.step (fun k => ?_) (ih (i + 1) (acc + f (m + s)) hd' (by omega) (by rw [Int.add_assoc]; exact h))
      simp only [spec_clWays.l1]
      rw [if_pos hi2, if_pos (by omega), if_pos hi2, rd_nat (ci T), ci_get, hx, w_add m s (by omega) (by omega), wsucc i (by omega), if_pos (by omega), if_pos (by omega), hlen, if_pos (by omega), if_pos (by omega), if_pos (by omega), g1, g2, w_id (by omega) (by omega), leastv, cp_add h0 hfs]
      simp only [Option.bind_some, Int.toNat_natCast, List.set_set]
    · rw [if_neg hs2, Int.zero_add] at h
      refine Ev.step (fun k => ?_) (ih (i + 1) acc hd' h0 h)
      simp only [spec_clWays.l1]
      rw [if_pos hi2, if_pos (by omega), if_pos hi2, rd_nat (ci T), ci_get, hx, w_add m s (by omega) (by omega), wsucc i (by omega), if_neg (by omega)]
theorem ways_l0 (n : Nat) (T : List Nat) (B : List Int) (hn : n ≤ 60) (hB : B.length ≤ 1048576) (hT : ∀ t ∈ T, 1 ≤ t ∧ t ≤ 9) (hTl : T.length ≤ 5) (hi : incN 0 T) : ∀ (m : Nat), m ≤ n →
    Ev (fun k => spec_clWays.l0 k (arr n (fun j => cp (V n T B j)) m) (wrap64 ((m : Int) - 1)) (n : Int) (ci T) B) (arr n (fun j => cp (V n T B j)) 0) := by
  have hT1 : ∀ t ∈ T, 1 ≤ t := fun t ht => (hT t ht).1
  intro m
  induction m with
  | zero =>
    intro _
    refine Ev.step (fun k => ?_) (Ev.now _)
    simp only [spec_clWays.l0]
    rw [w_id (by omega) (by omega), if_neg (by omega)]
  | succ m ih =>
    intro hm
    have e : wrap64 (((m + 1 : Nat) : Int) - 1) = (m : Int) := by
      rw [w_pred (m + 1) (by omega) (by omega), Nat.add_sub_cancel]
    rw [e]
    clear e
    have hb : ∀ i, m < i → i ≤ n → 0 ≤ V n T B i ∧ V n T B i ≤ p2 (n - i) := fun i _ h => V_bd n T B hT1 hi _ i (Nat.le_refl _) h
    have hv := V_rec n T B hT1 m (by omega)
    have st := stands_ev (n : Int) (ci T) B hB (m : Int)
    rw [decide_eq_true (by omega : 0 ≤ (m : Int) ∧ (m : Int) ≤ (n : Int)), Bool.true_and] at st
    have hb0 : cp 0 = 0 := by decide
    by_cases hbr : (m : Int) ∈ B
    · rw [if_pos hbr] at hv
      rw [decide_eq_true hbr] at st
      have h2 := ih (by omega)
      rw [← arr_put n (fun j => cp (V n T B j)) m 0 (by omega) (by rw [hv]; exact hb0), ← arr_zero n _ m (by omega)] at h2
      refine Ev.step (fun k => ?_) (Ev.bind (f := fun k t => if t = true then (spec_clWays.l1 k (arr n (fun j => cp (V n T B j)) (m + 1)) (m : Int) (ci T) ((ci T).length : Int) 0 (n : Int) (ci T) B) else (spec_clWays.l0 k (arr n (fun j => cp (V n T B j)) (m + 1)) (wrap64 ((m : Int) - 1)) (n : Int) (ci T) B)) st (Ev.ite_false rfl h2))
      simp only [spec_clWays.l0]
      rw [if_pos (by omega)]
    · rw [if_neg hbr] at hv
      rw [decide_eq_false hbr] at st
      have h1 := ways_l1 n T B (V n T B) hn hT hTl m (by omega) (fun i h1 h2 => (hb i h1 h2).1) (arr n (fun j => cp (V n T B j)) 0) T 0 0 rfl (by omega)
        (by rw [Int.zero_add, arr_put n _ m _ (by omega) (by rw [hv])]; exact ih (by omega))
      rw [hb0, ← arr_zero n _ m (by omega)] at h1
      refine Ev.step (fun k => ?_) (Ev.bind (f := fun k t => if t = true then (spec_clWays.l1 k (arr n (fun j => cp (V n T B j)) (m + 1)) (m : Int) (ci T) ((ci T).length : Int) 0 (n : Int) (ci T) B) else (spec_clWays.l0 k (arr n (fun j => cp (V n T B j)) (m + 1)) (wrap64 ((m : Int) - 1)) (n : Int) (ci T) B)) st (Ev.ite_true rfl h1))
      simp only [spec_clWays.l0]
      rw [if_pos (by omega)]
theorem ways_ev (n : Nat) (T : List Nat) (B : List Int) (hn : n ≤ 60) (hB : B.length ≤ 1048576) (hT : ∀ t ∈ T, 1 ≤ t ∧ t ≤ 9) (hTl : T.length ≤ 5) (hi : incN 0 T) : Ev (fun k => spec_clWays.f k (n : Int) (ci T) B) (arr n (fun j => cp (V n T B j)) 0) := by
  refine Ev.congr (fun k => ?_) (ways_l0 n T B hn hB hT hTl hi n (Nat.le_refl _))
  unfold spec_clWays.f
  rw [wsucc n (by omega), if_pos (by omega), Int.toNat_natCast, if_pos (by omega)]
  simp only [Option.bind_some]
  rw [if_pos (by omega), List.length_replicate, if_pos (by omega), Int.toNat_natCast, arr_top n (fun j => cp (V n T B j)) 1 (by rw [V_top]; decide)]

theorem clCounted_yes (n : Nat) (T : List Nat) (B : List Int) (hg : goodS (n : Int) (ci T) B = true) (hn : n ≤ 60) (hB : B.length ≤ 1048576) (hT : ∀ t ∈ T, 1 ≤ t ∧ t ≤ 9) (hTl : T.length ≤ 5) (hi : incN 0 T) :
    Ev (fun k => spec_clCounted.f k (n : Int) (ci T) B) (decide (V n T B 0 ≤ 1000000000000000)) ∧ Ev (fun k => impl_counted.f k (n : Int) (ci T) B) (arr n (V n T B) 0, decide (V n T B 0 ≤ 1000000000000000)) := by
  have z : ∀ f : Nat → Int, rd (arr n f 0) 0 = f 0 := fun f => arr_rd0 n f 0 (by omega)
  refine ⟨Ev.bind (clGood_ev _ _ _ (by rw [ci_len]; omega) hB) (Ev.ite_true hg (Ev.bind (ways_ev n T B hn hB hT hTl hi) (Ev.congr (fun k => ?_) (Ev.now _)))),
    Ev.bind (areStairs_ev _ _ _ (by rw [ci_len]; omega) hB) (Ev.ite_true hg (Ev.bind (up_ev n T B hn hB hT hTl hi) (Ev.congr (fun k => ?_) (Ev.now _))))⟩
  · rw [arr_len, if_pos (by omega), z, cp_le]
  · rw [arr_len, if_pos (by omega), z]
theorem clCounted_no (s : Int) (S B : List Int) (hg : goodS s S B = false) (hS : S.length ≤ 1048576) (hB : B.length ≤ 1048576) :
    Ev (fun k => spec_clCounted.f k s S B) false ∧ Ev (fun k => impl_counted.f k s S B) ([], false) :=
  ⟨Ev.bind (clGood_ev _ _ _ hS hB) (Ev.ite_false hg (Ev.now _)), Ev.bind (areStairs_ev _ _ _ hS hB) (Ev.ite_false hg (Ev.now _))⟩

/-- The sum over the strides that come from the ground at the earliest. -/
def gd (f : Nat → Int) (j : Nat) : List Nat → Int
  | [] => 0
  | s :: ss => (if s ≤ j then f (j - s) else 0) + gd f j ss
theorem gd_congr {f f' : Nat → Int} {j : Nat} : ∀ {T : List Nat}, (∀ t ∈ T, 1 ≤ t) → (∀ i, i < j → f i = f' i) → gd f j T = gd f' j T := by
  intro T
  induction T with
  | nil => intro _ _; rfl
  | cons s T ih =>
    intro h1 h2
    simp only [gd]
    rw [ih (fun t ht => h1 t (List.mem_cons_of_mem _ ht)) h2]
    have := h1 s (List.mem_cons_self ..)
    by_cases hs : s ≤ j
    · rw [if_pos hs, if_pos hs, h2 (j - s) (by omega)]
    · rw [if_neg hs, if_neg hs]
theorem gd_bd {f : Nat → Int} {j : Nat} (hf : ∀ i, i < j → 0 ≤ f i ∧ f i ≤ p2 i) : ∀ (T : List Nat) (p : Nat), incN p T → 0 ≤ gd f j T ∧ gd f j T ≤ p2 (j - p) := by
  intro T
  induction T with
  | nil =>
    intro p _
    have := p2_pos (j - p)
    simp only [gd]
    omega
  | cons s T ih =>
    intro p h
    obtain ⟨h1, h2⟩ := h
    obtain ⟨i1, i2⟩ := ih s h2
    simp only [gd]
    by_cases hs : s ≤ j
    · rw [if_pos hs]
      have hb := hf (j - s) (by omega)
      have h3 : p2 (j - s + 1) ≤ p2 (j - p) := p2_mono (by omega)
      simp only [p2] at h3
      omega
    · rw [if_neg hs]
      have h3 : p2 (j - s) ≤ p2 (j - p) := p2_mono (by omega)
      omega
def dpu (base : Int) (g : (Nat → Int) → Nat → Int) : Nat → Nat → Int
  | 0, _ => base
  | d + 1, j => if j = d + 1 then g (dpu base g d) j else dpu base g d j
theorem dpu_stable (base : Int) (g : (Nat → Int) → Nat → Int) (d j : Nat) (h : j ≤ d) : ∀ e, dpu base g (d + e) j = dpu base g d j := by
  intro e
  induction e with
  | zero => rfl
  | succ e ih =>
    show dpu base g ((d + e) + 1) j = _
    rw [← ih]
    simp only [dpu]
    rw [if_neg (by omega)]
theorem dpu_rec (base : Int) (g : (Nat → Int) → Nat → Int) (hg : ∀ f f' j, (∀ i, i < j → f i = f' i) → g f j = g f' j) (n j : Nat) (hj : j + 1 ≤ n) : dpu base g n (j + 1) = g (dpu base g n) (j + 1) := by
  have h1 := dpu_stable base g (j + 1) (j + 1) (Nat.le_refl _) (n - (j + 1))
  have e1 : j + 1 + (n - (j + 1)) = n := by omega
  rw [e1] at h1
  rw [h1]
  simp only [dpu]
  rw [if_pos trivial]
  refine hg _ _ _ (fun i h2 => ?_)
  have h4 := dpu_stable base g j i (by omega) (n - j)
  have e2 : j + (n - j) = n := by omega
  rw [e2] at h4
  exact h4.symm
/-- How many ways lead from the ground to a step. -/
def dw (n : Nat) (T : List Nat) (B : List Int) : Nat → Int := dpu 1 (fun f j => if (j : Int) ∈ B then 0 else gd f j T) n
theorem dw_zero (n : Nat) (T : List Nat) (B : List Int) : dw n T B 0 = 1 := by
  have := dpu_stable 1 (fun f j => if (j : Int) ∈ B then 0 else gd f j T) 0 0 (Nat.le_refl _) n
  rw [Nat.zero_add] at this
  exact this
theorem dw_rec (n : Nat) (T : List Nat) (B : List Int) (hT : ∀ t ∈ T, 1 ≤ t) (j : Nat) (h1 : 1 ≤ j) (hj : j ≤ n) : dw n T B j = if (j : Int) ∈ B then 0 else gd (dw n T B) j T := by
  obtain ⟨i, rfl⟩ : ∃ i, j = i + 1 := ⟨j - 1, by omega⟩
  refine dpu_rec 1 _ (fun f f' j h => ?_) n i hj
  show (if (j : Int) ∈ B then (0 : Int) else gd f j T) = (if (j : Int) ∈ B then 0 else gd f' j T)
  rw [gd_congr hT h]
theorem dw_bd (n : Nat) (T : List Nat) (B : List Int) (hT : ∀ t ∈ T, 1 ≤ t) (hi : incN 0 T) : ∀ (d j : Nat), j ≤ d → j ≤ n → 0 ≤ dw n T B j ∧ dw n T B j ≤ p2 j := by
  intro d
  induction d with
  | zero =>
    intro j h1 h2
    obtain rfl : j = 0 := by omega
    rw [dw_zero]
    simp [p2]
  | succ d ih =>
    intro j h1 h2
    by_cases hj : j = 0
    · subst hj
      rw [dw_zero]
      simp [p2]
    · rw [dw_rec n T B hT j (by omega) h2]
      have := p2_pos j
      split
      · omega
      · exact gd_bd (fun i h3 => ih i (by omega) (by omega)) T 0 hi
/-- The sum of the first n numbers of a row. -/
def sm (f : Nat → Int) : Nat → Int
  | 0 => 0
  | n + 1 => sm f n + f n
theorem sm_congr {f g : Nat → Int} : ∀ {n : Nat}, (∀ i, i < n → f i = g i) → sm f n = sm g n := by
  intro n
  induction n with
  | zero => intro _; rfl
  | succ n ih =>
    intro h
    simp only [sm]
    rw [ih (fun i hi => h i (by omega)), h n (by omega)]
theorem sm_zero (f : Nat → Int) (n : Nat) (h : ∀ i, i < n → f i = 0) : sm f n = 0 := by
  induction n with
  | zero => rfl
  | succ n ih =>
    simp only [sm]
    rw [ih (fun i hi => h i (by omega)), h n (by omega)]
    rfl
theorem sm_add (f g : Nat → Int) : ∀ n, sm (fun i => f i + g i) n = sm f n + sm g n := by
  intro n
  induction n with
  | zero => rfl
  | succ n ih =>
    simp only [sm]
    rw [ih]
    omega
theorem sm_cut (f : Nat → Int) (q : Nat) : ∀ e, sm (fun k => if k < q then f k else 0) (q + e) = sm f q := by
  intro e
  induction e with
  | zero => exact sm_congr (fun i hi => if_pos hi)
  | succ e ih =>
    show sm (fun k => if k < q then f k else 0) (q + e) + (if q + e < q then f (q + e) else 0) = _
    rw [ih, if_neg (by omega), Int.add_zero]
theorem sm_shift (f : Nat → Int) (t : Nat) : ∀ q, sm (fun j => if t ≤ j then f (j - t) else 0) (q + t) = sm f q := by
  intro q
  induction q with
  | zero =>
    rw [Nat.zero_add]
    exact sm_zero _ _ (fun i hi => if_neg (by omega))
  | succ q ih =>
    have e : q + 1 + t = (q + t) + 1 := by omega
    rw [e]
    simp only [sm]
    rw [ih, if_pos (by omega), Nat.add_sub_cancel]
theorem swap1 (d w : Nat → Int) (t m : Nat) : sm (fun k => d k * (if k + t ≤ m then w (k + t) else 0)) (m + 1) = sm (fun j => w j * (if t ≤ j then d (j - t) else 0)) (m + 1) := by
  by_cases ht : t ≤ m + 1
  · obtain ⟨q, hq⟩ : ∃ q, m + 1 = q + t := ⟨m + 1 - t, by omega⟩
    have h1 := sm_cut (fun k => d k * w (k + t)) q t
    have h2 := sm_shift (fun k => d k * w (k + t)) t q
    rw [hq, sm_congr (g := fun k => if k < q then d k * w (k + t) else 0), h1, ← h2]
    · refine sm_congr (fun j hj => ?_)
      by_cases h : t ≤ j
      · rw [if_pos h, if_pos h]
        show d (j - t) * w (j - t + t) = w j * d (j - t)
        rw [Nat.sub_add_cancel h, Int.mul_comm]
      · rw [if_neg h, if_neg h, Int.mul_zero]
    · intro k hk
      by_cases h : k < q
      · rw [if_pos h, if_pos (by omega)]
      · rw [if_neg h, if_neg (by omega), Int.mul_zero]
  · rw [sm_zero, sm_zero]
    · intro i hi
      rw [if_neg (by omega), Int.mul_zero]
    · intro i hi
      rw [if_neg (by omega), Int.mul_zero]
theorem swap (d w : Nat → Int) (m : Nat) : ∀ T : List Nat, sm (fun k => d k * gs w m k T) (m + 1) = sm (fun j => w j * gd d j T) (m + 1) := by
  intro T
  induction T with
  | nil =>
    simp only [gs, gd, Int.mul_zero]
  | cons t T ih =>
    simp only [gs, gd, Int.mul_add]
    rw [sm_add, sm_add, ih, swap1]
theorem gs_far {f : Nat → Int} {n j : Nat} (h : n ≤ j) : ∀ (T : List Nat), (∀ t ∈ T, 1 ≤ t) → gs f n j T = 0 := by
  intro T
  induction T with
  | nil => intro _; rfl
  | cons s T ih =>
    intro h1
    have := h1 s (List.mem_cons_self ..)
    simp only [gs]
    rw [ih (fun t ht => h1 t (List.mem_cons_of_mem _ ht)), if_neg (by omega)]
    rfl
theorem gd_zero {f : Nat → Int} : ∀ (T : List Nat), (∀ t ∈ T, 1 ≤ t) → gd f 0 T = 0 := by
  intro T
  induction T with
  | nil => intro _; rfl
  | cons s T ih =>
    intro h1
    have := h1 s (List.mem_cons_self ..)
    simp only [gd]
    rw [ih (fun t ht => h1 t (List.mem_cons_of_mem _ ht)), if_neg (by omega)]
    rfl
theorem sm_first (f : Nat → Int) : ∀ n, sm f (n + 1) = f 0 + sm (fun i => f (i + 1)) n := by
  intro n
  induction n with
  | zero => simp [sm]
  | succ n ih =>
    show sm f (n + 1) + f (n + 1) = _
    rw [ih]
    simp only [sm]
    omega
/-- What leads to a step, told from the ground and from the step. -/
theorem dual (n m : Nat) (T : List Nat) (B : List Int) (hT : ∀ t ∈ T, 1 ≤ t) (hm : 1 ≤ m) (hmn : m ≤ n) (w : Nat → Int) (hw : ∀ k, k < m → w k = if (k : Int) ∈ B then 0 else gs w m k T) (hb : (m : Int) ∉ B) (h0 : (0 : Int) ∉ B) : w 0 = dw n T B m * w m := by
  have h1 := swap (dw n T B) w m T
  have h2 : sm (fun k => dw n T B k * gs w m k T) (m + 1) = sm (fun k => dw n T B k * w k) m := by
    show sm _ m + dw n T B m * gs w m m T = _
    rw [gs_far (Nat.le_refl _) T hT, Int.mul_zero, Int.add_zero]
    refine sm_congr (fun k hk => ?_)
    rw [hw k hk]
    by_cases hkB : (k : Int) ∈ B
    · have hk1 : 1 ≤ k := by
        by_cases h : k = 0
        · subst h
          exact absurd hkB h0
        · omega
      rw [if_pos hkB, dw_rec n T B hT k hk1 (by omega), if_pos hkB, Int.zero_mul, Int.mul_zero]
    · rw [if_neg hkB]
  have h3 : sm (fun j => w j * gd (dw n T B) j T) (m + 1) = sm (fun i => dw n T B (i + 1) * w (i + 1)) m := by
    rw [sm_first, gd_zero T hT, Int.mul_zero, Int.zero_add]
    refine sm_congr (fun i hi => ?_)
    by_cases hkB : ((i + 1 : Nat) : Int) ∈ B
    · have him : i + 1 < m := by
        by_cases h : i + 1 = m
        · rw [h] at hkB
          exact absurd hkB hb
        · omega
      rw [hw (i + 1) him, if_pos hkB, Int.zero_mul, Int.mul_zero]
    · rw [dw_rec n T B hT (i + 1) (by omega) (by omega), if_neg hkB, Int.mul_comm]
  have h4 := sm_first (fun k => dw n T B k * w k) m
  have h5 : sm (fun k => dw n T B k * w k) (m + 1) = sm (fun k => dw n T B k * w k) m + dw n T B m * w m := rfl
  rw [dw_zero, Int.one_mul] at h4
  rw [h2, h3] at h1
  omega
theorem gs_sub (f g : Nat → Int) (n j : Nat) : ∀ T : List Nat, gs (fun i => f i - g i) n j T = gs f n j T - gs g n j T := by
  intro T
  induction T with
  | nil => rfl
  | cons t T ih =>
    simp only [gs]
    rw [ih]
    split <;> omega
theorem gs_cut (f : Nat → Int) (n m j : Nat) (hm : m ≤ n) (hf : ∀ i, m < i → i ≤ n → f i = 0) : ∀ T : List Nat, gs f n j T = gs f m j T := by
  intro T
  induction T with
  | nil => rfl
  | cons t T ih =>
    simp only [gs]
    rw [ih]
    by_cases h1 : j + t ≤ m
    · rw [if_pos h1, if_pos (by omega)]
    · rw [if_neg h1]
      by_cases h2 : j + t ≤ n
      · rw [if_pos h2, hf _ (by omega) h2]
      · rw [if_neg h2]
/-- In how many climbs one stands on a step. -/
theorem through (n m : Nat) (T : List Nat) (B B' : List Int) (hT : ∀ t ∈ T, 1 ≤ t) (hm : 1 ≤ m) (hmn : m < n) (hB : ∀ x : Int, x ∈ B' ↔ x = (m : Int) ∨ x ∈ B) (hb : (m : Int) ∉ B) (h0 : (0 : Int) ∉ B) :
    V n T B 0 - V n T B' 0 = dw n T B m * V n T B m := by
  have far : ∀ (d k : Nat), n - k ≤ d → m < k → k ≤ n → V n T B k - V n T B' k = 0 := by
    intro d
    induction d with
    | zero =>
      intro k h1 h2 h3
      obtain rfl : k = n := by omega
      rw [V_top, V_top]
      rfl
    | succ d ih =>
      intro k h1 h2 h3
      by_cases hk : k = n
      · subst hk
        rw [V_top, V_top]
        rfl
      · rw [V_rec n T B hT k (by omega), V_rec n T B' hT k (by omega)]
        have e : ((k : Int) ∈ B') = ((k : Int) ∈ B) := by
          rw [hB]
          refine propext ⟨fun h => h.resolve_left (by omega), Or.inr⟩
        simp only [e]
        split
        · rfl
        · rw [← gs_sub, gs_congr (f' := fun _ => 0) hT (fun i h4 h5 => ih i (by omega) (by omega) h5)]
          have : ∀ L : List Nat, gs (fun _ => 0) n k L = 0 := by
            intro L
            induction L with
            | nil => rfl
            | cons s L ihL => simp only [gs, ihL, ite_self]; rfl
          exact this T
  have hV' : V n T B' m = 0 := by
    rw [V_rec n T B' hT m hmn, if_pos ((hB _).2 (.inl rfl))]
  have h := dual n m T B hT hm (by omega) (fun k => V n T B k - V n T B' k) (fun k hk => ?_) hb h0
  · rw [hV', Int.sub_zero] at h
    exact h
  · show V n T B k - V n T B' k = _
    rw [V_rec n T B hT k (by omega), V_rec n T B' hT k (by omega)]
    have e : ((k : Int) ∈ B') = ((k : Int) ∈ B) := by
      rw [hB]
      refine propext ⟨fun h => h.resolve_left (by omega), Or.inr⟩
    simp only [e]
    split
    · rfl
    · rw [← gs_sub, gs_cut _ n m k (by omega) (fun i h1 h2 => far _ i (Nat.le_refl _) h1 h2)]

theorem own_val (l : List Int) (h : l.length ≤ 1048576) : spec_l1Own.f l = some l := by
  unfold spec_l1Own.f
  simp only [Option.bind_some]
  rw [if_pos (by simp; omega)]
  simp

theorem rise_len {hi : Int} : ∀ (l : List Int) (p : Option Int), riseV 1 hi p l = true → p.getD 0 ≤ hi → (l.length : Int) ≤ hi - p.getD 0 := by
  intro l
  induction l with
  | nil =>
    intro p _ h
    simp only [List.length_nil]
    omega
  | cons x l ih =>
    intro p h hp
    simp only [riseV, Bool.and_eq_true, decide_eq_true_eq] at h
    obtain ⟨⟨h1, h2⟩, h3⟩ := h
    have h4 := ih (some x) h3 h1.2
    have h5 : p.getD 0 < x := by
      cases p with
      | none => simp only [Option.getD_none]; omega
      | some z => simp only [decide_eq_true_eq] at h2; exact h2
    simp only [Option.getD_some] at h4
    simp only [List.length_cons]
    omega
theorem goodS_len {s : Int} {S B : List Int} (h : goodS s S B = true) : B.length ≤ 60 := by
  simp only [goodS, Bool.and_eq_true, decide_eq_true_eq] at h
  obtain ⟨⟨h1, h2⟩, ⟨h3, h4⟩, h5, h6⟩ := h
  have := rise_len B none h6 (by simp only [Option.getD_none]; omega)
  simp only [Option.getD_none] at this
  omega
theorem put_l (B : List Int) (hB : B.length ≤ 1000) (m : Int) (hm : m ∉ B) : ∀ (d i : Nat), B.length - i = d → i ≤ B.length →
    ∃ B', Ev (fun k => spec_l1Put.l0 k B m (i : Int)) B' ∧ B'.length = B.length + 1 ∧ ∀ x, x ∈ B' ↔ x = m ∨ x ∈ B := by
  have hmem : ∀ i x, x ∈ ((([] : List Int) ++ B.take i) ++ [m]) ++ B.drop i ↔ x = m ∨ x ∈ B := by
    intro i x
    have e : x ∈ B ↔ x ∈ B.take i ∨ x ∈ B.drop i := by rw [← List.mem_append, List.take_append_drop]
    rw [e]
    simp only [List.nil_append, List.mem_append, List.mem_singleton]
    exact ⟨fun h => h.elim (fun h => h.elim (fun a => .inr (.inl a)) .inl) (fun a => .inr (.inr a)), fun h => h.elim (fun a => .inl (.inr a)) (fun h => h.elim (fun a => .inl (.inl a)) .inr)⟩
  have hlen : ∀ i, (((([] : List Int) ++ B.take i) ++ [m]) ++ B.drop i).length = B.length + 1 := by
    intro i
    simp only [List.nil_append, List.length_append, List.length_take, List.length_drop, List.length_cons, List.length_nil]
    omega
  have ht : ∀ i, (B.take i).length ≤ B.length := fun i => List.length_take_le' i B
  have hd : ∀ i, (B.drop i).length ≤ B.length := fun i => by rw [List.length_drop]; omega
  intro d
  induction d with
  | zero =>
    intro i h1 h2
    refine ⟨_, Ev.step (fun k => ?_) (Ev.now (((([] : List Int) ++ B.take i) ++ [m]) ++ B.drop i)), hlen i, hmem i⟩
    have a1 := ht i
    have a2 := hd i
    simp only [spec_l1Put.l0, Option.bind_some]
    rw [if_neg (by omega), if_pos (by omega), if_pos (by omega), Int.toNat_natCast, if_pos (by simp only [List.length_nil]; omega), if_pos (by simp only [List.nil_append]; omega), if_pos (by simp only [List.nil_append, List.length_append, List.length_cons, List.length_nil]; omega)]
  | succ d ih =>
    intro i h1 h2
    have hi : (i : Int) < (B.length : Int) := by omega
    by_cases hlt : rd B (i : Int) < m
    · obtain ⟨B', a, b, c⟩ := ih (i + 1) (by omega) (by omega)
      refine ⟨B', Ev.step (fun k => ?_) a, b, c⟩
      simp only [spec_l1Put.l0]
      rw [if_pos hi, if_pos (by omega), if_pos hlt, wsucc i (by omega)]
    · have hne : ¬ rd B (i : Int) = m := by
        intro h
        refine hm ?_
        rw [← h, rd_nat, List.getD_eq_getElem?_getD, List.getElem?_eq_getElem (by omega : i < B.length)]
        exact List.getElem_mem _
      refine ⟨_, Ev.step (fun k => ?_) (Ev.now (((([] : List Int) ++ B.take i) ++ [m]) ++ B.drop i)), hlen i, hmem i⟩
      have a1 := ht i
      have a2 := hd i
      simp only [spec_l1Put.l0, Option.bind_some]
      rw [if_pos hi, if_pos (by omega), if_neg hlt, if_neg hne, if_pos (by omega), Int.toNat_natCast, if_pos (by simp only [List.length_nil]; omega), if_pos (by simp only [List.nil_append]; omega), if_pos (by simp only [List.nil_append, List.length_append, List.length_cons, List.length_nil]; omega)]
theorem thru_top (n : Nat) (T : List Nat) (B : List Int) (h1 : 1 ≤ n) (hT : ∀ t ∈ T, 1 ≤ t) (h6 : ∀ x ∈ B, 1 ≤ x ∧ x ≤ (n : Int) - 1) : V n T B 0 = dw n T B n * V n T B n :=
  dual n n T B hT h1 (Nat.le_refl _) (V n T B) (fun k hk => V_rec n T B hT k hk) (fun h => by have := h6 _ h; omega) (fun h => by have := h6 _ h; omega)
theorem thru_bd (n : Nat) (T : List Nat) (B : List Int) (h1 : 1 ≤ n) (hT : ∀ t ∈ T, 1 ≤ t) (hi : incN 0 T) (h6 : ∀ x ∈ B, 1 ≤ x ∧ x ≤ (n : Int) - 1) (m : Nat) (hm1 : 1 ≤ m) (hm : m ≤ n) : 0 ≤ dw n T B m * V n T B m ∧ dw n T B m * V n T B m ≤ V n T B 0 := by
  have v0 := V_bd n T B hT hi _ 0 (Nat.le_refl _) (by omega)
  by_cases hmn : m = n
  · subst hmn
    rw [← thru_top m T B h1 hT h6]
    omega
  · by_cases hb : (m : Int) ∈ B
    · rw [dw_rec n T B hT m hm1 hm, if_pos hb, Int.zero_mul]
      omega
    · have h := through n m T B ((m : Int) :: B) hT hm1 (by omega) (fun x => List.mem_cons) hb (fun h => by have := h6 _ h; omega)
      have a := V_bd n T ((m : Int) :: B) hT hi _ 0 (Nat.le_refl _) (by omega)
      have b := dw_bd n T B hT hi _ m (Nat.le_refl _) (by omega)
      have c := V_bd n T B hT hi _ m (Nat.le_refl _) (by omega)
      have e := Int.mul_nonneg b.1 c.1
      omega
theorem thru_ev (n : Nat) (T : List Nat) (B : List Int) (h1 : 1 ≤ n) (hn : n ≤ 60) (hB : B.length ≤ 60) (hT : ∀ t ∈ T, 1 ≤ t ∧ t ≤ 9) (hTl : T.length ≤ 5) (hi : incN 0 T) (h6 : ∀ x ∈ B, 1 ≤ x ∧ x ≤ (n : Int) - 1) (hc : V n T B 0 ≤ 1000000000000000) (m : Nat) (hm1 : 1 ≤ m) (hm : m ≤ n) :
    Ev (fun k => spec_clThrough.f k (n : Int) (ci T) B (m : Int)) (dw n T B m * V n T B m) := by
  have hT1 : ∀ t ∈ T, 1 ≤ t := fun t ht => (hT t ht).1
  have z : ∀ f : Nat → Int, rd (arr n f 0) 0 = f 0 := fun f => arr_rd0 n f 0 (by omega)
  have hw := ways_ev n T B hn (by omega) hT hTl hi
  have v0 := V_bd n T B hT1 hi _ 0 (Nat.le_refl _) (by omega)
  unfold spec_clThrough.f
  by_cases hmn : m = n
  · subst hmn
    rw [← thru_top m T B h1 hT1 h6]
    refine Ev.congr (fun k => if_pos rfl) (Ev.bind hw (Ev.congr (fun k => ?_) (Ev.now _)))
    rw [arr_len, if_pos (by omega), z, cp_id hc]
  · refine Ev.congr (fun k => if_neg (by omega)) ?_
    have st := stands_ev (n : Int) (ci T) B (by omega) (m : Int)
    rw [decide_eq_true (by omega : 0 ≤ (m : Int) ∧ (m : Int) ≤ (n : Int)), Bool.true_and] at st
    by_cases hb : (m : Int) ∈ B
    · rw [decide_eq_true hb] at st
      rw [dw_rec n T B hT1 m hm1 hm, if_pos hb, Int.zero_mul]
      exact Ev.bind st (Ev.ite_false rfl (Ev.now _))
    · rw [decide_eq_false hb] at st
      obtain ⟨B', p1, p2, p3⟩ := put_l B (by omega) (m : Int) hb _ 0 rfl (by omega)
      have hw' := ways_ev n T B' hn (by omega) hT hTl hi
      have v0' := V_bd n T B' hT1 hi _ 0 (Nat.le_refl _) (by omega)
      have h := through n m T B B' hT1 hm1 (by omega) p3 hb (fun h => by have := h6 _ h; omega)
      have hbd := thru_bd n T B h1 hT1 hi h6 m hm1 hm
      rw [← h]
      rw [← h] at hbd
      refine Ev.bind st (Ev.ite_true rfl (Ev.bind hw (Ev.congr (fun k => ?_) (Ev.bind (g := fun k => spec_clBreak.f k (n : Int) (ci T) B (m : Int)) (a := ((n : Int), ci T, B')) (f := fun k bt => (spec_clWays.f k bt.1 bt.2.1 bt.2.2).bind fun t230 => if 0 < (t230.length : Int) then some (wrap64 (rd (arr n (fun j => cp (V n T B j)) 0) 0 - rd t230 0)) else none) (Ev.congr (fun k => ?_) (Ev.bind (f := fun _ t => some ((n : Int), ci T, t)) p1 (Ev.now _))) (Ev.bind hw' (Ev.congr (fun k => ?_) (Ev.now _)))))))
      · rw [arr_len, if_pos (by omega)]
      · unfold spec_clBreak.f spec_l1Put.f
        rw [own_val _ (by rw [ci_len]; omega)]
        rfl
      · rw [arr_len, if_pos (by omega), z, z, cp_id hc, cp_id (by omega), w_id (by omega) (by omega)]
/-- A row of n + 1 numbers that is filled from its begin. -/
def arf (n : Nat) (f : Nat → Int) (m : Nat) : List Int := (List.range (n + 1)).map (fun j => if j < m then f j else 0)
theorem arf_len (n : Nat) (f : Nat → Int) (m : Nat) : (arf n f m).length = n + 1 := by simp [arf]
theorem arf_get (n : Nat) (f : Nat → Int) (m j : Nat) (h : j ≤ n) : (arf n f m).getD j 0 = if j < m then f j else 0 := by
  simp only [arf, List.getD_eq_getElem?_getD, List.getElem?_map, List.getElem?_range (show j < n + 1 by omega), Option.map_some, Option.getD_some]
theorem arf_ext {n : Nat} {f : Nat → Int} {m : Nat} {x : List Int} (hl : x.length = n + 1) (h : ∀ j, j ≤ n → x.getD j 0 = if j < m then f j else 0) : x = arf n f m := by
  refine List.ext_getElem (by rw [hl, arf_len]) (fun j h1 h2 => ?_)
  have h3 := h j (by omega)
  rw [← arf_get n f m j (by omega), List.getD_eq_getElem?_getD, List.getD_eq_getElem?_getD, List.getElem?_eq_getElem h1, List.getElem?_eq_getElem h2] at h3
  exact h3
theorem arf_put (n : Nat) (f : Nat → Int) (m : Nat) (v : Int) (h : m ≤ n) (hv : f m = v) : (arf n f m).set m v = arf n f (m + 1) := by
  subst hv
  refine arf_ext (by rw [List.length_set, arf_len]) (fun j hj => ?_)
  rw [getD_set _ _ _ _ (by rw [arf_len]; omega), arf_get n f _ j hj]
  by_cases h1 : m = j
  · subst h1
    rw [if_pos rfl, if_pos (Nat.lt_succ_self _)]
  · rw [if_neg h1]
    by_cases h2 : j < m
    · rw [if_pos h2, if_pos (by omega)]
    · rw [if_neg h2, if_neg (by omega)]
theorem arf_zero (n : Nat) (f : Nat → Int) (m : Nat) (h : m ≤ n) : arf n f m = (arf n f m).set m 0 := by
  symm
  refine arf_ext (by rw [List.length_set, arf_len]) (fun j hj => ?_)
  rw [getD_set _ _ _ _ (by rw [arf_len]; omega), arf_get n f _ j hj]
  by_cases h1 : m = j
  · subst h1
    rw [if_pos rfl, if_neg (by omega)]
  · rw [if_neg h1]
theorem arf_first (n : Nat) (f : Nat → Int) (v : Int) (h : f 0 = v) : (List.replicate (n + 1) (0 : Int)).set 0 v = arf n f 1 := by
  refine arf_ext (by rw [List.length_set, List.length_replicate]) (fun j hj => ?_)
  rw [getD_set _ _ _ _ (by rw [List.length_replicate]; omega)]
  by_cases h1 : 0 = j
  · subst h1
    rw [if_pos rfl, if_pos (by omega), h]
  · rw [if_neg h1, if_neg (by omega), List.getD_eq_getElem?_getD, List.getElem?_replicate]
    split <;> rfl
theorem arf_all (n : Nat) (f : Nat → Int) : arf n f (n + 1) = arr n f 0 :=
  arr_ext (arf_len ..) (fun j hj => by rw [arf_get n f _ j hj, if_pos (by omega), if_pos (by omega)])
theorem down_l1 (n : Nat) (T : List Nat) (B : List Int) (f : Nat → Int) (hn : n ≤ 60) (hB : B.length ≤ 1048576) (hT : ∀ t ∈ T, 1 ≤ t ∧ t ≤ 9) (hTl : T.length ≤ 5) (m : Nat) (hm1 : 1 ≤ m) (hm : m ≤ n) (hf : ∀ i, i < m → 0 ≤ f i) (r : List Int) :
    ∀ (ss : List Nat) (i : Nat) (acc : Int), T.drop i = ss → 0 ≤ acc → (∀ us, us <:+ ss → 0 ≤ gd f m us) → acc + gd f m ss ≤ 1152921504606846976 →
    Ev (fun k => impl_Stairs_down.l0 k ((arf n f m).set m (if (m : Int) ∈ B then acc else acc + gd f m ss)) (wrap64 ((m : Int) + 1)) (n : Int) (ci T) B) r →
    Ev (fun k => impl_Stairs_down.l1 k ((arf n f m).set m acc) (m : Int) (ci T) ((ci T).length : Int) (i : Int) (n : Int) (ci T) B) r := by
  intro ss
  induction ss with
  | nil =>
    intro i acc hd h0 hg h1 h
    have := drop_nil' hd
    refine Ev.step (fun k => ?_) h
    simp only [impl_Stairs_down.l1]
    rw [if_neg (by rw [ci_len]; omega)]
    simp only [gd, Int.add_zero, ite_self]
  | cons s ss ih =>
    intro i acc hd h0 hg h1 h
    obtain ⟨hi, hx, hd'⟩ := drop_info (d := 0) hd
    have hs := hT s (hx ▸ (by rw [List.getD_eq_getElem?_getD, List.getElem?_eq_getElem hi]; exact List.getElem_mem hi))
    have hi2 : (i : Int) < ((ci T).length : Int) := by rw [ci_len]; omega
    have hg2 : ∀ us, us <:+ ss → 0 ≤ gd f m us := fun us hu => hg us (hu.trans (List.suffix_cons s ss))
    have hg3 := hg2 ss (List.suffix_refl _)
    simp only [gd] at h h1
    have step0 : ∀ k, impl_Stairs_down.l1 (k + 1) ((arf n f m).set m acc) (m : Int) (ci T) ((ci T).length : Int) (i : Int) (n : Int) (ci T) B =
        if (s : Int) ≤ (m : Int) then ((impl_Stairs_isBroken.f k (n : Int) (ci T) B (m : Int)).bind fun t => (if t = true then (impl_Stairs_down.l1 k ((arf n f m).set m acc) (m : Int) (ci T) ((ci T).length : Int) ((i + 1 : Nat) : Int) (n : Int) (ci T) B) else (if 0 ≤ (m : Int) then (if (m : Int) < (((arf n f m).set m acc).length : Int) then (if 0 ≤ wrap64 ((m : Int) - (s : Int)) then (if wrap64 ((m : Int) - (s : Int)) < (((arf n f m).set m acc).length : Int) then (impl_Stairs_down.l1 k (((arf n f m).set m acc).set (m : Int).toNat (wrap64 ((rd ((arf n f m).set m acc) (m : Int)) + (rd ((arf n f m).set m acc) (wrap64 ((m : Int) - (s : Int))))))) (m : Int) (ci T) ((ci T).length : Int) ((i + 1 : Nat) : Int) (n : Int) (ci T) B) else none) else none) else none) else none))) else (impl_Stairs_down.l1 k ((arf n f m).set m acc) (m : Int) (ci T) ((ci T).length : Int) ((i + 1 : Nat) : Int) (n : Int) (ci T) B) := by
      intro k
      simp only [impl_Stairs_down.l1]
      rw [if_pos hi2, if_pos (by omega), if_pos hi2, rd_nat (ci T), ci_get, hx, wsucc i (by omega)]
    by_cases hs2 : s ≤ m
    · rw [if_pos hs2] at h h1
      have hfs := hf (m - s) (by omega)
      by_cases hb : (m : Int) ∈ B
      · rw [if_pos hb] at h
        refine Ev.step (fun k => (step0 k).trans (if_pos (by omega))) (Ev.bind (broken_ev _ _ B hB _) (Ev.ite_true (decide_eq_true hb) ?_))
        refine ih (i + 1) acc hd' h0 hg2 (by omega) ?_
        rw [if_pos hb]
        exact h
      · rw [if_neg hb] at h
        refine Ev.step (fun k => (step0 k).trans (if_pos (by omega))) (Ev.bind (broken_ev _ _ B hB _) (Ev.ite_false (decide_eq_false hb) ?_))
        have hlen : ((arf n f m).set m acc).length = n + 1 := by rw [List.length_set, arf_len]
        have g1 : rd ((arf n f m).set m acc) (m : Int) = acc := by
          rw [rd_nat, getD_set _ _ _ _ (by rw [arf_len]; omega), if_pos rfl]
        have g2 : rd ((arf n f m).set m acc) ((m - s : Nat) : Int) = f (m - s) := by
          rw [rd_nat, getD_set _ _ _ _ (by rw [arf_len]; omega), if_neg (by omega), arf_get _ _ _ _ (by omega), if_pos (by omega)]
        have h2 := ih (i + 1) (acc + f (m - s)) hd' (by omega) hg2 (by omega) (by rw [if_neg hb, Int.add_assoc]; exact h)
        refine Ev.congr (fun k => ?_) h2
        rw [w_sub m s hs2 (by omega), hlen, if_pos (by omega), if_pos (by omega), if_pos (by omega), if_pos (by omega), g1, g2, Int.toNat_natCast, List.set_set]
        have hgn : acc + f (m - s) ≤ 4611686018427387904 := by omega
        rw [w_id (by omega) hgn]
    · rw [if_neg hs2, Int.zero_add] at h h1
      exact Ev.step (fun k => (step0 k).trans (if_neg (by omega))) (ih (i + 1) acc hd' h0 hg2 h1 h)
theorem gd_nonneg {f : Nat → Int} {j : Nat} (hf : ∀ i, i < j → 0 ≤ f i) : ∀ (T : List Nat), (∀ t ∈ T, 1 ≤ t) → 0 ≤ gd f j T := by
  intro T
  induction T with
  | nil => intro _; exact Int.le_refl _
  | cons s T ih =>
    intro h
    have h1 := ih (fun t ht => h t (List.mem_cons_of_mem _ ht))
    have h2 := h s (List.mem_cons_self ..)
    simp only [gd]
    by_cases hs : s ≤ j
    · have := hf (j - s) (by omega)
      rw [if_pos hs]
      omega
    · rw [if_neg hs]
      omega
theorem down_l0 (n : Nat) (T : List Nat) (B : List Int) (hn : n ≤ 60) (hB : B.length ≤ 1048576) (hT : ∀ t ∈ T, 1 ≤ t ∧ t ≤ 9) (hTl : T.length ≤ 5) (hi : incN 0 T) : ∀ (d m : Nat), n + 1 - m = d → 1 ≤ m → m ≤ n + 1 →
    Ev (fun k => impl_Stairs_down.l0 k (arf n (dw n T B) m) (m : Int) (n : Int) (ci T) B) (arr n (dw n T B) 0) := by
  have hT1 : ∀ t ∈ T, 1 ≤ t := fun t ht => (hT t ht).1
  intro d
  induction d with
  | zero =>
    intro m h1 h2 h3
    obtain rfl : m = n + 1 := by omega
    rw [arf_all]
    refine Ev.step (fun k => ?_) (Ev.now _)
    simp only [impl_Stairs_down.l0]
    rw [if_neg (by omega)]
  | succ d ih =>
    intro m h1 h2 h3
    have hb : ∀ i, i < m → 0 ≤ dw n T B i ∧ dw n T B i ≤ p2 i := fun i h => dw_bd n T B hT1 hi _ i (Nat.le_refl _) (by omega)
    have h4 := down_l1 n T B (dw n T B) hn hB hT hTl m h2 (by omega) (fun i h => (hb i h).1) (arr n (dw n T B) 0) T 0 0 rfl (by omega) (fun us hu => gd_nonneg (fun i h => (hb i h).1) us (fun t ht => hT1 t (hu.subset ht))) (by have := (gd_bd hb T 0 hi).2; have := p2_60 (d := m - 0) (by omega); omega)
      (by rw [Int.zero_add, arf_put n _ m _ (by omega) (dw_rec n T B hT1 m h2 (by omega)), wsucc m (by omega)]; exact ih (m + 1) (by omega) (by omega) (by omega))
    rw [← arf_zero n _ m (by omega)] at h4
    refine Ev.step (fun k => ?_) h4
    simp only [impl_Stairs_down.l0]
    rw [if_pos (by omega)]
    rfl
theorem down_ev (n : Nat) (T : List Nat) (B : List Int) (hn : n ≤ 60) (hB : B.length ≤ 1048576) (hT : ∀ t ∈ T, 1 ≤ t ∧ t ≤ 9) (hTl : T.length ≤ 5) (hi : incN 0 T) : Ev (fun k => impl_Stairs_down.f k (n : Int) (ci T) B) (arr n (dw n T B) 0) := by
  refine Ev.congr (fun k => ?_) (down_l0 n T B hn hB hT hTl hi _ 1 rfl (Nat.le_refl _) (by omega))
  unfold impl_Stairs_down.f
  rw [wsucc n (by omega), if_pos (by omega), Int.toNat_natCast, if_pos (by omega)]
  simp only [Option.bind_some]
  rw [List.length_replicate, if_pos (by omega)]
  show impl_Stairs_down.l0 k ((List.replicate (n + 1) (0 : Int)).set 0 1) 1 (n : Int) (ci T) B = _
  rw [arf_first n _ 1 (dw_zero n T B)]
  rfl

/- What is proved at the end: ∀ (a0_0 : Int) (l0_1 : List Int) (l0_2 : List Int), (Lit.int .i64 a0_0).wf = true → l0_1.length ≤ maxLen → (∀ x ∈ l0_1, (Lit.int .i64 x).wf = true) → l0_2.length ≤ maxLen → (∀ x ∈ l0_2, (Lit.int .i64 x).wf = true) → ∃ k, laws_FnExactWorstToBreak.f k a0_0 l0_1 l0_2 = some true -/
theorem worst_l (n : Nat) (T : List Nat) (B : List Int) (h1 : 1 ≤ n) (hn : n ≤ 60) (hB : B.length ≤ 60) (hT : ∀ t ∈ T, 1 ≤ t ∧ t ≤ 9) (hTl : T.length ≤ 5) (hi : incN 0 T) (h6 : ∀ x ∈ B, 1 ≤ x ∧ x ≤ (n : Int) - 1) (hc : V n T B 0 ≤ 1000000000000000) :
    ∀ (d m : Nat) (best most : Int), n - m = d → 1 ≤ m → m ≤ n → ∃ w, Ev (fun k => spec_WorstToBreak.l0 k best most (m : Int) (n : Int) (ci T) B) w ∧
      Ev (fun k => impl_WorstToBreak.l0 k (arr n (V n T B) 0) (arr n (dw n T B) 0) best most (m : Int) (n : Int) (ci T) B) w := by
  have hT1 : ∀ t ∈ T, 1 ≤ t := fun t ht => (hT t ht).1
  intro d
  induction d with
  | zero =>
    intro m best most e1 e2 e3
    refine ⟨(best, most, true), Ev.step (fun k => ?_) (Ev.now _), Ev.step (fun k => ?_) (Ev.now _)⟩
    · simp only [spec_WorstToBreak.l0]
      rw [if_neg (by omega)]
    · simp only [impl_WorstToBreak.l0]
      rw [if_neg (by omega)]
  | succ d ih =>
    intro m best most e1 e2 e3
    have ht := thru_ev n T B h1 hn hB hT hTl hi h6 hc m e2 e3
    have hbd := thru_bd n T B h1 hT1 hi h6 m e2 e3
    have hm : (m : Int) < (n : Int) := by omega
    have ei : ∀ k, impl_WorstToBreak.l0 (k + 1) (arr n (V n T B) 0) (arr n (dw n T B) 0) best most (m : Int) (n : Int) (ci T) B = if dw n T B m * V n T B m > most then impl_WorstToBreak.l0 k (arr n (V n T B) 0) (arr n (dw n T B) 0) (m : Int) (dw n T B m * V n T B m) ((m + 1 : Nat) : Int) (n : Int) (ci T) B else impl_WorstToBreak.l0 k (arr n (V n T B) 0) (arr n (dw n T B) 0) best most ((m + 1 : Nat) : Int) (n : Int) (ci T) B := by
      intro k
      simp only [impl_WorstToBreak.l0]
      rw [if_pos hm, if_pos (by omega), arr_len, if_pos (by omega), arr_len, if_pos (by omega), arr_rd0 n _ m (by omega), arr_rd0 n _ m (by omega), w_id (by omega) (by omega), wsucc m (by omega)]
    have es : ∀ k, spec_WorstToBreak.l0 (k + 1) best most (m : Int) (n : Int) (ci T) B = (spec_clThrough.f k (n : Int) (ci T) B (m : Int)).bind fun t => if t > most then spec_WorstToBreak.l0 k (m : Int) t ((m + 1 : Nat) : Int) (n : Int) (ci T) B else spec_WorstToBreak.l0 k best most ((m + 1 : Nat) : Int) (n : Int) (ci T) B := by
      intro k
      simp only [spec_WorstToBreak.l0]
      rw [if_pos hm, wsucc m (by omega)]
    by_cases hgt : dw n T B m * V n T B m > most
    · obtain ⟨w, a, b⟩ := ih (m + 1) (m : Int) (dw n T B m * V n T B m) (by omega) (by omega) (by omega)
      exact ⟨w, Ev.step es (Ev.bind ht (Ev.congr (fun k => if_pos hgt) a)), Ev.step (fun k => (ei k).trans (if_pos hgt)) b⟩
    · obtain ⟨w, a, b⟩ := ih (m + 1) best most (by omega) (by omega) (by omega)
      exact ⟨w, Ev.step es (Ev.bind ht (Ev.congr (fun k => if_neg hgt) a)), Ev.step (fun k => (ei k).trans (if_neg hgt)) b⟩
theorem FnExactWorstToBreak_agree (s : Int) (a b : List Int) (ha : a.length ≤ 1048576) (hb : b.length ≤ 1048576) : ∃ w0 w1 w2, Ev (fun k => spec_WorstToBreak.f k s a b) (w0, w1, w2) ∧ Ev (fun k => impl_WorstToBreak.f k s a b) (w0, w1, w2) := by
  have no1 : ∀ (s : Int) (a b : List Int), Ev (fun k => spec_WorstToBreak.j0 k true s a b) (0, 0, false) := fun s a b => Ev.step (fun k => by simp only [spec_WorstToBreak.j0]; rw [if_pos trivial]) (Ev.now _)
  have no2 : ∀ (u : List Int) (s : Int) (a b : List Int), Ev (fun k => impl_WorstToBreak.j0 k u true s a b) (0, 0, false) := fun u s a b => Ev.step (fun k => by simp only [impl_WorstToBreak.j0]; rw [if_pos trivial]) (Ev.now _)
  unfold spec_WorstToBreak.f impl_WorstToBreak.f
  by_cases hg : goodS s a b = true
  · have hl := goodS_len hg
    obtain ⟨n, T, rfl, rfl, h1, h2, h3, h4, h5, h6⟩ := goodS_nat hg
    obtain ⟨c1, c2⟩ := clCounted_yes n T b hg h2 hb h4 h3 h5
    have z : ∀ f : Nat → Int, rd (arr n f 0) 0 = f 0 := fun f => arr_rd0 n f 0 (by omega)
    by_cases hc : V n T b 0 ≤ 1000000000000000
    · have hw := ways_ev n T b h2 hb h4 h3 h5
      have hd := down_ev n T b h2 hb h4 h3 h5
      have key : ∃ w, Ev (fun k => if V n T b 0 = 0 then spec_WorstToBreak.j0 k true (n : Int) (ci T) b else spec_WorstToBreak.j0 k ((n : Int) == 1) (n : Int) (ci T) b) w ∧
          Ev (fun k => if V n T b 0 = 0 then impl_WorstToBreak.j0 k (arr n (V n T b) 0) true (n : Int) (ci T) b else impl_WorstToBreak.j0 k (arr n (V n T b) 0) ((n : Int) == 1) (n : Int) (ci T) b) w := by
        by_cases h0 : V n T b 0 = 0
        · exact ⟨_, Ev.congr (fun k => if_pos h0) (no1 _ _ _), Ev.congr (fun k => if_pos h0) (no2 _ _ _ _)⟩
        · by_cases hn1 : n = 1
          · have e : ((n : Int) == 1) = true := by rw [beq_iff_eq]; omega
            rw [e]
            exact ⟨_, Ev.congr (fun k => if_neg h0) (no1 _ _ _), Ev.congr (fun k => if_neg h0) (no2 _ _ _ _)⟩
          · have e : ((n : Int) == 1) = false := by rw [beq_eq_false_iff_ne]; omega
            rw [e]
            obtain ⟨w, p, q⟩ := worst_l n T b h1 h2 hl h4 h3 h5 h6 hc _ 1 0 (-1) rfl (Nat.le_refl _) h1
            refine ⟨w, Ev.congr (fun k => if_neg h0) (Ev.step (fun k => ?_) p), Ev.congr (fun k => if_neg h0) (Ev.step (f := fun k => (impl_Stairs_down.f k (n : Int) (ci T) b).bind fun t => impl_WorstToBreak.l0 k (arr n (V n T b) 0) t 0 (-1) 1 (n : Int) (ci T) b) (fun k => ?_) (Ev.bind hd q))⟩
            · simp only [spec_WorstToBreak.j0]
              rw [if_neg (by simp)]
              rfl
            · simp only [impl_WorstToBreak.j0]
              rw [if_neg (by simp)]
      obtain ⟨⟨w0, w1, w2⟩, k1, k2⟩ := key
      refine ⟨w0, w1, w2, Ev.bind c1 (Ev.ite_true (decide_eq_true hc) (Ev.bind hw (Ev.congr (fun k => ?_) k1))), Ev.bind c2 (Ev.ite_true (decide_eq_true hc) (Ev.congr (fun k => ?_) k2))⟩
      · rw [arr_len, if_pos (by omega), z, cp_id hc]
      · simp only
        rw [arr_len, if_pos (by omega), z]
    · exact ⟨0, 0, false, Ev.bind c1 (Ev.ite_false (decide_eq_false hc) (no1 _ _ _)), Ev.bind c2 (Ev.ite_false (decide_eq_false hc) (no2 _ _ _ _))⟩
  · have hg' : goodS s a b = false := Bool.eq_false_iff.mpr hg
    obtain ⟨c1, c2⟩ := clCounted_no s a b hg' ha hb
    exact ⟨0, 0, false, Ev.bind c1 (Ev.ite_false rfl (no1 _ _ _)), Ev.bind c2 (Ev.ite_false rfl (no2 _ _ _ _))⟩
theorem FnExactWorstToBreak : ∀ (a0_0 : Int) (l0_1 : List Int) (l0_2 : List Int), (Lit.int .i64 a0_0).wf = true → l0_1.length ≤ maxLen → (∀ x ∈ l0_1, (Lit.int .i64 x).wf = true) → l0_2.length ≤ maxLen → (∀ x ∈ l0_2, (Lit.int .i64 x).wf = true) → ∃ k, laws_FnExactWorstToBreak.f k a0_0 l0_1 l0_2 = some true := by
  intro a0_0 l0_1 l0_2 w0_0 hm0_1 hw0_1 hm0_2 hw0_2
  by_cases hN0 : ¬ l0_1.length + l0_2.length ≤ 1048576
  · exact ⟨1, by unfold laws_FnExactWorstToBreak.f; simp [szStairs_no a0_0 l0_1 l0_2 hm0_1 hm0_2 hN0]⟩
  have hZ0 : l0_1.length + l0_2.length ≤ 1048576 := by omega
  have hl0_1 : l0_1.length ≤ 1048576 := by omega
  have hl0_2 : l0_2.length ≤ 1048576 := by omega
  have hz0 := szStairs_yes a0_0 l0_1 l0_2 hZ0
  obtain ⟨w0, w1, w2, hS, hI⟩ := FnExactWorstToBreak_agree a0_0 l0_1 l0_2 hl0_1 hl0_2
  obtain ⟨K0, k0⟩ := (show Ev (fun k => spec_WorstToBreak.f k a0_0 l0_1 l0_2) (w0, w1, w2) from hS)
  obtain ⟨K1, k1⟩ := (show Ev (fun k => impl_WorstToBreak.f k a0_0 l0_1 l0_2) (w0, w1, w2) from hI)
  obtain ⟨K2, k2⟩ := (show Ev (fun k => laws_toIntS.f k l0_1) l0_1 from toIntS_ev _ hl0_1)
  obtain ⟨K3, k3⟩ := (show Ev (fun k => laws_eqIntS.f k l0_1 l0_1) true from eqIntS_ev _ hl0_1)
  obtain ⟨K4, k4⟩ := (show Ev (fun k => laws_toIntS.f k l0_2) l0_2 from toIntS_ev _ hl0_2)
  obtain ⟨K5, k5⟩ := (show Ev (fun k => laws_eqIntS.f k l0_2 l0_2) true from eqIntS_ev _ hl0_2)
  obtain ⟨K, hK⟩ : ∃ K, K = K0 + K1 + K2 + K3 + K4 + K5 := ⟨_, rfl⟩
  have e0 : ∀ j, spec_WorstToBreak.f (K + j) a0_0 l0_1 l0_2 = some (w0, w1, w2) := fun j => k0 (K + j) (by omega)
  have e1 : ∀ j, impl_WorstToBreak.f (K + j) a0_0 l0_1 l0_2 = some (w0, w1, w2) := fun j => k1 (K + j) (by omega)
  have e2 : ∀ j, laws_toIntS.f (K + j) l0_1 = some l0_1 := fun j => k2 (K + j) (by omega)
  have e3 : ∀ j, laws_eqIntS.f (K + j) l0_1 l0_1 = some true := fun j => k3 (K + j) (by omega)
  have e4 : ∀ j, laws_toIntS.f (K + j) l0_2 = some l0_2 := fun j => k4 (K + j) (by omega)
  have e5 : ∀ j, laws_eqIntS.f (K + j) l0_2 l0_2 = some true := fun j => k5 (K + j) (by omega)
  clear k0 k1 k2 k3 k4 k5 hK
  refine ⟨K + 16, ?_⟩
  simp [laws_FnExactWorstToBreak.f, laws_FnExactWorstToBreak.j0, laws_toStairs.f, laws_eqStairs.f, e0, e1, e2, e3, e4, e5, hz0]

end Go.Proofs.Ytfmppcfebkmbnaa.Pure
