/- The pure statement of FnExactStepsOfClimb: the printed function returns true for all arguments within their kinds; no other condition. -/
import Derived.Test.YtfmppcfebkmbnaaPFnExactStepsOfClimbx
namespace Go.Proofs.Ytfmppcfebkmbnaa.Pure
open Go.RowKit Go.Proofs.Ytfmppcfebkmbnaa.PFnExactStepsOfClimb Go.Proofs.YtfmppcfebkmbnaaW.PrintWords Go.Proofs.YtfmppcfebkmbnaaW.PrintLast Go.Proofs.YtfmppcfebkmbnaaW.PrintMore
set_option linter.unusedVariables false
set_option linter.unusedSimpArgs false
theorem in_val (a b c : Int) : spec_l1In.f a b c = some (decide (b ≤ a ∧ a ≤ c)) := by
  unfold spec_l1In.f
  by_cases h : b ≤ a <;> simp [h]
theorem within_val (a b c : Int) : impl_within.f a b c = some (decide (b ≤ a ∧ a ≤ c)) := by
  unfold impl_within.f
  by_cases h : b ≤ a <;> simp [h]

theorem wsucc (i : Nat) (h : i < 4611686018427387904) : wrap64 ((i : Int) + 1) = ((i + 1 : Nat) : Int) := by
  unfold wrap64
  omega
theorem kpred {d k : Nat} (h : d < k) : ∃ m, k = m + 1 := ⟨k - 1, by omega⟩
theorem rd_nat (l : List Int) (i : Nat) : rd l (i : Int) = l.getD i 0 := by simp [rd]
theorem take_set_succ (x : List Int) (i : Nat) (v : Int) (h : i < x.length) : (x.set i v).take (i + 1) = x.take i ++ [v] := by
  rw [List.take_add_one, List.take_set_of_le (Nat.le_refl i), List.getElem?_set_self h]
  rfl
theorem take_get_succ (x : List Int) (i : Nat) (h : i < x.length) : x.take (i + 1) = x.take i ++ [x.getD i 0] := by
  rw [List.take_add_one, List.getElem?_eq_getElem h, List.getD_eq_getElem?_getD, List.getElem?_eq_getElem h]
  rfl
theorem w_id {x : Int} (h0 : -4611686018427387904 ≤ x) (h1 : x ≤ 4611686018427387904) : wrap64 x = x := by
  unfold wrap64
  omega
theorem w_sub (k r : Nat) (h : r ≤ k) (hk : k ≤ 1000000000) : wrap64 ((k : Int) - (r : Int)) = ((k - r : Nat) : Int) := by
  rw [w_id (by omega) (by omega)]
  omega
theorem w_add (a b : Nat) (h : a ≤ 1000000000) (hb : b ≤ 1000000000) : wrap64 ((a : Int) + (b : Int)) = ((a + b : Nat) : Int) := by
  rw [w_id (by omega) (by omega)]
  omega
theorem w_pred (k : Nat) (h : 1 ≤ k) (hk : k ≤ 1000000000) : wrap64 ((k : Int) - 1) = ((k - 1 : Nat) : Int) := by
  rw [w_id (by omega) (by omega)]
  omega

theorem Ev.ite_true {α : Type} {g f : Nat → Option α} {r : α} {b : Bool} (h : b = true) (k : Ev g r) : Ev (fun n => if b = true then g n else f n) r := by
  subst h
  simpa using k
theorem Ev.ite_false {α : Type} {g f : Nat → Option α} {r : α} {b : Bool} (h : b = false) (k : Ev f r) : Ev (fun n => if b = true then g n else f n) r := by
  subst h
  simpa using k

theorem toIntS_l (l : List Int) (hB : l.length ≤ 1048576) : ∀ (d k i : Nat) (x : List Int), l.length - i = d → d < k → i ≤ l.length → x.length = l.length → x.take i = l.take i →
    laws_toIntS.l0 k l x (i : Int) = some l := by
  intro d
  induction d with
  | zero =>
    intro k i x hd hk hi hx ht
    obtain ⟨k, rfl⟩ := kpred hk
    have e : i = l.length := by omega
    simp only [laws_toIntS.l0]
    rw [if_neg (by omega)]
    have h1 := ht
    rw [e, List.take_length, ← hx, List.take_length] at h1
    rw [h1]
  | succ d ih =>
    intro k i x hd hk hi hx ht
    obtain ⟨k, rfl⟩ := kpred hk
    simp only [laws_toIntS.l0]
    rw [if_pos (by omega), if_pos (by omega), if_pos (by omega), wsucc i (by omega), Int.toNat_natCast, rd_nat]
    refine ih k (i + 1) _ (by omega) (by omega) (by omega) (by simpa using hx) ?_
    rw [take_set_succ _ _ _ (by omega), take_get_succ _ _ (by omega), ht]
theorem toIntS_val (l : List Int) (hB : l.length ≤ 1048576) (k : Nat) (hk : l.length < k) : laws_toIntS.f k l = some l := by
  unfold laws_toIntS.f
  rw [if_pos (by omega), if_pos (by rw [Int.toNat_natCast]; omega)]
  exact toIntS_l l hB l.length k 0 _ (by omega) hk (by omega) (by simp) (by simp)

theorem toIntS_ev (l : List Int) (hB : l.length ≤ 1048576) : Ev (fun k => laws_toIntS.f k l) l := ⟨l.length + 1, fun k hk => toIntS_val l hB k (by omega)⟩

theorem eqIntS_l (l : List Int) (hB : l.length ≤ 1048576) : ∀ (d k i : Nat), l.length - i = d → d < k → i ≤ l.length → laws_eqIntS.l0 k l l (i : Int) = some true := by
  intro d
  induction d with
  | zero =>
    intro k i hd hk hi
    obtain ⟨k, rfl⟩ := kpred hk
    simp only [laws_eqIntS.l0]
    rw [if_neg (by omega)]
  | succ d ih =>
    intro k i hd hk hi
    obtain ⟨k, rfl⟩ := kpred hk
    simp only [laws_eqIntS.l0]
    rw [if_pos (by omega), if_pos (by omega), if_pos (by omega), if_pos trivial, wsucc i (by omega)]
    exact ih k (i + 1) (by omega) (by omega) (by omega)
theorem eqIntS_val (l : List Int) (hB : l.length ≤ 1048576) (k : Nat) (hk : l.length < k) : laws_eqIntS.f k l l = some true := by
  unfold laws_eqIntS.f
  rw [if_pos rfl]
  exact eqIntS_l l hB l.length k 0 (by omega) hk (by omega)

theorem eqIntS_ev (l : List Int) (hB : l.length ≤ 1048576) : Ev (fun k => laws_eqIntS.f k l l) true := ⟨l.length + 1, fun k hk => eqIntS_val l hB k (by omega)⟩

/-- Numbers increase, and are from lo to hi; p: the one before. -/
def riseV (lo hi : Int) : Option Int → List Int → Bool
  | _, [] => true
  | p, x :: xs => decide (lo ≤ x ∧ x ≤ hi) && (match p with | none => true | some q => decide (q < x)) && riseV lo hi (some x) xs
theorem drop_cons' (l : List Int) (i : Nat) (h : i < l.length) : l.drop i = l.getD i 0 :: l.drop (i + 1) := by
  rw [List.drop_eq_getElem_cons h, List.getD_eq_getElem?_getD, List.getElem?_eq_getElem h]
  rfl
def before (l : List Int) (i : Nat) : Option Int := if i = 0 then none else some (l.getD (i - 1) 0)
theorem rising_l (l : List Int) (hl : l.length ≤ 1048576) (lo hh : Int) : ∀ (d i : Nat), l.length - i = d → i ≤ l.length →
    Ev (fun k => spec_l1Rising.l0 k l lo hh l (l.length : Int) (i : Int)) (riseV lo hh (before l i) (l.drop i)) ∧ Ev (fun k => impl_rise.l0 k l lo hh l (l.length : Int) (i : Int)) (riseV lo hh (before l i) (l.drop i)) := by
  intro d
  induction d with
  | zero =>
    intro i hd hi
    rw [List.drop_eq_nil_of_le (by omega)]
    refine ⟨Ev.step (fun k => ?_) (Ev.now _), Ev.step (fun k => ?_) (Ev.now _)⟩
    · simp only [spec_l1Rising.l0]
      rw [if_neg (by omega)]
      rfl
    · simp only [impl_rise.l0]
      rw [if_neg (by omega)]
      rfl
  | succ d ih =>
    intro i hd hi
    obtain ⟨ih1, ih2⟩ := ih (i + 1) (by omega) (by omega)
    have hb : before l (i + 1) = some (l.getD i 0) := by simp [before]
    rw [hb, ← wsucc i (by omega)] at ih1 ih2
    rw [drop_cons' l i (by omega)]
    simp only [riseV]
    by_cases h1 : lo ≤ l.getD i 0 ∧ l.getD i 0 ≤ hh
    · rw [decide_eq_true h1]
      by_cases h0 : i = 0
      · have hbi : before l i = none := by simp [before, h0]
        rw [hbi]
        refine ⟨Ev.step (fun k => ?_) ih1, Ev.step (fun k => ?_) ih2⟩
        · simp only [spec_l1Rising.l0]
          rw [if_pos (by omega), if_pos (by omega), if_pos (by omega), rd_nat, in_val]
          simp only [Option.bind_some]
          rw [decide_eq_true h1, if_pos rfl, if_neg (by omega)]
        · simp only [impl_rise.l0]
          rw [if_pos (by omega), if_pos (by omega), if_pos (by omega), rd_nat, within_val]
          simp only [Option.bind_some]
          rw [decide_eq_true h1, if_pos rfl, if_neg (by omega)]
      · have hbi : before l i = some (l.getD (i - 1) 0) := by simp [before, h0]
        have hw : wrap64 ((i : Int) - 1) = ((i - 1 : Nat) : Int) := by
          unfold wrap64
          omega
        rw [hbi]
        by_cases h2 : l.getD (i - 1) 0 < l.getD i 0
        · simp only [decide_eq_true h2]
          refine ⟨Ev.step (fun k => ?_) ih1, Ev.step (fun k => ?_) ih2⟩
          · simp only [spec_l1Rising.l0]
            rw [if_pos (by omega), if_pos (by omega), if_pos (by omega), rd_nat, in_val]
            simp only [Option.bind_some]
            rw [decide_eq_true h1, if_pos rfl, if_pos (by omega), hw, if_pos (by omega), if_pos (by omega), rd_nat, if_neg (by omega)]
          · simp only [impl_rise.l0]
            rw [if_pos (by omega), if_pos (by omega), if_pos (by omega), rd_nat, within_val]
            simp only [Option.bind_some]
            rw [decide_eq_true h1, if_pos rfl, if_pos (by omega), hw, if_pos (by omega), if_pos (by omega), rd_nat, if_neg (by omega)]
        · simp only [decide_eq_false h2]
          refine ⟨Ev.step (fun k => ?_) (Ev.now _), Ev.step (fun k => ?_) (Ev.now _)⟩
          · simp only [spec_l1Rising.l0]
            rw [if_pos (by omega), if_pos (by omega), if_pos (by omega), rd_nat, in_val]
            simp only [Option.bind_some]
            rw [decide_eq_true h1, if_pos rfl, if_pos (by omega), hw, if_pos (by omega), if_pos (by omega), rd_nat, if_pos (by omega)]
            rfl
          · simp only [impl_rise.l0]
            rw [if_pos (by omega), if_pos (by omega), if_pos (by omega), rd_nat, within_val]
            simp only [Option.bind_some]
            rw [decide_eq_true h1, if_pos rfl, if_pos (by omega), hw, if_pos (by omega), if_pos (by omega), rd_nat, if_pos (by omega)]
            rfl
    · rw [decide_eq_false h1]
      refine ⟨Ev.step (fun k => ?_) (Ev.now _), Ev.step (fun k => ?_) (Ev.now _)⟩
      · simp only [spec_l1Rising.l0]
        rw [if_pos (by omega), if_pos (by omega), if_pos (by omega), rd_nat, in_val]
        simp only [Option.bind_some]
        rw [decide_eq_false h1, if_neg (by simp)]
        rfl
      · simp only [impl_rise.l0]
        rw [if_pos (by omega), if_pos (by omega), if_pos (by omega), rd_nat, within_val]
        simp only [Option.bind_some]
        rw [decide_eq_false h1, if_neg (by simp)]
        rfl
theorem rising_ev (l : List Int) (hl : l.length ≤ 1048576) (lo hi : Int) : Ev (fun k => spec_l1Rising.f k l lo hi) (riseV lo hi none l) ∧ Ev (fun k => impl_rise.f k l lo hi) (riseV lo hi none l) := by
  have h := rising_l l hl lo hi _ 0 rfl (by omega)
  simp only [before, List.drop_zero, if_true] at h
  exact h
/-- The numbers are stairs. -/
def goodS (s : Int) (a b : List Int) : Bool := decide (1 ≤ s ∧ s ≤ 60) && (decide (1 ≤ (a.length : Int) ∧ (a.length : Int) ≤ 5) && (riseV 1 9 none a && riseV 1 (s - 1) none b))
theorem clGood_ev (s : Int) (a b : List Int) (ha : a.length ≤ 1048576) (hb : b.length ≤ 1048576) : Ev (fun k => spec_clGood.f k s a b) (goodS s a b) := by
  unfold spec_clGood.f goodS
  simp only [in_val, Option.bind_some]
  by_cases h1 : 1 ≤ s ∧ s ≤ 60
  · have hw : wrap64 (s - 1) = s - 1 := by
      unfold wrap64
      omega
    simp only [decide_eq_true h1, Bool.true_and, hw, if_true]
    by_cases h2 : 1 ≤ (a.length : Int) ∧ (a.length : Int) ≤ 5
    · simp only [decide_eq_true h2, Bool.true_and, if_true]
      refine Ev.bind (rising_ev a ha 1 9).1 ?_
      cases h3 : riseV 1 9 none a
      · simp only [Bool.false_and]
        exact Ev.congr (fun k => if_neg (by simp)) (Ev.now _)
      · simp only [Bool.true_and, if_true]
        exact Ev.bind (rising_ev b hb 1 (s - 1)).1 (Ev.now _)
    · simp only [decide_eq_false h2, Bool.false_and]
      exact Ev.congr (fun k => if_neg (by simp)) (Ev.now _)
  · simp only [decide_eq_false h1, Bool.false_and]
    exact Ev.congr (fun k => if_neg (by simp)) (Ev.now _)
theorem areStairs_ev (s : Int) (a b : List Int) (ha : a.length ≤ 1048576) (hb : b.length ≤ 1048576) : Ev (fun k => impl_AreStairs.f k s a b) (goodS s a b) := by
  unfold impl_AreStairs.f goodS
  simp only [within_val, Option.bind_some]
  by_cases h1 : 1 ≤ s ∧ s ≤ 60
  · have hw : wrap64 (s - 1) = s - 1 := by
      unfold wrap64
      omega
    simp only [decide_eq_true h1, Bool.true_and, hw, if_true]
    by_cases h2 : 1 ≤ (a.length : Int) ∧ (a.length : Int) ≤ 5
    · simp only [decide_eq_true h2, Bool.true_and, if_true]
      refine Ev.bind (rising_ev a ha 1 9).2 ?_
      cases h3 : riseV 1 9 none a
      · simp only [Bool.false_and]
        exact Ev.congr (fun k => if_neg (by simp)) (Ev.now _)
      · simp only [Bool.true_and, if_true]
        exact Ev.bind (rising_ev b hb 1 (s - 1)).2 (Ev.now _)
    · simp only [decide_eq_false h2, Bool.false_and]
      exact Ev.congr (fun k => if_neg (by simp)) (Ev.now _)
  · simp only [decide_eq_false h1, Bool.false_and]
    exact Ev.congr (fun k => if_neg (by simp)) (Ev.now _)
theorem szIntS_val (l : List Int) (n : Int) : laws_szIntS.f l n = some (if wrap64 (n - (l.length : Int)) < 0 then -1 else wrap64 (n - (l.length : Int))) := by
  unfold laws_szIntS.f
  split <;> rfl
theorem szStairs_yes (s : Int) (a b : List Int) (h : a.length + b.length ≤ 1048576) : laws_szStairs.f s a b 1048576 = some (1048576 - (a.length : Int) - (b.length : Int)) := by
  have w1 : wrap64 (1048576 - (a.length : Int)) = 1048576 - (a.length : Int) := by
    unfold wrap64
    omega
  have w2 : wrap64 (1048576 - (a.length : Int) - (b.length : Int)) = 1048576 - (a.length : Int) - (b.length : Int) := by
    unfold wrap64
    omega
  unfold laws_szStairs.f
  rw [szIntS_val, w1, if_neg (by omega)]
  simp only [Option.bind_some]
  rw [if_neg (by omega), szIntS_val, w2, if_neg (by omega)]
  simp only [Option.bind_some]
  rw [if_neg (by omega)]

theorem szStairs_no (s : Int) (a b : List Int) (ha : a.length ≤ maxLen) (hb : b.length ≤ maxLen) (h : ¬ a.length + b.length ≤ 1048576) : laws_szStairs.f s a b 1048576 = some (-1) := by
  unfold maxLen at ha hb
  unfold laws_szStairs.f
  rw [szIntS_val]
  simp only [Option.bind_some]
  have w1 : wrap64 (1048576 - (a.length : Int)) = 1048576 - (a.length : Int) := by
    unfold wrap64
    omega
  rw [w1]
  by_cases h1 : 1048576 - (a.length : Int) < 0
  · rw [if_pos h1, if_pos (by omega)]
  · rw [if_neg h1, if_neg h1, szIntS_val]
    have w2 : wrap64 (1048576 - (a.length : Int) - (b.length : Int)) = 1048576 - (a.length : Int) - (b.length : Int) := by
      unfold wrap64
      omega
    simp only [Option.bind_some]
    rw [w2, if_pos (by omega)]

theorem drop_info {α : Type} {d : α} {l : List α} {i : Nat} {x : α} {xs : List α} (h : l.drop i = x :: xs) : i < l.length ∧ l.getD i d = x ∧ l.drop (i + 1) = xs := by
  have hl : l.length - i = xs.length + 1 := by
    have := congrArg List.length h
    rwa [List.length_drop, List.length_cons] at this
  have hi : i < l.length := by omega
  rw [List.drop_eq_getElem_cons hi] at h
  refine ⟨hi, ?_, (List.cons.inj h).2⟩
  rw [List.getD_eq_getElem?_getD, List.getElem?_eq_getElem hi]
  exact (List.cons.inj h).1
theorem drop_nil' {α : Type} {l : List α} {i : Nat} (h : l.drop i = []) : l.length ≤ i := by
  have := congrArg List.length h
  rw [List.length_drop, List.length_nil] at this
  omega
theorem has_l (l : List Int) (hl : l.length ≤ 1048576) (a : Int) : ∀ (ks : List Int) (i : Nat), l.drop i = ks → Ev (fun k => spec_l1Has.l0 k a l (l.length : Int) (i : Int)) (decide (a ∈ ks)) ∧
    ∃ r, Ev (fun k => slices_Index_int_int.l0 k l a (l.length : Int) (i : Int)) r ∧ (decide (r ≥ 0)) = decide (a ∈ ks) := by
  intro ks
  induction ks with
  | nil =>
    intro i hd
    have := drop_nil' hd
    refine ⟨Ev.step (fun k => ?_) (Ev.now _), -1, Ev.step (fun k => ?_) (Ev.now _), by simp⟩
    · simp only [spec_l1Has.l0]
      rw [if_neg (by omega)]
      simp
    · simp only [slices_Index_int_int.l0]
      rw [if_neg (by omega)]
  | cons x ks ih =>
    intro i hd
    obtain ⟨hi, hx, hd'⟩ := drop_info (d := 0) hd
    obtain ⟨h1, r, h2, h3⟩ := ih (i + 1) hd'
    rw [← wsucc i (by omega)] at h1 h2
    by_cases ha : x = a
    · refine ⟨Ev.step (fun k => ?_) (Ev.now _), (i : Int), Ev.step (fun k => ?_) (Ev.now _), ?_⟩
      · simp only [spec_l1Has.l0]
        rw [if_pos (by omega), if_pos (by omega), if_pos (by omega), rd_nat, hx, if_pos ha]
        simp [ha]
      · simp only [slices_Index_int_int.l0]
        rw [if_pos (by omega), if_pos (by omega), if_pos (by omega), rd_nat, hx, if_pos ha.symm]
      · rw [decide_eq_true (by omega : (i : Int) ≥ 0), decide_eq_true (by simp [ha])]
    · have he : (decide (a ∈ x :: ks)) = decide (a ∈ ks) := by
        have : ¬ a = x := fun h => ha h.symm
        simp [this]
      rw [he]
      refine ⟨Ev.step (fun k => ?_) h1, r, Ev.step (fun k => ?_) h2, h3⟩
      · simp only [spec_l1Has.l0]
        rw [if_pos (by omega), if_pos (by omega), if_pos (by omega), rd_nat, hx, if_neg ha]
      · simp only [slices_Index_int_int.l0]
        rw [if_pos (by omega), if_pos (by omega), if_pos (by omega), rd_nat, hx, if_neg (fun h => ha h.symm)]
theorem has_ev (l : List Int) (hl : l.length ≤ 1048576) (a : Int) : Ev (fun k => spec_l1Has.f k l a) (decide (a ∈ l)) := (has_l l hl a l 0 rfl).1
theorem contains_ev (l : List Int) (hl : l.length ≤ 1048576) (a : Int) : Ev (fun k => slices_Contains_int_int.f k l a) (decide (a ∈ l)) := by
  obtain ⟨r, h2, h3⟩ := (has_l l hl a l 0 rfl).2
  exact Ev.bind (f := fun k t => some (decide (t ≥ 0))) h2 (h3 ▸ Ev.now _)
theorem stands_ev (s : Int) (S B : List Int) (hB : B.length ≤ 1048576) (a : Int) : Ev (fun k => spec_clStands.f k s S B a) (decide (0 ≤ a ∧ a ≤ s) && !decide (a ∈ B)) := by
  unfold spec_clStands.f
  simp only [in_val, Option.bind_some]
  by_cases h : 0 ≤ a ∧ a ≤ s
  · simp only [decide_eq_true h, if_true, Bool.true_and]
    exact Ev.bind (has_ev B hB a) (Ev.now _)
  · simp only [decide_eq_false h, Bool.false_and]
    exact Ev.congr (fun k => if_neg (by simp)) (Ev.now _)
theorem broken_ev (s : Int) (S B : List Int) (hB : B.length ≤ 1048576) (a : Int) : Ev (fun k => impl_Stairs_isBroken.f k s S B a) (decide (a ∈ B)) := by
  unfold impl_Stairs_isBroken.f
  exact Ev.bind (contains_ev B hB a) (Ev.now _)

theorem rise_mem {lo hi : Int} : ∀ {p : Option Int} {l : List Int}, riseV lo hi p l = true → ∀ x ∈ l, lo ≤ x ∧ x ≤ hi := by
  intro p l
  induction l generalizing p with
  | nil => intro _ x hx; simp at hx
  | cons y l ih =>
    intro h x hx
    simp only [riseV, Bool.and_eq_true, decide_eq_true_eq] at h
    rcases List.mem_cons.mp hx with rfl | hx
    · exact h.1.1
    · exact ih h.2 x hx
theorem goodS_bd {s : Int} {S B : List Int} (h : goodS s S B = true) : 1 ≤ s ∧ s ≤ 60 ∧ 1 ≤ S.length ∧ S.length ≤ 5 ∧ (∀ x ∈ S, 1 ≤ x ∧ x ≤ 9) ∧ (∀ x ∈ B, 1 ≤ x ∧ x ≤ s - 1) ∧ riseV 1 9 none S = true := by
  simp only [goodS, Bool.and_eq_true, decide_eq_true_eq] at h
  obtain ⟨⟨h1, h2⟩, ⟨h3, h4⟩, h5, h6⟩ := h
  exact ⟨h1, h2, by omega, by omega, rise_mem h5, rise_mem h6, h5⟩

def isC (s : Int) (S B : List Int) : Int → List Int → Bool
  | at_, [] => at_ == s
  | at_, x :: xs => decide (x ∈ S) && (decide (at_ + x ≤ s) && (!decide (at_ + x ∈ B) && isC s S B (at_ + x) xs))
theorem isC_l (s : Int) (S B : List Int) (hS : S.length ≤ 1048576) (hB : B.length ≤ 1048576) (hs : s ≤ 60) (hm : ∀ x ∈ S, 1 ≤ x ∧ x ≤ 9) (c : List Int) (hc : c.length ≤ 1048576) :
    ∀ (ks : List Int) (i : Nat) (at_ : Int), c.drop i = ks → 0 ≤ at_ → at_ ≤ s →
    Ev (fun k => spec_clIs.l0 k at_ c (c.length : Int) (i : Int) s S B) (isC s S B at_ ks) ∧ Ev (fun k => impl_Stairs_isClimb.l0 k at_ c (c.length : Int) (i : Int) s S B) (isC s S B at_ ks) := by
  intro ks
  induction ks with
  | nil =>
    intro i at_ hd h0 h1
    have := drop_nil' hd
    refine ⟨Ev.step (fun k => ?_) (Ev.now _), Ev.step (fun k => ?_) (Ev.now _)⟩
    · simp only [spec_clIs.l0]
      rw [if_neg (by omega)]
      rfl
    · simp only [impl_Stairs_isClimb.l0]
      rw [if_neg (by omega)]
      rfl
  | cons x ks ih =>
    intro i at_ hd h0 h1
    obtain ⟨hi, hx, hd'⟩ := drop_info (d := 0) hd
    simp only [isC]
    by_cases hin : x ∈ S
    · have hx9 := hm x hin
      have hw : wrap64 (at_ + x) = at_ + x := w_id (by omega) (by omega)
      by_cases hle : at_ + x ≤ s
      · by_cases hbr : at_ + x ∈ B
        · simp only [decide_eq_true hin, decide_eq_true hle, decide_eq_true hbr, Bool.true_and, Bool.not_true, Bool.false_and]
          have st := stands_ev s S B hB (at_ + x)
          rw [decide_eq_true (⟨by omega, hle⟩ : 0 ≤ at_ + x ∧ at_ + x ≤ s), decide_eq_true hbr] at st
          refine ⟨Ev.step (fun k => ?_) (Ev.bind (f := fun k t => if t = true then (spec_clStands.f k s S B (at_ + x)).bind fun t => if t = true then spec_clIs.l0 k (at_ + x) c (c.length : Int) ((i + 1 : Nat) : Int) s S B else some false else some false) (has_ev S hS x) ?_),
            Ev.step (fun k => ?_) (Ev.bind (f := fun k t => if t = true then (impl_Stairs_isBroken.f k s S B (at_ + x)).bind fun t => if t = true then some false else impl_Stairs_isClimb.l0 k (at_ + x) c (c.length : Int) ((i + 1 : Nat) : Int) s S B else some false) (contains_ev S hS x) ?_)⟩
          · simp only [spec_clIs.l0]
            rw [if_pos (by omega), if_pos (by omega), if_pos (by omega), rd_nat, hx, hw, wsucc i (by omega)]
          · exact Ev.ite_true (decide_eq_true hin) (Ev.bind st (Ev.ite_false (by simp) (Ev.now _)))
          · simp only [impl_Stairs_isClimb.l0]
            rw [if_pos (by omega), if_pos (by omega), if_pos (by omega), rd_nat, hx, hw, wsucc i (by omega), if_neg (by omega)]
          · exact Ev.ite_true (decide_eq_true hin) (Ev.bind (broken_ev s S B hB _) (Ev.ite_true (decide_eq_true hbr) (Ev.now _)))
        · obtain ⟨ih1, ih2⟩ := ih (i + 1) (at_ + x) hd' (by omega) hle
          simp only [decide_eq_true hin, decide_eq_true hle, decide_eq_false hbr, Bool.true_and, Bool.not_false]
          have st := stands_ev s S B hB (at_ + x)
          rw [decide_eq_true (⟨by omega, hle⟩ : 0 ≤ at_ + x ∧ at_ + x ≤ s), decide_eq_false hbr] at st
          refine ⟨Ev.step (fun k => ?_) (Ev.bind (f := fun k t => if t = true then (spec_clStands.f k s S B (at_ + x)).bind fun t => if t = true then spec_clIs.l0 k (at_ + x) c (c.length : Int) ((i + 1 : Nat) : Int) s S B else some false else some false) (has_ev S hS x) ?_),
            Ev.step (fun k => ?_) (Ev.bind (f := fun k t => if t = true then (impl_Stairs_isBroken.f k s S B (at_ + x)).bind fun t => if t = true then some false else impl_Stairs_isClimb.l0 k (at_ + x) c (c.length : Int) ((i + 1 : Nat) : Int) s S B else some false) (contains_ev S hS x) ?_)⟩
          · simp only [spec_clIs.l0]
            rw [if_pos (by omega), if_pos (by omega), if_pos (by omega), rd_nat, hx, hw, wsucc i (by omega)]
          · exact Ev.ite_true (decide_eq_true hin) (Ev.bind st (Ev.ite_true (by simp) ih1))
          · simp only [impl_Stairs_isClimb.l0]
            rw [if_pos (by omega), if_pos (by omega), if_pos (by omega), rd_nat, hx, hw, wsucc i (by omega), if_neg (by omega)]
          · exact Ev.ite_true (decide_eq_true hin) (Ev.bind (broken_ev s S B hB _) (Ev.ite_false (decide_eq_false hbr) ih2))
      · simp only [decide_eq_true hin, decide_eq_false hle, Bool.true_and, Bool.false_and]
        have st := stands_ev s S B hB (at_ + x)
        rw [decide_eq_false (fun h => hle h.2 : ¬ (0 ≤ at_ + x ∧ at_ + x ≤ s)), Bool.false_and] at st
        refine ⟨Ev.step (fun k => ?_) (Ev.bind (f := fun k t => if t = true then (spec_clStands.f k s S B (at_ + x)).bind fun t => if t = true then spec_clIs.l0 k (at_ + x) c (c.length : Int) ((i + 1 : Nat) : Int) s S B else some false else some false) (has_ev S hS x) ?_),
          Ev.step (fun k => ?_) (Ev.bind (f := fun k t => if t = true then some false else some false) (contains_ev S hS x) ?_)⟩
        · simp only [spec_clIs.l0]
          rw [if_pos (by omega), if_pos (by omega), if_pos (by omega), rd_nat, hx, hw, wsucc i (by omega)]
        · exact Ev.ite_true (decide_eq_true hin) (Ev.bind st (Ev.ite_false rfl (Ev.now _)))
        · simp only [impl_Stairs_isClimb.l0]
          rw [if_pos (by omega), if_pos (by omega), if_pos (by omega), rd_nat, hx, hw, if_pos (by omega)]
        · exact Ev.ite_true (decide_eq_true hin) (Ev.now _)
    · simp only [decide_eq_false hin, Bool.false_and]
      refine ⟨Ev.step (g := fun k => spec_clIs.l0 k at_ c (c.length : Int) (i : Int) s S B) (fun k => ?_) (Ev.bind (f := fun k t => if t = true then (spec_clStands.f k s S B (wrap64 (at_ + x))).bind fun t => if t = true then spec_clIs.l0 k (wrap64 (at_ + x)) c (c.length : Int) ((i + 1 : Nat) : Int) s S B else some false else some false) (has_ev S hS x) ?_),
        Ev.step (fun k => ?_) (Ev.bind (f := fun k t => if t = true then (if wrap64 (at_ + x) > s then some false else (impl_Stairs_isBroken.f k s S B (wrap64 (at_ + x))).bind fun t => if t = true then some false else impl_Stairs_isClimb.l0 k (wrap64 (at_ + x)) c (c.length : Int) ((i + 1 : Nat) : Int) s S B) else some false) (contains_ev S hS x) ?_)⟩
      · simp only [spec_clIs.l0]
        rw [if_pos (by omega), if_pos (by omega), if_pos (by omega), rd_nat, hx, wsucc i (by omega)]
      · exact Ev.ite_false (decide_eq_false hin) (Ev.now _)
      · simp only [impl_Stairs_isClimb.l0]
        rw [if_pos (by omega), if_pos (by omega), if_pos (by omega), rd_nat, hx, wsucc i (by omega)]
      · exact Ev.ite_false (decide_eq_false hin) (Ev.now _)
theorem clIs_ev (s : Int) (S B c : List Int) (hg : goodS s S B = true) (hB : B.length ≤ 1048576) (hc : c.length ≤ 1048576) :
    Ev (fun k => spec_clIs.f k s S B c) (isC s S B 0 c) ∧ Ev (fun k => impl_Stairs_isClimb.f k s S B c) (isC s S B 0 c) := by
  obtain ⟨h1, h2, h3, h4, h5, h6, _⟩ := goodS_bd hg
  exact isC_l s S B (by omega) hB h2 h5 c hc c 0 0 rfl (by omega) (by omega)

theorem clBoth_ev (s : Int) (S B c : List Int) (hS : S.length ≤ 1048576) (hB : B.length ≤ 1048576) (hc : c.length ≤ 1048576) :
    Ev (fun k => spec_clBoth.f k s S B c) (goodS s S B && (goodS s S B && isC s S B 0 c)) := by
  unfold spec_clBoth.f
  by_cases hg : goodS s S B = true
  · obtain ⟨h1, _⟩ := clIs_ev s S B c hg hB hc
    rw [hg, Bool.true_and, Bool.true_and]
    exact Ev.bind (clGood_ev _ _ _ hS hB) (Ev.ite_true hg (Ev.bind h1 (Ev.now _)))
  · have hg' : goodS s S B = false := Bool.eq_false_iff.mpr hg
    rw [hg', Bool.false_and]
    exact Ev.bind (clGood_ev _ _ _ hS hB) (Ev.ite_false hg' (Ev.now _))

def marked (n : Nat) (m : Int) : List Int := (List.range n).map fun (j : Nat) => m + (j : Int)
theorem marked_length (n : Nat) (m : Int) : (marked n m).length = n := by simp [marked]
theorem marked_succ (n : Nat) (m : Int) : marked (n + 1) m = m :: marked n (m + 1) := by
  simp only [marked, List.range_succ_eq_map, List.map_cons, List.map_map]
  congr 1
  · omega
  · apply List.map_congr_left
    intro j _
    simp only [Function.comp]
    omega
theorem marked_get (n : Nat) (m : Int) (j : Nat) (h : j < n) : (marked n m).getD j 0 = m + (j : Int) := by
  simp [marked, List.getD_eq_getElem?_getD, h]
theorem markIntS_l : ∀ (d k i : Nat) (l : List Int) (m : Int), l.length ≤ 1048576 → l.length - i = d → d < k → i ≤ l.length → 0 ≤ m → m + (d : Int) ≤ 1000000000 →
    laws_markIntS.l0 k l m (i : Int) = some (m + (d : Int), l.take i ++ marked d m) := by
  intro d
  induction d with
  | zero =>
    intro k i l m hB hd hk hi _ _
    obtain ⟨k, rfl⟩ := kpred hk
    simp only [laws_markIntS.l0]
    rw [if_neg (by omega)]
    have e : i = l.length := by omega
    rw [e, List.take_length]
    simp [marked]
  | succ d ih =>
    intro k i l m hB hd hk hi h0 h1
    obtain ⟨k, rfl⟩ := kpred hk
    simp only [laws_markIntS.l0]
    have hw : wrap64 (m + 1) = m + 1 := by
      unfold wrap64
      omega
    rw [if_pos (by omega), if_pos (by omega), hw, wsucc i (by omega), Int.toNat_natCast]
    rw [ih k (i + 1) (l.set i m) (m + 1) (by simpa using hB) (by rw [List.length_set]; omega) (by omega) (by rw [List.length_set]; omega) (by omega) (by omega)]
    rw [take_set_succ _ _ _ (by omega), marked_succ, List.append_assoc]
    congr 2
    omega
theorem markIntS_val (l : List Int) (hB : l.length ≤ 1048576) (m : Int) (h0 : 0 ≤ m) (h1 : m ≤ 900000000) (k : Nat) (hk : l.length < k) :
    laws_markIntS.f k l m = some (m + (l.length : Int), marked l.length m) := by
  unfold laws_markIntS.f
  have := markIntS_l l.length k 0 l m hB (by omega) hk (by omega) h0 (by omega)
  simpa using this
theorem heldIntS_l : ∀ (d k i : Nat) (l : List Int) (m : Int), l.length ≤ 1048576 → l.length - i = d → d < k → i ≤ l.length → 0 ≤ m → m + (d : Int) ≤ 1000000000 → (∀ j, j < d → l.getD (i + j) 0 = m + (j : Int)) →
    laws_heldIntS.l0 k l m (i : Int) = some (m + (d : Int)) := by
  intro d
  induction d with
  | zero =>
    intro k i l m hB hd hk hi _ _ _
    obtain ⟨k, rfl⟩ := kpred hk
    simp only [laws_heldIntS.l0]
    rw [if_neg (by omega)]
    simp
  | succ d ih =>
    intro k i l m hB hd hk hi h0 h1 hj
    obtain ⟨k, rfl⟩ := kpred hk
    simp only [laws_heldIntS.l0]
    have hw : wrap64 (m + 1) = m + 1 := by
      unfold wrap64
      omega
    have h00 := hj 0 (by omega)
    rw [if_pos (by omega), if_pos (by omega), rd_nat, if_pos (by simpa using h00), hw, wsucc i (by omega)]
    rw [ih k (i + 1) l (m + 1) hB (by omega) (by omega) (by omega) (by omega) (by omega) (fun j h => by
      have := hj (j + 1) (by omega)
      rw [show i + 1 + j = i + (j + 1) by omega, this]
      omega)]
    congr 1
    omega
theorem heldIntS_val (n : Nat) (hB : n ≤ 1048576) (m : Int) (h0 : 0 ≤ m) (h1 : m ≤ 900000000) (k : Nat) (hk : n < k) :
    laws_heldIntS.f k (marked n m) m = some (m + (n : Int)) := by
  unfold laws_heldIntS.f
  exact heldIntS_l n k 0 (marked n m) m (by rw [marked_length]; exact hB) (by rw [marked_length]; omega) hk (by omega) h0 (by omega) (fun j h => by rw [Nat.zero_add]; exact marked_get n m j h)

theorem markIntS_ev (l : List Int) (hB : l.length ≤ 1048576) (m : Int) (h0 : 0 ≤ m) (h1 : m ≤ 900000000) : Ev (fun k => laws_markIntS.f k l m) (m + (l.length : Int), marked l.length m) :=
  ⟨l.length + 1, fun k hk => markIntS_val l hB m h0 h1 k (by omega)⟩
theorem heldIntS_ev (n : Nat) (hB : n ≤ 1048576) (m : Int) (h0 : 0 ≤ m) (h1 : m ≤ 900000000) : Ev (fun k => laws_heldIntS.f k (marked n m) m) (m + (n : Int)) :=
  ⟨n + 1, fun k hk => heldIntS_val n hB m h0 h1 k (by omega)⟩
theorem markIntS_nil : Ev (fun k => laws_markIntS.f k [] 1) (1, []) := by simpa [marked] using markIntS_ev [] (by simp) 1 (by omega) (by omega)
theorem heldIntS_nil : Ev (fun k => laws_heldIntS.f k [] 1) 1 := by simpa [marked] using heldIntS_ev 0 (by omega) 1 (by omega) (by omega)

/- What is proved at the end: ∀ (a0_0 : Int) (l0_1 : List Int) (l0_2 : List Int) (l1 : List Int), (Lit.int .i64 a0_0).wf = true → l0_1.length ≤ maxLen → (∀ x ∈ l0_1, (Lit.int .i64 x).wf = true) → l0_2.length ≤ maxLen → (∀ x ∈ l0_2, (Lit.int .i64 x).wf = true) → l1.length ≤ maxLen → (∀ x ∈ l1, (Lit.int .i64 x).wf = true) → ∃ k, laws_FnExactStepsOfClimb.f k a0_0 l0_1 l0_2 l1 = some true -/
def stp : Int → List Int → List Int
  | _, [] => []
  | a, x :: xs => wrap64 (a + x) :: stp (wrap64 (a + x)) xs
theorem stp_len : ∀ (c : List Int) (a : Int), (stp a c).length = c.length := by
  intro c
  induction c with
  | nil => intro _; rfl
  | cons x c ih => intro a; simp [stp, ih]
theorem stp_l (c : List Int) (hc : c.length ≤ 1048576) : ∀ (ks : List Int) (i : Nat) (a : Int) (o : List Int), c.drop i = ks → o.length ≤ i →
    Ev (fun k => spec_StepsOfClimb.l0 k o a c (c.length : Int) (i : Int)) (o ++ stp a ks, true) ∧ Ev (fun k => impl_StepsOfClimb.l0 k o a c (c.length : Int) (i : Int)) (o ++ stp a ks, true) := by
  intro ks
  induction ks with
  | nil =>
    intro i a o hd ho
    have := drop_nil' hd
    simp only [stp, List.append_nil]
    refine ⟨Ev.step (fun k => ?_) (Ev.now _), Ev.step (fun k => ?_) (Ev.now _)⟩
    · simp only [spec_StepsOfClimb.l0]
      rw [if_neg (by omega)]
    · simp only [impl_StepsOfClimb.l0]
      rw [if_neg (by omega)]
  | cons x ks ih =>
    intro i a o hd ho
    obtain ⟨hi, hx, hd'⟩ := drop_info (d := 0) hd
    obtain ⟨h1, h2⟩ := ih (i + 1) (wrap64 (a + x)) (o ++ [wrap64 (a + x)]) hd' (by simp; omega)
    rw [List.append_assoc] at h1 h2
    refine ⟨Ev.step (fun k => ?_) h1, Ev.step (fun k => ?_) h2⟩
    · simp only [spec_StepsOfClimb.l0]
      rw [if_pos (by omega), if_pos (by omega), if_pos (by omega), if_pos (by omega), rd_nat, hx, wsucc i (by omega)]
    · simp only [impl_StepsOfClimb.l0]
      rw [if_pos (by omega), if_pos (by omega), if_pos (by omega), if_pos (by omega), rd_nat, hx, wsucc i (by omega)]
theorem FnExactStepsOfClimb_agree (s : Int) (a b c : List Int) (ha : a.length ≤ 1048576) (hb : b.length ≤ 1048576) (hc : c.length ≤ 1048576) : ∃ w0 w1, Ev (fun k => spec_StepsOfClimb.f k s a b c) (w0, w1) ∧ Ev (fun k => impl_StepsOfClimb.f k s a b c) (w0, w1) ∧ w0.length ≤ 1048576 := by
  have hs := clBoth_ev s a b c ha hb hc
  unfold spec_StepsOfClimb.f impl_StepsOfClimb.f
  have no : Ev (fun k => impl_StepsOfClimb.j0 k c true) (([] : List Int), false) := Ev.step (fun k => by simp only [impl_StepsOfClimb.j0]; rw [if_pos trivial]) (Ev.now _)
  by_cases hg : goodS s a b = true
  · obtain ⟨_, h2⟩ := clIs_ev s a b c hg hb hc
    rw [hg, Bool.true_and, Bool.true_and] at hs
    by_cases hC : isC s a b 0 c = true
    · rw [hC] at hs h2
      obtain ⟨l1, l2⟩ := stp_l c hc c 0 0 [] rfl (by simp)
      refine ⟨stp 0 c, true, Ev.bind hs (Ev.ite_true rfl l1), Ev.bind (areStairs_ev s a b ha hb) (Ev.ite_true hg (Ev.bind h2 ?_)), by rw [stp_len]; exact hc⟩
      exact Ev.step (fun k => by simp only [impl_StepsOfClimb.j0]; rw [if_neg (by simp)]; rfl) l2
    · rw [Bool.eq_false_iff.mpr hC] at hs h2
      exact ⟨[], false, Ev.bind hs (Ev.ite_false rfl (Ev.now _)), Ev.bind (areStairs_ev s a b ha hb) (Ev.ite_true hg (Ev.bind h2 no)), by simp⟩
  · have hg' : goodS s a b = false := Bool.eq_false_iff.mpr hg
    rw [hg', Bool.false_and] at hs
    exact ⟨[], false, Ev.bind hs (Ev.ite_false rfl (Ev.now _)), Ev.bind (areStairs_ev s a b ha hb) (Ev.ite_false hg' no), by simp⟩
theorem FnExactStepsOfClimb : ∀ (a0_0 : Int) (l0_1 : List Int) (l0_2 : List Int) (l1 : List Int), (Lit.int .i64 a0_0).wf = true → l0_1.length ≤ maxLen → (∀ x ∈ l0_1, (Lit.int .i64 x).wf = true) → l0_2.length ≤ maxLen → (∀ x ∈ l0_2, (Lit.int .i64 x).wf = true) → l1.length ≤ maxLen → (∀ x ∈ l1, (Lit.int .i64 x).wf = true) → ∃ k, laws_FnExactStepsOfClimb.f k a0_0 l0_1 l0_2 l1 = some true := by
  intro a0_0 l0_1 l0_2 l1 w0_0 hm0_1 hw0_1 hm0_2 hw0_2 hm1 hw1
  by_cases hB1 : (l1.length : Int) > 1048576
  · exact ⟨1, by unfold laws_FnExactStepsOfClimb.f; rw [if_pos hB1]⟩
  have hl1 : l1.length ≤ 1048576 := by omega
  by_cases hN0 : ¬ l0_1.length + l0_2.length ≤ 1048576
  · exact ⟨1, by unfold laws_FnExactStepsOfClimb.f; rw [if_neg hB1]; simp [szStairs_no a0_0 l0_1 l0_2 hm0_1 hm0_2 hN0]⟩
  have hZ0 : l0_1.length + l0_2.length ≤ 1048576 := by omega
  have hl0_1 : l0_1.length ≤ 1048576 := by omega
  have hl0_2 : l0_2.length ≤ 1048576 := by omega
  have hz0 := szStairs_yes a0_0 l0_1 l0_2 hZ0
  obtain ⟨w0, w1, hS, hI, hww0⟩ := FnExactStepsOfClimb_agree a0_0 l0_1 l0_2 l1 hl0_1 hl0_2 hl1
  obtain ⟨K0, k0⟩ := (show Ev (fun k => spec_StepsOfClimb.f k a0_0 l0_1 l0_2 l1) (w0, w1) from hS)
  obtain ⟨K1, k1⟩ := (show Ev (fun k => impl_StepsOfClimb.f k a0_0 l0_1 l0_2 l1) (w0, w1) from hI)
  obtain ⟨K2, k2⟩ := (show Ev (fun k => laws_toIntS.f k l0_1) l0_1 from toIntS_ev _ hl0_1)
  obtain ⟨K3, k3⟩ := (show Ev (fun k => laws_eqIntS.f k l0_1 l0_1) true from eqIntS_ev _ hl0_1)
  obtain ⟨K4, k4⟩ := (show Ev (fun k => laws_toIntS.f k l0_2) l0_2 from toIntS_ev _ hl0_2)
  obtain ⟨K5, k5⟩ := (show Ev (fun k => laws_eqIntS.f k l0_2 l0_2) true from eqIntS_ev _ hl0_2)
  obtain ⟨K6, k6⟩ := (show Ev (fun k => laws_toIntS.f k l1) l1 from toIntS_ev _ hl1)
  obtain ⟨K7, k7⟩ := (show Ev (fun k => laws_eqIntS.f k l1 l1) true from eqIntS_ev _ hl1)
  obtain ⟨K8, k8⟩ := (show Ev (fun k => laws_markIntS.f k l0_1 (1)) (1 + (l0_1.length : Int), marked l0_1.length (1)) from markIntS_ev _ hl0_1 _ (by omega) (by omega))
  obtain ⟨K9, k9⟩ := (show Ev (fun k => laws_markIntS.f k l0_2 (1 + (l0_1.length : Int))) (1 + (l0_1.length : Int) + (l0_2.length : Int), marked l0_2.length (1 + (l0_1.length : Int))) from markIntS_ev _ hl0_2 _ (by omega) (by omega))
  obtain ⟨K10, k10⟩ := (show Ev (fun k => laws_markIntS.f k l1 (1 + (l0_1.length : Int) + (l0_2.length : Int))) (1 + (l0_1.length : Int) + (l0_2.length : Int) + (l1.length : Int), marked l1.length (1 + (l0_1.length : Int) + (l0_2.length : Int))) from markIntS_ev _ hl1 _ (by omega) (by omega))
  obtain ⟨K11, k11⟩ := (show Ev (fun k => laws_eqIntS.f k w0 w0) true from eqIntS_ev _ hww0)
  obtain ⟨K12, k12⟩ := (show Ev (fun k => laws_markIntS.f k w0 (1)) (1 + (w0.length : Int), marked w0.length (1)) from markIntS_ev _ hww0 _ (by omega) (by omega))
  obtain ⟨K13, k13⟩ := (show Ev (fun k => laws_heldIntS.f k (marked w0.length (1)) (1)) (1 + (w0.length : Int)) from heldIntS_ev _ hww0 _ (by omega) (by omega))
  obtain ⟨K, hK⟩ : ∃ K, K = K0 + K1 + K2 + K3 + K4 + K5 + K6 + K7 + K8 + K9 + K10 + K11 + K12 + K13 := ⟨_, rfl⟩
  have e0 : ∀ j, spec_StepsOfClimb.f (K + j) a0_0 l0_1 l0_2 l1 = some (w0, w1) := fun j => k0 (K + j) (by omega)
  have e1 : ∀ j, impl_StepsOfClimb.f (K + j) a0_0 l0_1 l0_2 l1 = some (w0, w1) := fun j => k1 (K + j) (by omega)
  have e2 : ∀ j, laws_toIntS.f (K + j) l0_1 = some l0_1 := fun j => k2 (K + j) (by omega)
  have e3 : ∀ j, laws_eqIntS.f (K + j) l0_1 l0_1 = some true := fun j => k3 (K + j) (by omega)
  have e4 : ∀ j, laws_toIntS.f (K + j) l0_2 = some l0_2 := fun j => k4 (K + j) (by omega)
  have e5 : ∀ j, laws_eqIntS.f (K + j) l0_2 l0_2 = some true := fun j => k5 (K + j) (by omega)
  have e6 : ∀ j, laws_toIntS.f (K + j) l1 = some l1 := fun j => k6 (K + j) (by omega)
  have e7 : ∀ j, laws_eqIntS.f (K + j) l1 l1 = some true := fun j => k7 (K + j) (by omega)
  have e8 : ∀ j, laws_markIntS.f (K + j) l0_1 (1) = some (1 + (l0_1.length : Int), marked l0_1.length (1)) := fun j => k8 (K + j) (by omega)
  have e9 : ∀ j, laws_markIntS.f (K + j) l0_2 (1 + (l0_1.length : Int)) = some (1 + (l0_1.length : Int) + (l0_2.length : Int), marked l0_2.length (1 + (l0_1.length : Int))) := fun j => k9 (K + j) (by omega)
  have e10 : ∀ j, laws_markIntS.f (K + j) l1 (1 + (l0_1.length : Int) + (l0_2.length : Int)) = some (1 + (l0_1.length : Int) + (l0_2.length : Int) + (l1.length : Int), marked l1.length (1 + (l0_1.length : Int) + (l0_2.length : Int))) := fun j => k10 (K + j) (by omega)
  have e11 : ∀ j, laws_eqIntS.f (K + j) w0 w0 = some true := fun j => k11 (K + j) (by omega)
  have e12 : ∀ j, laws_markIntS.f (K + j) w0 (1) = some (1 + (w0.length : Int), marked w0.length (1)) := fun j => k12 (K + j) (by omega)
  have e13 : ∀ j, laws_heldIntS.f (K + j) (marked w0.length (1)) (1) = some (1 + (w0.length : Int)) := fun j => k13 (K + j) (by omega)
  clear k0 k1 k2 k3 k4 k5 k6 k7 k8 k9 k10 k11 k12 k13 hK
  refine ⟨K + 16, ?_⟩
  simp [laws_FnExactStepsOfClimb.f, laws_FnExactStepsOfClimb.j0, laws_FnExactStepsOfClimb.j1, laws_FnExactStepsOfClimb.j2, laws_toStairs.f, laws_eqStairs.f, laws_markStairs.f, e0, e1, e2, e3, e4, e5, e6, e7, e8, e9, e10, e11, e12, e13, hB1, hz0, show ¬ (1 + (l0_1.length : Int) + (l0_2.length : Int) + (l1.length : Int) < 0) by omega, show ¬ (1 + (w0.length : Int) < 0) by omega]

end Go.Proofs.Ytfmppcfebkmbnaa.Pure
