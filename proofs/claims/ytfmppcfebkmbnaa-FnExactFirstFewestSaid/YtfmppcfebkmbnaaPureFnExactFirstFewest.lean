/- The pure statement of FnExactFirstFewest: the printed function returns true for all arguments within their kinds; no other condition. -/
import Derived.Test.YtfmppcfebkmbnaaPFnExactFirstFewestx
namespace Go.Proofs.Ytfmppcfebkmbnaa.Pure
open Go.RowKit Go.Proofs.Ytfmppcfebkmbnaa.PFnExactFirstFewest Go.Proofs.YtfmppcfebkmbnaaW.PrintWords Go.Proofs.YtfmppcfebkmbnaaW.PrintLast Go.Proofs.YtfmppcfebkmbnaaW.PrintMore
set_option linter.unusedVariables false
set_option linter.unusedSimpArgs false
theorem in_val (a b c : Int) : spec_l1In.f a b c = some (decide (b ≤ a ∧ a ≤ c)) := by
  unfold spec_l1In.f
  by_cases h : b ≤ a <;> simp [h]
theorem within_val (a b c : Int) : impl_within.f a b c = some (decide (b ≤ a ∧ a ≤ c)) := by
  unfold impl_within.f
  by_cases h : b ≤ a <;> simp [h]

theorem wsucc (i : Nat) (h : i < 4611686018427387904) : wrap64 ((i : Int) + 1) = ((i + 1 : Nat) : Int) := by
  unfold wrap64
  omega
theorem kpred {d k : Nat} (h : d < k) : ∃ m, k = m + 1 := ⟨k - 1, by omega⟩
theorem rd_nat (l : List Int) (i : Nat) : rd l (i : Int) = l.getD i 0 := by simp [rd]
theorem take_set_succ (x : List Int) (i : Nat) (v : Int) (h : i < x.length) : (x.set i v).take (i + 1) = x.take i ++ [v] := by
  rw [List.take_add_one, List.take_set_of_le (Nat.le_refl i), List.getElem?_set_self h]
  rfl
theorem take_get_succ (x : List Int) (i : Nat) (h : i < x.length) : x.take (i + 1) = x.take i ++ [x.getD i 0] := by
  rw [List.take_add_one, List.getElem?_eq_getElem h, List.getD_eq_getElem?_getD, List.getElem?_eq_getElem h]
  rfl
theorem w_id {x : Int} (h0 : -4611686018427387904 ≤ x) (h1 : x ≤ 4611686018427387904) : wrap64 x = x := by
  unfold wrap64
  omega
theorem w_sub (k r : Nat) (h : r ≤ k) (hk : k ≤ 1000000000) : wrap64 ((k : Int) - (r : Int)) = ((k - r : Nat) : Int) := by
  rw [w_id (by omega) (by omega)]
  omega
theorem w_add (a b : Nat) (h : a ≤ 1000000000) (hb : b ≤ 1000000000) : wrap64 ((a : Int) + (b : Int)) = ((a + b : Nat) : Int) := by
  rw [w_id (by omega) (by omega)]
  omega
theorem w_pred (k : Nat) (h : 1 ≤ k) (hk : k ≤ 1000000000) : wrap64 ((k : Int) - 1) = ((k - 1 : Nat) : Int) := by
  rw [w_id (by omega) (by omega)]
  omega

theorem Ev.ite_true {α : Type} {g f : Nat → Option α} {r : α} {b : Bool} (h : b = true) (k : Ev g r) : Ev (fun n => if b = true then g n else f n) r := by
  subst h
  simpa using k
theorem Ev.ite_false {α : Type} {g f : Nat → Option α} {r : α} {b : Bool} (h : b = false) (k : Ev f r) : Ev (fun n => if b = true then g n else f n) r := by
  subst h
  simpa using k

theorem toIntS_l (l : List Int) (hB : l.length ≤ 1048576) : ∀ (d k i : Nat) (x : List Int), l.length - i = d → d < k → i ≤ l.length → x.length = l.length → x.take i = l.take i →
    laws_toIntS.l0 k l x (i : Int) = some l := by
  intro d
  induction d with
  | zero =>
    intro k i x hd hk hi hx ht
    obtain ⟨k, rfl⟩ := kpred hk
    have e : i = l.length := by omega
    simp only [laws_toIntS.l0]
    rw [if_neg (by omega)]
    have h1 := ht
    rw [e, List.take_length, ← hx, List.take_length] at h1
    rw [h1]
  | succ d ih =>
    intro k i x hd hk hi hx ht
    obtain ⟨k, rfl⟩ := kpred hk
    simp only [laws_toIntS.l0]
    rw [if_pos (by omega), if_pos (by omega), if_pos (by omega), wsucc i (by omega), Int.toNat_natCast, rd_nat]
    refine ih k (i + 1) _ (by omega) (by omega) (by omega) (by simpa using hx) ?_
    rw [take_set_succ _ _ _ (by omega), take_get_succ _ _ (by omega), ht]
theorem toIntS_val (l : List Int) (hB : l.length ≤ 1048576) (k : Nat) (hk : l.length < k) : laws_toIntS.f k l = some l := by
  unfold laws_toIntS.f
  rw [if_pos (by omega), if_pos (by rw [Int.toNat_natCast]; omega)]
  exact toIntS_l l hB l.length k 0 _ (by omega) hk (by omega) (by simp) (by simp)

theorem toIntS_ev (l : List Int) (hB : l.length ≤ 1048576) : Ev (fun k => laws_toIntS.f k l) l := ⟨l.length + 1, fun k hk => toIntS_val l hB k (by omega)⟩

theorem eqIntS_l (l : List Int) (hB : l.length ≤ 1048576) : ∀ (d k i : Nat), l.length - i = d → d < k → i ≤ l.length → laws_eqIntS.l0 k l l (i : Int) = some true := by
  intro d
  induction d with
  | zero =>
    intro k i hd hk hi
    obtain ⟨k, rfl⟩ := kpred hk
    simp only [laws_eqIntS.l0]
    rw [if_neg (by omega)]
  | succ d ih =>
    intro k i hd hk hi
    obtain ⟨k, rfl⟩ := kpred hk
    simp only [laws_eqIntS.l0]
    rw [if_pos (by omega), if_pos (by omega), if_pos (by omega), if_pos trivial, wsucc i (by omega)]
    exact ih k (i + 1) (by omega) (by omega) (by omega)
theorem eqIntS_val (l : List Int) (hB : l.length ≤ 1048576) (k : Nat) (hk : l.length < k) : laws_eqIntS.f k l l = some true := by
  unfold laws_eqIntS.f
  rw [if_pos rfl]
  exact eqIntS_l l hB l.length k 0 (by omega) hk (by omega)

theorem eqIntS_ev (l : List Int) (hB : l.length ≤ 1048576) : Ev (fun k => laws_eqIntS.f k l l) true := ⟨l.length + 1, fun k hk => eqIntS_val l hB k (by omega)⟩

/-- Numbers increase, and are from lo to hi; p: the one before. -/
def riseV (lo hi : Int) : Option Int → List Int → Bool
  | _, [] => true
  | p, x :: xs => decide (lo ≤ x ∧ x ≤ hi) && (match p with | none => true | some q => decide (q < x)) && riseV lo hi (some x) xs
theorem drop_cons' (l : List Int) (i : Nat) (h : i < l.length) : l.drop i = l.getD i 0 :: l.drop (i + 1) := by
  rw [List.drop_eq_getElem_cons h, List.getD_eq_getElem?_getD, List.getElem?_eq_getElem h]
  rfl
def before (l : List Int) (i : Nat) : Option Int := if i = 0 then none else some (l.getD (i - 1) 0)
theorem rising_l (l : List Int) (hl : l.length ≤ 1048576) (lo hh : Int) : ∀ (d i : Nat), l.length - i = d → i ≤ l.length →
    Ev (fun k => spec_l1Rising.l0 k l lo hh l (l.length : Int) (i : Int)) (riseV lo hh (before l i) (l.drop i)) ∧ Ev (fun k => impl_rise.l0 k l lo hh l (l.length : Int) (i : Int)) (riseV lo hh (before l i) (l.drop i)) := by
  intro d
  induction d with
  | zero =>
    intro i hd hi
    rw [List.drop_eq_nil_of_le (by omega)]
    refine ⟨Ev.step (fun k => ?_) (Ev.now _), Ev.step (fun k => ?_) (Ev.now _)⟩
    · simp only [spec_l1Rising.l0]
      rw [if_neg (by omega)]
      rfl
    · simp only [impl_rise.l0]
      rw [if_neg (by omega)]
      rfl
  | succ d ih =>
    intro i hd hi
    obtain ⟨ih1, ih2⟩ := ih (i + 1) (by omega) (by omega)
    have hb : before l (i + 1) = some (l.getD i 0) := by simp [before]
    rw [hb, ← wsucc i (by omega)] at ih1 ih2
    rw [drop_cons' l i (by omega)]
    simp only [riseV]
    by_cases h1 : lo ≤ l.getD i 0 ∧ l.getD i 0 ≤ hh
    · rw [decide_eq_true h1]
      by_cases h0 : i = 0
      · have hbi : before l i = none := by simp [before, h0]
        rw [hbi]
        refine ⟨Ev.step (fun k => ?_) ih1, Ev.step (fun k => ?_) ih2⟩
        · simp only [spec_l1Rising.l0]
          rw [if_pos (by omega), if_pos (by omega), if_pos (by omega), rd_nat, in_val]
          simp only [Option.bind_some]
          rw [decide_eq_true h1, if_pos rfl, if_neg (by omega)]
        · simp only [impl_rise.l0]
          rw [if_pos (by omega), if_pos (by omega), if_pos (by omega), rd_nat, within_val]
          simp only [Option.bind_some]
          rw [decide_eq_true h1, if_pos rfl, if_neg (by omega)]
      · have hbi : before l i = some (l.getD (i - 1) 0) := by simp [before, h0]
        have hw : wrap64 ((i : Int) - 1) = ((i - 1 : Nat) : Int) := by
          unfold wrap64
          omega
        rw [hbi]
        by_cases h2 : l.getD (i - 1) 0 < l.getD i 0
        · simp only [decide_eq_true h2]
          refine ⟨Ev.step (fun k => ?_) ih1, Ev.step (fun k => ?_) ih2⟩
          · simp only [spec_l1Rising.l0]
            rw [if_pos (by omega), if_pos (by omega), if_pos (by omega), rd_nat, in_val]
            simp only [Option.bind_some]
            rw [decide_eq_true h1, if_pos rfl, if_pos (by omega), hw, if_pos (by omega), if_pos (by omega), rd_nat, if_neg (by omega)]
          · simp only [impl_rise.l0]
            rw [if_pos (by omega), if_pos (by omega), if_pos (by omega), rd_nat, within_val]
            simp only [Option.bind_some]
            rw [decide_eq_true h1, if_pos rfl, if_pos (by omega), hw, if_pos (by omega), if_pos (by omega), rd_nat, if_neg (by omega)]
        · simp only [decide_eq_false h2]
          refine ⟨Ev.step (fun k => ?_) (Ev.now _), Ev.step (fun k => ?_) (Ev.now _)⟩
          · simp only [spec_l1Rising.l0]
            rw [if_pos (by omega), if_pos (by omega), if_pos (by omega), rd_nat, in_val]
            simp only [Option.bind_some]
            rw [decide_eq_true h1, if_pos rfl, if_pos (by omega), hw, if_pos (by omega), if_pos (by omega), rd_nat, if_pos (by omega)]
            rfl
          · simp only [impl_rise.l0]
            rw [if_pos (by omega), if_pos (by omega), if_pos (by omega), rd_nat, within_val]
            simp only [Option.bind_some]
            rw [decide_eq_true h1, if_pos rfl, if_pos (by omega), hw, if_pos (by omega), if_pos (by omega), rd_nat, if_pos (by omega)]
            rfl
    · rw [decide_eq_false h1]
      refine ⟨Ev.step (fun k => ?_) (Ev.now _), Ev.step (fun k => ?_) (Ev.now _)⟩
      · simp only [spec_l1Rising.l0]
        rw [if_pos (by omega), if_pos (by omega), if_pos (by omega), rd_nat, in_val]
        simp only [Option.bind_some]
        rw [decide_eq_false h1, if_neg (by simp)]
        rfl
      · simp only [impl_rise.l0]
        rw [if_pos (by omega), if_pos (by omega), if_pos (by omega), rd_nat, within_val]
        simp only [Option.bind_some]
        rw [decide_eq_false h1, if_neg (by simp)]
        rfl
theorem rising_ev (l : List Int) (hl : l.length ≤ 1048576) (lo hi : Int) : Ev (fun k => spec_l1Rising.f k l lo hi) (riseV lo hi none l) ∧ Ev (fun k => impl_rise.f k l lo hi) (riseV lo hi none l) := by
  have h := rising_l l hl lo hi _ 0 rfl (by omega)
  simp only [before, List.drop_zero, if_true] at h
  exact h
/-- The numbers are stairs. -/
def goodS (s : Int) (a b : List Int) : Bool := decide (1 ≤ s ∧ s ≤ 60) && (decide (1 ≤ (a.length : Int) ∧ (a.length : Int) ≤ 5) && (riseV 1 9 none a && riseV 1 (s - 1) none b))
theorem clGood_ev (s : Int) (a b : List Int) (ha : a.length ≤ 1048576) (hb : b.length ≤ 1048576) : Ev (fun k => spec_clGood.f k s a b) (goodS s a b) := by
  unfold spec_clGood.f goodS
  simp only [in_val, Option.bind_some]
  by_cases h1 : 1 ≤ s ∧ s ≤ 60
  · have hw : wrap64 (s - 1) = s - 1 := by
      unfold wrap64
      omega
    simp only [decide_eq_true h1, Bool.true_and, hw, if_true]
    by_cases h2 : 1 ≤ (a.length : Int) ∧ (a.length : Int) ≤ 5
    · simp only [decide_eq_true h2, Bool.true_and, if_true]
      refine Ev.bind (rising_ev a ha 1 9).1 ?_
      cases h3 : riseV 1 9 none a
      · simp only [Bool.false_and]
        exact Ev.congr (fun k => if_neg (by simp)) (Ev.now _)
      · simp only [Bool.true_and, if_true]
        exact Ev.bind (rising_ev b hb 1 (s - 1)).1 (Ev.now _)
    · simp only [decide_eq_false h2, Bool.false_and]
      exact Ev.congr (fun k => if_neg (by simp)) (Ev.now _)
  · simp only [decide_eq_false h1, Bool.false_and]
    exact Ev.congr (fun k => if_neg (by simp)) (Ev.now _)
theorem areStairs_ev (s : Int) (a b : List Int) (ha : a.length ≤ 1048576) (hb : b.length ≤ 1048576) : Ev (fun k => impl_AreStairs.f k s a b) (goodS s a b) := by
  unfold impl_AreStairs.f goodS
  simp only [within_val, Option.bind_some]
  by_cases h1 : 1 ≤ s ∧ s ≤ 60
  · have hw : wrap64 (s - 1) = s - 1 := by
      unfold wrap64
      omega
    simp only [decide_eq_true h1, Bool.true_and, hw, if_true]
    by_cases h2 : 1 ≤ (a.length : Int) ∧ (a.length : Int) ≤ 5
    · simp only [decide_eq_true h2, Bool.true_and, if_true]
      refine Ev.bind (rising_ev a ha 1 9).2 ?_
      cases h3 : riseV 1 9 none a
      · simp only [Bool.false_and]
        exact Ev.congr (fun k => if_neg (by simp)) (Ev.now _)
      · simp only [Bool.true_and, if_true]
        exact Ev.bind (rising_ev b hb 1 (s - 1)).2 (Ev.now _)
    · simp only [decide_eq_false h2, Bool.false_and]
      exact Ev.congr (fun k => if_neg (by simp)) (Ev.now _)
  · simp only [decide_eq_false h1, Bool.false_and]
    exact Ev.congr (fun k => if_neg (by simp)) (Ev.now _)
theorem szIntS_val (l : List Int) (n : Int) : laws_szIntS.f l n = some (if wrap64 (n - (l.length : Int)) < 0 then -1 else wrap64 (n - (l.length : Int))) := by
  unfold laws_szIntS.f
  split <;> rfl
theorem szStairs_yes (s : Int) (a b : List Int) (h : a.length + b.length ≤ 1048576) : laws_szStairs.f s a b 1048576 = some (1048576 - (a.length : Int) - (b.length : Int)) := by
  have w1 : wrap64 (1048576 - (a.length : Int)) = 1048576 - (a.length : Int) := by
    unfold wrap64
    omega
  have w2 : wrap64 (1048576 - (a.length : Int) - (b.length : Int)) = 1048576 - (a.length : Int) - (b.length : Int) := by
    unfold wrap64
    omega
  unfold laws_szStairs.f
  rw [szIntS_val, w1, if_neg (by omega)]
  simp only [Option.bind_some]
  rw [if_neg (by omega), szIntS_val, w2, if_neg (by omega)]
  simp only [Option.bind_some]
  rw [if_neg (by omega)]

theorem szStairs_no (s : Int) (a b : List Int) (ha : a.length ≤ maxLen) (hb : b.length ≤ maxLen) (h : ¬ a.length + b.length ≤ 1048576) : laws_szStairs.f s a b 1048576 = some (-1) := by
  unfold maxLen at ha hb
  unfold laws_szStairs.f
  rw [szIntS_val]
  simp only [Option.bind_some]
  have w1 : wrap64 (1048576 - (a.length : Int)) = 1048576 - (a.length : Int) := by
    unfold wrap64
    omega
  rw [w1]
  by_cases h1 : 1048576 - (a.length : Int) < 0
  · rw [if_pos h1, if_pos (by omega)]
  · rw [if_neg h1, if_neg h1, szIntS_val]
    have w2 : wrap64 (1048576 - (a.length : Int) - (b.length : Int)) = 1048576 - (a.length : Int) - (b.length : Int) := by
      unfold wrap64
      omega
    simp only [Option.bind_some]
    rw [w2, if_pos (by omega)]

theorem drop_info {α : Type} {d : α} {l : List α} {i : Nat} {x : α} {xs : List α} (h : l.drop i = x :: xs) : i < l.length ∧ l.getD i d = x ∧ l.drop (i + 1) = xs := by
  have hl : l.length - i = xs.length + 1 := by
    have := congrArg List.length h
    rwa [List.length_drop, List.length_cons] at this
  have hi : i < l.length := by omega
  rw [List.drop_eq_getElem_cons hi] at h
  refine ⟨hi, ?_, (List.cons.inj h).2⟩
  rw [List.getD_eq_getElem?_getD, List.getElem?_eq_getElem hi]
  exact (List.cons.inj h).1
theorem drop_nil' {α : Type} {l : List α} {i : Nat} (h : l.drop i = []) : l.length ≤ i := by
  have := congrArg List.length h
  rw [List.length_drop, List.length_nil] at this
  omega
theorem has_l (l : List Int) (hl : l.length ≤ 1048576) (a : Int) : ∀ (ks : List Int) (i : Nat), l.drop i = ks → Ev (fun k => spec_l1Has.l0 k a l (l.length : Int) (i : Int)) (decide (a ∈ ks)) ∧
    ∃ r, Ev (fun k => slices_Index_int_int.l0 k l a (l.length : Int) (i : Int)) r ∧ (decide (r ≥ 0)) = decide (a ∈ ks) := by
  intro ks
  induction ks with
  | nil =>
    intro i hd
    have := drop_nil' hd
    refine ⟨Ev.step (fun k => ?_) (Ev.now _), -1, Ev.step (fun k => ?_) (Ev.now _), by simp⟩
    · simp only [spec_l1Has.l0]
      rw [if_neg (by omega)]
      simp
    · simp only [slices_Index_int_int.l0]
      rw [if_neg (by omega)]
  | cons x ks ih =>
    intro i hd
    obtain ⟨hi, hx, hd'⟩ := drop_info (d := 0) hd
    obtain ⟨h1, r, h2, h3⟩ := ih (i + 1) hd'
    rw [← wsucc i (by omega)] at h1 h2
    by_cases ha : x = a
    · refine ⟨Ev.step (fun k => ?_) (Ev.now _), (i : Int), Ev.step (fun k => ?_) (Ev.now _), ?_⟩
      · simp only [spec_l1Has.l0]
        rw [if_pos (by omega), if_pos (by omega), if_pos (by omega), rd_nat, hx, if_pos ha]
        simp [ha]
      · simp only [slices_Index_int_int.l0]
        rw [if_pos (by omega), if_pos (by omega), if_pos (by omega), rd_nat, hx, if_pos ha.symm]
      · rw [decide_eq_true (by omega : (i : Int) ≥ 0), decide_eq_true (by simp [ha])]
    · have he : (decide (a ∈ x :: ks)) = decide (a ∈ ks) := by
        have : ¬ a = x := fun h => ha h.symm
        simp [this]
      rw [he]
      refine ⟨Ev.step (fun k => ?_) h1, r, Ev.step (fun k => ?_) h2, h3⟩
      · simp only [spec_l1Has.l0]
        rw [if_pos (by omega), if_pos (by omega), if_pos (by omega), rd_nat, hx, if_neg ha]
      · simp only [slices_Index_int_int.l0]
        rw [if_pos (by omega), if_pos (by omega), if_pos (by omega), rd_nat, hx, if_neg (fun h => ha h.symm)]
theorem has_ev (l : List Int) (hl : l.length ≤ 1048576) (a : Int) : Ev (fun k => spec_l1Has.f k l a) (decide (a ∈ l)) := (has_l l hl a l 0 rfl).1
theorem contains_ev (l : List Int) (hl : l.length ≤ 1048576) (a : Int) : Ev (fun k => slices_Contains_int_int.f k l a) (decide (a ∈ l)) := by
  obtain ⟨r, h2, h3⟩ := (has_l l hl a l 0 rfl).2
  exact Ev.bind (f := fun k t => some (decide (t ≥ 0))) h2 (h3 ▸ Ev.now _)
theorem stands_ev (s : Int) (S B : List Int) (hB : B.length ≤ 1048576) (a : Int) : Ev (fun k => spec_clStands.f k s S B a) (decide (0 ≤ a ∧ a ≤ s) && !decide (a ∈ B)) := by
  unfold spec_clStands.f
  simp only [in_val, Option.bind_some]
  by_cases h : 0 ≤ a ∧ a ≤ s
  · simp only [decide_eq_true h, if_true, Bool.true_and]
    exact Ev.bind (has_ev B hB a) (Ev.now _)
  · simp only [decide_eq_false h, Bool.false_and]
    exact Ev.congr (fun k => if_neg (by simp)) (Ev.now _)
theorem broken_ev (s : Int) (S B : List Int) (hB : B.length ≤ 1048576) (a : Int) : Ev (fun k => impl_Stairs_isBroken.f k s S B a) (decide (a ∈ B)) := by
  unfold impl_Stairs_isBroken.f
  exact Ev.bind (contains_ev B hB a) (Ev.now _)

theorem rise_mem {lo hi : Int} : ∀ {p : Option Int} {l : List Int}, riseV lo hi p l = true → ∀ x ∈ l, lo ≤ x ∧ x ≤ hi := by
  intro p l
  induction l generalizing p with
  | nil => intro _ x hx; simp at hx
  | cons y l ih =>
    intro h x hx
    simp only [riseV, Bool.and_eq_true, decide_eq_true_eq] at h
    rcases List.mem_cons.mp hx with rfl | hx
    · exact h.1.1
    · exact ih h.2 x hx
theorem goodS_bd {s : Int} {S B : List Int} (h : goodS s S B = true) : 1 ≤ s ∧ s ≤ 60 ∧ 1 ≤ S.length ∧ S.length ≤ 5 ∧ (∀ x ∈ S, 1 ≤ x ∧ x ≤ 9) ∧ (∀ x ∈ B, 1 ≤ x ∧ x ≤ s - 1) ∧ riseV 1 9 none S = true := by
  simp only [goodS, Bool.and_eq_true, decide_eq_true_eq] at h
  obtain ⟨⟨h1, h2⟩, ⟨h3, h4⟩, h5, h6⟩ := h
  exact ⟨h1, h2, by omega, by omega, rise_mem h5, rise_mem h6, h5⟩

def ci (T : List Nat) : List Int := T.map (fun x : Nat => (x : Int))
theorem ci_len (T : List Nat) : (ci T).length = T.length := by simp [ci]
theorem ci_get (T : List Nat) (i : Nat) : (ci T).getD i 0 = ((T.getD i 0 : Nat) : Int) := by
  simp only [ci, List.getD_eq_getElem?_getD, List.getElem?_map]
  cases T[i]? <;> simp
def incN : Nat → List Nat → Prop
  | _, [] => True
  | p, x :: xs => p < x ∧ incN x xs
theorem rise_inc : ∀ (S : List Int) (p : Option Int) (q : Nat), riseV 1 9 p S = true → (match p with | none => q = 0 | some z => z = (q : Int)) → incN q (S.map Int.toNat) := by
  intro S
  induction S with
  | nil => intro p q _ _; trivial
  | cons x S ih =>
    intro p q h hp
    simp only [riseV, Bool.and_eq_true, decide_eq_true_eq] at h
    obtain ⟨⟨h1, h2⟩, h3⟩ := h
    refine ⟨?_, ih (some x) x.toNat h3 (by simp only; omega)⟩
    cases p with
    | none => simp only at hp; omega
    | some z => simp only [decide_eq_true_eq] at hp h2; omega
theorem goodS_nat {s : Int} {S B : List Int} (h : goodS s S B = true) : ∃ (n : Nat) (T : List Nat), s = (n : Int) ∧ S = ci T ∧ 1 ≤ n ∧ n ≤ 60 ∧ T.length ≤ 5 ∧ (∀ t ∈ T, 1 ≤ t ∧ t ≤ 9) ∧ incN 0 T ∧ (∀ x ∈ B, 1 ≤ x ∧ x ≤ (n : Int) - 1) := by
  obtain ⟨h1, h2, h3, h4, h5, h6, h7⟩ := goodS_bd h
  refine ⟨s.toNat, S.map Int.toNat, by omega, ?_, by omega, by omega, by simpa using h4, ?_, rise_inc S none 0 h7 rfl, ?_⟩
  · simp only [ci, List.map_map]
    conv => lhs; rw [← List.map_id S]
    refine List.map_congr_left (fun x hx => ?_)
    have := h5 x hx
    simp only [id, Function.comp]
    omega
  · intro t ht
    obtain ⟨x, hx, rfl⟩ := List.mem_map.mp ht
    have := h5 x hx
    omega
  · intro x hx
    have := h6 x hx
    omega
/-- The sum over the strides that end at n at the latest. -/
def gs (f : Nat → Int) (n j : Nat) : List Nat → Int
  | [] => 0
  | s :: ss => (if j + s ≤ n then f (j + s) else 0) + gs f n j ss
theorem gs_congr {f f' : Nat → Int} {n j : Nat} : ∀ {T : List Nat}, (∀ t ∈ T, 1 ≤ t) → (∀ i, j < i → i ≤ n → f i = f' i) → gs f n j T = gs f' n j T := by
  intro T
  induction T with
  | nil => intro _ _; rfl
  | cons s T ih =>
    intro h1 h2
    simp only [gs]
    rw [ih (fun t ht => h1 t (List.mem_cons_of_mem _ ht)) h2]
    have := h1 s (List.mem_cons_self ..)
    by_cases hs : j + s ≤ n
    · rw [if_pos hs, if_pos hs, h2 (j + s) (by omega) hs]
    · rw [if_neg hs, if_neg hs]
theorem gs_nonneg {f : Nat → Int} {n j : Nat} (hf : ∀ i, j < i → i ≤ n → 0 ≤ f i) : ∀ (T : List Nat), (∀ t ∈ T, 1 ≤ t) → 0 ≤ gs f n j T := by
  intro T
  induction T with
  | nil => intro _; exact Int.le_refl _
  | cons s T ih =>
    intro h
    have h1 := ih (fun t ht => h t (List.mem_cons_of_mem _ ht))
    have h2 := h s (List.mem_cons_self ..)
    simp only [gs]
    by_cases hs : j + s ≤ n
    · have := hf (j + s) (by omega) hs
      rw [if_pos hs]
      omega
    · rw [if_neg hs]
      omega
theorem gs_mem {f : Nat → Int} {n j : Nat} (hf : ∀ i, j < i → i ≤ n → 0 ≤ f i) {T : List Nat} (hT : ∀ t ∈ T, 1 ≤ t) {s : Nat} (hs : s ∈ T) (hn : j + s ≤ n) : f (j + s) ≤ gs f n j T := by
  induction T with
  | nil => simp at hs
  | cons t T ih =>
    have h1 := gs_nonneg hf T (fun x hx => hT x (List.mem_cons_of_mem _ hx))
    simp only [gs]
    rcases List.mem_cons.mp hs with h | h
    · subst h
      rw [if_pos hn]
      omega
    · have h2 := ih (fun x hx => hT x (List.mem_cons_of_mem _ hx)) h
      have h3 := hT t (List.mem_cons_self ..)
      by_cases ht : j + t ≤ n
      · have := hf (j + t) (by omega) ht
        rw [if_pos ht]
        omega
      · rw [if_neg ht]
        omega
def p2 : Nat → Int
  | 0 => 1
  | d + 1 => 2 * p2 d
theorem p2_pos : ∀ d, 1 ≤ p2 d
  | 0 => by simp [p2]
  | d + 1 => by have := p2_pos d; simp only [p2]; omega
theorem p2_mono {a b : Nat} (h : a ≤ b) : p2 a ≤ p2 b := by
  obtain ⟨c, rfl⟩ := Nat.exists_eq_add_of_le h
  clear h
  induction c with
  | zero => exact Int.le_refl _
  | succ c ih =>
    have := p2_pos (a + c)
    show p2 a ≤ 2 * p2 (a + c)
    omega
theorem p2_60 {d : Nat} (h : d ≤ 60) : p2 d ≤ 1152921504606846976 := by
  have := p2_mono h
  have h2 : p2 60 = 1152921504606846976 := by decide +kernel
  omega
theorem gs_bd {f : Nat → Int} {n j : Nat} (hf : ∀ i, j < i → i ≤ n → 0 ≤ f i ∧ f i ≤ p2 (n - i)) : ∀ (T : List Nat) (p : Nat), incN p T → 0 ≤ gs f n j T ∧ gs f n j T ≤ p2 (n - j - p) := by
  intro T
  induction T with
  | nil =>
    intro p _
    have := p2_pos (n - j - p)
    simp only [gs]
    omega
  | cons s T ih =>
    intro p h
    obtain ⟨h1, h2⟩ := h
    obtain ⟨i1, i2⟩ := ih s h2
    simp only [gs]
    by_cases hs : j + s ≤ n
    · rw [if_pos hs]
      have hb := hf (j + s) (by omega) hs
      have e1 : n - (j + s) = n - j - s := by omega
      rw [e1] at hb
      have h3 : p2 (n - j - s + 1) ≤ p2 (n - j - p) := p2_mono (by omega)
      simp only [p2] at h3
      omega
    · rw [if_neg hs]
      have h3 : p2 (n - j - s) ≤ p2 (n - j - p) := p2_mono (by omega)
      omega
def dpv (n : Nat) (base : Int) (g : (Nat → Int) → Nat → Int) : Nat → Nat → Int
  | 0, _ => base
  | d + 1, j => if j + (d + 1) = n then g (dpv n base g d) j else dpv n base g d j
theorem dpv_stable (n : Nat) (base : Int) (g : (Nat → Int) → Nat → Int) (d j : Nat) (h : n ≤ j + d) : ∀ e, dpv n base g (d + e) j = dpv n base g d j := by
  intro e
  induction e with
  | zero => rfl
  | succ e ih =>
    show dpv n base g ((d + e) + 1) j = _
    rw [← ih]
    simp only [dpv]
    rw [if_neg (by omega)]
theorem dpv_top (n : Nat) (base : Int) (g : (Nat → Int) → Nat → Int) : dpv n base g n n = base := by
  have := dpv_stable n base g 0 n (by omega) n
  rw [Nat.zero_add] at this
  rw [this]
  rfl
theorem dpv_rec (n : Nat) (base : Int) (g : (Nat → Int) → Nat → Int) (hg : ∀ f f' j, (∀ i, j < i → i ≤ n → f i = f' i) → g f j = g f' j) (j : Nat) (hj : j < n) : dpv n base g n j = g (dpv n base g n) j := by
  have h1 := dpv_stable n base g (n - j) j (by omega) j
  have e1 : n - j + j = n := by omega
  rw [e1] at h1
  rw [h1]
  obtain ⟨d, hd⟩ : ∃ d, n - j = d + 1 := ⟨n - j - 1, by omega⟩
  rw [hd]
  simp only [dpv]
  rw [if_pos (by omega)]
  refine hg _ _ j (fun i h2 h3 => ?_)
  have h4 := dpv_stable n base g d i (by omega) (n - d)
  have e2 : d + (n - d) = n := by omega
  rw [e2] at h4
  exact h4.symm
/-- How many climbs there are from a step. -/
def V (n : Nat) (T : List Nat) (B : List Int) : Nat → Int := dpv n 1 (fun f j => if (j : Int) ∈ B then 0 else gs f n j T) n
theorem V_top (n : Nat) (T : List Nat) (B : List Int) : V n T B n = 1 := dpv_top ..
theorem V_rec (n : Nat) (T : List Nat) (B : List Int) (hT : ∀ t ∈ T, 1 ≤ t) (j : Nat) (hj : j < n) : V n T B j = if (j : Int) ∈ B then 0 else gs (V n T B) n j T := by
  refine dpv_rec n 1 _ (fun f f' j h => ?_) j hj
  show (if (j : Int) ∈ B then (0 : Int) else gs f n j T) = (if (j : Int) ∈ B then 0 else gs f' n j T)
  rw [gs_congr hT h]
theorem V_bd (n : Nat) (T : List Nat) (B : List Int) (hT : ∀ t ∈ T, 1 ≤ t) (hi : incN 0 T) : ∀ (d j : Nat), n - j ≤ d → j ≤ n → 0 ≤ V n T B j ∧ V n T B j ≤ p2 (n - j) := by
  intro d
  induction d with
  | zero =>
    intro j h1 h2
    obtain rfl : j = n := by omega
    rw [V_top, Nat.sub_self]
    simp [p2]
  | succ d ih =>
    intro j h1 h2
    by_cases hj : j = n
    · subst hj
      rw [V_top, Nat.sub_self]
      simp [p2]
    · rw [V_rec n T B hT j (by omega)]
      have := p2_pos (n - j)
      split
      · omega
      · exact gs_bd (fun i h3 h4 => ih i (by omega) h4) T 0 hi
/-- A row of n + 1 numbers that is filled from its end. -/
def arr (n : Nat) (f : Nat → Int) (m : Nat) : List Int := (List.range (n + 1)).map (fun j => if m ≤ j then f j else 0)
theorem arr_len (n : Nat) (f : Nat → Int) (m : Nat) : (arr n f m).length = n + 1 := by simp [arr]
theorem arr_get (n : Nat) (f : Nat → Int) (m j : Nat) (h : j ≤ n) : (arr n f m).getD j 0 = if m ≤ j then f j else 0 := by
  simp only [arr, List.getD_eq_getElem?_getD, List.getElem?_map, List.getElem?_range (show j < n + 1 by omega), Option.map_some, Option.getD_some]
theorem arr_ext {n : Nat} {f : Nat → Int} {m : Nat} {x : List Int} (hl : x.length = n + 1) (h : ∀ j, j ≤ n → x.getD j 0 = if m ≤ j then f j else 0) : x = arr n f m := by
  refine List.ext_getElem (by rw [hl, arr_len]) (fun j h1 h2 => ?_)
  have h3 := h j (by omega)
  rw [← arr_get n f m j (by omega), List.getD_eq_getElem?_getD, List.getD_eq_getElem?_getD, List.getElem?_eq_getElem h1, List.getElem?_eq_getElem h2] at h3
  exact h3
theorem getD_set (x : List Int) (i : Nat) (v : Int) (j : Nat) (hi : i < x.length) : (x.set i v).getD j 0 = if i = j then v else x.getD j 0 := by
  rw [List.getD_eq_getElem?_getD, List.getD_eq_getElem?_getD, List.getElem?_set]
  by_cases h : i = j
  · rw [if_pos h, if_pos h, if_pos hi]
    rfl
  · rw [if_neg h, if_neg h]
theorem arr_set (n : Nat) (f : Nat → Int) (m : Nat) (h : m ≤ n) : (arr n f (m + 1)).set m (f m) = arr n f m := by
  refine arr_ext (by rw [List.length_set, arr_len]) (fun j hj => ?_)
  rw [getD_set _ _ _ _ (by rw [arr_len]; omega), arr_get n f _ j hj]
  by_cases h1 : m = j
  · subst h1
    rw [if_pos rfl, if_pos (Nat.le_refl _)]
  · rw [if_neg h1]
    by_cases h2 : m ≤ j
    · rw [if_pos h2, if_pos (by omega)]
    · rw [if_neg h2, if_neg (by omega)]
theorem arr_put (n : Nat) (f : Nat → Int) (m : Nat) (v : Int) (h : m ≤ n) (hv : f m = v) : (arr n f (m + 1)).set m v = arr n f m := hv ▸ arr_set n f m h
theorem arr_zero (n : Nat) (f : Nat → Int) (m : Nat) (h : m ≤ n) : arr n f (m + 1) = (arr n f (m + 1)).set m 0 := by
  symm
  refine arr_ext (by rw [List.length_set, arr_len]) (fun j hj => ?_)
  rw [getD_set _ _ _ _ (by rw [arr_len]; omega), arr_get n f _ j hj]
  by_cases h1 : m = j
  · subst h1
    rw [if_pos rfl, if_neg (by omega)]
  · rw [if_neg h1]
theorem arr_top (n : Nat) (f : Nat → Int) (v : Int) (h : f n = v) : (List.replicate (n + 1) (0 : Int)).set n v = arr n f n := by
  refine arr_ext (by rw [List.length_set, List.length_replicate]) (fun j hj => ?_)
  rw [getD_set _ _ _ _ (by rw [List.length_replicate]; omega)]
  by_cases h1 : n = j
  · subst h1
    rw [if_pos rfl, if_pos (Nat.le_refl _), h]
  · rw [if_neg h1, if_neg (by omega), List.getD_eq_getElem?_getD, List.getElem?_replicate]
    split <;> rfl
theorem arr_rd0 (n : Nat) (f : Nat → Int) (j : Nat) (h : j ≤ n) : rd (arr n f 0) (j : Int) = f j := by
  rw [rd_nat, arr_get n f 0 j h, if_pos (by omega)]

/-- One better number of strides. -/
def btr (most : Bool) (acc v : Int) : Int := if acc < 0 then v else if most = true then (if v > acc then v else acc) else (if v < acc then v else acc)
def lf (most : Bool) (f : Nat → Int) (n j : Nat) : Int → List Nat → Int
  | acc, [] => acc
  | acc, s :: ss => lf most f n j (if j + s ≤ n ∧ 0 ≤ f (j + s) then btr most acc (f (j + s) + 1) else acc) ss
theorem lf_congr {most : Bool} {f f' : Nat → Int} {n j : Nat} : ∀ {T : List Nat} {acc : Int}, (∀ t ∈ T, 1 ≤ t) → (∀ i, j < i → i ≤ n → f i = f' i) → lf most f n j acc T = lf most f' n j acc T := by
  intro T
  induction T with
  | nil => intro _ _ _; rfl
  | cons s T ih =>
    intro acc h1 h2
    have := h1 s (List.mem_cons_self ..)
    simp only [lf]
    by_cases hs : j + s ≤ n
    · rw [h2 (j + s) (by omega) hs, ih (fun t ht => h1 t (List.mem_cons_of_mem _ ht)) h2]
    · rw [if_neg (fun h => hs h.1), if_neg (fun h => hs h.1), ih (fun t ht => h1 t (List.mem_cons_of_mem _ ht)) h2]
def Lf (n : Nat) (T : List Nat) (B : List Int) (most : Bool) : Nat → Int := dpv n 0 (fun f j => if (j : Int) ∈ B then -1 else lf most f n j (-1) T) n
theorem Lf_top (n : Nat) (T : List Nat) (B : List Int) (most : Bool) : Lf n T B most n = 0 := dpv_top ..
theorem Lf_rec (n : Nat) (T : List Nat) (B : List Int) (most : Bool) (hT : ∀ t ∈ T, 1 ≤ t) (j : Nat) (hj : j < n) : Lf n T B most j = if (j : Int) ∈ B then -1 else lf most (Lf n T B most) n j (-1) T := by
  refine dpv_rec n 0 _ (fun f f' j h => ?_) j hj
  show (if (j : Int) ∈ B then (-1 : Int) else lf most f n j (-1) T) = (if (j : Int) ∈ B then -1 else lf most f' n j (-1) T)
  rw [lf_congr hT h]
theorem btr_bd {most : Bool} {acc v b : Int} (h1 : -1 ≤ acc) (h2 : acc ≤ b) (h3 : 0 ≤ v) (h4 : v ≤ b) : -1 ≤ btr most acc v ∧ btr most acc v ≤ b := by
  unfold btr
  (repeat' split) <;> omega
theorem lf_bd {most : Bool} {f : Nat → Int} {n j : Nat} (hf : ∀ i, j < i → i ≤ n → f i ≤ (n : Int) - i) : ∀ (T : List Nat) (acc : Int), (∀ t ∈ T, 1 ≤ t) → -1 ≤ acc → acc ≤ (n : Int) - j → -1 ≤ lf most f n j acc T ∧ lf most f n j acc T ≤ (n : Int) - j := by
  intro T
  induction T with
  | nil => intro acc _ h1 h2; exact ⟨h1, h2⟩
  | cons s T ih =>
    intro acc hT h1 h2
    have hs := hT s (List.mem_cons_self ..)
    simp only [lf]
    by_cases hc : j + s ≤ n ∧ 0 ≤ f (j + s)
    · rw [if_pos hc]
      have h3 := hf (j + s) (by omega) hc.1
      have h4 := btr_bd (most := most) h1 h2 (v := f (j + s) + 1) (by omega) (by omega)
      exact ih _ (fun t ht => hT t (List.mem_cons_of_mem _ ht)) h4.1 h4.2
    · rw [if_neg hc]
      exact ih _ (fun t ht => hT t (List.mem_cons_of_mem _ ht)) h1 h2
theorem Lf_bd (n : Nat) (T : List Nat) (B : List Int) (most : Bool) (hT : ∀ t ∈ T, 1 ≤ t) : ∀ (d j : Nat), n - j ≤ d → j ≤ n → -1 ≤ Lf n T B most j ∧ Lf n T B most j ≤ (n : Int) - j := by
  intro d
  induction d with
  | zero =>
    intro j h1 h2
    obtain rfl : j = n := by omega
    rw [Lf_top]
    omega
  | succ d ih =>
    intro j h1 h2
    by_cases hj : j = n
    · subst hj
      rw [Lf_top]
      omega
    · rw [Lf_rec n T B most hT j (by omega)]
      split
      · omega
      · exact lf_bd (fun i h3 h4 => (ih i (by omega) h4).2) T (-1) hT (by omega) (by omega)
theorem left_l1 (n : Nat) (T : List Nat) (B : List Int) (most : Bool) (f : Nat → Int) (hn : n ≤ 60) (hT : ∀ t ∈ T, 1 ≤ t ∧ t ≤ 9) (hTl : T.length ≤ 5) (m : Nat) (hm : m < n) (hf : ∀ i, m < i → i ≤ n → -1 ≤ f i ∧ f i ≤ (n : Int) - i) (r : List Int) :
    ∀ (ss : List Nat) (i : Nat) (acc : Int), T.drop i = ss →
    Ev (fun k => spec_clLeft.l0 k most ((arr n f (m + 1)).set m (lf most f n m acc ss)) (wrap64 ((m : Int) - 1)) (n : Int) (ci T) B) r →
    Ev (fun k => spec_clLeft.l1 k most ((arr n f (m + 1)).set m acc) (m : Int) (ci T) ((ci T).length : Int) (i : Int) (n : Int) (ci T) B) r := by
  intro ss
  induction ss with
  | nil =>
    intro i acc hd h
    have := drop_nil' hd
    refine Ev.step (fun k => ?_) h
    simp only [spec_clLeft.l1]
    rw [if_neg (by rw [ci_len]; omega)]
    rfl
  | cons s ss ih =>
    intro i acc hd h
    obtain ⟨hi, hx, hd'⟩ := drop_info (d := 0) hd
    have hs := hT s (hx ▸ (by rw [List.getD_eq_getElem?_getD, List.getElem?_eq_getElem hi]; exact List.getElem_mem hi))
    have hi2 : (i : Int) < ((ci T).length : Int) := by rw [ci_len]; omega
    have hlen : ((arr n f (m + 1)).set m acc).length = n + 1 := by rw [List.length_set, arr_len]
    simp only [lf] at h
    have step0 : ∀ k, spec_clLeft.l1 (k + 1) most ((arr n f (m + 1)).set m acc) (m : Int) (ci T) ((ci T).length : Int) (i : Int) (n : Int) (ci T) B =
        if ((m + s : Nat) : Int) > (n : Int) then spec_clLeft.j2 k most ((arr n f (m + 1)).set m acc) (m : Int) (s : Int) (ci T) ((ci T).length : Int) (i : Int) true (n : Int) (ci T) B
        else (if 0 ≤ ((m + s : Nat) : Int) then (if ((m + s : Nat) : Int) < (((arr n f (m + 1)).set m acc).length : Int) then spec_clLeft.j2 k most ((arr n f (m + 1)).set m acc) (m : Int) (s : Int) (ci T) ((ci T).length : Int) (i : Int) (decide (rd ((arr n f (m + 1)).set m acc) ((m + s : Nat) : Int) < 0)) (n : Int) (ci T) B else none) else none) := by
      intro k
      simp only [spec_clLeft.l1]
      rw [if_pos hi2, if_pos (by omega), if_pos hi2, rd_nat (ci T), ci_get, hx, w_add m s (by omega) (by omega)]
    have hj2 : ∀ k, spec_clLeft.j2 (k + 1) most ((arr n f (m + 1)).set m acc) (m : Int) (s : Int) (ci T) ((ci T).length : Int) (i : Int) true (n : Int) (ci T) B = spec_clLeft.l1 k most ((arr n f (m + 1)).set m acc) (m : Int) (ci T) ((ci T).length : Int) ((i + 1 : Nat) : Int) (n : Int) (ci T) B := by
      intro k
      simp only [spec_clLeft.j2]
      rw [if_pos trivial, wsucc i (by omega)]
    have hjj : Ev (fun k => spec_clLeft.l1 k most ((arr n f (m + 1)).set m acc) (m : Int) (ci T) ((ci T).length : Int) ((i + 1 : Nat) : Int) (n : Int) (ci T) B) r → Ev (fun k => spec_clLeft.j2 k most ((arr n f (m + 1)).set m acc) (m : Int) (s : Int) (ci T) ((ci T).length : Int) (i : Int) true (n : Int) (ci T) B) r := fun h => Ev.step hj2 h
    by_cases hs2 : m + s ≤ n
    · have hfs := hf (m + s) (by omega) hs2
      have g1 : rd ((arr n f (m + 1)).set m acc) (m : Int) = acc := by
        rw [rd_nat, getD_set _ _ _ _ (by rw [arr_len]; omega), if_pos rfl]
      have g2 : rd ((arr n f (m + 1)).set m acc) ((m + s : Nat) : Int) = f (m + s) := by
        rw [rd_nat, getD_set _ _ _ _ (by rw [arr_len]; omega), if_neg (by omega), arr_get _ _ _ _ hs2, if_pos (by omega)]
      by_cases h0 : 0 ≤ f (m + s)
      · rw [if_pos ⟨hs2, h0⟩] at h
        refine Ev.step (g := fun k => spec_clLeft.l1 k most ((arr n f (m + 1)).set m acc) (m : Int) (ci T) ((ci T).length : Int) (i : Int) (n : Int) (ci T) B) (f := fun k => spec_clLeft.j2 k most ((arr n f (m + 1)).set m acc) (m : Int) (s : Int) (ci T) ((ci T).length : Int) (i : Int) false (n : Int) (ci T) B) (fun k => (step0 k).trans ?_) (Ev.step (fun k => ?_) (ih (i + 1) (btr most acc (f (m + s) + 1)) hd' h))
        · rw [if_neg (by omega), if_pos (by omega), hlen, if_pos (by omega), g2, decide_eq_false (by omega)]
        · simp only [spec_clLeft.j2]
          rw [if_neg (by simp), w_add m s (by omega) (by omega), if_pos (by omega), hlen, if_pos (by omega), if_pos (by omega), if_pos (by omega), g1, g2, w_id (x := f (m + s) + 1) (by omega) (by omega), wsucc i (by omega), Int.toNat_natCast, List.set_set]
          unfold btr
          by_cases ha : acc < 0
          · rw [if_pos ha, if_pos ha]
          · rw [if_neg ha, if_neg ha]
            by_cases hmo : most = true
            · rw [if_pos hmo, if_pos hmo]
              by_cases hb : f (m + s) + 1 > acc
              · rw [if_pos hb, if_pos hb]
              · rw [if_neg hb, if_neg hb]
            · rw [if_neg hmo, if_neg hmo]
              by_cases hb : f (m + s) + 1 < acc
              · rw [if_pos hb, if_pos hb]
              · rw [if_neg hb, if_neg hb]
      · rw [if_neg (fun h => h0 h.2)] at h
        refine Ev.step (fun k => (step0 k).trans ?_) (hjj (ih (i + 1) acc hd' h))
        rw [if_neg (by omega), if_pos (by omega), hlen, if_pos (by omega), g2, decide_eq_true (by omega)]
    · rw [if_neg (fun h => hs2 h.1)] at h
      exact Ev.step (fun k => (step0 k).trans (if_pos (by omega))) (hjj (ih (i + 1) acc hd' h))
theorem left_l0 (n : Nat) (T : List Nat) (B : List Int) (most : Bool) (hn : n ≤ 60) (hB : B.length ≤ 1048576) (hT : ∀ t ∈ T, 1 ≤ t ∧ t ≤ 9) (hTl : T.length ≤ 5) : ∀ (m : Nat), m ≤ n →
    Ev (fun k => spec_clLeft.l0 k most (arr n (Lf n T B most) m) (wrap64 ((m : Int) - 1)) (n : Int) (ci T) B) (arr n (Lf n T B most) 0) := by
  have hT1 : ∀ t ∈ T, 1 ≤ t := fun t ht => (hT t ht).1
  intro m
  induction m with
  | zero =>
    intro _
    refine Ev.step (fun k => ?_) (Ev.now _)
    simp only [spec_clLeft.l0]
    rw [w_id (by omega) (by omega), if_neg (by omega)]
  | succ m ih =>
    intro hm
    have e : wrap64 (((m + 1 : Nat) : Int) - 1) = (m : Int) := by
      rw [w_pred (m + 1) (by omega) (by omega), Nat.add_sub_cancel]
    rw [e]
    clear e
    have hv := Lf_rec n T B most hT1 m (by omega)
    have st := stands_ev (n : Int) (ci T) B hB (m : Int)
    rw [decide_eq_true (by omega : 0 ≤ (m : Int) ∧ (m : Int) ≤ (n : Int)), Bool.true_and] at st
    have st0 : ∀ k, spec_clLeft.l0 (k + 1) most (arr n (Lf n T B most) (m + 1)) (m : Int) (n : Int) (ci T) B =
        (spec_clStands.f k (n : Int) (ci T) B (m : Int)).bind fun t => if t = true then spec_clLeft.l1 k most ((arr n (Lf n T B most) (m + 1)).set m (-1)) (m : Int) (ci T) ((ci T).length : Int) 0 (n : Int) (ci T) B else spec_clLeft.l0 k most ((arr n (Lf n T B most) (m + 1)).set m (-1)) (wrap64 ((m : Int) - 1)) (n : Int) (ci T) B := by
      intro k
      simp only [spec_clLeft.l0]
      rw [if_pos (by omega), if_pos (by omega), arr_len, if_pos (by omega), Int.toNat_natCast]
      rfl
    by_cases hbr : (m : Int) ∈ B
    · rw [if_pos hbr] at hv
      rw [decide_eq_true hbr] at st
      have h2 := ih (by omega)
      rw [← arr_put n _ m (-1) (by omega) hv] at h2
      exact Ev.step st0 (Ev.bind st (Ev.ite_false rfl h2))
    · rw [if_neg hbr] at hv
      rw [decide_eq_false hbr] at st
      have h1 := left_l1 n T B most (Lf n T B most) hn hT hTl m (by omega) (fun i h1 h2 => Lf_bd n T B most hT1 _ i (Nat.le_refl _) h2) (arr n (Lf n T B most) 0) T 0 (-1) rfl
        (by rw [arr_put n _ m _ (by omega) hv]; exact ih (by omega))
      exact Ev.step st0 (Ev.bind st (Ev.ite_true rfl h1))
theorem clLeft_ev (n : Nat) (T : List Nat) (B : List Int) (most : Bool) (hn : n ≤ 60) (hB : B.length ≤ 1048576) (hT : ∀ t ∈ T, 1 ≤ t ∧ t ≤ 9) (hTl : T.length ≤ 5) : Ev (fun k => spec_clLeft.f k (n : Int) (ci T) B most) (arr n (Lf n T B most) 0) := by
  have e : List.replicate (n + 1) (0 : Int) = arr n (Lf n T B most) n := by
    refine arr_ext (by simp) (fun j hj => ?_)
    have e1 : (List.replicate (n + 1) (0 : Int)).getD j 0 = 0 := by
      rw [List.getD_eq_getElem?_getD, List.getElem?_replicate]
      split <;> rfl
    rw [e1]
    by_cases h : n ≤ j
    · obtain rfl : j = n := by omega
      rw [if_pos h, Lf_top]
    · rw [if_neg h]
  refine Ev.congr (fun k => ?_) (left_l0 n T B most hn hB hT hTl n (Nat.le_refl _))
  unfold spec_clLeft.f
  rw [wsucc n (by omega), if_pos (by omega), Int.toNat_natCast, if_pos (by omega), e]

def E0 (v : Int) : Int := if v < 0 then 1000 else v
theorem E0_btr {acc v : Int} (h1 : acc ≤ 60) (h2 : 0 ≤ v) (h3 : v ≤ 60) : mn (E0 acc) v = E0 (btr false acc v) := by
  unfold mn E0 btr
  simp only [Bool.false_eq_true, if_false]
  (repeat' split) <;> omega
theorem E0_no {acc : Int} (h1 : acc ≤ 60) : mn (E0 acc) 1001 = E0 acc := by
  unfold mn E0
  (repeat' split) <;> omega
theorem E0_bd {v : Int} (h1 : v ≤ 60) : 0 ≤ E0 v ∧ E0 v ≤ 1000 := by
  unfold E0
  split <;> omega
theorem few_l1 (n : Nat) (T : List Nat) (B : List Int) (f : Nat → Int) (hn : n ≤ 60) (hB : B.length ≤ 1048576) (hT : ∀ t ∈ T, 1 ≤ t ∧ t ≤ 9) (hTl : T.length ≤ 5) (m : Nat) (hm : m < n) (hf : ∀ i, m < i → i ≤ n → -1 ≤ f i ∧ f i ≤ (n : Int) - i) (r : List Int × Bool) :
    ∀ (ss : List Nat) (i : Nat) (acc : Int), T.drop i = ss → -1 ≤ acc → acc ≤ (n : Int) - m →
    Ev (fun k => impl_FirstFewest.l0 k ((arr n (fun j => E0 (f j)) (m + 1)).set m (E0 (if (m : Int) ∈ B then acc else lf false f n m acc ss))) (wrap64 ((m : Int) - 1)) (n : Int) (ci T) B) r →
    Ev (fun k => impl_FirstFewest.l1 k ((arr n (fun j => E0 (f j)) (m + 1)).set m (E0 acc)) (m : Int) (ci T) ((ci T).length : Int) (i : Int) (n : Int) (ci T) B) r := by
  intro ss
  induction ss with
  | nil =>
    intro i acc hd h0 h1 h
    have := drop_nil' hd
    refine Ev.step (fun k => ?_) h
    simp only [impl_FirstFewest.l1]
    rw [if_neg (by rw [ci_len]; omega)]
    simp only [lf, ite_self]
  | cons s ss ih =>
    intro i acc hd h0 h1 h
    obtain ⟨hi, hx, hd'⟩ := drop_info (d := 0) hd
    have hs := hT s (hx ▸ (by rw [List.getD_eq_getElem?_getD, List.getElem?_eq_getElem hi]; exact List.getElem_mem hi))
    have hi2 : (i : Int) < ((ci T).length : Int) := by rw [ci_len]; omega
    simp only [lf] at h
    have step0 : ∀ k, impl_FirstFewest.l1 (k + 1) ((arr n (fun j => E0 (f j)) (m + 1)).set m (E0 acc)) (m : Int) (ci T) ((ci T).length : Int) (i : Int) (n : Int) (ci T) B =
        if ((m + s : Nat) : Int) ≤ (n : Int) then ((impl_Stairs_isBroken.f k (n : Int) (ci T) B (m : Int)).bind fun t => (if t = true then (impl_FirstFewest.l1 k ((arr n (fun j => E0 (f j)) (m + 1)).set m (E0 acc)) (m : Int) (ci T) ((ci T).length : Int) ((i + 1 : Nat) : Int) (n : Int) (ci T) B) else (if 0 ≤ (m : Int) then (if (m : Int) < (((arr n (fun j => E0 (f j)) (m + 1)).set m (E0 acc)).length : Int) then (if 0 ≤ ((m + s : Nat) : Int) then (if ((m + s : Nat) : Int) < (((arr n (fun j => E0 (f j)) (m + 1)).set m (E0 acc)).length : Int) then (impl_FirstFewest.l1 k (((arr n (fun j => E0 (f j)) (m + 1)).set m (E0 acc)).set (m : Int).toNat (mn (rd ((arr n (fun j => E0 (f j)) (m + 1)).set m (E0 acc)) (m : Int)) (wrap64 ((rd ((arr n (fun j => E0 (f j)) (m + 1)).set m (E0 acc)) ((m + s : Nat) : Int)) + 1)))) (m : Int) (ci T) ((ci T).length : Int) ((i + 1 : Nat) : Int) (n : Int) (ci T) B) else none) else none) else none) else none))) else (impl_FirstFewest.l1 k ((arr n (fun j => E0 (f j)) (m + 1)).set m (E0 acc)) (m : Int) (ci T) ((ci T).length : Int) ((i + 1 : Nat) : Int) (n : Int) (ci T) B) := by
      intro k
      simp only [impl_FirstFewest.l1]
      rw [if_pos hi2, if_pos (by omega), if_pos hi2, rd_nat (ci T), ci_get, hx, w_add m s (by omega) (by omega), wsucc i (by omega)]
    by_cases hs2 : m + s ≤ n
    · have hfs := hf (m + s) (by omega) hs2
      by_cases hb : (m : Int) ∈ B
      · rw [if_pos hb] at h
        refine Ev.step (fun k => (step0 k).trans (if_pos (by omega))) (Ev.bind (broken_ev _ _ B hB _) (Ev.ite_true (decide_eq_true hb) ?_))
        refine ih (i + 1) acc hd' h0 h1 ?_
        rw [if_pos hb]
        exact h
      · rw [if_neg hb] at h
        have hlen : ((arr n (fun j => E0 (f j)) (m + 1)).set m (E0 acc)).length = n + 1 := by rw [List.length_set, arr_len]
        have g1 : rd ((arr n (fun j => E0 (f j)) (m + 1)).set m (E0 acc)) (m : Int) = E0 acc := by
          rw [rd_nat, getD_set _ _ _ _ (by rw [arr_len]; omega), if_pos rfl]
        have g2 : rd ((arr n (fun j => E0 (f j)) (m + 1)).set m (E0 acc)) ((m + s : Nat) : Int) = E0 (f (m + s)) := by
          rw [rd_nat, getD_set _ _ _ _ (by rw [arr_len]; omega), if_neg (by omega), arr_get _ _ _ _ hs2, if_pos (by omega)]
        have hE := E0_bd (v := f (m + s)) (by omega)
        by_cases h2 : 0 ≤ f (m + s)
        · rw [if_pos ⟨hs2, h2⟩] at h
          have h4 := btr_bd (most := false) h0 h1 (v := f (m + s) + 1) (by omega) (by omega)
          have h3 := ih (i + 1) (btr false acc (f (m + s) + 1)) hd' h4.1 h4.2 (by rw [if_neg hb]; exact h)
          have e : E0 (f (m + s)) = f (m + s) := if_neg (by omega)
          refine Ev.step (fun k => (step0 k).trans (if_pos (by omega))) (Ev.bind (broken_ev _ _ B hB _) (Ev.ite_false (decide_eq_false hb) (Ev.congr (fun k => ?_) h3)))
          rw [hlen, if_pos (by omega), if_pos (by omega), if_pos (by omega), if_pos (by omega), g1, g2, e, w_id (x := f (m + s) + 1) (by omega) (by omega), E0_btr (by omega) (by omega) (by omega), Int.toNat_natCast, List.set_set]
        · rw [if_neg (fun h => h2 h.2)] at h
          have h3 := ih (i + 1) acc hd' h0 h1 (by rw [if_neg hb]; exact h)
          have e : E0 (f (m + s)) = 1000 := if_pos (by omega)
          refine Ev.step (fun k => (step0 k).trans (if_pos (by omega))) (Ev.bind (broken_ev _ _ B hB _) (Ev.ite_false (decide_eq_false hb) (Ev.congr (fun k => ?_) h3)))
          rw [hlen, if_pos (by omega), if_pos (by omega), if_pos (by omega), if_pos (by omega), g1, g2, e, w_id (x := 1000 + 1) (by omega) (by omega), show (1000 : Int) + 1 = 1001 by rfl, E0_no (by omega), Int.toNat_natCast, List.set_set]
    · have e : (if m + s ≤ n ∧ 0 ≤ f (m + s) then btr false acc (f (m + s) + 1) else acc) = acc := if_neg (fun h => hs2 h.1)
      rw [e] at h
      exact Ev.step (fun k => (step0 k).trans (if_neg (by omega))) (ih (i + 1) acc hd' h0 h1 h)
theorem few_l0 (n : Nat) (T : List Nat) (B : List Int) (hn : n ≤ 60) (hB : B.length ≤ 1048576) (hT : ∀ t ∈ T, 1 ≤ t ∧ t ≤ 9) (hTl : T.length ≤ 5) (r : List Int × Bool)
    (h : Ev (fun k => if 0 < ((arr n (fun j => E0 (Lf n T B false j)) 0).length : Int) then (if (rd (arr n (fun j => E0 (Lf n T B false j)) 0) 0) ≥ 1000 then (some (([] : List Int), false)) else (impl_FirstFewest.l2 k (arr n (fun j => E0 (Lf n T B false j)) 0) (([] : List Int)) 0 (n : Int) (ci T) B)) else none) r) : ∀ (m : Nat), m ≤ n →
    Ev (fun k => impl_FirstFewest.l0 k (arr n (fun j => E0 (Lf n T B false j)) m) (wrap64 ((m : Int) - 1)) (n : Int) (ci T) B) r := by
  have hT1 : ∀ t ∈ T, 1 ≤ t := fun t ht => (hT t ht).1
  intro m
  induction m with
  | zero =>
    intro _
    refine Ev.step (fun k => ?_) h
    simp only [impl_FirstFewest.l0]
    rw [w_id (x := ((0 : Nat) : Int) - 1) (by omega) (by omega), if_neg (by omega)]
  | succ m ih =>
    intro hm
    have e : wrap64 (((m + 1 : Nat) : Int) - 1) = (m : Int) := by
      rw [w_pred (m + 1) (by omega) (by omega), Nat.add_sub_cancel]
    rw [e]
    clear e
    have hv := Lf_rec n T B false hT1 m (by omega)
    have h1 := few_l1 n T B (Lf n T B false) hn hB hT hTl m (by omega) (fun i h1 h2 => Lf_bd n T B false hT1 _ i (Nat.le_refl _) h2) r T 0 (-1) rfl (by omega) (by omega)
      (by rw [arr_put n (fun j => E0 (Lf n T B false j)) m _ (by omega) (by rw [hv])]; exact ih (by omega))
    refine Ev.step (fun k => ?_) h1
    simp only [impl_FirstFewest.l0]
    rw [if_pos (by omega), if_pos (by omega), arr_len, if_pos (by omega), Int.toNat_natCast]
    rfl
theorem lf_or {most : Bool} {f : Nat → Int} {n j : Nat} : ∀ (ss : List Nat) (acc : Int), lf most f n j acc ss = acc ∨ ∃ s ∈ ss, j + s ≤ n ∧ 0 ≤ f (j + s) ∧ f (j + s) = lf most f n j acc ss - 1 := by
  intro ss
  induction ss with
  | nil => intro acc; exact Or.inl rfl
  | cons s ss ih =>
    intro acc
    simp only [lf]
    by_cases hc : j + s ≤ n ∧ 0 ≤ f (j + s)
    · rw [if_pos hc]
      rcases ih (btr most acc (f (j + s) + 1)) with h | ⟨t, h1, h2⟩
      · have : btr most acc (f (j + s) + 1) = acc ∨ btr most acc (f (j + s) + 1) = f (j + s) + 1 := by
          unfold btr
          (repeat' split) <;> simp
        rcases this with h3 | h3
        · exact Or.inl (h.trans h3)
        · exact Or.inr ⟨s, List.mem_cons_self .., hc.1, hc.2, by omega⟩
      · exact Or.inr ⟨t, List.mem_cons_of_mem _ h1, h2⟩
    · rw [if_neg hc]
      rcases ih acc with h | ⟨t, h1, h2⟩
      · exact Or.inl h
      · exact Or.inr ⟨t, List.mem_cons_of_mem _ h1, h2⟩
/-- The first stride on a shortest way. -/
def pf (f : Nat → Int) (n j : Nat) : List Nat → Option Nat
  | [] => none
  | s :: ss => if j + s ≤ n ∧ 0 ≤ f (j + s) ∧ f (j + s) = f j - 1 then some s else pf f n j ss
theorem pf_some (f : Nat → Int) (n j : Nat) : ∀ (ss : List Nat), (∃ s ∈ ss, j + s ≤ n ∧ 0 ≤ f (j + s) ∧ f (j + s) = f j - 1) → ∃ s, pf f n j ss = some s ∧ s ∈ ss ∧ j + s ≤ n ∧ 0 ≤ f (j + s) := by
  intro ss
  induction ss with
  | nil => rintro ⟨s, h, _⟩; simp at h
  | cons t ss ih =>
    rintro ⟨s, h1, h2⟩
    simp only [pf]
    by_cases hc : j + t ≤ n ∧ 0 ≤ f (j + t) ∧ f (j + t) = f j - 1
    · rw [if_pos hc]
      exact ⟨t, rfl, List.mem_cons_self .., hc.1, hc.2.1⟩
    · rw [if_neg hc]
      rcases List.mem_cons.mp h1 with e | h1
      · subst e
        exact absurd h2 hc
      · obtain ⟨u, a, b, c⟩ := ih ⟨s, h1, h2⟩
        exact ⟨u, a, List.mem_cons_of_mem _ b, c⟩
theorem ff_l1 (n : Nat) (T : List Nat) (B : List Int) (f : Nat → Int) (hn : n ≤ 60) (hT : ∀ t ∈ T, 1 ≤ t ∧ t ≤ 9) (hTl : T.length ≤ 5) (j : Nat) (hj : j < n) (hf : ∀ i, i ≤ n → -1 ≤ f i ∧ f i ≤ 60) (hfj : 0 ≤ f j) (o : List Int) (ho : o.length ≤ j) (s : Nat) (r : List Int × Bool)
    (h1 : Ev (fun k => spec_FirstFewest.l0 k (arr n f 0) (o ++ [(s : Int)]) ((j + s : Nat) : Int) (n : Int) (ci T) B) r) (h2 : Ev (fun k => impl_FirstFewest.l2 k (arr n (fun j => E0 (f j)) 0) (o ++ [(s : Int)]) ((j + s : Nat) : Int) (n : Int) (ci T) B) r) :
    ∀ (ss : List Nat) (i : Nat), T.drop i = ss → pf f n j ss = some s →
    Ev (fun k => spec_FirstFewest.l1 k (arr n f 0) o (j : Int) (ci T) ((ci T).length : Int) (i : Int) (n : Int) (ci T) B) r ∧ Ev (fun k => impl_FirstFewest.l3 k (arr n (fun j => E0 (f j)) 0) o (j : Int) (ci T) ((ci T).length : Int) (i : Int) (n : Int) (ci T) B) r := by
  intro ss
  induction ss with
  | nil =>
    intro i hd hp
    simp [pf] at hp
  | cons t ss ih =>
    intro i hd hp
    obtain ⟨hi, hx, hd'⟩ := drop_info (d := 0) hd
    have hs := hT t (hx ▸ (by rw [List.getD_eq_getElem?_getD, List.getElem?_eq_getElem hi]; exact List.getElem_mem hi))
    have hi2 : (i : Int) < ((ci T).length : Int) := by rw [ci_len]; omega
    have hfj2 := hf j (by omega)
    have ej : E0 (f j) = f j := if_neg (by omega)
    simp only [pf] at hp
    by_cases hs2 : j + t ≤ n
    · have hft := hf (j + t) hs2
      by_cases h0 : 0 ≤ f (j + t)
      · have et : E0 (f (j + t)) = f (j + t) := if_neg (by omega)
        by_cases he : f (j + t) = f j - 1
        · rw [if_pos ⟨hs2, h0, he⟩] at hp
          obtain rfl := Option.some.inj hp
          refine ⟨Ev.step (fun k => ?_) h1, Ev.step (fun k => ?_) h2⟩
          · simp only [spec_FirstFewest.l1]
            rw [if_pos hi2, if_pos (by omega), if_pos hi2, rd_nat (ci T), ci_get, hx, w_add j t (by omega) (by omega), if_pos (by omega), if_pos (by omega), arr_len, if_pos (by omega), arr_rd0 n _ _ hs2, if_pos h0, if_pos (by omega), if_pos (by omega), arr_rd0 n _ _ (by omega), w_id (x := f j - 1) (by omega) (by omega), if_pos he, if_pos (by omega)]
          · simp only [impl_FirstFewest.l3]
            rw [if_pos hi2, if_pos (by omega), if_pos hi2, rd_nat (ci T), ci_get, hx, w_add j t (by omega) (by omega), if_pos (by omega), if_pos (by omega), arr_len, if_pos (by omega), if_pos (by omega), if_pos (by omega), arr_rd0 n _ _ hs2, arr_rd0 n _ _ (by omega), et, ej, w_id (x := f (j + t) + 1) (by omega) (by omega), if_pos (by omega), if_pos (by omega)]
        · rw [if_neg (fun h => he h.2.2)] at hp
          obtain ⟨i1, i2⟩ := ih (i + 1) hd' hp
          refine ⟨Ev.step (fun k => ?_) i1, Ev.step (fun k => ?_) i2⟩
          · simp only [spec_FirstFewest.l1]
            rw [if_pos hi2, if_pos (by omega), if_pos hi2, rd_nat (ci T), ci_get, hx, w_add j t (by omega) (by omega), wsucc i (by omega), if_pos (by omega), if_pos (by omega), arr_len, if_pos (by omega), arr_rd0 n _ _ hs2, if_pos h0, if_pos (by omega), if_pos (by omega), arr_rd0 n _ _ (by omega), w_id (x := f j - 1) (by omega) (by omega), if_neg he]
          · simp only [impl_FirstFewest.l3]
            rw [if_pos hi2, if_pos (by omega), if_pos hi2, rd_nat (ci T), ci_get, hx, w_add j t (by omega) (by omega), wsucc i (by omega), if_pos (by omega), if_pos (by omega), arr_len, if_pos (by omega), if_pos (by omega), if_pos (by omega), arr_rd0 n _ _ hs2, arr_rd0 n _ _ (by omega), et, ej, w_id (x := f (j + t) + 1) (by omega) (by omega), if_neg (by omega)]
      · have et : E0 (f (j + t)) = 1000 := if_pos (by omega)
        rw [if_neg (fun h => h0 h.2.1)] at hp
        obtain ⟨i1, i2⟩ := ih (i + 1) hd' hp
        refine ⟨Ev.step (fun k => ?_) i1, Ev.step (fun k => ?_) i2⟩
        · simp only [spec_FirstFewest.l1]
          rw [if_pos hi2, if_pos (by omega), if_pos hi2, rd_nat (ci T), ci_get, hx, w_add j t (by omega) (by omega), wsucc i (by omega), if_pos (by omega), if_pos (by omega), arr_len, if_pos (by omega), arr_rd0 n _ _ hs2, if_neg (by omega)]
        · simp only [impl_FirstFewest.l3]
          rw [if_pos hi2, if_pos (by omega), if_pos hi2, rd_nat (ci T), ci_get, hx, w_add j t (by omega) (by omega), wsucc i (by omega), if_pos (by omega), if_pos (by omega), arr_len, if_pos (by omega), if_pos (by omega), if_pos (by omega), arr_rd0 n _ _ hs2, arr_rd0 n _ _ (by omega), et, ej, w_id (x := 1000 + 1) (by omega) (by omega), if_neg (by omega)]
    · rw [if_neg (fun h => hs2 h.1)] at hp
      obtain ⟨i1, i2⟩ := ih (i + 1) hd' hp
      refine ⟨Ev.step (fun k => ?_) i1, Ev.step (fun k => ?_) i2⟩
      · simp only [spec_FirstFewest.l1]
        rw [if_pos hi2, if_pos (by omega), if_pos hi2, rd_nat (ci T), ci_get, hx, w_add j t (by omega) (by omega), wsucc i (by omega), if_neg (by omega)]
      · simp only [impl_FirstFewest.l3]
        rw [if_pos hi2, if_pos (by omega), if_pos hi2, rd_nat (ci T), ci_get, hx, w_add j t (by omega) (by omega), wsucc i (by omega), if_neg (by omega)]
theorem ff_both (n : Nat) (T : List Nat) (B : List Int) (hn : n ≤ 60) (hT : ∀ t ∈ T, 1 ≤ t ∧ t ≤ 9) (hTl : T.length ≤ 5) : ∀ (d j : Nat) (o : List Int), n - j ≤ d → j ≤ n → o.length ≤ j → 0 ≤ Lf n T B false j →
    ∃ w, Ev (fun k => spec_FirstFewest.l0 k (arr n (Lf n T B false) 0) o (j : Int) (n : Int) (ci T) B) (w, true) ∧ Ev (fun k => impl_FirstFewest.l2 k (arr n (fun j => E0 (Lf n T B false j)) 0) o (j : Int) (n : Int) (ci T) B) (w, true) ∧ w.length ≤ 1048576 := by
  have hT1 : ∀ t ∈ T, 1 ≤ t := fun t ht => (hT t ht).1
  have fin : ∀ (o : List Int), o.length ≤ n → ∃ w, Ev (fun k => spec_FirstFewest.l0 k (arr n (Lf n T B false) 0) o (n : Int) (n : Int) (ci T) B) (w, true) ∧ Ev (fun k => impl_FirstFewest.l2 k (arr n (fun j => E0 (Lf n T B false j)) 0) o (n : Int) (n : Int) (ci T) B) (w, true) ∧ w.length ≤ 1048576 := by
    intro o ho
    refine ⟨o, Ev.step (fun k => ?_) (Ev.now _), Ev.step (fun k => ?_) (Ev.now _), by omega⟩
    · simp only [spec_FirstFewest.l0]
      rw [if_neg (by omega)]
    · simp only [impl_FirstFewest.l2]
      rw [if_neg (by omega)]
  intro d
  induction d with
  | zero =>
    intro j o h1 h2 h3 _
    obtain rfl : j = n := by omega
    exact fin o h3
  | succ d ih =>
    intro j o h1 h2 h3 h0
    by_cases hjn : j = n
    · subst hjn
      exact fin o h3
    · have hr := Lf_rec n T B false hT1 j (by omega)
      by_cases hbr : (j : Int) ∈ B
      · rw [if_pos hbr] at hr
        omega
      · rw [if_neg hbr] at hr
        have hex : ∃ s ∈ T, j + s ≤ n ∧ 0 ≤ Lf n T B false (j + s) ∧ Lf n T B false (j + s) = Lf n T B false j - 1 := by
          rcases lf_or (most := false) (f := Lf n T B false) (n := n) (j := j) T (-1) with h | ⟨s, a, b, c, d⟩
          · omega
          · exact ⟨s, a, b, c, by omega⟩
        obtain ⟨s, p1, p2, p3, p4⟩ := pf_some _ n j T hex
        have hs1 := hT1 s p2
        obtain ⟨w, w1, w2, w3⟩ := ih (j + s) (o ++ [(s : Int)]) (by omega) p3 (by simp; omega) p4
        obtain ⟨q1, q2⟩ := ff_l1 n T B (Lf n T B false) hn hT hTl j (by omega) (fun i hi => by have := Lf_bd n T B false hT1 _ i (Nat.le_refl _) hi; omega) h0 o h3 s _ w1 w2 T 0 rfl p1
        refine ⟨w, Ev.step (fun k => ?_) q1, Ev.step (fun k => ?_) q2, w3⟩
        · simp only [spec_FirstFewest.l0]
          rw [if_pos (by omega)]
          rfl
        · simp only [impl_FirstFewest.l2]
          rw [if_pos (by omega)]
          rfl

def marked (n : Nat) (m : Int) : List Int := (List.range n).map fun (j : Nat) => m + (j : Int)
theorem marked_length (n : Nat) (m : Int) : (marked n m).length = n := by simp [marked]
theorem marked_succ (n : Nat) (m : Int) : marked (n + 1) m = m :: marked n (m + 1) := by
  simp only [marked, List.range_succ_eq_map, List.map_cons, List.map_map]
  congr 1
  · omega
  · apply List.map_congr_left
    intro j _
    simp only [Function.comp]
    omega
theorem marked_get (n : Nat) (m : Int) (j : Nat) (h : j < n) : (marked n m).getD j 0 = m + (j : Int) := by
  simp [marked, List.getD_eq_getElem?_getD, h]
theorem markIntS_l : ∀ (d k i : Nat) (l : List Int) (m : Int), l.length ≤ 1048576 → l.length - i = d → d < k → i ≤ l.length → 0 ≤ m → m + (d : Int) ≤ 1000000000 →
    laws_markIntS.l0 k l m (i : Int) = some (m + (d : Int), l.take i ++ marked d m) := by
  intro d
  induction d with
  | zero =>
    intro k i l m hB hd hk hi _ _
    obtain ⟨k, rfl⟩ := kpred hk
    simp only [laws_markIntS.l0]
    rw [if_neg (by omega)]
    have e : i = l.length := by omega
    rw [e, List.take_length]
    simp [marked]
  | succ d ih =>
    intro k i l m hB hd hk hi h0 h1
    obtain ⟨k, rfl⟩ := kpred hk
    simp only [laws_markIntS.l0]
    have hw : wrap64 (m + 1) = m + 1 := by
      unfold wrap64
      omega
    rw [if_pos (by omega), if_pos (by omega), hw, wsucc i (by omega), Int.toNat_natCast]
    rw [ih k (i + 1) (l.set i m) (m + 1) (by simpa using hB) (by rw [List.length_set]; omega) (by omega) (by rw [List.length_set]; omega) (by omega) (by omega)]
    rw [take_set_succ _ _ _ (by omega), marked_succ, List.append_assoc]
    congr 2
    omega
theorem markIntS_val (l : List Int) (hB : l.length ≤ 1048576) (m : Int) (h0 : 0 ≤ m) (h1 : m ≤ 900000000) (k : Nat) (hk : l.length < k) :
    laws_markIntS.f k l m = some (m + (l.length : Int), marked l.length m) := by
  unfold laws_markIntS.f
  have := markIntS_l l.length k 0 l m hB (by omega) hk (by omega) h0 (by omega)
  simpa using this
theorem heldIntS_l : ∀ (d k i : Nat) (l : List Int) (m : Int), l.length ≤ 1048576 → l.length - i = d → d < k → i ≤ l.length → 0 ≤ m → m + (d : Int) ≤ 1000000000 → (∀ j, j < d → l.getD (i + j) 0 = m + (j : Int)) →
    laws_heldIntS.l0 k l m (i : Int) = some (m + (d : Int)) := by
  intro d
  induction d with
  | zero =>
    intro k i l m hB hd hk hi _ _ _
    obtain ⟨k, rfl⟩ := kpred hk
    simp only [laws_heldIntS.l0]
    rw [if_neg (by omega)]
    simp
  | succ d ih =>
    intro k i l m hB hd hk hi h0 h1 hj
    obtain ⟨k, rfl⟩ := kpred hk
    simp only [laws_heldIntS.l0]
    have hw : wrap64 (m + 1) = m + 1 := by
      unfold wrap64
      omega
    have h00 := hj 0 (by omega)
    rw [if_pos (by omega), if_pos (by omega), rd_nat, if_pos (by simpa using h00), hw, wsucc i (by omega)]
    rw [ih k (i + 1) l (m + 1) hB (by omega) (by omega) (by omega) (by omega) (by omega) (fun j h => by
      have := hj (j + 1) (by omega)
      rw [show i + 1 + j = i + (j + 1) by omega, this]
      omega)]
    congr 1
    omega
theorem heldIntS_val (n : Nat) (hB : n ≤ 1048576) (m : Int) (h0 : 0 ≤ m) (h1 : m ≤ 900000000) (k : Nat) (hk : n < k) :
    laws_heldIntS.f k (marked n m) m = some (m + (n : Int)) := by
  unfold laws_heldIntS.f
  exact heldIntS_l n k 0 (marked n m) m (by rw [marked_length]; exact hB) (by rw [marked_length]; omega) hk (by omega) h0 (by omega) (fun j h => by rw [Nat.zero_add]; exact marked_get n m j h)

theorem markIntS_ev (l : List Int) (hB : l.length ≤ 1048576) (m : Int) (h0 : 0 ≤ m) (h1 : m ≤ 900000000) : Ev (fun k => laws_markIntS.f k l m) (m + (l.length : Int), marked l.length m) :=
  ⟨l.length + 1, fun k hk => markIntS_val l hB m h0 h1 k (by omega)⟩
theorem heldIntS_ev (n : Nat) (hB : n ≤ 1048576) (m : Int) (h0 : 0 ≤ m) (h1 : m ≤ 900000000) : Ev (fun k => laws_heldIntS.f k (marked n m) m) (m + (n : Int)) :=
  ⟨n + 1, fun k hk => heldIntS_val n hB m h0 h1 k (by omega)⟩
theorem markIntS_nil : Ev (fun k => laws_markIntS.f k [] 1) (1, []) := by simpa [marked] using markIntS_ev [] (by simp) 1 (by omega) (by omega)
theorem heldIntS_nil : Ev (fun k => laws_heldIntS.f k [] 1) 1 := by simpa [marked] using heldIntS_ev 0 (by omega) 1 (by omega) (by omega)

/- What is proved at the end: ∀ (a0_0 : Int) (l0_1 : List Int) (l0_2 : List Int), (Lit.int .i64 a0_0).wf = true → l0_1.length ≤ maxLen → (∀ x ∈ l0_1, (Lit.int .i64 x).wf = true) → l0_2.length ≤ maxLen → (∀ x ∈ l0_2, (Lit.int .i64 x).wf = true) → ∃ k, laws_FnExactFirstFewest.f k a0_0 l0_1 l0_2 = some true -/
theorem specFewest_ev (n : Nat) (T : List Nat) (b : List Int) (hg : goodS (n : Int) (ci T) b = true) (h2 : n ≤ 60) (hb : b.length ≤ 1048576) (h4 : ∀ t ∈ T, 1 ≤ t ∧ t ≤ 9) (h3 : T.length ≤ 5) : Ev (fun k => spec_FewestStrides.f k (n : Int) (ci T) b) (if Lf n T b false 0 < 0 then ((0 : Int), false) else (Lf n T b false 0, true)) := by
  have hl := clLeft_ev n T b false h2 hb h4 h3
  have z : ∀ f : Nat → Int, rd (arr n f 0) 0 = f 0 := fun f => arr_rd0 n f 0 (by omega)
  unfold spec_FewestStrides.f
  by_cases h0 : Lf n T b false 0 < 0
  · rw [if_pos h0]
    refine Ev.bind (clGood_ev _ _ _ (by rw [ci_len]; omega) hb) (Ev.ite_true hg (Ev.bind hl (Ev.congr (fun k => ?_) (Ev.now _))))
    rw [arr_len, if_pos (by omega), z, if_pos h0]
  · rw [if_neg h0]
    refine Ev.bind (clGood_ev _ _ _ (by rw [ci_len]; omega) hb) (Ev.ite_true hg (Ev.bind hl (Ev.congr (fun k => ?_) (Ev.bind (f := fun k t => if 0 < (t.length : Int) then some (rd t 0, true) else none) hl (Ev.congr (fun k => ?_) (Ev.now _))))))
    · rw [arr_len, if_pos (by omega), z, if_neg h0]
    · rw [arr_len, if_pos (by omega), z]
theorem FnExactFirstFewest_agree (s : Int) (a b : List Int) (ha : a.length ≤ 1048576) (hb : b.length ≤ 1048576) : ∃ w0 w1, Ev (fun k => spec_FirstFewest.f k s a b) (w0, w1) ∧ Ev (fun k => impl_FirstFewest.f k s a b) (w0, w1) ∧ w0.length ≤ 1048576 := by
  by_cases hg : goodS s a b = true
  · obtain ⟨n, T, rfl, rfl, h1, h2, h3, h4, h5, h6⟩ := goodS_nat hg
    have hT1 : ∀ t ∈ T, 1 ≤ t := fun t ht => (h4 t ht).1
    have hs := specFewest_ev n T b hg h2 hb h4 h3
    have hl := clLeft_ev n T b false h2 hb h4 h3
    have hL := Lf_bd n T b false hT1 _ 0 (Nat.le_refl _) (by omega)
    have z : ∀ f : Nat → Int, rd (arr n f 0) 0 = f 0 := fun f => arr_rd0 n f 0 (by omega)
    have e : List.replicate (n + 1) (0 : Int) = arr n (fun j => E0 (Lf n T b false j)) n := by
      refine arr_ext (by simp) (fun j hj => ?_)
      have e1 : (List.replicate (n + 1) (0 : Int)).getD j 0 = 0 := by
        rw [List.getD_eq_getElem?_getD, List.getElem?_replicate]
        split <;> rfl
      rw [e1]
      by_cases h : n ≤ j
      · obtain rfl : j = n := by omega
        rw [if_pos h, Lf_top]
        rfl
      · rw [if_neg h]
    have hi : ∀ r, Ev (fun k => if 0 < ((arr n (fun j => E0 (Lf n T b false j)) 0).length : Int) then (if (rd (arr n (fun j => E0 (Lf n T b false j)) 0) 0) ≥ 1000 then (some (([] : List Int), false)) else (impl_FirstFewest.l2 k (arr n (fun j => E0 (Lf n T b false j)) 0) (([] : List Int)) 0 (n : Int) (ci T) b)) else none) r → Ev (fun k => impl_FirstFewest.f k (n : Int) (ci T) b) r := by
      intro r h
      have h7 := few_l0 n T b h2 hb h4 h3 r h n (Nat.le_refl _)
      unfold impl_FirstFewest.f
      refine Ev.bind (areStairs_ev _ _ _ ha hb) (Ev.ite_true hg (Ev.congr (fun k => ?_) h7))
      rw [wsucc n (by omega), if_pos (by omega), Int.toNat_natCast, if_pos (by omega), e]
    unfold spec_FirstFewest.f
    by_cases h0 : Lf n T b false 0 < 0
    · rw [if_pos h0] at hs
      refine ⟨[], false, Ev.bind hs (Ev.ite_false rfl (Ev.now _)), hi _ (Ev.congr (fun k => ?_) (Ev.now _)), by simp⟩
      have e0 : E0 (Lf n T b false 0) = 1000 := if_pos h0
      rw [arr_len, if_pos (by omega), z, e0, if_pos (by omega)]
    · rw [if_neg h0] at hs
      obtain ⟨w, w1, w2, w3⟩ := ff_both n T b h2 h4 h3 n 0 [] (by omega) (by omega) (by simp) (by omega)
      refine ⟨w, true, Ev.bind hs (Ev.ite_true rfl (Ev.bind (f := fun k t => spec_FirstFewest.l0 k t [] 0 (n : Int) (ci T) b) hl w1)), hi _ (Ev.congr (fun k => ?_) w2), w3⟩
      have e0 : E0 (Lf n T b false 0) = Lf n T b false 0 := if_neg h0
      rw [arr_len, if_pos (by omega), z, e0, if_neg (by omega)]
      rfl
  · have hg' : goodS s a b = false := Bool.eq_false_iff.mpr hg
    refine ⟨[], false, Ev.bind (a := ((0 : Int), false)) (Ev.bind (clGood_ev _ _ _ ha hb) (Ev.ite_false hg' (Ev.now _))) (Ev.ite_false rfl (Ev.now _)), Ev.bind (areStairs_ev _ _ _ ha hb) (Ev.ite_false hg' (Ev.now _)), by simp⟩
theorem FnExactFirstFewest : ∀ (a0_0 : Int) (l0_1 : List Int) (l0_2 : List Int), (Lit.int .i64 a0_0).wf = true → l0_1.length ≤ maxLen → (∀ x ∈ l0_1, (Lit.int .i64 x).wf = true) → l0_2.length ≤ maxLen → (∀ x ∈ l0_2, (Lit.int .i64 x).wf = true) → ∃ k, laws_FnExactFirstFewest.f k a0_0 l0_1 l0_2 = some true := by
  intro a0_0 l0_1 l0_2 w0_0 hm0_1 hw0_1 hm0_2 hw0_2
  by_cases hN0 : ¬ l0_1.length + l0_2.length ≤ 1048576
  · exact ⟨1, by unfold laws_FnExactFirstFewest.f; simp [szStairs_no a0_0 l0_1 l0_2 hm0_1 hm0_2 hN0]⟩
  have hZ0 : l0_1.length + l0_2.length ≤ 1048576 := by omega
  have hl0_1 : l0_1.length ≤ 1048576 := by omega
  have hl0_2 : l0_2.length ≤ 1048576 := by omega
  have hz0 := szStairs_yes a0_0 l0_1 l0_2 hZ0
  obtain ⟨w0, w1, hS, hI, hww0⟩ := FnExactFirstFewest_agree a0_0 l0_1 l0_2 hl0_1 hl0_2
  obtain ⟨K0, k0⟩ := (show Ev (fun k => spec_FirstFewest.f k a0_0 l0_1 l0_2) (w0, w1) from hS)
  obtain ⟨K1, k1⟩ := (show Ev (fun k => impl_FirstFewest.f k a0_0 l0_1 l0_2) (w0, w1) from hI)
  obtain ⟨K2, k2⟩ := (show Ev (fun k => laws_toIntS.f k l0_1) l0_1 from toIntS_ev _ hl0_1)
  obtain ⟨K3, k3⟩ := (show Ev (fun k => laws_eqIntS.f k l0_1 l0_1) true from eqIntS_ev _ hl0_1)
  obtain ⟨K4, k4⟩ := (show Ev (fun k => laws_toIntS.f k l0_2) l0_2 from toIntS_ev _ hl0_2)
  obtain ⟨K5, k5⟩ := (show Ev (fun k => laws_eqIntS.f k l0_2 l0_2) true from eqIntS_ev _ hl0_2)
  obtain ⟨K6, k6⟩ := (show Ev (fun k => laws_markIntS.f k l0_1 (1)) (1 + (l0_1.length : Int), marked l0_1.length (1)) from markIntS_ev _ hl0_1 _ (by omega) (by omega))
  obtain ⟨K7, k7⟩ := (show Ev (fun k => laws_markIntS.f k l0_2 (1 + (l0_1.length : Int))) (1 + (l0_1.length : Int) + (l0_2.length : Int), marked l0_2.length (1 + (l0_1.length : Int))) from markIntS_ev _ hl0_2 _ (by omega) (by omega))
  obtain ⟨K8, k8⟩ := (show Ev (fun k => laws_eqIntS.f k w0 w0) true from eqIntS_ev _ hww0)
  obtain ⟨K9, k9⟩ := (show Ev (fun k => laws_markIntS.f k w0 (1)) (1 + (w0.length : Int), marked w0.length (1)) from markIntS_ev _ hww0 _ (by omega) (by omega))
  obtain ⟨K10, k10⟩ := (show Ev (fun k => laws_heldIntS.f k (marked w0.length (1)) (1)) (1 + (w0.length : Int)) from heldIntS_ev _ hww0 _ (by omega) (by omega))
  obtain ⟨K, hK⟩ : ∃ K, K = K0 + K1 + K2 + K3 + K4 + K5 + K6 + K7 + K8 + K9 + K10 := ⟨_, rfl⟩
  have e0 : ∀ j, spec_FirstFewest.f (K + j) a0_0 l0_1 l0_2 = some (w0, w1) := fun j => k0 (K + j) (by omega)
  have e1 : ∀ j, impl_FirstFewest.f (K + j) a0_0 l0_1 l0_2 = some (w0, w1) := fun j => k1 (K + j) (by omega)
  have e2 : ∀ j, laws_toIntS.f (K + j) l0_1 = some l0_1 := fun j => k2 (K + j) (by omega)
  have e3 : ∀ j, laws_eqIntS.f (K + j) l0_1 l0_1 = some true := fun j => k3 (K + j) (by omega)
  have e4 : ∀ j, laws_toIntS.f (K + j) l0_2 = some l0_2 := fun j => k4 (K + j) (by omega)
  have e5 : ∀ j, laws_eqIntS.f (K + j) l0_2 l0_2 = some true := fun j => k5 (K + j) (by omega)
  have e6 : ∀ j, laws_markIntS.f (K + j) l0_1 (1) = some (1 + (l0_1.length : Int), marked l0_1.length (1)) := fun j => k6 (K + j) (by omega)
  have e7 : ∀ j, laws_markIntS.f (K + j) l0_2 (1 + (l0_1.length : Int)) = some (1 + (l0_1.length : Int) + (l0_2.length : Int), marked l0_2.length (1 + (l0_1.length : Int))) := fun j => k7 (K + j) (by omega)
  have e8 : ∀ j, laws_eqIntS.f (K + j) w0 w0 = some true := fun j => k8 (K + j) (by omega)
  have e9 : ∀ j, laws_markIntS.f (K + j) w0 (1) = some (1 + (w0.length : Int), marked w0.length (1)) := fun j => k9 (K + j) (by omega)
  have e10 : ∀ j, laws_heldIntS.f (K + j) (marked w0.length (1)) (1) = some (1 + (w0.length : Int)) := fun j => k10 (K + j) (by omega)
  clear k0 k1 k2 k3 k4 k5 k6 k7 k8 k9 k10 hK
  refine ⟨K + 16, ?_⟩
  simp [laws_FnExactFirstFewest.f, laws_FnExactFirstFewest.j0, laws_FnExactFirstFewest.j1, laws_FnExactFirstFewest.j2, laws_toStairs.f, laws_eqStairs.f, laws_markStairs.f, e0, e1, e2, e3, e4, e5, e6, e7, e8, e9, e10, hz0, show ¬ (1 + (l0_1.length : Int) + (l0_2.length : Int) < 0) by omega, show ¬ (1 + (w0.length : Int) < 0) by omega]

end Go.Proofs.Ytfmppcfebkmbnaa.Pure
