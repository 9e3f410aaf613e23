/- The pure statement of FnExactNextClimb: the printed function returns true for all arguments within their kinds; no other condition. -/
import Derived.Test.YtbeokaghdagabaaPFnExactNextClimbx
namespace Go.Proofs.Ytbeokaghdagabaa.Pure
open Go.RowKit Go.Proofs.Ytbeokaghdagabaa.PFnExactNextClimb Go.Proofs.YtbeokaghdagabaaW.PrintWords Go.Proofs.YtbeokaghdagabaaW.PrintLast Go.Proofs.YtbeokaghdagabaaW.PrintMore
set_option linter.unusedVariables false
set_option linter.unusedSimpArgs false
theorem in_val (a b c : Int) : spec_l1In.f a b c = some (decide (b ≤ a ∧ a ≤ c)) := by
  unfold spec_l1In.f
  by_cases h : b ≤ a <;> simp [h]
theorem within_val (a b c : Int) : impl_within.f a b c = some (decide (b ≤ a ∧ a ≤ c)) := by
  unfold impl_within.f
  by_cases h : b ≤ a <;> simp [h]

theorem wsucc (i : Nat) (h : i < 4611686018427387904) : wrap64 ((i : Int) + 1) = ((i + 1 : Nat) : Int) := by
  unfold wrap64
  omega
theorem kpred {d k : Nat} (h : d < k) : ∃ m, k = m + 1 := ⟨k - 1, by omega⟩
theorem rd_nat (l : List Int) (i : Nat) : rd l (i : Int) = l.getD i 0 := by simp [rd]
theorem take_set_succ (x : List Int) (i : Nat) (v : Int) (h : i < x.length) : (x.set i v).take (i + 1) = x.take i ++ [v] := by
  rw [List.take_add_one, List.take_set_of_le (Nat.le_refl i), List.getElem?_set_self h]
  rfl
theorem take_get_succ (x : List Int) (i : Nat) (h : i < x.length) : x.take (i + 1) = x.take i ++ [x.getD i 0] := by
  rw [List.take_add_one, List.getElem?_eq_getElem h, List.getD_eq_getElem?_getD, List.getElem?_eq_getElem h]
  rfl
theorem w_id {x : Int} (h0 : -4611686018427387904 ≤ x) (h1 : x ≤ 4611686018427387904) : wrap64 x = x := by
  unfold wrap64
  omega
theorem w_sub (k r : Nat) (h : r ≤ k) (hk : k ≤ 1000000000) : wrap64 ((k : Int) - (r : Int)) = ((k - r : Nat) : Int) := by
  rw [w_id (by omega) (by omega)]
  omega
theorem w_add (a b : Nat) (h : a ≤ 1000000000) (hb : b ≤ 1000000000) : wrap64 ((a : Int) + (b : Int)) = ((a + b : Nat) : Int) := by
  rw [w_id (by omega) (by omega)]
  omega
theorem w_pred (k : Nat) (h : 1 ≤ k) (hk : k ≤ 1000000000) : wrap64 ((k : Int) - 1) = ((k - 1 : Nat) : Int) := by
  rw [w_id (by omega) (by omega)]
  omega

theorem Ev.ite_true {α : Type} {g f : Nat → Option α} {r : α} {b : Bool} (h : b = true) (k : Ev g r) : Ev (fun n => if b = true then g n else f n) r := by
  subst h
  simpa using k
theorem Ev.ite_false {α : Type} {g f : Nat → Option α} {r : α} {b : Bool} (h : b = false) (k : Ev f r) : Ev (fun n => if b = true then g n else f n) r := by
  subst h
  simpa using k

theorem toIntS_l (l : List Int) (hB : l.length ≤ 1048576) : ∀ (d k i : Nat) (x : List Int), l.length - i = d → d < k → i ≤ l.length → x.length = l.length → x.take i = l.take i →
    laws_toIntS.l0 k l x (i : Int) = some l := by
  intro d
  induction d with
  | zero =>
    intro k i x hd hk hi hx ht
    obtain ⟨k, rfl⟩ := kpred hk
    have e : i = l.length := by omega
    simp only [laws_toIntS.l0]
    rw [if_neg (by omega)]
    have h1 := ht
    rw [e, List.take_length, ← hx, List.take_length] at h1
    rw [h1]
  | succ d ih =>
    intro k i x hd hk hi hx ht
    obtain ⟨k, rfl⟩ := kpred hk
    simp only [laws_toIntS.l0]
    rw [if_pos (by omega), if_pos (by omega), if_pos (by omega), wsucc i (by omega), Int.toNat_natCast, rd_nat]
    refine ih k (i + 1) _ (by omega) (by omega) (by omega) (by simpa using hx) ?_
    rw [take_set_succ _ _ _ (by omega), take_get_succ _ _ (by omega), ht]
theorem toIntS_val (l : List Int) (hB : l.length ≤ 1048576) (k : Nat) (hk : l.length < k) : laws_toIntS.f k l = some l := by
  unfold laws_toIntS.f
  rw [if_pos (by omega), if_pos (by rw [Int.toNat_natCast]; omega)]
  exact toIntS_l l hB l.length k 0 _ (by omega) hk (by omega) (by simp) (by simp)

theorem toIntS_ev (l : List Int) (hB : l.length ≤ 1048576) : Ev (fun k => laws_toIntS.f k l) l := ⟨l.length + 1, fun k hk => toIntS_val l hB k (by omega)⟩

theorem eqIntS_l (l : List Int) (hB : l.length ≤ 1048576) : ∀ (d k i : Nat), l.length - i = d → d < k → i ≤ l.length → laws_eqIntS.l0 k l l (i : Int) = some true := by
  intro d
  induction d with
  | zero =>
    intro k i hd hk hi
    obtain ⟨k, rfl⟩ := kpred hk
    simp only [laws_eqIntS.l0]
    rw [if_neg (by omega)]
  | succ d ih =>
    intro k i hd hk hi
    obtain ⟨k, rfl⟩ := kpred hk
    simp only [laws_eqIntS.l0]
    rw [if_pos (by omega), if_pos (by omega), if_pos (by omega), if_pos trivial, wsucc i (by omega)]
    exact ih k (i + 1) (by omega) (by omega) (by omega)
theorem eqIntS_val (l : List Int) (hB : l.length ≤ 1048576) (k : Nat) (hk : l.length < k) : laws_eqIntS.f k l l = some true := by
  unfold laws_eqIntS.f
  rw [if_pos rfl]
  exact eqIntS_l l hB l.length k 0 (by omega) hk (by omega)

theorem eqIntS_ev (l : List Int) (hB : l.length ≤ 1048576) : Ev (fun k => laws_eqIntS.f k l l) true := ⟨l.length + 1, fun k hk => eqIntS_val l hB k (by omega)⟩

/-- Numbers increase, and are from lo to hi; p: the one before. -/
def riseV (lo hi : Int) : Option Int → List Int → Bool
  | _, [] => true
  | p, x :: xs => decide (lo ≤ x ∧ x ≤ hi) && (match p with | none => true | some q => decide (q < x)) && riseV lo hi (some x) xs
theorem drop_cons' (l : List Int) (i : Nat) (h : i < l.length) : l.drop i = l.getD i 0 :: l.drop (i + 1) := by
  rw [List.drop_eq_getElem_cons h, List.getD_eq_getElem?_getD, List.getElem?_eq_getElem h]
  rfl
def before (l : List Int) (i : Nat) : Option Int := if i = 0 then none else some (l.getD (i - 1) 0)
theorem rising_l (l : List Int) (hl : l.length ≤ 1048576) (lo hh : Int) : ∀ (d i : Nat), l.length - i = d → i ≤ l.length →
    Ev (fun k => spec_l1Rising.l0 k l lo hh l (l.length : Int) (i : Int)) (riseV lo hh (before l i) (l.drop i)) ∧ Ev (fun k => impl_rise.l0 k l lo hh l (l.length : Int) (i : Int)) (riseV lo hh (before l i) (l.drop i)) := by
  intro d
  induction d with
  | zero =>
    intro i hd hi
    rw [List.drop_eq_nil_of_le (by omega)]
    refine ⟨Ev.step (fun k => ?_) (Ev.now _), Ev.step (fun k => ?_) (Ev.now _)⟩
    · simp only [spec_l1Rising.l0]
      rw [if_neg (by omega)]
      rfl
    · simp only [impl_rise.l0]
      rw [if_neg (by omega)]
      rfl
  | succ d ih =>
    intro i hd hi
    obtain ⟨ih1, ih2⟩ := ih (i + 1) (by omega) (by omega)
    have hb : before l (i + 1) = some (l.getD i 0) := by simp [before]
    rw [hb, ← wsucc i (by omega)] at ih1 ih2
    rw [drop_cons' l i (by omega)]
    simp only [riseV]
    by_cases h1 : lo ≤ l.getD i 0 ∧ l.getD i 0 ≤ hh
    · rw [decide_eq_true h1]
      by_cases h0 : i = 0
      · have hbi : before l i = none := by simp [before, h0]
        rw [hbi]
        refine ⟨Ev.step (fun k => ?_) ih1, Ev.step (fun k => ?_) ih2⟩
        · simp only [spec_l1Rising.l0]
          rw [if_pos (by omega), if_pos (by omega), if_pos (by omega), rd_nat, in_val]
          simp only [Option.bind_some]
          rw [decide_eq_true h1, if_pos rfl, if_neg (by omega)]
        · simp only [impl_rise.l0]
          rw [if_pos (by omega), if_pos (by omega), if_pos (by omega), rd_nat, within_val]
          simp only [Option.bind_some]
          rw [decide_eq_true h1, if_pos rfl, if_neg (by omega)]
      · have hbi : before l i = some (l.getD (i - 1) 0) := by simp [before, h0]
        have hw : wrap64 ((i : Int) - 1) = ((i - 1 : Nat) : Int) := by
          unfold wrap64
          omega
        rw [hbi]
        by_cases h2 : l.getD (i - 1) 0 < l.getD i 0
        · simp only [decide_eq_true h2]
          refine ⟨Ev.step (fun k => ?_) ih1, Ev.step (fun k => ?_) ih2⟩
          · simp only [spec_l1Rising.l0]
            rw [if_pos (by omega), if_pos (by omega), if_pos (by omega), rd_nat, in_val]
            simp only [Option.bind_some]
            rw [decide_eq_true h1, if_pos rfl, if_pos (by omega), hw, if_pos (by omega), if_pos (by omega), rd_nat, if_neg (by omega)]
          · simp only [impl_rise.l0]
            rw [if_pos (by omega), if_pos (by omega), if_pos (by omega), rd_nat, within_val]
            simp only [Option.bind_some]
            rw [decide_eq_true h1, if_pos rfl, if_pos (by omega), hw, if_pos (by omega), if_pos (by omega), rd_nat, if_neg (by omega)]
        · simp only [decide_eq_false h2]
          refine ⟨Ev.step (fun k => ?_) (Ev.now _), Ev.step (fun k => ?_) (Ev.now _)⟩
          · simp only [spec_l1Rising.l0]
            rw [if_pos (by omega), if_pos (by omega), if_pos (by omega), rd_nat, in_val]
            simp only [Option.bind_some]
            rw [decide_eq_true h1, if_pos rfl, if_pos (by omega), hw, if_pos (by omega), if_pos (by omega), rd_nat, if_pos (by omega)]
            rfl
          · simp only [impl_rise.l0]
            rw [if_pos (by omega), if_pos (by omega), if_pos (by omega), rd_nat, within_val]
            simp only [Option.bind_some]
            rw [decide_eq_true h1, if_pos rfl, if_pos (by omega), hw, if_pos (by omega), if_pos (by omega), rd_nat, if_pos (by omega)]
            rfl
    · rw [decide_eq_false h1]
      refine ⟨Ev.step (fun k => ?_) (Ev.now _), Ev.step (fun k => ?_) (Ev.now _)⟩
      · simp only [spec_l1Rising.l0]
        rw [if_pos (by omega), if_pos (by omega), if_pos (by omega), rd_nat, in_val]
        simp only [Option.bind_some]
        rw [decide_eq_false h1, if_neg (by simp)]
        rfl
      · simp only [impl_rise.l0]
        rw [if_pos (by omega), if_pos (by omega), if_pos (by omega), rd_nat, within_val]
        simp only [Option.bind_some]
        rw [decide_eq_false h1, if_neg (by simp)]
        rfl
theorem rising_ev (l : List Int) (hl : l.length ≤ 1048576) (lo hi : Int) : Ev (fun k => spec_l1Rising.f k l lo hi) (riseV lo hi none l) ∧ Ev (fun k => impl_rise.f k l lo hi) (riseV lo hi none l) := by
  have h := rising_l l hl lo hi _ 0 rfl (by omega)
  simp only [before, List.drop_zero, if_true] at h
  exact h
/-- The numbers are stairs. -/
def goodS (s : Int) (a b : List Int) : Bool := decide (1 ≤ s ∧ s ≤ 60) && (decide (1 ≤ (a.length : Int) ∧ (a.length : Int) ≤ 5) && (riseV 1 9 none a && riseV 1 (s - 1) none b))
theorem clGood_ev (s : Int) (a b : List Int) (ha : a.length ≤ 1048576) (hb : b.length ≤ 1048576) : Ev (fun k => spec_clGood.f k s a b) (goodS s a b) := by
  unfold spec_clGood.f goodS
  simp only [in_val, Option.bind_some]
  by_cases h1 : 1 ≤ s ∧ s ≤ 60
  · have hw : wrap64 (s - 1) = s - 1 := by
      unfold wrap64
      omega
    simp only [decide_eq_true h1, Bool.true_and, hw, if_true]
    by_cases h2 : 1 ≤ (a.length : Int) ∧ (a.length : Int) ≤ 5
    · simp only [decide_eq_true h2, Bool.true_and, if_true]
      refine Ev.bind (rising_ev a ha 1 9).1 ?_
      cases h3 : riseV 1 9 none a
      · simp only [Bool.false_and]
        exact Ev.congr (fun k => if_neg (by simp)) (Ev.now _)
      · simp only [Bool.true_and, if_true]
        exact Ev.bind (rising_ev b hb 1 (s - 1)).1 (Ev.now _)
    · simp only [decide_eq_false h2, Bool.false_and]
      exact Ev.congr (fun k => if_neg (by simp)) (Ev.now _)
  · simp only [decide_eq_false h1, Bool.false_and]
    exact Ev.congr (fun k => if_neg (by simp)) (Ev.now _)
theorem areStairs_ev (s : Int) (a b : List Int) (ha : a.length ≤ 1048576) (hb : b.length ≤ 1048576) : Ev (fun k => impl_AreStairs.f k s a b) (goodS s a b) := by
  unfold impl_AreStairs.f goodS
  simp only [within_val, Option.bind_some]
  by_cases h1 : 1 ≤ s ∧ s ≤ 60
  · have hw : wrap64 (s - 1) = s - 1 := by
      unfold wrap64
      omega
    simp only [decide_eq_true h1, Bool.true_and, hw, if_true]
    by_cases h2 : 1 ≤ (a.length : Int) ∧ (a.length : Int) ≤ 5
    · simp only [decide_eq_true h2, Bool.true_and, if_true]
      refine Ev.bind (rising_ev a ha 1 9).2 ?_
      cases h3 : riseV 1 9 none a
      · simp only [Bool.false_and]
        exact Ev.congr (fun k => if_neg (by simp)) (Ev.now _)
      · simp only [Bool.true_and, if_true]
        exact Ev.bind (rising_ev b hb 1 (s - 1)).2 (Ev.now _)
    · simp only [decide_eq_false h2, Bool.false_and]
      exact Ev.congr (fun k => if_neg (by simp)) (Ev.now _)
  · simp only [decide_eq_false h1, Bool.false_and]
    exact Ev.congr (fun k => if_neg (by simp)) (Ev.now _)
theorem szIntS_val (l : List Int) (n : Int) : laws_szIntS.f l n = some (if wrap64 (n - (l.length : Int)) < 0 then -1 else wrap64 (n - (l.length : Int))) := by
  unfold laws_szIntS.f
  split <;> rfl
theorem szStairs_yes (s : Int) (a b : List Int) (h : a.length + b.length ≤ 1048576) : laws_szStairs.f s a b 1048576 = some (1048576 - (a.length : Int) - (b.length : Int)) := by
  have w1 : wrap64 (1048576 - (a.length : Int)) = 1048576 - (a.length : Int) := by
    unfold wrap64
    omega
  have w2 : wrap64 (1048576 - (a.length : Int) - (b.length : Int)) = 1048576 - (a.length : Int) - (b.length : Int) := by
    unfold wrap64
    omega
  unfold laws_szStairs.f
  rw [szIntS_val, w1, if_neg (by omega)]
  simp only [Option.bind_some]
  rw [if_neg (by omega), szIntS_val, w2, if_neg (by omega)]
  simp only [Option.bind_some]
  rw [if_neg (by omega)]

theorem szStairs_no (s : Int) (a b : List Int) (ha : a.length ≤ maxLen) (hb : b.length ≤ maxLen) (h : ¬ a.length + b.length ≤ 1048576) : laws_szStairs.f s a b 1048576 = some (-1) := by
  unfold maxLen at ha hb
  unfold laws_szStairs.f
  rw [szIntS_val]
  simp only [Option.bind_some]
  have w1 : wrap64 (1048576 - (a.length : Int)) = 1048576 - (a.length : Int) := by
    unfold wrap64
    omega
  rw [w1]
  by_cases h1 : 1048576 - (a.length : Int) < 0
  · rw [if_pos h1, if_pos (by omega)]
  · rw [if_neg h1, if_neg h1, szIntS_val]
    have w2 : wrap64 (1048576 - (a.length : Int) - (b.length : Int)) = 1048576 - (a.length : Int) - (b.length : Int) := by
      unfold wrap64
      omega
    simp only [Option.bind_some]
    rw [w2, if_pos (by omega)]

theorem drop_info {α : Type} {d : α} {l : List α} {i : Nat} {x : α} {xs : List α} (h : l.drop i = x :: xs) : i < l.length ∧ l.getD i d = x ∧ l.drop (i + 1) = xs := by
  have hl : l.length - i = xs.length + 1 := by
    have := congrArg List.length h
    rwa [List.length_drop, List.length_cons] at this
  have hi : i < l.length := by omega
  rw [List.drop_eq_getElem_cons hi] at h
  refine ⟨hi, ?_, (List.cons.inj h).2⟩
  rw [List.getD_eq_getElem?_getD, List.getElem?_eq_getElem hi]
  exact (List.cons.inj h).1
theorem drop_nil' {α : Type} {l : List α} {i : Nat} (h : l.drop i = []) : l.length ≤ i := by
  have := congrArg List.length h
  rw [List.length_drop, List.length_nil] at this
  omega
theorem has_l (l : List Int) (hl : l.length ≤ 1048576) (a : Int) : ∀ (ks : List Int) (i : Nat), l.drop i = ks → Ev (fun k => spec_l1Has.l0 k a l (l.length : Int) (i : Int)) (decide (a ∈ ks)) ∧
    ∃ r, Ev (fun k => slices_Index_int_int.l0 k l a (l.length : Int) (i : Int)) r ∧ (decide (r ≥ 0)) = decide (a ∈ ks) := by
  intro ks
  induction ks with
  | nil =>
    intro i hd
    have := drop_nil' hd
    refine ⟨Ev.step (fun k => ?_) (Ev.now _), -1, Ev.step (fun k => ?_) (Ev.now _), by simp⟩
    · simp only [spec_l1Has.l0]
      rw [if_neg (by omega)]
      simp
    · simp only [slices_Index_int_int.l0]
      rw [if_neg (by omega)]
  | cons x ks ih =>
    intro i hd
    obtain ⟨hi, hx, hd'⟩ := drop_info (d := 0) hd
    obtain ⟨h1, r, h2, h3⟩ := ih (i + 1) hd'
    rw [← wsucc i (by omega)] at h1 h2
    by_cases ha : x = a
    · refine ⟨Ev.step (fun k => ?_) (Ev.now _), (i : Int), Ev.step (fun k => ?_) (Ev.now _), ?_⟩
      · simp only [spec_l1Has.l0]
        rw [if_pos (by omega), if_pos (by omega), if_pos (by omega), rd_nat, hx, if_pos ha]
        simp [ha]
      · simp only [slices_Index_int_int.l0]
        rw [if_pos (by omega), if_pos (by omega), if_pos (by omega), rd_nat, hx, if_pos ha.symm]
      · rw [decide_eq_true (by omega : (i : Int) ≥ 0), decide_eq_true (by simp [ha])]
    · have he : (decide (a ∈ x :: ks)) = decide (a ∈ ks) := by
        have : ¬ a = x := fun h => ha h.symm
        simp [this]
      rw [he]
      refine ⟨Ev.step (fun k => ?_) h1, r, Ev.step (fun k => ?_) h2, h3⟩
      · simp only [spec_l1Has.l0]
        rw [if_pos (by omega), if_pos (by omega), if_pos (by omega), rd_nat, hx, if_neg ha]
      · simp only [slices_Index_int_int.l0]
        rw [if_pos (by omega), if_pos (by omega), if_pos (by omega), rd_nat, hx, if_neg (fun h => ha h.symm)]
theorem has_ev (l : List Int) (hl : l.length ≤ 1048576) (a : Int) : Ev (fun k => spec_l1Has.f k l a) (decide (a ∈ l)) := (has_l l hl a l 0 rfl).1
theorem contains_ev (l : List Int) (hl : l.length ≤ 1048576) (a : Int) : Ev (fun k => slices_Contains_int_int.f k l a) (decide (a ∈ l)) := by
  obtain ⟨r, h2, h3⟩ := (has_l l hl a l 0 rfl).2
  exact Ev.bind (f := fun k t => some (decide (t ≥ 0))) h2 (h3 ▸ Ev.now _)
theorem stands_ev (s : Int) (S B : List Int) (hB : B.length ≤ 1048576) (a : Int) : Ev (fun k => spec_clStands.f k s S B a) (decide (0 ≤ a ∧ a ≤ s) && !decide (a ∈ B)) := by
  unfold spec_clStands.f
  simp only [in_val, Option.bind_some]
  by_cases h : 0 ≤ a ∧ a ≤ s
  · simp only [decide_eq_true h, if_true, Bool.true_and]
    exact Ev.bind (has_ev B hB a) (Ev.now _)
  · simp only [decide_eq_false h, Bool.false_and]
    exact Ev.congr (fun k => if_neg (by simp)) (Ev.now _)
theorem broken_ev (s : Int) (S B : List Int) (hB : B.length ≤ 1048576) (a : Int) : Ev (fun k => impl_Stairs_isBroken.f k s S B a) (decide (a ∈ B)) := by
  unfold impl_Stairs_isBroken.f
  exact Ev.bind (contains_ev B hB a) (Ev.now _)

theorem rise_mem {lo hi : Int} : ∀ {p : Option Int} {l : List Int}, riseV lo hi p l = true → ∀ x ∈ l, lo ≤ x ∧ x ≤ hi := by
  intro p l
  induction l generalizing p with
  | nil => intro _ x hx; simp at hx
  | cons y l ih =>
    intro h x hx
    simp only [riseV, Bool.and_eq_true, decide_eq_true_eq] at h
    rcases List.mem_cons.mp hx with rfl | hx
    · exact h.1.1
    · exact ih h.2 x hx
theorem goodS_bd {s : Int} {S B : List Int} (h : goodS s S B = true) : 1 ≤ s ∧ s ≤ 60 ∧ 1 ≤ S.length ∧ S.length ≤ 5 ∧ (∀ x ∈ S, 1 ≤ x ∧ x ≤ 9) ∧ (∀ x ∈ B, 1 ≤ x ∧ x ≤ s - 1) ∧ riseV 1 9 none S = true := by
  simp only [goodS, Bool.and_eq_true, decide_eq_true_eq] at h
  obtain ⟨⟨h1, h2⟩, ⟨h3, h4⟩, h5, h6⟩ := h
  exact ⟨h1, h2, by omega, by omega, rise_mem h5, rise_mem h6, h5⟩

def ci (T : List Nat) : List Int := T.map (fun x : Nat => (x : Int))
theorem ci_len (T : List Nat) : (ci T).length = T.length := by simp [ci]
theorem ci_get (T : List Nat) (i : Nat) : (ci T).getD i 0 = ((T.getD i 0 : Nat) : Int) := by
  simp only [ci, List.getD_eq_getElem?_getD, List.getElem?_map]
  cases T[i]? <;> simp
def incN : Nat → List Nat → Prop
  | _, [] => True
  | p, x :: xs => p < x ∧ incN x xs
theorem rise_inc : ∀ (S : List Int) (p : Option Int) (q : Nat), riseV 1 9 p S = true → (match p with | none => q = 0 | some z => z = (q : Int)) → incN q (S.map Int.toNat) := by
  intro S
  induction S with
  | nil => intro p q _ _; trivial
  | cons x S ih =>
    intro p q h hp
    simp only [riseV, Bool.and_eq_true, decide_eq_true_eq] at h
    obtain ⟨⟨h1, h2⟩, h3⟩ := h
    refine ⟨?_, ih (some x) x.toNat h3 (by simp only; omega)⟩
    cases p with
    | none => simp only at hp; omega
    | some z => simp only [decide_eq_true_eq] at hp h2; omega
theorem goodS_nat {s : Int} {S B : List Int} (h : goodS s S B = true) : ∃ (n : Nat) (T : List Nat), s = (n : Int) ∧ S = ci T ∧ 1 ≤ n ∧ n ≤ 60 ∧ T.length ≤ 5 ∧ (∀ t ∈ T, 1 ≤ t ∧ t ≤ 9) ∧ incN 0 T ∧ (∀ x ∈ B, 1 ≤ x ∧ x ≤ (n : Int) - 1) := by
  obtain ⟨h1, h2, h3, h4, h5, h6, h7⟩ := goodS_bd h
  refine ⟨s.toNat, S.map Int.toNat, by omega, ?_, by omega, by omega, by simpa using h4, ?_, rise_inc S none 0 h7 rfl, ?_⟩
  · simp only [ci, List.map_map]
    conv => lhs; rw [← List.map_id S]
    refine List.map_congr_left (fun x hx => ?_)
    have := h5 x hx
    simp only [id, Function.comp]
    omega
  · intro t ht
    obtain ⟨x, hx, rfl⟩ := List.mem_map.mp ht
    have := h5 x hx
    omega
  · intro x hx
    have := h6 x hx
    omega
/-- The sum over the strides that end at n at the latest. -/
def gs (f : Nat → Int) (n j : Nat) : List Nat → Int
  | [] => 0
  | s :: ss => (if j + s ≤ n then f (j + s) else 0) + gs f n j ss
theorem gs_congr {f f' : Nat → Int} {n j : Nat} : ∀ {T : List Nat}, (∀ t ∈ T, 1 ≤ t) → (∀ i, j < i → i ≤ n → f i = f' i) → gs f n j T = gs f' n j T := by
  intro T
  induction T with
  | nil => intro _ _; rfl
  | cons s T ih =>
    intro h1 h2
    simp only [gs]
    rw [ih (fun t ht => h1 t (List.mem_cons_of_mem _ ht)) h2]
    have := h1 s (List.mem_cons_self ..)
    by_cases hs : j + s ≤ n
    · rw [if_pos hs, if_pos hs, h2 (j + s) (by omega) hs]
    · rw [if_neg hs, if_neg hs]
theorem gs_nonneg {f : Nat → Int} {n j : Nat} (hf : ∀ i, j < i → i ≤ n → 0 ≤ f i) : ∀ (T : List Nat), (∀ t ∈ T, 1 ≤ t) → 0 ≤ gs f n j T := by
  intro T
  induction T with
  | nil => intro _; exact Int.le_refl _
  | cons s T ih =>
    intro h
    have h1 := ih (fun t ht => h t (List.mem_cons_of_mem _ ht))
    have h2 := h s (List.mem_cons_self ..)
    simp only [gs]
    by_cases hs : j + s ≤ n
    · have := hf (j + s) (by omega) hs
      rw [if_pos hs]
      omega
    · rw [if_neg hs]
      omega
theorem gs_mem {f : Nat → Int} {n j : Nat} (hf : ∀ i, j < i → i ≤ n → 0 ≤ f i) {T : List Nat} (hT : ∀ t ∈ T, 1 ≤ t) {s : Nat} (hs : s ∈ T) (hn : j + s ≤ n) : f (j + s) ≤ gs f n j T := by
  induction T with
  | nil => simp at hs
  | cons t T ih =>
    have h1 := gs_nonneg hf T (fun x hx => hT x (List.mem_cons_of_mem _ hx))
    simp only [gs]
    rcases List.mem_cons.mp hs with h | h
    · subst h
      rw [if_pos hn]
      omega
    · have h2 := ih (fun x hx => hT x (List.mem_cons_of_mem _ hx)) h
      have h3 := hT t (List.mem_cons_self ..)
      by_cases ht : j + t ≤ n
      · have := hf (j + t) (by omega) ht
        rw [if_pos ht]
        omega
      · rw [if_neg ht]
        omega
def p2 : Nat → Int
  | 0 => 1
  | d + 1 => 2 * p2 d
theorem p2_pos : ∀ d, 1 ≤ p2 d
  | 0 => by simp [p2]
  | d + 1 => by have := p2_pos d; simp only [p2]; omega
theorem p2_mono {a b : Nat} (h : a ≤ b) : p2 a ≤ p2 b := by
  obtain ⟨c, rfl⟩ := Nat.exists_eq_add_of_le h
  clear h
  induction c with
  | zero => exact Int.le_refl _
  | succ c ih =>
    have := p2_pos (a + c)
    show p2 a ≤ 2 * p2 (a + c)
    omega
theorem p2_60 {d : Nat} (h : d ≤ 60) : p2 d ≤ 1152921504606846976 := by
  have := p2_mono h
  have h2 : p2 60 = 1152921504606846976 := by decide +kernel
  omega
theorem gs_bd {f : Nat → Int} {n j : Nat} (hf : ∀ i, j < i → i ≤ n → 0 ≤ f i ∧ f i ≤ p2 (n - i)) : ∀ (T : List Nat) (p : Nat), incN p T → 0 ≤ gs f n j T ∧ gs f n j T ≤ p2 (n - j - p) := by
  intro T
  induction T with
  | nil =>
    intro p _
    have := p2_pos (n - j - p)
    simp only [gs]
    omega
  | cons s T ih =>
    intro p h
    obtain ⟨h1, h2⟩ := h
    obtain ⟨i1, i2⟩ := ih s h2
    simp only [gs]
    by_cases hs : j + s ≤ n
    · rw [if_pos hs]
      have hb := hf (j + s) (by omega) hs
      have e1 : n - (j + s) = n - j - s := by omega
      rw [e1] at hb
      have h3 : p2 (n - j - s + 1) ≤ p2 (n - j - p) := p2_mono (by omega)
      simp only [p2] at h3
      omega
    · rw [if_neg hs]
      have h3 : p2 (n - j - s) ≤ p2 (n - j - p) := p2_mono (by omega)
      omega
def dpv (n : Nat) (base : Int) (g : (Nat → Int) → Nat → Int) : Nat → Nat → Int
  | 0, _ => base
  | d + 1, j => if j + (d + 1) = n then g (dpv n base g d) j else dpv n base g d j
theorem dpv_stable (n : Nat) (base : Int) (g : (Nat → Int) → Nat → Int) (d j : Nat) (h : n ≤ j + d) : ∀ e, dpv n base g (d + e) j = dpv n base g d j := by
  intro e
  induction e with
  | zero => rfl
  | succ e ih =>
    show dpv n base g ((d + e) + 1) j = _
    rw [← ih]
    simp only [dpv]
    rw [if_neg (by omega)]
theorem dpv_top (n : Nat) (base : Int) (g : (Nat → Int) → Nat → Int) : dpv n base g n n = base := by
  have := dpv_stable n base g 0 n (by omega) n
  rw [Nat.zero_add] at this
  rw [this]
  rfl
theorem dpv_rec (n : Nat) (base : Int) (g : (Nat → Int) → Nat → Int) (hg : ∀ f f' j, (∀ i, j < i → i ≤ n → f i = f' i) → g f j = g f' j) (j : Nat) (hj : j < n) : dpv n base g n j = g (dpv n base g n) j := by
  have h1 := dpv_stable n base g (n - j) j (by omega) j
  have e1 : n - j + j = n := by omega
  rw [e1] at h1
  rw [h1]
  obtain ⟨d, hd⟩ : ∃ d, n - j = d + 1 := ⟨n - j - 1, by omega⟩
  rw [hd]
  simp only [dpv]
  rw [if_pos (by omega)]
  refine hg _ _ j (fun i h2 h3 => ?_)
  have h4 := dpv_stable n base g d i (by omega) (n - d)
  have e2 : d + (n - d) = n := by omega
  rw [e2] at h4
  exact h4.symm
/-- How many climbs there are from a step. -/
def V (n : Nat) (T : List Nat) (B : List Int) : Nat → Int := dpv n 1 (fun f j => if (j : Int) ∈ B then 0 else gs f n j T) n
theorem V_top (n : Nat) (T : List Nat) (B : List Int) : V n T B n = 1 := dpv_top ..
theorem V_rec (n : Nat) (T : List Nat) (B : List Int) (hT : ∀ t ∈ T, 1 ≤ t) (j : Nat) (hj : j < n) : V n T B j = if (j : Int) ∈ B then 0 else gs (V n T B) n j T := by
  refine dpv_rec n 1 _ (fun f f' j h => ?_) j hj
  show (if (j : Int) ∈ B then (0 : Int) else gs f n j T) = (if (j : Int) ∈ B then 0 else gs f' n j T)
  rw [gs_congr hT h]
theorem V_bd (n : Nat) (T : List Nat) (B : List Int) (hT : ∀ t ∈ T, 1 ≤ t) (hi : incN 0 T) : ∀ (d j : Nat), n - j ≤ d → j ≤ n → 0 ≤ V n T B j ∧ V n T B j ≤ p2 (n - j) := by
  intro d
  induction d with
  | zero =>
    intro j h1 h2
    obtain rfl : j = n := by omega
    rw [V_top, Nat.sub_self]
    simp [p2]
  | succ d ih =>
    intro j h1 h2
    by_cases hj : j = n
    · subst hj
      rw [V_top, Nat.sub_self]
      simp [p2]
    · rw [V_rec n T B hT j (by omega)]
      have := p2_pos (n - j)
      split
      · omega
      · exact gs_bd (fun i h3 h4 => ih i (by omega) h4) T 0 hi
/-- A row of n + 1 numbers that is filled from its end. -/
def arr (n : Nat) (f : Nat → Int) (m : Nat) : List Int := (List.range (n + 1)).map (fun j => if m ≤ j then f j else 0)
theorem arr_len (n : Nat) (f : Nat → Int) (m : Nat) : (arr n f m).length = n + 1 := by simp [arr]
theorem arr_get (n : Nat) (f : Nat → Int) (m j : Nat) (h : j ≤ n) : (arr n f m).getD j 0 = if m ≤ j then f j else 0 := by
  simp only [arr, List.getD_eq_getElem?_getD, List.getElem?_map, List.getElem?_range (show j < n + 1 by omega), Option.map_some, Option.getD_some]
theorem arr_ext {n : Nat} {f : Nat → Int} {m : Nat} {x : List Int} (hl : x.length = n + 1) (h : ∀ j, j ≤ n → x.getD j 0 = if m ≤ j then f j else 0) : x = arr n f m := by
  refine List.ext_getElem (by rw [hl, arr_len]) (fun j h1 h2 => ?_)
  have h3 := h j (by omega)
  rw [← arr_get n f m j (by omega), List.getD_eq_getElem?_getD, List.getD_eq_getElem?_getD, List.getElem?_eq_getElem h1, List.getElem?_eq_getElem h2] at h3
  exact h3
theorem getD_set (x : List Int) (i : Nat) (v : Int) (j : Nat) (hi : i < x.length) : (x.set i v).getD j 0 = if i = j then v else x.getD j 0 := by
  rw [List.getD_eq_getElem?_getD, List.getD_eq_getElem?_getD, List.getElem?_set]
  by_cases h : i = j
  · rw [if_pos h, if_pos h, if_pos hi]
    rfl
  · rw [if_neg h, if_neg h]
theorem arr_set (n : Nat) (f : Nat → Int) (m : Nat) (h : m ≤ n) : (arr n f (m + 1)).set m (f m) = arr n f m := by
  refine arr_ext (by rw [List.length_set, arr_len]) (fun j hj => ?_)
  rw [getD_set _ _ _ _ (by rw [arr_len]; omega), arr_get n f _ j hj]
  by_cases h1 : m = j
  · subst h1
    rw [if_pos rfl, if_pos (Nat.le_refl _)]
  · rw [if_neg h1]
    by_cases h2 : m ≤ j
    · rw [if_pos h2, if_pos (by omega)]
    · rw [if_neg h2, if_neg (by omega)]
theorem arr_put (n : Nat) (f : Nat → Int) (m : Nat) (v : Int) (h : m ≤ n) (hv : f m = v) : (arr n f (m + 1)).set m v = arr n f m := hv ▸ arr_set n f m h
theorem arr_zero (n : Nat) (f : Nat → Int) (m : Nat) (h : m ≤ n) : arr n f (m + 1) = (arr n f (m + 1)).set m 0 := by
  symm
  refine arr_ext (by rw [List.length_set, arr_len]) (fun j hj => ?_)
  rw [getD_set _ _ _ _ (by rw [arr_len]; omega), arr_get n f _ j hj]
  by_cases h1 : m = j
  · subst h1
    rw [if_pos rfl, if_neg (by omega)]
  · rw [if_neg h1]
theorem arr_top (n : Nat) (f : Nat → Int) (v : Int) (h : f n = v) : (List.replicate (n + 1) (0 : Int)).set n v = arr n f n := by
  refine arr_ext (by rw [List.length_set, List.length_replicate]) (fun j hj => ?_)
  rw [getD_set _ _ _ _ (by rw [List.length_replicate]; omega)]
  by_cases h1 : n = j
  · subst h1
    rw [if_pos rfl, if_pos (Nat.le_refl _), h]
  · rw [if_neg h1, if_neg (by omega), List.getD_eq_getElem?_getD, List.getElem?_replicate]
    split <;> rfl

theorem up_l1 (n : Nat) (T : List Nat) (B : List Int) (f : Nat → Int) (hn : n ≤ 60) (hB : B.length ≤ 1048576) (hT : ∀ t ∈ T, 1 ≤ t ∧ t ≤ 9) (hTl : T.length ≤ 5) (m : Nat) (hm : m < n) (hf : ∀ i, m < i → i ≤ n → 0 ≤ f i) (r : List Int) :
    ∀ (ss : List Nat) (i : Nat) (acc : Int), T.drop i = ss → 0 ≤ acc → acc + gs f n m ss ≤ 1152921504606846976 →
    Ev (fun k => impl_Stairs_up.l0 k ((arr n f (m + 1)).set m (if (m : Int) ∈ B then acc else acc + gs f n m ss)) (wrap64 ((m : Int) - 1)) (n : Int) (ci T) B) r →
    Ev (fun k => impl_Stairs_up.l1 k ((arr n f (m + 1)).set m acc) (m : Int) (ci T) ((ci T).length : Int) (i : Int) (n : Int) (ci T) B) r := by
  intro ss
  induction ss with
  | nil =>
    intro i acc hd h0 h1 h
    have := drop_nil' hd
    refine Ev.step (fun k => ?_) h
    simp only [impl_Stairs_up.l1]
    rw [if_neg (by rw [ci_len]; omega)]
    simp only [gs, Int.add_zero, ite_self]
  | cons s ss ih =>
    intro i acc hd h0 h1 h
    obtain ⟨hi, hx, hd'⟩ := drop_info (d := 0) hd
    have hs := hT s (hx ▸ (by rw [List.getD_eq_getElem?_getD, List.getElem?_eq_getElem hi]; exact List.getElem_mem hi))
    have hi2 : (i : Int) < ((ci T).length : Int) := by rw [ci_len]; omega
    simp only [gs] at h h1
    have step0 : ∀ k, impl_Stairs_up.l1 (k + 1) ((arr n f (m + 1)).set m acc) (m : Int) (ci T) ((ci T).length : Int) (i : Int) (n : Int) (ci T) B =
        if ((m + s : Nat) : Int) ≤ (n : Int) then ((impl_Stairs_isBroken.f k (n : Int) (ci T) B (m : Int)).bind fun t => (if t = true then (impl_Stairs_up.l1 k ((arr n f (m + 1)).set m acc) (m : Int) (ci T) ((ci T).length : Int) ((i + 1 : Nat) : Int) (n : Int) (ci T) B) else (if 0 ≤ (m : Int) then (if (m : Int) < (((arr n f (m + 1)).set m acc).length : Int) then (if 0 ≤ ((m + s : Nat) : Int) then (if ((m + s : Nat) : Int) < (((arr n f (m + 1)).set m acc).length : Int) then (impl_Stairs_up.l1 k (((arr n f (m + 1)).set m acc).set (m : Int).toNat (wrap64 ((rd ((arr n f (m + 1)).set m acc) (m : Int)) + (rd ((arr n f (m + 1)).set m acc) ((m + s : Nat) : Int))))) (m : Int) (ci T) ((ci T).length : Int) ((i + 1 : Nat) : Int) (n : Int) (ci T) B) else none) else none) else none) else none))) else (impl_Stairs_up.l1 k ((arr n f (m + 1)).set m acc) (m : Int) (ci T) ((ci T).length : Int) ((i + 1 : Nat) : Int) (n : Int) (ci T) B) := by
      intro k
      simp only [impl_Stairs_up.l1]
      rw [if_pos hi2, if_pos (by omega), if_pos hi2, rd_nat, ci_get, hx, w_add m s (by omega) (by omega), wsucc i (by omega)]
    by_cases hs2 : m + s ≤ n
    · rw [if_pos hs2] at h h1
      have hfs := hf (m + s) (by omega) hs2
      by_cases hb : (m : Int) ∈ B
      · rw [if_pos hb] at h
        refine Ev.step (fun k => (step0 k).trans (if_pos (by omega))) (Ev.bind (broken_ev _ _ B hB _) (Ev.ite_true (decide_eq_true hb) ?_))
        refine ih (i + 1) acc hd' h0 (by omega) ?_
        rw [if_pos hb]
        exact h
      · rw [if_neg hb] at h
        refine Ev.step (fun k => (step0 k).trans (if_pos (by omega))) (Ev.bind (broken_ev _ _ B hB _) (Ev.ite_false (decide_eq_false hb) ?_))
        have hlen : ((arr n f (m + 1)).set m acc).length = n + 1 := by rw [List.length_set, arr_len]
        have g1 : rd ((arr n f (m + 1)).set m acc) (m : Int) = acc := by
          rw [rd_nat, getD_set _ _ _ _ (by rw [arr_len]; omega), if_pos rfl]
        have g2 : rd ((arr n f (m + 1)).set m acc) ((m + s : Nat) : Int) = f (m + s) := by
          rw [rd_nat, getD_set _ _ _ _ (by rw [arr_len]; omega), if_neg (by omega), arr_get _ _ _ _ hs2, if_pos (by omega)]
        have h2 := ih (i + 1) (acc + f (m + s)) hd' (by omega) (by omega) (by rw [if_neg hb, Int.add_assoc]; exact h)
        refine Ev.congr (fun k => ?_) h2
        rw [hlen, if_pos (by omega), if_pos (by omega), if_pos (by omega), if_pos (by omega), g1, g2, Int.toNat_natCast, List.set_set]
        have hgn : acc + f (m + s) ≤ 4611686018427387904 := by
          have := gs_nonneg hf ss (fun t ht => (hT t (List.mem_of_mem_drop (hd' ▸ ht : t ∈ T.drop (i + 1)))).1)
          omega
        rw [w_id (by omega) hgn]
    · rw [if_neg hs2, Int.zero_add] at h h1
      exact Ev.step (fun k => (step0 k).trans (if_neg (by omega))) (ih (i + 1) acc hd' h0 h1 h)
theorem up_l0 (n : Nat) (T : List Nat) (B : List Int) (hn : n ≤ 60) (hB : B.length ≤ 1048576) (hT : ∀ t ∈ T, 1 ≤ t ∧ t ≤ 9) (hTl : T.length ≤ 5) (hi : incN 0 T) : ∀ (m : Nat), m ≤ n →
    Ev (fun k => impl_Stairs_up.l0 k (arr n (V n T B) m) (wrap64 ((m : Int) - 1)) (n : Int) (ci T) B) (arr n (V n T B) 0) := by
  have hT1 : ∀ t ∈ T, 1 ≤ t := fun t ht => (hT t ht).1
  intro m
  induction m with
  | zero =>
    intro _
    refine Ev.step (fun k => ?_) (Ev.now _)
    simp only [impl_Stairs_up.l0]
    rw [w_id (by omega) (by omega), if_neg (by omega)]
  | succ m ih =>
    intro hm
    have e : wrap64 (((m + 1 : Nat) : Int) - 1) = (m : Int) := by
      rw [w_pred (m + 1) (by omega) (by omega), Nat.add_sub_cancel]
    rw [e]
    clear e
    have hb : ∀ i, m < i → i ≤ n → 0 ≤ V n T B i ∧ V n T B i ≤ p2 (n - i) := fun i _ h => V_bd n T B hT1 hi _ i (Nat.le_refl _) h
    have h1 := up_l1 n T B (V n T B) hn hB hT hTl m (by omega) (fun i h1 h2 => (hb i h1 h2).1) (arr n (V n T B) 0) T 0 0 rfl (by omega) (by have := (gs_bd hb T 0 hi).2; have := p2_60 (d := n - m - 0) (by omega); omega)
      (by rw [Int.zero_add, arr_put n _ m _ (by omega) (V_rec n T B hT1 m (by omega))]; exact ih (by omega))
    rw [← arr_zero n _ m (by omega)] at h1
    refine Ev.step (fun k => ?_) h1
    simp only [impl_Stairs_up.l0]
    rw [if_pos (by omega)]
    rfl
theorem up_ev (n : Nat) (T : List Nat) (B : List Int) (hn : n ≤ 60) (hB : B.length ≤ 1048576) (hT : ∀ t ∈ T, 1 ≤ t ∧ t ≤ 9) (hTl : T.length ≤ 5) (hi : incN 0 T) : Ev (fun k => impl_Stairs_up.f k (n : Int) (ci T) B) (arr n (V n T B) 0) := by
  refine Ev.congr (fun k => ?_) (up_l0 n T B hn hB hT hTl hi n (Nat.le_refl _))
  unfold impl_Stairs_up.f
  rw [wsucc n (by omega), if_pos (by omega), Int.toNat_natCast, if_pos (by omega)]
  simp only [Option.bind_some]
  rw [if_pos (by omega), List.length_replicate, if_pos (by omega), Int.toNat_natCast, arr_top n _ 1 (V_top n T B)]
/-- The count that the specification keeps: no larger than this. -/
def cp (x : Int) : Int := if x < 1000000000000001 then x else 1000000000000001
theorem cp_bd {x : Int} (h : 0 ≤ x) : 0 ≤ cp x ∧ cp x ≤ 1000000000000001 := by
  unfold cp
  split <;> omega
theorem cp_add {a b : Int} (ha : 0 ≤ a) (hb : 0 ≤ b) : (if cp a + cp b < 1000000000000001 then cp a + cp b else 1000000000000001) = cp (a + b) := by
  unfold cp
  (repeat' split) <;> omega
theorem cp_id {a : Int} (h : a ≤ 1000000000000000) : cp a = a := by
  unfold cp
  rw [if_pos (by omega)]
theorem cp_le {a : Int} : (decide (cp a ≤ 1000000000000000)) = decide (a ≤ 1000000000000000) := by
  unfold cp
  split
  · rfl
  · rw [decide_eq_false (by omega), decide_eq_false (by omega)]
theorem leastv (a b : Int) : spec_l1Least.f a b = some (if a < b then a else b) := by
  unfold spec_l1Least.f
  split <;> rfl
theorem ways_l1 (n : Nat) (T : List Nat) (B : List Int) (f : Nat → Int) (hn : n ≤ 60) (hT : ∀ t ∈ T, 1 ≤ t ∧ t ≤ 9) (hTl : T.length ≤ 5) (m : Nat) (hm : m < n) (hf : ∀ i, m < i → i ≤ n → 0 ≤ f i) (r : List Int) :
    ∀ (ss : List Nat) (i : Nat) (acc : Int), T.drop i = ss → 0 ≤ acc →
    Ev (fun k => spec_clWays.l0 k ((arr n (fun j => cp (f j)) (m + 1)).set m (cp (acc + gs f n m ss))) (wrap64 ((m : Int) - 1)) (n : Int) (ci T) B) r →
    Ev (fun k => spec_clWays.l1 k ((arr n (fun j => cp (f j)) (m + 1)).set m (cp acc)) (m : Int) (ci T) ((ci T).length : Int) (i : Int) (n : Int) (ci T) B) r := by
  intro ss
  induction ss with
  | nil =>
    intro i acc hd h0 h
    have := drop_nil' hd
    refine Ev.step (fun k => ?_) h
    simp only [spec_clWays.l1]
    rw [if_neg (by rw [ci_len]; omega)]
    simp only [gs, Int.add_zero]
  | cons s ss ih =>
    intro i acc hd h0 h
    obtain ⟨hi, hx, hd'⟩ := drop_info (d := 0) hd
    have hs := hT s (hx ▸ (by rw [List.getD_eq_getElem?_getD, List.getElem?_eq_getElem hi]; exact List.getElem_mem hi))
    have hi2 : (i : Int) < ((ci T).length : Int) := by rw [ci_len]; omega
    simp only [gs] at h
    have hlen : ((arr n (fun j => cp (f j)) (m + 1)).set m (cp acc)).length = n + 1 := by rw [List.length_set, arr_len]
    by_cases hs2 : m + s ≤ n
    · rw [if_pos hs2] at h
      have hfs := hf (m + s) (by omega) hs2
      have b1 := cp_bd h0
      have b2 := cp_bd hfs
      have g1 : rd ((arr n (fun j => cp (f j)) (m + 1)).set m (cp acc)) (m : Int) = cp acc := by
        rw [rd_nat, getD_set _ _ _ _ (by rw [arr_len]; omega), if_pos rfl]
      have g2 : rd ((arr n (fun j => cp (f j)) (m + 1)).set m (cp acc)) ((m + s : Nat) : Int) = cp (f (m + s)) := by
        rw [rd_nat, getD_set _ _ _ _ (by rw [arr_len]; omega), if_neg (by omega), arr_get _ _ _ _ hs2, if_pos (by omega)]
      refine Ev.step (fun k => ?_) (ih (i + 1) (acc + f (m + s)) hd' (by omega) (by rw [Int.add_assoc]; exact h))
      simp only [spec_clWays.l1]
      rw [if_pos hi2, if_pos (by omega), if_pos hi2, rd_nat (ci T), ci_get, hx, w_add m s (by omega) (by omega), wsucc i (by omega), if_pos (by omega), if_pos (by omega), hlen, if_pos (by omega), if_pos (by omega), if_pos (by omega), g1, g2, w_id (by omega) (by omega), leastv, cp_add h0 hfs]
      simp only [Option.bind_some, Int.toNat_natCast, List.set_set]
    · rw [if_neg hs2, Int.zero_add] at h
      refine Ev.step (fun k => ?_) (ih (i + 1) acc hd' h0 h)
      simp only [spec_clWays.l1]
      rw [if_pos hi2, if_pos (by omega), if_pos hi2, rd_nat (ci T), ci_get, hx, w_add m s (by omega) (by omega), wsucc i (by omega), if_neg (by omega)]
theorem ways_l0 (n : Nat) (T : List Nat) (B : List Int) (hn : n ≤ 60) (hB : B.length ≤ 1048576) (hT : ∀ t ∈ T, 1 ≤ t ∧ t ≤ 9) (hTl : T.length ≤ 5) (hi : incN 0 T) : ∀ (m : Nat), m ≤ n →
    Ev (fun k => spec_clWays.l0 k (arr n (fun j => cp (V n T B j)) m) (wrap64 ((m : Int) - 1)) (n : Int) (ci T) B) (arr n (fun j => cp (V n T B j)) 0) := by
  have hT1 : ∀ t ∈ T, 1 ≤ t := fun t ht => (hT t ht).1
  intro m
  induction m with
  | zero =>
    intro _
    refine Ev.step (fun k => ?_) (Ev.now _)
    simp only [spec_clWays.l0]
    rw [w_id (by omega) (by omega), if_neg (by omega)]
  | succ m ih =>
    intro hm
    have e : wrap64 (((m + 1 : Nat) : Int) - 1) = (m : Int) := by
      rw [w_pred (m + 1) (by omega) (by omega), Nat.add_sub_cancel]
    rw [e]
    clear e
    have hb : ∀ i, m < i → i ≤ n → 0 ≤ V n T B i ∧ V n T B i ≤ p2 (n - i) := fun i _ h => V_bd n T B hT1 hi _ i (Nat.le_refl _) h
    have hv := V_rec n T B hT1 m (by omega)
    have st := stands_ev (n : Int) (ci T) B hB (m : Int)
    rw [decide_eq_true (by omega : 0 ≤ (m : Int) ∧ (m : Int) ≤ (n : Int)), Bool.true_and] at st
    have hb0 : cp 0 = 0 := by decide
    by_cases hbr : (m : Int) ∈ B
    · rw [if_pos hbr] at hv
      rw [decide_eq_true hbr] at st
      have h2 := ih (by omega)
      rw [← arr_put n (fun j => cp (V n T B j)) m 0 (by omega) (by rw [hv]; exact hb0), ← arr_zero n _ m (by omega)] at h2
      refine Ev.step (fun k => ?_) (Ev.bind (f := fun k t => if t = true then (spec_clWays.l1 k (arr n (fun j => cp (V n T B j)) (m + 1)) (m : Int) (ci T) ((ci T).length : Int) 0 (n : Int) (ci T) B) else (spec_clWays.l0 k (arr n (fun j => cp (V n T B j)) (m + 1)) (wrap64 ((m : Int) - 1)) (n : Int) (ci T) B)) st (Ev.ite_false rfl h2))
      simp only [spec_clWays.l0]
      rw [if_pos (by omega)]
    · rw [if_neg hbr] at hv
      rw [decide_eq_false hbr] at st
      have h1 := ways_l1 n T B (V n T B) hn hT hTl m (by omega) (fun i h1 h2 => (hb i h1 h2).1) (arr n (fun j => cp (V n T B j)) 0) T 0 0 rfl (by omega)
        (by rw [Int.zero_add, arr_put n _ m _ (by omega) (by rw [hv])]; exact ih (by omega))
      rw [hb0, ← arr_zero n _ m (by omega)] at h1
      refine Ev.step (fun k => ?_) (Ev.bind (f := fun k t => if t = true then (spec_clWays.l1 k (arr n (fun j => cp (V n T B j)) (m + 1)) (m : Int) (ci T) ((ci T).length : Int) 0 (n : Int) (ci T) B) else (spec_clWays.l0 k (arr n (fun j => cp (V n T B j)) (m + 1)) (wrap64 ((m : Int) - 1)) (n : Int) (ci T) B)) st (Ev.ite_true rfl h1))
      simp only [spec_clWays.l0]
      rw [if_pos (by omega)]
theorem ways_ev (n : Nat) (T : List Nat) (B : List Int) (hn : n ≤ 60) (hB : B.length ≤ 1048576) (hT : ∀ t ∈ T, 1 ≤ t ∧ t ≤ 9) (hTl : T.length ≤ 5) (hi : incN 0 T) : Ev (fun k => spec_clWays.f k (n : Int) (ci T) B) (arr n (fun j => cp (V n T B j)) 0) := by
  refine Ev.congr (fun k => ?_) (ways_l0 n T B hn hB hT hTl hi n (Nat.le_refl _))
  unfold spec_clWays.f
  rw [wsucc n (by omega), if_pos (by omega), Int.toNat_natCast, if_pos (by omega)]
  simp only [Option.bind_some]
  rw [if_pos (by omega), List.length_replicate, if_pos (by omega), Int.toNat_natCast, arr_top n (fun j => cp (V n T B j)) 1 (by rw [V_top]; decide)]
theorem arr_rd0 (n : Nat) (f : Nat → Int) (j : Nat) (h : j ≤ n) : rd (arr n f 0) (j : Int) = f j := by
  rw [rd_nat, arr_get n f 0 j h, if_pos (by omega)]

theorem clCounted_yes (n : Nat) (T : List Nat) (B : List Int) (hg : goodS (n : Int) (ci T) B = true) (hn : n ≤ 60) (hB : B.length ≤ 1048576) (hT : ∀ t ∈ T, 1 ≤ t ∧ t ≤ 9) (hTl : T.length ≤ 5) (hi : incN 0 T) :
    Ev (fun k => spec_clCounted.f k (n : Int) (ci T) B) (decide (V n T B 0 ≤ 1000000000000000)) ∧ Ev (fun k => impl_counted.f k (n : Int) (ci T) B) (arr n (V n T B) 0, decide (V n T B 0 ≤ 1000000000000000)) := by
  have z : ∀ f : Nat → Int, rd (arr n f 0) 0 = f 0 := fun f => arr_rd0 n f 0 (by omega)
  refine ⟨Ev.bind (clGood_ev _ _ _ (by rw [ci_len]; omega) hB) (Ev.ite_true hg (Ev.bind (ways_ev n T B hn hB hT hTl hi) (Ev.congr (fun k => ?_) (Ev.now _)))),
    Ev.bind (areStairs_ev _ _ _ (by rw [ci_len]; omega) hB) (Ev.ite_true hg (Ev.bind (up_ev n T B hn hB hT hTl hi) (Ev.congr (fun k => ?_) (Ev.now _))))⟩
  · rw [arr_len, if_pos (by omega), z, cp_le]
  · rw [arr_len, if_pos (by omega), z]
theorem clCounted_no (s : Int) (S B : List Int) (hg : goodS s S B = false) (hS : S.length ≤ 1048576) (hB : B.length ≤ 1048576) :
    Ev (fun k => spec_clCounted.f k s S B) false ∧ Ev (fun k => impl_counted.f k s S B) ([], false) :=
  ⟨Ev.bind (clGood_ev _ _ _ hS hB) (Ev.ite_false hg (Ev.now _)), Ev.bind (areStairs_ev _ _ _ hS hB) (Ev.ite_false hg (Ev.now _))⟩

def isC (s : Int) (S B : List Int) : Int → List Int → Bool
  | at_, [] => at_ == s
  | at_, x :: xs => decide (x ∈ S) && (decide (at_ + x ≤ s) && (!decide (at_ + x ∈ B) && isC s S B (at_ + x) xs))
theorem isC_l (s : Int) (S B : List Int) (hS : S.length ≤ 1048576) (hB : B.length ≤ 1048576) (hs : s ≤ 60) (hm : ∀ x ∈ S, 1 ≤ x ∧ x ≤ 9) (c : List Int) (hc : c.length ≤ 1048576) :
    ∀ (ks : List Int) (i : Nat) (at_ : Int), c.drop i = ks → 0 ≤ at_ → at_ ≤ s →
    Ev (fun k => spec_clIs.l0 k at_ c (c.length : Int) (i : Int) s S B) (isC s S B at_ ks) ∧ Ev (fun k => impl_Stairs_isClimb.l0 k at_ c (c.length : Int) (i : Int) s S B) (isC s S B at_ ks) := by
  intro ks
  induction ks with
  | nil =>
    intro i at_ hd h0 h1
    have := drop_nil' hd
    refine ⟨Ev.step (fun k => ?_) (Ev.now _), Ev.step (fun k => ?_) (Ev.now _)⟩
    · simp only [spec_clIs.l0]
      rw [if_neg (by omega)]
      rfl
    · simp only [impl_Stairs_isClimb.l0]
      rw [if_neg (by omega)]
      rfl
  | cons x ks ih =>
    intro i at_ hd h0 h1
    obtain ⟨hi, hx, hd'⟩ := drop_info (d := 0) hd
    simp only [isC]
    by_cases hin : x ∈ S
    · have hx9 := hm x hin
      have hw : wrap64 (at_ + x) = at_ + x := w_id (by omega) (by omega)
      by_cases hle : at_ + x ≤ s
      · by_cases hbr : at_ + x ∈ B
        · simp only [decide_eq_true hin, decide_eq_true hle, decide_eq_true hbr, Bool.true_and, Bool.not_true, Bool.false_and]
          have st := stands_ev s S B hB (at_ + x)
          rw [decide_eq_true (⟨by omega, hle⟩ : 0 ≤ at_ + x ∧ at_ + x ≤ s), decide_eq_true hbr] at st
          refine ⟨Ev.step (fun k => ?_) (Ev.bind (f := fun k t => if t = true then (spec_clStands.f k s S B (at_ + x)).bind fun t => if t = true then spec_clIs.l0 k (at_ + x) c (c.length : Int) ((i + 1 : Nat) : Int) s S B else some false else some false) (has_ev S hS x) ?_),
            Ev.step (fun k => ?_) (Ev.bind (f := fun k t => if t = true then (impl_Stairs_isBroken.f k s S B (at_ + x)).bind fun t => if t = true then some false else impl_Stairs_isClimb.l0 k (at_ + x) c (c.length : Int) ((i + 1 : Nat) : Int) s S B else some false) (contains_ev S hS x) ?_)⟩
          · simp only [spec_clIs.l0]
            rw [if_pos (by omega), if_pos (by omega), if_pos (by omega), rd_nat, hx, hw, wsucc i (by omega)]
          · exact Ev.ite_true (decide_eq_true hin) (Ev.bind st (Ev.ite_false (by simp) (Ev.now _)))
          · simp only [impl_Stairs_isClimb.l0]
            rw [if_pos (by omega), if_pos (by omega), if_pos (by omega), rd_nat, hx, hw, wsucc i (by omega), if_neg (by omega)]
          · exact Ev.ite_true (decide_eq_true hin) (Ev.bind (broken_ev s S B hB _) (Ev.ite_true (decide_eq_true hbr) (Ev.now _)))
        · obtain ⟨ih1, ih2⟩ := ih (i + 1) (at_ + x) hd' (by omega) hle
          simp only [decide_eq_true hin, decide_eq_true hle, decide_eq_false hbr, Bool.true_and, Bool.not_false]
          have st := stands_ev s S B hB (at_ + x)
          rw [decide_eq_true (⟨by omega, hle⟩ : 0 ≤ at_ + x ∧ at_ + x ≤ s), decide_eq_false hbr] at st
          refine ⟨Ev.step (fun k => ?_) (Ev.bind (f := fun k t => if t = true then (spec_clStands.f k s S B (at_ + x)).bind fun t => if t = true then spec_clIs.l0 k (at_ + x) c (c.length : Int) ((i + 1 : Nat) : Int) s S B else some false else some false) (has_ev S hS x) ?_),
            Ev.step (fun k => ?_) (Ev.bind (f := fun k t => if t = true then (impl_Stairs_isBroken.f k s S B (at_ + x)).bind fun t => if t = true then some false else impl_Stairs_isClimb.l0 k (at_ + x) c (c.length : Int) ((i + 1 : Nat) : Int) s S B else some false) (contains_ev S hS x) ?_)⟩
          · simp only [spec_clIs.l0]
            rw [if_pos (by omega), if_pos (by omega), if_pos (by omega), rd_nat, hx, hw, wsucc i (by omega)]
          · exact Ev.ite_true (decide_eq_true hin) (Ev.bind st (Ev.ite_true (by simp) ih1))
          · simp only [impl_Stairs_isClimb.l0]
            rw [if_pos (by omega), if_pos (by omega), if_pos (by omega), rd_nat, hx, hw, wsucc i (by omega), if_neg (by omega)]
          · exact Ev.ite_true (decide_eq_true hin) (Ev.bind (broken_ev s S B hB _) (Ev.ite_false (decide_eq_false hbr) ih2))
      · simp only [decide_eq_true hin, decide_eq_false hle, Bool.true_and, Bool.false_and]
        have st := stands_ev s S B hB (at_ + x)
        rw [decide_eq_false (fun h => hle h.2 : ¬ (0 ≤ at_ + x ∧ at_ + x ≤ s)), Bool.false_and] at st
        refine ⟨Ev.step (fun k => ?_) (Ev.bind (f := fun k t => if t = true then (spec_clStands.f k s S B (at_ + x)).bind fun t => if t = true then spec_clIs.l0 k (at_ + x) c (c.length : Int) ((i + 1 : Nat) : Int) s S B else some false else some false) (has_ev S hS x) ?_),
          Ev.step (fun k => ?_) (Ev.bind (f := fun k t => if t = true then some false else some false) (contains_ev S hS x) ?_)⟩
        · simp only [spec_clIs.l0]
          rw [if_pos (by omega), if_pos (by omega), if_pos (by omega), rd_nat, hx, hw, wsucc i (by omega)]
        · exact Ev.ite_true (decide_eq_true hin) (Ev.bind st (Ev.ite_false rfl (Ev.now _)))
        · simp only [impl_Stairs_isClimb.l0]
          rw [if_pos (by omega), if_pos (by omega), if_pos (by omega), rd_nat, hx, hw, if_pos (by omega)]
        · exact Ev.ite_true (decide_eq_true hin) (Ev.now _)
    · simp only [decide_eq_false hin, Bool.false_and]
      refine ⟨Ev.step (g := fun k => spec_clIs.l0 k at_ c (c.length : Int) (i : Int) s S B) (fun k => ?_) (Ev.bind (f := fun k t => if t = true then (spec_clStands.f k s S B (wrap64 (at_ + x))).bind fun t => if t = true then spec_clIs.l0 k (wrap64 (at_ + x)) c (c.length : Int) ((i + 1 : Nat) : Int) s S B else some false else some false) (has_ev S hS x) ?_),
        Ev.step (fun k => ?_) (Ev.bind (f := fun k t => if t = true then (if wrap64 (at_ + x) > s then some false else (impl_Stairs_isBroken.f k s S B (wrap64 (at_ + x))).bind fun t => if t = true then some false else impl_Stairs_isClimb.l0 k (wrap64 (at_ + x)) c (c.length : Int) ((i + 1 : Nat) : Int) s S B) else some false) (contains_ev S hS x) ?_)⟩
      · simp only [spec_clIs.l0]
        rw [if_pos (by omega), if_pos (by omega), if_pos (by omega), rd_nat, hx, wsucc i (by omega)]
      · exact Ev.ite_false (decide_eq_false hin) (Ev.now _)
      · simp only [impl_Stairs_isClimb.l0]
        rw [if_pos (by omega), if_pos (by omega), if_pos (by omega), rd_nat, hx, wsucc i (by omega)]
      · exact Ev.ite_false (decide_eq_false hin) (Ev.now _)
theorem clIs_ev (s : Int) (S B c : List Int) (hg : goodS s S B = true) (hB : B.length ≤ 1048576) (hc : c.length ≤ 1048576) :
    Ev (fun k => spec_clIs.f k s S B c) (isC s S B 0 c) ∧ Ev (fun k => impl_Stairs_isClimb.f k s S B c) (isC s S B 0 c) := by
  obtain ⟨h1, h2, h3, h4, h5, h6, _⟩ := goodS_bd hg
  exact isC_l s S B (by omega) hB h2 h5 c hc c 0 0 rfl (by omega) (by omega)

theorem clBoth_ev (s : Int) (S B c : List Int) (hS : S.length ≤ 1048576) (hB : B.length ≤ 1048576) (hc : c.length ≤ 1048576) :
    Ev (fun k => spec_clBoth.f k s S B c) (goodS s S B && (goodS s S B && isC s S B 0 c)) := by
  unfold spec_clBoth.f
  by_cases hg : goodS s S B = true
  · obtain ⟨h1, _⟩ := clIs_ev s S B c hg hB hc
    rw [hg, Bool.true_and, Bool.true_and]
    exact Ev.bind (clGood_ev _ _ _ hS hB) (Ev.ite_true hg (Ev.bind h1 (Ev.now _)))
  · have hg' : goodS s S B = false := Bool.eq_false_iff.mpr hg
    rw [hg', Bool.false_and]
    exact Ev.bind (clGood_ev _ _ _ hS hB) (Ev.ite_false hg' (Ev.now _))

/-- The sum over the strides that are shorter. -/
def lw (f : Nat → Int) (j x : Nat) : List Nat → Int
  | [] => 0
  | t :: ss => (if t < x then f (j + t) else 0) + lw f j x ss
theorem lw_bd {f : Nat → Int} {n j x : Nat} (hf : ∀ i, j < i → i ≤ n → 0 ≤ f i) (hx : j + x ≤ n) : ∀ {T : List Nat}, (∀ t ∈ T, 1 ≤ t) → 0 ≤ lw f j x T ∧ lw f j x T ≤ gs f n j T := by
  intro T
  induction T with
  | nil => intro _; exact ⟨Int.le_refl _, Int.le_refl _⟩
  | cons t T ih =>
    intro hT
    obtain ⟨h1, h2⟩ := ih (fun y hy => hT y (List.mem_cons_of_mem _ hy))
    have h3 := hT t (List.mem_cons_self ..)
    simp only [lw, gs]
    by_cases ht : t < x
    · have := hf (j + t) (by omega) (by omega)
      rw [if_pos ht, if_pos (by omega)]
      omega
    · rw [if_neg ht]
      by_cases hn : j + t ≤ n
      · have := hf (j + t) (by omega) hn
        rw [if_pos hn]
        omega
      · rw [if_neg hn]
        omega
theorem rk_l1 (n : Nat) (T : List Nat) (B c : List Int) (f : Nat → Int) (hn : n ≤ 60) (hT : ∀ t ∈ T, 1 ≤ t ∧ t ≤ 9) (hTl : T.length ≤ 5) (j x : Nat) (hj : j + x ≤ n) (hf : ∀ i, j < i → i ≤ n → 0 ≤ f i) (hc : ∀ t ∈ T, j + t ≤ n → f (j + t) ≤ 1000000000000000) (q : Nat) :
    ∀ (ss : List Nat) (i : Nat) (acc : Int), T.drop i = ss → 0 ≤ acc → acc + lw f j x ss ≤ 1152921504606846976 →
    (∀ r, Ev (fun k => spec_clRank.l0 k (arr n (fun j => cp (f j)) 0) (acc + lw f j x ss) (wrap64 ((j : Int) + (x : Int))) c (c.length : Int) (wrap64 ((q : Int) + 1)) (n : Int) (ci T) B) r →
    Ev (fun k => spec_clRank.l1 k (arr n (fun j => cp (f j)) 0) acc (j : Int) (x : Int) c (c.length : Int) (q : Int) (ci T) ((ci T).length : Int) (i : Int) (n : Int) (ci T) B) r) ∧
    (∀ r, Ev (fun k => impl_RankOfClimb.l0 k (arr n f 0) (acc + lw f j x ss) (wrap64 ((j : Int) + (x : Int))) c (c.length : Int) (wrap64 ((q : Int) + 1)) (n : Int) (ci T) B) r →
    Ev (fun k => impl_RankOfClimb.l1 k (arr n f 0) acc (j : Int) (x : Int) c (c.length : Int) (q : Int) (ci T) ((ci T).length : Int) (i : Int) (n : Int) (ci T) B) r) := by
  intro ss
  induction ss with
  | nil =>
    intro i acc hd h0 h1
    have := drop_nil' hd
    simp only [lw, Int.add_zero]
    refine ⟨fun r h => Ev.step (fun k => ?_) h, fun r h => Ev.step (fun k => ?_) h⟩
    · simp only [spec_clRank.l1]
      rw [if_neg (by rw [ci_len]; omega)]
    · simp only [impl_RankOfClimb.l1]
      rw [if_neg (by rw [ci_len]; omega)]
  | cons t ss ih =>
    intro i acc hd h0 h1
    obtain ⟨hi, hx, hd'⟩ := drop_info (d := 0) hd
    have hmem : t ∈ T := hx ▸ (by rw [List.getD_eq_getElem?_getD, List.getElem?_eq_getElem hi]; exact List.getElem_mem hi)
    have hs := hT t hmem
    have hi2 : (i : Int) < ((ci T).length : Int) := by rw [ci_len]; omega
    have hrest := (lw_bd hf hj (T := ss) (fun y hy => (hT y (List.mem_of_mem_drop (hd' ▸ hy : y ∈ T.drop (i + 1)))).1)).1
    simp only [lw] at h1 ⊢
    by_cases ht : t < x
    · rw [if_pos ht] at h1 ⊢
      have hft := hf (j + t) (by omega) (by omega)
      have hcp := cp_id (hc t hmem (by omega))
      obtain ⟨i1, i2⟩ := ih (i + 1) (acc + f (j + t)) hd' (by omega) (by omega)
      rw [← Int.add_assoc]
      refine ⟨fun r h => Ev.step (fun k => ?_) (i1 r h), fun r h => Ev.step (fun k => ?_) (i2 r h)⟩
      · simp only [spec_clRank.l1]
        rw [if_pos hi2, if_pos (by omega), if_pos hi2, rd_nat (ci T), ci_get, hx, w_add j t (by omega) (by omega), wsucc i (by omega), if_pos (by omega), if_pos (by omega), arr_len, if_pos (by omega), arr_rd0 n _ _ (by omega), hcp, w_id (x := acc + f (j + t)) (by omega) (by omega)]
      · simp only [impl_RankOfClimb.l1]
        rw [if_pos hi2, if_pos (by omega), if_pos hi2, rd_nat (ci T), ci_get, hx, w_add j t (by omega) (by omega), wsucc i (by omega), if_pos (by omega), if_pos (by omega), if_pos (by omega), arr_len, if_pos (by omega), arr_rd0 n _ _ (by omega), w_id (x := acc + f (j + t)) (by omega) (by omega)]
    · rw [if_neg ht, Int.zero_add] at h1 ⊢
      obtain ⟨i1, i2⟩ := ih (i + 1) acc hd' h0 h1
      refine ⟨fun r h => Ev.step (fun k => ?_) (i1 r h), fun r h => Ev.step (fun k => ?_) (i2 r h)⟩
      · simp only [spec_clRank.l1]
        rw [if_pos hi2, if_pos (by omega), if_pos hi2, rd_nat (ci T), ci_get, hx, wsucc i (by omega), if_neg (by omega)]
      · simp only [impl_RankOfClimb.l1]
        rw [if_pos hi2, if_pos (by omega), if_pos hi2, rd_nat (ci T), ci_get, hx, wsucc i (by omega), if_neg (by omega)]
theorem rk_l0 (n : Nat) (T : List Nat) (B c : List Int) (hn : n ≤ 60) (hT : ∀ t ∈ T, 1 ≤ t ∧ t ≤ 9) (hTl : T.length ≤ 5) (hi : incN 0 T) (hc : c.length ≤ 1048576) :
    ∀ (ks : List Int) (q j : Nat) (acc : Int), c.drop q = ks → j ≤ n → ¬ (j : Int) ∈ B → isC (n : Int) (ci T) B (j : Int) ks = true → V n T B j ≤ 1000000000000000 → 0 ≤ acc → acc ≤ (j : Int) * 1000000000000000 →
    ∃ w, Ev (fun k => spec_clRank.l0 k (arr n (fun j => cp (V n T B j)) 0) acc (j : Int) c (c.length : Int) (q : Int) (n : Int) (ci T) B) w ∧ Ev (fun k => impl_RankOfClimb.l0 k (arr n (V n T B) 0) acc (j : Int) c (c.length : Int) (q : Int) (n : Int) (ci T) B) (w, true) := by
  have hT1 : ∀ t ∈ T, 1 ≤ t := fun t ht => (hT t ht).1
  intro ks
  induction ks with
  | nil =>
    intro q j acc hd _ _ _ _ _ _
    have := drop_nil' hd
    refine ⟨acc, Ev.step (fun k => ?_) (Ev.now _), Ev.step (fun k => ?_) (Ev.now _)⟩
    · simp only [spec_clRank.l0]
      rw [if_neg (by omega)]
    · simp only [impl_RankOfClimb.l0]
      rw [if_neg (by omega)]
  | cons x ks ih =>
    intro q j acc hd hj hbr hC hV h0 h1
    obtain ⟨hq, hx, hd'⟩ := drop_info (d := 0) hd
    simp only [isC, Bool.and_eq_true, decide_eq_true_eq, Bool.not_eq_true', decide_eq_false_iff_not] at hC
    obtain ⟨c1, c2, c3, c4⟩ := hC
    obtain ⟨t, ht, rfl⟩ := List.mem_map.mp c1
    have hs := hT t ht
    have hjt : j + t ≤ n := by omega
    have hb : ∀ i, j < i → i ≤ n → 0 ≤ V n T B i := fun i _ h => (V_bd n T B hT1 hi _ i (Nat.le_refl _) h).1
    have hr := V_rec n T B hT1 j (by omega)
    rw [if_neg hbr] at hr
    have hcc : ∀ t ∈ T, j + t ≤ n → V n T B (j + t) ≤ 1000000000000000 := fun t ht h => by
      have := gs_mem hb hT1 ht h
      omega
    obtain ⟨b1, b2⟩ := lw_bd hb hjt hT1
    have ecast : (j : Int) + (t : Int) = ((j + t : Nat) : Int) := by omega
    rw [ecast] at c3 c4
    obtain ⟨w, w1, w2⟩ := ih (q + 1) (j + t) (acc + lw (V n T B) j t T) hd' hjt c3 c4 (hcc t ht hjt) (by omega) (by omega)
    obtain ⟨i1, i2⟩ := rk_l1 n T B c (V n T B) hn hT hTl j t hjt hb hcc q T 0 acc rfl h0 (by omega)
    rw [w_add j t (by omega) (by omega), wsucc q (by omega)] at i1 i2
    refine ⟨w, Ev.step (fun k => ?_) (i1 _ w1), Ev.step (fun k => ?_) (i2 _ w2)⟩
    · simp only [spec_clRank.l0]
      rw [if_pos (by omega), if_pos (by omega), if_pos (by omega), rd_nat, hx]
      rfl
    · simp only [impl_RankOfClimb.l0]
      rw [if_pos (by omega), if_pos (by omega), if_pos (by omega), rd_nat, hx]
      rfl
theorem rankOfClimb_both (s : Int) (a b c : List Int) (ha : a.length ≤ 1048576) (hb : b.length ≤ 1048576) (hc : c.length ≤ 1048576) : ∃ w0 w1, Ev (fun k => spec_RankOfClimb.f k s a b c) (w0, w1) ∧ Ev (fun k => impl_RankOfClimb.f k s a b c) (w0, w1) := by
  have hs := clBoth_ev s a b c ha hb hc
  unfold spec_RankOfClimb.f impl_RankOfClimb.f
  have no : ∀ u, Ev (fun k => impl_RankOfClimb.j0 k c u true s a b) (0, false) := fun u => Ev.step (fun k => by simp only [impl_RankOfClimb.j0]; rw [if_pos trivial]) (Ev.now _)
  by_cases hg : goodS s a b = true
  · obtain ⟨_, hI⟩ := clIs_ev s a b c hg hb hc
    rw [hg, Bool.true_and, Bool.true_and] at hs
    obtain ⟨n, T, rfl, rfl, h1, h2, h3, h4, h5, h6⟩ := goodS_nat hg
    have hw := ways_ev n T b h2 hb h4 h3 h5
    obtain ⟨c1, c2⟩ := clCounted_yes n T b hg h2 hb h4 h3 h5
    by_cases hcnt : V n T b 0 ≤ 1000000000000000
    · by_cases hC : isC (n : Int) (ci T) b 0 c = true
      · rw [hC] at hs hI
        obtain ⟨w, w1, w2⟩ := rk_l0 n T b c h2 h4 h3 h5 hc c 0 0 0 rfl (by omega) (fun h => by have := h6 _ h; omega) hC hcnt (by omega) (by omega)
        refine ⟨w, true, Ev.bind hs (Ev.ite_true rfl (Ev.bind c1 (Ev.ite_true (decide_eq_true hcnt) (Ev.bind (f := fun k t => some (t, true)) (Ev.bind (f := fun k t => spec_clRank.l0 k t 0 0 c (c.length : Int) 0 (n : Int) (ci T) b) hw w1) (Ev.now _))))),
          Ev.bind c2 (Ev.ite_true (decide_eq_true hcnt) (Ev.bind hI ?_))⟩
        exact Ev.step (fun k => by simp only [impl_RankOfClimb.j0]; rw [if_neg (by simp)]; rfl) w2
      · rw [Bool.eq_false_iff.mpr hC] at hs hI
        exact ⟨0, false, Ev.bind hs (Ev.ite_false rfl (Ev.now _)), Ev.bind c2 (Ev.ite_true (decide_eq_true hcnt) (Ev.bind hI (no _)))⟩
    · refine ⟨0, false, Ev.bind hs ?_, Ev.bind c2 (Ev.ite_false (decide_eq_false hcnt) (no _))⟩
      by_cases hC : isC (n : Int) (ci T) b 0 c = true
      · exact Ev.ite_true hC (Ev.bind c1 (Ev.ite_false (decide_eq_false hcnt) (Ev.now _)))
      · exact Ev.ite_false (Bool.eq_false_iff.mpr hC) (Ev.now _)
  · have hg' : goodS s a b = false := Bool.eq_false_iff.mpr hg
    rw [hg', Bool.false_and] at hs
    obtain ⟨c1, c2⟩ := clCounted_no s a b hg' ha hb
    exact ⟨0, false, Ev.bind hs (Ev.ite_false rfl (Ev.now _)), Ev.bind c2 (Ev.ite_false rfl (no _))⟩

/-- The stride that holds the climb of this rank, and the rank within it. -/
def pick (f : Nat → Int) (n j : Nat) : Int → List Nat → Option (Nat × Int)
  | _, [] => none
  | rem, s :: ss => if j + s ≤ n then (if rem < f (j + s) then some (s, rem) else pick f n j (rem - f (j + s)) ss) else pick f n j rem ss
theorem pick_some (f : Nat → Int) (n j : Nat) : ∀ (ss : List Nat) (rem : Int), 0 ≤ rem → rem < gs f n j ss → ∃ s r, pick f n j rem ss = some (s, r) ∧ s ∈ ss ∧ j + s ≤ n ∧ 0 ≤ r ∧ r ≤ rem ∧ r < f (j + s) ∨ ∃ i, j < i ∧ i ≤ n ∧ f i < 0 ∨ ∃ s ∈ ss, s = 0 := by
  intro ss
  induction ss with
  | nil =>
    intro rem h0 h1
    simp only [gs] at h1
    omega
  | cons s ss ih =>
    intro rem h0 h1
    simp only [gs] at h1
    simp only [pick]
    by_cases hs : j + s ≤ n
    · rw [if_pos hs] at h1 ⊢
      by_cases hr : rem < f (j + s)
      · rw [if_pos hr]
        exact ⟨s, rem, Or.inl ⟨rfl, List.mem_cons_self .., hs, h0, Int.le_refl _, hr⟩⟩
      · rw [if_neg hr]
        obtain ⟨t, r, h | ⟨i, h | ⟨z, hz, hz0⟩⟩⟩ := ih (rem - f (j + s)) (by omega) (by omega)
        · obtain ⟨e1, e2, e3, e4, e5, e6⟩ := h
          by_cases hz : 0 ≤ f (j + s)
          · exact ⟨t, r, Or.inl ⟨e1, List.mem_cons_of_mem _ e2, e3, e4, by omega, e6⟩⟩
          · by_cases hs0 : s = 0
            · exact ⟨0, 0, Or.inr ⟨0, Or.inr ⟨s, List.mem_cons_self .., hs0⟩⟩⟩
            · exact ⟨0, 0, Or.inr ⟨j + s, Or.inl ⟨by omega, hs, by omega⟩⟩⟩
        · exact ⟨0, 0, Or.inr ⟨i, Or.inl h⟩⟩
        · exact ⟨0, 0, Or.inr ⟨0, Or.inr ⟨z, List.mem_cons_of_mem _ hz, hz0⟩⟩⟩
    · rw [if_neg hs, Int.zero_add] at h1
      rw [if_neg hs]
      obtain ⟨t, r, h | ⟨i, h | ⟨z, hz, hz0⟩⟩⟩ := ih rem h0 h1
      · obtain ⟨e1, e2, e3, e4, e5, e6⟩ := h
        exact ⟨t, r, Or.inl ⟨e1, List.mem_cons_of_mem _ e2, e3, e4, e5, e6⟩⟩
      · exact ⟨0, 0, Or.inr ⟨i, Or.inl h⟩⟩
      · exact ⟨0, 0, Or.inr ⟨0, Or.inr ⟨z, List.mem_cons_of_mem _ hz, hz0⟩⟩⟩
theorem pick_one {f : Nat → Int} {n j : Nat} (hf : ∀ i, j < i → i ≤ n → 0 ≤ f i) {T : List Nat} (hT : ∀ t ∈ T, 1 ≤ t) {rem : Int} (h0 : 0 ≤ rem) (h1 : rem < gs f n j T) : ∃ s r, pick f n j rem T = some (s, r) ∧ s ∈ T ∧ j + s ≤ n ∧ 0 ≤ r ∧ r ≤ rem ∧ r < f (j + s) := by
  obtain ⟨s, r, h | ⟨i, ⟨h1, h2, h3⟩ | ⟨z, hz, hz0⟩⟩⟩ := pick_some f n j T rem h0 h1
  · exact ⟨s, r, h⟩
  · have := hf i h1 h2
    omega
  · have := hT z hz
    omega
theorem ofRank_l1 (n : Nat) (T : List Nat) (B : List Int) (f : Nat → Int) (hn : n ≤ 60) (hT : ∀ t ∈ T, 1 ≤ t ∧ t ≤ 9) (hTl : T.length ≤ 5) (j : Nat) (hj : j < n) (hf : ∀ i, j < i → i ≤ n → 0 ≤ f i) (o : List Int) (ho : o.length ≤ j) (s : Nat) (r' : Int) (r : List Int)
    (h : Ev (fun k => impl_Stairs_ofRank.l0 k (arr n f 0) r' (o ++ [(s : Int)]) ((j + s : Nat) : Int) (n : Int) (ci T) B) r) :
    ∀ (ss : List Nat) (i : Nat) (rem : Int), T.drop i = ss → 0 ≤ rem → rem ≤ 1152921504606846976 → pick f n j rem ss = some (s, r') →
    Ev (fun k => impl_Stairs_ofRank.l1 k (arr n f 0) rem o (j : Int) (ci T) ((ci T).length : Int) (i : Int) (n : Int) (ci T) B) r := by
  intro ss
  induction ss with
  | nil =>
    intro i rem hd h0 h1 hp
    simp [pick] at hp
  | cons t ss ih =>
    intro i rem hd h0 h1 hp
    obtain ⟨hi, hx, hd'⟩ := drop_info (d := 0) hd
    have hs := hT t (hx ▸ (by rw [List.getD_eq_getElem?_getD, List.getElem?_eq_getElem hi]; exact List.getElem_mem hi))
    have hi2 : (i : Int) < ((ci T).length : Int) := by rw [ci_len]; omega
    simp only [pick] at hp
    by_cases hs2 : j + t ≤ n
    · rw [if_pos hs2] at hp
      have hft := hf (j + t) (by omega) hs2
      by_cases hr : rem < f (j + t)
      · rw [if_pos hr] at hp
        obtain ⟨rfl, rfl⟩ := Prod.mk.inj (Option.some.inj hp)
        refine Ev.step (fun k => ?_) h
        simp only [impl_Stairs_ofRank.l1]
        rw [if_pos hi2, if_pos (by omega), if_pos hi2, rd_nat (ci T), ci_get, hx, w_add j t (by omega) (by omega), if_neg (by omega), if_pos (by omega), arr_len, if_pos (by omega), arr_rd0 n f _ hs2, if_pos hr, if_pos (by omega)]
      · rw [if_neg hr] at hp
        refine Ev.step (fun k => ?_) (ih (i + 1) (rem - f (j + t)) hd' (by omega) (by omega) hp)
        simp only [impl_Stairs_ofRank.l1]
        rw [if_pos hi2, if_pos (by omega), if_pos hi2, rd_nat (ci T), ci_get, hx, w_add j t (by omega) (by omega), wsucc i (by omega), if_neg (by omega), if_pos (by omega), arr_len, if_pos (by omega), arr_rd0 n f _ hs2, if_neg hr, w_id (by omega) (by omega)]
    · rw [if_neg hs2] at hp
      refine Ev.step (fun k => ?_) (ih (i + 1) rem hd' h0 h1 hp)
      simp only [impl_Stairs_ofRank.l1]
      rw [if_pos hi2, if_pos (by omega), if_pos hi2, rd_nat (ci T), ci_get, hx, w_add j t (by omega) (by omega), wsucc i (by omega), if_pos (by omega)]

theorem rank_l1 (n : Nat) (T : List Nat) (B : List Int) (f : Nat → Int) (hn : n ≤ 60) (hT : ∀ t ∈ T, 1 ≤ t ∧ t ≤ 9) (hTl : T.length ≤ 5) (j : Nat) (hj : j < n) (hf : ∀ i, j < i → i ≤ n → 0 ≤ f i) (hc : ∀ t ∈ T, j + t ≤ n → f (j + t) ≤ 1000000000000000) (o : List Int) (ho : o.length ≤ j) (s : Nat) (r' : Int) (r : List Int × Bool)
    (h : Ev (fun k => spec_ClimbOfRank.l0 k r' (arr n (fun j => cp (f j)) 0) (o ++ [(s : Int)]) ((j + s : Nat) : Int) (n : Int) (ci T) B) r) :
    ∀ (ss : List Nat) (i : Nat) (rem : Int), T.drop i = ss → 0 ≤ rem → rem ≤ 1152921504606846976 → pick f n j rem ss = some (s, r') →
    Ev (fun k => spec_ClimbOfRank.l1 k rem (arr n (fun j => cp (f j)) 0) o (j : Int) (ci T) ((ci T).length : Int) (i : Int) (n : Int) (ci T) B) r := by
  intro ss
  induction ss with
  | nil =>
    intro i rem hd h0 h1 hp
    simp [pick] at hp
  | cons t ss ih =>
    intro i rem hd h0 h1 hp
    obtain ⟨hi, hx, hd'⟩ := drop_info (d := 0) hd
    have hmem : t ∈ T := hx ▸ (by rw [List.getD_eq_getElem?_getD, List.getElem?_eq_getElem hi]; exact List.getElem_mem hi)
    have hs := hT t hmem
    have hi2 : (i : Int) < ((ci T).length : Int) := by rw [ci_len]; omega
    simp only [pick] at hp
    by_cases hs2 : j + t ≤ n
    · rw [if_pos hs2] at hp
      have hft := hf (j + t) (by omega) hs2
      have hcp := cp_id (hc t hmem hs2)
      by_cases hr : rem < f (j + t)
      · rw [if_pos hr] at hp
        obtain ⟨rfl, rfl⟩ := Prod.mk.inj (Option.some.inj hp)
        refine Ev.step (fun k => ?_) h
        simp only [spec_ClimbOfRank.l1]
        rw [if_pos hi2, if_pos (by omega), if_pos hi2, rd_nat (ci T), ci_get, hx, w_add j t (by omega) (by omega), if_neg (by omega), if_pos (by omega), arr_len, if_pos (by omega), arr_rd0 n _ _ hs2, hcp, if_pos hr, if_pos (by omega)]
      · rw [if_neg hr] at hp
        refine Ev.step (fun k => ?_) (ih (i + 1) (rem - f (j + t)) hd' (by omega) (by omega) hp)
        simp only [spec_ClimbOfRank.l1]
        rw [if_pos hi2, if_pos (by omega), if_pos hi2, rd_nat (ci T), ci_get, hx, w_add j t (by omega) (by omega), wsucc i (by omega), if_neg (by omega), if_pos (by omega), arr_len, if_pos (by omega), arr_rd0 n _ _ hs2, hcp, if_neg hr, w_id (by omega) (by omega)]
    · rw [if_neg hs2] at hp
      refine Ev.step (fun k => ?_) (ih (i + 1) rem hd' h0 h1 hp)
      simp only [spec_ClimbOfRank.l1]
      rw [if_pos hi2, if_pos (by omega), if_pos hi2, rd_nat (ci T), ci_get, hx, w_add j t (by omega) (by omega), wsucc i (by omega), if_pos (by omega)]
theorem rank_both (n : Nat) (T : List Nat) (B : List Int) (hn : n ≤ 60) (hT : ∀ t ∈ T, 1 ≤ t ∧ t ≤ 9) (hTl : T.length ≤ 5) (hi : incN 0 T) : ∀ (d j : Nat) (rem : Int) (o : List Int), n - j ≤ d → j ≤ n → o.length ≤ j → 0 ≤ rem → rem < V n T B j → V n T B j ≤ 1000000000000000 →
    ∃ w, Ev (fun k => spec_ClimbOfRank.l0 k rem (arr n (fun j => cp (V n T B j)) 0) o (j : Int) (n : Int) (ci T) B) (w, true) ∧ Ev (fun k => impl_Stairs_ofRank.l0 k (arr n (V n T B) 0) rem o (j : Int) (n : Int) (ci T) B) w ∧ w.length ≤ 1048576 := by
  have hT1 : ∀ t ∈ T, 1 ≤ t := fun t ht => (hT t ht).1
  have fin : ∀ (o : List Int) (rem : Int), o.length ≤ n → ∃ w, Ev (fun k => spec_ClimbOfRank.l0 k rem (arr n (fun j => cp (V n T B j)) 0) o (n : Int) (n : Int) (ci T) B) (w, true) ∧ Ev (fun k => impl_Stairs_ofRank.l0 k (arr n (V n T B) 0) rem o (n : Int) (n : Int) (ci T) B) w ∧ w.length ≤ 1048576 := by
    intro o rem ho
    refine ⟨o, Ev.step (fun k => ?_) (Ev.now _), Ev.step (fun k => ?_) (Ev.now _), by omega⟩
    · simp only [spec_ClimbOfRank.l0]
      rw [if_neg (by omega)]
    · simp only [impl_Stairs_ofRank.l0]
      rw [if_neg (by omega)]
  intro d
  induction d with
  | zero =>
    intro j rem o h1 h2 h3 _ _ _
    obtain rfl : j = n := by omega
    exact fin o rem h3
  | succ d ih =>
    intro j rem o h1 h2 h3 h0 hv hle
    by_cases hjn : j = n
    · subst hjn
      exact fin o rem h3
    · have hb : ∀ i, j < i → i ≤ n → 0 ≤ V n T B i := fun i _ h => (V_bd n T B hT1 hi _ i (Nat.le_refl _) h).1
      have hr := V_rec n T B hT1 j (by omega)
      by_cases hbr : (j : Int) ∈ B
      · rw [if_pos hbr] at hr
        omega
      · rw [if_neg hbr] at hr
        have hcc : ∀ t ∈ T, j + t ≤ n → V n T B (j + t) ≤ 1000000000000000 := fun t ht h => by
          have := gs_mem hb hT1 ht h
          omega
        obtain ⟨s, r, p1, p2, p3, p4, p5, p6⟩ := pick_one hb hT1 (rem := rem) h0 (by omega)
        have hs1 := hT1 s p2
        obtain ⟨w, w1, w2, w3⟩ := ih (j + s) r (o ++ [(s : Int)]) (by omega) p3 (by simp; omega) p4 p6 (hcc s p2 p3)
        have q1 := rank_l1 n T B (V n T B) hn hT hTl j (by omega) hb hcc o h3 s r _ w1 T 0 rem rfl h0 (by omega) p1
        have q2 := ofRank_l1 n T B (V n T B) hn hT hTl j (by omega) hb o h3 s r _ w2 T 0 rem rfl h0 (by omega) p1
        refine ⟨w, Ev.step (fun k => ?_) q1, Ev.step (fun k => ?_) q2, w3⟩
        · simp only [spec_ClimbOfRank.l0]
          rw [if_pos (by omega)]
          rfl
        · simp only [impl_Stairs_ofRank.l0]
          rw [if_pos (by omega)]
          rfl
theorem climbOfRank_both (s : Int) (a b : List Int) (r : Int) (ha : a.length ≤ 1048576) (hb : b.length ≤ 1048576) : ∃ w0 w1, Ev (fun k => spec_ClimbOfRank.f k s a b r) (w0, w1) ∧ Ev (fun k => impl_ClimbOfRank.f k s a b r) (w0, w1) ∧ w0.length ≤ 1048576 := by
  unfold spec_ClimbOfRank.f impl_ClimbOfRank.f
  have no : Ev (fun k => spec_ClimbOfRank.j0 k r true s a b) (([] : List Int), false) := Ev.step (fun k => by simp only [spec_ClimbOfRank.j0]; rw [if_pos trivial]) (Ev.now _)
  by_cases hg : goodS s a b = true
  · obtain ⟨n, T, rfl, rfl, h1, h2, h3, h4, h5, h6⟩ := goodS_nat hg
    have hw := ways_ev n T b h2 hb h4 h3 h5
    obtain ⟨c1, c2⟩ := clCounted_yes n T b hg h2 hb h4 h3 h5
    have z : ∀ f : Nat → Int, rd (arr n f 0) 0 = f 0 := fun f => arr_rd0 n f 0 (by omega)
    have v0 := (V_bd n T b (fun t ht => (h4 t ht).1) h5 _ 0 (Nat.le_refl _) (by omega)).1
    by_cases hc : V n T b 0 ≤ 1000000000000000
    · have hcp := cp_id hc
      by_cases h0 : r < 0
      · refine ⟨[], false, Ev.bind c1 (Ev.ite_true (decide_eq_true hc) (Ev.congr (fun k => if_pos h0) no)), Ev.bind c2 (Ev.ite_true (decide_eq_true hc) (Ev.congr (fun k => ?_) (Ev.now _))), by simp⟩
        simp only
        rw [arr_len, if_pos (by omega), within_val, decide_eq_false (by omega)]
        simp only [Option.bind_some]
        rw [if_neg (by simp)]
      · by_cases h9 : r < V n T b 0
        · obtain ⟨w, w1, w2, w3⟩ := rank_both n T b h2 h4 h3 h5 n 0 r [] (by omega) (by omega) (by simp) (by omega) h9 hc
          refine ⟨w, true, Ev.bind c1 (Ev.ite_true (decide_eq_true hc) (Ev.congr (fun k => if_neg h0) (Ev.bind hw (Ev.congr (fun k => ?_) (Ev.step (g := fun k => spec_ClimbOfRank.j0 k r false (n : Int) (ci T) b) (fun k => ?_) (Ev.bind (f := fun k t => spec_ClimbOfRank.l0 k r t [] 0 (n : Int) (ci T) b) hw w1)))))),
            Ev.bind c2 (Ev.ite_true (decide_eq_true hc) (Ev.congr (fun k => ?_) (Ev.bind (f := fun k t => some (t, true)) w2 (Ev.now _)))), w3⟩
          · rw [arr_len, if_pos (by omega), z, hcp, decide_eq_false (by omega)]
          · simp only [spec_ClimbOfRank.j0]
            rw [if_neg (by simp)]
          · simp only
            rw [arr_len, if_pos (by omega), within_val, z, w_id (x := V n T b 0 - 1) (by omega) (by omega), decide_eq_true (by omega)]
            simp only [Option.bind_some]
            rw [if_pos trivial]
            rfl
        · refine ⟨[], false, Ev.bind c1 (Ev.ite_true (decide_eq_true hc) (Ev.congr (fun k => if_neg h0) (Ev.bind hw (Ev.congr (fun k => ?_) no)))), Ev.bind c2 (Ev.ite_true (decide_eq_true hc) (Ev.congr (fun k => ?_) (Ev.now _))), by simp⟩
          · rw [arr_len, if_pos (by omega), z, hcp, decide_eq_true (by omega)]
          · simp only
            rw [arr_len, if_pos (by omega), within_val, z, w_id (x := V n T b 0 - 1) (by omega) (by omega), decide_eq_false (by omega)]
            simp only [Option.bind_some]
            rw [if_neg (by simp)]
    · exact ⟨[], false, Ev.bind c1 (Ev.ite_false (decide_eq_false hc) no), Ev.bind c2 (Ev.ite_false (decide_eq_false hc) (Ev.now _)), by simp⟩
  · have hg' : goodS s a b = false := Bool.eq_false_iff.mpr hg
    obtain ⟨c1, c2⟩ := clCounted_no s a b hg' ha hb
    exact ⟨[], false, Ev.bind c1 (Ev.ite_false rfl no), Ev.bind c2 (Ev.ite_false rfl (Ev.now _)), by simp⟩

def marked (n : Nat) (m : Int) : List Int := (List.range n).map fun (j : Nat) => m + (j : Int)
theorem marked_length (n : Nat) (m : Int) : (marked n m).length = n := by simp [marked]
theorem marked_succ (n : Nat) (m : Int) : marked (n + 1) m = m :: marked n (m + 1) := by
  simp only [marked, List.range_succ_eq_map, List.map_cons, List.map_map]
  congr 1
  · omega
  · apply List.map_congr_left
    intro j _
    simp only [Function.comp]
    omega
theorem marked_get (n : Nat) (m : Int) (j : Nat) (h : j < n) : (marked n m).getD j 0 = m + (j : Int) := by
  simp [marked, List.getD_eq_getElem?_getD, h]
theorem markIntS_l : ∀ (d k i : Nat) (l : List Int) (m : Int), l.length ≤ 1048576 → l.length - i = d → d < k → i ≤ l.length → 0 ≤ m → m + (d : Int) ≤ 1000000000 →
    laws_markIntS.l0 k l m (i : Int) = some (m + (d : Int), l.take i ++ marked d m) := by
  intro d
  induction d with
  | zero =>
    intro k i l m hB hd hk hi _ _
    obtain ⟨k, rfl⟩ := kpred hk
    simp only [laws_markIntS.l0]
    rw [if_neg (by omega)]
    have e : i = l.length := by omega
    rw [e, List.take_length]
    simp [marked]
  | succ d ih =>
    intro k i l m hB hd hk hi h0 h1
    obtain ⟨k, rfl⟩ := kpred hk
    simp only [laws_markIntS.l0]
    have hw : wrap64 (m + 1) = m + 1 := by
      unfold wrap64
      omega
    rw [if_pos (by omega), if_pos (by omega), hw, wsucc i (by omega), Int.toNat_natCast]
    rw [ih k (i + 1) (l.set i m) (m + 1) (by simpa using hB) (by rw [List.length_set]; omega) (by omega) (by rw [List.length_set]; omega) (by omega) (by omega)]
    rw [take_set_succ _ _ _ (by omega), marked_succ, List.append_assoc]
    congr 2
    omega
theorem markIntS_val (l : List Int) (hB : l.length ≤ 1048576) (m : Int) (h0 : 0 ≤ m) (h1 : m ≤ 900000000) (k : Nat) (hk : l.length < k) :
    laws_markIntS.f k l m = some (m + (l.length : Int), marked l.length m) := by
  unfold laws_markIntS.f
  have := markIntS_l l.length k 0 l m hB (by omega) hk (by omega) h0 (by omega)
  simpa using this
theorem heldIntS_l : ∀ (d k i : Nat) (l : List Int) (m : Int), l.length ≤ 1048576 → l.length - i = d → d < k → i ≤ l.length → 0 ≤ m → m + (d : Int) ≤ 1000000000 → (∀ j, j < d → l.getD (i + j) 0 = m + (j : Int)) →
    laws_heldIntS.l0 k l m (i : Int) = some (m + (d : Int)) := by
  intro d
  induction d with
  | zero =>
    intro k i l m hB hd hk hi _ _ _
    obtain ⟨k, rfl⟩ := kpred hk
    simp only [laws_heldIntS.l0]
    rw [if_neg (by omega)]
    simp
  | succ d ih =>
    intro k i l m hB hd hk hi h0 h1 hj
    obtain ⟨k, rfl⟩ := kpred hk
    simp only [laws_heldIntS.l0]
    have hw : wrap64 (m + 1) = m + 1 := by
      unfold wrap64
      omega
    have h00 := hj 0 (by omega)
    rw [if_pos (by omega), if_pos (by omega), rd_nat, if_pos (by simpa using h00), hw, wsucc i (by omega)]
    rw [ih k (i + 1) l (m + 1) hB (by omega) (by omega) (by omega) (by omega) (by omega) (fun j h => by
      have := hj (j + 1) (by omega)
      rw [show i + 1 + j = i + (j + 1) by omega, this]
      omega)]
    congr 1
    omega
theorem heldIntS_val (n : Nat) (hB : n ≤ 1048576) (m : Int) (h0 : 0 ≤ m) (h1 : m ≤ 900000000) (k : Nat) (hk : n < k) :
    laws_heldIntS.f k (marked n m) m = some (m + (n : Int)) := by
  unfold laws_heldIntS.f
  exact heldIntS_l n k 0 (marked n m) m (by rw [marked_length]; exact hB) (by rw [marked_length]; omega) hk (by omega) h0 (by omega) (fun j h => by rw [Nat.zero_add]; exact marked_get n m j h)

theorem markIntS_ev (l : List Int) (hB : l.length ≤ 1048576) (m : Int) (h0 : 0 ≤ m) (h1 : m ≤ 900000000) : Ev (fun k => laws_markIntS.f k l m) (m + (l.length : Int), marked l.length m) :=
  ⟨l.length + 1, fun k hk => markIntS_val l hB m h0 h1 k (by omega)⟩
theorem heldIntS_ev (n : Nat) (hB : n ≤ 1048576) (m : Int) (h0 : 0 ≤ m) (h1 : m ≤ 900000000) : Ev (fun k => laws_heldIntS.f k (marked n m) m) (m + (n : Int)) :=
  ⟨n + 1, fun k hk => heldIntS_val n hB m h0 h1 k (by omega)⟩
theorem markIntS_nil : Ev (fun k => laws_markIntS.f k [] 1) (1, []) := by simpa [marked] using markIntS_ev [] (by simp) 1 (by omega) (by omega)
theorem heldIntS_nil : Ev (fun k => laws_heldIntS.f k [] 1) 1 := by simpa [marked] using heldIntS_ev 0 (by omega) 1 (by omega) (by omega)

/- What is proved at the end: ∀ (a0_0 : Int) (l0_1 : List Int) (l0_2 : List Int) (l1 : List Int), (Lit.int .i64 a0_0).wf = true → l0_1.length ≤ maxLen → (∀ x ∈ l0_1, (Lit.int .i64 x).wf = true) → l0_2.length ≤ maxLen → (∀ x ∈ l0_2, (Lit.int .i64 x).wf = true) → l1.length ≤ maxLen → (∀ x ∈ l1, (Lit.int .i64 x).wf = true) → ∃ k, laws_FnExactNextClimb.f k a0_0 l0_1 l0_2 l1 = some true -/
theorem FnExactNextClimb_agree (s : Int) (a b c : List Int) (ha : a.length ≤ 1048576) (hb : b.length ≤ 1048576) (hc : c.length ≤ 1048576) : ∃ w0 w1, Ev (fun k => spec_NextClimb.f k s a b c) (w0, w1) ∧ Ev (fun k => impl_NextClimb.f k s a b c) (w0, w1) ∧ w0.length ≤ 1048576 := by
  obtain ⟨r, o, h1, h2⟩ := rankOfClimb_both s a b c ha hb hc
  unfold spec_NextClimb.f impl_NextClimb.f
  cases o
  · exact ⟨[], false, Ev.bind h1 (Ev.ite_false rfl (Ev.now _)), Ev.bind h2 (Ev.ite_false rfl (Ev.now _)), by simp⟩
  · obtain ⟨w0, w1, h3, h4, h5⟩ := climbOfRank_both s a b (wrap64 (r + 1)) ha hb
    exact ⟨w0, w1, Ev.bind h1 (Ev.ite_true rfl (Ev.bind h3 (Ev.now _))), Ev.bind h2 (Ev.ite_true rfl (Ev.bind h4 (Ev.now _))), h5⟩
theorem FnExactNextClimb : ∀ (a0_0 : Int) (l0_1 : List Int) (l0_2 : List Int) (l1 : List Int), (Lit.int .i64 a0_0).wf = true → l0_1.length ≤ maxLen → (∀ x ∈ l0_1, (Lit.int .i64 x).wf = true) → l0_2.length ≤ maxLen → (∀ x ∈ l0_2, (Lit.int .i64 x).wf = true) → l1.length ≤ maxLen → (∀ x ∈ l1, (Lit.int .i64 x).wf = true) → ∃ k, laws_FnExactNextClimb.f k a0_0 l0_1 l0_2 l1 = some true := by
  intro a0_0 l0_1 l0_2 l1 w0_0 hm0_1 hw0_1 hm0_2 hw0_2 hm1 hw1
  by_cases hB1 : (l1.length : Int) > 1048576
  · exact ⟨1, by unfold laws_FnExactNextClimb.f; rw [if_pos hB1]⟩
  have hl1 : l1.length ≤ 1048576 := by omega
  by_cases hN0 : ¬ l0_1.length + l0_2.length ≤ 1048576
  · exact ⟨1, by unfold laws_FnExactNextClimb.f; rw [if_neg hB1]; simp [szStairs_no a0_0 l0_1 l0_2 hm0_1 hm0_2 hN0]⟩
  have hZ0 : l0_1.length + l0_2.length ≤ 1048576 := by omega
  have hl0_1 : l0_1.length ≤ 1048576 := by omega
  have hl0_2 : l0_2.length ≤ 1048576 := by omega
  have hz0 := szStairs_yes a0_0 l0_1 l0_2 hZ0
  obtain ⟨w0, w1, hS, hI, hww0⟩ := FnExactNextClimb_agree a0_0 l0_1 l0_2 l1 hl0_1 hl0_2 hl1
  obtain ⟨K0, k0⟩ := (show Ev (fun k => spec_NextClimb.f k a0_0 l0_1 l0_2 l1) (w0, w1) from hS)
  obtain ⟨K1, k1⟩ := (show Ev (fun k => impl_NextClimb.f k a0_0 l0_1 l0_2 l1) (w0, w1) from hI)
  obtain ⟨K2, k2⟩ := (show Ev (fun k => laws_toIntS.f k l0_1) l0_1 from toIntS_ev _ hl0_1)
  obtain ⟨K3, k3⟩ := (show Ev (fun k => laws_eqIntS.f k l0_1 l0_1) true from eqIntS_ev _ hl0_1)
  obtain ⟨K4, k4⟩ := (show Ev (fun k => laws_toIntS.f k l0_2) l0_2 from toIntS_ev _ hl0_2)
  obtain ⟨K5, k5⟩ := (show Ev (fun k => laws_eqIntS.f k l0_2 l0_2) true from eqIntS_ev _ hl0_2)
  obtain ⟨K6, k6⟩ := (show Ev (fun k => laws_toIntS.f k l1) l1 from toIntS_ev _ hl1)
  obtain ⟨K7, k7⟩ := (show Ev (fun k => laws_eqIntS.f k l1 l1) true from eqIntS_ev _ hl1)
  obtain ⟨K8, k8⟩ := (show Ev (fun k => laws_markIntS.f k l0_1 (1)) (1 + (l0_1.length : Int), marked l0_1.length (1)) from markIntS_ev _ hl0_1 _ (by omega) (by omega))
  obtain ⟨K9, k9⟩ := (show Ev (fun k => laws_markIntS.f k l0_2 (1 + (l0_1.length : Int))) (1 + (l0_1.length : Int) + (l0_2.length : Int), marked l0_2.length (1 + (l0_1.length : Int))) from markIntS_ev _ hl0_2 _ (by omega) (by omega))
  obtain ⟨K10, k10⟩ := (show Ev (fun k => laws_markIntS.f k l1 (1 + (l0_1.length : Int) + (l0_2.length : Int))) (1 + (l0_1.length : Int) + (l0_2.length : Int) + (l1.length : Int), marked l1.length (1 + (l0_1.length : Int) + (l0_2.length : Int))) from markIntS_ev _ hl1 _ (by omega) (by omega))
  obtain ⟨K11, k11⟩ := (show Ev (fun k => laws_eqIntS.f k w0 w0) true from eqIntS_ev _ hww0)
  obtain ⟨K12, k12⟩ := (show Ev (fun k => laws_markIntS.f k w0 (1)) (1 + (w0.length : Int), marked w0.length (1)) from markIntS_ev _ hww0 _ (by omega) (by omega))
  obtain ⟨K13, k13⟩ := (show Ev (fun k => laws_heldIntS.f k (marked w0.length (1)) (1)) (1 + (w0.length : Int)) from heldIntS_ev _ hww0 _ (by omega) (by omega))
  obtain ⟨K, hK⟩ : ∃ K, K = K0 + K1 + K2 + K3 + K4 + K5 + K6 + K7 + K8 + K9 + K10 + K11 + K12 + K13 := ⟨_, rfl⟩
  have e0 : ∀ j, spec_NextClimb.f (K + j) a0_0 l0_1 l0_2 l1 = some (w0, w1) := fun j => k0 (K + j) (by omega)
  have e1 : ∀ j, impl_NextClimb.f (K + j) a0_0 l0_1 l0_2 l1 = some (w0, w1) := fun j => k1 (K + j) (by omega)
  have e2 : ∀ j, laws_toIntS.f (K + j) l0_1 = some l0_1 := fun j => k2 (K + j) (by omega)
  have e3 : ∀ j, laws_eqIntS.f (K + j) l0_1 l0_1 = some true := fun j => k3 (K + j) (by omega)
  have e4 : ∀ j, laws_toIntS.f (K + j) l0_2 = some l0_2 := fun j => k4 (K + j) (by omega)
  have e5 : ∀ j, laws_eqIntS.f (K + j) l0_2 l0_2 = some true := fun j => k5 (K + j) (by omega)
  have e6 : ∀ j, laws_toIntS.f (K + j) l1 = some l1 := fun j => k6 (K + j) (by omega)
  have e7 : ∀ j, laws_eqIntS.f (K + j) l1 l1 = some true := fun j => k7 (K + j) (by omega)
  have e8 : ∀ j, laws_markIntS.f (K + j) l0_1 (1) = some (1 + (l0_1.length : Int), marked l0_1.length (1)) := fun j => k8 (K + j) (by omega)
  have e9 : ∀ j, laws_markIntS.f (K + j) l0_2 (1 + (l0_1.length : Int)) = some (1 + (l0_1.length : Int) + (l0_2.length : Int), marked l0_2.length (1 + (l0_1.length : Int))) := fun j => k9 (K + j) (by omega)
  have e10 : ∀ j, laws_markIntS.f (K + j) l1 (1 + (l0_1.length : Int) + (l0_2.length : Int)) = some (1 + (l0_1.length : Int) + (l0_2.length : Int) + (l1.length : Int), marked l1.length (1 + (l0_1.length : Int) + (l0_2.length : Int))) := fun j => k10 (K + j) (by omega)
  have e11 : ∀ j, laws_eqIntS.f (K + j) w0 w0 = some true := fun j => k11 (K + j) (by omega)
  have e12 : ∀ j, laws_markIntS.f (K + j) w0 (1) = some (1 + (w0.length : Int), marked w0.length (1)) := fun j => k12 (K + j) (by omega)
  have e13 : ∀ j, laws_heldIntS.f (K + j) (marked w0.length (1)) (1) = some (1 + (w0.length : Int)) := fun j => k13 (K + j) (by omega)
  clear k0 k1 k2 k3 k4 k5 k6 k7 k8 k9 k10 k11 k12 k13 hK
  refine ⟨K + 16, ?_⟩
  simp [laws_FnExactNextClimb.f, laws_FnExactNextClimb.j0, laws_FnExactNextClimb.j1, laws_FnExactNextClimb.j2, laws_toStairs.f, laws_eqStairs.f, laws_markStairs.f, e0, e1, e2, e3, e4, e5, e6, e7, e8, e9, e10, e11, e12, e13, hB1, hz0, show ¬ (1 + (l0_1.length : Int) + (l0_2.length : Int) + (l1.length : Int) < 0) by omega, show ¬ (1 + (w0.length : Int) < 0) by omega]

end Go.Proofs.Ytbeokaghdagabaa.Pure
