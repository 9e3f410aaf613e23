/- The pure statement of FnExactAreStairs: the printed function returns true for all arguments within their kinds; no other condition. -/
import Derived.Test.YtdmcnenlobgeoaaPFnExactAreStairsx
namespace Go.Proofs.Ytdmcnenlobgeoaa.Pure
open Go.RowKit Go.Proofs.Ytdmcnenlobgeoaa.PFnExactAreStairs Go.Proofs.YtdmcnenlobgeoaaW.PrintWords Go.Proofs.YtdmcnenlobgeoaaW.PrintLast Go.Proofs.YtdmcnenlobgeoaaW.PrintMore
set_option linter.unusedVariables false
set_option linter.unusedSimpArgs false
theorem in_val (a b c : Int) : spec_l1In.f a b c = some (decide (b ≤ a ∧ a ≤ c)) := by
  unfold spec_l1In.f
  by_cases h : b ≤ a <;> simp [h]
theorem within_val (a b c : Int) : impl_within.f a b c = some (decide (b ≤ a ∧ a ≤ c)) := by
  unfold impl_within.f
  by_cases h : b ≤ a <;> simp [h]

theorem wsucc (i : Nat) (h : i < 4611686018427387904) : wrap64 ((i : Int) + 1) = ((i + 1 : Nat) : Int) := by
  unfold wrap64
  omega
theorem kpred {d k : Nat} (h : d < k) : ∃ m, k = m + 1 := ⟨k - 1, by omega⟩
theorem rd_nat (l : List Int) (i : Nat) : rd l (i : Int) = l.getD i 0 := by simp [rd]
theorem take_set_succ (x : List Int) (i : Nat) (v : Int) (h : i < x.length) : (x.set i v).take (i + 1) = x.take i ++ [v] := by
  rw [List.take_add_one, List.take_set_of_le (Nat.le_refl i), List.getElem?_set_self h]
  rfl
theorem take_get_succ (x : List Int) (i : Nat) (h : i < x.length) : x.take (i + 1) = x.take i ++ [x.getD i 0] := by
  rw [List.take_add_one, List.getElem?_eq_getElem h, List.getD_eq_getElem?_getD, List.getElem?_eq_getElem h]
  rfl

theorem Ev.ite_true {α : Type} {g f : Nat → Option α} {r : α} {b : Bool} (h : b = true) (k : Ev g r) : Ev (fun n => if b = true then g n else f n) r := by
  subst h
  simpa using k
theorem Ev.ite_false {α : Type} {g f : Nat → Option α} {r : α} {b : Bool} (h : b = false) (k : Ev f r) : Ev (fun n => if b = true then g n else f n) r := by
  subst h
  simpa using k

theorem toIntS_l (l : List Int) (hB : l.length ≤ 1048576) : ∀ (d k i : Nat) (x : List Int), l.length - i = d → d < k → i ≤ l.length → x.length = l.length → x.take i = l.take i →
    laws_toIntS.l0 k l x (i : Int) = some l := by
  intro d
  induction d with
  | zero =>
    intro k i x hd hk hi hx ht
    obtain ⟨k, rfl⟩ := kpred hk
    have e : i = l.length := by omega
    simp only [laws_toIntS.l0]
    rw [if_neg (by omega)]
    have h1 := ht
    rw [e, List.take_length, ← hx, List.take_length] at h1
    rw [h1]
  | succ d ih =>
    intro k i x hd hk hi hx ht
    obtain ⟨k, rfl⟩ := kpred hk
    simp only [laws_toIntS.l0]
    rw [if_pos (by omega), if_pos (by omega), if_pos (by omega), wsucc i (by omega), Int.toNat_natCast, rd_nat]
    refine ih k (i + 1) _ (by omega) (by omega) (by omega) (by simpa using hx) ?_
    rw [take_set_succ _ _ _ (by omega), take_get_succ _ _ (by omega), ht]
theorem toIntS_val (l : List Int) (hB : l.length ≤ 1048576) (k : Nat) (hk : l.length < k) : laws_toIntS.f k l = some l := by
  unfold laws_toIntS.f
  rw [if_pos (by omega), if_pos (by rw [Int.toNat_natCast]; omega)]
  exact toIntS_l l hB l.length k 0 _ (by omega) hk (by omega) (by simp) (by simp)

theorem toIntS_ev (l : List Int) (hB : l.length ≤ 1048576) : Ev (fun k => laws_toIntS.f k l) l := ⟨l.length + 1, fun k hk => toIntS_val l hB k (by omega)⟩

theorem eqIntS_l (l : List Int) (hB : l.length ≤ 1048576) : ∀ (d k i : Nat), l.length - i = d → d < k → i ≤ l.length → laws_eqIntS.l0 k l l (i : Int) = some true := by
  intro d
  induction d with
  | zero =>
    intro k i hd hk hi
    obtain ⟨k, rfl⟩ := kpred hk
    simp only [laws_eqIntS.l0]
    rw [if_neg (by omega)]
  | succ d ih =>
    intro k i hd hk hi
    obtain ⟨k, rfl⟩ := kpred hk
    simp only [laws_eqIntS.l0]
    rw [if_pos (by omega), if_pos (by omega), if_pos (by omega), if_pos trivial, wsucc i (by omega)]
    exact ih k (i + 1) (by omega) (by omega) (by omega)
theorem eqIntS_val (l : List Int) (hB : l.length ≤ 1048576) (k : Nat) (hk : l.length < k) : laws_eqIntS.f k l l = some true := by
  unfold laws_eqIntS.f
  rw [if_pos rfl]
  exact eqIntS_l l hB l.length k 0 (by omega) hk (by omega)

theorem eqIntS_ev (l : List Int) (hB : l.length ≤ 1048576) : Ev (fun k => laws_eqIntS.f k l l) true := ⟨l.length + 1, fun k hk => eqIntS_val l hB k (by omega)⟩

/-- Numbers increase, and are from lo to hi; p: the one before. -/
def riseV (lo hi : Int) : Option Int → List Int → Bool
  | _, [] => true
  | p, x :: xs => decide (lo ≤ x ∧ x ≤ hi) && (match p with | none => true | some q => decide (q < x)) && riseV lo hi (some x) xs
theorem drop_cons' (l : List Int) (i : Nat) (h : i < l.length) : l.drop i = l.getD i 0 :: l.drop (i + 1) := by
  rw [List.drop_eq_getElem_cons h, List.getD_eq_getElem?_getD, List.getElem?_eq_getElem h]
  rfl
def before (l : List Int) (i : Nat) : Option Int := if i = 0 then none else some (l.getD (i - 1) 0)
theorem rising_l (l : List Int) (hl : l.length ≤ 1048576) (lo hh : Int) : ∀ (d i : Nat), l.length - i = d → i ≤ l.length →
    Ev (fun k => spec_l1Rising.l0 k l lo hh l (l.length : Int) (i : Int)) (riseV lo hh (before l i) (l.drop i)) ∧ Ev (fun k => impl_rise.l0 k l lo hh l (l.length : Int) (i : Int)) (riseV lo hh (before l i) (l.drop i)) := by
  intro d
  induction d with
  | zero =>
    intro i hd hi
    rw [List.drop_eq_nil_of_le (by omega)]
    refine ⟨Ev.step (fun k => ?_) (Ev.now _), Ev.step (fun k => ?_) (Ev.now _)⟩
    · simp only [spec_l1Rising.l0]
      rw [if_neg (by omega)]
      rfl
    · simp only [impl_rise.l0]
      rw [if_neg (by omega)]
      rfl
  | succ d ih =>
    intro i hd hi
    obtain ⟨ih1, ih2⟩ := ih (i + 1) (by omega) (by omega)
    have hb : before l (i + 1) = some (l.getD i 0) := by simp [before]
    rw [hb, ← wsucc i (by omega)] at ih1 ih2
    rw [drop_cons' l i (by omega)]
    simp only [riseV]
    by_cases h1 : lo ≤ l.getD i 0 ∧ l.getD i 0 ≤ hh
    · rw [decide_eq_true h1]
      by_cases h0 : i = 0
      · have hbi : before l i = none := by simp [before, h0]
        rw [hbi]
        refine ⟨Ev.step (fun k => ?_) ih1, Ev.step (fun k => ?_) ih2⟩
        · simp only [spec_l1Rising.l0]
          rw [if_pos (by omega), if_pos (by omega), if_pos (by omega), rd_nat, in_val]
          simp only [Option.bind_some]
          rw [decide_eq_true h1, if_pos rfl, if_neg (by omega)]
        · simp only [impl_rise.l0]
          rw [if_pos (by omega), if_pos (by omega), if_pos (by omega), rd_nat, within_val]
          simp only [Option.bind_some]
          rw [decide_eq_true h1, if_pos rfl, if_neg (by omega)]
      · have hbi : before l i = some (l.getD (i - 1) 0) := by simp [before, h0]
        have hw : wrap64 ((i : Int) - 1) = ((i - 1 : Nat) : Int) := by
          unfold wrap64
          omega
        rw [hbi]
        by_cases h2 : l.getD (i - 1) 0 < l.getD i 0
        · simp only [decide_eq_true h2]
          refine ⟨Ev.step (fun k => ?_) ih1, Ev.step (fun k => ?_) ih2⟩
          · simp only [spec_l1Rising.l0]
            rw [if_pos (by omega), if_pos (by omega), if_pos (by omega), rd_nat, in_val]
            simp only [Option.bind_some]
            rw [decide_eq_true h1, if_pos rfl, if_pos (by omega), hw, if_pos (by omega), if_pos (by omega), rd_nat, if_neg (by omega)]
          · simp only [impl_rise.l0]
            rw [if_pos (by omega), if_pos (by omega), if_pos (by omega), rd_nat, within_val]
            simp only [Option.bind_some]
            rw [decide_eq_true h1, if_pos rfl, if_pos (by omega), hw, if_pos (by omega), if_pos (by omega), rd_nat, if_neg (by omega)]
        · simp only [decide_eq_false h2]
          refine ⟨Ev.step (fun k => ?_) (Ev.now _), Ev.step (fun k => ?_) (Ev.now _)⟩
          · simp only [spec_l1Rising.l0]
            rw [if_pos (by omega), if_pos (by omega), if_pos (by omega), rd_nat, in_val]
            simp only [Option.bind_some]
            rw [decide_eq_true h1, if_pos rfl, if_pos (by omega), hw, if_pos (by omega), if_pos (by omega), rd_nat, if_pos (by omega)]
            rfl
          · simp only [impl_rise.l0]
            rw [if_pos (by omega), if_pos (by omega), if_pos (by omega), rd_nat, within_val]
            simp only [Option.bind_some]
            rw [decide_eq_true h1, if_pos rfl, if_pos (by omega), hw, if_pos (by omega), if_pos (by omega), rd_nat, if_pos (by omega)]
            rfl
    · rw [decide_eq_false h1]
      refine ⟨Ev.step (fun k => ?_) (Ev.now _), Ev.step (fun k => ?_) (Ev.now _)⟩
      · simp only [spec_l1Rising.l0]
        rw [if_pos (by omega), if_pos (by omega), if_pos (by omega), rd_nat, in_val]
        simp only [Option.bind_some]
        rw [decide_eq_false h1, if_neg (by simp)]
        rfl
      · simp only [impl_rise.l0]
        rw [if_pos (by omega), if_pos (by omega), if_pos (by omega), rd_nat, within_val]
        simp only [Option.bind_some]
        rw [decide_eq_false h1, if_neg (by simp)]
        rfl
theorem rising_ev (l : List Int) (hl : l.length ≤ 1048576) (lo hi : Int) : Ev (fun k => spec_l1Rising.f k l lo hi) (riseV lo hi none l) ∧ Ev (fun k => impl_rise.f k l lo hi) (riseV lo hi none l) := by
  have h := rising_l l hl lo hi _ 0 rfl (by omega)
  simp only [before, List.drop_zero, if_true] at h
  exact h
/-- The numbers are stairs. -/
def goodS (s : Int) (a b : List Int) : Bool := decide (1 ≤ s ∧ s ≤ 60) && (decide (1 ≤ (a.length : Int) ∧ (a.length : Int) ≤ 5) && (riseV 1 9 none a && riseV 1 (s - 1) none b))
theorem clGood_ev (s : Int) (a b : List Int) (ha : a.length ≤ 1048576) (hb : b.length ≤ 1048576) : Ev (fun k => spec_clGood.f k s a b) (goodS s a b) := by
  unfold spec_clGood.f goodS
  simp only [in_val, Option.bind_some]
  by_cases h1 : 1 ≤ s ∧ s ≤ 60
  · have hw : wrap64 (s - 1) = s - 1 := by
      unfold wrap64
      omega
    simp only [decide_eq_true h1, Bool.true_and, hw, if_true]
    by_cases h2 : 1 ≤ (a.length : Int) ∧ (a.length : Int) ≤ 5
    · simp only [decide_eq_true h2, Bool.true_and, if_true]
      refine Ev.bind (rising_ev a ha 1 9).1 ?_
      cases h3 : riseV 1 9 none a
      · simp only [Bool.false_and]
        exact Ev.congr (fun k => if_neg (by simp)) (Ev.now _)
      · simp only [Bool.true_and, if_true]
        exact Ev.bind (rising_ev b hb 1 (s - 1)).1 (Ev.now _)
    · simp only [decide_eq_false h2, Bool.false_and]
      exact Ev.congr (fun k => if_neg (by simp)) (Ev.now _)
  · simp only [decide_eq_false h1, Bool.false_and]
    exact Ev.congr (fun k => if_neg (by simp)) (Ev.now _)
theorem areStairs_ev (s : Int) (a b : List Int) (ha : a.length ≤ 1048576) (hb : b.length ≤ 1048576) : Ev (fun k => impl_AreStairs.f k s a b) (goodS s a b) := by
  unfold impl_AreStairs.f goodS
  simp only [within_val, Option.bind_some]
  by_cases h1 : 1 ≤ s ∧ s ≤ 60
  · have hw : wrap64 (s - 1) = s - 1 := by
      unfold wrap64
      omega
    simp only [decide_eq_true h1, Bool.true_and, hw, if_true]
    by_cases h2 : 1 ≤ (a.length : Int) ∧ (a.length : Int) ≤ 5
    · simp only [decide_eq_true h2, Bool.true_and, if_true]
      refine Ev.bind (rising_ev a ha 1 9).2 ?_
      cases h3 : riseV 1 9 none a
      · simp only [Bool.false_and]
        exact Ev.congr (fun k => if_neg (by simp)) (Ev.now _)
      · simp only [Bool.true_and, if_true]
        exact Ev.bind (rising_ev b hb 1 (s - 1)).2 (Ev.now _)
    · simp only [decide_eq_false h2, Bool.false_and]
      exact Ev.congr (fun k => if_neg (by simp)) (Ev.now _)
  · simp only [decide_eq_false h1, Bool.false_and]
    exact Ev.congr (fun k => if_neg (by simp)) (Ev.now _)
theorem szIntS_val (l : List Int) (n : Int) : laws_szIntS.f l n = some (if wrap64 (n - (l.length : Int)) < 0 then -1 else wrap64 (n - (l.length : Int))) := by
  unfold laws_szIntS.f
  split <;> rfl
theorem szStairs_yes (s : Int) (a b : List Int) (h : a.length + b.length ≤ 1048576) : laws_szStairs.f s a b 1048576 = some (1048576 - (a.length : Int) - (b.length : Int)) := by
  have w1 : wrap64 (1048576 - (a.length : Int)) = 1048576 - (a.length : Int) := by
    unfold wrap64
    omega
  have w2 : wrap64 (1048576 - (a.length : Int) - (b.length : Int)) = 1048576 - (a.length : Int) - (b.length : Int) := by
    unfold wrap64
    omega
  unfold laws_szStairs.f
  rw [szIntS_val, w1, if_neg (by omega)]
  simp only [Option.bind_some]
  rw [if_neg (by omega), szIntS_val, w2, if_neg (by omega)]
  simp only [Option.bind_some]
  rw [if_neg (by omega)]

theorem szStairs_no (s : Int) (a b : List Int) (ha : a.length ≤ maxLen) (hb : b.length ≤ maxLen) (h : ¬ a.length + b.length ≤ 1048576) : laws_szStairs.f s a b 1048576 = some (-1) := by
  unfold maxLen at ha hb
  unfold laws_szStairs.f
  rw [szIntS_val]
  simp only [Option.bind_some]
  have w1 : wrap64 (1048576 - (a.length : Int)) = 1048576 - (a.length : Int) := by
    unfold wrap64
    omega
  rw [w1]
  by_cases h1 : 1048576 - (a.length : Int) < 0
  · rw [if_pos h1, if_pos (by omega)]
  · rw [if_neg h1, if_neg h1, szIntS_val]
    have w2 : wrap64 (1048576 - (a.length : Int) - (b.length : Int)) = 1048576 - (a.length : Int) - (b.length : Int) := by
      unfold wrap64
      omega
    simp only [Option.bind_some]
    rw [w2, if_pos (by omega)]

/- What is proved at the end: ∀ (a0_0 : Int) (l0_1 : List Int) (l0_2 : List Int), (Lit.int .i64 a0_0).wf = true → l0_1.length ≤ maxLen → (∀ x ∈ l0_1, (Lit.int .i64 x).wf = true) → l0_2.length ≤ maxLen → (∀ x ∈ l0_2, (Lit.int .i64 x).wf = true) → ∃ k, laws_FnExactAreStairs.f k a0_0 l0_1 l0_2 = some true -/
theorem FnExactAreStairs_agree (s : Int) (a b : List Int) (ha : a.length ≤ 1048576) (hb : b.length ≤ 1048576) : ∃ w0, Ev (fun k => spec_AreStairs.f k s a b) w0 ∧ Ev (fun k => impl_AreStairs.f k s a b) w0 := by
  refine ⟨goodS s a b, ?_, areStairs_ev s a b ha hb⟩
  unfold spec_AreStairs.f
  exact Ev.bind (clGood_ev s a b ha hb) (Ev.now _)
theorem FnExactAreStairs : ∀ (a0_0 : Int) (l0_1 : List Int) (l0_2 : List Int), (Lit.int .i64 a0_0).wf = true → l0_1.length ≤ maxLen → (∀ x ∈ l0_1, (Lit.int .i64 x).wf = true) → l0_2.length ≤ maxLen → (∀ x ∈ l0_2, (Lit.int .i64 x).wf = true) → ∃ k, laws_FnExactAreStairs.f k a0_0 l0_1 l0_2 = some true := by
  intro a0_0 l0_1 l0_2 w0_0 hm0_1 hw0_1 hm0_2 hw0_2
  by_cases hN0 : ¬ l0_1.length + l0_2.length ≤ 1048576
  · exact ⟨1, by unfold laws_FnExactAreStairs.f; simp [szStairs_no a0_0 l0_1 l0_2 hm0_1 hm0_2 hN0]⟩
  have hZ0 : l0_1.length + l0_2.length ≤ 1048576 := by omega
  have hl0_1 : l0_1.length ≤ 1048576 := by omega
  have hl0_2 : l0_2.length ≤ 1048576 := by omega
  have hz0 := szStairs_yes a0_0 l0_1 l0_2 hZ0
  obtain ⟨w0, hS, hI⟩ := FnExactAreStairs_agree a0_0 l0_1 l0_2 hl0_1 hl0_2
  obtain ⟨K0, k0⟩ := (show Ev (fun k => spec_AreStairs.f k a0_0 l0_1 l0_2) w0 from hS)
  obtain ⟨K1, k1⟩ := (show Ev (fun k => impl_AreStairs.f k a0_0 l0_1 l0_2) w0 from hI)
  obtain ⟨K2, k2⟩ := (show Ev (fun k => laws_toIntS.f k l0_1) l0_1 from toIntS_ev _ hl0_1)
  obtain ⟨K3, k3⟩ := (show Ev (fun k => laws_eqIntS.f k l0_1 l0_1) true from eqIntS_ev _ hl0_1)
  obtain ⟨K4, k4⟩ := (show Ev (fun k => laws_toIntS.f k l0_2) l0_2 from toIntS_ev _ hl0_2)
  obtain ⟨K5, k5⟩ := (show Ev (fun k => laws_eqIntS.f k l0_2 l0_2) true from eqIntS_ev _ hl0_2)
  obtain ⟨K, hK⟩ : ∃ K, K = K0 + K1 + K2 + K3 + K4 + K5 := ⟨_, rfl⟩
  have e0 : ∀ j, spec_AreStairs.f (K + j) a0_0 l0_1 l0_2 = some w0 := fun j => k0 (K + j) (by omega)
  have e1 : ∀ j, impl_AreStairs.f (K + j) a0_0 l0_1 l0_2 = some w0 := fun j => k1 (K + j) (by omega)
  have e2 : ∀ j, laws_toIntS.f (K + j) l0_1 = some l0_1 := fun j => k2 (K + j) (by omega)
  have e3 : ∀ j, laws_eqIntS.f (K + j) l0_1 l0_1 = some true := fun j => k3 (K + j) (by omega)
  have e4 : ∀ j, laws_toIntS.f (K + j) l0_2 = some l0_2 := fun j => k4 (K + j) (by omega)
  have e5 : ∀ j, laws_eqIntS.f (K + j) l0_2 l0_2 = some true := fun j => k5 (K + j) (by omega)
  clear k0 k1 k2 k3 k4 k5 hK
  refine ⟨K + 16, ?_⟩
  simp [laws_FnExactAreStairs.f, laws_toStairs.f, laws_eqStairs.f, e0, e1, e2, e3, e4, e5, hz0]

end Go.Proofs.Ytdmcnenlobgeoaa.Pure
