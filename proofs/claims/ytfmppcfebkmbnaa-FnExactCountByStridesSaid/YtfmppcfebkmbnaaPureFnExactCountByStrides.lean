/- The pure statement of FnExactCountByStrides: the printed function returns true for all arguments within their kinds; no other condition. -/
import Derived.Test.YtfmppcfebkmbnaaPFnExactCountByStridesx
namespace Go.Proofs.Ytfmppcfebkmbnaa.Pure
open Go.RowKit Go.Proofs.Ytfmppcfebkmbnaa.PFnExactCountByStrides Go.Proofs.YtfmppcfebkmbnaaW.PrintWords Go.Proofs.YtfmppcfebkmbnaaW.PrintLast Go.Proofs.YtfmppcfebkmbnaaW.PrintMore
set_option linter.unusedVariables false
set_option linter.unusedSimpArgs false
theorem in_val (a b c : Int) : spec_l1In.f a b c = some (decide (b ≤ a ∧ a ≤ c)) := by
  unfold spec_l1In.f
  by_cases h : b ≤ a <;> simp [h]
theorem within_val (a b c : Int) : impl_within.f a b c = some (decide (b ≤ a ∧ a ≤ c)) := by
  unfold impl_within.f
  by_cases h : b ≤ a <;> simp [h]

theorem wsucc (i : Nat) (h : i < 4611686018427387904) : wrap64 ((i : Int) + 1) = ((i + 1 : Nat) : Int) := by
  unfold wrap64
  omega
theorem kpred {d k : Nat} (h : d < k) : ∃ m, k = m + 1 := ⟨k - 1, by omega⟩
theorem rd_nat (l : List Int) (i : Nat) : rd l (i : Int) = l.getD i 0 := by simp [rd]
theorem take_set_succ (x : List Int) (i : Nat) (v : Int) (h : i < x.length) : (x.set i v).take (i + 1) = x.take i ++ [v] := by
  rw [List.take_add_one, List.take_set_of_le (Nat.le_refl i), List.getElem?_set_self h]
  rfl
theorem take_get_succ (x : List Int) (i : Nat) (h : i < x.length) : x.take (i + 1) = x.take i ++ [x.getD i 0] := by
  rw [List.take_add_one, List.getElem?_eq_getElem h, List.getD_eq_getElem?_getD, List.getElem?_eq_getElem h]
  rfl
theorem w_id {x : Int} (h0 : -4611686018427387904 ≤ x) (h1 : x ≤ 4611686018427387904) : wrap64 x = x := by
  unfold wrap64
  omega
theorem w_sub (k r : Nat) (h : r ≤ k) (hk : k ≤ 1000000000) : wrap64 ((k : Int) - (r : Int)) = ((k - r : Nat) : Int) := by
  rw [w_id (by omega) (by omega)]
  omega
theorem w_add (a b : Nat) (h : a ≤ 1000000000) (hb : b ≤ 1000000000) : wrap64 ((a : Int) + (b : Int)) = ((a + b : Nat) : Int) := by
  rw [w_id (by omega) (by omega)]
  omega
theorem w_pred (k : Nat) (h : 1 ≤ k) (hk : k ≤ 1000000000) : wrap64 ((k : Int) - 1) = ((k - 1 : Nat) : Int) := by
  rw [w_id (by omega) (by omega)]
  omega

theorem Ev.ite_true {α : Type} {g f : Nat → Option α} {r : α} {b : Bool} (h : b = true) (k : Ev g r) : Ev (fun n => if b = true then g n else f n) r := by
  subst h
  simpa using k
theorem Ev.ite_false {α : Type} {g f : Nat → Option α} {r : α} {b : Bool} (h : b = false) (k : Ev f r) : Ev (fun n => if b = true then g n else f n) r := by
  subst h
  simpa using k

theorem toIntS_l (l : List Int) (hB : l.length ≤ 1048576) : ∀ (d k i : Nat) (x : List Int), l.length - i = d → d < k → i ≤ l.length → x.length = l.length → x.take i = l.take i →
    laws_toIntS.l0 k l x (i : Int) = some l := by
  intro d
  induction d with
  | zero =>
    intro k i x hd hk hi hx ht
    obtain ⟨k, rfl⟩ := kpred hk
    have e : i = l.length := by omega
    simp only [laws_toIntS.l0]
    rw [if_neg (by omega)]
    have h1 := ht
    rw [e, List.take_length, ← hx, List.take_length] at h1
    rw [h1]
  | succ d ih =>
    intro k i x hd hk hi hx ht
    obtain ⟨k, rfl⟩ := kpred hk
    simp only [laws_toIntS.l0]
    rw [if_pos (by omega), if_pos (by omega), if_pos (by omega), wsucc i (by omega), Int.toNat_natCast, rd_nat]
    refine ih k (i + 1) _ (by omega) (by omega) (by omega) (by simpa using hx) ?_
    rw [take_set_succ _ _ _ (by omega), take_get_succ _ _ (by omega), ht]
theorem toIntS_val (l : List Int) (hB : l.length ≤ 1048576) (k : Nat) (hk : l.length < k) : laws_toIntS.f k l = some l := by
  unfold laws_toIntS.f
  rw [if_pos (by omega), if_pos (by rw [Int.toNat_natCast]; omega)]
  exact toIntS_l l hB l.length k 0 _ (by omega) hk (by omega) (by simp) (by simp)

theorem toIntS_ev (l : List Int) (hB : l.length ≤ 1048576) : Ev (fun k => laws_toIntS.f k l) l := ⟨l.length + 1, fun k hk => toIntS_val l hB k (by omega)⟩

theorem eqIntS_l (l : List Int) (hB : l.length ≤ 1048576) : ∀ (d k i : Nat), l.length - i = d → d < k → i ≤ l.length → laws_eqIntS.l0 k l l (i : Int) = some true := by
  intro d
  induction d with
  | zero =>
    intro k i hd hk hi
    obtain ⟨k, rfl⟩ := kpred hk
    simp only [laws_eqIntS.l0]
    rw [if_neg (by omega)]
  | succ d ih =>
    intro k i hd hk hi
    obtain ⟨k, rfl⟩ := kpred hk
    simp only [laws_eqIntS.l0]
    rw [if_pos (by omega), if_pos (by omega), if_pos (by omega), if_pos trivial, wsucc i (by omega)]
    exact ih k (i + 1) (by omega) (by omega) (by omega)
theorem eqIntS_val (l : List Int) (hB : l.length ≤ 1048576) (k : Nat) (hk : l.length < k) : laws_eqIntS.f k l l = some true := by
  unfold laws_eqIntS.f
  rw [if_pos rfl]
  exact eqIntS_l l hB l.length k 0 (by omega) hk (by omega)

theorem eqIntS_ev (l : List Int) (hB : l.length ≤ 1048576) : Ev (fun k => laws_eqIntS.f k l l) true := ⟨l.length + 1, fun k hk => eqIntS_val l hB k (by omega)⟩

/-- Numbers increase, and are from lo to hi; p: the one before. -/
def riseV (lo hi : Int) : Option Int → List Int → Bool
  | _, [] => true
  | p, x :: xs => decide (lo ≤ x ∧ x ≤ hi) && (match p with | none => true | some q => decide (q < x)) && riseV lo hi (some x) xs
theorem drop_cons' (l : List Int) (i : Nat) (h : i < l.length) : l.drop i = l.getD i 0 :: l.drop (i + 1) := by
  rw [List.drop_eq_getElem_cons h, List.getD_eq_getElem?_getD, List.getElem?_eq_getElem h]
  rfl
def before (l : List Int) (i : Nat) : Option Int := if i = 0 then none else some (l.getD (i - 1) 0)
theorem rising_l (l : List Int) (hl : l.length ≤ 1048576) (lo hh : Int) : ∀ (d i : Nat), l.length - i = d → i ≤ l.length →
    Ev (fun k => spec_l1Rising.l0 k l lo hh l (l.length : Int) (i : Int)) (riseV lo hh (before l i) (l.drop i)) ∧ Ev (fun k => impl_rise.l0 k l lo hh l (l.length : Int) (i : Int)) (riseV lo hh (before l i) (l.drop i)) := by
  intro d
  induction d with
  | zero =>
    intro i hd hi
    rw [List.drop_eq_nil_of_le (by omega)]
    refine ⟨Ev.step (fun k => ?_) (Ev.now _), Ev.step (fun k => ?_) (Ev.now _)⟩
    · simp only [spec_l1Rising.l0]
      rw [if_neg (by omega)]
      rfl
    · simp only [impl_rise.l0]
      rw [if_neg (by omega)]
      rfl
  | succ d ih =>
    intro i hd hi
    obtain ⟨ih1, ih2⟩ := ih (i + 1) (by omega) (by omega)
    have hb : before l (i + 1) = some (l.getD i 0) := by simp [before]
    rw [hb, ← wsucc i (by omega)] at ih1 ih2
    rw [drop_cons' l i (by omega)]
    simp only [riseV]
    by_cases h1 : lo ≤ l.getD i 0 ∧ l.getD i 0 ≤ hh
    · rw [decide_eq_true h1]
      by_cases h0 : i = 0
      · have hbi : before l i = none := by simp [before, h0]
        rw [hbi]
        refine ⟨Ev.step (fun k => ?_) ih1, Ev.step (fun k => ?_) ih2⟩
        · simp only [spec_l1Rising.l0]
          rw [if_pos (by omega), if_pos (by omega), if_pos (by omega), rd_nat, in_val]
          simp only [Option.bind_some]
          rw [decide_eq_true h1, if_pos rfl, if_neg (by omega)]
        · simp only [impl_rise.l0]
          rw [if_pos (by omega), if_pos (by omega), if_pos (by omega), rd_nat, within_val]
          simp only [Option.bind_some]
          rw [decide_eq_true h1, if_pos rfl, if_neg (by omega)]
      · have hbi : before l i = some (l.getD (i - 1) 0) := by simp [before, h0]
        have hw : wrap64 ((i : Int) - 1) = ((i - 1 : Nat) : Int) := by
          unfold wrap64
          omega
        rw [hbi]
        by_cases h2 : l.getD (i - 1) 0 < l.getD i 0
        · simp only [decide_eq_true h2]
          refine ⟨Ev.step (fun k => ?_) ih1, Ev.step (fun k => ?_) ih2⟩
          · simp only [spec_l1Rising.l0]
            rw [if_pos (by omega), if_pos (by omega), if_pos (by omega), rd_nat, in_val]
            simp only [Option.bind_some]
            rw [decide_eq_true h1, if_pos rfl, if_pos (by omega), hw, if_pos (by omega), if_pos (by omega), rd_nat, if_neg (by omega)]
          · simp only [impl_rise.l0]
            rw [if_pos (by omega), if_pos (by omega), if_pos (by omega), rd_nat, within_val]
            simp only [Option.bind_some]
            rw [decide_eq_true h1, if_pos rfl, if_pos (by omega), hw, if_pos (by omega), if_pos (by omega), rd_nat, if_neg (by omega)]
        · simp only [decide_eq_false h2]
          refine ⟨Ev.step (fun k => ?_) (Ev.now _), Ev.step (fun k => ?_) (Ev.now _)⟩
          · simp only [spec_l1Rising.l0]
            rw [if_pos (by omega), if_pos (by omega), if_pos (by omega), rd_nat, in_val]
            simp only [Option.bind_some]
            rw [decide_eq_true h1, if_pos rfl, if_pos (by omega), hw, if_pos (by omega), if_pos (by omega), rd_nat, if_pos (by omega)]
            rfl
          · simp only [impl_rise.l0]
            rw [if_pos (by omega), if_pos (by omega), if_pos (by omega), rd_nat, within_val]
            simp only [Option.bind_some]
            rw [decide_eq_true h1, if_pos rfl, if_pos (by omega), hw, if_pos (by omega), if_pos (by omega), rd_nat, if_pos (by omega)]
            rfl
    · rw [decide_eq_false h1]
      refine ⟨Ev.step (fun k => ?_) (Ev.now _), Ev.step (fun k => ?_) (Ev.now _)⟩
      · simp only [spec_l1Rising.l0]
        rw [if_pos (by omega), if_pos (by omega), if_pos (by omega), rd_nat, in_val]
        simp only [Option.bind_some]
        rw [decide_eq_false h1, if_neg (by simp)]
        rfl
      · simp only [impl_rise.l0]
        rw [if_pos (by omega), if_pos (by omega), if_pos (by omega), rd_nat, within_val]
        simp only [Option.bind_some]
        rw [decide_eq_false h1, if_neg (by simp)]
        rfl
theorem rising_ev (l : List Int) (hl : l.length ≤ 1048576) (lo hi : Int) : Ev (fun k => spec_l1Rising.f k l lo hi) (riseV lo hi none l) ∧ Ev (fun k => impl_rise.f k l lo hi) (riseV lo hi none l) := by
  have h := rising_l l hl lo hi _ 0 rfl (by omega)
  simp only [before, List.drop_zero, if_true] at h
  exact h
/-- The numbers are stairs. -/
def goodS (s : Int) (a b : List Int) : Bool := decide (1 ≤ s ∧ s ≤ 60) && (decide (1 ≤ (a.length : Int) ∧ (a.length : Int) ≤ 5) && (riseV 1 9 none a && riseV 1 (s - 1) none b))
theorem clGood_ev (s : Int) (a b : List Int) (ha : a.length ≤ 1048576) (hb : b.length ≤ 1048576) : Ev (fun k => spec_clGood.f k s a b) (goodS s a b) := by
  unfold spec_clGood.f goodS
  simp only [in_val, Option.bind_some]
  by_cases h1 : 1 ≤ s ∧ s ≤ 60
  · have hw : wrap64 (s - 1) = s - 1 := by
      unfold wrap64
      omega
    simp only [decide_eq_true h1, Bool.true_and, hw, if_true]
    by_cases h2 : 1 ≤ (a.length : Int) ∧ (a.length : Int) ≤ 5
    · simp only [decide_eq_true h2, Bool.true_and, if_true]
      refine Ev.bind (rising_ev a ha 1 9).1 ?_
      cases h3 : riseV 1 9 none a
      · simp only [Bool.false_and]
        exact Ev.congr (fun k => if_neg (by simp)) (Ev.now _)
      · simp only [Bool.true_and, if_true]
        exact Ev.bind (rising_ev b hb 1 (s - 1)).1 (Ev.now _)
    · simp only [decide_eq_false h2, Bool.false_and]
      exact Ev.congr (fun k => if_neg (by simp)) (Ev.now _)
  · simp only [decide_eq_false h1, Bool.false_and]
    exact Ev.congr (fun k => if_neg (by simp)) (Ev.now _)
theorem areStairs_ev (s : Int) (a b : List Int) (ha : a.length ≤ 1048576) (hb : b.length ≤ 1048576) : Ev (fun k => impl_AreStairs.f k s a b) (goodS s a b) := by
  unfold impl_AreStairs.f goodS
  simp only [within_val, Option.bind_some]
  by_cases h1 : 1 ≤ s ∧ s ≤ 60
  · have hw : wrap64 (s - 1) = s - 1 := by
      unfold wrap64
      omega
    simp only [decide_eq_true h1, Bool.true_and, hw, if_true]
    by_cases h2 : 1 ≤ (a.length : Int) ∧ (a.length : Int) ≤ 5
    · simp only [decide_eq_true h2, Bool.true_and, if_true]
      refine Ev.bind (rising_ev a ha 1 9).2 ?_
      cases h3 : riseV 1 9 none a
      · simp only [Bool.false_and]
        exact Ev.congr (fun k => if_neg (by simp)) (Ev.now _)
      · simp only [Bool.true_and, if_true]
        exact Ev.bind (rising_ev b hb 1 (s - 1)).2 (Ev.now _)
    · simp only [decide_eq_false h2, Bool.false_and]
      exact Ev.congr (fun k => if_neg (by simp)) (Ev.now _)
  · simp only [decide_eq_false h1, Bool.false_and]
    exact Ev.congr (fun k => if_neg (by simp)) (Ev.now _)
theorem szIntS_val (l : List Int) (n : Int) : laws_szIntS.f l n = some (if wrap64 (n - (l.length : Int)) < 0 then -1 else wrap64 (n - (l.length : Int))) := by
  unfold laws_szIntS.f
  split <;> rfl
theorem szStairs_yes (s : Int) (a b : List Int) (h : a.length + b.length ≤ 1048576) : laws_szStairs.f s a b 1048576 = some (1048576 - (a.length : Int) - (b.length : Int)) := by
  have w1 : wrap64 (1048576 - (a.length : Int)) = 1048576 - (a.length : Int) := by
    unfold wrap64
    omega
  have w2 : wrap64 (1048576 - (a.length : Int) - (b.length : Int)) = 1048576 - (a.length : Int) - (b.length : Int) := by
    unfold wrap64
    omega
  unfold laws_szStairs.f
  rw [szIntS_val, w1, if_neg (by omega)]
  simp only [Option.bind_some]
  rw [if_neg (by omega), szIntS_val, w2, if_neg (by omega)]
  simp only [Option.bind_some]
  rw [if_neg (by omega)]

theorem szStairs_no (s : Int) (a b : List Int) (ha : a.length ≤ maxLen) (hb : b.length ≤ maxLen) (h : ¬ a.length + b.length ≤ 1048576) : laws_szStairs.f s a b 1048576 = some (-1) := by
  unfold maxLen at ha hb
  unfold laws_szStairs.f
  rw [szIntS_val]
  simp only [Option.bind_some]
  have w1 : wrap64 (1048576 - (a.length : Int)) = 1048576 - (a.length : Int) := by
    unfold wrap64
    omega
  rw [w1]
  by_cases h1 : 1048576 - (a.length : Int) < 0
  · rw [if_pos h1, if_pos (by omega)]
  · rw [if_neg h1, if_neg h1, szIntS_val]
    have w2 : wrap64 (1048576 - (a.length : Int) - (b.length : Int)) = 1048576 - (a.length : Int) - (b.length : Int) := by
      unfold wrap64
      omega
    simp only [Option.bind_some]
    rw [w2, if_pos (by omega)]

theorem drop_info {α : Type} {d : α} {l : List α} {i : Nat} {x : α} {xs : List α} (h : l.drop i = x :: xs) : i < l.length ∧ l.getD i d = x ∧ l.drop (i + 1) = xs := by
  have hl : l.length - i = xs.length + 1 := by
    have := congrArg List.length h
    rwa [List.length_drop, List.length_cons] at this
  have hi : i < l.length := by omega
  rw [List.drop_eq_getElem_cons hi] at h
  refine ⟨hi, ?_, (List.cons.inj h).2⟩
  rw [List.getD_eq_getElem?_getD, List.getElem?_eq_getElem hi]
  exact (List.cons.inj h).1
theorem drop_nil' {α : Type} {l : List α} {i : Nat} (h : l.drop i = []) : l.length ≤ i := by
  have := congrArg List.length h
  rw [List.length_drop, List.length_nil] at this
  omega
theorem has_l (l : List Int) (hl : l.length ≤ 1048576) (a : Int) : ∀ (ks : List Int) (i : Nat), l.drop i = ks → Ev (fun k => spec_l1Has.l0 k a l (l.length : Int) (i : Int)) (decide (a ∈ ks)) ∧
    ∃ r, Ev (fun k => slices_Index_int_int.l0 k l a (l.length : Int) (i : Int)) r ∧ (decide (r ≥ 0)) = decide (a ∈ ks) := by
  intro ks
  induction ks with
  | nil =>
    intro i hd
    have := drop_nil' hd
    refine ⟨Ev.step (fun k => ?_) (Ev.now _), -1, Ev.step (fun k => ?_) (Ev.now _), by simp⟩
    · simp only [spec_l1Has.l0]
      rw [if_neg (by omega)]
      simp
    · simp only [slices_Index_int_int.l0]
      rw [if_neg (by omega)]
  | cons x ks ih =>
    intro i hd
    obtain ⟨hi, hx, hd'⟩ := drop_info (d := 0) hd
    obtain ⟨h1, r, h2, h3⟩ := ih (i + 1) hd'
    rw [← wsucc i (by omega)] at h1 h2
    by_cases ha : x = a
    · refine ⟨Ev.step (fun k => ?_) (Ev.now _), (i : Int), Ev.step (fun k => ?_) (Ev.now _), ?_⟩
      · simp only [spec_l1Has.l0]
        rw [if_pos (by omega), if_pos (by omega), if_pos (by omega), rd_nat, hx, if_pos ha]
        simp [ha]
      · simp only [slices_Index_int_int.l0]
        rw [if_pos (by omega), if_pos (by omega), if_pos (by omega), rd_nat, hx, if_pos ha.symm]
      · rw [decide_eq_true (by omega : (i : Int) ≥ 0), decide_eq_true (by simp [ha])]
    · have he : (decide (a ∈ x :: ks)) = decide (a ∈ ks) := by
        have : ¬ a = x := fun h => ha h.symm
        simp [this]
      rw [he]
      refine ⟨Ev.step (fun k => ?_) h1, r, Ev.step (fun k => ?_) h2, h3⟩
      · simp only [spec_l1Has.l0]
        rw [if_pos (by omega), if_pos (by omega), if_pos (by omega), rd_nat, hx, if_neg ha]
      · simp only [slices_Index_int_int.l0]
        rw [if_pos (by omega), if_pos (by omega), if_pos (by omega), rd_nat, hx, if_neg (fun h => ha h.symm)]
theorem has_ev (l : List Int) (hl : l.length ≤ 1048576) (a : Int) : Ev (fun k => spec_l1Has.f k l a) (decide (a ∈ l)) := (has_l l hl a l 0 rfl).1
theorem contains_ev (l : List Int) (hl : l.length ≤ 1048576) (a : Int) : Ev (fun k => slices_Contains_int_int.f k l a) (decide (a ∈ l)) := by
  obtain ⟨r, h2, h3⟩ := (has_l l hl a l 0 rfl).2
  exact Ev.bind (f := fun k t => some (decide (t ≥ 0))) h2 (h3 ▸ Ev.now _)
theorem stands_ev (s : Int) (S B : List Int) (hB : B.length ≤ 1048576) (a : Int) : Ev (fun k => spec_clStands.f k s S B a) (decide (0 ≤ a ∧ a ≤ s) && !decide (a ∈ B)) := by
  unfold spec_clStands.f
  simp only [in_val, Option.bind_some]
  by_cases h : 0 ≤ a ∧ a ≤ s
  · simp only [decide_eq_true h, if_true, Bool.true_and]
    exact Ev.bind (has_ev B hB a) (Ev.now _)
  · simp only [decide_eq_false h, Bool.false_and]
    exact Ev.congr (fun k => if_neg (by simp)) (Ev.now _)
theorem broken_ev (s : Int) (S B : List Int) (hB : B.length ≤ 1048576) (a : Int) : Ev (fun k => impl_Stairs_isBroken.f k s S B a) (decide (a ∈ B)) := by
  unfold impl_Stairs_isBroken.f
  exact Ev.bind (contains_ev B hB a) (Ev.now _)

theorem rise_mem {lo hi : Int} : ∀ {p : Option Int} {l : List Int}, riseV lo hi p l = true → ∀ x ∈ l, lo ≤ x ∧ x ≤ hi := by
  intro p l
  induction l generalizing p with
  | nil => intro _ x hx; simp at hx
  | cons y l ih =>
    intro h x hx
    simp only [riseV, Bool.and_eq_true, decide_eq_true_eq] at h
    rcases List.mem_cons.mp hx with rfl | hx
    · exact h.1.1
    · exact ih h.2 x hx
theorem goodS_bd {s : Int} {S B : List Int} (h : goodS s S B = true) : 1 ≤ s ∧ s ≤ 60 ∧ 1 ≤ S.length ∧ S.length ≤ 5 ∧ (∀ x ∈ S, 1 ≤ x ∧ x ≤ 9) ∧ (∀ x ∈ B, 1 ≤ x ∧ x ≤ s - 1) ∧ riseV 1 9 none S = true := by
  simp only [goodS, Bool.and_eq_true, decide_eq_true_eq] at h
  obtain ⟨⟨h1, h2⟩, ⟨h3, h4⟩, h5, h6⟩ := h
  exact ⟨h1, h2, by omega, by omega, rise_mem h5, rise_mem h6, h5⟩

def ci (T : List Nat) : List Int := T.map (fun x : Nat => (x : Int))
theorem ci_len (T : List Nat) : (ci T).length = T.length := by simp [ci]
theorem ci_get (T : List Nat) (i : Nat) : (ci T).getD i 0 = ((T.getD i 0 : Nat) : Int) := by
  simp only [ci, List.getD_eq_getElem?_getD, List.getElem?_map]
  cases T[i]? <;> simp
def incN : Nat → List Nat → Prop
  | _, [] => True
  | p, x :: xs => p < x ∧ incN x xs
theorem rise_inc : ∀ (S : List Int) (p : Option Int) (q : Nat), riseV 1 9 p S = true → (match p with | none => q = 0 | some z => z = (q : Int)) → incN q (S.map Int.toNat) := by
  intro S
  induction S with
  | nil => intro p q _ _; trivial
  | cons x S ih =>
    intro p q h hp
    simp only [riseV, Bool.and_eq_true, decide_eq_true_eq] at h
    obtain ⟨⟨h1, h2⟩, h3⟩ := h
    refine ⟨?_, ih (some x) x.toNat h3 (by simp only; omega)⟩
    cases p with
    | none => simp only at hp; omega
    | some z => simp only [decide_eq_true_eq] at hp h2; omega
theorem goodS_nat {s : Int} {S B : List Int} (h : goodS s S B = true) : ∃ (n : Nat) (T : List Nat), s = (n : Int) ∧ S = ci T ∧ 1 ≤ n ∧ n ≤ 60 ∧ T.length ≤ 5 ∧ (∀ t ∈ T, 1 ≤ t ∧ t ≤ 9) ∧ incN 0 T ∧ (∀ x ∈ B, 1 ≤ x ∧ x ≤ (n : Int) - 1) := by
  obtain ⟨h1, h2, h3, h4, h5, h6, h7⟩ := goodS_bd h
  refine ⟨s.toNat, S.map Int.toNat, by omega, ?_, by omega, by omega, by simpa using h4, ?_, rise_inc S none 0 h7 rfl, ?_⟩
  · simp only [ci, List.map_map]
    conv => lhs; rw [← List.map_id S]
    refine List.map_congr_left (fun x hx => ?_)
    have := h5 x hx
    simp only [id, Function.comp]
    omega
  · intro t ht
    obtain ⟨x, hx, rfl⟩ := List.mem_map.mp ht
    have := h5 x hx
    omega
  · intro x hx
    have := h6 x hx
    omega
/-- The sum over the strides that end at n at the latest. -/
def gs (f : Nat → Int) (n j : Nat) : List Nat → Int
  | [] => 0
  | s :: ss => (if j + s ≤ n then f (j + s) else 0) + gs f n j ss
theorem gs_congr {f f' : Nat → Int} {n j : Nat} : ∀ {T : List Nat}, (∀ t ∈ T, 1 ≤ t) → (∀ i, j < i → i ≤ n → f i = f' i) → gs f n j T = gs f' n j T := by
  intro T
  induction T with
  | nil => intro _ _; rfl
  | cons s T ih =>
    intro h1 h2
    simp only [gs]
    rw [ih (fun t ht => h1 t (List.mem_cons_of_mem _ ht)) h2]
    have := h1 s (List.mem_cons_self ..)
    by_cases hs : j + s ≤ n
    · rw [if_pos hs, if_pos hs, h2 (j + s) (by omega) hs]
    · rw [if_neg hs, if_neg hs]
theorem gs_nonneg {f : Nat → Int} {n j : Nat} (hf : ∀ i, j < i → i ≤ n → 0 ≤ f i) : ∀ (T : List Nat), (∀ t ∈ T, 1 ≤ t) → 0 ≤ gs f n j T := by
  intro T
  induction T with
  | nil => intro _; exact Int.le_refl _
  | cons s T ih =>
    intro h
    have h1 := ih (fun t ht => h t (List.mem_cons_of_mem _ ht))
    have h2 := h s (List.mem_cons_self ..)
    simp only [gs]
    by_cases hs : j + s ≤ n
    · have := hf (j + s) (by omega) hs
      rw [if_pos hs]
      omega
    · rw [if_neg hs]
      omega
theorem gs_mem {f : Nat → Int} {n j : Nat} (hf : ∀ i, j < i → i ≤ n → 0 ≤ f i) {T : List Nat} (hT : ∀ t ∈ T, 1 ≤ t) {s : Nat} (hs : s ∈ T) (hn : j + s ≤ n) : f (j + s) ≤ gs f n j T := by
  induction T with
  | nil => simp at hs
  | cons t T ih =>
    have h1 := gs_nonneg hf T (fun x hx => hT x (List.mem_cons_of_mem _ hx))
    simp only [gs]
    rcases List.mem_cons.mp hs with h | h
    · subst h
      rw [if_pos hn]
      omega
    · have h2 := ih (fun x hx => hT x (List.mem_cons_of_mem _ hx)) h
      have h3 := hT t (List.mem_cons_self ..)
      by_cases ht : j + t ≤ n
      · have := hf (j + t) (by omega) ht
        rw [if_pos ht]
        omega
      · rw [if_neg ht]
        omega
def p2 : Nat → Int
  | 0 => 1
  | d + 1 => 2 * p2 d
theorem p2_pos : ∀ d, 1 ≤ p2 d
  | 0 => by simp [p2]
  | d + 1 => by have := p2_pos d; simp only [p2]; omega
theorem p2_mono {a b : Nat} (h : a ≤ b) : p2 a ≤ p2 b := by
  obtain ⟨c, rfl⟩ := Nat.exists_eq_add_of_le h
  clear h
  induction c with
  | zero => exact Int.le_refl _
  | succ c ih =>
    have := p2_pos (a + c)
    show p2 a ≤ 2 * p2 (a + c)
    omega
theorem p2_60 {d : Nat} (h : d ≤ 60) : p2 d ≤ 1152921504606846976 := by
  have := p2_mono h
  have h2 : p2 60 = 1152921504606846976 := by decide +kernel
  omega
theorem gs_bd {f : Nat → Int} {n j : Nat} (hf : ∀ i, j < i → i ≤ n → 0 ≤ f i ∧ f i ≤ p2 (n - i)) : ∀ (T : List Nat) (p : Nat), incN p T → 0 ≤ gs f n j T ∧ gs f n j T ≤ p2 (n - j - p) := by
  intro T
  induction T with
  | nil =>
    intro p _
    have := p2_pos (n - j - p)
    simp only [gs]
    omega
  | cons s T ih =>
    intro p h
    obtain ⟨h1, h2⟩ := h
    obtain ⟨i1, i2⟩ := ih s h2
    simp only [gs]
    by_cases hs : j + s ≤ n
    · rw [if_pos hs]
      have hb := hf (j + s) (by omega) hs
      have e1 : n - (j + s) = n - j - s := by omega
      rw [e1] at hb
      have h3 : p2 (n - j - s + 1) ≤ p2 (n - j - p) := p2_mono (by omega)
      simp only [p2] at h3
      omega
    · rw [if_neg hs]
      have h3 : p2 (n - j - s) ≤ p2 (n - j - p) := p2_mono (by omega)
      omega
def dpv (n : Nat) (base : Int) (g : (Nat → Int) → Nat → Int) : Nat → Nat → Int
  | 0, _ => base
  | d + 1, j => if j + (d + 1) = n then g (dpv n base g d) j else dpv n base g d j
theorem dpv_stable (n : Nat) (base : Int) (g : (Nat → Int) → Nat → Int) (d j : Nat) (h : n ≤ j + d) : ∀ e, dpv n base g (d + e) j = dpv n base g d j := by
  intro e
  induction e with
  | zero => rfl
  | succ e ih =>
    show dpv n base g ((d + e) + 1) j = _
    rw [← ih]
    simp only [dpv]
    rw [if_neg (by omega)]
theorem dpv_top (n : Nat) (base : Int) (g : (Nat → Int) → Nat → Int) : dpv n base g n n = base := by
  have := dpv_stable n base g 0 n (by omega) n
  rw [Nat.zero_add] at this
  rw [this]
  rfl
theorem dpv_rec (n : Nat) (base : Int) (g : (Nat → Int) → Nat → Int) (hg : ∀ f f' j, (∀ i, j < i → i ≤ n → f i = f' i) → g f j = g f' j) (j : Nat) (hj : j < n) : dpv n base g n j = g (dpv n base g n) j := by
  have h1 := dpv_stable n base g (n - j) j (by omega) j
  have e1 : n - j + j = n := by omega
  rw [e1] at h1
  rw [h1]
  obtain ⟨d, hd⟩ : ∃ d, n - j = d + 1 := ⟨n - j - 1, by omega⟩
  rw [hd]
  simp only [dpv]
  rw [if_pos (by omega)]
  refine hg _ _ j (fun i h2 h3 => ?_)
  have h4 := dpv_stable n base g d i (by omega) (n - d)
  have e2 : d + (n - d) = n := by omega
  rw [e2] at h4
  exact h4.symm
/-- How many climbs there are from a step. -/
def V (n : Nat) (T : List Nat) (B : List Int) : Nat → Int := dpv n 1 (fun f j => if (j : Int) ∈ B then 0 else gs f n j T) n
theorem V_top (n : Nat) (T : List Nat) (B : List Int) : V n T B n = 1 := dpv_top ..
theorem V_rec (n : Nat) (T : List Nat) (B : List Int) (hT : ∀ t ∈ T, 1 ≤ t) (j : Nat) (hj : j < n) : V n T B j = if (j : Int) ∈ B then 0 else gs (V n T B) n j T := by
  refine dpv_rec n 1 _ (fun f f' j h => ?_) j hj
  show (if (j : Int) ∈ B then (0 : Int) else gs f n j T) = (if (j : Int) ∈ B then 0 else gs f' n j T)
  rw [gs_congr hT h]
theorem V_bd (n : Nat) (T : List Nat) (B : List Int) (hT : ∀ t ∈ T, 1 ≤ t) (hi : incN 0 T) : ∀ (d j : Nat), n - j ≤ d → j ≤ n → 0 ≤ V n T B j ∧ V n T B j ≤ p2 (n - j) := by
  intro d
  induction d with
  | zero =>
    intro j h1 h2
    obtain rfl : j = n := by omega
    rw [V_top, Nat.sub_self]
    simp [p2]
  | succ d ih =>
    intro j h1 h2
    by_cases hj : j = n
    · subst hj
      rw [V_top, Nat.sub_self]
      simp [p2]
    · rw [V_rec n T B hT j (by omega)]
      have := p2_pos (n - j)
      split
      · omega
      · exact gs_bd (fun i h3 h4 => ih i (by omega) h4) T 0 hi
/-- A row of n + 1 numbers that is filled from its end. -/
def arr (n : Nat) (f : Nat → Int) (m : Nat) : List Int := (List.range (n + 1)).map (fun j => if m ≤ j then f j else 0)
theorem arr_len (n : Nat) (f : Nat → Int) (m : Nat) : (arr n f m).length = n + 1 := by simp [arr]
theorem arr_get (n : Nat) (f : Nat → Int) (m j : Nat) (h : j ≤ n) : (arr n f m).getD j 0 = if m ≤ j then f j else 0 := by
  simp only [arr, List.getD_eq_getElem?_getD, List.getElem?_map, List.getElem?_range (show j < n + 1 by omega), Option.map_some, Option.getD_some]
theorem arr_ext {n : Nat} {f : Nat → Int} {m : Nat} {x : List Int} (hl : x.length = n + 1) (h : ∀ j, j ≤ n → x.getD j 0 = if m ≤ j then f j else 0) : x = arr n f m := by
  refine List.ext_getElem (by rw [hl, arr_len]) (fun j h1 h2 => ?_)
  have h3 := h j (by omega)
  rw [← arr_get n f m j (by omega), List.getD_eq_getElem?_getD, List.getD_eq_getElem?_getD, List.getElem?_eq_getElem h1, List.getElem?_eq_getElem h2] at h3
  exact h3
theorem getD_set (x : List Int) (i : Nat) (v : Int) (j : Nat) (hi : i < x.length) : (x.set i v).getD j 0 = if i = j then v else x.getD j 0 := by
  rw [List.getD_eq_getElem?_getD, List.getD_eq_getElem?_getD, List.getElem?_set]
  by_cases h : i = j
  · rw [if_pos h, if_pos h, if_pos hi]
    rfl
  · rw [if_neg h, if_neg h]
theorem arr_set (n : Nat) (f : Nat → Int) (m : Nat) (h : m ≤ n) : (arr n f (m + 1)).set m (f m) = arr n f m := by
  refine arr_ext (by rw [List.length_set, arr_len]) (fun j hj => ?_)
  rw [getD_set _ _ _ _ (by rw [arr_len]; omega), arr_get n f _ j hj]
  by_cases h1 : m = j
  · subst h1
    rw [if_pos rfl, if_pos (Nat.le_refl _)]
  · rw [if_neg h1]
    by_cases h2 : m ≤ j
    · rw [if_pos h2, if_pos (by omega)]
    · rw [if_neg h2, if_neg (by omega)]
theorem arr_put (n : Nat) (f : Nat → Int) (m : Nat) (v : Int) (h : m ≤ n) (hv : f m = v) : (arr n f (m + 1)).set m v = arr n f m := hv ▸ arr_set n f m h
theorem arr_zero (n : Nat) (f : Nat → Int) (m : Nat) (h : m ≤ n) : arr n f (m + 1) = (arr n f (m + 1)).set m 0 := by
  symm
  refine arr_ext (by rw [List.length_set, arr_len]) (fun j hj => ?_)
  rw [getD_set _ _ _ _ (by rw [arr_len]; omega), arr_get n f _ j hj]
  by_cases h1 : m = j
  · subst h1
    rw [if_pos rfl, if_neg (by omega)]
  · rw [if_neg h1]
theorem arr_top (n : Nat) (f : Nat → Int) (v : Int) (h : f n = v) : (List.replicate (n + 1) (0 : Int)).set n v = arr n f n := by
  refine arr_ext (by rw [List.length_set, List.length_replicate]) (fun j hj => ?_)
  rw [getD_set _ _ _ _ (by rw [List.length_replicate]; omega)]
  by_cases h1 : n = j
  · subst h1
    rw [if_pos rfl, if_pos (Nat.le_refl _), h]
  · rw [if_neg h1, if_neg (by omega), List.getD_eq_getElem?_getD, List.getElem?_replicate]
    split <;> rfl
theorem arr_rd0 (n : Nat) (f : Nat → Int) (j : Nat) (h : j ≤ n) : rd (arr n f 0) (j : Int) = f j := by
  rw [rd_nat, arr_get n f 0 j h, if_pos (by omega)]

/-- One number is handed on along the strides. -/
def sc2 (n : Nat) (B : List Int) (i : Nat) (c : Int) : List Nat → List Int → List Int
  | [], x => x
  | s :: ss, x => sc2 n B i c ss (if i + s ≤ n ∧ ¬ ((i + s : Nat) : Int) ∈ B then x.set (i + s) (x.getD (i + s) 0 + c) else x)
def sc1 (n : Nat) (B : List Int) (T : List Nat) : Nat → List Int → List Int → List Int
  | _, [], x => x
  | i, c :: cs, x => sc1 n B T (i + 1) cs (sc2 n B i c T x)
def lev (n : Nat) (B : List Int) (T : List Nat) : Nat → List Int
  | 0 => (List.replicate (n + 1) 0).set 0 1
  | m + 1 => sc1 n B T 0 (lev n B T m) (List.replicate (n + 1) 0)
theorem sc2_len (n : Nat) (B : List Int) (i : Nat) (c : Int) : ∀ (ss : List Nat) (x : List Int), (sc2 n B i c ss x).length = x.length := by
  intro ss
  induction ss with
  | nil => intro x; rfl
  | cons s ss ih =>
    intro x
    simp only [sc2]
    rw [ih]
    split
    · rw [List.length_set]
    · rfl
theorem sc1_len (n : Nat) (B : List Int) (T : List Nat) : ∀ (cs : List Int) (i : Nat) (x : List Int), (sc1 n B T i cs x).length = x.length := by
  intro cs
  induction cs with
  | nil => intro i x; rfl
  | cons c cs ih =>
    intro i x
    simp only [sc1]
    rw [ih, sc2_len]
theorem lev_len (n : Nat) (B : List Int) (T : List Nat) : ∀ m, (lev n B T m).length = n + 1
  | 0 => by simp [lev]
  | m + 1 => by simp only [lev]; rw [sc1_len, List.length_replicate]
def Pos (x : List Int) : Prop := ∀ v ∈ x, 0 ≤ v
theorem pos_get {x : List Int} (h : Pos x) (j : Nat) : 0 ≤ x.getD j 0 := by
  rw [List.getD_eq_getElem?_getD]
  by_cases hj : j < x.length
  · rw [List.getElem?_eq_getElem hj]
    exact h _ (List.getElem_mem hj)
  · rw [List.getElem?_eq_none (by omega)]
    exact Int.le_refl _
theorem pos_set {x : List Int} (h : Pos x) (j : Nat) {v : Int} (hv : 0 ≤ v) : Pos (x.set j v) := by
  intro y hy
  rcases List.mem_or_eq_of_mem_set hy with h1 | h1
  · exact h y h1
  · omega
theorem pos_zero (n : Nat) : Pos (List.replicate n 0) := by
  intro v hv
  rw [(List.mem_replicate.mp hv).2]
  exact Int.le_refl _
theorem sc2_pos (n : Nat) (B : List Int) (i : Nat) (c : Int) (hc : 0 ≤ c) : ∀ (ss : List Nat) (x : List Int), Pos x → Pos (sc2 n B i c ss x) := by
  intro ss
  induction ss with
  | nil => intro x h; exact h
  | cons s ss ih =>
    intro x h
    simp only [sc2]
    refine ih _ ?_
    split
    · have := pos_get h (i + s)
      exact pos_set h _ (by omega)
    · exact h
theorem sc1_pos (n : Nat) (B : List Int) (T : List Nat) : ∀ (cs : List Int) (i : Nat) (x : List Int), Pos cs → Pos x → Pos (sc1 n B T i cs x) := by
  intro cs
  induction cs with
  | nil => intro i x _ h; exact h
  | cons c cs ih =>
    intro i x h1 h2
    simp only [sc1]
    exact ih _ _ (fun v hv => h1 v (List.mem_cons_of_mem _ hv)) (sc2_pos n B i c (h1 c (List.mem_cons_self ..)) T x h2)
theorem lev_pos (n : Nat) (B : List Int) (T : List Nat) : ∀ m, Pos (lev n B T m)
  | 0 => pos_set (pos_zero _) 0 (by omega)
  | m + 1 => sc1_pos n B T _ 0 _ (lev_pos n B T m) (pos_zero _)
/-- A row, weighed. -/
def pot (W : Nat → Int) : Nat → List Int → Int
  | _, [] => 0
  | j, x :: xs => x * W j + pot W (j + 1) xs
theorem pot_set (W : Nat → Int) : ∀ (x : List Int) (j i : Nat) (c : Int), i < x.length → pot W j (x.set i (x.getD i 0 + c)) = pot W j x + c * W (j + i) := by
  intro x
  induction x with
  | nil => intro j i c h; simp at h
  | cons y x ih =>
    intro j i c h
    cases i with
    | zero =>
      simp only [List.set_cons_zero, pot, List.getD_cons_zero, Nat.add_zero]
      rw [Int.add_mul]
      omega
    | succ i =>
      simp only [List.set_cons_succ, pot, List.getD_cons_succ]
      rw [ih (j + 1) i c (by simpa using h), show j + 1 + i = j + (i + 1) by omega]
      omega
theorem pot_zero (W : Nat → Int) : ∀ (n j : Nat), pot W j (List.replicate n 0) = 0 := by
  intro n
  induction n with
  | zero => intro j; rfl
  | succ n ih =>
    intro j
    rw [List.replicate_succ]
    simp only [pot]
    rw [ih]
    omega
def wk (B : List Int) (W : Nat → Int) (j : Nat) : Int := if (j : Int) ∈ B then 0 else W j
theorem pot_sc2 (n : Nat) (B : List Int) (W : Nat → Int) (i : Nat) (c : Int) : ∀ (ss : List Nat) (x : List Int), x.length = n + 1 → pot W 0 (sc2 n B i c ss x) = pot W 0 x + c * gs (wk B W) n i ss := by
  intro ss
  induction ss with
  | nil => intro x _; simp [sc2, gs]
  | cons s ss ih =>
    intro x hx
    simp only [sc2, gs]
    by_cases h1 : i + s ≤ n
    · by_cases h2 : ((i + s : Nat) : Int) ∈ B
      · rw [if_neg (fun h => h.2 h2), if_pos h1, ih x hx]
        simp only [wk]
        rw [if_pos h2, Int.zero_add]
      · rw [if_pos ⟨h1, h2⟩, if_pos h1, ih _ (by rw [List.length_set, hx]), pot_set W x 0 _ c (by omega), Int.mul_add, Nat.zero_add]
        simp only [wk]
        rw [if_neg h2]
        omega
    · rw [if_neg (fun h => h1 h.1), if_neg h1, ih x hx, Int.zero_add]
theorem pot_sc1 (n : Nat) (B : List Int) (T : List Nat) (W : Nat → Int) : ∀ (cs : List Int) (i : Nat) (x : List Int), x.length = n + 1 → pot W 0 (sc1 n B T i cs x) = pot W 0 x + pot (fun i => gs (wk B W) n i T) i cs := by
  intro cs
  induction cs with
  | nil => intro i x _; simp [sc1, pot]
  | cons c cs ih =>
    intro i x hx
    simp only [sc1, pot]
    rw [ih (i + 1) _ (by rw [sc2_len, hx]), pot_sc2 n B W i c T x hx]
    omega
/-- How many climbs of so many strides there are from a step. -/
def D (n : Nat) (B : List Int) (T : List Nat) : Nat → Nat → Int
  | 0 => fun j => if j = n then 1 else 0
  | m + 1 => fun i => gs (wk B (D n B T m)) n i T
theorem pot_one (W : Nat → Int) (n : Nat) : pot W 0 ((List.replicate (n + 1) 0).set 0 1) = W 0 := by
  have h := pot_set W (List.replicate (n + 1) 0) 0 0 1 (by simp)
  rw [pot_zero] at h
  have e : (List.replicate (n + 1) (0 : Int)).getD 0 0 + 1 = 1 := by simp [List.replicate_succ]
  rw [e] at h
  rw [h]
  simp
theorem pot_lev (n : Nat) (B : List Int) (T : List Nat) : ∀ (m k : Nat), pot (D n B T k) 0 (lev n B T m) = D n B T (k + m) 0 := by
  intro m
  induction m with
  | zero => intro k; exact pot_one _ n
  | succ m ih =>
    intro k
    simp only [lev]
    rw [pot_sc1 n B T _ _ 0 _ (by simp), pot_zero, Int.zero_add]
    show pot (D n B T (k + 1)) 0 (lev n B T m) = _
    rw [ih (k + 1), show k + 1 + m = k + (m + 1) by omega]
theorem pot_last (n : Nat) : ∀ (x : List Int) (j : Nat), x.length + j = n + 1 → x ≠ [] → pot (fun j => if j = n then 1 else 0) j x = x.getD (n - j) 0 := by
  intro x
  induction x with
  | nil => intro j _ h; exact absurd rfl h
  | cons y x ih =>
    intro j h _
    rw [List.length_cons] at h
    by_cases hx : x = []
    · subst hx
      rw [List.length_nil] at h
      have e : j = n := by omega
      subst e
      simp [pot]
    · have hl : x.length ≠ 0 := fun h => hx (List.length_eq_zero_iff.mp h)
      have e : pot (fun j => if j = n then 1 else 0) j (y :: x) = y * (if j = n then 1 else 0) + pot (fun j => if j = n then 1 else 0) (j + 1) x := rfl
      rw [e, ih (j + 1) (by omega) hx, if_neg (by omega), show n - j = (n - (j + 1)) + 1 by omega, List.getD_cons_succ]
      omega
theorem lev_last (n : Nat) (B : List Int) (T : List Nat) (m : Nat) : (lev n B T m).getD n 0 = D n B T m 0 := by
  have h := pot_lev n B T m 0
  rw [Nat.zero_add] at h
  rw [← h]
  show _ = pot (fun j => if j = n then 1 else 0) 0 _
  rw [pot_last n _ 0 (by rw [lev_len]) (fun h => by have := lev_len n B T m; rw [h] at this; simp at this), Nat.sub_zero]
theorem pot_mono {W W' : Nat → Int} {n : Nat} (h : ∀ j, j ≤ n → W j ≤ W' j) : ∀ (x : List Int) (j : Nat), Pos x → x.length + j = n + 1 → pot W j x ≤ pot W' j x := by
  intro x
  induction x with
  | nil => intro j _ _; exact Int.le_refl _
  | cons y x ih =>
    intro j h1 h2
    rw [List.length_cons] at h2
    have := ih (j + 1) (fun v hv => h1 v (List.mem_cons_of_mem _ hv)) (by omega)
    have h3 := Int.mul_le_mul_of_nonneg_left (h j (by omega)) (h1 y (List.mem_cons_self ..))
    simp only [pot]
    omega
theorem pot_nonneg {W : Nat → Int} (h : ∀ j, 0 ≤ W j) : ∀ (x : List Int) (j : Nat), Pos x → 0 ≤ pot W j x := by
  intro x
  induction x with
  | nil => intro j _; exact Int.le_refl _
  | cons y x ih =>
    intro j h1
    have := ih (j + 1) (fun v hv => h1 v (List.mem_cons_of_mem _ hv))
    have h3 := Int.mul_nonneg (h1 y (List.mem_cons_self ..)) (h j)
    simp only [pot]
    omega
theorem pot_get {W : Nat → Int} (h : ∀ j, 1 ≤ W j) : ∀ (x : List Int) (j i : Nat), Pos x → x.getD i 0 ≤ pot W j x := by
  have h0 : ∀ j, 0 ≤ W j := fun j => by have := h j; omega
  intro x
  induction x with
  | nil => intro j i _; exact Int.le_refl _
  | cons y x ih =>
    intro j i h1
    have h2 : Pos x := fun v hv => h1 v (List.mem_cons_of_mem _ hv)
    have hy := h1 y (List.mem_cons_self ..)
    have h3 := Int.mul_nonneg hy (h0 j)
    have h4 := pot_nonneg h0 x (j + 1) h2
    simp only [pot]
    cases i with
    | zero =>
      rw [List.getD_cons_zero]
      have h5 := Int.mul_le_mul_of_nonneg_left (h j) hy
      omega
    | succ i =>
      rw [List.getD_cons_succ]
      have := ih (j + 1) i h2
      omega
def P2 (n j : Nat) : Int := p2 (n - j)
theorem gs_P2 (n : Nat) (B : List Int) (T : List Nat) (hi : incN 0 T) (j : Nat) : 0 ≤ gs (wk B (P2 n)) n j T ∧ gs (wk B (P2 n)) n j T ≤ P2 n j := by
  refine gs_bd (fun i _ _ => ?_) T 0 hi
  have := p2_pos (n - i)
  unfold wk P2
  split <;> omega
theorem lev_bd (n : Nat) (B : List Int) (T : List Nat) (hi : incN 0 T) : ∀ m, pot (P2 n) 0 (lev n B T m) ≤ p2 n := by
  intro m
  induction m with
  | zero => rw [lev, pot_one]; exact Int.le_refl _
  | succ m ih =>
    rw [lev, pot_sc1 n B T _ _ 0 _ (by simp), pot_zero, Int.zero_add]
    refine Int.le_trans (pot_mono (n := n) (fun j hj => (gs_P2 n B T hi j).2) _ 0 (lev_pos n B T m) (by rw [lev_len])) ih

theorem by_l2 (n : Nat) (T : List Nat) (B : List Int) (hn : n ≤ 60) (hB : B.length ≤ 1048576) (hT : ∀ t ∈ T, 1 ≤ t ∧ t ≤ 9) (hTl : T.length ≤ 5) (out old : List Int) (cc : Int) (i : Nat) (hi : i ≤ n) (c : Int) (hc : 0 ≤ c) (r : List Int) :
    ∀ (ss : List Nat) (q : Nat) (x : List Int), T.drop q = ss → Pos x → x.length = n + 1 → pot (P2 n) 0 x + c * gs (wk B (P2 n)) n i ss ≤ 1152921504606846976 →
    Ev (fun k => impl_Stairs_byStrides.l1 k out (sc2 n B i c ss x) ((n + 1 : Nat) : Int) cc old (old.length : Int) (wrap64 ((i : Int) + 1)) (n : Int) (ci T) B) r →
    Ev (fun k => impl_Stairs_byStrides.l2 k out x (i : Int) c ((n + 1 : Nat) : Int) cc old (old.length : Int) (i : Int) (ci T) ((ci T).length : Int) (q : Int) (n : Int) (ci T) B) r := by
  intro ss
  induction ss with
  | nil =>
    intro q x hd _ _ _ h
    have := drop_nil' hd
    refine Ev.step (fun k => ?_) h
    simp only [impl_Stairs_byStrides.l2]
    rw [if_neg (by rw [ci_len]; omega)]
    rfl
  | cons s ss ih =>
    intro q x hd hp hx hb h
    obtain ⟨hq, hxs, hd'⟩ := drop_info (d := 0) hd
    have hs := hT s (hxs ▸ (by rw [List.getD_eq_getElem?_getD, List.getElem?_eq_getElem hq]; exact List.getElem_mem hq))
    have hq2 : (q : Int) < ((ci T).length : Int) := by rw [ci_len]; omega
    have hge : 0 ≤ gs (wk B (P2 n)) n i ss := gs_nonneg (fun j _ _ => by have := p2_pos (n - j); unfold wk P2; split <;> omega) ss (fun t ht => (hT t (List.mem_of_mem_drop (hd' ▸ ht : t ∈ T.drop (q + 1)))).1)
    have hge2 := Int.mul_nonneg hc hge
    simp only [sc2] at h
    simp only [gs] at hb
    have step0 : ∀ k, impl_Stairs_byStrides.l2 (k + 1) out x (i : Int) c ((n + 1 : Nat) : Int) cc old (old.length : Int) (i : Int) (ci T) ((ci T).length : Int) (q : Int) (n : Int) (ci T) B =
        if ((i + s : Nat) : Int) ≤ (n : Int) then ((impl_Stairs_isBroken.f k (n : Int) (ci T) B ((i + s : Nat) : Int)).bind fun t => if t = true then impl_Stairs_byStrides.l2 k out x (i : Int) c ((n + 1 : Nat) : Int) cc old (old.length : Int) (i : Int) (ci T) ((ci T).length : Int) ((q + 1 : Nat) : Int) (n : Int) (ci T) B
          else (if 0 ≤ ((i + s : Nat) : Int) then (if ((i + s : Nat) : Int) < (x.length : Int) then impl_Stairs_byStrides.l2 k out (x.set (((i + s : Nat) : Int)).toNat (wrap64 ((rd x ((i + s : Nat) : Int)) + c))) (i : Int) c ((n + 1 : Nat) : Int) cc old (old.length : Int) (i : Int) (ci T) ((ci T).length : Int) ((q + 1 : Nat) : Int) (n : Int) (ci T) B else none) else none))
          else impl_Stairs_byStrides.l2 k out x (i : Int) c ((n + 1 : Nat) : Int) cc old (old.length : Int) (i : Int) (ci T) ((ci T).length : Int) ((q + 1 : Nat) : Int) (n : Int) (ci T) B := by
      intro k
      simp only [impl_Stairs_byStrides.l2]
      rw [if_pos hq2, if_pos (by omega), if_pos hq2, rd_nat (ci T), ci_get, hxs, w_add i s (by omega) (by omega), wsucc q (by omega)]
    by_cases h1 : i + s ≤ n
    · rw [if_pos h1] at hb
      by_cases h2 : ((i + s : Nat) : Int) ∈ B
      · rw [if_neg (fun h => h.2 h2)] at h
        have e : wk B (P2 n) (i + s) = 0 := if_pos h2
        rw [e, Int.zero_add] at hb
        exact Ev.step (fun k => (step0 k).trans (if_pos (by omega))) (Ev.bind (broken_ev _ _ B hB _) (Ev.ite_true (decide_eq_true h2) (ih (q + 1) x hd' hp hx hb h)))
      · rw [if_pos ⟨h1, h2⟩] at h
        have e : wk B (P2 n) (i + s) = P2 n (i + s) := if_neg h2
        rw [e, Int.mul_add] at hb
        have hp1 := pos_get hp (i + s)
        have hps := pot_set (P2 n) x 0 (i + s) c (by omega)
        rw [Nat.zero_add] at hps
        have hp2 : Pos (x.set (i + s) (x.getD (i + s) 0 + c)) := pos_set hp _ (by omega)
        have hv := pot_get (W := P2 n) (fun j => p2_pos (n - j)) _ 0 (i + s) hp2
        rw [getD_set _ _ _ _ (by omega), if_pos rfl] at hv
        refine Ev.step (fun k => (step0 k).trans (if_pos (by omega))) (Ev.bind (broken_ev _ _ B hB _) (Ev.ite_false (decide_eq_false h2) (Ev.congr (fun k => ?_) (ih (q + 1) _ hd' hp2 (by rw [List.length_set, hx]) (by omega) h))))
        rw [if_pos (by omega), if_pos (by omega), rd_nat x, w_id (x := x.getD (i + s) 0 + c) (by omega) (by omega), Int.toNat_natCast]
    · rw [if_neg h1, Int.zero_add] at hb
      rw [if_neg (fun h => h1 h.1)] at h
      exact Ev.step (fun k => (step0 k).trans (if_neg (by omega))) (ih (q + 1) x hd' hp hx hb h)
theorem by_l1 (n : Nat) (T : List Nat) (B : List Int) (hn : n ≤ 60) (hB : B.length ≤ 1048576) (hT : ∀ t ∈ T, 1 ≤ t ∧ t ≤ 9) (hTl : T.length ≤ 5) (hi : incN 0 T) (out old : List Int) (hol : old.length = n + 1) (cc : Int) (r : List Int) :
    ∀ (cs : List Int) (i : Nat) (x : List Int), old.drop i = cs → Pos cs → Pos x → x.length = n + 1 → pot (P2 n) 0 x + pot (fun i => gs (wk B (P2 n)) n i T) i cs ≤ 1152921504606846976 →
    Ev (fun k => impl_Stairs_byStrides.l0 k out (sc1 n B T i cs x) ((n + 1 : Nat) : Int) (wrap64 (cc + 1)) (n : Int) (ci T) B) r →
    Ev (fun k => impl_Stairs_byStrides.l1 k out x ((n + 1 : Nat) : Int) cc old (old.length : Int) (i : Int) (n : Int) (ci T) B) r := by
  intro cs
  induction cs with
  | nil =>
    intro i x hd _ _ _ _ h
    have := drop_nil' hd
    refine Ev.step (fun k => ?_) h
    simp only [impl_Stairs_byStrides.l1]
    rw [if_neg (by omega)]
    rfl
  | cons c cs ih =>
    intro i x hd hpc hp hx hb h
    obtain ⟨hq, hxs, hd'⟩ := drop_info (d := 0) hd
    have hc := hpc c (List.mem_cons_self ..)
    have hpc' : Pos cs := fun v hv => hpc v (List.mem_cons_of_mem _ hv)
    have hrest := pot_nonneg (W := fun i => gs (wk B (P2 n)) n i T) (fun j => (gs_P2 n B T hi j).1) cs (i + 1) hpc'
    have hps := pot_sc2 n B (P2 n) i c T x hx
    simp only [pot] at hb
    have h2 := ih (i + 1) (sc2 n B i c T x) hd' hpc' (sc2_pos n B i c hc T x hp) (by rw [sc2_len, hx]) (by omega) h
    rw [← wsucc i (by omega)] at h2
    have h3 := by_l2 n T B hn hB hT hTl out old cc i (by omega) c hc r T 0 x rfl hp hx (by omega) h2
    refine Ev.step (fun k => ?_) h3
    simp only [impl_Stairs_byStrides.l1]
    rw [if_pos (by omega), if_pos (by omega), if_pos (by omega), rd_nat old, hxs]
    rfl
theorem by_l0 (n : Nat) (T : List Nat) (B : List Int) (hn : n ≤ 60) (hB : B.length ≤ 1048576) (hT : ∀ t ∈ T, 1 ≤ t ∧ t ≤ 9) (hTl : T.length ≤ 5) (hi : incN 0 T) :
    ∀ (d m : Nat), n + 1 - m = d → m ≤ n + 1 → Ev (fun k => impl_Stairs_byStrides.l0 k ((List.range m).map (fun m => D n B T m 0)) (lev n B T m) ((n + 1 : Nat) : Int) (m : Int) (n : Int) (ci T) B) ((List.range (n + 1)).map (fun m => D n B T m 0)) := by
  intro d
  induction d with
  | zero =>
    intro m h1 h2
    obtain rfl : m = n + 1 := by omega
    refine Ev.step (fun k => ?_) (Ev.now _)
    simp only [impl_Stairs_byStrides.l0]
    rw [if_neg (by omega)]
  | succ d ih =>
    intro m h1 h2
    have hl := lev_len n B T m
    have h3 := ih (m + 1) (by omega) (by omega)
    rw [← wsucc m (by omega)] at h3
    have hb := lev_bd n B T hi m
    have hb2 := pot_mono (W := fun i => gs (wk B (P2 n)) n i T) (W' := P2 n) (n := n) (fun j _ => (gs_P2 n B T hi j).2) (lev n B T m) 0 (lev_pos n B T m) (by rw [hl])
    have h60 := p2_60 hn
    have h4 := by_l1 n T B hn hB hT hTl hi ((List.range (m + 1)).map (fun m => D n B T m 0)) (lev n B T m) hl (m : Int) _ (lev n B T m) 0 (List.replicate (n + 1) 0) rfl (lev_pos n B T m) (pos_zero _) (by simp) (by rw [pot_zero]; omega) h3
    refine Ev.step (fun k => ?_) h4
    simp only [impl_Stairs_byStrides.l0]
    rw [if_pos (by omega), if_pos (by omega), hl, if_pos (by omega), if_pos (by simp; omega), wsucc n (by omega), if_pos (by omega), Int.toNat_natCast, if_pos (by omega), rd_nat, lev_last, List.range_succ, List.map_append]
    rfl
theorem byStrides_ev (n : Nat) (T : List Nat) (B : List Int) (hn : n ≤ 60) (hB : B.length ≤ 1048576) (hT : ∀ t ∈ T, 1 ≤ t ∧ t ≤ 9) (hTl : T.length ≤ 5) (hi : incN 0 T) : Ev (fun k => impl_Stairs_byStrides.f k (n : Int) (ci T) B) (arr n (fun m => D n B T m 0) 0) := by
  have h := by_l0 n T B hn hB hT hTl hi _ 0 rfl (by omega)
  have e : (List.range (n + 1)).map (fun m => D n B T m 0) = arr n (fun m => D n B T m 0) 0 := by simp [arr]
  rw [e] at h
  refine Ev.congr (fun k => ?_) h
  unfold impl_Stairs_byStrides.f
  rw [wsucc n (by omega), if_pos (by omega), Int.toNat_natCast, if_pos (by omega)]
  simp only [Option.bind_some]
  rw [List.length_replicate, if_pos (by omega)]
  rfl

theorem up_l1 (n : Nat) (T : List Nat) (B : List Int) (f : Nat → Int) (hn : n ≤ 60) (hB : B.length ≤ 1048576) (hT : ∀ t ∈ T, 1 ≤ t ∧ t ≤ 9) (hTl : T.length ≤ 5) (m : Nat) (hm : m < n) (hf : ∀ i, m < i → i ≤ n → 0 ≤ f i) (r : List Int) :
    ∀ (ss : List Nat) (i : Nat) (acc : Int), T.drop i = ss → 0 ≤ acc → acc + gs f n m ss ≤ 1152921504606846976 →
    Ev (fun k => impl_Stairs_up.l0 k ((arr n f (m + 1)).set m (if (m : Int) ∈ B then acc else acc + gs f n m ss)) (wrap64 ((m : Int) - 1)) (n : Int) (ci T) B) r →
    Ev (fun k => impl_Stairs_up.l1 k ((arr n f (m + 1)).set m acc) (m : Int) (ci T) ((ci T).length : Int) (i : Int) (n : Int) (ci T) B) r := by
  intro ss
  induction ss with
  | nil =>
    intro i acc hd h0 h1 h
    have := drop_nil' hd
    refine Ev.step (fun k => ?_) h
    simp only [impl_Stairs_up.l1]
    rw [if_neg (by rw [ci_len]; omega)]
    simp only [gs, Int.add_zero, ite_self]
  | cons s ss ih =>
    intro i acc hd h0 h1 h
    obtain ⟨hi, hx, hd'⟩ := drop_info (d := 0) hd
    have hs := hT s (hx ▸ (by rw [List.getD_eq_getElem?_getD, List.getElem?_eq_getElem hi]; exact List.getElem_mem hi))
    have hi2 : (i : Int) < ((ci T).length : Int) := by rw [ci_len]; omega
    simp only [gs] at h h1
    have step0 : ∀ k, impl_Stairs_up.l1 (k + 1) ((arr n f (m + 1)).set m acc) (m : Int) (ci T) ((ci T).length : Int) (i : Int) (n : Int) (ci T) B =
        if ((m + s : Nat) : Int) ≤ (n : Int) then ((impl_Stairs_isBroken.f k (n : Int) (ci T) B (m : Int)).bind fun t => (if t = true then (impl_Stairs_up.l1 k ((arr n f (m + 1)).set m acc) (m : Int) (ci T) ((ci T).length : Int) ((i + 1 : Nat) : Int) (n : Int) (ci T) B) else (if 0 ≤ (m : Int) then (if (m : Int) < (((arr n f (m + 1)).set m acc).length : Int) then (if 0 ≤ ((m + s : Nat) : Int) then (if ((m + s : Nat) : Int) < (((arr n f (m + 1)).set m acc).length : Int) then (impl_Stairs_up.l1 k (((arr n f (m + 1)).set m acc).set (m : Int).toNat (wrap64 ((rd ((arr n f (m + 1)).set m acc) (m : Int)) + (rd ((arr n f (m + 1)).set m acc) ((m + s : Nat) : Int))))) (m : Int) (ci T) ((ci T).length : Int) ((i + 1 : Nat) : Int) (n : Int) (ci T) B) else none) else none) else none) else none))) else (impl_Stairs_up.l1 k ((arr n f (m + 1)).set m acc) (m : Int) (ci T) ((ci T).length : Int) ((i + 1 : Nat) : Int) (n : Int) (ci T) B) := by
      intro k
      simp only [impl_Stairs_up.l1]
      rw [if_pos hi2, if_pos (by omega), if_pos hi2, rd_nat, ci_get, hx, w_add m s (by omega) (by omega), wsucc i (by omega)]
    by_cases hs2 : m + s ≤ n
    · rw [if_pos hs2] at h h1
      have hfs := hf (m + s) (by omega) hs2
      by_cases hb : (m : Int) ∈ B
      · rw [if_pos hb] at h
        refine Ev.step (fun k => (step0 k).trans (if_pos (by omega))) (Ev.bind (broken_ev _ _ B hB _) (Ev.ite_true (decide_eq_true hb) ?_))
        refine ih (i + 1) acc hd' h0 (by omega) ?_
        rw [if_pos hb]
        exact h
      · rw [if_neg hb] at h
        refine Ev.step (fun k => (step0 k).trans (if_pos (by omega))) (Ev.bind (broken_ev _ _ B hB _) (Ev.ite_false (decide_eq_false hb) ?_))
        have hlen : ((arr n f (m + 1)).set m acc).length = n + 1 := by rw [List.length_set, arr_len]
        have g1 : rd ((arr n f (m + 1)).set m acc) (m : Int) = acc := by
          rw [rd_nat, getD_set _ _ _ _ (by rw [arr_len]; omega), if_pos rfl]
        have g2 : rd ((arr n f (m + 1)).set m acc) ((m + s : Nat) : Int) = f (m + s) := by
          rw [rd_nat, getD_set _ _ _ _ (by rw [arr_len]; omega), if_neg (by omega), arr_get _ _ _ _ hs2, if_pos (by omega)]
        have h2 := ih (i + 1) (acc + f (m + s)) hd' (by omega) (by omega) (by rw [if_neg hb, Int.add_assoc]; exact h)
        refine Ev.congr (fun k => ?_) h2
        rw [hlen, if_pos (by omega), if_pos (by omega), if_pos (by omega), if_pos (by omega), g1, g2, Int.toNat_natCast, List.set_set]
        have hgn : acc + f (m + s) ≤ 4611686018427387904 := by
          have := gs_nonneg hf ss (fun t ht => (hT t (List.mem_of_mem_drop (hd' ▸ ht : t ∈ T.drop (i + 1)))).1)
          omega
        rw [w_id (by omega) hgn]
    · rw [if_neg hs2, Int.zero_add] at h h1
      exact Ev.step (fun k => (step0 k).trans (if_neg (by omega))) (ih (i + 1) acc hd' h0 h1 h)
theorem up_l0 (n : Nat) (T : List Nat) (B : List Int) (hn : n ≤ 60) (hB : B.length ≤ 1048576) (hT : ∀ t ∈ T, 1 ≤ t ∧ t ≤ 9) (hTl : T.length ≤ 5) (hi : incN 0 T) : ∀ (m : Nat), m ≤ n →
    Ev (fun k => impl_Stairs_up.l0 k (arr n (V n T B) m) (wrap64 ((m : Int) - 1)) (n : Int) (ci T) B) (arr n (V n T B) 0) := by
  have hT1 : ∀ t ∈ T, 1 ≤ t := fun t ht => (hT t ht).1
  intro m
  induction m with
  | zero =>
    intro _
    refine Ev.step (fun k => ?_) (Ev.now _)
    simp only [impl_Stairs_up.l0]
    rw [w_id (by omega) (by omega), if_neg (by omega)]
  | succ m ih =>
    intro hm
    have e : wrap64 (((m + 1 : Nat) : Int) - 1) = (m : Int) := by
      rw [w_pred (m + 1) (by omega) (by omega), Nat.add_sub_cancel]
    rw [e]
    clear e
    have hb : ∀ i, m < i → i ≤ n → 0 ≤ V n T B i ∧ V n T B i ≤ p2 (n - i) := fun i _ h => V_bd n T B hT1 hi _ i (Nat.le_refl _) h
    have h1 := up_l1 n T B (V n T B) hn hB hT hTl m (by omega) (fun i h1 h2 => (hb i h1 h2).1) (arr n (V n T B) 0) T 0 0 rfl (by omega) (by have := (gs_bd hb T 0 hi).2; have := p2_60 (d := n - m - 0) (by omega); omega)
      (by rw [Int.zero_add, arr_put n _ m _ (by omega) (V_rec n T B hT1 m (by omega))]; exact ih (by omega))
    rw [← arr_zero n _ m (by omega)] at h1
    refine Ev.step (fun k => ?_) h1
    simp only [impl_Stairs_up.l0]
    rw [if_pos (by omega)]
    rfl
theorem up_ev (n : Nat) (T : List Nat) (B : List Int) (hn : n ≤ 60) (hB : B.length ≤ 1048576) (hT : ∀ t ∈ T, 1 ≤ t ∧ t ≤ 9) (hTl : T.length ≤ 5) (hi : incN 0 T) : Ev (fun k => impl_Stairs_up.f k (n : Int) (ci T) B) (arr n (V n T B) 0) := by
  refine Ev.congr (fun k => ?_) (up_l0 n T B hn hB hT hTl hi n (Nat.le_refl _))
  unfold impl_Stairs_up.f
  rw [wsucc n (by omega), if_pos (by omega), Int.toNat_natCast, if_pos (by omega)]
  simp only [Option.bind_some]
  rw [if_pos (by omega), List.length_replicate, if_pos (by omega), Int.toNat_natCast, arr_top n _ 1 (V_top n T B)]
/-- The count that the specification keeps: no larger than this. -/
def cp (x : Int) : Int := if x < 1000000000000001 then x else 1000000000000001
theorem cp_bd {x : Int} (h : 0 ≤ x) : 0 ≤ cp x ∧ cp x ≤ 1000000000000001 := by
  unfold cp
  split <;> omega
theorem cp_add {a b : Int} (ha : 0 ≤ a) (hb : 0 ≤ b) : (if cp a + cp b < 1000000000000001 then cp a + cp b else 1000000000000001) = cp (a + b) := by
  unfold cp
  (repeat' split) <;> omega
theorem cp_id {a : Int} (h : a ≤ 1000000000000000) : cp a = a := by
  unfold cp
  rw [if_pos (by omega)]
theorem cp_le {a : Int} : (decide (cp a ≤ 1000000000000000)) = decide (a ≤ 1000000000000000) := by
  unfold cp
  split
  · rfl
  · rw [decide_eq_false (by omega), decide_eq_false (by omega)]
theorem leastv (a b : Int) : spec_l1Least.f a b = some (if a < b then a else b) := by
  unfold spec_l1Least.f
  split <;> rfl
theorem ways_l1 (n : Nat) (T : List Nat) (B : List Int) (f : Nat → Int) (hn : n ≤ 60) (hT : ∀ t ∈ T, 1 ≤ t ∧ t ≤ 9) (hTl : T.length ≤ 5) (m : Nat) (hm : m < n) (hf : ∀ i, m < i → i ≤ n → 0 ≤ f i) (r : List Int) :
    ∀ (ss : List Nat) (i : Nat) (acc : Int), T.drop i = ss → 0 ≤ acc →
    Ev (fun k => spec_clWays.l0 k ((arr n (fun j => cp (f j)) (m + 1)).set m (cp (acc + gs f n m ss))) (wrap64 ((m : Int) - 1)) (n : Int) (ci T) B) r →
    Ev (fun k => spec_clWays.l1 k ((arr n (fun j => cp (f j)) (m + 1)).set m (cp acc)) (m : Int) (ci T) ((ci T).length : Int) (i : Int) (n : Int) (ci T) B) r := by
  intro ss
  induction ss with
  | nil =>
    intro i acc hd h0 h
    have := drop_nil' hd
    refine Ev.step (fun k => ?_) h
    simp only [spec_clWays.l1]
    rw [if_neg (by rw [ci_len]; omega)]
    simp only [gs, Int.add_zero]
  | cons s ss ih =>
    intro i acc hd h0 h
    obtain ⟨hi, hx, hd'⟩ := drop_info (d := 0) hd
    have hs := hT s (hx ▸ (by rw [List.getD_eq_getElem?_getD, List.getElem?_eq_getElem hi]; exact List.getElem_mem hi))
    have hi2 : (i : Int) < ((ci T).length : Int) := by rw [ci_len]; omega
    simp only [gs] at h
    have hlen : ((arr n (fun j => cp (f j)) (m + 1)).set m (cp acc)).length = n + 1 := by rw [List.length_set, arr_len]
    by_cases hs2 : m + s ≤ n
    · rw [if_pos hs2] at h
      have hfs := hf (m + s) (by omega) hs2
      have b1 := cp_bd h0
      have b2 := cp_bd hfs
      have g1 : rd ((arr n (fun j => cp (f j)) (m + 1)).set m (cp acc)) (m : Int) = cp acc := by
        rw [rd_nat, getD_set _ _ _ _ (by rw [arr_len]; omega), if_pos rfl]
      have g2 : rd ((arr n (fun j => cp (f j)) (m + 1)).set m (cp acc)) ((m + s : Nat) : Int) = cp (f (m + s)) := by
        rw [rd_nat, getD_set _ _ _ _ (by rw [arr_len]; omega), if_neg (by omega), arr_get _ _ _ _ hs2, if_pos (by omega)]
      refine Ev.step (fun k => ?_) (ih (i + 1) (acc + f (m + s)) hd' (by omega) (by rw [Int.add_assoc]; exact h))
      simp only [spec_clWays.l1]
      rw [if_pos hi2, if_pos (by omega), if_pos hi2, rd_nat (ci T), ci_get, hx, w_add m s (by omega) (by omega), wsucc i (by omega), if_pos (by omega), if_pos (by omega), hlen, if_pos (by omega), if_pos (by omega), if_pos (by omega), g1, g2, w_id (by omega) (by omega), leastv, cp_add h0 hfs]
      simp only [Option.bind_some, Int.toNat_natCast, List.set_set]
    · rw [if_neg hs2, Int.zero_add] at h
      refine Ev.step (fun k => ?_) (ih (i + 1) acc hd' h0 h)
      simp only [spec_clWays.l1]
      rw [if_pos hi2, if_pos (by omega), if_pos hi2, rd_nat (ci T), ci_get, hx, w_add m s (by omega) (by omega), wsucc i (by omega), if_neg (by omega)]
theorem ways_l0 (n : Nat) (T : List Nat) (B : List Int) (hn : n ≤ 60) (hB : B.length ≤ 1048576) (hT : ∀ t ∈ T, 1 ≤ t ∧ t ≤ 9) (hTl : T.length ≤ 5) (hi : incN 0 T) : ∀ (m : Nat), m ≤ n →
    Ev (fun k => spec_clWays.l0 k (arr n (fun j => cp (V n T B j)) m) (wrap64 ((m : Int) - 1)) (n : Int) (ci T) B) (arr n (fun j => cp (V n T B j)) 0) := by
  have hT1 : ∀ t ∈ T, 1 ≤ t := fun t ht => (hT t ht).1
  intro m
  induction m with
  | zero =>
    intro _
    refine Ev.step (fun k => ?_) (Ev.now _)
    simp only [spec_clWays.l0]
    rw [w_id (by omega) (by omega), if_neg (by omega)]
  | succ m ih =>
    intro hm
    have e : wrap64 (((m + 1 : Nat) : Int) - 1) = (m : Int) := by
      rw [w_pred (m + 1) (by omega) (by omega), Nat.add_sub_cancel]
    rw [e]
    clear e
    have hb : ∀ i, m < i → i ≤ n → 0 ≤ V n T B i ∧ V n T B i ≤ p2 (n - i) := fun i _ h => V_bd n T B hT1 hi _ i (Nat.le_refl _) h
    have hv := V_rec n T B hT1 m (by omega)
    have st := stands_ev (n : Int) (ci T) B hB (m : Int)
    rw [decide_eq_true (by omega : 0 ≤ (m : Int) ∧ (m : Int) ≤ (n : Int)), Bool.true_and] at st
    have hb0 : cp 0 = 0 := by decide
    by_cases hbr : (m : Int) ∈ B
    · rw [if_pos hbr] at hv
      rw [decide_eq_true hbr] at st
      have h2 := ih (by omega)
      rw [← arr_put n (fun j => cp (V n T B j)) m 0 (by omega) (by rw [hv]; exact hb0), ← arr_zero n _ m (by omega)] at h2
      refine Ev.step (fun k => ?_) (Ev.bind (f := fun k t => if t = true then (spec_clWays.l1 k (arr n (fun j => cp (V n T B j)) (m + 1)) (m : Int) (ci T) ((ci T).length : Int) 0 (n : Int) (ci T) B) else (spec_clWays.l0 k (arr n (fun j => cp (V n T B j)) (m + 1)) (wrap64 ((m : Int) - 1)) (n : Int) (ci T) B)) st (Ev.ite_false rfl h2))
      simp only [spec_clWays.l0]
      rw [if_pos (by omega)]
    · rw [if_neg hbr] at hv
      rw [decide_eq_false hbr] at st
      have h1 := ways_l1 n T B (V n T B) hn hT hTl m (by omega) (fun i h1 h2 => (hb i h1 h2).1) (arr n (fun j => cp (V n T B j)) 0) T 0 0 rfl (by omega)
        (by rw [Int.zero_add, arr_put n _ m _ (by omega) (by rw [hv])]; exact ih (by omega))
      rw [hb0, ← arr_zero n _ m (by omega)] at h1
      refine Ev.step (fun k => ?_) (Ev.bind (f := fun k t => if t = true then (spec_clWays.l1 k (arr n (fun j => cp (V n T B j)) (m + 1)) (m : Int) (ci T) ((ci T).length : Int) 0 (n : Int) (ci T) B) else (spec_clWays.l0 k (arr n (fun j => cp (V n T B j)) (m + 1)) (wrap64 ((m : Int) - 1)) (n : Int) (ci T) B)) st (Ev.ite_true rfl h1))
      simp only [spec_clWays.l0]
      rw [if_pos (by omega)]
theorem ways_ev (n : Nat) (T : List Nat) (B : List Int) (hn : n ≤ 60) (hB : B.length ≤ 1048576) (hT : ∀ t ∈ T, 1 ≤ t ∧ t ≤ 9) (hTl : T.length ≤ 5) (hi : incN 0 T) : Ev (fun k => spec_clWays.f k (n : Int) (ci T) B) (arr n (fun j => cp (V n T B j)) 0) := by
  refine Ev.congr (fun k => ?_) (ways_l0 n T B hn hB hT hTl hi n (Nat.le_refl _))
  unfold spec_clWays.f
  rw [wsucc n (by omega), if_pos (by omega), Int.toNat_natCast, if_pos (by omega)]
  simp only [Option.bind_some]
  rw [if_pos (by omega), List.length_replicate, if_pos (by omega), Int.toNat_natCast, arr_top n (fun j => cp (V n T B j)) 1 (by rw [V_top]; decide)]

theorem clCounted_yes (n : Nat) (T : List Nat) (B : List Int) (hg : goodS (n : Int) (ci T) B = true) (hn : n ≤ 60) (hB : B.length ≤ 1048576) (hT : ∀ t ∈ T, 1 ≤ t ∧ t ≤ 9) (hTl : T.length ≤ 5) (hi : incN 0 T) :
    Ev (fun k => spec_clCounted.f k (n : Int) (ci T) B) (decide (V n T B 0 ≤ 1000000000000000)) ∧ Ev (fun k => impl_counted.f k (n : Int) (ci T) B) (arr n (V n T B) 0, decide (V n T B 0 ≤ 1000000000000000)) := by
  have z : ∀ f : Nat → Int, rd (arr n f 0) 0 = f 0 := fun f => arr_rd0 n f 0 (by omega)
  refine ⟨Ev.bind (clGood_ev _ _ _ (by rw [ci_len]; omega) hB) (Ev.ite_true hg (Ev.bind (ways_ev n T B hn hB hT hTl hi) (Ev.congr (fun k => ?_) (Ev.now _)))),
    Ev.bind (areStairs_ev _ _ _ (by rw [ci_len]; omega) hB) (Ev.ite_true hg (Ev.bind (up_ev n T B hn hB hT hTl hi) (Ev.congr (fun k => ?_) (Ev.now _))))⟩
  · rw [arr_len, if_pos (by omega), z, cp_le]
  · rw [arr_len, if_pos (by omega), z]
theorem clCounted_no (s : Int) (S B : List Int) (hg : goodS s S B = false) (hS : S.length ≤ 1048576) (hB : B.length ≤ 1048576) :
    Ev (fun k => spec_clCounted.f k s S B) false ∧ Ev (fun k => impl_counted.f k s S B) ([], false) :=
  ⟨Ev.bind (clGood_ev _ _ _ hS hB) (Ev.ite_false hg (Ev.now _)), Ev.bind (areStairs_ev _ _ _ hS hB) (Ev.ite_false hg (Ev.now _))⟩

theorem gs_mono {f f' : Nat → Int} {n j : Nat} : ∀ {T : List Nat}, (∀ t ∈ T, 1 ≤ t) → (∀ i, j < i → i ≤ n → f i ≤ f' i) → gs f n j T ≤ gs f' n j T := by
  intro T
  induction T with
  | nil => intro _ _; exact Int.le_refl _
  | cons s T ih =>
    intro h1 h2
    have h3 := ih (fun t ht => h1 t (List.mem_cons_of_mem _ ht)) h2
    have h4 := h1 s (List.mem_cons_self ..)
    simp only [gs]
    by_cases hs : j + s ≤ n
    · have := h2 (j + s) (by omega) hs
      rw [if_pos hs, if_pos hs]
      omega
    · rw [if_neg hs, if_neg hs]
      omega
theorem D_nonneg' (n : Nat) (B : List Int) (T : List Nat) (hT : ∀ t ∈ T, 1 ≤ t) : ∀ m j, 0 ≤ D n B T m j := by
  intro m
  induction m with
  | zero =>
    intro j
    show 0 ≤ (if j = n then (1 : Int) else 0)
    split <;> omega
  | succ m ih =>
    exact fun j => gs_nonneg (fun i _ _ => by
      have := ih i
      unfold wk
      split <;> omega) T hT
theorem gs_far (f : Nat → Int) (n j : Nat) (h : n ≤ j) : ∀ {T : List Nat}, (∀ t ∈ T, 1 ≤ t) → gs f n j T = 0 := by
  intro T
  induction T with
  | nil => intro _; rfl
  | cons s T ih =>
    intro h1
    have h4 := h1 s (List.mem_cons_self ..)
    simp only [gs]
    rw [if_neg (by omega), ih (fun t ht => h1 t (List.mem_cons_of_mem _ ht))]
    rfl
theorem D_V (n : Nat) (B : List Int) (T : List Nat) (hT : ∀ t ∈ T, 1 ≤ t) (hi : incN 0 T) : ∀ m j, j ≤ n → wk B (D n B T m) j ≤ V n T B j := by
  have hv : ∀ j, j ≤ n → 0 ≤ V n T B j := fun j h => (V_bd n T B hT hi _ j (Nat.le_refl _) h).1
  intro m
  induction m with
  | zero =>
    intro j hj
    have := hv j hj
    unfold wk
    split
    · exact this
    · show (if j = n then (1 : Int) else 0) ≤ _
      split
      · rename_i h
        subst h
        rw [V_top]
        exact Int.le_refl _
      · exact this
  | succ m ih =>
    intro j hj
    have := hv j hj
    by_cases hb : (j : Int) ∈ B
    · have e : wk B (D n B T (m + 1)) j = 0 := if_pos hb
      rw [e]
      exact this
    · have e : wk B (D n B T (m + 1)) j = gs (wk B (D n B T m)) n j T := if_neg hb
      rw [e]
      by_cases hjn : j = n
      · subst hjn
        rw [gs_far _ _ _ (Nat.le_refl _) hT]
        exact this
      · rw [V_rec n T B hT j (by omega), if_neg hb]
        exact gs_mono hT (fun i _ h => ih i h)
theorem sc2_zero (n : Nat) (B : List Int) (i : Nat) : ∀ (ss : List Nat) (x : List Int), x.length = n + 1 → sc2 n B i 0 ss x = x := by
  intro ss
  induction ss with
  | nil => intro x _; rfl
  | cons s ss ih =>
    intro x hx
    simp only [sc2]
    have e : (if i + s ≤ n ∧ ¬ ((i + s : Nat) : Int) ∈ B then x.set (i + s) (x.getD (i + s) 0 + 0) else x) = x := by
      split
      · rename_i h
        rw [Int.add_zero, List.getD_eq_getElem?_getD, List.getElem?_eq_getElem (by omega), Option.getD_some, List.set_getElem_self]
      · rfl
    rw [e]
    exact ih x hx
theorem map_get (x : List Int) (j : Nat) : (x.map cp).getD j 0 = cp (x.getD j 0) := by
  rw [List.getD_eq_getElem?_getD, List.getD_eq_getElem?_getD, List.getElem?_map]
  cases x[j]? <;> rfl
theorem many_l2 (n : Nat) (T : List Nat) (B : List Int) (hn : n ≤ 60) (hB : B.length ≤ 1048576) (hT : ∀ t ∈ T, 1 ≤ t ∧ t ≤ 9) (hTl : T.length ≤ 5) (N : Int) (old : List Int) (i : Nat) (hi : i ≤ n) (c : Int) (hc : 0 ≤ c) (r : Int) :
    ∀ (ss : List Nat) (q : Nat) (x : List Int), T.drop q = ss → Pos x → x.length = n + 1 →
    Ev (fun k => spec_clMany.l1 k N ((sc2 n B i c ss x).map cp) old (old.length : Int) (wrap64 ((i : Int) + 1)) (n : Int) (ci T) B) r →
    Ev (fun k => spec_clMany.l2 k N (x.map cp) (i : Int) (cp c) old (old.length : Int) (i : Int) (ci T) ((ci T).length : Int) (q : Int) (n : Int) (ci T) B) r := by
  intro ss
  induction ss with
  | nil =>
    intro q x hd _ _ h
    have := drop_nil' hd
    refine Ev.step (fun k => ?_) h
    simp only [spec_clMany.l2]
    rw [if_neg (by rw [ci_len]; omega)]
    rfl
  | cons s ss ih =>
    intro q x hd hp hx h
    obtain ⟨hq, hxs, hd'⟩ := drop_info (d := 0) hd
    have hs := hT s (hxs ▸ (by rw [List.getD_eq_getElem?_getD, List.getElem?_eq_getElem hq]; exact List.getElem_mem hq))
    have hq2 : (q : Int) < ((ci T).length : Int) := by rw [ci_len]; omega
    have hcb := cp_bd hc
    by_cases h0 : c = 0
    · have e0 : cp c = 0 := by rw [h0]; decide
      have h2 : sc2 n B i c (s :: ss) x = sc2 n B i c ss x := by rw [h0, sc2_zero n B i _ x hx, sc2_zero n B i _ x hx]
      rw [h2] at h
      refine Ev.step (fun k => ?_) (ih (q + 1) x hd' hp hx h)
      simp only [spec_clMany.l2]
      rw [if_pos hq2, if_pos (by omega), if_pos hq2, if_neg (by omega), wsucc q (by omega)]
    · have hc1 : cp c > 0 := by
        unfold cp
        split <;> omega
      simp only [sc2] at h
      have st := stands_ev (n : Int) (ci T) B hB ((i + s : Nat) : Int)
      have step0 : ∀ k, spec_clMany.l2 (k + 1) N (x.map cp) (i : Int) (cp c) old (old.length : Int) (i : Int) (ci T) ((ci T).length : Int) (q : Int) (n : Int) (ci T) B =
          (spec_clStands.f k (n : Int) (ci T) B ((i + s : Nat) : Int)).bind fun t => if t = true then (if 0 ≤ ((i + s : Nat) : Int) then (if ((i + s : Nat) : Int) < ((x.map cp).length : Int) then ((spec_l1Least.f (wrap64 ((rd (x.map cp) ((i + s : Nat) : Int)) + cp c)) 1000000000000001).bind fun t => spec_clMany.l2 k N ((x.map cp).set (((i + s : Nat) : Int)).toNat t) (i : Int) (cp c) old (old.length : Int) (i : Int) (ci T) ((ci T).length : Int) ((q + 1 : Nat) : Int) (n : Int) (ci T) B) else none) else none)
            else spec_clMany.l2 k N (x.map cp) (i : Int) (cp c) old (old.length : Int) (i : Int) (ci T) ((ci T).length : Int) ((q + 1 : Nat) : Int) (n : Int) (ci T) B := by
        intro k
        simp only [spec_clMany.l2]
        rw [if_pos hq2, if_pos (by omega), if_pos hq2, if_pos hc1, rd_nat (ci T), ci_get, hxs, w_add i s (by omega) (by omega), wsucc q (by omega)]
      by_cases hcond : i + s ≤ n ∧ ¬ ((i + s : Nat) : Int) ∈ B
      · rw [if_pos hcond] at h
        rw [decide_eq_true (by omega : 0 ≤ ((i + s : Nat) : Int) ∧ ((i + s : Nat) : Int) ≤ (n : Int)), decide_eq_false hcond.2] at st
        have hp1 := pos_get hp (i + s)
        have b1 := cp_bd hp1
        have h3 := ih (q + 1) _ hd' (pos_set hp (i + s) (v := x.getD (i + s) 0 + c) (by omega)) (by rw [List.length_set, hx]) h
        refine Ev.step step0 (Ev.bind st (Ev.ite_true rfl (Ev.congr (fun k => ?_) h3)))
        rw [List.length_map, if_pos (by omega), if_pos (by omega), rd_nat (x.map cp), map_get, w_id (by omega) (by omega), leastv, cp_add hp1 hc, List.map_set, Int.toNat_natCast]
        rfl
      · rw [if_neg hcond] at h
        have hst : (decide (0 ≤ ((i + s : Nat) : Int) ∧ ((i + s : Nat) : Int) ≤ (n : Int)) && !decide (((i + s : Nat) : Int) ∈ B)) = false := by
          by_cases h1 : i + s ≤ n
          · have h2 : ((i + s : Nat) : Int) ∈ B := Classical.byContradiction (fun h => hcond ⟨h1, h⟩)
            rw [decide_eq_true h2]
            simp
          · rw [decide_eq_false (by omega : ¬ (0 ≤ ((i + s : Nat) : Int) ∧ ((i + s : Nat) : Int) ≤ (n : Int))), Bool.false_and]
        rw [hst] at st
        exact Ev.step step0 (Ev.bind st (Ev.ite_false rfl (ih (q + 1) x hd' hp hx h)))
theorem many_l1 (n : Nat) (T : List Nat) (B : List Int) (hn : n ≤ 60) (hB : B.length ≤ 1048576) (hT : ∀ t ∈ T, 1 ≤ t ∧ t ≤ 9) (hTl : T.length ≤ 5) (N : Int) (old : List Int) (hol : old.length = n + 1) (r : Int) :
    ∀ (cs : List Int) (i : Nat) (x : List Int), old.drop i = cs → Pos cs → Pos x → x.length = n + 1 →
    Ev (fun k => spec_clMany.l0 k (wrap64 (N - 1)) ((sc1 n B T i cs x).map cp) (n : Int) (ci T) B) r →
    Ev (fun k => spec_clMany.l1 k N (x.map cp) (old.map cp) ((old.map cp).length : Int) (i : Int) (n : Int) (ci T) B) r := by
  intro cs
  induction cs with
  | nil =>
    intro i x hd _ _ _ h
    have := drop_nil' hd
    refine Ev.step (fun k => ?_) h
    simp only [spec_clMany.l1]
    rw [if_neg (by rw [List.length_map]; omega)]
    rfl
  | cons c cs ih =>
    intro i x hd hpc hp hx h
    obtain ⟨hq, hxs, hd'⟩ := drop_info (d := 0) hd
    have hc := hpc c (List.mem_cons_self ..)
    have hpc' : Pos cs := fun v hv => hpc v (List.mem_cons_of_mem _ hv)
    have hlm : (old.map cp).length = old.length := List.length_map ..
    have h2 := ih (i + 1) (sc2 n B i c T x) hd' hpc' (sc2_pos n B i c hc T x hp) (by rw [sc2_len, hx]) h
    rw [← wsucc i (by omega)] at h2
    have h3 := many_l2 n T B hn hB hT hTl N (old.map cp) i (by omega) c hc r T 0 x rfl hp hx h2
    refine Ev.step (fun k => ?_) h3
    simp only [spec_clMany.l1]
    rw [if_pos (by omega), if_pos (by omega), if_pos (by omega), rd_nat (old.map cp), map_get, hxs]
    rfl
theorem rep_cp (n : Nat) : (List.replicate n (0 : Int)).map cp = List.replicate n 0 := by
  rw [List.map_replicate]
  rfl
theorem many_l0 (n : Nat) (T : List Nat) (B : List Int) (hn : n ≤ 60) (hB : B.length ≤ 1048576) (hT : ∀ t ∈ T, 1 ≤ t ∧ t ≤ 9) (hTl : T.length ≤ 5) : ∀ (N m : Nat), N ≤ 60 →
    Ev (fun k => spec_clMany.l0 k (N : Int) ((lev n B T m).map cp) (n : Int) (ci T) B) (cp (D n B T (m + N) 0)) := by
  intro N
  induction N with
  | zero =>
    intro m _
    refine Ev.step (fun k => ?_) (Ev.now _)
    simp only [spec_clMany.l0]
    rw [if_neg (by omega), if_pos (by omega), List.length_map, lev_len, if_pos (by omega), rd_nat, map_get, lev_last]
    rfl
  | succ N ih =>
    intro m hN
    have hl := lev_len n B T m
    have h3 := ih (m + 1) (by omega)
    have e : m + 1 + N = m + (N + 1) := by omega
    rw [e] at h3
    have ew : wrap64 (((N + 1 : Nat) : Int) - 1) = (N : Int) := by
      rw [w_pred (N + 1) (by omega) (by omega), Nat.add_sub_cancel]
    rw [← ew] at h3
    clear ew e
    have h4 := many_l1 n T B hn hB hT hTl ((N + 1 : Nat) : Int) (lev n B T m) hl _ (lev n B T m) 0 (List.replicate (n + 1) 0) rfl (lev_pos n B T m) (pos_zero _) (by simp) h3
    rw [rep_cp] at h4
    refine Ev.step (fun k => ?_) h4
    simp only [spec_clMany.l0]
    rw [if_pos (by omega), wsucc n (by omega), if_pos (by omega), Int.toNat_natCast, if_pos (by omega)]
    rfl
theorem many_ev (n : Nat) (T : List Nat) (B : List Int) (hn : n ≤ 60) (hB : B.length ≤ 1048576) (hT : ∀ t ∈ T, 1 ≤ t ∧ t ≤ 9) (hTl : T.length ≤ 5) (N : Nat) (hN : N ≤ 60) : Ev (fun k => spec_clMany.f k (n : Int) (ci T) B (N : Int)) (cp (D n B T N 0)) := by
  have h := many_l0 n T B hn hB hT hTl N 0 hN
  rw [Nat.zero_add] at h
  have e : (lev n B T 0).map cp = (List.replicate (n + 1) 0).set 0 1 := by
    simp only [lev]
    rw [List.map_set, rep_cp]
    rfl
  rw [e] at h
  refine Ev.congr (fun k => ?_) h
  unfold spec_clMany.f
  rw [wsucc n (by omega), if_pos (by omega), Int.toNat_natCast, if_pos (by omega)]
  simp only [Option.bind_some]
  rw [List.length_replicate, if_pos (by omega)]
  rfl

/- What is proved at the end: ∀ (a0_0 : Int) (l0_1 : List Int) (l0_2 : List Int) (a1 : Int), (Lit.int .i64 a0_0).wf = true → l0_1.length ≤ maxLen → (∀ x ∈ l0_1, (Lit.int .i64 x).wf = true) → l0_2.length ≤ maxLen → (∀ x ∈ l0_2, (Lit.int .i64 x).wf = true) → (Lit.int .i64 a1).wf = true → ∃ k, laws_FnExactCountByStrides.f k a0_0 l0_1 l0_2 a1 = some true -/
theorem FnExactCountByStrides_agree (s : Int) (a b : List Int) (r : Int) (ha : a.length ≤ 1048576) (hb : b.length ≤ 1048576) : ∃ w0 w1, Ev (fun k => spec_CountByStrides.f k s a b r) (w0, w1) ∧ Ev (fun k => impl_CountByStrides.f k s a b r) (w0, w1) := by
  unfold spec_CountByStrides.f impl_CountByStrides.f
  have no1 : Ev (fun k => spec_CountByStrides.j0 k r true s a b) (0, false) := Ev.step (fun k => by simp only [spec_CountByStrides.j0]; rw [if_pos trivial]) (Ev.now _)
  have no2 : Ev (fun k => impl_CountByStrides.j0 k r true s a b) (0, false) := Ev.step (fun k => by simp only [impl_CountByStrides.j0]; rw [if_pos trivial]) (Ev.now _)
  by_cases hg : goodS s a b = true
  · obtain ⟨n, T, rfl, rfl, h1, h2, h3, h4, h5, h6⟩ := goodS_nat hg
    have hT1 : ∀ t ∈ T, 1 ≤ t := fun t ht => (h4 t ht).1
    obtain ⟨c1, c2⟩ := clCounted_yes n T b hg h2 hb h4 h3 h5
    by_cases hc : V n T b 0 ≤ 1000000000000000
    · by_cases hr : r < 0
      · refine ⟨0, false, Ev.bind c1 (Ev.ite_true (decide_eq_true hc) ?_), Ev.bind c2 (Ev.ite_true (decide_eq_true hc) ?_)⟩
        · rw [decide_eq_true hr]
          exact no1
        · rw [decide_eq_true hr]
          exact no2
      · by_cases hr2 : r > (n : Int)
        · refine ⟨0, true, Ev.bind c1 (Ev.ite_true (decide_eq_true hc) ?_), Ev.bind c2 (Ev.ite_true (decide_eq_true hc) ?_)⟩
          · rw [decide_eq_false hr]
            exact Ev.step (fun k => by simp only [spec_CountByStrides.j0]; rw [if_neg (by simp), if_pos hr2]) (Ev.now _)
          · rw [decide_eq_false hr]
            exact Ev.step (fun k => by simp only [impl_CountByStrides.j0]; rw [if_neg (by simp), if_pos hr2]) (Ev.now _)
        · obtain ⟨N, rfl⟩ : ∃ N : Nat, r = (N : Int) := ⟨r.toNat, by omega⟩
          have hm := many_ev n T b h2 hb h4 h3 N (by omega)
          have hy := byStrides_ev n T b h2 hb h4 h3 h5
          have hd := D_V n b T hT1 h5 N 0 (by omega)
          have e : wk b (D n b T N) 0 = D n b T N 0 := if_neg (fun h => by have := h6 _ h; omega)
          rw [e] at hd
          rw [cp_id (by omega)] at hm
          refine ⟨D n b T N 0, true, Ev.bind c1 (Ev.ite_true (decide_eq_true hc) ?_), Ev.bind c2 (Ev.ite_true (decide_eq_true hc) ?_)⟩
          · rw [decide_eq_false hr]
            exact Ev.step (f := fun k => (spec_clMany.f k (n : Int) (ci T) b (N : Int)).bind fun t => some (t, true)) (fun k => by simp only [spec_CountByStrides.j0]; rw [if_neg (by simp), if_neg hr2]) (Ev.bind hm (Ev.now _))
          · rw [decide_eq_false hr]
            refine Ev.step (f := fun k => (impl_Stairs_byStrides.f k (n : Int) (ci T) b).bind fun t => if 0 ≤ (N : Int) then (if (N : Int) < (t.length : Int) then some (rd t (N : Int), true) else none) else none) (fun k => by simp only [impl_CountByStrides.j0]; rw [if_neg (by simp), if_neg hr2]) (Ev.bind hy (Ev.congr (fun k => ?_) (Ev.now _)))
            rw [if_pos (by omega), arr_len, if_pos (by omega), arr_rd0 n _ N (by omega)]
    · exact ⟨0, false, Ev.bind c1 (Ev.ite_false (decide_eq_false hc) no1), Ev.bind c2 (Ev.ite_false (decide_eq_false hc) no2)⟩
  · have hg' : goodS s a b = false := Bool.eq_false_iff.mpr hg
    obtain ⟨c1, c2⟩ := clCounted_no s a b hg' ha hb
    exact ⟨0, false, Ev.bind c1 (Ev.ite_false rfl no1), Ev.bind c2 (Ev.ite_false rfl no2)⟩
theorem FnExactCountByStrides : ∀ (a0_0 : Int) (l0_1 : List Int) (l0_2 : List Int) (a1 : Int), (Lit.int .i64 a0_0).wf = true → l0_1.length ≤ maxLen → (∀ x ∈ l0_1, (Lit.int .i64 x).wf = true) → l0_2.length ≤ maxLen → (∀ x ∈ l0_2, (Lit.int .i64 x).wf = true) → (Lit.int .i64 a1).wf = true → ∃ k, laws_FnExactCountByStrides.f k a0_0 l0_1 l0_2 a1 = some true := by
  intro a0_0 l0_1 l0_2 a1 w0_0 hm0_1 hw0_1 hm0_2 hw0_2 w1
  by_cases hN0 : ¬ l0_1.length + l0_2.length ≤ 1048576
  · exact ⟨1, by unfold laws_FnExactCountByStrides.f; simp [szStairs_no a0_0 l0_1 l0_2 hm0_1 hm0_2 hN0]⟩
  have hZ0 : l0_1.length + l0_2.length ≤ 1048576 := by omega
  have hl0_1 : l0_1.length ≤ 1048576 := by omega
  have hl0_2 : l0_2.length ≤ 1048576 := by omega
  have hz0 := szStairs_yes a0_0 l0_1 l0_2 hZ0
  obtain ⟨w0, w1, hS, hI⟩ := FnExactCountByStrides_agree a0_0 l0_1 l0_2 a1 hl0_1 hl0_2
  obtain ⟨K0, k0⟩ := (show Ev (fun k => spec_CountByStrides.f k a0_0 l0_1 l0_2 a1) (w0, w1) from hS)
  obtain ⟨K1, k1⟩ := (show Ev (fun k => impl_CountByStrides.f k a0_0 l0_1 l0_2 a1) (w0, w1) from hI)
  obtain ⟨K2, k2⟩ := (show Ev (fun k => laws_toIntS.f k l0_1) l0_1 from toIntS_ev _ hl0_1)
  obtain ⟨K3, k3⟩ := (show Ev (fun k => laws_eqIntS.f k l0_1 l0_1) true from eqIntS_ev _ hl0_1)
  obtain ⟨K4, k4⟩ := (show Ev (fun k => laws_toIntS.f k l0_2) l0_2 from toIntS_ev _ hl0_2)
  obtain ⟨K5, k5⟩ := (show Ev (fun k => laws_eqIntS.f k l0_2 l0_2) true from eqIntS_ev _ hl0_2)
  obtain ⟨K, hK⟩ : ∃ K, K = K0 + K1 + K2 + K3 + K4 + K5 := ⟨_, rfl⟩
  have e0 : ∀ j, spec_CountByStrides.f (K + j) a0_0 l0_1 l0_2 a1 = some (w0, w1) := fun j => k0 (K + j) (by omega)
  have e1 : ∀ j, impl_CountByStrides.f (K + j) a0_0 l0_1 l0_2 a1 = some (w0, w1) := fun j => k1 (K + j) (by omega)
  have e2 : ∀ j, laws_toIntS.f (K + j) l0_1 = some l0_1 := fun j => k2 (K + j) (by omega)
  have e3 : ∀ j, laws_eqIntS.f (K + j) l0_1 l0_1 = some true := fun j => k3 (K + j) (by omega)
  have e4 : ∀ j, laws_toIntS.f (K + j) l0_2 = some l0_2 := fun j => k4 (K + j) (by omega)
  have e5 : ∀ j, laws_eqIntS.f (K + j) l0_2 l0_2 = some true := fun j => k5 (K + j) (by omega)
  clear k0 k1 k2 k3 k4 k5 hK
  refine ⟨K + 16, ?_⟩
  simp [laws_FnExactCountByStrides.f, laws_FnExactCountByStrides.j0, laws_toStairs.f, laws_eqStairs.f, e0, e1, e2, e3, e4, e5, hz0]

end Go.Proofs.Ytfmppcfebkmbnaa.Pure
