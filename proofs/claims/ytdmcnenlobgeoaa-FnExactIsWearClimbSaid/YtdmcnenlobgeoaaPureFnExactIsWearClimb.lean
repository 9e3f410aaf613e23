/- The pure statement of FnExactIsWearClimb: the printed function returns true for all arguments within their kinds; no other condition. -/
import Derived.Test.YtdmcnenlobgeoaaPFnExactIsWearClimbx
namespace Go.Proofs.Ytdmcnenlobgeoaa.Pure
open Go.RowKit Go.Proofs.Ytdmcnenlobgeoaa.PFnExactIsWearClimb Go.Proofs.YtdmcnenlobgeoaaW.PrintWords Go.Proofs.YtdmcnenlobgeoaaW.PrintLast Go.Proofs.YtdmcnenlobgeoaaW.PrintMore
set_option linter.unusedVariables false
set_option linter.unusedSimpArgs false
theorem wsucc (i : Nat) (h : i < 4611686018427387904) : wrap64 ((i : Int) + 1) = ((i + 1 : Nat) : Int) := by
  unfold wrap64
  omega
theorem kpred {d k : Nat} (h : d < k) : ∃ m, k = m + 1 := ⟨k - 1, by omega⟩
theorem rd_nat (l : List Int) (i : Nat) : rd l (i : Int) = l.getD i 0 := by simp [rd]
theorem take_set_succ (x : List Int) (i : Nat) (v : Int) (h : i < x.length) : (x.set i v).take (i + 1) = x.take i ++ [v] := by
  rw [List.take_add_one, List.take_set_of_le (Nat.le_refl i), List.getElem?_set_self h]
  rfl
theorem take_get_succ (x : List Int) (i : Nat) (h : i < x.length) : x.take (i + 1) = x.take i ++ [x.getD i 0] := by
  rw [List.take_add_one, List.getElem?_eq_getElem h, List.getD_eq_getElem?_getD, List.getElem?_eq_getElem h]
  rfl

theorem toIntS_l (l : List Int) (hB : l.length ≤ 1048576) : ∀ (d k i : Nat) (x : List Int), l.length - i = d → d < k → i ≤ l.length → x.length = l.length → x.take i = l.take i →
    laws_toIntS.l0 k l x (i : Int) = some l := by
  intro d
  induction d with
  | zero =>
    intro k i x hd hk hi hx ht
    obtain ⟨k, rfl⟩ := kpred hk
    have e : i = l.length := by omega
    simp only [laws_toIntS.l0]
    rw [if_neg (by omega)]
    have h1 := ht
    rw [e, List.take_length, ← hx, List.take_length] at h1
    rw [h1]
  | succ d ih =>
    intro k i x hd hk hi hx ht
    obtain ⟨k, rfl⟩ := kpred hk
    simp only [laws_toIntS.l0]
    rw [if_pos (by omega), if_pos (by omega), if_pos (by omega), wsucc i (by omega), Int.toNat_natCast, rd_nat]
    refine ih k (i + 1) _ (by omega) (by omega) (by omega) (by simpa using hx) ?_
    rw [take_set_succ _ _ _ (by omega), take_get_succ _ _ (by omega), ht]
theorem toIntS_val (l : List Int) (hB : l.length ≤ 1048576) (k : Nat) (hk : l.length < k) : laws_toIntS.f k l = some l := by
  unfold laws_toIntS.f
  rw [if_pos (by omega), if_pos (by rw [Int.toNat_natCast]; omega)]
  exact toIntS_l l hB l.length k 0 _ (by omega) hk (by omega) (by simp) (by simp)

theorem toIntS_ev (l : List Int) (hB : l.length ≤ 1048576) : Ev (fun k => laws_toIntS.f k l) l := ⟨l.length + 1, fun k hk => toIntS_val l hB k (by omega)⟩

theorem eqIntS_l (l : List Int) (hB : l.length ≤ 1048576) : ∀ (d k i : Nat), l.length - i = d → d < k → i ≤ l.length → laws_eqIntS.l0 k l l (i : Int) = some true := by
  intro d
  induction d with
  | zero =>
    intro k i hd hk hi
    obtain ⟨k, rfl⟩ := kpred hk
    simp only [laws_eqIntS.l0]
    rw [if_neg (by omega)]
  | succ d ih =>
    intro k i hd hk hi
    obtain ⟨k, rfl⟩ := kpred hk
    simp only [laws_eqIntS.l0]
    rw [if_pos (by omega), if_pos (by omega), if_pos (by omega), if_pos trivial, wsucc i (by omega)]
    exact ih k (i + 1) (by omega) (by omega) (by omega)
theorem eqIntS_val (l : List Int) (hB : l.length ≤ 1048576) (k : Nat) (hk : l.length < k) : laws_eqIntS.f k l l = some true := by
  unfold laws_eqIntS.f
  rw [if_pos rfl]
  exact eqIntS_l l hB l.length k 0 (by omega) hk (by omega)

theorem eqIntS_ev (l : List Int) (hB : l.length ≤ 1048576) : Ev (fun k => laws_eqIntS.f k l l) true := ⟨l.length + 1, fun k hk => eqIntS_val l hB k (by omega)⟩

theorem in_val (a b c : Int) : spec_l1In.f a b c = some (decide (b ≤ a ∧ a ≤ c)) := by
  unfold spec_l1In.f
  by_cases h : b ≤ a <;> simp [h]
theorem within_val (a b c : Int) : impl_within.f a b c = some (decide (b ≤ a ∧ a ≤ c)) := by
  unfold impl_within.f
  by_cases h : b ≤ a <;> simp [h]

def okB (n : Int) : Bool := decide (0 ≤ n ∧ n ≤ 100)
/-- The numbers are bears. -/
def goodB (l : List Int) : Bool := decide (1 ≤ l.length ∧ l.length ≤ 20) && l.all okB
theorem drop_cons (l : List Int) (i : Nat) (h : i < l.length) : l.drop i = l.getD i 0 :: l.drop (i + 1) := by
  rw [List.drop_eq_getElem_cons h, List.getD_eq_getElem?_getD, List.getElem?_eq_getElem h]
  rfl
theorem l1All_l (l : List Int) (hB : l.length ≤ 1048576) : ∀ (d k i : Nat), l.length - i = d → d < k → i ≤ l.length →
    spec_l1All.l0 k 0 100 l (l.length : Int) (i : Int) = some ((l.drop i).all okB) := by
  intro d
  induction d with
  | zero =>
    intro k i hd hk hi
    obtain ⟨k, rfl⟩ := kpred hk
    simp only [spec_l1All.l0]
    rw [if_neg (by omega), List.drop_eq_nil_of_le (by omega)]
    rfl
  | succ d ih =>
    intro k i hd hk hi
    obtain ⟨k, rfl⟩ := kpred hk
    simp only [spec_l1All.l0]
    rw [if_pos (by omega), if_pos (by omega), if_pos (by omega), rd_nat, in_val, drop_cons l i (by omega)]
    simp only [Option.bind_some, List.all_cons, wsucc i (by omega)]
    rw [ih k (i + 1) (by omega) (by omega) (by omega)]
    by_cases h : 0 ≤ l.getD i 0 ∧ l.getD i 0 ≤ 100
    · rw [if_pos (decide_eq_true h)]
      simp only [okB, decide_eq_true h, Bool.true_and]
    · rw [if_neg (by simpa using h)]
      simp only [okB, decide_eq_false h, Bool.false_and]
theorem weGood_val (l : List Int) (hB : l.length ≤ 1048576) (k : Nat) (hk : l.length < k) : spec_weGood.f k l = some (goodB l) := by
  unfold spec_weGood.f spec_l1All.f goodB
  have h := l1All_l l hB l.length k 0 (by omega) hk (by omega)
  rw [List.drop_zero] at h
  rw [in_val]
  simp only [Option.bind_some]
  by_cases h1 : 1 ≤ l.length ∧ l.length ≤ 20
  · rw [if_pos (decide_eq_true (by omega)), decide_eq_true h1, Bool.true_and]
    have h' : spec_l1All.l0 k 0 100 l (l.length : Int) 0 = some (l.all okB) := h
    rw [h']
    rfl
  · rw [if_neg (by simp; omega), decide_eq_false h1, Bool.false_and]
theorem areBears1_val (n : Int) : impl_AreBears_1.f n = some (!okB n) := by
  unfold impl_AreBears_1.f
  simp only [within_val, Option.bind_some]
  rfl
theorem indexFunc_l (l : List Int) (hB : l.length ≤ 1048576) : ∀ (d k i : Nat), l.length - i = d → d < k → i ≤ l.length →
    ∃ r, slices_IndexFunc_int_int.l0 k l (l.length : Int) (i : Int) = some r ∧ decide (r ≥ 0) = !(l.drop i).all okB := by
  intro d
  induction d with
  | zero =>
    intro k i hd hk hi
    obtain ⟨k, rfl⟩ := kpred hk
    refine ⟨-1, ?_, ?_⟩
    · simp only [slices_IndexFunc_int_int.l0]
      rw [if_neg (by omega)]
    · rw [List.drop_eq_nil_of_le (by omega)]
      rfl
  | succ d ih =>
    intro k i hd hk hi
    obtain ⟨k, rfl⟩ := kpred hk
    rw [drop_cons l i (by omega)]
    by_cases h : okB (l.getD i 0) = true
    · obtain ⟨r, hr, hp⟩ := ih k (i + 1) (by omega) (by omega) (by omega)
      refine ⟨r, ?_, by rw [List.all_cons, h, Bool.true_and]; exact hp⟩
      simp only [slices_IndexFunc_int_int.l0]
      rw [if_pos (by omega), if_pos (by omega), if_pos (by omega), rd_nat, areBears1_val, h]
      simp only [Option.bind_some, Bool.not_true, wsucc i (by omega)]
      exact hr
    · have h' : okB (l.getD i 0) = false := Bool.eq_false_iff.mpr h
      refine ⟨i, ?_, by rw [List.all_cons, h', Bool.false_and]; simp⟩
      simp only [slices_IndexFunc_int_int.l0]
      rw [if_pos (by omega), if_pos (by omega), if_pos (by omega), rd_nat, areBears1_val, h']
      rfl
theorem areBears_val (l : List Int) (hB : l.length ≤ 1048576) (k : Nat) (hk : l.length < k) : impl_AreBears.f k l = some (goodB l) := by
  obtain ⟨r, hr, hp⟩ := indexFunc_l l hB l.length k 0 (by omega) hk (by omega)
  have hr' : slices_IndexFunc_int_int.l0 k l (l.length : Int) 0 = some r := hr
  rw [List.drop_zero] at hp
  unfold impl_AreBears.f slices_ContainsFunc_int_int.f slices_IndexFunc_int_int.f goodB
  rw [within_val, hr']
  simp only [Option.bind_some, hp, Bool.not_not]
  by_cases h1 : 1 ≤ l.length ∧ l.length ≤ 20
  · rw [if_pos (decide_eq_true (by omega)), decide_eq_true h1, Bool.true_and]
  · rw [if_neg (by simp; omega), decide_eq_false h1, Bool.false_and]

theorem Ev.ite_true {α : Type} {g f : Nat → Option α} {r : α} {b : Bool} (h : b = true) (k : Ev g r) : Ev (fun n => if b = true then g n else f n) r := by
  subst h
  simpa using k
theorem Ev.ite_false {α : Type} {g f : Nat → Option α} {r : α} {b : Bool} (h : b = false) (k : Ev f r) : Ev (fun n => if b = true then g n else f n) r := by
  subst h
  simpa using k

theorem weGood_ev (l : List Int) (hB : l.length ≤ 1048576) : Ev (fun k => spec_weGood.f k l) (goodB l) := ⟨l.length + 1, fun k hk => weGood_val l hB k (by omega)⟩
theorem areBears_ev (l : List Int) (hB : l.length ≤ 1048576) : Ev (fun k => impl_AreBears.f k l) (goodB l) := ⟨l.length + 1, fun k hk => areBears_val l hB k (by omega)⟩
theorem okB_bd {x : Int} (h : okB x = true) : 0 ≤ x ∧ x ≤ 100 := by simpa [okB] using h
/-- What bears are. -/
theorem goodB_bd {l : List Int} (h : goodB l = true) : 1 ≤ l.length ∧ l.length ≤ 20 ∧ ∀ x ∈ l, 0 ≤ x ∧ x ≤ 100 := by
  simp only [goodB, Bool.and_eq_true, decide_eq_true_eq, List.all_eq_true] at h
  exact ⟨h.1.1, h.1.2, fun x hx => okB_bd (h.2 x hx)⟩
theorem getD_bd {l : List Int} {a b : Int} (h : ∀ x ∈ l, a ≤ x ∧ x ≤ b) {i : Nat} (hi : i < l.length) : a ≤ l.getD i 0 ∧ l.getD i 0 ≤ b := by
  rw [List.getD_eq_getElem?_getD, List.getElem?_eq_getElem hi]
  exact h _ (List.getElem_mem hi)

/-- Bears and a reach. -/
def canW (l : List Int) (r : Int) : Bool := goodB l && decide (1 ≤ r ∧ r ≤ 20)
theorem weReach_ev (l : List Int) (hB : l.length ≤ 1048576) (r : Int) : Ev (fun k => spec_weReach.f k l r) (canW l r) := by
  unfold spec_weReach.f canW
  refine Ev.bind (weGood_ev l hB) ?_
  simp only [in_val, Option.bind_some]
  cases goodB l <;> simp <;> exact Ev.now _
theorem canWear_ev (l : List Int) (hB : l.length ≤ 1048576) (r : Int) : Ev (fun k => impl_canWear.f k l r) (canW l r) := by
  unfold impl_canWear.f canW
  refine Ev.bind (areBears_ev l hB) ?_
  simp only [within_val, Option.bind_some]
  cases goodB l <;> simp <;> exact Ev.now _
theorem canW_bd {l : List Int} {r : Int} (h : canW l r = true) : goodB l = true ∧ 1 ≤ r ∧ r ≤ 20 := by
  simp only [canW, Bool.and_eq_true, decide_eq_true_eq] at h
  exact ⟨h.1, h.2.1, h.2.2⟩

/-- A climb, from the step 'at' on. -/
def isV (b : List Int) (r : Int) : Int → List Int → Bool
  | at_, [] => decide ((b.length : Int) + 1 - at_ ≤ r)
  | at_, k :: ks => decide (at_ + 1 ≤ k ∧ k ≤ at_ + r ∧ k ≤ (b.length : Int)) && (decide (1 ≤ b.getD (k - 1).toNat 0) && isV b r k ks)
theorem least_val' (a b : Int) : spec_l1Least.f a b = some (if a < b then a else b) := by
  unfold spec_l1Least.f
  split <;> rfl
theorem weIs_l (b : List Int) (r : Int) (hb : b.length ≤ 20) (hv : ∀ x ∈ b, 0 ≤ x ∧ x ≤ 100) (r1 : 1 ≤ r) (r2 : r ≤ 20) (s : List Int) (hs : s.length ≤ 9223372036854775807) :
    ∀ (ks : List Int) (i : Nat) (at_ : Int), s.drop i = ks → i ≤ s.length → 0 ≤ at_ → at_ ≤ (b.length : Int) → (i : Int) ≤ at_ → Ev (fun k => spec_weIs.l0 k b r at_ s (s.length : Int) (i : Int)) (isV b r at_ ks) := by
  intro ks
  induction ks with
  | nil =>
    intro i at_ hd hi h0 h1 hia
    have hl : s.length - i = 0 := by
      have := congrArg List.length hd
      rwa [List.length_drop] at this
    refine Ev.step (fun k => ?_) (Ev.now _)
    have w1 : wrap64 ((b.length : Int) + 1) = (b.length : Int) + 1 := by
      unfold wrap64
      omega
    have w2 : wrap64 ((b.length : Int) + 1 - at_) = (b.length : Int) + 1 - at_ := by
      unfold wrap64
      omega
    simp only [spec_weIs.l0]
    rw [if_neg (by omega), w1, w2]
    rfl
  | cons x ks ih =>
    intro i at_ hd hi h0 h1 hia
    have hl : s.length - i = ks.length + 1 := by
      have := congrArg List.length hd
      rwa [List.length_drop, List.length_cons] at this
    have hx : s.getD i 0 = x := by
      rw [drop_cons s i (by omega)] at hd
      exact (List.cons.inj hd).1
    have hd' : s.drop (i + 1) = ks := by
      rw [drop_cons s i (by omega)] at hd
      exact (List.cons.inj hd).2
    have w1 : wrap64 (at_ + r) = at_ + r := by
      unfold wrap64
      omega
    have w2 : wrap64 (at_ + 1) = at_ + 1 := by
      unfold wrap64
      omega
    have hmin : (at_ + 1 ≤ x ∧ x ≤ (if at_ + r < (b.length : Int) then at_ + r else (b.length : Int))) ↔ (at_ + 1 ≤ x ∧ x ≤ at_ + r ∧ x ≤ (b.length : Int)) := by
      split <;> omega
    by_cases hc : at_ + 1 ≤ x ∧ x ≤ at_ + r ∧ x ≤ (b.length : Int)
    · have w3 : wrap64 (x - 1) = (((x - 1).toNat : Nat) : Int) := by
        unfold wrap64
        omega
      have hg := getD_bd hv (i := (x - 1).toNat) (by omega)
      by_cases hz : 1 ≤ b.getD (x - 1).toNat 0
      · have h := ih (i + 1) x hd' (by omega) (by omega) (by omega) (by omega)
        simp only [isV, decide_eq_true hc, decide_eq_true hz, Bool.true_and]
        refine Ev.step (fun k => ?_) h
        simp only [spec_weIs.l0]
        rw [if_pos (by omega), if_pos (by omega), if_pos (by omega), rd_nat, hx, w1, w2, least_val']
        simp only [Option.bind_some, in_val]
        rw [decide_eq_true (hmin.2 hc), if_pos rfl, w3, if_pos (by omega), if_pos (by omega), rd_nat, if_neg (by omega), wsucc i (by omega)]
      · simp only [isV, decide_eq_true hc, decide_eq_false hz, Bool.true_and, Bool.false_and]
        refine Ev.step (fun k => ?_) (Ev.now _)
        simp only [spec_weIs.l0]
        rw [if_pos (by omega), if_pos (by omega), if_pos (by omega), rd_nat, hx, w1, w2, least_val']
        simp only [Option.bind_some, in_val]
        rw [decide_eq_true (hmin.2 hc), if_pos rfl, w3, if_pos (by omega), if_pos (by omega), rd_nat, if_pos (by omega)]
    · simp only [isV, decide_eq_false hc, Bool.false_and]
      refine Ev.step (fun k => ?_) (Ev.now _)
      simp only [spec_weIs.l0]
      rw [if_pos (by omega), if_pos (by omega), if_pos (by omega), rd_nat, hx, w1, w2, least_val']
      simp only [Option.bind_some, in_val]
      rw [decide_eq_false (fun h => hc (hmin.1 h)), if_neg (by simp)]
theorem isWear_l (b : List Int) (r : Int) (hb : b.length ≤ 20) (hv : ∀ x ∈ b, 0 ≤ x ∧ x ≤ 100) (r1 : 1 ≤ r) (r2 : r ≤ 20) (s : List Int) (hs : s.length ≤ 9223372036854775807) :
    ∀ (ks : List Int) (i : Nat) (at_ : Int), s.drop i = ks → i ≤ s.length → 0 ≤ at_ → at_ ≤ (b.length : Int) → (i : Int) ≤ at_ → Ev (fun k => impl_isWearClimb.l0 k b r at_ ((b.length : Int) + 1) s (s.length : Int) (i : Int)) (isV b r at_ ks) := by
  intro ks
  induction ks with
  | nil =>
    intro i at_ hd hi h0 h1 hia
    have hl : s.length - i = 0 := by
      have := congrArg List.length hd
      rwa [List.length_drop] at this
    refine Ev.step (fun k => ?_) (Ev.now _)
    have w2 : wrap64 ((b.length : Int) + 1 - at_) = (b.length : Int) + 1 - at_ := by
      unfold wrap64
      omega
    simp only [impl_isWearClimb.l0]
    rw [if_neg (by omega), w2]
    rfl
  | cons x ks ih =>
    intro i at_ hd hi h0 h1 hia
    have hl : s.length - i = ks.length + 1 := by
      have := congrArg List.length hd
      rwa [List.length_drop, List.length_cons] at this
    have hx : s.getD i 0 = x := by
      rw [drop_cons s i (by omega)] at hd
      exact (List.cons.inj hd).1
    have hd' : s.drop (i + 1) = ks := by
      rw [drop_cons s i (by omega)] at hd
      exact (List.cons.inj hd).2
    have w1 : wrap64 ((b.length : Int) + 1 - 1) = (b.length : Int) := by
      unfold wrap64
      omega
    have w2 : wrap64 (at_ + 1) = at_ + 1 := by
      unfold wrap64
      omega
    by_cases hr : at_ + 1 ≤ x ∧ x ≤ (b.length : Int)
    · have w4 : wrap64 (x - at_) = x - at_ := by
        unfold wrap64
        omega
      by_cases hf : x - at_ > r
      · rw [show isV b r at_ (x :: ks) = false by simp only [isV]; rw [decide_eq_false (by omega)]; rfl]
        refine Ev.step (fun k => ?_) (Ev.now _)
        simp only [impl_isWearClimb.l0]
        rw [if_pos (by omega), if_pos (by omega), if_pos (by omega), rd_nat, hx, w1, w2]
        simp only [Option.bind_some, within_val]
        rw [decide_eq_true hr, if_pos rfl, w4, if_pos hf]
      · have hc : at_ + 1 ≤ x ∧ x ≤ at_ + r ∧ x ≤ (b.length : Int) := by omega
        have w3 : wrap64 (x - 1) = (((x - 1).toNat : Nat) : Int) := by
          unfold wrap64
          omega
        have hg := getD_bd hv (i := (x - 1).toNat) (by omega)
        by_cases hz : 1 ≤ b.getD (x - 1).toNat 0
        · have h := ih (i + 1) x hd' (by omega) (by omega) (by omega) (by omega)
          simp only [isV, decide_eq_true hc, decide_eq_true hz, Bool.true_and]
          refine Ev.step (fun k => ?_) h
          simp only [impl_isWearClimb.l0]
          rw [if_pos (by omega), if_pos (by omega), if_pos (by omega), rd_nat, hx, w1, w2]
          simp only [Option.bind_some, within_val]
          rw [decide_eq_true hr, if_pos rfl, w4, if_neg hf, w3, if_pos (by omega), if_pos (by omega), rd_nat, if_neg (by omega), wsucc i (by omega)]
        · simp only [isV, decide_eq_true hc, decide_eq_false hz, Bool.true_and, Bool.false_and]
          refine Ev.step (fun k => ?_) (Ev.now _)
          simp only [impl_isWearClimb.l0]
          rw [if_pos (by omega), if_pos (by omega), if_pos (by omega), rd_nat, hx, w1, w2]
          simp only [Option.bind_some, within_val]
          rw [decide_eq_true hr, if_pos rfl, w4, if_neg hf, w3, if_pos (by omega), if_pos (by omega), rd_nat, if_pos (by omega)]
    · rw [show isV b r at_ (x :: ks) = false by simp only [isV]; rw [decide_eq_false (by omega)]; rfl]
      refine Ev.step (fun k => ?_) (Ev.now _)
      simp only [impl_isWearClimb.l0]
      rw [if_pos (by omega), if_pos (by omega), if_pos (by omega), rd_nat, hx, w1, w2]
      simp only [Option.bind_some, within_val]
      rw [decide_eq_false hr, if_neg (by simp)]
theorem weIs_ev (b : List Int) (r : Int) (hb : b.length ≤ 20) (hv : ∀ x ∈ b, 0 ≤ x ∧ x ≤ 100) (r1 : 1 ≤ r) (r2 : r ≤ 20) (s : List Int) (hs : s.length ≤ 9223372036854775807) : Ev (fun k => spec_weIs.f k b r s) (isV b r 0 s) := by
  unfold spec_weIs.f
  exact weIs_l b r hb hv r1 r2 s hs s 0 0 rfl (by omega) (by omega) (by omega) (by omega)
theorem isWear_ev (b : List Int) (r : Int) (hb : b.length ≤ 20) (hv : ∀ x ∈ b, 0 ≤ x ∧ x ≤ 100) (r1 : 1 ≤ r) (r2 : r ≤ 20) (s : List Int) (hs : s.length ≤ 9223372036854775807) : Ev (fun k => impl_isWearClimb.f k b r s) (isV b r 0 s) := by
  unfold impl_isWearClimb.f
  have w1 : wrap64 ((b.length : Int) + 1) = (b.length : Int) + 1 := by
    unfold wrap64
    omega
  rw [w1]
  exact isWear_l b r hb hv r1 r2 s hs s 0 0 rfl (by omega) (by omega) (by omega) (by omega)

/- What is proved at the end: ∀ (l0 : List Int) (a1 : Int) (l2 : List Int), l0.length ≤ maxLen → (∀ x ∈ l0, (Lit.int .i64 x).wf = true) → (Lit.int .i64 a1).wf = true → l2.length ≤ maxLen → (∀ x ∈ l2, (Lit.int .i64 x).wf = true) → ∃ k, laws_FnExactIsWearClimb.f k l0 a1 l2 = some true -/
theorem FnExactIsWearClimb_agree (l : List Int) (r : Int) (c : List Int) (hl : l.length ≤ 1048576) (hc : c.length ≤ 1048576) : ∃ w0 w1, Ev (fun k => spec_IsWearClimb.f k l r c) (w0, w1) ∧ Ev (fun k => impl_IsWearClimb.f k l r c) (w0, w1) := by
  unfold spec_IsWearClimb.f impl_IsWearClimb.f
  by_cases hW : canW l r = true
  · obtain ⟨hg, r1, r2⟩ := canW_bd hW
    obtain ⟨g1, g2, g3⟩ := goodB_bd hg
    exact ⟨isV l r 0 c, true, Ev.bind (weReach_ev l hl r) (Ev.ite_true hW (Ev.bind (weIs_ev l r g2 g3 r1 r2 c (by omega)) (Ev.now _))), Ev.bind (canWear_ev l hl r) (Ev.ite_true hW (Ev.bind (isWear_ev l r g2 g3 r1 r2 c (by omega)) (Ev.now _)))⟩
  · have hW' : canW l r = false := Bool.eq_false_iff.mpr hW
    exact ⟨false, false, Ev.bind (weReach_ev l hl r) (Ev.ite_false hW' (Ev.now _)), Ev.bind (canWear_ev l hl r) (Ev.ite_false hW' (Ev.now _))⟩
theorem FnExactIsWearClimb : ∀ (l0 : List Int) (a1 : Int) (l2 : List Int), l0.length ≤ maxLen → (∀ x ∈ l0, (Lit.int .i64 x).wf = true) → (Lit.int .i64 a1).wf = true → l2.length ≤ maxLen → (∀ x ∈ l2, (Lit.int .i64 x).wf = true) → ∃ k, laws_FnExactIsWearClimb.f k l0 a1 l2 = some true := by
  intro l0 a1 l2 hm0 hw0 w1 hm2 hw2
  by_cases hB0 : (l0.length : Int) > 1048576
  · exact ⟨1, by unfold laws_FnExactIsWearClimb.f; rw [if_pos hB0]⟩
  have hl0 : l0.length ≤ 1048576 := by omega
  by_cases hB2 : (l2.length : Int) > 1048576
  · exact ⟨1, by unfold laws_FnExactIsWearClimb.f; rw [if_neg hB0, if_pos hB2]⟩
  have hl2 : l2.length ≤ 1048576 := by omega
  obtain ⟨w0, w1, hS, hI⟩ := FnExactIsWearClimb_agree l0 a1 l2 hl0 hl2
  obtain ⟨K0, k0⟩ := (show Ev (fun k => spec_IsWearClimb.f k l0 a1 l2) (w0, w1) from hS)
  obtain ⟨K1, k1⟩ := (show Ev (fun k => impl_IsWearClimb.f k l0 a1 l2) (w0, w1) from hI)
  obtain ⟨K2, k2⟩ := (show Ev (fun k => laws_toIntS.f k l0) l0 from toIntS_ev _ hl0)
  obtain ⟨K3, k3⟩ := (show Ev (fun k => laws_eqIntS.f k l0 l0) true from eqIntS_ev _ hl0)
  obtain ⟨K4, k4⟩ := (show Ev (fun k => laws_toIntS.f k l2) l2 from toIntS_ev _ hl2)
  obtain ⟨K5, k5⟩ := (show Ev (fun k => laws_eqIntS.f k l2 l2) true from eqIntS_ev _ hl2)
  obtain ⟨K, hK⟩ : ∃ K, K = K0 + K1 + K2 + K3 + K4 + K5 := ⟨_, rfl⟩
  have e0 : ∀ j, spec_IsWearClimb.f (K + j) l0 a1 l2 = some (w0, w1) := fun j => k0 (K + j) (by omega)
  have e1 : ∀ j, impl_IsWearClimb.f (K + j) l0 a1 l2 = some (w0, w1) := fun j => k1 (K + j) (by omega)
  have e2 : ∀ j, laws_toIntS.f (K + j) l0 = some l0 := fun j => k2 (K + j) (by omega)
  have e3 : ∀ j, laws_eqIntS.f (K + j) l0 l0 = some true := fun j => k3 (K + j) (by omega)
  have e4 : ∀ j, laws_toIntS.f (K + j) l2 = some l2 := fun j => k4 (K + j) (by omega)
  have e5 : ∀ j, laws_eqIntS.f (K + j) l2 l2 = some true := fun j => k5 (K + j) (by omega)
  clear k0 k1 k2 k3 k4 k5 hK
  refine ⟨K + 16, ?_⟩
  simp [laws_FnExactIsWearClimb.f, laws_FnExactIsWearClimb.j0, e0, e1, e2, e3, e4, e5, hB0, hB2]

end Go.Proofs.Ytdmcnenlobgeoaa.Pure
