/- The pure statement of FnStepsMendedOfAll: the printed function returns true for all arguments within their kinds; no other condition. -/
import Derived.Test.YtbeokaghdagabaaPFnStepsMendedOfAllx
namespace Go.Proofs.Ytbeokaghdagabaa.Pure
open Go.RowKit Go.Proofs.Ytbeokaghdagabaa.PFnStepsMendedOfAll Go.Proofs.YtbeokaghdagabaaW.PrintWords Go.Proofs.YtbeokaghdagabaaW.PrintLast Go.Proofs.YtbeokaghdagabaaW.PrintMore
set_option linter.unusedVariables false
set_option linter.unusedSimpArgs false
theorem in_val (a b c : Int) : spec_l1In.f a b c = some (decide (b ≤ a ∧ a ≤ c)) := by
  unfold spec_l1In.f
  by_cases h : b ≤ a <;> simp [h]
theorem within_val (a b c : Int) : impl_within.f a b c = some (decide (b ≤ a ∧ a ≤ c)) := by
  unfold impl_within.f
  by_cases h : b ≤ a <;> simp [h]

theorem wsucc (i : Nat) (h : i < 4611686018427387904) : wrap64 ((i : Int) + 1) = ((i + 1 : Nat) : Int) := by
  unfold wrap64
  omega
theorem kpred {d k : Nat} (h : d < k) : ∃ m, k = m + 1 := ⟨k - 1, by omega⟩
theorem rd_nat (l : List Int) (i : Nat) : rd l (i : Int) = l.getD i 0 := by simp [rd]
theorem take_set_succ (x : List Int) (i : Nat) (v : Int) (h : i < x.length) : (x.set i v).take (i + 1) = x.take i ++ [v] := by
  rw [List.take_add_one, List.take_set_of_le (Nat.le_refl i), List.getElem?_set_self h]
  rfl
theorem take_get_succ (x : List Int) (i : Nat) (h : i < x.length) : x.take (i + 1) = x.take i ++ [x.getD i 0] := by
  rw [List.take_add_one, List.getElem?_eq_getElem h, List.getD_eq_getElem?_getD, List.getElem?_eq_getElem h]
  rfl
theorem w_id {x : Int} (h0 : -4611686018427387904 ≤ x) (h1 : x ≤ 4611686018427387904) : wrap64 x = x := by
  unfold wrap64
  omega
theorem w_sub (k r : Nat) (h : r ≤ k) (hk : k ≤ 1000000000) : wrap64 ((k : Int) - (r : Int)) = ((k - r : Nat) : Int) := by
  rw [w_id (by omega) (by omega)]
  omega
theorem w_add (a b : Nat) (h : a ≤ 1000000000) (hb : b ≤ 1000000000) : wrap64 ((a : Int) + (b : Int)) = ((a + b : Nat) : Int) := by
  rw [w_id (by omega) (by omega)]
  omega
theorem w_pred (k : Nat) (h : 1 ≤ k) (hk : k ≤ 1000000000) : wrap64 ((k : Int) - 1) = ((k - 1 : Nat) : Int) := by
  rw [w_id (by omega) (by omega)]
  omega

def okB (n : Int) : Bool := decide (0 ≤ n ∧ n ≤ 100)
/-- The numbers are bears. -/
def goodB (l : List Int) : Bool := decide (1 ≤ l.length ∧ l.length ≤ 20) && l.all okB
theorem drop_cons (l : List Int) (i : Nat) (h : i < l.length) : l.drop i = l.getD i 0 :: l.drop (i + 1) := by
  rw [List.drop_eq_getElem_cons h, List.getD_eq_getElem?_getD, List.getElem?_eq_getElem h]
  rfl
theorem l1All_l (l : List Int) (hB : l.length ≤ 1048576) : ∀ (d k i : Nat), l.length - i = d → d < k → i ≤ l.length →
    spec_l1All.l0 k 0 100 l (l.length : Int) (i : Int) = some ((l.drop i).all okB) := by
  intro d
  induction d with
  | zero =>
    intro k i hd hk hi
    obtain ⟨k, rfl⟩ := kpred hk
    simp only [spec_l1All.l0]
    rw [if_neg (by omega), List.drop_eq_nil_of_le (by omega)]
    rfl
  | succ d ih =>
    intro k i hd hk hi
    obtain ⟨k, rfl⟩ := kpred hk
    simp only [spec_l1All.l0]
    rw [if_pos (by omega), if_pos (by omega), if_pos (by omega), rd_nat, in_val, drop_cons l i (by omega)]
    simp only [Option.bind_some, List.all_cons, wsucc i (by omega)]
    rw [ih k (i + 1) (by omega) (by omega) (by omega)]
    by_cases h : 0 ≤ l.getD i 0 ∧ l.getD i 0 ≤ 100
    · rw [if_pos (decide_eq_true h)]
      simp only [okB, decide_eq_true h, Bool.true_and]
    · rw [if_neg (by simpa using h)]
      simp only [okB, decide_eq_false h, Bool.false_and]
theorem weGood_val (l : List Int) (hB : l.length ≤ 1048576) (k : Nat) (hk : l.length < k) : spec_weGood.f k l = some (goodB l) := by
  unfold spec_weGood.f spec_l1All.f goodB
  have h := l1All_l l hB l.length k 0 (by omega) hk (by omega)
  rw [List.drop_zero] at h
  rw [in_val]
  simp only [Option.bind_some]
  by_cases h1 : 1 ≤ l.length ∧ l.length ≤ 20
  · rw [if_pos (decide_eq_true (by omega)), decide_eq_true h1, Bool.true_and]
    have h' : spec_l1All.l0 k 0 100 l (l.length : Int) 0 = some (l.all okB) := h
    rw [h']
    rfl
  · rw [if_neg (by simp; omega), decide_eq_false h1, Bool.false_and]
theorem areBears1_val (n : Int) : impl_AreBears_1.f n = some (!okB n) := by
  unfold impl_AreBears_1.f
  simp only [within_val, Option.bind_some]
  rfl
theorem indexFunc_l (l : List Int) (hB : l.length ≤ 1048576) : ∀ (d k i : Nat), l.length - i = d → d < k → i ≤ l.length →
    ∃ r, slices_IndexFunc_int_int.l0 k l (l.length : Int) (i : Int) = some r ∧ decide (r ≥ 0) = !(l.drop i).all okB := by
  intro d
  induction d with
  | zero =>
    intro k i hd hk hi
    obtain ⟨k, rfl⟩ := kpred hk
    refine ⟨-1, ?_, ?_⟩
    · simp only [slices_IndexFunc_int_int.l0]
      rw [if_neg (by omega)]
    · rw [List.drop_eq_nil_of_le (by omega)]
      rfl
  | succ d ih =>
    intro k i hd hk hi
    obtain ⟨k, rfl⟩ := kpred hk
    rw [drop_cons l i (by omega)]
    by_cases h : okB (l.getD i 0) = true
    · obtain ⟨r, hr, hp⟩ := ih k (i + 1) (by omega) (by omega) (by omega)
      refine ⟨r, ?_, by rw [List.all_cons, h, Bool.true_and]; exact hp⟩
      simp only [slices_IndexFunc_int_int.l0]
      rw [if_pos (by omega), if_pos (by omega), if_pos (by omega), rd_nat, areBears1_val, h]
      simp only [Option.bind_some, Bool.not_true, wsucc i (by omega)]
      exact hr
    · have h' : okB (l.getD i 0) = false := Bool.eq_false_iff.mpr h
      refine ⟨i, ?_, by rw [List.all_cons, h', Bool.false_and]; simp⟩
      simp only [slices_IndexFunc_int_int.l0]
      rw [if_pos (by omega), if_pos (by omega), if_pos (by omega), rd_nat, areBears1_val, h']
      rfl
theorem areBears_val (l : List Int) (hB : l.length ≤ 1048576) (k : Nat) (hk : l.length < k) : impl_AreBears.f k l = some (goodB l) := by
  obtain ⟨r, hr, hp⟩ := indexFunc_l l hB l.length k 0 (by omega) hk (by omega)
  have hr' : slices_IndexFunc_int_int.l0 k l (l.length : Int) 0 = some r := hr
  rw [List.drop_zero] at hp
  unfold impl_AreBears.f slices_ContainsFunc_int_int.f slices_IndexFunc_int_int.f goodB
  rw [within_val, hr']
  simp only [Option.bind_some, hp, Bool.not_not]
  by_cases h1 : 1 ≤ l.length ∧ l.length ≤ 20
  · rw [if_pos (decide_eq_true (by omega)), decide_eq_true h1, Bool.true_and]
  · rw [if_neg (by simp; omega), decide_eq_false h1, Bool.false_and]

theorem Ev.ite_true {α : Type} {g f : Nat → Option α} {r : α} {b : Bool} (h : b = true) (k : Ev g r) : Ev (fun n => if b = true then g n else f n) r := by
  subst h
  simpa using k
theorem Ev.ite_false {α : Type} {g f : Nat → Option α} {r : α} {b : Bool} (h : b = false) (k : Ev f r) : Ev (fun n => if b = true then g n else f n) r := by
  subst h
  simpa using k

theorem weGood_ev (l : List Int) (hB : l.length ≤ 1048576) : Ev (fun k => spec_weGood.f k l) (goodB l) := ⟨l.length + 1, fun k hk => weGood_val l hB k (by omega)⟩
theorem areBears_ev (l : List Int) (hB : l.length ≤ 1048576) : Ev (fun k => impl_AreBears.f k l) (goodB l) := ⟨l.length + 1, fun k hk => areBears_val l hB k (by omega)⟩
theorem okB_bd {x : Int} (h : okB x = true) : 0 ≤ x ∧ x ≤ 100 := by simpa [okB] using h
/-- What bears are. -/
theorem goodB_bd {l : List Int} (h : goodB l = true) : 1 ≤ l.length ∧ l.length ≤ 20 ∧ ∀ x ∈ l, 0 ≤ x ∧ x ≤ 100 := by
  simp only [goodB, Bool.and_eq_true, decide_eq_true_eq, List.all_eq_true] at h
  exact ⟨h.1.1, h.1.2, fun x hx => okB_bd (h.2 x hx)⟩
theorem getD_bd {l : List Int} {a b : Int} (h : ∀ x ∈ l, a ≤ x ∧ x ≤ b) {i : Nat} (hi : i < l.length) : a ≤ l.getD i 0 ∧ l.getD i 0 ≤ b := by
  rw [List.getD_eq_getElem?_getD, List.getElem?_eq_getElem hi]
  exact h _ (List.getElem_mem hi)

/-- Bears and a reach. -/
def canW (l : List Int) (r : Int) : Bool := goodB l && decide (1 ≤ r ∧ r ≤ 20)
theorem weReach_ev (l : List Int) (hB : l.length ≤ 1048576) (r : Int) : Ev (fun k => spec_weReach.f k l r) (canW l r) := by
  unfold spec_weReach.f canW
  refine Ev.bind (weGood_ev l hB) ?_
  simp only [in_val, Option.bind_some]
  cases goodB l <;> simp <;> exact Ev.now _
theorem canWear_ev (l : List Int) (hB : l.length ≤ 1048576) (r : Int) : Ev (fun k => impl_canWear.f k l r) (canW l r) := by
  unfold impl_canWear.f canW
  refine Ev.bind (areBears_ev l hB) ?_
  simp only [within_val, Option.bind_some]
  cases goodB l <;> simp <;> exact Ev.now _
theorem canW_bd {l : List Int} {r : Int} (h : canW l r = true) : goodB l = true ∧ 1 ≤ r ∧ r ≤ 20 := by
  simp only [canW, Bool.and_eq_true, decide_eq_true_eq] at h
  exact ⟨h.1, h.2.1, h.2.2⟩

def hasP (l : List Int) (r : Int) : Bool := canW l r && decide (r ≤ (l.length : Int))
theorem weEnds_ev (l : List Int) (hB : l.length ≤ 1048576) (r : Int) : Ev (fun k => spec_weEnds.f k l r) (hasP l r) := by
  unfold spec_weEnds.f hasP
  refine Ev.bind (weReach_ev l hB r) ?_
  cases canW l r <;> simp <;> exact Ev.now _
theorem hasParts_ev (l : List Int) (hB : l.length ≤ 1048576) (r : Int) : Ev (fun k => impl_hasParts.f k l r) (hasP l r) := by
  unfold impl_hasParts.f hasP
  refine Ev.bind (canWear_ev l hB r) ?_
  cases canW l r <;> simp <;> exact Ev.now _
theorem hasP_bd {l : List Int} {r : Int} (h : hasP l r = true) : goodB l = true ∧ 1 ≤ r ∧ r ≤ 20 ∧ r ≤ (l.length : Int) := by
  simp only [hasP, Bool.and_eq_true, decide_eq_true_eq] at h
  obtain ⟨h1, h2⟩ := h
  have := canW_bd h1
  exact ⟨this.1, this.2.1, this.2.2, h2⟩

theorem hasP_facts {l : List Int} {r : Int} (h : hasP l r = true) : ∃ n : Nat, r = (n : Int) ∧ 1 ≤ n ∧ n ≤ 20 ∧ n ≤ l.length ∧ l.length ≤ 20 ∧ (∀ x ∈ l, 0 ≤ x ∧ x ≤ 100) ∧ ∀ x ∈ l, 0 ≤ x ∧ x ≤ 2000 := by
  obtain ⟨hg, h1, h2, h3⟩ := hasP_bd h
  obtain ⟨g1, g2, g3⟩ := goodB_bd hg
  obtain ⟨n, rfl⟩ := Int.eq_ofNat_of_zero_le (show 0 ≤ r by omega)
  exact ⟨n, rfl, by omega, by omega, by omega, by omega, g3, fun x hx => ⟨(g3 x hx).1, Int.le_trans (g3 x hx).2 (by omega)⟩⟩

theorem own_val (l : List Int) (h : l.length ≤ 1048576) : spec_l1Own.f l = some l := by
  unfold spec_l1Own.f
  simp only [Option.bind_some]
  rw [if_pos (by simp; omega)]
  simp

theorem clone_val (l : List Int) (h : l.length ≤ 1048576) : slices_Clone_int_int.f l = some l := by
  unfold slices_Clone_int_int.f
  simp only [Option.bind_some]
  rw [if_pos (by simp; omega)]
  simp

/-- What the part at i bears. -/
def partAt (l : List Int) (r i : Nat) : Int := ((l.take (i + r)).drop i).sum
def partsV (l : List Int) (r : Nat) : List Int := (List.range' 0 (l.length + 1 - r)).map (partAt l r)
theorem partsV_length (l : List Int) (r : Nat) : (partsV l r).length = l.length + 1 - r := by simp [partsV]
theorem cut_mem {l : List Int} {a b : Nat} {x : Int} (h : x ∈ (l.take a).drop b) : x ∈ l := List.mem_of_mem_take (List.mem_of_mem_drop h)
theorem sum_bd {l : List Int} {M : Int} (h : ∀ x ∈ l, 0 ≤ x ∧ x ≤ M) : 0 ≤ l.sum ∧ l.sum ≤ M * l.length := by
  induction l with
  | nil => simp
  | cons x l ih =>
    have h1 := h x List.mem_cons_self
    have h2 := ih (fun y hy => h y (List.mem_cons_of_mem _ hy))
    rw [List.sum_cons, List.length_cons, Int.natCast_add, Int.mul_add]
    constructor <;> omega
theorem partAt_bd {l : List Int} {M : Int} (h : ∀ x ∈ l, 0 ≤ x ∧ x ≤ M) (hM : 0 ≤ M) (r i : Nat) (hr : r ≤ 20) : 0 ≤ partAt l r i ∧ partAt l r i ≤ M * 20 := by
  have h1 := sum_bd (l := (l.take (i + r)).drop i) (fun x hx => h x (cut_mem hx))
  have h2 : ((l.take (i + r)).drop i).length ≤ 20 := by
    rw [List.length_drop, List.length_take]
    omega
  refine ⟨h1.1, Int.le_trans h1.2 (Int.mul_le_mul_of_nonneg_left (by omega) hM)⟩

def minV : List Int → Int
  | [] => 0
  | x :: xs => xs.foldl mn x
theorem mn_self (x : Int) : mn x x = x := by simp [mn]
theorem minV_fold {l : List Int} (h : 0 < l.length) : l.foldl mn (l.getD 0 0) = minV l := by
  cases l with
  | nil => simp at h
  | cons x xs => simp [minV, mn_self]
theorem minV_fold1 {l : List Int} (h : 0 < l.length) : (l.drop 1).foldl mn (l.getD 0 0) = minV l := by
  cases l with
  | nil => simp at h
  | cons x xs => simp [minV]
theorem foldl_mn_le (l : List Int) : ∀ m : Int, l.foldl mn m ≤ m ∧ (∀ x ∈ l, l.foldl mn m ≤ x) ∧ (l.foldl mn m = m ∨ l.foldl mn m ∈ l) := by
  induction l with
  | nil => intro m; simp
  | cons x xs ih =>
    intro m
    obtain ⟨h1, h2, h3⟩ := ih (mn m x)
    have h4 : mn m x ≤ m ∧ mn m x ≤ x ∧ (mn m x = m ∨ mn m x = x) := by unfold mn; split <;> omega
    rw [List.foldl_cons]
    refine ⟨by omega, fun y hy => ?_, ?_⟩
    · rcases List.mem_cons.1 hy with rfl | hy
      · omega
      · exact h2 y hy
    · rcases h3 with h3 | h3
      · rcases h4.2.2 with h5 | h5
        · left; omega
        · right; rw [h3, h5]; exact List.mem_cons_self
      · right; exact List.mem_cons_of_mem _ h3
theorem minV_le {l : List Int} {x : Int} (h : x ∈ l) : minV l ≤ x := by
  cases l with
  | nil => cases h
  | cons y ys =>
    have := foldl_mn_le ys y
    rcases List.mem_cons.1 h with rfl | h
    · exact this.1
    · exact this.2.1 x h
theorem minV_mem {l : List Int} (h : 0 < l.length) : minV l ∈ l := by
  cases l with
  | nil => simp at h
  | cons y ys =>
    have := foldl_mn_le ys y
    rcases this.2.2 with h | h
    · show ys.foldl mn y ∈ y :: ys
      rw [h]; exact List.mem_cons_self
    · exact List.mem_cons_of_mem _ h

theorem wp_l1 (x0 : List Int) (x1 : Int) (x5 : List Int) (x6 : Int) (s : List Int) (hs : s.length ≤ 1000) (hb : ∀ x ∈ s, 0 ≤ x ∧ x ≤ 2000) (hx : x5.length < 17592186044416) (r : List Int) :
    ∀ (d i : Nat) (acc : Int), s.length - i = d → i ≤ s.length → 0 ≤ acc → acc ≤ 2000 * (i : Int) →
      Ev (fun k => spec_weParts.l0 k x0 x1 (x5 ++ [acc + (s.drop i).sum]) (wrap64 (x6 + 1))) r → Ev (fun k => spec_weParts.l1 k x0 x1 x5 x6 acc s (s.length : Int) (i : Int)) r := by
  intro d
  induction d with
  | zero =>
    intro i acc hd hi h0 h1 ht
    rw [List.drop_eq_nil_of_le (by omega), List.sum_nil, Int.add_zero] at ht
    refine Ev.step (fun k => ?_) ht
    simp only [spec_weParts.l1]
    rw [if_neg (by omega), if_pos hx]
  | succ d ih =>
    intro i acc hd hi h0 h1 ht
    have hg := getD_bd hb (i := i) (by omega)
    have hw : wrap64 (acc + s.getD i 0) = acc + s.getD i 0 := by
      unfold wrap64
      omega
    refine Ev.step (f := fun k => spec_weParts.l1 k x0 x1 x5 x6 (acc + s.getD i 0) s (s.length : Int) ((i + 1 : Nat) : Int)) (fun k => ?_) (ih (i + 1) _ (by omega) (by omega) (by omega) (by omega) ?_)
    · simp only [spec_weParts.l1]
      rw [if_pos (by omega), if_pos (by omega), if_pos (by omega), rd_nat, hw, wsucc i (by omega)]
    · rw [drop_cons s i (by omega), List.sum_cons, ← Int.add_assoc] at ht
      exact ht
theorem wp_l0 (l : List Int) (hl : l.length ≤ 1000) (hb : ∀ x ∈ l, 0 ≤ x ∧ x ≤ 2000) (r : Nat) (hr : r ≤ 20) : ∀ (d i : Nat) (out : List Int), l.length + 1 - r - i = d → i ≤ l.length + 1 → out.length ≤ i →
      Ev (fun k => spec_weParts.l0 k l (r : Int) out (i : Int)) (out ++ (List.range' i d).map (partAt l r)) := by
  intro d
  induction d with
  | zero =>
    intro i out hd hi ho
    have hw : wrap64 ((i : Int) + (r : Int)) = ((i + r : Nat) : Int) := by
      unfold wrap64
      omega
    rw [List.range'_zero, List.map_nil, List.append_nil]
    refine Ev.step (fun k => ?_) (Ev.now out)
    simp only [spec_weParts.l0]
    rw [hw, if_neg (by omega)]
  | succ d ih =>
    intro i out hd hi ho
    have hw : wrap64 ((i : Int) + (r : Int)) = ((i + r : Nat) : Int) := by
      unfold wrap64
      omega
    refine Ev.step (f := fun k => spec_weParts.l1 k l (r : Int) out (i : Int) 0 ((l.take (i + r)).drop i) (((l.take (i + r)).drop i).length : Int) ((0 : Nat) : Int)) (fun k => ?_) ?_
    · simp only [spec_weParts.l0]
      rw [hw, if_pos (by omega), if_pos (by omega), if_pos (by omega), Int.toNat_natCast, Int.toNat_natCast]
      rfl
    · refine wp_l1 l (r : Int) out (i : Int) _ (by rw [List.length_drop, List.length_take]; omega) (fun x hx => hb x (cut_mem hx)) (by omega) _ _ 0 0 rfl (by omega) (by omega) (by omega) ?_
      rw [wsucc i (by omega), List.drop_zero, Int.zero_add, List.range'_succ, List.map_cons]
      have h := ih (i + 1) (out ++ [partAt l r i]) (by omega) (by omega) (by rw [List.length_append, List.length_singleton]; omega)
      rw [List.append_assoc] at h
      exact h
theorem wp_ev (l : List Int) (hl : l.length ≤ 1000) (hb : ∀ x ∈ l, 0 ≤ x ∧ x ≤ 2000) (r : Nat) (hr : r ≤ 20) : Ev (fun k => spec_weParts.f k l (r : Int)) (partsV l r) := by
  unfold spec_weParts.f
  exact wp_l0 l hl hb r hr _ 0 [] rfl (by omega) (by simp)

theorem ip_l1 (x0 : List Int) (x1 : Int) (x5 : List Int) (x6 : Int) (s : List Int) (hs : s.length ≤ 1000) (hb : ∀ x ∈ s, 0 ≤ x ∧ x ≤ 2000) (hx : x5.length < 17592186044416) (r : List Int) :
    ∀ (d i : Nat) (acc : Int), s.length - i = d → i ≤ s.length → 0 ≤ acc → acc ≤ 2000 * (i : Int) →
      Ev (fun k => impl_partSums.l0 k x0 x1 (x5 ++ [acc + (s.drop i).sum]) (wrap64 (x6 + 1))) r → Ev (fun k => impl_partSums.l1 k x0 x1 x5 x6 acc s (s.length : Int) (i : Int)) r := by
  intro d
  induction d with
  | zero =>
    intro i acc hd hi h0 h1 ht
    rw [List.drop_eq_nil_of_le (by omega), List.sum_nil, Int.add_zero] at ht
    refine Ev.step (fun k => ?_) ht
    simp only [impl_partSums.l1]
    rw [if_neg (by omega), if_pos hx]
  | succ d ih =>
    intro i acc hd hi h0 h1 ht
    have hg := getD_bd hb (i := i) (by omega)
    have hw : wrap64 (acc + s.getD i 0) = acc + s.getD i 0 := by
      unfold wrap64
      omega
    refine Ev.step (f := fun k => impl_partSums.l1 k x0 x1 x5 x6 (acc + s.getD i 0) s (s.length : Int) ((i + 1 : Nat) : Int)) (fun k => ?_) (ih (i + 1) _ (by omega) (by omega) (by omega) (by omega) ?_)
    · simp only [impl_partSums.l1]
      rw [if_pos (by omega), if_pos (by omega), if_pos (by omega), rd_nat, hw, wsucc i (by omega)]
    · rw [drop_cons s i (by omega), List.sum_cons, ← Int.add_assoc] at ht
      exact ht
theorem ip_l0 (l : List Int) (hl : l.length ≤ 1000) (hb : ∀ x ∈ l, 0 ≤ x ∧ x ≤ 2000) (r : Nat) (hr : r ≤ 20) : ∀ (d i : Nat) (out : List Int), l.length + 1 - r - i = d → i ≤ l.length + 1 → out.length ≤ i →
      Ev (fun k => impl_partSums.l0 k l (r : Int) out (i : Int)) (out ++ (List.range' i d).map (partAt l r)) := by
  intro d
  induction d with
  | zero =>
    intro i out hd hi ho
    have hw : wrap64 ((i : Int) + (r : Int)) = ((i + r : Nat) : Int) := by
      unfold wrap64
      omega
    rw [List.range'_zero, List.map_nil, List.append_nil]
    refine Ev.step (fun k => ?_) (Ev.now out)
    simp only [impl_partSums.l0]
    rw [hw, if_neg (by omega)]
  | succ d ih =>
    intro i out hd hi ho
    have hw : wrap64 ((i : Int) + (r : Int)) = ((i + r : Nat) : Int) := by
      unfold wrap64
      omega
    refine Ev.step (f := fun k => impl_partSums.l1 k l (r : Int) out (i : Int) 0 ((l.take (i + r)).drop i) (((l.take (i + r)).drop i).length : Int) ((0 : Nat) : Int)) (fun k => ?_) ?_
    · simp only [impl_partSums.l0]
      rw [hw, if_pos (by omega), if_pos (by omega), if_pos (by omega), Int.toNat_natCast, Int.toNat_natCast]
      rfl
    · refine ip_l1 l (r : Int) out (i : Int) _ (by rw [List.length_drop, List.length_take]; omega) (fun x hx => hb x (cut_mem hx)) (by omega) _ _ 0 0 rfl (by omega) (by omega) (by omega) ?_
      rw [wsucc i (by omega), List.drop_zero, Int.zero_add, List.range'_succ, List.map_cons]
      have h := ih (i + 1) (out ++ [partAt l r i]) (by omega) (by omega) (by rw [List.length_append, List.length_singleton]; omega)
      rw [List.append_assoc] at h
      exact h
theorem ip_ev (l : List Int) (hl : l.length ≤ 1000) (hb : ∀ x ∈ l, 0 ≤ x ∧ x ≤ 2000) (r : Nat) (hr : r ≤ 20) : Ev (fun k => impl_partSums.f k l (r : Int)) (partsV l r) := by
  unfold impl_partSums.f
  exact ip_l0 l hl hb r hr _ 0 [] rfl (by omega) (by simp)

def mostV (l : List Int) (r : Nat) : Int := minV (partsV l r)
theorem least_val (a b : Int) : spec_l1Least.f a b = some (mn a b) := by
  unfold spec_l1Least.f mn
  by_cases h : a < b
  · rw [if_pos h, if_neg (by omega)]
  · by_cases h2 : b < a
    · rw [if_neg h, if_pos h2]
    · rw [if_neg h, if_neg h2]
      congr 1
      omega
theorem weMost_l (s : List Int) (hs : s.length ≤ 2000) : ∀ (d i : Nat) (m : Int), s.length - i = d → i ≤ s.length → Ev (fun k => spec_weMost.l0 k m s (s.length : Int) (i : Int)) ((s.drop i).foldl mn m) := by
  intro d
  induction d with
  | zero =>
    intro i m hd hi
    rw [List.drop_eq_nil_of_le (by omega)]
    refine Ev.step (fun k => ?_) (Ev.now m)
    simp only [spec_weMost.l0]
    rw [if_neg (by omega)]
  | succ d ih =>
    intro i m hd hi
    rw [drop_cons s i (by omega), List.foldl_cons]
    refine Ev.step (f := fun k => spec_weMost.l0 k (mn m (s.getD i 0)) s (s.length : Int) ((i + 1 : Nat) : Int)) (fun k => ?_) (ih (i + 1) _ (by omega) (by omega))
    simp only [spec_weMost.l0]
    rw [if_pos (by omega), if_pos (by omega), if_pos (by omega), rd_nat, least_val, wsucc i (by omega)]
    rfl
theorem min_l (s : List Int) (hs : s.length ≤ 2000) : ∀ (d i : Nat) (m : Int), s.length - i = d → i ≤ s.length → Ev (fun k => slices_Min_int_int.l0 k s m (i : Int)) ((s.drop i).foldl mn m) := by
  intro d
  induction d with
  | zero =>
    intro i m hd hi
    rw [List.drop_eq_nil_of_le (by omega)]
    refine Ev.step (fun k => ?_) (Ev.now m)
    simp only [slices_Min_int_int.l0]
    rw [if_neg (by omega)]
  | succ d ih =>
    intro i m hd hi
    rw [drop_cons s i (by omega), List.foldl_cons]
    refine Ev.step (f := fun k => slices_Min_int_int.l0 k s (mn m (s.getD i 0)) ((i + 1 : Nat) : Int)) (fun k => ?_) (ih (i + 1) _ (by omega) (by omega))
    simp only [slices_Min_int_int.l0]
    rw [if_pos (by omega), if_pos (by omega), rd_nat, wsucc i (by omega)]
theorem weMost_ev (l : List Int) (hl : l.length ≤ 1000) (hb : ∀ x ∈ l, 0 ≤ x ∧ x ≤ 2000) (r : Nat) (hr : r ≤ 20) (hp : r ≤ l.length) : Ev (fun k => spec_weMost.f k l (r : Int)) (mostV l r) := by
  unfold spec_weMost.f
  refine Ev.bind (wp_ev l hl hb r hr) ?_
  have hlen : (partsV l r).length = l.length + 1 - r := partsV_length l r
  refine Ev.congr (f := fun k => spec_weMost.l0 k ((partsV l r).getD 0 0) (partsV l r) ((partsV l r).length : Int) ((0 : Nat) : Int)) (fun k => ?_) ?_
  · rw [if_pos (by omega)]
    rfl
  · have h := weMost_l (partsV l r) (by omega) _ 0 ((partsV l r).getD 0 0) rfl (by omega)
    rw [List.drop_zero, minV_fold (by omega)] at h
    exact h
theorem mostWears_ev (l : List Int) (hl : l.length ≤ 1000) (hb : ∀ x ∈ l, 0 ≤ x ∧ x ≤ 2000) (r : Nat) (hr : r ≤ 20) (hp : r ≤ l.length) : Ev (fun k => impl_mostWears.f k l (r : Int)) (mostV l r) := by
  unfold impl_mostWears.f
  refine Ev.bind (ip_ev l hl hb r hr) ?_
  have hlen : (partsV l r).length = l.length + 1 - r := partsV_length l r
  refine Ev.bind (a := mostV l r) ?_ (Ev.now _)
  unfold slices_Min_int_int.f
  refine Ev.congr (f := fun k => slices_Min_int_int.l0 k (partsV l r) ((partsV l r).getD 0 0) ((1 : Nat) : Int)) (fun k => ?_) ?_
  · rw [if_neg (by omega), if_pos (by omega)]
    rfl
  · have h := min_l (partsV l r) (by omega) _ 1 ((partsV l r).getD 0 0) rfl (by omega)
    rw [minV_fold1 (by omega)] at h
    exact h
theorem mostV_bd {l : List Int} (hb : ∀ x ∈ l, 0 ≤ x ∧ x ≤ 2000) {r : Nat} (hr : r ≤ 20) (hp : r ≤ l.length) : 0 ≤ mostV l r ∧ mostV l r ≤ 40000 := by
  have h : mostV l r ∈ partsV l r := minV_mem (by rw [partsV_length]; omega)
  obtain ⟨i, _, hi⟩ := List.mem_map.1 h
  have := partAt_bd hb (by omega) r i hr
  omega

/-- The sum of the first ones. -/
def pre (l : List Int) (j : Nat) : Int := (l.take j).sum
theorem pre_zero (l : List Int) : pre l 0 = 0 := by simp [pre]
theorem pre_all (l : List Int) : pre l l.length = l.sum := by simp [pre]
theorem pre_succ (l : List Int) (i : Nat) (h : i < l.length) : pre l (i + 1) = pre l i + l.getD i 0 := by
  unfold pre
  rw [take_get_succ l i h, List.sum_append]
  simp
theorem pre_part (l : List Int) (r i : Nat) : pre l (i + r) = pre l i + partAt l r i := by
  have h := congrArg List.sum (List.take_append_drop i (l.take (i + r)))
  rw [List.sum_append, List.take_take, Nat.min_eq_left (Nat.le_add_right i r)] at h
  exact h.symm
theorem getD_set' (x : List Int) (i : Nat) (v : Int) (j : Nat) (hi : i < x.length) : (x.set i v).getD j 0 = if i = j then v else x.getD j 0 := by
  rw [List.getD_eq_getElem?_getD, List.getD_eq_getElem?_getD, List.getElem?_set]
  by_cases h : i = j
  · rw [if_pos h, if_pos h, if_pos hi]
    rfl
  · rw [if_neg h, if_neg h]
theorem pre_set (l : List Int) (p : Nat) (t : Int) (hp : p < l.length) : ∀ j, j ≤ l.length → pre (l.set p (l.getD p 0 + t)) j = pre l j + (if p < j then t else 0) := by
  intro j
  induction j with
  | zero => intro _; rw [pre_zero, pre_zero, if_neg (by omega)]; rfl
  | succ j ih =>
    intro h
    rw [pre_succ _ _ (by rw [List.length_set]; omega), pre_succ _ _ (by omega), ih (by omega), getD_set' _ _ _ _ hp]
    by_cases h1 : p = j
    · subst h1
      rw [if_pos rfl, if_neg (Nat.lt_irrefl p), if_pos (Nat.lt_succ_self p)]
      omega
    · rw [if_neg h1]
      by_cases h2 : p < j
      · rw [if_pos h2, if_pos (by omega)]
        omega
      · rw [if_neg h2, if_neg (by omega)]
        omega
/-- At no place greater. -/
def Lq (a b : List Int) : Prop := a.length = b.length ∧ ∀ i, i < a.length → a.getD i 0 ≤ b.getD i 0
theorem Lq.self (a : List Int) : Lq a a := ⟨rfl, fun _ _ => Int.le_refl _⟩
theorem Lq.trans {a b c : List Int} (h : Lq a b) (k : Lq b c) : Lq a c := ⟨h.1.trans k.1, fun i hi => Int.le_trans (h.2 i hi) (k.2 i (by rw [← h.1]; exact hi))⟩
theorem pre_diff {a b : List Int} (h : Lq a b) : ∀ d i, i + d ≤ a.length → pre a (i + d) - pre a i ≤ pre b (i + d) - pre b i := by
  intro d
  induction d with
  | zero => intro i _; rw [Nat.add_zero]; omega
  | succ d ih =>
    intro i hi
    have h1 := ih i (by omega)
    have h2 := h.2 (i + d) (by omega)
    have h3 := h.1
    rw [show i + (d + 1) = i + d + 1 by omega, pre_succ _ _ (by omega), pre_succ _ _ (by omega)]
    omega
theorem part_mono {a b : List Int} (h : Lq a b) (r i : Nat) (hi : i + r ≤ a.length) : partAt a r i ≤ partAt b r i := by
  have h1 := pre_diff h r i hi
  rw [pre_part, pre_part] at h1
  omega
theorem part_sum {a b : List Int} (h : Lq a b) (r i : Nat) (hi : i + r ≤ a.length) : partAt b r i - partAt a r i ≤ b.sum - a.sum := by
  have h1 := pre_diff h i 0 (by omega)
  have h2 := pre_diff h (a.length - (i + r)) (i + r) (by omega)
  rw [show i + r + (a.length - (i + r)) = a.length by omega, pre_all] at h2
  rw [h.1, pre_all] at h2
  rw [Nat.zero_add, pre_zero, pre_zero] at h1
  rw [pre_part, pre_part] at h2
  omega
theorem mostV_le {l : List Int} {r i : Nat} (h : i + r ≤ l.length) : mostV l r ≤ partAt l r i :=
  minV_le (List.mem_map.2 ⟨i, List.mem_range'_1.2 (by omega), rfl⟩)
theorem mostV_at {l : List Int} {r : Nat} (h : r ≤ l.length) : ∃ i, i + r ≤ l.length ∧ mostV l r = partAt l r i := by
  have h1 : mostV l r ∈ partsV l r := minV_mem (by rw [partsV_length]; omega)
  obtain ⟨i, h2, h3⟩ := List.mem_map.1 h1
  have h4 := List.mem_range'_1.1 h2
  exact ⟨i, by omega, h3.symm⟩
theorem mostV_mono {a b : List Int} (h : Lq a b) {r : Nat} (hr : r ≤ a.length) : mostV a r ≤ mostV b r := by
  obtain ⟨i, h1, h2⟩ := mostV_at (l := b) (r := r) (by rw [← h.1]; exact hr)
  rw [h2]
  exact Int.le_trans (mostV_le (by rw [h.1]; exact h1)) (part_mono h r i (by rw [h.1]; exact h1))
/-- One step lost. -/
theorem Lq.set {l : List Int} (hb : ∀ x ∈ l, 0 ≤ x ∧ x ≤ 2000) (j : Nat) : Lq (l.set j 0) l := by
  refine ⟨List.length_set, fun i hi => ?_⟩
  rw [List.length_set] at hi
  have h := getD_bd hb hi
  by_cases hj : j < l.length
  · rw [getD_set' _ _ _ _ hj]
    split <;> omega
  · rw [List.set_eq_of_length_le (by omega)]
    exact Int.le_refl _
/-- The greedy mending, before the part at q is looked at. -/
def MendI (l : List Int) (c : Int) (r q : Nat) (out : List Int) : Prop :=
  Lq l out ∧ (∀ i, i < q → c ≤ partAt out r i) ∧ ∀ P, Lq l P → (∀ i, i + r ≤ l.length → c ≤ partAt P r i) → ∀ j, j ≤ l.length → pre out j ≤ pre P j
theorem MendI.start (l : List Int) (c : Int) (r : Nat) : MendI l c r 0 l := by
  refine ⟨Lq.self l, fun i hi => by omega, fun P hP _ j hj => ?_⟩
  have := pre_diff hP j 0 (by omega)
  rw [Nat.zero_add, pre_zero, pre_zero] at this
  omega
theorem drop_get {a b : List Int} {p : Nat} (h : a.drop p = b.drop p) (k : Nat) : a.getD (p + k) 0 = b.getD (p + k) 0 := by
  have := congrArg (fun x => x[k]?.getD 0) h
  simpa [List.getD_eq_getElem?_getD] using this
theorem MendI.next {l : List Int} {c : Int} {r q : Nat} {out : List Int} (h1 : 1 ≤ r) (hq : r + q ≤ l.length) (ho : out.length = l.length) (hd : out.drop (r + q - 1) = l.drop (r + q - 1)) (h : MendI l c r q out) (t : Int) (ht0 : 0 ≤ t)
    (ht : 0 < c - partAt out r q → t = c - partAt out r q) (ht' : c - partAt out r q ≤ 0 → t = 0) : MendI l c r (q + 1) (out.set (r + q - 1) (out.getD (r + q - 1) 0 + t)) := by
  obtain ⟨a1, a2, a3⟩ := h
  obtain ⟨p, hp⟩ : ∃ p, p = r + q - 1 := ⟨_, rfl⟩
  rw [← hp] at hd ⊢
  have hpo : p < out.length := by omega
  have hps := pre_set out p t hpo
  have hpart : ∀ i, i + r ≤ l.length → partAt (out.set p (out.getD p 0 + t)) r i = partAt out r i + (if p < i + r then t else 0) - (if p < i then t else 0) := by
    intro i hi
    have e1 := pre_part (out.set p (out.getD p 0 + t)) r i
    have e2 := pre_part out r i
    rw [hps _ (by omega), hps _ (by omega)] at e1
    omega
  refine ⟨⟨by rw [List.length_set, ho], fun i hi => ?_⟩, fun i hi => ?_, fun P hP hw j hj => ?_⟩
  · have := a1.2 i hi
    rw [getD_set' _ _ _ _ hpo]
    split
    · subst_vars; omega
    · exact this
  · rw [hpart i (by omega)]
    by_cases hi' : i = q
    · subst hi'
      rw [if_pos (by omega), if_neg (by omega)]
      omega
    · have := a2 i (by omega)
      rw [if_neg (show ¬ p < i by omega)]
      split <;> omega
  · have b := a3 P hP hw
    rw [hps _ (by omega)]
    by_cases hjp : p < j
    · rw [if_pos hjp]
      by_cases hpos : 0 < c - partAt out r q
      · have hsame : ∀ d, q + r + d ≤ l.length → pre out (q + r + d) - pre out (q + r) = pre l (q + r + d) - pre l (q + r) := by
          intro d
          induction d with
          | zero => intro _; rw [Nat.add_zero]; omega
          | succ d ih =>
            intro hd'
            have e := drop_get hd (d + 1)
            rw [show p + (d + 1) = q + r + d by omega] at e
            rw [show q + r + (d + 1) = q + r + d + 1 by omega, pre_succ _ _ (by omega), pre_succ _ _ (by omega), e]
            have := ih (by omega)
            omega
        have c1 := hsame (j - (q + r)) (by omega)
        have c2 := pre_diff hP (j - (q + r)) (q + r) (by omega)
        rw [show q + r + (j - (q + r)) = j by omega] at c1 c2
        have c3 := b q (by omega)
        have c4 := hw q (by omega)
        have c5 := pre_part out r q
        have c6 := pre_part P r q
        have c7 := ht hpos
        omega
      · have := b j hj
        have := ht' (by omega)
        omega
    · rw [if_neg hjp]
      have := b j hj
      omega

theorem most_val (a b : Int) : spec_l1Most.f a b = some (mx a b) := by
  unfold spec_l1Most.f mx
  by_cases h : a > b
  · rw [if_pos h, if_neg (by omega)]
  · by_cases h2 : a < b
    · rw [if_neg h, if_pos h2]
    · rw [if_neg h, if_neg h2]
      congr 1
      omega
theorem sum_set (l : List Int) : ∀ (i : Nat) (v : Int), i < l.length → (l.set i v).sum = l.sum - l.getD i 0 + v := by
  induction l with
  | nil => intro i v h; simp at h
  | cons x l ih =>
    intro i v h
    cases i with
    | zero => simp; omega
    | succ i =>
      rw [List.set_cons_succ, List.sum_cons, List.sum_cons, ih i v (by simpa using h)]
      simp only [List.getD_cons_succ]
      omega
theorem set_self (l : List Int) (i : Nat) (h : i < l.length) : l.set i (l.getD i 0) = l := by
  rw [List.getD_eq_getElem?_getD, List.getElem?_eq_getElem h]
  exact List.set_getElem_self h
theorem wm_l1 (r c : Int) (out : List Int) (k : Int) (s : List Int) (hs : s.length ≤ 1000) (hb : ∀ x ∈ s, 0 ≤ x ∧ x ≤ 2000) (R : List Int) (T : Int)
    (tail : Ev (fun j => if 0 ≤ (wrap64 (k - 1)) then (if (wrap64 (k - 1)) < (out.length : Int) then ((spec_l1Most.f 0 (wrap64 (c - T))).bind fun t => (spec_weMend.l0 j r c (out.set ((wrap64 (k - 1)) : Int).toNat (wrap64 ((rd out (wrap64 (k - 1))) + t))) (wrap64 (k + 1)))) else none) else none) R) :
    ∀ (d i : Nat) (acc : Int), s.length - i = d → i ≤ s.length → 0 ≤ acc → acc ≤ 2000 * (i : Int) → acc + (s.drop i).sum = T → Ev (fun j => spec_weMend.l1 j r c out k acc s (s.length : Int) (i : Int)) R := by
  intro d
  induction d with
  | zero =>
    intro i acc hd hi h0 h1 ht
    rw [List.drop_eq_nil_of_le (by omega), List.sum_nil, Int.add_zero] at ht
    subst ht
    refine Ev.step (fun j => ?_) tail
    simp only [spec_weMend.l1]
    rw [if_neg (by omega)]
  | succ d ih =>
    intro i acc hd hi h0 h1 ht
    have hg := getD_bd hb (i := i) (by omega)
    have hw : wrap64 (acc + s.getD i 0) = acc + s.getD i 0 := w_id (by omega) (by omega)
    refine Ev.step (f := fun j => spec_weMend.l1 j r c out k (acc + s.getD i 0) s (s.length : Int) ((i + 1 : Nat) : Int)) (fun j => ?_) (ih (i + 1) _ (by omega) (by omega) (by omega) (by omega) ?_)
    · simp only [spec_weMend.l1]
      rw [if_pos (by omega), if_pos (by omega), if_pos (by omega), rd_nat, hw, wsucc i (by omega)]
    · rw [drop_cons s i (by omega), List.sum_cons, ← Int.add_assoc] at ht
      exact ht
theorem lm_l1 (r c : Int) (out : List Int) (sm k : Int) (s : List Int) (hs : s.length ≤ 1000) (hb : ∀ x ∈ s, 0 ≤ x ∧ x ≤ 2000) (R : List Int × Int) (T : Int)
    (tail : Ev (fun j => if T > 0 then (if 0 ≤ (wrap64 ((wrap64 (k + r)) - 1)) then (if (wrap64 ((wrap64 (k + r)) - 1)) < (out.length : Int) then (impl_lateMend.l0 j r c (out.set ((wrap64 ((wrap64 (k + r)) - 1)) : Int).toNat (wrap64 ((rd out (wrap64 ((wrap64 (k + r)) - 1))) + T))) (wrap64 (sm + T)) (wrap64 (k + 1))) else none) else none) else impl_lateMend.l0 j r c out sm (wrap64 (k + 1))) R) :
    ∀ (d i : Nat) (acc : Int), s.length - i = d → i ≤ s.length → acc ≤ 1000 → -(2000 * (i : Int)) ≤ acc → acc - (s.drop i).sum = T → Ev (fun j => impl_lateMend.l1 j r c out sm k acc s (s.length : Int) (i : Int)) R := by
  intro d
  induction d with
  | zero =>
    intro i acc hd hi h0 h1 ht
    rw [List.drop_eq_nil_of_le (by omega), List.sum_nil, Int.sub_zero] at ht
    subst ht
    refine Ev.step (fun j => ?_) tail
    simp only [impl_lateMend.l1]
    rw [if_neg (by omega)]
  | succ d ih =>
    intro i acc hd hi h0 h1 ht
    have hg := getD_bd hb (i := i) (by omega)
    have hw : wrap64 (acc - s.getD i 0) = acc - s.getD i 0 := w_id (by omega) (by omega)
    refine Ev.step (f := fun j => impl_lateMend.l1 j r c out sm k (acc - s.getD i 0) s (s.length : Int) ((i + 1 : Nat) : Int)) (fun j => ?_) (ih (i + 1) _ (by omega) (by omega) (by omega) (by omega) ?_)
    · simp only [impl_lateMend.l1]
      rw [if_pos (by omega), if_pos (by omega), if_pos (by omega), rd_nat, hw, wsucc i (by omega)]
    · rw [drop_cons s i (by omega), List.sum_cons] at ht
      omega
/-- Both programs mend alike; what is put on is what the sum grows by. -/
theorem mend_both (l : List Int) (h4 : l.length ≤ 20) (h5 : ∀ x ∈ l, 0 ≤ x ∧ x ≤ 100) (r : Nat) (h1 : 1 ≤ r) (hr : r ≤ 20) (c : Int) (c0 : 0 ≤ c) (c1 : c ≤ 1000) : ∀ (d q : Nat) (out : List Int) (sm : Int), l.length + 1 - (r + q) = d → r + q ≤ l.length + 1 →
    out.length = l.length → out.drop (r + q - 1) = l.drop (r + q - 1) → (∀ x ∈ out, 0 ≤ x ∧ x ≤ 2000) → sm = out.sum - l.sum →
    MendI l c r q out → ∃ m, Ev (fun j => spec_weMend.l0 j (r : Int) c out ((r + q : Nat) : Int)) m ∧ Ev (fun j => impl_lateMend.l0 j (r : Int) c out sm (q : Int)) (m, m.sum - l.sum) ∧ m.length = l.length ∧ (∀ x ∈ m, 0 ≤ x ∧ x ≤ 2000) ∧ MendI l c r (l.length + 1 - r) m := by
  intro d
  induction d with
  | zero =>
    intro q out sm hd hk ho hdr hb hsm hI
    have eq : q = l.length + 1 - r := by omega
    have g1 : ¬ ((r + q : Nat) : Int) ≤ (out.length : Int) := by omega
    have g2 : ¬ ((q + r : Nat) : Int) ≤ (out.length : Int) := by omega
    have b1 : q ≤ 1000000000 := by omega
    have b2 : r ≤ 1000000000 := by omega
    refine ⟨out, Ev.step (fun j => ?_) (Ev.now _), Ev.step (fun j => ?_) (Ev.now _), ho, hb, eq ▸ hI⟩
    · simp only [spec_weMend.l0]
      rw [if_neg g1]
    · simp only [impl_lateMend.l0]
      rw [w_add q r b1 b2, if_neg g2, hsm]
  | succ d ih =>
    intro q out sm hd hk ho hdr hb hsm hI
    have hdr0 := hdr
    obtain ⟨p, hp⟩ : ∃ p, p = r + q - 1 := ⟨_, rfl⟩
    have hpk : r + q = p + 1 := by omega
    have hpl : p < l.length := by omega
    have hpo : p < out.length := by omega
    have b1 : q ≤ 1000000000 := by omega
    have b2 : r ≤ 1000000000 := by omega
    have b3 : r + q ≤ 1000000000 := by omega
    rw [← hp] at hdr
    have hcl : ((out.take (r + q)).drop q).length ≤ 20 := by rw [List.length_drop, List.length_take]; omega
    have hcb : ∀ x ∈ (out.take (r + q)).drop q, 0 ≤ x ∧ x ≤ 2000 := fun x hx => hb x (cut_mem hx)
    have hsb := sum_bd hcb
    obtain ⟨cut, hcut⟩ : ∃ cut, cut = (out.take (r + q)).drop q := ⟨_, rfl⟩
    rw [← hcut] at hcl hcb hsb
    obtain ⟨S, hS⟩ : ∃ S, S = cut.sum := ⟨_, rfl⟩
    have hS0 : 0 ≤ S ∧ S ≤ 40000 := by omega
    have hg := getD_bd hb hpo
    have hgl : out.getD p 0 = l.getD p 0 := by
      have e1 := drop_cons out p hpo
      have e2 := drop_cons l p hpl
      rw [hdr, e2] at e1
      exact (List.cons.inj e1).1.symm
    have hg2 := getD_bd h5 hpl
    have hos := sum_bd hb
    have hls := sum_bd h5
    have hsm0 : -2000 ≤ sm ∧ sm ≤ 40000 := by omega
    obtain ⟨t, ht⟩ : ∃ t, t = mx 0 (c - S) := ⟨_, rfl⟩
    have ht0 : 0 ≤ t ∧ t ≤ 1000 ∧ (0 < c - S → t = c - S) ∧ (c - S ≤ 0 → t = 0) := by
      rw [ht]
      unfold mx
      split <;> omega
    have hgt : 0 ≤ out.getD p 0 + t ∧ out.getD p 0 + t ≤ 2000 := by omega
    obtain ⟨out2, ho2⟩ : ∃ o, o = out.set p (out.getD p 0 + t) := ⟨_, rfl⟩
    have hl2 : out2.length = l.length := by rw [ho2, List.length_set, ho]
    have hd2 : out2.drop (r + (q + 1) - 1) = l.drop (r + (q + 1) - 1) := by
      have e : r + (q + 1) - 1 = p + 1 := by omega
      rw [e, ho2, List.drop_set_of_lt (by omega), ← List.drop_drop, hdr, List.drop_drop]
    have hb2 : ∀ x ∈ out2, 0 ≤ x ∧ x ≤ 2000 := by
      rw [ho2]
      intro x hx
      rcases List.mem_or_eq_of_mem_set hx with hx | rfl
      · exact hb x hx
      · exact hgt
    have hsum2 : out2.sum = out.sum + t := by
      rw [ho2, sum_set _ _ _ hpo]
      omega
    have hcp : S = partAt out r q := by rw [hS, hcut, Nat.add_comm r q]; rfl
    have hI2 : MendI l c r (q + 1) out2 := by
      have := MendI.next h1 (by omega) ho hdr0 hI t ht0.1 (by rw [← hcp]; exact ht0.2.2.1) (by rw [← hcp]; exact ht0.2.2.2)
      rw [← hp, ← ho2] at this
      exact this
    obtain ⟨m, hs, hi, hm1, hm2, hm3⟩ := ih (q + 1) out2 (sm + t) (by omega) (by omega) hl2 hd2 hb2 (by omega) hI2
    have g1 : ((r + q : Nat) : Int) ≤ (out.length : Int) := by omega
    have g2 : (0 : Int) ≤ ((r + q - r : Nat) : Int) := by omega
    have g3 : ((r + q - r : Nat) : Int) ≤ ((r + q : Nat) : Int) := by omega
    have g4 : (0 : Int) ≤ (p : Int) := by omega
    have g5 : (p : Int) < (out.length : Int) := by omega
    have g6 : (0 : Int) ≤ (q : Int) := by omega
    have g7 : (q : Int) ≤ ((q + r : Nat) : Int) := by omega
    have g8 : ((q + r : Nat) : Int) ≤ (out.length : Int) := by omega
    have g9 : r ≤ r + q := Nat.le_add_right r q
    have g10 : cut.length ≤ 1000 := by omega
    have g11 : (0 : Int) ≤ 2000 * ((0 : Nat) : Int) := by omega
    have g12 : -(2000 * ((0 : Nat) : Int)) ≤ c := by omega
    have b4 : 1 ≤ r + q := by omega
    have b5 : r + q < 4611686018427387904 := by omega
    have b6 : q < 4611686018427387904 := by omega
    have n1 : -4611686018427387904 ≤ c - S ∧ c - S ≤ 4611686018427387904 := by omega
    have n2 : -4611686018427387904 ≤ out.getD p 0 + t ∧ out.getD p 0 + t ≤ 4611686018427387904 := by omega
    have n3 : -4611686018427387904 ≤ sm + t ∧ sm + t ≤ 4611686018427387904 := by omega
    have hwc : wrap64 (c - S) = c - S := w_id n1.1 n1.2
    have hwv : wrap64 (out.getD p 0 + t) = out.getD p 0 + t := w_id n2.1 n2.2
    have hwm : wrap64 (sm + t) = sm + t := w_id n3.1 n3.2
    have hwp : wrap64 (((r + q : Nat) : Int) - 1) = (p : Int) := by
      rw [w_pred (r + q) b4 b3, hp]
    have hwq : wrap64 (((q + r : Nat) : Int) - 1) = (p : Int) := by
      rw [Nat.add_comm q r]
      exact hwp
    have hw4 : wrap64 (((r + q : Nat) : Int) + 1) = ((r + (q + 1) : Nat) : Int) := wsucc (r + q) b5
    have hw5 := wsucc q b6
    rw [← hw4] at hs
    rw [← hw5] at hi
    refine ⟨m, Ev.step (f := fun j => spec_weMend.l1 j (r : Int) c out ((r + q : Nat) : Int) 0 cut (cut.length : Int) ((0 : Nat) : Int)) (fun j => ?_) ?_,
      Ev.step (f := fun j => impl_lateMend.l1 j (r : Int) c out sm (q : Int) c cut (cut.length : Int) ((0 : Nat) : Int)) (fun j => ?_) ?_, hm1, hm2, hm3⟩
    · simp only [spec_weMend.l0]
      rw [w_sub (r + q) r g9 b3, if_pos g1, if_pos g2, if_pos g3, Int.toNat_natCast, Int.toNat_natCast, Nat.add_sub_cancel_left, ← hcut]
      rfl
    · refine wm_l1 (r : Int) c out _ cut g10 hcb m S ?_ _ 0 0 rfl (Nat.zero_le _) (Int.le_refl 0) g11 (by rw [List.drop_zero, hS, Int.zero_add])
      refine Ev.congr (fun j => ?_) hs
      rw [hwp, if_pos g4, if_pos g5, hwc, most_val, ← ht]
      simp only [Option.bind_some, rd_nat, Int.toNat_natCast]
      rw [hwv, ho2]
    · simp only [impl_lateMend.l0]
      rw [w_add q r b1 b2, if_pos g8, if_pos g6, if_pos g7, Int.toNat_natCast, Int.toNat_natCast, Nat.add_comm q r, ← hcut]
      rfl
    · refine lm_l1 (r : Int) c out sm _ cut g10 hcb _ (c - S) ?_ _ 0 c rfl (Nat.zero_le _) c1 g12 (by rw [List.drop_zero, hS])
      refine Ev.congr (fun j => ?_) hi
      rw [w_add q r b1 b2, hwq]
      by_cases hpos : c - S > 0
      · have et : t = c - S := ht0.2.2.1 hpos
        rw [if_pos hpos, if_pos g4, if_pos g5, ← et, rd_nat, Int.toNat_natCast, hwv, hwm, ho2]
      · have et : t = 0 := ht0.2.2.2 (Int.not_lt.mp hpos)
        rw [if_neg hpos]
        have e2 : out2 = out := by
          rw [ho2, et, Int.add_zero]
          exact set_self out p hpo
        rw [e2, et, Int.add_zero]
theorem weMend_ev (l : List Int) (h4 : l.length ≤ 20) (h5 : ∀ x ∈ l, 0 ≤ x ∧ x ≤ 100) (r : Nat) (h1 : 1 ≤ r) (hr : r ≤ 20) (hp : r ≤ l.length) (c : Int) (c0 : 0 ≤ c) (c1 : c ≤ 1000) :
    ∃ m, Ev (fun j => spec_weMend.f j l (r : Int) c) m ∧ Ev (fun j => impl_lateMend.f j l (r : Int) c) (m, m.sum - l.sum) ∧ m.length = l.length ∧ (∀ x ∈ m, 0 ≤ x ∧ x ≤ 2000) ∧ MendI l c r (l.length + 1 - r) m := by
  obtain ⟨m, hs, hi, hm⟩ := mend_both l h4 h5 r h1 hr c c0 c1 _ 0 l 0 rfl (by omega) rfl rfl (fun x hx => ⟨(h5 x hx).1, Int.le_trans (h5 x hx).2 (by omega)⟩) (by omega) (MendI.start l c r)
  refine ⟨m, ?_, ?_, hm⟩
  · unfold spec_weMend.f
    rw [own_val l (by omega)]
    exact hs
  · unfold impl_lateMend.f
    rw [clone_val l (by omega)]
    exact hi
theorem climbs_val (c : Int) : spec_weClimbs.f c = some (decide (0 ≤ c ∧ c ≤ 1000)) := by
  unfold spec_weClimbs.f
  simp only [in_val, Option.bind_some]

theorem lose_val (l : List Int) (h : l.length ≤ 1048576) (j : Nat) (h1 : 1 ≤ j) (h2 : j ≤ l.length) : spec_weLose.f l (j : Int) = some (l.set (j - 1) 0) := by
  have hw : wrap64 ((j : Int) - 1) = ((j - 1 : Nat) : Int) := by
    unfold wrap64
    omega
  unfold spec_weLose.f
  rw [own_val l h]
  simp only [Option.bind_some]
  rw [hw, if_pos (by omega), if_pos (by omega), Int.toNat_natCast]
theorem losing_val (l : List Int) (h : l.length ≤ 1048576) (j : Nat) (h1 : 1 ≤ j) (h2 : j ≤ l.length) : impl_losing.f l (j : Int) = some (l.set (j - 1) 0) := by
  have hw : wrap64 ((j : Int) - 1) = ((j - 1 : Nat) : Int) := by
    unfold wrap64
    omega
  unfold impl_losing.f
  rw [clone_val l h]
  simp only [Option.bind_some]
  rw [hw, if_pos (by omega), if_pos (by omega), Int.toNat_natCast]
theorem set_bd {l : List Int} {M v : Int} (h : ∀ x ∈ l, 0 ≤ x ∧ x ≤ M) (h0 : 0 ≤ v) (h1 : v ≤ M) (j : Nat) : ∀ x ∈ l.set j v, 0 ≤ x ∧ x ≤ M := by
  intro x hx
  rcases List.mem_or_eq_of_mem_set hx with hx | rfl
  · exact h x hx
  · exact ⟨h0, h1⟩

/-- The idle steps from j on, d of them looked at. -/
def idleL (l : List Int) (r j d : Nat) : List Int := ((List.range' j d).filter (fun i => mostV (l.set (i - 1) 0) r == mostV l r)).map (fun i : Nat => (i : Int))
theorem idleL_yes {l : List Int} {r j d : Nat} (h : mostV (l.set (j - 1) 0) r = mostV l r) : idleL l r j (d + 1) = [(j : Int)] ++ idleL l r (j + 1) d := by
  unfold idleL
  rw [List.range'_succ, List.filter_cons, if_pos (by simp [h])]
  rfl
theorem idleL_no {l : List Int} {r j d : Nat} (h : ¬ mostV (l.set (j - 1) 0) r = mostV l r) : idleL l r j (d + 1) = idleL l r (j + 1) d := by
  unfold idleL
  rw [List.range'_succ, List.filter_cons, if_neg (by simp [h])]
theorem idleL_len (l : List Int) (r j d : Nat) : (idleL l r j d).length ≤ d := by
  unfold idleL
  rw [List.length_map]
  exact Nat.le_trans (List.length_filter_le _ _) (by simp)
theorem idleL_mem (l : List Int) (r d k : Nat) (hk : k < d) : ((k : Int) + 1 ∈ idleL l r 1 d) ↔ mostV (l.set k 0) r = mostV l r := by
  unfold idleL
  rw [List.mem_map]
  constructor
  · rintro ⟨i, hi, e⟩
    obtain ⟨h1, h2⟩ := List.mem_filter.1 hi
    obtain rfl : i = k + 1 := by omega
    simpa using h2
  · intro h
    exact ⟨k + 1, List.mem_filter.2 ⟨List.mem_range'_1.2 (by omega), by simpa using h⟩, by simp⟩
theorem idleL_rise (l : List Int) (r j d : Nat) : (idleL l r j d).Pairwise (· < ·) := by
  unfold idleL
  refine List.Pairwise.map _ (fun a b h => ?_) ((List.pairwise_lt_range' (s := j) (n := d)).filter _)
  exact Int.ofNat_lt.2 h
theorem idle_both (l : List Int) (r : Nat) (h4 : l.length ≤ 20) (hb : ∀ x ∈ l, 0 ≤ x ∧ x ≤ 2000) (hr : r ≤ 20) (hp : r ≤ l.length) : ∀ (d j : Nat) (out : List Int), l.length + 1 - j = d → 1 ≤ j → j ≤ l.length + 1 → out.length ≤ j →
    Ev (fun k => spec_IdleBears.l0 k l (r : Int) out (j : Int)) (out ++ idleL l r j d, true) ∧ Ev (fun k => impl_IdleBears.l0 k l (r : Int) out (j : Int)) (out ++ idleL l r j d, true) := by
  intro d
  induction d with
  | zero =>
    intro j out hd h1 hj ho
    rw [show idleL l r j 0 = [] from rfl, List.append_nil]
    refine ⟨Ev.step (fun k => ?_) (Ev.now _), Ev.step (fun k => ?_) (Ev.now _)⟩
    · simp only [spec_IdleBears.l0]
      rw [if_neg (by omega)]
    · simp only [impl_IdleBears.l0]
      rw [if_neg (by omega)]
  | succ d ih =>
    intro j out hd h1 hj ho
    have hb' := set_bd hb (Int.le_refl 0) (by omega) (j - 1)
    have hl' : (l.set (j - 1) 0).length = l.length := List.length_set
    have e1 := weMost_ev (l.set (j - 1) 0) (by omega) hb' r hr (by omega)
    have e2 := mostWears_ev (l.set (j - 1) 0) (by omega) hb' r hr (by omega)
    have f1 := weMost_ev l (by omega) hb r hr (by omega)
    have f2 := mostWears_ev l (by omega) hb r hr (by omega)
    have hw := wsucc j (by omega)
    have hlim : out.length < 17592186044416 := by omega
    have key : Ev (fun k => if mostV (l.set (j - 1) 0) r = mostV l r then (if out.length < 17592186044416 then spec_IdleBears.l0 k l (r : Int) (out ++ [(j : Int)]) (wrap64 ((j : Int) + 1)) else none) else spec_IdleBears.l0 k l (r : Int) out (wrap64 ((j : Int) + 1))) (out ++ idleL l r j (d + 1), true) ∧
        Ev (fun k => if mostV (l.set (j - 1) 0) r = mostV l r then (if out.length < 17592186044416 then impl_IdleBears.l0 k l (r : Int) (out ++ [(j : Int)]) (wrap64 ((j : Int) + 1)) else none) else impl_IdleBears.l0 k l (r : Int) out (wrap64 ((j : Int) + 1))) (out ++ idleL l r j (d + 1), true) := by
      by_cases hc : mostV (l.set (j - 1) 0) r = mostV l r
      · obtain ⟨hs, hi⟩ := ih (j + 1) (out ++ [(j : Int)]) (by omega) (by omega) (by omega) (by simp; omega)
        rw [List.append_assoc, ← idleL_yes hc] at hs hi
        rw [← hw] at hs hi
        exact ⟨Ev.congr (fun k => by rw [if_pos hc, if_pos hlim]) hs, Ev.congr (fun k => by rw [if_pos hc, if_pos hlim]) hi⟩
      · obtain ⟨hs, hi⟩ := ih (j + 1) out (by omega) (by omega) (by omega) (by omega)
        rw [← idleL_no hc] at hs hi
        rw [← hw] at hs hi
        exact ⟨Ev.congr (fun k => by rw [if_neg hc]) hs, Ev.congr (fun k => by rw [if_neg hc]) hi⟩
    obtain ⟨k1, k2⟩ := key
    refine ⟨Ev.step (fun k => ?_) (Ev.bind (f := fun k t => (spec_weMost.f k l (r : Int)).bind fun u => if t = u then (if out.length < 17592186044416 then spec_IdleBears.l0 k l (r : Int) (out ++ [(j : Int)]) (wrap64 ((j : Int) + 1)) else none) else spec_IdleBears.l0 k l (r : Int) out (wrap64 ((j : Int) + 1))) e1 (Ev.bind (f := fun k u => if mostV (l.set (j - 1) 0) r = u then (if out.length < 17592186044416 then spec_IdleBears.l0 k l (r : Int) (out ++ [(j : Int)]) (wrap64 ((j : Int) + 1)) else none) else spec_IdleBears.l0 k l (r : Int) out (wrap64 ((j : Int) + 1))) f1 k1)), Ev.step (fun k => ?_) (Ev.bind (f := fun k t => (impl_mostWears.f k l (r : Int)).bind fun u => if t = u then (if out.length < 17592186044416 then impl_IdleBears.l0 k l (r : Int) (out ++ [(j : Int)]) (wrap64 ((j : Int) + 1)) else none) else impl_IdleBears.l0 k l (r : Int) out (wrap64 ((j : Int) + 1))) e2 (Ev.bind (f := fun k u => if mostV (l.set (j - 1) 0) r = u then (if out.length < 17592186044416 then impl_IdleBears.l0 k l (r : Int) (out ++ [(j : Int)]) (wrap64 ((j : Int) + 1)) else none) else impl_IdleBears.l0 k l (r : Int) out (wrap64 ((j : Int) + 1))) f2 k2))⟩
    · simp only [spec_IdleBears.l0]
      rw [if_pos (by omega), lose_val l (by omega) j h1 (by omega)]
      rfl
    · simp only [impl_IdleBears.l0]
      rw [if_pos (by omega), losing_val l (by omega) j h1 (by omega)]
      rfl
/-- The worst step so far. -/
def WorstI (l : List Int) (r j : Nat) (b m : Int) : Prop :=
  (j = 1 ∧ b = 0) ∨ ∃ n : Nat, b = (n : Int) ∧ 1 ≤ n ∧ n < j ∧ m = mostV (l.set (n - 1) 0) r ∧ (∀ i, 1 ≤ i → i < j → m ≤ mostV (l.set (i - 1) 0) r) ∧ ∀ i, 1 ≤ i → i < n → m < mostV (l.set (i - 1) 0) r
theorem WorstI.zero {l : List Int} {r j : Nat} {b m : Int} (h : WorstI l r j b m) : b = 0 ↔ j = 1 := by
  rcases h with ⟨h1, h2⟩ | ⟨n, h1, h2, h3, _⟩ <;> omega
theorem WorstI.less {l : List Int} {r j : Nat} {b m : Int} (h : WorstI l r j b m) (h1 : 1 ≤ j) (hc : b = 0 ∨ mostV (l.set (j - 1) 0) r < m) : WorstI l r (j + 1) (j : Int) (mostV (l.set (j - 1) 0) r) := by
  refine Or.inr ⟨j, rfl, h1, by omega, rfl, ?_, ?_⟩
  · intro i a1 a2
    by_cases hi : i = j
    · subst hi
      exact Int.le_refl _
    · rcases h with ⟨b1, b2⟩ | ⟨n, b1, b2, b3, b4, b5, b6⟩
      · omega
      · have := b5 i a1 (by omega)
        omega
  · intro i a1 a2
    rcases h with ⟨b1, b2⟩ | ⟨n, b1, b2, b3, b4, b5, b6⟩
    · omega
    · have := b5 i a1 (by omega)
      omega
theorem WorstI.stay {l : List Int} {r j : Nat} {b m : Int} (h : WorstI l r j b m) (h0 : ¬ b = 0) (hm : ¬ mostV (l.set (j - 1) 0) r < m) : WorstI l r (j + 1) b m := by
  rcases h with ⟨b1, b2⟩ | ⟨n, b1, b2, b3, b4, b5, b6⟩
  · omega
  · refine Or.inr ⟨n, b1, b2, by omega, b4, fun i a1 a2 => ?_, b6⟩
    by_cases hi : i = j
    · subst hi
      omega
    · exact b5 i a1 (by omega)
theorem worst_both (l : List Int) (r : Nat) (h4 : l.length ≤ 20) (hb : ∀ x ∈ l, 0 ≤ x ∧ x ≤ 2000) (hr : r ≤ 20) (hp : r ≤ l.length) : ∀ (d j : Nat) (b m : Int), l.length + 1 - j = d → 1 ≤ j → j ≤ l.length + 1 → WorstI l r j b m →
    ∃ w0 w1, WorstI l r (l.length + 1) w0 w1 ∧ Ev (fun k => spec_WorstStepToLose.l0 k l (r : Int) b m (j : Int)) (w0, w1, true) ∧ Ev (fun k => impl_WorstStepToLose.l0 k l (r : Int) b m (j : Int)) (w0, w1, true) := by
  intro d
  induction d with
  | zero =>
    intro j b m hd h1 hj hI
    obtain rfl : j = l.length + 1 := by omega
    refine ⟨b, m, hI, Ev.step (fun k => ?_) (Ev.now _), Ev.step (fun k => ?_) (Ev.now _)⟩
    · simp only [spec_WorstStepToLose.l0]
      rw [if_neg (by omega)]
    · simp only [impl_WorstStepToLose.l0]
      rw [if_neg (by omega)]
  | succ d ih =>
    intro j b m hd h1 hj hI
    have hbj := hI.zero
    have hb' := set_bd hb (Int.le_refl 0) (by omega) (j - 1)
    have hl' : (l.set (j - 1) 0).length = l.length := List.length_set
    have e1 := weMost_ev (l.set (j - 1) 0) (by omega) hb' r hr (by omega)
    have e2 := mostWears_ev (l.set (j - 1) 0) (by omega) hb' r hr (by omega)
    have hw := wsucc j (by omega)
    by_cases hc : b = 0 ∨ mostV (l.set (j - 1) 0) r < m
    · obtain ⟨w0, w1, hW, hs, hi⟩ := ih (j + 1) (j : Int) (mostV (l.set (j - 1) 0) r) (by omega) (by omega) (by omega) (hI.less h1 hc)
      rw [← hw] at hs hi
      refine ⟨w0, w1, hW, Ev.step (fun k => ?_) (Ev.bind (f := fun k t => if b = 0 then spec_WorstStepToLose.l0 k l (r : Int) (j : Int) t (wrap64 ((j : Int) + 1)) else if t < m then spec_WorstStepToLose.l0 k l (r : Int) (j : Int) t (wrap64 ((j : Int) + 1)) else spec_WorstStepToLose.l0 k l (r : Int) b m (wrap64 ((j : Int) + 1))) e1 (Ev.congr (fun k => ?_) hs)),
        Ev.step (fun k => ?_) (Ev.bind (f := fun k t => if (j : Int) = 1 then impl_WorstStepToLose.l0 k l (r : Int) (j : Int) t (wrap64 ((j : Int) + 1)) else if t < m then impl_WorstStepToLose.l0 k l (r : Int) (j : Int) t (wrap64 ((j : Int) + 1)) else impl_WorstStepToLose.l0 k l (r : Int) b m (wrap64 ((j : Int) + 1))) e2 (Ev.congr (fun k => ?_) hi))⟩
      · simp only [spec_WorstStepToLose.l0]
        rw [if_pos (by omega), lose_val l (by omega) j h1 (by omega)]
        rfl
      · by_cases h0 : b = 0
        · rw [if_pos h0]
        · rw [if_neg h0, if_pos (by rcases hc with h | h; exact absurd h h0; exact h)]
      · simp only [impl_WorstStepToLose.l0]
        rw [if_pos (by omega), losing_val l (by omega) j h1 (by omega)]
        rfl
      · by_cases h0 : b = 0
        · rw [if_pos (by omega)]
        · rw [if_neg (by omega), if_pos (by rcases hc with h | h; exact absurd h h0; exact h)]
    · have h0 : ¬ b = 0 := fun h => hc (.inl h)
      have hm : ¬ mostV (l.set (j - 1) 0) r < m := fun h => hc (.inr h)
      obtain ⟨w0, w1, hW, hs, hi⟩ := ih (j + 1) b m (by omega) (by omega) (by omega) (hI.stay h0 hm)
      rw [← hw] at hs hi
      refine ⟨w0, w1, hW, Ev.step (fun k => ?_) (Ev.bind (f := fun k t => if b = 0 then spec_WorstStepToLose.l0 k l (r : Int) (j : Int) t (wrap64 ((j : Int) + 1)) else if t < m then spec_WorstStepToLose.l0 k l (r : Int) (j : Int) t (wrap64 ((j : Int) + 1)) else spec_WorstStepToLose.l0 k l (r : Int) b m (wrap64 ((j : Int) + 1))) e1 (Ev.congr (fun k => ?_) hs)),
        Ev.step (fun k => ?_) (Ev.bind (f := fun k t => if (j : Int) = 1 then impl_WorstStepToLose.l0 k l (r : Int) (j : Int) t (wrap64 ((j : Int) + 1)) else if t < m then impl_WorstStepToLose.l0 k l (r : Int) (j : Int) t (wrap64 ((j : Int) + 1)) else impl_WorstStepToLose.l0 k l (r : Int) b m (wrap64 ((j : Int) + 1))) e2 (Ev.congr (fun k => ?_) hi))⟩
      · simp only [spec_WorstStepToLose.l0]
        rw [if_pos (by omega), lose_val l (by omega) j h1 (by omega)]
        rfl
      · rw [if_neg h0, if_neg hm]
      · simp only [impl_WorstStepToLose.l0]
        rw [if_pos (by omega), losing_val l (by omega) j h1 (by omega)]
        rfl
      · rw [if_neg (by omega), if_neg hm]
theorem reach_both (l : List Int) (c : Int) (h4 : l.length ≤ 20) (hb : ∀ x ∈ l, 0 ≤ x ∧ x ≤ 2000) : ∀ (d r : Nat), l.length + 1 - r = d → 1 ≤ r → r ≤ l.length + 1 → (1 < r → mostV l (r - 1) < c) →
    ∃ w : Nat, (1 ≤ w ∧ w ≤ l.length + 1 ∧ (w ≤ l.length → c ≤ mostV l w) ∧ (1 < w → mostV l (w - 1) < c)) ∧ Ev (fun k => spec_ReachForWears.l0 k l c (r : Int)) ((w : Int), true) ∧ Ev (fun k => impl_ReachForWears.l0 k l c (r : Int)) ((w : Int), true) := by
  intro d
  induction d with
  | zero =>
    intro r hd h1 hr hI
    refine ⟨r, ⟨h1, by omega, fun h => by omega, hI⟩, Ev.step (fun k => ?_) (Ev.now _), Ev.step (fun k => ?_) (Ev.now _)⟩
    · simp only [spec_ReachForWears.l0]
      rw [if_neg (by omega)]
    · simp only [impl_ReachForWears.l0]
      rw [if_neg (by omega)]
  | succ d ih =>
    intro r hd h1 hr hI
    by_cases hm : mostV l r < c
    · obtain ⟨w, hw, hs, hi⟩ := ih (r + 1) (by omega) (by omega) (by omega) (fun _ => hm)
      rw [← wsucc r (by omega)] at hs hi
      refine ⟨w, hw, Ev.step (fun k => ?_) (Ev.bind (f := fun k t => if t < c then spec_ReachForWears.l0 k l c (wrap64 ((r : Int) + 1)) else some ((r : Int), true)) (weMost_ev l (by omega) hb r (by omega) (by omega)) (Ev.congr (fun k => if_pos hm) hs)),
        Ev.step (fun k => ?_) (Ev.bind (f := fun k t => if t < c then impl_ReachForWears.l0 k l c (wrap64 ((r : Int) + 1)) else some ((r : Int), true)) (mostWears_ev l (by omega) hb r (by omega) (by omega)) (Ev.congr (fun k => if_pos hm) hi))⟩
      · simp only [spec_ReachForWears.l0]
        rw [if_pos (by omega)]
      · simp only [impl_ReachForWears.l0]
        rw [if_pos (by omega)]
    · refine ⟨r, ⟨h1, hr, fun _ => by omega, hI⟩, Ev.step (fun k => ?_) (Ev.bind (f := fun k t => if t < c then spec_ReachForWears.l0 k l c (wrap64 ((r : Int) + 1)) else some ((r : Int), true)) (weMost_ev l (by omega) hb r (by omega) (by omega)) (Ev.congr (fun k => if_neg hm) (Ev.now _))),
        Ev.step (fun k => ?_) (Ev.bind (f := fun k t => if t < c then impl_ReachForWears.l0 k l c (wrap64 ((r : Int) + 1)) else some ((r : Int), true)) (mostWears_ev l (by omega) hb r (by omega) (by omega)) (Ev.congr (fun k => if_neg hm) (Ev.now _)))⟩
      · simp only [spec_ReachForWears.l0]
        rw [if_pos (by omega)]
      · simp only [impl_ReachForWears.l0]
        rw [if_pos (by omega)]

def ci (T : List Nat) : List Int := T.map (fun x : Nat => (x : Int))
theorem ci_len (T : List Nat) : (ci T).length = T.length := by simp [ci]
theorem ci_get (T : List Nat) (i : Nat) : (ci T).getD i 0 = ((T.getD i 0 : Nat) : Int) := by
  simp only [ci, List.getD_eq_getElem?_getD, List.getElem?_map]
  cases T[i]? <;> simp
def incN : Nat → List Nat → Prop
  | _, [] => True
  | p, x :: xs => p < x ∧ incN x xs
/-- The sum over the strides that end at n at the latest. -/
def gs (f : Nat → Int) (n j : Nat) : List Nat → Int
  | [] => 0
  | s :: ss => (if j + s ≤ n then f (j + s) else 0) + gs f n j ss
theorem gs_congr {f f' : Nat → Int} {n j : Nat} : ∀ {T : List Nat}, (∀ t ∈ T, 1 ≤ t) → (∀ i, j < i → i ≤ n → f i = f' i) → gs f n j T = gs f' n j T := by
  intro T
  induction T with
  | nil => intro _ _; rfl
  | cons s T ih =>
    intro h1 h2
    simp only [gs]
    rw [ih (fun t ht => h1 t (List.mem_cons_of_mem _ ht)) h2]
    have := h1 s (List.mem_cons_self ..)
    by_cases hs : j + s ≤ n
    · rw [if_pos hs, if_pos hs, h2 (j + s) (by omega) hs]
    · rw [if_neg hs, if_neg hs]
theorem gs_nonneg {f : Nat → Int} {n j : Nat} (hf : ∀ i, j < i → i ≤ n → 0 ≤ f i) : ∀ (T : List Nat), (∀ t ∈ T, 1 ≤ t) → 0 ≤ gs f n j T := by
  intro T
  induction T with
  | nil => intro _; exact Int.le_refl _
  | cons s T ih =>
    intro h
    have h1 := ih (fun t ht => h t (List.mem_cons_of_mem _ ht))
    have h2 := h s (List.mem_cons_self ..)
    simp only [gs]
    by_cases hs : j + s ≤ n
    · have := hf (j + s) (by omega) hs
      rw [if_pos hs]
      omega
    · rw [if_neg hs]
      omega
theorem gs_mem {f : Nat → Int} {n j : Nat} (hf : ∀ i, j < i → i ≤ n → 0 ≤ f i) {T : List Nat} (hT : ∀ t ∈ T, 1 ≤ t) {s : Nat} (hs : s ∈ T) (hn : j + s ≤ n) : f (j + s) ≤ gs f n j T := by
  induction T with
  | nil => simp at hs
  | cons t T ih =>
    have h1 := gs_nonneg hf T (fun x hx => hT x (List.mem_cons_of_mem _ hx))
    simp only [gs]
    rcases List.mem_cons.mp hs with h | h
    · subst h
      rw [if_pos hn]
      omega
    · have h2 := ih (fun x hx => hT x (List.mem_cons_of_mem _ hx)) h
      have h3 := hT t (List.mem_cons_self ..)
      by_cases ht : j + t ≤ n
      · have := hf (j + t) (by omega) ht
        rw [if_pos ht]
        omega
      · rw [if_neg ht]
        omega
theorem gs_pos {f : Nat → Int} {n j : Nat} (hf : ∀ i, j < i → i ≤ n → 0 ≤ f i) : ∀ {T : List Nat}, (∀ t ∈ T, 1 ≤ t) → (0 < gs f n j T ↔ ∃ s ∈ T, j + s ≤ n ∧ 0 < f (j + s)) := by
  intro T
  induction T with
  | nil => intro _; simp [gs]
  | cons t T ih =>
    intro hT
    have hT' : ∀ t ∈ T, 1 ≤ t := fun x hx => hT x (List.mem_cons_of_mem _ hx)
    have h1 := gs_nonneg hf T hT'
    have h2 := hT t (List.mem_cons_self ..)
    have h3 := ih hT'
    simp only [gs]
    constructor
    · intro h
      by_cases ht : j + t ≤ n
      · rw [if_pos ht] at h
        by_cases h4 : 0 < f (j + t)
        · exact ⟨t, List.mem_cons_self .., ht, h4⟩
        · have := hf (j + t) (by omega) ht
          obtain ⟨s, a, b⟩ := h3.1 (by omega)
          exact ⟨s, List.mem_cons_of_mem _ a, b⟩
      · rw [if_neg ht] at h
        obtain ⟨s, a, b⟩ := h3.1 (by omega)
        exact ⟨s, List.mem_cons_of_mem _ a, b⟩
    · rintro ⟨s, a, b, c⟩
      rcases List.mem_cons.mp a with e | a
      · subst e
        rw [if_pos b]
        omega
      · have := h3.2 ⟨s, a, b, c⟩
        by_cases ht : j + t ≤ n
        · have := hf (j + t) (by omega) ht
          rw [if_pos ht]
          omega
        · rw [if_neg ht]
          omega
def p2 : Nat → Int
  | 0 => 1
  | d + 1 => 2 * p2 d
theorem p2_pos : ∀ d, 1 ≤ p2 d
  | 0 => by simp [p2]
  | d + 1 => by have := p2_pos d; simp only [p2]; omega
theorem p2_mono {a b : Nat} (h : a ≤ b) : p2 a ≤ p2 b := by
  obtain ⟨c, rfl⟩ := Nat.exists_eq_add_of_le h
  clear h
  induction c with
  | zero => exact Int.le_refl _
  | succ c ih =>
    have := p2_pos (a + c)
    show p2 a ≤ 2 * p2 (a + c)
    omega
theorem p2_60 {d : Nat} (h : d ≤ 60) : p2 d ≤ 1152921504606846976 := by
  have := p2_mono h
  have h2 : p2 60 = 1152921504606846976 := by decide +kernel
  omega
theorem gs_bd {f : Nat → Int} {n j : Nat} (hf : ∀ i, j < i → i ≤ n → 0 ≤ f i ∧ f i ≤ p2 (n - i)) : ∀ (T : List Nat) (p : Nat), incN p T → 0 ≤ gs f n j T ∧ gs f n j T ≤ p2 (n - j - p) := by
  intro T
  induction T with
  | nil =>
    intro p _
    have := p2_pos (n - j - p)
    simp only [gs]
    omega
  | cons s T ih =>
    intro p h
    obtain ⟨h1, h2⟩ := h
    obtain ⟨i1, i2⟩ := ih s h2
    simp only [gs]
    by_cases hs : j + s ≤ n
    · rw [if_pos hs]
      have hb := hf (j + s) (by omega) hs
      have e1 : n - (j + s) = n - j - s := by omega
      rw [e1] at hb
      have h3 : p2 (n - j - s + 1) ≤ p2 (n - j - p) := p2_mono (by omega)
      simp only [p2] at h3
      omega
    · rw [if_neg hs]
      have h3 : p2 (n - j - s) ≤ p2 (n - j - p) := p2_mono (by omega)
      omega
def dpv (n : Nat) (base : Int) (g : (Nat → Int) → Nat → Int) : Nat → Nat → Int
  | 0, _ => base
  | d + 1, j => if j + (d + 1) = n then g (dpv n base g d) j else dpv n base g d j
theorem dpv_stable (n : Nat) (base : Int) (g : (Nat → Int) → Nat → Int) (d j : Nat) (h : n ≤ j + d) : ∀ e, dpv n base g (d + e) j = dpv n base g d j := by
  intro e
  induction e with
  | zero => rfl
  | succ e ih =>
    show dpv n base g ((d + e) + 1) j = _
    rw [← ih]
    simp only [dpv]
    rw [if_neg (by omega)]
theorem dpv_top (n : Nat) (base : Int) (g : (Nat → Int) → Nat → Int) : dpv n base g n n = base := by
  have := dpv_stable n base g 0 n (by omega) n
  rw [Nat.zero_add] at this
  rw [this]
  rfl
theorem dpv_rec (n : Nat) (base : Int) (g : (Nat → Int) → Nat → Int) (hg : ∀ f f' j, (∀ i, j < i → i ≤ n → f i = f' i) → g f j = g f' j) (j : Nat) (hj : j < n) : dpv n base g n j = g (dpv n base g n) j := by
  have h1 := dpv_stable n base g (n - j) j (by omega) j
  have e1 : n - j + j = n := by omega
  rw [e1] at h1
  rw [h1]
  obtain ⟨d, hd⟩ : ∃ d, n - j = d + 1 := ⟨n - j - 1, by omega⟩
  rw [hd]
  simp only [dpv]
  rw [if_pos (by omega)]
  refine hg _ _ j (fun i h2 h3 => ?_)
  have h4 := dpv_stable n base g d i (by omega) (n - d)
  have e2 : d + (n - d) = n := by omega
  rw [e2] at h4
  exact h4.symm
/-- How many climbs there are from a step. -/
def V (n : Nat) (T : List Nat) (B : List Int) : Nat → Int := dpv n 1 (fun f j => if (j : Int) ∈ B then 0 else gs f n j T) n
theorem V_top (n : Nat) (T : List Nat) (B : List Int) : V n T B n = 1 := dpv_top ..
theorem V_rec (n : Nat) (T : List Nat) (B : List Int) (hT : ∀ t ∈ T, 1 ≤ t) (j : Nat) (hj : j < n) : V n T B j = if (j : Int) ∈ B then 0 else gs (V n T B) n j T := by
  refine dpv_rec n 1 _ (fun f f' j h => ?_) j hj
  show (if (j : Int) ∈ B then (0 : Int) else gs f n j T) = (if (j : Int) ∈ B then 0 else gs f' n j T)
  rw [gs_congr hT h]
theorem V_bd (n : Nat) (T : List Nat) (B : List Int) (hT : ∀ t ∈ T, 1 ≤ t) (hi : incN 0 T) : ∀ (d j : Nat), n - j ≤ d → j ≤ n → 0 ≤ V n T B j ∧ V n T B j ≤ p2 (n - j) := by
  intro d
  induction d with
  | zero =>
    intro j h1 h2
    obtain rfl : j = n := by omega
    rw [V_top, Nat.sub_self]
    simp [p2]
  | succ d ih =>
    intro j h1 h2
    by_cases hj : j = n
    · subst hj
      rw [V_top, Nat.sub_self]
      simp [p2]
    · rw [V_rec n T B hT j (by omega)]
      have := p2_pos (n - j)
      split
      · omega
      · exact gs_bd (fun i h3 h4 => ih i (by omega) h4) T 0 hi
/-- A row of n + 1 numbers that is filled from its end. -/
def arr (n : Nat) (f : Nat → Int) (m : Nat) : List Int := (List.range (n + 1)).map (fun j => if m ≤ j then f j else 0)
theorem arr_len (n : Nat) (f : Nat → Int) (m : Nat) : (arr n f m).length = n + 1 := by simp [arr]
theorem arr_get (n : Nat) (f : Nat → Int) (m j : Nat) (h : j ≤ n) : (arr n f m).getD j 0 = if m ≤ j then f j else 0 := by
  simp only [arr, List.getD_eq_getElem?_getD, List.getElem?_map, List.getElem?_range (show j < n + 1 by omega), Option.map_some, Option.getD_some]
theorem arr_ext {n : Nat} {f : Nat → Int} {m : Nat} {x : List Int} (hl : x.length = n + 1) (h : ∀ j, j ≤ n → x.getD j 0 = if m ≤ j then f j else 0) : x = arr n f m := by
  refine List.ext_getElem (by rw [hl, arr_len]) (fun j h1 h2 => ?_)
  have h3 := h j (by omega)
  rw [← arr_get n f m j (by omega), List.getD_eq_getElem?_getD, List.getD_eq_getElem?_getD, List.getElem?_eq_getElem h1, List.getElem?_eq_getElem h2] at h3
  exact h3
theorem getD_set (x : List Int) (i : Nat) (v : Int) (j : Nat) (hi : i < x.length) : (x.set i v).getD j 0 = if i = j then v else x.getD j 0 := by
  rw [List.getD_eq_getElem?_getD, List.getD_eq_getElem?_getD, List.getElem?_set]
  by_cases h : i = j
  · rw [if_pos h, if_pos h, if_pos hi]
    rfl
  · rw [if_neg h, if_neg h]
theorem arr_set (n : Nat) (f : Nat → Int) (m : Nat) (h : m ≤ n) : (arr n f (m + 1)).set m (f m) = arr n f m := by
  refine arr_ext (by rw [List.length_set, arr_len]) (fun j hj => ?_)
  rw [getD_set _ _ _ _ (by rw [arr_len]; omega), arr_get n f _ j hj]
  by_cases h1 : m = j
  · subst h1
    rw [if_pos rfl, if_pos (Nat.le_refl _)]
  · rw [if_neg h1]
    by_cases h2 : m ≤ j
    · rw [if_pos h2, if_pos (by omega)]
    · rw [if_neg h2, if_neg (by omega)]
theorem arr_put (n : Nat) (f : Nat → Int) (m : Nat) (v : Int) (h : m ≤ n) (hv : f m = v) : (arr n f (m + 1)).set m v = arr n f m := hv ▸ arr_set n f m h
theorem arr_zero (n : Nat) (f : Nat → Int) (m : Nat) (h : m ≤ n) : arr n f (m + 1) = (arr n f (m + 1)).set m 0 := by
  symm
  refine arr_ext (by rw [List.length_set, arr_len]) (fun j hj => ?_)
  rw [getD_set _ _ _ _ (by rw [arr_len]; omega), arr_get n f _ j hj]
  by_cases h1 : m = j
  · subst h1
    rw [if_pos rfl, if_neg (by omega)]
  · rw [if_neg h1]
theorem arr_top (n : Nat) (f : Nat → Int) (v : Int) (h : f n = v) : (List.replicate (n + 1) (0 : Int)).set n v = arr n f n := by
  refine arr_ext (by rw [List.length_set, List.length_replicate]) (fun j hj => ?_)
  rw [getD_set _ _ _ _ (by rw [List.length_replicate]; omega)]
  by_cases h1 : n = j
  · subst h1
    rw [if_pos rfl, if_pos (Nat.le_refl _), h]
  · rw [if_neg h1, if_neg (by omega), List.getD_eq_getElem?_getD, List.getElem?_replicate]
    split <;> rfl
theorem arr_rd0 (n : Nat) (f : Nat → Int) (j : Nat) (h : j ≤ n) : rd (arr n f 0) (j : Int) = f j := by
  rw [rd_nat, arr_get n f 0 j h, if_pos (by omega)]

/-- One better number of strides. -/
def btr (most : Bool) (acc v : Int) : Int := if acc < 0 then v else if most = true then (if v > acc then v else acc) else (if v < acc then v else acc)
def lf (most : Bool) (f : Nat → Int) (n j : Nat) : Int → List Nat → Int
  | acc, [] => acc
  | acc, s :: ss => lf most f n j (if j + s ≤ n ∧ 0 ≤ f (j + s) then btr most acc (f (j + s) + 1) else acc) ss
theorem lf_congr {most : Bool} {f f' : Nat → Int} {n j : Nat} : ∀ {T : List Nat} {acc : Int}, (∀ t ∈ T, 1 ≤ t) → (∀ i, j < i → i ≤ n → f i = f' i) → lf most f n j acc T = lf most f' n j acc T := by
  intro T
  induction T with
  | nil => intro _ _ _; rfl
  | cons s T ih =>
    intro acc h1 h2
    have := h1 s (List.mem_cons_self ..)
    simp only [lf]
    by_cases hs : j + s ≤ n
    · rw [h2 (j + s) (by omega) hs, ih (fun t ht => h1 t (List.mem_cons_of_mem _ ht)) h2]
    · rw [if_neg (fun h => hs h.1), if_neg (fun h => hs h.1), ih (fun t ht => h1 t (List.mem_cons_of_mem _ ht)) h2]
def Lf (n : Nat) (T : List Nat) (B : List Int) (most : Bool) : Nat → Int := dpv n 0 (fun f j => if (j : Int) ∈ B then -1 else lf most f n j (-1) T) n
theorem Lf_top (n : Nat) (T : List Nat) (B : List Int) (most : Bool) : Lf n T B most n = 0 := dpv_top ..
theorem Lf_rec (n : Nat) (T : List Nat) (B : List Int) (most : Bool) (hT : ∀ t ∈ T, 1 ≤ t) (j : Nat) (hj : j < n) : Lf n T B most j = if (j : Int) ∈ B then -1 else lf most (Lf n T B most) n j (-1) T := by
  refine dpv_rec n 0 _ (fun f f' j h => ?_) j hj
  show (if (j : Int) ∈ B then (-1 : Int) else lf most f n j (-1) T) = (if (j : Int) ∈ B then -1 else lf most f' n j (-1) T)
  rw [lf_congr hT h]
theorem btr_bd {most : Bool} {acc v b : Int} (h1 : -1 ≤ acc) (h2 : acc ≤ b) (h3 : 0 ≤ v) (h4 : v ≤ b) : -1 ≤ btr most acc v ∧ btr most acc v ≤ b := by
  unfold btr
  (repeat' split) <;> omega
theorem lf_bd {most : Bool} {f : Nat → Int} {n j : Nat} (hf : ∀ i, j < i → i ≤ n → f i ≤ (n : Int) - i) : ∀ (T : List Nat) (acc : Int), (∀ t ∈ T, 1 ≤ t) → -1 ≤ acc → acc ≤ (n : Int) - j → -1 ≤ lf most f n j acc T ∧ lf most f n j acc T ≤ (n : Int) - j := by
  intro T
  induction T with
  | nil => intro acc _ h1 h2; exact ⟨h1, h2⟩
  | cons s T ih =>
    intro acc hT h1 h2
    have hs := hT s (List.mem_cons_self ..)
    simp only [lf]
    by_cases hc : j + s ≤ n ∧ 0 ≤ f (j + s)
    · rw [if_pos hc]
      have h3 := hf (j + s) (by omega) hc.1
      have h4 := btr_bd (most := most) h1 h2 (v := f (j + s) + 1) (by omega) (by omega)
      exact ih _ (fun t ht => hT t (List.mem_cons_of_mem _ ht)) h4.1 h4.2
    · rw [if_neg hc]
      exact ih _ (fun t ht => hT t (List.mem_cons_of_mem _ ht)) h1 h2
theorem Lf_bd (n : Nat) (T : List Nat) (B : List Int) (most : Bool) (hT : ∀ t ∈ T, 1 ≤ t) : ∀ (d j : Nat), n - j ≤ d → j ≤ n → -1 ≤ Lf n T B most j ∧ Lf n T B most j ≤ (n : Int) - j := by
  intro d
  induction d with
  | zero =>
    intro j h1 h2
    obtain rfl : j = n := by omega
    rw [Lf_top]
    omega
  | succ d ih =>
    intro j h1 h2
    by_cases hj : j = n
    · subst hj
      rw [Lf_top]
      omega
    · rw [Lf_rec n T B most hT j (by omega)]
      split
      · omega
      · exact lf_bd (fun i h3 h4 => (ih i (by omega) h4).2) T (-1) hT (by omega) (by omega)
theorem lf_or {most : Bool} {f : Nat → Int} {n j : Nat} : ∀ (ss : List Nat) (acc : Int), lf most f n j acc ss = acc ∨ ∃ s ∈ ss, j + s ≤ n ∧ 0 ≤ f (j + s) ∧ f (j + s) = lf most f n j acc ss - 1 := by
  intro ss
  induction ss with
  | nil => intro acc; exact Or.inl rfl
  | cons s ss ih =>
    intro acc
    simp only [lf]
    by_cases hc : j + s ≤ n ∧ 0 ≤ f (j + s)
    · rw [if_pos hc]
      rcases ih (btr most acc (f (j + s) + 1)) with h | ⟨t, h1, h2⟩
      · have : btr most acc (f (j + s) + 1) = acc ∨ btr most acc (f (j + s) + 1) = f (j + s) + 1 := by
          unfold btr
          (repeat' split) <;> simp
        rcases this with h3 | h3
        · exact Or.inl (h.trans h3)
        · exact Or.inr ⟨s, List.mem_cons_self .., hc.1, hc.2, by omega⟩
      · exact Or.inr ⟨t, List.mem_cons_of_mem _ h1, h2⟩
    · rw [if_neg hc]
      rcases ih acc with h | ⟨t, h1, h2⟩
      · exact Or.inl h
      · exact Or.inr ⟨t, List.mem_cons_of_mem _ h1, h2⟩

/-- The steps that are worn. -/
def Bw (l : List Int) : List Int := ((List.range l.length).filter (fun i => l.getD i 0 == 0)).map (fun i : Nat => (i : Int) + 1)
theorem mem_Bw (l : List Int) (j : Nat) : ((j + 1 : Nat) : Int) ∈ Bw l ↔ j < l.length ∧ l.getD j 0 = 0 := by
  simp only [Bw, List.mem_map, List.mem_filter, List.mem_range, beq_iff_eq]
  constructor
  · rintro ⟨i, ⟨h1, h2⟩, h3⟩
    obtain rfl : i = j := by omega
    exact ⟨h1, h2⟩
  · rintro ⟨h1, h2⟩
    exact ⟨j, ⟨h1, h2⟩, by omega⟩
theorem zero_Bw (l : List Int) : ¬ ((0 : Nat) : Int) ∈ Bw l := by
  simp only [Bw, List.mem_map, not_exists, not_and]
  intro i _ h
  omega
theorem top_Bw (l : List Int) : ¬ ((l.length + 1 : Nat) : Int) ∈ Bw l := fun h => by
  have := ((mem_Bw l l.length).1 h).1
  omega
abbrev Tw (r : Nat) : List Nat := List.range' 1 r
theorem Tw_pos (r : Nat) : ∀ t ∈ Tw r, 1 ≤ t := fun t h => by
  have := List.mem_range'_1.mp h
  omega
theorem Tw_inc : ∀ (m p s : Nat), p < s → incN p (List.range' s m) := by
  intro m
  induction m with
  | zero => intro p s _; trivial
  | succ m ih => intro p s h; exact ⟨h, ih s (s + 1) (by omega)⟩
/-- How many climbs there are from a step, worn or not. -/
def Vs (n : Nat) (T : List Nat) (B : List Int) (j : Nat) : Int := if j = n then 1 else gs (V n T B) n j T
theorem V_Vs (n : Nat) (T : List Nat) (B : List Int) (hT : ∀ t ∈ T, 1 ≤ t) (hB : ¬ (n : Int) ∈ B) (j : Nat) (hj : j ≤ n) : V n T B j = if (j : Int) ∈ B then 0 else Vs n T B j := by
  by_cases h : j = n
  · subst h
    rw [V_top, if_neg hB, Vs, if_pos rfl]
  · rw [V_rec n T B hT j (by omega), Vs, if_neg h]
theorem Vs_bd (n : Nat) (T : List Nat) (B : List Int) (hT : ∀ t ∈ T, 1 ≤ t) (hi : incN 0 T) (j : Nat) (hj : j ≤ n) : 0 ≤ Vs n T B j ∧ Vs n T B j ≤ p2 (n - j) := by
  unfold Vs
  have := p2_pos (n - j)
  split
  · omega
  · exact gs_bd (fun i _ h => V_bd n T B hT hi _ i (Nat.le_refl _) h) T 0 hi
def cq (x : Int) : Int := if x < 1000000000001 then x else 1000000000001
theorem cq_bd {x : Int} (h : 0 ≤ x) : 0 ≤ cq x ∧ cq x ≤ 1000000000001 := by
  unfold cq
  split <;> omega
theorem cq_add {a b : Int} (ha : 0 ≤ a) (hb : 0 ≤ b) : (if cq a + cq b < 1000000000001 then cq a + cq b else 1000000000001) = cq (a + b) := by
  unfold cq
  (repeat' split) <;> omega
theorem gs_range_far (f : Nat → Int) (n j : Nat) : ∀ (m s : Nat), n < j + s → gs f n j (List.range' s m) = 0 := by
  intro m
  induction m with
  | zero => intro s _; rfl
  | succ m ih =>
    intro s h
    simp only [List.range'_succ, gs]
    rw [if_neg (by omega), ih (s + 1) (by omega)]
    rfl
theorem leastw (a b : Int) : spec_l1Least.f a b = some (if a < b then a else b) := by
  unfold spec_l1Least.f
  split <;> rfl
theorem weWays_l1 (l : List Int) (r : Nat) (hl : l.length ≤ 20) (hr : r ≤ 20) (hv : ∀ x ∈ l, 0 ≤ x ∧ x ≤ 100) (j : Nat) (hj : j ≤ l.length) (R : List Int) :
    ∀ (m s : Nat) (acc : Int), s + m = r + 1 → 1 ≤ s → 0 ≤ acc →
    Ev (fun k => spec_weWays.l0 k l (r : Int) ((arr (l.length + 1) (fun i => cq (Vs (l.length + 1) (Tw r) (Bw l) i)) (j + 1)).set j (cq (acc + gs (V (l.length + 1) (Tw r) (Bw l)) (l.length + 1) j (List.range' s m)))) (wrap64 ((j : Int) - 1))) R →
    Ev (fun k => spec_weWays.l1 k l (r : Int) ((arr (l.length + 1) (fun i => cq (Vs (l.length + 1) (Tw r) (Bw l) i)) (j + 1)).set j (cq acc)) (j : Int) ((j + s : Nat) : Int)) R := by
  have hT := Tw_pos r
  have hi : incN 0 (Tw r) := Tw_inc r 0 1 (by omega)
  obtain ⟨n, hn⟩ : ∃ n, n = l.length + 1 := ⟨_, rfl⟩
  have htop : ¬ (n : Int) ∈ Bw l := hn ▸ top_Bw l
  rw [← hn]
  intro m
  induction m with
  | zero =>
    intro s acc hs h1 h0 h
    simp only [List.range'_zero, gs, Int.add_zero] at h
    refine Ev.step (f := fun k => spec_weWays.j2 k l (r : Int) ((arr n (fun i => cq (Vs n (Tw r) (Bw l) i)) (j + 1)).set j (cq acc)) (j : Int) ((j + s : Nat) : Int) false) (fun k => ?_) (Ev.step (fun k => ?_) h)
    · simp only [spec_weWays.l1]
      rw [w_add j r (by omega) (by omega), if_neg (by omega)]
    · simp only [spec_weWays.j2]
      rw [if_neg (by simp)]
  | succ m ih =>
    intro s acc hs h1 h0 h
    simp only [List.range'_succ, gs] at h
    by_cases hk : j + s ≤ n
    · rw [if_pos hk] at h
      have hV := V_Vs n (Tw r) (Bw l) hT htop (j + s) hk
      have hVb := V_bd n (Tw r) (Bw l) hT hi _ (j + s) (Nat.le_refl _) hk
      have hSb := Vs_bd n (Tw r) (Bw l) hT hi (j + s) hk
      have b1 := cq_bd h0
      have b2 := cq_bd hSb.1
      have hlen : ((arr n (fun i => cq (Vs n (Tw r) (Bw l) i)) (j + 1)).set j (cq acc)).length = n + 1 := by rw [List.length_set, arr_len]
      have g1 : rd ((arr n (fun i => cq (Vs n (Tw r) (Bw l) i)) (j + 1)).set j (cq acc)) (j : Int) = cq acc := by
        rw [rd_nat, getD_set _ _ _ _ (by rw [arr_len]; omega), if_pos rfl]
      have g2 : rd ((arr n (fun i => cq (Vs n (Tw r) (Bw l) i)) (j + 1)).set j (cq acc)) ((j + s : Nat) : Int) = cq (Vs n (Tw r) (Bw l) (j + s)) := by
        rw [rd_nat, getD_set _ _ _ _ (by rw [arr_len]; omega), if_neg (by omega), arr_get _ _ _ _ hk, if_pos (by omega)]
      have st1 : ∀ k, spec_weWays.l1 (k + 1) l (r : Int) ((arr n (fun i => cq (Vs n (Tw r) (Bw l) i)) (j + 1)).set j (cq acc)) (j : Int) ((j + s : Nat) : Int) = spec_weWays.j2 k l (r : Int) ((arr n (fun i => cq (Vs n (Tw r) (Bw l) i)) (j + 1)).set j (cq acc)) (j : Int) ((j + s : Nat) : Int) true := by
        intro k
        simp only [spec_weWays.l1]
        rw [w_add j r (by omega) (by omega), if_pos (by omega), wsucc l.length (by omega), decide_eq_true (by omega)]
      have e1 : ((j + s : Nat) : Int) + 1 = ((j + (s + 1) : Nat) : Int) := by omega
      by_cases htopk : j + s = n
      · have hV1 : V n (Tw r) (Bw l) (j + s) = Vs n (Tw r) (Bw l) (j + s) := by rw [hV, if_neg (by rw [htopk]; exact htop)]
        rw [hV1] at h hVb
        have h2 := ih (s + 1) (acc + Vs n (Tw r) (Bw l) (j + s)) (by omega) (by omega) (by omega) (by rw [Int.add_assoc]; exact h)
        refine Ev.step st1 (Ev.step (fun k => ?_) h2)
        simp only [spec_weWays.j2]
        rw [if_pos trivial, if_pos (by omega), if_pos (by omega), hlen, if_pos (by omega), if_pos (by omega), if_pos (by omega), g1, g2, w_id (x := cq acc + cq (Vs n (Tw r) (Bw l) (j + s))) (by omega) (by omega), leastw, cq_add h0 hSb.1, wsucc (j + s) (by omega)]
        simp only [Option.bind_some, Int.toNat_natCast, List.set_set]
        rfl
      · obtain ⟨q, hq⟩ : ∃ q, j + s = q + 1 := ⟨j + s - 1, by omega⟩
        have hmem := mem_Bw l q
        rw [← hq] at hmem
        have hq2 : wrap64 (((j + s : Nat) : Int) - 1) = (q : Int) := by
          rw [hq, w_pred (q + 1) (by omega) (by omega), Nat.add_sub_cancel]
        have hpos : 0 ≤ l.getD q 0 := by
          have := hv (l.getD q 0) (by rw [List.getD_eq_getElem?_getD, List.getElem?_eq_getElem (by omega)]; exact List.getElem_mem _)
          exact this.1
        by_cases hw : l.getD q 0 = 0
        · have hV0 : V n (Tw r) (Bw l) (j + s) = 0 := by rw [hV, if_pos (hmem.2 ⟨by omega, hw⟩)]
          rw [hV0, Int.zero_add] at h
          have h2 := ih (s + 1) acc (by omega) (by omega) h0 h
          refine Ev.step st1 (Ev.step (fun k => ?_) h2)
          simp only [spec_weWays.j2]
          rw [if_pos trivial, if_neg (by omega), hq2]
          clear hq2
          rw [if_pos (by omega), if_pos (by omega), rd_nat, if_neg (by omega), wsucc (j + s) (by omega)]
          rfl
        · have hV1 : V n (Tw r) (Bw l) (j + s) = Vs n (Tw r) (Bw l) (j + s) := by rw [hV, if_neg (fun h => hw (hmem.1 h).2)]
          rw [hV1] at h hVb
          clear hq2
          have h2 := ih (s + 1) (acc + Vs n (Tw r) (Bw l) (j + s)) (by omega) (by omega) (by omega) (by rw [Int.add_assoc]; exact h)
          refine Ev.step st1 (Ev.step (fun k => ?_) h2)
          simp only [spec_weWays.j2]
          rw [if_pos trivial, if_neg (by omega), show wrap64 (((j + s : Nat) : Int) - 1) = (q : Int) by rw [hq, w_pred (q + 1) (by omega) (by omega), Nat.add_sub_cancel], if_pos (by omega), if_pos (by omega), rd_nat l, if_pos (by omega), if_pos (by omega), hlen, if_pos (by omega), if_pos (by omega), if_pos (by omega), g1, g2, w_id (x := cq acc + cq (Vs n (Tw r) (Bw l) (j + s))) (by omega) (by omega), leastw, cq_add h0 hSb.1, wsucc (j + s) (by omega)]
          simp only [Option.bind_some, Int.toNat_natCast, List.set_set]
          rfl
    · rw [if_neg hk, gs_range_far _ _ _ _ _ (by omega), Int.add_zero, Int.add_zero] at h
      refine Ev.step (f := fun k => spec_weWays.j2 k l (r : Int) ((arr n (fun i => cq (Vs n (Tw r) (Bw l) i)) (j + 1)).set j (cq acc)) (j : Int) ((j + s : Nat) : Int) false) (fun k => ?_) (Ev.step (fun k => ?_) h)
      · simp only [spec_weWays.l1]
        rw [w_add j r (by omega) (by omega), if_pos (by omega), wsucc l.length (by omega), decide_eq_false (by omega)]
      · simp only [spec_weWays.j2]
        rw [if_neg (by simp)]
theorem weWays_l0 (l : List Int) (r : Nat) (hl : l.length ≤ 20) (hr : r ≤ 20) (hv : ∀ x ∈ l, 0 ≤ x ∧ x ≤ 100) : ∀ (m : Nat), m ≤ l.length + 1 →
    Ev (fun k => spec_weWays.l0 k l (r : Int) (arr (l.length + 1) (fun i => cq (Vs (l.length + 1) (Tw r) (Bw l) i)) m) (wrap64 ((m : Int) - 1))) (arr (l.length + 1) (fun i => cq (Vs (l.length + 1) (Tw r) (Bw l) i)) 0) := by
  intro m
  induction m with
  | zero =>
    intro _
    refine Ev.step (fun k => ?_) (Ev.now _)
    simp only [spec_weWays.l0]
    rw [w_id (x := ((0 : Nat) : Int) - 1) (by omega) (by omega), if_neg (by omega)]
  | succ m ih =>
    intro hm
    have h0 : cq 0 = 0 := by decide
    have hvs : Vs (l.length + 1) (Tw r) (Bw l) m = gs (V (l.length + 1) (Tw r) (Bw l)) (l.length + 1) m (Tw r) := if_neg (by omega)
    have h1 := weWays_l1 l r hl hr hv m (by omega) (arr (l.length + 1) (fun i => cq (Vs (l.length + 1) (Tw r) (Bw l) i)) 0) r 1 0 (by omega) (by omega) (by omega)
      (by rw [Int.zero_add, arr_put (l.length + 1) (fun i => cq (Vs (l.length + 1) (Tw r) (Bw l) i)) m _ (by omega) (by rw [hvs])]; exact ih (by omega))
    rw [h0, ← arr_zero _ _ m (by omega), ← wsucc m (by omega)] at h1
    refine Ev.step (fun k => ?_) h1
    simp only [spec_weWays.l0]
    rw [w_pred (m + 1) (by omega) (by omega), Nat.add_sub_cancel, if_pos (by omega)]
theorem wtwo (q m : Nat) (h : q = m + 1) (hm : m ≤ 1000000000) : wrap64 ((m : Int) + 2) = ((q + 1 : Nat) : Int) := by
  rw [w_id (by omega) (by omega)]
  omega
theorem weWays_ev (l : List Int) (r : Nat) (hl : l.length ≤ 20) (hr : r ≤ 20) (hv : ∀ x ∈ l, 0 ≤ x ∧ x ≤ 100) : Ev (fun k => spec_weWays.f k l (r : Int)) (arr (l.length + 1) (fun i => cq (Vs (l.length + 1) (Tw r) (Bw l) i)) 0) := by
  have h := weWays_l0 l r hl hr hv (l.length + 1) (Nat.le_refl _)
  rw [w_pred (l.length + 1) (by omega) (by omega), Nat.add_sub_cancel, ← arr_top (l.length + 1) _ 1 (by rw [Vs, if_pos rfl]; decide)] at h
  refine Ev.congr (fun k => ?_) h
  unfold spec_weWays.f
  obtain ⟨q, hq⟩ : ∃ q, q = l.length + 1 := ⟨_, rfl⟩
  rw [wtwo q l.length hq (by omega), wsucc l.length (by omega), ← hq, if_pos (by omega), Int.toNat_natCast, if_pos (by omega)]
  simp only [Option.bind_some]
  rw [if_pos (by omega), List.length_replicate, if_pos (by omega), Int.toNat_natCast]

/-- A row that is filled from its end; d where it isn't yet. -/
def ard (d : Int) (n : Nat) (f : Nat → Int) (m : Nat) : List Int := (List.range (n + 1)).map (fun j => if m ≤ j then f j else d)
theorem ard_len (d : Int) (n : Nat) (f : Nat → Int) (m : Nat) : (ard d n f m).length = n + 1 := by simp [ard]
theorem ard_get (d : Int) (n : Nat) (f : Nat → Int) (m j : Nat) (h : j ≤ n) : (ard d n f m).getD j 0 = if m ≤ j then f j else d := by
  simp only [ard, List.getD_eq_getElem?_getD, List.getElem?_map, List.getElem?_range (show j < n + 1 by omega), Option.map_some, Option.getD_some]
theorem ard_ext {d : Int} {n : Nat} {f : Nat → Int} {m : Nat} {x : List Int} (hl : x.length = n + 1) (h : ∀ j, j ≤ n → x.getD j 0 = if m ≤ j then f j else d) : x = ard d n f m := by
  refine List.ext_getElem (by rw [hl, ard_len]) (fun j h1 h2 => ?_)
  have h3 := h j (by omega)
  rw [← ard_get d n f m j (by omega), List.getD_eq_getElem?_getD, List.getD_eq_getElem?_getD, List.getElem?_eq_getElem h1, List.getElem?_eq_getElem h2] at h3
  exact h3
theorem ard_put (d : Int) (n : Nat) (f : Nat → Int) (m : Nat) (v : Int) (h : m ≤ n) (hv : f m = v) : (ard d n f (m + 1)).set m v = ard d n f m := by
  refine ard_ext (by rw [List.length_set, ard_len]) (fun j hj => ?_)
  rw [getD_set _ _ _ _ (by rw [ard_len]; omega), ard_get d n f _ j hj]
  by_cases h1 : m = j
  · subst h1
    rw [if_pos rfl, if_pos (Nat.le_refl _), hv]
  · rw [if_neg h1]
    by_cases h2 : m ≤ j
    · rw [if_pos h2, if_pos (by omega)]
    · rw [if_neg h2, if_neg (by omega)]
theorem ard_d (d : Int) (n : Nat) (f : Nat → Int) (m : Nat) (h : m ≤ n) : ard d n f (m + 1) = (ard d n f (m + 1)).set m d := by
  symm
  refine ard_ext (by rw [List.length_set, ard_len]) (fun j hj => ?_)
  rw [getD_set _ _ _ _ (by rw [ard_len]; omega), ard_get d n f _ j hj]
  by_cases h1 : m = j
  · subst h1
    rw [if_pos rfl, if_neg (by omega)]
  · rw [if_neg h1]
theorem ard_top (d : Int) (n : Nat) (f : Nat → Int) (v : Int) (h : f n = v) : (List.replicate (n + 1) d).set n v = ard d n f n := by
  refine ard_ext (by rw [List.length_set, List.length_replicate]) (fun j hj => ?_)
  rw [getD_set _ _ _ _ (by rw [List.length_replicate]; omega)]
  by_cases h1 : n = j
  · subst h1
    rw [if_pos rfl, if_pos (Nat.le_refl _), h]
  · rw [if_neg h1, if_neg (by omega), List.getD_eq_getElem?_getD, List.getElem?_replicate, if_pos (by omega)]
    rfl
/-- Strides less one; -1: none. -/
def E1 (v : Int) : Int := if v < 0 then -1 else v - 1
def Fw (n : Nat) (T : List Nat) (B : List Int) (j : Nat) : Int := if j = n then 0 else E1 (Lf n T B false j)
theorem lf_neg {most : Bool} {f : Nat → Int} {n j : Nat} : ∀ (ss : List Nat) (acc : Int), lf most f n j acc ss < 0 → acc < 0 ∧ ∀ s ∈ ss, j + s ≤ n → f (j + s) < 0 := by
  intro ss
  induction ss with
  | nil => intro acc h; exact ⟨h, fun s hs => by simp at hs⟩
  | cons s ss ih =>
    intro acc h
    simp only [lf] at h
    obtain ⟨h1, h2⟩ := ih _ h
    by_cases hc : j + s ≤ n ∧ 0 ≤ f (j + s)
    · rw [if_pos hc] at h1
      have : 0 ≤ btr most acc (f (j + s) + 1) := by
        unfold btr
        (repeat' split) <;> omega
      omega
    · rw [if_neg hc] at h1
      refine ⟨h1, fun t ht hn => ?_⟩
      rcases List.mem_cons.mp ht with e | ht
      · subst e
        by_cases h3 : f (j + t) < 0
        · exact h3
        · exact absurd ⟨hn, by omega⟩ hc
      · exact h2 t ht hn
theorem Lf_V (n : Nat) (T : List Nat) (B : List Int) (hT : ∀ t ∈ T, 1 ≤ t) (hi : incN 0 T) : ∀ (d j : Nat), n - j ≤ d → j ≤ n → (0 < V n T B j ↔ 0 ≤ Lf n T B false j) := by
  intro d
  induction d with
  | zero =>
    intro j h1 h2
    obtain rfl : j = n := by omega
    rw [V_top, Lf_top]
    omega
  | succ d ih =>
    intro j h1 h2
    by_cases hj : j = n
    · subst hj
      rw [V_top, Lf_top]
      omega
    · rw [V_rec n T B hT j (by omega), Lf_rec n T B false hT j (by omega)]
      by_cases hb : (j : Int) ∈ B
      · rw [if_pos hb, if_pos hb]
        omega
      · rw [if_neg hb, if_neg hb, gs_pos (fun i _ h => (V_bd n T B hT hi _ i (Nat.le_refl _) h).1) hT]
        constructor
        · rintro ⟨s, a, b, c⟩
          have h3 := (ih (j + s) (by have := hT s a; omega) b).1 c
          by_cases h4 : lf false (Lf n T B false) n j (-1) T < 0
          · have := (lf_neg T (-1) h4).2 s a b
            omega
          · omega
        · intro h
          rcases lf_or (most := false) (f := Lf n T B false) (n := n) (j := j) T (-1) with h4 | ⟨s, a, b, c, _⟩
          · omega
          · exact ⟨s, a, b, (ih (j + s) (by have := hT s a; omega) b).2 c⟩
theorem Lf_ge1 (n : Nat) (T : List Nat) (B : List Int) (hT : ∀ t ∈ T, 1 ≤ t) (j : Nat) (hj : j < n) (h : 0 ≤ Lf n T B false j) : 1 ≤ Lf n T B false j := by
  have hr := Lf_rec n T B false hT j hj
  by_cases hb : (j : Int) ∈ B
  · rw [if_pos hb] at hr
    omega
  · rw [if_neg hb] at hr
    rcases lf_or (most := false) (f := Lf n T B false) (n := n) (j := j) T (-1) with h4 | ⟨s, a, b, c, d⟩ <;> omega
theorem lf_range_far (most : Bool) (f : Nat → Int) (n j : Nat) : ∀ (m s : Nat) (acc : Int), n < j + s → lf most f n j acc (List.range' s m) = acc := by
  intro m
  induction m with
  | zero => intro s acc _; rfl
  | succ m ih =>
    intro s acc h
    simp only [List.range'_succ, lf]
    rw [if_neg (fun h2 => by omega), ih (s + 1) acc (by omega)]
theorem mn_nat (a b : Nat) : mn (a : Int) (b : Int) = ((min a b : Nat) : Int) := by
  unfold mn
  split <;> omega
theorem upd_few {fa L : Int} (h2 : 0 ≤ fa → 1 ≤ fa) (hL : 0 ≤ L) : (if E1 fa < 0 then L else if L < E1 fa then L else E1 fa) = E1 (btr false fa (L + 1)) := by
  unfold btr E1
  simp only [Bool.false_eq_true, if_false]
  (repeat' split) <;> omega
theorem upd_row (Z : List Int) (j : Nat) {fa L : Int} (h2 : 0 ≤ fa → 1 ≤ fa) (hL : 0 ≤ L) : (if E1 fa < 0 then (Z.set j (E1 fa)).set j L else if L < E1 fa then (Z.set j (E1 fa)).set j L else Z.set j (E1 fa)) = Z.set j (E1 (btr false fa (L + 1))) := by
  rw [← upd_few h2 hL]
  by_cases a1 : E1 fa < 0
  · rw [if_pos a1, if_pos a1, List.set_set]
  · rw [if_neg a1, if_neg a1]
    by_cases a2 : L < E1 fa
    · rw [if_pos a2, if_pos a2, List.set_set]
    · rw [if_neg a2, if_neg a2]
theorem ways_l1 (l : List Int) (r : Nat) (hl : l.length ≤ 20) (hr : r ≤ 20) (j : Nat) (hj : j ≤ l.length) (R : List Int × List Int) :
    ∀ (m s : Nat) (acc fa : Int), s + m = r + 1 → 1 ≤ s → 0 ≤ acc → acc + gs (V (l.length + 1) (Tw r) (Bw l)) (l.length + 1) j (List.range' s m) ≤ 1152921504606846976 → (fa < 0 → fa = -1) → (0 ≤ fa → 1 ≤ fa) →
    (∀ c f, c = acc + gs (V (l.length + 1) (Tw r) (Bw l)) (l.length + 1) j (List.range' s m) → f = lf false (Lf (l.length + 1) (Tw r) (Bw l) false) (l.length + 1) j fa (List.range' s m) →
      Ev (fun k => impl_ways.l1 k l (r : Int) ((l.length + 1 : Nat) : Int) ((arr (l.length + 1) (V (l.length + 1) (Tw r) (Bw l)) (j + 1)).set j c) ((ard (-1) (l.length + 1) (Fw (l.length + 1) (Tw r) (Bw l)) (j + 1)).set j (E1 f)) (j : Int) ((min (j + r) (l.length + 1) + 1 : Nat) : Int)) R) →
    j + s ≤ min (j + r) (l.length + 1) + 1 →
    Ev (fun k => impl_ways.l1 k l (r : Int) ((l.length + 1 : Nat) : Int) ((arr (l.length + 1) (V (l.length + 1) (Tw r) (Bw l)) (j + 1)).set j acc) ((ard (-1) (l.length + 1) (Fw (l.length + 1) (Tw r) (Bw l)) (j + 1)).set j (E1 fa)) (j : Int) ((j + s : Nat) : Int)) R := by
  have hT := Tw_pos r
  have hi : incN 0 (Tw r) := Tw_inc r 0 1 (by omega)
  obtain ⟨n, hn⟩ : ∃ n, n = l.length + 1 := ⟨_, rfl⟩
  rw [← hn]
  intro m
  induction m with
  | zero =>
    intro s acc fa hs h1 h0 hb hf1 hf2 h hle
    have h2 := h acc fa (by simp [gs]) (by simp [lf])
    have e : min (j + r) n + 1 = j + s := by omega
    rw [e] at h2
    exact h2
  | succ m ih =>
    intro s acc fa hs h1 h0 hb hf1 hf2 h hle
    simp only [List.range'_succ, gs, lf] at h hb
    by_cases hk : j + s ≤ n
    · rw [if_pos hk] at h hb
      have hmin : j + s ≤ min (j + r) n := by omega
      have hVb := V_bd n (Tw r) (Bw l) hT hi _ (j + s) (Nat.le_refl _) hk
      have hLb := Lf_bd n (Tw r) (Bw l) false hT _ (j + s) (Nat.le_refl _) hk
      have hLV := Lf_V n (Tw r) (Bw l) hT hi _ (j + s) (Nat.le_refl _) hk
      have hLn := Lf_top n (Tw r) (Bw l) false
      have hrest : 0 ≤ gs (V n (Tw r) (Bw l)) n j (List.range' (s + 1) m) := gs_nonneg (fun i _ h => (V_bd n (Tw r) (Bw l) hT hi _ i (Nat.le_refl _) h).1) _ (fun t ht => by have := List.mem_range'_1.mp ht; omega)
      have hlx : ((arr n (V n (Tw r) (Bw l)) (j + 1)).set j acc).length = n + 1 := by rw [List.length_set, arr_len]
      have hly : ((ard (-1) n (Fw n (Tw r) (Bw l)) (j + 1)).set j (E1 fa)).length = n + 1 := by rw [List.length_set, ard_len]
      have gx1 : rd ((arr n (V n (Tw r) (Bw l)) (j + 1)).set j acc) (j : Int) = acc := by
        rw [rd_nat, getD_set _ _ _ _ (by rw [arr_len]; omega), if_pos rfl]
      have gx2 : rd ((arr n (V n (Tw r) (Bw l)) (j + 1)).set j acc) ((j + s : Nat) : Int) = V n (Tw r) (Bw l) (j + s) := by
        rw [rd_nat, getD_set _ _ _ _ (by rw [arr_len]; omega), if_neg (by omega), arr_get _ _ _ _ hk, if_pos (by omega)]
      have gy1 : rd ((ard (-1) n (Fw n (Tw r) (Bw l)) (j + 1)).set j (E1 fa)) (j : Int) = E1 fa := by
        rw [rd_nat, getD_set _ _ _ _ (by rw [ard_len]; omega), if_pos rfl]
      have gy2 : rd ((ard (-1) n (Fw n (Tw r) (Bw l)) (j + 1)).set j (E1 fa)) ((j + s : Nat) : Int) = Fw n (Tw r) (Bw l) (j + s) := by
        rw [rd_nat, getD_set _ _ _ _ (by rw [ard_len]; omega), if_neg (by omega), ard_get _ _ _ _ _ hk, if_pos (by omega)]
      by_cases hL : Lf n (Tw r) (Bw l) false (j + s) < 0
      · have hV0 : V n (Tw r) (Bw l) (j + s) = 0 := by omega
        have hne : j + s ≠ n := fun h => by rw [h] at hL; omega
        have hF : Fw n (Tw r) (Bw l) (j + s) = -1 := by
          unfold Fw E1
          rw [if_neg hne, if_pos hL]
        have e : (if j + s ≤ n ∧ 0 ≤ Lf n (Tw r) (Bw l) false (j + s) then btr false fa (Lf n (Tw r) (Bw l) false (j + s) + 1) else fa) = fa := if_neg (fun h => by omega)
        rw [e, hV0, Int.zero_add] at h
        rw [hV0, Int.zero_add] at hb
        refine Ev.step (fun k => ?_) (ih (s + 1) acc fa (by omega) (by omega) h0 hb hf1 hf2 h (by omega))
        simp only [impl_ways.l1]
        rw [w_add j r (by omega) (by omega), mn_nat, if_pos (by omega), if_pos (by omega), hly, if_pos (by omega), gy2, hF, if_pos (by omega), wsucc (j + s) (by omega)]
        rfl
      · have e : (if j + s ≤ n ∧ 0 ≤ Lf n (Tw r) (Bw l) false (j + s) then btr false fa (Lf n (Tw r) (Bw l) false (j + s) + 1) else fa) = btr false fa (Lf n (Tw r) (Bw l) false (j + s) + 1) := if_pos ⟨hk, by omega⟩
        rw [e] at h
        have hbt : (btr false fa (Lf n (Tw r) (Bw l) false (j + s) + 1) < 0 → btr false fa (Lf n (Tw r) (Bw l) false (j + s) + 1) = -1) ∧ (0 ≤ btr false fa (Lf n (Tw r) (Bw l) false (j + s) + 1) → 1 ≤ btr false fa (Lf n (Tw r) (Bw l) false (j + s) + 1)) := by
          unfold btr
          simp only [Bool.false_eq_true, if_false]
          constructor <;> (repeat' split) <;> omega
        have h2 := ih (s + 1) (acc + V n (Tw r) (Bw l) (j + s)) (btr false fa (Lf n (Tw r) (Bw l) false (j + s) + 1)) (by omega) (by omega) (by omega) (by omega) hbt.1 hbt.2 (fun c f hc hf => h c f (by rw [hc]; omega) hf) (by omega)
        by_cases htop : j + s = n
        · have hF : Fw n (Tw r) (Bw l) (j + s) = 0 := if_pos htop
          have hL0 : Lf n (Tw r) (Bw l) false (j + s) = 0 := by rw [htop]; exact hLn
          refine Ev.step (fun k => ?_) h2
          rw [hL0, ← upd_row _ j hf2 (by omega)]
          simp only [impl_ways.l1]
          rw [w_add j r (by omega) (by omega), mn_nat, if_pos (by omega), if_pos (by omega), hly, if_pos (by omega), gy2, hF, if_neg (by omega), if_pos (by omega), if_pos (by omega), hlx, if_pos (by omega), if_pos (by omega)]
          simp only [Option.bind_some]
          rw [if_pos (by omega), gy1, gx1, gx2, w_id (x := acc + V n (Tw r) (Bw l) (j + s)) (by omega) (by omega), wsucc (j + s) (by omega), Int.toNat_natCast, List.set_set]
          by_cases a1 : E1 fa < 0
          · rw [if_pos a1, if_pos a1]
            rfl
          · rw [if_neg a1, if_neg a1]
            by_cases a2 : 0 < E1 fa
            · rw [if_pos a2, if_pos a2]
              rfl
            · rw [if_neg a2, if_neg a2]
              rfl
        · have hL1 := Lf_ge1 n (Tw r) (Bw l) hT (j + s) (by omega) (by omega)
          have hF : Fw n (Tw r) (Bw l) (j + s) = Lf n (Tw r) (Bw l) false (j + s) - 1 := by
            unfold Fw E1
            rw [if_neg htop, if_neg hL]
          refine Ev.step (fun k => ?_) h2
          rw [← upd_row _ j hf2 (by omega)]
          simp only [impl_ways.l1]
          rw [w_add j r (by omega) (by omega), mn_nat, if_pos (by omega), if_pos (by omega), hly, if_pos (by omega), gy2, hF, if_neg (by omega), if_neg (by omega), if_pos (by omega), hlx, if_pos (by omega), if_pos (by omega)]
          simp only [Option.bind_some]
          rw [if_pos (by omega), gy1, gx1, gx2, Int.sub_add_cancel, w_id (x := Lf n (Tw r) (Bw l) false (j + s)) (by omega) (by omega), w_id (x := acc + V n (Tw r) (Bw l) (j + s)) (by omega) (by omega), wsucc (j + s) (by omega), Int.toNat_natCast, List.set_set]
          by_cases a1 : E1 fa < 0
          · rw [if_pos a1, if_pos a1]
            rfl
          · rw [if_neg a1, if_neg a1]
            by_cases a2 : Lf n (Tw r) (Bw l) false (j + s) < E1 fa
            · rw [if_pos a2, if_pos a2]
              rfl
            · rw [if_neg a2, if_neg a2]
              rfl
    · have h2 := h acc fa (by rw [if_neg hk, gs_range_far _ _ _ _ _ (by omega)]; omega) (by rw [if_neg (fun h => hk h.1), lf_range_far _ _ _ _ _ _ _ (by omega)])
      have e : min (j + r) n + 1 = j + s := by omega
      rw [e] at h2
      exact h2
theorem ways_end (l : List Int) (r : Nat) (hl : l.length ≤ 20) (hr : r ≤ 20) (j : Nat) (hj : j ≤ l.length) (R : List Int × List Int)
    (h : Ev (fun k => impl_ways.l0 k l (r : Int) ((l.length + 1 : Nat) : Int) (arr (l.length + 1) (V (l.length + 1) (Tw r) (Bw l)) j) (ard (-1) (l.length + 1) (Fw (l.length + 1) (Tw r) (Bw l)) j) (wrap64 ((j : Int) - 1))) R)
    (c f : Int) (hc : c = gs (V (l.length + 1) (Tw r) (Bw l)) (l.length + 1) j (Tw r)) (hf : f = lf false (Lf (l.length + 1) (Tw r) (Bw l) false) (l.length + 1) j (-1) (Tw r)) :
    Ev (fun k => impl_ways.l1 k l (r : Int) ((l.length + 1 : Nat) : Int) ((arr (l.length + 1) (V (l.length + 1) (Tw r) (Bw l)) (j + 1)).set j c) ((ard (-1) (l.length + 1) (Fw (l.length + 1) (Tw r) (Bw l)) (j + 1)).set j (E1 f)) (j : Int) ((min (j + r) (l.length + 1) + 1 : Nat) : Int)) R := by
  have hT := Tw_pos r
  obtain ⟨n, hn⟩ : ∃ n, n = l.length + 1 := ⟨_, rfl⟩
  rw [← hn] at h hc hf ⊢
  have hV := V_rec n (Tw r) (Bw l) hT j (by omega)
  have hL := Lf_rec n (Tw r) (Bw l) false hT j (by omega)
  have hF : Fw n (Tw r) (Bw l) j = E1 (Lf n (Tw r) (Bw l) false j) := if_neg (by omega)
  have hlx : ((arr n (V n (Tw r) (Bw l)) (j + 1)).set j c).length = n + 1 := by rw [List.length_set, arr_len]
  have hly : ((ard (-1) n (Fw n (Tw r) (Bw l)) (j + 1)).set j (E1 f)).length = n + 1 := by rw [List.length_set, ard_len]
  refine Ev.step (fun k => ?_) h
  simp only [impl_ways.l1]
  rw [w_add j r (by omega) (by omega), mn_nat, if_neg (by omega)]
  cases j with
  | zero =>
    rw [if_neg (zero_Bw l)] at hV hL
    rw [if_neg (by omega), arr_put n _ 0 c (by omega) (by rw [hV, hc]), ard_put (-1) n _ 0 (E1 f) (by omega) (by rw [hF, hL, hf])]
  | succ q =>
    have hm := mem_Bw l q
    rw [if_pos (by omega), show wrap64 (((q + 1 : Nat) : Int) - 1) = (q : Int) by rw [w_pred (q + 1) (by omega) (by omega), Nat.add_sub_cancel], if_pos (by omega), if_pos (by omega), rd_nat]
    by_cases hw : l.getD q 0 = 0
    · rw [if_pos (hm.2 ⟨by omega, hw⟩)] at hV hL
      rw [if_pos hw, if_pos (by omega), hlx, if_pos (by omega), hly, if_pos (by omega), Int.toNat_natCast, List.set_set, List.set_set, arr_put n _ (q + 1) 0 (by omega) hV, ard_put (-1) n _ (q + 1) (-1) (by omega) (by rw [hF, hL]; rfl)]
    · rw [if_neg (fun h => hw (hm.1 h).2)] at hV hL
      rw [if_neg hw, arr_put n _ (q + 1) c (by omega) (by rw [hV, hc]), ard_put (-1) n _ (q + 1) (E1 f) (by omega) (by rw [hF, hL, hf])]
theorem ways_l0 (l : List Int) (r : Nat) (hl : l.length ≤ 20) (h1r : 1 ≤ r) (hr : r ≤ 20) : ∀ (m : Nat), m ≤ l.length + 1 →
    Ev (fun k => impl_ways.l0 k l (r : Int) ((l.length + 1 : Nat) : Int) (arr (l.length + 1) (V (l.length + 1) (Tw r) (Bw l)) m) (ard (-1) (l.length + 1) (Fw (l.length + 1) (Tw r) (Bw l)) m) (wrap64 ((m : Int) - 1)))
      (arr (l.length + 1) (V (l.length + 1) (Tw r) (Bw l)) 0, ard (-1) (l.length + 1) (Fw (l.length + 1) (Tw r) (Bw l)) 0) := by
  have hT := Tw_pos r
  have hi : incN 0 (Tw r) := Tw_inc r 0 1 (by omega)
  intro m
  induction m with
  | zero =>
    intro _
    refine Ev.step (fun k => ?_) (Ev.now _)
    simp only [impl_ways.l0]
    rw [w_id (x := ((0 : Nat) : Int) - 1) (by omega) (by omega), if_neg (by omega)]
  | succ m ih =>
    intro hm
    have hb := (gs_bd (f := V (l.length + 1) (Tw r) (Bw l)) (n := l.length + 1) (j := m) (fun i _ h => V_bd (l.length + 1) (Tw r) (Bw l) hT hi _ i (Nat.le_refl _) h) (Tw r) 0 hi).2
    have h60 := p2_60 (d := l.length + 1 - m - 0) (by omega)
    have h1 := ways_l1 l r hl hr m (by omega) (arr (l.length + 1) (V (l.length + 1) (Tw r) (Bw l)) 0, ard (-1) (l.length + 1) (Fw (l.length + 1) (Tw r) (Bw l)) 0) r 1 0 (-1) (by omega) (by omega) (by omega) (by show 0 + gs (V (l.length + 1) (Tw r) (Bw l)) (l.length + 1) m (Tw r) ≤ _; omega) (fun _ => rfl) (fun h => by omega)
      (fun c f hc hf => ways_end l r hl hr m (by omega) _ (ih (by omega)) c f (by rw [hc, Int.zero_add]) hf) (by omega)
    have e1 : E1 (-1) = -1 := rfl
    rw [e1, ← arr_zero _ _ m (by omega), ← ard_d (-1) _ _ m (by omega), ← wsucc m (by omega)] at h1
    refine Ev.step (fun k => ?_) h1
    simp only [impl_ways.l0]
    rw [w_pred (m + 1) (by omega) (by omega), Nat.add_sub_cancel, if_pos (by omega)]
theorem ways_ev (l : List Int) (r : Nat) (hl : l.length ≤ 20) (h1r : 1 ≤ r) (hr : r ≤ 20) : Ev (fun k => impl_ways.f k l (r : Int)) (arr (l.length + 1) (V (l.length + 1) (Tw r) (Bw l)) 0, ard (-1) (l.length + 1) (Fw (l.length + 1) (Tw r) (Bw l)) 0) := by
  have h := ways_l0 l r hl h1r hr (l.length + 1) (Nat.le_refl _)
  obtain ⟨n, hn⟩ : ∃ n, n = l.length + 1 := ⟨_, rfl⟩
  rw [← hn] at h ⊢
  rw [← arr_top n _ 1 (V_top n _ _), ← ard_top (-1) n _ 0 (if_pos rfl)] at h
  refine Ev.congr (fun k => ?_) h
  unfold impl_ways.f slices_Repeat_int_int.f
  rw [wsucc l.length (by omega), ← hn, wsucc n (by omega), if_pos (by omega), Int.toNat_natCast, if_pos (by omega)]
  simp only [Option.bind_some]
  rw [if_pos ⟨rfl, by omega, by omega⟩]
  simp only [Option.bind_some]
  rw [if_pos (by omega), List.length_replicate, if_pos (by omega), List.length_replicate, if_pos (by omega)]
  rfl
theorem weReach_cases (l : List Int) (r : Int) (hl : l.length ≤ 1048576) : (∃ n : Nat, r = (n : Int) ∧ 1 ≤ n ∧ n ≤ 20 ∧ l.length ≤ 20 ∧ (∀ x ∈ l, 0 ≤ x ∧ x ≤ 100) ∧ canW l r = true) ∨ canW l r = false := by
  cases h : canW l r
  · exact Or.inr rfl
  · obtain ⟨h1, h2, h3⟩ := canW_bd h
    obtain ⟨g1, g2, g3⟩ := goodB_bd h1
    exact Or.inl ⟨r.toNat, by omega, by omega, by omega, g2, g3, rfl⟩

/-- A climb, from the step 'at' on. -/
def isV (b : List Int) (r : Int) : Int → List Int → Bool
  | at_, [] => decide ((b.length : Int) + 1 - at_ ≤ r)
  | at_, k :: ks => decide (at_ + 1 ≤ k ∧ k ≤ at_ + r ∧ k ≤ (b.length : Int)) && (decide (1 ≤ b.getD (k - 1).toNat 0) && isV b r k ks)
theorem least_val' (a b : Int) : spec_l1Least.f a b = some (if a < b then a else b) := by
  unfold spec_l1Least.f
  split <;> rfl
theorem isWear_l (b : List Int) (r : Int) (hb : b.length ≤ 20) (hv : ∀ x ∈ b, 0 ≤ x ∧ x ≤ 100) (r1 : 1 ≤ r) (r2 : r ≤ 20) (s : List Int) (hs : s.length ≤ 9223372036854775807) :
    ∀ (ks : List Int) (i : Nat) (at_ : Int), s.drop i = ks → i ≤ s.length → 0 ≤ at_ → at_ ≤ (b.length : Int) → (i : Int) ≤ at_ → Ev (fun k => impl_isWearClimb.l0 k b r at_ ((b.length : Int) + 1) s (s.length : Int) (i : Int)) (isV b r at_ ks) := by
  intro ks
  induction ks with
  | nil =>
    intro i at_ hd hi h0 h1 hia
    have hl : s.length - i = 0 := by
      have := congrArg List.length hd
      rwa [List.length_drop] at this
    refine Ev.step (fun k => ?_) (Ev.now _)
    have w2 : wrap64 ((b.length : Int) + 1 - at_) = (b.length : Int) + 1 - at_ := by
      unfold wrap64
      omega
    simp only [impl_isWearClimb.l0]
    rw [if_neg (by omega), w2]
    rfl
  | cons x ks ih =>
    intro i at_ hd hi h0 h1 hia
    have hl : s.length - i = ks.length + 1 := by
      have := congrArg List.length hd
      rwa [List.length_drop, List.length_cons] at this
    have hx : s.getD i 0 = x := by
      rw [drop_cons s i (by omega)] at hd
      exact (List.cons.inj hd).1
    have hd' : s.drop (i + 1) = ks := by
      rw [drop_cons s i (by omega)] at hd
      exact (List.cons.inj hd).2
    have w1 : wrap64 ((b.length : Int) + 1 - 1) = (b.length : Int) := by
      unfold wrap64
      omega
    have w2 : wrap64 (at_ + 1) = at_ + 1 := by
      unfold wrap64
      omega
    by_cases hr : at_ + 1 ≤ x ∧ x ≤ (b.length : Int)
    · have w4 : wrap64 (x - at_) = x - at_ := by
        unfold wrap64
        omega
      by_cases hf : x - at_ > r
      · rw [show isV b r at_ (x :: ks) = false by simp only [isV]; rw [decide_eq_false (by omega)]; rfl]
        refine Ev.step (fun k => ?_) (Ev.now _)
        simp only [impl_isWearClimb.l0]
        rw [if_pos (by omega), if_pos (by omega), if_pos (by omega), rd_nat, hx, w1, w2]
        simp only [Option.bind_some, within_val]
        rw [decide_eq_true hr, if_pos rfl, w4, if_pos hf]
      · have hc : at_ + 1 ≤ x ∧ x ≤ at_ + r ∧ x ≤ (b.length : Int) := by omega
        have w3 : wrap64 (x - 1) = (((x - 1).toNat : Nat) : Int) := by
          unfold wrap64
          omega
        have hg := getD_bd hv (i := (x - 1).toNat) (by omega)
        by_cases hz : 1 ≤ b.getD (x - 1).toNat 0
        · have h := ih (i + 1) x hd' (by omega) (by omega) (by omega) (by omega)
          simp only [isV, decide_eq_true hc, decide_eq_true hz, Bool.true_and]
          refine Ev.step (fun k => ?_) h
          simp only [impl_isWearClimb.l0]
          rw [if_pos (by omega), if_pos (by omega), if_pos (by omega), rd_nat, hx, w1, w2]
          simp only [Option.bind_some, within_val]
          rw [decide_eq_true hr, if_pos rfl, w4, if_neg hf, w3, if_pos (by omega), if_pos (by omega), rd_nat, if_neg (by omega), wsucc i (by omega)]
        · simp only [isV, decide_eq_true hc, decide_eq_false hz, Bool.true_and, Bool.false_and]
          refine Ev.step (fun k => ?_) (Ev.now _)
          simp only [impl_isWearClimb.l0]
          rw [if_pos (by omega), if_pos (by omega), if_pos (by omega), rd_nat, hx, w1, w2]
          simp only [Option.bind_some, within_val]
          rw [decide_eq_true hr, if_pos rfl, w4, if_neg hf, w3, if_pos (by omega), if_pos (by omega), rd_nat, if_pos (by omega)]
    · rw [show isV b r at_ (x :: ks) = false by simp only [isV]; rw [decide_eq_false (by omega)]; rfl]
      refine Ev.step (fun k => ?_) (Ev.now _)
      simp only [impl_isWearClimb.l0]
      rw [if_pos (by omega), if_pos (by omega), if_pos (by omega), rd_nat, hx, w1, w2]
      simp only [Option.bind_some, within_val]
      rw [decide_eq_false hr, if_neg (by simp)]
theorem isWear_ev (b : List Int) (r : Int) (hb : b.length ≤ 20) (hv : ∀ x ∈ b, 0 ≤ x ∧ x ≤ 100) (r1 : 1 ≤ r) (r2 : r ≤ 20) (s : List Int) (hs : s.length ≤ 9223372036854775807) : Ev (fun k => impl_isWearClimb.f k b r s) (isV b r 0 s) := by
  unfold impl_isWearClimb.f
  have w1 : wrap64 ((b.length : Int) + 1) = (b.length : Int) + 1 := by
    unfold wrap64
    omega
  rw [w1]
  exact isWear_l b r hb hv r1 r2 s hs s 0 0 rfl (by omega) (by omega) (by omega) (by omega)

theorem btr_le {acc v : Int} (hv : 0 ≤ v) : 0 ≤ btr false acc v ∧ btr false acc v ≤ v ∧ (0 ≤ acc → btr false acc v ≤ acc) := by
  unfold btr
  simp only [Bool.false_eq_true, if_false]
  (repeat' split) <;> omega
theorem lf_le {f : Nat → Int} {n j : Nat} : ∀ (ss : List Nat) (acc : Int), (0 ≤ acc → 0 ≤ lf false f n j acc ss ∧ lf false f n j acc ss ≤ acc) ∧ ∀ s ∈ ss, j + s ≤ n → 0 ≤ f (j + s) → 0 ≤ lf false f n j acc ss ∧ lf false f n j acc ss ≤ f (j + s) + 1 := by
  intro ss
  induction ss with
  | nil => intro acc; exact ⟨fun h => ⟨h, Int.le_refl _⟩, fun s h => by simp at h⟩
  | cons s ss ih =>
    intro acc
    simp only [lf]
    by_cases hc : j + s ≤ n ∧ 0 ≤ f (j + s)
    · rw [if_pos hc]
      have hb := btr_le (acc := acc) (v := f (j + s) + 1) (by omega)
      obtain ⟨i1, i2⟩ := ih (btr false acc (f (j + s) + 1))
      have i3 := i1 hb.1
      refine ⟨fun h => by have := hb.2.2 h; omega, fun t ht hn hf => ?_⟩
      rcases List.mem_cons.mp ht with e | ht
      · subst e
        omega
      · exact i2 t ht hn hf
    · rw [if_neg hc]
      obtain ⟨i1, i2⟩ := ih acc
      refine ⟨i1, fun t ht hn hf => ?_⟩
      rcases List.mem_cons.mp ht with e | ht
      · subst e
        exact absurd ⟨hn, hf⟩ hc
      · exact i2 t ht hn hf
/-- The fewest strides from a step, worn or not. -/
def Ls (n : Nat) (T : List Nat) (B : List Int) (j : Nat) : Int := lf false (Lf n T B false) n j (-1) T
theorem Lf_Ls (n : Nat) (T : List Nat) (B : List Int) (hT : ∀ t ∈ T, 1 ≤ t) (j : Nat) (hj : j < n) : Lf n T B false j = if (j : Int) ∈ B then -1 else Ls n T B j := Lf_rec n T B false hT j hj
theorem Ls_mono (n r : Nat) (B : List Int) : ∀ (d i j : Nat), n - i ≤ d → i ≤ j → j < n → 0 ≤ Ls n (Tw r) B i → 0 ≤ Ls n (Tw r) B j ∧ Ls n (Tw r) B j ≤ Ls n (Tw r) B i := by
  have hT := Tw_pos r
  intro d
  induction d with
  | zero =>
    intro i j h1 h2 h3 _
    omega
  | succ d ih =>
    intro i j h1 h2 h3 h0
    rcases lf_or (most := false) (f := Lf n (Tw r) B false) (n := n) (j := i) (Tw r) (-1) with h | ⟨s, a, b, c, e⟩
    · have : Ls n (Tw r) B i = -1 := h
      omega
    · have e' : Lf n (Tw r) B false (i + s) = Ls n (Tw r) B i - 1 := e
      have hs := List.mem_range'_1.mp a
      by_cases hk : j < i + s
      · have hm : i + s - j ∈ Tw r := List.mem_range'_1.mpr (by omega)
        have := (lf_le (f := Lf n (Tw r) B false) (n := n) (j := j) (Tw r) (-1)).2 (i + s - j) hm (by omega) (by rw [show j + (i + s - j) = i + s by omega]; exact c)
        rw [show j + (i + s - j) = i + s by omega] at this
        have e2 : Ls n (Tw r) B j = lf false (Lf n (Tw r) B false) n j (-1) (Tw r) := rfl
        rw [e2]
        omega
      · have hl := Lf_Ls n (Tw r) B hT (i + s) (by omega)
        by_cases hb : ((i + s : Nat) : Int) ∈ B
        · rw [if_pos hb] at hl
          omega
        · rw [if_neg hb] at hl
          have := ih (i + s) j (by omega) (by omega) h3 (by omega)
          omega
theorem few_l1 (l : List Int) (r : Nat) (hl : l.length ≤ 20) (hr : r ≤ 20) (j : Nat) (c : Int) : ∀ (m : Nat), j + m ≤ l.length → (∃ k, j < k ∧ k ≤ j + m ∧ ¬ (k : Int) ∈ Bw l) →
    ∃ q, j < q ∧ q ≤ j + m ∧ ¬ (q : Int) ∈ Bw l ∧ (∀ p, q < p → p ≤ j + m → (p : Int) ∈ Bw l) ∧
      (∀ R, Ev (fun k => spec_FewestOnWear.l0 k l (r : Int) (wrap64 (c + 1)) (q : Int)) R → Ev (fun k => spec_FewestOnWear.l1 k l (r : Int) c ((j + m : Nat) : Int)) R) := by
  intro m
  induction m with
  | zero =>
    rintro _ ⟨k, h1, h2, _⟩
    omega
  | succ m ih =>
    intro hm hex
    have hmem := mem_Bw l (j + m)
    have e : j + m + 1 = j + (m + 1) := by omega
    rw [e] at hmem
    by_cases hw : l.getD (j + m) 0 = 0
    · have hin := hmem.2 ⟨by omega, hw⟩
      obtain ⟨q, a1, a2, a3, a4, a5⟩ := ih (by omega) (by
        obtain ⟨k, h1, h2, h3⟩ := hex
        refine ⟨k, h1, ?_, h3⟩
        by_cases hk : k = j + (m + 1)
        · subst hk
          exact absurd hin h3
        · omega)
      refine ⟨q, a1, by omega, a3, fun p h1 h2 => ?_, fun R h => Ev.step (fun k => ?_) (a5 R h)⟩
      · by_cases hp : p = j + (m + 1)
        · subst hp
          exact hin
        · exact a4 p h1 (by omega)
      · simp only [spec_FewestOnWear.l1]
        rw [← e, w_pred (j + m + 1) (by omega) (by omega), Nat.add_sub_cancel, if_pos (by omega), if_pos (by omega), rd_nat, if_pos hw]
    · refine ⟨j + (m + 1), by omega, Nat.le_refl _, fun h => hw (hmem.1 h).2, fun p h1 h2 => by omega, fun R h => Ev.step (fun k => ?_) h⟩
      simp only [spec_FewestOnWear.l1]
      rw [← e, w_pred (j + m + 1) (by omega) (by omega), Nat.add_sub_cancel, if_pos (by omega), if_pos (by omega), rd_nat, if_neg hw]
theorem few_l0 (l : List Int) (r : Nat) (hl : l.length ≤ 20) (h1r : 1 ≤ r) (hr : r ≤ 20) : ∀ (d j : Nat) (c : Int), l.length + 1 - j ≤ d → j ≤ l.length → 0 ≤ c → c ≤ (j : Int) → 0 ≤ Ls (l.length + 1) (Tw r) (Bw l) j →
    Ev (fun k => spec_FewestOnWear.l0 k l (r : Int) c (j : Int)) (c + Ls (l.length + 1) (Tw r) (Bw l) j - 1, true) := by
  have hT := Tw_pos r
  have hle := fun j => lf_le (f := Lf (l.length + 1) (Tw r) (Bw l) false) (n := l.length + 1) (j := j) (Tw r) (-1)
  have hor := fun j => lf_or (most := false) (f := Lf (l.length + 1) (Tw r) (Bw l) false) (n := l.length + 1) (j := j) (Tw r) (-1)
  intro d
  induction d with
  | zero =>
    intro j c h1 h2
    omega
  | succ d ih =>
    intro j c h1 h2 h3 h3' h0
    have hLdef : Ls (l.length + 1) (Tw r) (Bw l) j = lf false (Lf (l.length + 1) (Tw r) (Bw l) false) (l.length + 1) j (-1) (Tw r) := rfl
    by_cases hfar : l.length + 1 - j > r
    · have hex : ∃ k, j < k ∧ k ≤ j + r ∧ k ≤ l.length ∧ ¬ (k : Int) ∈ Bw l ∧ 0 ≤ Ls (l.length + 1) (Tw r) (Bw l) k ∧ Ls (l.length + 1) (Tw r) (Bw l) j = Ls (l.length + 1) (Tw r) (Bw l) k + 1 := by
        rcases hor j with h | ⟨s, a, b, c', e⟩
        · omega
        · have hs := List.mem_range'_1.mp a
          have hl2 := Lf_Ls (l.length + 1) (Tw r) (Bw l) hT (j + s) (by omega)
          by_cases hb : ((j + s : Nat) : Int) ∈ Bw l
          · rw [if_pos hb] at hl2
            omega
          · rw [if_neg hb] at hl2
            exact ⟨j + s, by omega, by omega, by omega, hb, by omega, by omega⟩
      obtain ⟨k, k1, k2, k3, k4, k5, k6⟩ := hex
      obtain ⟨q, a1, a2, a3, a4, a5⟩ := few_l1 l r hl hr j c r (by omega) ⟨k, k1, k2, k4⟩
      have hkq : k ≤ q := by
        by_cases h : k ≤ q
        · exact h
        · exact absurd (a4 k (by omega) k2) k4
      have hmono := Ls_mono (l.length + 1) r (Bw l) _ k q (Nat.le_refl _) hkq (by omega) k5
      have hlq := Lf_Ls (l.length + 1) (Tw r) (Bw l) hT q (by omega)
      rw [if_neg a3] at hlq
      have hmem : q - j ∈ Tw r := List.mem_range'_1.mpr (by omega)
      have hmin := (hle j).2 (q - j) hmem (by omega) (by rw [show j + (q - j) = q by omega]; omega)
      rw [show j + (q - j) = q by omega] at hmin
      have h4 := ih q (c + 1) (by omega) (by omega) (by omega) (by omega) hmono.1
      have e : c + 1 + Ls (l.length + 1) (Tw r) (Bw l) q - 1 = c + Ls (l.length + 1) (Tw r) (Bw l) j - 1 := by omega
      rw [e] at h4
      have h5 := a5 _ (by rw [w_id (x := c + 1) (by omega) (by omega)]; exact h4)
      refine Ev.step (fun k => ?_) h5
      simp only [spec_FewestOnWear.l0]
      rw [wsucc l.length (by omega), w_sub (l.length + 1) j (by omega) (by omega), if_pos (by omega), w_add j r (by omega) (by omega)]
    · have hLn := Lf_top (l.length + 1) (Tw r) (Bw l) false
      have hmem : l.length + 1 - j ∈ Tw r := List.mem_range'_1.mpr (by omega)
      have hmin := (hle j).2 (l.length + 1 - j) hmem (by omega) (by rw [show j + (l.length + 1 - j) = l.length + 1 by omega]; omega)
      rw [show j + (l.length + 1 - j) = l.length + 1 by omega] at hmin
      have h1 : Ls (l.length + 1) (Tw r) (Bw l) j = 1 := by
        rcases hor j with h | ⟨s, a, b, c', e⟩ <;> omega
      rw [h1, Int.add_sub_cancel]
      refine Ev.step (fun k => ?_) (Ev.now _)
      simp only [spec_FewestOnWear.l0]
      rw [wsucc l.length (by omega), w_sub (l.length + 1) j (by omega) (by omega), if_neg (by omega)]
theorem fw_l1 (l : List Int) (r : Nat) (hl : l.length ≤ 20) (hr : r ≤ 20) (hv : ∀ x ∈ l, 0 ≤ x ∧ x ≤ 100) (j : Nat) (hj : j + r < l.length + 1) (o : List Int) (ho : o.length ≤ j) :
    ∀ (m s : Nat), s + m = r + 1 → 1 ≤ s → (∃ t ∈ List.range' s m, 0 < V (l.length + 1) (Tw r) (Bw l) (j + t)) →
    ∃ q, j < q ∧ q ≤ j + r ∧ 0 < V (l.length + 1) (Tw r) (Bw l) q ∧
    (∀ R, Ev (fun k => spec_FirstWearClimb.l0 k l (r : Int) (arr (l.length + 1) (fun i => cq (Vs (l.length + 1) (Tw r) (Bw l) i)) 0) (o ++ [(q : Int)]) (q : Int)) R → Ev (fun k => spec_FirstWearClimb.l1 k l (r : Int) (arr (l.length + 1) (fun i => cq (Vs (l.length + 1) (Tw r) (Bw l) i)) 0) o ((j + s : Nat) : Int)) R) ∧
    (∀ R, Ev (fun k => impl_FirstWearClimb.l0 k (r : Int) (arr (l.length + 1) (V (l.length + 1) (Tw r) (Bw l)) 0) (o ++ [(q : Int)]) (q : Int) ((l.length + 1 : Nat) : Int)) R → Ev (fun k => impl_FirstWearClimb.l1 k (r : Int) (arr (l.length + 1) (V (l.length + 1) (Tw r) (Bw l)) 0) o ((j + s : Nat) : Int) ((l.length + 1 : Nat) : Int)) R) := by
  have hT := Tw_pos r
  have hi : incN 0 (Tw r) := Tw_inc r 0 1 (by omega)
  intro m
  induction m with
  | zero =>
    intro s _ _ h
    obtain ⟨t, h, _⟩ := h
    simp at h
  | succ m ih =>
    intro s hs h1 hex
    obtain ⟨q, hq⟩ : ∃ q, j + s = q + 1 := ⟨j + s - 1, by omega⟩
    have hmem := mem_Bw l q
    have hV := V_Vs (l.length + 1) (Tw r) (Bw l) hT (top_Bw l) (j + s) (by omega)
    have hVb := V_bd (l.length + 1) (Tw r) (Bw l) hT hi _ (j + s) (Nat.le_refl _) (by omega)
    have hSb := Vs_bd (l.length + 1) (Tw r) (Bw l) hT hi (j + s) (by omega)
    rw [← hq] at hmem
    by_cases h0 : 0 < V (l.length + 1) (Tw r) (Bw l) (j + s)
    · have hnb : ¬ ((j + s : Nat) : Int) ∈ Bw l := fun h => by rw [if_pos h] at hV; omega
      rw [if_neg hnb] at hV
      have hw : ¬ l.getD q 0 = 0 := fun h => hnb (hmem.2 ⟨by omega, h⟩)
      have hcq : ¬ cq (Vs (l.length + 1) (Tw r) (Bw l) (j + s)) = 0 := by
        unfold cq
        split <;> omega
      refine ⟨j + s, by omega, by omega, h0, fun R h => Ev.step (fun k => ?_) h, fun R h => Ev.step (fun k => ?_) h⟩
      · simp only [spec_FirstWearClimb.l1]
        rw [show wrap64 (((j + s : Nat) : Int) - 1) = (q : Int) by rw [hq, w_pred (q + 1) (by omega) (by omega), Nat.add_sub_cancel], if_pos (by omega), if_pos (by omega), rd_nat l, if_neg hw, if_pos (by omega), arr_len, if_pos (by omega), arr_rd0 _ _ _ (by omega), if_neg hcq, if_pos (by omega)]
      · simp only [impl_FirstWearClimb.l1]
        rw [if_pos (by omega), arr_len, if_pos (by omega), arr_rd0 _ _ _ (by omega), if_neg (by omega), if_pos (by omega)]
    · have hV0 : V (l.length + 1) (Tw r) (Bw l) (j + s) = 0 := by omega
      have hex' : ∃ t ∈ List.range' (s + 1) m, 0 < V (l.length + 1) (Tw r) (Bw l) (j + t) := by
        obtain ⟨t, ht, hp⟩ := hex
        rw [List.range'_succ] at ht
        rcases List.mem_cons.mp ht with e | ht
        · subst e
          omega
        · exact ⟨t, ht, hp⟩
      obtain ⟨q', a1, a2, a3, a4, a5⟩ := ih (s + 1) (by omega) (by omega) hex'
      have ew : wrap64 (((j + s : Nat) : Int) + 1) = ((j + (s + 1) : Nat) : Int) := wsucc (j + s) (by omega)
      rw [← ew] at a4 a5
      clear ew
      refine ⟨q', a1, a2, a3, fun R h => Ev.step (fun k => ?_) (a4 R h), fun R h => Ev.step (fun k => ?_) (a5 R h)⟩
      · simp only [spec_FirstWearClimb.l1]
        rw [show wrap64 (((j + s : Nat) : Int) - 1) = (q : Int) by rw [hq, w_pred (q + 1) (by omega) (by omega), Nat.add_sub_cancel], if_pos (by omega), if_pos (by omega), rd_nat l]
        by_cases hw : l.getD q 0 = 0
        · rw [if_pos hw]
        · have hVs0 : cq (Vs (l.length + 1) (Tw r) (Bw l) (j + s)) = 0 := by
            rw [if_neg (fun h => hw (hmem.1 h).2)] at hV
            rw [← hV, hV0]
            decide
          rw [if_neg hw, if_pos (by omega), arr_len, if_pos (by omega), arr_rd0 _ _ _ (by omega), if_pos hVs0]
      · simp only [impl_FirstWearClimb.l1]
        rw [if_pos (by omega), arr_len, if_pos (by omega), arr_rd0 _ _ _ (by omega), if_pos hV0]
theorem fw_both (l : List Int) (r : Nat) (hl : l.length ≤ 20) (h1r : 1 ≤ r) (hr : r ≤ 20) (hv : ∀ x ∈ l, 0 ≤ x ∧ x ≤ 100) : ∀ (d j : Nat) (o : List Int), l.length + 1 - j ≤ d → j ≤ l.length → o.length ≤ j → 0 < Vs (l.length + 1) (Tw r) (Bw l) j →
    ∃ w, isV l (r : Int) (j : Int) w = true ∧ Ls (l.length + 1) (Tw r) (Bw l) j ≤ (w.length : Int) + 1 ∧ Ev (fun k => spec_FirstWearClimb.l0 k l (r : Int) (arr (l.length + 1) (fun i => cq (Vs (l.length + 1) (Tw r) (Bw l) i)) 0) o (j : Int)) (o ++ w, true) ∧
      Ev (fun k => impl_FirstWearClimb.l0 k (r : Int) (arr (l.length + 1) (V (l.length + 1) (Tw r) (Bw l)) 0) o (j : Int) ((l.length + 1 : Nat) : Int)) (o ++ w, true) ∧ w.length + j ≤ 1048576 := by
  have hT := Tw_pos r
  have hi : incN 0 (Tw r) := Tw_inc r 0 1 (by omega)
  intro d
  induction d with
  | zero =>
    intro j o h1 h2 h3 _
    omega
  | succ d ih =>
    intro j o h1 h2 h3 h0
    by_cases hfar : l.length + 1 - j > r
    · have hex : ∃ t ∈ List.range' 1 r, 0 < V (l.length + 1) (Tw r) (Bw l) (j + t) := by
        have hvs : Vs (l.length + 1) (Tw r) (Bw l) j = gs (V (l.length + 1) (Tw r) (Bw l)) (l.length + 1) j (Tw r) := if_neg (by omega)
        rw [hvs] at h0
        obtain ⟨t, a, b, c⟩ := (gs_pos (fun i _ h => (V_bd (l.length + 1) (Tw r) (Bw l) hT hi _ i (Nat.le_refl _) h).1) hT).1 h0
        exact ⟨t, a, c⟩
      obtain ⟨q, a1, a2, a3, a4, a5⟩ := fw_l1 l r hl hr hv j (by omega) o h3 r 1 (by omega) (by omega) hex
      have hVq := V_Vs (l.length + 1) (Tw r) (Bw l) hT (top_Bw l) q (by omega)
      have hqb : ¬ ((q : Nat) : Int) ∈ Bw l := fun h => by
        rw [if_pos h] at hVq
        omega
      rw [if_neg hqb] at hVq
      have hq0 : 0 < Vs (l.length + 1) (Tw r) (Bw l) q := by omega
      have hmem := mem_Bw l (q - 1)
      rw [show q - 1 + 1 = q by omega] at hmem
      have hlow := getD_bd hv (i := q - 1) (by omega)
      have hone : 1 ≤ l.getD (q - 1) 0 := by
        by_cases h : l.getD (q - 1) 0 = 0
        · exact absurd (hmem.2 ⟨by omega, h⟩) hqb
        · omega
      have hLq := (Lf_V (l.length + 1) (Tw r) (Bw l) hT hi _ q (Nat.le_refl _) (by omega)).1 a3
      have hLs := Lf_Ls (l.length + 1) (Tw r) (Bw l) hT q (by omega)
      rw [if_neg hqb] at hLs
      have hle := (lf_le (f := Lf (l.length + 1) (Tw r) (Bw l) false) (n := l.length + 1) (j := j) (Tw r) (-1)).2 (q - j) (List.mem_range'_1.mpr (by omega)) (by omega) (by rw [show j + (q - j) = q by omega]; exact hLq)
      rw [show j + (q - j) = q by omega] at hle
      have hLj : Ls (l.length + 1) (Tw r) (Bw l) j = lf false (Lf (l.length + 1) (Tw r) (Bw l) false) (l.length + 1) j (-1) (Tw r) := rfl
      obtain ⟨w, w4, w5, w1, w2, w3⟩ := ih q (o ++ [(q : Int)]) (by omega) (by omega) (by simp; omega) hq0
      rw [List.append_assoc] at w1 w2
      have b1 := a4 _ w1
      have b2 := a5 _ w2
      rw [← wsucc j (by omega)] at b1 b2
      refine ⟨(q : Int) :: w, ?_, by rw [List.length_cons]; omega, Ev.step (fun k => ?_) b1, Ev.step (fun k => ?_) b2, by rw [List.length_cons]; omega⟩
      · simp only [isV]
        rw [show ((q : Int) - 1).toNat = q - 1 by omega, decide_eq_true (show (j : Int) + 1 ≤ (q : Int) ∧ (q : Int) ≤ (j : Int) + (r : Int) ∧ (q : Int) ≤ (l.length : Int) by omega), decide_eq_true hone, w4]
        rfl
      · simp only [spec_FirstWearClimb.l0]
        rw [wsucc l.length (by omega), w_sub (l.length + 1) j (by omega) (by omega), if_pos (by omega)]
      · simp only [impl_FirstWearClimb.l0]
        rw [w_sub (l.length + 1) j (by omega) (by omega), if_pos (by omega)]
    · have hLn := Lf_top (l.length + 1) (Tw r) (Bw l) false
      have hle := (lf_le (f := Lf (l.length + 1) (Tw r) (Bw l) false) (n := l.length + 1) (j := j) (Tw r) (-1)).2 (l.length + 1 - j) (List.mem_range'_1.mpr (by omega)) (by omega) (by rw [show j + (l.length + 1 - j) = l.length + 1 by omega]; omega)
      rw [show j + (l.length + 1 - j) = l.length + 1 by omega] at hle
      have hLj : Ls (l.length + 1) (Tw r) (Bw l) j = lf false (Lf (l.length + 1) (Tw r) (Bw l) false) (l.length + 1) j (-1) (Tw r) := rfl
      have en : o ++ ([] : List Int) = o := List.append_nil o
      refine ⟨[], decide_eq_true (by omega), by rw [List.length_nil]; omega, ?_, ?_, by simp; omega⟩
      · rw [en]
        refine Ev.step (fun k => ?_) (Ev.now _)
        simp only [spec_FirstWearClimb.l0]
        rw [wsucc l.length (by omega), w_sub (l.length + 1) j (by omega) (by omega), if_neg (by omega)]
      · rw [en]
        refine Ev.step (fun k => ?_) (Ev.now _)
        simp only [impl_FirstWearClimb.l0]
        rw [w_sub (l.length + 1) j (by omega) (by omega), if_neg (by omega)]
theorem Lf_reach (n r : Nat) (B : List Int) : ∀ (d j : Nat), n - j ≤ d → j ≤ n → 0 ≤ Lf n (Tw r) B false j → (n : Int) - j ≤ Lf n (Tw r) B false j * (r : Int) := by
  intro d
  induction d with
  | zero =>
    intro j h1 h2 _
    obtain rfl : j = n := by omega
    rw [Lf_top]
    omega
  | succ d ih =>
    intro j h1 h2 h0
    by_cases hj : j = n
    · subst hj
      rw [Lf_top]
      omega
    · have hr := Lf_rec n (Tw r) B false (Tw_pos r) j (by omega)
      by_cases hb : (j : Int) ∈ B
      · rw [if_pos hb] at hr
        omega
      · rw [if_neg hb] at hr
        rcases lf_or (most := false) (f := Lf n (Tw r) B false) (n := n) (j := j) (Tw r) (-1) with h | ⟨s, a, b, c, e⟩
        · omega
        · have hs := List.mem_range'_1.mp a
          have h3 := ih (j + s) (by omega) b c
          have e2 : Lf n (Tw r) B false j = Lf n (Tw r) B false (j + s) + 1 := by omega
          rw [e2, Int.add_mul]
          omega
/-- A part has a step that bears something. -/
theorem pre_pos {l : List Int} (hb : ∀ x ∈ l, 0 ≤ x ∧ x ≤ 2000) (i : Nat) : ∀ d, i + d ≤ l.length → 0 ≤ pre l (i + d) - pre l i ∧ (0 < pre l (i + d) - pre l i ↔ ∃ k, k < d ∧ ¬ l.getD (i + k) 0 = 0) := by
  intro d
  induction d with
  | zero =>
    intro _
    rw [Nat.add_zero]
    refine ⟨by omega, fun h => by omega, ?_⟩
    rintro ⟨k, h, _⟩
    omega
  | succ d ih =>
    intro h
    obtain ⟨i1, i2⟩ := ih (by omega)
    have h2 := getD_bd hb (i := i + d) (by omega)
    have e : i + (d + 1) = i + d + 1 := by omega
    rw [e, pre_succ _ _ (by omega)]
    refine ⟨by omega, fun h3 => ?_, ?_⟩
    · by_cases h4 : l.getD (i + d) 0 = 0
      · obtain ⟨k, k1, k2⟩ := i2.1 (by omega)
        exact ⟨k, by omega, k2⟩
      · exact ⟨d, by omega, h4⟩
    · rintro ⟨k, k1, k2⟩
      by_cases h4 : k = d
      · subst h4
        omega
      · have := i2.2 ⟨k, by omega, k2⟩
        omega
theorem V_most (l : List Int) (r : Nat) (hl : l.length ≤ 20) (h1 : 1 ≤ r) (hr : r ≤ l.length) (hb : ∀ x ∈ l, 0 ≤ x ∧ x ≤ 2000) : 0 < Vs (l.length + 1) (Tw r) (Bw l) 0 ↔ 0 < mostV l r := by
  have hT := Tw_pos r
  have hi : incN 0 (Tw r) := Tw_inc r 0 1 (by omega)
  have hV0 := fun j => V_bd (l.length + 1) (Tw r) (Bw l) hT hi _ j (Nat.le_refl _)
  have hgs := fun j => gs_pos (f := V (l.length + 1) (Tw r) (Bw l)) (n := l.length + 1) (j := j) (fun i _ h => (hV0 i h).1) hT
  have hVs : ∀ j, j ≤ l.length → Vs (l.length + 1) (Tw r) (Bw l) j = gs (V (l.length + 1) (Tw r) (Bw l)) (l.length + 1) j (Tw r) := fun j hj => if_neg (by omega)
  have hVV := fun j => V_Vs (l.length + 1) (Tw r) (Bw l) hT (top_Bw l) j
  constructor
  · intro h
    obtain ⟨i, i1, i2⟩ := mostV_at hr
    rw [i2]
    have hp := pre_pos hb i r i1
    rw [pre_part] at hp
    by_cases hc : 0 < partAt l r i
    · exact hc
    · have hworn : ∀ k, k < r → l.getD (i + k) 0 = 0 := fun k hk => by
        by_cases h5 : l.getD (i + k) 0 = 0
        · exact h5
        · have := hp.2.2 ⟨k, hk, h5⟩
          omega
      have hz : ∀ d j, i - j ≤ d → j ≤ i → ¬ 0 < Vs (l.length + 1) (Tw r) (Bw l) j := by
        intro d
        induction d with
        | zero =>
          intro j a1 a2 a3
          obtain rfl : j = i := by omega
          rw [hVs j (by omega), hgs j] at a3
          obtain ⟨s, b1, b2, b3⟩ := a3
          have hs := List.mem_range'_1.mp b1
          have hm := mem_Bw l (j + s - 1)
          rw [show j + s - 1 + 1 = j + s by omega] at hm
          have hw := hworn (s - 1) (by omega)
          rw [show j + (s - 1) = j + s - 1 by omega] at hw
          have e := hVV (j + s) b2
          rw [if_pos (hm.2 ⟨by omega, hw⟩)] at e
          omega
        | succ d ih =>
          intro j a1 a2 a3
          rw [hVs j (by omega), hgs j] at a3
          obtain ⟨s, b1, b2, b3⟩ := a3
          have hs := List.mem_range'_1.mp b1
          have e := hVV (j + s) b2
          by_cases hk : j + s ≤ i
          · have := ih (j + s) (by omega) hk
            split at e <;> omega
          · have hm := mem_Bw l (j + s - 1)
            rw [show j + s - 1 + 1 = j + s by omega] at hm
            have hw := hworn (j + s - 1 - i) (by omega)
            rw [show i + (j + s - 1 - i) = j + s - 1 by omega] at hw
            rw [if_pos (hm.2 ⟨by omega, hw⟩)] at e
            omega
      exact absurd h (hz _ 0 (Nat.le_refl _) (by omega))
  · intro h
    have hall : ∀ d j, l.length + 1 - j ≤ d → j ≤ l.length → 0 < Vs (l.length + 1) (Tw r) (Bw l) j := by
      intro d
      induction d with
      | zero => intro j a1 a2; omega
      | succ d ih =>
        intro j a1 a2
        rw [hVs j a2, hgs j]
        by_cases hk : j + r ≤ l.length
        · have hm := mostV_le (l := l) (r := r) (i := j) hk
          have hp := (pre_pos hb j r hk).2
          rw [pre_part] at hp
          have hp2 := hp.1 (by omega)
          clear hp hm
          obtain ⟨k, k1, k2⟩ := hp2
          have hmem := mem_Bw l (j + k)
          rw [Nat.add_assoc] at hmem
          have b0 : j + (k + 1) ≤ l.length := by omega
          have e := hVV (j + (k + 1)) (Nat.le_succ_of_le b0)
          rw [if_neg (fun h => k2 (hmem.1 h).2)] at e
          have h9 := ih (j + (k + 1)) (by omega) b0
          rw [← e] at h9
          exact ⟨k + 1, List.mem_range'_1.mpr (by omega), Nat.le_succ_of_le b0, h9⟩
        · have e := V_top (l.length + 1) (Tw r) (Bw l)
          refine ⟨l.length + 1 - j, List.mem_range'_1.mpr (by omega), by omega, ?_⟩
          rw [show j + (l.length + 1 - j) = l.length + 1 by omega]
          omega
    exact hall _ 0 (Nat.le_refl _) (by omega)

/- What is proved at the end: ∀ (l0 : List Int) (a1 : Int) (a2 : Int) (l3 : List Int) (a4 : Int) (l5 : List Int) (a6 : Int), l0.length ≤ maxLen → (∀ x ∈ l0, (Lit.int .i64 x).wf = true) → (Lit.int .i64 a1).wf = true → (Lit.int .i64 a2).wf = true → l3.length ≤ maxLen → (∀ x ∈ l3, (Lit.int .i64 x).wf = true) → (Lit.int .i64 a4).wf = true → l5.length ≤ maxLen → (∀ x ∈ l5, (Lit.int .i64 x).wf = true) → (Lit.int .i64 a6).wf = true → ∃ k, laws_FnStepsMendedOfAll.f k l0 a1 a2 l3 a4 l5 a6 = some true -/
theorem mostw_ev (l : List Int) (r : Nat) (hl : l.length ≤ 1048576) (h : hasP l (r : Int) = true) : Ev (fun k => impl_MostWears.f k l (r : Int)) (mostV l r, true) := by
  obtain ⟨n, e, h1, h2, h3, h4, h5, hb⟩ := hasP_facts h
  obtain rfl : r = n := by omega
  unfold impl_MostWears.f
  exact Ev.bind (hasParts_ev l hl r) (Ev.ite_true h (Ev.bind (mostWears_ev l (by omega) hb r h2 h3) (Ev.now _)))
theorem hasP_mk {l : List Int} {r : Nat} (hg : goodB l = true) (h1 : 1 ≤ r) (h2 : r ≤ l.length) : hasP l (r : Int) = true := by
  have h3 := goodB_bd hg
  simp only [hasP, canW, hg, Bool.true_and, Bool.and_eq_true, decide_eq_true_eq]
  omega
theorem hasP_set {l : List Int} {r : Int} (h : hasP l r = true) (i : Nat) : hasP (l.set i 0) r = true := by
  obtain ⟨hg, h1, h2, h3⟩ := hasP_bd h
  obtain ⟨g1, g2, g3⟩ := goodB_bd hg
  have hs : goodB (l.set i 0) = true := by
    simp only [goodB, Bool.and_eq_true, decide_eq_true_eq, List.all_eq_true, List.length_set]
    refine ⟨⟨g1, g2⟩, fun x hx => ?_⟩
    have := set_bd g3 (Int.le_refl 0) (by omega) i x hx
    simp only [okB, decide_eq_true_eq]
    exact this
  simp only [hasP, canW, hs, Bool.true_and, Bool.and_eq_true, decide_eq_true_eq, List.length_set]
  omega
def mendB (l : List Int) (r c : Int) : Bool := hasP l r && decide (0 ≤ c ∧ c ≤ 1000)
theorem mendSum_l (l m : List Int) (h4 : l.length ≤ 20) (h5 : ∀ x ∈ l, 0 ≤ x ∧ x ≤ 100) (hm : m.length = l.length) (hb : ∀ x ∈ m, 0 ≤ x ∧ x ≤ 2000) : ∀ (d i : Nat) (acc : Int), l.length - i = d → i ≤ l.length → -(2000 * (i : Int)) ≤ acc → acc ≤ 2000 * (i : Int) →
    Ev (fun k => spec_MendSum.l0 k l acc m (m.length : Int) (i : Int)) (acc + (m.drop i).sum - (l.drop i).sum, true) := by
  intro d
  induction d with
  | zero =>
    intro i acc hd hi h0 h1
    rw [List.drop_eq_nil_of_le (by omega), List.drop_eq_nil_of_le (by omega), List.sum_nil, Int.add_zero, Int.sub_zero]
    refine Ev.step (fun j => ?_) (Ev.now _)
    simp only [spec_MendSum.l0]
    rw [if_neg (by omega)]
  | succ d ih =>
    intro i acc hd hi h0 h1
    have g1 := getD_bd hb (i := i) (by omega)
    have g2 := getD_bd h5 (i := i) (by omega)
    have w1 : wrap64 (m.getD i 0 - l.getD i 0) = m.getD i 0 - l.getD i 0 := w_id (by omega) (by omega)
    have w2 : wrap64 (acc + (m.getD i 0 - l.getD i 0)) = acc + (m.getD i 0 - l.getD i 0) := w_id (by omega) (by omega)
    have h := ih (i + 1) (acc + (m.getD i 0 - l.getD i 0)) (by omega) (by omega) (by omega) (by omega)
    have e : acc + (m.drop i).sum - (l.drop i).sum = acc + (m.getD i 0 - l.getD i 0) + (m.drop (i + 1)).sum - (l.drop (i + 1)).sum := by
      rw [drop_cons m i (by omega), drop_cons l i (by omega), List.sum_cons, List.sum_cons]
      omega
    rw [e]
    refine Ev.step (fun j => ?_) h
    simp only [spec_MendSum.l0]
    rw [if_pos (by omega), if_pos (by omega), if_pos (by omega), if_pos (by omega), rd_nat, rd_nat, w1, w2, wsucc i (by omega)]
/-- What mending comes to. -/
theorem mend_all (l : List Int) (r c : Int) (hl : l.length ≤ 1048576) : ∃ m s, Ev (fun k => spec_LateMend.f k l r c) (m, mendB l r c) ∧ Ev (fun k => impl_LateMend.f k l r c) (m, mendB l r c) ∧ Ev (fun k => spec_MendSum.f k l r c) (s, mendB l r c) ∧ Ev (fun k => impl_MendSum.f k l r c) (s, mendB l r c) ∧ m.length ≤ 1048576 ∧
    ∀ n : Nat, r = (n : Int) → mendB l r c = true → s = m.sum - l.sum ∧ m.length = l.length ∧ (∀ x ∈ m, 0 ≤ x ∧ x ≤ 2000) ∧ MendI l c n (l.length + 1 - n) m := by
  unfold spec_LateMend.f impl_LateMend.f spec_MendSum.f impl_MendSum.f
  simp only [climbs_val, within_val, Option.bind_some]
  have no1 : Ev (fun k => spec_MendSum.j0 k l r c true) (0, false) := Ev.step (fun k => by simp only [spec_MendSum.j0]; rw [if_pos trivial]) (Ev.now _)
  by_cases hP : hasP l r = true
  · obtain ⟨r, rfl, h1, h2, h3, h4, h5, hb⟩ := hasP_facts hP
    by_cases hc : 0 ≤ c ∧ c ≤ 1000
    · obtain ⟨m, hs, hi, hm, hmb, hI⟩ := weMend_ev l h4 h5 r h1 h2 h3 c hc.1 hc.2
      have hd := decide_eq_true hc
      have hB : mendB l (r : Int) c = true := by rw [mendB, hP, hd]; rfl
      have h := mendSum_l l m h4 h5 hm hmb _ 0 0 rfl (by omega) (by omega) (by omega)
      rw [List.drop_zero, List.drop_zero, Int.zero_add] at h
      rw [hB]
      refine ⟨m, m.sum - l.sum, Ev.bind (weEnds_ev l hl r) (Ev.ite_true hP (Ev.ite_true hd (Ev.bind hs (Ev.now _)))), Ev.bind (hasParts_ev l hl r) (Ev.ite_true hP (Ev.ite_true hd (Ev.bind hi (Ev.now _)))),
        Ev.bind (weEnds_ev l hl r) (Ev.ite_true hP ?_), Ev.bind (hasParts_ev l hl r) (Ev.ite_true hP (Ev.ite_true hd (Ev.bind hi (Ev.now _)))), by omega, fun n hn _ => ?_⟩
      · rw [hd]
        exact Ev.step (fun k => by simp only [spec_MendSum.j0]; rw [if_neg (by simp)]) (Ev.bind hs h)
      · obtain rfl : r = n := by omega
        exact ⟨rfl, hm, hmb, hI⟩
    · have hd := decide_eq_false hc
      have hB : mendB l (r : Int) c = false := by rw [mendB, hd, Bool.and_false]
      rw [hB]
      refine ⟨[], 0, Ev.bind (weEnds_ev l hl r) (Ev.ite_true hP (Ev.ite_false hd (Ev.now _))), Ev.bind (hasParts_ev l hl r) (Ev.ite_true hP (Ev.ite_false hd (Ev.now _))), Ev.bind (weEnds_ev l hl r) (Ev.ite_true hP ?_), Ev.bind (hasParts_ev l hl r) (Ev.ite_true hP (Ev.ite_false hd (Ev.now _))), by simp, fun n _ h => by cases h⟩
      rw [hd]
      exact no1
  · have hP' : hasP l r = false := Bool.eq_false_iff.mpr hP
    have hB : mendB l r c = false := by rw [mendB, hP', Bool.false_and]
    rw [hB]
    exact ⟨[], 0, Ev.bind (weEnds_ev l hl r) (Ev.ite_false hP' (Ev.now _)), Ev.bind (hasParts_ev l hl r) (Ev.ite_false hP' (Ev.now _)), Ev.bind (weEnds_ev l hl r) (Ev.ite_false hP' no1), Ev.bind (hasParts_ev l hl r) (Ev.ite_false hP' (Ev.now _)), by simp, fun n _ h => by cases h⟩
/-- What the losing of one step comes to. -/
theorem lose_all (l : List Int) (r : Int) (hl : l.length ≤ 1048576) : ∃ i w t, Ev (fun k => spec_IdleBears.f k l r) (i, hasP l r) ∧ Ev (fun k => impl_IdleBears.f k l r) (i, hasP l r) ∧ Ev (fun k => spec_WorstStepToLose.f k l r) (w, t, hasP l r) ∧ Ev (fun k => impl_WorstStepToLose.f k l r) (w, t, hasP l r) ∧ i.length ≤ 1048576 ∧
    ∀ n : Nat, r = (n : Int) → hasP l r = true → i = idleL l n 1 l.length ∧ WorstI l n (l.length + 1) w t := by
  unfold spec_IdleBears.f impl_IdleBears.f spec_WorstStepToLose.f impl_WorstStepToLose.f
  by_cases hP : hasP l r = true
  · obtain ⟨r, rfl, h1, h2, h3, h4, h5, hb⟩ := hasP_facts hP
    obtain ⟨hs, hi⟩ := idle_both l r h4 hb h2 h3 _ 1 [] rfl (by omega) (by omega) (by simp)
    obtain ⟨w, t, hW, hs2, hi2⟩ := worst_both l r h4 hb h2 h3 _ 1 0 0 rfl (by omega) (by omega) (Or.inl ⟨rfl, rfl⟩)
    have hn := idleL_len l r 1 l.length
    rw [List.nil_append, Nat.add_sub_cancel] at hs hi
    have e := weEnds_ev l hl r
    have e2 := hasParts_ev l hl r
    rw [hP] at e e2
    rw [hP]
    refine ⟨idleL l r 1 l.length, w, t, Ev.bind e (Ev.ite_true rfl hs), Ev.bind e2 (Ev.ite_true rfl hi), Ev.bind e (Ev.ite_true rfl hs2), Ev.bind e2 (Ev.ite_true rfl hi2), by omega, fun n hn _ => ?_⟩
    obtain rfl : r = n := by omega
    exact ⟨rfl, hW⟩
  · have hP' : hasP l r = false := Bool.eq_false_iff.mpr hP
    have e := weEnds_ev l hl r
    have e2 := hasParts_ev l hl r
    rw [hP'] at e e2
    rw [hP']
    exact ⟨[], 0, 0, Ev.bind e (Ev.ite_false rfl (Ev.now _)), Ev.bind e2 (Ev.ite_false rfl (Ev.now _)), Ev.bind e (Ev.ite_false rfl (Ev.now _)), Ev.bind e2 (Ev.ite_false rfl (Ev.now _)), by simp, fun n _ h => by cases h⟩
theorem climbs_val' (c : Int) : spec_weClimbs.f c = some (decide (0 ≤ c ∧ c ≤ 1000)) := climbs_val c
/-- What the least reach comes to. -/
theorem reach_all (l : List Int) (c : Int) (hl : l.length ≤ 1048576) : ∃ w b, Ev (fun k => spec_ReachForWears.f k l c) (w, b) ∧ Ev (fun k => impl_ReachForWears.f k l c) (w, b) ∧
    (b = true → goodB l = true ∧ ∃ n : Nat, w = (n : Int) ∧ 1 ≤ n ∧ n ≤ l.length + 1 ∧ (n ≤ l.length → c ≤ mostV l n) ∧ (1 < n → mostV l (n - 1) < c)) := by
  unfold spec_ReachForWears.f impl_ReachForWears.f
  simp only [climbs_val, within_val, Option.bind_some]
  have no1 : Ev (fun k => spec_ReachForWears.j0 k l c true) (0, false) := Ev.step (fun k => by simp only [spec_ReachForWears.j0]; rw [if_pos trivial]) (Ev.now _)
  have no2 : Ev (fun k => impl_ReachForWears.j0 k l c true) (0, false) := Ev.step (fun k => by simp only [impl_ReachForWears.j0]; rw [if_pos trivial]) (Ev.now _)
  by_cases hg : goodB l = true
  · obtain ⟨g1, g2, g3⟩ := goodB_bd hg
    by_cases hc : 0 ≤ c ∧ c ≤ 1000
    · obtain ⟨w, hw, hs, hi⟩ := reach_both l c (by omega) (fun x hx => ⟨(g3 x hx).1, Int.le_trans (g3 x hx).2 (by omega)⟩) _ 1 rfl (by omega) (by omega) (by omega)
      refine ⟨w, true, Ev.bind (weGood_ev l hl) (Ev.ite_true hg ?_), Ev.bind (areBears_ev l hl) (Ev.ite_true hg ?_), fun _ => ⟨hg, w, rfl, hw⟩⟩
      · rw [decide_eq_true hc]
        exact Ev.step (fun k => by simp only [spec_ReachForWears.j0]; rw [if_neg (by simp)]; rfl) hs
      · rw [decide_eq_true hc]
        exact Ev.step (fun k => by simp only [impl_ReachForWears.j0]; rw [if_neg (by simp)]; rfl) hi
    · refine ⟨0, false, Ev.bind (weGood_ev l hl) (Ev.ite_true hg ?_), Ev.bind (areBears_ev l hl) (Ev.ite_true hg ?_), fun h => by cases h⟩
      · rw [decide_eq_false hc]
        exact no1
      · rw [decide_eq_false hc]
        exact no2
  · have hg' : goodB l = false := Bool.eq_false_iff.mpr hg
    exact ⟨0, false, Ev.bind (weGood_ev l hl) (Ev.ite_false hg' no1), Ev.bind (areBears_ev l hl) (Ev.ite_false hg' no2), fun h => by cases h⟩
/-- There is a wear climb. -/
def wayB (l : List Int) (r : Int) : Bool := canW l r && decide (0 < Vs (l.length + 1) (Tw r.toNat) (Bw l) 0)
/-- What the first climb, the fewest strides and the number of climbs come to. -/
theorem way_all (l : List Int) (r : Int) (hl : l.length ≤ 1048576) : ∃ w f n b, Ev (fun k => spec_FirstWearClimb.f k l r) (w, wayB l r) ∧ Ev (fun k => impl_FirstWearClimb.f k l r) (w, wayB l r) ∧ Ev (fun k => spec_FewestOnWear.f k l r) (f, wayB l r) ∧ Ev (fun k => impl_FewestOnWear.f k l r) (f, wayB l r) ∧
    Ev (fun k => spec_CountWearClimbs.f k l r) (n, b) ∧ Ev (fun k => impl_CountWearClimbs.f k l r) (n, b) ∧ w.length ≤ 1048576 ∧ (b = true → wayB l r = decide (n > 0)) ∧
    (wayB l r = true → canW l r = true ∧ isV l r 0 w = true ∧ f ≤ (w.length : Int) ∧ 0 ≤ f ∧ f ≤ 1000 ∧ (l.length : Int) + 1 ≤ (f + 1) * r) := by
  have h1 := weReach_ev l hl r
  have h2 := canWear_ev l hl r
  have no : Ev (fun k => spec_FewestOnWear.j0 k l r true) (0, false) := Ev.step (fun k => by simp only [spec_FewestOnWear.j0]; rw [if_pos trivial]) (Ev.now _)
  unfold spec_FirstWearClimb.f impl_FirstWearClimb.f spec_FewestOnWear.f impl_FewestOnWear.f spec_CountWearClimbs.f impl_CountWearClimbs.f
  rcases weReach_cases l r hl with ⟨n, rfl, n1, n2, l1, l2, hc⟩ | hc
  · have hwd : wayB l (n : Int) = decide (0 < Vs (l.length + 1) (Tw n) (Bw l) 0) := by rw [wayB, hc, Bool.true_and, Int.toNat_natCast]
    rw [hc] at h1 h2
    have w1 := weWays_ev l n l1 n2 l2
    have w2 := ways_ev l n l1 n1 n2
    have hT := Tw_pos n
    have hi : incN 0 (Tw n) := Tw_inc n 0 1 (by omega)
    have z : ∀ f : Nat → Int, rd (arr (l.length + 1) f 0) 0 = f 0 := fun f => arr_rd0 _ f 0 (by omega)
    have z2 : rd (ard (-1) (l.length + 1) (Fw (l.length + 1) (Tw n) (Bw l)) 0) 0 = Fw (l.length + 1) (Tw n) (Bw l) 0 := by
      have := ard_get (-1) (l.length + 1) (Fw (l.length + 1) (Tw n) (Bw l)) 0 0 (by omega)
      rw [if_pos (Nat.le_refl _)] at this
      exact this
    have hv := V_Vs (l.length + 1) (Tw n) (Bw l) hT (top_Bw l) 0 (by omega)
    rw [if_neg (zero_Bw l)] at hv
    have hb := (Vs_bd (l.length + 1) (Tw n) (Bw l) hT hi 0 (by omega)).1
    have hLV := Lf_V (l.length + 1) (Tw n) (Bw l) hT hi _ 0 (Nat.le_refl _) (by omega)
    have hls := Lf_Ls (l.length + 1) (Tw n) (Bw l) hT 0 (by omega)
    rw [if_neg (zero_Bw l)] at hls
    have hF : Fw (l.length + 1) (Tw n) (Bw l) 0 = E1 (Lf (l.length + 1) (Tw n) (Bw l) false 0) := if_neg (by omega)
    have hcount : ∃ c b, Ev (fun k => (spec_weReach.f k l (n : Int)).bind fun t344 => (if t344 = true then ((spec_weWays.f k l (n : Int)).bind fun t345 => (if 0 < (t345.length : Int) then (if (rd t345 0) > 1000000000000 then (some (0, false)) else (some (rd t345 0, true))) else (none))) else (some (0, false)))) (c, b) ∧
        Ev (fun k => (impl_canWear.f k l (n : Int)).bind fun t335 => (if t335 = true then ((impl_ways.f k l (n : Int)).bind fun bt336 => (if 0 < (bt336.1.length : Int) then (if (rd bt336.1 0) > 1000000000000 then (some (0, false)) else (some (rd bt336.1 0, true))) else (none))) else (some (0, false)))) (c, b) ∧ (b = true → c = Vs (l.length + 1) (Tw n) (Bw l) 0) := by
      by_cases hbig : Vs (l.length + 1) (Tw n) (Bw l) 0 > 1000000000000
      · refine ⟨0, false, Ev.bind h1 (Ev.ite_true rfl (Ev.bind w1 (Ev.congr (fun k => ?_) (Ev.now _)))), Ev.bind h2 (Ev.ite_true rfl (Ev.bind w2 (Ev.congr (fun k => ?_) (Ev.now _)))), fun h => by cases h⟩
        · rw [arr_len, if_pos (by omega), z, if_pos (by unfold cq; split <;> omega)]
        · simp only
          rw [arr_len, if_pos (by omega), z, hv, if_pos hbig]
      · have e : cq (Vs (l.length + 1) (Tw n) (Bw l) 0) = Vs (l.length + 1) (Tw n) (Bw l) 0 := if_pos (by omega)
        refine ⟨Vs (l.length + 1) (Tw n) (Bw l) 0, true, Ev.bind h1 (Ev.ite_true rfl (Ev.bind w1 (Ev.congr (fun k => ?_) (Ev.now _)))), Ev.bind h2 (Ev.ite_true rfl (Ev.bind w2 (Ev.congr (fun k => ?_) (Ev.now _)))), fun _ => rfl⟩
        · rw [arr_len, if_pos (by omega), z, e, if_neg hbig]
        · simp only
          rw [arr_len, if_pos (by omega), z, hv, if_neg hbig]
    obtain ⟨c, b, hc1, hc2, hc3⟩ := hcount
    by_cases hz : Vs (l.length + 1) (Tw n) (Bw l) 0 = 0
    · have hwf : wayB l (n : Int) = false := by rw [hwd]; exact decide_eq_false (by omega)
      rw [hwf]
      refine ⟨[], 0, c, b, Ev.bind h1 (Ev.ite_true rfl (Ev.bind w1 (Ev.congr (fun k => ?_) (Ev.now _)))), Ev.bind h2 (Ev.ite_true rfl (Ev.bind w2 (Ev.congr (fun k => ?_) (Ev.now _)))),
        Ev.bind h1 (Ev.ite_true rfl (Ev.bind w1 (Ev.congr (fun k => ?_) no))), Ev.bind h2 (Ev.ite_true rfl (Ev.bind w2 (Ev.congr (fun k => ?_) (Ev.now _)))), hc1, hc2, by simp, fun h => ?_, fun h => by cases h⟩
      · rw [arr_len, if_pos (by omega), z, hz, if_pos (by decide)]
      · simp only
        rw [arr_len, if_pos (by omega), z, hv, if_pos hz]
      · rw [arr_len, if_pos (by omega), z, hz]
        rfl
      · simp only
        have e : E1 (Lf (l.length + 1) (Tw n) (Bw l) false 0) = -1 := if_pos (by omega)
        rw [ard_len, if_pos (by omega), z2, hF, e, if_pos (by omega)]
      · rw [hc3 h, hz]
        rfl
    · have hwt : wayB l (n : Int) = true := by rw [hwd]; exact decide_eq_true (by omega)
      rw [hwt]
      have hge := Lf_ge1 (l.length + 1) (Tw n) (Bw l) hT 0 (by omega) (by omega)
      have hbd := Lf_bd (l.length + 1) (Tw n) (Bw l) false hT _ 0 (Nat.le_refl _) (by omega)
      have hre := Lf_reach (l.length + 1) n (Bw l) _ 0 (Nat.le_refl _) (by omega) (by omega)
      have h5 := few_l0 l n l1 n1 n2 _ 0 0 (Nat.le_refl _) (by omega) (by omega) (by omega) (by omega)
      rw [← hls, Int.zero_add] at h5
      obtain ⟨w, a4, a5, a1, a2, a3⟩ := fw_both l n l1 n1 n2 l2 _ 0 [] (Nat.le_refl _) (by omega) (by simp) (by omega)
      rw [List.nil_append] at a1 a2
      refine ⟨w, Lf (l.length + 1) (Tw n) (Bw l) false 0 - 1, c, b, Ev.bind h1 (Ev.ite_true rfl (Ev.bind w1 (Ev.congr (fun k => ?_) a1))), Ev.bind h2 (Ev.ite_true rfl (Ev.bind w2 (Ev.congr (fun k => ?_) a2))),
        Ev.bind h1 (Ev.ite_true rfl (Ev.bind w1 (Ev.congr (fun k => ?_) (Ev.step (g := fun k => spec_FewestOnWear.j0 k l (n : Int) false) (fun k => ?_) h5)))), Ev.bind h2 (Ev.ite_true rfl (Ev.bind w2 (Ev.congr (fun k => ?_) (Ev.now _)))), hc1, hc2, by omega, fun h => ?_, fun _ => ⟨hc, a4, by omega, by omega, by omega, by rw [Int.sub_add_cancel]; omega⟩⟩
      · rw [arr_len, if_pos (by omega), z, if_neg (by unfold cq; split <;> omega)]
        rfl
      · simp only
        rw [arr_len, if_pos (by omega), z, hv, if_neg hz, wsucc l.length (by omega)]
        rfl
      · rw [arr_len, if_pos (by omega), z, show (cq (Vs (l.length + 1) (Tw n) (Bw l) 0) == 0) = false by rw [beq_eq_false_iff_ne]; unfold cq; split <;> omega]
      · simp only [spec_FewestOnWear.j0]
        rw [if_neg (by simp)]
        rfl
      · simp only
        have e : E1 (Lf (l.length + 1) (Tw n) (Bw l) false 0) = Lf (l.length + 1) (Tw n) (Bw l) false 0 - 1 := if_neg (by omega)
        rw [ard_len, if_pos (by omega), z2, hF, e, if_neg (by omega)]
      · rw [hc3 h]
        exact (decide_eq_true (by omega)).symm
  · have hwf : wayB l r = false := by rw [wayB, hc, Bool.false_and]
    rw [hwf]
    rw [hc] at h1 h2
    exact ⟨[], 0, 0, false, Ev.bind h1 (Ev.ite_false rfl (Ev.now _)), Ev.bind h2 (Ev.ite_false rfl (Ev.now _)), Ev.bind h1 (Ev.ite_false rfl no), Ev.bind h2 (Ev.ite_false rfl (Ev.now _)), Ev.bind h1 (Ev.ite_false rfl (Ev.now _)), Ev.bind h2 (Ev.ite_false rfl (Ev.now _)), by simp, fun h => (by cases h), fun h => (by cases h)⟩
theorem wSame_l (l : List Int) (hB : l.length ≤ 1048576) : ∀ (d i : Nat), l.length - i = d → i ≤ l.length → Ev (fun k => laws_wSame.l0 k l l (l.length : Int) (i : Int)) true := by
  intro d
  induction d with
  | zero =>
    intro i hd hi
    refine Ev.step (fun k => ?_) (Ev.now _)
    simp only [laws_wSame.l0]
    rw [if_neg (by omega)]
  | succ d ih =>
    intro i hd hi
    refine Ev.step (fun k => ?_) (ih (i + 1) (by omega) (by omega))
    simp only [laws_wSame.l0]
    rw [if_pos (by omega), if_pos (by omega), if_pos (by omega), if_pos (by omega), wsucc i (by omega)]
    exact if_pos trivial
theorem wSame_ev (l : List Int) (hB : l.length ≤ 1048576) : Ev (fun k => laws_wSame.f k l l) true := by
  unfold laws_wSame.f
  exact Ev.congr (fun k => if_pos rfl) (wSame_l l hB _ 0 rfl (Nat.zero_le _))
theorem wHas_l (l : List Int) (n : Int) (hB : l.length ≤ 1048576) : ∀ (d i : Nat), l.length - i = d → i ≤ l.length → Ev (fun k => laws_wHas.l0 k n l (l.length : Int) (i : Int)) (decide (n ∈ l.drop i)) := by
  intro d
  induction d with
  | zero =>
    intro i hd hi
    refine Ev.step (fun k => ?_) (Ev.now _)
    simp only [laws_wHas.l0]
    rw [if_neg (by omega), List.drop_eq_nil_of_le (by omega)]
    rfl
  | succ d ih =>
    intro i hd hi
    rw [drop_cons l i (by omega)]
    by_cases h : l.getD i 0 = n
    · refine Ev.step (fun k => ?_) (Ev.now _)
      simp only [laws_wHas.l0]
      rw [if_pos (by omega), if_pos (by omega), if_pos (by omega), rd_nat, if_pos h, decide_eq_true (by rw [h]; exact List.mem_cons_self)]
    · have e : decide (n ∈ l.getD i 0 :: l.drop (i + 1)) = decide (n ∈ l.drop (i + 1)) := by
        rw [decide_eq_decide, List.mem_cons]
        exact ⟨fun h2 => h2.resolve_left (fun h3 => h h3.symm), Or.inr⟩
      rw [e]
      refine Ev.step (fun k => ?_) (ih (i + 1) (by omega) (by omega))
      simp only [laws_wHas.l0]
      rw [if_pos (by omega), if_pos (by omega), if_pos (by omega), rd_nat, if_neg h, wsucc i (by omega)]
theorem wHas_ev (l : List Int) (n : Int) (hB : l.length ≤ 1048576) : Ev (fun k => laws_wHas.f k l n) (decide (n ∈ l)) := wHas_l l n hB _ 0 rfl (Nat.zero_le _)
theorem wRises_l (l : List Int) (hB : l.length ≤ 1048576) (hs : l.Pairwise (· < ·)) : ∀ (d i : Nat), l.length - i = d → 1 ≤ i → Ev (fun k => laws_wRises.l0 k l (i : Int)) true := by
  intro d
  induction d with
  | zero =>
    intro i hd hi
    refine Ev.step (fun k => ?_) (Ev.now _)
    simp only [laws_wRises.l0]
    rw [if_neg (by omega)]
  | succ d ih =>
    intro i hd hi
    have h : l.getD (i - 1) 0 < l.getD i 0 := by
      rw [List.getD_eq_getElem?_getD, List.getD_eq_getElem?_getD, List.getElem?_eq_getElem (show i - 1 < l.length by omega), List.getElem?_eq_getElem (show i < l.length by omega)]
      exact List.pairwise_iff_getElem.1 hs (i - 1) i (by omega) (by omega) (by omega)
    refine Ev.step (fun k => ?_) (ih (i + 1) (by omega) (by omega))
    simp only [laws_wRises.l0]
    rw [if_pos (by omega), w_pred i hi (by omega), if_pos (by omega), if_pos (by omega), if_pos (by omega), rd_nat, rd_nat, if_neg (by omega), wsucc i (by omega)]
theorem wRises_ev (l : List Int) (hB : l.length ≤ 1048576) (hs : l.Pairwise (· < ·)) : Ev (fun k => laws_wRises.f k l) true := wRises_l l hB hs _ 1 rfl (Nat.le_refl _)
theorem wSum_l (s : List Int) (hs : s.length ≤ 1000) (hb : ∀ x ∈ s, 0 ≤ x ∧ x ≤ 2000) : ∀ (d i : Nat) (acc : Int), s.length - i = d → i ≤ s.length → 0 ≤ acc → acc ≤ 2000 * (i : Int) → Ev (fun k => laws_wSum.l0 k acc s (s.length : Int) (i : Int)) (acc + (s.drop i).sum) := by
  intro d
  induction d with
  | zero =>
    intro i acc hd hi h0 h1
    rw [List.drop_eq_nil_of_le (by omega), List.sum_nil, Int.add_zero]
    refine Ev.step (fun k => ?_) (Ev.now _)
    simp only [laws_wSum.l0]
    rw [if_neg (by omega)]
  | succ d ih =>
    intro i acc hd hi h0 h1
    have hg := getD_bd hb (i := i) (by omega)
    have hw : wrap64 (acc + s.getD i 0) = acc + s.getD i 0 := w_id (by omega) (by omega)
    have h := ih (i + 1) (acc + s.getD i 0) (by omega) (by omega) (by omega) (by omega)
    rw [drop_cons s i (by omega), List.sum_cons, ← Int.add_assoc]
    refine Ev.step (fun k => ?_) h
    simp only [laws_wSum.l0]
    rw [if_pos (by omega), if_pos (by omega), if_pos (by omega), rd_nat, hw, wsucc i (by omega)]
theorem wSum_ev (s : List Int) (hs : s.length ≤ 1000) (hb : ∀ x ∈ s, 0 ≤ x ∧ x ≤ 2000) : Ev (fun k => laws_wSum.f k s) s.sum := by
  have h := wSum_l s hs hb _ 0 0 rfl (Nat.zero_le _) (Int.le_refl 0) (by omega)
  rw [List.drop_zero, Int.zero_add] at h
  exact h
theorem s12 (v : List Int) (n : Int) (w : Nat) (hl : v.length ≤ 1048576) (hg : goodB v = true) (h2 : w ≤ v.length + 1) (hm : 1 < w → mostV v (w - 1) < n) : Ev (fun k => laws_FnStepsMendedOfAll.j12 k v n (w : Int)) true := by
  by_cases hw : 1 < w
  · obtain ⟨K, e⟩ := mostw_ev v (w - 1) hl (hasP_mk hg (by omega) (by omega))
    dsimp only at e
    refine ⟨K + 1, fun k hk => ?_⟩
    obtain ⟨k, rfl⟩ : ∃ j, k = j + 1 := ⟨k - 1, by omega⟩
    have h3 := hm hw
    have h4 := goodB_bd hg
    simp only [laws_FnStepsMendedOfAll.j12]
    rw [if_pos (by omega), w_pred w (by omega) (by omega), e k (by omega)]
    simp only [Option.bind_some, if_true]
    rw [if_neg (by omega)]
  · refine Ev.step (fun k => ?_) (Ev.now _)
    simp only [laws_FnStepsMendedOfAll.j12]
    rw [if_neg (by omega)]
theorem s11 (v : List Int) (n : Int) (w : Nat) (hl : v.length ≤ 1048576) (hg : goodB v = true) (h1 : 1 ≤ w) (h2 : w ≤ v.length + 1) (hm2 : w ≤ v.length → n ≤ mostV v w) (hm : 1 < w → mostV v (w - 1) < n) : Ev (fun k => laws_FnStepsMendedOfAll.j11 k v n (w : Int) false) true := by
  obtain ⟨K2, e2⟩ := s12 v n w hl hg h2 hm
  dsimp only at e2
  by_cases hw : w ≤ v.length
  · obtain ⟨K, e⟩ := mostw_ev v w hl (hasP_mk hg h1 hw)
    dsimp only at e
    refine ⟨K + K2 + 1, fun k hk => ?_⟩
    obtain ⟨k, rfl⟩ : ∃ j, k = j + 1 := ⟨k - 1, by omega⟩
    have h3 := hm2 hw
    simp only [laws_FnStepsMendedOfAll.j11]
    rw [if_neg (by simp), if_pos (by omega), e k (by omega)]
    simp only [Option.bind_some, if_true]
    rw [if_neg (by omega)]
    exact e2 k (by omega)
  · refine Ev.step (fun k => ?_) ⟨K2, e2⟩
    simp only [laws_FnStepsMendedOfAll.j11]
    rw [if_neg (by simp), if_neg (by omega)]
def RH (v : List Int) (n far : Int) (b : Bool) : Prop := b = true → goodB v = true ∧ ∃ w : Nat, far = (w : Int) ∧ 1 ≤ w ∧ w ≤ v.length + 1 ∧ (w ≤ v.length → n ≤ mostV v w) ∧ (1 < w → mostV v (w - 1) < n)
theorem s10 (v : List Int) (n far : Int) (b : Bool) (hl : v.length ≤ 1048576) (h : RH v n far b) : Ev (fun k => laws_FnStepsMendedOfAll.j10 k v n far b) true := by
  cases b with
  | false =>
    refine Ev.step (fun k => ?_) (Ev.now _)
    simp only [laws_FnStepsMendedOfAll.j10]
    exact if_neg (by simp)
  | true =>
    obtain ⟨hg, w, rfl, h1, h2, h3, h4⟩ := h rfl
    refine Ev.step (fun k => ?_) (s11 v n w hl hg h1 h2 h3 h4)
    simp only [laws_FnStepsMendedOfAll.j10, if_true]
    rw [if_neg (by omega), wsucc v.length (by omega), decide_eq_false (by omega)]
def FH (u : List Int) (r : Int) (first : List Int) (seven : Bool) (few : Int) : Prop :=
  seven = true → canW u r = true ∧ isV u r 0 first = true ∧ few ≤ (first.length : Int) ∧ 0 ≤ few ∧ few ≤ 1000 ∧ (u.length : Int) + 1 ≤ (few + 1) * r
theorem s9 (u : List Int) (r : Int) (v : List Int) (n : Int) (first : List Int) (seven : Bool) (few far : Int) (b : Bool) (hu : u.length ≤ 1048576) (hf : first.length ≤ 1048576) (hF : FH u r first seven few) (T : Ev (fun k => laws_FnStepsMendedOfAll.j10 k v n far b) true) :
    Ev (fun k => laws_FnStepsMendedOfAll.j9 k u r v n first seven few far b) true := by
  cases seven with
  | false =>
    refine Ev.step (fun k => ?_) T
    simp only [laws_FnStepsMendedOfAll.j9]
    exact if_neg (by simp)
  | true =>
    obtain ⟨hW, hv, f1, f2, f3, f4⟩ := hF rfl
    obtain ⟨hg, r1, r2⟩ := canW_bd hW
    obtain ⟨g1, g2, g3⟩ := goodB_bd hg
    have hp : 0 ≤ (few + 1) * r ∧ (few + 1) * r ≤ 1001 * 20 := ⟨Int.mul_nonneg (by omega) (by omega), Int.mul_le_mul (by omega) r2 (by omega) (by omega)⟩
    have hw1 : wrap64 (few + 1) = few + 1 := w_id (by omega) (by omega)
    have hw2 : wrap64 ((few + 1) * r) = (few + 1) * r := w_id (by omega) (by omega)
    have he : Ev (fun k => impl_IsWearClimb.f k u r first) (isV u r 0 first, true) := by
      unfold impl_IsWearClimb.f
      exact Ev.bind (canWear_ev u hu r) (Ev.ite_true hW (Ev.bind (isWear_ev u r g2 g3 r1 r2 first (by omega)) (Ev.now _)))
    rw [hv] at he
    obtain ⟨K, e⟩ := he
    dsimp only at e
    obtain ⟨K2, e2⟩ := T
    dsimp only at e2
    refine ⟨K + K2 + 1, fun k hk => ?_⟩
    obtain ⟨k, rfl⟩ : ∃ j, k = j + 1 := ⟨k - 1, by omega⟩
    simp only [laws_FnStepsMendedOfAll.j9, if_true]
    rw [e k (by omega)]
    simp only [Option.bind_some, if_true]
    rw [if_neg (by omega), if_neg (by omega), hw1, hw2, wsucc u.length (by omega), if_neg (by omega)]
    exact e2 k (by omega)
theorem sl2 (u : List Int) (r : Nat) (v : List Int) (n : Int) (worst least : Int) (first : List Int) (seven : Bool) (few far : Int) (b : Bool) (hu : u.length ≤ 1048576) (hP : hasP u (r : Int) = true) (hW : WorstI u r (u.length + 1) worst least)
    (T : Ev (fun k => laws_FnStepsMendedOfAll.j9 k u (r : Int) v n first seven few far b) true) : ∀ (d i : Nat), u.length - i = d → i ≤ u.length →
    Ev (fun k => laws_FnStepsMendedOfAll.l2 k u (r : Int) v n (idleL u r 1 u.length) worst least first seven few far b (mostV u r) (u.length : Int) (i : Int)) true := by
  intro d
  induction d with
  | zero =>
    intro i hd hi
    refine Ev.step (fun k => ?_) T
    simp only [laws_FnStepsMendedOfAll.l2]
    rw [if_neg (by omega)]
  | succ d ih =>
    intro i hd hi
    obtain ⟨K, e⟩ := mostw_ev (u.set i 0) r (by rw [List.length_set]; exact hu) (hasP_set hP i)
    dsimp only at e
    obtain ⟨K2, e2⟩ := wHas_ev (idleL u r 1 u.length) ((i : Int) + 1) (Nat.le_trans (idleL_len u r 1 u.length) hu)
    dsimp only at e2
    obtain ⟨K3, e3⟩ := ih (i + 1) (by omega) (by omega)
    dsimp only at e3
    have hmem := idleL_mem u r u.length i (by omega)
    have hh : (decide ((i : Int) + 1 ∈ idleL u r 1 u.length) != (mostV (u.set i 0) r == mostV u r)) = false := by
      by_cases hm : mostV (u.set i 0) r = mostV u r
      · rw [decide_eq_true (hmem.2 hm), beq_iff_eq.2 hm]
        rfl
      · rw [decide_eq_false (fun h => hm (hmem.1 h)), beq_eq_false_iff_ne.2 hm]
        rfl
    have hw : wrap64 ((i : Int) + 1) = (i : Int) + 1 := w_id (by omega) (by omega)
    have hw' : ((i + 1 : Nat) : Int) = (i : Int) + 1 := by omega
    rw [hw'] at e3
    rcases hW with ⟨b1, b2⟩ | ⟨q, b1, b2, b3, b4, b5, b6⟩
    · omega
    · have c1 := b5 (i + 1) (by omega) (by omega)
      rw [Nat.add_sub_cancel] at c1
      have c2 : mostV (u.set i 0) r = least → ¬ (i : Int) + 1 < worst := fun h1 h2 => by
        have := b6 (i + 1) (by omega) (by omega)
        rw [Nat.add_sub_cancel] at this
        omega
      have c3 : (i : Int) + 1 = worst → mostV (u.set i 0) r = least := fun h => by
        have e : q - 1 = i := by omega
        rw [b4, e]
      refine ⟨K + K2 + K3 + 1, fun k hk => ?_⟩
      obtain ⟨k, rfl⟩ : ∃ j, k = j + 1 := ⟨k - 1, by omega⟩
      simp only [laws_FnStepsMendedOfAll.l2, Option.bind_some, List.nil_append, List.length_nil, Nat.zero_add]
      rw [if_pos (by omega), if_pos (by omega), if_pos (by omega), if_pos (by omega), Int.toNat_natCast, e k (by omega), hw, e2 k (by omega)]
      simp only [Option.bind_some, if_true, hh, Bool.false_eq_true, if_false]
      rw [if_neg (by omega), e3 k (by omega)]
      by_cases hq : mostV (u.set i 0) r = least
      · rw [if_pos hq, if_neg (c2 hq)]
        split <;> rfl
      · rw [if_neg hq, if_neg (fun h => hq (c3 h))]
theorem s6 (u : List Int) (r : Int) (v : List Int) (n : Int) (idle : List Int) (worst least : Int) (first : List Int) (few far : Int) (b : Bool) (hu : u.length ≤ 1048576)
    (hl : ∀ n : Nat, r = (n : Int) → hasP u r = true → idle = idleL u n 1 u.length ∧ WorstI u n (u.length + 1) worst least)
    (T : Ev (fun k => laws_FnStepsMendedOfAll.j9 k u r v n first (wayB u r) few far b) true) :
    Ev (fun k => laws_FnStepsMendedOfAll.j6 k u r v n idle (hasP u r) worst least first (wayB u r) few far b false) true := by
  by_cases hP : hasP u r = true
  · obtain ⟨r, rfl, h1, h2, h3, h4, h5, hb⟩ := hasP_facts hP
    obtain ⟨rfl, hW⟩ := hl r rfl hP
    have hwd : wayB u (r : Int) = decide (mostV u r > 0) := by
      have hc : canW u (r : Int) = true := by
        simp only [hasP, Bool.and_eq_true] at hP
        exact hP.1
      rw [wayB, hc, Bool.true_and, Int.toNat_natCast]
      exact decide_eq_decide.2 (V_most u r h4 h1 h3 hb)
    have hle : ¬ least > mostV u r := by
      rcases hW with ⟨b1, b2⟩ | ⟨q, b1, b2, b3, b4, b5, b6⟩
      · omega
      · have := mostV_mono (Lq.set hb (q - 1)) (r := r) (by rw [List.length_set]; exact h3)
        omega
    have T2 := sl2 u r v n worst least first (wayB u (r : Int)) few far b hu hP hW T _ 0 rfl (Nat.zero_le _)
    obtain ⟨K, e⟩ := mostw_ev u r hu hP
    dsimp only at e
    obtain ⟨K2, e2⟩ := wRises_ev (idleL u r 1 u.length) (Nat.le_trans (idleL_len u r 1 u.length) hu) (idleL_rise u r 1 u.length)
    dsimp only at e2
    obtain ⟨K3, e3⟩ := T2
    dsimp only at e3
    refine ⟨K + K2 + K3 + 2, fun k hk => ?_⟩
    obtain ⟨k, rfl⟩ : ∃ j, k = j + 2 := ⟨k - 2, by omega⟩
    simp only [laws_FnStepsMendedOfAll.j6, hP, Bool.false_eq_true, if_false, if_true]
    rw [e (k + 1) (by omega), e2 (k + 1) (by omega)]
    simp only [Option.bind_some, if_true]
    rw [if_neg hle]
    have hx : (wayB u (r : Int) != decide (mostV u r > 0)) = false := by rw [hwd]; simp
    rw [hx]
    simp only [laws_FnStepsMendedOfAll.j7, Bool.false_eq_true, if_false]
    exact e3 k (by omega)
  · have hP' : hasP u r = false := Bool.eq_false_iff.mpr hP
    rw [hP']
    refine Ev.step (fun k => ?_) T
    simp only [laws_FnStepsMendedOfAll.j6, Bool.false_eq_true, if_false]
theorem s5 (u : List Int) (r : Int) (v : List Int) (n : Int) (hu : u.length ≤ 1048576) (hv : v.length ≤ 1048576) : Ev (fun k => laws_FnStepsMendedOfAll.j5 k u r v n) true := by
  obtain ⟨idle, worst, least, i1, i2, i3, i4, i5, i6⟩ := lose_all u r hu
  obtain ⟨first, few, cnt, eb, w1, w2, w3, w4, w5, w6, w7, w8, w9⟩ := way_all u r hu
  obtain ⟨far, tb, r1, r2, r3⟩ := reach_all v n hv
  have T := s6 u r v n idle worst least first few far tb hu i6 (s9 u r v n first (wayB u r) few far tb hu w7 w9 (s10 v n far tb hv r3))
  obtain ⟨K1, i1⟩ := i1
  dsimp only at i1
  obtain ⟨K2, i2⟩ := i2
  dsimp only at i2
  obtain ⟨K3, i3⟩ := i3
  dsimp only at i3
  obtain ⟨K4, i4⟩ := i4
  dsimp only at i4
  obtain ⟨K5, w1⟩ := w1
  dsimp only at w1
  obtain ⟨K6, w2⟩ := w2
  dsimp only at w2
  obtain ⟨K7, w3⟩ := w3
  dsimp only at w3
  obtain ⟨K8, w4⟩ := w4
  dsimp only at w4
  obtain ⟨K9, w5⟩ := w5
  dsimp only at w5
  obtain ⟨K10, w6⟩ := w6
  dsimp only at w6
  obtain ⟨K11, r1⟩ := r1
  dsimp only at r1
  obtain ⟨K12, r2⟩ := r2
  dsimp only at r2
  obtain ⟨K13, T⟩ := T
  dsimp only at T
  obtain ⟨K14, q1⟩ := wSame_ev idle i5
  dsimp only at q1
  obtain ⟨K15, q2⟩ := wSame_ev first w7
  dsimp only at q2
  refine ⟨K1 + K2 + K3 + K4 + K5 + K6 + K7 + K8 + K9 + K10 + K11 + K12 + K13 + K14 + K15 + 1, fun k hk => ?_⟩
  obtain ⟨k, rfl⟩ : ∃ j, k = j + 1 := ⟨k - 1, by omega⟩
  simp only [laws_FnStepsMendedOfAll.j5]
  rw [i1 k (by omega), i2 k (by omega), i3 k (by omega), i4 k (by omega), w1 k (by omega), w2 k (by omega), w3 k (by omega), w4 k (by omega), w5 k (by omega), w6 k (by omega), r1 k (by omega), r2 k (by omega)]
  simp only [Option.bind_some, bne_self_eq_false, Bool.false_eq_true, if_false, if_true]
  rw [q1 k (by omega), q2 k (by omega)]
  simp only [Option.bind_some, if_true]
  cases eb with
  | false =>
    simp only [Bool.false_eq_true, if_false]
    exact T k (by omega)
  | true =>
    have hx : (wayB u r != decide (cnt > 0)) = false := by rw [w8 rfl]; simp
    rw [hx]
    simp only [if_true]
    exact T k (by omega)
theorem mend_facts {l m : List Int} {c : Int} {r : Nat} (h1 : r ≤ l.length) (hm : m.length = l.length) (h : MendI l c r (l.length + 1 - r) m) : (m.sum - l.sum = 0 ↔ c ≤ mostV l r) ∧ c - mostV l r ≤ m.sum - l.sum := by
  obtain ⟨a1, a2, a3⟩ := h
  obtain ⟨i, i1, i2⟩ := mostV_at h1
  have b1 := part_sum a1 r i i1
  have b2 := a2 i (by omega)
  refine ⟨⟨fun h => by omega, fun h => ?_⟩, by omega⟩
  have c1 := a3 l (Lq.self l) (fun k hk => Int.le_trans h (mostV_le hk)) l.length (Nat.le_refl _)
  have c2 := pre_diff a1 l.length 0 (by omega)
  rw [Nat.zero_add, pre_zero, pre_zero] at c2
  rw [pre_all] at c1 c2
  rw [← hm, pre_all] at c1 c2
  omega
theorem mend_less {l m m2 : List Int} {c : Int} {r : Nat} (hm : m.length = l.length) (hm2 : m2.length = l.length) (h : MendI l c r (l.length + 1 - r) m) (h2 : MendI l (c - 1) r (l.length + 1 - r) m2) : m2.sum ≤ m.sum := by
  have b := h2.2.2 m h.1 (fun i hi => by have := h.2.1 i (by omega); omega) l.length (Nat.le_refl _)
  have e1 := pre_all m
  have e2 := pre_all m2
  rw [hm] at e1
  rw [hm2] at e2
  omega
theorem sl1 (l : List Int) (r : Nat) (c : Int) (u : List Int) (q : Int) (v : List Int) (nn : Int) (m : List Int) (s : Int) (hl : l.length ≤ 20) (hr : r ≤ l.length) (hm : m.length = l.length) (hb : ∀ x ∈ m, 0 ≤ x ∧ x ≤ 2000) (hI : MendI l c r (l.length + 1 - r) m) (hc : 0 ≤ c ∧ c ≤ 1000)
    (T2 : 0 < c → ∃ s2, s2 ≤ s ∧ Ev (fun k => impl_MendSum.f k l (r : Int) (c - 1)) (s2, true)) (T : Ev (fun k => laws_FnStepsMendedOfAll.j5 k u q v nn) true) : ∀ (d i : Nat), l.length + 1 - r - i = d → i ≤ l.length + 1 - r →
    Ev (fun k => laws_FnStepsMendedOfAll.l1 k l (r : Int) c u q v nn m s s (i : Int)) true := by
  intro d
  induction d with
  | zero =>
    intro i hd hi
    obtain ⟨K, T⟩ := T
    dsimp only at T
    by_cases hc0 : 0 < c
    · obtain ⟨s2, h1, K2, e2⟩ := T2 hc0
      dsimp only at e2
      have hw : wrap64 (c - 1) = c - 1 := w_id (by omega) (by omega)
      refine ⟨K + K2 + 1, fun k hk => ?_⟩
      obtain ⟨k, rfl⟩ : ∃ j, k = j + 1 := ⟨k - 1, by omega⟩
      simp only [laws_FnStepsMendedOfAll.l1, if_true]
      rw [w_add i r (by omega) (by omega), if_neg (by omega), if_pos hc0, hw, e2 k (by omega)]
      simp only [Option.bind_some, if_true]
      rw [if_neg (by omega)]
      exact T k (by omega)
    · refine ⟨K + 1, fun k hk => ?_⟩
      obtain ⟨k, rfl⟩ : ∃ j, k = j + 1 := ⟨k - 1, by omega⟩
      simp only [laws_FnStepsMendedOfAll.l1, if_true]
      rw [w_add i r (by omega) (by omega), if_neg (by omega), if_neg hc0]
      exact T k (by omega)
  | succ d ih =>
    intro i hd hi
    obtain ⟨K, e⟩ := wSum_ev ((m.take (i + r)).drop i) (by rw [List.length_drop, List.length_take]; omega) (fun x hx => hb x (cut_mem hx))
    obtain ⟨K2, e2⟩ := ih (i + 1) (by omega) (by omega)
    dsimp only at e e2
    have h1 := hI.2.1 i (by omega)
    have h2 : partAt m r i = ((m.take (i + r)).drop i).sum := rfl
    refine ⟨K + K2 + 1, fun k hk => ?_⟩
    obtain ⟨k, rfl⟩ : ∃ j, k = j + 1 := ⟨k - 1, by omega⟩
    simp only [laws_FnStepsMendedOfAll.l1]
    rw [w_add i r (by omega) (by omega), if_pos (by omega), if_pos (by omega), if_pos (by omega), Int.toNat_natCast, Int.toNat_natCast, e k (by omega)]
    simp only [Option.bind_some]
    rw [if_neg (by omega), wsucc i (by omega)]
    exact e2 k (by omega)
theorem sl0 (l : List Int) (r : Nat) (c : Int) (u : List Int) (q : Int) (v : List Int) (nn : Int) (m : List Int) (s : Int) (hl : l.length ≤ 20) (hl2 : ∀ x ∈ l, 0 ≤ x ∧ x ≤ 100) (hm : m.length = l.length) (hb : ∀ x ∈ m, 0 ≤ x ∧ x ≤ 2000) (hq : Lq l m)
    (T : Ev (fun k => laws_FnStepsMendedOfAll.l1 k l (r : Int) c u q v nn m s s 0) true) : ∀ (d i : Nat) (acc : Int), l.length - i = d → i ≤ l.length → -(2000 * (i : Int)) ≤ acc → acc ≤ 2000 * (i : Int) → acc + (m.drop i).sum - (l.drop i).sum = s →
    Ev (fun k => laws_FnStepsMendedOfAll.l0 k l (r : Int) c u q v nn m s acc m (m.length : Int) (i : Int)) true := by
  intro d
  induction d with
  | zero =>
    intro i acc hd hi h0 h1 hs
    rw [List.drop_eq_nil_of_le (by omega), List.drop_eq_nil_of_le (by omega), List.sum_nil, Int.add_zero, Int.sub_zero] at hs
    subst hs
    refine Ev.step (fun j => ?_) T
    simp only [laws_FnStepsMendedOfAll.l0]
    rw [if_neg (by omega)]
  | succ d ih =>
    intro i acc hd hi h0 h1 hs
    have g1 := getD_bd hb (i := i) (by omega)
    have g2 := getD_bd hl2 (i := i) (by omega)
    have g3 := hq.2 i (by omega)
    have w1 : wrap64 (m.getD i 0 - l.getD i 0) = m.getD i 0 - l.getD i 0 := w_id (by omega) (by omega)
    have w2 : wrap64 (acc + (m.getD i 0 - l.getD i 0)) = acc + (m.getD i 0 - l.getD i 0) := w_id (by omega) (by omega)
    have h := ih (i + 1) (acc + (m.getD i 0 - l.getD i 0)) (by omega) (by omega) (by omega) (by omega) (by
      rw [drop_cons m i (by omega), drop_cons l i (by omega), List.sum_cons, List.sum_cons] at hs
      omega)
    refine Ev.step (fun j => ?_) h
    simp only [laws_FnStepsMendedOfAll.l0]
    rw [if_pos (by omega), if_pos (by omega), if_pos (by omega), if_pos (by omega), rd_nat, rd_nat, if_neg (by omega), w1, w2, wsucc i (by omega)]
theorem s1 (l : List Int) (r c : Int) (u : List Int) (q : Int) (v : List Int) (nn : Int) (m : List Int) (s : Int) (hl : l.length ≤ 1048576)
    (h : ∀ n : Nat, r = (n : Int) → mendB l r c = true → s = m.sum - l.sum ∧ m.length = l.length ∧ (∀ x ∈ m, 0 ≤ x ∧ x ≤ 2000) ∧ MendI l c n (l.length + 1 - n) m)
    (T : Ev (fun k => laws_FnStepsMendedOfAll.j5 k u q v nn) true) : Ev (fun k => laws_FnStepsMendedOfAll.j1 k l r c u q v nn m (mendB l r c) s false) true := by
  by_cases hB : mendB l r c = true
  · have hB2 := hB
    simp only [mendB, Bool.and_eq_true, decide_eq_true_eq] at hB2
    obtain ⟨hP, hc⟩ := hB2
    obtain ⟨r, rfl, h1, h2, h3, h4, h5, hb⟩ := hasP_facts hP
    obtain ⟨rfl, hm, hmb, hI⟩ := h r rfl hB
    have hf := mend_facts h3 hm hI
    have hmo := mostV_bd hb h2 h3
    have T2 : 0 < c → ∃ s2, s2 ≤ m.sum - l.sum ∧ Ev (fun k => impl_MendSum.f k l (r : Int) (c - 1)) (s2, true) := fun hc0 => by
      obtain ⟨m2, s2, _, _, _, e, _, hh⟩ := mend_all l (r : Int) (c - 1) hl
      have hB3 : mendB l (r : Int) (c - 1) = true := by
        simp only [mendB, Bool.and_eq_true, decide_eq_true_eq]
        exact ⟨hP, by omega⟩
      obtain ⟨rfl, b1, b2, b3⟩ := hh r rfl hB3
      rw [hB3] at e
      have := mend_less hm b1 hI b3
      exact ⟨_, by omega, e⟩
    have T1 := sl1 l r c u q v nn m (m.sum - l.sum) h4 h3 hm hmb hI hc T2 T _ 0 rfl (Nat.zero_le _)
    have T0 := sl0 l r c u q v nn m (m.sum - l.sum) h4 h5 hm hmb hI.1 T1 _ 0 0 rfl (Nat.zero_le _) (by omega) (by omega) (by rw [List.drop_zero, List.drop_zero]; omega)
    obtain ⟨K, e⟩ := mostw_ev l r hl hP
    obtain ⟨K2, e2⟩ := T0
    dsimp only at e e2
    have hw : wrap64 (c - mostV l r) = c - mostV l r := w_id (by omega) (by omega)
    have hx : ((m.sum - l.sum == 0) != decide (mostV l r ≥ c)) = false := by
      by_cases hz : m.sum - l.sum = 0
      · rw [beq_iff_eq.2 hz, decide_eq_true (hf.1.1 hz)]
        rfl
      · rw [beq_eq_false_iff_ne.2 hz, decide_eq_false (fun h => hz (hf.1.2 h))]
        rfl
    refine ⟨K + K2 + 2, fun k hk => ?_⟩
    obtain ⟨k, rfl⟩ : ∃ j, k = j + 2 := ⟨k - 2, by omega⟩
    simp only [laws_FnStepsMendedOfAll.j1, hB, Bool.false_eq_true, if_false, if_true]
    rw [e (k + 1) (by omega)]
    simp only [Option.bind_some, if_true]
    rw [if_pos (by omega), hx, hw, decide_eq_false (by omega)]
    simp only [laws_FnStepsMendedOfAll.j2, Bool.false_eq_true, if_false]
    exact e2 k (by omega)
  · have hB' : mendB l r c = false := Bool.eq_false_iff.mpr hB
    rw [hB']
    refine Ev.step (fun k => ?_) T
    simp only [laws_FnStepsMendedOfAll.j1, Bool.false_eq_true, if_false]
theorem s0 (l : List Int) (r c : Int) (u : List Int) (q : Int) (v : List Int) (nn : Int) (hl : l.length ≤ 1048576) (hu : u.length ≤ 1048576) (hv : v.length ≤ 1048576) : Ev (fun k => laws_FnStepsMendedOfAll.j0 k l r c u q v nn false) true := by
  obtain ⟨m, s, e1, e2, e3, e4, hm, h⟩ := mend_all l r c hl
  have T := s1 l r c u q v nn m s hl h (s5 u q v nn hu hv)
  obtain ⟨K1, e1⟩ := e1
  obtain ⟨K2, e2⟩ := e2
  obtain ⟨K3, e3⟩ := e3
  obtain ⟨K4, e4⟩ := e4
  obtain ⟨K5, T⟩ := T
  obtain ⟨K6, q1⟩ := wSame_ev m hm
  dsimp only at e1 e2 e3 e4 T q1
  refine ⟨K1 + K2 + K3 + K4 + K5 + K6 + 1, fun k hk => ?_⟩
  obtain ⟨k, rfl⟩ : ∃ j, k = j + 1 := ⟨k - 1, by omega⟩
  simp only [laws_FnStepsMendedOfAll.j0, Bool.false_eq_true, if_false]
  rw [e1 k (by omega), e2 k (by omega), e3 k (by omega), e4 k (by omega)]
  simp only [Option.bind_some, bne_self_eq_false, Bool.false_eq_true, if_false]
  rw [q1 k (by omega)]
  simp only [Option.bind_some, if_true]
  exact T k (by omega)
theorem steps_true (l : List Int) (r c : Int) (u : List Int) (q : Int) (v : List Int) (nn : Int) : Ev (fun k => laws_FnStepsMendedOfAll.f k l r c u q v nn) true := by
  have big : ∀ l r c u q v nn, Ev (fun k => laws_FnStepsMendedOfAll.j0 k l r c u q v nn true) true := fun l r c u q v nn => Ev.step (fun k => by simp only [laws_FnStepsMendedOfAll.j0, if_true]) (Ev.now _)
  unfold laws_FnStepsMendedOfAll.f
  by_cases h1 : (l.length : Int) > 10000
  · exact Ev.congr (fun k => if_pos h1) (big ..)
  · by_cases h2 : (u.length : Int) > 10000
    · exact Ev.congr (fun k => by rw [if_neg h1, if_pos h2]) (big l r c u q v nn)
    · by_cases h3 : (v.length : Int) > 10000
      · exact Ev.congr (fun k => by rw [if_neg h1, if_neg h2, decide_eq_true h3]) (big l r c u q v nn)
      · exact Ev.congr (fun k => by rw [if_neg h1, if_neg h2, decide_eq_false h3]) (s0 l r c u q v nn (by omega) (by omega) (by omega))
theorem FnStepsMendedOfAll : ∀ (l0 : List Int) (a1 : Int) (a2 : Int) (l3 : List Int) (a4 : Int) (l5 : List Int) (a6 : Int), l0.length ≤ maxLen → (∀ x ∈ l0, (Lit.int .i64 x).wf = true) → (Lit.int .i64 a1).wf = true → (Lit.int .i64 a2).wf = true → l3.length ≤ maxLen → (∀ x ∈ l3, (Lit.int .i64 x).wf = true) → (Lit.int .i64 a4).wf = true → l5.length ≤ maxLen → (∀ x ∈ l5, (Lit.int .i64 x).wf = true) → (Lit.int .i64 a6).wf = true → ∃ k, laws_FnStepsMendedOfAll.f k l0 a1 a2 l3 a4 l5 a6 = some true := fun l0 a1 a2 l3 a4 l5 a6 _ _ _ _ _ _ _ _ _ _ => (steps_true l0 a1 a2 l3 a4 l5 a6).rounds

end Go.Proofs.Ytbeokaghdagabaa.Pure
