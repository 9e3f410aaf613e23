/- The pure statement of FnExactWorstStepToLose: the printed function returns true for all arguments within their kinds; no other condition. -/
import Derived.Test.YtfmjkephbibddaaPFnExactWorstStepToLosex
namespace Go.Proofs.Ytfmjkephbibddaa.Pure
open Go.RowKit Go.Proofs.Ytfmjkephbibddaa.PFnExactWorstStepToLose Go.Proofs.YtfmjkephbibddaaW.PrintWords Go.Proofs.YtfmjkephbibddaaW.PrintLast Go.Proofs.YtfmjkephbibddaaW.PrintMore
set_option linter.unusedVariables false
set_option linter.unusedSimpArgs false
theorem in_val (a b c : Int) : spec_l1In.f a b c = some (decide (b ≤ a ∧ a ≤ c)) := by
  unfold spec_l1In.f
  by_cases h : b ≤ a <;> simp [h]
theorem within_val (a b c : Int) : impl_within.f a b c = some (decide (b ≤ a ∧ a ≤ c)) := by
  unfold impl_within.f
  by_cases h : b ≤ a <;> simp [h]

theorem wsucc (i : Nat) (h : i < 4611686018427387904) : wrap64 ((i : Int) + 1) = ((i + 1 : Nat) : Int) := by
  unfold wrap64
  omega
theorem kpred {d k : Nat} (h : d < k) : ∃ m, k = m + 1 := ⟨k - 1, by omega⟩
theorem rd_nat (l : List Int) (i : Nat) : rd l (i : Int) = l.getD i 0 := by simp [rd]
theorem take_set_succ (x : List Int) (i : Nat) (v : Int) (h : i < x.length) : (x.set i v).take (i + 1) = x.take i ++ [v] := by
  rw [List.take_add_one, List.take_set_of_le (Nat.le_refl i), List.getElem?_set_self h]
  rfl
theorem take_get_succ (x : List Int) (i : Nat) (h : i < x.length) : x.take (i + 1) = x.take i ++ [x.getD i 0] := by
  rw [List.take_add_one, List.getElem?_eq_getElem h, List.getD_eq_getElem?_getD, List.getElem?_eq_getElem h]
  rfl

def okB (n : Int) : Bool := decide (0 ≤ n ∧ n ≤ 100)
/-- The numbers are bears. -/
def goodB (l : List Int) : Bool := decide (1 ≤ l.length ∧ l.length ≤ 20) && l.all okB
theorem drop_cons (l : List Int) (i : Nat) (h : i < l.length) : l.drop i = l.getD i 0 :: l.drop (i + 1) := by
  rw [List.drop_eq_getElem_cons h, List.getD_eq_getElem?_getD, List.getElem?_eq_getElem h]
  rfl
theorem l1All_l (l : List Int) (hB : l.length ≤ 1048576) : ∀ (d k i : Nat), l.length - i = d → d < k → i ≤ l.length →
    spec_l1All.l0 k 0 100 l (l.length : Int) (i : Int) = some ((l.drop i).all okB) := by
  intro d
  induction d with
  | zero =>
    intro k i hd hk hi
    obtain ⟨k, rfl⟩ := kpred hk
    simp only [spec_l1All.l0]
    rw [if_neg (by omega), List.drop_eq_nil_of_le (by omega)]
    rfl
  | succ d ih =>
    intro k i hd hk hi
    obtain ⟨k, rfl⟩ := kpred hk
    simp only [spec_l1All.l0]
    rw [if_pos (by omega), if_pos (by omega), if_pos (by omega), rd_nat, in_val, drop_cons l i (by omega)]
    simp only [Option.bind_some, List.all_cons, wsucc i (by omega)]
    rw [ih k (i + 1) (by omega) (by omega) (by omega)]
    by_cases h : 0 ≤ l.getD i 0 ∧ l.getD i 0 ≤ 100
    · rw [if_pos (decide_eq_true h)]
      simp only [okB, decide_eq_true h, Bool.true_and]
    · rw [if_neg (by simpa using h)]
      simp only [okB, decide_eq_false h, Bool.false_and]
theorem weGood_val (l : List Int) (hB : l.length ≤ 1048576) (k : Nat) (hk : l.length < k) : spec_weGood.f k l = some (goodB l) := by
  unfold spec_weGood.f spec_l1All.f goodB
  have h := l1All_l l hB l.length k 0 (by omega) hk (by omega)
  rw [List.drop_zero] at h
  rw [in_val]
  simp only [Option.bind_some]
  by_cases h1 : 1 ≤ l.length ∧ l.length ≤ 20
  · rw [if_pos (decide_eq_true (by omega)), decide_eq_true h1, Bool.true_and]
    have h' : spec_l1All.l0 k 0 100 l (l.length : Int) 0 = some (l.all okB) := h
    rw [h']
    rfl
  · rw [if_neg (by simp; omega), decide_eq_false h1, Bool.false_and]
theorem areBears1_val (n : Int) : impl_AreBears_1.f n = some (!okB n) := by
  unfold impl_AreBears_1.f
  simp only [within_val, Option.bind_some]
  rfl
theorem indexFunc_l (l : List Int) (hB : l.length ≤ 1048576) : ∀ (d k i : Nat), l.length - i = d → d < k → i ≤ l.length →
    ∃ r, slices_IndexFunc_int_int.l0 k l (l.length : Int) (i : Int) = some r ∧ decide (r ≥ 0) = !(l.drop i).all okB := by
  intro d
  induction d with
  | zero =>
    intro k i hd hk hi
    obtain ⟨k, rfl⟩ := kpred hk
    refine ⟨-1, ?_, ?_⟩
    · simp only [slices_IndexFunc_int_int.l0]
      rw [if_neg (by omega)]
    · rw [List.drop_eq_nil_of_le (by omega)]
      rfl
  | succ d ih =>
    intro k i hd hk hi
    obtain ⟨k, rfl⟩ := kpred hk
    rw [drop_cons l i (by omega)]
    by_cases h : okB (l.getD i 0) = true
    · obtain ⟨r, hr, hp⟩ := ih k (i + 1) (by omega) (by omega) (by omega)
      refine ⟨r, ?_, by rw [List.all_cons, h, Bool.true_and]; exact hp⟩
      simp only [slices_IndexFunc_int_int.l0]
      rw [if_pos (by omega), if_pos (by omega), if_pos (by omega), rd_nat, areBears1_val, h]
      simp only [Option.bind_some, Bool.not_true, wsucc i (by omega)]
      exact hr
    · have h' : okB (l.getD i 0) = false := Bool.eq_false_iff.mpr h
      refine ⟨i, ?_, by rw [List.all_cons, h', Bool.false_and]; simp⟩
      simp only [slices_IndexFunc_int_int.l0]
      rw [if_pos (by omega), if_pos (by omega), if_pos (by omega), rd_nat, areBears1_val, h']
      rfl
theorem areBears_val (l : List Int) (hB : l.length ≤ 1048576) (k : Nat) (hk : l.length < k) : impl_AreBears.f k l = some (goodB l) := by
  obtain ⟨r, hr, hp⟩ := indexFunc_l l hB l.length k 0 (by omega) hk (by omega)
  have hr' : slices_IndexFunc_int_int.l0 k l (l.length : Int) 0 = some r := hr
  rw [List.drop_zero] at hp
  unfold impl_AreBears.f slices_ContainsFunc_int_int.f slices_IndexFunc_int_int.f goodB
  rw [within_val, hr']
  simp only [Option.bind_some, hp, Bool.not_not]
  by_cases h1 : 1 ≤ l.length ∧ l.length ≤ 20
  · rw [if_pos (decide_eq_true (by omega)), decide_eq_true h1, Bool.true_and]
  · rw [if_neg (by simp; omega), decide_eq_false h1, Bool.false_and]

theorem Ev.ite_true {α : Type} {g f : Nat → Option α} {r : α} {b : Bool} (h : b = true) (k : Ev g r) : Ev (fun n => if b = true then g n else f n) r := by
  subst h
  simpa using k
theorem Ev.ite_false {α : Type} {g f : Nat → Option α} {r : α} {b : Bool} (h : b = false) (k : Ev f r) : Ev (fun n => if b = true then g n else f n) r := by
  subst h
  simpa using k

theorem weGood_ev (l : List Int) (hB : l.length ≤ 1048576) : Ev (fun k => spec_weGood.f k l) (goodB l) := ⟨l.length + 1, fun k hk => weGood_val l hB k (by omega)⟩
theorem areBears_ev (l : List Int) (hB : l.length ≤ 1048576) : Ev (fun k => impl_AreBears.f k l) (goodB l) := ⟨l.length + 1, fun k hk => areBears_val l hB k (by omega)⟩
/-- Bears and a reach. -/
def canW (l : List Int) (r : Int) : Bool := goodB l && decide (1 ≤ r ∧ r ≤ 20)
theorem weReach_ev (l : List Int) (hB : l.length ≤ 1048576) (r : Int) : Ev (fun k => spec_weReach.f k l r) (canW l r) := by
  unfold spec_weReach.f canW
  refine Ev.bind (weGood_ev l hB) ?_
  simp only [in_val, Option.bind_some]
  cases goodB l <;> simp <;> exact Ev.now _
theorem canWear_ev (l : List Int) (hB : l.length ≤ 1048576) (r : Int) : Ev (fun k => impl_canWear.f k l r) (canW l r) := by
  unfold impl_canWear.f canW
  refine Ev.bind (areBears_ev l hB) ?_
  simp only [within_val, Option.bind_some]
  cases goodB l <;> simp <;> exact Ev.now _
theorem okB_bd {x : Int} (h : okB x = true) : 0 ≤ x ∧ x ≤ 100 := by simpa [okB] using h
/-- What bears are. -/
theorem goodB_bd {l : List Int} (h : goodB l = true) : 1 ≤ l.length ∧ l.length ≤ 20 ∧ ∀ x ∈ l, 0 ≤ x ∧ x ≤ 100 := by
  simp only [goodB, Bool.and_eq_true, decide_eq_true_eq, List.all_eq_true] at h
  exact ⟨h.1.1, h.1.2, fun x hx => okB_bd (h.2 x hx)⟩
theorem canW_bd {l : List Int} {r : Int} (h : canW l r = true) : goodB l = true ∧ 1 ≤ r ∧ r ≤ 20 := by
  simp only [canW, Bool.and_eq_true, decide_eq_true_eq] at h
  exact ⟨h.1, h.2.1, h.2.2⟩
theorem getD_bd {l : List Int} {a b : Int} (h : ∀ x ∈ l, a ≤ x ∧ x ≤ b) {i : Nat} (hi : i < l.length) : a ≤ l.getD i 0 ∧ l.getD i 0 ≤ b := by
  rw [List.getD_eq_getElem?_getD, List.getElem?_eq_getElem hi]
  exact h _ (List.getElem_mem hi)

def hasP (l : List Int) (r : Int) : Bool := canW l r && decide (r ≤ (l.length : Int))
theorem weEnds_ev (l : List Int) (hB : l.length ≤ 1048576) (r : Int) : Ev (fun k => spec_weEnds.f k l r) (hasP l r) := by
  unfold spec_weEnds.f hasP
  refine Ev.bind (weReach_ev l hB r) ?_
  cases canW l r <;> simp <;> exact Ev.now _
theorem hasParts_ev (l : List Int) (hB : l.length ≤ 1048576) (r : Int) : Ev (fun k => impl_hasParts.f k l r) (hasP l r) := by
  unfold impl_hasParts.f hasP
  refine Ev.bind (canWear_ev l hB r) ?_
  cases canW l r <;> simp <;> exact Ev.now _
theorem hasP_bd {l : List Int} {r : Int} (h : hasP l r = true) : goodB l = true ∧ 1 ≤ r ∧ r ≤ 20 ∧ r ≤ (l.length : Int) := by
  simp only [hasP, Bool.and_eq_true, decide_eq_true_eq] at h
  obtain ⟨h1, h2⟩ := h
  have := canW_bd h1
  exact ⟨this.1, this.2.1, this.2.2, h2⟩

theorem hasP_facts {l : List Int} {r : Int} (h : hasP l r = true) : ∃ n : Nat, r = (n : Int) ∧ 1 ≤ n ∧ n ≤ 20 ∧ n ≤ l.length ∧ l.length ≤ 20 ∧ (∀ x ∈ l, 0 ≤ x ∧ x ≤ 100) ∧ ∀ x ∈ l, 0 ≤ x ∧ x ≤ 2000 := by
  obtain ⟨hg, h1, h2, h3⟩ := hasP_bd h
  obtain ⟨g1, g2, g3⟩ := goodB_bd hg
  obtain ⟨n, rfl⟩ := Int.eq_ofNat_of_zero_le (show 0 ≤ r by omega)
  exact ⟨n, rfl, by omega, by omega, by omega, by omega, g3, fun x hx => ⟨(g3 x hx).1, Int.le_trans (g3 x hx).2 (by omega)⟩⟩

theorem toIntS_l (l : List Int) (hB : l.length ≤ 1048576) : ∀ (d k i : Nat) (x : List Int), l.length - i = d → d < k → i ≤ l.length → x.length = l.length → x.take i = l.take i →
    laws_toIntS.l0 k l x (i : Int) = some l := by
  intro d
  induction d with
  | zero =>
    intro k i x hd hk hi hx ht
    obtain ⟨k, rfl⟩ := kpred hk
    have e : i = l.length := by omega
    simp only [laws_toIntS.l0]
    rw [if_neg (by omega)]
    have h1 := ht
    rw [e, List.take_length, ← hx, List.take_length] at h1
    rw [h1]
  | succ d ih =>
    intro k i x hd hk hi hx ht
    obtain ⟨k, rfl⟩ := kpred hk
    simp only [laws_toIntS.l0]
    rw [if_pos (by omega), if_pos (by omega), if_pos (by omega), wsucc i (by omega), Int.toNat_natCast, rd_nat]
    refine ih k (i + 1) _ (by omega) (by omega) (by omega) (by simpa using hx) ?_
    rw [take_set_succ _ _ _ (by omega), take_get_succ _ _ (by omega), ht]
theorem toIntS_val (l : List Int) (hB : l.length ≤ 1048576) (k : Nat) (hk : l.length < k) : laws_toIntS.f k l = some l := by
  unfold laws_toIntS.f
  rw [if_pos (by omega), if_pos (by rw [Int.toNat_natCast]; omega)]
  exact toIntS_l l hB l.length k 0 _ (by omega) hk (by omega) (by simp) (by simp)

theorem toIntS_ev (l : List Int) (hB : l.length ≤ 1048576) : Ev (fun k => laws_toIntS.f k l) l := ⟨l.length + 1, fun k hk => toIntS_val l hB k (by omega)⟩

theorem eqIntS_l (l : List Int) (hB : l.length ≤ 1048576) : ∀ (d k i : Nat), l.length - i = d → d < k → i ≤ l.length → laws_eqIntS.l0 k l l (i : Int) = some true := by
  intro d
  induction d with
  | zero =>
    intro k i hd hk hi
    obtain ⟨k, rfl⟩ := kpred hk
    simp only [laws_eqIntS.l0]
    rw [if_neg (by omega)]
  | succ d ih =>
    intro k i hd hk hi
    obtain ⟨k, rfl⟩ := kpred hk
    simp only [laws_eqIntS.l0]
    rw [if_pos (by omega), if_pos (by omega), if_pos (by omega), if_pos trivial, wsucc i (by omega)]
    exact ih k (i + 1) (by omega) (by omega) (by omega)
theorem eqIntS_val (l : List Int) (hB : l.length ≤ 1048576) (k : Nat) (hk : l.length < k) : laws_eqIntS.f k l l = some true := by
  unfold laws_eqIntS.f
  rw [if_pos rfl]
  exact eqIntS_l l hB l.length k 0 (by omega) hk (by omega)

theorem eqIntS_ev (l : List Int) (hB : l.length ≤ 1048576) : Ev (fun k => laws_eqIntS.f k l l) true := ⟨l.length + 1, fun k hk => eqIntS_val l hB k (by omega)⟩

theorem own_val (l : List Int) (h : l.length ≤ 1048576) : spec_l1Own.f l = some l := by
  unfold spec_l1Own.f
  simp only [Option.bind_some]
  rw [if_pos (by simp; omega)]
  simp

theorem clone_val (l : List Int) (h : l.length ≤ 1048576) : slices_Clone_int_int.f l = some l := by
  unfold slices_Clone_int_int.f
  simp only [Option.bind_some]
  rw [if_pos (by simp; omega)]
  simp

/-- What the part at i bears. -/
def partAt (l : List Int) (r i : Nat) : Int := ((l.take (i + r)).drop i).sum
def partsV (l : List Int) (r : Nat) : List Int := (List.range' 0 (l.length + 1 - r)).map (partAt l r)
theorem partsV_length (l : List Int) (r : Nat) : (partsV l r).length = l.length + 1 - r := by simp [partsV]
theorem cut_mem {l : List Int} {a b : Nat} {x : Int} (h : x ∈ (l.take a).drop b) : x ∈ l := List.mem_of_mem_take (List.mem_of_mem_drop h)
theorem sum_bd {l : List Int} {M : Int} (h : ∀ x ∈ l, 0 ≤ x ∧ x ≤ M) : 0 ≤ l.sum ∧ l.sum ≤ M * l.length := by
  induction l with
  | nil => simp
  | cons x l ih =>
    have h1 := h x List.mem_cons_self
    have h2 := ih (fun y hy => h y (List.mem_cons_of_mem _ hy))
    rw [List.sum_cons, List.length_cons, Int.natCast_add, Int.mul_add]
    constructor <;> omega
theorem partAt_bd {l : List Int} {M : Int} (h : ∀ x ∈ l, 0 ≤ x ∧ x ≤ M) (hM : 0 ≤ M) (r i : Nat) (hr : r ≤ 20) : 0 ≤ partAt l r i ∧ partAt l r i ≤ M * 20 := by
  have h1 := sum_bd (l := (l.take (i + r)).drop i) (fun x hx => h x (cut_mem hx))
  have h2 : ((l.take (i + r)).drop i).length ≤ 20 := by
    rw [List.length_drop, List.length_take]
    omega
  refine ⟨h1.1, Int.le_trans h1.2 (Int.mul_le_mul_of_nonneg_left (by omega) hM)⟩

def minV : List Int → Int
  | [] => 0
  | x :: xs => xs.foldl mn x
theorem mn_self (x : Int) : mn x x = x := by simp [mn]
theorem minV_fold {l : List Int} (h : 0 < l.length) : l.foldl mn (l.getD 0 0) = minV l := by
  cases l with
  | nil => simp at h
  | cons x xs => simp [minV, mn_self]
theorem minV_fold1 {l : List Int} (h : 0 < l.length) : (l.drop 1).foldl mn (l.getD 0 0) = minV l := by
  cases l with
  | nil => simp at h
  | cons x xs => simp [minV]
theorem foldl_mn_le (l : List Int) : ∀ m : Int, l.foldl mn m ≤ m ∧ (∀ x ∈ l, l.foldl mn m ≤ x) ∧ (l.foldl mn m = m ∨ l.foldl mn m ∈ l) := by
  induction l with
  | nil => intro m; simp
  | cons x xs ih =>
    intro m
    obtain ⟨h1, h2, h3⟩ := ih (mn m x)
    have h4 : mn m x ≤ m ∧ mn m x ≤ x ∧ (mn m x = m ∨ mn m x = x) := by unfold mn; split <;> omega
    rw [List.foldl_cons]
    refine ⟨by omega, fun y hy => ?_, ?_⟩
    · rcases List.mem_cons.1 hy with rfl | hy
      · omega
      · exact h2 y hy
    · rcases h3 with h3 | h3
      · rcases h4.2.2 with h5 | h5
        · left; omega
        · right; rw [h3, h5]; exact List.mem_cons_self
      · right; exact List.mem_cons_of_mem _ h3
theorem minV_le {l : List Int} {x : Int} (h : x ∈ l) : minV l ≤ x := by
  cases l with
  | nil => cases h
  | cons y ys =>
    have := foldl_mn_le ys y
    rcases List.mem_cons.1 h with rfl | h
    · exact this.1
    · exact this.2.1 x h
theorem minV_mem {l : List Int} (h : 0 < l.length) : minV l ∈ l := by
  cases l with
  | nil => simp at h
  | cons y ys =>
    have := foldl_mn_le ys y
    rcases this.2.2 with h | h
    · show ys.foldl mn y ∈ y :: ys
      rw [h]; exact List.mem_cons_self
    · exact List.mem_cons_of_mem _ h

theorem wp_l1 (x0 : List Int) (x1 : Int) (x5 : List Int) (x6 : Int) (s : List Int) (hs : s.length ≤ 1000) (hb : ∀ x ∈ s, 0 ≤ x ∧ x ≤ 2000) (hx : x5.length < 17592186044416) (r : List Int) :
    ∀ (d i : Nat) (acc : Int), s.length - i = d → i ≤ s.length → 0 ≤ acc → acc ≤ 2000 * (i : Int) →
      Ev (fun k => spec_weParts.l0 k x0 x1 (x5 ++ [acc + (s.drop i).sum]) (wrap64 (x6 + 1))) r → Ev (fun k => spec_weParts.l1 k x0 x1 x5 x6 acc s (s.length : Int) (i : Int)) r := by
  intro d
  induction d with
  | zero =>
    intro i acc hd hi h0 h1 ht
    rw [List.drop_eq_nil_of_le (by omega), List.sum_nil, Int.add_zero] at ht
    refine Ev.step (fun k => ?_) ht
    simp only [spec_weParts.l1]
    rw [if_neg (by omega), if_pos hx]
  | succ d ih =>
    intro i acc hd hi h0 h1 ht
    have hg := getD_bd hb (i := i) (by omega)
    have hw : wrap64 (acc + s.getD i 0) = acc + s.getD i 0 := by
      unfold wrap64
      omega
    refine Ev.step (f := fun k => spec_weParts.l1 k x0 x1 x5 x6 (acc + s.getD i 0) s (s.length : Int) ((i + 1 : Nat) : Int)) (fun k => ?_) (ih (i + 1) _ (by omega) (by omega) (by omega) (by omega) ?_)
    · simp only [spec_weParts.l1]
      rw [if_pos (by omega), if_pos (by omega), if_pos (by omega), rd_nat, hw, wsucc i (by omega)]
    · rw [drop_cons s i (by omega), List.sum_cons, ← Int.add_assoc] at ht
      exact ht
theorem wp_l0 (l : List Int) (hl : l.length ≤ 1000) (hb : ∀ x ∈ l, 0 ≤ x ∧ x ≤ 2000) (r : Nat) (hr : r ≤ 20) : ∀ (d i : Nat) (out : List Int), l.length + 1 - r - i = d → i ≤ l.length + 1 → out.length ≤ i →
      Ev (fun k => spec_weParts.l0 k l (r : Int) out (i : Int)) (out ++ (List.range' i d).map (partAt l r)) := by
  intro d
  induction d with
  | zero =>
    intro i out hd hi ho
    have hw : wrap64 ((i : Int) + (r : Int)) = ((i + r : Nat) : Int) := by
      unfold wrap64
      omega
    rw [List.range'_zero, List.map_nil, List.append_nil]
    refine Ev.step (fun k => ?_) (Ev.now out)
    simp only [spec_weParts.l0]
    rw [hw, if_neg (by omega)]
  | succ d ih =>
    intro i out hd hi ho
    have hw : wrap64 ((i : Int) + (r : Int)) = ((i + r : Nat) : Int) := by
      unfold wrap64
      omega
    refine Ev.step (f := fun k => spec_weParts.l1 k l (r : Int) out (i : Int) 0 ((l.take (i + r)).drop i) (((l.take (i + r)).drop i).length : Int) ((0 : Nat) : Int)) (fun k => ?_) ?_
    · simp only [spec_weParts.l0]
      rw [hw, if_pos (by omega), if_pos (by omega), if_pos (by omega), Int.toNat_natCast, Int.toNat_natCast]
      rfl
    · refine wp_l1 l (r : Int) out (i : Int) _ (by rw [List.length_drop, List.length_take]; omega) (fun x hx => hb x (cut_mem hx)) (by omega) _ _ 0 0 rfl (by omega) (by omega) (by omega) ?_
      rw [wsucc i (by omega), List.drop_zero, Int.zero_add, List.range'_succ, List.map_cons]
      have h := ih (i + 1) (out ++ [partAt l r i]) (by omega) (by omega) (by rw [List.length_append, List.length_singleton]; omega)
      rw [List.append_assoc] at h
      exact h
theorem wp_ev (l : List Int) (hl : l.length ≤ 1000) (hb : ∀ x ∈ l, 0 ≤ x ∧ x ≤ 2000) (r : Nat) (hr : r ≤ 20) : Ev (fun k => spec_weParts.f k l (r : Int)) (partsV l r) := by
  unfold spec_weParts.f
  exact wp_l0 l hl hb r hr _ 0 [] rfl (by omega) (by simp)

theorem ip_l1 (x0 : List Int) (x1 : Int) (x5 : List Int) (x6 : Int) (s : List Int) (hs : s.length ≤ 1000) (hb : ∀ x ∈ s, 0 ≤ x ∧ x ≤ 2000) (hx : x5.length < 17592186044416) (r : List Int) :
    ∀ (d i : Nat) (acc : Int), s.length - i = d → i ≤ s.length → 0 ≤ acc → acc ≤ 2000 * (i : Int) →
      Ev (fun k => impl_partSums.l0 k x0 x1 (x5 ++ [acc + (s.drop i).sum]) (wrap64 (x6 + 1))) r → Ev (fun k => impl_partSums.l1 k x0 x1 x5 x6 acc s (s.length : Int) (i : Int)) r := by
  intro d
  induction d with
  | zero =>
    intro i acc hd hi h0 h1 ht
    rw [List.drop_eq_nil_of_le (by omega), List.sum_nil, Int.add_zero] at ht
    refine Ev.step (fun k => ?_) ht
    simp only [impl_partSums.l1]
    rw [if_neg (by omega), if_pos hx]
  | succ d ih =>
    intro i acc hd hi h0 h1 ht
    have hg := getD_bd hb (i := i) (by omega)
    have hw : wrap64 (acc + s.getD i 0) = acc + s.getD i 0 := by
      unfold wrap64
      omega
    refine Ev.step (f := fun k => impl_partSums.l1 k x0 x1 x5 x6 (acc + s.getD i 0) s (s.length : Int) ((i + 1 : Nat) : Int)) (fun k => ?_) (ih (i + 1) _ (by omega) (by omega) (by omega) (by omega) ?_)
    · simp only [impl_partSums.l1]
      rw [if_pos (by omega), if_pos (by omega), if_pos (by omega), rd_nat, hw, wsucc i (by omega)]
    · rw [drop_cons s i (by omega), List.sum_cons, ← Int.add_assoc] at ht
      exact ht
theorem ip_l0 (l : List Int) (hl : l.length ≤ 1000) (hb : ∀ x ∈ l, 0 ≤ x ∧ x ≤ 2000) (r : Nat) (hr : r ≤ 20) : ∀ (d i : Nat) (out : List Int), l.length + 1 - r - i = d → i ≤ l.length + 1 → out.length ≤ i →
      Ev (fun k => impl_partSums.l0 k l (r : Int) out (i : Int)) (out ++ (List.range' i d).map (partAt l r)) := by
  intro d
  induction d with
  | zero =>
    intro i out hd hi ho
    have hw : wrap64 ((i : Int) + (r : Int)) = ((i + r : Nat) : Int) := by
      unfold wrap64
      omega
    rw [List.range'_zero, List.map_nil, List.append_nil]
    refine Ev.step (fun k => ?_) (Ev.now out)
    simp only [impl_partSums.l0]
    rw [hw, if_neg (by omega)]
  | succ d ih =>
    intro i out hd hi ho
    have hw : wrap64 ((i : Int) + (r : Int)) = ((i + r : Nat) : Int) := by
      unfold wrap64
      omega
    refine Ev.step (f := fun k => impl_partSums.l1 k l (r : Int) out (i : Int) 0 ((l.take (i + r)).drop i) (((l.take (i + r)).drop i).length : Int) ((0 : Nat) : Int)) (fun k => ?_) ?_
    · simp only [impl_partSums.l0]
      rw [hw, if_pos (by omega), if_pos (by omega), if_pos (by omega), Int.toNat_natCast, Int.toNat_natCast]
      rfl
    · refine ip_l1 l (r : Int) out (i : Int) _ (by rw [List.length_drop, List.length_take]; omega) (fun x hx => hb x (cut_mem hx)) (by omega) _ _ 0 0 rfl (by omega) (by omega) (by omega) ?_
      rw [wsucc i (by omega), List.drop_zero, Int.zero_add, List.range'_succ, List.map_cons]
      have h := ih (i + 1) (out ++ [partAt l r i]) (by omega) (by omega) (by rw [List.length_append, List.length_singleton]; omega)
      rw [List.append_assoc] at h
      exact h
theorem ip_ev (l : List Int) (hl : l.length ≤ 1000) (hb : ∀ x ∈ l, 0 ≤ x ∧ x ≤ 2000) (r : Nat) (hr : r ≤ 20) : Ev (fun k => impl_partSums.f k l (r : Int)) (partsV l r) := by
  unfold impl_partSums.f
  exact ip_l0 l hl hb r hr _ 0 [] rfl (by omega) (by simp)

def mostV (l : List Int) (r : Nat) : Int := minV (partsV l r)
theorem least_val (a b : Int) : spec_l1Least.f a b = some (mn a b) := by
  unfold spec_l1Least.f mn
  by_cases h : a < b
  · rw [if_pos h, if_neg (by omega)]
  · by_cases h2 : b < a
    · rw [if_neg h, if_pos h2]
    · rw [if_neg h, if_neg h2]
      congr 1
      omega
theorem weMost_l (s : List Int) (hs : s.length ≤ 2000) : ∀ (d i : Nat) (m : Int), s.length - i = d → i ≤ s.length → Ev (fun k => spec_weMost.l0 k m s (s.length : Int) (i : Int)) ((s.drop i).foldl mn m) := by
  intro d
  induction d with
  | zero =>
    intro i m hd hi
    rw [List.drop_eq_nil_of_le (by omega)]
    refine Ev.step (fun k => ?_) (Ev.now m)
    simp only [spec_weMost.l0]
    rw [if_neg (by omega)]
  | succ d ih =>
    intro i m hd hi
    rw [drop_cons s i (by omega), List.foldl_cons]
    refine Ev.step (f := fun k => spec_weMost.l0 k (mn m (s.getD i 0)) s (s.length : Int) ((i + 1 : Nat) : Int)) (fun k => ?_) (ih (i + 1) _ (by omega) (by omega))
    simp only [spec_weMost.l0]
    rw [if_pos (by omega), if_pos (by omega), if_pos (by omega), rd_nat, least_val, wsucc i (by omega)]
    rfl
theorem min_l (s : List Int) (hs : s.length ≤ 2000) : ∀ (d i : Nat) (m : Int), s.length - i = d → i ≤ s.length → Ev (fun k => slices_Min_int_int.l0 k s m (i : Int)) ((s.drop i).foldl mn m) := by
  intro d
  induction d with
  | zero =>
    intro i m hd hi
    rw [List.drop_eq_nil_of_le (by omega)]
    refine Ev.step (fun k => ?_) (Ev.now m)
    simp only [slices_Min_int_int.l0]
    rw [if_neg (by omega)]
  | succ d ih =>
    intro i m hd hi
    rw [drop_cons s i (by omega), List.foldl_cons]
    refine Ev.step (f := fun k => slices_Min_int_int.l0 k s (mn m (s.getD i 0)) ((i + 1 : Nat) : Int)) (fun k => ?_) (ih (i + 1) _ (by omega) (by omega))
    simp only [slices_Min_int_int.l0]
    rw [if_pos (by omega), if_pos (by omega), rd_nat, wsucc i (by omega)]
theorem weMost_ev (l : List Int) (hl : l.length ≤ 1000) (hb : ∀ x ∈ l, 0 ≤ x ∧ x ≤ 2000) (r : Nat) (hr : r ≤ 20) (hp : r ≤ l.length) : Ev (fun k => spec_weMost.f k l (r : Int)) (mostV l r) := by
  unfold spec_weMost.f
  refine Ev.bind (wp_ev l hl hb r hr) ?_
  have hlen : (partsV l r).length = l.length + 1 - r := partsV_length l r
  refine Ev.congr (f := fun k => spec_weMost.l0 k ((partsV l r).getD 0 0) (partsV l r) ((partsV l r).length : Int) ((0 : Nat) : Int)) (fun k => ?_) ?_
  · rw [if_pos (by omega)]
    rfl
  · have h := weMost_l (partsV l r) (by omega) _ 0 ((partsV l r).getD 0 0) rfl (by omega)
    rw [List.drop_zero, minV_fold (by omega)] at h
    exact h
theorem mostWears_ev (l : List Int) (hl : l.length ≤ 1000) (hb : ∀ x ∈ l, 0 ≤ x ∧ x ≤ 2000) (r : Nat) (hr : r ≤ 20) (hp : r ≤ l.length) : Ev (fun k => impl_mostWears.f k l (r : Int)) (mostV l r) := by
  unfold impl_mostWears.f
  refine Ev.bind (ip_ev l hl hb r hr) ?_
  have hlen : (partsV l r).length = l.length + 1 - r := partsV_length l r
  refine Ev.bind (a := mostV l r) ?_ (Ev.now _)
  unfold slices_Min_int_int.f
  refine Ev.congr (f := fun k => slices_Min_int_int.l0 k (partsV l r) ((partsV l r).getD 0 0) ((1 : Nat) : Int)) (fun k => ?_) ?_
  · rw [if_neg (by omega), if_pos (by omega)]
    rfl
  · have h := min_l (partsV l r) (by omega) _ 1 ((partsV l r).getD 0 0) rfl (by omega)
    rw [minV_fold1 (by omega)] at h
    exact h
theorem mostV_bd {l : List Int} (hb : ∀ x ∈ l, 0 ≤ x ∧ x ≤ 2000) {r : Nat} (hr : r ≤ 20) (hp : r ≤ l.length) : 0 ≤ mostV l r ∧ mostV l r ≤ 40000 := by
  have h : mostV l r ∈ partsV l r := minV_mem (by rw [partsV_length]; omega)
  obtain ⟨i, _, hi⟩ := List.mem_map.1 h
  have := partAt_bd hb (by omega) r i hr
  omega

theorem lose_val (l : List Int) (h : l.length ≤ 1048576) (j : Nat) (h1 : 1 ≤ j) (h2 : j ≤ l.length) : spec_weLose.f l (j : Int) = some (l.set (j - 1) 0) := by
  have hw : wrap64 ((j : Int) - 1) = ((j - 1 : Nat) : Int) := by
    unfold wrap64
    omega
  unfold spec_weLose.f
  rw [own_val l h]
  simp only [Option.bind_some]
  rw [hw, if_pos (by omega), if_pos (by omega), Int.toNat_natCast]
theorem losing_val (l : List Int) (h : l.length ≤ 1048576) (j : Nat) (h1 : 1 ≤ j) (h2 : j ≤ l.length) : impl_losing.f l (j : Int) = some (l.set (j - 1) 0) := by
  have hw : wrap64 ((j : Int) - 1) = ((j - 1 : Nat) : Int) := by
    unfold wrap64
    omega
  unfold impl_losing.f
  rw [clone_val l h]
  simp only [Option.bind_some]
  rw [hw, if_pos (by omega), if_pos (by omega), Int.toNat_natCast]
theorem set_bd {l : List Int} {M v : Int} (h : ∀ x ∈ l, 0 ≤ x ∧ x ≤ M) (h0 : 0 ≤ v) (h1 : v ≤ M) (j : Nat) : ∀ x ∈ l.set j v, 0 ≤ x ∧ x ≤ M := by
  intro x hx
  rcases List.mem_or_eq_of_mem_set hx with hx | rfl
  · exact h x hx
  · exact ⟨h0, h1⟩

/- What is proved at the end: ∀ (l0 : List Int) (a1 : Int), l0.length ≤ maxLen → (∀ x ∈ l0, (Lit.int .i64 x).wf = true) → (Lit.int .i64 a1).wf = true → ∃ k, laws_FnExactWorstStepToLose.f k l0 a1 = some true -/
theorem worst_both (l : List Int) (r : Nat) (h4 : l.length ≤ 20) (hb : ∀ x ∈ l, 0 ≤ x ∧ x ≤ 2000) (hr : r ≤ 20) (hp : r ≤ l.length) : ∀ (d j : Nat) (b m : Int), l.length + 1 - j = d → 1 ≤ j → j ≤ l.length + 1 → (b = 0 ↔ j = 1) →
    ∃ w0 w1, Ev (fun k => spec_WorstStepToLose.l0 k l (r : Int) b m (j : Int)) (w0, w1, true) ∧ Ev (fun k => impl_WorstStepToLose.l0 k l (r : Int) b m (j : Int)) (w0, w1, true) := by
  intro d
  induction d with
  | zero =>
    intro j b m hd h1 hj hbj
    refine ⟨b, m, Ev.step (fun k => ?_) (Ev.now _), Ev.step (fun k => ?_) (Ev.now _)⟩
    · simp only [spec_WorstStepToLose.l0]
      rw [if_neg (by omega)]
    · simp only [impl_WorstStepToLose.l0]
      rw [if_neg (by omega)]
  | succ d ih =>
    intro j b m hd h1 hj hbj
    have hb' := set_bd hb (Int.le_refl 0) (by omega) (j - 1)
    have hl' : (l.set (j - 1) 0).length = l.length := List.length_set
    have e1 := weMost_ev (l.set (j - 1) 0) (by omega) hb' r hr (by omega)
    have e2 := mostWears_ev (l.set (j - 1) 0) (by omega) hb' r hr (by omega)
    have hw := wsucc j (by omega)
    by_cases hc : b = 0 ∨ mostV (l.set (j - 1) 0) r < m
    · obtain ⟨w0, w1, hs, hi⟩ := ih (j + 1) (j : Int) (mostV (l.set (j - 1) 0) r) (by omega) (by omega) (by omega) (by omega)
      rw [← hw] at hs hi
      refine ⟨w0, w1, Ev.step (fun k => ?_) (Ev.bind (f := fun k t => if b = 0 then spec_WorstStepToLose.l0 k l (r : Int) (j : Int) t (wrap64 ((j : Int) + 1)) else if t < m then spec_WorstStepToLose.l0 k l (r : Int) (j : Int) t (wrap64 ((j : Int) + 1)) else spec_WorstStepToLose.l0 k l (r : Int) b m (wrap64 ((j : Int) + 1))) e1 (Ev.congr (fun k => ?_) hs)),
        Ev.step (fun k => ?_) (Ev.bind (f := fun k t => if (j : Int) = 1 then impl_WorstStepToLose.l0 k l (r : Int) (j : Int) t (wrap64 ((j : Int) + 1)) else if t < m then impl_WorstStepToLose.l0 k l (r : Int) (j : Int) t (wrap64 ((j : Int) + 1)) else impl_WorstStepToLose.l0 k l (r : Int) b m (wrap64 ((j : Int) + 1))) e2 (Ev.congr (fun k => ?_) hi))⟩
      · simp only [spec_WorstStepToLose.l0]
        rw [if_pos (by omega), lose_val l (by omega) j h1 (by omega)]
        rfl
      · by_cases h0 : b = 0
        · rw [if_pos h0]
        · rw [if_neg h0, if_pos (by rcases hc with h | h; exact absurd h h0; exact h)]
      · simp only [impl_WorstStepToLose.l0]
        rw [if_pos (by omega), losing_val l (by omega) j h1 (by omega)]
        rfl
      · by_cases h0 : b = 0
        · rw [if_pos (by omega)]
        · rw [if_neg (by omega), if_pos (by rcases hc with h | h; exact absurd h h0; exact h)]
    · have h0 : ¬ b = 0 := fun h => hc (.inl h)
      have hm : ¬ mostV (l.set (j - 1) 0) r < m := fun h => hc (.inr h)
      obtain ⟨w0, w1, hs, hi⟩ := ih (j + 1) b m (by omega) (by omega) (by omega) (by omega)
      rw [← hw] at hs hi
      refine ⟨w0, w1, Ev.step (fun k => ?_) (Ev.bind (f := fun k t => if b = 0 then spec_WorstStepToLose.l0 k l (r : Int) (j : Int) t (wrap64 ((j : Int) + 1)) else if t < m then spec_WorstStepToLose.l0 k l (r : Int) (j : Int) t (wrap64 ((j : Int) + 1)) else spec_WorstStepToLose.l0 k l (r : Int) b m (wrap64 ((j : Int) + 1))) e1 (Ev.congr (fun k => ?_) hs)),
        Ev.step (fun k => ?_) (Ev.bind (f := fun k t => if (j : Int) = 1 then impl_WorstStepToLose.l0 k l (r : Int) (j : Int) t (wrap64 ((j : Int) + 1)) else if t < m then impl_WorstStepToLose.l0 k l (r : Int) (j : Int) t (wrap64 ((j : Int) + 1)) else impl_WorstStepToLose.l0 k l (r : Int) b m (wrap64 ((j : Int) + 1))) e2 (Ev.congr (fun k => ?_) hi))⟩
      · simp only [spec_WorstStepToLose.l0]
        rw [if_pos (by omega), lose_val l (by omega) j h1 (by omega)]
        rfl
      · rw [if_neg h0, if_neg hm]
      · simp only [impl_WorstStepToLose.l0]
        rw [if_pos (by omega), losing_val l (by omega) j h1 (by omega)]
        rfl
      · rw [if_neg (by omega), if_neg hm]
theorem FnExactWorstStepToLose_agree (l : List Int) (r : Int) (hl : l.length ≤ 1048576) : ∃ w0 w1 w2, Ev (fun k => spec_WorstStepToLose.f k l r) (w0, w1, w2) ∧ Ev (fun k => impl_WorstStepToLose.f k l r) (w0, w1, w2) := by
  unfold spec_WorstStepToLose.f impl_WorstStepToLose.f
  by_cases hP : hasP l r = true
  · obtain ⟨r, rfl, h1, h2, h3, h4, h5, hb⟩ := hasP_facts hP
    obtain ⟨w0, w1, hs, hi⟩ := worst_both l r h4 hb h2 h3 _ 1 0 0 rfl (by omega) (by omega) (by omega)
    exact ⟨w0, w1, true, Ev.bind (weEnds_ev l hl r) (Ev.ite_true hP hs), Ev.bind (hasParts_ev l hl r) (Ev.ite_true hP hi)⟩
  · have hP' : hasP l r = false := Bool.eq_false_iff.mpr hP
    exact ⟨0, 0, false, Ev.bind (weEnds_ev l hl r) (Ev.ite_false hP' (Ev.now _)), Ev.bind (hasParts_ev l hl r) (Ev.ite_false hP' (Ev.now _))⟩
theorem FnExactWorstStepToLose : ∀ (l0 : List Int) (a1 : Int), l0.length ≤ maxLen → (∀ x ∈ l0, (Lit.int .i64 x).wf = true) → (Lit.int .i64 a1).wf = true → ∃ k, laws_FnExactWorstStepToLose.f k l0 a1 = some true := by
  intro l0 a1 hm0 hw0 w1
  by_cases hB0 : (l0.length : Int) > 1048576
  · exact ⟨1, by unfold laws_FnExactWorstStepToLose.f; rw [if_pos hB0]⟩
  have hl0 : l0.length ≤ 1048576 := by omega
  obtain ⟨w0, w1, w2, hS, hI⟩ := FnExactWorstStepToLose_agree l0 a1 hl0
  obtain ⟨K0, k0⟩ := (show Ev (fun k => spec_WorstStepToLose.f k l0 a1) (w0, w1, w2) from hS)
  obtain ⟨K1, k1⟩ := (show Ev (fun k => impl_WorstStepToLose.f k l0 a1) (w0, w1, w2) from hI)
  obtain ⟨K2, k2⟩ := (show Ev (fun k => laws_toIntS.f k l0) l0 from toIntS_ev _ hl0)
  obtain ⟨K3, k3⟩ := (show Ev (fun k => laws_eqIntS.f k l0 l0) true from eqIntS_ev _ hl0)
  obtain ⟨K, hK⟩ : ∃ K, K = K0 + K1 + K2 + K3 := ⟨_, rfl⟩
  have e0 : ∀ j, spec_WorstStepToLose.f (K + j) l0 a1 = some (w0, w1, w2) := fun j => k0 (K + j) (by omega)
  have e1 : ∀ j, impl_WorstStepToLose.f (K + j) l0 a1 = some (w0, w1, w2) := fun j => k1 (K + j) (by omega)
  have e2 : ∀ j, laws_toIntS.f (K + j) l0 = some l0 := fun j => k2 (K + j) (by omega)
  have e3 : ∀ j, laws_eqIntS.f (K + j) l0 l0 = some true := fun j => k3 (K + j) (by omega)
  clear k0 k1 k2 k3 hK
  refine ⟨K + 16, ?_⟩
  simp [laws_FnExactWorstStepToLose.f, laws_FnExactWorstStepToLose.j0, e0, e1, e2, e3, hB0]

end Go.Proofs.Ytfmjkephbibddaa.Pure
