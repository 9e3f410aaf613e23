/- The pure statement of FnStepsWornOfAll: the printed function returns true for all arguments within their kinds; no other condition. -/
import Derived.Test.YtmonnbbihmpedaaGreatDoorPFnStepsWornOfAllx
namespace Go.Proofs.YtmonnbbihmpedaaGreatDoor.Pure
open Go.RowKit Go.Proofs.YtmonnbbihmpedaaGreatDoor.PFnStepsWornOfAll Go.Proofs.YtmonnbbihmpedaaGreatDoorW.PrintWords Go.Proofs.YtmonnbbihmpedaaGreatDoorW.PrintLast Go.Proofs.YtmonnbbihmpedaaGreatDoorW.PrintMore
set_option linter.unusedVariables false
set_option linter.unusedSimpArgs false
theorem in_val (a b c : Int) : spec_l1In.f a b c = some (decide (b ≤ a ∧ a ≤ c)) := by
 unfold spec_l1In.f
 by_cases h : b ≤ a <;> simp [h]
theorem within_val (a b c : Int) : impl_within.f a b c = some (decide (b ≤ a ∧ a ≤ c)) := by
 unfold impl_within.f
 by_cases h : b ≤ a <;> simp [h]

theorem wsucc (i : Nat) (h : i < 4611686018427387904) : wrap64 ((i : Int) + 1) = ((i + 1 : Nat) : Int) := by
 unfold wrap64
 omega
theorem kpred {d k : Nat} (h : d < k) : ∃ m, k = m + 1 := ⟨k - 1, by omega⟩
theorem rd_nat (l : List Int) (i : Nat) : rd l (i : Int) = l.getD i 0 := by simp [rd]
theorem take_get_succ (x : List Int) (i : Nat) (h : i < x.length) : x.take (i + 1) = x.take i ++ [x.getD i 0] := by
 rw [List.take_add_one, List.getElem?_eq_getElem h, List.getD_eq_getElem?_getD, List.getElem?_eq_getElem h]
 rfl
theorem w_id {x : Int} (h0 : -4611686018427387904 ≤ x) (h1 : x ≤ 4611686018427387904) : wrap64 x = x := by
 unfold wrap64
 omega
theorem w_add (a b : Nat) (h : a ≤ 1000000000) (hb : b ≤ 1000000000) : wrap64 ((a : Int) + (b : Int)) = ((a + b : Nat) : Int) := by
 rw [w_id (by omega) (by omega)]
 omega
theorem w_pred (k : Nat) (h : 1 ≤ k) (hk : k ≤ 1000000000) : wrap64 ((k : Int) - 1) = ((k - 1 : Nat) : Int) := by
 rw [w_id (by omega) (by omega)]
 omega

def okB (n : Int) : Bool := decide (0 ≤ n ∧ n ≤ 100)
/-- The numbers are bears. -/
def goodB (l : List Int) : Bool := decide (1 ≤ l.length ∧ l.length ≤ 20) && l.all okB
theorem drop_cons (l : List Int) (i : Nat) (h : i < l.length) : l.drop i = l.getD i 0 :: l.drop (i + 1) := by
 rw [List.drop_eq_getElem_cons h, List.getD_eq_getElem?_getD, List.getElem?_eq_getElem h]
 rfl
theorem l1All_l (l : List Int) (hB : l.length ≤ 1048576) : ∀ (d k i : Nat), l.length - i = d → d < k → i ≤ l.length →
  spec_l1All.l0 k 0 100 l (l.length : Int) (i : Int) = some ((l.drop i).all okB) := by
 intro d
 induction d with
 | zero =>
  intro k i hd hk hi
  obtain ⟨k, rfl⟩ := kpred hk
  simp only [spec_l1All.l0]
  rw [if_neg (by omega), List.drop_eq_nil_of_le (by omega)]
  rfl
 | succ d ih =>
  intro k i hd hk hi
  obtain ⟨k, rfl⟩ := kpred hk
  simp only [spec_l1All.l0]
  rw [if_pos (by omega), if_pos (by omega), if_pos (by omega), rd_nat, in_val, drop_cons l i (by omega)]
  simp only [Option.bind_some, List.all_cons, wsucc i (by omega)]
  rw [ih k (i + 1) (by omega) (by omega) (by omega)]
  by_cases h : 0 ≤ l.getD i 0 ∧ l.getD i 0 ≤ 100
  ·rw [if_pos (decide_eq_true h)]
   simp only [okB, decide_eq_true h, Bool.true_and]
  ·rw [if_neg (by simpa using h)]
   simp only [okB, decide_eq_false h, Bool.false_and]
theorem weGood_val (l : List Int) (hB : l.length ≤ 1048576) (k : Nat) (hk : l.length < k) : spec_weGood.f k l = some (goodB l) := by
 unfold spec_weGood.f spec_l1All.f goodB
 have h := l1All_l l hB l.length k 0 (by omega) hk (by omega)
 rw [List.drop_zero] at h
 rw [in_val]
 simp only [Option.bind_some]
 by_cases h1 : 1 ≤ l.length ∧ l.length ≤ 20
 ·rw [if_pos (decide_eq_true (by omega)), decide_eq_true h1, Bool.true_and]
  have h' : spec_l1All.l0 k 0 100 l (l.length : Int) 0 = some (l.all okB) := h
  rw [h']
  rfl
 ·rw [if_neg (by simp; omega), decide_eq_false h1, Bool.false_and]
theorem areBears1_val (n : Int) : impl_AreBears_1.f n = some (!okB n) := by
 unfold impl_AreBears_1.f
 simp only [within_val, Option.bind_some]
 rfl
theorem indexFunc_l (l : List Int) (hB : l.length ≤ 1048576) : ∀ (d k i : Nat), l.length - i = d → d < k → i ≤ l.length →
  ∃ r, slices_IndexFunc_int_int.l0 k l (l.length : Int) (i : Int) = some r ∧ decide (r ≥ 0) = !(l.drop i).all okB := by
 intro d
 induction d with
 | zero =>
  intro k i hd hk hi
  obtain ⟨k, rfl⟩ := kpred hk
  refine ⟨-1, ?_, ?_⟩
  ·simp only [slices_IndexFunc_int_int.l0]
   rw [if_neg (by omega)]
  ·rw [List.drop_eq_nil_of_le (by omega)]
   rfl
 | succ d ih =>
  intro k i hd hk hi
  obtain ⟨k, rfl⟩ := kpred hk
  rw [drop_cons l i (by omega)]
  by_cases h : okB (l.getD i 0) = true
  ·obtain ⟨r, hr, hp⟩ := ih k (i + 1) (by omega) (by omega) (by omega)
   refine ⟨r, ?_, by rw [List.all_cons, h, Bool.true_and]; exact hp⟩
   simp only [slices_IndexFunc_int_int.l0]
   rw [if_pos (by omega), if_pos (by omega), if_pos (by omega), rd_nat, areBears1_val, h]
   simp only [Option.bind_some, Bool.not_true, wsucc i (by omega)]
   exact hr
  ·have h' : okB (l.getD i 0) = false := Bool.eq_false_iff.mpr h
   refine ⟨i, ?_, by rw [List.all_cons, h', Bool.false_and]; simp⟩
   simp only [slices_IndexFunc_int_int.l0]
   rw [if_pos (by omega), if_pos (by omega), if_pos (by omega), rd_nat, areBears1_val, h']
   rfl
theorem areBears_val (l : List Int) (hB : l.length ≤ 1048576) (k : Nat) (hk : l.length < k) : impl_AreBears.f k l = some (goodB l) := by
 obtain ⟨r, hr, hp⟩ := indexFunc_l l hB l.length k 0 (by omega) hk (by omega)
 have hr' : slices_IndexFunc_int_int.l0 k l (l.length : Int) 0 = some r := hr
 rw [List.drop_zero] at hp
 unfold impl_AreBears.f slices_ContainsFunc_int_int.f slices_IndexFunc_int_int.f goodB
 rw [within_val, hr']
 simp only [Option.bind_some, hp, Bool.not_not]
 by_cases h1 : 1 ≤ l.length ∧ l.length ≤ 20
 ·rw [if_pos (decide_eq_true (by omega)), decide_eq_true h1, Bool.true_and]
 ·rw [if_neg (by simp; omega), decide_eq_false h1, Bool.false_and]

theorem Ev.ite_true {α : Type} {g f : Nat → Option α} {r : α} {b : Bool} (h : b = true) (k : Ev g r) : Ev (fun n => if b = true then g n else f n) r := by
 subst h
 simpa using k
theorem Ev.ite_false {α : Type} {g f : Nat → Option α} {r : α} {b : Bool} (h : b = false) (k : Ev f r) : Ev (fun n => if b = true then g n else f n) r := by
 subst h
 simpa using k

theorem weGood_ev (l : List Int) (hB : l.length ≤ 1048576) : Ev (fun k => spec_weGood.f k l) (goodB l) := ⟨l.length + 1, fun k hk => weGood_val l hB k (by omega)⟩
theorem areBears_ev (l : List Int) (hB : l.length ≤ 1048576) : Ev (fun k => impl_AreBears.f k l) (goodB l) := ⟨l.length + 1, fun k hk => areBears_val l hB k (by omega)⟩
theorem okB_bd {x : Int} (h : okB x = true) : 0 ≤ x ∧ x ≤ 100 := by simpa [okB] using h
/-- What bears are. -/
theorem goodB_bd {l : List Int} (h : goodB l = true) : 1 ≤ l.length ∧ l.length ≤ 20 ∧ ∀ x ∈ l, 0 ≤ x ∧ x ≤ 100 := by
 simp only [goodB, Bool.and_eq_true, decide_eq_true_eq, List.all_eq_true] at h
 exact ⟨h.1.1, h.1.2, fun x hx => okB_bd (h.2 x hx)⟩
theorem getD_bd {l : List Int} {a b : Int} (h : ∀ x ∈ l, a ≤ x ∧ x ≤ b) {i : Nat} (hi : i < l.length) : a ≤ l.getD i 0 ∧ l.getD i 0 ≤ b := by
 rw [List.getD_eq_getElem?_getD, List.getElem?_eq_getElem hi]
 exact h _ (List.getElem_mem hi)

/-- Bears and a reach. -/
def canW (l : List Int) (r : Int) : Bool := goodB l && decide (1 ≤ r ∧ r ≤ 20)
theorem weReach_ev (l : List Int) (hB : l.length ≤ 1048576) (r : Int) : Ev (fun k => spec_weReach.f k l r) (canW l r) := by
 unfold spec_weReach.f canW
 refine Ev.bind (weGood_ev l hB) ?_
 simp only [in_val, Option.bind_some]
 cases goodB l <;> simp <;> exact Ev.now _
theorem canWear_ev (l : List Int) (hB : l.length ≤ 1048576) (r : Int) : Ev (fun k => impl_canWear.f k l r) (canW l r) := by
 unfold impl_canWear.f canW
 refine Ev.bind (areBears_ev l hB) ?_
 simp only [within_val, Option.bind_some]
 cases goodB l <;> simp <;> exact Ev.now _
theorem canW_bd {l : List Int} {r : Int} (h : canW l r = true) : goodB l = true ∧ 1 ≤ r ∧ r ≤ 20 := by
 simp only [canW, Bool.and_eq_true, decide_eq_true_eq] at h
 exact ⟨h.1, h.2.1, h.2.2⟩

def hasP (l : List Int) (r : Int) : Bool := canW l r && decide (r ≤ (l.length : Int))
theorem weEnds_ev (l : List Int) (hB : l.length ≤ 1048576) (r : Int) : Ev (fun k => spec_weEnds.f k l r) (hasP l r) := by
 unfold spec_weEnds.f hasP
 refine Ev.bind (weReach_ev l hB r) ?_
 cases canW l r <;> simp <;> exact Ev.now _
theorem hasParts_ev (l : List Int) (hB : l.length ≤ 1048576) (r : Int) : Ev (fun k => impl_hasParts.f k l r) (hasP l r) := by
 unfold impl_hasParts.f hasP
 refine Ev.bind (canWear_ev l hB r) ?_
 cases canW l r <;> simp <;> exact Ev.now _
theorem hasP_bd {l : List Int} {r : Int} (h : hasP l r = true) : goodB l = true ∧ 1 ≤ r ∧ r ≤ 20 ∧ r ≤ (l.length : Int) := by
 simp only [hasP, Bool.and_eq_true, decide_eq_true_eq] at h
 obtain ⟨h1, h2⟩ := h
 have := canW_bd h1
 exact ⟨this.1, this.2.1, this.2.2, h2⟩

theorem hasP_facts {l : List Int} {r : Int} (h : hasP l r = true) : ∃ n : Nat, r = (n : Int) ∧ 1 ≤ n ∧ n ≤ 20 ∧ n ≤ l.length ∧ l.length ≤ 20 ∧ (∀ x ∈ l, 0 ≤ x ∧ x ≤ 100) ∧ ∀ x ∈ l, 0 ≤ x ∧ x ≤ 2000 := by
 obtain ⟨hg, h1, h2, h3⟩ := hasP_bd h
 obtain ⟨g1, g2, g3⟩ := goodB_bd hg
 obtain ⟨n, rfl⟩ := Int.eq_ofNat_of_zero_le (show 0 ≤ r by omega)
 exact ⟨n, rfl, by omega, by omega, by omega, by omega, g3, fun x hx => ⟨(g3 x hx).1, Int.le_trans (g3 x hx).2 (by omega)⟩⟩

/-- What the part at i bears. -/
def partAt (l : List Int) (r i : Nat) : Int := ((l.take (i + r)).drop i).sum
def partsV (l : List Int) (r : Nat) : List Int := (List.range' 0 (l.length + 1 - r)).map (partAt l r)
theorem partsV_length (l : List Int) (r : Nat) : (partsV l r).length = l.length + 1 - r := by simp [partsV]
theorem cut_mem {l : List Int} {a b : Nat} {x : Int} (h : x ∈ (l.take a).drop b) : x ∈ l := List.mem_of_mem_take (List.mem_of_mem_drop h)
theorem sum_bd {l : List Int} {M : Int} (h : ∀ x ∈ l, 0 ≤ x ∧ x ≤ M) : 0 ≤ l.sum ∧ l.sum ≤ M * l.length := by
 induction l with
 | nil => simp
 | cons x l ih =>
  have h1 := h x List.mem_cons_self
  have h2 := ih (fun y hy => h y (List.mem_cons_of_mem _ hy))
  rw [List.sum_cons, List.length_cons, Int.natCast_add, Int.mul_add]
  constructor <;> omega
theorem partAt_bd {l : List Int} {M : Int} (h : ∀ x ∈ l, 0 ≤ x ∧ x ≤ M) (hM : 0 ≤ M) (r i : Nat) (hr : r ≤ 20) : 0 ≤ partAt l r i ∧ partAt l r i ≤ M * 20 := by
 have h1 := sum_bd (l := (l.take (i + r)).drop i) (fun x hx => h x (cut_mem hx))
 have h2 : ((l.take (i + r)).drop i).length ≤ 20 := by
  rw [List.length_drop, List.length_take]
  omega
 refine ⟨h1.1, Int.le_trans h1.2 (Int.mul_le_mul_of_nonneg_left (by omega) hM)⟩

def minV : List Int → Int
 | [] => 0
 | x :: xs => xs.foldl mn x
theorem mn_self (x : Int) : mn x x = x := by simp [mn]
theorem minV_fold {l : List Int} (h : 0 < l.length) : l.foldl mn (l.getD 0 0) = minV l := by
 cases l with
 | nil => simp at h
 | cons x xs => simp [minV, mn_self]
theorem minV_fold1 {l : List Int} (h : 0 < l.length) : (l.drop 1).foldl mn (l.getD 0 0) = minV l := by
 cases l with
 | nil => simp at h
 | cons x xs => simp [minV]
theorem foldl_mn_le (l : List Int) : ∀ m : Int, l.foldl mn m ≤ m ∧ (∀ x ∈ l, l.foldl mn m ≤ x) ∧ (l.foldl mn m = m ∨ l.foldl mn m ∈ l) := by
 induction l with
 | nil => intro m; simp
 | cons x xs ih =>
  intro m
  obtain ⟨h1, h2, h3⟩ := ih (mn m x)
  have h4 : mn m x ≤ m ∧ mn m x ≤ x ∧ (mn m x = m ∨ mn m x = x) := by unfold mn; split <;> omega
  rw [List.foldl_cons]
  refine ⟨by omega, fun y hy => ?_, ?_⟩
  ·rcases List.mem_cons.1 hy with rfl | hy
   ·omega
   ·exact h2 y hy
  ·rcases h3 with h3 | h3
   ·rcases h4.2.2 with h5 | h5
    ·left; omega
    ·right; rw [h3, h5]; exact List.mem_cons_self
   ·right; exact List.mem_cons_of_mem _ h3
theorem minV_le {l : List Int} {x : Int} (h : x ∈ l) : minV l ≤ x := by
 cases l with
 | nil => cases h
 | cons y ys =>
  have := foldl_mn_le ys y
  rcases List.mem_cons.1 h with rfl | h
  ·exact this.1
  ·exact this.2.1 x h
theorem minV_mem {l : List Int} (h : 0 < l.length) : minV l ∈ l := by
 cases l with
 | nil => simp at h
 | cons y ys =>
  have := foldl_mn_le ys y
  rcases this.2.2 with h | h
  ·show ys.foldl mn y ∈ y :: ys
   rw [h]; exact List.mem_cons_self
  ·exact List.mem_cons_of_mem _ h

theorem wp_l1 (x0 : List Int) (x1 : Int) (x5 : List Int) (x6 : Int) (s : List Int) (hs : s.length ≤ 1000) (hb : ∀ x ∈ s, 0 ≤ x ∧ x ≤ 2000) (hx : x5.length < 17592186044416) (r : List Int) :
  ∀ (d i : Nat) (acc : Int), s.length - i = d → i ≤ s.length → 0 ≤ acc → acc ≤ 2000 * (i : Int) →
   Ev (fun k => spec_weParts.l0 k x0 x1 (x5 ++ [acc + (s.drop i).sum]) (wrap64 (x6 + 1))) r → Ev (fun k => spec_weParts.l1 k x0 x1 x5 x6 acc s (s.length : Int) (i : Int)) r := by
 intro d
 induction d with
 | zero =>
  intro i acc hd hi h0 h1 ht
  rw [List.drop_eq_nil_of_le (by omega), List.sum_nil, Int.add_zero] at ht
  refine Ev.step (fun k => ?_) ht
  simp only [spec_weParts.l1]
  rw [if_neg (by omega), if_pos hx]
 | succ d ih =>
  intro i acc hd hi h0 h1 ht
  have hg := getD_bd hb (i := i) (by omega)
  have hw : wrap64 (acc + s.getD i 0) = acc + s.getD i 0 := by
   unfold wrap64
   omega
  refine Ev.step (f := fun k => spec_weParts.l1 k x0 x1 x5 x6 (acc + s.getD i 0) s (s.length : Int) ((i + 1 : Nat) : Int)) (fun k => ?_) (ih (i + 1) _ (by omega) (by omega) (by omega) (by omega) ?_)
  ·simp only [spec_weParts.l1]
   rw [if_pos (by omega), if_pos (by omega), if_pos (by omega), rd_nat, hw, wsucc i (by omega)]
  ·rw [drop_cons s i (by omega), List.sum_cons, ← Int.add_assoc] at ht
   exact ht
theorem wp_l0 (l : List Int) (hl : l.length ≤ 1000) (hb : ∀ x ∈ l, 0 ≤ x ∧ x ≤ 2000) (r : Nat) (hr : r ≤ 20) : ∀ (d i : Nat) (out : List Int), l.length + 1 - r - i = d → i ≤ l.length + 1 → out.length ≤ i →
   Ev (fun k => spec_weParts.l0 k l (r : Int) out (i : Int)) (out ++ (List.range' i d).map (partAt l r)) := by
 intro d
 induction d with
 | zero =>
  intro i out hd hi ho
  have hw : wrap64 ((i : Int) + (r : Int)) = ((i + r : Nat) : Int) := by
   unfold wrap64
   omega
  rw [List.range'_zero, List.map_nil, List.append_nil]
  refine Ev.step (fun k => ?_) (Ev.now out)
  simp only [spec_weParts.l0]
  rw [hw, if_neg (by omega)]
 | succ d ih =>
  intro i out hd hi ho
  have hw : wrap64 ((i : Int) + (r : Int)) = ((i + r : Nat) : Int) := by
   unfold wrap64
   omega
  refine Ev.step (f := fun k => spec_weParts.l1 k l (r : Int) out (i : Int) 0 ((l.take (i + r)).drop i) (((l.take (i + r)).drop i).length : Int) ((0 : Nat) : Int)) (fun k => ?_) ?_
  ·simp only [spec_weParts.l0]
   rw [hw, if_pos (by omega), if_pos (by omega), if_pos (by omega), Int.toNat_natCast, Int.toNat_natCast]
   rfl
  ·refine wp_l1 l (r : Int) out (i : Int) _ (by rw [List.length_drop, List.length_take]; omega) (fun x hx => hb x (cut_mem hx)) (by omega) _ _ 0 0 rfl (by omega) (by omega) (by omega) ?_
   rw [wsucc i (by omega), List.drop_zero, Int.zero_add, List.range'_succ, List.map_cons]
   have h := ih (i + 1) (out ++ [partAt l r i]) (by omega) (by omega) (by rw [List.length_append, List.length_singleton]; omega)
   rw [List.append_assoc] at h
   exact h
theorem wp_ev (l : List Int) (hl : l.length ≤ 1000) (hb : ∀ x ∈ l, 0 ≤ x ∧ x ≤ 2000) (r : Nat) (hr : r ≤ 20) : Ev (fun k => spec_weParts.f k l (r : Int)) (partsV l r) := by
 unfold spec_weParts.f
 exact wp_l0 l hl hb r hr _ 0 [] rfl (by omega) (by simp)

theorem ip_l1 (x0 : List Int) (x1 : Int) (x5 : List Int) (x6 : Int) (s : List Int) (hs : s.length ≤ 1000) (hb : ∀ x ∈ s, 0 ≤ x ∧ x ≤ 2000) (hx : x5.length < 17592186044416) (r : List Int) :
  ∀ (d i : Nat) (acc : Int), s.length - i = d → i ≤ s.length → 0 ≤ acc → acc ≤ 2000 * (i : Int) →
   Ev (fun k => impl_partSums.l0 k x0 x1 (x5 ++ [acc + (s.drop i).sum]) (wrap64 (x6 + 1))) r → Ev (fun k => impl_partSums.l1 k x0 x1 x5 x6 acc s (s.length : Int) (i : Int)) r := by
 intro d
 induction d with
 | zero =>
  intro i acc hd hi h0 h1 ht
  rw [List.drop_eq_nil_of_le (by omega), List.sum_nil, Int.add_zero] at ht
  refine Ev.step (fun k => ?_) ht
  simp only [impl_partSums.l1]
  rw [if_neg (by omega), if_pos hx]
 | succ d ih =>
  intro i acc hd hi h0 h1 ht
  have hg := getD_bd hb (i := i) (by omega)
  have hw : wrap64 (acc + s.getD i 0) = acc + s.getD i 0 := by
   unfold wrap64
   omega
  refine Ev.step (f := fun k => impl_partSums.l1 k x0 x1 x5 x6 (acc + s.getD i 0) s (s.length : Int) ((i + 1 : Nat) : Int)) (fun k => ?_) (ih (i + 1) _ (by omega) (by omega) (by omega) (by omega) ?_)
  ·simp only [impl_partSums.l1]
   rw [if_pos (by omega), if_pos (by omega), if_pos (by omega), rd_nat, hw, wsucc i (by omega)]
  ·rw [drop_cons s i (by omega), List.sum_cons, ← Int.add_assoc] at ht
   exact ht
theorem ip_l0 (l : List Int) (hl : l.length ≤ 1000) (hb : ∀ x ∈ l, 0 ≤ x ∧ x ≤ 2000) (r : Nat) (hr : r ≤ 20) : ∀ (d i : Nat) (out : List Int), l.length + 1 - r - i = d → i ≤ l.length + 1 → out.length ≤ i →
   Ev (fun k => impl_partSums.l0 k l (r : Int) out (i : Int)) (out ++ (List.range' i d).map (partAt l r)) := by
 intro d
 induction d with
 | zero =>
  intro i out hd hi ho
  have hw : wrap64 ((i : Int) + (r : Int)) = ((i + r : Nat) : Int) := by
   unfold wrap64
   omega
  rw [List.range'_zero, List.map_nil, List.append_nil]
  refine Ev.step (fun k => ?_) (Ev.now out)
  simp only [impl_partSums.l0]
  rw [hw, if_neg (by omega)]
 | succ d ih =>
  intro i out hd hi ho
  have hw : wrap64 ((i : Int) + (r : Int)) = ((i + r : Nat) : Int) := by
   unfold wrap64
   omega
  refine Ev.step (f := fun k => impl_partSums.l1 k l (r : Int) out (i : Int) 0 ((l.take (i + r)).drop i) (((l.take (i + r)).drop i).length : Int) ((0 : Nat) : Int)) (fun k => ?_) ?_
  ·simp only [impl_partSums.l0]
   rw [hw, if_pos (by omega), if_pos (by omega), if_pos (by omega), Int.toNat_natCast, Int.toNat_natCast]
   rfl
  ·refine ip_l1 l (r : Int) out (i : Int) _ (by rw [List.length_drop, List.length_take]; omega) (fun x hx => hb x (cut_mem hx)) (by omega) _ _ 0 0 rfl (by omega) (by omega) (by omega) ?_
   rw [wsucc i (by omega), List.drop_zero, Int.zero_add, List.range'_succ, List.map_cons]
   have h := ih (i + 1) (out ++ [partAt l r i]) (by omega) (by omega) (by rw [List.length_append, List.length_singleton]; omega)
   rw [List.append_assoc] at h
   exact h
theorem ip_ev (l : List Int) (hl : l.length ≤ 1000) (hb : ∀ x ∈ l, 0 ≤ x ∧ x ≤ 2000) (r : Nat) (hr : r ≤ 20) : Ev (fun k => impl_partSums.f k l (r : Int)) (partsV l r) := by
 unfold impl_partSums.f
 exact ip_l0 l hl hb r hr _ 0 [] rfl (by omega) (by simp)

def mostV (l : List Int) (r : Nat) : Int := minV (partsV l r)
theorem least_val (a b : Int) : spec_l1Least.f a b = some (mn a b) := by
 unfold spec_l1Least.f mn
 by_cases h : a < b
 ·rw [if_pos h, if_neg (by omega)]
 ·by_cases h2 : b < a
  ·rw [if_neg h, if_pos h2]
  ·rw [if_neg h, if_neg h2]
   congr 1
   omega
theorem weMost_l (s : List Int) (hs : s.length ≤ 2000) : ∀ (d i : Nat) (m : Int), s.length - i = d → i ≤ s.length → Ev (fun k => spec_weMost.l0 k m s (s.length : Int) (i : Int)) ((s.drop i).foldl mn m) := by
 intro d
 induction d with
 | zero =>
  intro i m hd hi
  rw [List.drop_eq_nil_of_le (by omega)]
  refine Ev.step (fun k => ?_) (Ev.now m)
  simp only [spec_weMost.l0]
  rw [if_neg (by omega)]
 | succ d ih =>
  intro i m hd hi
  rw [drop_cons s i (by omega), List.foldl_cons]
  refine Ev.step (f := fun k => spec_weMost.l0 k (mn m (s.getD i 0)) s (s.length : Int) ((i + 1 : Nat) : Int)) (fun k => ?_) (ih (i + 1) _ (by omega) (by omega))
  simp only [spec_weMost.l0]
  rw [if_pos (by omega), if_pos (by omega), if_pos (by omega), rd_nat, least_val, wsucc i (by omega)]
  rfl
theorem min_l (s : List Int) (hs : s.length ≤ 2000) : ∀ (d i : Nat) (m : Int), s.length - i = d → i ≤ s.length → Ev (fun k => slices_Min_int_int.l0 k s m (i : Int)) ((s.drop i).foldl mn m) := by
 intro d
 induction d with
 | zero =>
  intro i m hd hi
  rw [List.drop_eq_nil_of_le (by omega)]
  refine Ev.step (fun k => ?_) (Ev.now m)
  simp only [slices_Min_int_int.l0]
  rw [if_neg (by omega)]
 | succ d ih =>
  intro i m hd hi
  rw [drop_cons s i (by omega), List.foldl_cons]
  refine Ev.step (f := fun k => slices_Min_int_int.l0 k s (mn m (s.getD i 0)) ((i + 1 : Nat) : Int)) (fun k => ?_) (ih (i + 1) _ (by omega) (by omega))
  simp only [slices_Min_int_int.l0]
  rw [if_pos (by omega), if_pos (by omega), rd_nat, wsucc i (by omega)]
theorem weMost_ev (l : List Int) (hl : l.length ≤ 1000) (hb : ∀ x ∈ l, 0 ≤ x ∧ x ≤ 2000) (r : Nat) (hr : r ≤ 20) (hp : r ≤ l.length) : Ev (fun k => spec_weMost.f k l (r : Int)) (mostV l r) := by
 unfold spec_weMost.f
 refine Ev.bind (wp_ev l hl hb r hr) ?_
 have hlen : (partsV l r).length = l.length + 1 - r := partsV_length l r
 refine Ev.congr (f := fun k => spec_weMost.l0 k ((partsV l r).getD 0 0) (partsV l r) ((partsV l r).length : Int) ((0 : Nat) : Int)) (fun k => ?_) ?_
 ·rw [if_pos (by omega)]
  rfl
 ·have h := weMost_l (partsV l r) (by omega) _ 0 ((partsV l r).getD 0 0) rfl (by omega)
  rw [List.drop_zero, minV_fold (by omega)] at h
  exact h
theorem mostWears_ev (l : List Int) (hl : l.length ≤ 1000) (hb : ∀ x ∈ l, 0 ≤ x ∧ x ≤ 2000) (r : Nat) (hr : r ≤ 20) (hp : r ≤ l.length) : Ev (fun k => impl_mostWears.f k l (r : Int)) (mostV l r) := by
 unfold impl_mostWears.f
 refine Ev.bind (ip_ev l hl hb r hr) ?_
 have hlen : (partsV l r).length = l.length + 1 - r := partsV_length l r
 refine Ev.bind (a := mostV l r) ?_ (Ev.now _)
 unfold slices_Min_int_int.f
 refine Ev.congr (f := fun k => slices_Min_int_int.l0 k (partsV l r) ((partsV l r).getD 0 0) ((1 : Nat) : Int)) (fun k => ?_) ?_
 ·rw [if_neg (by omega), if_pos (by omega)]
  rfl
 ·have h := min_l (partsV l r) (by omega) _ 1 ((partsV l r).getD 0 0) rfl (by omega)
  rw [minV_fold1 (by omega)] at h
  exact h
theorem mostV_bd {l : List Int} (hb : ∀ x ∈ l, 0 ≤ x ∧ x ≤ 2000) {r : Nat} (hr : r ≤ 20) (hp : r ≤ l.length) : 0 ≤ mostV l r ∧ mostV l r ≤ 40000 := by
 have h : mostV l r ∈ partsV l r := minV_mem (by rw [partsV_length]; omega)
 obtain ⟨i, _, hi⟩ := List.mem_map.1 h
 have := partAt_bd hb (by omega) r i hr
 omega

/-- The sum of the first ones. -/
def pre (l : List Int) (j : Nat) : Int := (l.take j).sum
theorem pre_zero (l : List Int) : pre l 0 = 0 := by simp [pre]
theorem pre_all (l : List Int) : pre l l.length = l.sum := by simp [pre]
theorem pre_succ (l : List Int) (i : Nat) (h : i < l.length) : pre l (i + 1) = pre l i + l.getD i 0 := by
 unfold pre
 rw [take_get_succ l i h, List.sum_append]
 simp
theorem pre_part (l : List Int) (r i : Nat) : pre l (i + r) = pre l i + partAt l r i := by
 have h := congrArg List.sum (List.take_append_drop i (l.take (i + r)))
 rw [List.sum_append, List.take_take, Nat.min_eq_left (Nat.le_add_right i r)] at h
 exact h.symm
theorem getD_set' (x : List Int) (i : Nat) (v : Int) (j : Nat) (hi : i < x.length) : (x.set i v).getD j 0 = if i = j then v else x.getD j 0 := by
 rw [List.getD_eq_getElem?_getD, List.getD_eq_getElem?_getD, List.getElem?_set]
 by_cases h : i = j
 ·rw [if_pos h, if_pos h, if_pos hi]
  rfl
 ·rw [if_neg h, if_neg h]
/-- At no place greater. -/
def Lq (a b : List Int) : Prop := a.length = b.length ∧ ∀ i, i < a.length → a.getD i 0 ≤ b.getD i 0
theorem Lq.trans {a b c : List Int} (h : Lq a b) (k : Lq b c) : Lq a c := ⟨h.1.trans k.1, fun i hi => Int.le_trans (h.2 i hi) (k.2 i (by rw [← h.1]; exact hi))⟩
theorem pre_diff {a b : List Int} (h : Lq a b) : ∀ d i, i + d ≤ a.length → pre a (i + d) - pre a i ≤ pre b (i + d) - pre b i := by
 intro d
 induction d with
 | zero => intro i _; rw [Nat.add_zero]; omega
 | succ d ih =>
  intro i hi
  have h1 := ih i (by omega)
  have h2 := h.2 (i + d) (by omega)
  have h3 := h.1
  rw [show i + (d + 1) = i + d + 1 by omega, pre_succ _ _ (by omega), pre_succ _ _ (by omega)]
  omega
theorem mostV_le {l : List Int} {r i : Nat} (h : i + r ≤ l.length) : mostV l r ≤ partAt l r i :=
 minV_le (List.mem_map.2 ⟨i, List.mem_range'_1.2 (by omega), rfl⟩)
theorem mostV_at {l : List Int} {r : Nat} (h : r ≤ l.length) : ∃ i, i + r ≤ l.length ∧ mostV l r = partAt l r i := by
 have h1 : mostV l r ∈ partsV l r := minV_mem (by rw [partsV_length]; omega)
 obtain ⟨i, h2, h3⟩ := List.mem_map.1 h1
 have h4 := List.mem_range'_1.1 h2
 exact ⟨i, by omega, h3.symm⟩
/-- One step lost. -/
theorem Lq.set {l : List Int} (hb : ∀ x ∈ l, 0 ≤ x ∧ x ≤ 2000) (j : Nat) : Lq (l.set j 0) l := by
 refine ⟨List.length_set, fun i hi => ?_⟩
 rw [List.length_set] at hi
 have h := getD_bd hb hi
 by_cases hj : j < l.length
 ·rw [getD_set' _ _ _ _ hj]
  split <;> omega
 ·rw [List.set_eq_of_length_le (by omega)]
  exact Int.le_refl _

/-- A climb, from the step 'at' on. -/
def isV (b : List Int) (r : Int) : Int → List Int → Bool
 | at_, [] => decide ((b.length : Int) + 1 - at_ ≤ r)
 | at_, k :: ks => decide (at_ + 1 ≤ k ∧ k ≤ at_ + r ∧ k ≤ (b.length : Int)) && (decide (1 ≤ b.getD (k - 1).toNat 0) && isV b r k ks)
theorem least_val' (a b : Int) : spec_l1Least.f a b = some (if a < b then a else b) := by
 unfold spec_l1Least.f
 split <;> rfl
theorem weIs_l (b : List Int) (r : Int) (hb : b.length ≤ 20) (hv : ∀ x ∈ b, 0 ≤ x ∧ x ≤ 100) (r1 : 1 ≤ r) (r2 : r ≤ 20) (s : List Int) (hs : s.length ≤ 9223372036854775807) :
  ∀ (ks : List Int) (i : Nat) (at_ : Int), s.drop i = ks → i ≤ s.length → 0 ≤ at_ → at_ ≤ (b.length : Int) → (i : Int) ≤ at_ → Ev (fun k => spec_weIs.l0 k b r at_ s (s.length : Int) (i : Int)) (isV b r at_ ks) := by
 intro ks
 induction ks with
 | nil =>
  intro i at_ hd hi h0 h1 hia
  have hl : s.length - i = 0 := by
   have := congrArg List.length hd
   rwa [List.length_drop] at this
  refine Ev.step (fun k => ?_) (Ev.now _)
  have w1 : wrap64 ((b.length : Int) + 1) = (b.length : Int) + 1 := by
   unfold wrap64
   omega
  have w2 : wrap64 ((b.length : Int) + 1 - at_) = (b.length : Int) + 1 - at_ := by
   unfold wrap64
   omega
  simp only [spec_weIs.l0]
  rw [if_neg (by omega), w1, w2]
  rfl
 | cons x ks ih =>
  intro i at_ hd hi h0 h1 hia
  have hl : s.length - i = ks.length + 1 := by
   have := congrArg List.length hd
   rwa [List.length_drop, List.length_cons] at this
  have hx : s.getD i 0 = x := by
   rw [drop_cons s i (by omega)] at hd
   exact (List.cons.inj hd).1
  have hd' : s.drop (i + 1) = ks := by
   rw [drop_cons s i (by omega)] at hd
   exact (List.cons.inj hd).2
  have w1 : wrap64 (at_ + r) = at_ + r := by
   unfold wrap64
   omega
  have w2 : wrap64 (at_ + 1) = at_ + 1 := by
   unfold wrap64
   omega
  have hmin : (at_ + 1 ≤ x ∧ x ≤ (if at_ + r < (b.length : Int) then at_ + r else (b.length : Int))) ↔ (at_ + 1 ≤ x ∧ x ≤ at_ + r ∧ x ≤ (b.length : Int)) := by
   split <;> omega
  by_cases hc : at_ + 1 ≤ x ∧ x ≤ at_ + r ∧ x ≤ (b.length : Int)
  ·have w3 : wrap64 (x - 1) = (((x - 1).toNat : Nat) : Int) := by
    unfold wrap64
    omega
   have hg := getD_bd hv (i := (x - 1).toNat) (by omega)
   by_cases hz : 1 ≤ b.getD (x - 1).toNat 0
   ·have h := ih (i + 1) x hd' (by omega) (by omega) (by omega) (by omega)
    simp only [isV, decide_eq_true hc, decide_eq_true hz, Bool.true_and]
    refine Ev.step (fun k => ?_) h
    simp only [spec_weIs.l0]
    rw [if_pos (by omega), if_pos (by omega), if_pos (by omega), rd_nat, hx, w1, w2, least_val']
    simp only [Option.bind_some, in_val]
    rw [decide_eq_true (hmin.2 hc), if_pos rfl, w3, if_pos (by omega), if_pos (by omega), rd_nat, if_neg (by omega), wsucc i (by omega)]
   ·simp only [isV, decide_eq_true hc, decide_eq_false hz, Bool.true_and, Bool.false_and]
    refine Ev.step (fun k => ?_) (Ev.now _)
    simp only [spec_weIs.l0]
    rw [if_pos (by omega), if_pos (by omega), if_pos (by omega), rd_nat, hx, w1, w2, least_val']
    simp only [Option.bind_some, in_val]
    rw [decide_eq_true (hmin.2 hc), if_pos rfl, w3, if_pos (by omega), if_pos (by omega), rd_nat, if_pos (by omega)]
  ·simp only [isV, decide_eq_false hc, Bool.false_and]
   refine Ev.step (fun k => ?_) (Ev.now _)
   simp only [spec_weIs.l0]
   rw [if_pos (by omega), if_pos (by omega), if_pos (by omega), rd_nat, hx, w1, w2, least_val']
   simp only [Option.bind_some, in_val]
   rw [decide_eq_false (fun h => hc (hmin.1 h)), if_neg (by simp)]
theorem isWear_l (b : List Int) (r : Int) (hb : b.length ≤ 20) (hv : ∀ x ∈ b, 0 ≤ x ∧ x ≤ 100) (r1 : 1 ≤ r) (r2 : r ≤ 20) (s : List Int) (hs : s.length ≤ 9223372036854775807) :
  ∀ (ks : List Int) (i : Nat) (at_ : Int), s.drop i = ks → i ≤ s.length → 0 ≤ at_ → at_ ≤ (b.length : Int) → (i : Int) ≤ at_ → Ev (fun k => impl_isWearClimb.l0 k b r at_ ((b.length : Int) + 1) s (s.length : Int) (i : Int)) (isV b r at_ ks) := by
 intro ks
 induction ks with
 | nil =>
  intro i at_ hd hi h0 h1 hia
  have hl : s.length - i = 0 := by
   have := congrArg List.length hd
   rwa [List.length_drop] at this
  refine Ev.step (fun k => ?_) (Ev.now _)
  have w2 : wrap64 ((b.length : Int) + 1 - at_) = (b.length : Int) + 1 - at_ := by
   unfold wrap64
   omega
  simp only [impl_isWearClimb.l0]
  rw [if_neg (by omega), w2]
  rfl
 | cons x ks ih =>
  intro i at_ hd hi h0 h1 hia
  have hl : s.length - i = ks.length + 1 := by
   have := congrArg List.length hd
   rwa [List.length_drop, List.length_cons] at this
  have hx : s.getD i 0 = x := by
   rw [drop_cons s i (by omega)] at hd
   exact (List.cons.inj hd).1
  have hd' : s.drop (i + 1) = ks := by
   rw [drop_cons s i (by omega)] at hd
   exact (List.cons.inj hd).2
  have w1 : wrap64 ((b.length : Int) + 1 - 1) = (b.length : Int) := by
   unfold wrap64
   omega
  have w2 : wrap64 (at_ + 1) = at_ + 1 := by
   unfold wrap64
   omega
  by_cases hr : at_ + 1 ≤ x ∧ x ≤ (b.length : Int)
  ·have w4 : wrap64 (x - at_) = x - at_ := by
    unfold wrap64
    omega
   by_cases hf : x - at_ > r
   ·rw [show isV b r at_ (x :: ks) = false by simp only [isV]; rw [decide_eq_false (by omega)]; rfl]
    refine Ev.step (fun k => ?_) (Ev.now _)
    simp only [impl_isWearClimb.l0]
    rw [if_pos (by omega), if_pos (by omega), if_pos (by omega), rd_nat, hx, w1, w2]
    simp only [Option.bind_some, within_val]
    rw [decide_eq_true hr, if_pos rfl, w4, if_pos hf]
   ·have hc : at_ + 1 ≤ x ∧ x ≤ at_ + r ∧ x ≤ (b.length : Int) := by omega
    have w3 : wrap64 (x - 1) = (((x - 1).toNat : Nat) : Int) := by
     unfold wrap64
     omega
    have hg := getD_bd hv (i := (x - 1).toNat) (by omega)
    by_cases hz : 1 ≤ b.getD (x - 1).toNat 0
    ·have h := ih (i + 1) x hd' (by omega) (by omega) (by omega) (by omega)
     simp only [isV, decide_eq_true hc, decide_eq_true hz, Bool.true_and]
     refine Ev.step (fun k => ?_) h
     simp only [impl_isWearClimb.l0]
     rw [if_pos (by omega), if_pos (by omega), if_pos (by omega), rd_nat, hx, w1, w2]
     simp only [Option.bind_some, within_val]
     rw [decide_eq_true hr, if_pos rfl, w4, if_neg hf, w3, if_pos (by omega), if_pos (by omega), rd_nat, if_neg (by omega), wsucc i (by omega)]
    ·simp only [isV, decide_eq_true hc, decide_eq_false hz, Bool.true_and, Bool.false_and]
     refine Ev.step (fun k => ?_) (Ev.now _)
     simp only [impl_isWearClimb.l0]
     rw [if_pos (by omega), if_pos (by omega), if_pos (by omega), rd_nat, hx, w1, w2]
     simp only [Option.bind_some, within_val]
     rw [decide_eq_true hr, if_pos rfl, w4, if_neg hf, w3, if_pos (by omega), if_pos (by omega), rd_nat, if_pos (by omega)]
  ·rw [show isV b r at_ (x :: ks) = false by simp only [isV]; rw [decide_eq_false (by omega)]; rfl]
   refine Ev.step (fun k => ?_) (Ev.now _)
   simp only [impl_isWearClimb.l0]
   rw [if_pos (by omega), if_pos (by omega), if_pos (by omega), rd_nat, hx, w1, w2]
   simp only [Option.bind_some, within_val]
   rw [decide_eq_false hr, if_neg (by simp)]
theorem weIs_ev (b : List Int) (r : Int) (hb : b.length ≤ 20) (hv : ∀ x ∈ b, 0 ≤ x ∧ x ≤ 100) (r1 : 1 ≤ r) (r2 : r ≤ 20) (s : List Int) (hs : s.length ≤ 9223372036854775807) : Ev (fun k => spec_weIs.f k b r s) (isV b r 0 s) := by
 unfold spec_weIs.f
 exact weIs_l b r hb hv r1 r2 s hs s 0 0 rfl (by omega) (by omega) (by omega) (by omega)
theorem isWear_ev (b : List Int) (r : Int) (hb : b.length ≤ 20) (hv : ∀ x ∈ b, 0 ≤ x ∧ x ≤ 100) (r1 : 1 ≤ r) (r2 : r ≤ 20) (s : List Int) (hs : s.length ≤ 9223372036854775807) : Ev (fun k => impl_isWearClimb.f k b r s) (isV b r 0 s) := by
 unfold impl_isWearClimb.f
 have w1 : wrap64 ((b.length : Int) + 1) = (b.length : Int) + 1 := by
  unfold wrap64
  omega
 rw [w1]
 exact isWear_l b r hb hv r1 r2 s hs s 0 0 rfl (by omega) (by omega) (by omega) (by omega)

theorem own_val (l : List Int) (h : l.length ≤ 1048576) : spec_l1Own.f l = some l := by
 unfold spec_l1Own.f
 simp only [Option.bind_some]
 rw [if_pos (by simp; omega)]
 simp

/-- The bears behind a climb. -/
def wearV : List Int → List Int → List Int
 | b, [] => b
 | b, k :: ks => wearV (b.set (k - 1).toNat (b.getD (k - 1).toNat 0 - 1)) ks
theorem wearV_length (ks : List Int) : ∀ b : List Int, (wearV b ks).length = b.length := by
 induction ks with
 | nil => intro b; rfl
 | cons k ks ih => intro b; simp only [wearV]; rw [ih, List.length_set]
theorem set_get' (l : List Int) (i j : Nat) (v : Int) (hj : j < l.length) : (l.set i v).getD j 0 = if i = j then v else l.getD j 0 := by
 rw [List.getD_eq_getElem?_getD, List.getElem?_eq_getElem (by rw [List.length_set]; exact hj), List.getElem_set, List.getD_eq_getElem?_getD, List.getElem?_eq_getElem hj]
 split <;> rfl
/-- What a climb means for each of its steps, in the bears as they are when it is come to. -/
theorem isV_cons {b0 : List Int} {r at_ x : Int} {ks : List Int} (h : isV b0 r at_ (x :: ks) = true) : (at_ + 1 ≤ x ∧ x ≤ at_ + r ∧ x ≤ (b0.length : Int)) ∧ 1 ≤ b0.getD (x - 1).toNat 0 ∧ isV b0 r x ks = true := by
 simp only [isV, Bool.and_eq_true, decide_eq_true_eq] at h
 exact h
/-- The steps from 'at' on are as they were. -/
def Same (b0 b : List Int) (at_ : Int) : Prop := b.length = b0.length ∧ (∀ x ∈ b, 0 ≤ x ∧ x ≤ 100) ∧ ∀ j : Nat, at_ ≤ (j : Int) → b.getD j 0 = b0.getD j 0
theorem same_step {b0 b : List Int} {r at_ x : Int} {ks : List Int} (hs : Same b0 b at_) (h0 : 0 ≤ at_) (h : isV b0 r at_ (x :: ks) = true) : Same b0 (b.set (x - 1).toNat (b.getD (x - 1).toNat 0 - 1)) x ∧ 1 ≤ b.getD (x - 1).toNat 0 ∧ b.getD (x - 1).toNat 0 ≤ 100 ∧ (x - 1).toNat < b.length := by
 obtain ⟨s1, s2, s3⟩ := hs
 obtain ⟨c1, c2, _⟩ := isV_cons h
 have hi : (x - 1).toNat < b.length := by omega
 have hv := getD_bd s2 hi
 have he := s3 (x - 1).toNat (by omega)
 refine ⟨⟨by rw [List.length_set]; exact s1, fun y hy => ?_, fun j hj => ?_⟩, by omega, hv.2, hi⟩
 ·rcases List.mem_or_eq_of_mem_set hy with hy | rfl
  ·exact s2 y hy
  ·omega
 ·rcases Nat.lt_or_ge j b.length with hjl | hjl
  ·rw [set_get' _ _ _ _ hjl, if_neg (by omega)]
   exact s3 j (by omega)
  ·have := s3 j (by omega)
   rw [List.getD_eq_getElem?_getD, List.getElem?_eq_none (by rw [List.length_set]; exact hjl)]
   rw [List.getD_eq_getElem?_getD, List.getElem?_eq_none hjl] at this
   exact this
theorem wearV_good (r : Int) (b0 : List Int) (ks : List Int) : ∀ (b : List Int) (at_ : Int), Same b0 b at_ → 0 ≤ at_ → isV b0 r at_ ks = true → ∀ x ∈ wearV b ks, 0 ≤ x ∧ x ≤ 100 := by
 induction ks with
 | nil => intro b at_ hs h0 h; exact hs.2.1
 | cons x ks ih =>
  intro b at_ hs h0 h
  have h1 := same_step hs h0 h
  obtain ⟨c1, c2, c3⟩ := isV_cons h
  exact ih _ x h1.1 (by omega) c3
theorem weBy_l (r : Int) (b0 : List Int) (hb : b0.length ≤ 20) (s : List Int) (hs : s.length ≤ 9223372036854775807) : ∀ (ks : List Int) (i : Nat) (at_ : Int) (b : List Int), s.drop i = ks → i ≤ s.length → 0 ≤ at_ → (i : Int) ≤ at_ → at_ ≤ (b0.length : Int) → Same b0 b at_ → isV b0 r at_ ks = true →
  Ev (fun k => spec_weBy.l0 k b s (s.length : Int) (i : Int)) (wearV b ks) := by
 intro ks
 induction ks with
 | nil =>
  intro i at_ b hd hi h0 hia h1 hsm h
  have hl : s.length - i = 0 := by
   have := congrArg List.length hd
   rwa [List.length_drop] at this
  refine Ev.step (fun k => ?_) (Ev.now _)
  simp only [spec_weBy.l0]
  rw [if_neg (by omega)]
  rfl
 | cons x ks ih =>
  intro i at_ b hd hi h0 hia h1 hsm h
  have hl : s.length - i = ks.length + 1 := by
   have := congrArg List.length hd
   rwa [List.length_drop, List.length_cons] at this
  have hx : s.getD i 0 = x := by
   rw [drop_cons s i (by omega)] at hd
   exact (List.cons.inj hd).1
  have hd' : s.drop (i + 1) = ks := by
   rw [drop_cons s i (by omega)] at hd
   exact (List.cons.inj hd).2
  obtain ⟨q1, q2, q3, q4⟩ := same_step hsm h0 h
  obtain ⟨c1, c2, c3⟩ := isV_cons h
  have hrec := ih (i + 1) x _ hd' (by omega) (by omega) (by omega) (by omega) q1 c3
  have e1 : x - 1 = (((x - 1).toNat : Nat) : Int) := by omega
  have i1 : (i : Int) < (s.length : Int) := by omega
  have i2 : (0 : Int) ≤ (i : Int) := by omega
  have i3 : (0 : Int) ≤ (((x - 1).toNat : Nat) : Int) := by omega
  have i4 : (((x - 1).toNat : Nat) : Int) < (b.length : Int) := by omega
  have i5 : i < 4611686018427387904 := by omega
  have w1 : wrap64 (x - 1) = (((x - 1).toNat : Nat) : Int) := by rw [w_id (by omega) (by omega)]; exact e1
  have w2 : wrap64 (b.getD (x - 1).toNat 0 - 1) = b.getD (x - 1).toNat 0 - 1 := w_id (by omega) (by omega)
  refine Ev.step (fun k => ?_) hrec
  simp only [spec_weBy.l0]
  rw [if_pos i1, if_pos i2, if_pos i1, rd_nat, hx, w1, if_pos i3, if_pos i4, Int.toNat_natCast, rd_nat, w2, wsucc i i5]
theorem weBy_ev (r : Int) (b s : List Int) (hb : b.length ≤ 20) (hv : ∀ x ∈ b, 0 ≤ x ∧ x ≤ 100) (hs : s.length ≤ 9223372036854775807) (h : isV b r 0 s = true) : Ev (fun k => spec_weBy.f k b s) (wearV b s) := by
 unfold spec_weBy.f
 rw [own_val b (by omega)]
 exact weBy_l r b hb s hs s 0 0 b rfl (by omega) (by omega) (by omega) (by omega) ⟨rfl, hv, fun _ _ => rfl⟩ h
/-- The inner loop of the program's WearAll, over one climb. -/
theorem wearAll_l1 (r : Int) (b0 : List Int) (hb : b0.length ≤ 20) (x1 : Int) (cs : List (List Int)) (n : Int) (ci : Int) (s : List Int) (hs : s.length ≤ 9223372036854775807) (R : List Int × Bool) : ∀ (ks : List Int) (i : Nat) (at_ : Int) (b : List Int), s.drop i = ks → i ≤ s.length → 0 ≤ at_ → (i : Int) ≤ at_ → at_ ≤ (b0.length : Int) → Same b0 b at_ → isV b0 r at_ ks = true →
  Ev (fun k => impl_WearAll.l0 k x1 (wearV b ks) cs n (wrap64 (ci + 1))) R → Ev (fun k => impl_WearAll.l1 k x1 b cs n ci s (s.length : Int) (i : Int)) R := by
 intro ks
 induction ks with
 | nil =>
  intro i at_ b hd hi h0 hia h1 hsm h ht
  have hl : s.length - i = 0 := by
   have := congrArg List.length hd
   rwa [List.length_drop] at this
  refine Ev.step (fun k => ?_) ht
  simp only [impl_WearAll.l1]
  rw [if_neg (by omega)]
  rfl
 | cons x ks ih =>
  intro i at_ b hd hi h0 hia h1 hsm h ht
  have hl : s.length - i = ks.length + 1 := by
   have := congrArg List.length hd
   rwa [List.length_drop, List.length_cons] at this
  have hx : s.getD i 0 = x := by
   rw [drop_cons s i (by omega)] at hd
   exact (List.cons.inj hd).1
  have hd' : s.drop (i + 1) = ks := by
   rw [drop_cons s i (by omega)] at hd
   exact (List.cons.inj hd).2
  obtain ⟨q1, q2, q3, q4⟩ := same_step hsm h0 h
  obtain ⟨c1, c2, c3⟩ := isV_cons h
  have hrec := ih (i + 1) x _ hd' (by omega) (by omega) (by omega) (by omega) q1 c3 ht
  have e1 : x - 1 = (((x - 1).toNat : Nat) : Int) := by omega
  have i1 : (i : Int) < (s.length : Int) := by omega
  have i2 : (0 : Int) ≤ (i : Int) := by omega
  have i3 : (0 : Int) ≤ (((x - 1).toNat : Nat) : Int) := by omega
  have i4 : (((x - 1).toNat : Nat) : Int) < (b.length : Int) := by omega
  have i5 : i < 4611686018427387904 := by omega
  have w1 : wrap64 (x - 1) = (((x - 1).toNat : Nat) : Int) := by rw [w_id (by omega) (by omega)]; exact e1
  have w2 : wrap64 (b.getD (x - 1).toNat 0 - 1) = b.getD (x - 1).toNat 0 - 1 := w_id (by omega) (by omega)
  refine Ev.step (fun k => ?_) hrec
  simp only [impl_WearAll.l1]
  rw [if_pos i1, if_pos i2, if_pos i1, rd_nat, hx, w1, if_pos i3, if_pos i4, Int.toNat_natCast, rd_nat, w2, wsucc i i5]

theorem clone_val (l : List Int) (h : l.length ≤ 1048576) : slices_Clone_int_int.f l = some l := by
 unfold slices_Clone_int_int.f
 simp only [Option.bind_some]
 rw [if_pos (by simp; omega)]
 simp

/-- The bears behind climbs, one after the other; none if one of them is no climb. -/
def wearAllV (r : Int) : List Int → List (List Int) → Option (List Int)
 | b, [] => some b
 | b, c :: cs => if isV b r 0 c = true then wearAllV r (wearV b c) cs else none
def outV : Option (List Int) → List Int × Bool
 | none => ([], false)
 | some b => (b, true)
theorem rdL_nat (l : List (List Int)) (i : Nat) : rd_L1 l (i : Int) = l.getD i [] := by simp [rd_L1]
theorem dropL_cons (l : List (List Int)) (i : Nat) (h : i < l.length) : l.drop i = l.getD i [] :: l.drop (i + 1) := by
 rw [List.drop_eq_getElem_cons h, List.getD_eq_getElem?_getD, List.getElem?_eq_getElem h]
 rfl
theorem wearAll_l0 (r : Int) (r1 : 1 ≤ r) (r2 : r ≤ 20) (l : List (List Int)) (hl : l.length ≤ 1048576) (hc : ∀ c ∈ l, c.length ≤ 9223372036854775807) : ∀ (cs : List (List Int)) (i : Nat) (b : List Int), l.drop i = cs → i ≤ l.length → b.length ≤ 20 → (∀ x ∈ b, 0 ≤ x ∧ x ≤ 100) →
  Ev (fun k => impl_WearAll.l0 k r b l (l.length : Int) (i : Int)) (outV (wearAllV r b cs)) := by
 intro cs
 induction cs with
 | nil =>
  intro i b hd hi hb hv
  have hl0 : l.length - i = 0 := by
   have := congrArg List.length hd
   rwa [List.length_drop] at this
  refine Ev.step (fun k => ?_) (Ev.now _)
  simp only [impl_WearAll.l0]
  rw [if_neg (by omega)]
  rfl
 | cons c cs ih =>
  intro i b hd hi hb hv
  have hl0 : l.length - i = cs.length + 1 := by
   have := congrArg List.length hd
   rwa [List.length_drop, List.length_cons] at this
  have hx : l.getD i [] = c := by
   rw [dropL_cons l i (by omega)] at hd
   exact (List.cons.inj hd).1
  have hd' : l.drop (i + 1) = cs := by
   rw [dropL_cons l i (by omega)] at hd
   exact (List.cons.inj hd).2
  have hcm : c ∈ l := List.mem_of_mem_drop (i := i) (by rw [hd]; exact List.mem_cons_self)
  have i1 : (i : Int) < (l.length : Int) := by omega
  have i2 : (0 : Int) ≤ (i : Int) := by omega
  have i5 : i < 4611686018427387904 := by omega
  have hisw := isWear_ev b r hb hv r1 r2 c (hc c hcm)
  by_cases hz : isV b r 0 c = true
  ·have hs0 : Same b b 0 := ⟨rfl, hv, fun _ _ => rfl⟩
   have hrec := ih (i + 1) (wearV b c) hd' (by omega) (by rw [wearV_length]; exact hb) (wearV_good r b c b 0 hs0 (by omega) hz)
   rw [← wsucc i i5] at hrec
   have hin := wearAll_l1 r b hb r l (l.length : Int) (i : Int) c (hc c hcm) _ c 0 0 b rfl (by omega) (by omega) (by omega) (by omega) hs0 hz hrec
   have hin2 := Ev.bind (f := fun k t => if t = true then impl_WearAll.l1 k r b l (l.length : Int) (i : Int) c (c.length : Int) 0 else some (([] : List Int), false)) hisw (Ev.ite_true hz hin)
   simp only [wearAllV]
   rw [if_pos hz]
   refine Ev.step (fun k => ?_) hin2
   simp only [impl_WearAll.l0]
   rw [if_pos i1, if_pos i2, if_pos i1, rdL_nat, hx]
  ·have hz' : isV b r 0 c = false := Bool.eq_false_iff.mpr hz
   have hin2 := Ev.bind (f := fun k t => if t = true then impl_WearAll.l1 k r b l (l.length : Int) (i : Int) c (c.length : Int) 0 else some (([] : List Int), false)) hisw (Ev.ite_false hz' (Ev.now _))
   simp only [wearAllV]
   rw [if_neg hz]
   refine Ev.step (fun k => ?_) hin2
   simp only [impl_WearAll.l0]
   rw [if_pos i1, if_pos i2, if_pos i1, rdL_nat, hx]
theorem wearAll_ev (l : List Int) (hl : l.length ≤ 1048576) (r : Int) (cs : List (List Int)) (hcl : cs.length ≤ 1048576) (hc : ∀ c ∈ cs, c.length ≤ 9223372036854775807) :
  Ev (fun k => impl_WearAll.f k l r cs) (if canW l r = true ∧ cs.length ≤ 100 then outV (wearAllV r l cs) else ([], false)) := by
 unfold impl_WearAll.f
 have no1 : Ev (fun k => impl_WearAll.j0 k l r cs true) ([], false) := Ev.step (fun k => by simp only [impl_WearAll.j0]; rw [if_pos trivial]) (Ev.now _)
 by_cases hW : canW l r = true
 ·obtain ⟨hg, r1, r2⟩ := canW_bd hW
  obtain ⟨g1, g2, g3⟩ := goodB_bd hg
  by_cases hn : cs.length ≤ 100
  ·rw [if_pos ⟨hW, hn⟩]
   refine Ev.bind (canWear_ev l hl r) (Ev.ite_true hW ?_)
   rw [decide_eq_false (by omega)]
   have h := wearAll_l0 r r1 r2 cs hcl hc cs 0 l rfl (by omega) g2 g3
   refine Ev.step (fun k => ?_) h
   simp only [impl_WearAll.j0]
   rw [if_neg (by simp), clone_val l hl]
   rfl
  ·rw [if_neg (fun h => hn h.2)]
   refine Ev.bind (canWear_ev l hl r) (Ev.ite_true hW ?_)
   rw [decide_eq_true (by omega)]
   exact no1
 ·rw [if_neg (fun h => hW h.1)]
  exact Ev.bind (canWear_ev l hl r) (Ev.ite_false (Bool.eq_false_iff.mpr hW) no1)

/-- A text, out of its bytes. -/
def mkb (l : List UInt8) : ByteArray := ⟨l.toArray⟩
theorem mkb_app (a b : List UInt8) : mkb a ++ mkb b = mkb (a ++ b) := by
 apply ByteArray.ext
 rw [ByteArray.data_append]
 simp [mkb]
theorem mkb_size (a : List UInt8) : (mkb a).size = a.length := by simp [mkb, ByteArray.size]
theorem mkb_list (a : List UInt8) : (mkb a).data.toList = a := by simp [mkb]
/-- The decimal numeral. -/
def dd (u : Nat) : List UInt8 := Lib.decDigits u
theorem dd_small {u : Nat} (h : u < 10) : dd u = [UInt8.ofNat (48 + u)] := by
 unfold dd
 rw [Lib.decDigits, dif_pos h]
theorem dd_big {u : Nat} (h : ¬ u < 10) : dd u = dd (u / 10) ++ [UInt8.ofNat (48 + u % 10)] := by
 unfold dd
 rw [Lib.decDigits, dif_neg h]
theorem dd_len : ∀ (e u : Nat), u < 10 ^ e → 1 ≤ e → (dd u).length ≤ e := by
 intro e
 induction e with
 | zero => intro u _ h; omega
 | succ e ih =>
  intro u hu _
  by_cases h : u < 10
  ·rw [dd_small h]
   simp
  ·rw [dd_big h, List.length_append]
   have h1 : u / 10 < 10 ^ e := by rw [Nat.pow_succ] at hu; omega
   have h2 : 1 ≤ e := by
    by_cases h0 : e = 0
    ·subst h0
     simp at hu
     omega
    ·omega
   have := ih (u / 10) h1 h2
   simp only [List.length_cons, List.length_nil]
   omega
theorem dd_len6 {u : Nat} (h : u ≤ 999999) : (dd u).length ≤ 6 := dd_len 6 u (by omega) (by omega)
theorem one_byte (u : Nat) (h : u < 10) : strOfNums [(wrap64 (48 + (u : Int))) % 256] = mkb [UInt8.ofNat (48 + u)] := by
 have e : (wrap64 (48 + (u : Int))) % 256 = ((48 + u : Nat) : Int) := by
  rw [w_id (by omega) (by omega)]
  omega
 rw [e]
 unfold strOfNums
 rw [List.map_cons, List.map_nil, Int.toNat_natCast]
 rfl
/-- Numerals, each behind a mark. -/
def tl (s : UInt8) (l : List Int) : List UInt8 := (l.map (fun x => s :: dd x.toNat)).flatten
def jn (s : UInt8) (l : List Int) : List UInt8 :=
 match l with
 | [] => []
 | x :: xs => dd x.toNat ++ tl s xs
theorem tl_len (s : UInt8) : ∀ (l : List Int), (∀ x ∈ l, 0 ≤ x ∧ x ≤ 999999) → (tl s l).length ≤ 7 * l.length := by
 intro l
 induction l with
 | nil => intro _; simp [tl]
 | cons x l ih =>
  intro h
  have h1 := ih (fun y hy => h y (List.mem_cons_of_mem _ hy))
  have h2 := dd_len6 (u := x.toNat) (by have := h x (List.mem_cons_self ..); omega)
  have e : tl s (x :: l) = (s :: dd x.toNat) ++ tl s l := by simp [tl]
  rw [e, List.length_append, List.length_cons, List.length_cons]
  omega
theorem jn_len (s : UInt8) (l : List Int) (h : ∀ x ∈ l, 0 ≤ x ∧ x ≤ 999999) : (jn s l).length ≤ 7 * l.length := by
 cases l with
 | nil => simp [jn]
 | cons x l =>
  have h1 := tl_len s l (fun y hy => h y (List.mem_cons_of_mem _ hy))
  have h2 := dd_len6 (u := x.toNat) (by have := h x (List.mem_cons_self ..); omega)
  simp only [jn, List.length_append, List.length_cons]
  omega

theorem num_ev : ∀ (b u : Nat), u ≤ b → u ≤ 999999 → Ev (fun k => spec_l1Num.f k (u : Int)) (mkb (dd u)) := by
 intro b
 induction b with
 | zero =>
  intro u h _
  obtain rfl : u = 0 := by omega
  refine Ev.step (fun k => ?_) (Ev.now _)
  simp only [spec_l1Num.f]
  rw [if_pos (by omega), dd_small (by omega)]
  exact congrArg some (one_byte 0 (by omega))
 | succ b ih =>
  intro u h hu
  by_cases h10 : u < 10
  ·refine Ev.step (fun k => ?_) (Ev.now _)
   simp only [spec_l1Num.f]
   rw [if_pos (by omega), dd_small h10]
   exact congrArg some (one_byte u h10)
  ·have e1 : wrap64 (Int.tdiv (u : Int) 10) = ((u / 10 : Nat) : Int) := by
    have : Int.tdiv (u : Int) 10 = ((u / 10 : Nat) : Int) := rfl
    rw [this, w_id (by omega) (by omega)]
   have e2 : Int.tmod (u : Int) 10 = ((u % 10 : Nat) : Int) := rfl
   have h1 := ih (u / 10) (by omega) (by omega)
   have hl := dd_len6 (u := u / 10) (by omega)
   refine Ev.step (f := fun k => (spec_l1Num.f k ((u / 10 : Nat) : Int)).bind fun t => if t.size + (mkb [UInt8.ofNat (48 + u % 10)]).size ≤ 9223372036854775807 then some (t ++ mkb [UInt8.ofNat (48 + u % 10)]) else none) (fun k => ?_) (Ev.bind h1 (Ev.congr (fun k => ?_) (Ev.now _)))
   ·simp only [spec_l1Num.f]
    rw [if_neg (by omega), e1, e2]
    simp only [Option.bind_some]
    rw [one_byte (u % 10) (by omega)]
   ·rw [if_pos (by rw [mkb_size, mkb_size]; simp only [List.length_cons, List.length_nil]; omega), mkb_app, dd_big h10]

theorem itoa_val (u : Nat) (h : u ≤ 999999) : strconv_Itoa_62.f (u : Int) = some (mkb (dd u)) := by
 unfold strconv_Itoa_62.f
 rw [if_pos (by omega)]
 unfold Lib.itoa
 rw [if_neg (by omega)]
 rfl
theorem tl_join (s : UInt8) (l : List Int) : Lib.joinTail [s] ((l.map (fun x => mkb (dd x.toNat))).map (·.data.toList)) = tl s l := by
 unfold Lib.joinTail tl
 rw [List.map_map, List.map_map]
 congr 1
theorem jn_join (s : UInt8) (l : List Int) : Lib.join ((l.map (fun x => mkb (dd x.toNat))).map (·.data.toList)) [s] = jn s l := by
 cases l with
 | nil => rfl
 | cons x l =>
  have := tl_join s l
  simp only [List.map_cons] at this ⊢
  rw [Lib.join_cons, this, mkb_list, jn]
theorem joined_l (s : UInt8) (l : List Int) (hl : l.length ≤ 1000) (hb : ∀ x ∈ l, 0 ≤ x ∧ x ≤ 999999) : ∀ (d i : Nat), l.length - i = d → i ≤ l.length →
  Ev (fun k => impl_joined.l0 k (mkb [s]) ((l.take i).map (fun x => mkb (dd x.toNat))) l (l.length : Int) (i : Int)) (mkb (jn s l)) := by
 intro d
 induction d with
 | zero =>
  intro i h1 h2
  have e : l.take i = l := List.take_of_length_le (by omega)
  rw [e]
  have hj := jn_len s l hb
  refine Ev.step (fun k => ?_) (Ev.now _)
  simp only [impl_joined.l0]
  rw [if_neg (by omega)]
  unfold strings_Join.f
  rw [mkb_list, jn_join, if_pos (by rw [List.length_map]; omega)]
  rfl
 | succ d ih =>
  intro i h1 h2
  have hi : i < l.length := by omega
  have hx := hb (l.getD i 0) (by rw [List.getD_eq_getElem?_getD, List.getElem?_eq_getElem hi]; exact List.getElem_mem hi)
  obtain ⟨u, hu⟩ : ∃ u : Nat, l.getD i 0 = (u : Int) := ⟨(l.getD i 0).toNat, by omega⟩
  have hu2 : u ≤ 999999 := by omega
  have h3 := ih (i + 1) (by omega) (by omega)
  rw [take_get_succ l i hi, List.map_append, List.map_cons, List.map_nil, hu, Int.toNat_natCast] at h3
  refine Ev.step (fun k => ?_) h3
  simp only [impl_joined.l0]
  rw [if_pos (by omega), if_pos (by omega), if_pos (by omega), rd_nat, hu, itoa_val u hu2]
  simp only [Option.bind_some]
  rw [if_pos (by rw [List.length_map, List.length_take]; omega), wsucc i (by omega)]
theorem joined_ev (s : UInt8) (l : List Int) (hl : l.length ≤ 1000) (hb : ∀ x ∈ l, 0 ≤ x ∧ x ≤ 999999) : Ev (fun k => impl_joined.f k l (mkb [s])) (mkb (jn s l)) :=
 joined_l s l hl hb _ 0 rfl (Nat.zero_le _)

theorem wt_l (l : List Int) (hl : l.length ≤ 1000) (hb : ∀ x ∈ l, 0 ≤ x ∧ x ≤ 999999) : ∀ (d i : Nat) (acc : List UInt8), l.length - i = d → i ≤ l.length → 1 ≤ i → acc.length ≤ 7 * i →
  Ev (fun k => spec_weText.l0 k (mkb acc) l (l.length : Int) (i : Int)) (mkb (acc ++ tl 45 (l.drop i))) := by
 intro d
 induction d with
 | zero =>
  intro i acc h1 h2 h3 h4
  rw [List.drop_eq_nil_of_le (by omega)]
  refine Ev.step (fun k => ?_) (Ev.now _)
  simp only [spec_weText.l0]
  rw [if_neg (by omega)]
  simp [tl]
 | succ d ih =>
  intro i acc h1 h2 h3 h4
  have hi : i < l.length := by omega
  have hx := hb (l.getD i 0) (by rw [List.getD_eq_getElem?_getD, List.getElem?_eq_getElem hi]; exact List.getElem_mem hi)
  obtain ⟨u, hu⟩ : ∃ u : Nat, l.getD i 0 = (u : Int) := ⟨(l.getD i 0).toNat, by omega⟩
  have hu2 : u ≤ 999999 := by omega
  have hn := num_ev u u (Nat.le_refl _) hu2
  have hl6 := dd_len6 hu2
  have hd : l.drop i = (u : Int) :: l.drop (i + 1) := by
   rw [← hu, List.drop_eq_getElem_cons hi, List.getD_eq_getElem?_getD, List.getElem?_eq_getElem hi]
   rfl
  have h5 := ih (i + 1) ((acc ++ [45]) ++ dd u) (by omega) (by omega) (by omega) (by simp only [List.length_append, List.length_cons, List.length_nil]; omega)
  have e : (acc ++ [45]) ++ dd u ++ tl 45 (l.drop (i + 1)) = acc ++ tl 45 (l.drop i) := by
   rw [hd]
   simp [tl]
  rw [e] at h5
  refine Ev.step (f := fun k => if (mkb acc).size + 1 ≤ 9223372036854775807 then ((spec_l1Num.f k (u : Int)).bind fun t => if (mkb acc ++ mkb [45]).size + t.size ≤ 9223372036854775807 then spec_weText.l0 k ((mkb acc ++ mkb [45]) ++ t) l (l.length : Int) ((i + 1 : Nat) : Int) else none) else none) (fun k => ?_) (Ev.congr (fun k => if_pos (by rw [mkb_size]; omega)) (Ev.bind hn (Ev.congr (fun k => ?_) h5)))
  ·simp only [spec_weText.l0]
   rw [if_pos (by omega), if_pos (by omega), if_pos (by omega), if_pos (by omega), rd_nat, hu, wsucc i (by omega)]
   rfl
  ·rw [mkb_app, mkb_app, mkb_size, mkb_size, if_pos (by simp only [List.length_append, List.length_cons, List.length_nil]; omega)]
theorem wt_ev (l : List Int) (hl : l.length ≤ 1000) (hb : ∀ x ∈ l, 0 ≤ x ∧ x ≤ 999999) : Ev (fun k => spec_weText.f k l) (mkb (jn 45 l)) := by
 unfold spec_weText.f
 cases l with
 | nil =>
  refine Ev.step (fun k => ?_) (Ev.now _)
  simp only [spec_weText.l0]
  rw [if_neg (by simp)]
  rfl
 | cons x l =>
  have hx := hb x (List.mem_cons_self ..)
  obtain ⟨u, rfl⟩ : ∃ u : Nat, x = (u : Int) := ⟨x.toNat, by omega⟩
  have hu2 : u ≤ 999999 := by omega
  have hn := num_ev u u (Nat.le_refl _) hu2
  have hl6 := dd_len6 hu2
  have h5 := wt_l ((u : Int) :: l) hl hb _ 1 (dd u) rfl (by simp) (Nat.le_refl _) (by omega)
  have e : dd u ++ tl 45 (((u : Int) :: l).drop 1) = jn 45 ((u : Int) :: l) := rfl
  rw [e] at h5
  refine Ev.step (f := fun k => (spec_l1Num.f k (u : Int)).bind fun t => if (mkb []).size + t.size ≤ 9223372036854775807 then spec_weText.l0 k (mkb [] ++ t) ((u : Int) :: l) ((((u : Int) :: l).length : Nat) : Int) ((1 : Nat) : Int) else none) (fun k => ?_) (Ev.bind hn (Ev.congr (fun k => ?_) h5))
  ·simp only [spec_weText.l0]
   rw [if_pos (by simp only [List.length_cons]; omega), if_pos (by omega), if_pos (by simp only [List.length_cons]; omega), if_neg (by omega), show wrap64 (0 + 1) = ((1 : Nat) : Int) from (by unfold wrap64; omega)]
   rfl
  ·rw [mkb_app, mkb_size, mkb_size, if_pos (by simp only [List.length_nil]; omega), List.nil_append]

/-- The pieces between marks. -/
def sp (b : UInt8) : List UInt8 → List (List UInt8)
 | [] => [[]]
 | c :: cs => if c = b then [] :: sp b cs else match sp b cs with | [] => [[c]] | w :: ws => (c :: w) :: ws
theorem sp_ne (b : UInt8) : ∀ l, ∃ w ws, sp b l = w :: ws := by
 intro l
 induction l with
 | nil => exact ⟨[], [], rfl⟩
 | cons c l ih =>
  obtain ⟨w, ws, e⟩ := ih
  simp only [sp]
  by_cases h : c = b
  ·rw [if_pos h]
   exact ⟨_, _, rfl⟩
  ·rw [if_neg h, e]
   exact ⟨_, _, rfl⟩
theorem sp_miss (b : UInt8) : ∀ u : List UInt8, b ∉ u → sp b u = [u] := by
 intro u
 induction u with
 | nil => intro _; rfl
 | cons c u ih =>
  intro h
  simp only [sp]
  rw [if_neg (fun e : c = b => h (by rw [e]; exact List.mem_cons_self ..)), ih (fun hm => h (List.mem_cons_of_mem _ hm))]
theorem sp_hit (b : UInt8) (v : List UInt8) : ∀ u : List UInt8, b ∉ u → sp b (u ++ b :: v) = u :: sp b v := by
 intro u
 induction u with
 | nil => intro _; simp [sp]
 | cons c u ih =>
  intro h
  rw [List.cons_append]
  simp only [sp]
  rw [if_neg (fun e : c = b => h (by rw [e]; exact List.mem_cons_self ..)), ih (fun hm => h (List.mem_cons_of_mem _ hm))]
/-- The pieces put together again. -/
def jb (b : UInt8) : List (List UInt8) → List UInt8
 | [] => []
 | w :: ws => w ++ (ws.map (b :: ·)).flatten
theorem jb_sp (b : UInt8) : ∀ l, jb b (sp b l) = l := by
 intro l
 induction l with
 | nil => rfl
 | cons c l ih =>
  obtain ⟨w, ws, e⟩ := sp_ne b l
  rw [e] at ih
  simp only [sp]
  by_cases h : c = b
  ·rw [if_pos h, e]
   subst h
   simp only [jb, List.map_cons, List.flatten_cons, List.nil_append] at ih ⊢
   rw [List.cons_append, ih]
  ·rw [if_neg h, e]
   simp only [jb] at ih ⊢
   rw [List.cons_append, ih]
theorem sp_len (b : UInt8) : ∀ (l : List UInt8), (sp b l).length ≤ l.length + 1 := by
 intro l
 induction l with
 | nil => simp [sp]
 | cons c l ih =>
  obtain ⟨w0, ws, e⟩ := sp_ne b l
  simp only [sp]
  by_cases hc : c = b
  ·rw [if_pos hc]
   simp only [List.length_cons]
   omega
  ·rw [if_neg hc, e]
   rw [e] at ih
   simp only [List.length_cons] at ih ⊢
   omega
theorem sp_wlen (b : UInt8) : ∀ (l w : List UInt8), w ∈ sp b l → w.length ≤ l.length := by
 intro l
 induction l with
 | nil => intro w hw; simp only [sp, List.mem_singleton] at hw; subst hw; exact Nat.le_refl _
 | cons c l ih =>
  intro w hw
  obtain ⟨w0, ws, e⟩ := sp_ne b l
  simp only [sp] at hw
  by_cases h : c = b
  ·rw [if_pos h] at hw
   rcases List.mem_cons.mp hw with rfl | hw
   ·simp
   ·have := ih w hw
    simp only [List.length_cons]
    omega
  ·rw [if_neg h, e] at hw
   rcases List.mem_cons.mp hw with rfl | hw
   ·have := ih w0 (e ▸ List.mem_cons_self ..)
    simp only [List.length_cons]
    omega
   ·have := ih w (e ▸ List.mem_cons_of_mem _ hw)
    simp only [List.length_cons]
    omega
theorem ix (b : UInt8) : ∀ l : List UInt8, (Lib.index l [b] = -1 ∧ b ∉ l) ∨ ∃ u v, l = u ++ b :: v ∧ b ∉ u ∧ Lib.index l [b] = (u.length : Int) := by
 intro l
 induction l with
 | nil => exact .inl ⟨by simp [Lib.index], by simp⟩
 | cons c l ih =>
  by_cases h : b = c
  ·subst h
   exact .inr ⟨[], l, rfl, by simp, by simp [Lib.index, List.isPrefixOf]⟩
  ·have hp : ([b] : List UInt8).isPrefixOf (c :: l) = false := by
    simp [List.isPrefixOf, h]
   rcases ih with ⟨h1, h2⟩ | ⟨u, v, h1, h2, h3⟩
   ·refine .inl ⟨?_, by simp [h, h2]⟩
    simp only [Lib.index]
    rw [hp, h1]
    rfl
   ·refine .inr ⟨c :: u, v, by rw [h1]; rfl, by simp [h, h2], ?_⟩
    simp only [Lib.index]
    rw [hp, h3]
    have : ((u.length : Int) == -1) = false := by rw [beq_eq_false_iff_ne]; omega
    rw [this]
    simp
theorem split_sp (b : UInt8) : ∀ (m : Nat) (l : List UInt8), l.length ≤ m → Lib.splitK [b] 0 (Lib.count l [b]) l = sp b l := by
 intro m
 induction m with
 | zero =>
  intro l hl
  have : l = [] := List.length_eq_zero_iff.mp (by omega)
  subst this
  rcases ix b [] with ⟨h1, h2⟩ | ⟨u, v, h1, _, _⟩
  ·rw [Lib.count_miss h1]
   rfl
  ·simp at h1
 | succ m ih =>
  intro l hl
  rcases ix b l with ⟨h1, h2⟩ | ⟨u, v, h1, h2, h3⟩
  ·rw [Lib.count_miss h1, sp_miss b l h2]
   rfl
  ·have hv : v.length ≤ m := by
    rw [h1] at hl
    simp only [List.length_append, List.length_cons] at hl
    omega
   rw [Lib.count_hit (by simp) h3, Nat.add_comm]
   simp only [Lib.splitK]
   have hne : ((Lib.index l [b]) == -1) = false := by rw [h3, beq_eq_false_iff_ne]; omega
   rw [hne, h3]
   have e1 : l.drop (u.length + 1) = v := by
    rw [h1, List.drop_append]
    simp
   have e2 : l.take (u.length + 0) = u := by
    rw [h1]
    simp
   simp only [Bool.false_eq_true, if_false, Int.toNat_natCast, List.length_cons, List.length_nil, Nat.zero_add]
   rw [e1, e2, ih v hv, h1, sp_hit b v u h2]

theorem of48 (d : Nat) (h : d < 10) : (UInt8.ofNat (48 + d)).toNat = 48 + d := by
 rw [UInt8.toNat_ofNat']
 omega
theorem dd_dig : ∀ (b u : Nat), u ≤ b → ∀ c ∈ dd u, 48 ≤ c.toNat ∧ c.toNat ≤ 57 := by
 intro b
 induction b with
 | zero =>
  intro u hu c hc
  rw [dd_small (by omega), List.mem_singleton] at hc
  subst hc
  rw [of48 u (by omega)]
  omega
 | succ b ih =>
  intro u hu c hc
  by_cases h : u < 10
  ·rw [dd_small h, List.mem_singleton] at hc
   subst hc
   rw [of48 u h]
   omega
  ·rw [dd_big h, List.mem_append, List.mem_singleton] at hc
   rcases hc with hc | rfl
   ·exact ih (u / 10) (by omega) c hc
   ·rw [of48 _ (by omega)]
    omega
theorem dd_head : ∀ (b u : Nat), u ≤ b → ∃ c r, dd u = c :: r ∧ (1 ≤ u → c.toNat ≠ 48) := by
 intro b
 induction b with
 | zero =>
  intro u hu
  exact ⟨_, [], dd_small (by omega), fun h => by omega⟩
 | succ b ih =>
  intro u hu
  by_cases h : u < 10
  ·exact ⟨_, [], dd_small h, fun h1 => by rw [of48 u h]; omega⟩
  ·obtain ⟨c, r, e, hc⟩ := ih (u / 10) (by omega)
   exact ⟨c, r ++ [UInt8.ofNat (48 + u % 10)], by rw [dd_big h, e]; rfl, fun _ => hc (by omega)⟩
theorem dd_pos (u : Nat) : 1 ≤ (dd u).length := by
 obtain ⟨c, r, e, _⟩ := dd_head u u (Nat.le_refl _)
 rw [e]
 simp
theorem pu_app (c : UInt8) (hc : 48 ≤ c.toNat ∧ c.toNat ≤ 57) : ∀ (xs : List UInt8) (acc u : Nat), Lib.parseUint10 acc xs = .ok u → u ≤ 999999 → Lib.parseUint10 acc (xs ++ [c]) = .ok (u * 10 + (c.toNat - 48)) := by
 intro xs
 induction xs with
 | nil =>
  intro acc u h hu
  simp only [Lib.parseUint10] at h
  injection h with h
  subst h
  rw [List.nil_append]
  simp only [Lib.parseUint10]
  rw [if_pos hc, if_neg (by omega), if_neg (by omega)]
 | cons x xs ih =>
  intro acc u h hu
  rw [List.cons_append]
  simp only [Lib.parseUint10] at h ⊢
  by_cases h1 : 48 ≤ x.toNat ∧ x.toNat ≤ 57
  ·rw [if_pos h1] at h ⊢
   by_cases h2 : 1844674407370955162 ≤ acc
   ·rw [if_pos h2] at h
    cases h
   ·rw [if_neg h2] at h ⊢
    by_cases h3 : 18446744073709551616 ≤ acc * 10 + (x.toNat - 48)
    ·rw [if_pos h3] at h
     cases h
    ·rw [if_neg h3] at h ⊢
     exact ih _ u h hu
  ·rw [if_neg h1] at h
   cases h
theorem pu_dd : ∀ (b u : Nat), u ≤ b → u ≤ 999999 → Lib.parseUint10 0 (dd u) = .ok u := by
 intro b
 induction b with
 | zero =>
  intro u hu _
  obtain rfl : u = 0 := by omega
  rw [dd_small (by omega)]
  rfl
 | succ b ih =>
  intro u hu hb
  by_cases h : u < 10
  ·rw [dd_small h]
   have := pu_app (UInt8.ofNat (48 + u)) (by rw [of48 u h]; omega) [] 0 0 rfl (by omega)
   rw [List.nil_append, of48 u h] at this
   rw [this]
   congr 1
   omega
  ·rw [dd_big h, pu_app _ (by rw [of48 _ (by omega)]; omega) (dd (u / 10)) 0 (u / 10) (ih _ (by omega) (by omega)) (by omega), of48 _ (by omega)]
   congr 1
   omega
theorem atoi_dd (u : Nat) (h : u ≤ 999999) : Lib.atoiAll (dd u) = .ok (u : Int) := by
 obtain ⟨c, r, e, _⟩ := dd_head u u (Nat.le_refl _)
 have hc := dd_dig u u (Nat.le_refl _) c (by rw [e]; exact List.mem_cons_self ..)
 have hp := pu_dd u u (Nat.le_refl _) h
 rw [e] at hp ⊢
 unfold Lib.atoiAll
 have h1 : ¬ (c.toNat = 43 ∨ c.toNat = 45) := by omega
 have h2 : ¬ c.toNat = 45 := by omega
 simp only [if_neg h1, Lib.parseMag, if_neg (List.cons_ne_nil c r), hp]
 rw [if_neg (by omega), if_neg (by omega), if_neg h2]
theorem mkb_toList (l : List UInt8) : (mkb l).toList = l := by
 rw [Lib.toList_data, mkb_list]
theorem mkb_self (s : ByteArray) : s = mkb s.data.toList := by
 apply ByteArray.ext
 simp [mkb]
theorem itoa_dd (u : Nat) : Lib.itoa (u : Int) = dd u := by
 unfold Lib.itoa
 rw [if_neg (by omega)]
 rfl
theorem numV_can (u : Nat) (h : u ≤ 999999) : numV (mkb (dd u)) = (u : Int) := by
 unfold numV
 rw [mkb_list, atoi_dd u h]
 simp only
 rw [if_neg (by omega), if_neg (by omega), if_pos (by rw [mkb_toList, itoa_dd])]
theorem numV_no (l : List UInt8) (h : ∀ u : Nat, u ≤ 999999 → l ≠ dd u) : numV (mkb l) = -1 := by
 unfold numV
 rw [mkb_list]
 cases hv : Lib.atoiAll l with
 | ok v =>
  simp only
  by_cases h1 : v < 0
  ·rw [if_pos h1]
  ·rw [if_neg h1]
   by_cases h2 : v > 999999
   ·rw [if_pos h2]
   ·rw [if_neg h2]
    by_cases h3 : Lib.itoa v = (mkb l).toList
    ·refine absurd ?_ (h v.toNat (by omega))
     rw [mkb_toList] at h3
     have e : v = ((v.toNat : Nat) : Int) := by omega
     rw [e, itoa_dd] at h3
     rw [← h3]
    ·rw [if_neg h3]
 | _ => rfl
theorem numV_or (l : List UInt8) : (numV (mkb l) = -1 ∧ ∀ u : Nat, u ≤ 999999 → l ≠ dd u) ∨ ∃ u : Nat, u ≤ 999999 ∧ l = dd u ∧ numV (mkb l) = (u : Int) := by
 by_cases h : ∃ u : Nat, u ≤ 999999 ∧ l = dd u
 ·obtain ⟨u, h1, h2⟩ := h
  exact .inr ⟨u, h1, h2, by rw [h2]; exact numV_can u h1⟩
 ·have h' : ∀ u : Nat, u ≤ 999999 → l ≠ dd u := fun u h1 h2 => h ⟨u, h1, h2⟩
  exact .inl ⟨numV_no l h', h'⟩
/-- What the reference makes of digits. -/
def rl : Int → List UInt8 → Int
 | acc, [] => acc
 | acc, c :: r => if (c.toNat : Int) < 48 then -1 else if (c.toNat : Int) > 57 then -1 else rl (10 * acc + ((c.toNat : Int) - 48)) r
theorem rl_app (c : UInt8) (hc : 48 ≤ c.toNat ∧ c.toNat ≤ 57) : ∀ (xs : List UInt8) (acc : Int), (∀ x ∈ xs, 48 ≤ x.toNat ∧ x.toNat ≤ 57) → rl acc (xs ++ [c]) = 10 * rl acc xs + ((c.toNat : Int) - 48) := by
 intro xs
 induction xs with
 | nil =>
  intro acc _
  rw [List.nil_append]
  simp only [rl]
  rw [if_neg (by omega), if_neg (by omega)]
 | cons x xs ih =>
  intro acc h
  have hx := h x (List.mem_cons_self ..)
  rw [List.cons_append]
  simp only [rl]
  rw [if_neg (by omega), if_neg (by omega), if_neg (by omega), if_neg (by omega)]
  exact ih _ (fun y hy => h y (List.mem_cons_of_mem _ hy))
theorem rl_dd : ∀ (b u : Nat), u ≤ b → rl 0 (dd u) = (u : Int) := by
 intro b
 induction b with
 | zero =>
  intro u hu
  obtain rfl : u = 0 := by omega
  rw [dd_small (by omega)]
  rfl
 | succ b ih =>
  intro u hu
  by_cases h : u < 10
  ·rw [dd_small h]
   have := rl_app (UInt8.ofNat (48 + u)) (by rw [of48 u h]; omega) [] 0 (by simp)
   rw [List.nil_append, of48 u h] at this
   rw [this]
   simp only [rl]
   omega
  ·rw [dd_big h, rl_app _ (by rw [of48 _ (by omega)]; omega) (dd (u / 10)) 0 (dd_dig _ _ (Nat.le_refl _)), of48 _ (by omega), ih (u / 10) (by omega)]
   omega
theorem rl_dig : ∀ (xs : List UInt8) (acc : Int), rl acc xs ≠ -1 → ∀ x ∈ xs, 48 ≤ x.toNat ∧ x.toNat ≤ 57 := by
 intro xs
 induction xs with
 | nil => intro _ _ x hx; simp at hx
 | cons y xs ih =>
  intro acc h x hx
  simp only [rl] at h
  by_cases h1 : (y.toNat : Int) < 48
  ·rw [if_pos h1] at h
   exact absurd rfl h
  ·rw [if_neg h1] at h
   by_cases h2 : (y.toNat : Int) > 57
   ·rw [if_pos h2] at h
    exact absurd rfl h
   ·rw [if_neg h2] at h
    rcases List.mem_cons.mp hx with rfl | hx
    ·omega
    ·exact ih _ h x hx
theorem can_dd : ∀ (n : Nat) (l : List UInt8), l.length = n + 1 → (∀ x ∈ l, 48 ≤ x.toNat ∧ x.toNat ≤ 57) → (∀ c r, l = c :: r → c.toNat = 48 → r = []) → ∃ u : Nat, l = dd u ∧ u < 10 ^ (n + 1) := by
 intro n
 induction n with
 | zero =>
  intro l hl hd _
  obtain ⟨c, rfl⟩ := List.length_eq_one_iff.mp hl
  have hc := hd c (List.mem_cons_self ..)
  refine ⟨c.toNat - 48, ?_, by omega⟩
  rw [dd_small (by omega)]
  have e : 48 + (c.toNat - 48) = c.toNat := by omega
  rw [e]
  simp
 | succ n ih =>
  intro l hl hd hh
  obtain ⟨xs, c, rfl⟩ : ∃ xs c, l = xs ++ [c] := ⟨l.dropLast, l.getLast (by intro h; simp [h] at hl), (List.dropLast_concat_getLast _).symm⟩
  have hxl : xs.length = n + 1 := by
   rw [List.length_append] at hl
   simp only [List.length_cons, List.length_nil] at hl
   omega
  have hc := hd c (List.mem_append_right _ (List.mem_cons_self ..))
  have hx0 : ∀ c0 r, xs = c0 :: r → c0.toNat ≠ 48 := by
   intro c0 r e h48
   have := hh c0 (r ++ [c]) (by rw [e]; rfl) h48
   simp at this
  obtain ⟨u, e, hu⟩ := ih xs hxl (fun x hx => hd x (List.mem_append_left _ hx)) (fun c0 r e h48 => absurd h48 (hx0 c0 r e))
  have hu1 : 1 ≤ u := by
   by_cases h0 : u = 0
   ·subst h0
    rw [dd_small (by omega)] at e
    exact absurd rfl (hx0 _ _ e)
   ·omega
  refine ⟨u * 10 + (c.toNat - 48), ?_, by rw [Nat.pow_succ]; omega⟩
  rw [dd_big (by omega), e]
  have e1 : (u * 10 + (c.toNat - 48)) / 10 = u := by omega
  have e2 : 48 + (u * 10 + (c.toNat - 48)) % 10 = c.toNat := by omega
  rw [e1, e2]
  simp
theorem bt_mkb (l : List UInt8) (i : Nat) (h : i < l.length) : bt (mkb l) (i : Int) = ((l.getD i 0).toNat : Int) := by
 unfold bt
 rw [dif_pos (by rw [Int.toNat_natCast, mkb_size]; exact h)]
 rw [ByteArray.getElem_eq_getElem_data]
 simp only [Int.toNat_natCast, mkb, List.getElem_toArray]
 rw [List.getD_eq_getElem?_getD, List.getElem?_eq_getElem h]
 rfl
theorem read_l (l : List UInt8) (hl : l.length ≤ 6) : ∀ (d i a : Nat), l.length - i = d → i ≤ l.length → a < 10 ^ i → Ev (fun k => spec_l1Read.l0 k (mkb l) (a : Int) (i : Int)) (rl (a : Int) (l.drop i)) := by
 intro d
 induction d with
 | zero =>
  intro i a h1 h2 h3
  rw [List.drop_eq_nil_of_le (by omega)]
  refine Ev.step (fun k => ?_) (Ev.now _)
  simp only [spec_l1Read.l0]
  rw [if_neg (by rw [mkb_size]; omega)]
  rfl
 | succ d ih =>
  intro i a h1 h2 h3
  have hi : i < l.length := by omega
  have ha : a < 10 ^ 6 := Nat.lt_of_lt_of_le h3 (Nat.pow_le_pow_right (by omega) (by omega))
  have hd : l.drop i = l.getD i 0 :: l.drop (i + 1) := by
   rw [List.drop_eq_getElem_cons hi, List.getD_eq_getElem?_getD, List.getElem?_eq_getElem hi]
   rfl
  rw [hd]
  simp only [rl]
  obtain ⟨c, hcd⟩ : ∃ c, c = l.getD i 0 := ⟨_, rfl⟩
  have hb := bt_mkb l i hi
  rw [← hcd] at hb ⊢
  by_cases q1 : (c.toNat : Int) < 48
  ·rw [if_pos q1]
   refine Ev.step (fun k => ?_) (Ev.now _)
   simp only [spec_l1Read.l0]
   rw [if_pos (by rw [mkb_size]; omega), if_pos (by omega), hb, if_pos q1]
  ·rw [if_neg q1]
   by_cases q2 : (c.toNat : Int) > 57
   ·rw [if_pos q2]
    refine Ev.step (fun k => ?_) (Ev.now _)
    simp only [spec_l1Read.l0]
    rw [if_pos (by rw [mkb_size]; omega), if_pos (by omega), hb, if_neg q1, if_pos q2]
   ·rw [if_neg q2]
    have e : 10 * (a : Int) + ((c.toNat : Int) - 48) = ((10 * a + (c.toNat - 48) : Nat) : Int) := by omega
    have h4 := ih (i + 1) (10 * a + (c.toNat - 48)) (by omega) (by omega) (by rw [Nat.pow_succ]; omega)
    rw [← e] at h4
    refine Ev.step (fun k => ?_) h4
    simp only [spec_l1Read.l0]
    have e2 : ((c.toNat : Int) - 48) % 256 = (c.toNat : Int) - 48 := by omega
    rw [if_pos (by rw [mkb_size]; omega), if_pos (by omega), hb, if_neg q1, if_neg q2, e2, w_id (x := 10 * (a : Int)) (by omega) (by omega), w_id (by omega) (by omega), wsucc i (by omega)]
def rv (l : List UInt8) : Int := if 1 ≤ l.length ∧ l.length ≤ 6 then (if ((l.getD 0 0).toNat : Int) = 48 ∧ l.length > 1 then -1 else rl 0 l) else -1
theorem rv_ev (l : List UInt8) : Ev (fun k => spec_l1Read.f k (mkb l)) (rv l) := by
 have no : Ev (fun k => spec_l1Read.j0 k (mkb l) true) (-1) := Ev.step (fun k => by simp only [spec_l1Read.j0]; rw [if_pos trivial]) (Ev.now _)
 have i1 : Ev (fun _ => spec_l1In.f ((mkb l).size : Int) 1 6) (decide (1 ≤ l.length ∧ l.length ≤ 6)) := Ev.congr (fun _ => by rw [in_val, mkb_size]; congr 2; exact propext ⟨fun h => by omega, fun h => by omega⟩) (Ev.now _)
 unfold spec_l1Read.f rv
 by_cases h : 1 ≤ l.length ∧ l.length ≤ 6
 ·rw [if_pos h]
  refine Ev.bind i1 (Ev.ite_true (decide_eq_true h) (Ev.congr (fun k => if_pos (by rw [mkb_size]; omega)) ?_))
  have hb := bt_mkb l 0 (by omega)
  have hb' : bt (mkb l) 0 = ((l.getD 0 0).toNat : Int) := hb
  have yes : Ev (fun k => spec_l1Read.j0 k (mkb l) false) (rl 0 l) := by
   have h4 := read_l l h.2 _ 0 0 rfl (Nat.zero_le _) (by omega)
   refine Ev.step (fun k => ?_) h4
   simp only [spec_l1Read.j0]
   rw [if_neg (by simp)]
   rfl
  rw [hb']
  by_cases h0 : ((l.getD 0 0).toNat : Int) = 48
  ·refine Ev.congr (fun k => if_pos h0) ?_
   by_cases h1 : l.length > 1
   ·have e : decide (((mkb l).size : Int) > 1) = true := decide_eq_true (by rw [mkb_size]; omega)
    rw [e, if_pos ⟨h0, h1⟩]
    exact no
   ·have e : decide (((mkb l).size : Int) > 1) = false := decide_eq_false (by rw [mkb_size]; omega)
    rw [e, if_neg (fun h => h1 h.2)]
    exact yes
  ·rw [if_neg (fun h => h0 h.1)]
   exact Ev.congr (fun k => if_neg h0) yes
 ·rw [if_neg h]
  exact Ev.bind i1 (Ev.ite_false (decide_eq_false h) no)
theorem rv_numV (l : List UInt8) : rv l = numV (mkb l) := by
 rcases numV_or l with ⟨h1, h2⟩ | ⟨u, h1, h2, h3⟩
 ·rw [h1]
  unfold rv
  by_cases h : 1 ≤ l.length ∧ l.length ≤ 6
  ·rw [if_pos h]
   by_cases h0 : ((l.getD 0 0).toNat : Int) = 48 ∧ l.length > 1
   ·rw [if_pos h0]
   ·rw [if_neg h0]
    by_cases hr : rl 0 l = -1
    ·exact hr
    ·exfalso
     obtain ⟨u, e, hu⟩ := can_dd (l.length - 1) l (by omega) (rl_dig l 0 hr) (fun c r e h48 => by
      subst e
      by_cases hz : r = []
      ·exact hz
      ·have := List.length_pos_iff.mpr hz
       exact absurd ⟨by show ((c.toNat : Nat) : Int) = 48; omega, by simp only [List.length_cons]; omega⟩ h0)
     have e6 : l.length - 1 + 1 ≤ 6 := by omega
     have := Nat.lt_of_lt_of_le hu (Nat.pow_le_pow_right (n := 10) (by omega) e6)
     exact h2 u (by omega) e
  ·rw [if_neg h]
 ·rw [h3, h2]
  have hl := dd_len6 h1
  have hp := dd_pos u
  unfold rv
  rw [if_pos ⟨hp, hl⟩]
  obtain ⟨c, r, e, hc⟩ := dd_head u u (Nat.le_refl _)
  rw [if_neg, rl_dd u u (Nat.le_refl _)]
  rintro ⟨q1, q2⟩
  by_cases hu : u < 10
  ·rw [dd_small hu] at q2
   simp at q2
  ·rw [e] at q1
   refine hc (by omega) ?_
   have : ((c :: r).getD 0 0) = c := rfl
   rw [this] at q1
   omega
theorem read_ev (l : List UInt8) : Ev (fun k => spec_l1Read.f k (mkb l)) (numV (mkb l)) := by
 rw [← rv_numV]
 exact rv_ev l

theorem ext_mkb (l : List UInt8) (a b : Nat) : (mkb l).extract a b = mkb ((l.drop a).take (b - a)) := by
 apply ByteArray.ext
 rw [ByteArray.data_extract]
 simp [mkb, List.extract_eq_take_drop]
theorem drop_at (l : List UInt8) (fr i : Nat) (h1 : fr ≤ i) (h2 : i < l.length) : l.drop fr = (l.drop fr).take (i - fr) ++ l.getD i 0 :: l.drop (i + 1) := by
 have e1 : (l.drop fr).drop (i - fr) = l.drop i := by
  rw [List.drop_drop]
  congr 1
  omega
 have e2 : l.drop i = l.getD i 0 :: l.drop (i + 1) := by
  rw [List.drop_eq_getElem_cons h2, List.getD_eq_getElem?_getD, List.getElem?_eq_getElem h2]
  rfl
 rw [← e2, ← e1, List.take_append_drop]
theorem take_at (l : List UInt8) (fr i : Nat) (h1 : fr ≤ i) (h2 : i < l.length) : (l.drop fr).take (i + 1 - fr) = (l.drop fr).take (i - fr) ++ [l.getD i 0] := by
 have e : i + 1 - fr = (i - fr) + 1 := by omega
 rw [e, List.take_add_one, List.getElem?_drop]
 have e2 : fr + (i - fr) = i := by omega
 rw [e2, List.getElem?_eq_getElem h2, List.getD_eq_getElem?_getD, List.getElem?_eq_getElem h2]
 rfl
theorem spsplit_l (l : List UInt8) (hl : l.length ≤ 1048576) (b : UInt8) : ∀ (d i fr : Nat) (out : List ByteArray), l.length - i = d → fr ≤ i → i ≤ l.length → b ∉ (l.drop fr).take (i - fr) → out.length ≤ i →
  Ev (fun k => spec_l1Split.l0 k (mkb l) (b.toNat : Int) out (fr : Int) (i : Int)) (out ++ (sp b (l.drop fr)).map mkb) := by
 intro d
 induction d with
 | zero =>
  intro i fr out h1 h2 h3 h4 h5
  have e : (l.drop fr).take (i - fr) = l.drop fr := List.take_of_length_le (by rw [List.length_drop]; omega)
  rw [e] at h4
  rw [sp_miss b _ h4]
  refine Ev.step (fun k => ?_) (Ev.now _)
  simp only [spec_l1Split.l0]
  rw [if_neg (by rw [mkb_size]; omega), if_pos (by omega), if_pos (by rw [mkb_size]; omega), if_pos (by omega), ext_mkb, mkb_size, Int.toNat_natCast]
  rw [List.take_of_length_le (by rw [List.length_drop]; omega)]
  rfl
 | succ d ih =>
  intro i fr out h1 h2 h3 h4 h5
  have hi : i < l.length := by omega
  have hb := bt_mkb l i hi
  by_cases hc : l.getD i 0 = b
  ·have h6 := ih (i + 1) (i + 1) (out ++ [mkb ((l.drop fr).take (i - fr))]) (by omega) (Nat.le_refl _) (by omega) (by simp) (by rw [List.length_append]; simp only [List.length_cons, List.length_nil]; omega)
   have e := drop_at l fr i h2 hi
   rw [hc] at e hb
   have e2 : sp b (l.drop fr) = (l.drop fr).take (i - fr) :: sp b (l.drop (i + 1)) := by
    conv => lhs; rw [e]
    exact sp_hit b _ _ h4
   rw [e2, List.map_cons]
   have e3 : out ++ mkb ((l.drop fr).take (i - fr)) :: (sp b (l.drop (i + 1))).map mkb = (out ++ [mkb ((l.drop fr).take (i - fr))]) ++ (sp b (l.drop (i + 1))).map mkb := by simp
   rw [e3]
   refine Ev.step (fun k => ?_) h6
   simp only [spec_l1Split.l0]
   rw [if_pos (by rw [mkb_size]; omega), if_pos (by omega), hb, if_pos rfl, if_pos (by omega), if_pos (by omega), if_pos (by rw [mkb_size]; omega), if_pos (by omega), ext_mkb, Int.toNat_natCast, Int.toNat_natCast, wsucc i (by omega)]
  ·have h6 := ih (i + 1) fr out (by omega) (by omega) (by omega) (by rw [take_at l fr i h2 hi, List.mem_append, List.mem_singleton]; rintro (h | h); exact h4 h; exact hc h.symm) (by omega)
   refine Ev.step (fun k => ?_) h6
   simp only [spec_l1Split.l0]
   rw [if_pos (by rw [mkb_size]; omega), if_pos (by omega), hb, if_neg (by intro h; exact hc (UInt8.toNat_inj.mp (by omega))), wsucc i (by omega)]
theorem spsplit_ev (l : List UInt8) (hl : l.length ≤ 1048576) (b : UInt8) : Ev (fun k => spec_l1Split.f k (mkb l) (b.toNat : Int)) ((sp b l).map mkb) := by
 have := spsplit_l l hl b _ 0 0 [] rfl (Nat.le_refl _) (Nat.zero_le _) (by simp) (Nat.le_refl _)
 rw [List.nil_append, List.drop_zero] at this
 exact this
theorem split_val (l : List UInt8) (hl : l.length ≤ 1048576) (b : UInt8) : strings_Split.f (mkb l) (mkb [b]) = some ((sp b l).map mkb) := by
 unfold strings_Split.f
 rw [if_pos ⟨by rw [mkb_size]; exact hl, by rw [mkb_size]; exact Nat.le_refl _⟩]
 congr 1
 have h1 := Lib.splitB_data (mkb [b]) 0 (Lib.countB (mkb l) (mkb [b])) (mkb l)
 have e : Lib.countB (mkb l) (mkb [b]) = Lib.count l [b] := by
  show Lib.count _ _ = _
  rw [mkb_list, mkb_list]
 rw [e] at h1 ⊢
 rw [mkb_list, mkb_list, split_sp b _ l (Nat.le_refl _)] at h1
 rw [← h1, List.map_map]
 refine (List.map_id _).symm.trans (List.map_congr_left (fun s _ => ?_))
 exact mkb_self s
theorem rdOf_mkb (ws : List (List UInt8)) (i : Nat) (h : i < ws.length) : rdOf ByteArray.empty (ws.map mkb) (i : Int) = mkb (ws.getD i []) := by
 unfold rdOf
 rw [Int.toNat_natCast, List.getD_eq_getElem?_getD, List.getElem?_map, List.getD_eq_getElem?_getD, List.getElem?_eq_getElem h]
 rfl
/-- The numbers of pieces. -/
def vl (ws : List (List UInt8)) : List Int := ws.map (fun w => numV (mkb w))
/-- All are numbers. -/
def alln (l : List Int) : Bool := l.all (fun x => decide (0 ≤ x))
theorem alln_mem {l : List Int} : alln l = true ↔ ∀ x ∈ l, 0 ≤ x := by simp [alln]
theorem take_vl (ws : List (List UInt8)) (i : Nat) (h : i < ws.length) : (vl ws).take (i + 1) = (vl ws).take i ++ [numV (mkb (ws.getD i []))] := by
 rw [List.take_add_one]
 congr 1
 rw [vl, List.getElem?_map, List.getD_eq_getElem?_getD, List.getElem?_eq_getElem h]
 rfl
theorem drop_vl (ws : List (List UInt8)) (i : Nat) (h : i < ws.length) : (vl ws).drop i = numV (mkb (ws.getD i [])) :: (vl ws).drop (i + 1) := by
 rw [List.drop_eq_getElem_cons (by rw [vl, List.length_map]; exact h)]
 congr 1
 simp only [vl, List.getElem_map]
 rw [List.getD_eq_getElem?_getD, List.getElem?_eq_getElem h]
 rfl
theorem nums_l (ws : List (List UInt8)) (hw : ws.length ≤ 1048577) (hs : ∀ w ∈ ws, w.length ≤ 1048576) : ∀ (d i : Nat), ws.length - i = d → i ≤ ws.length →
  Ev (fun k => impl_nums.l0 k ((vl ws).take i) (ws.map mkb) (ws.length : Int) (i : Int)) (if alln ((vl ws).drop i) = true then (vl ws, true) else ([], false)) := by
 have hv : (vl ws).length = ws.length := by rw [vl, List.length_map]
 intro d
 induction d with
 | zero =>
  intro i h1 h2
  rw [List.drop_eq_nil_of_le (by omega), List.take_of_length_le (by omega)]
  refine Ev.step (fun k => ?_) (Ev.now _)
  simp only [impl_nums.l0]
  rw [if_neg (by omega)]
  rfl
 | succ d ih =>
  intro i h1 h2
  have hi : i < ws.length := by omega
  have h3 := ih (i + 1) (by omega) (by omega)
  have hm : ws.getD i [] ∈ ws := by rw [List.getD_eq_getElem?_getD, List.getElem?_eq_getElem hi]; exact List.getElem_mem hi
  have hn : impl_num.f (mkb (ws.getD i [])) = some (numV (mkb (ws.getD i []))) := by
   unfold impl_num.f
   rw [if_pos (by rw [mkb_size]; exact hs _ hm)]
  rw [take_vl ws i hi] at h3
  rw [drop_vl ws i hi]
  obtain ⟨x, hx⟩ : ∃ x, x = numV (mkb (ws.getD i [])) := ⟨_, rfl⟩
  rw [← hx] at h3 hn ⊢
  by_cases h0 : x < 0
  ·have e : alln (x :: (vl ws).drop (i + 1)) = false := by
    simp only [alln, List.all_cons]
    rw [decide_eq_false (by omega)]
    rfl
   rw [e]
   refine Ev.step (fun k => ?_) (Ev.now _)
   simp only [impl_nums.l0]
   rw [if_pos (by omega), if_pos (by omega), if_pos (by rw [List.length_map]; omega), rdOf_mkb ws i hi, hn]
   simp only [Option.bind_some]
   rw [if_pos h0]
   rfl
  ·have e : alln (x :: (vl ws).drop (i + 1)) = alln ((vl ws).drop (i + 1)) := by
    simp only [alln, List.all_cons]
    rw [decide_eq_true (by omega), Bool.true_and]
   rw [e]
   refine Ev.step (fun k => ?_) h3
   simp only [impl_nums.l0]
   rw [if_pos (by omega), if_pos (by omega), if_pos (by rw [List.length_map]; omega), rdOf_mkb ws i hi, hn]
   simp only [Option.bind_some]
   rw [if_neg h0, if_pos (by rw [List.length_take]; omega), wsucc i (by omega)]
theorem nums_ev (l : List UInt8) (hl : l.length ≤ 1048576) (b : UInt8) : Ev (fun k => impl_nums.f k (mkb l) (mkb [b])) (if alln (vl (sp b l)) = true then (vl (sp b l), true) else ([], false)) := by
 unfold impl_nums.f
 have hw := sp_len b l
 have h := nums_l (sp b l) (by omega) (fun w h => by have := sp_wlen b l w h; omega) _ 0 rfl (Nat.zero_le _)
 rw [List.drop_zero, List.take_zero] at h
 refine Ev.congr (fun k => ?_) h
 rw [split_val l hl b]
 simp only [Option.bind_some]
 rw [List.length_map]
 rfl
/-- Where all are numbers, the pieces are their numerals. -/
theorem vl_dd : ∀ (ws : List (List UInt8)), (∀ x ∈ vl ws, 0 ≤ x) → ws = (vl ws).map (fun x => dd x.toNat) ∧ ∀ x ∈ vl ws, x ≤ 999999 := by
 intro ws
 induction ws with
 | nil => intro _; exact ⟨rfl, by simp [vl]⟩
 | cons w ws ih =>
  intro h
  have h0 := h (numV (mkb w)) (by simp [vl])
  obtain ⟨i1, i2⟩ := ih (fun x hx => h x (by simp only [vl, List.map_cons, List.mem_cons]; exact .inr hx))
  rcases numV_or w with ⟨h1, _⟩ | ⟨u, h1, h2, h3⟩
  ·omega
  ·have e : vl (w :: ws) = (u : Int) :: vl ws := by rw [← h3]; rfl
   rw [e]
   refine ⟨?_, ?_⟩
   ·rw [List.map_cons, ← i1, Int.toNat_natCast, ← h2]
   ·intro x hx
    rcases List.mem_cons.mp hx with rfl | hx
    ·omega
    ·exact i2 x hx
theorem jb_jn (b : UInt8) (l : List Int) : jb b (l.map (fun x => dd x.toNat)) = jn b l := by
 cases l with
 | nil => rfl
 | cons x l =>
  simp only [List.map_cons, jb, jn, tl, List.map_map]
  rfl
theorem jn_vl (b : UInt8) (l : List UInt8) (h : ∀ x ∈ vl (sp b l), 0 ≤ x) : jn b (vl (sp b l)) = l := by
 have e := (vl_dd _ h).1
 rw [← jb_jn, ← e, jb_sp]
theorem tl_ge (b : UInt8) : ∀ l : List Int, l.length ≤ (tl b l).length := by
 intro l
 induction l with
 | nil => simp [tl]
 | cons x l ih =>
  have e : tl b (x :: l) = (b :: dd x.toNat) ++ tl b l := by simp [tl]
  rw [e, List.length_append, List.length_cons, List.length_cons]
  omega
theorem jn_ge (b : UInt8) (l : List Int) : l.length ≤ (jn b l).length := by
 cases l with
 | nil => simp [jn]
 | cons x l =>
  have := tl_ge b l
  have := dd_pos x.toNat
  simp only [jn, List.length_append, List.length_cons]
  omega
theorem tl_few (b : UInt8) (e : Nat) (he : 1 ≤ e) : ∀ l : List Int, (∀ x ∈ l, 0 ≤ x ∧ x < ((10 ^ e : Nat) : Int)) → (tl b l).length ≤ (e + 1) * l.length := by
 intro l
 induction l with
 | nil => intro _; simp [tl]
 | cons x l ih =>
  intro h
  have h1 := ih (fun y hy => h y (List.mem_cons_of_mem _ hy))
  have h2 := dd_len e x.toNat (by have := h x (List.mem_cons_self ..); omega) he
  have e : tl b (x :: l) = (b :: dd x.toNat) ++ tl b l := by simp [tl]
  rw [e, List.length_append, List.length_cons, List.length_cons, Nat.mul_add]
  omega
theorem jn_few (b : UInt8) (e : Nat) (he : 1 ≤ e) (l : List Int) (h : ∀ x ∈ l, 0 ≤ x ∧ x < ((10 ^ e : Nat) : Int)) : (jn b l).length + 1 ≤ (e + 1) * l.length ∨ l = [] := by
 cases l with
 | nil => exact .inr rfl
 | cons x l =>
  have h1 := tl_few b e he l (fun y hy => h y (List.mem_cons_of_mem _ hy))
  have h2 := dd_len e x.toNat (by have := h x (List.mem_cons_self ..); omega) he
  refine .inl ?_
  simp only [jn, List.length_append, List.length_cons]
  rw [Nat.mul_add]
  omega
theorem vl_len (ws : List (List UInt8)) : (vl ws).length = ws.length := by rw [vl, List.length_map]

/- What is proved at the end: ∀ (l0 : List Int) (a1 : Int) (l2 : List Int) (l3 : List Int) (a4 : Int) (l5 : List Int) (a6 : Int) (l7 : List (List Int)) (l8 : List Int) (a9 : Int) (a10 : Int) (a11 : ByteArray), l0.length ≤ maxLen → (∀ x ∈ l0, (Lit.int .i64 x).wf = true) → (Lit.int .i64 a1).wf = true → l2.length ≤ maxLen → (∀ x ∈ l2, (Lit.int .i64 x).wf = true) → l3.length ≤ maxLen → (∀ x ∈ l3, (Lit.int .i64 x).wf = true) → (Lit.int .i64 a4).wf = true → l5.length ≤ maxLen → (∀ x ∈ l5, (Lit.int .i64 x).wf = true) → (Lit.int .i64 a6).wf = true → l7.length ≤ maxLen → (∀ q ∈ l7, q.length ≤ maxLen ∧ ∀ x ∈ q, (Lit.int .i64 x).wf = true) → l8.length ≤ maxLen → (∀ x ∈ l8, (Lit.int .i64 x).wf = true) → (Lit.int .i64 a9).wf = true → (Lit.int .i64 a10).wf = true → a11.size ≤ 140737488351232 → ∃ k, laws_FnStepsWornOfAll.f k l0 a1 l2 l3 a4 l5 a6 l7 l8 a9 a10 a11 = some true -/
theorem mostw_ev (l : List Int) (r : Nat) (hl : l.length ≤ 1048576) (h : hasP l (r : Int) = true) : Ev (fun k => impl_MostWears.f k l (r : Int)) (mostV l r, true) := by
 obtain ⟨n, e, h1, h2, h3, h4, h5, hb⟩ := hasP_facts h
 obtain rfl : r = n := by omega
 unfold impl_MostWears.f
 exact Ev.bind (hasParts_ev l hl r) (Ev.ite_true h (Ev.bind (mostWears_ev l (by omega) hb r h2 h3) (Ev.now _)))
theorem hasP_mk {l : List Int} {r : Nat} (hg : goodB l = true) (h1 : 1 ≤ r) (h2 : r ≤ l.length) : hasP l (r : Int) = true := by
 have h3 := goodB_bd hg
 simp only [hasP, canW, hg, Bool.true_and, Bool.and_eq_true, decide_eq_true_eq]
 omega
theorem wSame_l (l : List Int) (hB : l.length ≤ 1048576) : ∀ (d i : Nat), l.length - i = d → i ≤ l.length → Ev (fun k => laws_wSame.l0 k l l (l.length : Int) (i : Int)) true := by
 intro d
 induction d with
 | zero =>
  intro i hd hi
  refine Ev.step (fun k => ?_) (Ev.now _)
  simp only [laws_wSame.l0]
  rw [if_neg (by omega)]
 | succ d ih =>
  intro i hd hi
  refine Ev.step (fun k => ?_) (ih (i + 1) (by omega) (by omega))
  simp only [laws_wSame.l0]
  rw [if_pos (by omega), if_pos (by omega), if_pos (by omega), if_pos (by omega), wsucc i (by omega)]
  exact if_pos trivial
theorem wSame_ev (l : List Int) (hB : l.length ≤ 1048576) : Ev (fun k => laws_wSame.f k l l) true := by
 unfold laws_wSame.f
 exact Ev.congr (fun k => if_pos rfl) (wSame_l l hB _ 0 rfl (Nat.zero_le _))
theorem wHas_l (l : List Int) (n : Int) (hB : l.length ≤ 1048576) : ∀ (d i : Nat), l.length - i = d → i ≤ l.length → Ev (fun k => laws_wHas.l0 k n l (l.length : Int) (i : Int)) (decide (n ∈ l.drop i)) := by
 intro d
 induction d with
 | zero =>
  intro i hd hi
  refine Ev.step (fun k => ?_) (Ev.now _)
  simp only [laws_wHas.l0]
  rw [if_neg (by omega), List.drop_eq_nil_of_le (by omega)]
  rfl
 | succ d ih =>
  intro i hd hi
  rw [drop_cons l i (by omega)]
  by_cases h : l.getD i 0 = n
  ·refine Ev.step (fun k => ?_) (Ev.now _)
   simp only [laws_wHas.l0]
   rw [if_pos (by omega), if_pos (by omega), if_pos (by omega), rd_nat, if_pos h, decide_eq_true (by rw [h]; exact List.mem_cons_self)]
  ·have e : decide (n ∈ l.getD i 0 :: l.drop (i + 1)) = decide (n ∈ l.drop (i + 1)) := by
    rw [decide_eq_decide, List.mem_cons]
    exact ⟨fun h2 => h2.resolve_left (fun h3 => h h3.symm), Or.inr⟩
   rw [e]
   refine Ev.step (fun k => ?_) (ih (i + 1) (by omega) (by omega))
   simp only [laws_wHas.l0]
   rw [if_pos (by omega), if_pos (by omega), if_pos (by omega), rd_nat, if_neg h, wsucc i (by omega)]
theorem wHas_ev (l : List Int) (n : Int) (hB : l.length ≤ 1048576) : Ev (fun k => laws_wHas.f k l n) (decide (n ∈ l)) := wHas_l l n hB _ 0 rfl (Nat.zero_le _)
theorem wRises_l (l : List Int) (hB : l.length ≤ 1048576) (hs : l.Pairwise (· < ·)) : ∀ (d i : Nat), l.length - i = d → 1 ≤ i → Ev (fun k => laws_wRises.l0 k l (i : Int)) true := by
 intro d
 induction d with
 | zero =>
  intro i hd hi
  refine Ev.step (fun k => ?_) (Ev.now _)
  simp only [laws_wRises.l0]
  rw [if_neg (by omega)]
 | succ d ih =>
  intro i hd hi
  have h : l.getD (i - 1) 0 < l.getD i 0 := by
   rw [List.getD_eq_getElem?_getD, List.getD_eq_getElem?_getD, List.getElem?_eq_getElem (show i - 1 < l.length by omega), List.getElem?_eq_getElem (show i < l.length by omega)]
   exact List.pairwise_iff_getElem.1 hs (i - 1) i (by omega) (by omega) (by omega)
  refine Ev.step (fun k => ?_) (ih (i + 1) (by omega) (by omega))
  simp only [laws_wRises.l0]
  rw [if_pos (by omega), w_pred i hi (by omega), if_pos (by omega), if_pos (by omega), if_pos (by omega), rd_nat, rd_nat, if_neg (by omega), wsucc i (by omega)]
theorem wRises_ev (l : List Int) (hB : l.length ≤ 1048576) (hs : l.Pairwise (· < ·)) : Ev (fun k => laws_wRises.f k l) true := wRises_l l hB hs _ 1 rfl (Nat.le_refl _)
theorem wSum_l (s : List Int) (hs : s.length ≤ 1000) (hb : ∀ x ∈ s, 0 ≤ x ∧ x ≤ 2000) : ∀ (d i : Nat) (acc : Int), s.length - i = d → i ≤ s.length → 0 ≤ acc → acc ≤ 2000 * (i : Int) → Ev (fun k => laws_wSum.l0 k acc s (s.length : Int) (i : Int)) (acc + (s.drop i).sum) := by
 intro d
 induction d with
 | zero =>
  intro i acc hd hi h0 h1
  rw [List.drop_eq_nil_of_le (by omega), List.sum_nil, Int.add_zero]
  refine Ev.step (fun k => ?_) (Ev.now _)
  simp only [laws_wSum.l0]
  rw [if_neg (by omega)]
 | succ d ih =>
  intro i acc hd hi h0 h1
  have hg := getD_bd hb (i := i) (by omega)
  have hw : wrap64 (acc + s.getD i 0) = acc + s.getD i 0 := w_id (by omega) (by omega)
  have h := ih (i + 1) (acc + s.getD i 0) (by omega) (by omega) (by omega) (by omega)
  rw [drop_cons s i (by omega), List.sum_cons, ← Int.add_assoc]
  refine Ev.step (fun k => ?_) h
  simp only [laws_wSum.l0]
  rw [if_pos (by omega), if_pos (by omega), if_pos (by omega), rd_nat, hw, wsucc i (by omega)]
theorem wSum_ev (s : List Int) (hs : s.length ≤ 1000) (hb : ∀ x ∈ s, 0 ≤ x ∧ x ≤ 2000) : Ev (fun k => laws_wSum.f k s) s.sum := by
 have h := wSum_l s hs hb _ 0 0 rfl (Nat.zero_le _) (Int.le_refl 0) (by omega)
 rw [List.drop_zero, Int.zero_add] at h
 exact h
theorem foldl_mx_ge (l : List Int) : ∀ m : Int, m ≤ l.foldl mx m ∧ (∀ x ∈ l, x ≤ l.foldl mx m) ∧ (l.foldl mx m = m ∨ l.foldl mx m ∈ l) := by
 induction l with
 | nil => intro m; simp
 | cons x xs ih =>
  intro m
  obtain ⟨h1, h2, h3⟩ := ih (mx m x)
  have h4 : m ≤ mx m x ∧ x ≤ mx m x ∧ (mx m x = m ∨ mx m x = x) := by unfold mx; split <;> omega
  rw [List.foldl_cons]
  refine ⟨by omega, fun y hy => ?_, ?_⟩
  ·rcases List.mem_cons.1 hy with rfl | hy
   ·omega
   ·exact h2 y hy
  ·rcases h3 with h3 | h3
   ·rcases h4.2.2 with h5 | h5
    ·left; omega
    ·right; rw [h3, h5]; exact List.mem_cons_self
   ·right; exact List.mem_cons_of_mem _ h3
theorem max_l (s : List Int) (hs : s.length ≤ 2000) : ∀ (d i : Nat) (m : Int), s.length - i = d → i ≤ s.length → Ev (fun k => slices_Max_int_int.l0 k s m (i : Int)) ((s.drop i).foldl mx m) := by
 intro d
 induction d with
 | zero =>
  intro i m hd hi
  rw [List.drop_eq_nil_of_le (by omega)]
  refine Ev.step (fun k => ?_) (Ev.now m)
  simp only [slices_Max_int_int.l0]
  rw [if_neg (by omega)]
 | succ d ih =>
  intro i m hd hi
  rw [drop_cons s i (by omega), List.foldl_cons]
  refine Ev.step (f := fun k => slices_Max_int_int.l0 k s (mx m (s.getD i 0)) ((i + 1 : Nat) : Int)) (fun k => ?_) (ih (i + 1) _ (by omega) (by omega))
  simp only [slices_Max_int_int.l0]
  rw [if_pos (by omega), if_pos (by omega), rd_nat, wsucc i (by omega)]
theorem mem_getD {l : List Int} {x : Int} (h : x ∈ l) : ∃ j, j < l.length ∧ l.getD j 0 = x := by
 obtain ⟨j, hj, e⟩ := List.getElem_of_mem h
 exact ⟨j, hj, by rw [List.getD_eq_getElem?_getD, List.getElem?_eq_getElem hj]; exact e⟩
theorem getD_mem {l : List Int} {j : Nat} (h : j < l.length) : l.getD j 0 ∈ l := by
 rw [List.getD_eq_getElem?_getD, List.getElem?_eq_getElem h]
 exact List.getElem_mem h
theorem strong_l (l : List Int) (hl : l.length ≤ 1000) : ∀ (d i b : Nat), l.length - i = d → i ≤ l.length → b < l.length → (∀ j, j < i → l.getD j 0 ≤ l.getD b 0) → (∀ j, j < b → l.getD j 0 < l.getD b 0) →
  ∃ b' : Nat, Ev (fun k => spec_StrongestStep.l0 k l (b : Int) l (l.length : Int) (i : Int)) ((b' : Int) + 1, true) ∧ b' < l.length ∧ (∀ j, j < l.length → l.getD j 0 ≤ l.getD b' 0) ∧ (∀ j, j < b' → l.getD j 0 < l.getD b' 0) := by
 intro d
 induction d with
 | zero =>
  intro i b hd hi hb h1 h2
  refine ⟨b, Ev.step (fun k => ?_) (Ev.now _), hb, fun j hj => h1 j (by omega), h2⟩
  simp only [spec_StrongestStep.l0]
  rw [if_neg (by omega), wsucc b (by omega)]
  rfl
 | succ d ih =>
  intro i b hd hi hb h1 h2
  by_cases hc : l.getD i 0 > l.getD b 0
  ·obtain ⟨b', hs, hr⟩ := ih (i + 1) i (by omega) (by omega) (by omega) (fun j hj => by
    rcases Nat.lt_or_ge j i with h | h
    ·have := h1 j h; omega
    ·have : j = i := by omega
     subst this
     omega) (fun j hj => by have := h1 j hj; omega)
   refine ⟨b', Ev.step (fun k => ?_) hs, hr⟩
   simp only [spec_StrongestStep.l0]
   rw [if_pos (by omega), if_pos (by omega), if_pos (by omega), if_pos (by omega), if_pos (by omega), rd_nat, rd_nat, if_pos hc, wsucc i (by omega)]
  ·obtain ⟨b', hs, hr⟩ := ih (i + 1) b (by omega) (by omega) hb (fun j hj => by
    rcases Nat.lt_or_ge j i with h | h
    ·exact h1 j h
    ·have : j = i := by omega
     subst this
     omega) h2
   refine ⟨b', Ev.step (fun k => ?_) hs, hr⟩
   simp only [spec_StrongestStep.l0]
   rw [if_pos (by omega), if_pos (by omega), if_pos (by omega), if_pos (by omega), if_pos (by omega), rd_nat, rd_nat, if_neg hc, wsucc i (by omega)]
theorem index_l (l : List Int) (hl : l.length ≤ 1000) (b : Nat) (hb : b < l.length) (h2 : ∀ j, j < b → l.getD j 0 < l.getD b 0) : ∀ (d i : Nat), b - i = d → i ≤ b → Ev (fun k => slices_Index_int_int.l0 k l (l.getD b 0) (l.length : Int) (i : Int)) (b : Int) := by
 intro d
 induction d with
 | zero =>
  intro i hd hi
  obtain rfl : i = b := by omega
  refine Ev.step (fun k => ?_) (Ev.now _)
  simp only [slices_Index_int_int.l0]
  rw [if_pos (by omega), if_pos (by omega), if_pos (by omega), rd_nat, if_pos rfl]
 | succ d ih =>
  intro i hd hi
  have := h2 i (by omega)
  refine Ev.step (fun k => ?_) (ih (i + 1) (by omega) (by omega))
  simp only [slices_Index_int_int.l0]
  rw [if_pos (by omega), if_pos (by omega), if_pos (by omega), rd_nat, if_neg (by omega), wsucc i (by omega)]
theorem turn_l (l : List Int) (hl : l.length ≤ 1000) : ∀ (n : Nat) (out : List Int), n ≤ l.length → out.length + n ≤ 1000 → Ev (fun k => spec_TurnBears.l0 k l out ((n : Int) - 1)) (out ++ (l.take n).reverse, true) := by
 intro n
 induction n with
 | zero =>
  intro out hn ho
  rw [List.take_zero, List.reverse_nil, List.append_nil]
  refine Ev.step (fun k => ?_) (Ev.now _)
  simp only [spec_TurnBears.l0]
  rw [if_neg (by omega)]
 | succ n ih =>
  intro out hn ho
  have h := ih (out ++ [l.getD n 0]) (by omega) (by simp; omega)
  have e : ((n + 1 : Nat) : Int) - 1 = (n : Int) := by omega
  have w : wrap64 ((n : Int) - 1) = (n : Int) - 1 := by
   unfold wrap64
   omega
  rw [take_get_succ l n (by omega), List.reverse_append, List.reverse_singleton]
  rw [List.append_assoc] at h
  refine Ev.step (fun k => ?_) h
  simp only [spec_TurnBears.l0]
  rw [e, if_pos (by omega), if_pos (by omega), if_pos (by omega), if_pos (by omega), rd_nat, w]
def mixL (l : List Int) (i : Nat) : List Int := (List.range l.length).map fun j => if j < i ∨ l.length - i ≤ j then l.getD (l.length - 1 - j) 0 else l.getD j 0
theorem mixL_length (l : List Int) (i : Nat) : (mixL l i).length = l.length := by simp [mixL]
theorem mixL_get (l : List Int) (i j : Nat) (h : j < l.length) : (mixL l i).getD j 0 = if j < i ∨ l.length - i ≤ j then l.getD (l.length - 1 - j) 0 else l.getD j 0 := by
 simp [mixL, List.getD_eq_getElem?_getD, h]
theorem ext_getD {a b : List Int} (h : a.length = b.length) (k : ∀ j, j < a.length → a.getD j 0 = b.getD j 0) : a = b := by
 apply List.ext_getElem h
 intro j h1 h2
 have := k j h1
 rw [List.getD_eq_getElem?_getD, List.getD_eq_getElem?_getD, List.getElem?_eq_getElem h1, List.getElem?_eq_getElem h2] at this
 exact this
theorem set_get (l : List Int) (i j : Nat) (v : Int) (hj : j < l.length) : (l.set i v).getD j 0 = if i = j then v else l.getD j 0 := by
 rw [List.getD_eq_getElem?_getD, List.getElem?_eq_getElem (by rw [List.length_set]; exact hj), List.getElem_set, List.getD_eq_getElem?_getD, List.getElem?_eq_getElem hj]
 split <;> rfl
theorem mixL_zero (l : List Int) : mixL l 0 = l := by
 apply ext_getD (mixL_length l 0)
 intro j hj
 rw [mixL_length] at hj
 rw [mixL_get l 0 j hj, if_neg (by omega)]
theorem mixL_step (l : List Int) (i : Nat) (h : i < l.length - 1 - i) : ((mixL l i).set i ((mixL l i).getD (l.length - 1 - i) 0)).set (l.length - 1 - i) ((mixL l i).getD i 0) = mixL l (i + 1) := by
 apply ext_getD (by rw [List.length_set, List.length_set, mixL_length, mixL_length])
 intro j hj
 rw [List.length_set, List.length_set, mixL_length] at hj
 rw [set_get _ _ _ _ (by rw [List.length_set, mixL_length]; exact hj), set_get _ _ _ _ (by rw [mixL_length]; exact hj), mixL_get l i _ (by omega), mixL_get l i _ (by omega), mixL_get l i j hj, mixL_get l (i + 1) j hj]
 by_cases h1 : l.length - 1 - i = j
 ·rw [if_pos h1, if_neg (by omega), if_pos (by omega)]
  congr 1
  omega
 ·rw [if_neg h1]
  by_cases h2 : i = j
  ·rw [if_pos h2, if_neg (by omega), if_pos (by omega), h2]
  ·rw [if_neg h2]
   by_cases h3 : j < i ∨ l.length - i ≤ j
   ·rw [if_pos h3, if_pos (by omega)]
   ·rw [if_neg h3, if_neg (by omega)]
theorem mixL_end (l : List Int) (i : Nat) (h : ¬ i < l.length - 1 - i) : mixL l i = l.reverse := by
 apply ext_getD (by rw [mixL_length, List.length_reverse])
 intro j hj
 rw [mixL_length] at hj
 rw [mixL_get l i j hj]
 have hr : l.reverse.getD j 0 = l.getD (l.length - 1 - j) 0 := by
  rw [List.getD_eq_getElem?_getD, List.getElem?_reverse hj, List.getD_eq_getElem?_getD]
 rw [hr]
 by_cases h3 : j < i ∨ l.length - i ≤ j
 ·rw [if_pos h3]
 ·rw [if_neg h3]
  congr 1
  omega
theorem reverse_l (l : List Int) (hl : l.length ≤ 1000) (h1 : 1 ≤ l.length) : ∀ (d i : Nat), l.length - i = d → i + 1 ≤ l.length → Ev (fun k => slices_Reverse_int_int.l0 k (mixL l i) (i : Int) ((l.length - 1 - i : Nat) : Int)) l.reverse := by
 intro d
 induction d with
 | zero => intro i hd hi; omega
 | succ d ih =>
  intro i hd hi
  by_cases hc : i < l.length - 1 - i
  ·have h := ih (i + 1) (by omega) (by omega)
   have w : wrap64 (((l.length - 1 - i : Nat) : Int) - 1) = ((l.length - 1 - (i + 1) : Nat) : Int) := by
    unfold wrap64
    omega
   rw [← mixL_step l i hc] at h
   refine Ev.step (fun k => ?_) h
   simp only [slices_Reverse_int_int.l0]
   rw [if_pos (by omega), if_pos (by omega), mixL_length, if_pos (by omega), if_pos (by omega), if_pos (by omega), rd_nat, rd_nat, Int.toNat_natCast, Int.toNat_natCast, w, wsucc i (by omega)]
  ·rw [← mixL_end l i hc]
   refine Ev.step (fun k => ?_) (Ev.now _)
   simp only [slices_Reverse_int_int.l0]
   rw [if_neg (by omega)]
theorem specWear_l0 (r : Int) (r1 : 1 ≤ r) (r2 : r ≤ 20) (l : List (List Int)) (hl : l.length ≤ 1048576) (hc : ∀ c ∈ l, c.length ≤ 9223372036854775807) : ∀ (cs : List (List Int)) (i : Nat) (b : List Int), l.drop i = cs → i ≤ l.length → b.length ≤ 20 → (∀ x ∈ b, 0 ≤ x ∧ x ≤ 100) →
  Ev (fun k => spec_WearAll.l0 k r b l (l.length : Int) (i : Int)) (outV (wearAllV r b cs)) := by
 intro cs
 induction cs with
 | nil =>
  intro i b hd hi hb hv
  have hl0 : l.length - i = 0 := by
   have := congrArg List.length hd
   rwa [List.length_drop] at this
  refine Ev.step (fun k => ?_) (Ev.now _)
  simp only [spec_WearAll.l0]
  rw [if_neg (by omega)]
  rfl
 | cons c cs ih =>
  intro i b hd hi hb hv
  have hl0 : l.length - i = cs.length + 1 := by
   have := congrArg List.length hd
   rwa [List.length_drop, List.length_cons] at this
  have hx : l.getD i [] = c := by
   rw [dropL_cons l i (by omega)] at hd
   exact (List.cons.inj hd).1
  have hd' : l.drop (i + 1) = cs := by
   rw [dropL_cons l i (by omega)] at hd
   exact (List.cons.inj hd).2
  have hcm : c ∈ l := List.mem_of_mem_drop (i := i) (by rw [hd]; exact List.mem_cons_self)
  have i1 : (i : Int) < (l.length : Int) := by omega
  have i2 : (0 : Int) ≤ (i : Int) := by omega
  have i5 : i < 4611686018427387904 := by omega
  have hisw := weIs_ev b r hb hv r1 r2 c (hc c hcm)
  have step : ∀ k, spec_WearAll.l0 (k + 1) r b l (l.length : Int) (i : Int) = (spec_weIs.f k b r c).bind fun t => if t = true then ((spec_weBy.f k b c).bind fun t140 => spec_WearAll.l0 k r t140 l (l.length : Int) ((i + 1 : Nat) : Int)) else some (([] : List Int), false) := by
   intro k
   simp only [spec_WearAll.l0]
   rw [if_pos i1, if_pos i2, if_pos i1, rdL_nat, hx, wsucc i i5]
  simp only [wearAllV]
  by_cases hz : isV b r 0 c = true
  ·have hs0 : Same b b 0 := ⟨rfl, hv, fun _ _ => rfl⟩
   have hrec := ih (i + 1) (wearV b c) hd' (by omega) (by rw [wearV_length]; exact hb) (wearV_good r b c b 0 hs0 (by omega) hz)
   rw [if_pos hz]
   exact Ev.step step (Ev.bind hisw (Ev.ite_true hz (Ev.bind (weBy_ev r b c hb hv (hc c hcm) hz) hrec)))
  ·rw [if_neg hz]
   exact Ev.step step (Ev.bind hisw (Ev.ite_false (Bool.eq_false_iff.mpr hz) (Ev.now _)))
theorem specWear_ev (l : List Int) (hl : l.length ≤ 1048576) (r : Int) (cs : List (List Int)) (hcl : cs.length ≤ 1048576) (hc : ∀ c ∈ cs, c.length ≤ 9223372036854775807) :
  Ev (fun k => spec_WearAll.f k l r cs) (if canW l r = true ∧ cs.length ≤ 100 then outV (wearAllV r l cs) else ([], false)) := by
 unfold spec_WearAll.f
 have no1 : Ev (fun k => spec_WearAll.j0 k l r cs true) ([], false) := Ev.step (fun k => by simp only [spec_WearAll.j0]; rw [if_pos trivial]) (Ev.now _)
 by_cases hW : canW l r = true
 ·obtain ⟨hg, r1, r2⟩ := canW_bd hW
  obtain ⟨g1, g2, g3⟩ := goodB_bd hg
  refine Ev.bind (weReach_ev l hl r) (Ev.ite_true hW ?_)
  by_cases hn : cs.length ≤ 100
  ·rw [if_pos ⟨hW, hn⟩, decide_eq_false (by omega)]
   have h := specWear_l0 r r1 r2 cs hcl hc cs 0 l rfl (by omega) g2 g3
   refine Ev.step (fun k => ?_) h
   simp only [spec_WearAll.j0]
   rw [if_neg (by simp), own_val l hl]
   rfl
  ·rw [if_neg (fun h => hn h.2), decide_eq_true (by omega)]
   exact no1
 ·rw [if_neg (fun h => hW h.1)]
  exact Ev.bind (weReach_ev l hl r) (Ev.ite_false (Bool.eq_false_iff.mpr hW) no1)
theorem outV_len {r : Int} : ∀ (cs : List (List Int)) (b : List Int), b.length ≤ 20 → (outV (wearAllV r b cs)).1.length ≤ 20 := by
 intro cs
 induction cs with
 | nil => intro b h; exact h
 | cons c cs ih =>
  intro b h
  simp only [wearAllV]
  split
  ·exact ih _ (by rw [wearV_length]; exact h)
  ·simp [outV]
theorem pb_l (s : ByteArray) (ws : List (List UInt8)) (hw : ws.length ≤ 1048577) (r : List Int × Bool)
  (h : Ev (fun k => (spec_weGood.f k (vl ws)).bind fun t130 => if t130 = true then ((spec_weText.f k (vl ws)).bind fun t131 => if t131.toList = s.toList then some (vl ws, true) else some (([] : List Int), false)) else some (([] : List Int), false)) r) : ∀ (d i : Nat), ws.length - i = d → i ≤ ws.length →
  Ev (fun k => spec_ParseBears.l0 k s ((vl ws).take i) (ws.map mkb) (ws.length : Int) (i : Int)) r := by
 have hv := vl_len ws
 intro d
 induction d with
 | zero =>
  intro i h1 h2
  rw [List.take_of_length_le (by omega)]
  refine Ev.step (fun k => ?_) h
  simp only [spec_ParseBears.l0]
  rw [if_neg (by omega)]
 | succ d ih =>
  intro i h1 h2
  have hi : i < ws.length := by omega
  have h3 := ih (i + 1) (by omega) (by omega)
  rw [take_vl ws i hi] at h3
  refine Ev.step (f := fun k => (spec_l1Read.f k (mkb (ws.getD i []))).bind fun t => if ((vl ws).take i).length < 17592186044416 then spec_ParseBears.l0 k s ((vl ws).take i ++ [t]) (ws.map mkb) (ws.length : Int) ((i + 1 : Nat) : Int) else none) (fun k => ?_) (Ev.bind (read_ev _) (Ev.congr (fun k => if_pos (by rw [List.length_take]; omega)) h3))
  simp only [spec_ParseBears.l0]
  rw [if_pos (by omega), if_pos (by omega), if_pos (by rw [List.length_map]; omega), rdOf_mkb ws i hi, wsucc i (by omega)]
theorem most_all (l : List Int) (r : Int) (hl : l.length ≤ 1048576) : ∃ m, Ev (fun k => spec_MostWears.f k l r) (m, hasP l r) ∧ Ev (fun k => impl_MostWears.f k l r) (m, hasP l r) ∧ ∀ n : Nat, r = (n : Int) → hasP l r = true → m = mostV l n := by
 unfold spec_MostWears.f impl_MostWears.f
 by_cases hP : hasP l r = true
 ·obtain ⟨r, rfl, h1, h2, h3, h4, h5, hb⟩ := hasP_facts hP
  rw [hP]
  refine ⟨mostV l r, Ev.bind (weEnds_ev l hl r) (Ev.ite_true hP (Ev.bind (weMost_ev l (by omega) hb r h2 h3) (Ev.now _))), Ev.bind (hasParts_ev l hl r) (Ev.ite_true hP (Ev.bind (mostWears_ev l (by omega) hb r h2 h3) (Ev.now _))), fun n hn _ => ?_⟩
  obtain rfl : r = n := by omega
  rfl
 ·have hP' : hasP l r = false := Bool.eq_false_iff.mpr hP
  rw [hP']
  exact ⟨0, Ev.bind (weEnds_ev l hl r) (Ev.ite_false hP' (Ev.now _)), Ev.bind (hasParts_ev l hl r) (Ev.ite_false hP' (Ev.now _)), fun n _ h => by cases h⟩
/-- A climb over bears within a reach. -/
def byB (l : List Int) (r : Int) (c : List Int) : Bool := canW l r && isV l r 0 c
def byV (l : List Int) (r : Int) (c : List Int) : List Int := if byB l r c = true then wearV l c else []
theorem byV_len (l : List Int) (r : Int) (c : List Int) (hl : l.length ≤ 1048576) : (byV l r c).length ≤ 1048576 := by
 unfold byV
 split
 ·rw [wearV_length]; exact hl
 ·simp
theorem by_all (l : List Int) (r : Int) (c : List Int) (hl : l.length ≤ 1048576) (hc : c.length ≤ 9223372036854775807) : Ev (fun k => spec_WearBy.f k l r c) (byV l r c, byB l r c) ∧ Ev (fun k => impl_WearBy.f k l r c) (byV l r c, byB l r c) := by
 have hA := wearAll_ev l hl r [c] (by simp) (fun x hx => by rw [List.mem_singleton.1 hx]; exact hc)
 have hI : Ev (fun k => impl_WearBy.f k l r c) (if canW l r = true ∧ [c].length ≤ 100 then outV (wearAllV r l [c]) else ([], false)) := by
  unfold impl_WearBy.f
  exact Ev.bind hA (Ev.now _)
 by_cases hW : canW l r = true
 ·obtain ⟨hg, r1, r2⟩ := canW_bd hW
  obtain ⟨g1, g2, g3⟩ := goodB_bd hg
  rw [if_pos ⟨hW, by simp⟩] at hI
  have hIs := weIs_ev l r g2 g3 r1 r2 c hc
  by_cases hz : isV l r 0 c = true
  ·have hB : byB l r c = true := by rw [byB, hW, hz]; rfl
   unfold byV
   rw [hB, if_pos rfl]
   refine ⟨?_, ?_⟩
   ·unfold spec_WearBy.f
    exact Ev.bind (weReach_ev l hl r) (Ev.ite_true hW (Ev.bind hIs (Ev.ite_true hz (Ev.bind (weBy_ev r l c g2 g3 hc hz) (Ev.now _)))))
   ·simp only [wearAllV] at hI
    rw [if_pos hz] at hI
    exact hI
  ·have hz' : isV l r 0 c = false := Bool.eq_false_iff.mpr hz
   have hB : byB l r c = false := by rw [byB, hz', Bool.and_false]
   unfold byV
   rw [hB, if_neg (by simp)]
   refine ⟨?_, ?_⟩
   ·unfold spec_WearBy.f
    exact Ev.bind (weReach_ev l hl r) (Ev.ite_true hW (Ev.bind hIs (Ev.ite_false hz' (Ev.now _))))
   ·simp only [wearAllV] at hI
    rw [if_neg hz] at hI
    exact hI
 ·have hW' : canW l r = false := Bool.eq_false_iff.mpr hW
  have hB : byB l r c = false := by rw [byB, hW', Bool.false_and]
  rw [if_neg (fun h => hW h.1)] at hI
  unfold byV
  rw [hB, if_neg (by simp)]
  refine ⟨?_, hI⟩
  unfold spec_WearBy.f
  exact Ev.bind (weReach_ev l hl r) (Ev.ite_false hW' (Ev.now _))
theorem is_all (l : List Int) (r : Int) (c : List Int) (hl : l.length ≤ 1048576) (hc : c.length ≤ 9223372036854775807) : Ev (fun k => spec_IsWearClimb.f k l r c) (byB l r c, canW l r) ∧ Ev (fun k => impl_IsWearClimb.f k l r c) (byB l r c, canW l r) := by
 unfold spec_IsWearClimb.f impl_IsWearClimb.f byB
 by_cases hW : canW l r = true
 ·obtain ⟨hg, r1, r2⟩ := canW_bd hW
  obtain ⟨g1, g2, g3⟩ := goodB_bd hg
  have e1 := weReach_ev l hl r
  have e2 := canWear_ev l hl r
  rw [hW] at e1 e2
  rw [hW, Bool.true_and]
  exact ⟨Ev.bind e1 (Ev.ite_true rfl (Ev.bind (weIs_ev l r g2 g3 r1 r2 c hc) (Ev.now _))), Ev.bind e2 (Ev.ite_true rfl (Ev.bind (isWear_ev l r g2 g3 r1 r2 c hc) (Ev.now _)))⟩
 ·have hW' : canW l r = false := Bool.eq_false_iff.mpr hW
  have e1 := weReach_ev l hl r
  have e2 := canWear_ev l hl r
  rw [hW'] at e1 e2
  rw [hW', Bool.false_and]
  exact ⟨Ev.bind e1 (Ev.ite_false rfl (Ev.now _)), Ev.bind e2 (Ev.ite_false rfl (Ev.now _))⟩
theorem isV_up {b : List Int} {r : Int} : ∀ (ks : List Int) (at_ : Int), isV b r at_ ks = true → ∀ y ∈ ks, at_ < y := by
 intro ks
 induction ks with
 | nil => intro at_ _ y hy; cases hy
 | cons x ks ih =>
  intro at_ h y hy
  obtain ⟨c1, _, c3⟩ := isV_cons h
  rcases List.mem_cons.1 hy with rfl | hy
  ·omega
  ·have := ih x c3 y hy
   omega
theorem isV_rises {b : List Int} {r : Int} : ∀ (ks : List Int) (at_ : Int), isV b r at_ ks = true → ks.Pairwise (· < ·) := by
 intro ks
 induction ks with
 | nil => intro at_ _; exact List.Pairwise.nil
 | cons x ks ih =>
  intro at_ h
  obtain ⟨_, _, c3⟩ := isV_cons h
  exact List.Pairwise.cons (isV_up ks x c3) (ih x c3)
theorem isV_hits {b : List Int} {r i : Nat} (hi : i + r ≤ b.length) : ∀ (ks : List Int) (at_ : Int), at_ ≤ (i : Int) → isV b (r : Int) at_ ks = true → ∃ y ∈ ks, (i : Int) + 1 ≤ y ∧ y ≤ (i : Int) + (r : Int) := by
 intro ks
 induction ks with
 | nil =>
  intro at_ h0 h
  simp only [isV, decide_eq_true_eq] at h
  omega
 | cons x ks ih =>
  intro at_ h0 h
  obtain ⟨c1, _, c3⟩ := isV_cons h
  by_cases hx : (i : Int) + 1 ≤ x
  ·exact ⟨x, List.mem_cons_self, hx, by omega⟩
  ·obtain ⟨y, hy, h1⟩ := ih x (by omega) c3
   exact ⟨y, List.mem_cons_of_mem _ hy, h1⟩
theorem wearV_get (r : Int) (b0 : List Int) (ks : List Int) : ∀ (b : List Int) (at_ : Int), Same b0 b at_ → 0 ≤ at_ → isV b0 r at_ ks = true → ∀ j : Nat, j < b0.length → (wearV b ks).getD j 0 = if ((j : Int) + 1) ∈ ks then b.getD j 0 - 1 else b.getD j 0 := by
 induction ks with
 | nil => intro b at_ _ _ _ j _; simp [wearV]
 | cons x ks ih =>
  intro b at_ hs h0 h j hj
  obtain ⟨q1, q2, q3, q4⟩ := same_step hs h0 h
  obtain ⟨c1, c2, c3⟩ := isV_cons h
  have hl := hs.1
  have hget := set_get' b (x - 1).toNat j (b.getD (x - 1).toNat 0 - 1) (by omega)
  have hih := ih _ x q1 (by omega) c3 j hj
  have hw : wearV b (x :: ks) = wearV (b.set (x - 1).toNat (b.getD (x - 1).toNat 0 - 1)) ks := rfl
  rw [hw, hih, hget]
  by_cases e : (x - 1).toNat = j
  ·have hn : ¬ ((j : Int) + 1) ∈ ks := fun hm => by
    have := isV_up ks x c3 _ hm
    omega
   have hm : ((j : Int) + 1) ∈ x :: ks := by
    have : (j : Int) + 1 = x := by omega
    rw [this]
    exact List.mem_cons_self
   rw [if_neg hn, if_pos e, if_pos hm, e]
  ·rw [if_neg e]
   by_cases hm : ((j : Int) + 1) ∈ ks
   ·rw [if_pos hm, if_pos (List.mem_cons_of_mem _ hm)]
   ·rw [if_neg hm, if_neg (fun h2 => by
     rcases List.mem_cons.1 h2 with h3 | h3
     ·omega
     ·exact hm h3)]
theorem wear_good {l : List Int} {r : Int} {c : List Int} (hg : goodB l = true) (hz : isV l r 0 c = true) : goodB (wearV l c) = true := by
 obtain ⟨g1, g2, g3⟩ := goodB_bd hg
 have h := wearV_good r l c l 0 ⟨rfl, g3, fun _ _ => rfl⟩ (Int.le_refl 0) hz
 simp only [goodB, Bool.and_eq_true, decide_eq_true_eq, List.all_eq_true, wearV_length]
 refine ⟨⟨g1, g2⟩, fun x hx => ?_⟩
 simp only [okB, decide_eq_true_eq]
 exact h x hx
theorem wear_Lq {l : List Int} {r : Int} {c : List Int} (hg : goodB l = true) (hz : isV l r 0 c = true) : Lq (wearV l c) l := by
 obtain ⟨g1, g2, g3⟩ := goodB_bd hg
 refine ⟨wearV_length c l, fun i hi => ?_⟩
 rw [wearV_length] at hi
 rw [wearV_get r l c l 0 ⟨rfl, g3, fun _ _ => rfl⟩ (Int.le_refl 0) hz i hi]
 split <;> omega
theorem pre_strict {a b : List Int} (h : Lq a b) (i d j : Nat) (h1 : i ≤ j) (h2 : j < i + d) (h3 : i + d ≤ a.length) (h4 : a.getD j 0 < b.getD j 0) : pre a (i + d) - pre a i < pre b (i + d) - pre b i := by
 have e1 := pre_diff h (j - i) i (by omega)
 have e2 := pre_diff h (i + d - (j + 1)) (j + 1) (by omega)
 rw [show i + (j - i) = j by omega] at e1
 rw [show j + 1 + (i + d - (j + 1)) = i + d by omega] at e2
 have e3 := pre_succ a j (by omega)
 have e4 := pre_succ b j (by have := h.1; omega)
 omega
theorem wear_less {l : List Int} {n : Nat} {c : List Int} (hP : hasP l (n : Int) = true) (hz : isV l (n : Int) 0 c = true) : mostV (wearV l c) n < mostV l n := by
 obtain ⟨hg, h1, h2, h3⟩ := hasP_bd hP
 obtain ⟨g1, g2, g3⟩ := goodB_bd hg
 obtain ⟨i, i1, i2⟩ := mostV_at (l := l) (r := n) (by omega)
 obtain ⟨y, y1, y2, y3⟩ := isV_hits i1 c 0 (by omega) hz
 have hq := wear_Lq hg hz
 have hg2 := wearV_get (n : Int) l c l 0 ⟨rfl, g3, fun _ _ => rfl⟩ (Int.le_refl 0) hz (y - 1).toNat (by omega)
 rw [show (((y - 1).toNat : Nat) : Int) + 1 = y by omega, if_pos y1] at hg2
 have hl := wearV_length c l
 have h4 := pre_strict hq i n (y - 1).toNat (by omega) (by omega) (by omega) (by omega)
 have e1 := pre_part (wearV l c) n i
 have e2 := pre_part l n i
 have h5 := mostV_le (l := wearV l c) (r := n) (i := i) (by omega)
 omega
theorem weak_both2 (s : List Int) (m : Int) (hs : s.length ≤ 2000) : ∀ (d i : Nat), s.length - i = d → i ≤ s.length → m ∈ s.drop i →
  ∃ j : Nat, Ev (fun k => spec_WeakestPart.l0 k m s (s.length : Int) (i : Int)) ((j : Int) + 1, m, true) ∧ Ev (fun k => slices_Index_int_int.l0 k s m (s.length : Int) (i : Int)) (j : Int) ∧ j < s.length ∧ s.getD j 0 = m ∧ ∀ q, i ≤ q → q < j → ¬ s.getD q 0 = m := by
 intro d
 induction d with
 | zero =>
  intro i hd hi hm
  rw [List.drop_eq_nil_of_le (by omega)] at hm
  cases hm
 | succ d ih =>
  intro i hd hi hm
  rw [drop_cons s i (by omega)] at hm
  by_cases he : s.getD i 0 = m
  ·refine ⟨i, Ev.step (fun k => ?_) (Ev.now _), Ev.step (fun k => ?_) (Ev.now _), by omega, he, fun q q1 q2 => by omega⟩
   ·simp only [spec_WeakestPart.l0]
    rw [if_pos (by omega), if_pos (by omega), if_pos (by omega), rd_nat, if_pos he, wsucc i (by omega)]
    rfl
   ·simp only [slices_Index_int_int.l0]
    rw [if_pos (by omega), if_pos (by omega), if_pos (by omega), rd_nat, if_pos he.symm]
  ·have hm' : m ∈ s.drop (i + 1) := by
    rcases List.mem_cons.1 hm with h | h
    ·exact absurd h.symm he
    ·exact h
   obtain ⟨j, h1, h2, h3, h4, h5⟩ := ih (i + 1) (by omega) (by omega) hm'
   refine ⟨j, Ev.step (fun k => ?_) h1, Ev.step (fun k => ?_) h2, h3, h4, fun q q1 q2 => ?_⟩
   ·simp only [spec_WeakestPart.l0]
    rw [if_pos (by omega), if_pos (by omega), if_pos (by omega), rd_nat, if_neg he, wsucc i (by omega)]
   ·simp only [slices_Index_int_int.l0]
    rw [if_pos (by omega), if_pos (by omega), if_pos (by omega), rd_nat, if_neg (fun h => he h.symm), wsucc i (by omega)]
   ·rcases Nat.lt_or_ge i q with h6 | h6
    ·exact h5 q (by omega) q2
    ·obtain rfl : i = q := by omega
     exact he
def WeakI (l : List Int) (n : Nat) (p m : Int) : Prop := m = mostV l n ∧ ∃ j : Nat, p = (j : Int) + 1 ∧ j < (partsV l n).length ∧ (partsV l n).getD j 0 = mostV l n ∧ ∀ q, q < j → ¬ (partsV l n).getD q 0 = mostV l n
theorem weak_all (l : List Int) (r : Int) (hl : l.length ≤ 1048576) : ∃ p m, Ev (fun k => spec_WeakestPart.f k l r) (p, m, hasP l r) ∧ Ev (fun k => impl_WeakestPart.f k l r) (p, m, hasP l r) ∧ ∀ n : Nat, r = (n : Int) → hasP l r = true → WeakI l n p m := by
 unfold spec_WeakestPart.f impl_WeakestPart.f
 by_cases hP : hasP l r = true
 ·obtain ⟨r, rfl, h1, h2, h3, h4, h5, hb⟩ := hasP_facts hP
  have hlen : (partsV l r).length = l.length + 1 - r := partsV_length l r
  obtain ⟨j, hs, hi, hj, hj2, hj3⟩ := weak_both2 (partsV l r) (mostV l r) (by omega) _ 0 rfl (by omega) (by rw [List.drop_zero]; exact minV_mem (by omega))
  have hw : wrap64 ((j : Int) + 1) = (j : Int) + 1 := w_id (by omega) (by omega)
  have e1 := weEnds_ev l hl (r : Int)
  have e2 := hasParts_ev l hl (r : Int)
  rw [hP] at e1 e2
  rw [hP]
  refine ⟨(j : Int) + 1, mostV l r, Ev.bind e1 (Ev.ite_true rfl (Ev.bind (weMost_ev l (by omega) hb r h2 h3) (Ev.bind (wp_ev l (by omega) hb r h2) hs))),
    Ev.bind e2 (Ev.ite_true rfl (Ev.bind (mostWears_ev l (by omega) hb r h2 h3) (Ev.bind (ip_ev l (by omega) hb r h2) (Ev.bind (a := (j : Int)) hi ?_)))), fun n hn _ => ?_⟩
  ·rw [hw]
   exact Ev.now _
  ·obtain rfl : r = n := by omega
   exact ⟨rfl, j, rfl, hj, hj2, fun q hq => hj3 q (Nat.zero_le _) hq⟩
 ·have hP' : hasP l r = false := Bool.eq_false_iff.mpr hP
  have e1 := weEnds_ev l hl r
  have e2 := hasParts_ev l hl r
  rw [hP'] at e1 e2
  rw [hP']
  exact ⟨0, 0, Ev.bind e1 (Ev.ite_false rfl (Ev.now _)), Ev.bind e2 (Ev.ite_false rfl (Ev.now _)), fun n _ h => by cases h⟩
theorem parts_all (l : List Int) (r : Int) (hl : l.length ≤ 1048576) : ∃ ps, Ev (fun k => spec_PartsOfBears.f k l r) (ps, hasP l r) ∧ Ev (fun k => impl_PartsOfBears.f k l r) (ps, hasP l r) ∧ ps.length ≤ 1048576 ∧ ∀ n : Nat, r = (n : Int) → hasP l r = true → ps = partsV l n := by
 unfold spec_PartsOfBears.f impl_PartsOfBears.f
 by_cases hP : hasP l r = true
 ·obtain ⟨r, rfl, h1, h2, h3, h4, h5, hb⟩ := hasP_facts hP
  have e1 := weEnds_ev l hl (r : Int)
  have e2 := hasParts_ev l hl (r : Int)
  rw [hP] at e1 e2
  rw [hP]
  refine ⟨partsV l r, Ev.bind e1 (Ev.ite_true rfl (Ev.bind (wp_ev l (by omega) hb r h2) (Ev.now _))), Ev.bind e2 (Ev.ite_true rfl (Ev.bind (ip_ev l (by omega) hb r h2) (Ev.now _))), by rw [partsV_length]; omega, fun n hn _ => ?_⟩
  obtain rfl : r = n := by omega
  rfl
 ·have hP' : hasP l r = false := Bool.eq_false_iff.mpr hP
  have e1 := weEnds_ev l hl r
  have e2 := hasParts_ev l hl r
  rw [hP'] at e1 e2
  rw [hP']
  exact ⟨[], Ev.bind e1 (Ev.ite_false rfl (Ev.now _)), Ev.bind e2 (Ev.ite_false rfl (Ev.now _)), by simp, fun n _ h => by cases h⟩
def DayI (l : List Int) (g e d p : Int) (b : Bool) : Prop := b = true → ∃ n : Nat, g = (n : Int) ∧ hasP l g = true ∧ 1 ≤ e ∧ e ≤ 1000 ∧ d = wrap64 (Int.tdiv (mostV l n) e) ∧ p = Int.tmod (mostV l n) e
theorem days_all (l : List Int) (r e : Int) (hl : l.length ≤ 1048576) : ∃ d p b, Ev (fun k => spec_DaysOfWear.f k l r e) (d, p, b) ∧ Ev (fun k => impl_DaysOfWear.f k l r e) (d, p, b) ∧ DayI l r e d p b := by
 unfold spec_DaysOfWear.f impl_DaysOfWear.f
 simp only [in_val, within_val, Option.bind_some]
 by_cases hP : hasP l r = true
 ·obtain ⟨r, rfl, h1, h2, h3, h4, h5, hb⟩ := hasP_facts hP
  by_cases he : 1 ≤ e ∧ e ≤ 1000
  ·have hd := decide_eq_true he
   exact ⟨wrap64 (Int.tdiv (mostV l r) e), Int.tmod (mostV l r) e, true,
    Ev.bind (weEnds_ev l hl r) (Ev.ite_true hP (Ev.ite_true hd (Ev.bind (weMost_ev l (by omega) hb r h2 h3) (by simp only [if_neg (show ¬ e = 0 by omega)]; exact Ev.now _)))),
    Ev.bind (hasParts_ev l hl r) (Ev.ite_true hP (Ev.ite_true hd (Ev.bind (mostWears_ev l (by omega) hb r h2 h3) (by simp only [if_neg (show ¬ e = 0 by omega)]; exact Ev.now _)))), fun _ => ⟨r, rfl, hP, he.1, he.2, rfl, rfl⟩⟩
  ·have hd := decide_eq_false he
   exact ⟨0, 0, false, Ev.bind (weEnds_ev l hl r) (Ev.ite_true hP (Ev.ite_false hd (Ev.now _))), Ev.bind (hasParts_ev l hl r) (Ev.ite_true hP (Ev.ite_false hd (Ev.now _))), fun h => by cases h⟩
 ·have hP' : hasP l r = false := Bool.eq_false_iff.mpr hP
  exact ⟨0, 0, false, Ev.bind (weEnds_ev l hl r) (Ev.ite_false hP' (Ev.now _)), Ev.bind (hasParts_ev l hl r) (Ev.ite_false hP' (Ev.now _)), fun h => by cases h⟩
def StrI (l : List Int) (w : Int) : Prop := ∃ b : Nat, w = (b : Int) + 1 ∧ b < l.length ∧ (∀ j, j < l.length → l.getD j 0 ≤ l.getD b 0) ∧ ∀ j, j < b → l.getD j 0 < l.getD b 0
theorem strong_all (l : List Int) (hl : l.length ≤ 1048576) : ∃ w, Ev (fun k => spec_StrongestStep.f k l) (w, goodB l) ∧ Ev (fun k => impl_StrongestStep.f k l) (w, goodB l) ∧ (goodB l = true → StrI l w) := by
 unfold spec_StrongestStep.f impl_StrongestStep.f
 have E1 := weGood_ev l hl
 have E2 := areBears_ev l hl
 by_cases hg : goodB l = true
 ·obtain ⟨g1, g2, g3⟩ := goodB_bd hg
  obtain ⟨b, hs, hb, h1, h2⟩ := strong_l l (by omega) _ 0 0 rfl (by omega) (by omega) (fun j hj => by omega) (fun j hj => by omega)
  have hM : (l.drop 1).foldl mx (l.getD 0 0) = l.getD b 0 := by
   obtain ⟨k1, k2, k3⟩ := foldl_mx_ge (l.drop 1) (l.getD 0 0)
   have up : (l.drop 1).foldl mx (l.getD 0 0) ≤ l.getD b 0 := by
    rcases k3 with k3 | k3
    ·rw [k3]; exact h1 0 (by omega)
    ·obtain ⟨j, hj, e⟩ := mem_getD (List.mem_of_mem_drop k3)
     rw [← e]; exact h1 j hj
   have dn : l.getD b 0 ≤ (l.drop 1).foldl mx (l.getD 0 0) := by
    have hmem := getD_mem hb
    have hc : l = l.getD 0 0 :: l.drop 1 := by
     have := drop_cons l 0 (by omega)
     rwa [List.drop_zero] at this
    rw [hc] at hmem
    rcases List.mem_cons.1 hmem with h | h
    ·rw [← hc] at h; omega
    ·rw [← hc] at h; exact k2 _ h
   omega
  have hmax := max_l l (by omega) _ 1 (l.getD 0 0) rfl (by omega)
  rw [hM] at hmax
  have hix := index_l l (by omega) b hb h2 _ 0 rfl (by omega)
  have hw := wsucc b (by omega)
  rw [hg] at E1 E2
  rw [hg]
  refine ⟨(b : Int) + 1, Ev.bind E1 (Ev.ite_true rfl hs), Ev.bind E2 (Ev.ite_true rfl (Ev.bind (a := l.getD b 0) ?_ (Ev.bind (a := (b : Int)) ?_ ?_))), fun _ => ⟨b, rfl, hb, h1, h2⟩⟩
  ·unfold slices_Max_int_int.f
   refine Ev.congr (fun k => ?_) hmax
   rw [if_neg (by omega), if_pos (by omega)]
   rfl
  ·unfold slices_Index_int_int.f
   exact hix
  ·rw [hw]
   exact Ev.now _
 ·have hg' : goodB l = false := Bool.eq_false_iff.mpr hg
  rw [hg'] at E1 E2
  rw [hg']
  exact ⟨0, Ev.bind E1 (Ev.ite_false rfl (Ev.now _)), Ev.bind E2 (Ev.ite_false rfl (Ev.now _)), fun h => by cases h⟩
theorem text_all (l : List Int) (hl : l.length ≤ 1048576) : ∃ t, Ev (fun k => spec_BearsText.f k l) (t, goodB l) ∧ Ev (fun k => impl_BearsText.f k l) (t, goodB l) ∧ (goodB l = true → t = mkb (jn 45 l)) := by
 unfold spec_BearsText.f impl_BearsText.f
 have E1 := weGood_ev l hl
 have E2 := areBears_ev l hl
 by_cases hg : goodB l = true
 ·obtain ⟨h1, h2, h3⟩ := goodB_bd hg
  have hb : ∀ x ∈ l, 0 ≤ x ∧ x ≤ 999999 := fun x hx => by have := h3 x hx; omega
  rw [hg] at E1 E2
  rw [hg]
  exact ⟨mkb (jn 45 l), Ev.bind E1 (Ev.ite_true rfl (Ev.bind (wt_ev l (by omega) hb) (Ev.now _))), Ev.bind E2 (Ev.ite_true rfl (Ev.bind (joined_ev 45 l (by omega) hb) (Ev.now _))), fun _ => rfl⟩
 ·have hg' : goodB l = false := Bool.eq_false_iff.mpr hg
  rw [hg'] at E1 E2
  rw [hg']
  exact ⟨_, Ev.bind E1 (Ev.ite_false rfl (Ev.now _)), Ev.bind E2 (Ev.ite_false rfl (Ev.now _)), fun h => by cases h⟩
theorem turn_all (l : List Int) (hl : l.length ≤ 1048576) : ∃ t, Ev (fun k => spec_TurnBears.f k l) (t, goodB l) ∧ Ev (fun k => impl_TurnBears.f k l) (t, goodB l) ∧ t.length ≤ 1048576 ∧ (goodB l = true → t = l.reverse) := by
 unfold spec_TurnBears.f impl_TurnBears.f
 have E1 := weGood_ev l hl
 have E2 := areBears_ev l hl
 by_cases hg : goodB l = true
 ·obtain ⟨g1, g2, g3⟩ := goodB_bd hg
  have w : wrap64 ((l.length : Int) - 1) = (l.length : Int) - 1 := w_id (by omega) (by omega)
  have hs := turn_l l (by omega) l.length [] (Nat.le_refl _) (by simp; omega)
  rw [List.take_length, List.nil_append] at hs
  have hr := reverse_l l (by omega) g1 _ 0 rfl (by omega)
  rw [mixL_zero] at hr
  have e : ((l.length - 1 - 0 : Nat) : Int) = (l.length : Int) - 1 := by omega
  rw [e] at hr
  rw [hg] at E1 E2
  rw [hg]
  refine ⟨l.reverse, Ev.bind E1 (Ev.ite_true rfl ?_), Ev.bind E2 (Ev.ite_true rfl ?_), by rw [List.length_reverse]; exact hl, fun _ => rfl⟩
  ·rw [w]
   exact hs
  ·rw [clone_val l hl]
   simp only [Option.bind_some]
   refine Ev.bind (a := l.reverse) ?_ (Ev.now _)
   unfold slices_Reverse_int_int.f
   rw [w]
   exact hr
 ·have hg' : goodB l = false := Bool.eq_false_iff.mpr hg
  rw [hg'] at E1 E2
  rw [hg']
  exact ⟨[], Ev.bind E1 (Ev.ite_false rfl (Ev.now _)), Ev.bind E2 (Ev.ite_false rfl (Ev.now _)), by simp, fun h => by cases h⟩
def ParI (s : ByteArray) (w : List Int) (b : Bool) : Prop := b = true → goodB w = true ∧ mkb (jn 45 w) = s
theorem parse_all (l : List UInt8) (hs : l.length ≤ 1048576) : ∃ w, Ev (fun k => spec_ParseBears.f k (mkb l)) (w, goodB (vl (sp 45 l))) ∧ Ev (fun k => impl_ParseBears.f k (mkb l)) (w, goodB (vl (sp 45 l))) ∧ w.length ≤ 1048576 ∧ (goodB (vl (sp 45 l)) = true → w = vl (sp 45 l) ∧ jn 45 w = l) := by
 have hw := sp_len 45 l
 have hv := vl_len (sp 45 l)
 have hsp := spsplit_ev l hs 45
 have hn := nums_ev l hs 45
 have loop := fun r h => pb_l (mkb l) (sp 45 l) (by omega) r h _ 0 rfl (Nat.zero_le _)
 unfold spec_ParseBears.f impl_ParseBears.f
 rw [mkb_size]
 by_cases hg : goodB (vl (sp 45 l)) = true
 ·obtain ⟨h1, h2, h3⟩ := goodB_bd hg
  have h0 : ∀ x ∈ vl (sp 45 l), 0 ≤ x := fun x hx => (h3 x hx).1
  have hb : ∀ x ∈ vl (sp 45 l), 0 ≤ x ∧ x ≤ 999999 := fun x hx => by have := h3 x hx; omega
  have hj := jn_vl 45 l h0
  have hlen : l.length ≤ 80 := by
   rcases jn_few 45 3 (by omega) (vl (sp 45 l)) (fun x hx => by have := h3 x hx; omega) with h | h
   ·rw [hj] at h
    omega
   ·rw [h] at h1
    simp at h1
  rw [if_pos (alln_mem.mpr h0)] at hn
  have E1 := weGood_ev (vl (sp 45 l)) (by omega)
  have E2 := areBears_ev (vl (sp 45 l)) (by omega)
  rw [hg] at E1 E2
  rw [hg]
  refine ⟨vl (sp 45 l), Ev.congr (fun k => if_neg (by omega)) (Ev.bind hsp ?_), Ev.bind hn (Ev.ite_true rfl (Ev.bind E2 (Ev.ite_true rfl (Ev.now _)))), by omega, fun _ => ⟨rfl, hj⟩⟩
  rw [List.length_map]
  refine loop _ (Ev.bind E1 (Ev.ite_true rfl (Ev.bind (wt_ev _ (by omega) hb) (Ev.congr (fun k => ?_) (Ev.now _)))))
  rw [hj, if_pos rfl]
 ·have hg' : goodB (vl (sp 45 l)) = false := Bool.eq_false_iff.mpr hg
  rw [hg']
  refine ⟨[], ?_, ?_, by simp, fun h => by cases h⟩
  ·by_cases hl : l.length > 80
   ·exact Ev.congr (fun k => if_pos (by omega)) (Ev.now _)
   ·refine Ev.congr (fun k => if_neg (by omega)) (Ev.bind hsp ?_)
    rw [List.length_map]
    have E1 := weGood_ev (vl (sp 45 l)) (by omega)
    rw [hg'] at E1
    exact loop _ (Ev.bind E1 (Ev.ite_false rfl (Ev.now _)))
  ·by_cases ha : alln (vl (sp 45 l)) = true
   ·rw [if_pos ha] at hn
    have hj := jn_vl 45 l (alln_mem.mp ha)
    have hge := jn_ge 45 (vl (sp 45 l))
    rw [hj] at hge
    have E2 := areBears_ev (vl (sp 45 l)) (by omega)
    rw [hg'] at E2
    exact Ev.bind hn (Ev.ite_true rfl (Ev.bind E2 (Ev.ite_false rfl (Ev.now _))))
   ·rw [if_neg ha] at hn
    exact Ev.bind hn (Ev.ite_false rfl (Ev.now _))
/-- Pieces put together are found again. -/
theorem sp_jb (b : UInt8) : ∀ (ws : List (List UInt8)) (w : List UInt8), b ∉ w → (∀ x ∈ ws, b ∉ x) → sp b (jb b (w :: ws)) = w :: ws := by
 intro ws
 induction ws with
 | nil =>
  intro w hw _
  simp only [jb, List.map_nil, List.flatten_nil, List.append_nil]
  exact sp_miss b w hw
 | cons x ws ih =>
  intro w hw h
  have h2 := ih x (h x List.mem_cons_self) (fun y hy => h y (List.mem_cons_of_mem _ hy))
  simp only [jb, List.map_cons, List.flatten_cons] at h2 ⊢
  rw [List.cons_append, sp_hit b _ w hw, h2]
theorem vl_jn (u : List Int) (hu : 1 ≤ u.length) (hb : ∀ x ∈ u, 0 ≤ x ∧ x ≤ 999999) : vl (sp 45 (jn 45 u)) = u := by
 have hd : ∀ x : Int, (45 : UInt8) ∉ dd x.toNat := fun x hm => by
  have := dd_dig x.toNat x.toNat (Nat.le_refl _) 45 hm
  have e : (45 : UInt8).toNat = 45 := by decide
  omega
 have hs : sp 45 (jn 45 u) = u.map (fun x => dd x.toNat) := by
  rw [← jb_jn]
  cases u with
  | nil => simp at hu
  | cons x u =>
   rw [List.map_cons]
   refine sp_jb 45 _ _ (hd x) (fun y hy => ?_)
   obtain ⟨z, _, rfl⟩ := List.mem_map.1 hy
   exact hd z
 rw [hs]
 unfold vl
 rw [List.map_map]
 have : ∀ x ∈ u, ((fun w => numV (mkb w)) ∘ fun x : Int => dd x.toNat) x = x := fun x hx => by
  have h := hb x hx
  simp only [Function.comp]
  rw [numV_can x.toNat (by omega)]
  omega
 rw [List.map_congr_left this]
 simp
theorem read_back (u : List Int) (hg : goodB u = true) : Ev (fun k => impl_ParseBears.f k (mkb (jn 45 u))) (u, true) := by
 obtain ⟨h1, h2, h3⟩ := goodB_bd hg
 have hb : ∀ x ∈ u, 0 ≤ x ∧ x ≤ 999999 := fun x hx => by have := h3 x hx; omega
 have hj := jn_len 45 u hb
 obtain ⟨w, _, e, _, h⟩ := parse_all (jn 45 u) (by omega)
 rw [vl_jn u h1 hb, hg] at e
 rw [vl_jn u h1 hb] at h
 rw [(h hg).1] at e
 exact e
/-- A text that was read is told again. -/
theorem fin_ev (read : List Int) (b : Bool) (t : ByteArray) (hl : read.length ≤ 1048576) (h : ParI t read b) : Ev (fun k => if b = true then ((impl_BearsText.f k read).bind fun bt => (if bt.2 = true then (some (bt.1.toList == t.toList)) else (some false))) else (some true)) true := by
 cases b with
 | false => exact Ev.ite_false rfl (Ev.now _)
 | true =>
  obtain ⟨h1, h2⟩ := h rfl
  obtain ⟨s, _, e, h3⟩ := text_all read hl
  rw [h1] at e
  refine Ev.ite_true rfl (Ev.bind e (Ev.ite_true rfl ?_))
  rw [h3 h1, h2]
  simp only [beq_self_eq_true]
  exact Ev.now _
theorem x13 (u : List Int) (t : ByteArray) (strong : Int) (read : List Int) (b : Bool) (hu : u.length ≤ 1000) (hr : read.length ≤ 1048576) (hS : StrI u strong) (hP : ParI t read b) : ∀ (d i : Nat), u.length - i = d → i ≤ u.length →
  Ev (fun k => laws_FnStepsWornOfAll.l3 k u t strong read b u (u.length : Int) (i : Int)) true := by
 intro d
 obtain ⟨q, rfl, q1, q2, q3⟩ := hS
 have hw : wrap64 ((q : Int) + 1 - 1) = (q : Int) := by rw [Int.add_sub_cancel]; exact w_id (by omega) (by omega)
 induction d with
 | zero =>
  intro i hd hi
  refine Ev.step (fun k => ?_) (fin_ev read b t hr hP)
  simp only [laws_FnStepsWornOfAll.l3]
  rw [if_neg (by omega)]
 | succ d ih =>
  intro i hd hi
  have h1 := q2 i (by omega)
  refine Ev.step (fun k => ?_) (ih (i + 1) (by omega) (by omega))
  simp only [laws_FnStepsWornOfAll.l3]
  rw [if_pos (by omega), if_pos (by omega), if_pos (by omega), hw, if_pos (by omega), if_pos (by omega), rd_nat, rd_nat, if_neg (by omega), wsucc i (by omega)]
  by_cases he : u.getD i 0 = u.getD q 0
  ·rw [if_pos he, if_neg (fun h => by
    have := q3 i (by omega)
    omega)]
  ·rw [if_neg he]
theorem x11 (u : List Int) (t : ByteArray) (strong : Int) (text : ByteArray) (read : List Int) (b : Bool) (hr : read.length ≤ 1048576) (hS : goodB u = true → StrI u strong ∧ text = mkb (jn 45 u)) (hP : ParI t read b) :
  Ev (fun k => laws_FnStepsWornOfAll.j11 k u t strong text (goodB u) read b) true := by
 by_cases hg : goodB u = true
 ·obtain ⟨h1, h2, h3⟩ := goodB_bd hg
  obtain ⟨s1, rfl⟩ := hS hg
  obtain ⟨K, e⟩ := read_back u hg
  obtain ⟨K2, e2⟩ := wSame_ev u (by omega)
  obtain ⟨K3, e3⟩ := x13 u t strong read b (by omega) hr s1 hP _ 0 rfl (Nat.zero_le _)
  dsimp only at e e2 e3
  refine ⟨K + K2 + K3 + 2, fun k hk => ?_⟩
  obtain ⟨k, rfl⟩ : ∃ j, k = j + 2 := ⟨k - 2, by omega⟩
  simp only [laws_FnStepsWornOfAll.j11]
  rw [if_pos hg, e (k + 1) (by omega)]
  simp only [Option.bind_some, if_true]
  rw [e2 (k + 1) (by omega)]
  simp only [Option.bind_some, Bool.not_true, laws_FnStepsWornOfAll.j12]
  rw [if_neg (by simp)]
  exact e3 k (by omega)
 ·refine Ev.step (fun k => ?_) (fin_ev read b t hr hP)
  simp only [laws_FnStepsWornOfAll.j11]
  rw [if_neg hg]
theorem x10 (u w : List Int) (g each : Int) (t : ByteArray) (days rest : Int) (eleven : Bool) (strong : Int) (text : ByteArray) (fifteen : Bool) (read : List Int) (b : Bool) (hw : w.length ≤ 1048576) (hD : DayI w g each days rest eleven)
  (T : Ev (fun k => laws_FnStepsWornOfAll.j11 k u t strong text fifteen read b) true) : Ev (fun k => laws_FnStepsWornOfAll.j10 k u w g each t days rest eleven strong text fifteen read b) true := by
 cases eleven with
 | false =>
  refine Ev.step (fun k => ?_) T
  simp only [laws_FnStepsWornOfAll.j10]
  exact if_neg (by simp)
 | true =>
  obtain ⟨n, rfl, hP, e1, e2, rfl, rfl⟩ := hD rfl
  obtain ⟨n', hn', h1, h2, h3, h4, h5, hb⟩ := hasP_facts hP
  obtain rfl : n = n' := by omega
  have hm := mostV_bd hb h2 h3
  obtain ⟨M, hM⟩ : ∃ M, M = mostV w n := ⟨_, rfl⟩
  rw [← hM] at hm ⊢
  have a1 : Int.tdiv M each = M / each := Int.tdiv_eq_ediv_of_nonneg hm.1
  have a2 : Int.tmod M each = M % each := Int.tmod_eq_emod_of_nonneg hm.1
  have b1 : 0 ≤ M / each := Int.ediv_nonneg hm.1 (by omega)
  have b2 : M / each ≤ M := Int.ediv_le_self _ hm.1
  have b3 : 0 ≤ M % each := Int.emod_nonneg _ (by omega)
  have b4 : M % each < each := Int.emod_lt_of_pos _ (by omega)
  have b5 : M / each * each + M % each = M := Int.ediv_mul_add_emod M each
  have c1 : wrap64 (M / each) = M / each := w_id (by omega) (by omega)
  have c2 : wrap64 (M / each * each) = M / each * each := w_id (by omega) (by omega)
  have c3 : wrap64 (M / each * each + M % each) = M := by rw [b5]; exact w_id (by omega) (by omega)
  obtain ⟨K, e⟩ := mostw_ev w n hw hP
  obtain ⟨K2, e2⟩ := T
  dsimp only at e e2
  refine ⟨K + K2 + 1, fun k hk => ?_⟩
  obtain ⟨k, rfl⟩ : ∃ j, k = j + 1 := ⟨k - 1, by omega⟩
  simp only [laws_FnStepsWornOfAll.j10, if_true]
  rw [e k (by omega), ← hM, a1, a2, c1, c2, c3]
  simp only [Option.bind_some, if_true]
  rw [if_neg (by omega), if_neg (by omega), if_neg (by omega)]
  exact e2 k (by omega)
theorem canW_mk {l : List Int} {r : Int} (hg : goodB l = true) (h1 : 1 ≤ r) (h2 : r ≤ 20) : canW l r = true := by
 rw [canW, hg, decide_eq_true ⟨h1, h2⟩]
 rfl
theorem x2 (u : List Int) (s : Int) (w : List Int) (g each : Int) (t : ByteArray) (fin : List Int) (days rest : Int) (eleven : Bool) (strong : Int) (text : ByteArray) (fifteen : Bool) (read : List Int) (b : Bool) (l : List (List Int)) (hl : l.length ≤ 1048576) (hc : ∀ c ∈ l, c.length ≤ 9223372036854775807)
  (T : Ev (fun k => laws_FnStepsWornOfAll.j10 k u w g each t days rest eleven strong text fifteen read b) true) : ∀ (cs : List (List Int)) (i : Nat) (now : List Int), l.drop i = cs → i ≤ l.length → canW now s = true → wearAllV s now cs = some fin →
  Ev (fun k => laws_FnStepsWornOfAll.l2 k u s w g each t fin days rest eleven strong text fifteen read b now l (l.length : Int) (i : Int)) true := by
 intro cs
 induction cs with
 | nil =>
  intro i now hd hi hW hw
  have hl0 : l.length - i = 0 := by
   have := congrArg List.length hd
   rwa [List.length_drop] at this
  simp only [wearAllV, Option.some.injEq] at hw
  subst hw
  obtain ⟨hg, r1, r2⟩ := canW_bd hW
  obtain ⟨g1, g2, g3⟩ := goodB_bd hg
  refine Ev.step (f := fun k => (laws_wSame.f k now now).bind fun t430 => if t430 = true then laws_FnStepsWornOfAll.j10 k u w g each t days rest eleven strong text fifteen read b else some false) (fun k => ?_) (Ev.bind (wSame_ev now (by omega)) (Ev.ite_true rfl T))
  simp only [laws_FnStepsWornOfAll.l2]
  rw [if_neg (by omega)]
 | cons c cs ih =>
  intro i now hd hi hW hw
  have hl0 : l.length - i = cs.length + 1 := by
   have := congrArg List.length hd
   rwa [List.length_drop, List.length_cons] at this
  have hx : l.getD i [] = c := by
   rw [dropL_cons l i (by omega)] at hd
   exact (List.cons.inj hd).1
  have hd' : l.drop (i + 1) = cs := by
   rw [dropL_cons l i (by omega)] at hd
   exact (List.cons.inj hd).2
  have hcm : c ∈ l := List.mem_of_mem_drop (i := i) (by rw [hd]; exact List.mem_cons_self)
  obtain ⟨hg, r1, r2⟩ := canW_bd hW
  obtain ⟨g1, g2, g3⟩ := goodB_bd hg
  simp only [wearAllV] at hw
  by_cases hz : isV now s 0 c = true
  ·rw [if_pos hz] at hw
   have hB : byB now s c = true := by rw [byB, hW, hz]; rfl
   have e := (by_all now s c (by omega) (hc c hcm)).2
   rw [byV, hB, if_pos rfl] at e
   have hrec := ih (i + 1) (wearV now c) hd' (by omega) (canW_mk (wear_good hg hz) r1 r2) hw
   refine Ev.step (f := fun k => (impl_WearBy.f k now s c).bind fun bt426 => if bt426.2 = true then laws_FnStepsWornOfAll.l2 k u s w g each t fin days rest eleven strong text fifteen read b bt426.1 l (l.length : Int) ((i + 1 : Nat) : Int) else some false) (fun k => ?_) (Ev.bind e (Ev.ite_true rfl hrec))
   simp only [laws_FnStepsWornOfAll.l2]
   rw [if_pos (by omega), if_pos (by omega), if_pos (by omega), rdL_nat, hx, wsucc i (by omega)]
  ·rw [if_neg hz] at hw
   cases hw
theorem x8 (u v : List Int) (s : Int) (cs : List (List Int)) (w : List Int) (g each : Int) (t : ByteArray) (fin : List Int) (nine : Bool) (days rest : Int) (eleven : Bool) (strong : Int) (text : ByteArray) (fifteen : Bool) (read : List Int) (b : Bool) (hl : cs.length ≤ 1048576) (hc : ∀ c ∈ cs, c.length ≤ 9223372036854775807)
  (h9 : nine = true → canW v s = true ∧ wearAllV s v cs = some fin)
  (T : Ev (fun k => laws_FnStepsWornOfAll.j10 k u w g each t days rest eleven strong text fifteen read b) true) : Ev (fun k => laws_FnStepsWornOfAll.j8 k u v s cs w g each t fin nine days rest eleven strong text fifteen read b) true := by
 cases nine with
 | false =>
  refine Ev.step (fun k => ?_) T
  simp only [laws_FnStepsWornOfAll.j8]
  exact if_neg (by simp)
 | true =>
  obtain ⟨h1, h2⟩ := h9 rfl
  refine Ev.step (fun k => ?_) (x2 u s w g each t fin days rest eleven strong text fifteen read b cs hl hc T cs 0 v rfl (Nat.zero_le _) h1 h2)
  simp only [laws_FnStepsWornOfAll.j8]
  exact if_pos trivial
theorem partsV_get (l : List Int) (r i : Nat) (h : i < l.length + 1 - r) : (partsV l r).getD i 0 = partAt l r i := by
 rw [List.getD_eq_getElem?_getD, List.getElem?_eq_getElem (by rw [partsV_length]; exact h)]
 simp [partsV]
theorem x1 (u : List Int) (n : Nat) (v : List Int) (s : Int) (cs : List (List Int)) (w : List Int) (g each : Int) (t : ByteArray) (p m : Int) (fin : List Int) (nine : Bool) (days rest : Int) (eleven : Bool) (strong : Int) (text : ByteArray) (fifteen : Bool) (read : List Int) (b : Bool) (hP : hasP u (n : Int) = true) (hW : WeakI u n p m)
  (T : Ev (fun k => laws_FnStepsWornOfAll.j8 k u v s cs w g each t fin nine days rest eleven strong text fifteen read b) true) : ∀ (d i : Nat), (partsV u n).length - i = d → i ≤ (partsV u n).length →
  Ev (fun k => laws_FnStepsWornOfAll.l1 k u (n : Int) v s cs w g each t p m fin nine days rest eleven strong text fifteen read b (partsV u n) ((partsV u n).length : Int) (i : Int)) true := by
 obtain ⟨n', hn', h1, h2, h3, h4, h5, hb⟩ := hasP_facts hP
 obtain rfl : n = n' := by omega
 obtain ⟨rfl, q, rfl, q1, q2, q3⟩ := hW
 have hlen := partsV_length u n
 intro d
 induction d with
 | zero =>
  intro i hd hi
  refine Ev.step (fun k => ?_) T
  simp only [laws_FnStepsWornOfAll.l1]
  rw [if_neg (by omega)]
 | succ d ih =>
  intro i hd hi
  obtain ⟨K, e⟩ := wSum_ev ((u.take (i + n)).drop i) (by rw [List.length_drop, List.length_take]; omega) (fun x hx => hb x (cut_mem hx))
  obtain ⟨K2, e2⟩ := ih (i + 1) (by omega) (by omega)
  dsimp only at e e2
  have a1 := partsV_get u n i (by omega)
  have a2 : partAt u n i = ((u.take (i + n)).drop i).sum := rfl
  have a3 := mostV_le (l := u) (r := n) (i := i) (by omega)
  refine ⟨K + K2 + 1, fun k hk => ?_⟩
  obtain ⟨k, rfl⟩ : ∃ j, k = j + 1 := ⟨k - 1, by omega⟩
  simp only [laws_FnStepsWornOfAll.l1]
  rw [if_pos (by omega), if_pos (by omega), if_pos (by omega), w_add i n (by omega) (by omega), if_pos (by omega), if_pos (by omega), Int.toNat_natCast, Int.toNat_natCast, e k (by omega), rd_nat]
  simp only [Option.bind_some]
  rw [if_pos (by omega), if_neg (by omega), wsucc i (by omega), e2 k (by omega)]
  by_cases he : (partsV u n).getD i 0 = mostV u n
  ·rw [if_pos he, if_neg (fun h => q3 i (by omega) he)]
  ·rw [if_neg he]
theorem rev_get (l : List Int) (j : Nat) (h : j < l.length) : l.reverse.getD j 0 = l.getD (l.length - 1 - j) 0 := by
 rw [List.getD_eq_getElem?_getD, List.getElem?_reverse h, List.getD_eq_getElem?_getD]
theorem pre_rev (l : List Int) : ∀ j, j ≤ l.length → pre l.reverse j = l.sum - pre l (l.length - j) := by
 intro j
 induction j with
 | zero =>
  intro _
  rw [pre_zero, Nat.sub_zero, pre_all]
  omega
 | succ j ih =>
  intro h
  have h1 := ih (by omega)
  have h2 := pre_succ l.reverse j (by rw [List.length_reverse]; omega)
  have h3 := pre_succ l (l.length - (j + 1)) (by omega)
  rw [rev_get l j (by omega), show l.length - 1 - j = l.length - (j + 1) by omega] at h2
  rw [show l.length - (j + 1) + 1 = l.length - j by omega] at h3
  omega
theorem part_rev (l : List Int) (r i : Nat) (h : i + r ≤ l.length) : partAt l.reverse r (l.length - r - i) = partAt l r i := by
 have e1 := pre_part l.reverse r (l.length - r - i)
 have e2 := pre_part l r i
 have e3 := pre_rev l (l.length - r - i + r) (by omega)
 have e4 := pre_rev l (l.length - r - i) (by omega)
 rw [show l.length - (l.length - r - i + r) = i by omega] at e3
 rw [show l.length - (l.length - r - i) = i + r by omega] at e4
 omega
theorem most_rev_le (l : List Int) (r : Nat) (h : r ≤ l.length) : mostV l.reverse r ≤ mostV l r := by
 obtain ⟨i, h1, h2⟩ := mostV_at h
 have h3 := part_rev l r i h1
 have h4 := mostV_le (l := l.reverse) (r := r) (i := l.length - r - i) (by rw [List.length_reverse]; omega)
 omega
theorem most_rev (l : List Int) (r : Nat) (h : r ≤ l.length) : mostV l.reverse r = mostV l r := by
 have h1 := most_rev_le l r h
 have h2 := most_rev_le l.reverse r (by rw [List.length_reverse]; exact h)
 rw [List.reverse_reverse] at h2
 omega
theorem hasP_rev {l : List Int} {r : Int} (h : hasP l r = true) : hasP l.reverse r = true := by
 obtain ⟨hg, h1, h2, h3⟩ := hasP_bd h
 obtain ⟨g1, g2, g3⟩ := goodB_bd hg
 have hs : goodB l.reverse = true := by
  simp only [goodB, Bool.and_eq_true, decide_eq_true_eq, List.all_eq_true, List.length_reverse, List.mem_reverse]
  refine ⟨⟨g1, g2⟩, fun x hx => ?_⟩
  simp only [okB, decide_eq_true_eq]
  exact g3 x hx
 simp only [hasP, canW, hs, Bool.true_and, Bool.and_eq_true, decide_eq_true_eq, List.length_reverse]
 omega
theorem x5 (u : List Int) (q : Int) (v : List Int) (s : Int) (cs : List (List Int)) (w : List Int) (g each : Int) (t : ByteArray) (p m : Int) (parts fin : List Int) (nine : Bool) (days rest : Int) (eleven : Bool) (strong : Int) (text : ByteArray) (fifteen : Bool) (turned read : List Int) (b : Bool) (hu : u.length ≤ 1048576)
  (hW : ∀ n : Nat, q = (n : Int) → hasP u q = true → WeakI u n p m) (hp : ∀ n : Nat, q = (n : Int) → hasP u q = true → parts = partsV u n) (ht : goodB u = true → turned = u.reverse)
  (T : Ev (fun k => laws_FnStepsWornOfAll.j8 k u v s cs w g each t fin nine days rest eleven strong text fifteen read b) true) :
  Ev (fun k => laws_FnStepsWornOfAll.j5 k u q v s cs w g each t p m (hasP u q) parts fin nine days rest eleven strong text fifteen turned read b false) true := by
 by_cases hP : hasP u q = true
 ·obtain ⟨n, rfl, h1, h2, h3, h4, h5, hb⟩ := hasP_facts hP
  have hWk := hW n rfl hP
  obtain rfl := hp n rfl hP
  obtain rfl := ht (hasP_bd hP).1
  have hl1 := x1 u n v s cs w g each t p m fin nine days rest eleven strong text fifteen read b hP hWk T _ 0 rfl (Nat.zero_le _)
  obtain ⟨rfl, j, rfl, q1, q2, q3⟩ := hWk
  have hlen := partsV_length u n
  have hmr := most_rev u n h3
  obtain ⟨K, e⟩ := mostw_ev u n hu hP
  obtain ⟨K2, e2⟩ := mostw_ev u.reverse n (by rw [List.length_reverse]; exact hu) (hasP_rev hP)
  obtain ⟨K3, e3⟩ := hl1
  dsimp only at e e2 e3
  rw [hmr] at e2
  have w1 : wrap64 ((u.length : Int) - (n : Int)) = (u.length : Int) - (n : Int) := w_id (by omega) (by omega)
  have w2 : wrap64 ((u.length : Int) - (n : Int) + 1) = (u.length : Int) - (n : Int) + 1 := w_id (by omega) (by omega)
  have w3 : wrap64 ((j : Int) + 1 - 1) = (j : Int) := by rw [Int.add_sub_cancel]; exact w_id (by omega) (by omega)
  have w4 : ((partsV u n).getD j 0 != mostV u n) = false := by rw [q2]; simp
  refine ⟨K + K2 + K3 + 2, fun k hk => ?_⟩
  obtain ⟨k, rfl⟩ : ∃ j, k = j + 2 := ⟨k - 2, by omega⟩
  simp only [laws_FnStepsWornOfAll.j5]
  rw [if_neg (by simp), if_pos hP, e (k + 1) (by omega), e2 (k + 1) (by omega)]
  simp only [Option.bind_some, if_true]
  rw [w1, w2, w3, if_pos (by omega), if_neg (by omega), if_neg (by omega), if_pos (by omega), if_pos (by omega), rd_nat, w4]
  simp only [laws_FnStepsWornOfAll.j6]
  rw [if_neg (by simp)]
  exact e3 k (by omega)
 ·refine Ev.step (fun k => ?_) T
  simp only [laws_FnStepsWornOfAll.j5]
  rw [if_neg (by simp), if_neg hP]
theorem x4 (u : List Int) (q : Int) (v : List Int) (s : Int) (cs : List (List Int)) (w : List Int) (g each : Int) (t : List UInt8) (hu : u.length ≤ 1048576) (hv : v.length ≤ 1048576) (hw : w.length ≤ 1048576) (ht : t.length ≤ 1048576) (hl : cs.length ≤ 1048576) (hc : ∀ c ∈ cs, c.length ≤ 9223372036854775807) :
  Ev (fun k => laws_FnStepsWornOfAll.j4 k u q v s cs w g each (mkb t)) true := by
 obtain ⟨p, m, i1, i2, i3⟩ := weak_all u q hu
 obtain ⟨parts, i4, i5, i6, i7⟩ := parts_all u q hu
 have i8 := specWear_ev v hv s cs hl hc
 have i9 := wearAll_ev v hv s cs hl hc
 obtain ⟨days, rest, eleven, i10, i11, i12⟩ := days_all w g each hw
 obtain ⟨strong, i13, i14, i15⟩ := strong_all u hu
 obtain ⟨text, i16, i17, i18⟩ := text_all u hu
 obtain ⟨turned, i19, i20, i21, i22⟩ := turn_all u hu
 obtain ⟨read, i23, i24, i25, i26⟩ := parse_all t ht
 have i27 := areBears_ev u hu
 have hnine : ∃ fin nine, (if canW v s = true ∧ cs.length ≤ 100 then outV (wearAllV s v cs) else (([] : List Int), false)) = (fin, nine) ∧ fin.length ≤ 1048576 ∧ (nine = true → canW v s = true ∧ wearAllV s v cs = some fin) := by
  by_cases hW : canW v s = true ∧ cs.length ≤ 100
  ·rw [if_pos hW]
   obtain ⟨hg, _⟩ := canW_bd hW.1
   obtain ⟨g1, g2, g3⟩ := goodB_bd hg
   have ho := outV_len (r := s) cs v g2
   cases hx : wearAllV s v cs with
   | none => exact ⟨[], false, rfl, by simp, fun h => by cases h⟩
   | some b =>
    rw [hx] at ho
    exact ⟨b, true, rfl, Nat.le_trans ho (by omega), fun _ => ⟨hW.1, rfl⟩⟩
  ·rw [if_neg hW]
   exact ⟨[], false, rfl, by simp, fun h => by cases h⟩
 obtain ⟨fin, nine, h9, h9l, h9f⟩ := hnine
 rw [h9] at i8 i9
 have hpar : ParI (mkb t) read (goodB (vl (sp 45 t))) := fun h => by
  obtain ⟨a1, a2⟩ := i26 h
  exact ⟨by rw [a1]; exact h, by rw [a2]⟩
 have T := x5 u q v s cs w g each (mkb t) p m parts fin nine days rest eleven strong text (goodB u) turned read (goodB (vl (sp 45 t))) hu i3 i7 i22
  (x8 u v s cs w g each (mkb t) fin nine days rest eleven strong text (goodB u) read (goodB (vl (sp 45 t))) hl hc h9f
   (x10 u w g each (mkb t) days rest eleven strong text (goodB u) read (goodB (vl (sp 45 t))) hw i12
    (x11 u (mkb t) strong text read (goodB (vl (sp 45 t))) i25 (fun h => ⟨i15 h, i18 h⟩) hpar)))
 obtain ⟨b, hb⟩ : ∃ b, b = goodB (vl (sp 45 t)) := ⟨_, rfl⟩
 rw [← hb] at i23 i24 T
 obtain ⟨K1, i1⟩ := i1
 obtain ⟨K2, i2⟩ := i2
 obtain ⟨K4, i4⟩ := i4
 obtain ⟨K5, i5⟩ := i5
 obtain ⟨K8, i8⟩ := i8
 obtain ⟨K9, i9⟩ := i9
 obtain ⟨K10, i10⟩ := i10
 obtain ⟨K11, i11⟩ := i11
 obtain ⟨K13, i13⟩ := i13
 obtain ⟨K14, i14⟩ := i14
 obtain ⟨K16, i16⟩ := i16
 obtain ⟨K17, i17⟩ := i17
 obtain ⟨K19, i19⟩ := i19
 obtain ⟨K20, i20⟩ := i20
 obtain ⟨K23, i23⟩ := i23
 obtain ⟨K24, i24⟩ := i24
 obtain ⟨K27, i27⟩ := i27
 obtain ⟨K30, T⟩ := T
 obtain ⟨K31, q1⟩ := wSame_ev parts i6
 obtain ⟨K32, q2⟩ := wSame_ev fin h9l
 obtain ⟨K33, q3⟩ := wSame_ev turned i21
 obtain ⟨K34, q4⟩ := wSame_ev read i25
 dsimp only at i1 i2 i4 i5 i8 i9 i10 i11 i13 i14 i16 i17 i19 i20 i23 i24 i27 T q1 q2 q3 q4
 refine ⟨K1 + K2 + K4 + K5 + K8 + K9 + K10 + K11 + K13 + K14 + K16 + K17 + K19 + K20 + K23 + K24 + K27 + K30 + K31 + K32 + K33 + K34 + 1, fun k hk => ?_⟩
 obtain ⟨k, rfl⟩ : ∃ j, k = j + 1 := ⟨k - 1, by omega⟩
 simp only [laws_FnStepsWornOfAll.j4]
 rw [i1 k (by omega), i2 k (by omega), i4 k (by omega), i5 k (by omega), i8 k (by omega), i9 k (by omega), i10 k (by omega), i11 k (by omega), i13 k (by omega), i14 k (by omega), i16 k (by omega), i17 k (by omega), i19 k (by omega), i20 k (by omega), i23 k (by omega), i24 k (by omega), i27 k (by omega)]
 simp only [Option.bind_some, bne_self_eq_false, Bool.false_eq_true, if_false, if_true]
 rw [q1 k (by omega), q2 k (by omega), q3 k (by omega), q4 k (by omega)]
 simp only [Option.bind_some, if_true]
 exact T k (by omega)
theorem w_inc (i : Nat) (h : i ≤ 1000000000) : wrap64 ((i : Int) + 1) = (i : Int) + 1 := w_id (by omega) (by omega)
theorem w_dec {x : Int} (h0 : 0 ≤ x) (h1 : x ≤ 1000000000) : wrap64 (x - 1) = x - 1 := w_id (by omega) (by omega)
theorem x0 (l : List Int) (r : Int) (c u : List Int) (q : Int) (v : List Int) (s : Int) (cs : List (List Int)) (w : List Int) (g each : Int) (t : ByteArray) (hl : l.length ≤ 1048576) (hc : c.length ≤ 1048576) (hW : canW l r = true) (hz : isV l r 0 c = true) (m : Int) (hm : ∀ n : Nat, r = (n : Int) → hasP l r = true → m = mostV l n)
  (T : Ev (fun k => laws_FnStepsWornOfAll.j4 k u q v s cs w g each t) true) : ∀ (d i : Nat), l.length - i = d → i ≤ l.length →
  Ev (fun k => laws_FnStepsWornOfAll.l0 k r c u q v s cs w g each t (wearV l c) m (hasP l r) l (l.length : Int) (i : Int)) true := by
 obtain ⟨hg, r1, r2⟩ := canW_bd hW
 obtain ⟨g1, g2, g3⟩ := goodB_bd hg
 have hwl := wearV_length c l
 intro d
 induction d with
 | zero =>
  intro i hd hi
  by_cases hP : hasP l r = true
  ·obtain ⟨n, rfl, h1, h2, h3, h4, h5, hb⟩ := hasP_facts hP
   obtain rfl := hm n rfl hP
   have hless := wear_less hP hz
   obtain ⟨K, e⟩ := mostw_ev (wearV l c) n (by omega) (hasP_mk (wear_good hg hz) h1 (by omega))
   obtain ⟨K2, e2⟩ := T
   dsimp only at e e2
   refine ⟨K + K2 + 1, fun k hk => ?_⟩
   obtain ⟨k, rfl⟩ : ∃ j, k = j + 1 := ⟨k - 1, by omega⟩
   simp only [laws_FnStepsWornOfAll.l0]
   rw [if_neg (by omega), if_pos hP, e k (by omega)]
   simp only [Option.bind_some, if_true]
   rw [if_neg (by omega)]
   exact e2 k (by omega)
  ·refine Ev.step (fun k => ?_) T
   simp only [laws_FnStepsWornOfAll.l0]
   rw [if_neg (by omega), if_neg hP]
 | succ d ih =>
  intro i hd hi
  obtain ⟨K, e⟩ := wHas_ev c ((i : Int) + 1) hc
  obtain ⟨K2, e2⟩ := ih (i + 1) (by omega) (by omega)
  dsimp only at e e2
  have hget := wearV_get r l c l 0 ⟨rfl, g3, fun _ _ => rfl⟩ (Int.le_refl 0) hz i (by omega)
  have hb := getD_bd g3 (i := i) (by omega)
  rw [show ((i + 1 : Nat) : Int) = (i : Int) + 1 by omega] at e2
  refine ⟨K + K2 + 1, fun k hk => ?_⟩
  obtain ⟨k, rfl⟩ : ∃ j, k = j + 1 := ⟨k - 1, by omega⟩
  simp only [laws_FnStepsWornOfAll.l0]
  rw [if_pos (by omega), if_pos (by omega), if_pos (by omega), w_inc i (by omega), e k (by omega), e2 k (by omega)]
  by_cases hmm : ((i : Int) + 1) ∈ c
  ·rw [if_pos hmm] at hget
   simp only [decide_eq_true hmm, Option.bind_some, if_true]
   rw [if_pos (by omega), rd_nat, rd_nat, w_dec (by omega) (by omega), if_pos hget]
  ·rw [if_neg hmm] at hget
   simp only [decide_eq_false hmm, Option.bind_some, Bool.false_eq_true, if_false]
   rw [if_pos (by omega), rd_nat, rd_nat, if_pos hget]
theorem xj1 (l : List Int) (r : Int) (c u : List Int) (q : Int) (v : List Int) (s : Int) (cs : List (List Int)) (w : List Int) (g each : Int) (t : ByteArray) (hl : l.length ≤ 1048576) (hc : c.length ≤ 1048576) (m : Int) (hm : ∀ n : Nat, r = (n : Int) → hasP l r = true → m = mostV l n)
  (T : Ev (fun k => laws_FnStepsWornOfAll.j4 k u q v s cs w g each t) true) : Ev (fun k => laws_FnStepsWornOfAll.j1 k l r c u q v s cs w g each t (byV l r c) (byB l r c) m (hasP l r) false) true := by
 by_cases hB : byB l r c = true
 ·have hB2 := hB
  simp only [byB, Bool.and_eq_true] at hB2
  obtain ⟨hW, hz⟩ := hB2
  have hv : byV l r c = wearV l c := by rw [byV, if_pos hB]
  have hwl := wearV_length c l
  have E := areBears_ev (wearV l c) (by omega)
  rw [wear_good (canW_bd hW).1 hz] at E
  obtain ⟨K, e⟩ := E
  obtain ⟨K2, e2⟩ := wRises_ev c hc (isV_rises c 0 hz)
  obtain ⟨K3, e3⟩ := x0 l r c u q v s cs w g each t hl hc hW hz m hm T _ 0 rfl (Nat.zero_le _)
  dsimp only at e e2 e3
  refine ⟨K + K2 + K3 + 2, fun k hk => ?_⟩
  obtain ⟨k, rfl⟩ : ∃ j, k = j + 2 := ⟨k - 2, by omega⟩
  simp only [laws_FnStepsWornOfAll.j1]
  rw [if_neg (by simp), if_pos hB, hv, if_pos (by omega), e (k + 1) (by omega), e2 (k + 1) (by omega)]
  simp only [Option.bind_some, if_true, Bool.not_true, laws_FnStepsWornOfAll.j2]
  rw [if_neg (by simp)]
  exact e3 k (by omega)
 ·refine Ev.step (fun k => ?_) T
  simp only [laws_FnStepsWornOfAll.j1]
  rw [if_neg (by simp), if_neg hB]
theorem xj0 (l : List Int) (r : Int) (c u : List Int) (q : Int) (v : List Int) (s : Int) (cs : List (List Int)) (w : List Int) (g each : Int) (t : ByteArray) (hl : l.length ≤ 1048576) (hc : c.length ≤ 1048576) (hu : u.length ≤ 1048576) (hv : v.length ≤ 1048576) (hw : w.length ≤ 1048576) (ht : t.size ≤ 1048576) (hcl : cs.length ≤ 1048576) (hcs : ∀ c ∈ cs, c.length ≤ 9223372036854775807) :
  Ev (fun k => laws_FnStepsWornOfAll.j0 k l r c u q v s cs w g each t false) true := by
 obtain ⟨t, rfl⟩ : ∃ x, t = mkb x := ⟨_, mkb_self t⟩
 rw [mkb_size] at ht
 obtain ⟨i1, i2⟩ := by_all l r c hl (by omega)
 obtain ⟨i3, i4⟩ := is_all l r c hl (by omega)
 obtain ⟨m, i5, i6, hm⟩ := most_all l r hl
 have i7 := areBears_ev l hl
 have i8 : Ev (fun k => spec_AreBears.f k l) (goodB l) := by
  unfold spec_AreBears.f
  exact Ev.bind (weGood_ev l hl) (Ev.now _)
 have T := xj1 l r c u q v s cs w g each (mkb t) hl hc m hm (x4 u q v s cs w g each t hu hv hw ht hcl hcs)
 obtain ⟨K1, i1⟩ := i1
 obtain ⟨K2, i2⟩ := i2
 obtain ⟨K3, i3⟩ := i3
 obtain ⟨K4, i4⟩ := i4
 obtain ⟨K5, i5⟩ := i5
 obtain ⟨K6, i6⟩ := i6
 obtain ⟨K7, i7⟩ := i7
 obtain ⟨K8, i8⟩ := i8
 obtain ⟨K9, T⟩ := T
 obtain ⟨K10, q1⟩ := wSame_ev (byV l r c) (byV_len l r c hl)
 dsimp only at i1 i2 i3 i4 i5 i6 i7 i8 T q1
 refine ⟨K1 + K2 + K3 + K4 + K5 + K6 + K7 + K8 + K9 + K10 + 1, fun k hk => ?_⟩
 obtain ⟨k, rfl⟩ : ∃ j, k = j + 1 := ⟨k - 1, by omega⟩
 simp only [laws_FnStepsWornOfAll.j0, Bool.false_eq_true, if_false]
 rw [i1 k (by omega), i2 k (by omega), i3 k (by omega), i4 k (by omega), i5 k (by omega), i6 k (by omega), i7 k (by omega), i8 k (by omega)]
 simp only [Option.bind_some, bne_self_eq_false, Bool.false_eq_true, if_false]
 rw [q1 k (by omega)]
 simp only [Option.bind_some, if_true]
 have hT := T k (by omega)
 by_cases hW : canW l r = true
 ·have hx : (byB l r c != byB l r c) = false := bne_self_eq_false _
  have hy : (hasP l r != decide (r ≤ (l.length : Int))) = false := by
   rw [hasP, hW, Bool.true_and]
   exact bne_self_eq_false _
  rw [if_pos hW, if_pos (canW_bd hW).1, hy]
  exact hT
 ·have hW' : canW l r = false := Bool.eq_false_iff.mpr hW
  have hx : byB l r c = false := by rw [byB, hW', Bool.false_and]
  have hy : hasP l r = false := by rw [hasP, hW', Bool.false_and]
  rw [hx, hy] at hT
  rw [if_neg hW, hx, hy]
  simp only [bne_self_eq_false, Bool.false_eq_true, if_false]
  exact hT
theorem steps_true (l : List Int) (r : Int) (c u : List Int) (q : Int) (v : List Int) (s : Int) (cs : List (List Int)) (w : List Int) (g each : Int) (t : ByteArray) (hcs : ∀ c ∈ cs, c.length ≤ maxLen) : Ev (fun k => laws_FnStepsWornOfAll.f k l r c u q v s cs w g each t) true := by
 have big : Ev (fun k => laws_FnStepsWornOfAll.j0 k l r c u q v s cs w g each t true) true := Ev.step (fun k => by simp only [laws_FnStepsWornOfAll.j0, if_true]) (Ev.now _)
 unfold laws_FnStepsWornOfAll.f
 by_cases h1 : (l.length : Int) > 10000
 ·exact Ev.congr (fun k => if_pos h1) big
 by_cases h2 : (c.length : Int) > 10000
 ·exact Ev.congr (fun k => by rw [if_neg h1, if_pos h2]) big
 by_cases h3 : (u.length : Int) > 10000
 ·exact Ev.congr (fun k => by rw [if_neg h1, if_neg h2, if_pos h3]) big
 by_cases h4 : (v.length : Int) > 10000
 ·exact Ev.congr (fun k => by rw [if_neg h1, if_neg h2, if_neg h3, if_pos h4]) big
 by_cases h5 : (cs.length : Int) > 10000
 ·exact Ev.congr (fun k => by rw [if_neg h1, if_neg h2, if_neg h3, if_neg h4, if_pos h5]) big
 by_cases h6 : (w.length : Int) > 10000
 ·exact Ev.congr (fun k => by rw [if_neg h1, if_neg h2, if_neg h3, if_neg h4, if_neg h5, if_pos h6]) big
 by_cases h7 : (t.size : Int) > 1048576
 ·exact Ev.congr (fun k => by rw [if_neg h1, if_neg h2, if_neg h3, if_neg h4, if_neg h5, if_neg h6, decide_eq_true h7]) big
 have hcs' : ∀ c ∈ cs, c.length ≤ 9223372036854775807 := fun x hx => by
  have := hcs x hx
  unfold maxLen at this
  omega
 exact Ev.congr (fun k => by rw [if_neg h1, if_neg h2, if_neg h3, if_neg h4, if_neg h5, if_neg h6, decide_eq_false h7]) (xj0 l r c u q v s cs w g each t (by omega) (by omega) (by omega) (by omega) (by omega) (by omega) (by omega) hcs')
theorem FnStepsWornOfAll : ∀ (l0 : List Int) (a1 : Int) (l2 : List Int) (l3 : List Int) (a4 : Int) (l5 : List Int) (a6 : Int) (l7 : List (List Int)) (l8 : List Int) (a9 : Int) (a10 : Int) (a11 : ByteArray), l0.length ≤ maxLen → (∀ x ∈ l0, (Lit.int .i64 x).wf = true) → (Lit.int .i64 a1).wf = true → l2.length ≤ maxLen → (∀ x ∈ l2, (Lit.int .i64 x).wf = true) → l3.length ≤ maxLen → (∀ x ∈ l3, (Lit.int .i64 x).wf = true) → (Lit.int .i64 a4).wf = true → l5.length ≤ maxLen → (∀ x ∈ l5, (Lit.int .i64 x).wf = true) → (Lit.int .i64 a6).wf = true → l7.length ≤ maxLen → (∀ q ∈ l7, q.length ≤ maxLen ∧ ∀ x ∈ q, (Lit.int .i64 x).wf = true) → l8.length ≤ maxLen → (∀ x ∈ l8, (Lit.int .i64 x).wf = true) → (Lit.int .i64 a9).wf = true → (Lit.int .i64 a10).wf = true → a11.size ≤ 140737488351232 → ∃ k, laws_FnStepsWornOfAll.f k l0 a1 l2 l3 a4 l5 a6 l7 l8 a9 a10 a11 = some true := fun l0 a1 l2 l3 a4 l5 a6 l7 l8 a9 a10 a11 hm0 hw0 w1 hm2 hw2 hm3 hw3 w4 hm5 hw5 w6 hm7 hw7 hm8 hw8 w9 w10 y11 => (steps_true l0 a1 l2 l3 a4 l5 a6 l7 l8 a9 a10 a11 (fun q h => (hw7 q h).1)).rounds

end Go.Proofs.YtmonnbbihmpedaaGreatDoor.Pure
