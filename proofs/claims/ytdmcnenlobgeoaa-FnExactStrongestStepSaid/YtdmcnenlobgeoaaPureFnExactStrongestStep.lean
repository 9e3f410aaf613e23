/- The pure statement of FnExactStrongestStep: the printed function returns true for all arguments within their kinds; no other condition. -/
import Derived.Test.YtdmcnenlobgeoaaPFnExactStrongestStepx
namespace Go.Proofs.Ytdmcnenlobgeoaa.Pure
open Go.RowKit Go.Proofs.Ytdmcnenlobgeoaa.PFnExactStrongestStep Go.Proofs.YtdmcnenlobgeoaaW.PrintWords Go.Proofs.YtdmcnenlobgeoaaW.PrintLast Go.Proofs.YtdmcnenlobgeoaaW.PrintMore
set_option linter.unusedVariables false
set_option linter.unusedSimpArgs false
theorem in_val (a b c : Int) : spec_l1In.f a b c = some (decide (b ≤ a ∧ a ≤ c)) := by
  unfold spec_l1In.f
  by_cases h : b ≤ a <;> simp [h]
theorem within_val (a b c : Int) : impl_within.f a b c = some (decide (b ≤ a ∧ a ≤ c)) := by
  unfold impl_within.f
  by_cases h : b ≤ a <;> simp [h]

theorem wsucc (i : Nat) (h : i < 4611686018427387904) : wrap64 ((i : Int) + 1) = ((i + 1 : Nat) : Int) := by
  unfold wrap64
  omega
theorem kpred {d k : Nat} (h : d < k) : ∃ m, k = m + 1 := ⟨k - 1, by omega⟩
theorem rd_nat (l : List Int) (i : Nat) : rd l (i : Int) = l.getD i 0 := by simp [rd]
theorem take_set_succ (x : List Int) (i : Nat) (v : Int) (h : i < x.length) : (x.set i v).take (i + 1) = x.take i ++ [v] := by
  rw [List.take_add_one, List.take_set_of_le (Nat.le_refl i), List.getElem?_set_self h]
  rfl
theorem take_get_succ (x : List Int) (i : Nat) (h : i < x.length) : x.take (i + 1) = x.take i ++ [x.getD i 0] := by
  rw [List.take_add_one, List.getElem?_eq_getElem h, List.getD_eq_getElem?_getD, List.getElem?_eq_getElem h]
  rfl

def okB (n : Int) : Bool := decide (0 ≤ n ∧ n ≤ 100)
/-- The numbers are bears. -/
def goodB (l : List Int) : Bool := decide (1 ≤ l.length ∧ l.length ≤ 20) && l.all okB
theorem drop_cons (l : List Int) (i : Nat) (h : i < l.length) : l.drop i = l.getD i 0 :: l.drop (i + 1) := by
  rw [List.drop_eq_getElem_cons h, List.getD_eq_getElem?_getD, List.getElem?_eq_getElem h]
  rfl
theorem l1All_l (l : List Int) (hB : l.length ≤ 1048576) : ∀ (d k i : Nat), l.length - i = d → d < k → i ≤ l.length →
    spec_l1All.l0 k 0 100 l (l.length : Int) (i : Int) = some ((l.drop i).all okB) := by
  intro d
  induction d with
  | zero =>
    intro k i hd hk hi
    obtain ⟨k, rfl⟩ := kpred hk
    simp only [spec_l1All.l0]
    rw [if_neg (by omega), List.drop_eq_nil_of_le (by omega)]
    rfl
  | succ d ih =>
    intro k i hd hk hi
    obtain ⟨k, rfl⟩ := kpred hk
    simp only [spec_l1All.l0]
    rw [if_pos (by omega), if_pos (by omega), if_pos (by omega), rd_nat, in_val, drop_cons l i (by omega)]
    simp only [Option.bind_some, List.all_cons, wsucc i (by omega)]
    rw [ih k (i + 1) (by omega) (by omega) (by omega)]
    by_cases h : 0 ≤ l.getD i 0 ∧ l.getD i 0 ≤ 100
    · rw [if_pos (decide_eq_true h)]
      simp only [okB, decide_eq_true h, Bool.true_and]
    · rw [if_neg (by simpa using h)]
      simp only [okB, decide_eq_false h, Bool.false_and]
theorem weGood_val (l : List Int) (hB : l.length ≤ 1048576) (k : Nat) (hk : l.length < k) : spec_weGood.f k l = some (goodB l) := by
  unfold spec_weGood.f spec_l1All.f goodB
  have h := l1All_l l hB l.length k 0 (by omega) hk (by omega)
  rw [List.drop_zero] at h
  rw [in_val]
  simp only [Option.bind_some]
  by_cases h1 : 1 ≤ l.length ∧ l.length ≤ 20
  · rw [if_pos (decide_eq_true (by omega)), decide_eq_true h1, Bool.true_and]
    have h' : spec_l1All.l0 k 0 100 l (l.length : Int) 0 = some (l.all okB) := h
    rw [h']
    rfl
  · rw [if_neg (by simp; omega), decide_eq_false h1, Bool.false_and]
theorem areBears1_val (n : Int) : impl_AreBears_1.f n = some (!okB n) := by
  unfold impl_AreBears_1.f
  simp only [within_val, Option.bind_some]
  rfl
theorem indexFunc_l (l : List Int) (hB : l.length ≤ 1048576) : ∀ (d k i : Nat), l.length - i = d → d < k → i ≤ l.length →
    ∃ r, slices_IndexFunc_int_int.l0 k l (l.length : Int) (i : Int) = some r ∧ decide (r ≥ 0) = !(l.drop i).all okB := by
  intro d
  induction d with
  | zero =>
    intro k i hd hk hi
    obtain ⟨k, rfl⟩ := kpred hk
    refine ⟨-1, ?_, ?_⟩
    · simp only [slices_IndexFunc_int_int.l0]
      rw [if_neg (by omega)]
    · rw [List.drop_eq_nil_of_le (by omega)]
      rfl
  | succ d ih =>
    intro k i hd hk hi
    obtain ⟨k, rfl⟩ := kpred hk
    rw [drop_cons l i (by omega)]
    by_cases h : okB (l.getD i 0) = true
    · obtain ⟨r, hr, hp⟩ := ih k (i + 1) (by omega) (by omega) (by omega)
      refine ⟨r, ?_, by rw [List.all_cons, h, Bool.true_and]; exact hp⟩
      simp only [slices_IndexFunc_int_int.l0]
      rw [if_pos (by omega), if_pos (by omega), if_pos (by omega), rd_nat, areBears1_val, h]
      simp only [Option.bind_some, Bool.not_true, wsucc i (by omega)]
      exact hr
    · have h' : okB (l.getD i 0) = false := Bool.eq_false_iff.mpr h
      refine ⟨i, ?_, by rw [List.all_cons, h', Bool.false_and]; simp⟩
      simp only [slices_IndexFunc_int_int.l0]
      rw [if_pos (by omega), if_pos (by omega), if_pos (by omega), rd_nat, areBears1_val, h']
      rfl
theorem areBears_val (l : List Int) (hB : l.length ≤ 1048576) (k : Nat) (hk : l.length < k) : impl_AreBears.f k l = some (goodB l) := by
  obtain ⟨r, hr, hp⟩ := indexFunc_l l hB l.length k 0 (by omega) hk (by omega)
  have hr' : slices_IndexFunc_int_int.l0 k l (l.length : Int) 0 = some r := hr
  rw [List.drop_zero] at hp
  unfold impl_AreBears.f slices_ContainsFunc_int_int.f slices_IndexFunc_int_int.f goodB
  rw [within_val, hr']
  simp only [Option.bind_some, hp, Bool.not_not]
  by_cases h1 : 1 ≤ l.length ∧ l.length ≤ 20
  · rw [if_pos (decide_eq_true (by omega)), decide_eq_true h1, Bool.true_and]
  · rw [if_neg (by simp; omega), decide_eq_false h1, Bool.false_and]

theorem Ev.ite_true {α : Type} {g f : Nat → Option α} {r : α} {b : Bool} (h : b = true) (k : Ev g r) : Ev (fun n => if b = true then g n else f n) r := by
  subst h
  simpa using k
theorem Ev.ite_false {α : Type} {g f : Nat → Option α} {r : α} {b : Bool} (h : b = false) (k : Ev f r) : Ev (fun n => if b = true then g n else f n) r := by
  subst h
  simpa using k

theorem weGood_ev (l : List Int) (hB : l.length ≤ 1048576) : Ev (fun k => spec_weGood.f k l) (goodB l) := ⟨l.length + 1, fun k hk => weGood_val l hB k (by omega)⟩
theorem areBears_ev (l : List Int) (hB : l.length ≤ 1048576) : Ev (fun k => impl_AreBears.f k l) (goodB l) := ⟨l.length + 1, fun k hk => areBears_val l hB k (by omega)⟩
theorem okB_bd {x : Int} (h : okB x = true) : 0 ≤ x ∧ x ≤ 100 := by simpa [okB] using h
/-- What bears are. -/
theorem goodB_bd {l : List Int} (h : goodB l = true) : 1 ≤ l.length ∧ l.length ≤ 20 ∧ ∀ x ∈ l, 0 ≤ x ∧ x ≤ 100 := by
  simp only [goodB, Bool.and_eq_true, decide_eq_true_eq, List.all_eq_true] at h
  exact ⟨h.1.1, h.1.2, fun x hx => okB_bd (h.2 x hx)⟩
theorem getD_bd {l : List Int} {a b : Int} (h : ∀ x ∈ l, a ≤ x ∧ x ≤ b) {i : Nat} (hi : i < l.length) : a ≤ l.getD i 0 ∧ l.getD i 0 ≤ b := by
  rw [List.getD_eq_getElem?_getD, List.getElem?_eq_getElem hi]
  exact h _ (List.getElem_mem hi)

theorem toIntS_l (l : List Int) (hB : l.length ≤ 1048576) : ∀ (d k i : Nat) (x : List Int), l.length - i = d → d < k → i ≤ l.length → x.length = l.length → x.take i = l.take i →
    laws_toIntS.l0 k l x (i : Int) = some l := by
  intro d
  induction d with
  | zero =>
    intro k i x hd hk hi hx ht
    obtain ⟨k, rfl⟩ := kpred hk
    have e : i = l.length := by omega
    simp only [laws_toIntS.l0]
    rw [if_neg (by omega)]
    have h1 := ht
    rw [e, List.take_length, ← hx, List.take_length] at h1
    rw [h1]
  | succ d ih =>
    intro k i x hd hk hi hx ht
    obtain ⟨k, rfl⟩ := kpred hk
    simp only [laws_toIntS.l0]
    rw [if_pos (by omega), if_pos (by omega), if_pos (by omega), wsucc i (by omega), Int.toNat_natCast, rd_nat]
    refine ih k (i + 1) _ (by omega) (by omega) (by omega) (by simpa using hx) ?_
    rw [take_set_succ _ _ _ (by omega), take_get_succ _ _ (by omega), ht]
theorem toIntS_val (l : List Int) (hB : l.length ≤ 1048576) (k : Nat) (hk : l.length < k) : laws_toIntS.f k l = some l := by
  unfold laws_toIntS.f
  rw [if_pos (by omega), if_pos (by rw [Int.toNat_natCast]; omega)]
  exact toIntS_l l hB l.length k 0 _ (by omega) hk (by omega) (by simp) (by simp)

theorem toIntS_ev (l : List Int) (hB : l.length ≤ 1048576) : Ev (fun k => laws_toIntS.f k l) l := ⟨l.length + 1, fun k hk => toIntS_val l hB k (by omega)⟩

theorem eqIntS_l (l : List Int) (hB : l.length ≤ 1048576) : ∀ (d k i : Nat), l.length - i = d → d < k → i ≤ l.length → laws_eqIntS.l0 k l l (i : Int) = some true := by
  intro d
  induction d with
  | zero =>
    intro k i hd hk hi
    obtain ⟨k, rfl⟩ := kpred hk
    simp only [laws_eqIntS.l0]
    rw [if_neg (by omega)]
  | succ d ih =>
    intro k i hd hk hi
    obtain ⟨k, rfl⟩ := kpred hk
    simp only [laws_eqIntS.l0]
    rw [if_pos (by omega), if_pos (by omega), if_pos (by omega), if_pos trivial, wsucc i (by omega)]
    exact ih k (i + 1) (by omega) (by omega) (by omega)
theorem eqIntS_val (l : List Int) (hB : l.length ≤ 1048576) (k : Nat) (hk : l.length < k) : laws_eqIntS.f k l l = some true := by
  unfold laws_eqIntS.f
  rw [if_pos rfl]
  exact eqIntS_l l hB l.length k 0 (by omega) hk (by omega)

theorem eqIntS_ev (l : List Int) (hB : l.length ≤ 1048576) : Ev (fun k => laws_eqIntS.f k l l) true := ⟨l.length + 1, fun k hk => eqIntS_val l hB k (by omega)⟩

/- What is proved at the end: ∀ (l0 : List Int), l0.length ≤ maxLen → (∀ x ∈ l0, (Lit.int .i64 x).wf = true) → ∃ k, laws_FnExactStrongestStep.f k l0 = some true -/
theorem foldl_mx_ge (l : List Int) : ∀ m : Int, m ≤ l.foldl mx m ∧ (∀ x ∈ l, x ≤ l.foldl mx m) ∧ (l.foldl mx m = m ∨ l.foldl mx m ∈ l) := by
  induction l with
  | nil => intro m; simp
  | cons x xs ih =>
    intro m
    obtain ⟨h1, h2, h3⟩ := ih (mx m x)
    have h4 : m ≤ mx m x ∧ x ≤ mx m x ∧ (mx m x = m ∨ mx m x = x) := by unfold mx; split <;> omega
    rw [List.foldl_cons]
    refine ⟨by omega, fun y hy => ?_, ?_⟩
    · rcases List.mem_cons.1 hy with rfl | hy
      · omega
      · exact h2 y hy
    · rcases h3 with h3 | h3
      · rcases h4.2.2 with h5 | h5
        · left; omega
        · right; rw [h3, h5]; exact List.mem_cons_self
      · right; exact List.mem_cons_of_mem _ h3
theorem max_l (s : List Int) (hs : s.length ≤ 2000) : ∀ (d i : Nat) (m : Int), s.length - i = d → i ≤ s.length → Ev (fun k => slices_Max_int_int.l0 k s m (i : Int)) ((s.drop i).foldl mx m) := by
  intro d
  induction d with
  | zero =>
    intro i m hd hi
    rw [List.drop_eq_nil_of_le (by omega)]
    refine Ev.step (fun k => ?_) (Ev.now m)
    simp only [slices_Max_int_int.l0]
    rw [if_neg (by omega)]
  | succ d ih =>
    intro i m hd hi
    rw [drop_cons s i (by omega), List.foldl_cons]
    refine Ev.step (f := fun k => slices_Max_int_int.l0 k s (mx m (s.getD i 0)) ((i + 1 : Nat) : Int)) (fun k => ?_) (ih (i + 1) _ (by omega) (by omega))
    simp only [slices_Max_int_int.l0]
    rw [if_pos (by omega), if_pos (by omega), rd_nat, wsucc i (by omega)]
theorem mem_getD {l : List Int} {x : Int} (h : x ∈ l) : ∃ j, j < l.length ∧ l.getD j 0 = x := by
  obtain ⟨j, hj, e⟩ := List.getElem_of_mem h
  exact ⟨j, hj, by rw [List.getD_eq_getElem?_getD, List.getElem?_eq_getElem hj]; exact e⟩
theorem getD_mem {l : List Int} {j : Nat} (h : j < l.length) : l.getD j 0 ∈ l := by
  rw [List.getD_eq_getElem?_getD, List.getElem?_eq_getElem h]
  exact List.getElem_mem h
theorem strong_l (l : List Int) (hl : l.length ≤ 1000) : ∀ (d i b : Nat), l.length - i = d → i ≤ l.length → b < l.length → (∀ j, j < i → l.getD j 0 ≤ l.getD b 0) → (∀ j, j < b → l.getD j 0 < l.getD b 0) →
    ∃ b' : Nat, Ev (fun k => spec_StrongestStep.l0 k l (b : Int) l (l.length : Int) (i : Int)) ((b' : Int) + 1, true) ∧ b' < l.length ∧ (∀ j, j < l.length → l.getD j 0 ≤ l.getD b' 0) ∧ (∀ j, j < b' → l.getD j 0 < l.getD b' 0) := by
  intro d
  induction d with
  | zero =>
    intro i b hd hi hb h1 h2
    refine ⟨b, Ev.step (fun k => ?_) (Ev.now _), hb, fun j hj => h1 j (by omega), h2⟩
    simp only [spec_StrongestStep.l0]
    rw [if_neg (by omega), wsucc b (by omega)]
    rfl
  | succ d ih =>
    intro i b hd hi hb h1 h2
    by_cases hc : l.getD i 0 > l.getD b 0
    · obtain ⟨b', hs, hr⟩ := ih (i + 1) i (by omega) (by omega) (by omega) (fun j hj => by
        rcases Nat.lt_or_ge j i with h | h
        · have := h1 j h; omega
        · have : j = i := by omega
          subst this
          omega) (fun j hj => by have := h1 j hj; omega)
      refine ⟨b', Ev.step (fun k => ?_) hs, hr⟩
      simp only [spec_StrongestStep.l0]
      rw [if_pos (by omega), if_pos (by omega), if_pos (by omega), if_pos (by omega), if_pos (by omega), rd_nat, rd_nat, if_pos hc, wsucc i (by omega)]
    · obtain ⟨b', hs, hr⟩ := ih (i + 1) b (by omega) (by omega) hb (fun j hj => by
        rcases Nat.lt_or_ge j i with h | h
        · exact h1 j h
        · have : j = i := by omega
          subst this
          omega) h2
      refine ⟨b', Ev.step (fun k => ?_) hs, hr⟩
      simp only [spec_StrongestStep.l0]
      rw [if_pos (by omega), if_pos (by omega), if_pos (by omega), if_pos (by omega), if_pos (by omega), rd_nat, rd_nat, if_neg hc, wsucc i (by omega)]
theorem index_l (l : List Int) (hl : l.length ≤ 1000) (b : Nat) (hb : b < l.length) (h2 : ∀ j, j < b → l.getD j 0 < l.getD b 0) : ∀ (d i : Nat), b - i = d → i ≤ b → Ev (fun k => slices_Index_int_int.l0 k l (l.getD b 0) (l.length : Int) (i : Int)) (b : Int) := by
  intro d
  induction d with
  | zero =>
    intro i hd hi
    obtain rfl : i = b := by omega
    refine Ev.step (fun k => ?_) (Ev.now _)
    simp only [slices_Index_int_int.l0]
    rw [if_pos (by omega), if_pos (by omega), if_pos (by omega), rd_nat, if_pos rfl]
  | succ d ih =>
    intro i hd hi
    have := h2 i (by omega)
    refine Ev.step (fun k => ?_) (ih (i + 1) (by omega) (by omega))
    simp only [slices_Index_int_int.l0]
    rw [if_pos (by omega), if_pos (by omega), if_pos (by omega), rd_nat, if_neg (by omega), wsucc i (by omega)]
theorem FnExactStrongestStep_agree (l : List Int) (hl : l.length ≤ 1048576) : ∃ w0 w1, Ev (fun k => spec_StrongestStep.f k l) (w0, w1) ∧ Ev (fun k => impl_StrongestStep.f k l) (w0, w1) := by
  unfold spec_StrongestStep.f impl_StrongestStep.f
  by_cases hg : goodB l = true
  · obtain ⟨g1, g2, g3⟩ := goodB_bd hg
    obtain ⟨b, hs, hb, h1, h2⟩ := strong_l l (by omega) _ 0 0 rfl (by omega) (by omega) (fun j hj => by omega) (fun j hj => by omega)
    have hM : (l.drop 1).foldl mx (l.getD 0 0) = l.getD b 0 := by
      obtain ⟨k1, k2, k3⟩ := foldl_mx_ge (l.drop 1) (l.getD 0 0)
      have up : (l.drop 1).foldl mx (l.getD 0 0) ≤ l.getD b 0 := by
        rcases k3 with k3 | k3
        · rw [k3]; exact h1 0 (by omega)
        · obtain ⟨j, hj, e⟩ := mem_getD (List.mem_of_mem_drop k3)
          rw [← e]; exact h1 j hj
      have dn : l.getD b 0 ≤ (l.drop 1).foldl mx (l.getD 0 0) := by
        have hmem := getD_mem hb
        have hc : l = l.getD 0 0 :: l.drop 1 := by
          have := drop_cons l 0 (by omega)
          rwa [List.drop_zero] at this
        rw [hc] at hmem
        rcases List.mem_cons.1 hmem with h | h
        · rw [← hc] at h; omega
        · rw [← hc] at h; exact k2 _ h
      omega
    have hmax := max_l l (by omega) _ 1 (l.getD 0 0) rfl (by omega)
    rw [hM] at hmax
    have hix := index_l l (by omega) b hb h2 _ 0 rfl (by omega)
    have hw := wsucc b (by omega)
    refine ⟨(b : Int) + 1, true, Ev.bind (weGood_ev l hl) (Ev.ite_true hg hs), Ev.bind (areBears_ev l hl) (Ev.ite_true hg (Ev.bind (a := l.getD b 0) ?_ (Ev.bind (a := (b : Int)) ?_ ?_)))⟩
    · unfold slices_Max_int_int.f
      refine Ev.congr (fun k => ?_) hmax
      rw [if_neg (by omega), if_pos (by omega)]
      rfl
    · unfold slices_Index_int_int.f
      exact hix
    · rw [hw]
      exact Ev.now _
  · have hg' : goodB l = false := Bool.eq_false_iff.mpr hg
    exact ⟨0, false, Ev.bind (weGood_ev l hl) (Ev.ite_false hg' (Ev.now _)), Ev.bind (areBears_ev l hl) (Ev.ite_false hg' (Ev.now _))⟩
theorem FnExactStrongestStep : ∀ (l0 : List Int), l0.length ≤ maxLen → (∀ x ∈ l0, (Lit.int .i64 x).wf = true) → ∃ k, laws_FnExactStrongestStep.f k l0 = some true := by
  intro l0 hm0 hw0
  by_cases hB0 : (l0.length : Int) > 1048576
  · exact ⟨1, by unfold laws_FnExactStrongestStep.f; rw [if_pos hB0]⟩
  have hl0 : l0.length ≤ 1048576 := by omega
  obtain ⟨w0, w1, hS, hI⟩ := FnExactStrongestStep_agree l0 hl0
  obtain ⟨K0, k0⟩ := (show Ev (fun k => spec_StrongestStep.f k l0) (w0, w1) from hS)
  obtain ⟨K1, k1⟩ := (show Ev (fun k => impl_StrongestStep.f k l0) (w0, w1) from hI)
  obtain ⟨K2, k2⟩ := (show Ev (fun k => laws_toIntS.f k l0) l0 from toIntS_ev _ hl0)
  obtain ⟨K3, k3⟩ := (show Ev (fun k => laws_eqIntS.f k l0 l0) true from eqIntS_ev _ hl0)
  obtain ⟨K, hK⟩ : ∃ K, K = K0 + K1 + K2 + K3 := ⟨_, rfl⟩
  have e0 : ∀ j, spec_StrongestStep.f (K + j) l0 = some (w0, w1) := fun j => k0 (K + j) (by omega)
  have e1 : ∀ j, impl_StrongestStep.f (K + j) l0 = some (w0, w1) := fun j => k1 (K + j) (by omega)
  have e2 : ∀ j, laws_toIntS.f (K + j) l0 = some l0 := fun j => k2 (K + j) (by omega)
  have e3 : ∀ j, laws_eqIntS.f (K + j) l0 l0 = some true := fun j => k3 (K + j) (by omega)
  clear k0 k1 k2 k3 hK
  refine ⟨K + 16, ?_⟩
  simp [laws_FnExactStrongestStep.f, laws_FnExactStrongestStep.j0, e0, e1, e2, e3, hB0]

end Go.Proofs.Ytdmcnenlobgeoaa.Pure
