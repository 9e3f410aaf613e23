/- The pure statement of FnExactWearAll: the printed function returns true for all arguments within their kinds; no other condition. -/
import Derived.Test.YtfmjkephbibddaaPFnExactWearAllx
namespace Go.Proofs.Ytfmjkephbibddaa.Pure
open Go.RowKit Go.Proofs.Ytfmjkephbibddaa.PFnExactWearAll Go.Proofs.YtfmjkephbibddaaW.PrintWords Go.Proofs.YtfmjkephbibddaaW.PrintLast Go.Proofs.YtfmjkephbibddaaW.PrintMore
set_option linter.unusedVariables false
set_option linter.unusedSimpArgs false
theorem wsucc (i : Nat) (h : i < 4611686018427387904) : wrap64 ((i : Int) + 1) = ((i + 1 : Nat) : Int) := by
  unfold wrap64
  omega
theorem kpred {d k : Nat} (h : d < k) : ∃ m, k = m + 1 := ⟨k - 1, by omega⟩
theorem rd_nat (l : List Int) (i : Nat) : rd l (i : Int) = l.getD i 0 := by simp [rd]
theorem take_set_succ (x : List Int) (i : Nat) (v : Int) (h : i < x.length) : (x.set i v).take (i + 1) = x.take i ++ [v] := by
  rw [List.take_add_one, List.take_set_of_le (Nat.le_refl i), List.getElem?_set_self h]
  rfl
theorem take_get_succ (x : List Int) (i : Nat) (h : i < x.length) : x.take (i + 1) = x.take i ++ [x.getD i 0] := by
  rw [List.take_add_one, List.getElem?_eq_getElem h, List.getD_eq_getElem?_getD, List.getElem?_eq_getElem h]
  rfl
theorem w_id {x : Int} (h0 : -4611686018427387904 ≤ x) (h1 : x ≤ 4611686018427387904) : wrap64 x = x := by
  unfold wrap64
  omega
theorem w_sub (k r : Nat) (h : r ≤ k) (hk : k ≤ 1000000000) : wrap64 ((k : Int) - (r : Int)) = ((k - r : Nat) : Int) := by
  rw [w_id (by omega) (by omega)]
  omega
theorem w_add (a b : Nat) (h : a ≤ 1000000000) (hb : b ≤ 1000000000) : wrap64 ((a : Int) + (b : Int)) = ((a + b : Nat) : Int) := by
  rw [w_id (by omega) (by omega)]
  omega
theorem w_pred (k : Nat) (h : 1 ≤ k) (hk : k ≤ 1000000000) : wrap64 ((k : Int) - 1) = ((k - 1 : Nat) : Int) := by
  rw [w_id (by omega) (by omega)]
  omega

theorem toIntS_l (l : List Int) (hB : l.length ≤ 1048576) : ∀ (d k i : Nat) (x : List Int), l.length - i = d → d < k → i ≤ l.length → x.length = l.length → x.take i = l.take i →
    laws_toIntS.l0 k l x (i : Int) = some l := by
  intro d
  induction d with
  | zero =>
    intro k i x hd hk hi hx ht
    obtain ⟨k, rfl⟩ := kpred hk
    have e : i = l.length := by omega
    simp only [laws_toIntS.l0]
    rw [if_neg (by omega)]
    have h1 := ht
    rw [e, List.take_length, ← hx, List.take_length] at h1
    rw [h1]
  | succ d ih =>
    intro k i x hd hk hi hx ht
    obtain ⟨k, rfl⟩ := kpred hk
    simp only [laws_toIntS.l0]
    rw [if_pos (by omega), if_pos (by omega), if_pos (by omega), wsucc i (by omega), Int.toNat_natCast, rd_nat]
    refine ih k (i + 1) _ (by omega) (by omega) (by omega) (by simpa using hx) ?_
    rw [take_set_succ _ _ _ (by omega), take_get_succ _ _ (by omega), ht]
theorem toIntS_val (l : List Int) (hB : l.length ≤ 1048576) (k : Nat) (hk : l.length < k) : laws_toIntS.f k l = some l := by
  unfold laws_toIntS.f
  rw [if_pos (by omega), if_pos (by rw [Int.toNat_natCast]; omega)]
  exact toIntS_l l hB l.length k 0 _ (by omega) hk (by omega) (by simp) (by simp)

theorem toIntS_ev (l : List Int) (hB : l.length ≤ 1048576) : Ev (fun k => laws_toIntS.f k l) l := ⟨l.length + 1, fun k hk => toIntS_val l hB k (by omega)⟩

theorem eqIntS_l (l : List Int) (hB : l.length ≤ 1048576) : ∀ (d k i : Nat), l.length - i = d → d < k → i ≤ l.length → laws_eqIntS.l0 k l l (i : Int) = some true := by
  intro d
  induction d with
  | zero =>
    intro k i hd hk hi
    obtain ⟨k, rfl⟩ := kpred hk
    simp only [laws_eqIntS.l0]
    rw [if_neg (by omega)]
  | succ d ih =>
    intro k i hd hk hi
    obtain ⟨k, rfl⟩ := kpred hk
    simp only [laws_eqIntS.l0]
    rw [if_pos (by omega), if_pos (by omega), if_pos (by omega), if_pos trivial, wsucc i (by omega)]
    exact ih k (i + 1) (by omega) (by omega) (by omega)
theorem eqIntS_val (l : List Int) (hB : l.length ≤ 1048576) (k : Nat) (hk : l.length < k) : laws_eqIntS.f k l l = some true := by
  unfold laws_eqIntS.f
  rw [if_pos rfl]
  exact eqIntS_l l hB l.length k 0 (by omega) hk (by omega)

theorem eqIntS_ev (l : List Int) (hB : l.length ≤ 1048576) : Ev (fun k => laws_eqIntS.f k l l) true := ⟨l.length + 1, fun k hk => eqIntS_val l hB k (by omega)⟩

def marked (n : Nat) (m : Int) : List Int := (List.range n).map fun (j : Nat) => m + (j : Int)
theorem marked_length (n : Nat) (m : Int) : (marked n m).length = n := by simp [marked]
theorem marked_succ (n : Nat) (m : Int) : marked (n + 1) m = m :: marked n (m + 1) := by
  simp only [marked, List.range_succ_eq_map, List.map_cons, List.map_map]
  congr 1
  · omega
  · apply List.map_congr_left
    intro j _
    simp only [Function.comp]
    omega
theorem marked_get (n : Nat) (m : Int) (j : Nat) (h : j < n) : (marked n m).getD j 0 = m + (j : Int) := by
  simp [marked, List.getD_eq_getElem?_getD, h]
theorem markIntS_l : ∀ (d k i : Nat) (l : List Int) (m : Int), l.length ≤ 1048576 → l.length - i = d → d < k → i ≤ l.length → 0 ≤ m → m + (d : Int) ≤ 1000000000 →
    laws_markIntS.l0 k l m (i : Int) = some (m + (d : Int), l.take i ++ marked d m) := by
  intro d
  induction d with
  | zero =>
    intro k i l m hB hd hk hi _ _
    obtain ⟨k, rfl⟩ := kpred hk
    simp only [laws_markIntS.l0]
    rw [if_neg (by omega)]
    have e : i = l.length := by omega
    rw [e, List.take_length]
    simp [marked]
  | succ d ih =>
    intro k i l m hB hd hk hi h0 h1
    obtain ⟨k, rfl⟩ := kpred hk
    simp only [laws_markIntS.l0]
    have hw : wrap64 (m + 1) = m + 1 := by
      unfold wrap64
      omega
    rw [if_pos (by omega), if_pos (by omega), hw, wsucc i (by omega), Int.toNat_natCast]
    rw [ih k (i + 1) (l.set i m) (m + 1) (by simpa using hB) (by rw [List.length_set]; omega) (by omega) (by rw [List.length_set]; omega) (by omega) (by omega)]
    rw [take_set_succ _ _ _ (by omega), marked_succ, List.append_assoc]
    congr 2
    omega
theorem markIntS_val (l : List Int) (hB : l.length ≤ 1048576) (m : Int) (h0 : 0 ≤ m) (h1 : m ≤ 900000000) (k : Nat) (hk : l.length < k) :
    laws_markIntS.f k l m = some (m + (l.length : Int), marked l.length m) := by
  unfold laws_markIntS.f
  have := markIntS_l l.length k 0 l m hB (by omega) hk (by omega) h0 (by omega)
  simpa using this
theorem heldIntS_l : ∀ (d k i : Nat) (l : List Int) (m : Int), l.length ≤ 1048576 → l.length - i = d → d < k → i ≤ l.length → 0 ≤ m → m + (d : Int) ≤ 1000000000 → (∀ j, j < d → l.getD (i + j) 0 = m + (j : Int)) →
    laws_heldIntS.l0 k l m (i : Int) = some (m + (d : Int)) := by
  intro d
  induction d with
  | zero =>
    intro k i l m hB hd hk hi _ _ _
    obtain ⟨k, rfl⟩ := kpred hk
    simp only [laws_heldIntS.l0]
    rw [if_neg (by omega)]
    simp
  | succ d ih =>
    intro k i l m hB hd hk hi h0 h1 hj
    obtain ⟨k, rfl⟩ := kpred hk
    simp only [laws_heldIntS.l0]
    have hw : wrap64 (m + 1) = m + 1 := by
      unfold wrap64
      omega
    have h00 := hj 0 (by omega)
    rw [if_pos (by omega), if_pos (by omega), rd_nat, if_pos (by simpa using h00), hw, wsucc i (by omega)]
    rw [ih k (i + 1) l (m + 1) hB (by omega) (by omega) (by omega) (by omega) (by omega) (fun j h => by
      have := hj (j + 1) (by omega)
      rw [show i + 1 + j = i + (j + 1) by omega, this]
      omega)]
    congr 1
    omega
theorem heldIntS_val (n : Nat) (hB : n ≤ 1048576) (m : Int) (h0 : 0 ≤ m) (h1 : m ≤ 900000000) (k : Nat) (hk : n < k) :
    laws_heldIntS.f k (marked n m) m = some (m + (n : Int)) := by
  unfold laws_heldIntS.f
  exact heldIntS_l n k 0 (marked n m) m (by rw [marked_length]; exact hB) (by rw [marked_length]; omega) hk (by omega) h0 (by omega) (fun j h => by rw [Nat.zero_add]; exact marked_get n m j h)

theorem markIntS_ev (l : List Int) (hB : l.length ≤ 1048576) (m : Int) (h0 : 0 ≤ m) (h1 : m ≤ 900000000) : Ev (fun k => laws_markIntS.f k l m) (m + (l.length : Int), marked l.length m) :=
  ⟨l.length + 1, fun k hk => markIntS_val l hB m h0 h1 k (by omega)⟩
theorem heldIntS_ev (n : Nat) (hB : n ≤ 1048576) (m : Int) (h0 : 0 ≤ m) (h1 : m ≤ 900000000) : Ev (fun k => laws_heldIntS.f k (marked n m) m) (m + (n : Int)) :=
  ⟨n + 1, fun k hk => heldIntS_val n hB m h0 h1 k (by omega)⟩
theorem markIntS_nil : Ev (fun k => laws_markIntS.f k [] 1) (1, []) := by simpa [marked] using markIntS_ev [] (by simp) 1 (by omega) (by omega)
theorem heldIntS_nil : Ev (fun k => laws_heldIntS.f k [] 1) 1 := by simpa [marked] using heldIntS_ev 0 (by omega) 1 (by omega) (by omega)

theorem in_val (a b c : Int) : spec_l1In.f a b c = some (decide (b ≤ a ∧ a ≤ c)) := by
  unfold spec_l1In.f
  by_cases h : b ≤ a <;> simp [h]
theorem within_val (a b c : Int) : impl_within.f a b c = some (decide (b ≤ a ∧ a ≤ c)) := by
  unfold impl_within.f
  by_cases h : b ≤ a <;> simp [h]

def okB (n : Int) : Bool := decide (0 ≤ n ∧ n ≤ 100)
/-- The numbers are bears. -/
def goodB (l : List Int) : Bool := decide (1 ≤ l.length ∧ l.length ≤ 20) && l.all okB
theorem drop_cons (l : List Int) (i : Nat) (h : i < l.length) : l.drop i = l.getD i 0 :: l.drop (i + 1) := by
  rw [List.drop_eq_getElem_cons h, List.getD_eq_getElem?_getD, List.getElem?_eq_getElem h]
  rfl
theorem l1All_l (l : List Int) (hB : l.length ≤ 1048576) : ∀ (d k i : Nat), l.length - i = d → d < k → i ≤ l.length →
    spec_l1All.l0 k 0 100 l (l.length : Int) (i : Int) = some ((l.drop i).all okB) := by
  intro d
  induction d with
  | zero =>
    intro k i hd hk hi
    obtain ⟨k, rfl⟩ := kpred hk
    simp only [spec_l1All.l0]
    rw [if_neg (by omega), List.drop_eq_nil_of_le (by omega)]
    rfl
  | succ d ih =>
    intro k i hd hk hi
    obtain ⟨k, rfl⟩ := kpred hk
    simp only [spec_l1All.l0]
    rw [if_pos (by omega), if_pos (by omega), if_pos (by omega), rd_nat, in_val, drop_cons l i (by omega)]
    simp only [Option.bind_some, List.all_cons, wsucc i (by omega)]
    rw [ih k (i + 1) (by omega) (by omega) (by omega)]
    by_cases h : 0 ≤ l.getD i 0 ∧ l.getD i 0 ≤ 100
    · rw [if_pos (decide_eq_true h)]
      simp only [okB, decide_eq_true h, Bool.true_and]
    · rw [if_neg (by simpa using h)]
      simp only [okB, decide_eq_false h, Bool.false_and]
theorem weGood_val (l : List Int) (hB : l.length ≤ 1048576) (k : Nat) (hk : l.length < k) : spec_weGood.f k l = some (goodB l) := by
  unfold spec_weGood.f spec_l1All.f goodB
  have h := l1All_l l hB l.length k 0 (by omega) hk (by omega)
  rw [List.drop_zero] at h
  rw [in_val]
  simp only [Option.bind_some]
  by_cases h1 : 1 ≤ l.length ∧ l.length ≤ 20
  · rw [if_pos (decide_eq_true (by omega)), decide_eq_true h1, Bool.true_and]
    have h' : spec_l1All.l0 k 0 100 l (l.length : Int) 0 = some (l.all okB) := h
    rw [h']
    rfl
  · rw [if_neg (by simp; omega), decide_eq_false h1, Bool.false_and]
theorem areBears1_val (n : Int) : impl_AreBears_1.f n = some (!okB n) := by
  unfold impl_AreBears_1.f
  simp only [within_val, Option.bind_some]
  rfl
theorem indexFunc_l (l : List Int) (hB : l.length ≤ 1048576) : ∀ (d k i : Nat), l.length - i = d → d < k → i ≤ l.length →
    ∃ r, slices_IndexFunc_int_int.l0 k l (l.length : Int) (i : Int) = some r ∧ decide (r ≥ 0) = !(l.drop i).all okB := by
  intro d
  induction d with
  | zero =>
    intro k i hd hk hi
    obtain ⟨k, rfl⟩ := kpred hk
    refine ⟨-1, ?_, ?_⟩
    · simp only [slices_IndexFunc_int_int.l0]
      rw [if_neg (by omega)]
    · rw [List.drop_eq_nil_of_le (by omega)]
      rfl
  | succ d ih =>
    intro k i hd hk hi
    obtain ⟨k, rfl⟩ := kpred hk
    rw [drop_cons l i (by omega)]
    by_cases h : okB (l.getD i 0) = true
    · obtain ⟨r, hr, hp⟩ := ih k (i + 1) (by omega) (by omega) (by omega)
      refine ⟨r, ?_, by rw [List.all_cons, h, Bool.true_and]; exact hp⟩
      simp only [slices_IndexFunc_int_int.l0]
      rw [if_pos (by omega), if_pos (by omega), if_pos (by omega), rd_nat, areBears1_val, h]
      simp only [Option.bind_some, Bool.not_true, wsucc i (by omega)]
      exact hr
    · have h' : okB (l.getD i 0) = false := Bool.eq_false_iff.mpr h
      refine ⟨i, ?_, by rw [List.all_cons, h', Bool.false_and]; simp⟩
      simp only [slices_IndexFunc_int_int.l0]
      rw [if_pos (by omega), if_pos (by omega), if_pos (by omega), rd_nat, areBears1_val, h']
      rfl
theorem areBears_val (l : List Int) (hB : l.length ≤ 1048576) (k : Nat) (hk : l.length < k) : impl_AreBears.f k l = some (goodB l) := by
  obtain ⟨r, hr, hp⟩ := indexFunc_l l hB l.length k 0 (by omega) hk (by omega)
  have hr' : slices_IndexFunc_int_int.l0 k l (l.length : Int) 0 = some r := hr
  rw [List.drop_zero] at hp
  unfold impl_AreBears.f slices_ContainsFunc_int_int.f slices_IndexFunc_int_int.f goodB
  rw [within_val, hr']
  simp only [Option.bind_some, hp, Bool.not_not]
  by_cases h1 : 1 ≤ l.length ∧ l.length ≤ 20
  · rw [if_pos (decide_eq_true (by omega)), decide_eq_true h1, Bool.true_and]
  · rw [if_neg (by simp; omega), decide_eq_false h1, Bool.false_and]

theorem Ev.ite_true {α : Type} {g f : Nat → Option α} {r : α} {b : Bool} (h : b = true) (k : Ev g r) : Ev (fun n => if b = true then g n else f n) r := by
  subst h
  simpa using k
theorem Ev.ite_false {α : Type} {g f : Nat → Option α} {r : α} {b : Bool} (h : b = false) (k : Ev f r) : Ev (fun n => if b = true then g n else f n) r := by
  subst h
  simpa using k

theorem weGood_ev (l : List Int) (hB : l.length ≤ 1048576) : Ev (fun k => spec_weGood.f k l) (goodB l) := ⟨l.length + 1, fun k hk => weGood_val l hB k (by omega)⟩
theorem areBears_ev (l : List Int) (hB : l.length ≤ 1048576) : Ev (fun k => impl_AreBears.f k l) (goodB l) := ⟨l.length + 1, fun k hk => areBears_val l hB k (by omega)⟩
theorem okB_bd {x : Int} (h : okB x = true) : 0 ≤ x ∧ x ≤ 100 := by simpa [okB] using h
/-- What bears are. -/
theorem goodB_bd {l : List Int} (h : goodB l = true) : 1 ≤ l.length ∧ l.length ≤ 20 ∧ ∀ x ∈ l, 0 ≤ x ∧ x ≤ 100 := by
  simp only [goodB, Bool.and_eq_true, decide_eq_true_eq, List.all_eq_true] at h
  exact ⟨h.1.1, h.1.2, fun x hx => okB_bd (h.2 x hx)⟩
theorem getD_bd {l : List Int} {a b : Int} (h : ∀ x ∈ l, a ≤ x ∧ x ≤ b) {i : Nat} (hi : i < l.length) : a ≤ l.getD i 0 ∧ l.getD i 0 ≤ b := by
  rw [List.getD_eq_getElem?_getD, List.getElem?_eq_getElem hi]
  exact h _ (List.getElem_mem hi)

/-- Bears and a reach. -/
def canW (l : List Int) (r : Int) : Bool := goodB l && decide (1 ≤ r ∧ r ≤ 20)
theorem weReach_ev (l : List Int) (hB : l.length ≤ 1048576) (r : Int) : Ev (fun k => spec_weReach.f k l r) (canW l r) := by
  unfold spec_weReach.f canW
  refine Ev.bind (weGood_ev l hB) ?_
  simp only [in_val, Option.bind_some]
  cases goodB l <;> simp <;> exact Ev.now _
theorem canWear_ev (l : List Int) (hB : l.length ≤ 1048576) (r : Int) : Ev (fun k => impl_canWear.f k l r) (canW l r) := by
  unfold impl_canWear.f canW
  refine Ev.bind (areBears_ev l hB) ?_
  simp only [within_val, Option.bind_some]
  cases goodB l <;> simp <;> exact Ev.now _
theorem canW_bd {l : List Int} {r : Int} (h : canW l r = true) : goodB l = true ∧ 1 ≤ r ∧ r ≤ 20 := by
  simp only [canW, Bool.and_eq_true, decide_eq_true_eq] at h
  exact ⟨h.1, h.2.1, h.2.2⟩

/-- A climb, from the step 'at' on. -/
def isV (b : List Int) (r : Int) : Int → List Int → Bool
  | at_, [] => decide ((b.length : Int) + 1 - at_ ≤ r)
  | at_, k :: ks => decide (at_ + 1 ≤ k ∧ k ≤ at_ + r ∧ k ≤ (b.length : Int)) && (decide (1 ≤ b.getD (k - 1).toNat 0) && isV b r k ks)
theorem least_val' (a b : Int) : spec_l1Least.f a b = some (if a < b then a else b) := by
  unfold spec_l1Least.f
  split <;> rfl
theorem weIs_l (b : List Int) (r : Int) (hb : b.length ≤ 20) (hv : ∀ x ∈ b, 0 ≤ x ∧ x ≤ 100) (r1 : 1 ≤ r) (r2 : r ≤ 20) (s : List Int) (hs : s.length ≤ 9223372036854775807) :
    ∀ (ks : List Int) (i : Nat) (at_ : Int), s.drop i = ks → i ≤ s.length → 0 ≤ at_ → at_ ≤ (b.length : Int) → (i : Int) ≤ at_ → Ev (fun k => spec_weIs.l0 k b r at_ s (s.length : Int) (i : Int)) (isV b r at_ ks) := by
  intro ks
  induction ks with
  | nil =>
    intro i at_ hd hi h0 h1 hia
    have hl : s.length - i = 0 := by
      have := congrArg List.length hd
      rwa [List.length_drop] at this
    refine Ev.step (fun k => ?_) (Ev.now _)
    have w1 : wrap64 ((b.length : Int) + 1) = (b.length : Int) + 1 := by
      unfold wrap64
      omega
    have w2 : wrap64 ((b.length : Int) + 1 - at_) = (b.length : Int) + 1 - at_ := by
      unfold wrap64
      omega
    simp only [spec_weIs.l0]
    rw [if_neg (by omega), w1, w2]
    rfl
  | cons x ks ih =>
    intro i at_ hd hi h0 h1 hia
    have hl : s.length - i = ks.length + 1 := by
      have := congrArg List.length hd
      rwa [List.length_drop, List.length_cons] at this
    have hx : s.getD i 0 = x := by
      rw [drop_cons s i (by omega)] at hd
      exact (List.cons.inj hd).1
    have hd' : s.drop (i + 1) = ks := by
      rw [drop_cons s i (by omega)] at hd
      exact (List.cons.inj hd).2
    have w1 : wrap64 (at_ + r) = at_ + r := by
      unfold wrap64
      omega
    have w2 : wrap64 (at_ + 1) = at_ + 1 := by
      unfold wrap64
      omega
    have hmin : (at_ + 1 ≤ x ∧ x ≤ (if at_ + r < (b.length : Int) then at_ + r else (b.length : Int))) ↔ (at_ + 1 ≤ x ∧ x ≤ at_ + r ∧ x ≤ (b.length : Int)) := by
      split <;> omega
    by_cases hc : at_ + 1 ≤ x ∧ x ≤ at_ + r ∧ x ≤ (b.length : Int)
    · have w3 : wrap64 (x - 1) = (((x - 1).toNat : Nat) : Int) := by
        unfold wrap64
        omega
      have hg := getD_bd hv (i := (x - 1).toNat) (by omega)
      by_cases hz : 1 ≤ b.getD (x - 1).toNat 0
      · have h := ih (i + 1) x hd' (by omega) (by omega) (by omega) (by omega)
        simp only [isV, decide_eq_true hc, decide_eq_true hz, Bool.true_and]
        refine Ev.step (fun k => ?_) h
        simp only [spec_weIs.l0]
        rw [if_pos (by omega), if_pos (by omega), if_pos (by omega), rd_nat, hx, w1, w2, least_val']
        simp only [Option.bind_some, in_val]
        rw [decide_eq_true (hmin.2 hc), if_pos rfl, w3, if_pos (by omega), if_pos (by omega), rd_nat, if_neg (by omega), wsucc i (by omega)]
      · simp only [isV, decide_eq_true hc, decide_eq_false hz, Bool.true_and, Bool.false_and]
        refine Ev.step (fun k => ?_) (Ev.now _)
        simp only [spec_weIs.l0]
        rw [if_pos (by omega), if_pos (by omega), if_pos (by omega), rd_nat, hx, w1, w2, least_val']
        simp only [Option.bind_some, in_val]
        rw [decide_eq_true (hmin.2 hc), if_pos rfl, w3, if_pos (by omega), if_pos (by omega), rd_nat, if_pos (by omega)]
    · simp only [isV, decide_eq_false hc, Bool.false_and]
      refine Ev.step (fun k => ?_) (Ev.now _)
      simp only [spec_weIs.l0]
      rw [if_pos (by omega), if_pos (by omega), if_pos (by omega), rd_nat, hx, w1, w2, least_val']
      simp only [Option.bind_some, in_val]
      rw [decide_eq_false (fun h => hc (hmin.1 h)), if_neg (by simp)]
theorem isWear_l (b : List Int) (r : Int) (hb : b.length ≤ 20) (hv : ∀ x ∈ b, 0 ≤ x ∧ x ≤ 100) (r1 : 1 ≤ r) (r2 : r ≤ 20) (s : List Int) (hs : s.length ≤ 9223372036854775807) :
    ∀ (ks : List Int) (i : Nat) (at_ : Int), s.drop i = ks → i ≤ s.length → 0 ≤ at_ → at_ ≤ (b.length : Int) → (i : Int) ≤ at_ → Ev (fun k => impl_isWearClimb.l0 k b r at_ ((b.length : Int) + 1) s (s.length : Int) (i : Int)) (isV b r at_ ks) := by
  intro ks
  induction ks with
  | nil =>
    intro i at_ hd hi h0 h1 hia
    have hl : s.length - i = 0 := by
      have := congrArg List.length hd
      rwa [List.length_drop] at this
    refine Ev.step (fun k => ?_) (Ev.now _)
    have w2 : wrap64 ((b.length : Int) + 1 - at_) = (b.length : Int) + 1 - at_ := by
      unfold wrap64
      omega
    simp only [impl_isWearClimb.l0]
    rw [if_neg (by omega), w2]
    rfl
  | cons x ks ih =>
    intro i at_ hd hi h0 h1 hia
    have hl : s.length - i = ks.length + 1 := by
      have := congrArg List.length hd
      rwa [List.length_drop, List.length_cons] at this
    have hx : s.getD i 0 = x := by
      rw [drop_cons s i (by omega)] at hd
      exact (List.cons.inj hd).1
    have hd' : s.drop (i + 1) = ks := by
      rw [drop_cons s i (by omega)] at hd
      exact (List.cons.inj hd).2
    have w1 : wrap64 ((b.length : Int) + 1 - 1) = (b.length : Int) := by
      unfold wrap64
      omega
    have w2 : wrap64 (at_ + 1) = at_ + 1 := by
      unfold wrap64
      omega
    by_cases hr : at_ + 1 ≤ x ∧ x ≤ (b.length : Int)
    · have w4 : wrap64 (x - at_) = x - at_ := by
        unfold wrap64
        omega
      by_cases hf : x - at_ > r
      · rw [show isV b r at_ (x :: ks) = false by simp only [isV]; rw [decide_eq_false (by omega)]; rfl]
        refine Ev.step (fun k => ?_) (Ev.now _)
        simp only [impl_isWearClimb.l0]
        rw [if_pos (by omega), if_pos (by omega), if_pos (by omega), rd_nat, hx, w1, w2]
        simp only [Option.bind_some, within_val]
        rw [decide_eq_true hr, if_pos rfl, w4, if_pos hf]
      · have hc : at_ + 1 ≤ x ∧ x ≤ at_ + r ∧ x ≤ (b.length : Int) := by omega
        have w3 : wrap64 (x - 1) = (((x - 1).toNat : Nat) : Int) := by
          unfold wrap64
          omega
        have hg := getD_bd hv (i := (x - 1).toNat) (by omega)
        by_cases hz : 1 ≤ b.getD (x - 1).toNat 0
        · have h := ih (i + 1) x hd' (by omega) (by omega) (by omega) (by omega)
          simp only [isV, decide_eq_true hc, decide_eq_true hz, Bool.true_and]
          refine Ev.step (fun k => ?_) h
          simp only [impl_isWearClimb.l0]
          rw [if_pos (by omega), if_pos (by omega), if_pos (by omega), rd_nat, hx, w1, w2]
          simp only [Option.bind_some, within_val]
          rw [decide_eq_true hr, if_pos rfl, w4, if_neg hf, w3, if_pos (by omega), if_pos (by omega), rd_nat, if_neg (by omega), wsucc i (by omega)]
        · simp only [isV, decide_eq_true hc, decide_eq_false hz, Bool.true_and, Bool.false_and]
          refine Ev.step (fun k => ?_) (Ev.now _)
          simp only [impl_isWearClimb.l0]
          rw [if_pos (by omega), if_pos (by omega), if_pos (by omega), rd_nat, hx, w1, w2]
          simp only [Option.bind_some, within_val]
          rw [decide_eq_true hr, if_pos rfl, w4, if_neg hf, w3, if_pos (by omega), if_pos (by omega), rd_nat, if_pos (by omega)]
    · rw [show isV b r at_ (x :: ks) = false by simp only [isV]; rw [decide_eq_false (by omega)]; rfl]
      refine Ev.step (fun k => ?_) (Ev.now _)
      simp only [impl_isWearClimb.l0]
      rw [if_pos (by omega), if_pos (by omega), if_pos (by omega), rd_nat, hx, w1, w2]
      simp only [Option.bind_some, within_val]
      rw [decide_eq_false hr, if_neg (by simp)]
theorem weIs_ev (b : List Int) (r : Int) (hb : b.length ≤ 20) (hv : ∀ x ∈ b, 0 ≤ x ∧ x ≤ 100) (r1 : 1 ≤ r) (r2 : r ≤ 20) (s : List Int) (hs : s.length ≤ 9223372036854775807) : Ev (fun k => spec_weIs.f k b r s) (isV b r 0 s) := by
  unfold spec_weIs.f
  exact weIs_l b r hb hv r1 r2 s hs s 0 0 rfl (by omega) (by omega) (by omega) (by omega)
theorem isWear_ev (b : List Int) (r : Int) (hb : b.length ≤ 20) (hv : ∀ x ∈ b, 0 ≤ x ∧ x ≤ 100) (r1 : 1 ≤ r) (r2 : r ≤ 20) (s : List Int) (hs : s.length ≤ 9223372036854775807) : Ev (fun k => impl_isWearClimb.f k b r s) (isV b r 0 s) := by
  unfold impl_isWearClimb.f
  have w1 : wrap64 ((b.length : Int) + 1) = (b.length : Int) + 1 := by
    unfold wrap64
    omega
  rw [w1]
  exact isWear_l b r hb hv r1 r2 s hs s 0 0 rfl (by omega) (by omega) (by omega) (by omega)

theorem own_val (l : List Int) (h : l.length ≤ 1048576) : spec_l1Own.f l = some l := by
  unfold spec_l1Own.f
  simp only [Option.bind_some]
  rw [if_pos (by simp; omega)]
  simp

/-- The bears behind a climb. -/
def wearV : List Int → List Int → List Int
  | b, [] => b
  | b, k :: ks => wearV (b.set (k - 1).toNat (b.getD (k - 1).toNat 0 - 1)) ks
theorem wearV_length (ks : List Int) : ∀ b : List Int, (wearV b ks).length = b.length := by
  induction ks with
  | nil => intro b; rfl
  | cons k ks ih => intro b; simp only [wearV]; rw [ih, List.length_set]
theorem set_get' (l : List Int) (i j : Nat) (v : Int) (hj : j < l.length) : (l.set i v).getD j 0 = if i = j then v else l.getD j 0 := by
  rw [List.getD_eq_getElem?_getD, List.getElem?_eq_getElem (by rw [List.length_set]; exact hj), List.getElem_set, List.getD_eq_getElem?_getD, List.getElem?_eq_getElem hj]
  split <;> rfl
/-- What a climb means for each of its steps, in the bears as they are when it is come to. -/
theorem isV_cons {b0 : List Int} {r at_ x : Int} {ks : List Int} (h : isV b0 r at_ (x :: ks) = true) : (at_ + 1 ≤ x ∧ x ≤ at_ + r ∧ x ≤ (b0.length : Int)) ∧ 1 ≤ b0.getD (x - 1).toNat 0 ∧ isV b0 r x ks = true := by
  simp only [isV, Bool.and_eq_true, decide_eq_true_eq] at h
  exact h
/-- The steps from 'at' on are as they were. -/
def Same (b0 b : List Int) (at_ : Int) : Prop := b.length = b0.length ∧ (∀ x ∈ b, 0 ≤ x ∧ x ≤ 100) ∧ ∀ j : Nat, at_ ≤ (j : Int) → b.getD j 0 = b0.getD j 0
theorem same_step {b0 b : List Int} {r at_ x : Int} {ks : List Int} (hs : Same b0 b at_) (h0 : 0 ≤ at_) (h : isV b0 r at_ (x :: ks) = true) : Same b0 (b.set (x - 1).toNat (b.getD (x - 1).toNat 0 - 1)) x ∧ 1 ≤ b.getD (x - 1).toNat 0 ∧ b.getD (x - 1).toNat 0 ≤ 100 ∧ (x - 1).toNat < b.length := by
  obtain ⟨s1, s2, s3⟩ := hs
  obtain ⟨c1, c2, _⟩ := isV_cons h
  have hi : (x - 1).toNat < b.length := by omega
  have hv := getD_bd s2 hi
  have he := s3 (x - 1).toNat (by omega)
  refine ⟨⟨by rw [List.length_set]; exact s1, fun y hy => ?_, fun j hj => ?_⟩, by omega, hv.2, hi⟩
  · rcases List.mem_or_eq_of_mem_set hy with hy | rfl
    · exact s2 y hy
    · omega
  · rcases Nat.lt_or_ge j b.length with hjl | hjl
    · rw [set_get' _ _ _ _ hjl, if_neg (by omega)]
      exact s3 j (by omega)
    · have := s3 j (by omega)
      rw [List.getD_eq_getElem?_getD, List.getElem?_eq_none (by rw [List.length_set]; exact hjl)]
      rw [List.getD_eq_getElem?_getD, List.getElem?_eq_none hjl] at this
      exact this
theorem wearV_good (r : Int) (b0 : List Int) (ks : List Int) : ∀ (b : List Int) (at_ : Int), Same b0 b at_ → 0 ≤ at_ → isV b0 r at_ ks = true → ∀ x ∈ wearV b ks, 0 ≤ x ∧ x ≤ 100 := by
  induction ks with
  | nil => intro b at_ hs h0 h; exact hs.2.1
  | cons x ks ih =>
    intro b at_ hs h0 h
    have h1 := same_step hs h0 h
    obtain ⟨c1, c2, c3⟩ := isV_cons h
    exact ih _ x h1.1 (by omega) c3
theorem weBy_l (r : Int) (b0 : List Int) (hb : b0.length ≤ 20) (s : List Int) (hs : s.length ≤ 9223372036854775807) : ∀ (ks : List Int) (i : Nat) (at_ : Int) (b : List Int), s.drop i = ks → i ≤ s.length → 0 ≤ at_ → (i : Int) ≤ at_ → at_ ≤ (b0.length : Int) → Same b0 b at_ → isV b0 r at_ ks = true →
    Ev (fun k => spec_weBy.l0 k b s (s.length : Int) (i : Int)) (wearV b ks) := by
  intro ks
  induction ks with
  | nil =>
    intro i at_ b hd hi h0 hia h1 hsm h
    have hl : s.length - i = 0 := by
      have := congrArg List.length hd
      rwa [List.length_drop] at this
    refine Ev.step (fun k => ?_) (Ev.now _)
    simp only [spec_weBy.l0]
    rw [if_neg (by omega)]
    rfl
  | cons x ks ih =>
    intro i at_ b hd hi h0 hia h1 hsm h
    have hl : s.length - i = ks.length + 1 := by
      have := congrArg List.length hd
      rwa [List.length_drop, List.length_cons] at this
    have hx : s.getD i 0 = x := by
      rw [drop_cons s i (by omega)] at hd
      exact (List.cons.inj hd).1
    have hd' : s.drop (i + 1) = ks := by
      rw [drop_cons s i (by omega)] at hd
      exact (List.cons.inj hd).2
    obtain ⟨q1, q2, q3, q4⟩ := same_step hsm h0 h
    obtain ⟨c1, c2, c3⟩ := isV_cons h
    have hrec := ih (i + 1) x _ hd' (by omega) (by omega) (by omega) (by omega) q1 c3
    have e1 : x - 1 = (((x - 1).toNat : Nat) : Int) := by omega
    have i1 : (i : Int) < (s.length : Int) := by omega
    have i2 : (0 : Int) ≤ (i : Int) := by omega
    have i3 : (0 : Int) ≤ (((x - 1).toNat : Nat) : Int) := by omega
    have i4 : (((x - 1).toNat : Nat) : Int) < (b.length : Int) := by omega
    have i5 : i < 4611686018427387904 := by omega
    have w1 : wrap64 (x - 1) = (((x - 1).toNat : Nat) : Int) := by rw [w_id (by omega) (by omega)]; exact e1
    have w2 : wrap64 (b.getD (x - 1).toNat 0 - 1) = b.getD (x - 1).toNat 0 - 1 := w_id (by omega) (by omega)
    refine Ev.step (fun k => ?_) hrec
    simp only [spec_weBy.l0]
    rw [if_pos i1, if_pos i2, if_pos i1, rd_nat, hx, w1, if_pos i3, if_pos i4, Int.toNat_natCast, rd_nat, w2, wsucc i i5]
theorem weBy_ev (r : Int) (b s : List Int) (hb : b.length ≤ 20) (hv : ∀ x ∈ b, 0 ≤ x ∧ x ≤ 100) (hs : s.length ≤ 9223372036854775807) (h : isV b r 0 s = true) : Ev (fun k => spec_weBy.f k b s) (wearV b s) := by
  unfold spec_weBy.f
  rw [own_val b (by omega)]
  exact weBy_l r b hb s hs s 0 0 b rfl (by omega) (by omega) (by omega) (by omega) ⟨rfl, hv, fun _ _ => rfl⟩ h
/-- The inner loop of the program's WearAll, over one climb. -/
theorem wearAll_l1 (r : Int) (b0 : List Int) (hb : b0.length ≤ 20) (x1 : Int) (cs : List (List Int)) (n : Int) (ci : Int) (s : List Int) (hs : s.length ≤ 9223372036854775807) (R : List Int × Bool) : ∀ (ks : List Int) (i : Nat) (at_ : Int) (b : List Int), s.drop i = ks → i ≤ s.length → 0 ≤ at_ → (i : Int) ≤ at_ → at_ ≤ (b0.length : Int) → Same b0 b at_ → isV b0 r at_ ks = true →
    Ev (fun k => impl_WearAll.l0 k x1 (wearV b ks) cs n (wrap64 (ci + 1))) R → Ev (fun k => impl_WearAll.l1 k x1 b cs n ci s (s.length : Int) (i : Int)) R := by
  intro ks
  induction ks with
  | nil =>
    intro i at_ b hd hi h0 hia h1 hsm h ht
    have hl : s.length - i = 0 := by
      have := congrArg List.length hd
      rwa [List.length_drop] at this
    refine Ev.step (fun k => ?_) ht
    simp only [impl_WearAll.l1]
    rw [if_neg (by omega)]
    rfl
  | cons x ks ih =>
    intro i at_ b hd hi h0 hia h1 hsm h ht
    have hl : s.length - i = ks.length + 1 := by
      have := congrArg List.length hd
      rwa [List.length_drop, List.length_cons] at this
    have hx : s.getD i 0 = x := by
      rw [drop_cons s i (by omega)] at hd
      exact (List.cons.inj hd).1
    have hd' : s.drop (i + 1) = ks := by
      rw [drop_cons s i (by omega)] at hd
      exact (List.cons.inj hd).2
    obtain ⟨q1, q2, q3, q4⟩ := same_step hsm h0 h
    obtain ⟨c1, c2, c3⟩ := isV_cons h
    have hrec := ih (i + 1) x _ hd' (by omega) (by omega) (by omega) (by omega) q1 c3 ht
    have e1 : x - 1 = (((x - 1).toNat : Nat) : Int) := by omega
    have i1 : (i : Int) < (s.length : Int) := by omega
    have i2 : (0 : Int) ≤ (i : Int) := by omega
    have i3 : (0 : Int) ≤ (((x - 1).toNat : Nat) : Int) := by omega
    have i4 : (((x - 1).toNat : Nat) : Int) < (b.length : Int) := by omega
    have i5 : i < 4611686018427387904 := by omega
    have w1 : wrap64 (x - 1) = (((x - 1).toNat : Nat) : Int) := by rw [w_id (by omega) (by omega)]; exact e1
    have w2 : wrap64 (b.getD (x - 1).toNat 0 - 1) = b.getD (x - 1).toNat 0 - 1 := w_id (by omega) (by omega)
    refine Ev.step (fun k => ?_) hrec
    simp only [impl_WearAll.l1]
    rw [if_pos i1, if_pos i2, if_pos i1, rd_nat, hx, w1, if_pos i3, if_pos i4, Int.toNat_natCast, rd_nat, w2, wsucc i i5]

theorem clone_val (l : List Int) (h : l.length ≤ 1048576) : slices_Clone_int_int.f l = some l := by
  unfold slices_Clone_int_int.f
  simp only [Option.bind_some]
  rw [if_pos (by simp; omega)]
  simp

/-- The bears behind climbs, one after the other; none if one of them is no climb. -/
def wearAllV (r : Int) : List Int → List (List Int) → Option (List Int)
  | b, [] => some b
  | b, c :: cs => if isV b r 0 c = true then wearAllV r (wearV b c) cs else none
def outV : Option (List Int) → List Int × Bool
  | none => ([], false)
  | some b => (b, true)
theorem rdL_nat (l : List (List Int)) (i : Nat) : rd_L1 l (i : Int) = l.getD i [] := by simp [rd_L1]
theorem dropL_cons (l : List (List Int)) (i : Nat) (h : i < l.length) : l.drop i = l.getD i [] :: l.drop (i + 1) := by
  rw [List.drop_eq_getElem_cons h, List.getD_eq_getElem?_getD, List.getElem?_eq_getElem h]
  rfl
theorem wearAll_l0 (r : Int) (r1 : 1 ≤ r) (r2 : r ≤ 20) (l : List (List Int)) (hl : l.length ≤ 1048576) (hc : ∀ c ∈ l, c.length ≤ 9223372036854775807) : ∀ (cs : List (List Int)) (i : Nat) (b : List Int), l.drop i = cs → i ≤ l.length → b.length ≤ 20 → (∀ x ∈ b, 0 ≤ x ∧ x ≤ 100) →
    Ev (fun k => impl_WearAll.l0 k r b l (l.length : Int) (i : Int)) (outV (wearAllV r b cs)) := by
  intro cs
  induction cs with
  | nil =>
    intro i b hd hi hb hv
    have hl0 : l.length - i = 0 := by
      have := congrArg List.length hd
      rwa [List.length_drop] at this
    refine Ev.step (fun k => ?_) (Ev.now _)
    simp only [impl_WearAll.l0]
    rw [if_neg (by omega)]
    rfl
  | cons c cs ih =>
    intro i b hd hi hb hv
    have hl0 : l.length - i = cs.length + 1 := by
      have := congrArg List.length hd
      rwa [List.length_drop, List.length_cons] at this
    have hx : l.getD i [] = c := by
      rw [dropL_cons l i (by omega)] at hd
      exact (List.cons.inj hd).1
    have hd' : l.drop (i + 1) = cs := by
      rw [dropL_cons l i (by omega)] at hd
      exact (List.cons.inj hd).2
    have hcm : c ∈ l := List.mem_of_mem_drop (i := i) (by rw [hd]; exact List.mem_cons_self)
    have i1 : (i : Int) < (l.length : Int) := by omega
    have i2 : (0 : Int) ≤ (i : Int) := by omega
    have i5 : i < 4611686018427387904 := by omega
    have hisw := isWear_ev b r hb hv r1 r2 c (hc c hcm)
    by_cases hz : isV b r 0 c = true
    · have hs0 : Same b b 0 := ⟨rfl, hv, fun _ _ => rfl⟩
      have hrec := ih (i + 1) (wearV b c) hd' (by omega) (by rw [wearV_length]; exact hb) (wearV_good r b c b 0 hs0 (by omega) hz)
      rw [← wsucc i i5] at hrec
      have hin := wearAll_l1 r b hb r l (l.length : Int) (i : Int) c (hc c hcm) _ c 0 0 b rfl (by omega) (by omega) (by omega) (by omega) hs0 hz hrec
      have hin2 := Ev.bind (f := fun k t => if t = true then impl_WearAll.l1 k r b l (l.length : Int) (i : Int) c (c.length : Int) 0 else some (([] : List Int), false)) hisw (Ev.ite_true hz hin)
      simp only [wearAllV]
      rw [if_pos hz]
      refine Ev.step (fun k => ?_) hin2
      simp only [impl_WearAll.l0]
      rw [if_pos i1, if_pos i2, if_pos i1, rdL_nat, hx]
    · have hz' : isV b r 0 c = false := Bool.eq_false_iff.mpr hz
      have hin2 := Ev.bind (f := fun k t => if t = true then impl_WearAll.l1 k r b l (l.length : Int) (i : Int) c (c.length : Int) 0 else some (([] : List Int), false)) hisw (Ev.ite_false hz' (Ev.now _))
      simp only [wearAllV]
      rw [if_neg hz]
      refine Ev.step (fun k => ?_) hin2
      simp only [impl_WearAll.l0]
      rw [if_pos i1, if_pos i2, if_pos i1, rdL_nat, hx]
theorem wearAll_ev (l : List Int) (hl : l.length ≤ 1048576) (r : Int) (cs : List (List Int)) (hcl : cs.length ≤ 1048576) (hc : ∀ c ∈ cs, c.length ≤ 9223372036854775807) :
    Ev (fun k => impl_WearAll.f k l r cs) (if canW l r = true ∧ cs.length ≤ 100 then outV (wearAllV r l cs) else ([], false)) := by
  unfold impl_WearAll.f
  have no1 : Ev (fun k => impl_WearAll.j0 k l r cs true) ([], false) := Ev.step (fun k => by simp only [impl_WearAll.j0]; rw [if_pos trivial]) (Ev.now _)
  by_cases hW : canW l r = true
  · obtain ⟨hg, r1, r2⟩ := canW_bd hW
    obtain ⟨g1, g2, g3⟩ := goodB_bd hg
    by_cases hn : cs.length ≤ 100
    · rw [if_pos ⟨hW, hn⟩]
      refine Ev.bind (canWear_ev l hl r) (Ev.ite_true hW ?_)
      rw [decide_eq_false (by omega)]
      have h := wearAll_l0 r r1 r2 cs hcl hc cs 0 l rfl (by omega) g2 g3
      refine Ev.step (fun k => ?_) h
      simp only [impl_WearAll.j0]
      rw [if_neg (by simp), clone_val l hl]
      rfl
    · rw [if_neg (fun h => hn h.2)]
      refine Ev.bind (canWear_ev l hl r) (Ev.ite_true hW ?_)
      rw [decide_eq_true (by omega)]
      exact no1
  · rw [if_neg (fun h => hW h.1)]
    exact Ev.bind (canWear_ev l hl r) (Ev.ite_false (Bool.eq_false_iff.mpr hW) no1)

/- What is proved at the end: ∀ (l0 : List Int) (a1 : Int) (l2 : List (List Int)), l0.length ≤ maxLen → (∀ x ∈ l0, (Lit.int .i64 x).wf = true) → (Lit.int .i64 a1).wf = true → l2.length ≤ maxLen → (∀ q ∈ l2, q.length ≤ maxLen ∧ ∀ x ∈ q, (Lit.int .i64 x).wf = true) → ∃ k, laws_FnExactWearAll.f k l0 a1 l2 = some true -/
theorem specWear_l0 (r : Int) (r1 : 1 ≤ r) (r2 : r ≤ 20) (l : List (List Int)) (hl : l.length ≤ 1048576) (hc : ∀ c ∈ l, c.length ≤ 9223372036854775807) : ∀ (cs : List (List Int)) (i : Nat) (b : List Int), l.drop i = cs → i ≤ l.length → b.length ≤ 20 → (∀ x ∈ b, 0 ≤ x ∧ x ≤ 100) →
    Ev (fun k => spec_WearAll.l0 k r b l (l.length : Int) (i : Int)) (outV (wearAllV r b cs)) := by
  intro cs
  induction cs with
  | nil =>
    intro i b hd hi hb hv
    have hl0 : l.length - i = 0 := by
      have := congrArg List.length hd
      rwa [List.length_drop] at this
    refine Ev.step (fun k => ?_) (Ev.now _)
    simp only [spec_WearAll.l0]
    rw [if_neg (by omega)]
    rfl
  | cons c cs ih =>
    intro i b hd hi hb hv
    have hl0 : l.length - i = cs.length + 1 := by
      have := congrArg List.length hd
      rwa [List.length_drop, List.length_cons] at this
    have hx : l.getD i [] = c := by
      rw [dropL_cons l i (by omega)] at hd
      exact (List.cons.inj hd).1
    have hd' : l.drop (i + 1) = cs := by
      rw [dropL_cons l i (by omega)] at hd
      exact (List.cons.inj hd).2
    have hcm : c ∈ l := List.mem_of_mem_drop (i := i) (by rw [hd]; exact List.mem_cons_self)
    have i1 : (i : Int) < (l.length : Int) := by omega
    have i2 : (0 : Int) ≤ (i : Int) := by omega
    have i5 : i < 4611686018427387904 := by omega
    have hisw := weIs_ev b r hb hv r1 r2 c (hc c hcm)
    have step : ∀ k, spec_WearAll.l0 (k + 1) r b l (l.length : Int) (i : Int) = (spec_weIs.f k b r c).bind fun t => if t = true then ((spec_weBy.f k b c).bind fun t140 => spec_WearAll.l0 k r t140 l (l.length : Int) ((i + 1 : Nat) : Int)) else some (([] : List Int), false) := by
      intro k
      simp only [spec_WearAll.l0]
      rw [if_pos i1, if_pos i2, if_pos i1, rdL_nat, hx, wsucc i i5]
    simp only [wearAllV]
    by_cases hz : isV b r 0 c = true
    · have hs0 : Same b b 0 := ⟨rfl, hv, fun _ _ => rfl⟩
      have hrec := ih (i + 1) (wearV b c) hd' (by omega) (by rw [wearV_length]; exact hb) (wearV_good r b c b 0 hs0 (by omega) hz)
      rw [if_pos hz]
      exact Ev.step step (Ev.bind hisw (Ev.ite_true hz (Ev.bind (weBy_ev r b c hb hv (hc c hcm) hz) hrec)))
    · rw [if_neg hz]
      exact Ev.step step (Ev.bind hisw (Ev.ite_false (Bool.eq_false_iff.mpr hz) (Ev.now _)))
theorem specWear_ev (l : List Int) (hl : l.length ≤ 1048576) (r : Int) (cs : List (List Int)) (hcl : cs.length ≤ 1048576) (hc : ∀ c ∈ cs, c.length ≤ 9223372036854775807) :
    Ev (fun k => spec_WearAll.f k l r cs) (if canW l r = true ∧ cs.length ≤ 100 then outV (wearAllV r l cs) else ([], false)) := by
  unfold spec_WearAll.f
  have no1 : Ev (fun k => spec_WearAll.j0 k l r cs true) ([], false) := Ev.step (fun k => by simp only [spec_WearAll.j0]; rw [if_pos trivial]) (Ev.now _)
  by_cases hW : canW l r = true
  · obtain ⟨hg, r1, r2⟩ := canW_bd hW
    obtain ⟨g1, g2, g3⟩ := goodB_bd hg
    refine Ev.bind (weReach_ev l hl r) (Ev.ite_true hW ?_)
    by_cases hn : cs.length ≤ 100
    · rw [if_pos ⟨hW, hn⟩, decide_eq_false (by omega)]
      have h := specWear_l0 r r1 r2 cs hcl hc cs 0 l rfl (by omega) g2 g3
      refine Ev.step (fun k => ?_) h
      simp only [spec_WearAll.j0]
      rw [if_neg (by simp), own_val l hl]
      rfl
    · rw [if_neg (fun h => hn h.2), decide_eq_true (by omega)]
      exact no1
  · rw [if_neg (fun h => hW h.1)]
    exact Ev.bind (weReach_ev l hl r) (Ev.ite_false (Bool.eq_false_iff.mpr hW) no1)
theorem outV_len {r : Int} : ∀ (cs : List (List Int)) (b : List Int), b.length ≤ 20 → (outV (wearAllV r b cs)).1.length ≤ 20 := by
  intro cs
  induction cs with
  | nil => intro b h; exact h
  | cons c cs ih =>
    intro b h
    simp only [wearAllV]
    split
    · exact ih _ (by rw [wearV_length]; exact h)
    · simp [outV]
/-- How many numbers rows hold. -/
def ssum : List (List Int) → Nat
  | [] => 0
  | c :: cs => c.length + ssum cs
theorem ssum_mem : ∀ {cs : List (List Int)} {c : List Int}, c ∈ cs → c.length ≤ ssum cs := by
  intro cs
  induction cs with
  | nil => intro c h; simp at h
  | cons d cs ih =>
    intro c h
    simp only [ssum]
    rcases List.mem_cons.mp h with rfl | h
    · omega
    · have := ih h
      omega
theorem szIntS_val (l : List Int) (n : Int) : laws_szIntS.f l n = some (if wrap64 (n - (l.length : Int)) < 0 then -1 else wrap64 (n - (l.length : Int))) := by
  unfold laws_szIntS.f
  split <;> rfl
theorem getL_mem {l : List (List Int)} {i : Nat} (h : i < l.length) : l.getD i [] ∈ l := by
  rw [List.getD_eq_getElem?_getD, List.getElem?_eq_getElem h]
  exact List.getElem_mem h
/-- What is left of a bulk. -/
def lv (left : Int) (n : Nat) : Int := if left < (n : Int) then -1 else left - (n : Int)
theorem lv_zero {left : Int} (h : 0 ≤ left) : lv left 0 = left := by
  unfold lv
  rw [if_neg (by omega)]
  omega
theorem lv_neg {left : Int} {a b : Nat} (h : left - (a : Int) < 0) : lv left (a + b) = -1 := by
  unfold lv
  rw [if_pos (by omega)]
theorem lv_pos {left : Int} {a b : Nat} (h : ¬ left - (a : Int) < 0) : lv left (a + b) = lv (left - (a : Int)) b := by
  unfold lv
  by_cases h2 : left < ((a + b : Nat) : Int)
  · rw [if_pos h2, if_pos (by omega)]
  · rw [if_neg h2, if_neg (by omega)]
    omega
theorem szSS_l (l : List (List Int)) (hl : l.length ≤ 1048576) (hc : ∀ c ∈ l, c.length ≤ 9223372036854775807) : ∀ (d i : Nat) (left : Int), l.length - i = d → i ≤ l.length → 0 ≤ left → left ≤ 1048576 →
    Ev (fun k => laws_szIntSS.l0 k l left (i : Int)) (lv left (ssum (l.drop i))) := by
  intro d
  induction d with
  | zero =>
    intro i left h1 h2 h3 h4
    have e : ssum (l.drop i) = 0 := by
      rw [List.drop_eq_nil_of_le (by omega)]
      rfl
    rw [e, lv_zero h3]
    refine Ev.step (fun k => ?_) (Ev.now _)
    simp only [laws_szIntSS.l0]
    rw [if_neg (by omega)]
  | succ d ih =>
    intro i left h1 h2 h3 h4
    have hi : i < l.length := by omega
    have hm := hc _ (getL_mem hi)
    have e : ssum (l.drop i) = (l.getD i []).length + ssum (l.drop (i + 1)) := by
      rw [dropL_cons l i hi]
      rfl
    rw [e]
    clear e
    obtain ⟨c, hcd⟩ : ∃ c, c = l.getD i [] := ⟨_, rfl⟩
    rw [← hcd] at hm ⊢
    have hw : wrap64 (left - (c.length : Int)) = left - (c.length : Int) := by
      unfold wrap64
      omega
    have step : ∀ k, laws_szIntSS.l0 (k + 1) l left (i : Int) = if left - (c.length : Int) < 0 then some (-1) else laws_szIntSS.l0 k l (left - (c.length : Int)) ((i + 1 : Nat) : Int) := by
      intro k
      simp only [laws_szIntSS.l0]
      rw [if_pos (by clear hw; omega), if_pos (by clear hw; omega), rdL_nat, ← hcd, szIntS_val, hw, wsucc i (by clear hw; omega)]
      simp only [Option.bind_some]
      by_cases hn : left - (c.length : Int) < 0
      · rw [if_pos hn, if_pos hn, if_pos (by decide)]
      · rw [if_neg hn, if_neg hn]
    clear hw
    by_cases hn : left - (c.length : Int) < 0
    · rw [lv_neg hn]
      exact Ev.step (fun k => (step k).trans (if_pos hn)) (Ev.now _)
    · rw [lv_pos hn]
      exact Ev.step (fun k => (step k).trans (if_neg hn)) (ih (i + 1) (left - (c.length : Int)) (by omega) (by omega) (by omega) (by omega))
theorem szSS_ev (l : List (List Int)) (hl : l.length ≤ 9223372036854775807) (hc : ∀ c ∈ l, c.length ≤ 9223372036854775807) : ∃ v, Ev (fun k => laws_szIntSS.f k l 1048576) v ∧ (v < 0 ∨ (0 ≤ v ∧ l.length ≤ 1048576 ∧ l.length + ssum l ≤ 1048576)) := by
  have hw : wrap64 (1048576 - (l.length : Int)) = 1048576 - (l.length : Int) := by
    unfold wrap64
    omega
  unfold laws_szIntSS.f
  rw [hw]
  clear hw
  by_cases hn : 1048576 - (l.length : Int) < 0
  · exact ⟨-1, Ev.congr (fun k => if_pos hn) (Ev.now _), .inl (by decide)⟩
  · have h := szSS_l l (by omega) hc _ 0 (1048576 - (l.length : Int)) rfl (Nat.zero_le _) (by omega) (by omega)
    rw [List.drop_zero] at h
    refine ⟨_, Ev.congr (fun k => if_neg hn) h, ?_⟩
    unfold lv
    by_cases hs : 1048576 - (l.length : Int) < (ssum l : Int)
    · rw [if_pos hs]
      exact .inl (by decide)
    · rw [if_neg hs]
      exact .inr ⟨by omega, by omega, by omega⟩
theorem toSS_l (l : List (List Int)) (hl : l.length ≤ 1048576) (hc : ∀ c ∈ l, c.length ≤ 1048576) : ∀ (d i : Nat) (x : List (List Int)), l.length - i = d → i ≤ l.length → x.length = l.length → x.take i = l.take i →
    Ev (fun k => laws_toIntSS.l0 k l x (i : Int)) l := by
  intro d
  induction d with
  | zero =>
    intro i x h1 h2 h3 h4
    have e : i = l.length := by omega
    rw [e, List.take_length, ← h3, List.take_length] at h4
    subst h4
    refine Ev.step (fun k => ?_) (Ev.now _)
    simp only [laws_toIntSS.l0]
    rw [if_neg (by omega)]
  | succ d ih =>
    intro i x h1 h2 h3 h4
    have hi : i < l.length := by omega
    have h5 := ih (i + 1) (x.set i (l.getD i [])) (by omega) (by omega) (by rw [List.length_set]; exact h3) (by
      rw [List.take_add_one, List.take_set_of_le (Nat.le_refl i), List.getElem?_set_self (by omega), h4, List.take_add_one, List.getElem?_eq_getElem hi, List.getD_eq_getElem?_getD, List.getElem?_eq_getElem hi]
      rfl)
    refine Ev.step (f := fun k => (laws_toIntS.f k (l.getD i [])).bind fun t => if (i : Int) < (x.length : Int) then laws_toIntSS.l0 k l (x.set i t) ((i + 1 : Nat) : Int) else none) (fun k => ?_) (Ev.bind (toIntS_ev _ (hc _ (getL_mem hi))) (Ev.congr (fun k => if_pos (by omega)) h5))
    simp only [laws_toIntSS.l0]
    rw [if_pos (by omega), if_pos (by omega), rdL_nat, wsucc i (by omega), Int.toNat_natCast]
theorem toSS_ev (l : List (List Int)) (hl : l.length ≤ 1048576) (hc : ∀ c ∈ l, c.length ≤ 1048576) : Ev (fun k => laws_toIntSS.f k l) l := by
  unfold laws_toIntSS.f
  exact Ev.congr (fun k => (if_pos (by omega)).trans (if_pos (by rw [Int.toNat_natCast]; omega))) (toSS_l l hl hc _ 0 _ rfl (Nat.zero_le _) (by rw [List.length_replicate, Int.toNat_natCast]) (by simp))
theorem eqSS_l (l : List (List Int)) (hl : l.length ≤ 1048576) (hc : ∀ c ∈ l, c.length ≤ 1048576) : ∀ (d i : Nat), l.length - i = d → i ≤ l.length → Ev (fun k => laws_eqIntSS.l0 k l l (i : Int)) true := by
  intro d
  induction d with
  | zero =>
    intro i h1 h2
    refine Ev.step (fun k => ?_) (Ev.now _)
    simp only [laws_eqIntSS.l0]
    rw [if_neg (by omega)]
  | succ d ih =>
    intro i h1 h2
    have hi : i < l.length := by omega
    refine Ev.step (f := fun k => (laws_eqIntS.f k (l.getD i []) (l.getD i [])).bind fun t => if t = true then laws_eqIntSS.l0 k l l ((i + 1 : Nat) : Int) else some false) (fun k => ?_) (Ev.bind (eqIntS_ev _ (hc _ (getL_mem hi))) (Ev.ite_true rfl (ih (i + 1) (by omega) (by omega))))
    simp only [laws_eqIntSS.l0]
    rw [if_pos (by omega), if_pos (by omega), if_pos (by omega), rdL_nat, wsucc i (by omega)]
theorem eqSS_ev (l : List (List Int)) (hl : l.length ≤ 1048576) (hc : ∀ c ∈ l, c.length ≤ 1048576) : Ev (fun k => laws_eqIntSS.f k l l) true := by
  unfold laws_eqIntSS.f
  exact Ev.congr (fun k => if_pos rfl) (eqSS_l l hl hc _ 0 rfl (Nat.zero_le _))
theorem markSS_l (l : List (List Int)) (hl : l.length ≤ 1048576) (hc : ∀ c ∈ l, c.length ≤ 1048576) : ∀ (d i : Nat) (m : Int), l.length - i = d → i ≤ l.length → 0 ≤ m → m + (ssum (l.drop i) : Int) ≤ 900000000 → Ev (fun k => laws_markIntSS.l0 k l m (i : Int)) (m + (ssum (l.drop i) : Int)) := by
  intro d
  induction d with
  | zero =>
    intro i m h1 h2 h3 h4
    have e : ssum (l.drop i) = 0 := by
      rw [List.drop_eq_nil_of_le (by omega)]
      rfl
    rw [e]
    refine Ev.step (fun k => ?_) (Ev.now _)
    simp only [laws_markIntSS.l0]
    rw [if_neg (by omega)]
    congr 1
    omega
  | succ d ih =>
    intro i m h1 h2 h3 h4
    have hi : i < l.length := by omega
    have e0 : ssum (l.drop i) = (l.getD i []).length + ssum (l.drop (i + 1)) := by
      rw [dropL_cons l i hi]
      rfl
    rw [e0] at h4 ⊢
    have h5 := ih (i + 1) (m + ((l.getD i []).length : Int)) (by omega) (by omega) (by omega) (by omega)
    have e : m + (((l.getD i []).length + ssum (l.drop (i + 1)) : Nat) : Int) = m + ((l.getD i []).length : Int) + (ssum (l.drop (i + 1)) : Int) := by omega
    rw [e]
    refine Ev.step (f := fun k => (laws_markIntS.f k (l.getD i []) m).bind fun t => laws_markIntSS.l0 k l t.1 ((i + 1 : Nat) : Int)) (fun k => ?_) (Ev.bind (markIntS_ev _ (hc _ (getL_mem hi)) m h3 (by omega)) h5)
    simp only [laws_markIntSS.l0]
    rw [if_pos (by omega), if_pos (by omega), wsucc i (by omega), Int.toNat_natCast]
theorem markSS_ev (l : List (List Int)) (hl : l.length ≤ 1048576) (hc : ∀ c ∈ l, c.length ≤ 1048576) (m : Int) (h3 : 0 ≤ m) (h4 : m + (ssum l : Int) ≤ 900000000) : Ev (fun k => laws_markIntSS.f k l m) (m + (ssum l : Int)) := by
  have h := markSS_l l hl hc _ 0 m rfl (Nat.zero_le _) h3 (by rw [List.drop_zero]; exact h4)
  rw [List.drop_zero] at h
  exact h
theorem FnExactWearAll_true (l0 : List Int) (a1 : Int) (l2 : List (List Int)) (hm2 : l2.length ≤ maxLen) (hq2 : ∀ q ∈ l2, q.length ≤ maxLen) : Ev (fun k => laws_FnExactWearAll.f k l0 a1 l2) true := by
  unfold maxLen at hm2 hq2
  unfold laws_FnExactWearAll.f
  by_cases hB : (l0.length : Int) > 1048576
  · exact Ev.congr (fun k => if_pos hB) (Ev.now _)
  · refine Ev.congr (fun k => if_neg hB) ?_
    have hl0 : l0.length ≤ 1048576 := by omega
    obtain ⟨v, hv, hcase⟩ := szSS_ev l2 hm2 hq2
    rcases hcase with hneg | ⟨hv0, hl2, hsum⟩
    · exact Ev.bind hv (Ev.congr (fun k => if_pos hneg) (Ev.now _))
    · have hc : ∀ c ∈ l2, c.length ≤ 1048576 := fun c h => by have := ssum_mem h; omega
      have hc' : ∀ c ∈ l2, c.length ≤ 9223372036854775807 := fun c h => by have := hc c h; omega
      have to1 := toIntS_ev l0 hl0
      have to2 := toSS_ev l2 hl2 hc
      have hS := specWear_ev l0 hl0 a1 l2 hl2 hc'
      have hI := wearAll_ev l0 hl0 a1 l2 hl2 hc'
      obtain ⟨w0, w1, hw, hwl⟩ : ∃ w0 w1, (if canW l0 a1 = true ∧ l2.length ≤ 100 then outV (wearAllV a1 l0 l2) else (([] : List Int), false)) = (w0, w1) ∧ w0.length ≤ 1048576 := by
        by_cases h : canW l0 a1 = true ∧ l2.length ≤ 100
        · rw [if_pos h]
          obtain ⟨hg, _, _⟩ := canW_bd h.1
          obtain ⟨_, g2, _⟩ := goodB_bd hg
          have := outV_len (r := a1) l2 l0 g2
          exact ⟨(outV (wearAllV a1 l0 l2)).1, (outV (wearAllV a1 l0 l2)).2, rfl, by omega⟩
        · rw [if_neg h]
          exact ⟨_, _, rfl, by simp⟩
      rw [hw] at hS hI
      have eqw := eqIntS_ev w0 hwl
      have mw := markIntS_ev w0 hwl 1 (by omega) (by omega)
      have hh := heldIntS_ev w0.length hwl 1 (by omega) (by omega)
      have m0 := markIntS_ev l0 hl0 1 (by omega) (by omega)
      have mS := markSS_ev l2 hl2 hc (1 + (l0.length : Int)) (by omega) (by omega)
      have eb : (w1 != w1) = false := by simp
      have j2 : Ev (fun k => laws_FnExactWearAll.j2 k (marked w0.length 1) (1 + (w0.length : Int)) false) true := by
        refine Ev.step (f := fun k => (laws_heldIntS.f k (marked w0.length 1) 1).bind fun t => if t < 0 then some false else if t = 1 + (w0.length : Int) then some true else some false) (fun k => ?_) (Ev.bind hh (Ev.congr (fun k => (if_neg (by omega)).trans (if_pos rfl)) (Ev.now _)))
        simp only [laws_FnExactWearAll.j2]
        rw [if_neg (by simp)]
      have j1 : Ev (fun k => laws_FnExactWearAll.j1 k l0 a1 l2 w0 w1 w0 false) true := by
        refine Ev.step (f := fun k => (laws_markIntS.f k w0 1).bind fun bt214 => (laws_heldIntS.f k bt214.2 1).bind fun t216 => if t216 < 0 then some false else if t216 = bt214.1 then ((laws_toIntS.f k l0).bind fun t217 => (laws_toIntSS.f k l2).bind fun t220 => (impl_WearAll.f k t217 a1 t220).bind fun bt223 => (laws_eqIntS.f k bt223.1 w0).bind fun t227 => if t227 = true then laws_FnExactWearAll.j2 k bt214.2 bt214.1 (bt223.2 != w1) else laws_FnExactWearAll.j2 k bt214.2 bt214.1 true) else some false) (fun k => ?_) (Ev.bind mw (Ev.bind hh (Ev.congr (fun k => (if_neg (by omega)).trans (if_pos rfl)) (Ev.bind to1 (Ev.bind to2 (Ev.bind hI (Ev.bind eqw (Ev.ite_true rfl (by simp only [eb]; exact j2)))))))))
        simp only [laws_FnExactWearAll.j1]
        rw [if_neg (by simp)]
      have j0 : Ev (fun k => laws_FnExactWearAll.j0 k l0 a1 l2 w0 w1 l0 l2 w0 w1 false) true := by
        refine Ev.step (f := fun k => (laws_toIntS.f k l0).bind fun t202 => (laws_eqIntS.f k l0 t202).bind fun t205 => if t205 = true then ((laws_toIntSS.f k l2).bind fun t206 => (laws_eqIntSS.f k l2 t206).bind fun t209 => if t209 = true then ((laws_markIntS.f k l0 1).bind fun bt210 => (laws_markIntSS.f k l2 bt210.1).bind fun t212 => if t212 < 0 then laws_FnExactWearAll.j1 k l0 a1 l2 w0 w1 w0 true else ((laws_eqIntS.f k w0 w0).bind fun t213 => if t213 = true then laws_FnExactWearAll.j1 k l0 a1 l2 w0 w1 w0 (w1 != w1) else laws_FnExactWearAll.j1 k l0 a1 l2 w0 w1 w0 true)) else some false) else some false) (fun k => ?_) (Ev.bind to1 (Ev.bind (eqIntS_ev l0 hl0) (Ev.ite_true rfl (Ev.bind to2 (Ev.bind (eqSS_ev l2 hl2 hc) (Ev.ite_true rfl (Ev.bind m0 (Ev.bind mS (Ev.congr (fun k => if_neg (by omega)) (Ev.bind eqw (Ev.ite_true rfl (by simp only [eb]; exact j1))))))))))))
        simp only [laws_FnExactWearAll.j0]
        rw [if_neg (by simp)]
      refine Ev.bind hv (Ev.congr (fun k => if_neg (by omega)) (Ev.bind to1 (Ev.bind to2 (Ev.bind hS (Ev.bind to1 (Ev.bind to2 (Ev.bind hI (Ev.bind eqw (Ev.ite_true rfl ?_)))))))))
      simp only [eb]
      exact j0
theorem FnExactWearAll : ∀ (l0 : List Int) (a1 : Int) (l2 : List (List Int)), l0.length ≤ maxLen → (∀ x ∈ l0, (Lit.int .i64 x).wf = true) → (Lit.int .i64 a1).wf = true → l2.length ≤ maxLen → (∀ q ∈ l2, q.length ≤ maxLen ∧ ∀ x ∈ q, (Lit.int .i64 x).wf = true) → ∃ k, laws_FnExactWearAll.f k l0 a1 l2 = some true := fun l0 a1 l2 _ _ _ hm2 hw2 => (FnExactWearAll_true l0 a1 l2 hm2 (fun q h => (hw2 q h).1)).rounds

end Go.Proofs.Ytfmjkephbibddaa.Pure
