/- The pure statement of FnExactWearBy: the printed function returns true for all arguments within their kinds; no other condition. -/
import Derived.Test.YtfmjkephbibddaaPFnExactWearByx
namespace Go.Proofs.Ytfmjkephbibddaa.Pure
open Go.RowKit Go.Proofs.Ytfmjkephbibddaa.PFnExactWearBy Go.Proofs.YtfmjkephbibddaaW.PrintWords Go.Proofs.YtfmjkephbibddaaW.PrintLast Go.Proofs.YtfmjkephbibddaaW.PrintMore
set_option linter.unusedVariables false
set_option linter.unusedSimpArgs false
theorem wsucc (i : Nat) (h : i < 4611686018427387904) : wrap64 ((i : Int) + 1) = ((i + 1 : Nat) : Int) := by
  unfold wrap64
  omega
theorem kpred {d k : Nat} (h : d < k) : ∃ m, k = m + 1 := ⟨k - 1, by omega⟩
theorem rd_nat (l : List Int) (i : Nat) : rd l (i : Int) = l.getD i 0 := by simp [rd]
theorem take_set_succ (x : List Int) (i : Nat) (v : Int) (h : i < x.length) : (x.set i v).take (i + 1) = x.take i ++ [v] := by
  rw [List.take_add_one, List.take_set_of_le (Nat.le_refl i), List.getElem?_set_self h]
  rfl
theorem take_get_succ (x : List Int) (i : Nat) (h : i < x.length) : x.take (i + 1) = x.take i ++ [x.getD i 0] := by
  rw [List.take_add_one, List.getElem?_eq_getElem h, List.getD_eq_getElem?_getD, List.getElem?_eq_getElem h]
  rfl
theorem w_id {x : Int} (h0 : -4611686018427387904 ≤ x) (h1 : x ≤ 4611686018427387904) : wrap64 x = x := by
  unfold wrap64
  omega
theorem w_sub (k r : Nat) (h : r ≤ k) (hk : k ≤ 1000000000) : wrap64 ((k : Int) - (r : Int)) = ((k - r : Nat) : Int) := by
  rw [w_id (by omega) (by omega)]
  omega
theorem w_add (a b : Nat) (h : a ≤ 1000000000) (hb : b ≤ 1000000000) : wrap64 ((a : Int) + (b : Int)) = ((a + b : Nat) : Int) := by
  rw [w_id (by omega) (by omega)]
  omega
theorem w_pred (k : Nat) (h : 1 ≤ k) (hk : k ≤ 1000000000) : wrap64 ((k : Int) - 1) = ((k - 1 : Nat) : Int) := by
  rw [w_id (by omega) (by omega)]
  omega

theorem toIntS_l (l : List Int) (hB : l.length ≤ 1048576) : ∀ (d k i : Nat) (x : List Int), l.length - i = d → d < k → i ≤ l.length → x.length = l.length → x.take i = l.take i →
    laws_toIntS.l0 k l x (i : Int) = some l := by
  intro d
  induction d with
  | zero =>
    intro k i x hd hk hi hx ht
    obtain ⟨k, rfl⟩ := kpred hk
    have e : i = l.length := by omega
    simp only [laws_toIntS.l0]
    rw [if_neg (by omega)]
    have h1 := ht
    rw [e, List.take_length, ← hx, List.take_length] at h1
    rw [h1]
  | succ d ih =>
    intro k i x hd hk hi hx ht
    obtain ⟨k, rfl⟩ := kpred hk
    simp only [laws_toIntS.l0]
    rw [if_pos (by omega), if_pos (by omega), if_pos (by omega), wsucc i (by omega), Int.toNat_natCast, rd_nat]
    refine ih k (i + 1) _ (by omega) (by omega) (by omega) (by simpa using hx) ?_
    rw [take_set_succ _ _ _ (by omega), take_get_succ _ _ (by omega), ht]
theorem toIntS_val (l : List Int) (hB : l.length ≤ 1048576) (k : Nat) (hk : l.length < k) : laws_toIntS.f k l = some l := by
  unfold laws_toIntS.f
  rw [if_pos (by omega), if_pos (by rw [Int.toNat_natCast]; omega)]
  exact toIntS_l l hB l.length k 0 _ (by omega) hk (by omega) (by simp) (by simp)

theorem toIntS_ev (l : List Int) (hB : l.length ≤ 1048576) : Ev (fun k => laws_toIntS.f k l) l := ⟨l.length + 1, fun k hk => toIntS_val l hB k (by omega)⟩

theorem eqIntS_l (l : List Int) (hB : l.length ≤ 1048576) : ∀ (d k i : Nat), l.length - i = d → d < k → i ≤ l.length → laws_eqIntS.l0 k l l (i : Int) = some true := by
  intro d
  induction d with
  | zero =>
    intro k i hd hk hi
    obtain ⟨k, rfl⟩ := kpred hk
    simp only [laws_eqIntS.l0]
    rw [if_neg (by omega)]
  | succ d ih =>
    intro k i hd hk hi
    obtain ⟨k, rfl⟩ := kpred hk
    simp only [laws_eqIntS.l0]
    rw [if_pos (by omega), if_pos (by omega), if_pos (by omega), if_pos trivial, wsucc i (by omega)]
    exact ih k (i + 1) (by omega) (by omega) (by omega)
theorem eqIntS_val (l : List Int) (hB : l.length ≤ 1048576) (k : Nat) (hk : l.length < k) : laws_eqIntS.f k l l = some true := by
  unfold laws_eqIntS.f
  rw [if_pos rfl]
  exact eqIntS_l l hB l.length k 0 (by omega) hk (by omega)

theorem eqIntS_ev (l : List Int) (hB : l.length ≤ 1048576) : Ev (fun k => laws_eqIntS.f k l l) true := ⟨l.length + 1, fun k hk => eqIntS_val l hB k (by omega)⟩

def marked (n : Nat) (m : Int) : List Int := (List.range n).map fun (j : Nat) => m + (j : Int)
theorem marked_length (n : Nat) (m : Int) : (marked n m).length = n := by simp [marked]
theorem marked_succ (n : Nat) (m : Int) : marked (n + 1) m = m :: marked n (m + 1) := by
  simp only [marked, List.range_succ_eq_map, List.map_cons, List.map_map]
  congr 1
  · omega
  · apply List.map_congr_left
    intro j _
    simp only [Function.comp]
    omega
theorem marked_get (n : Nat) (m : Int) (j : Nat) (h : j < n) : (marked n m).getD j 0 = m + (j : Int) := by
  simp [marked, List.getD_eq_getElem?_getD, h]
theorem markIntS_l : ∀ (d k i : Nat) (l : List Int) (m : Int), l.length ≤ 1048576 → l.length - i = d → d < k → i ≤ l.length → 0 ≤ m → m + (d : Int) ≤ 1000000000 →
    laws_markIntS.l0 k l m (i : Int) = some (m + (d : Int), l.take i ++ marked d m) := by
  intro d
  induction d with
  | zero =>
    intro k i l m hB hd hk hi _ _
    obtain ⟨k, rfl⟩ := kpred hk
    simp only [laws_markIntS.l0]
    rw [if_neg (by omega)]
    have e : i = l.length := by omega
    rw [e, List.take_length]
    simp [marked]
  | succ d ih =>
    intro k i l m hB hd hk hi h0 h1
    obtain ⟨k, rfl⟩ := kpred hk
    simp only [laws_markIntS.l0]
    have hw : wrap64 (m + 1) = m + 1 := by
      unfold wrap64
      omega
    rw [if_pos (by omega), if_pos (by omega), hw, wsucc i (by omega), Int.toNat_natCast]
    rw [ih k (i + 1) (l.set i m) (m + 1) (by simpa using hB) (by rw [List.length_set]; omega) (by omega) (by rw [List.length_set]; omega) (by omega) (by omega)]
    rw [take_set_succ _ _ _ (by omega), marked_succ, List.append_assoc]
    congr 2
    omega
theorem markIntS_val (l : List Int) (hB : l.length ≤ 1048576) (m : Int) (h0 : 0 ≤ m) (h1 : m ≤ 900000000) (k : Nat) (hk : l.length < k) :
    laws_markIntS.f k l m = some (m + (l.length : Int), marked l.length m) := by
  unfold laws_markIntS.f
  have := markIntS_l l.length k 0 l m hB (by omega) hk (by omega) h0 (by omega)
  simpa using this
theorem heldIntS_l : ∀ (d k i : Nat) (l : List Int) (m : Int), l.length ≤ 1048576 → l.length - i = d → d < k → i ≤ l.length → 0 ≤ m → m + (d : Int) ≤ 1000000000 → (∀ j, j < d → l.getD (i + j) 0 = m + (j : Int)) →
    laws_heldIntS.l0 k l m (i : Int) = some (m + (d : Int)) := by
  intro d
  induction d with
  | zero =>
    intro k i l m hB hd hk hi _ _ _
    obtain ⟨k, rfl⟩ := kpred hk
    simp only [laws_heldIntS.l0]
    rw [if_neg (by omega)]
    simp
  | succ d ih =>
    intro k i l m hB hd hk hi h0 h1 hj
    obtain ⟨k, rfl⟩ := kpred hk
    simp only [laws_heldIntS.l0]
    have hw : wrap64 (m + 1) = m + 1 := by
      unfold wrap64
      omega
    have h00 := hj 0 (by omega)
    rw [if_pos (by omega), if_pos (by omega), rd_nat, if_pos (by simpa using h00), hw, wsucc i (by omega)]
    rw [ih k (i + 1) l (m + 1) hB (by omega) (by omega) (by omega) (by omega) (by omega) (fun j h => by
      have := hj (j + 1) (by omega)
      rw [show i + 1 + j = i + (j + 1) by omega, this]
      omega)]
    congr 1
    omega
theorem heldIntS_val (n : Nat) (hB : n ≤ 1048576) (m : Int) (h0 : 0 ≤ m) (h1 : m ≤ 900000000) (k : Nat) (hk : n < k) :
    laws_heldIntS.f k (marked n m) m = some (m + (n : Int)) := by
  unfold laws_heldIntS.f
  exact heldIntS_l n k 0 (marked n m) m (by rw [marked_length]; exact hB) (by rw [marked_length]; omega) hk (by omega) h0 (by omega) (fun j h => by rw [Nat.zero_add]; exact marked_get n m j h)

theorem markIntS_ev (l : List Int) (hB : l.length ≤ 1048576) (m : Int) (h0 : 0 ≤ m) (h1 : m ≤ 900000000) : Ev (fun k => laws_markIntS.f k l m) (m + (l.length : Int), marked l.length m) :=
  ⟨l.length + 1, fun k hk => markIntS_val l hB m h0 h1 k (by omega)⟩
theorem heldIntS_ev (n : Nat) (hB : n ≤ 1048576) (m : Int) (h0 : 0 ≤ m) (h1 : m ≤ 900000000) : Ev (fun k => laws_heldIntS.f k (marked n m) m) (m + (n : Int)) :=
  ⟨n + 1, fun k hk => heldIntS_val n hB m h0 h1 k (by omega)⟩
theorem markIntS_nil : Ev (fun k => laws_markIntS.f k [] 1) (1, []) := by simpa [marked] using markIntS_ev [] (by simp) 1 (by omega) (by omega)
theorem heldIntS_nil : Ev (fun k => laws_heldIntS.f k [] 1) 1 := by simpa [marked] using heldIntS_ev 0 (by omega) 1 (by omega) (by omega)

theorem in_val (a b c : Int) : spec_l1In.f a b c = some (decide (b ≤ a ∧ a ≤ c)) := by
  unfold spec_l1In.f
  by_cases h : b ≤ a <;> simp [h]
theorem within_val (a b c : Int) : impl_within.f a b c = some (decide (b ≤ a ∧ a ≤ c)) := by
  unfold impl_within.f
  by_cases h : b ≤ a <;> simp [h]

def okB (n : Int) : Bool := decide (0 ≤ n ∧ n ≤ 100)
/-- The numbers are bears. -/
def goodB (l : List Int) : Bool := decide (1 ≤ l.length ∧ l.length ≤ 20) && l.all okB
theorem drop_cons (l : List Int) (i : Nat) (h : i < l.length) : l.drop i = l.getD i 0 :: l.drop (i + 1) := by
  rw [List.drop_eq_getElem_cons h, List.getD_eq_getElem?_getD, List.getElem?_eq_getElem h]
  rfl
theorem l1All_l (l : List Int) (hB : l.length ≤ 1048576) : ∀ (d k i : Nat), l.length - i = d → d < k → i ≤ l.length →
    spec_l1All.l0 k 0 100 l (l.length : Int) (i : Int) = some ((l.drop i).all okB) := by
  intro d
  induction d with
  | zero =>
    intro k i hd hk hi
    obtain ⟨k, rfl⟩ := kpred hk
    simp only [spec_l1All.l0]
    rw [if_neg (by omega), List.drop_eq_nil_of_le (by omega)]
    rfl
  | succ d ih =>
    intro k i hd hk hi
    obtain ⟨k, rfl⟩ := kpred hk
    simp only [spec_l1All.l0]
    rw [if_pos (by omega), if_pos (by omega), if_pos (by omega), rd_nat, in_val, drop_cons l i (by omega)]
    simp only [Option.bind_some, List.all_cons, wsucc i (by omega)]
    rw [ih k (i + 1) (by omega) (by omega) (by omega)]
    by_cases h : 0 ≤ l.getD i 0 ∧ l.getD i 0 ≤ 100
    · rw [if_pos (decide_eq_true h)]
      simp only [okB, decide_eq_true h, Bool.true_and]
    · rw [if_neg (by simpa using h)]
      simp only [okB, decide_eq_false h, Bool.false_and]
theorem weGood_val (l : List Int) (hB : l.length ≤ 1048576) (k : Nat) (hk : l.length < k) : spec_weGood.f k l = some (goodB l) := by
  unfold spec_weGood.f spec_l1All.f goodB
  have h := l1All_l l hB l.length k 0 (by omega) hk (by omega)
  rw [List.drop_zero] at h
  rw [in_val]
  simp only [Option.bind_some]
  by_cases h1 : 1 ≤ l.length ∧ l.length ≤ 20
  · rw [if_pos (decide_eq_true (by omega)), decide_eq_true h1, Bool.true_and]
    have h' : spec_l1All.l0 k 0 100 l (l.length : Int) 0 = some (l.all okB) := h
    rw [h']
    rfl
  · rw [if_neg (by simp; omega), decide_eq_false h1, Bool.false_and]
theorem areBears1_val (n : Int) : impl_AreBears_1.f n = some (!okB n) := by
  unfold impl_AreBears_1.f
  simp only [within_val, Option.bind_some]
  rfl
theorem indexFunc_l (l : List Int) (hB : l.length ≤ 1048576) : ∀ (d k i : Nat), l.length - i = d → d < k → i ≤ l.length →
    ∃ r, slices_IndexFunc_int_int.l0 k l (l.length : Int) (i : Int) = some r ∧ decide (r ≥ 0) = !(l.drop i).all okB := by
  intro d
  induction d with
  | zero =>
    intro k i hd hk hi
    obtain ⟨k, rfl⟩ := kpred hk
    refine ⟨-1, ?_, ?_⟩
    · simp only [slices_IndexFunc_int_int.l0]
      rw [if_neg (by omega)]
    · rw [List.drop_eq_nil_of_le (by omega)]
      rfl
  | succ d ih =>
    intro k i hd hk hi
    obtain ⟨k, rfl⟩ := kpred hk
    rw [drop_cons l i (by omega)]
    by_cases h : okB (l.getD i 0) = true
    · obtain ⟨r, hr, hp⟩ := ih k (i + 1) (by omega) (by omega) (by omega)
      refine ⟨r, ?_, by rw [List.all_cons, h, Bool.true_and]; exact hp⟩
      simp only [slices_IndexFunc_int_int.l0]
      rw [if_pos (by omega), if_pos (by omega), if_pos (by omega), rd_nat, areBears1_val, h]
      simp only [Option.bind_some, Bool.not_true, wsucc i (by omega)]
      exact hr
    · have h' : okB (l.getD i 0) = false := Bool.eq_false_iff.mpr h
      refine ⟨i, ?_, by rw [List.all_cons, h', Bool.false_and]; simp⟩
      simp only [slices_IndexFunc_int_int.l0]
      rw [if_pos (by omega), if_pos (by omega), if_pos (by omega), rd_nat, areBears1_val, h']
      rfl
theorem areBears_val (l : List Int) (hB : l.length ≤ 1048576) (k : Nat) (hk : l.length < k) : impl_AreBears.f k l = some (goodB l) := by
  obtain ⟨r, hr, hp⟩ := indexFunc_l l hB l.length k 0 (by omega) hk (by omega)
  have hr' : slices_IndexFunc_int_int.l0 k l (l.length : Int) 0 = some r := hr
  rw [List.drop_zero] at hp
  unfold impl_AreBears.f slices_ContainsFunc_int_int.f slices_IndexFunc_int_int.f goodB
  rw [within_val, hr']
  simp only [Option.bind_some, hp, Bool.not_not]
  by_cases h1 : 1 ≤ l.length ∧ l.length ≤ 20
  · rw [if_pos (decide_eq_true (by omega)), decide_eq_true h1, Bool.true_and]
  · rw [if_neg (by simp; omega), decide_eq_false h1, Bool.false_and]

theorem Ev.ite_true {α : Type} {g f : Nat → Option α} {r : α} {b : Bool} (h : b = true) (k : Ev g r) : Ev (fun n => if b = true then g n else f n) r := by
  subst h
  simpa using k
theorem Ev.ite_false {α : Type} {g f : Nat → Option α} {r : α} {b : Bool} (h : b = false) (k : Ev f r) : Ev (fun n => if b = true then g n else f n) r := by
  subst h
  simpa using k

theorem weGood_ev (l : List Int) (hB : l.length ≤ 1048576) : Ev (fun k => spec_weGood.f k l) (goodB l) := ⟨l.length + 1, fun k hk => weGood_val l hB k (by omega)⟩
theorem areBears_ev (l : List Int) (hB : l.length ≤ 1048576) : Ev (fun k => impl_AreBears.f k l) (goodB l) := ⟨l.length + 1, fun k hk => areBears_val l hB k (by omega)⟩
theorem okB_bd {x : Int} (h : okB x = true) : 0 ≤ x ∧ x ≤ 100 := by simpa [okB] using h
/-- What bears are. -/
theorem goodB_bd {l : List Int} (h : goodB l = true) : 1 ≤ l.length ∧ l.length ≤ 20 ∧ ∀ x ∈ l, 0 ≤ x ∧ x ≤ 100 := by
  simp only [goodB, Bool.and_eq_true, decide_eq_true_eq, List.all_eq_true] at h
  exact ⟨h.1.1, h.1.2, fun x hx => okB_bd (h.2 x hx)⟩
theorem getD_bd {l : List Int} {a b : Int} (h : ∀ x ∈ l, a ≤ x ∧ x ≤ b) {i : Nat} (hi : i < l.length) : a ≤ l.getD i 0 ∧ l.getD i 0 ≤ b := by
  rw [List.getD_eq_getElem?_getD, List.getElem?_eq_getElem hi]
  exact h _ (List.getElem_mem hi)

/-- Bears and a reach. -/
def canW (l : List Int) (r : Int) : Bool := goodB l && decide (1 ≤ r ∧ r ≤ 20)
theorem weReach_ev (l : List Int) (hB : l.length ≤ 1048576) (r : Int) : Ev (fun k => spec_weReach.f k l r) (canW l r) := by
  unfold spec_weReach.f canW
  refine Ev.bind (weGood_ev l hB) ?_
  simp only [in_val, Option.bind_some]
  cases goodB l <;> simp <;> exact Ev.now _
theorem canWear_ev (l : List Int) (hB : l.length ≤ 1048576) (r : Int) : Ev (fun k => impl_canWear.f k l r) (canW l r) := by
  unfold impl_canWear.f canW
  refine Ev.bind (areBears_ev l hB) ?_
  simp only [within_val, Option.bind_some]
  cases goodB l <;> simp <;> exact Ev.now _
theorem canW_bd {l : List Int} {r : Int} (h : canW l r = true) : goodB l = true ∧ 1 ≤ r ∧ r ≤ 20 := by
  simp only [canW, Bool.and_eq_true, decide_eq_true_eq] at h
  exact ⟨h.1, h.2.1, h.2.2⟩

/-- A climb, from the step 'at' on. -/
def isV (b : List Int) (r : Int) : Int → List Int → Bool
  | at_, [] => decide ((b.length : Int) + 1 - at_ ≤ r)
  | at_, k :: ks => decide (at_ + 1 ≤ k ∧ k ≤ at_ + r ∧ k ≤ (b.length : Int)) && (decide (1 ≤ b.getD (k - 1).toNat 0) && isV b r k ks)
theorem least_val' (a b : Int) : spec_l1Least.f a b = some (if a < b then a else b) := by
  unfold spec_l1Least.f
  split <;> rfl
theorem weIs_l (b : List Int) (r : Int) (hb : b.length ≤ 20) (hv : ∀ x ∈ b, 0 ≤ x ∧ x ≤ 100) (r1 : 1 ≤ r) (r2 : r ≤ 20) (s : List Int) (hs : s.length ≤ 9223372036854775807) :
    ∀ (ks : List Int) (i : Nat) (at_ : Int), s.drop i = ks → i ≤ s.length → 0 ≤ at_ → at_ ≤ (b.length : Int) → (i : Int) ≤ at_ → Ev (fun k => spec_weIs.l0 k b r at_ s (s.length : Int) (i : Int)) (isV b r at_ ks) := by
  intro ks
  induction ks with
  | nil =>
    intro i at_ hd hi h0 h1 hia
    have hl : s.length - i = 0 := by
      have := congrArg List.length hd
      rwa [List.length_drop] at this
    refine Ev.step (fun k => ?_) (Ev.now _)
    have w1 : wrap64 ((b.length : Int) + 1) = (b.length : Int) + 1 := by
      unfold wrap64
      omega
    have w2 : wrap64 ((b.length : Int) + 1 - at_) = (b.length : Int) + 1 - at_ := by
      unfold wrap64
      omega
    simp only [spec_weIs.l0]
    rw [if_neg (by omega), w1, w2]
    rfl
  | cons x ks ih =>
    intro i at_ hd hi h0 h1 hia
    have hl : s.length - i = ks.length + 1 := by
      have := congrArg List.length hd
      rwa [List.length_drop, List.length_cons] at this
    have hx : s.getD i 0 = x := by
      rw [drop_cons s i (by omega)] at hd
      exact (List.cons.inj hd).1
    have hd' : s.drop (i + 1) = ks := by
      rw [drop_cons s i (by omega)] at hd
      exact (List.cons.inj hd).2
    have w1 : wrap64 (at_ + r) = at_ + r := by
      unfold wrap64
      omega
    have w2 : wrap64 (at_ + 1) = at_ + 1 := by
      unfold wrap64
      omega
    have hmin : (at_ + 1 ≤ x ∧ x ≤ (if at_ + r < (b.length : Int) then at_ + r else (b.length : Int))) ↔ (at_ + 1 ≤ x ∧ x ≤ at_ + r ∧ x ≤ (b.length : Int)) := by
      split <;> omega
    by_cases hc : at_ + 1 ≤ x ∧ x ≤ at_ + r ∧ x ≤ (b.length : Int)
    · have w3 : wrap64 (x - 1) = (((x - 1).toNat : Nat) : Int) := by
        unfold wrap64
        omega
      have hg := getD_bd hv (i := (x - 1).toNat) (by omega)
      by_cases hz : 1 ≤ b.getD (x - 1).toNat 0
      · have h := ih (i + 1) x hd' (by omega) (by omega) (by omega) (by omega)
        simp only [isV, decide_eq_true hc, decide_eq_true hz, Bool.true_and]
        refine Ev.step (fun k => ?_) h
        simp only [spec_weIs.l0]
        rw [if_pos (by omega), if_pos (by omega), if_pos (by omega), rd_nat, hx, w1, w2, least_val']
        simp only [Option.bind_some, in_val]
        rw [decide_eq_true (hmin.2 hc), if_pos rfl, w3, if_pos (by omega), if_pos (by omega), rd_nat, if_neg (by omega), wsucc i (by omega)]
      · simp only [isV, decide_eq_true hc, decide_eq_false hz, Bool.true_and, Bool.false_and]
        refine Ev.step (fun k => ?_) (Ev.now _)
        simp only [spec_weIs.l0]
        rw [if_pos (by omega), if_pos (by omega), if_pos (by omega), rd_nat, hx, w1, w2, least_val']
        simp only [Option.bind_some, in_val]
        rw [decide_eq_true (hmin.2 hc), if_pos rfl, w3, if_pos (by omega), if_pos (by omega), rd_nat, if_pos (by omega)]
    · simp only [isV, decide_eq_false hc, Bool.false_and]
      refine Ev.step (fun k => ?_) (Ev.now _)
      simp only [spec_weIs.l0]
      rw [if_pos (by omega), if_pos (by omega), if_pos (by omega), rd_nat, hx, w1, w2, least_val']
      simp only [Option.bind_some, in_val]
      rw [decide_eq_false (fun h => hc (hmin.1 h)), if_neg (by simp)]
theorem isWear_l (b : List Int) (r : Int) (hb : b.length ≤ 20) (hv : ∀ x ∈ b, 0 ≤ x ∧ x ≤ 100) (r1 : 1 ≤ r) (r2 : r ≤ 20) (s : List Int) (hs : s.length ≤ 9223372036854775807) :
    ∀ (ks : List Int) (i : Nat) (at_ : Int), s.drop i = ks → i ≤ s.length → 0 ≤ at_ → at_ ≤ (b.length : Int) → (i : Int) ≤ at_ → Ev (fun k => impl_isWearClimb.l0 k b r at_ ((b.length : Int) + 1) s (s.length : Int) (i : Int)) (isV b r at_ ks) := by
  intro ks
  induction ks with
  | nil =>
    intro i at_ hd hi h0 h1 hia
    have hl : s.length - i = 0 := by
      have := congrArg List.length hd
      rwa [List.length_drop] at this
    refine Ev.step (fun k => ?_) (Ev.now _)
    have w2 : wrap64 ((b.length : Int) + 1 - at_) = (b.length : Int) + 1 - at_ := by
      unfold wrap64
      omega
    simp only [impl_isWearClimb.l0]
    rw [if_neg (by omega), w2]
    rfl
  | cons x ks ih =>
    intro i at_ hd hi h0 h1 hia
    have hl : s.length - i = ks.length + 1 := by
      have := congrArg List.length hd
      rwa [List.length_drop, List.length_cons] at this
    have hx : s.getD i 0 = x := by
      rw [drop_cons s i (by omega)] at hd
      exact (List.cons.inj hd).1
    have hd' : s.drop (i + 1) = ks := by
      rw [drop_cons s i (by omega)] at hd
      exact (List.cons.inj hd).2
    have w1 : wrap64 ((b.length : Int) + 1 - 1) = (b.length : Int) := by
      unfold wrap64
      omega
    have w2 : wrap64 (at_ + 1) = at_ + 1 := by
      unfold wrap64
      omega
    by_cases hr : at_ + 1 ≤ x ∧ x ≤ (b.length : Int)
    · have w4 : wrap64 (x - at_) = x - at_ := by
        unfold wrap64
        omega
      by_cases hf : x - at_ > r
      · rw [show isV b r at_ (x :: ks) = false by simp only [isV]; rw [decide_eq_false (by omega)]; rfl]
        refine Ev.step (fun k => ?_) (Ev.now _)
        simp only [impl_isWearClimb.l0]
        rw [if_pos (by omega), if_pos (by omega), if_pos (by omega), rd_nat, hx, w1, w2]
        simp only [Option.bind_some, within_val]
        rw [decide_eq_true hr, if_pos rfl, w4, if_pos hf]
      · have hc : at_ + 1 ≤ x ∧ x ≤ at_ + r ∧ x ≤ (b.length : Int) := by omega
        have w3 : wrap64 (x - 1) = (((x - 1).toNat : Nat) : Int) := by
          unfold wrap64
          omega
        have hg := getD_bd hv (i := (x - 1).toNat) (by omega)
        by_cases hz : 1 ≤ b.getD (x - 1).toNat 0
        · have h := ih (i + 1) x hd' (by omega) (by omega) (by omega) (by omega)
          simp only [isV, decide_eq_true hc, decide_eq_true hz, Bool.true_and]
          refine Ev.step (fun k => ?_) h
          simp only [impl_isWearClimb.l0]
          rw [if_pos (by omega), if_pos (by omega), if_pos (by omega), rd_nat, hx, w1, w2]
          simp only [Option.bind_some, within_val]
          rw [decide_eq_true hr, if_pos rfl, w4, if_neg hf, w3, if_pos (by omega), if_pos (by omega), rd_nat, if_neg (by omega), wsucc i (by omega)]
        · simp only [isV, decide_eq_true hc, decide_eq_false hz, Bool.true_and, Bool.false_and]
          refine Ev.step (fun k => ?_) (Ev.now _)
          simp only [impl_isWearClimb.l0]
          rw [if_pos (by omega), if_pos (by omega), if_pos (by omega), rd_nat, hx, w1, w2]
          simp only [Option.bind_some, within_val]
          rw [decide_eq_true hr, if_pos rfl, w4, if_neg hf, w3, if_pos (by omega), if_pos (by omega), rd_nat, if_pos (by omega)]
    · rw [show isV b r at_ (x :: ks) = false by simp only [isV]; rw [decide_eq_false (by omega)]; rfl]
      refine Ev.step (fun k => ?_) (Ev.now _)
      simp only [impl_isWearClimb.l0]
      rw [if_pos (by omega), if_pos (by omega), if_pos (by omega), rd_nat, hx, w1, w2]
      simp only [Option.bind_some, within_val]
      rw [decide_eq_false hr, if_neg (by simp)]
theorem weIs_ev (b : List Int) (r : Int) (hb : b.length ≤ 20) (hv : ∀ x ∈ b, 0 ≤ x ∧ x ≤ 100) (r1 : 1 ≤ r) (r2 : r ≤ 20) (s : List Int) (hs : s.length ≤ 9223372036854775807) : Ev (fun k => spec_weIs.f k b r s) (isV b r 0 s) := by
  unfold spec_weIs.f
  exact weIs_l b r hb hv r1 r2 s hs s 0 0 rfl (by omega) (by omega) (by omega) (by omega)
theorem isWear_ev (b : List Int) (r : Int) (hb : b.length ≤ 20) (hv : ∀ x ∈ b, 0 ≤ x ∧ x ≤ 100) (r1 : 1 ≤ r) (r2 : r ≤ 20) (s : List Int) (hs : s.length ≤ 9223372036854775807) : Ev (fun k => impl_isWearClimb.f k b r s) (isV b r 0 s) := by
  unfold impl_isWearClimb.f
  have w1 : wrap64 ((b.length : Int) + 1) = (b.length : Int) + 1 := by
    unfold wrap64
    omega
  rw [w1]
  exact isWear_l b r hb hv r1 r2 s hs s 0 0 rfl (by omega) (by omega) (by omega) (by omega)

theorem own_val (l : List Int) (h : l.length ≤ 1048576) : spec_l1Own.f l = some l := by
  unfold spec_l1Own.f
  simp only [Option.bind_some]
  rw [if_pos (by simp; omega)]
  simp

/-- The bears behind a climb. -/
def wearV : List Int → List Int → List Int
  | b, [] => b
  | b, k :: ks => wearV (b.set (k - 1).toNat (b.getD (k - 1).toNat 0 - 1)) ks
theorem wearV_length (ks : List Int) : ∀ b : List Int, (wearV b ks).length = b.length := by
  induction ks with
  | nil => intro b; rfl
  | cons k ks ih => intro b; simp only [wearV]; rw [ih, List.length_set]
theorem set_get' (l : List Int) (i j : Nat) (v : Int) (hj : j < l.length) : (l.set i v).getD j 0 = if i = j then v else l.getD j 0 := by
  rw [List.getD_eq_getElem?_getD, List.getElem?_eq_getElem (by rw [List.length_set]; exact hj), List.getElem_set, List.getD_eq_getElem?_getD, List.getElem?_eq_getElem hj]
  split <;> rfl
/-- What a climb means for each of its steps, in the bears as they are when it is come to. -/
theorem isV_cons {b0 : List Int} {r at_ x : Int} {ks : List Int} (h : isV b0 r at_ (x :: ks) = true) : (at_ + 1 ≤ x ∧ x ≤ at_ + r ∧ x ≤ (b0.length : Int)) ∧ 1 ≤ b0.getD (x - 1).toNat 0 ∧ isV b0 r x ks = true := by
  simp only [isV, Bool.and_eq_true, decide_eq_true_eq] at h
  exact h
/-- The steps from 'at' on are as they were. -/
def Same (b0 b : List Int) (at_ : Int) : Prop := b.length = b0.length ∧ (∀ x ∈ b, 0 ≤ x ∧ x ≤ 100) ∧ ∀ j : Nat, at_ ≤ (j : Int) → b.getD j 0 = b0.getD j 0
theorem same_step {b0 b : List Int} {r at_ x : Int} {ks : List Int} (hs : Same b0 b at_) (h0 : 0 ≤ at_) (h : isV b0 r at_ (x :: ks) = true) : Same b0 (b.set (x - 1).toNat (b.getD (x - 1).toNat 0 - 1)) x ∧ 1 ≤ b.getD (x - 1).toNat 0 ∧ b.getD (x - 1).toNat 0 ≤ 100 ∧ (x - 1).toNat < b.length := by
  obtain ⟨s1, s2, s3⟩ := hs
  obtain ⟨c1, c2, _⟩ := isV_cons h
  have hi : (x - 1).toNat < b.length := by omega
  have hv := getD_bd s2 hi
  have he := s3 (x - 1).toNat (by omega)
  refine ⟨⟨by rw [List.length_set]; exact s1, fun y hy => ?_, fun j hj => ?_⟩, by omega, hv.2, hi⟩
  · rcases List.mem_or_eq_of_mem_set hy with hy | rfl
    · exact s2 y hy
    · omega
  · rcases Nat.lt_or_ge j b.length with hjl | hjl
    · rw [set_get' _ _ _ _ hjl, if_neg (by omega)]
      exact s3 j (by omega)
    · have := s3 j (by omega)
      rw [List.getD_eq_getElem?_getD, List.getElem?_eq_none (by rw [List.length_set]; exact hjl)]
      rw [List.getD_eq_getElem?_getD, List.getElem?_eq_none hjl] at this
      exact this
theorem wearV_good (r : Int) (b0 : List Int) (ks : List Int) : ∀ (b : List Int) (at_ : Int), Same b0 b at_ → 0 ≤ at_ → isV b0 r at_ ks = true → ∀ x ∈ wearV b ks, 0 ≤ x ∧ x ≤ 100 := by
  induction ks with
  | nil => intro b at_ hs h0 h; exact hs.2.1
  | cons x ks ih =>
    intro b at_ hs h0 h
    have h1 := same_step hs h0 h
    obtain ⟨c1, c2, c3⟩ := isV_cons h
    exact ih _ x h1.1 (by omega) c3
theorem weBy_l (r : Int) (b0 : List Int) (hb : b0.length ≤ 20) (s : List Int) (hs : s.length ≤ 9223372036854775807) : ∀ (ks : List Int) (i : Nat) (at_ : Int) (b : List Int), s.drop i = ks → i ≤ s.length → 0 ≤ at_ → (i : Int) ≤ at_ → at_ ≤ (b0.length : Int) → Same b0 b at_ → isV b0 r at_ ks = true →
    Ev (fun k => spec_weBy.l0 k b s (s.length : Int) (i : Int)) (wearV b ks) := by
  intro ks
  induction ks with
  | nil =>
    intro i at_ b hd hi h0 hia h1 hsm h
    have hl : s.length - i = 0 := by
      have := congrArg List.length hd
      rwa [List.length_drop] at this
    refine Ev.step (fun k => ?_) (Ev.now _)
    simp only [spec_weBy.l0]
    rw [if_neg (by omega)]
    rfl
  | cons x ks ih =>
    intro i at_ b hd hi h0 hia h1 hsm h
    have hl : s.length - i = ks.length + 1 := by
      have := congrArg List.length hd
      rwa [List.length_drop, List.length_cons] at this
    have hx : s.getD i 0 = x := by
      rw [drop_cons s i (by omega)] at hd
      exact (List.cons.inj hd).1
    have hd' : s.drop (i + 1) = ks := by
      rw [drop_cons s i (by omega)] at hd
      exact (List.cons.inj hd).2
    obtain ⟨q1, q2, q3, q4⟩ := same_step hsm h0 h
    obtain ⟨c1, c2, c3⟩ := isV_cons h
    have hrec := ih (i + 1) x _ hd' (by omega) (by omega) (by omega) (by omega) q1 c3
    have e1 : x - 1 = (((x - 1).toNat : Nat) : Int) := by omega
    have i1 : (i : Int) < (s.length : Int) := by omega
    have i2 : (0 : Int) ≤ (i : Int) := by omega
    have i3 : (0 : Int) ≤ (((x - 1).toNat : Nat) : Int) := by omega
    have i4 : (((x - 1).toNat : Nat) : Int) < (b.length : Int) := by omega
    have i5 : i < 4611686018427387904 := by omega
    have w1 : wrap64 (x - 1) = (((x - 1).toNat : Nat) : Int) := by rw [w_id (by omega) (by omega)]; exact e1
    have w2 : wrap64 (b.getD (x - 1).toNat 0 - 1) = b.getD (x - 1).toNat 0 - 1 := w_id (by omega) (by omega)
    refine Ev.step (fun k => ?_) hrec
    simp only [spec_weBy.l0]
    rw [if_pos i1, if_pos i2, if_pos i1, rd_nat, hx, w1, if_pos i3, if_pos i4, Int.toNat_natCast, rd_nat, w2, wsucc i i5]
theorem weBy_ev (r : Int) (b s : List Int) (hb : b.length ≤ 20) (hv : ∀ x ∈ b, 0 ≤ x ∧ x ≤ 100) (hs : s.length ≤ 9223372036854775807) (h : isV b r 0 s = true) : Ev (fun k => spec_weBy.f k b s) (wearV b s) := by
  unfold spec_weBy.f
  rw [own_val b (by omega)]
  exact weBy_l r b hb s hs s 0 0 b rfl (by omega) (by omega) (by omega) (by omega) ⟨rfl, hv, fun _ _ => rfl⟩ h
/-- The inner loop of the program's WearAll, over one climb. -/
theorem wearAll_l1 (r : Int) (b0 : List Int) (hb : b0.length ≤ 20) (x1 : Int) (cs : List (List Int)) (n : Int) (ci : Int) (s : List Int) (hs : s.length ≤ 9223372036854775807) (R : List Int × Bool) : ∀ (ks : List Int) (i : Nat) (at_ : Int) (b : List Int), s.drop i = ks → i ≤ s.length → 0 ≤ at_ → (i : Int) ≤ at_ → at_ ≤ (b0.length : Int) → Same b0 b at_ → isV b0 r at_ ks = true →
    Ev (fun k => impl_WearAll.l0 k x1 (wearV b ks) cs n (wrap64 (ci + 1))) R → Ev (fun k => impl_WearAll.l1 k x1 b cs n ci s (s.length : Int) (i : Int)) R := by
  intro ks
  induction ks with
  | nil =>
    intro i at_ b hd hi h0 hia h1 hsm h ht
    have hl : s.length - i = 0 := by
      have := congrArg List.length hd
      rwa [List.length_drop] at this
    refine Ev.step (fun k => ?_) ht
    simp only [impl_WearAll.l1]
    rw [if_neg (by omega)]
    rfl
  | cons x ks ih =>
    intro i at_ b hd hi h0 hia h1 hsm h ht
    have hl : s.length - i = ks.length + 1 := by
      have := congrArg List.length hd
      rwa [List.length_drop, List.length_cons] at this
    have hx : s.getD i 0 = x := by
      rw [drop_cons s i (by omega)] at hd
      exact (List.cons.inj hd).1
    have hd' : s.drop (i + 1) = ks := by
      rw [drop_cons s i (by omega)] at hd
      exact (List.cons.inj hd).2
    obtain ⟨q1, q2, q3, q4⟩ := same_step hsm h0 h
    obtain ⟨c1, c2, c3⟩ := isV_cons h
    have hrec := ih (i + 1) x _ hd' (by omega) (by omega) (by omega) (by omega) q1 c3 ht
    have e1 : x - 1 = (((x - 1).toNat : Nat) : Int) := by omega
    have i1 : (i : Int) < (s.length : Int) := by omega
    have i2 : (0 : Int) ≤ (i : Int) := by omega
    have i3 : (0 : Int) ≤ (((x - 1).toNat : Nat) : Int) := by omega
    have i4 : (((x - 1).toNat : Nat) : Int) < (b.length : Int) := by omega
    have i5 : i < 4611686018427387904 := by omega
    have w1 : wrap64 (x - 1) = (((x - 1).toNat : Nat) : Int) := by rw [w_id (by omega) (by omega)]; exact e1
    have w2 : wrap64 (b.getD (x - 1).toNat 0 - 1) = b.getD (x - 1).toNat 0 - 1 := w_id (by omega) (by omega)
    refine Ev.step (fun k => ?_) hrec
    simp only [impl_WearAll.l1]
    rw [if_pos i1, if_pos i2, if_pos i1, rd_nat, hx, w1, if_pos i3, if_pos i4, Int.toNat_natCast, rd_nat, w2, wsucc i i5]

theorem clone_val (l : List Int) (h : l.length ≤ 1048576) : slices_Clone_int_int.f l = some l := by
  unfold slices_Clone_int_int.f
  simp only [Option.bind_some]
  rw [if_pos (by simp; omega)]
  simp

/-- The bears behind climbs, one after the other; none if one of them is no climb. -/
def wearAllV (r : Int) : List Int → List (List Int) → Option (List Int)
  | b, [] => some b
  | b, c :: cs => if isV b r 0 c = true then wearAllV r (wearV b c) cs else none
def outV : Option (List Int) → List Int × Bool
  | none => ([], false)
  | some b => (b, true)
theorem rdL_nat (l : List (List Int)) (i : Nat) : rd_L1 l (i : Int) = l.getD i [] := by simp [rd_L1]
theorem dropL_cons (l : List (List Int)) (i : Nat) (h : i < l.length) : l.drop i = l.getD i [] :: l.drop (i + 1) := by
  rw [List.drop_eq_getElem_cons h, List.getD_eq_getElem?_getD, List.getElem?_eq_getElem h]
  rfl
theorem wearAll_l0 (r : Int) (r1 : 1 ≤ r) (r2 : r ≤ 20) (l : List (List Int)) (hl : l.length ≤ 1048576) (hc : ∀ c ∈ l, c.length ≤ 9223372036854775807) : ∀ (cs : List (List Int)) (i : Nat) (b : List Int), l.drop i = cs → i ≤ l.length → b.length ≤ 20 → (∀ x ∈ b, 0 ≤ x ∧ x ≤ 100) →
    Ev (fun k => impl_WearAll.l0 k r b l (l.length : Int) (i : Int)) (outV (wearAllV r b cs)) := by
  intro cs
  induction cs with
  | nil =>
    intro i b hd hi hb hv
    have hl0 : l.length - i = 0 := by
      have := congrArg List.length hd
      rwa [List.length_drop] at this
    refine Ev.step (fun k => ?_) (Ev.now _)
    simp only [impl_WearAll.l0]
    rw [if_neg (by omega)]
    rfl
  | cons c cs ih =>
    intro i b hd hi hb hv
    have hl0 : l.length - i = cs.length + 1 := by
      have := congrArg List.length hd
      rwa [List.length_drop, List.length_cons] at this
    have hx : l.getD i [] = c := by
      rw [dropL_cons l i (by omega)] at hd
      exact (List.cons.inj hd).1
    have hd' : l.drop (i + 1) = cs := by
      rw [dropL_cons l i (by omega)] at hd
      exact (List.cons.inj hd).2
    have hcm : c ∈ l := List.mem_of_mem_drop (i := i) (by rw [hd]; exact List.mem_cons_self)
    have i1 : (i : Int) < (l.length : Int) := by omega
    have i2 : (0 : Int) ≤ (i : Int) := by omega
    have i5 : i < 4611686018427387904 := by omega
    have hisw := isWear_ev b r hb hv r1 r2 c (hc c hcm)
    by_cases hz : isV b r 0 c = true
    · have hs0 : Same b b 0 := ⟨rfl, hv, fun _ _ => rfl⟩
      have hrec := ih (i + 1) (wearV b c) hd' (by omega) (by rw [wearV_length]; exact hb) (wearV_good r b c b 0 hs0 (by omega) hz)
      rw [← wsucc i i5] at hrec
      have hin := wearAll_l1 r b hb r l (l.length : Int) (i : Int) c (hc c hcm) _ c 0 0 b rfl (by omega) (by omega) (by omega) (by omega) hs0 hz hrec
      have hin2 := Ev.bind (f := fun k t => if t = true then impl_WearAll.l1 k r b l (l.length : Int) (i : Int) c (c.length : Int) 0 else some (([] : List Int), false)) hisw (Ev.ite_true hz hin)
      simp only [wearAllV]
      rw [if_pos hz]
      refine Ev.step (fun k => ?_) hin2
      simp only [impl_WearAll.l0]
      rw [if_pos i1, if_pos i2, if_pos i1, rdL_nat, hx]
    · have hz' : isV b r 0 c = false := Bool.eq_false_iff.mpr hz
      have hin2 := Ev.bind (f := fun k t => if t = true then impl_WearAll.l1 k r b l (l.length : Int) (i : Int) c (c.length : Int) 0 else some (([] : List Int), false)) hisw (Ev.ite_false hz' (Ev.now _))
      simp only [wearAllV]
      rw [if_neg hz]
      refine Ev.step (fun k => ?_) hin2
      simp only [impl_WearAll.l0]
      rw [if_pos i1, if_pos i2, if_pos i1, rdL_nat, hx]
theorem wearAll_ev (l : List Int) (hl : l.length ≤ 1048576) (r : Int) (cs : List (List Int)) (hcl : cs.length ≤ 1048576) (hc : ∀ c ∈ cs, c.length ≤ 9223372036854775807) :
    Ev (fun k => impl_WearAll.f k l r cs) (if canW l r = true ∧ cs.length ≤ 100 then outV (wearAllV r l cs) else ([], false)) := by
  unfold impl_WearAll.f
  have no1 : Ev (fun k => impl_WearAll.j0 k l r cs true) ([], false) := Ev.step (fun k => by simp only [impl_WearAll.j0]; rw [if_pos trivial]) (Ev.now _)
  by_cases hW : canW l r = true
  · obtain ⟨hg, r1, r2⟩ := canW_bd hW
    obtain ⟨g1, g2, g3⟩ := goodB_bd hg
    by_cases hn : cs.length ≤ 100
    · rw [if_pos ⟨hW, hn⟩]
      refine Ev.bind (canWear_ev l hl r) (Ev.ite_true hW ?_)
      rw [decide_eq_false (by omega)]
      have h := wearAll_l0 r r1 r2 cs hcl hc cs 0 l rfl (by omega) g2 g3
      refine Ev.step (fun k => ?_) h
      simp only [impl_WearAll.j0]
      rw [if_neg (by simp), clone_val l hl]
      rfl
    · rw [if_neg (fun h => hn h.2)]
      refine Ev.bind (canWear_ev l hl r) (Ev.ite_true hW ?_)
      rw [decide_eq_true (by omega)]
      exact no1
  · rw [if_neg (fun h => hW h.1)]
    exact Ev.bind (canWear_ev l hl r) (Ev.ite_false (Bool.eq_false_iff.mpr hW) no1)

/- What is proved at the end: ∀ (l0 : List Int) (a1 : Int) (l2 : List Int), l0.length ≤ maxLen → (∀ x ∈ l0, (Lit.int .i64 x).wf = true) → (Lit.int .i64 a1).wf = true → l2.length ≤ maxLen → (∀ x ∈ l2, (Lit.int .i64 x).wf = true) → ∃ k, laws_FnExactWearBy.f k l0 a1 l2 = some true -/
theorem FnExactWearBy_agree (l : List Int) (r : Int) (c : List Int) (hl : l.length ≤ 1048576) (hc : c.length ≤ 1048576) : ∃ w0 w1, Ev (fun k => spec_WearBy.f k l r c) (w0, w1) ∧ Ev (fun k => impl_WearBy.f k l r c) (w0, w1) ∧ w0.length ≤ 1048576 := by
  have hA := wearAll_ev l hl r [c] (by simp) (fun x hx => by rw [List.mem_singleton.1 hx]; omega)
  have hI : Ev (fun k => impl_WearBy.f k l r c) (if canW l r = true ∧ [c].length ≤ 100 then outV (wearAllV r l [c]) else ([], false)) := by
    unfold impl_WearBy.f
    exact Ev.bind hA (Ev.now _)
  by_cases hW : canW l r = true
  · obtain ⟨hg, r1, r2⟩ := canW_bd hW
    obtain ⟨g1, g2, g3⟩ := goodB_bd hg
    rw [if_pos ⟨hW, by simp⟩] at hI
    have hIs := weIs_ev l r g2 g3 r1 r2 c (by omega)
    by_cases hz : isV l r 0 c = true
    · refine ⟨wearV l c, true, ?_, ?_, by rw [wearV_length]; exact hl⟩
      · unfold spec_WearBy.f
        exact Ev.bind (weReach_ev l hl r) (Ev.ite_true hW (Ev.bind hIs (Ev.ite_true hz (Ev.bind (weBy_ev r l c g2 g3 (by omega) hz) (Ev.now _)))))
      · simp only [wearAllV] at hI
        rw [if_pos hz] at hI
        exact hI
    · refine ⟨[], false, ?_, ?_, by simp⟩
      · unfold spec_WearBy.f
        exact Ev.bind (weReach_ev l hl r) (Ev.ite_true hW (Ev.bind hIs (Ev.ite_false (Bool.eq_false_iff.mpr hz) (Ev.now _))))
      · simp only [wearAllV] at hI
        rw [if_neg hz] at hI
        exact hI
  · rw [if_neg (fun h => hW h.1)] at hI
    refine ⟨[], false, ?_, hI, by simp⟩
    unfold spec_WearBy.f
    exact Ev.bind (weReach_ev l hl r) (Ev.ite_false (Bool.eq_false_iff.mpr hW) (Ev.now _))
theorem FnExactWearBy : ∀ (l0 : List Int) (a1 : Int) (l2 : List Int), l0.length ≤ maxLen → (∀ x ∈ l0, (Lit.int .i64 x).wf = true) → (Lit.int .i64 a1).wf = true → l2.length ≤ maxLen → (∀ x ∈ l2, (Lit.int .i64 x).wf = true) → ∃ k, laws_FnExactWearBy.f k l0 a1 l2 = some true := by
  intro l0 a1 l2 hm0 hw0 w1 hm2 hw2
  by_cases hB0 : (l0.length : Int) > 1048576
  · exact ⟨1, by unfold laws_FnExactWearBy.f; rw [if_pos hB0]⟩
  have hl0 : l0.length ≤ 1048576 := by omega
  by_cases hB2 : (l2.length : Int) > 1048576
  · exact ⟨1, by unfold laws_FnExactWearBy.f; rw [if_neg hB0, if_pos hB2]⟩
  have hl2 : l2.length ≤ 1048576 := by omega
  obtain ⟨w0, w1, hS, hI, hww0⟩ := FnExactWearBy_agree l0 a1 l2 hl0 hl2
  obtain ⟨K0, k0⟩ := (show Ev (fun k => spec_WearBy.f k l0 a1 l2) (w0, w1) from hS)
  obtain ⟨K1, k1⟩ := (show Ev (fun k => impl_WearBy.f k l0 a1 l2) (w0, w1) from hI)
  obtain ⟨K2, k2⟩ := (show Ev (fun k => laws_toIntS.f k l0) l0 from toIntS_ev _ hl0)
  obtain ⟨K3, k3⟩ := (show Ev (fun k => laws_eqIntS.f k l0 l0) true from eqIntS_ev _ hl0)
  obtain ⟨K4, k4⟩ := (show Ev (fun k => laws_toIntS.f k l2) l2 from toIntS_ev _ hl2)
  obtain ⟨K5, k5⟩ := (show Ev (fun k => laws_eqIntS.f k l2 l2) true from eqIntS_ev _ hl2)
  obtain ⟨K6, k6⟩ := (show Ev (fun k => laws_markIntS.f k l0 (1)) (1 + (l0.length : Int), marked l0.length (1)) from markIntS_ev _ hl0 _ (by omega) (by omega))
  obtain ⟨K7, k7⟩ := (show Ev (fun k => laws_markIntS.f k l2 (1 + (l0.length : Int))) (1 + (l0.length : Int) + (l2.length : Int), marked l2.length (1 + (l0.length : Int))) from markIntS_ev _ hl2 _ (by omega) (by omega))
  obtain ⟨K8, k8⟩ := (show Ev (fun k => laws_eqIntS.f k w0 w0) true from eqIntS_ev _ hww0)
  obtain ⟨K9, k9⟩ := (show Ev (fun k => laws_markIntS.f k w0 (1)) (1 + (w0.length : Int), marked w0.length (1)) from markIntS_ev _ hww0 _ (by omega) (by omega))
  obtain ⟨K10, k10⟩ := (show Ev (fun k => laws_heldIntS.f k (marked w0.length (1)) (1)) (1 + (w0.length : Int)) from heldIntS_ev _ hww0 _ (by omega) (by omega))
  obtain ⟨K, hK⟩ : ∃ K, K = K0 + K1 + K2 + K3 + K4 + K5 + K6 + K7 + K8 + K9 + K10 := ⟨_, rfl⟩
  have e0 : ∀ j, spec_WearBy.f (K + j) l0 a1 l2 = some (w0, w1) := fun j => k0 (K + j) (by omega)
  have e1 : ∀ j, impl_WearBy.f (K + j) l0 a1 l2 = some (w0, w1) := fun j => k1 (K + j) (by omega)
  have e2 : ∀ j, laws_toIntS.f (K + j) l0 = some l0 := fun j => k2 (K + j) (by omega)
  have e3 : ∀ j, laws_eqIntS.f (K + j) l0 l0 = some true := fun j => k3 (K + j) (by omega)
  have e4 : ∀ j, laws_toIntS.f (K + j) l2 = some l2 := fun j => k4 (K + j) (by omega)
  have e5 : ∀ j, laws_eqIntS.f (K + j) l2 l2 = some true := fun j => k5 (K + j) (by omega)
  have e6 : ∀ j, laws_markIntS.f (K + j) l0 (1) = some (1 + (l0.length : Int), marked l0.length (1)) := fun j => k6 (K + j) (by omega)
  have e7 : ∀ j, laws_markIntS.f (K + j) l2 (1 + (l0.length : Int)) = some (1 + (l0.length : Int) + (l2.length : Int), marked l2.length (1 + (l0.length : Int))) := fun j => k7 (K + j) (by omega)
  have e8 : ∀ j, laws_eqIntS.f (K + j) w0 w0 = some true := fun j => k8 (K + j) (by omega)
  have e9 : ∀ j, laws_markIntS.f (K + j) w0 (1) = some (1 + (w0.length : Int), marked w0.length (1)) := fun j => k9 (K + j) (by omega)
  have e10 : ∀ j, laws_heldIntS.f (K + j) (marked w0.length (1)) (1) = some (1 + (w0.length : Int)) := fun j => k10 (K + j) (by omega)
  clear k0 k1 k2 k3 k4 k5 k6 k7 k8 k9 k10 hK
  refine ⟨K + 16, ?_⟩
  simp [laws_FnExactWearBy.f, laws_FnExactWearBy.j0, laws_FnExactWearBy.j1, laws_FnExactWearBy.j2, e0, e1, e2, e3, e4, e5, e6, e7, e8, e9, e10, hB0, hB2, show ¬ (1 + (l0.length : Int) + (l2.length : Int) < 0) by omega, show ¬ (1 + (w0.length : Int) < 0) by omega]

end Go.Proofs.Ytfmjkephbibddaa.Pure
