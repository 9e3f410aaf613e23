/- The pure statement of FnExactLateMend: the printed function returns true for all arguments within their kinds; no other condition. -/
import Derived.Test.YtfmjkephbibddaaPFnExactLateMendx
namespace Go.Proofs.Ytfmjkephbibddaa.Pure
open Go.RowKit Go.Proofs.Ytfmjkephbibddaa.PFnExactLateMend Go.Proofs.YtfmjkephbibddaaW.PrintWords Go.Proofs.YtfmjkephbibddaaW.PrintLast Go.Proofs.YtfmjkephbibddaaW.PrintMore
set_option linter.unusedVariables false
set_option linter.unusedSimpArgs false
theorem in_val (a b c : Int) : spec_l1In.f a b c = some (decide (b ≤ a ∧ a ≤ c)) := by
  unfold spec_l1In.f
  by_cases h : b ≤ a <;> simp [h]
theorem within_val (a b c : Int) : impl_within.f a b c = some (decide (b ≤ a ∧ a ≤ c)) := by
  unfold impl_within.f
  by_cases h : b ≤ a <;> simp [h]

theorem wsucc (i : Nat) (h : i < 4611686018427387904) : wrap64 ((i : Int) + 1) = ((i + 1 : Nat) : Int) := by
  unfold wrap64
  omega
theorem kpred {d k : Nat} (h : d < k) : ∃ m, k = m + 1 := ⟨k - 1, by omega⟩
theorem rd_nat (l : List Int) (i : Nat) : rd l (i : Int) = l.getD i 0 := by simp [rd]
theorem take_set_succ (x : List Int) (i : Nat) (v : Int) (h : i < x.length) : (x.set i v).take (i + 1) = x.take i ++ [v] := by
  rw [List.take_add_one, List.take_set_of_le (Nat.le_refl i), List.getElem?_set_self h]
  rfl
theorem take_get_succ (x : List Int) (i : Nat) (h : i < x.length) : x.take (i + 1) = x.take i ++ [x.getD i 0] := by
  rw [List.take_add_one, List.getElem?_eq_getElem h, List.getD_eq_getElem?_getD, List.getElem?_eq_getElem h]
  rfl
theorem w_id {x : Int} (h0 : -4611686018427387904 ≤ x) (h1 : x ≤ 4611686018427387904) : wrap64 x = x := by
  unfold wrap64
  omega
theorem w_sub (k r : Nat) (h : r ≤ k) (hk : k ≤ 1000000000) : wrap64 ((k : Int) - (r : Int)) = ((k - r : Nat) : Int) := by
  rw [w_id (by omega) (by omega)]
  omega
theorem w_add (a b : Nat) (h : a ≤ 1000000000) (hb : b ≤ 1000000000) : wrap64 ((a : Int) + (b : Int)) = ((a + b : Nat) : Int) := by
  rw [w_id (by omega) (by omega)]
  omega
theorem w_pred (k : Nat) (h : 1 ≤ k) (hk : k ≤ 1000000000) : wrap64 ((k : Int) - 1) = ((k - 1 : Nat) : Int) := by
  rw [w_id (by omega) (by omega)]
  omega

def okB (n : Int) : Bool := decide (0 ≤ n ∧ n ≤ 100)
/-- The numbers are bears. -/
def goodB (l : List Int) : Bool := decide (1 ≤ l.length ∧ l.length ≤ 20) && l.all okB
theorem drop_cons (l : List Int) (i : Nat) (h : i < l.length) : l.drop i = l.getD i 0 :: l.drop (i + 1) := by
  rw [List.drop_eq_getElem_cons h, List.getD_eq_getElem?_getD, List.getElem?_eq_getElem h]
  rfl
theorem l1All_l (l : List Int) (hB : l.length ≤ 1048576) : ∀ (d k i : Nat), l.length - i = d → d < k → i ≤ l.length →
    spec_l1All.l0 k 0 100 l (l.length : Int) (i : Int) = some ((l.drop i).all okB) := by
  intro d
  induction d with
  | zero =>
    intro k i hd hk hi
    obtain ⟨k, rfl⟩ := kpred hk
    simp only [spec_l1All.l0]
    rw [if_neg (by omega), List.drop_eq_nil_of_le (by omega)]
    rfl
  | succ d ih =>
    intro k i hd hk hi
    obtain ⟨k, rfl⟩ := kpred hk
    simp only [spec_l1All.l0]
    rw [if_pos (by omega), if_pos (by omega), if_pos (by omega), rd_nat, in_val, drop_cons l i (by omega)]
    simp only [Option.bind_some, List.all_cons, wsucc i (by omega)]
    rw [ih k (i + 1) (by omega) (by omega) (by omega)]
    by_cases h : 0 ≤ l.getD i 0 ∧ l.getD i 0 ≤ 100
    · rw [if_pos (decide_eq_true h)]
      simp only [okB, decide_eq_true h, Bool.true_and]
    · rw [if_neg (by simpa using h)]
      simp only [okB, decide_eq_false h, Bool.false_and]
theorem weGood_val (l : List Int) (hB : l.length ≤ 1048576) (k : Nat) (hk : l.length < k) : spec_weGood.f k l = some (goodB l) := by
  unfold spec_weGood.f spec_l1All.f goodB
  have h := l1All_l l hB l.length k 0 (by omega) hk (by omega)
  rw [List.drop_zero] at h
  rw [in_val]
  simp only [Option.bind_some]
  by_cases h1 : 1 ≤ l.length ∧ l.length ≤ 20
  · rw [if_pos (decide_eq_true (by omega)), decide_eq_true h1, Bool.true_and]
    have h' : spec_l1All.l0 k 0 100 l (l.length : Int) 0 = some (l.all okB) := h
    rw [h']
    rfl
  · rw [if_neg (by simp; omega), decide_eq_false h1, Bool.false_and]
theorem areBears1_val (n : Int) : impl_AreBears_1.f n = some (!okB n) := by
  unfold impl_AreBears_1.f
  simp only [within_val, Option.bind_some]
  rfl
theorem indexFunc_l (l : List Int) (hB : l.length ≤ 1048576) : ∀ (d k i : Nat), l.length - i = d → d < k → i ≤ l.length →
    ∃ r, slices_IndexFunc_int_int.l0 k l (l.length : Int) (i : Int) = some r ∧ decide (r ≥ 0) = !(l.drop i).all okB := by
  intro d
  induction d with
  | zero =>
    intro k i hd hk hi
    obtain ⟨k, rfl⟩ := kpred hk
    refine ⟨-1, ?_, ?_⟩
    · simp only [slices_IndexFunc_int_int.l0]
      rw [if_neg (by omega)]
    · rw [List.drop_eq_nil_of_le (by omega)]
      rfl
  | succ d ih =>
    intro k i hd hk hi
    obtain ⟨k, rfl⟩ := kpred hk
    rw [drop_cons l i (by omega)]
    by_cases h : okB (l.getD i 0) = true
    · obtain ⟨r, hr, hp⟩ := ih k (i + 1) (by omega) (by omega) (by omega)
      refine ⟨r, ?_, by rw [List.all_cons, h, Bool.true_and]; exact hp⟩
      simp only [slices_IndexFunc_int_int.l0]
      rw [if_pos (by omega), if_pos (by omega), if_pos (by omega), rd_nat, areBears1_val, h]
      simp only [Option.bind_some, Bool.not_true, wsucc i (by omega)]
      exact hr
    · have h' : okB (l.getD i 0) = false := Bool.eq_false_iff.mpr h
      refine ⟨i, ?_, by rw [List.all_cons, h', Bool.false_and]; simp⟩
      simp only [slices_IndexFunc_int_int.l0]
      rw [if_pos (by omega), if_pos (by omega), if_pos (by omega), rd_nat, areBears1_val, h']
      rfl
theorem areBears_val (l : List Int) (hB : l.length ≤ 1048576) (k : Nat) (hk : l.length < k) : impl_AreBears.f k l = some (goodB l) := by
  obtain ⟨r, hr, hp⟩ := indexFunc_l l hB l.length k 0 (by omega) hk (by omega)
  have hr' : slices_IndexFunc_int_int.l0 k l (l.length : Int) 0 = some r := hr
  rw [List.drop_zero] at hp
  unfold impl_AreBears.f slices_ContainsFunc_int_int.f slices_IndexFunc_int_int.f goodB
  rw [within_val, hr']
  simp only [Option.bind_some, hp, Bool.not_not]
  by_cases h1 : 1 ≤ l.length ∧ l.length ≤ 20
  · rw [if_pos (decide_eq_true (by omega)), decide_eq_true h1, Bool.true_and]
  · rw [if_neg (by simp; omega), decide_eq_false h1, Bool.false_and]

theorem Ev.ite_true {α : Type} {g f : Nat → Option α} {r : α} {b : Bool} (h : b = true) (k : Ev g r) : Ev (fun n => if b = true then g n else f n) r := by
  subst h
  simpa using k
theorem Ev.ite_false {α : Type} {g f : Nat → Option α} {r : α} {b : Bool} (h : b = false) (k : Ev f r) : Ev (fun n => if b = true then g n else f n) r := by
  subst h
  simpa using k

theorem weGood_ev (l : List Int) (hB : l.length ≤ 1048576) : Ev (fun k => spec_weGood.f k l) (goodB l) := ⟨l.length + 1, fun k hk => weGood_val l hB k (by omega)⟩
theorem areBears_ev (l : List Int) (hB : l.length ≤ 1048576) : Ev (fun k => impl_AreBears.f k l) (goodB l) := ⟨l.length + 1, fun k hk => areBears_val l hB k (by omega)⟩
theorem okB_bd {x : Int} (h : okB x = true) : 0 ≤ x ∧ x ≤ 100 := by simpa [okB] using h
/-- What bears are. -/
theorem goodB_bd {l : List Int} (h : goodB l = true) : 1 ≤ l.length ∧ l.length ≤ 20 ∧ ∀ x ∈ l, 0 ≤ x ∧ x ≤ 100 := by
  simp only [goodB, Bool.and_eq_true, decide_eq_true_eq, List.all_eq_true] at h
  exact ⟨h.1.1, h.1.2, fun x hx => okB_bd (h.2 x hx)⟩
theorem getD_bd {l : List Int} {a b : Int} (h : ∀ x ∈ l, a ≤ x ∧ x ≤ b) {i : Nat} (hi : i < l.length) : a ≤ l.getD i 0 ∧ l.getD i 0 ≤ b := by
  rw [List.getD_eq_getElem?_getD, List.getElem?_eq_getElem hi]
  exact h _ (List.getElem_mem hi)

/-- Bears and a reach. -/
def canW (l : List Int) (r : Int) : Bool := goodB l && decide (1 ≤ r ∧ r ≤ 20)
theorem weReach_ev (l : List Int) (hB : l.length ≤ 1048576) (r : Int) : Ev (fun k => spec_weReach.f k l r) (canW l r) := by
  unfold spec_weReach.f canW
  refine Ev.bind (weGood_ev l hB) ?_
  simp only [in_val, Option.bind_some]
  cases goodB l <;> simp <;> exact Ev.now _
theorem canWear_ev (l : List Int) (hB : l.length ≤ 1048576) (r : Int) : Ev (fun k => impl_canWear.f k l r) (canW l r) := by
  unfold impl_canWear.f canW
  refine Ev.bind (areBears_ev l hB) ?_
  simp only [within_val, Option.bind_some]
  cases goodB l <;> simp <;> exact Ev.now _
theorem canW_bd {l : List Int} {r : Int} (h : canW l r = true) : goodB l = true ∧ 1 ≤ r ∧ r ≤ 20 := by
  simp only [canW, Bool.and_eq_true, decide_eq_true_eq] at h
  exact ⟨h.1, h.2.1, h.2.2⟩

def hasP (l : List Int) (r : Int) : Bool := canW l r && decide (r ≤ (l.length : Int))
theorem weEnds_ev (l : List Int) (hB : l.length ≤ 1048576) (r : Int) : Ev (fun k => spec_weEnds.f k l r) (hasP l r) := by
  unfold spec_weEnds.f hasP
  refine Ev.bind (weReach_ev l hB r) ?_
  cases canW l r <;> simp <;> exact Ev.now _
theorem hasParts_ev (l : List Int) (hB : l.length ≤ 1048576) (r : Int) : Ev (fun k => impl_hasParts.f k l r) (hasP l r) := by
  unfold impl_hasParts.f hasP
  refine Ev.bind (canWear_ev l hB r) ?_
  cases canW l r <;> simp <;> exact Ev.now _
theorem hasP_bd {l : List Int} {r : Int} (h : hasP l r = true) : goodB l = true ∧ 1 ≤ r ∧ r ≤ 20 ∧ r ≤ (l.length : Int) := by
  simp only [hasP, Bool.and_eq_true, decide_eq_true_eq] at h
  obtain ⟨h1, h2⟩ := h
  have := canW_bd h1
  exact ⟨this.1, this.2.1, this.2.2, h2⟩

theorem hasP_facts {l : List Int} {r : Int} (h : hasP l r = true) : ∃ n : Nat, r = (n : Int) ∧ 1 ≤ n ∧ n ≤ 20 ∧ n ≤ l.length ∧ l.length ≤ 20 ∧ (∀ x ∈ l, 0 ≤ x ∧ x ≤ 100) ∧ ∀ x ∈ l, 0 ≤ x ∧ x ≤ 2000 := by
  obtain ⟨hg, h1, h2, h3⟩ := hasP_bd h
  obtain ⟨g1, g2, g3⟩ := goodB_bd hg
  obtain ⟨n, rfl⟩ := Int.eq_ofNat_of_zero_le (show 0 ≤ r by omega)
  exact ⟨n, rfl, by omega, by omega, by omega, by omega, g3, fun x hx => ⟨(g3 x hx).1, Int.le_trans (g3 x hx).2 (by omega)⟩⟩

theorem toIntS_l (l : List Int) (hB : l.length ≤ 1048576) : ∀ (d k i : Nat) (x : List Int), l.length - i = d → d < k → i ≤ l.length → x.length = l.length → x.take i = l.take i →
    laws_toIntS.l0 k l x (i : Int) = some l := by
  intro d
  induction d with
  | zero =>
    intro k i x hd hk hi hx ht
    obtain ⟨k, rfl⟩ := kpred hk
    have e : i = l.length := by omega
    simp only [laws_toIntS.l0]
    rw [if_neg (by omega)]
    have h1 := ht
    rw [e, List.take_length, ← hx, List.take_length] at h1
    rw [h1]
  | succ d ih =>
    intro k i x hd hk hi hx ht
    obtain ⟨k, rfl⟩ := kpred hk
    simp only [laws_toIntS.l0]
    rw [if_pos (by omega), if_pos (by omega), if_pos (by omega), wsucc i (by omega), Int.toNat_natCast, rd_nat]
    refine ih k (i + 1) _ (by omega) (by omega) (by omega) (by simpa using hx) ?_
    rw [take_set_succ _ _ _ (by omega), take_get_succ _ _ (by omega), ht]
theorem toIntS_val (l : List Int) (hB : l.length ≤ 1048576) (k : Nat) (hk : l.length < k) : laws_toIntS.f k l = some l := by
  unfold laws_toIntS.f
  rw [if_pos (by omega), if_pos (by rw [Int.toNat_natCast]; omega)]
  exact toIntS_l l hB l.length k 0 _ (by omega) hk (by omega) (by simp) (by simp)

theorem toIntS_ev (l : List Int) (hB : l.length ≤ 1048576) : Ev (fun k => laws_toIntS.f k l) l := ⟨l.length + 1, fun k hk => toIntS_val l hB k (by omega)⟩

theorem eqIntS_l (l : List Int) (hB : l.length ≤ 1048576) : ∀ (d k i : Nat), l.length - i = d → d < k → i ≤ l.length → laws_eqIntS.l0 k l l (i : Int) = some true := by
  intro d
  induction d with
  | zero =>
    intro k i hd hk hi
    obtain ⟨k, rfl⟩ := kpred hk
    simp only [laws_eqIntS.l0]
    rw [if_neg (by omega)]
  | succ d ih =>
    intro k i hd hk hi
    obtain ⟨k, rfl⟩ := kpred hk
    simp only [laws_eqIntS.l0]
    rw [if_pos (by omega), if_pos (by omega), if_pos (by omega), if_pos trivial, wsucc i (by omega)]
    exact ih k (i + 1) (by omega) (by omega) (by omega)
theorem eqIntS_val (l : List Int) (hB : l.length ≤ 1048576) (k : Nat) (hk : l.length < k) : laws_eqIntS.f k l l = some true := by
  unfold laws_eqIntS.f
  rw [if_pos rfl]
  exact eqIntS_l l hB l.length k 0 (by omega) hk (by omega)

theorem eqIntS_ev (l : List Int) (hB : l.length ≤ 1048576) : Ev (fun k => laws_eqIntS.f k l l) true := ⟨l.length + 1, fun k hk => eqIntS_val l hB k (by omega)⟩

def marked (n : Nat) (m : Int) : List Int := (List.range n).map fun (j : Nat) => m + (j : Int)
theorem marked_length (n : Nat) (m : Int) : (marked n m).length = n := by simp [marked]
theorem marked_succ (n : Nat) (m : Int) : marked (n + 1) m = m :: marked n (m + 1) := by
  simp only [marked, List.range_succ_eq_map, List.map_cons, List.map_map]
  congr 1
  · omega
  · apply List.map_congr_left
    intro j _
    simp only [Function.comp]
    omega
theorem marked_get (n : Nat) (m : Int) (j : Nat) (h : j < n) : (marked n m).getD j 0 = m + (j : Int) := by
  simp [marked, List.getD_eq_getElem?_getD, h]
theorem markIntS_l : ∀ (d k i : Nat) (l : List Int) (m : Int), l.length ≤ 1048576 → l.length - i = d → d < k → i ≤ l.length → 0 ≤ m → m + (d : Int) ≤ 1000000000 →
    laws_markIntS.l0 k l m (i : Int) = some (m + (d : Int), l.take i ++ marked d m) := by
  intro d
  induction d with
  | zero =>
    intro k i l m hB hd hk hi _ _
    obtain ⟨k, rfl⟩ := kpred hk
    simp only [laws_markIntS.l0]
    rw [if_neg (by omega)]
    have e : i = l.length := by omega
    rw [e, List.take_length]
    simp [marked]
  | succ d ih =>
    intro k i l m hB hd hk hi h0 h1
    obtain ⟨k, rfl⟩ := kpred hk
    simp only [laws_markIntS.l0]
    have hw : wrap64 (m + 1) = m + 1 := by
      unfold wrap64
      omega
    rw [if_pos (by omega), if_pos (by omega), hw, wsucc i (by omega), Int.toNat_natCast]
    rw [ih k (i + 1) (l.set i m) (m + 1) (by simpa using hB) (by rw [List.length_set]; omega) (by omega) (by rw [List.length_set]; omega) (by omega) (by omega)]
    rw [take_set_succ _ _ _ (by omega), marked_succ, List.append_assoc]
    congr 2
    omega
theorem markIntS_val (l : List Int) (hB : l.length ≤ 1048576) (m : Int) (h0 : 0 ≤ m) (h1 : m ≤ 900000000) (k : Nat) (hk : l.length < k) :
    laws_markIntS.f k l m = some (m + (l.length : Int), marked l.length m) := by
  unfold laws_markIntS.f
  have := markIntS_l l.length k 0 l m hB (by omega) hk (by omega) h0 (by omega)
  simpa using this
theorem heldIntS_l : ∀ (d k i : Nat) (l : List Int) (m : Int), l.length ≤ 1048576 → l.length - i = d → d < k → i ≤ l.length → 0 ≤ m → m + (d : Int) ≤ 1000000000 → (∀ j, j < d → l.getD (i + j) 0 = m + (j : Int)) →
    laws_heldIntS.l0 k l m (i : Int) = some (m + (d : Int)) := by
  intro d
  induction d with
  | zero =>
    intro k i l m hB hd hk hi _ _ _
    obtain ⟨k, rfl⟩ := kpred hk
    simp only [laws_heldIntS.l0]
    rw [if_neg (by omega)]
    simp
  | succ d ih =>
    intro k i l m hB hd hk hi h0 h1 hj
    obtain ⟨k, rfl⟩ := kpred hk
    simp only [laws_heldIntS.l0]
    have hw : wrap64 (m + 1) = m + 1 := by
      unfold wrap64
      omega
    have h00 := hj 0 (by omega)
    rw [if_pos (by omega), if_pos (by omega), rd_nat, if_pos (by simpa using h00), hw, wsucc i (by omega)]
    rw [ih k (i + 1) l (m + 1) hB (by omega) (by omega) (by omega) (by omega) (by omega) (fun j h => by
      have := hj (j + 1) (by omega)
      rw [show i + 1 + j = i + (j + 1) by omega, this]
      omega)]
    congr 1
    omega
theorem heldIntS_val (n : Nat) (hB : n ≤ 1048576) (m : Int) (h0 : 0 ≤ m) (h1 : m ≤ 900000000) (k : Nat) (hk : n < k) :
    laws_heldIntS.f k (marked n m) m = some (m + (n : Int)) := by
  unfold laws_heldIntS.f
  exact heldIntS_l n k 0 (marked n m) m (by rw [marked_length]; exact hB) (by rw [marked_length]; omega) hk (by omega) h0 (by omega) (fun j h => by rw [Nat.zero_add]; exact marked_get n m j h)

theorem markIntS_ev (l : List Int) (hB : l.length ≤ 1048576) (m : Int) (h0 : 0 ≤ m) (h1 : m ≤ 900000000) : Ev (fun k => laws_markIntS.f k l m) (m + (l.length : Int), marked l.length m) :=
  ⟨l.length + 1, fun k hk => markIntS_val l hB m h0 h1 k (by omega)⟩
theorem heldIntS_ev (n : Nat) (hB : n ≤ 1048576) (m : Int) (h0 : 0 ≤ m) (h1 : m ≤ 900000000) : Ev (fun k => laws_heldIntS.f k (marked n m) m) (m + (n : Int)) :=
  ⟨n + 1, fun k hk => heldIntS_val n hB m h0 h1 k (by omega)⟩
theorem markIntS_nil : Ev (fun k => laws_markIntS.f k [] 1) (1, []) := by simpa [marked] using markIntS_ev [] (by simp) 1 (by omega) (by omega)
theorem heldIntS_nil : Ev (fun k => laws_heldIntS.f k [] 1) 1 := by simpa [marked] using heldIntS_ev 0 (by omega) 1 (by omega) (by omega)

theorem own_val (l : List Int) (h : l.length ≤ 1048576) : spec_l1Own.f l = some l := by
  unfold spec_l1Own.f
  simp only [Option.bind_some]
  rw [if_pos (by simp; omega)]
  simp

theorem clone_val (l : List Int) (h : l.length ≤ 1048576) : slices_Clone_int_int.f l = some l := by
  unfold slices_Clone_int_int.f
  simp only [Option.bind_some]
  rw [if_pos (by simp; omega)]
  simp

/-- What the part at i bears. -/
def partAt (l : List Int) (r i : Nat) : Int := ((l.take (i + r)).drop i).sum
def partsV (l : List Int) (r : Nat) : List Int := (List.range' 0 (l.length + 1 - r)).map (partAt l r)
theorem partsV_length (l : List Int) (r : Nat) : (partsV l r).length = l.length + 1 - r := by simp [partsV]
theorem cut_mem {l : List Int} {a b : Nat} {x : Int} (h : x ∈ (l.take a).drop b) : x ∈ l := List.mem_of_mem_take (List.mem_of_mem_drop h)
theorem sum_bd {l : List Int} {M : Int} (h : ∀ x ∈ l, 0 ≤ x ∧ x ≤ M) : 0 ≤ l.sum ∧ l.sum ≤ M * l.length := by
  induction l with
  | nil => simp
  | cons x l ih =>
    have h1 := h x List.mem_cons_self
    have h2 := ih (fun y hy => h y (List.mem_cons_of_mem _ hy))
    rw [List.sum_cons, List.length_cons, Int.natCast_add, Int.mul_add]
    constructor <;> omega
theorem partAt_bd {l : List Int} {M : Int} (h : ∀ x ∈ l, 0 ≤ x ∧ x ≤ M) (hM : 0 ≤ M) (r i : Nat) (hr : r ≤ 20) : 0 ≤ partAt l r i ∧ partAt l r i ≤ M * 20 := by
  have h1 := sum_bd (l := (l.take (i + r)).drop i) (fun x hx => h x (cut_mem hx))
  have h2 : ((l.take (i + r)).drop i).length ≤ 20 := by
    rw [List.length_drop, List.length_take]
    omega
  refine ⟨h1.1, Int.le_trans h1.2 (Int.mul_le_mul_of_nonneg_left (by omega) hM)⟩

theorem most_val (a b : Int) : spec_l1Most.f a b = some (mx a b) := by
  unfold spec_l1Most.f mx
  by_cases h : a > b
  · rw [if_pos h, if_neg (by omega)]
  · by_cases h2 : a < b
    · rw [if_neg h, if_pos h2]
    · rw [if_neg h, if_neg h2]
      congr 1
      omega
theorem sum_set (l : List Int) : ∀ (i : Nat) (v : Int), i < l.length → (l.set i v).sum = l.sum - l.getD i 0 + v := by
  induction l with
  | nil => intro i v h; simp at h
  | cons x l ih =>
    intro i v h
    cases i with
    | zero => simp; omega
    | succ i =>
      rw [List.set_cons_succ, List.sum_cons, List.sum_cons, ih i v (by simpa using h)]
      simp only [List.getD_cons_succ]
      omega
theorem set_self (l : List Int) (i : Nat) (h : i < l.length) : l.set i (l.getD i 0) = l := by
  rw [List.getD_eq_getElem?_getD, List.getElem?_eq_getElem h]
  exact List.set_getElem_self h
theorem wm_l1 (r c : Int) (out : List Int) (k : Int) (s : List Int) (hs : s.length ≤ 1000) (hb : ∀ x ∈ s, 0 ≤ x ∧ x ≤ 2000) (R : List Int) (T : Int)
    (tail : Ev (fun j => if 0 ≤ (wrap64 (k - 1)) then (if (wrap64 (k - 1)) < (out.length : Int) then ((spec_l1Most.f 0 (wrap64 (c - T))).bind fun t => (spec_weMend.l0 j r c (out.set ((wrap64 (k - 1)) : Int).toNat (wrap64 ((rd out (wrap64 (k - 1))) + t))) (wrap64 (k + 1)))) else none) else none) R) :
    ∀ (d i : Nat) (acc : Int), s.length - i = d → i ≤ s.length → 0 ≤ acc → acc ≤ 2000 * (i : Int) → acc + (s.drop i).sum = T → Ev (fun j => spec_weMend.l1 j r c out k acc s (s.length : Int) (i : Int)) R := by
  intro d
  induction d with
  | zero =>
    intro i acc hd hi h0 h1 ht
    rw [List.drop_eq_nil_of_le (by omega), List.sum_nil, Int.add_zero] at ht
    subst ht
    refine Ev.step (fun j => ?_) tail
    simp only [spec_weMend.l1]
    rw [if_neg (by omega)]
  | succ d ih =>
    intro i acc hd hi h0 h1 ht
    have hg := getD_bd hb (i := i) (by omega)
    have hw : wrap64 (acc + s.getD i 0) = acc + s.getD i 0 := w_id (by omega) (by omega)
    refine Ev.step (f := fun j => spec_weMend.l1 j r c out k (acc + s.getD i 0) s (s.length : Int) ((i + 1 : Nat) : Int)) (fun j => ?_) (ih (i + 1) _ (by omega) (by omega) (by omega) (by omega) ?_)
    · simp only [spec_weMend.l1]
      rw [if_pos (by omega), if_pos (by omega), if_pos (by omega), rd_nat, hw, wsucc i (by omega)]
    · rw [drop_cons s i (by omega), List.sum_cons, ← Int.add_assoc] at ht
      exact ht
theorem lm_l1 (r c : Int) (out : List Int) (sm k : Int) (s : List Int) (hs : s.length ≤ 1000) (hb : ∀ x ∈ s, 0 ≤ x ∧ x ≤ 2000) (R : List Int × Int) (T : Int)
    (tail : Ev (fun j => if T > 0 then (if 0 ≤ (wrap64 ((wrap64 (k + r)) - 1)) then (if (wrap64 ((wrap64 (k + r)) - 1)) < (out.length : Int) then (impl_lateMend.l0 j r c (out.set ((wrap64 ((wrap64 (k + r)) - 1)) : Int).toNat (wrap64 ((rd out (wrap64 ((wrap64 (k + r)) - 1))) + T))) (wrap64 (sm + T)) (wrap64 (k + 1))) else none) else none) else impl_lateMend.l0 j r c out sm (wrap64 (k + 1))) R) :
    ∀ (d i : Nat) (acc : Int), s.length - i = d → i ≤ s.length → acc ≤ 1000 → -(2000 * (i : Int)) ≤ acc → acc - (s.drop i).sum = T → Ev (fun j => impl_lateMend.l1 j r c out sm k acc s (s.length : Int) (i : Int)) R := by
  intro d
  induction d with
  | zero =>
    intro i acc hd hi h0 h1 ht
    rw [List.drop_eq_nil_of_le (by omega), List.sum_nil, Int.sub_zero] at ht
    subst ht
    refine Ev.step (fun j => ?_) tail
    simp only [impl_lateMend.l1]
    rw [if_neg (by omega)]
  | succ d ih =>
    intro i acc hd hi h0 h1 ht
    have hg := getD_bd hb (i := i) (by omega)
    have hw : wrap64 (acc - s.getD i 0) = acc - s.getD i 0 := w_id (by omega) (by omega)
    refine Ev.step (f := fun j => impl_lateMend.l1 j r c out sm k (acc - s.getD i 0) s (s.length : Int) ((i + 1 : Nat) : Int)) (fun j => ?_) (ih (i + 1) _ (by omega) (by omega) (by omega) (by omega) ?_)
    · simp only [impl_lateMend.l1]
      rw [if_pos (by omega), if_pos (by omega), if_pos (by omega), rd_nat, hw, wsucc i (by omega)]
    · rw [drop_cons s i (by omega), List.sum_cons] at ht
      omega
/-- Both programs mend alike; what is put on is what the sum grows by. -/
theorem mend_both (l : List Int) (h4 : l.length ≤ 20) (h5 : ∀ x ∈ l, 0 ≤ x ∧ x ≤ 100) (r : Nat) (h1 : 1 ≤ r) (hr : r ≤ 20) (c : Int) (c0 : 0 ≤ c) (c1 : c ≤ 1000) : ∀ (d q : Nat) (out : List Int) (sm : Int), l.length + 1 - (r + q) = d → r + q ≤ l.length + 1 →
    out.length = l.length → out.drop (r + q - 1) = l.drop (r + q - 1) → (∀ x ∈ out, 0 ≤ x ∧ x ≤ 2000) → sm = out.sum - l.sum →
    ∃ m, Ev (fun j => spec_weMend.l0 j (r : Int) c out ((r + q : Nat) : Int)) m ∧ Ev (fun j => impl_lateMend.l0 j (r : Int) c out sm (q : Int)) (m, m.sum - l.sum) ∧ m.length = l.length ∧ (∀ x ∈ m, 0 ≤ x ∧ x ≤ 2000) := by
  intro d
  induction d with
  | zero =>
    intro q out sm hd hk ho hdr hb hsm
    have g1 : ¬ ((r + q : Nat) : Int) ≤ (out.length : Int) := by omega
    have g2 : ¬ ((q + r : Nat) : Int) ≤ (out.length : Int) := by omega
    have b1 : q ≤ 1000000000 := by omega
    have b2 : r ≤ 1000000000 := by omega
    refine ⟨out, Ev.step (fun j => ?_) (Ev.now _), Ev.step (fun j => ?_) (Ev.now _), ho, hb⟩
    · simp only [spec_weMend.l0]
      rw [if_neg g1]
    · simp only [impl_lateMend.l0]
      rw [w_add q r b1 b2, if_neg g2, hsm]
  | succ d ih =>
    intro q out sm hd hk ho hdr hb hsm
    obtain ⟨p, hp⟩ : ∃ p, p = r + q - 1 := ⟨_, rfl⟩
    have hpk : r + q = p + 1 := by omega
    have hpl : p < l.length := by omega
    have hpo : p < out.length := by omega
    have b1 : q ≤ 1000000000 := by omega
    have b2 : r ≤ 1000000000 := by omega
    have b3 : r + q ≤ 1000000000 := by omega
    rw [← hp] at hdr
    have hcl : ((out.take (r + q)).drop q).length ≤ 20 := by rw [List.length_drop, List.length_take]; omega
    have hcb : ∀ x ∈ (out.take (r + q)).drop q, 0 ≤ x ∧ x ≤ 2000 := fun x hx => hb x (cut_mem hx)
    have hsb := sum_bd hcb
    obtain ⟨cut, hcut⟩ : ∃ cut, cut = (out.take (r + q)).drop q := ⟨_, rfl⟩
    rw [← hcut] at hcl hcb hsb
    obtain ⟨S, hS⟩ : ∃ S, S = cut.sum := ⟨_, rfl⟩
    have hS0 : 0 ≤ S ∧ S ≤ 40000 := by omega
    have hg := getD_bd hb hpo
    have hgl : out.getD p 0 = l.getD p 0 := by
      have e1 := drop_cons out p hpo
      have e2 := drop_cons l p hpl
      rw [hdr, e2] at e1
      exact (List.cons.inj e1).1.symm
    have hg2 := getD_bd h5 hpl
    have hos := sum_bd hb
    have hls := sum_bd h5
    have hsm0 : -2000 ≤ sm ∧ sm ≤ 40000 := by omega
    obtain ⟨t, ht⟩ : ∃ t, t = mx 0 (c - S) := ⟨_, rfl⟩
    have ht0 : 0 ≤ t ∧ t ≤ 1000 ∧ (0 < c - S → t = c - S) ∧ (c - S ≤ 0 → t = 0) := by
      rw [ht]
      unfold mx
      split <;> omega
    have hgt : 0 ≤ out.getD p 0 + t ∧ out.getD p 0 + t ≤ 2000 := by omega
    obtain ⟨out2, ho2⟩ : ∃ o, o = out.set p (out.getD p 0 + t) := ⟨_, rfl⟩
    have hl2 : out2.length = l.length := by rw [ho2, List.length_set, ho]
    have hd2 : out2.drop (r + (q + 1) - 1) = l.drop (r + (q + 1) - 1) := by
      have e : r + (q + 1) - 1 = p + 1 := by omega
      rw [e, ho2, List.drop_set_of_lt (by omega), ← List.drop_drop, hdr, List.drop_drop]
    have hb2 : ∀ x ∈ out2, 0 ≤ x ∧ x ≤ 2000 := by
      rw [ho2]
      intro x hx
      rcases List.mem_or_eq_of_mem_set hx with hx | rfl
      · exact hb x hx
      · exact hgt
    have hsum2 : out2.sum = out.sum + t := by
      rw [ho2, sum_set _ _ _ hpo]
      omega
    obtain ⟨m, hs, hi, hm1, hm2⟩ := ih (q + 1) out2 (sm + t) (by omega) (by omega) hl2 hd2 hb2 (by omega)
    have g1 : ((r + q : Nat) : Int) ≤ (out.length : Int) := by omega
    have g2 : (0 : Int) ≤ ((r + q - r : Nat) : Int) := by omega
    have g3 : ((r + q - r : Nat) : Int) ≤ ((r + q : Nat) : Int) := by omega
    have g4 : (0 : Int) ≤ (p : Int) := by omega
    have g5 : (p : Int) < (out.length : Int) := by omega
    have g6 : (0 : Int) ≤ (q : Int) := by omega
    have g7 : (q : Int) ≤ ((q + r : Nat) : Int) := by omega
    have g8 : ((q + r : Nat) : Int) ≤ (out.length : Int) := by omega
    have g9 : r ≤ r + q := Nat.le_add_right r q
    have g10 : cut.length ≤ 1000 := by omega
    have g11 : (0 : Int) ≤ 2000 * ((0 : Nat) : Int) := by omega
    have g12 : -(2000 * ((0 : Nat) : Int)) ≤ c := by omega
    have b4 : 1 ≤ r + q := by omega
    have b5 : r + q < 4611686018427387904 := by omega
    have b6 : q < 4611686018427387904 := by omega
    have n1 : -4611686018427387904 ≤ c - S ∧ c - S ≤ 4611686018427387904 := by omega
    have n2 : -4611686018427387904 ≤ out.getD p 0 + t ∧ out.getD p 0 + t ≤ 4611686018427387904 := by omega
    have n3 : -4611686018427387904 ≤ sm + t ∧ sm + t ≤ 4611686018427387904 := by omega
    have hwc : wrap64 (c - S) = c - S := w_id n1.1 n1.2
    have hwv : wrap64 (out.getD p 0 + t) = out.getD p 0 + t := w_id n2.1 n2.2
    have hwm : wrap64 (sm + t) = sm + t := w_id n3.1 n3.2
    have hwp : wrap64 (((r + q : Nat) : Int) - 1) = (p : Int) := by
      rw [w_pred (r + q) b4 b3, hp]
    have hwq : wrap64 (((q + r : Nat) : Int) - 1) = (p : Int) := by
      rw [Nat.add_comm q r]
      exact hwp
    have hw4 : wrap64 (((r + q : Nat) : Int) + 1) = ((r + (q + 1) : Nat) : Int) := wsucc (r + q) b5
    have hw5 := wsucc q b6
    rw [← hw4] at hs
    rw [← hw5] at hi
    refine ⟨m, Ev.step (f := fun j => spec_weMend.l1 j (r : Int) c out ((r + q : Nat) : Int) 0 cut (cut.length : Int) ((0 : Nat) : Int)) (fun j => ?_) ?_,
      Ev.step (f := fun j => impl_lateMend.l1 j (r : Int) c out sm (q : Int) c cut (cut.length : Int) ((0 : Nat) : Int)) (fun j => ?_) ?_, hm1, hm2⟩
    · simp only [spec_weMend.l0]
      rw [w_sub (r + q) r g9 b3, if_pos g1, if_pos g2, if_pos g3, Int.toNat_natCast, Int.toNat_natCast, Nat.add_sub_cancel_left, ← hcut]
      rfl
    · refine wm_l1 (r : Int) c out _ cut g10 hcb m S ?_ _ 0 0 rfl (Nat.zero_le _) (Int.le_refl 0) g11 (by rw [List.drop_zero, hS, Int.zero_add])
      refine Ev.congr (fun j => ?_) hs
      rw [hwp, if_pos g4, if_pos g5, hwc, most_val, ← ht]
      simp only [Option.bind_some, rd_nat, Int.toNat_natCast]
      rw [hwv, ho2]
    · simp only [impl_lateMend.l0]
      rw [w_add q r b1 b2, if_pos g8, if_pos g6, if_pos g7, Int.toNat_natCast, Int.toNat_natCast, Nat.add_comm q r, ← hcut]
      rfl
    · refine lm_l1 (r : Int) c out sm _ cut g10 hcb _ (c - S) ?_ _ 0 c rfl (Nat.zero_le _) c1 g12 (by rw [List.drop_zero, hS])
      refine Ev.congr (fun j => ?_) hi
      rw [w_add q r b1 b2, hwq]
      by_cases hpos : c - S > 0
      · have et : t = c - S := ht0.2.2.1 hpos
        rw [if_pos hpos, if_pos g4, if_pos g5, ← et, rd_nat, Int.toNat_natCast, hwv, hwm, ho2]
      · have et : t = 0 := ht0.2.2.2 (Int.not_lt.mp hpos)
        rw [if_neg hpos]
        have e2 : out2 = out := by
          rw [ho2, et, Int.add_zero]
          exact set_self out p hpo
        rw [e2, et, Int.add_zero]
theorem weMend_ev (l : List Int) (h4 : l.length ≤ 20) (h5 : ∀ x ∈ l, 0 ≤ x ∧ x ≤ 100) (r : Nat) (h1 : 1 ≤ r) (hr : r ≤ 20) (hp : r ≤ l.length) (c : Int) (c0 : 0 ≤ c) (c1 : c ≤ 1000) :
    ∃ m, Ev (fun j => spec_weMend.f j l (r : Int) c) m ∧ Ev (fun j => impl_lateMend.f j l (r : Int) c) (m, m.sum - l.sum) ∧ m.length = l.length ∧ (∀ x ∈ m, 0 ≤ x ∧ x ≤ 2000) := by
  obtain ⟨m, hs, hi, hm⟩ := mend_both l h4 h5 r h1 hr c c0 c1 _ 0 l 0 rfl (by omega) rfl rfl (fun x hx => ⟨(h5 x hx).1, Int.le_trans (h5 x hx).2 (by omega)⟩) (by omega)
  refine ⟨m, ?_, ?_, hm⟩
  · unfold spec_weMend.f
    rw [own_val l (by omega)]
    exact hs
  · unfold impl_lateMend.f
    rw [clone_val l (by omega)]
    exact hi
theorem climbs_val (c : Int) : spec_weClimbs.f c = some (decide (0 ≤ c ∧ c ≤ 1000)) := by
  unfold spec_weClimbs.f
  simp only [in_val, Option.bind_some]

/- What is proved at the end: ∀ (l0 : List Int) (a1 : Int) (a2 : Int), l0.length ≤ maxLen → (∀ x ∈ l0, (Lit.int .i64 x).wf = true) → (Lit.int .i64 a1).wf = true → (Lit.int .i64 a2).wf = true → ∃ k, laws_FnExactLateMend.f k l0 a1 a2 = some true -/
theorem FnExactLateMend_agree (l : List Int) (r c : Int) (hl : l.length ≤ 1048576) : ∃ w0 w1, Ev (fun k => spec_LateMend.f k l r c) (w0, w1) ∧ Ev (fun k => impl_LateMend.f k l r c) (w0, w1) ∧ w0.length ≤ 1048576 := by
  unfold spec_LateMend.f impl_LateMend.f
  simp only [climbs_val, within_val, Option.bind_some]
  by_cases hP : hasP l r = true
  · obtain ⟨r, rfl, h1, h2, h3, h4, h5, hb⟩ := hasP_facts hP
    by_cases hc : 0 ≤ c ∧ c ≤ 1000
    · obtain ⟨m, hs, hi, hm, _⟩ := weMend_ev l h4 h5 r h1 h2 h3 c hc.1 hc.2
      have hd := decide_eq_true hc
      exact ⟨m, true, Ev.bind (weEnds_ev l hl r) (Ev.ite_true hP (Ev.ite_true hd (Ev.bind hs (Ev.now _)))), Ev.bind (hasParts_ev l hl r) (Ev.ite_true hP (Ev.ite_true hd (Ev.bind hi (Ev.now _)))), by omega⟩
    · have hd := decide_eq_false hc
      exact ⟨[], false, Ev.bind (weEnds_ev l hl r) (Ev.ite_true hP (Ev.ite_false hd (Ev.now _))), Ev.bind (hasParts_ev l hl r) (Ev.ite_true hP (Ev.ite_false hd (Ev.now _))), by simp⟩
  · have hP' : hasP l r = false := Bool.eq_false_iff.mpr hP
    exact ⟨[], false, Ev.bind (weEnds_ev l hl r) (Ev.ite_false hP' (Ev.now _)), Ev.bind (hasParts_ev l hl r) (Ev.ite_false hP' (Ev.now _)), by simp⟩
theorem FnExactLateMend : ∀ (l0 : List Int) (a1 : Int) (a2 : Int), l0.length ≤ maxLen → (∀ x ∈ l0, (Lit.int .i64 x).wf = true) → (Lit.int .i64 a1).wf = true → (Lit.int .i64 a2).wf = true → ∃ k, laws_FnExactLateMend.f k l0 a1 a2 = some true := by
  intro l0 a1 a2 hm0 hw0 w1 w2
  by_cases hB0 : (l0.length : Int) > 1048576
  · exact ⟨1, by unfold laws_FnExactLateMend.f; rw [if_pos hB0]⟩
  have hl0 : l0.length ≤ 1048576 := by omega
  obtain ⟨w0, w1, hS, hI, hww0⟩ := FnExactLateMend_agree l0 a1 a2 hl0
  obtain ⟨K0, k0⟩ := (show Ev (fun k => spec_LateMend.f k l0 a1 a2) (w0, w1) from hS)
  obtain ⟨K1, k1⟩ := (show Ev (fun k => impl_LateMend.f k l0 a1 a2) (w0, w1) from hI)
  obtain ⟨K2, k2⟩ := (show Ev (fun k => laws_toIntS.f k l0) l0 from toIntS_ev _ hl0)
  obtain ⟨K3, k3⟩ := (show Ev (fun k => laws_eqIntS.f k l0 l0) true from eqIntS_ev _ hl0)
  obtain ⟨K4, k4⟩ := (show Ev (fun k => laws_markIntS.f k l0 (1)) (1 + (l0.length : Int), marked l0.length (1)) from markIntS_ev _ hl0 _ (by omega) (by omega))
  obtain ⟨K5, k5⟩ := (show Ev (fun k => laws_eqIntS.f k w0 w0) true from eqIntS_ev _ hww0)
  obtain ⟨K6, k6⟩ := (show Ev (fun k => laws_markIntS.f k w0 (1)) (1 + (w0.length : Int), marked w0.length (1)) from markIntS_ev _ hww0 _ (by omega) (by omega))
  obtain ⟨K7, k7⟩ := (show Ev (fun k => laws_heldIntS.f k (marked w0.length (1)) (1)) (1 + (w0.length : Int)) from heldIntS_ev _ hww0 _ (by omega) (by omega))
  obtain ⟨K, hK⟩ : ∃ K, K = K0 + K1 + K2 + K3 + K4 + K5 + K6 + K7 := ⟨_, rfl⟩
  have e0 : ∀ j, spec_LateMend.f (K + j) l0 a1 a2 = some (w0, w1) := fun j => k0 (K + j) (by omega)
  have e1 : ∀ j, impl_LateMend.f (K + j) l0 a1 a2 = some (w0, w1) := fun j => k1 (K + j) (by omega)
  have e2 : ∀ j, laws_toIntS.f (K + j) l0 = some l0 := fun j => k2 (K + j) (by omega)
  have e3 : ∀ j, laws_eqIntS.f (K + j) l0 l0 = some true := fun j => k3 (K + j) (by omega)
  have e4 : ∀ j, laws_markIntS.f (K + j) l0 (1) = some (1 + (l0.length : Int), marked l0.length (1)) := fun j => k4 (K + j) (by omega)
  have e5 : ∀ j, laws_eqIntS.f (K + j) w0 w0 = some true := fun j => k5 (K + j) (by omega)
  have e6 : ∀ j, laws_markIntS.f (K + j) w0 (1) = some (1 + (w0.length : Int), marked w0.length (1)) := fun j => k6 (K + j) (by omega)
  have e7 : ∀ j, laws_heldIntS.f (K + j) (marked w0.length (1)) (1) = some (1 + (w0.length : Int)) := fun j => k7 (K + j) (by omega)
  clear k0 k1 k2 k3 k4 k5 k6 k7 hK
  refine ⟨K + 16, ?_⟩
  simp [laws_FnExactLateMend.f, laws_FnExactLateMend.j0, laws_FnExactLateMend.j1, laws_FnExactLateMend.j2, e0, e1, e2, e3, e4, e5, e6, e7, hB0, show ¬ (1 + (l0.length : Int) < 0) by omega, show ¬ (1 + (w0.length : Int) < 0) by omega]

end Go.Proofs.Ytfmjkephbibddaa.Pure
