/- The pure statement of FnExactTurnBears: the printed function returns true for all arguments within their kinds; no other condition. -/
import Derived.Test.YtdmcnenlobgeoaaPFnExactTurnBearsx
namespace Go.Proofs.Ytdmcnenlobgeoaa.Pure
open Go.RowKit Go.Proofs.Ytdmcnenlobgeoaa.PFnExactTurnBears Go.Proofs.YtdmcnenlobgeoaaW.PrintWords Go.Proofs.YtdmcnenlobgeoaaW.PrintLast Go.Proofs.YtdmcnenlobgeoaaW.PrintMore
set_option linter.unusedVariables false
set_option linter.unusedSimpArgs false
theorem in_val (a b c : Int) : spec_l1In.f a b c = some (decide (b ≤ a ∧ a ≤ c)) := by
  unfold spec_l1In.f
  by_cases h : b ≤ a <;> simp [h]
theorem within_val (a b c : Int) : impl_within.f a b c = some (decide (b ≤ a ∧ a ≤ c)) := by
  unfold impl_within.f
  by_cases h : b ≤ a <;> simp [h]

theorem wsucc (i : Nat) (h : i < 4611686018427387904) : wrap64 ((i : Int) + 1) = ((i + 1 : Nat) : Int) := by
  unfold wrap64
  omega
theorem kpred {d k : Nat} (h : d < k) : ∃ m, k = m + 1 := ⟨k - 1, by omega⟩
theorem rd_nat (l : List Int) (i : Nat) : rd l (i : Int) = l.getD i 0 := by simp [rd]
theorem take_set_succ (x : List Int) (i : Nat) (v : Int) (h : i < x.length) : (x.set i v).take (i + 1) = x.take i ++ [v] := by
  rw [List.take_add_one, List.take_set_of_le (Nat.le_refl i), List.getElem?_set_self h]
  rfl
theorem take_get_succ (x : List Int) (i : Nat) (h : i < x.length) : x.take (i + 1) = x.take i ++ [x.getD i 0] := by
  rw [List.take_add_one, List.getElem?_eq_getElem h, List.getD_eq_getElem?_getD, List.getElem?_eq_getElem h]
  rfl

def okB (n : Int) : Bool := decide (0 ≤ n ∧ n ≤ 100)
/-- The numbers are bears. -/
def goodB (l : List Int) : Bool := decide (1 ≤ l.length ∧ l.length ≤ 20) && l.all okB
theorem drop_cons (l : List Int) (i : Nat) (h : i < l.length) : l.drop i = l.getD i 0 :: l.drop (i + 1) := by
  rw [List.drop_eq_getElem_cons h, List.getD_eq_getElem?_getD, List.getElem?_eq_getElem h]
  rfl
theorem l1All_l (l : List Int) (hB : l.length ≤ 1048576) : ∀ (d k i : Nat), l.length - i = d → d < k → i ≤ l.length →
    spec_l1All.l0 k 0 100 l (l.length : Int) (i : Int) = some ((l.drop i).all okB) := by
  intro d
  induction d with
  | zero =>
    intro k i hd hk hi
    obtain ⟨k, rfl⟩ := kpred hk
    simp only [spec_l1All.l0]
    rw [if_neg (by omega), List.drop_eq_nil_of_le (by omega)]
    rfl
  | succ d ih =>
    intro k i hd hk hi
    obtain ⟨k, rfl⟩ := kpred hk
    simp only [spec_l1All.l0]
    rw [if_pos (by omega), if_pos (by omega), if_pos (by omega), rd_nat, in_val, drop_cons l i (by omega)]
    simp only [Option.bind_some, List.all_cons, wsucc i (by omega)]
    rw [ih k (i + 1) (by omega) (by omega) (by omega)]
    by_cases h : 0 ≤ l.getD i 0 ∧ l.getD i 0 ≤ 100
    · rw [if_pos (decide_eq_true h)]
      simp only [okB, decide_eq_true h, Bool.true_and]
    · rw [if_neg (by simpa using h)]
      simp only [okB, decide_eq_false h, Bool.false_and]
theorem weGood_val (l : List Int) (hB : l.length ≤ 1048576) (k : Nat) (hk : l.length < k) : spec_weGood.f k l = some (goodB l) := by
  unfold spec_weGood.f spec_l1All.f goodB
  have h := l1All_l l hB l.length k 0 (by omega) hk (by omega)
  rw [List.drop_zero] at h
  rw [in_val]
  simp only [Option.bind_some]
  by_cases h1 : 1 ≤ l.length ∧ l.length ≤ 20
  · rw [if_pos (decide_eq_true (by omega)), decide_eq_true h1, Bool.true_and]
    have h' : spec_l1All.l0 k 0 100 l (l.length : Int) 0 = some (l.all okB) := h
    rw [h']
    rfl
  · rw [if_neg (by simp; omega), decide_eq_false h1, Bool.false_and]
theorem areBears1_val (n : Int) : impl_AreBears_1.f n = some (!okB n) := by
  unfold impl_AreBears_1.f
  simp only [within_val, Option.bind_some]
  rfl
theorem indexFunc_l (l : List Int) (hB : l.length ≤ 1048576) : ∀ (d k i : Nat), l.length - i = d → d < k → i ≤ l.length →
    ∃ r, slices_IndexFunc_int_int.l0 k l (l.length : Int) (i : Int) = some r ∧ decide (r ≥ 0) = !(l.drop i).all okB := by
  intro d
  induction d with
  | zero =>
    intro k i hd hk hi
    obtain ⟨k, rfl⟩ := kpred hk
    refine ⟨-1, ?_, ?_⟩
    · simp only [slices_IndexFunc_int_int.l0]
      rw [if_neg (by omega)]
    · rw [List.drop_eq_nil_of_le (by omega)]
      rfl
  | succ d ih =>
    intro k i hd hk hi
    obtain ⟨k, rfl⟩ := kpred hk
    rw [drop_cons l i (by omega)]
    by_cases h : okB (l.getD i 0) = true
    · obtain ⟨r, hr, hp⟩ := ih k (i + 1) (by omega) (by omega) (by omega)
      refine ⟨r, ?_, by rw [List.all_cons, h, Bool.true_and]; exact hp⟩
      simp only [slices_IndexFunc_int_int.l0]
      rw [if_pos (by omega), if_pos (by omega), if_pos (by omega), rd_nat, areBears1_val, h]
      simp only [Option.bind_some, Bool.not_true, wsucc i (by omega)]
      exact hr
    · have h' : okB (l.getD i 0) = false := Bool.eq_false_iff.mpr h
      refine ⟨i, ?_, by rw [List.all_cons, h', Bool.false_and]; simp⟩
      simp only [slices_IndexFunc_int_int.l0]
      rw [if_pos (by omega), if_pos (by omega), if_pos (by omega), rd_nat, areBears1_val, h']
      rfl
theorem areBears_val (l : List Int) (hB : l.length ≤ 1048576) (k : Nat) (hk : l.length < k) : impl_AreBears.f k l = some (goodB l) := by
  obtain ⟨r, hr, hp⟩ := indexFunc_l l hB l.length k 0 (by omega) hk (by omega)
  have hr' : slices_IndexFunc_int_int.l0 k l (l.length : Int) 0 = some r := hr
  rw [List.drop_zero] at hp
  unfold impl_AreBears.f slices_ContainsFunc_int_int.f slices_IndexFunc_int_int.f goodB
  rw [within_val, hr']
  simp only [Option.bind_some, hp, Bool.not_not]
  by_cases h1 : 1 ≤ l.length ∧ l.length ≤ 20
  · rw [if_pos (decide_eq_true (by omega)), decide_eq_true h1, Bool.true_and]
  · rw [if_neg (by simp; omega), decide_eq_false h1, Bool.false_and]

theorem Ev.ite_true {α : Type} {g f : Nat → Option α} {r : α} {b : Bool} (h : b = true) (k : Ev g r) : Ev (fun n => if b = true then g n else f n) r := by
  subst h
  simpa using k
theorem Ev.ite_false {α : Type} {g f : Nat → Option α} {r : α} {b : Bool} (h : b = false) (k : Ev f r) : Ev (fun n => if b = true then g n else f n) r := by
  subst h
  simpa using k

theorem weGood_ev (l : List Int) (hB : l.length ≤ 1048576) : Ev (fun k => spec_weGood.f k l) (goodB l) := ⟨l.length + 1, fun k hk => weGood_val l hB k (by omega)⟩
theorem areBears_ev (l : List Int) (hB : l.length ≤ 1048576) : Ev (fun k => impl_AreBears.f k l) (goodB l) := ⟨l.length + 1, fun k hk => areBears_val l hB k (by omega)⟩
theorem okB_bd {x : Int} (h : okB x = true) : 0 ≤ x ∧ x ≤ 100 := by simpa [okB] using h
/-- What bears are. -/
theorem goodB_bd {l : List Int} (h : goodB l = true) : 1 ≤ l.length ∧ l.length ≤ 20 ∧ ∀ x ∈ l, 0 ≤ x ∧ x ≤ 100 := by
  simp only [goodB, Bool.and_eq_true, decide_eq_true_eq, List.all_eq_true] at h
  exact ⟨h.1.1, h.1.2, fun x hx => okB_bd (h.2 x hx)⟩
theorem getD_bd {l : List Int} {a b : Int} (h : ∀ x ∈ l, a ≤ x ∧ x ≤ b) {i : Nat} (hi : i < l.length) : a ≤ l.getD i 0 ∧ l.getD i 0 ≤ b := by
  rw [List.getD_eq_getElem?_getD, List.getElem?_eq_getElem hi]
  exact h _ (List.getElem_mem hi)

theorem toIntS_l (l : List Int) (hB : l.length ≤ 1048576) : ∀ (d k i : Nat) (x : List Int), l.length - i = d → d < k → i ≤ l.length → x.length = l.length → x.take i = l.take i →
    laws_toIntS.l0 k l x (i : Int) = some l := by
  intro d
  induction d with
  | zero =>
    intro k i x hd hk hi hx ht
    obtain ⟨k, rfl⟩ := kpred hk
    have e : i = l.length := by omega
    simp only [laws_toIntS.l0]
    rw [if_neg (by omega)]
    have h1 := ht
    rw [e, List.take_length, ← hx, List.take_length] at h1
    rw [h1]
  | succ d ih =>
    intro k i x hd hk hi hx ht
    obtain ⟨k, rfl⟩ := kpred hk
    simp only [laws_toIntS.l0]
    rw [if_pos (by omega), if_pos (by omega), if_pos (by omega), wsucc i (by omega), Int.toNat_natCast, rd_nat]
    refine ih k (i + 1) _ (by omega) (by omega) (by omega) (by simpa using hx) ?_
    rw [take_set_succ _ _ _ (by omega), take_get_succ _ _ (by omega), ht]
theorem toIntS_val (l : List Int) (hB : l.length ≤ 1048576) (k : Nat) (hk : l.length < k) : laws_toIntS.f k l = some l := by
  unfold laws_toIntS.f
  rw [if_pos (by omega), if_pos (by rw [Int.toNat_natCast]; omega)]
  exact toIntS_l l hB l.length k 0 _ (by omega) hk (by omega) (by simp) (by simp)

theorem toIntS_ev (l : List Int) (hB : l.length ≤ 1048576) : Ev (fun k => laws_toIntS.f k l) l := ⟨l.length + 1, fun k hk => toIntS_val l hB k (by omega)⟩

theorem eqIntS_l (l : List Int) (hB : l.length ≤ 1048576) : ∀ (d k i : Nat), l.length - i = d → d < k → i ≤ l.length → laws_eqIntS.l0 k l l (i : Int) = some true := by
  intro d
  induction d with
  | zero =>
    intro k i hd hk hi
    obtain ⟨k, rfl⟩ := kpred hk
    simp only [laws_eqIntS.l0]
    rw [if_neg (by omega)]
  | succ d ih =>
    intro k i hd hk hi
    obtain ⟨k, rfl⟩ := kpred hk
    simp only [laws_eqIntS.l0]
    rw [if_pos (by omega), if_pos (by omega), if_pos (by omega), if_pos trivial, wsucc i (by omega)]
    exact ih k (i + 1) (by omega) (by omega) (by omega)
theorem eqIntS_val (l : List Int) (hB : l.length ≤ 1048576) (k : Nat) (hk : l.length < k) : laws_eqIntS.f k l l = some true := by
  unfold laws_eqIntS.f
  rw [if_pos rfl]
  exact eqIntS_l l hB l.length k 0 (by omega) hk (by omega)

theorem eqIntS_ev (l : List Int) (hB : l.length ≤ 1048576) : Ev (fun k => laws_eqIntS.f k l l) true := ⟨l.length + 1, fun k hk => eqIntS_val l hB k (by omega)⟩

def marked (n : Nat) (m : Int) : List Int := (List.range n).map fun (j : Nat) => m + (j : Int)
theorem marked_length (n : Nat) (m : Int) : (marked n m).length = n := by simp [marked]
theorem marked_succ (n : Nat) (m : Int) : marked (n + 1) m = m :: marked n (m + 1) := by
  simp only [marked, List.range_succ_eq_map, List.map_cons, List.map_map]
  congr 1
  · omega
  · apply List.map_congr_left
    intro j _
    simp only [Function.comp]
    omega
theorem marked_get (n : Nat) (m : Int) (j : Nat) (h : j < n) : (marked n m).getD j 0 = m + (j : Int) := by
  simp [marked, List.getD_eq_getElem?_getD, h]
theorem markIntS_l : ∀ (d k i : Nat) (l : List Int) (m : Int), l.length ≤ 1048576 → l.length - i = d → d < k → i ≤ l.length → 0 ≤ m → m + (d : Int) ≤ 1000000000 →
    laws_markIntS.l0 k l m (i : Int) = some (m + (d : Int), l.take i ++ marked d m) := by
  intro d
  induction d with
  | zero =>
    intro k i l m hB hd hk hi _ _
    obtain ⟨k, rfl⟩ := kpred hk
    simp only [laws_markIntS.l0]
    rw [if_neg (by omega)]
    have e : i = l.length := by omega
    rw [e, List.take_length]
    simp [marked]
  | succ d ih =>
    intro k i l m hB hd hk hi h0 h1
    obtain ⟨k, rfl⟩ := kpred hk
    simp only [laws_markIntS.l0]
    have hw : wrap64 (m + 1) = m + 1 := by
      unfold wrap64
      omega
    rw [if_pos (by omega), if_pos (by omega), hw, wsucc i (by omega), Int.toNat_natCast]
    rw [ih k (i + 1) (l.set i m) (m + 1) (by simpa using hB) (by rw [List.length_set]; omega) (by omega) (by rw [List.length_set]; omega) (by omega) (by omega)]
    rw [take_set_succ _ _ _ (by omega), marked_succ, List.append_assoc]
    congr 2
    omega
theorem markIntS_val (l : List Int) (hB : l.length ≤ 1048576) (m : Int) (h0 : 0 ≤ m) (h1 : m ≤ 900000000) (k : Nat) (hk : l.length < k) :
    laws_markIntS.f k l m = some (m + (l.length : Int), marked l.length m) := by
  unfold laws_markIntS.f
  have := markIntS_l l.length k 0 l m hB (by omega) hk (by omega) h0 (by omega)
  simpa using this
theorem heldIntS_l : ∀ (d k i : Nat) (l : List Int) (m : Int), l.length ≤ 1048576 → l.length - i = d → d < k → i ≤ l.length → 0 ≤ m → m + (d : Int) ≤ 1000000000 → (∀ j, j < d → l.getD (i + j) 0 = m + (j : Int)) →
    laws_heldIntS.l0 k l m (i : Int) = some (m + (d : Int)) := by
  intro d
  induction d with
  | zero =>
    intro k i l m hB hd hk hi _ _ _
    obtain ⟨k, rfl⟩ := kpred hk
    simp only [laws_heldIntS.l0]
    rw [if_neg (by omega)]
    simp
  | succ d ih =>
    intro k i l m hB hd hk hi h0 h1 hj
    obtain ⟨k, rfl⟩ := kpred hk
    simp only [laws_heldIntS.l0]
    have hw : wrap64 (m + 1) = m + 1 := by
      unfold wrap64
      omega
    have h00 := hj 0 (by omega)
    rw [if_pos (by omega), if_pos (by omega), rd_nat, if_pos (by simpa using h00), hw, wsucc i (by omega)]
    rw [ih k (i + 1) l (m + 1) hB (by omega) (by omega) (by omega) (by omega) (by omega) (fun j h => by
      have := hj (j + 1) (by omega)
      rw [show i + 1 + j = i + (j + 1) by omega, this]
      omega)]
    congr 1
    omega
theorem heldIntS_val (n : Nat) (hB : n ≤ 1048576) (m : Int) (h0 : 0 ≤ m) (h1 : m ≤ 900000000) (k : Nat) (hk : n < k) :
    laws_heldIntS.f k (marked n m) m = some (m + (n : Int)) := by
  unfold laws_heldIntS.f
  exact heldIntS_l n k 0 (marked n m) m (by rw [marked_length]; exact hB) (by rw [marked_length]; omega) hk (by omega) h0 (by omega) (fun j h => by rw [Nat.zero_add]; exact marked_get n m j h)

theorem markIntS_ev (l : List Int) (hB : l.length ≤ 1048576) (m : Int) (h0 : 0 ≤ m) (h1 : m ≤ 900000000) : Ev (fun k => laws_markIntS.f k l m) (m + (l.length : Int), marked l.length m) :=
  ⟨l.length + 1, fun k hk => markIntS_val l hB m h0 h1 k (by omega)⟩
theorem heldIntS_ev (n : Nat) (hB : n ≤ 1048576) (m : Int) (h0 : 0 ≤ m) (h1 : m ≤ 900000000) : Ev (fun k => laws_heldIntS.f k (marked n m) m) (m + (n : Int)) :=
  ⟨n + 1, fun k hk => heldIntS_val n hB m h0 h1 k (by omega)⟩
theorem markIntS_nil : Ev (fun k => laws_markIntS.f k [] 1) (1, []) := by simpa [marked] using markIntS_ev [] (by simp) 1 (by omega) (by omega)
theorem heldIntS_nil : Ev (fun k => laws_heldIntS.f k [] 1) 1 := by simpa [marked] using heldIntS_ev 0 (by omega) 1 (by omega) (by omega)

theorem clone_val (l : List Int) (h : l.length ≤ 1048576) : slices_Clone_int_int.f l = some l := by
  unfold slices_Clone_int_int.f
  simp only [Option.bind_some]
  rw [if_pos (by simp; omega)]
  simp

/- What is proved at the end: ∀ (l0 : List Int), l0.length ≤ maxLen → (∀ x ∈ l0, (Lit.int .i64 x).wf = true) → ∃ k, laws_FnExactTurnBears.f k l0 = some true -/
theorem turn_l (l : List Int) (hl : l.length ≤ 1000) : ∀ (n : Nat) (out : List Int), n ≤ l.length → out.length + n ≤ 1000 → Ev (fun k => spec_TurnBears.l0 k l out ((n : Int) - 1)) (out ++ (l.take n).reverse, true) := by
  intro n
  induction n with
  | zero =>
    intro out hn ho
    rw [List.take_zero, List.reverse_nil, List.append_nil]
    refine Ev.step (fun k => ?_) (Ev.now _)
    simp only [spec_TurnBears.l0]
    rw [if_neg (by omega)]
  | succ n ih =>
    intro out hn ho
    have h := ih (out ++ [l.getD n 0]) (by omega) (by simp; omega)
    have e : ((n + 1 : Nat) : Int) - 1 = (n : Int) := by omega
    have w : wrap64 ((n : Int) - 1) = (n : Int) - 1 := by
      unfold wrap64
      omega
    rw [take_get_succ l n (by omega), List.reverse_append, List.reverse_singleton]
    rw [List.append_assoc] at h
    refine Ev.step (fun k => ?_) h
    simp only [spec_TurnBears.l0]
    rw [e, if_pos (by omega), if_pos (by omega), if_pos (by omega), if_pos (by omega), rd_nat, w]
/-- The list with its first and last i elements exchanged. -/
def mixL (l : List Int) (i : Nat) : List Int := (List.range l.length).map fun j => if j < i ∨ l.length - i ≤ j then l.getD (l.length - 1 - j) 0 else l.getD j 0
theorem mixL_length (l : List Int) (i : Nat) : (mixL l i).length = l.length := by simp [mixL]
theorem mixL_get (l : List Int) (i j : Nat) (h : j < l.length) : (mixL l i).getD j 0 = if j < i ∨ l.length - i ≤ j then l.getD (l.length - 1 - j) 0 else l.getD j 0 := by
  simp [mixL, List.getD_eq_getElem?_getD, h]
theorem ext_getD {a b : List Int} (h : a.length = b.length) (k : ∀ j, j < a.length → a.getD j 0 = b.getD j 0) : a = b := by
  apply List.ext_getElem h
  intro j h1 h2
  have := k j h1
  rw [List.getD_eq_getElem?_getD, List.getD_eq_getElem?_getD, List.getElem?_eq_getElem h1, List.getElem?_eq_getElem h2] at this
  exact this
theorem set_get (l : List Int) (i j : Nat) (v : Int) (hj : j < l.length) : (l.set i v).getD j 0 = if i = j then v else l.getD j 0 := by
  rw [List.getD_eq_getElem?_getD, List.getElem?_eq_getElem (by rw [List.length_set]; exact hj), List.getElem_set, List.getD_eq_getElem?_getD, List.getElem?_eq_getElem hj]
  split <;> rfl
theorem mixL_zero (l : List Int) : mixL l 0 = l := by
  apply ext_getD (mixL_length l 0)
  intro j hj
  rw [mixL_length] at hj
  rw [mixL_get l 0 j hj, if_neg (by omega)]
theorem mixL_step (l : List Int) (i : Nat) (h : i < l.length - 1 - i) : ((mixL l i).set i ((mixL l i).getD (l.length - 1 - i) 0)).set (l.length - 1 - i) ((mixL l i).getD i 0) = mixL l (i + 1) := by
  apply ext_getD (by rw [List.length_set, List.length_set, mixL_length, mixL_length])
  intro j hj
  rw [List.length_set, List.length_set, mixL_length] at hj
  rw [set_get _ _ _ _ (by rw [List.length_set, mixL_length]; exact hj), set_get _ _ _ _ (by rw [mixL_length]; exact hj), mixL_get l i _ (by omega), mixL_get l i _ (by omega), mixL_get l i j hj, mixL_get l (i + 1) j hj]
  by_cases h1 : l.length - 1 - i = j
  · rw [if_pos h1, if_neg (by omega), if_pos (by omega)]
    congr 1
    omega
  · rw [if_neg h1]
    by_cases h2 : i = j
    · rw [if_pos h2, if_neg (by omega), if_pos (by omega), h2]
    · rw [if_neg h2]
      by_cases h3 : j < i ∨ l.length - i ≤ j
      · rw [if_pos h3, if_pos (by omega)]
      · rw [if_neg h3, if_neg (by omega)]
theorem mixL_end (l : List Int) (i : Nat) (h : ¬ i < l.length - 1 - i) : mixL l i = l.reverse := by
  apply ext_getD (by rw [mixL_length, List.length_reverse])
  intro j hj
  rw [mixL_length] at hj
  rw [mixL_get l i j hj]
  have hr : l.reverse.getD j 0 = l.getD (l.length - 1 - j) 0 := by
    rw [List.getD_eq_getElem?_getD, List.getElem?_reverse hj, List.getD_eq_getElem?_getD]
  rw [hr]
  by_cases h3 : j < i ∨ l.length - i ≤ j
  · rw [if_pos h3]
  · rw [if_neg h3]
    congr 1
    omega
theorem reverse_l (l : List Int) (hl : l.length ≤ 1000) (h1 : 1 ≤ l.length) : ∀ (d i : Nat), l.length - i = d → i + 1 ≤ l.length → Ev (fun k => slices_Reverse_int_int.l0 k (mixL l i) (i : Int) ((l.length - 1 - i : Nat) : Int)) l.reverse := by
  intro d
  induction d with
  | zero => intro i hd hi; omega
  | succ d ih =>
    intro i hd hi
    by_cases hc : i < l.length - 1 - i
    · have h := ih (i + 1) (by omega) (by omega)
      have w : wrap64 (((l.length - 1 - i : Nat) : Int) - 1) = ((l.length - 1 - (i + 1) : Nat) : Int) := by
        unfold wrap64
        omega
      rw [← mixL_step l i hc] at h
      refine Ev.step (fun k => ?_) h
      simp only [slices_Reverse_int_int.l0]
      rw [if_pos (by omega), if_pos (by omega), mixL_length, if_pos (by omega), if_pos (by omega), if_pos (by omega), rd_nat, rd_nat, Int.toNat_natCast, Int.toNat_natCast, w, wsucc i (by omega)]
    · rw [← mixL_end l i hc]
      refine Ev.step (fun k => ?_) (Ev.now _)
      simp only [slices_Reverse_int_int.l0]
      rw [if_neg (by omega)]
theorem FnExactTurnBears_agree (l : List Int) (hl : l.length ≤ 1048576) : ∃ w0 w1, Ev (fun k => spec_TurnBears.f k l) (w0, w1) ∧ Ev (fun k => impl_TurnBears.f k l) (w0, w1) ∧ w0.length ≤ 1048576 := by
  unfold spec_TurnBears.f impl_TurnBears.f
  by_cases hg : goodB l = true
  · obtain ⟨g1, g2, g3⟩ := goodB_bd hg
    have w : wrap64 ((l.length : Int) - 1) = (l.length : Int) - 1 := by
      unfold wrap64
      omega
    have hs := turn_l l (by omega) l.length [] (Nat.le_refl _) (by simp; omega)
    rw [List.take_length, List.nil_append] at hs
    have hr := reverse_l l (by omega) g1 _ 0 rfl (by omega)
    rw [mixL_zero] at hr
    have e : ((l.length - 1 - 0 : Nat) : Int) = (l.length : Int) - 1 := by omega
    rw [e] at hr
    refine ⟨l.reverse, true, Ev.bind (weGood_ev l hl) (Ev.ite_true hg ?_), Ev.bind (areBears_ev l hl) (Ev.ite_true hg ?_), by rw [List.length_reverse]; exact hl⟩
    · rw [w]
      exact hs
    · rw [clone_val l hl]
      simp only [Option.bind_some]
      refine Ev.bind (a := l.reverse) ?_ (Ev.now _)
      unfold slices_Reverse_int_int.f
      rw [w]
      exact hr
  · have hg' : goodB l = false := Bool.eq_false_iff.mpr hg
    exact ⟨[], false, Ev.bind (weGood_ev l hl) (Ev.ite_false hg' (Ev.now _)), Ev.bind (areBears_ev l hl) (Ev.ite_false hg' (Ev.now _)), by simp⟩
theorem FnExactTurnBears : ∀ (l0 : List Int), l0.length ≤ maxLen → (∀ x ∈ l0, (Lit.int .i64 x).wf = true) → ∃ k, laws_FnExactTurnBears.f k l0 = some true := by
  intro l0 hm0 hw0
  by_cases hB0 : (l0.length : Int) > 1048576
  · exact ⟨1, by unfold laws_FnExactTurnBears.f; rw [if_pos hB0]⟩
  have hl0 : l0.length ≤ 1048576 := by omega
  obtain ⟨w0, w1, hS, hI, hww0⟩ := FnExactTurnBears_agree l0 hl0
  obtain ⟨K0, k0⟩ := (show Ev (fun k => spec_TurnBears.f k l0) (w0, w1) from hS)
  obtain ⟨K1, k1⟩ := (show Ev (fun k => impl_TurnBears.f k l0) (w0, w1) from hI)
  obtain ⟨K2, k2⟩ := (show Ev (fun k => laws_toIntS.f k l0) l0 from toIntS_ev _ hl0)
  obtain ⟨K3, k3⟩ := (show Ev (fun k => laws_eqIntS.f k l0 l0) true from eqIntS_ev _ hl0)
  obtain ⟨K4, k4⟩ := (show Ev (fun k => laws_markIntS.f k l0 (1)) (1 + (l0.length : Int), marked l0.length (1)) from markIntS_ev _ hl0 _ (by omega) (by omega))
  obtain ⟨K5, k5⟩ := (show Ev (fun k => laws_eqIntS.f k w0 w0) true from eqIntS_ev _ hww0)
  obtain ⟨K6, k6⟩ := (show Ev (fun k => laws_markIntS.f k w0 (1)) (1 + (w0.length : Int), marked w0.length (1)) from markIntS_ev _ hww0 _ (by omega) (by omega))
  obtain ⟨K7, k7⟩ := (show Ev (fun k => laws_heldIntS.f k (marked w0.length (1)) (1)) (1 + (w0.length : Int)) from heldIntS_ev _ hww0 _ (by omega) (by omega))
  obtain ⟨K, hK⟩ : ∃ K, K = K0 + K1 + K2 + K3 + K4 + K5 + K6 + K7 := ⟨_, rfl⟩
  have e0 : ∀ j, spec_TurnBears.f (K + j) l0 = some (w0, w1) := fun j => k0 (K + j) (by omega)
  have e1 : ∀ j, impl_TurnBears.f (K + j) l0 = some (w0, w1) := fun j => k1 (K + j) (by omega)
  have e2 : ∀ j, laws_toIntS.f (K + j) l0 = some l0 := fun j => k2 (K + j) (by omega)
  have e3 : ∀ j, laws_eqIntS.f (K + j) l0 l0 = some true := fun j => k3 (K + j) (by omega)
  have e4 : ∀ j, laws_markIntS.f (K + j) l0 (1) = some (1 + (l0.length : Int), marked l0.length (1)) := fun j => k4 (K + j) (by omega)
  have e5 : ∀ j, laws_eqIntS.f (K + j) w0 w0 = some true := fun j => k5 (K + j) (by omega)
  have e6 : ∀ j, laws_markIntS.f (K + j) w0 (1) = some (1 + (w0.length : Int), marked w0.length (1)) := fun j => k6 (K + j) (by omega)
  have e7 : ∀ j, laws_heldIntS.f (K + j) (marked w0.length (1)) (1) = some (1 + (w0.length : Int)) := fun j => k7 (K + j) (by omega)
  clear k0 k1 k2 k3 k4 k5 k6 k7 hK
  refine ⟨K + 16, ?_⟩
  simp [laws_FnExactTurnBears.f, laws_FnExactTurnBears.j0, laws_FnExactTurnBears.j1, laws_FnExactTurnBears.j2, e0, e1, e2, e3, e4, e5, e6, e7, hB0, show ¬ (1 + (l0.length : Int) < 0) by omega, show ¬ (1 + (w0.length : Int) < 0) by omega]

end Go.Proofs.Ytdmcnenlobgeoaa.Pure
