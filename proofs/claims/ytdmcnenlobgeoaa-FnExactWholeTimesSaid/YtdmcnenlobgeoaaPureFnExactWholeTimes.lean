/- The pure statement of FnExactWholeTimes: the printed function returns true for all arguments within their kinds; no other condition. -/
import Derived.Test.YtdmcnenlobgeoaaPFnExactWholeTimesx
namespace Go.Proofs.Ytdmcnenlobgeoaa.Pure
open Go.RowKit Go.Proofs.Ytdmcnenlobgeoaa.PFnExactWholeTimes Go.Proofs.YtdmcnenlobgeoaaW.PrintWords Go.Proofs.YtdmcnenlobgeoaaW.PrintLast Go.Proofs.YtdmcnenlobgeoaaW.PrintMore
set_option linter.unusedVariables false
set_option linter.unusedSimpArgs false
theorem in_val (a b c : Int) : spec_l1In.f a b c = some (decide (b ≤ a ∧ a ≤ c)) := by
  unfold spec_l1In.f
  by_cases h : b ≤ a <;> simp [h]
theorem within_val (a b c : Int) : impl_within.f a b c = some (decide (b ≤ a ∧ a ≤ c)) := by
  unfold impl_within.f
  by_cases h : b ≤ a <;> simp [h]

theorem moGood_val (v s : Int) : spec_moGood.f v s = some (decide ((1 ≤ v ∧ v ≤ 500) ∧ 0 ≤ s ∧ s ≤ 20)) := by
  unfold spec_moGood.f
  simp only [in_val, Option.bind_some]
  by_cases h : 1 ≤ v ∧ v ≤ 500 <;> simp [h]
theorem isMoving_val (v s : Int) : impl_IsMoving.f v s = some (decide ((1 ≤ v ∧ v ≤ 500) ∧ 0 ≤ s ∧ s ≤ 20)) := by
  unfold impl_IsMoving.f
  simp only [within_val, Option.bind_some]
  by_cases h : 1 ≤ v ∧ v ≤ 500 <;> simp [h]

theorem wsucc (i : Nat) (h : i < 4611686018427387904) : wrap64 ((i : Int) + 1) = ((i + 1 : Nat) : Int) := by
  unfold wrap64
  omega
theorem kpred {d k : Nat} (h : d < k) : ∃ m, k = m + 1 := ⟨k - 1, by omega⟩
theorem rd_nat (l : List Int) (i : Nat) : rd l (i : Int) = l.getD i 0 := by simp [rd]
theorem take_set_succ (x : List Int) (i : Nat) (v : Int) (h : i < x.length) : (x.set i v).take (i + 1) = x.take i ++ [v] := by
  rw [List.take_add_one, List.take_set_of_le (Nat.le_refl i), List.getElem?_set_self h]
  rfl
theorem take_get_succ (x : List Int) (i : Nat) (h : i < x.length) : x.take (i + 1) = x.take i ++ [x.getD i 0] := by
  rw [List.take_add_one, List.getElem?_eq_getElem h, List.getD_eq_getElem?_getD, List.getElem?_eq_getElem h]
  rfl

theorem Ev.ite_true {α : Type} {g f : Nat → Option α} {r : α} {b : Bool} (h : b = true) (k : Ev g r) : Ev (fun n => if b = true then g n else f n) r := by
  subst h
  simpa using k
theorem Ev.ite_false {α : Type} {g f : Nat → Option α} {r : α} {b : Bool} (h : b = false) (k : Ev f r) : Ev (fun n => if b = true then g n else f n) r := by
  subst h
  simpa using k

theorem eqIntS_l (l : List Int) (hB : l.length ≤ 1048576) : ∀ (d k i : Nat), l.length - i = d → d < k → i ≤ l.length → laws_eqIntS.l0 k l l (i : Int) = some true := by
  intro d
  induction d with
  | zero =>
    intro k i hd hk hi
    obtain ⟨k, rfl⟩ := kpred hk
    simp only [laws_eqIntS.l0]
    rw [if_neg (by omega)]
  | succ d ih =>
    intro k i hd hk hi
    obtain ⟨k, rfl⟩ := kpred hk
    simp only [laws_eqIntS.l0]
    rw [if_pos (by omega), if_pos (by omega), if_pos (by omega), if_pos trivial, wsucc i (by omega)]
    exact ih k (i + 1) (by omega) (by omega) (by omega)
theorem eqIntS_val (l : List Int) (hB : l.length ≤ 1048576) (k : Nat) (hk : l.length < k) : laws_eqIntS.f k l l = some true := by
  unfold laws_eqIntS.f
  rw [if_pos rfl]
  exact eqIntS_l l hB l.length k 0 (by omega) hk (by omega)

theorem eqIntS_ev (l : List Int) (hB : l.length ≤ 1048576) : Ev (fun k => laws_eqIntS.f k l l) true := ⟨l.length + 1, fun k hk => eqIntS_val l hB k (by omega)⟩

def marked (n : Nat) (m : Int) : List Int := (List.range n).map fun (j : Nat) => m + (j : Int)
theorem marked_length (n : Nat) (m : Int) : (marked n m).length = n := by simp [marked]
theorem marked_succ (n : Nat) (m : Int) : marked (n + 1) m = m :: marked n (m + 1) := by
  simp only [marked, List.range_succ_eq_map, List.map_cons, List.map_map]
  congr 1
  · omega
  · apply List.map_congr_left
    intro j _
    simp only [Function.comp]
    omega
theorem marked_get (n : Nat) (m : Int) (j : Nat) (h : j < n) : (marked n m).getD j 0 = m + (j : Int) := by
  simp [marked, List.getD_eq_getElem?_getD, h]
theorem markIntS_l : ∀ (d k i : Nat) (l : List Int) (m : Int), l.length ≤ 1048576 → l.length - i = d → d < k → i ≤ l.length → 0 ≤ m → m + (d : Int) ≤ 1000000000 →
    laws_markIntS.l0 k l m (i : Int) = some (m + (d : Int), l.take i ++ marked d m) := by
  intro d
  induction d with
  | zero =>
    intro k i l m hB hd hk hi _ _
    obtain ⟨k, rfl⟩ := kpred hk
    simp only [laws_markIntS.l0]
    rw [if_neg (by omega)]
    have e : i = l.length := by omega
    rw [e, List.take_length]
    simp [marked]
  | succ d ih =>
    intro k i l m hB hd hk hi h0 h1
    obtain ⟨k, rfl⟩ := kpred hk
    simp only [laws_markIntS.l0]
    have hw : wrap64 (m + 1) = m + 1 := by
      unfold wrap64
      omega
    rw [if_pos (by omega), if_pos (by omega), hw, wsucc i (by omega), Int.toNat_natCast]
    rw [ih k (i + 1) (l.set i m) (m + 1) (by simpa using hB) (by rw [List.length_set]; omega) (by omega) (by rw [List.length_set]; omega) (by omega) (by omega)]
    rw [take_set_succ _ _ _ (by omega), marked_succ, List.append_assoc]
    congr 2
    omega
theorem markIntS_val (l : List Int) (hB : l.length ≤ 1048576) (m : Int) (h0 : 0 ≤ m) (h1 : m ≤ 900000000) (k : Nat) (hk : l.length < k) :
    laws_markIntS.f k l m = some (m + (l.length : Int), marked l.length m) := by
  unfold laws_markIntS.f
  have := markIntS_l l.length k 0 l m hB (by omega) hk (by omega) h0 (by omega)
  simpa using this
theorem heldIntS_l : ∀ (d k i : Nat) (l : List Int) (m : Int), l.length ≤ 1048576 → l.length - i = d → d < k → i ≤ l.length → 0 ≤ m → m + (d : Int) ≤ 1000000000 → (∀ j, j < d → l.getD (i + j) 0 = m + (j : Int)) →
    laws_heldIntS.l0 k l m (i : Int) = some (m + (d : Int)) := by
  intro d
  induction d with
  | zero =>
    intro k i l m hB hd hk hi _ _ _
    obtain ⟨k, rfl⟩ := kpred hk
    simp only [laws_heldIntS.l0]
    rw [if_neg (by omega)]
    simp
  | succ d ih =>
    intro k i l m hB hd hk hi h0 h1 hj
    obtain ⟨k, rfl⟩ := kpred hk
    simp only [laws_heldIntS.l0]
    have hw : wrap64 (m + 1) = m + 1 := by
      unfold wrap64
      omega
    have h00 := hj 0 (by omega)
    rw [if_pos (by omega), if_pos (by omega), rd_nat, if_pos (by simpa using h00), hw, wsucc i (by omega)]
    rw [ih k (i + 1) l (m + 1) hB (by omega) (by omega) (by omega) (by omega) (by omega) (fun j h => by
      have := hj (j + 1) (by omega)
      rw [show i + 1 + j = i + (j + 1) by omega, this]
      omega)]
    congr 1
    omega
theorem heldIntS_val (n : Nat) (hB : n ≤ 1048576) (m : Int) (h0 : 0 ≤ m) (h1 : m ≤ 900000000) (k : Nat) (hk : n < k) :
    laws_heldIntS.f k (marked n m) m = some (m + (n : Int)) := by
  unfold laws_heldIntS.f
  exact heldIntS_l n k 0 (marked n m) m (by rw [marked_length]; exact hB) (by rw [marked_length]; omega) hk (by omega) h0 (by omega) (fun j h => by rw [Nat.zero_add]; exact marked_get n m j h)

theorem markIntS_ev (l : List Int) (hB : l.length ≤ 1048576) (m : Int) (h0 : 0 ≤ m) (h1 : m ≤ 900000000) : Ev (fun k => laws_markIntS.f k l m) (m + (l.length : Int), marked l.length m) :=
  ⟨l.length + 1, fun k hk => markIntS_val l hB m h0 h1 k (by omega)⟩
theorem heldIntS_ev (n : Nat) (hB : n ≤ 1048576) (m : Int) (h0 : 0 ≤ m) (h1 : m ≤ 900000000) : Ev (fun k => laws_heldIntS.f k (marked n m) m) (m + (n : Int)) :=
  ⟨n + 1, fun k hk => heldIntS_val n hB m h0 h1 k (by omega)⟩
theorem markIntS_nil : Ev (fun k => laws_markIntS.f k [] 1) (1, []) := by simpa [marked] using markIntS_ev [] (by simp) 1 (by omega) (by omega)
theorem heldIntS_nil : Ev (fun k => laws_heldIntS.f k [] 1) 1 := by simpa [marked] using heldIntS_ev 0 (by omega) 1 (by omega) (by omega)

/- What is proved at the end: ∀ (a0_0 : Int) (a0_1 : Int), (Lit.int .i64 a0_0).wf = true → (Lit.int .i64 a0_1).wf = true → ∃ k, laws_FnExactWholeTimes.f k a0_0 a0_1 = some true -/
theorem whole_both (v s : Int) (hv : 1 ≤ v ∧ v ≤ 500) (hs : 0 ≤ s ∧ s ≤ 20) : ∀ (d i : Nat) (out : List Int), 21 - i = d → i ≤ 21 → out.length ≤ i →
    ∃ w, Ev (fun k => spec_WholeTimes.l0 k out (i : Int) v s) (w, true) ∧ Ev (fun k => impl_WholeTimes.l0 k out (i : Int) v s) (w, true) ∧ w.length ≤ 1048576 := by
  intro d
  induction d with
  | zero =>
    intro i out hd hi ho
    refine ⟨out, Ev.step (fun k => ?_) (Ev.now _), Ev.step (fun k => ?_) (Ev.now _), by omega⟩
    · simp only [spec_WholeTimes.l0]
      rw [if_neg (by omega)]
    · simp only [impl_WholeTimes.l0]
      rw [if_neg (by omega)]
  | succ d ih =>
    intro i out hd hi ho
    have w1 : wrap64 (s + (i : Int)) = s + (i : Int) := by
      unfold wrap64
      omega
    have w2 := wsucc i (by omega)
    have hlim : out.length < 17592186044416 := by omega
    by_cases h1 : s + (i : Int) > 0
    · by_cases h2 : Int.tmod v (s + (i : Int)) = 0
      · obtain ⟨w, a, b, c⟩ := ih (i + 1) (out ++ [(i : Int)]) (by omega) (by omega) (by simp; omega)
        refine ⟨w, Ev.step (fun k => ?_) a, Ev.step (fun k => ?_) b, c⟩
        · simp only [spec_WholeTimes.l0]
          rw [if_pos (by omega), w1, if_pos h1, if_neg (by omega), if_pos h2, if_pos hlim, w2]
        · simp only [impl_WholeTimes.l0]
          rw [if_pos (by omega), w1, if_pos h1, if_neg (by omega), if_pos h2, if_pos hlim, w2]
      · obtain ⟨w, a, b, c⟩ := ih (i + 1) out (by omega) (by omega) (by omega)
        refine ⟨w, Ev.step (fun k => ?_) a, Ev.step (fun k => ?_) b, c⟩
        · simp only [spec_WholeTimes.l0]
          rw [if_pos (by omega), w1, if_pos h1, if_neg (by omega), if_neg h2, w2]
        · simp only [impl_WholeTimes.l0]
          rw [if_pos (by omega), w1, if_pos h1, if_neg (by omega), if_neg h2, w2]
    · obtain ⟨w, a, b, c⟩ := ih (i + 1) out (by omega) (by omega) (by omega)
      refine ⟨w, Ev.step (fun k => ?_) a, Ev.step (fun k => ?_) b, c⟩
      · simp only [spec_WholeTimes.l0]
        rw [if_pos (by omega), w1, if_neg h1, w2]
      · simp only [impl_WholeTimes.l0]
        rw [if_pos (by omega), w1, if_neg h1, w2]
theorem whole_agree (v s : Int) : ∃ w0 w1, Ev (fun k => spec_WholeTimes.f k v s) (w0, w1) ∧ Ev (fun k => impl_WholeTimes.f k v s) (w0, w1) ∧ w0.length ≤ 1048576 := by
  by_cases h1 : (1 ≤ v ∧ v ≤ 500) ∧ 0 ≤ s ∧ s ≤ 20
  · obtain ⟨w, a, b, c⟩ := whole_both v s h1.1 h1.2 _ 0 [] rfl (by omega) (by simp)
    refine ⟨w, true, Ev.congr (fun k => ?_) a, Ev.congr (fun k => ?_) b, c⟩
    · simp only [spec_WholeTimes.f, moGood_val, decide_eq_true h1]
      rfl
    · simp only [impl_WholeTimes.f, isMoving_val, decide_eq_true h1]
      rfl
  · refine ⟨[], false, Ev.congr (fun k => ?_) (Ev.now _), Ev.congr (fun k => ?_) (Ev.now _), by simp⟩
    · simp only [spec_WholeTimes.f, moGood_val, decide_eq_false h1]
      rfl
    · simp only [impl_WholeTimes.f, isMoving_val, decide_eq_false h1]
      rfl
theorem FnExactWholeTimes : ∀ (a0_0 a0_1 : Int), (Lit.int .i64 a0_0).wf = true → (Lit.int .i64 a0_1).wf = true → ∃ k, laws_FnExactWholeTimes.f k a0_0 a0_1 = some true := by
  intro v s _ _
  obtain ⟨w0, w1, hS, hI, hw⟩ := whole_agree v s
  obtain ⟨K0, k0⟩ := (show Ev (fun k => spec_WholeTimes.f k v s) (w0, w1) from hS)
  obtain ⟨K1, k1⟩ := (show Ev (fun k => impl_WholeTimes.f k v s) (w0, w1) from hI)
  obtain ⟨K2, k2⟩ := (show Ev (fun k => laws_eqIntS.f k w0 w0) true from eqIntS_ev _ hw)
  obtain ⟨K3, k3⟩ := (show Ev (fun k => laws_markIntS.f k w0 1) (1 + (w0.length : Int), marked w0.length 1) from markIntS_ev _ hw 1 (by omega) (by omega))
  obtain ⟨K4, k4⟩ := (show Ev (fun k => laws_heldIntS.f k (marked w0.length 1) 1) (1 + (w0.length : Int)) from heldIntS_ev _ hw 1 (by omega) (by omega))
  obtain ⟨K, hK⟩ : ∃ K, K = K0 + K1 + K2 + K3 + K4 := ⟨_, rfl⟩
  have e0 : ∀ j, spec_WholeTimes.f (K + j) v s = some (w0, w1) := fun j => k0 (K + j) (by omega)
  have e1 : ∀ j, impl_WholeTimes.f (K + j) v s = some (w0, w1) := fun j => k1 (K + j) (by omega)
  have e2 : ∀ j, laws_eqIntS.f (K + j) w0 w0 = some true := fun j => k2 (K + j) (by omega)
  have e3 : ∀ j, laws_markIntS.f (K + j) w0 1 = some (1 + (w0.length : Int), marked w0.length 1) := fun j => k3 (K + j) (by omega)
  have e4 : ∀ j, laws_heldIntS.f (K + j) (marked w0.length 1) 1 = some (1 + (w0.length : Int)) := fun j => k4 (K + j) (by omega)
  clear k0 k1 k2 k3 k4 hK
  refine ⟨K + 8, ?_⟩
  simp [laws_FnExactWholeTimes.f, laws_FnExactWholeTimes.j0, laws_FnExactWholeTimes.j1, laws_toMoving.f, e0, e1, e2, e3, e4, show ¬ (1 + (w0.length : Int) < 0) by omega]

end Go.Proofs.Ytdmcnenlobgeoaa.Pure
