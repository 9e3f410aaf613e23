/- The pure statement of FnExactStairsText: the printed function returns true for all arguments within their kinds; no other condition. -/
import Derived.Test.YtmonnbbihmpedaaDoorPFnExactStairsTextx
namespace Go.Proofs.YtmonnbbihmpedaaDoor.Pure
open Go.RowKit Go.Proofs.YtmonnbbihmpedaaDoor.PFnExactStairsText Go.Proofs.YtmonnbbihmpedaaDoorW.PrintWords Go.Proofs.YtmonnbbihmpedaaDoorW.PrintLast Go.Proofs.YtmonnbbihmpedaaDoorW.PrintMore
set_option linter.unusedVariables false
set_option linter.unusedSimpArgs false
theorem in_val (a b c : Int) : spec_l1In.f a b c = some (decide (b ≤ a ∧ a ≤ c)) := by
  unfold spec_l1In.f
  by_cases h : b ≤ a <;> simp [h]
theorem within_val (a b c : Int) : impl_within.f a b c = some (decide (b ≤ a ∧ a ≤ c)) := by
  unfold impl_within.f
  by_cases h : b ≤ a <;> simp [h]

theorem wsucc (i : Nat) (h : i < 4611686018427387904) : wrap64 ((i : Int) + 1) = ((i + 1 : Nat) : Int) := by
  unfold wrap64
  omega
theorem kpred {d k : Nat} (h : d < k) : ∃ m, k = m + 1 := ⟨k - 1, by omega⟩
theorem rd_nat (l : List Int) (i : Nat) : rd l (i : Int) = l.getD i 0 := by simp [rd]
theorem take_set_succ (x : List Int) (i : Nat) (v : Int) (h : i < x.length) : (x.set i v).take (i + 1) = x.take i ++ [v] := by
  rw [List.take_add_one, List.take_set_of_le (Nat.le_refl i), List.getElem?_set_self h]
  rfl
theorem take_get_succ (x : List Int) (i : Nat) (h : i < x.length) : x.take (i + 1) = x.take i ++ [x.getD i 0] := by
  rw [List.take_add_one, List.getElem?_eq_getElem h, List.getD_eq_getElem?_getD, List.getElem?_eq_getElem h]
  rfl
theorem w_id {x : Int} (h0 : -4611686018427387904 ≤ x) (h1 : x ≤ 4611686018427387904) : wrap64 x = x := by
  unfold wrap64
  omega
theorem w_sub (k r : Nat) (h : r ≤ k) (hk : k ≤ 1000000000) : wrap64 ((k : Int) - (r : Int)) = ((k - r : Nat) : Int) := by
  rw [w_id (by omega) (by omega)]
  omega
theorem w_add (a b : Nat) (h : a ≤ 1000000000) (hb : b ≤ 1000000000) : wrap64 ((a : Int) + (b : Int)) = ((a + b : Nat) : Int) := by
  rw [w_id (by omega) (by omega)]
  omega
theorem w_pred (k : Nat) (h : 1 ≤ k) (hk : k ≤ 1000000000) : wrap64 ((k : Int) - 1) = ((k - 1 : Nat) : Int) := by
  rw [w_id (by omega) (by omega)]
  omega

theorem Ev.ite_true {α : Type} {g f : Nat → Option α} {r : α} {b : Bool} (h : b = true) (k : Ev g r) : Ev (fun n => if b = true then g n else f n) r := by
  subst h
  simpa using k
theorem Ev.ite_false {α : Type} {g f : Nat → Option α} {r : α} {b : Bool} (h : b = false) (k : Ev f r) : Ev (fun n => if b = true then g n else f n) r := by
  subst h
  simpa using k

theorem toIntS_l (l : List Int) (hB : l.length ≤ 1048576) : ∀ (d k i : Nat) (x : List Int), l.length - i = d → d < k → i ≤ l.length → x.length = l.length → x.take i = l.take i →
    laws_toIntS.l0 k l x (i : Int) = some l := by
  intro d
  induction d with
  | zero =>
    intro k i x hd hk hi hx ht
    obtain ⟨k, rfl⟩ := kpred hk
    have e : i = l.length := by omega
    simp only [laws_toIntS.l0]
    rw [if_neg (by omega)]
    have h1 := ht
    rw [e, List.take_length, ← hx, List.take_length] at h1
    rw [h1]
  | succ d ih =>
    intro k i x hd hk hi hx ht
    obtain ⟨k, rfl⟩ := kpred hk
    simp only [laws_toIntS.l0]
    rw [if_pos (by omega), if_pos (by omega), if_pos (by omega), wsucc i (by omega), Int.toNat_natCast, rd_nat]
    refine ih k (i + 1) _ (by omega) (by omega) (by omega) (by simpa using hx) ?_
    rw [take_set_succ _ _ _ (by omega), take_get_succ _ _ (by omega), ht]
theorem toIntS_val (l : List Int) (hB : l.length ≤ 1048576) (k : Nat) (hk : l.length < k) : laws_toIntS.f k l = some l := by
  unfold laws_toIntS.f
  rw [if_pos (by omega), if_pos (by rw [Int.toNat_natCast]; omega)]
  exact toIntS_l l hB l.length k 0 _ (by omega) hk (by omega) (by simp) (by simp)

theorem toIntS_ev (l : List Int) (hB : l.length ≤ 1048576) : Ev (fun k => laws_toIntS.f k l) l := ⟨l.length + 1, fun k hk => toIntS_val l hB k (by omega)⟩

theorem eqIntS_l (l : List Int) (hB : l.length ≤ 1048576) : ∀ (d k i : Nat), l.length - i = d → d < k → i ≤ l.length → laws_eqIntS.l0 k l l (i : Int) = some true := by
  intro d
  induction d with
  | zero =>
    intro k i hd hk hi
    obtain ⟨k, rfl⟩ := kpred hk
    simp only [laws_eqIntS.l0]
    rw [if_neg (by omega)]
  | succ d ih =>
    intro k i hd hk hi
    obtain ⟨k, rfl⟩ := kpred hk
    simp only [laws_eqIntS.l0]
    rw [if_pos (by omega), if_pos (by omega), if_pos (by omega), if_pos trivial, wsucc i (by omega)]
    exact ih k (i + 1) (by omega) (by omega) (by omega)
theorem eqIntS_val (l : List Int) (hB : l.length ≤ 1048576) (k : Nat) (hk : l.length < k) : laws_eqIntS.f k l l = some true := by
  unfold laws_eqIntS.f
  rw [if_pos rfl]
  exact eqIntS_l l hB l.length k 0 (by omega) hk (by omega)

theorem eqIntS_ev (l : List Int) (hB : l.length ≤ 1048576) : Ev (fun k => laws_eqIntS.f k l l) true := ⟨l.length + 1, fun k hk => eqIntS_val l hB k (by omega)⟩

/-- Numbers increase, and are from lo to hi; p: the one before. -/
def riseV (lo hi : Int) : Option Int → List Int → Bool
  | _, [] => true
  | p, x :: xs => decide (lo ≤ x ∧ x ≤ hi) && (match p with | none => true | some q => decide (q < x)) && riseV lo hi (some x) xs
theorem drop_cons' (l : List Int) (i : Nat) (h : i < l.length) : l.drop i = l.getD i 0 :: l.drop (i + 1) := by
  rw [List.drop_eq_getElem_cons h, List.getD_eq_getElem?_getD, List.getElem?_eq_getElem h]
  rfl
def before (l : List Int) (i : Nat) : Option Int := if i = 0 then none else some (l.getD (i - 1) 0)
theorem rising_l (l : List Int) (hl : l.length ≤ 1048576) (lo hh : Int) : ∀ (d i : Nat), l.length - i = d → i ≤ l.length →
    Ev (fun k => spec_l1Rising.l0 k l lo hh l (l.length : Int) (i : Int)) (riseV lo hh (before l i) (l.drop i)) ∧ Ev (fun k => impl_rise.l0 k l lo hh l (l.length : Int) (i : Int)) (riseV lo hh (before l i) (l.drop i)) := by
  intro d
  induction d with
  | zero =>
    intro i hd hi
    rw [List.drop_eq_nil_of_le (by omega)]
    refine ⟨Ev.step (fun k => ?_) (Ev.now _), Ev.step (fun k => ?_) (Ev.now _)⟩
    · simp only [spec_l1Rising.l0]
      rw [if_neg (by omega)]
      rfl
    · simp only [impl_rise.l0]
      rw [if_neg (by omega)]
      rfl
  | succ d ih =>
    intro i hd hi
    obtain ⟨ih1, ih2⟩ := ih (i + 1) (by omega) (by omega)
    have hb : before l (i + 1) = some (l.getD i 0) := by simp [before]
    rw [hb, ← wsucc i (by omega)] at ih1 ih2
    rw [drop_cons' l i (by omega)]
    simp only [riseV]
    by_cases h1 : lo ≤ l.getD i 0 ∧ l.getD i 0 ≤ hh
    · rw [decide_eq_true h1]
      by_cases h0 : i = 0
      · have hbi : before l i = none := by simp [before, h0]
        rw [hbi]
        refine ⟨Ev.step (fun k => ?_) ih1, Ev.step (fun k => ?_) ih2⟩
        · simp only [spec_l1Rising.l0]
          rw [if_pos (by omega), if_pos (by omega), if_pos (by omega), rd_nat, in_val]
          simp only [Option.bind_some]
          rw [decide_eq_true h1, if_pos rfl, if_neg (by omega)]
        · simp only [impl_rise.l0]
          rw [if_pos (by omega), if_pos (by omega), if_pos (by omega), rd_nat, within_val]
          simp only [Option.bind_some]
          rw [decide_eq_true h1, if_pos rfl, if_neg (by omega)]
      · have hbi : before l i = some (l.getD (i - 1) 0) := by simp [before, h0]
        have hw : wrap64 ((i : Int) - 1) = ((i - 1 : Nat) : Int) := by
          unfold wrap64
          omega
        rw [hbi]
        by_cases h2 : l.getD (i - 1) 0 < l.getD i 0
        · simp only [decide_eq_true h2]
          refine ⟨Ev.step (fun k => ?_) ih1, Ev.step (fun k => ?_) ih2⟩
          · simp only [spec_l1Rising.l0]
            rw [if_pos (by omega), if_pos (by omega), if_pos (by omega), rd_nat, in_val]
            simp only [Option.bind_some]
            rw [decide_eq_true h1, if_pos rfl, if_pos (by omega), hw, if_pos (by omega), if_pos (by omega), rd_nat, if_neg (by omega)]
          · simp only [impl_rise.l0]
            rw [if_pos (by omega), if_pos (by omega), if_pos (by omega), rd_nat, within_val]
            simp only [Option.bind_some]
            rw [decide_eq_true h1, if_pos rfl, if_pos (by omega), hw, if_pos (by omega), if_pos (by omega), rd_nat, if_neg (by omega)]
        · simp only [decide_eq_false h2]
          refine ⟨Ev.step (fun k => ?_) (Ev.now _), Ev.step (fun k => ?_) (Ev.now _)⟩
          · simp only [spec_l1Rising.l0]
            rw [if_pos (by omega), if_pos (by omega), if_pos (by omega), rd_nat, in_val]
            simp only [Option.bind_some]
            rw [decide_eq_true h1, if_pos rfl, if_pos (by omega), hw, if_pos (by omega), if_pos (by omega), rd_nat, if_pos (by omega)]
            rfl
          · simp only [impl_rise.l0]
            rw [if_pos (by omega), if_pos (by omega), if_pos (by omega), rd_nat, within_val]
            simp only [Option.bind_some]
            rw [decide_eq_true h1, if_pos rfl, if_pos (by omega), hw, if_pos (by omega), if_pos (by omega), rd_nat, if_pos (by omega)]
            rfl
    · rw [decide_eq_false h1]
      refine ⟨Ev.step (fun k => ?_) (Ev.now _), Ev.step (fun k => ?_) (Ev.now _)⟩
      · simp only [spec_l1Rising.l0]
        rw [if_pos (by omega), if_pos (by omega), if_pos (by omega), rd_nat, in_val]
        simp only [Option.bind_some]
        rw [decide_eq_false h1, if_neg (by simp)]
        rfl
      · simp only [impl_rise.l0]
        rw [if_pos (by omega), if_pos (by omega), if_pos (by omega), rd_nat, within_val]
        simp only [Option.bind_some]
        rw [decide_eq_false h1, if_neg (by simp)]
        rfl
theorem rising_ev (l : List Int) (hl : l.length ≤ 1048576) (lo hi : Int) : Ev (fun k => spec_l1Rising.f k l lo hi) (riseV lo hi none l) ∧ Ev (fun k => impl_rise.f k l lo hi) (riseV lo hi none l) := by
  have h := rising_l l hl lo hi _ 0 rfl (by omega)
  simp only [before, List.drop_zero, if_true] at h
  exact h
/-- The numbers are stairs. -/
def goodS (s : Int) (a b : List Int) : Bool := decide (1 ≤ s ∧ s ≤ 60) && (decide (1 ≤ (a.length : Int) ∧ (a.length : Int) ≤ 5) && (riseV 1 9 none a && riseV 1 (s - 1) none b))
theorem clGood_ev (s : Int) (a b : List Int) (ha : a.length ≤ 1048576) (hb : b.length ≤ 1048576) : Ev (fun k => spec_clGood.f k s a b) (goodS s a b) := by
  unfold spec_clGood.f goodS
  simp only [in_val, Option.bind_some]
  by_cases h1 : 1 ≤ s ∧ s ≤ 60
  · have hw : wrap64 (s - 1) = s - 1 := by
      unfold wrap64
      omega
    simp only [decide_eq_true h1, Bool.true_and, hw, if_true]
    by_cases h2 : 1 ≤ (a.length : Int) ∧ (a.length : Int) ≤ 5
    · simp only [decide_eq_true h2, Bool.true_and, if_true]
      refine Ev.bind (rising_ev a ha 1 9).1 ?_
      cases h3 : riseV 1 9 none a
      · simp only [Bool.false_and]
        exact Ev.congr (fun k => if_neg (by simp)) (Ev.now _)
      · simp only [Bool.true_and, if_true]
        exact Ev.bind (rising_ev b hb 1 (s - 1)).1 (Ev.now _)
    · simp only [decide_eq_false h2, Bool.false_and]
      exact Ev.congr (fun k => if_neg (by simp)) (Ev.now _)
  · simp only [decide_eq_false h1, Bool.false_and]
    exact Ev.congr (fun k => if_neg (by simp)) (Ev.now _)
theorem areStairs_ev (s : Int) (a b : List Int) (ha : a.length ≤ 1048576) (hb : b.length ≤ 1048576) : Ev (fun k => impl_AreStairs.f k s a b) (goodS s a b) := by
  unfold impl_AreStairs.f goodS
  simp only [within_val, Option.bind_some]
  by_cases h1 : 1 ≤ s ∧ s ≤ 60
  · have hw : wrap64 (s - 1) = s - 1 := by
      unfold wrap64
      omega
    simp only [decide_eq_true h1, Bool.true_and, hw, if_true]
    by_cases h2 : 1 ≤ (a.length : Int) ∧ (a.length : Int) ≤ 5
    · simp only [decide_eq_true h2, Bool.true_and, if_true]
      refine Ev.bind (rising_ev a ha 1 9).2 ?_
      cases h3 : riseV 1 9 none a
      · simp only [Bool.false_and]
        exact Ev.congr (fun k => if_neg (by simp)) (Ev.now _)
      · simp only [Bool.true_and, if_true]
        exact Ev.bind (rising_ev b hb 1 (s - 1)).2 (Ev.now _)
    · simp only [decide_eq_false h2, Bool.false_and]
      exact Ev.congr (fun k => if_neg (by simp)) (Ev.now _)
  · simp only [decide_eq_false h1, Bool.false_and]
    exact Ev.congr (fun k => if_neg (by simp)) (Ev.now _)
theorem szIntS_val (l : List Int) (n : Int) : laws_szIntS.f l n = some (if wrap64 (n - (l.length : Int)) < 0 then -1 else wrap64 (n - (l.length : Int))) := by
  unfold laws_szIntS.f
  split <;> rfl
theorem szStairs_yes (s : Int) (a b : List Int) (h : a.length + b.length ≤ 1048576) : laws_szStairs.f s a b 1048576 = some (1048576 - (a.length : Int) - (b.length : Int)) := by
  have w1 : wrap64 (1048576 - (a.length : Int)) = 1048576 - (a.length : Int) := by
    unfold wrap64
    omega
  have w2 : wrap64 (1048576 - (a.length : Int) - (b.length : Int)) = 1048576 - (a.length : Int) - (b.length : Int) := by
    unfold wrap64
    omega
  unfold laws_szStairs.f
  rw [szIntS_val, w1, if_neg (by omega)]
  simp only [Option.bind_some]
  rw [if_neg (by omega), szIntS_val, w2, if_neg (by omega)]
  simp only [Option.bind_some]
  rw [if_neg (by omega)]

theorem szStairs_no (s : Int) (a b : List Int) (ha : a.length ≤ maxLen) (hb : b.length ≤ maxLen) (h : ¬ a.length + b.length ≤ 1048576) : laws_szStairs.f s a b 1048576 = some (-1) := by
  unfold maxLen at ha hb
  unfold laws_szStairs.f
  rw [szIntS_val]
  simp only [Option.bind_some]
  have w1 : wrap64 (1048576 - (a.length : Int)) = 1048576 - (a.length : Int) := by
    unfold wrap64
    omega
  rw [w1]
  by_cases h1 : 1048576 - (a.length : Int) < 0
  · rw [if_pos h1, if_pos (by omega)]
  · rw [if_neg h1, if_neg h1, szIntS_val]
    have w2 : wrap64 (1048576 - (a.length : Int) - (b.length : Int)) = 1048576 - (a.length : Int) - (b.length : Int) := by
      unfold wrap64
      omega
    simp only [Option.bind_some]
    rw [w2, if_pos (by omega)]

theorem rise_mem' {lo hi : Int} : ∀ {p : Option Int} {l : List Int}, riseV lo hi p l = true → ∀ x ∈ l, lo ≤ x ∧ x ≤ hi := by
  intro p l
  induction l generalizing p with
  | nil => intro _ x hx; simp at hx
  | cons y l ih =>
    intro h x hx
    simp only [riseV, Bool.and_eq_true, decide_eq_true_eq] at h
    rcases List.mem_cons.mp hx with rfl | hx
    · exact h.1.1
    · exact ih h.2 x hx
theorem rise_len {hi : Int} : ∀ (l : List Int) (p : Option Int), riseV 1 hi p l = true → p.getD 0 ≤ hi → (l.length : Int) ≤ hi - p.getD 0 := by
  intro l
  induction l with
  | nil =>
    intro p _ h
    simp only [List.length_nil]
    omega
  | cons x l ih =>
    intro p h hp
    simp only [riseV, Bool.and_eq_true, decide_eq_true_eq] at h
    obtain ⟨⟨h1, h2⟩, h3⟩ := h
    have h4 := ih (some x) h3 h1.2
    have h5 : p.getD 0 < x := by
      cases p with
      | none => simp only [Option.getD_none]; omega
      | some z => simp only [decide_eq_true_eq] at h2; exact h2
    simp only [Option.getD_some] at h4
    simp only [List.length_cons]
    omega
theorem goodS_all {s : Int} {S B : List Int} (h : goodS s S B = true) : 1 ≤ s ∧ s ≤ 60 ∧ 1 ≤ S.length ∧ S.length ≤ 5 ∧ B.length ≤ 60 ∧ (∀ x ∈ S, 1 ≤ x ∧ x ≤ 9) ∧ (∀ x ∈ B, 1 ≤ x ∧ x ≤ s - 1) := by
  simp only [goodS, Bool.and_eq_true, decide_eq_true_eq] at h
  obtain ⟨⟨h1, h2⟩, ⟨h3, h4⟩, h5, h6⟩ := h
  have := rise_len B none h6 (by simp only [Option.getD_none]; omega)
  simp only [Option.getD_none] at this
  exact ⟨h1, h2, by omega, by omega, by omega, rise_mem' h5, rise_mem' h6⟩

/-- A text, out of its bytes. -/
def mkb (l : List UInt8) : ByteArray := ⟨l.toArray⟩
theorem mkb_app (a b : List UInt8) : mkb a ++ mkb b = mkb (a ++ b) := by
  apply ByteArray.ext
  rw [ByteArray.data_append]
  simp [mkb]
theorem mkb_size (a : List UInt8) : (mkb a).size = a.length := by simp [mkb, ByteArray.size]
theorem mkb_list (a : List UInt8) : (mkb a).data.toList = a := by simp [mkb]
/-- The decimal numeral. -/
def dd (u : Nat) : List UInt8 := Lib.decDigits u
theorem dd_small {u : Nat} (h : u < 10) : dd u = [UInt8.ofNat (48 + u)] := by
  unfold dd
  rw [Lib.decDigits, dif_pos h]
theorem dd_big {u : Nat} (h : ¬ u < 10) : dd u = dd (u / 10) ++ [UInt8.ofNat (48 + u % 10)] := by
  unfold dd
  rw [Lib.decDigits, dif_neg h]
theorem dd_len : ∀ (e u : Nat), u < 10 ^ e → 1 ≤ e → (dd u).length ≤ e := by
  intro e
  induction e with
  | zero => intro u _ h; omega
  | succ e ih =>
    intro u hu _
    by_cases h : u < 10
    · rw [dd_small h]
      simp
    · rw [dd_big h, List.length_append]
      have h1 : u / 10 < 10 ^ e := by rw [Nat.pow_succ] at hu; omega
      have h2 : 1 ≤ e := by
        by_cases h0 : e = 0
        · subst h0
          simp at hu
          omega
        · omega
      have := ih (u / 10) h1 h2
      simp only [List.length_cons, List.length_nil]
      omega
theorem dd_len6 {u : Nat} (h : u ≤ 999999) : (dd u).length ≤ 6 := dd_len 6 u (by omega) (by omega)
theorem one_byte (u : Nat) (h : u < 10) : strOfNums [(wrap64 (48 + (u : Int))) % 256] = mkb [UInt8.ofNat (48 + u)] := by
  have e : (wrap64 (48 + (u : Int))) % 256 = ((48 + u : Nat) : Int) := by
    rw [w_id (by omega) (by omega)]
    omega
  rw [e]
  unfold strOfNums
  rw [List.map_cons, List.map_nil, Int.toNat_natCast]
  rfl
theorem num_ev : ∀ (b u : Nat), u ≤ b → u ≤ 999999 → Ev (fun k => spec_l1Num.f k (u : Int)) (mkb (dd u)) := by
  intro b
  induction b with
  | zero =>
    intro u h _
    obtain rfl : u = 0 := by omega
    refine Ev.step (fun k => ?_) (Ev.now _)
    simp only [spec_l1Num.f]
    rw [if_pos (by omega), dd_small (by omega)]
    exact congrArg some (one_byte 0 (by omega))
  | succ b ih =>
    intro u h hu
    by_cases h10 : u < 10
    · refine Ev.step (fun k => ?_) (Ev.now _)
      simp only [spec_l1Num.f]
      rw [if_pos (by omega), dd_small h10]
      exact congrArg some (one_byte u h10)
    · have e1 : wrap64 (Int.tdiv (u : Int) 10) = ((u / 10 : Nat) : Int) := by
        have : Int.tdiv (u : Int) 10 = ((u / 10 : Nat) : Int) := rfl
        rw [this, w_id (by omega) (by omega)]
      have e2 : Int.tmod (u : Int) 10 = ((u % 10 : Nat) : Int) := rfl
      have h1 := ih (u / 10) (by omega) (by omega)
      have hl := dd_len6 (u := u / 10) (by omega)
      refine Ev.step (f := fun k => (spec_l1Num.f k ((u / 10 : Nat) : Int)).bind fun t => if t.size + (mkb [UInt8.ofNat (48 + u % 10)]).size ≤ 9223372036854775807 then some (t ++ mkb [UInt8.ofNat (48 + u % 10)]) else none) (fun k => ?_) (Ev.bind h1 (Ev.congr (fun k => ?_) (Ev.now _)))
      · simp only [spec_l1Num.f]
        rw [if_neg (by omega), e1, e2]
        simp only [Option.bind_some]
        rw [one_byte (u % 10) (by omega)]
      · rw [if_pos (by rw [mkb_size, mkb_size]; simp only [List.length_cons, List.length_nil]; omega), mkb_app, dd_big h10]
theorem itoa_val (u : Nat) (h : u ≤ 999999) : strconv_Itoa_38.f (u : Int) = some (mkb (dd u)) := by
  unfold strconv_Itoa_38.f
  rw [if_pos (by omega)]
  unfold Lib.itoa
  rw [if_neg (by omega)]
  rfl
/-- Numerals, each behind a mark. -/
def tl (s : UInt8) (l : List Int) : List UInt8 := (l.map (fun x => s :: dd x.toNat)).flatten
def jn (s : UInt8) (l : List Int) : List UInt8 :=
  match l with
  | [] => []
  | x :: xs => dd x.toNat ++ tl s xs
theorem tl_len (s : UInt8) : ∀ (l : List Int), (∀ x ∈ l, 0 ≤ x ∧ x ≤ 999999) → (tl s l).length ≤ 7 * l.length := by
  intro l
  induction l with
  | nil => intro _; simp [tl]
  | cons x l ih =>
    intro h
    have h1 := ih (fun y hy => h y (List.mem_cons_of_mem _ hy))
    have h2 := dd_len6 (u := x.toNat) (by have := h x (List.mem_cons_self ..); omega)
    have e : tl s (x :: l) = (s :: dd x.toNat) ++ tl s l := by simp [tl]
    rw [e, List.length_append, List.length_cons, List.length_cons]
    omega
theorem jn_len (s : UInt8) (l : List Int) (h : ∀ x ∈ l, 0 ≤ x ∧ x ≤ 999999) : (jn s l).length ≤ 7 * l.length := by
  cases l with
  | nil => simp [jn]
  | cons x l =>
    have h1 := tl_len s l (fun y hy => h y (List.mem_cons_of_mem _ hy))
    have h2 := dd_len6 (u := x.toNat) (by have := h x (List.mem_cons_self ..); omega)
    simp only [jn, List.length_append, List.length_cons]
    omega
theorem tl_join (s : UInt8) (l : List Int) : Lib.joinTail [s] ((l.map (fun x => mkb (dd x.toNat))).map (·.data.toList)) = tl s l := by
  unfold Lib.joinTail tl
  rw [List.map_map, List.map_map]
  congr 1
theorem jn_join (s : UInt8) (l : List Int) : Lib.join ((l.map (fun x => mkb (dd x.toNat))).map (·.data.toList)) [s] = jn s l := by
  cases l with
  | nil => rfl
  | cons x l =>
    have := tl_join s l
    simp only [List.map_cons] at this ⊢
    rw [Lib.join_cons, this, mkb_list, jn]
theorem joined_l (s : UInt8) (l : List Int) (hl : l.length ≤ 1000) (hb : ∀ x ∈ l, 0 ≤ x ∧ x ≤ 999999) : ∀ (d i : Nat), l.length - i = d → i ≤ l.length →
    Ev (fun k => impl_joined.l0 k (mkb [s]) ((l.take i).map (fun x => mkb (dd x.toNat))) l (l.length : Int) (i : Int)) (mkb (jn s l)) := by
  intro d
  induction d with
  | zero =>
    intro i h1 h2
    have e : l.take i = l := List.take_of_length_le (by omega)
    rw [e]
    have hj := jn_len s l hb
    refine Ev.step (fun k => ?_) (Ev.now _)
    simp only [impl_joined.l0]
    rw [if_neg (by omega)]
    unfold strings_Join.f
    rw [mkb_list, jn_join, if_pos (by rw [List.length_map]; omega)]
    rfl
  | succ d ih =>
    intro i h1 h2
    have hi : i < l.length := by omega
    have hx := hb (l.getD i 0) (by rw [List.getD_eq_getElem?_getD, List.getElem?_eq_getElem hi]; exact List.getElem_mem hi)
    obtain ⟨u, hu⟩ : ∃ u : Nat, l.getD i 0 = (u : Int) := ⟨(l.getD i 0).toNat, by omega⟩
    have hu2 : u ≤ 999999 := by omega
    have h3 := ih (i + 1) (by omega) (by omega)
    rw [take_get_succ l i hi, List.map_append, List.map_cons, List.map_nil, hu, Int.toNat_natCast] at h3
    refine Ev.step (fun k => ?_) h3
    simp only [impl_joined.l0]
    rw [if_pos (by omega), if_pos (by omega), if_pos (by omega), rd_nat, hu, itoa_val u hu2]
    simp only [Option.bind_some]
    rw [if_pos (by rw [List.length_map, List.length_take]; omega), wsucc i (by omega)]
theorem joined_ev (s : UInt8) (l : List Int) (hl : l.length ≤ 1000) (hb : ∀ x ∈ l, 0 ≤ x ∧ x ≤ 999999) : Ev (fun k => impl_joined.f k l (mkb [s])) (mkb (jn s l)) :=
  joined_l s l hl hb _ 0 rfl (Nat.zero_le _)

theorem ct_l (l : List Int) (hl : l.length ≤ 1000) (hb : ∀ x ∈ l, 0 ≤ x ∧ x ≤ 999999) : ∀ (d i : Nat) (acc : List UInt8), l.length - i = d → i ≤ l.length → 1 ≤ i → acc.length ≤ 7 * i →
    Ev (fun k => spec_clList.l0 k (mkb acc) l (l.length : Int) (i : Int)) (mkb (acc ++ tl 44 (l.drop i))) := by
  intro d
  induction d with
  | zero =>
    intro i acc h1 h2 h3 h4
    rw [List.drop_eq_nil_of_le (by omega)]
    refine Ev.step (fun k => ?_) (Ev.now _)
    simp only [spec_clList.l0]
    rw [if_neg (by omega)]
    simp [tl]
  | succ d ih =>
    intro i acc h1 h2 h3 h4
    have hi : i < l.length := by omega
    have hx := hb (l.getD i 0) (by rw [List.getD_eq_getElem?_getD, List.getElem?_eq_getElem hi]; exact List.getElem_mem hi)
    obtain ⟨u, hu⟩ : ∃ u : Nat, l.getD i 0 = (u : Int) := ⟨(l.getD i 0).toNat, by omega⟩
    have hu2 : u ≤ 999999 := by omega
    have hn := num_ev u u (Nat.le_refl _) hu2
    have hl6 := dd_len6 hu2
    have hd : l.drop i = (u : Int) :: l.drop (i + 1) := by
      rw [← hu, List.drop_eq_getElem_cons hi, List.getD_eq_getElem?_getD, List.getElem?_eq_getElem hi]
      rfl
    have h5 := ih (i + 1) ((acc ++ [44]) ++ dd u) (by omega) (by omega) (by omega) (by simp only [List.length_append, List.length_cons, List.length_nil]; omega)
    have e : (acc ++ [44]) ++ dd u ++ tl 44 (l.drop (i + 1)) = acc ++ tl 44 (l.drop i) := by
      rw [hd]
      simp [tl]
    rw [e] at h5
    refine Ev.step (f := fun k => if (mkb acc).size + 1 ≤ 9223372036854775807 then ((spec_l1Num.f k (u : Int)).bind fun t => if (mkb acc ++ mkb [44]).size + t.size ≤ 9223372036854775807 then spec_clList.l0 k ((mkb acc ++ mkb [44]) ++ t) l (l.length : Int) ((i + 1 : Nat) : Int) else none) else none) (fun k => ?_) (Ev.congr (fun k => if_pos (by rw [mkb_size]; omega)) (Ev.bind hn (Ev.congr (fun k => ?_) h5)))
    · simp only [spec_clList.l0]
      rw [if_pos (by omega), if_pos (by omega), if_pos (by omega), if_pos (by omega), rd_nat, hu, wsucc i (by omega)]
      rfl
    · rw [mkb_app, mkb_app, mkb_size, mkb_size, if_pos (by simp only [List.length_append, List.length_cons, List.length_nil]; omega)]
theorem ct_ev (l : List Int) (hl : l.length ≤ 1000) (hb : ∀ x ∈ l, 0 ≤ x ∧ x ≤ 999999) : Ev (fun k => spec_clList.f k l) (mkb (jn 44 l)) := by
  unfold spec_clList.f
  cases l with
  | nil =>
    refine Ev.step (fun k => ?_) (Ev.now _)
    simp only [spec_clList.l0]
    rw [if_neg (by simp)]
    rfl
  | cons x l =>
    have hx := hb x (List.mem_cons_self ..)
    obtain ⟨u, rfl⟩ : ∃ u : Nat, x = (u : Int) := ⟨x.toNat, by omega⟩
    have hu2 : u ≤ 999999 := by omega
    have hn := num_ev u u (Nat.le_refl _) hu2
    have hl6 := dd_len6 hu2
    have h5 := ct_l ((u : Int) :: l) hl hb _ 1 (dd u) rfl (by simp) (Nat.le_refl _) (by omega)
    have e : dd u ++ tl 44 (((u : Int) :: l).drop 1) = jn 44 ((u : Int) :: l) := rfl
    rw [e] at h5
    refine Ev.step (f := fun k => (spec_l1Num.f k (u : Int)).bind fun t => if (mkb []).size + t.size ≤ 9223372036854775807 then spec_clList.l0 k (mkb [] ++ t) ((u : Int) :: l) ((((u : Int) :: l).length : Nat) : Int) ((1 : Nat) : Int) else none) (fun k => ?_) (Ev.bind hn (Ev.congr (fun k => ?_) h5))
    · simp only [spec_clList.l0]
      rw [if_pos (by simp only [List.length_cons]; omega), if_pos (by omega), if_pos (by simp only [List.length_cons]; omega), if_neg (by omega), show wrap64 (0 + 1) = ((1 : Nat) : Int) from (by unfold wrap64; omega)]
      rfl
    · rw [mkb_app, mkb_size, mkb_size, if_pos (by simp only [List.length_nil]; omega), List.nil_append]

/- What is proved at the end: ∀ (a0_0 : Int) (l0_1 : List Int) (l0_2 : List Int), (Lit.int .i64 a0_0).wf = true → l0_1.length ≤ maxLen → (∀ x ∈ l0_1, (Lit.int .i64 x).wf = true) → l0_2.length ≤ maxLen → (∀ x ∈ l0_2, (Lit.int .i64 x).wf = true) → ∃ k, laws_FnExactStairsText.f k a0_0 l0_1 l0_2 = some true -/
/-- The text of stairs. -/
def stx (n : Nat) (a b : List Int) : List UInt8 := if b.length = 0 then dd n ++ [115] ++ jn 44 a else dd n ++ [115] ++ jn 44 a ++ ([120] ++ jn 44 b)
theorem clText_ev (n : Nat) (hn : n ≤ 60) (a b : List Int) (h4 : a.length ≤ 5) (h5 : b.length ≤ 60) (ha : ∀ x ∈ a, 0 ≤ x ∧ x ≤ 999999) (hb : ∀ x ∈ b, 0 ≤ x ∧ x ≤ 999999) : Ev (fun k => spec_clText.f k (n : Int) a b) (mkb (stx n a b)) := by
  have l1 := dd_len6 (u := n) (by omega)
  have l2 := jn_len 44 a ha
  have l3 := jn_len 44 b hb
  unfold spec_clText.f stx
  refine Ev.bind (num_ev n n (Nat.le_refl _) (by omega)) (Ev.congr (fun k => if_pos (by rw [mkb_size]; omega)) (Ev.bind (ct_ev a (by omega) ha) ?_))
  show Ev (fun k => if (mkb (dd n) ++ mkb [115]).size + (mkb (jn 44 a)).size ≤ 9223372036854775807 then (if (b.length : Int) > 0 then ((spec_clList.f k b).bind fun t131 => if 1 + t131.size ≤ 9223372036854775807 then (if ((mkb (dd n) ++ mkb [115]) ++ mkb (jn 44 a)).size + (mkb [120] ++ t131).size ≤ 9223372036854775807 then some (((mkb (dd n) ++ mkb [115]) ++ mkb (jn 44 a)) ++ (mkb [120] ++ t131)) else none) else none) else some ((mkb (dd n) ++ mkb [115]) ++ mkb (jn 44 a))) else none) _
  simp only [mkb_app]
  refine Ev.congr (fun k => if_pos (by rw [mkb_size, mkb_size]; simp only [List.length_append, List.length_cons, List.length_nil]; omega)) ?_
  by_cases h0 : b.length = 0
  · rw [if_pos h0]
    exact Ev.congr (fun k => if_neg (by omega)) (Ev.now _)
  · rw [if_neg h0]
    refine Ev.congr (fun k => if_pos (by omega)) (Ev.bind (ct_ev b (by omega) hb) (Ev.congr (fun k => ?_) (Ev.now _)))
    rw [if_pos (by rw [mkb_size]; omega), mkb_app, mkb_app, if_pos (by rw [mkb_size, mkb_size]; simp only [List.length_append, List.length_cons, List.length_nil]; omega)]
theorem FnExactStairsText_agree (s : Int) (a b : List Int) (ha : a.length ≤ 1048576) (hb : b.length ≤ 1048576) : ∃ w0 w1, Ev (fun k => spec_StairsText.f k s a b) (w0, w1) ∧ Ev (fun k => impl_StairsText.f k s a b) (w0, w1) := by
  unfold spec_StairsText.f impl_StairsText.f
  by_cases hg : goodS s a b = true
  · obtain ⟨h1, h2, h3, h4, h5, h6, h7⟩ := goodS_all hg
    obtain ⟨n, rfl⟩ : ∃ n : Nat, s = (n : Int) := ⟨s.toNat, by omega⟩
    have ha' : ∀ x ∈ a, 0 ≤ x ∧ x ≤ 999999 := fun x hx => by have := h6 x hx; omega
    have hb' : ∀ x ∈ b, 0 ≤ x ∧ x ≤ 999999 := fun x hx => by have := h7 x hx; omega
    have hn : n ≤ 60 := by omega
    have l1 := dd_len6 (u := n) (by omega)
    have l2 := jn_len 44 a ha'
    have l3 := jn_len 44 b hb'
    refine ⟨mkb (stx n a b), true, Ev.bind (clGood_ev _ _ _ ha hb) (Ev.ite_true hg (Ev.bind (clText_ev n hn a b h4 h5 ha' hb') (Ev.now _))), Ev.bind (areStairs_ev _ _ _ ha hb) (Ev.ite_true hg ?_)⟩
    rw [itoa_val n (by omega)]
    simp only [Option.bind_some]
    refine Ev.congr (fun k => if_pos (by rw [mkb_size]; omega)) (Ev.bind (joined_ev 44 a (by omega) ha') ?_)
    show Ev (fun k => if (mkb (dd n) ++ mkb [115]).size + (mkb (jn 44 a)).size ≤ 9223372036854775807 then (if (b.length : Int) > 0 then ((impl_joined.f k b (mkb [44])).bind fun t131 => if 1 + t131.size ≤ 9223372036854775807 then (if ((mkb (dd n) ++ mkb [115]) ++ mkb (jn 44 a)).size + (mkb [120] ++ t131).size ≤ 9223372036854775807 then some (((mkb (dd n) ++ mkb [115]) ++ mkb (jn 44 a)) ++ (mkb [120] ++ t131), true) else none) else none) else some ((mkb (dd n) ++ mkb [115]) ++ mkb (jn 44 a), true)) else none) _
    simp only [mkb_app]
    refine Ev.congr (fun k => if_pos (by rw [mkb_size, mkb_size]; simp only [List.length_append, List.length_cons, List.length_nil]; omega)) ?_
    unfold stx
    by_cases h0 : b.length = 0
    · rw [if_pos h0]
      exact Ev.congr (fun k => if_neg (by omega)) (Ev.now _)
    · rw [if_neg h0]
      refine Ev.congr (fun k => if_pos (by omega)) (Ev.bind (joined_ev 44 b (by omega) hb') (Ev.congr (fun k => ?_) (Ev.now _)))
      rw [if_pos (by rw [mkb_size]; omega), mkb_app, mkb_app, if_pos (by rw [mkb_size, mkb_size]; simp only [List.length_append, List.length_cons, List.length_nil]; omega)]
  · have hg' : goodS s a b = false := Bool.eq_false_iff.mpr hg
    exact ⟨_, false, Ev.bind (clGood_ev _ _ _ ha hb) (Ev.ite_false hg' (Ev.now _)), Ev.bind (areStairs_ev _ _ _ ha hb) (Ev.ite_false hg' (Ev.now _))⟩
theorem FnExactStairsText : ∀ (a0_0 : Int) (l0_1 : List Int) (l0_2 : List Int), (Lit.int .i64 a0_0).wf = true → l0_1.length ≤ maxLen → (∀ x ∈ l0_1, (Lit.int .i64 x).wf = true) → l0_2.length ≤ maxLen → (∀ x ∈ l0_2, (Lit.int .i64 x).wf = true) → ∃ k, laws_FnExactStairsText.f k a0_0 l0_1 l0_2 = some true := by
  intro a0_0 l0_1 l0_2 w0_0 hm0_1 hw0_1 hm0_2 hw0_2
  by_cases hN0 : ¬ l0_1.length + l0_2.length ≤ 1048576
  · exact ⟨1, by unfold laws_FnExactStairsText.f; simp [szStairs_no a0_0 l0_1 l0_2 hm0_1 hm0_2 hN0]⟩
  have hZ0 : l0_1.length + l0_2.length ≤ 1048576 := by omega
  have hl0_1 : l0_1.length ≤ 1048576 := by omega
  have hl0_2 : l0_2.length ≤ 1048576 := by omega
  have hz0 := szStairs_yes a0_0 l0_1 l0_2 hZ0
  obtain ⟨w0, w1, hS, hI⟩ := FnExactStairsText_agree a0_0 l0_1 l0_2 hl0_1 hl0_2
  obtain ⟨K0, k0⟩ := (show Ev (fun k => spec_StairsText.f k a0_0 l0_1 l0_2) (w0, w1) from hS)
  obtain ⟨K1, k1⟩ := (show Ev (fun k => impl_StairsText.f k a0_0 l0_1 l0_2) (w0, w1) from hI)
  obtain ⟨K2, k2⟩ := (show Ev (fun k => laws_toIntS.f k l0_1) l0_1 from toIntS_ev _ hl0_1)
  obtain ⟨K3, k3⟩ := (show Ev (fun k => laws_eqIntS.f k l0_1 l0_1) true from eqIntS_ev _ hl0_1)
  obtain ⟨K4, k4⟩ := (show Ev (fun k => laws_toIntS.f k l0_2) l0_2 from toIntS_ev _ hl0_2)
  obtain ⟨K5, k5⟩ := (show Ev (fun k => laws_eqIntS.f k l0_2 l0_2) true from eqIntS_ev _ hl0_2)
  obtain ⟨K, hK⟩ : ∃ K, K = K0 + K1 + K2 + K3 + K4 + K5 := ⟨_, rfl⟩
  have e0 : ∀ j, spec_StairsText.f (K + j) a0_0 l0_1 l0_2 = some (w0, w1) := fun j => k0 (K + j) (by omega)
  have e1 : ∀ j, impl_StairsText.f (K + j) a0_0 l0_1 l0_2 = some (w0, w1) := fun j => k1 (K + j) (by omega)
  have e2 : ∀ j, laws_toIntS.f (K + j) l0_1 = some l0_1 := fun j => k2 (K + j) (by omega)
  have e3 : ∀ j, laws_eqIntS.f (K + j) l0_1 l0_1 = some true := fun j => k3 (K + j) (by omega)
  have e4 : ∀ j, laws_toIntS.f (K + j) l0_2 = some l0_2 := fun j => k4 (K + j) (by omega)
  have e5 : ∀ j, laws_eqIntS.f (K + j) l0_2 l0_2 = some true := fun j => k5 (K + j) (by omega)
  clear k0 k1 k2 k3 k4 k5 hK
  refine ⟨K + 16, ?_⟩
  simp [laws_FnExactStairsText.f, laws_FnExactStairsText.j0, laws_toStairs.f, laws_eqStairs.f, e0, e1, e2, e3, e4, e5, hz0]

end Go.Proofs.YtmonnbbihmpedaaDoor.Pure
