/- The pure statement of FnExactBearsText: the printed function returns true for all arguments within their kinds; no other condition. -/
import Derived.Test.YtmonnbbihmpedaaDoorPFnExactBearsTextx
namespace Go.Proofs.YtmonnbbihmpedaaDoor.Pure
open Go.RowKit Go.Proofs.YtmonnbbihmpedaaDoor.PFnExactBearsText Go.Proofs.YtmonnbbihmpedaaDoorW.PrintWords Go.Proofs.YtmonnbbihmpedaaDoorW.PrintLast Go.Proofs.YtmonnbbihmpedaaDoorW.PrintMore
set_option linter.unusedVariables false
set_option linter.unusedSimpArgs false
theorem in_val (a b c : Int) : spec_l1In.f a b c = some (decide (b ≤ a ∧ a ≤ c)) := by
  unfold spec_l1In.f
  by_cases h : b ≤ a <;> simp [h]
theorem within_val (a b c : Int) : impl_within.f a b c = some (decide (b ≤ a ∧ a ≤ c)) := by
  unfold impl_within.f
  by_cases h : b ≤ a <;> simp [h]

theorem wsucc (i : Nat) (h : i < 4611686018427387904) : wrap64 ((i : Int) + 1) = ((i + 1 : Nat) : Int) := by
  unfold wrap64
  omega
theorem kpred {d k : Nat} (h : d < k) : ∃ m, k = m + 1 := ⟨k - 1, by omega⟩
theorem rd_nat (l : List Int) (i : Nat) : rd l (i : Int) = l.getD i 0 := by simp [rd]
theorem take_set_succ (x : List Int) (i : Nat) (v : Int) (h : i < x.length) : (x.set i v).take (i + 1) = x.take i ++ [v] := by
  rw [List.take_add_one, List.take_set_of_le (Nat.le_refl i), List.getElem?_set_self h]
  rfl
theorem take_get_succ (x : List Int) (i : Nat) (h : i < x.length) : x.take (i + 1) = x.take i ++ [x.getD i 0] := by
  rw [List.take_add_one, List.getElem?_eq_getElem h, List.getD_eq_getElem?_getD, List.getElem?_eq_getElem h]
  rfl
theorem w_id {x : Int} (h0 : -4611686018427387904 ≤ x) (h1 : x ≤ 4611686018427387904) : wrap64 x = x := by
  unfold wrap64
  omega
theorem w_sub (k r : Nat) (h : r ≤ k) (hk : k ≤ 1000000000) : wrap64 ((k : Int) - (r : Int)) = ((k - r : Nat) : Int) := by
  rw [w_id (by omega) (by omega)]
  omega
theorem w_add (a b : Nat) (h : a ≤ 1000000000) (hb : b ≤ 1000000000) : wrap64 ((a : Int) + (b : Int)) = ((a + b : Nat) : Int) := by
  rw [w_id (by omega) (by omega)]
  omega
theorem w_pred (k : Nat) (h : 1 ≤ k) (hk : k ≤ 1000000000) : wrap64 ((k : Int) - 1) = ((k - 1 : Nat) : Int) := by
  rw [w_id (by omega) (by omega)]
  omega

def okB (n : Int) : Bool := decide (0 ≤ n ∧ n ≤ 100)
/-- The numbers are bears. -/
def goodB (l : List Int) : Bool := decide (1 ≤ l.length ∧ l.length ≤ 20) && l.all okB
theorem drop_cons (l : List Int) (i : Nat) (h : i < l.length) : l.drop i = l.getD i 0 :: l.drop (i + 1) := by
  rw [List.drop_eq_getElem_cons h, List.getD_eq_getElem?_getD, List.getElem?_eq_getElem h]
  rfl
theorem l1All_l (l : List Int) (hB : l.length ≤ 1048576) : ∀ (d k i : Nat), l.length - i = d → d < k → i ≤ l.length →
    spec_l1All.l0 k 0 100 l (l.length : Int) (i : Int) = some ((l.drop i).all okB) := by
  intro d
  induction d with
  | zero =>
    intro k i hd hk hi
    obtain ⟨k, rfl⟩ := kpred hk
    simp only [spec_l1All.l0]
    rw [if_neg (by omega), List.drop_eq_nil_of_le (by omega)]
    rfl
  | succ d ih =>
    intro k i hd hk hi
    obtain ⟨k, rfl⟩ := kpred hk
    simp only [spec_l1All.l0]
    rw [if_pos (by omega), if_pos (by omega), if_pos (by omega), rd_nat, in_val, drop_cons l i (by omega)]
    simp only [Option.bind_some, List.all_cons, wsucc i (by omega)]
    rw [ih k (i + 1) (by omega) (by omega) (by omega)]
    by_cases h : 0 ≤ l.getD i 0 ∧ l.getD i 0 ≤ 100
    · rw [if_pos (decide_eq_true h)]
      simp only [okB, decide_eq_true h, Bool.true_and]
    · rw [if_neg (by simpa using h)]
      simp only [okB, decide_eq_false h, Bool.false_and]
theorem weGood_val (l : List Int) (hB : l.length ≤ 1048576) (k : Nat) (hk : l.length < k) : spec_weGood.f k l = some (goodB l) := by
  unfold spec_weGood.f spec_l1All.f goodB
  have h := l1All_l l hB l.length k 0 (by omega) hk (by omega)
  rw [List.drop_zero] at h
  rw [in_val]
  simp only [Option.bind_some]
  by_cases h1 : 1 ≤ l.length ∧ l.length ≤ 20
  · rw [if_pos (decide_eq_true (by omega)), decide_eq_true h1, Bool.true_and]
    have h' : spec_l1All.l0 k 0 100 l (l.length : Int) 0 = some (l.all okB) := h
    rw [h']
    rfl
  · rw [if_neg (by simp; omega), decide_eq_false h1, Bool.false_and]
theorem areBears1_val (n : Int) : impl_AreBears_1.f n = some (!okB n) := by
  unfold impl_AreBears_1.f
  simp only [within_val, Option.bind_some]
  rfl
theorem indexFunc_l (l : List Int) (hB : l.length ≤ 1048576) : ∀ (d k i : Nat), l.length - i = d → d < k → i ≤ l.length →
    ∃ r, slices_IndexFunc_int_int.l0 k l (l.length : Int) (i : Int) = some r ∧ decide (r ≥ 0) = !(l.drop i).all okB := by
  intro d
  induction d with
  | zero =>
    intro k i hd hk hi
    obtain ⟨k, rfl⟩ := kpred hk
    refine ⟨-1, ?_, ?_⟩
    · simp only [slices_IndexFunc_int_int.l0]
      rw [if_neg (by omega)]
    · rw [List.drop_eq_nil_of_le (by omega)]
      rfl
  | succ d ih =>
    intro k i hd hk hi
    obtain ⟨k, rfl⟩ := kpred hk
    rw [drop_cons l i (by omega)]
    by_cases h : okB (l.getD i 0) = true
    · obtain ⟨r, hr, hp⟩ := ih k (i + 1) (by omega) (by omega) (by omega)
      refine ⟨r, ?_, by rw [List.all_cons, h, Bool.true_and]; exact hp⟩
      simp only [slices_IndexFunc_int_int.l0]
      rw [if_pos (by omega), if_pos (by omega), if_pos (by omega), rd_nat, areBears1_val, h]
      simp only [Option.bind_some, Bool.not_true, wsucc i (by omega)]
      exact hr
    · have h' : okB (l.getD i 0) = false := Bool.eq_false_iff.mpr h
      refine ⟨i, ?_, by rw [List.all_cons, h', Bool.false_and]; simp⟩
      simp only [slices_IndexFunc_int_int.l0]
      rw [if_pos (by omega), if_pos (by omega), if_pos (by omega), rd_nat, areBears1_val, h']
      rfl
theorem areBears_val (l : List Int) (hB : l.length ≤ 1048576) (k : Nat) (hk : l.length < k) : impl_AreBears.f k l = some (goodB l) := by
  obtain ⟨r, hr, hp⟩ := indexFunc_l l hB l.length k 0 (by omega) hk (by omega)
  have hr' : slices_IndexFunc_int_int.l0 k l (l.length : Int) 0 = some r := hr
  rw [List.drop_zero] at hp
  unfold impl_AreBears.f slices_ContainsFunc_int_int.f slices_IndexFunc_int_int.f goodB
  rw [within_val, hr']
  simp only [Option.bind_some, hp, Bool.not_not]
  by_cases h1 : 1 ≤ l.length ∧ l.length ≤ 20
  · rw [if_pos (decide_eq_true (by omega)), decide_eq_true h1, Bool.true_and]
  · rw [if_neg (by simp; omega), decide_eq_false h1, Bool.false_and]

theorem Ev.ite_true {α : Type} {g f : Nat → Option α} {r : α} {b : Bool} (h : b = true) (k : Ev g r) : Ev (fun n => if b = true then g n else f n) r := by
  subst h
  simpa using k
theorem Ev.ite_false {α : Type} {g f : Nat → Option α} {r : α} {b : Bool} (h : b = false) (k : Ev f r) : Ev (fun n => if b = true then g n else f n) r := by
  subst h
  simpa using k

theorem weGood_ev (l : List Int) (hB : l.length ≤ 1048576) : Ev (fun k => spec_weGood.f k l) (goodB l) := ⟨l.length + 1, fun k hk => weGood_val l hB k (by omega)⟩
theorem areBears_ev (l : List Int) (hB : l.length ≤ 1048576) : Ev (fun k => impl_AreBears.f k l) (goodB l) := ⟨l.length + 1, fun k hk => areBears_val l hB k (by omega)⟩
theorem okB_bd {x : Int} (h : okB x = true) : 0 ≤ x ∧ x ≤ 100 := by simpa [okB] using h
/-- What bears are. -/
theorem goodB_bd {l : List Int} (h : goodB l = true) : 1 ≤ l.length ∧ l.length ≤ 20 ∧ ∀ x ∈ l, 0 ≤ x ∧ x ≤ 100 := by
  simp only [goodB, Bool.and_eq_true, decide_eq_true_eq, List.all_eq_true] at h
  exact ⟨h.1.1, h.1.2, fun x hx => okB_bd (h.2 x hx)⟩
theorem getD_bd {l : List Int} {a b : Int} (h : ∀ x ∈ l, a ≤ x ∧ x ≤ b) {i : Nat} (hi : i < l.length) : a ≤ l.getD i 0 ∧ l.getD i 0 ≤ b := by
  rw [List.getD_eq_getElem?_getD, List.getElem?_eq_getElem hi]
  exact h _ (List.getElem_mem hi)

theorem toIntS_l (l : List Int) (hB : l.length ≤ 1048576) : ∀ (d k i : Nat) (x : List Int), l.length - i = d → d < k → i ≤ l.length → x.length = l.length → x.take i = l.take i →
    laws_toIntS.l0 k l x (i : Int) = some l := by
  intro d
  induction d with
  | zero =>
    intro k i x hd hk hi hx ht
    obtain ⟨k, rfl⟩ := kpred hk
    have e : i = l.length := by omega
    simp only [laws_toIntS.l0]
    rw [if_neg (by omega)]
    have h1 := ht
    rw [e, List.take_length, ← hx, List.take_length] at h1
    rw [h1]
  | succ d ih =>
    intro k i x hd hk hi hx ht
    obtain ⟨k, rfl⟩ := kpred hk
    simp only [laws_toIntS.l0]
    rw [if_pos (by omega), if_pos (by omega), if_pos (by omega), wsucc i (by omega), Int.toNat_natCast, rd_nat]
    refine ih k (i + 1) _ (by omega) (by omega) (by omega) (by simpa using hx) ?_
    rw [take_set_succ _ _ _ (by omega), take_get_succ _ _ (by omega), ht]
theorem toIntS_val (l : List Int) (hB : l.length ≤ 1048576) (k : Nat) (hk : l.length < k) : laws_toIntS.f k l = some l := by
  unfold laws_toIntS.f
  rw [if_pos (by omega), if_pos (by rw [Int.toNat_natCast]; omega)]
  exact toIntS_l l hB l.length k 0 _ (by omega) hk (by omega) (by simp) (by simp)

theorem toIntS_ev (l : List Int) (hB : l.length ≤ 1048576) : Ev (fun k => laws_toIntS.f k l) l := ⟨l.length + 1, fun k hk => toIntS_val l hB k (by omega)⟩

theorem eqIntS_l (l : List Int) (hB : l.length ≤ 1048576) : ∀ (d k i : Nat), l.length - i = d → d < k → i ≤ l.length → laws_eqIntS.l0 k l l (i : Int) = some true := by
  intro d
  induction d with
  | zero =>
    intro k i hd hk hi
    obtain ⟨k, rfl⟩ := kpred hk
    simp only [laws_eqIntS.l0]
    rw [if_neg (by omega)]
  | succ d ih =>
    intro k i hd hk hi
    obtain ⟨k, rfl⟩ := kpred hk
    simp only [laws_eqIntS.l0]
    rw [if_pos (by omega), if_pos (by omega), if_pos (by omega), if_pos trivial, wsucc i (by omega)]
    exact ih k (i + 1) (by omega) (by omega) (by omega)
theorem eqIntS_val (l : List Int) (hB : l.length ≤ 1048576) (k : Nat) (hk : l.length < k) : laws_eqIntS.f k l l = some true := by
  unfold laws_eqIntS.f
  rw [if_pos rfl]
  exact eqIntS_l l hB l.length k 0 (by omega) hk (by omega)

theorem eqIntS_ev (l : List Int) (hB : l.length ≤ 1048576) : Ev (fun k => laws_eqIntS.f k l l) true := ⟨l.length + 1, fun k hk => eqIntS_val l hB k (by omega)⟩

/-- A text, out of its bytes. -/
def mkb (l : List UInt8) : ByteArray := ⟨l.toArray⟩
theorem mkb_app (a b : List UInt8) : mkb a ++ mkb b = mkb (a ++ b) := by
  apply ByteArray.ext
  rw [ByteArray.data_append]
  simp [mkb]
theorem mkb_size (a : List UInt8) : (mkb a).size = a.length := by simp [mkb, ByteArray.size]
theorem mkb_list (a : List UInt8) : (mkb a).data.toList = a := by simp [mkb]
/-- The decimal numeral. -/
def dd (u : Nat) : List UInt8 := Lib.decDigits u
theorem dd_small {u : Nat} (h : u < 10) : dd u = [UInt8.ofNat (48 + u)] := by
  unfold dd
  rw [Lib.decDigits, dif_pos h]
theorem dd_big {u : Nat} (h : ¬ u < 10) : dd u = dd (u / 10) ++ [UInt8.ofNat (48 + u % 10)] := by
  unfold dd
  rw [Lib.decDigits, dif_neg h]
theorem dd_len : ∀ (e u : Nat), u < 10 ^ e → 1 ≤ e → (dd u).length ≤ e := by
  intro e
  induction e with
  | zero => intro u _ h; omega
  | succ e ih =>
    intro u hu _
    by_cases h : u < 10
    · rw [dd_small h]
      simp
    · rw [dd_big h, List.length_append]
      have h1 : u / 10 < 10 ^ e := by rw [Nat.pow_succ] at hu; omega
      have h2 : 1 ≤ e := by
        by_cases h0 : e = 0
        · subst h0
          simp at hu
          omega
        · omega
      have := ih (u / 10) h1 h2
      simp only [List.length_cons, List.length_nil]
      omega
theorem dd_len6 {u : Nat} (h : u ≤ 999999) : (dd u).length ≤ 6 := dd_len 6 u (by omega) (by omega)
theorem one_byte (u : Nat) (h : u < 10) : strOfNums [(wrap64 (48 + (u : Int))) % 256] = mkb [UInt8.ofNat (48 + u)] := by
  have e : (wrap64 (48 + (u : Int))) % 256 = ((48 + u : Nat) : Int) := by
    rw [w_id (by omega) (by omega)]
    omega
  rw [e]
  unfold strOfNums
  rw [List.map_cons, List.map_nil, Int.toNat_natCast]
  rfl
theorem num_ev : ∀ (b u : Nat), u ≤ b → u ≤ 999999 → Ev (fun k => spec_l1Num.f k (u : Int)) (mkb (dd u)) := by
  intro b
  induction b with
  | zero =>
    intro u h _
    obtain rfl : u = 0 := by omega
    refine Ev.step (fun k => ?_) (Ev.now _)
    simp only [spec_l1Num.f]
    rw [if_pos (by omega), dd_small (by omega)]
    exact congrArg some (one_byte 0 (by omega))
  | succ b ih =>
    intro u h hu
    by_cases h10 : u < 10
    · refine Ev.step (fun k => ?_) (Ev.now _)
      simp only [spec_l1Num.f]
      rw [if_pos (by omega), dd_small h10]
      exact congrArg some (one_byte u h10)
    · have e1 : wrap64 (Int.tdiv (u : Int) 10) = ((u / 10 : Nat) : Int) := by
        have : Int.tdiv (u : Int) 10 = ((u / 10 : Nat) : Int) := rfl
        rw [this, w_id (by omega) (by omega)]
      have e2 : Int.tmod (u : Int) 10 = ((u % 10 : Nat) : Int) := rfl
      have h1 := ih (u / 10) (by omega) (by omega)
      have hl := dd_len6 (u := u / 10) (by omega)
      refine Ev.step (f := fun k => (spec_l1Num.f k ((u / 10 : Nat) : Int)).bind fun t => if t.size + (mkb [UInt8.ofNat (48 + u % 10)]).size ≤ 9223372036854775807 then some (t ++ mkb [UInt8.ofNat (48 + u % 10)]) else none) (fun k => ?_) (Ev.bind h1 (Ev.congr (fun k => ?_) (Ev.now _)))
      · simp only [spec_l1Num.f]
        rw [if_neg (by omega), e1, e2]
        simp only [Option.bind_some]
        rw [one_byte (u % 10) (by omega)]
      · rw [if_pos (by rw [mkb_size, mkb_size]; simp only [List.length_cons, List.length_nil]; omega), mkb_app, dd_big h10]
theorem itoa_val (u : Nat) (h : u ≤ 999999) : strconv_Itoa_38.f (u : Int) = some (mkb (dd u)) := by
  unfold strconv_Itoa_38.f
  rw [if_pos (by omega)]
  unfold Lib.itoa
  rw [if_neg (by omega)]
  rfl
/-- Numerals, each behind a mark. -/
def tl (s : UInt8) (l : List Int) : List UInt8 := (l.map (fun x => s :: dd x.toNat)).flatten
def jn (s : UInt8) (l : List Int) : List UInt8 :=
  match l with
  | [] => []
  | x :: xs => dd x.toNat ++ tl s xs
theorem tl_len (s : UInt8) : ∀ (l : List Int), (∀ x ∈ l, 0 ≤ x ∧ x ≤ 999999) → (tl s l).length ≤ 7 * l.length := by
  intro l
  induction l with
  | nil => intro _; simp [tl]
  | cons x l ih =>
    intro h
    have h1 := ih (fun y hy => h y (List.mem_cons_of_mem _ hy))
    have h2 := dd_len6 (u := x.toNat) (by have := h x (List.mem_cons_self ..); omega)
    have e : tl s (x :: l) = (s :: dd x.toNat) ++ tl s l := by simp [tl]
    rw [e, List.length_append, List.length_cons, List.length_cons]
    omega
theorem jn_len (s : UInt8) (l : List Int) (h : ∀ x ∈ l, 0 ≤ x ∧ x ≤ 999999) : (jn s l).length ≤ 7 * l.length := by
  cases l with
  | nil => simp [jn]
  | cons x l =>
    have h1 := tl_len s l (fun y hy => h y (List.mem_cons_of_mem _ hy))
    have h2 := dd_len6 (u := x.toNat) (by have := h x (List.mem_cons_self ..); omega)
    simp only [jn, List.length_append, List.length_cons]
    omega
theorem tl_join (s : UInt8) (l : List Int) : Lib.joinTail [s] ((l.map (fun x => mkb (dd x.toNat))).map (·.data.toList)) = tl s l := by
  unfold Lib.joinTail tl
  rw [List.map_map, List.map_map]
  congr 1
theorem jn_join (s : UInt8) (l : List Int) : Lib.join ((l.map (fun x => mkb (dd x.toNat))).map (·.data.toList)) [s] = jn s l := by
  cases l with
  | nil => rfl
  | cons x l =>
    have := tl_join s l
    simp only [List.map_cons] at this ⊢
    rw [Lib.join_cons, this, mkb_list, jn]
theorem joined_l (s : UInt8) (l : List Int) (hl : l.length ≤ 1000) (hb : ∀ x ∈ l, 0 ≤ x ∧ x ≤ 999999) : ∀ (d i : Nat), l.length - i = d → i ≤ l.length →
    Ev (fun k => impl_joined.l0 k (mkb [s]) ((l.take i).map (fun x => mkb (dd x.toNat))) l (l.length : Int) (i : Int)) (mkb (jn s l)) := by
  intro d
  induction d with
  | zero =>
    intro i h1 h2
    have e : l.take i = l := List.take_of_length_le (by omega)
    rw [e]
    have hj := jn_len s l hb
    refine Ev.step (fun k => ?_) (Ev.now _)
    simp only [impl_joined.l0]
    rw [if_neg (by omega)]
    unfold strings_Join.f
    rw [mkb_list, jn_join, if_pos (by rw [List.length_map]; omega)]
    rfl
  | succ d ih =>
    intro i h1 h2
    have hi : i < l.length := by omega
    have hx := hb (l.getD i 0) (by rw [List.getD_eq_getElem?_getD, List.getElem?_eq_getElem hi]; exact List.getElem_mem hi)
    obtain ⟨u, hu⟩ : ∃ u : Nat, l.getD i 0 = (u : Int) := ⟨(l.getD i 0).toNat, by omega⟩
    have hu2 : u ≤ 999999 := by omega
    have h3 := ih (i + 1) (by omega) (by omega)
    rw [take_get_succ l i hi, List.map_append, List.map_cons, List.map_nil, hu, Int.toNat_natCast] at h3
    refine Ev.step (fun k => ?_) h3
    simp only [impl_joined.l0]
    rw [if_pos (by omega), if_pos (by omega), if_pos (by omega), rd_nat, hu, itoa_val u hu2]
    simp only [Option.bind_some]
    rw [if_pos (by rw [List.length_map, List.length_take]; omega), wsucc i (by omega)]
theorem joined_ev (s : UInt8) (l : List Int) (hl : l.length ≤ 1000) (hb : ∀ x ∈ l, 0 ≤ x ∧ x ≤ 999999) : Ev (fun k => impl_joined.f k l (mkb [s])) (mkb (jn s l)) :=
  joined_l s l hl hb _ 0 rfl (Nat.zero_le _)

theorem wt_l (l : List Int) (hl : l.length ≤ 1000) (hb : ∀ x ∈ l, 0 ≤ x ∧ x ≤ 999999) : ∀ (d i : Nat) (acc : List UInt8), l.length - i = d → i ≤ l.length → 1 ≤ i → acc.length ≤ 7 * i →
    Ev (fun k => spec_weText.l0 k (mkb acc) l (l.length : Int) (i : Int)) (mkb (acc ++ tl 45 (l.drop i))) := by
  intro d
  induction d with
  | zero =>
    intro i acc h1 h2 h3 h4
    rw [List.drop_eq_nil_of_le (by omega)]
    refine Ev.step (fun k => ?_) (Ev.now _)
    simp only [spec_weText.l0]
    rw [if_neg (by omega)]
    simp [tl]
  | succ d ih =>
    intro i acc h1 h2 h3 h4
    have hi : i < l.length := by omega
    have hx := hb (l.getD i 0) (by rw [List.getD_eq_getElem?_getD, List.getElem?_eq_getElem hi]; exact List.getElem_mem hi)
    obtain ⟨u, hu⟩ : ∃ u : Nat, l.getD i 0 = (u : Int) := ⟨(l.getD i 0).toNat, by omega⟩
    have hu2 : u ≤ 999999 := by omega
    have hn := num_ev u u (Nat.le_refl _) hu2
    have hl6 := dd_len6 hu2
    have hd : l.drop i = (u : Int) :: l.drop (i + 1) := by
      rw [← hu, List.drop_eq_getElem_cons hi, List.getD_eq_getElem?_getD, List.getElem?_eq_getElem hi]
      rfl
    have h5 := ih (i + 1) ((acc ++ [45]) ++ dd u) (by omega) (by omega) (by omega) (by simp only [List.length_append, List.length_cons, List.length_nil]; omega)
    have e : (acc ++ [45]) ++ dd u ++ tl 45 (l.drop (i + 1)) = acc ++ tl 45 (l.drop i) := by
      rw [hd]
      simp [tl]
    rw [e] at h5
    refine Ev.step (f := fun k => if (mkb acc).size + 1 ≤ 9223372036854775807 then ((spec_l1Num.f k (u : Int)).bind fun t => if (mkb acc ++ mkb [45]).size + t.size ≤ 9223372036854775807 then spec_weText.l0 k ((mkb acc ++ mkb [45]) ++ t) l (l.length : Int) ((i + 1 : Nat) : Int) else none) else none) (fun k => ?_) (Ev.congr (fun k => if_pos (by rw [mkb_size]; omega)) (Ev.bind hn (Ev.congr (fun k => ?_) h5)))
    · simp only [spec_weText.l0]
      rw [if_pos (by omega), if_pos (by omega), if_pos (by omega), if_pos (by omega), rd_nat, hu, wsucc i (by omega)]
      rfl
    · rw [mkb_app, mkb_app, mkb_size, mkb_size, if_pos (by simp only [List.length_append, List.length_cons, List.length_nil]; omega)]
theorem wt_ev (l : List Int) (hl : l.length ≤ 1000) (hb : ∀ x ∈ l, 0 ≤ x ∧ x ≤ 999999) : Ev (fun k => spec_weText.f k l) (mkb (jn 45 l)) := by
  unfold spec_weText.f
  cases l with
  | nil =>
    refine Ev.step (fun k => ?_) (Ev.now _)
    simp only [spec_weText.l0]
    rw [if_neg (by simp)]
    rfl
  | cons x l =>
    have hx := hb x (List.mem_cons_self ..)
    obtain ⟨u, rfl⟩ : ∃ u : Nat, x = (u : Int) := ⟨x.toNat, by omega⟩
    have hu2 : u ≤ 999999 := by omega
    have hn := num_ev u u (Nat.le_refl _) hu2
    have hl6 := dd_len6 hu2
    have h5 := wt_l ((u : Int) :: l) hl hb _ 1 (dd u) rfl (by simp) (Nat.le_refl _) (by omega)
    have e : dd u ++ tl 45 (((u : Int) :: l).drop 1) = jn 45 ((u : Int) :: l) := rfl
    rw [e] at h5
    refine Ev.step (f := fun k => (spec_l1Num.f k (u : Int)).bind fun t => if (mkb []).size + t.size ≤ 9223372036854775807 then spec_weText.l0 k (mkb [] ++ t) ((u : Int) :: l) ((((u : Int) :: l).length : Nat) : Int) ((1 : Nat) : Int) else none) (fun k => ?_) (Ev.bind hn (Ev.congr (fun k => ?_) h5))
    · simp only [spec_weText.l0]
      rw [if_pos (by simp only [List.length_cons]; omega), if_pos (by omega), if_pos (by simp only [List.length_cons]; omega), if_neg (by omega), show wrap64 (0 + 1) = ((1 : Nat) : Int) from (by unfold wrap64; omega)]
      rfl
    · rw [mkb_app, mkb_size, mkb_size, if_pos (by simp only [List.length_nil]; omega), List.nil_append]

/- What is proved at the end: ∀ (l0 : List Int), l0.length ≤ maxLen → (∀ x ∈ l0, (Lit.int .i64 x).wf = true) → ∃ k, laws_FnExactBearsText.f k l0 = some true -/
theorem FnExactBearsText_agree (l : List Int) (hl : l.length ≤ 1048576) : ∃ w0 w1, Ev (fun k => spec_BearsText.f k l) (w0, w1) ∧ Ev (fun k => impl_BearsText.f k l) (w0, w1) := by
  unfold spec_BearsText.f impl_BearsText.f
  by_cases hg : goodB l = true
  · obtain ⟨h1, h2, h3⟩ := goodB_bd hg
    have hb : ∀ x ∈ l, 0 ≤ x ∧ x ≤ 999999 := fun x hx => by have := h3 x hx; omega
    exact ⟨mkb (jn 45 l), true, Ev.bind (weGood_ev l hl) (Ev.ite_true hg (Ev.bind (wt_ev l (by omega) hb) (Ev.now _))), Ev.bind (areBears_ev l hl) (Ev.ite_true hg (Ev.bind (joined_ev 45 l (by omega) hb) (Ev.now _)))⟩
  · have hg' : goodB l = false := Bool.eq_false_iff.mpr hg
    exact ⟨_, false, Ev.bind (weGood_ev l hl) (Ev.ite_false hg' (Ev.now _)), Ev.bind (areBears_ev l hl) (Ev.ite_false hg' (Ev.now _))⟩
theorem FnExactBearsText : ∀ (l0 : List Int), l0.length ≤ maxLen → (∀ x ∈ l0, (Lit.int .i64 x).wf = true) → ∃ k, laws_FnExactBearsText.f k l0 = some true := by
  intro l0 hm0 hw0
  by_cases hB0 : (l0.length : Int) > 1048576
  · exact ⟨1, by unfold laws_FnExactBearsText.f; rw [if_pos hB0]⟩
  have hl0 : l0.length ≤ 1048576 := by omega
  obtain ⟨w0, w1, hS, hI⟩ := FnExactBearsText_agree l0 hl0
  obtain ⟨K0, k0⟩ := (show Ev (fun k => spec_BearsText.f k l0) (w0, w1) from hS)
  obtain ⟨K1, k1⟩ := (show Ev (fun k => impl_BearsText.f k l0) (w0, w1) from hI)
  obtain ⟨K2, k2⟩ := (show Ev (fun k => laws_toIntS.f k l0) l0 from toIntS_ev _ hl0)
  obtain ⟨K3, k3⟩ := (show Ev (fun k => laws_eqIntS.f k l0 l0) true from eqIntS_ev _ hl0)
  obtain ⟨K, hK⟩ : ∃ K, K = K0 + K1 + K2 + K3 := ⟨_, rfl⟩
  have e0 : ∀ j, spec_BearsText.f (K + j) l0 = some (w0, w1) := fun j => k0 (K + j) (by omega)
  have e1 : ∀ j, impl_BearsText.f (K + j) l0 = some (w0, w1) := fun j => k1 (K + j) (by omega)
  have e2 : ∀ j, laws_toIntS.f (K + j) l0 = some l0 := fun j => k2 (K + j) (by omega)
  have e3 : ∀ j, laws_eqIntS.f (K + j) l0 l0 = some true := fun j => k3 (K + j) (by omega)
  clear k0 k1 k2 k3 hK
  refine ⟨K + 16, ?_⟩
  simp [laws_FnExactBearsText.f, laws_FnExactBearsText.j0, e0, e1, e2, e3, hB0]

end Go.Proofs.YtmonnbbihmpedaaDoor.Pure
