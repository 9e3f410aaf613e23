/- The pure statement of FnExactParseBears: the printed function returns true for all arguments within their kinds; no other condition. -/
import Derived.Test.YtmonnbbihmpedaaDoorPFnExactParseBearsx
namespace Go.Proofs.YtmonnbbihmpedaaDoor.Pure
open Go.RowKit Go.Proofs.YtmonnbbihmpedaaDoor.PFnExactParseBears Go.Proofs.YtmonnbbihmpedaaDoorW.PrintWords Go.Proofs.YtmonnbbihmpedaaDoorW.PrintLast Go.Proofs.YtmonnbbihmpedaaDoorW.PrintMore
set_option linter.unusedVariables false
set_option linter.unusedSimpArgs false
theorem in_val (a b c : Int) : spec_l1In.f a b c = some (decide (b ≤ a ∧ a ≤ c)) := by
  unfold spec_l1In.f
  by_cases h : b ≤ a <;> simp [h]
theorem within_val (a b c : Int) : impl_within.f a b c = some (decide (b ≤ a ∧ a ≤ c)) := by
  unfold impl_within.f
  by_cases h : b ≤ a <;> simp [h]

theorem wsucc (i : Nat) (h : i < 4611686018427387904) : wrap64 ((i : Int) + 1) = ((i + 1 : Nat) : Int) := by
  unfold wrap64
  omega
theorem kpred {d k : Nat} (h : d < k) : ∃ m, k = m + 1 := ⟨k - 1, by omega⟩
theorem rd_nat (l : List Int) (i : Nat) : rd l (i : Int) = l.getD i 0 := by simp [rd]
theorem take_set_succ (x : List Int) (i : Nat) (v : Int) (h : i < x.length) : (x.set i v).take (i + 1) = x.take i ++ [v] := by
  rw [List.take_add_one, List.take_set_of_le (Nat.le_refl i), List.getElem?_set_self h]
  rfl
theorem take_get_succ (x : List Int) (i : Nat) (h : i < x.length) : x.take (i + 1) = x.take i ++ [x.getD i 0] := by
  rw [List.take_add_one, List.getElem?_eq_getElem h, List.getD_eq_getElem?_getD, List.getElem?_eq_getElem h]
  rfl
theorem w_id {x : Int} (h0 : -4611686018427387904 ≤ x) (h1 : x ≤ 4611686018427387904) : wrap64 x = x := by
  unfold wrap64
  omega
theorem w_sub (k r : Nat) (h : r ≤ k) (hk : k ≤ 1000000000) : wrap64 ((k : Int) - (r : Int)) = ((k - r : Nat) : Int) := by
  rw [w_id (by omega) (by omega)]
  omega
theorem w_add (a b : Nat) (h : a ≤ 1000000000) (hb : b ≤ 1000000000) : wrap64 ((a : Int) + (b : Int)) = ((a + b : Nat) : Int) := by
  rw [w_id (by omega) (by omega)]
  omega
theorem w_pred (k : Nat) (h : 1 ≤ k) (hk : k ≤ 1000000000) : wrap64 ((k : Int) - 1) = ((k - 1 : Nat) : Int) := by
  rw [w_id (by omega) (by omega)]
  omega

def okB (n : Int) : Bool := decide (0 ≤ n ∧ n ≤ 100)
/-- The numbers are bears. -/
def goodB (l : List Int) : Bool := decide (1 ≤ l.length ∧ l.length ≤ 20) && l.all okB
theorem drop_cons (l : List Int) (i : Nat) (h : i < l.length) : l.drop i = l.getD i 0 :: l.drop (i + 1) := by
  rw [List.drop_eq_getElem_cons h, List.getD_eq_getElem?_getD, List.getElem?_eq_getElem h]
  rfl
theorem l1All_l (l : List Int) (hB : l.length ≤ 1048576) : ∀ (d k i : Nat), l.length - i = d → d < k → i ≤ l.length →
    spec_l1All.l0 k 0 100 l (l.length : Int) (i : Int) = some ((l.drop i).all okB) := by
  intro d
  induction d with
  | zero =>
    intro k i hd hk hi
    obtain ⟨k, rfl⟩ := kpred hk
    simp only [spec_l1All.l0]
    rw [if_neg (by omega), List.drop_eq_nil_of_le (by omega)]
    rfl
  | succ d ih =>
    intro k i hd hk hi
    obtain ⟨k, rfl⟩ := kpred hk
    simp only [spec_l1All.l0]
    rw [if_pos (by omega), if_pos (by omega), if_pos (by omega), rd_nat, in_val, drop_cons l i (by omega)]
    simp only [Option.bind_some, List.all_cons, wsucc i (by omega)]
    rw [ih k (i + 1) (by omega) (by omega) (by omega)]
    by_cases h : 0 ≤ l.getD i 0 ∧ l.getD i 0 ≤ 100
    · rw [if_pos (decide_eq_true h)]
      simp only [okB, decide_eq_true h, Bool.true_and]
    · rw [if_neg (by simpa using h)]
      simp only [okB, decide_eq_false h, Bool.false_and]
theorem weGood_val (l : List Int) (hB : l.length ≤ 1048576) (k : Nat) (hk : l.length < k) : spec_weGood.f k l = some (goodB l) := by
  unfold spec_weGood.f spec_l1All.f goodB
  have h := l1All_l l hB l.length k 0 (by omega) hk (by omega)
  rw [List.drop_zero] at h
  rw [in_val]
  simp only [Option.bind_some]
  by_cases h1 : 1 ≤ l.length ∧ l.length ≤ 20
  · rw [if_pos (decide_eq_true (by omega)), decide_eq_true h1, Bool.true_and]
    have h' : spec_l1All.l0 k 0 100 l (l.length : Int) 0 = some (l.all okB) := h
    rw [h']
    rfl
  · rw [if_neg (by simp; omega), decide_eq_false h1, Bool.false_and]
theorem areBears1_val (n : Int) : impl_AreBears_1.f n = some (!okB n) := by
  unfold impl_AreBears_1.f
  simp only [within_val, Option.bind_some]
  rfl
theorem indexFunc_l (l : List Int) (hB : l.length ≤ 1048576) : ∀ (d k i : Nat), l.length - i = d → d < k → i ≤ l.length →
    ∃ r, slices_IndexFunc_int_int.l0 k l (l.length : Int) (i : Int) = some r ∧ decide (r ≥ 0) = !(l.drop i).all okB := by
  intro d
  induction d with
  | zero =>
    intro k i hd hk hi
    obtain ⟨k, rfl⟩ := kpred hk
    refine ⟨-1, ?_, ?_⟩
    · simp only [slices_IndexFunc_int_int.l0]
      rw [if_neg (by omega)]
    · rw [List.drop_eq_nil_of_le (by omega)]
      rfl
  | succ d ih =>
    intro k i hd hk hi
    obtain ⟨k, rfl⟩ := kpred hk
    rw [drop_cons l i (by omega)]
    by_cases h : okB (l.getD i 0) = true
    · obtain ⟨r, hr, hp⟩ := ih k (i + 1) (by omega) (by omega) (by omega)
      refine ⟨r, ?_, by rw [List.all_cons, h, Bool.true_and]; exact hp⟩
      simp only [slices_IndexFunc_int_int.l0]
      rw [if_pos (by omega), if_pos (by omega), if_pos (by omega), rd_nat, areBears1_val, h]
      simp only [Option.bind_some, Bool.not_true, wsucc i (by omega)]
      exact hr
    · have h' : okB (l.getD i 0) = false := Bool.eq_false_iff.mpr h
      refine ⟨i, ?_, by rw [List.all_cons, h', Bool.false_and]; simp⟩
      simp only [slices_IndexFunc_int_int.l0]
      rw [if_pos (by omega), if_pos (by omega), if_pos (by omega), rd_nat, areBears1_val, h']
      rfl
theorem areBears_val (l : List Int) (hB : l.length ≤ 1048576) (k : Nat) (hk : l.length < k) : impl_AreBears.f k l = some (goodB l) := by
  obtain ⟨r, hr, hp⟩ := indexFunc_l l hB l.length k 0 (by omega) hk (by omega)
  have hr' : slices_IndexFunc_int_int.l0 k l (l.length : Int) 0 = some r := hr
  rw [List.drop_zero] at hp
  unfold impl_AreBears.f slices_ContainsFunc_int_int.f slices_IndexFunc_int_int.f goodB
  rw [within_val, hr']
  simp only [Option.bind_some, hp, Bool.not_not]
  by_cases h1 : 1 ≤ l.length ∧ l.length ≤ 20
  · rw [if_pos (decide_eq_true (by omega)), decide_eq_true h1, Bool.true_and]
  · rw [if_neg (by simp; omega), decide_eq_false h1, Bool.false_and]

theorem Ev.ite_true {α : Type} {g f : Nat → Option α} {r : α} {b : Bool} (h : b = true) (k : Ev g r) : Ev (fun n => if b = true then g n else f n) r := by
  subst h
  simpa using k
theorem Ev.ite_false {α : Type} {g f : Nat → Option α} {r : α} {b : Bool} (h : b = false) (k : Ev f r) : Ev (fun n => if b = true then g n else f n) r := by
  subst h
  simpa using k

theorem weGood_ev (l : List Int) (hB : l.length ≤ 1048576) : Ev (fun k => spec_weGood.f k l) (goodB l) := ⟨l.length + 1, fun k hk => weGood_val l hB k (by omega)⟩
theorem areBears_ev (l : List Int) (hB : l.length ≤ 1048576) : Ev (fun k => impl_AreBears.f k l) (goodB l) := ⟨l.length + 1, fun k hk => areBears_val l hB k (by omega)⟩
theorem okB_bd {x : Int} (h : okB x = true) : 0 ≤ x ∧ x ≤ 100 := by simpa [okB] using h
/-- What bears are. -/
theorem goodB_bd {l : List Int} (h : goodB l = true) : 1 ≤ l.length ∧ l.length ≤ 20 ∧ ∀ x ∈ l, 0 ≤ x ∧ x ≤ 100 := by
  simp only [goodB, Bool.and_eq_true, decide_eq_true_eq, List.all_eq_true] at h
  exact ⟨h.1.1, h.1.2, fun x hx => okB_bd (h.2 x hx)⟩
theorem getD_bd {l : List Int} {a b : Int} (h : ∀ x ∈ l, a ≤ x ∧ x ≤ b) {i : Nat} (hi : i < l.length) : a ≤ l.getD i 0 ∧ l.getD i 0 ≤ b := by
  rw [List.getD_eq_getElem?_getD, List.getElem?_eq_getElem hi]
  exact h _ (List.getElem_mem hi)

theorem eqIntS_l (l : List Int) (hB : l.length ≤ 1048576) : ∀ (d k i : Nat), l.length - i = d → d < k → i ≤ l.length → laws_eqIntS.l0 k l l (i : Int) = some true := by
  intro d
  induction d with
  | zero =>
    intro k i hd hk hi
    obtain ⟨k, rfl⟩ := kpred hk
    simp only [laws_eqIntS.l0]
    rw [if_neg (by omega)]
  | succ d ih =>
    intro k i hd hk hi
    obtain ⟨k, rfl⟩ := kpred hk
    simp only [laws_eqIntS.l0]
    rw [if_pos (by omega), if_pos (by omega), if_pos (by omega), if_pos trivial, wsucc i (by omega)]
    exact ih k (i + 1) (by omega) (by omega) (by omega)
theorem eqIntS_val (l : List Int) (hB : l.length ≤ 1048576) (k : Nat) (hk : l.length < k) : laws_eqIntS.f k l l = some true := by
  unfold laws_eqIntS.f
  rw [if_pos rfl]
  exact eqIntS_l l hB l.length k 0 (by omega) hk (by omega)

theorem eqIntS_ev (l : List Int) (hB : l.length ≤ 1048576) : Ev (fun k => laws_eqIntS.f k l l) true := ⟨l.length + 1, fun k hk => eqIntS_val l hB k (by omega)⟩

def marked (n : Nat) (m : Int) : List Int := (List.range n).map fun (j : Nat) => m + (j : Int)
theorem marked_length (n : Nat) (m : Int) : (marked n m).length = n := by simp [marked]
theorem marked_succ (n : Nat) (m : Int) : marked (n + 1) m = m :: marked n (m + 1) := by
  simp only [marked, List.range_succ_eq_map, List.map_cons, List.map_map]
  congr 1
  · omega
  · apply List.map_congr_left
    intro j _
    simp only [Function.comp]
    omega
theorem marked_get (n : Nat) (m : Int) (j : Nat) (h : j < n) : (marked n m).getD j 0 = m + (j : Int) := by
  simp [marked, List.getD_eq_getElem?_getD, h]
theorem markIntS_l : ∀ (d k i : Nat) (l : List Int) (m : Int), l.length ≤ 1048576 → l.length - i = d → d < k → i ≤ l.length → 0 ≤ m → m + (d : Int) ≤ 1000000000 →
    laws_markIntS.l0 k l m (i : Int) = some (m + (d : Int), l.take i ++ marked d m) := by
  intro d
  induction d with
  | zero =>
    intro k i l m hB hd hk hi _ _
    obtain ⟨k, rfl⟩ := kpred hk
    simp only [laws_markIntS.l0]
    rw [if_neg (by omega)]
    have e : i = l.length := by omega
    rw [e, List.take_length]
    simp [marked]
  | succ d ih =>
    intro k i l m hB hd hk hi h0 h1
    obtain ⟨k, rfl⟩ := kpred hk
    simp only [laws_markIntS.l0]
    have hw : wrap64 (m + 1) = m + 1 := by
      unfold wrap64
      omega
    rw [if_pos (by omega), if_pos (by omega), hw, wsucc i (by omega), Int.toNat_natCast]
    rw [ih k (i + 1) (l.set i m) (m + 1) (by simpa using hB) (by rw [List.length_set]; omega) (by omega) (by rw [List.length_set]; omega) (by omega) (by omega)]
    rw [take_set_succ _ _ _ (by omega), marked_succ, List.append_assoc]
    congr 2
    omega
theorem markIntS_val (l : List Int) (hB : l.length ≤ 1048576) (m : Int) (h0 : 0 ≤ m) (h1 : m ≤ 900000000) (k : Nat) (hk : l.length < k) :
    laws_markIntS.f k l m = some (m + (l.length : Int), marked l.length m) := by
  unfold laws_markIntS.f
  have := markIntS_l l.length k 0 l m hB (by omega) hk (by omega) h0 (by omega)
  simpa using this
theorem heldIntS_l : ∀ (d k i : Nat) (l : List Int) (m : Int), l.length ≤ 1048576 → l.length - i = d → d < k → i ≤ l.length → 0 ≤ m → m + (d : Int) ≤ 1000000000 → (∀ j, j < d → l.getD (i + j) 0 = m + (j : Int)) →
    laws_heldIntS.l0 k l m (i : Int) = some (m + (d : Int)) := by
  intro d
  induction d with
  | zero =>
    intro k i l m hB hd hk hi _ _ _
    obtain ⟨k, rfl⟩ := kpred hk
    simp only [laws_heldIntS.l0]
    rw [if_neg (by omega)]
    simp
  | succ d ih =>
    intro k i l m hB hd hk hi h0 h1 hj
    obtain ⟨k, rfl⟩ := kpred hk
    simp only [laws_heldIntS.l0]
    have hw : wrap64 (m + 1) = m + 1 := by
      unfold wrap64
      omega
    have h00 := hj 0 (by omega)
    rw [if_pos (by omega), if_pos (by omega), rd_nat, if_pos (by simpa using h00), hw, wsucc i (by omega)]
    rw [ih k (i + 1) l (m + 1) hB (by omega) (by omega) (by omega) (by omega) (by omega) (fun j h => by
      have := hj (j + 1) (by omega)
      rw [show i + 1 + j = i + (j + 1) by omega, this]
      omega)]
    congr 1
    omega
theorem heldIntS_val (n : Nat) (hB : n ≤ 1048576) (m : Int) (h0 : 0 ≤ m) (h1 : m ≤ 900000000) (k : Nat) (hk : n < k) :
    laws_heldIntS.f k (marked n m) m = some (m + (n : Int)) := by
  unfold laws_heldIntS.f
  exact heldIntS_l n k 0 (marked n m) m (by rw [marked_length]; exact hB) (by rw [marked_length]; omega) hk (by omega) h0 (by omega) (fun j h => by rw [Nat.zero_add]; exact marked_get n m j h)

theorem markIntS_ev (l : List Int) (hB : l.length ≤ 1048576) (m : Int) (h0 : 0 ≤ m) (h1 : m ≤ 900000000) : Ev (fun k => laws_markIntS.f k l m) (m + (l.length : Int), marked l.length m) :=
  ⟨l.length + 1, fun k hk => markIntS_val l hB m h0 h1 k (by omega)⟩
theorem heldIntS_ev (n : Nat) (hB : n ≤ 1048576) (m : Int) (h0 : 0 ≤ m) (h1 : m ≤ 900000000) : Ev (fun k => laws_heldIntS.f k (marked n m) m) (m + (n : Int)) :=
  ⟨n + 1, fun k hk => heldIntS_val n hB m h0 h1 k (by omega)⟩
theorem markIntS_nil : Ev (fun k => laws_markIntS.f k [] 1) (1, []) := by simpa [marked] using markIntS_ev [] (by simp) 1 (by omega) (by omega)
theorem heldIntS_nil : Ev (fun k => laws_heldIntS.f k [] 1) 1 := by simpa [marked] using heldIntS_ev 0 (by omega) 1 (by omega) (by omega)

/-- The pieces between marks. -/
def sp (b : UInt8) : List UInt8 → List (List UInt8)
  | [] => [[]]
  | c :: cs => if c = b then [] :: sp b cs else match sp b cs with | [] => [[c]] | w :: ws => (c :: w) :: ws
theorem sp_ne (b : UInt8) : ∀ l, ∃ w ws, sp b l = w :: ws := by
  intro l
  induction l with
  | nil => exact ⟨[], [], rfl⟩
  | cons c l ih =>
    obtain ⟨w, ws, e⟩ := ih
    simp only [sp]
    by_cases h : c = b
    · rw [if_pos h]
      exact ⟨_, _, rfl⟩
    · rw [if_neg h, e]
      exact ⟨_, _, rfl⟩
theorem sp_miss (b : UInt8) : ∀ u : List UInt8, b ∉ u → sp b u = [u] := by
  intro u
  induction u with
  | nil => intro _; rfl
  | cons c u ih =>
    intro h
    simp only [sp]
    rw [if_neg (fun e : c = b => h (by rw [e]; exact List.mem_cons_self ..)), ih (fun hm => h (List.mem_cons_of_mem _ hm))]
theorem sp_hit (b : UInt8) (v : List UInt8) : ∀ u : List UInt8, b ∉ u → sp b (u ++ b :: v) = u :: sp b v := by
  intro u
  induction u with
  | nil => intro _; simp [sp]
  | cons c u ih =>
    intro h
    rw [List.cons_append]
    simp only [sp]
    rw [if_neg (fun e : c = b => h (by rw [e]; exact List.mem_cons_self ..)), ih (fun hm => h (List.mem_cons_of_mem _ hm))]
/-- The pieces put together again. -/
def jb (b : UInt8) : List (List UInt8) → List UInt8
  | [] => []
  | w :: ws => w ++ (ws.map (b :: ·)).flatten
theorem jb_sp (b : UInt8) : ∀ l, jb b (sp b l) = l := by
  intro l
  induction l with
  | nil => rfl
  | cons c l ih =>
    obtain ⟨w, ws, e⟩ := sp_ne b l
    rw [e] at ih
    simp only [sp]
    by_cases h : c = b
    · rw [if_pos h, e]
      subst h
      simp only [jb, List.map_cons, List.flatten_cons, List.nil_append] at ih ⊢
      rw [List.cons_append, ih]
    · rw [if_neg h, e]
      simp only [jb] at ih ⊢
      rw [List.cons_append, ih]
theorem sp_mem (b : UInt8) : ∀ (l w : List UInt8), w ∈ sp b l → ∀ x ∈ w, x ∈ l := by
  intro l
  induction l with
  | nil => intro w hw x hx; simp only [sp, List.mem_singleton] at hw; subst hw; exact hx
  | cons c l ih =>
    intro w hw x hx
    obtain ⟨w0, ws, e⟩ := sp_ne b l
    simp only [sp] at hw
    by_cases h : c = b
    · rw [if_pos h] at hw
      rcases List.mem_cons.mp hw with rfl | hw
      · simp at hx
      · exact List.mem_cons_of_mem _ (ih w hw x hx)
    · rw [if_neg h, e] at hw
      rcases List.mem_cons.mp hw with rfl | hw
      · rcases List.mem_cons.mp hx with rfl | hx
        · exact List.mem_cons_self ..
        · exact List.mem_cons_of_mem _ (ih w0 (e ▸ List.mem_cons_self ..) x hx)
      · exact List.mem_cons_of_mem _ (ih w (e ▸ List.mem_cons_of_mem _ hw) x hx)
theorem sp_in (b y : UInt8) (hy : y ≠ b) : ∀ (l : List UInt8), y ∈ l → ∃ w ∈ sp b l, y ∈ w := by
  intro l
  induction l with
  | nil => intro h; simp at h
  | cons c l ih =>
    intro h
    obtain ⟨w0, ws, e⟩ := sp_ne b l
    simp only [sp]
    by_cases hc : c = b
    · rw [if_pos hc]
      rcases List.mem_cons.mp h with rfl | h
      · exact absurd hc hy
      · obtain ⟨w, hw, hx⟩ := ih h
        exact ⟨w, List.mem_cons_of_mem _ hw, hx⟩
    · rw [if_neg hc, e]
      rcases List.mem_cons.mp h with rfl | h
      · exact ⟨_, List.mem_cons_self .., List.mem_cons_self ..⟩
      · obtain ⟨w, hw, hx⟩ := ih h
        rw [e] at hw
        rcases List.mem_cons.mp hw with rfl | hw
        · exact ⟨_, List.mem_cons_self .., List.mem_cons_of_mem _ hx⟩
        · exact ⟨w, List.mem_cons_of_mem _ hw, hx⟩
theorem sp_len (b : UInt8) : ∀ (l : List UInt8), (sp b l).length ≤ l.length + 1 := by
  intro l
  induction l with
  | nil => simp [sp]
  | cons c l ih =>
    obtain ⟨w0, ws, e⟩ := sp_ne b l
    simp only [sp]
    by_cases hc : c = b
    · rw [if_pos hc]
      simp only [List.length_cons]
      omega
    · rw [if_neg hc, e]
      rw [e] at ih
      simp only [List.length_cons] at ih ⊢
      omega
theorem sp_wlen (b : UInt8) : ∀ (l w : List UInt8), w ∈ sp b l → w.length ≤ l.length := by
  intro l
  induction l with
  | nil => intro w hw; simp only [sp, List.mem_singleton] at hw; subst hw; exact Nat.le_refl _
  | cons c l ih =>
    intro w hw
    obtain ⟨w0, ws, e⟩ := sp_ne b l
    simp only [sp] at hw
    by_cases h : c = b
    · rw [if_pos h] at hw
      rcases List.mem_cons.mp hw with rfl | hw
      · simp
      · have := ih w hw
        simp only [List.length_cons]
        omega
    · rw [if_neg h, e] at hw
      rcases List.mem_cons.mp hw with rfl | hw
      · have := ih w0 (e ▸ List.mem_cons_self ..)
        simp only [List.length_cons]
        omega
      · have := ih w (e ▸ List.mem_cons_of_mem _ hw)
        simp only [List.length_cons]
        omega
theorem ix (b : UInt8) : ∀ l : List UInt8, (Lib.index l [b] = -1 ∧ b ∉ l) ∨ ∃ u v, l = u ++ b :: v ∧ b ∉ u ∧ Lib.index l [b] = (u.length : Int) := by
  intro l
  induction l with
  | nil => exact .inl ⟨by simp [Lib.index], by simp⟩
  | cons c l ih =>
    by_cases h : b = c
    · subst h
      exact .inr ⟨[], l, rfl, by simp, by simp [Lib.index, List.isPrefixOf]⟩
    · have hp : ([b] : List UInt8).isPrefixOf (c :: l) = false := by
        simp [List.isPrefixOf, h]
      rcases ih with ⟨h1, h2⟩ | ⟨u, v, h1, h2, h3⟩
      · refine .inl ⟨?_, by simp [h, h2]⟩
        simp only [Lib.index]
        rw [hp, h1]
        rfl
      · refine .inr ⟨c :: u, v, by rw [h1]; rfl, by simp [h, h2], ?_⟩
        simp only [Lib.index]
        rw [hp, h3]
        have : ((u.length : Int) == -1) = false := by rw [beq_eq_false_iff_ne]; omega
        rw [this]
        simp
theorem split_sp (b : UInt8) : ∀ (m : Nat) (l : List UInt8), l.length ≤ m → Lib.splitK [b] 0 (Lib.count l [b]) l = sp b l := by
  intro m
  induction m with
  | zero =>
    intro l hl
    have : l = [] := List.length_eq_zero_iff.mp (by omega)
    subst this
    rcases ix b [] with ⟨h1, h2⟩ | ⟨u, v, h1, _, _⟩
    · rw [Lib.count_miss h1]
      rfl
    · simp at h1
  | succ m ih =>
    intro l hl
    rcases ix b l with ⟨h1, h2⟩ | ⟨u, v, h1, h2, h3⟩
    · rw [Lib.count_miss h1, sp_miss b l h2]
      rfl
    · have hv : v.length ≤ m := by
        rw [h1] at hl
        simp only [List.length_append, List.length_cons] at hl
        omega
      rw [Lib.count_hit (by simp) h3, Nat.add_comm]
      simp only [Lib.splitK]
      have hne : ((Lib.index l [b]) == -1) = false := by rw [h3, beq_eq_false_iff_ne]; omega
      rw [hne, h3]
      have e1 : l.drop (u.length + 1) = v := by
        rw [h1, List.drop_append]
        simp
      have e2 : l.take (u.length + 0) = u := by
        rw [h1]
        simp
      simp only [Bool.false_eq_true, if_false, Int.toNat_natCast, List.length_cons, List.length_nil, Nat.zero_add]
      rw [e1, e2, ih v hv, h1, sp_hit b v u h2]
theorem cut_miss (b : UInt8) (l : List UInt8) (h : b ∉ l) : Lib.cut l [b] = (l, [], false) := by
  rcases ix b l with ⟨h1, _⟩ | ⟨u, v, h1, _, _⟩
  · unfold Lib.cut
    rw [h1, if_neg (by decide)]
  · rw [h1] at h
    exact absurd (List.mem_append_right _ (List.mem_cons_self ..)) h
theorem cut_hit (b : UInt8) (u v : List UInt8) (h : b ∉ u) : Lib.cut (u ++ b :: v) [b] = (u, v, true) := by
  have key : Lib.index (u ++ b :: v) [b] = (u.length : Int) := by
    rcases ix b (u ++ b :: v) with ⟨_, h2⟩ | ⟨u', v', h1, h2, h3⟩
    · exact absurd (List.mem_append_right _ (List.mem_cons_self ..)) h2
    · have : u = u' := by
        have e1 := sp_hit b v u h
        rw [h1, sp_hit b v' u' h2] at e1
        exact (List.cons.inj e1).1.symm
      rw [h3, this]
  unfold Lib.cut
  rw [key, if_pos (by omega)]
  simp [List.drop_append]
theorem first_or (b : UInt8) (l : List UInt8) : b ∉ l ∨ ∃ u v, l = u ++ b :: v ∧ b ∉ u := by
  rcases ix b l with ⟨_, h⟩ | ⟨u, v, h, h2, _⟩
  · exact .inl h
  · exact .inr ⟨u, v, h, h2⟩

/-- A text, out of its bytes. -/
def mkb (l : List UInt8) : ByteArray := ⟨l.toArray⟩
theorem mkb_app (a b : List UInt8) : mkb a ++ mkb b = mkb (a ++ b) := by
  apply ByteArray.ext
  rw [ByteArray.data_append]
  simp [mkb]
theorem mkb_size (a : List UInt8) : (mkb a).size = a.length := by simp [mkb, ByteArray.size]
theorem mkb_list (a : List UInt8) : (mkb a).data.toList = a := by simp [mkb]
/-- The decimal numeral. -/
def dd (u : Nat) : List UInt8 := Lib.decDigits u
theorem dd_small {u : Nat} (h : u < 10) : dd u = [UInt8.ofNat (48 + u)] := by
  unfold dd
  rw [Lib.decDigits, dif_pos h]
theorem dd_big {u : Nat} (h : ¬ u < 10) : dd u = dd (u / 10) ++ [UInt8.ofNat (48 + u % 10)] := by
  unfold dd
  rw [Lib.decDigits, dif_neg h]
theorem dd_len : ∀ (e u : Nat), u < 10 ^ e → 1 ≤ e → (dd u).length ≤ e := by
  intro e
  induction e with
  | zero => intro u _ h; omega
  | succ e ih =>
    intro u hu _
    by_cases h : u < 10
    · rw [dd_small h]
      simp
    · rw [dd_big h, List.length_append]
      have h1 : u / 10 < 10 ^ e := by rw [Nat.pow_succ] at hu; omega
      have h2 : 1 ≤ e := by
        by_cases h0 : e = 0
        · subst h0
          simp at hu
          omega
        · omega
      have := ih (u / 10) h1 h2
      simp only [List.length_cons, List.length_nil]
      omega
theorem dd_len6 {u : Nat} (h : u ≤ 999999) : (dd u).length ≤ 6 := dd_len 6 u (by omega) (by omega)
theorem one_byte (u : Nat) (h : u < 10) : strOfNums [(wrap64 (48 + (u : Int))) % 256] = mkb [UInt8.ofNat (48 + u)] := by
  have e : (wrap64 (48 + (u : Int))) % 256 = ((48 + u : Nat) : Int) := by
    rw [w_id (by omega) (by omega)]
    omega
  rw [e]
  unfold strOfNums
  rw [List.map_cons, List.map_nil, Int.toNat_natCast]
  rfl
theorem num_ev : ∀ (b u : Nat), u ≤ b → u ≤ 999999 → Ev (fun k => spec_l1Num.f k (u : Int)) (mkb (dd u)) := by
  intro b
  induction b with
  | zero =>
    intro u h _
    obtain rfl : u = 0 := by omega
    refine Ev.step (fun k => ?_) (Ev.now _)
    simp only [spec_l1Num.f]
    rw [if_pos (by omega), dd_small (by omega)]
    exact congrArg some (one_byte 0 (by omega))
  | succ b ih =>
    intro u h hu
    by_cases h10 : u < 10
    · refine Ev.step (fun k => ?_) (Ev.now _)
      simp only [spec_l1Num.f]
      rw [if_pos (by omega), dd_small h10]
      exact congrArg some (one_byte u h10)
    · have e1 : wrap64 (Int.tdiv (u : Int) 10) = ((u / 10 : Nat) : Int) := by
        have : Int.tdiv (u : Int) 10 = ((u / 10 : Nat) : Int) := rfl
        rw [this, w_id (by omega) (by omega)]
      have e2 : Int.tmod (u : Int) 10 = ((u % 10 : Nat) : Int) := rfl
      have h1 := ih (u / 10) (by omega) (by omega)
      have hl := dd_len6 (u := u / 10) (by omega)
      refine Ev.step (f := fun k => (spec_l1Num.f k ((u / 10 : Nat) : Int)).bind fun t => if t.size + (mkb [UInt8.ofNat (48 + u % 10)]).size ≤ 9223372036854775807 then some (t ++ mkb [UInt8.ofNat (48 + u % 10)]) else none) (fun k => ?_) (Ev.bind h1 (Ev.congr (fun k => ?_) (Ev.now _)))
      · simp only [spec_l1Num.f]
        rw [if_neg (by omega), e1, e2]
        simp only [Option.bind_some]
        rw [one_byte (u % 10) (by omega)]
      · rw [if_pos (by rw [mkb_size, mkb_size]; simp only [List.length_cons, List.length_nil]; omega), mkb_app, dd_big h10]
/-- Numerals, each behind a mark. -/
def tl (s : UInt8) (l : List Int) : List UInt8 := (l.map (fun x => s :: dd x.toNat)).flatten
def jn (s : UInt8) (l : List Int) : List UInt8 :=
  match l with
  | [] => []
  | x :: xs => dd x.toNat ++ tl s xs
theorem tl_len (s : UInt8) : ∀ (l : List Int), (∀ x ∈ l, 0 ≤ x ∧ x ≤ 999999) → (tl s l).length ≤ 7 * l.length := by
  intro l
  induction l with
  | nil => intro _; simp [tl]
  | cons x l ih =>
    intro h
    have h1 := ih (fun y hy => h y (List.mem_cons_of_mem _ hy))
    have h2 := dd_len6 (u := x.toNat) (by have := h x (List.mem_cons_self ..); omega)
    have e : tl s (x :: l) = (s :: dd x.toNat) ++ tl s l := by simp [tl]
    rw [e, List.length_append, List.length_cons, List.length_cons]
    omega
theorem jn_len (s : UInt8) (l : List Int) (h : ∀ x ∈ l, 0 ≤ x ∧ x ≤ 999999) : (jn s l).length ≤ 7 * l.length := by
  cases l with
  | nil => simp [jn]
  | cons x l =>
    have h1 := tl_len s l (fun y hy => h y (List.mem_cons_of_mem _ hy))
    have h2 := dd_len6 (u := x.toNat) (by have := h x (List.mem_cons_self ..); omega)
    simp only [jn, List.length_append, List.length_cons]
    omega

theorem of48 (d : Nat) (h : d < 10) : (UInt8.ofNat (48 + d)).toNat = 48 + d := by
  rw [UInt8.toNat_ofNat']
  omega
theorem dd_dig : ∀ (b u : Nat), u ≤ b → ∀ c ∈ dd u, 48 ≤ c.toNat ∧ c.toNat ≤ 57 := by
  intro b
  induction b with
  | zero =>
    intro u hu c hc
    rw [dd_small (by omega), List.mem_singleton] at hc
    subst hc
    rw [of48 u (by omega)]
    omega
  | succ b ih =>
    intro u hu c hc
    by_cases h : u < 10
    · rw [dd_small h, List.mem_singleton] at hc
      subst hc
      rw [of48 u h]
      omega
    · rw [dd_big h, List.mem_append, List.mem_singleton] at hc
      rcases hc with hc | rfl
      · exact ih (u / 10) (by omega) c hc
      · rw [of48 _ (by omega)]
        omega
theorem dd_head : ∀ (b u : Nat), u ≤ b → ∃ c r, dd u = c :: r ∧ (1 ≤ u → c.toNat ≠ 48) := by
  intro b
  induction b with
  | zero =>
    intro u hu
    exact ⟨_, [], dd_small (by omega), fun h => by omega⟩
  | succ b ih =>
    intro u hu
    by_cases h : u < 10
    · exact ⟨_, [], dd_small h, fun h1 => by rw [of48 u h]; omega⟩
    · obtain ⟨c, r, e, hc⟩ := ih (u / 10) (by omega)
      exact ⟨c, r ++ [UInt8.ofNat (48 + u % 10)], by rw [dd_big h, e]; rfl, fun _ => hc (by omega)⟩
theorem dd_pos (u : Nat) : 1 ≤ (dd u).length := by
  obtain ⟨c, r, e, _⟩ := dd_head u u (Nat.le_refl _)
  rw [e]
  simp
theorem pu_app (c : UInt8) (hc : 48 ≤ c.toNat ∧ c.toNat ≤ 57) : ∀ (xs : List UInt8) (acc u : Nat), Lib.parseUint10 acc xs = .ok u → u ≤ 999999 → Lib.parseUint10 acc (xs ++ [c]) = .ok (u * 10 + (c.toNat - 48)) := by
  intro xs
  induction xs with
  | nil =>
    intro acc u h hu
    simp only [Lib.parseUint10] at h
    injection h with h
    subst h
    rw [List.nil_append]
    simp only [Lib.parseUint10]
    rw [if_pos hc, if_neg (by omega), if_neg (by omega)]
  | cons x xs ih =>
    intro acc u h hu
    rw [List.cons_append]
    simp only [Lib.parseUint10] at h ⊢
    by_cases h1 : 48 ≤ x.toNat ∧ x.toNat ≤ 57
    · rw [if_pos h1] at h ⊢
      by_cases h2 : 1844674407370955162 ≤ acc
      · rw [if_pos h2] at h
        cases h
      · rw [if_neg h2] at h ⊢
        by_cases h3 : 18446744073709551616 ≤ acc * 10 + (x.toNat - 48)
        · rw [if_pos h3] at h
          cases h
        · rw [if_neg h3] at h ⊢
          exact ih _ u h hu
    · rw [if_neg h1] at h
      cases h
theorem pu_dd : ∀ (b u : Nat), u ≤ b → u ≤ 999999 → Lib.parseUint10 0 (dd u) = .ok u := by
  intro b
  induction b with
  | zero =>
    intro u hu _
    obtain rfl : u = 0 := by omega
    rw [dd_small (by omega)]
    rfl
  | succ b ih =>
    intro u hu hb
    by_cases h : u < 10
    · rw [dd_small h]
      have := pu_app (UInt8.ofNat (48 + u)) (by rw [of48 u h]; omega) [] 0 0 rfl (by omega)
      rw [List.nil_append, of48 u h] at this
      rw [this]
      congr 1
      omega
    · rw [dd_big h, pu_app _ (by rw [of48 _ (by omega)]; omega) (dd (u / 10)) 0 (u / 10) (ih _ (by omega) (by omega)) (by omega), of48 _ (by omega)]
      congr 1
      omega
theorem atoi_dd (u : Nat) (h : u ≤ 999999) : Lib.atoiAll (dd u) = .ok (u : Int) := by
  obtain ⟨c, r, e, _⟩ := dd_head u u (Nat.le_refl _)
  have hc := dd_dig u u (Nat.le_refl _) c (by rw [e]; exact List.mem_cons_self ..)
  have hp := pu_dd u u (Nat.le_refl _) h
  rw [e] at hp ⊢
  unfold Lib.atoiAll
  have h1 : ¬ (c.toNat = 43 ∨ c.toNat = 45) := by omega
  have h2 : ¬ c.toNat = 45 := by omega
  simp only [if_neg h1, Lib.parseMag, if_neg (List.cons_ne_nil c r), hp]
  rw [if_neg (by omega), if_neg (by omega), if_neg h2]
theorem mkb_toList (l : List UInt8) : (mkb l).toList = l := by
  rw [Lib.toList_data, mkb_list]
theorem mkb_inj {a b : List UInt8} (h : mkb a = mkb b) : a = b := by
  rw [← mkb_list a, h, mkb_list]
theorem mkb_self (s : ByteArray) : s = mkb s.data.toList := by
  apply ByteArray.ext
  simp [mkb]
theorem itoa_dd (u : Nat) : Lib.itoa (u : Int) = dd u := by
  unfold Lib.itoa
  rw [if_neg (by omega)]
  rfl
theorem numV_can (u : Nat) (h : u ≤ 999999) : numV (mkb (dd u)) = (u : Int) := by
  unfold numV
  rw [mkb_list, atoi_dd u h]
  simp only
  rw [if_neg (by omega), if_neg (by omega), if_pos (by rw [mkb_toList, itoa_dd])]
theorem numV_no (l : List UInt8) (h : ∀ u : Nat, u ≤ 999999 → l ≠ dd u) : numV (mkb l) = -1 := by
  unfold numV
  rw [mkb_list]
  cases hv : Lib.atoiAll l with
  | ok v =>
    simp only
    by_cases h1 : v < 0
    · rw [if_pos h1]
    · rw [if_neg h1]
      by_cases h2 : v > 999999
      · rw [if_pos h2]
      · rw [if_neg h2]
        by_cases h3 : Lib.itoa v = (mkb l).toList
        · refine absurd ?_ (h v.toNat (by omega))
          rw [mkb_toList] at h3
          have e : v = ((v.toNat : Nat) : Int) := by omega
          rw [e, itoa_dd] at h3
          rw [← h3]
        · rw [if_neg h3]
  | _ => rfl
theorem numV_or (l : List UInt8) : (numV (mkb l) = -1 ∧ ∀ u : Nat, u ≤ 999999 → l ≠ dd u) ∨ ∃ u : Nat, u ≤ 999999 ∧ l = dd u ∧ numV (mkb l) = (u : Int) := by
  by_cases h : ∃ u : Nat, u ≤ 999999 ∧ l = dd u
  · obtain ⟨u, h1, h2⟩ := h
    exact .inr ⟨u, h1, h2, by rw [h2]; exact numV_can u h1⟩
  · have h' : ∀ u : Nat, u ≤ 999999 → l ≠ dd u := fun u h1 h2 => h ⟨u, h1, h2⟩
    exact .inl ⟨numV_no l h', h'⟩
/-- What the reference makes of digits. -/
def rl : Int → List UInt8 → Int
  | acc, [] => acc
  | acc, c :: r => if (c.toNat : Int) < 48 then -1 else if (c.toNat : Int) > 57 then -1 else rl (10 * acc + ((c.toNat : Int) - 48)) r
theorem rl_app (c : UInt8) (hc : 48 ≤ c.toNat ∧ c.toNat ≤ 57) : ∀ (xs : List UInt8) (acc : Int), (∀ x ∈ xs, 48 ≤ x.toNat ∧ x.toNat ≤ 57) → rl acc (xs ++ [c]) = 10 * rl acc xs + ((c.toNat : Int) - 48) := by
  intro xs
  induction xs with
  | nil =>
    intro acc _
    rw [List.nil_append]
    simp only [rl]
    rw [if_neg (by omega), if_neg (by omega)]
  | cons x xs ih =>
    intro acc h
    have hx := h x (List.mem_cons_self ..)
    rw [List.cons_append]
    simp only [rl]
    rw [if_neg (by omega), if_neg (by omega), if_neg (by omega), if_neg (by omega)]
    exact ih _ (fun y hy => h y (List.mem_cons_of_mem _ hy))
theorem rl_dd : ∀ (b u : Nat), u ≤ b → rl 0 (dd u) = (u : Int) := by
  intro b
  induction b with
  | zero =>
    intro u hu
    obtain rfl : u = 0 := by omega
    rw [dd_small (by omega)]
    rfl
  | succ b ih =>
    intro u hu
    by_cases h : u < 10
    · rw [dd_small h]
      have := rl_app (UInt8.ofNat (48 + u)) (by rw [of48 u h]; omega) [] 0 (by simp)
      rw [List.nil_append, of48 u h] at this
      rw [this]
      simp only [rl]
      omega
    · rw [dd_big h, rl_app _ (by rw [of48 _ (by omega)]; omega) (dd (u / 10)) 0 (dd_dig _ _ (Nat.le_refl _)), of48 _ (by omega), ih (u / 10) (by omega)]
      omega
theorem rl_dig : ∀ (xs : List UInt8) (acc : Int), rl acc xs ≠ -1 → ∀ x ∈ xs, 48 ≤ x.toNat ∧ x.toNat ≤ 57 := by
  intro xs
  induction xs with
  | nil => intro _ _ x hx; simp at hx
  | cons y xs ih =>
    intro acc h x hx
    simp only [rl] at h
    by_cases h1 : (y.toNat : Int) < 48
    · rw [if_pos h1] at h
      exact absurd rfl h
    · rw [if_neg h1] at h
      by_cases h2 : (y.toNat : Int) > 57
      · rw [if_pos h2] at h
        exact absurd rfl h
      · rw [if_neg h2] at h
        rcases List.mem_cons.mp hx with rfl | hx
        · omega
        · exact ih _ h x hx
theorem can_dd : ∀ (n : Nat) (l : List UInt8), l.length = n + 1 → (∀ x ∈ l, 48 ≤ x.toNat ∧ x.toNat ≤ 57) → (∀ c r, l = c :: r → c.toNat = 48 → r = []) → ∃ u : Nat, l = dd u ∧ u < 10 ^ (n + 1) := by
  intro n
  induction n with
  | zero =>
    intro l hl hd _
    obtain ⟨c, rfl⟩ := List.length_eq_one_iff.mp hl
    have hc := hd c (List.mem_cons_self ..)
    refine ⟨c.toNat - 48, ?_, by omega⟩
    rw [dd_small (by omega)]
    have e : 48 + (c.toNat - 48) = c.toNat := by omega
    rw [e]
    simp
  | succ n ih =>
    intro l hl hd hh
    obtain ⟨xs, c, rfl⟩ : ∃ xs c, l = xs ++ [c] := ⟨l.dropLast, l.getLast (by intro h; simp [h] at hl), (List.dropLast_concat_getLast _).symm⟩
    have hxl : xs.length = n + 1 := by
      rw [List.length_append] at hl
      simp only [List.length_cons, List.length_nil] at hl
      omega
    have hc := hd c (List.mem_append_right _ (List.mem_cons_self ..))
    have hx0 : ∀ c0 r, xs = c0 :: r → c0.toNat ≠ 48 := by
      intro c0 r e h48
      have := hh c0 (r ++ [c]) (by rw [e]; rfl) h48
      simp at this
    obtain ⟨u, e, hu⟩ := ih xs hxl (fun x hx => hd x (List.mem_append_left _ hx)) (fun c0 r e h48 => absurd h48 (hx0 c0 r e))
    have hu1 : 1 ≤ u := by
      by_cases h0 : u = 0
      · subst h0
        rw [dd_small (by omega)] at e
        exact absurd rfl (hx0 _ _ e)
      · omega
    refine ⟨u * 10 + (c.toNat - 48), ?_, by rw [Nat.pow_succ]; omega⟩
    rw [dd_big (by omega), e]
    have e1 : (u * 10 + (c.toNat - 48)) / 10 = u := by omega
    have e2 : 48 + (u * 10 + (c.toNat - 48)) % 10 = c.toNat := by omega
    rw [e1, e2]
    simp
theorem bt_mkb (l : List UInt8) (i : Nat) (h : i < l.length) : bt (mkb l) (i : Int) = ((l.getD i 0).toNat : Int) := by
  unfold bt
  rw [dif_pos (by rw [Int.toNat_natCast, mkb_size]; exact h)]
  rw [ByteArray.getElem_eq_getElem_data]
  simp only [Int.toNat_natCast, mkb, List.getElem_toArray]
  rw [List.getD_eq_getElem?_getD, List.getElem?_eq_getElem h]
  rfl
theorem read_l (l : List UInt8) (hl : l.length ≤ 6) : ∀ (d i a : Nat), l.length - i = d → i ≤ l.length → a < 10 ^ i → Ev (fun k => spec_l1Read.l0 k (mkb l) (a : Int) (i : Int)) (rl (a : Int) (l.drop i)) := by
  intro d
  induction d with
  | zero =>
    intro i a h1 h2 h3
    rw [List.drop_eq_nil_of_le (by omega)]
    refine Ev.step (fun k => ?_) (Ev.now _)
    simp only [spec_l1Read.l0]
    rw [if_neg (by rw [mkb_size]; omega)]
    rfl
  | succ d ih =>
    intro i a h1 h2 h3
    have hi : i < l.length := by omega
    have ha : a < 10 ^ 6 := Nat.lt_of_lt_of_le h3 (Nat.pow_le_pow_right (by omega) (by omega))
    have hd : l.drop i = l.getD i 0 :: l.drop (i + 1) := by
      rw [List.drop_eq_getElem_cons hi, List.getD_eq_getElem?_getD, List.getElem?_eq_getElem hi]
      rfl
    rw [hd]
    simp only [rl]
    obtain ⟨c, hcd⟩ : ∃ c, c = l.getD i 0 := ⟨_, rfl⟩
    have hb := bt_mkb l i hi
    rw [← hcd] at hb ⊢
    by_cases q1 : (c.toNat : Int) < 48
    · rw [if_pos q1]
      refine Ev.step (fun k => ?_) (Ev.now _)
      simp only [spec_l1Read.l0]
      rw [if_pos (by rw [mkb_size]; omega), if_pos (by omega), hb, if_pos q1]
    · rw [if_neg q1]
      by_cases q2 : (c.toNat : Int) > 57
      · rw [if_pos q2]
        refine Ev.step (fun k => ?_) (Ev.now _)
        simp only [spec_l1Read.l0]
        rw [if_pos (by rw [mkb_size]; omega), if_pos (by omega), hb, if_neg q1, if_pos q2]
      · rw [if_neg q2]
        have e : 10 * (a : Int) + ((c.toNat : Int) - 48) = ((10 * a + (c.toNat - 48) : Nat) : Int) := by omega
        have h4 := ih (i + 1) (10 * a + (c.toNat - 48)) (by omega) (by omega) (by rw [Nat.pow_succ]; omega)
        rw [← e] at h4
        refine Ev.step (fun k => ?_) h4
        simp only [spec_l1Read.l0]
        have e2 : ((c.toNat : Int) - 48) % 256 = (c.toNat : Int) - 48 := by omega
        rw [if_pos (by rw [mkb_size]; omega), if_pos (by omega), hb, if_neg q1, if_neg q2, e2, w_id (x := 10 * (a : Int)) (by omega) (by omega), w_id (by omega) (by omega), wsucc i (by omega)]
def rv (l : List UInt8) : Int := if 1 ≤ l.length ∧ l.length ≤ 6 then (if ((l.getD 0 0).toNat : Int) = 48 ∧ l.length > 1 then -1 else rl 0 l) else -1
theorem rv_ev (l : List UInt8) : Ev (fun k => spec_l1Read.f k (mkb l)) (rv l) := by
  have no : Ev (fun k => spec_l1Read.j0 k (mkb l) true) (-1) := Ev.step (fun k => by simp only [spec_l1Read.j0]; rw [if_pos trivial]) (Ev.now _)
  have i1 : Ev (fun _ => spec_l1In.f ((mkb l).size : Int) 1 6) (decide (1 ≤ l.length ∧ l.length ≤ 6)) := Ev.congr (fun _ => by rw [in_val, mkb_size]; congr 2; exact propext ⟨fun h => by omega, fun h => by omega⟩) (Ev.now _)
  unfold spec_l1Read.f rv
  by_cases h : 1 ≤ l.length ∧ l.length ≤ 6
  · rw [if_pos h]
    refine Ev.bind i1 (Ev.ite_true (decide_eq_true h) (Ev.congr (fun k => if_pos (by rw [mkb_size]; omega)) ?_))
    have hb := bt_mkb l 0 (by omega)
    have hb' : bt (mkb l) 0 = ((l.getD 0 0).toNat : Int) := hb
    have yes : Ev (fun k => spec_l1Read.j0 k (mkb l) false) (rl 0 l) := by
      have h4 := read_l l h.2 _ 0 0 rfl (Nat.zero_le _) (by omega)
      refine Ev.step (fun k => ?_) h4
      simp only [spec_l1Read.j0]
      rw [if_neg (by simp)]
      rfl
    rw [hb']
    by_cases h0 : ((l.getD 0 0).toNat : Int) = 48
    · refine Ev.congr (fun k => if_pos h0) ?_
      by_cases h1 : l.length > 1
      · have e : decide (((mkb l).size : Int) > 1) = true := decide_eq_true (by rw [mkb_size]; omega)
        rw [e, if_pos ⟨h0, h1⟩]
        exact no
      · have e : decide (((mkb l).size : Int) > 1) = false := decide_eq_false (by rw [mkb_size]; omega)
        rw [e, if_neg (fun h => h1 h.2)]
        exact yes
    · rw [if_neg (fun h => h0 h.1)]
      exact Ev.congr (fun k => if_neg h0) yes
  · rw [if_neg h]
    exact Ev.bind i1 (Ev.ite_false (decide_eq_false h) no)
theorem rv_numV (l : List UInt8) : rv l = numV (mkb l) := by
  rcases numV_or l with ⟨h1, h2⟩ | ⟨u, h1, h2, h3⟩
  · rw [h1]
    unfold rv
    by_cases h : 1 ≤ l.length ∧ l.length ≤ 6
    · rw [if_pos h]
      by_cases h0 : ((l.getD 0 0).toNat : Int) = 48 ∧ l.length > 1
      · rw [if_pos h0]
      · rw [if_neg h0]
        by_cases hr : rl 0 l = -1
        · exact hr
        · exfalso
          obtain ⟨u, e, hu⟩ := can_dd (l.length - 1) l (by omega) (rl_dig l 0 hr) (fun c r e h48 => by
            subst e
            by_cases hz : r = []
            · exact hz
            · have := List.length_pos_iff.mpr hz
              exact absurd ⟨by show ((c.toNat : Nat) : Int) = 48; omega, by simp only [List.length_cons]; omega⟩ h0)
          have e6 : l.length - 1 + 1 ≤ 6 := by omega
          have := Nat.lt_of_lt_of_le hu (Nat.pow_le_pow_right (n := 10) (by omega) e6)
          exact h2 u (by omega) e
    · rw [if_neg h]
  · rw [h3, h2]
    have hl := dd_len6 h1
    have hp := dd_pos u
    unfold rv
    rw [if_pos ⟨hp, hl⟩]
    obtain ⟨c, r, e, hc⟩ := dd_head u u (Nat.le_refl _)
    rw [if_neg, rl_dd u u (Nat.le_refl _)]
    rintro ⟨q1, q2⟩
    by_cases hu : u < 10
    · rw [dd_small hu] at q2
      simp at q2
    · rw [e] at q1
      refine hc (by omega) ?_
      have : ((c :: r).getD 0 0) = c := rfl
      rw [this] at q1
      omega
theorem read_ev (l : List UInt8) : Ev (fun k => spec_l1Read.f k (mkb l)) (numV (mkb l)) := by
  rw [← rv_numV]
  exact rv_ev l

theorem ext_mkb (l : List UInt8) (a b : Nat) : (mkb l).extract a b = mkb ((l.drop a).take (b - a)) := by
  apply ByteArray.ext
  rw [ByteArray.data_extract]
  simp [mkb, List.extract_eq_take_drop]
theorem drop_at (l : List UInt8) (fr i : Nat) (h1 : fr ≤ i) (h2 : i < l.length) : l.drop fr = (l.drop fr).take (i - fr) ++ l.getD i 0 :: l.drop (i + 1) := by
  have e1 : (l.drop fr).drop (i - fr) = l.drop i := by
    rw [List.drop_drop]
    congr 1
    omega
  have e2 : l.drop i = l.getD i 0 :: l.drop (i + 1) := by
    rw [List.drop_eq_getElem_cons h2, List.getD_eq_getElem?_getD, List.getElem?_eq_getElem h2]
    rfl
  rw [← e2, ← e1, List.take_append_drop]
theorem take_at (l : List UInt8) (fr i : Nat) (h1 : fr ≤ i) (h2 : i < l.length) : (l.drop fr).take (i + 1 - fr) = (l.drop fr).take (i - fr) ++ [l.getD i 0] := by
  have e : i + 1 - fr = (i - fr) + 1 := by omega
  rw [e, List.take_add_one, List.getElem?_drop]
  have e2 : fr + (i - fr) = i := by omega
  rw [e2, List.getElem?_eq_getElem h2, List.getD_eq_getElem?_getD, List.getElem?_eq_getElem h2]
  rfl
theorem spsplit_l (l : List UInt8) (hl : l.length ≤ 1048576) (b : UInt8) : ∀ (d i fr : Nat) (out : List ByteArray), l.length - i = d → fr ≤ i → i ≤ l.length → b ∉ (l.drop fr).take (i - fr) → out.length ≤ i →
    Ev (fun k => spec_l1Split.l0 k (mkb l) (b.toNat : Int) out (fr : Int) (i : Int)) (out ++ (sp b (l.drop fr)).map mkb) := by
  intro d
  induction d with
  | zero =>
    intro i fr out h1 h2 h3 h4 h5
    have e : (l.drop fr).take (i - fr) = l.drop fr := List.take_of_length_le (by rw [List.length_drop]; omega)
    rw [e] at h4
    rw [sp_miss b _ h4]
    refine Ev.step (fun k => ?_) (Ev.now _)
    simp only [spec_l1Split.l0]
    rw [if_neg (by rw [mkb_size]; omega), if_pos (by omega), if_pos (by rw [mkb_size]; omega), if_pos (by omega), ext_mkb, mkb_size, Int.toNat_natCast]
    rw [List.take_of_length_le (by rw [List.length_drop]; omega)]
    rfl
  | succ d ih =>
    intro i fr out h1 h2 h3 h4 h5
    have hi : i < l.length := by omega
    have hb := bt_mkb l i hi
    by_cases hc : l.getD i 0 = b
    · have h6 := ih (i + 1) (i + 1) (out ++ [mkb ((l.drop fr).take (i - fr))]) (by omega) (Nat.le_refl _) (by omega) (by simp) (by rw [List.length_append]; simp only [List.length_cons, List.length_nil]; omega)
      have e := drop_at l fr i h2 hi
      rw [hc] at e hb
      have e2 : sp b (l.drop fr) = (l.drop fr).take (i - fr) :: sp b (l.drop (i + 1)) := by
        conv => lhs; rw [e]
        exact sp_hit b _ _ h4
      rw [e2, List.map_cons]
      have e3 : out ++ mkb ((l.drop fr).take (i - fr)) :: (sp b (l.drop (i + 1))).map mkb = (out ++ [mkb ((l.drop fr).take (i - fr))]) ++ (sp b (l.drop (i + 1))).map mkb := by simp
      rw [e3]
      refine Ev.step (fun k => ?_) h6
      simp only [spec_l1Split.l0]
      rw [if_pos (by rw [mkb_size]; omega), if_pos (by omega), hb, if_pos rfl, if_pos (by omega), if_pos (by omega), if_pos (by rw [mkb_size]; omega), if_pos (by omega), ext_mkb, Int.toNat_natCast, Int.toNat_natCast, wsucc i (by omega)]
    · have h6 := ih (i + 1) fr out (by omega) (by omega) (by omega) (by rw [take_at l fr i h2 hi, List.mem_append, List.mem_singleton]; rintro (h | h); exact h4 h; exact hc h.symm) (by omega)
      refine Ev.step (fun k => ?_) h6
      simp only [spec_l1Split.l0]
      rw [if_pos (by rw [mkb_size]; omega), if_pos (by omega), hb, if_neg (by intro h; exact hc (UInt8.toNat_inj.mp (by omega))), wsucc i (by omega)]
theorem spsplit_ev (l : List UInt8) (hl : l.length ≤ 1048576) (b : UInt8) : Ev (fun k => spec_l1Split.f k (mkb l) (b.toNat : Int)) ((sp b l).map mkb) := by
  have := spsplit_l l hl b _ 0 0 [] rfl (Nat.le_refl _) (Nat.zero_le _) (by simp) (Nat.le_refl _)
  rw [List.nil_append, List.drop_zero] at this
  exact this
theorem split_val (l : List UInt8) (hl : l.length ≤ 1048576) (b : UInt8) : strings_Split.f (mkb l) (mkb [b]) = some ((sp b l).map mkb) := by
  unfold strings_Split.f
  rw [if_pos ⟨by rw [mkb_size]; exact hl, by rw [mkb_size]; exact Nat.le_refl _⟩]
  congr 1
  have h1 := Lib.splitB_data (mkb [b]) 0 (Lib.countB (mkb l) (mkb [b])) (mkb l)
  have e : Lib.countB (mkb l) (mkb [b]) = Lib.count l [b] := by
    show Lib.count _ _ = _
    rw [mkb_list, mkb_list]
  rw [e] at h1 ⊢
  rw [mkb_list, mkb_list, split_sp b _ l (Nat.le_refl _)] at h1
  rw [← h1, List.map_map]
  refine (List.map_id _).symm.trans (List.map_congr_left (fun s _ => ?_))
  exact mkb_self s
theorem rdOf_mkb (ws : List (List UInt8)) (i : Nat) (h : i < ws.length) : rdOf ByteArray.empty (ws.map mkb) (i : Int) = mkb (ws.getD i []) := by
  unfold rdOf
  rw [Int.toNat_natCast, List.getD_eq_getElem?_getD, List.getElem?_map, List.getD_eq_getElem?_getD, List.getElem?_eq_getElem h]
  rfl
/-- The numbers of pieces. -/
def vl (ws : List (List UInt8)) : List Int := ws.map (fun w => numV (mkb w))
/-- All are numbers. -/
def alln (l : List Int) : Bool := l.all (fun x => decide (0 ≤ x))
theorem alln_mem {l : List Int} : alln l = true ↔ ∀ x ∈ l, 0 ≤ x := by simp [alln]
theorem take_vl (ws : List (List UInt8)) (i : Nat) (h : i < ws.length) : (vl ws).take (i + 1) = (vl ws).take i ++ [numV (mkb (ws.getD i []))] := by
  rw [List.take_add_one]
  congr 1
  rw [vl, List.getElem?_map, List.getD_eq_getElem?_getD, List.getElem?_eq_getElem h]
  rfl
theorem drop_vl (ws : List (List UInt8)) (i : Nat) (h : i < ws.length) : (vl ws).drop i = numV (mkb (ws.getD i [])) :: (vl ws).drop (i + 1) := by
  rw [List.drop_eq_getElem_cons (by rw [vl, List.length_map]; exact h)]
  congr 1
  simp only [vl, List.getElem_map]
  rw [List.getD_eq_getElem?_getD, List.getElem?_eq_getElem h]
  rfl
theorem nums_l (ws : List (List UInt8)) (hw : ws.length ≤ 1048577) (hs : ∀ w ∈ ws, w.length ≤ 1048576) : ∀ (d i : Nat), ws.length - i = d → i ≤ ws.length →
    Ev (fun k => impl_nums.l0 k ((vl ws).take i) (ws.map mkb) (ws.length : Int) (i : Int)) (if alln ((vl ws).drop i) = true then (vl ws, true) else ([], false)) := by
  have hv : (vl ws).length = ws.length := by rw [vl, List.length_map]
  intro d
  induction d with
  | zero =>
    intro i h1 h2
    rw [List.drop_eq_nil_of_le (by omega), List.take_of_length_le (by omega)]
    refine Ev.step (fun k => ?_) (Ev.now _)
    simp only [impl_nums.l0]
    rw [if_neg (by omega)]
    rfl
  | succ d ih =>
    intro i h1 h2
    have hi : i < ws.length := by omega
    have h3 := ih (i + 1) (by omega) (by omega)
    have hm : ws.getD i [] ∈ ws := by rw [List.getD_eq_getElem?_getD, List.getElem?_eq_getElem hi]; exact List.getElem_mem hi
    have hn : impl_num.f (mkb (ws.getD i [])) = some (numV (mkb (ws.getD i []))) := by
      unfold impl_num.f
      rw [if_pos (by rw [mkb_size]; exact hs _ hm)]
    rw [take_vl ws i hi] at h3
    rw [drop_vl ws i hi]
    obtain ⟨x, hx⟩ : ∃ x, x = numV (mkb (ws.getD i [])) := ⟨_, rfl⟩
    rw [← hx] at h3 hn ⊢
    by_cases h0 : x < 0
    · have e : alln (x :: (vl ws).drop (i + 1)) = false := by
        simp only [alln, List.all_cons]
        rw [decide_eq_false (by omega)]
        rfl
      rw [e]
      refine Ev.step (fun k => ?_) (Ev.now _)
      simp only [impl_nums.l0]
      rw [if_pos (by omega), if_pos (by omega), if_pos (by rw [List.length_map]; omega), rdOf_mkb ws i hi, hn]
      simp only [Option.bind_some]
      rw [if_pos h0]
      rfl
    · have e : alln (x :: (vl ws).drop (i + 1)) = alln ((vl ws).drop (i + 1)) := by
        simp only [alln, List.all_cons]
        rw [decide_eq_true (by omega), Bool.true_and]
      rw [e]
      refine Ev.step (fun k => ?_) h3
      simp only [impl_nums.l0]
      rw [if_pos (by omega), if_pos (by omega), if_pos (by rw [List.length_map]; omega), rdOf_mkb ws i hi, hn]
      simp only [Option.bind_some]
      rw [if_neg h0, if_pos (by rw [List.length_take]; omega), wsucc i (by omega)]
theorem nums_ev (l : List UInt8) (hl : l.length ≤ 1048576) (b : UInt8) : Ev (fun k => impl_nums.f k (mkb l) (mkb [b])) (if alln (vl (sp b l)) = true then (vl (sp b l), true) else ([], false)) := by
  unfold impl_nums.f
  have hw := sp_len b l
  have h := nums_l (sp b l) (by omega) (fun w h => by have := sp_wlen b l w h; omega) _ 0 rfl (Nat.zero_le _)
  rw [List.drop_zero, List.take_zero] at h
  refine Ev.congr (fun k => ?_) h
  rw [split_val l hl b]
  simp only [Option.bind_some]
  rw [List.length_map]
  rfl
/-- Where all are numbers, the pieces are their numerals. -/
theorem vl_dd : ∀ (ws : List (List UInt8)), (∀ x ∈ vl ws, 0 ≤ x) → ws = (vl ws).map (fun x => dd x.toNat) ∧ ∀ x ∈ vl ws, x ≤ 999999 := by
  intro ws
  induction ws with
  | nil => intro _; exact ⟨rfl, by simp [vl]⟩
  | cons w ws ih =>
    intro h
    have h0 := h (numV (mkb w)) (by simp [vl])
    obtain ⟨i1, i2⟩ := ih (fun x hx => h x (by simp only [vl, List.map_cons, List.mem_cons]; exact .inr hx))
    rcases numV_or w with ⟨h1, _⟩ | ⟨u, h1, h2, h3⟩
    · omega
    · have e : vl (w :: ws) = (u : Int) :: vl ws := by rw [← h3]; rfl
      rw [e]
      refine ⟨?_, ?_⟩
      · rw [List.map_cons, ← i1, Int.toNat_natCast, ← h2]
      · intro x hx
        rcases List.mem_cons.mp hx with rfl | hx
        · omega
        · exact i2 x hx
theorem jb_jn (b : UInt8) (l : List Int) : jb b (l.map (fun x => dd x.toNat)) = jn b l := by
  cases l with
  | nil => rfl
  | cons x l =>
    simp only [List.map_cons, jb, jn, tl, List.map_map]
    rfl
theorem jn_vl (b : UInt8) (l : List UInt8) (h : ∀ x ∈ vl (sp b l), 0 ≤ x) : jn b (vl (sp b l)) = l := by
  have e := (vl_dd _ h).1
  rw [← jb_jn, ← e, jb_sp]
theorem tl_ge (b : UInt8) : ∀ l : List Int, l.length ≤ (tl b l).length := by
  intro l
  induction l with
  | nil => simp [tl]
  | cons x l ih =>
    have e : tl b (x :: l) = (b :: dd x.toNat) ++ tl b l := by simp [tl]
    rw [e, List.length_append, List.length_cons, List.length_cons]
    omega
theorem jn_ge (b : UInt8) (l : List Int) : l.length ≤ (jn b l).length := by
  cases l with
  | nil => simp [jn]
  | cons x l =>
    have := tl_ge b l
    have := dd_pos x.toNat
    simp only [jn, List.length_append, List.length_cons]
    omega
theorem tl_few (b : UInt8) (e : Nat) (he : 1 ≤ e) : ∀ l : List Int, (∀ x ∈ l, 0 ≤ x ∧ x < ((10 ^ e : Nat) : Int)) → (tl b l).length ≤ (e + 1) * l.length := by
  intro l
  induction l with
  | nil => intro _; simp [tl]
  | cons x l ih =>
    intro h
    have h1 := ih (fun y hy => h y (List.mem_cons_of_mem _ hy))
    have h2 := dd_len e x.toNat (by have := h x (List.mem_cons_self ..); omega) he
    have e : tl b (x :: l) = (b :: dd x.toNat) ++ tl b l := by simp [tl]
    rw [e, List.length_append, List.length_cons, List.length_cons, Nat.mul_add]
    omega
theorem jn_few (b : UInt8) (e : Nat) (he : 1 ≤ e) (l : List Int) (h : ∀ x ∈ l, 0 ≤ x ∧ x < ((10 ^ e : Nat) : Int)) : (jn b l).length + 1 ≤ (e + 1) * l.length ∨ l = [] := by
  cases l with
  | nil => exact .inr rfl
  | cons x l =>
    have h1 := tl_few b e he l (fun y hy => h y (List.mem_cons_of_mem _ hy))
    have h2 := dd_len e x.toNat (by have := h x (List.mem_cons_self ..); omega) he
    refine .inl ?_
    simp only [jn, List.length_append, List.length_cons]
    rw [Nat.mul_add]
    omega
theorem vl_len (ws : List (List UInt8)) : (vl ws).length = ws.length := by rw [vl, List.length_map]

theorem wt_l (l : List Int) (hl : l.length ≤ 1000) (hb : ∀ x ∈ l, 0 ≤ x ∧ x ≤ 999999) : ∀ (d i : Nat) (acc : List UInt8), l.length - i = d → i ≤ l.length → 1 ≤ i → acc.length ≤ 7 * i →
    Ev (fun k => spec_weText.l0 k (mkb acc) l (l.length : Int) (i : Int)) (mkb (acc ++ tl 45 (l.drop i))) := by
  intro d
  induction d with
  | zero =>
    intro i acc h1 h2 h3 h4
    rw [List.drop_eq_nil_of_le (by omega)]
    refine Ev.step (fun k => ?_) (Ev.now _)
    simp only [spec_weText.l0]
    rw [if_neg (by omega)]
    simp [tl]
  | succ d ih =>
    intro i acc h1 h2 h3 h4
    have hi : i < l.length := by omega
    have hx := hb (l.getD i 0) (by rw [List.getD_eq_getElem?_getD, List.getElem?_eq_getElem hi]; exact List.getElem_mem hi)
    obtain ⟨u, hu⟩ : ∃ u : Nat, l.getD i 0 = (u : Int) := ⟨(l.getD i 0).toNat, by omega⟩
    have hu2 : u ≤ 999999 := by omega
    have hn := num_ev u u (Nat.le_refl _) hu2
    have hl6 := dd_len6 hu2
    have hd : l.drop i = (u : Int) :: l.drop (i + 1) := by
      rw [← hu, List.drop_eq_getElem_cons hi, List.getD_eq_getElem?_getD, List.getElem?_eq_getElem hi]
      rfl
    have h5 := ih (i + 1) ((acc ++ [45]) ++ dd u) (by omega) (by omega) (by omega) (by simp only [List.length_append, List.length_cons, List.length_nil]; omega)
    have e : (acc ++ [45]) ++ dd u ++ tl 45 (l.drop (i + 1)) = acc ++ tl 45 (l.drop i) := by
      rw [hd]
      simp [tl]
    rw [e] at h5
    refine Ev.step (f := fun k => if (mkb acc).size + 1 ≤ 9223372036854775807 then ((spec_l1Num.f k (u : Int)).bind fun t => if (mkb acc ++ mkb [45]).size + t.size ≤ 9223372036854775807 then spec_weText.l0 k ((mkb acc ++ mkb [45]) ++ t) l (l.length : Int) ((i + 1 : Nat) : Int) else none) else none) (fun k => ?_) (Ev.congr (fun k => if_pos (by rw [mkb_size]; omega)) (Ev.bind hn (Ev.congr (fun k => ?_) h5)))
    · simp only [spec_weText.l0]
      rw [if_pos (by omega), if_pos (by omega), if_pos (by omega), if_pos (by omega), rd_nat, hu, wsucc i (by omega)]
      rfl
    · rw [mkb_app, mkb_app, mkb_size, mkb_size, if_pos (by simp only [List.length_append, List.length_cons, List.length_nil]; omega)]
theorem wt_ev (l : List Int) (hl : l.length ≤ 1000) (hb : ∀ x ∈ l, 0 ≤ x ∧ x ≤ 999999) : Ev (fun k => spec_weText.f k l) (mkb (jn 45 l)) := by
  unfold spec_weText.f
  cases l with
  | nil =>
    refine Ev.step (fun k => ?_) (Ev.now _)
    simp only [spec_weText.l0]
    rw [if_neg (by simp)]
    rfl
  | cons x l =>
    have hx := hb x (List.mem_cons_self ..)
    obtain ⟨u, rfl⟩ : ∃ u : Nat, x = (u : Int) := ⟨x.toNat, by omega⟩
    have hu2 : u ≤ 999999 := by omega
    have hn := num_ev u u (Nat.le_refl _) hu2
    have hl6 := dd_len6 hu2
    have h5 := wt_l ((u : Int) :: l) hl hb _ 1 (dd u) rfl (by simp) (Nat.le_refl _) (by omega)
    have e : dd u ++ tl 45 (((u : Int) :: l).drop 1) = jn 45 ((u : Int) :: l) := rfl
    rw [e] at h5
    refine Ev.step (f := fun k => (spec_l1Num.f k (u : Int)).bind fun t => if (mkb []).size + t.size ≤ 9223372036854775807 then spec_weText.l0 k (mkb [] ++ t) ((u : Int) :: l) ((((u : Int) :: l).length : Nat) : Int) ((1 : Nat) : Int) else none) (fun k => ?_) (Ev.bind hn (Ev.congr (fun k => ?_) h5))
    · simp only [spec_weText.l0]
      rw [if_pos (by simp only [List.length_cons]; omega), if_pos (by omega), if_pos (by simp only [List.length_cons]; omega), if_neg (by omega), show wrap64 (0 + 1) = ((1 : Nat) : Int) from (by unfold wrap64; omega)]
      rfl
    · rw [mkb_app, mkb_size, mkb_size, if_pos (by simp only [List.length_nil]; omega), List.nil_append]

/- What is proved at the end: ∀ (a0 : ByteArray), a0.size ≤ 140737488351232 → ∃ k, laws_FnExactParseBears.f k a0 = some true -/
theorem pb_l (s : ByteArray) (ws : List (List UInt8)) (hw : ws.length ≤ 1048577) (r : List Int × Bool)
    (h : Ev (fun k => (spec_weGood.f k (vl ws)).bind fun t130 => if t130 = true then ((spec_weText.f k (vl ws)).bind fun t131 => if t131.toList = s.toList then some (vl ws, true) else some (([] : List Int), false)) else some (([] : List Int), false)) r) : ∀ (d i : Nat), ws.length - i = d → i ≤ ws.length →
    Ev (fun k => spec_ParseBears.l0 k s ((vl ws).take i) (ws.map mkb) (ws.length : Int) (i : Int)) r := by
  have hv := vl_len ws
  intro d
  induction d with
  | zero =>
    intro i h1 h2
    rw [List.take_of_length_le (by omega)]
    refine Ev.step (fun k => ?_) h
    simp only [spec_ParseBears.l0]
    rw [if_neg (by omega)]
  | succ d ih =>
    intro i h1 h2
    have hi : i < ws.length := by omega
    have h3 := ih (i + 1) (by omega) (by omega)
    rw [take_vl ws i hi] at h3
    refine Ev.step (f := fun k => (spec_l1Read.f k (mkb (ws.getD i []))).bind fun t => if ((vl ws).take i).length < 17592186044416 then spec_ParseBears.l0 k s ((vl ws).take i ++ [t]) (ws.map mkb) (ws.length : Int) ((i + 1 : Nat) : Int) else none) (fun k => ?_) (Ev.bind (read_ev _) (Ev.congr (fun k => if_pos (by rw [List.length_take]; omega)) h3))
    simp only [spec_ParseBears.l0]
    rw [if_pos (by omega), if_pos (by omega), if_pos (by rw [List.length_map]; omega), rdOf_mkb ws i hi, wsucc i (by omega)]
theorem FnExactParseBears_agree (s : ByteArray) (hs : s.size ≤ 1048576) : ∃ w0 w1, Ev (fun k => spec_ParseBears.f k s) (w0, w1) ∧ Ev (fun k => impl_ParseBears.f k s) (w0, w1) ∧ w0.length ≤ 1048576 := by
  obtain ⟨l, rfl⟩ : ∃ l, s = mkb l := ⟨_, mkb_self s⟩
  rw [mkb_size] at hs
  have hw := sp_len 45 l
  have hv := vl_len (sp 45 l)
  have hsp := spsplit_ev l hs 45
  have hn := nums_ev l hs 45
  have loop := fun r h => pb_l (mkb l) (sp 45 l) (by omega) r h _ 0 rfl (Nat.zero_le _)
  unfold spec_ParseBears.f impl_ParseBears.f
  rw [mkb_size]
  by_cases hg : goodB (vl (sp 45 l)) = true
  · obtain ⟨h1, h2, h3⟩ := goodB_bd hg
    have h0 : ∀ x ∈ vl (sp 45 l), 0 ≤ x := fun x hx => (h3 x hx).1
    have hb : ∀ x ∈ vl (sp 45 l), 0 ≤ x ∧ x ≤ 999999 := fun x hx => by have := h3 x hx; omega
    have hj := jn_vl 45 l h0
    have hlen : l.length ≤ 80 := by
      rcases jn_few 45 3 (by omega) (vl (sp 45 l)) (fun x hx => by have := h3 x hx; omega) with h | h
      · rw [hj] at h
        omega
      · rw [h] at h1
        simp at h1
    rw [if_pos (alln_mem.mpr h0)] at hn
    refine ⟨vl (sp 45 l), true, Ev.congr (fun k => if_neg (by omega)) (Ev.bind hsp ?_), Ev.bind hn (Ev.ite_true rfl (Ev.bind (areBears_ev (vl (sp 45 l)) (by omega)) (Ev.ite_true hg (Ev.now _)))), by omega⟩
    rw [List.length_map]
    refine loop _ (Ev.bind (weGood_ev _ (by omega)) (Ev.ite_true hg (Ev.bind (wt_ev _ (by omega) hb) (Ev.congr (fun k => ?_) (Ev.now _)))))
    rw [hj, if_pos rfl]
  · have hg' : goodB (vl (sp 45 l)) = false := Bool.eq_false_iff.mpr hg
    refine ⟨[], false, ?_, ?_, by simp⟩
    · by_cases hl : l.length > 80
      · exact Ev.congr (fun k => if_pos (by omega)) (Ev.now _)
      · refine Ev.congr (fun k => if_neg (by omega)) (Ev.bind hsp ?_)
        rw [List.length_map]
        exact loop _ (Ev.bind (weGood_ev _ (by omega)) (Ev.ite_false hg' (Ev.now _)))
    · by_cases ha : alln (vl (sp 45 l)) = true
      · rw [if_pos ha] at hn
        have hj := jn_vl 45 l (alln_mem.mp ha)
        have hge := jn_ge 45 (vl (sp 45 l))
        rw [hj] at hge
        exact Ev.bind hn (Ev.ite_true rfl (Ev.bind (areBears_ev (vl (sp 45 l)) (by omega)) (Ev.ite_false hg' (Ev.now _))))
      · rw [if_neg ha] at hn
        exact Ev.bind hn (Ev.ite_false rfl (Ev.now _))
theorem FnExactParseBears : ∀ (a0 : ByteArray), a0.size ≤ 140737488351232 → ∃ k, laws_FnExactParseBears.f k a0 = some true := by
  intro a0 y0
  by_cases hB0 : (a0.size : Int) > 1048576
  · exact ⟨1, by unfold laws_FnExactParseBears.f; rw [if_pos hB0]⟩
  have hl0 : a0.size ≤ 1048576 := by omega
  obtain ⟨w0, w1, hS, hI, hww0⟩ := FnExactParseBears_agree a0 hl0
  obtain ⟨K0, k0⟩ := (show Ev (fun k => spec_ParseBears.f k a0) (w0, w1) from hS)
  obtain ⟨K1, k1⟩ := (show Ev (fun k => impl_ParseBears.f k a0) (w0, w1) from hI)
  obtain ⟨K2, k2⟩ := (show Ev (fun k => laws_eqIntS.f k w0 w0) true from eqIntS_ev _ hww0)
  obtain ⟨K3, k3⟩ := (show Ev (fun k => laws_markIntS.f k w0 (1)) (1 + (w0.length : Int), marked w0.length (1)) from markIntS_ev _ hww0 _ (by omega) (by omega))
  obtain ⟨K4, k4⟩ := (show Ev (fun k => laws_heldIntS.f k (marked w0.length (1)) (1)) (1 + (w0.length : Int)) from heldIntS_ev _ hww0 _ (by omega) (by omega))
  obtain ⟨K, hK⟩ : ∃ K, K = K0 + K1 + K2 + K3 + K4 := ⟨_, rfl⟩
  have e0 : ∀ j, spec_ParseBears.f (K + j) a0 = some (w0, w1) := fun j => k0 (K + j) (by omega)
  have e1 : ∀ j, impl_ParseBears.f (K + j) a0 = some (w0, w1) := fun j => k1 (K + j) (by omega)
  have e2 : ∀ j, laws_eqIntS.f (K + j) w0 w0 = some true := fun j => k2 (K + j) (by omega)
  have e3 : ∀ j, laws_markIntS.f (K + j) w0 (1) = some (1 + (w0.length : Int), marked w0.length (1)) := fun j => k3 (K + j) (by omega)
  have e4 : ∀ j, laws_heldIntS.f (K + j) (marked w0.length (1)) (1) = some (1 + (w0.length : Int)) := fun j => k4 (K + j) (by omega)
  clear k0 k1 k2 k3 k4 hK
  refine ⟨K + 16, ?_⟩
  simp [laws_FnExactParseBears.f, laws_FnExactParseBears.j0, laws_FnExactParseBears.j1, e0, e1, e2, e3, e4, hB0, show ¬ (1 + (w0.length : Int) < 0) by omega]

end Go.Proofs.YtmonnbbihmpedaaDoor.Pure
