/- The pure statement of FnExactFewestOnWear: the printed function returns true for all arguments within their kinds; no other condition. -/
import Derived.Test.YtfmjkephbibddaaPFnExactFewestOnWearx
namespace Go.Proofs.Ytfmjkephbibddaa.Pure
open Go.RowKit Go.Proofs.Ytfmjkephbibddaa.PFnExactFewestOnWear Go.Proofs.YtfmjkephbibddaaW.PrintWords Go.Proofs.YtfmjkephbibddaaW.PrintLast Go.Proofs.YtfmjkephbibddaaW.PrintMore
set_option linter.unusedVariables false
set_option linter.unusedSimpArgs false
theorem wsucc (i : Nat) (h : i < 4611686018427387904) : wrap64 ((i : Int) + 1) = ((i + 1 : Nat) : Int) := by
  unfold wrap64
  omega
theorem kpred {d k : Nat} (h : d < k) : ∃ m, k = m + 1 := ⟨k - 1, by omega⟩
theorem rd_nat (l : List Int) (i : Nat) : rd l (i : Int) = l.getD i 0 := by simp [rd]
theorem take_set_succ (x : List Int) (i : Nat) (v : Int) (h : i < x.length) : (x.set i v).take (i + 1) = x.take i ++ [v] := by
  rw [List.take_add_one, List.take_set_of_le (Nat.le_refl i), List.getElem?_set_self h]
  rfl
theorem take_get_succ (x : List Int) (i : Nat) (h : i < x.length) : x.take (i + 1) = x.take i ++ [x.getD i 0] := by
  rw [List.take_add_one, List.getElem?_eq_getElem h, List.getD_eq_getElem?_getD, List.getElem?_eq_getElem h]
  rfl
theorem w_id {x : Int} (h0 : -4611686018427387904 ≤ x) (h1 : x ≤ 4611686018427387904) : wrap64 x = x := by
  unfold wrap64
  omega
theorem w_sub (k r : Nat) (h : r ≤ k) (hk : k ≤ 1000000000) : wrap64 ((k : Int) - (r : Int)) = ((k - r : Nat) : Int) := by
  rw [w_id (by omega) (by omega)]
  omega
theorem w_add (a b : Nat) (h : a ≤ 1000000000) (hb : b ≤ 1000000000) : wrap64 ((a : Int) + (b : Int)) = ((a + b : Nat) : Int) := by
  rw [w_id (by omega) (by omega)]
  omega
theorem w_pred (k : Nat) (h : 1 ≤ k) (hk : k ≤ 1000000000) : wrap64 ((k : Int) - 1) = ((k - 1 : Nat) : Int) := by
  rw [w_id (by omega) (by omega)]
  omega

def ci (T : List Nat) : List Int := T.map (fun x : Nat => (x : Int))
theorem ci_len (T : List Nat) : (ci T).length = T.length := by simp [ci]
theorem ci_get (T : List Nat) (i : Nat) : (ci T).getD i 0 = ((T.getD i 0 : Nat) : Int) := by
  simp only [ci, List.getD_eq_getElem?_getD, List.getElem?_map]
  cases T[i]? <;> simp
def incN : Nat → List Nat → Prop
  | _, [] => True
  | p, x :: xs => p < x ∧ incN x xs
/-- The sum over the strides that end at n at the latest. -/
def gs (f : Nat → Int) (n j : Nat) : List Nat → Int
  | [] => 0
  | s :: ss => (if j + s ≤ n then f (j + s) else 0) + gs f n j ss
theorem gs_congr {f f' : Nat → Int} {n j : Nat} : ∀ {T : List Nat}, (∀ t ∈ T, 1 ≤ t) → (∀ i, j < i → i ≤ n → f i = f' i) → gs f n j T = gs f' n j T := by
  intro T
  induction T with
  | nil => intro _ _; rfl
  | cons s T ih =>
    intro h1 h2
    simp only [gs]
    rw [ih (fun t ht => h1 t (List.mem_cons_of_mem _ ht)) h2]
    have := h1 s (List.mem_cons_self ..)
    by_cases hs : j + s ≤ n
    · rw [if_pos hs, if_pos hs, h2 (j + s) (by omega) hs]
    · rw [if_neg hs, if_neg hs]
theorem gs_nonneg {f : Nat → Int} {n j : Nat} (hf : ∀ i, j < i → i ≤ n → 0 ≤ f i) : ∀ (T : List Nat), (∀ t ∈ T, 1 ≤ t) → 0 ≤ gs f n j T := by
  intro T
  induction T with
  | nil => intro _; exact Int.le_refl _
  | cons s T ih =>
    intro h
    have h1 := ih (fun t ht => h t (List.mem_cons_of_mem _ ht))
    have h2 := h s (List.mem_cons_self ..)
    simp only [gs]
    by_cases hs : j + s ≤ n
    · have := hf (j + s) (by omega) hs
      rw [if_pos hs]
      omega
    · rw [if_neg hs]
      omega
theorem gs_mem {f : Nat → Int} {n j : Nat} (hf : ∀ i, j < i → i ≤ n → 0 ≤ f i) {T : List Nat} (hT : ∀ t ∈ T, 1 ≤ t) {s : Nat} (hs : s ∈ T) (hn : j + s ≤ n) : f (j + s) ≤ gs f n j T := by
  induction T with
  | nil => simp at hs
  | cons t T ih =>
    have h1 := gs_nonneg hf T (fun x hx => hT x (List.mem_cons_of_mem _ hx))
    simp only [gs]
    rcases List.mem_cons.mp hs with h | h
    · subst h
      rw [if_pos hn]
      omega
    · have h2 := ih (fun x hx => hT x (List.mem_cons_of_mem _ hx)) h
      have h3 := hT t (List.mem_cons_self ..)
      by_cases ht : j + t ≤ n
      · have := hf (j + t) (by omega) ht
        rw [if_pos ht]
        omega
      · rw [if_neg ht]
        omega
theorem gs_pos {f : Nat → Int} {n j : Nat} (hf : ∀ i, j < i → i ≤ n → 0 ≤ f i) : ∀ {T : List Nat}, (∀ t ∈ T, 1 ≤ t) → (0 < gs f n j T ↔ ∃ s ∈ T, j + s ≤ n ∧ 0 < f (j + s)) := by
  intro T
  induction T with
  | nil => intro _; simp [gs]
  | cons t T ih =>
    intro hT
    have hT' : ∀ t ∈ T, 1 ≤ t := fun x hx => hT x (List.mem_cons_of_mem _ hx)
    have h1 := gs_nonneg hf T hT'
    have h2 := hT t (List.mem_cons_self ..)
    have h3 := ih hT'
    simp only [gs]
    constructor
    · intro h
      by_cases ht : j + t ≤ n
      · rw [if_pos ht] at h
        by_cases h4 : 0 < f (j + t)
        · exact ⟨t, List.mem_cons_self .., ht, h4⟩
        · have := hf (j + t) (by omega) ht
          obtain ⟨s, a, b⟩ := h3.1 (by omega)
          exact ⟨s, List.mem_cons_of_mem _ a, b⟩
      · rw [if_neg ht] at h
        obtain ⟨s, a, b⟩ := h3.1 (by omega)
        exact ⟨s, List.mem_cons_of_mem _ a, b⟩
    · rintro ⟨s, a, b, c⟩
      rcases List.mem_cons.mp a with e | a
      · subst e
        rw [if_pos b]
        omega
      · have := h3.2 ⟨s, a, b, c⟩
        by_cases ht : j + t ≤ n
        · have := hf (j + t) (by omega) ht
          rw [if_pos ht]
          omega
        · rw [if_neg ht]
          omega
def p2 : Nat → Int
  | 0 => 1
  | d + 1 => 2 * p2 d
theorem p2_pos : ∀ d, 1 ≤ p2 d
  | 0 => by simp [p2]
  | d + 1 => by have := p2_pos d; simp only [p2]; omega
theorem p2_mono {a b : Nat} (h : a ≤ b) : p2 a ≤ p2 b := by
  obtain ⟨c, rfl⟩ := Nat.exists_eq_add_of_le h
  clear h
  induction c with
  | zero => exact Int.le_refl _
  | succ c ih =>
    have := p2_pos (a + c)
    show p2 a ≤ 2 * p2 (a + c)
    omega
theorem p2_60 {d : Nat} (h : d ≤ 60) : p2 d ≤ 1152921504606846976 := by
  have := p2_mono h
  have h2 : p2 60 = 1152921504606846976 := by decide +kernel
  omega
theorem gs_bd {f : Nat → Int} {n j : Nat} (hf : ∀ i, j < i → i ≤ n → 0 ≤ f i ∧ f i ≤ p2 (n - i)) : ∀ (T : List Nat) (p : Nat), incN p T → 0 ≤ gs f n j T ∧ gs f n j T ≤ p2 (n - j - p) := by
  intro T
  induction T with
  | nil =>
    intro p _
    have := p2_pos (n - j - p)
    simp only [gs]
    omega
  | cons s T ih =>
    intro p h
    obtain ⟨h1, h2⟩ := h
    obtain ⟨i1, i2⟩ := ih s h2
    simp only [gs]
    by_cases hs : j + s ≤ n
    · rw [if_pos hs]
      have hb := hf (j + s) (by omega) hs
      have e1 : n - (j + s) = n - j - s := by omega
      rw [e1] at hb
      have h3 : p2 (n - j - s + 1) ≤ p2 (n - j - p) := p2_mono (by omega)
      simp only [p2] at h3
      omega
    · rw [if_neg hs]
      have h3 : p2 (n - j - s) ≤ p2 (n - j - p) := p2_mono (by omega)
      omega
def dpv (n : Nat) (base : Int) (g : (Nat → Int) → Nat → Int) : Nat → Nat → Int
  | 0, _ => base
  | d + 1, j => if j + (d + 1) = n then g (dpv n base g d) j else dpv n base g d j
theorem dpv_stable (n : Nat) (base : Int) (g : (Nat → Int) → Nat → Int) (d j : Nat) (h : n ≤ j + d) : ∀ e, dpv n base g (d + e) j = dpv n base g d j := by
  intro e
  induction e with
  | zero => rfl
  | succ e ih =>
    show dpv n base g ((d + e) + 1) j = _
    rw [← ih]
    simp only [dpv]
    rw [if_neg (by omega)]
theorem dpv_top (n : Nat) (base : Int) (g : (Nat → Int) → Nat → Int) : dpv n base g n n = base := by
  have := dpv_stable n base g 0 n (by omega) n
  rw [Nat.zero_add] at this
  rw [this]
  rfl
theorem dpv_rec (n : Nat) (base : Int) (g : (Nat → Int) → Nat → Int) (hg : ∀ f f' j, (∀ i, j < i → i ≤ n → f i = f' i) → g f j = g f' j) (j : Nat) (hj : j < n) : dpv n base g n j = g (dpv n base g n) j := by
  have h1 := dpv_stable n base g (n - j) j (by omega) j
  have e1 : n - j + j = n := by omega
  rw [e1] at h1
  rw [h1]
  obtain ⟨d, hd⟩ : ∃ d, n - j = d + 1 := ⟨n - j - 1, by omega⟩
  rw [hd]
  simp only [dpv]
  rw [if_pos (by omega)]
  refine hg _ _ j (fun i h2 h3 => ?_)
  have h4 := dpv_stable n base g d i (by omega) (n - d)
  have e2 : d + (n - d) = n := by omega
  rw [e2] at h4
  exact h4.symm
/-- How many climbs there are from a step. -/
def V (n : Nat) (T : List Nat) (B : List Int) : Nat → Int := dpv n 1 (fun f j => if (j : Int) ∈ B then 0 else gs f n j T) n
theorem V_top (n : Nat) (T : List Nat) (B : List Int) : V n T B n = 1 := dpv_top ..
theorem V_rec (n : Nat) (T : List Nat) (B : List Int) (hT : ∀ t ∈ T, 1 ≤ t) (j : Nat) (hj : j < n) : V n T B j = if (j : Int) ∈ B then 0 else gs (V n T B) n j T := by
  refine dpv_rec n 1 _ (fun f f' j h => ?_) j hj
  show (if (j : Int) ∈ B then (0 : Int) else gs f n j T) = (if (j : Int) ∈ B then 0 else gs f' n j T)
  rw [gs_congr hT h]
theorem V_bd (n : Nat) (T : List Nat) (B : List Int) (hT : ∀ t ∈ T, 1 ≤ t) (hi : incN 0 T) : ∀ (d j : Nat), n - j ≤ d → j ≤ n → 0 ≤ V n T B j ∧ V n T B j ≤ p2 (n - j) := by
  intro d
  induction d with
  | zero =>
    intro j h1 h2
    obtain rfl : j = n := by omega
    rw [V_top, Nat.sub_self]
    simp [p2]
  | succ d ih =>
    intro j h1 h2
    by_cases hj : j = n
    · subst hj
      rw [V_top, Nat.sub_self]
      simp [p2]
    · rw [V_rec n T B hT j (by omega)]
      have := p2_pos (n - j)
      split
      · omega
      · exact gs_bd (fun i h3 h4 => ih i (by omega) h4) T 0 hi
/-- A row of n + 1 numbers that is filled from its end. -/
def arr (n : Nat) (f : Nat → Int) (m : Nat) : List Int := (List.range (n + 1)).map (fun j => if m ≤ j then f j else 0)
theorem arr_len (n : Nat) (f : Nat → Int) (m : Nat) : (arr n f m).length = n + 1 := by simp [arr]
theorem arr_get (n : Nat) (f : Nat → Int) (m j : Nat) (h : j ≤ n) : (arr n f m).getD j 0 = if m ≤ j then f j else 0 := by
  simp only [arr, List.getD_eq_getElem?_getD, List.getElem?_map, List.getElem?_range (show j < n + 1 by omega), Option.map_some, Option.getD_some]
theorem arr_ext {n : Nat} {f : Nat → Int} {m : Nat} {x : List Int} (hl : x.length = n + 1) (h : ∀ j, j ≤ n → x.getD j 0 = if m ≤ j then f j else 0) : x = arr n f m := by
  refine List.ext_getElem (by rw [hl, arr_len]) (fun j h1 h2 => ?_)
  have h3 := h j (by omega)
  rw [← arr_get n f m j (by omega), List.getD_eq_getElem?_getD, List.getD_eq_getElem?_getD, List.getElem?_eq_getElem h1, List.getElem?_eq_getElem h2] at h3
  exact h3
theorem getD_set (x : List Int) (i : Nat) (v : Int) (j : Nat) (hi : i < x.length) : (x.set i v).getD j 0 = if i = j then v else x.getD j 0 := by
  rw [List.getD_eq_getElem?_getD, List.getD_eq_getElem?_getD, List.getElem?_set]
  by_cases h : i = j
  · rw [if_pos h, if_pos h, if_pos hi]
    rfl
  · rw [if_neg h, if_neg h]
theorem arr_set (n : Nat) (f : Nat → Int) (m : Nat) (h : m ≤ n) : (arr n f (m + 1)).set m (f m) = arr n f m := by
  refine arr_ext (by rw [List.length_set, arr_len]) (fun j hj => ?_)
  rw [getD_set _ _ _ _ (by rw [arr_len]; omega), arr_get n f _ j hj]
  by_cases h1 : m = j
  · subst h1
    rw [if_pos rfl, if_pos (Nat.le_refl _)]
  · rw [if_neg h1]
    by_cases h2 : m ≤ j
    · rw [if_pos h2, if_pos (by omega)]
    · rw [if_neg h2, if_neg (by omega)]
theorem arr_put (n : Nat) (f : Nat → Int) (m : Nat) (v : Int) (h : m ≤ n) (hv : f m = v) : (arr n f (m + 1)).set m v = arr n f m := hv ▸ arr_set n f m h
theorem arr_zero (n : Nat) (f : Nat → Int) (m : Nat) (h : m ≤ n) : arr n f (m + 1) = (arr n f (m + 1)).set m 0 := by
  symm
  refine arr_ext (by rw [List.length_set, arr_len]) (fun j hj => ?_)
  rw [getD_set _ _ _ _ (by rw [arr_len]; omega), arr_get n f _ j hj]
  by_cases h1 : m = j
  · subst h1
    rw [if_pos rfl, if_neg (by omega)]
  · rw [if_neg h1]
theorem arr_top (n : Nat) (f : Nat → Int) (v : Int) (h : f n = v) : (List.replicate (n + 1) (0 : Int)).set n v = arr n f n := by
  refine arr_ext (by rw [List.length_set, List.length_replicate]) (fun j hj => ?_)
  rw [getD_set _ _ _ _ (by rw [List.length_replicate]; omega)]
  by_cases h1 : n = j
  · subst h1
    rw [if_pos rfl, if_pos (Nat.le_refl _), h]
  · rw [if_neg h1, if_neg (by omega), List.getD_eq_getElem?_getD, List.getElem?_replicate]
    split <;> rfl
theorem arr_rd0 (n : Nat) (f : Nat → Int) (j : Nat) (h : j ≤ n) : rd (arr n f 0) (j : Int) = f j := by
  rw [rd_nat, arr_get n f 0 j h, if_pos (by omega)]

/-- One better number of strides. -/
def btr (most : Bool) (acc v : Int) : Int := if acc < 0 then v else if most = true then (if v > acc then v else acc) else (if v < acc then v else acc)
def lf (most : Bool) (f : Nat → Int) (n j : Nat) : Int → List Nat → Int
  | acc, [] => acc
  | acc, s :: ss => lf most f n j (if j + s ≤ n ∧ 0 ≤ f (j + s) then btr most acc (f (j + s) + 1) else acc) ss
theorem lf_congr {most : Bool} {f f' : Nat → Int} {n j : Nat} : ∀ {T : List Nat} {acc : Int}, (∀ t ∈ T, 1 ≤ t) → (∀ i, j < i → i ≤ n → f i = f' i) → lf most f n j acc T = lf most f' n j acc T := by
  intro T
  induction T with
  | nil => intro _ _ _; rfl
  | cons s T ih =>
    intro acc h1 h2
    have := h1 s (List.mem_cons_self ..)
    simp only [lf]
    by_cases hs : j + s ≤ n
    · rw [h2 (j + s) (by omega) hs, ih (fun t ht => h1 t (List.mem_cons_of_mem _ ht)) h2]
    · rw [if_neg (fun h => hs h.1), if_neg (fun h => hs h.1), ih (fun t ht => h1 t (List.mem_cons_of_mem _ ht)) h2]
def Lf (n : Nat) (T : List Nat) (B : List Int) (most : Bool) : Nat → Int := dpv n 0 (fun f j => if (j : Int) ∈ B then -1 else lf most f n j (-1) T) n
theorem Lf_top (n : Nat) (T : List Nat) (B : List Int) (most : Bool) : Lf n T B most n = 0 := dpv_top ..
theorem Lf_rec (n : Nat) (T : List Nat) (B : List Int) (most : Bool) (hT : ∀ t ∈ T, 1 ≤ t) (j : Nat) (hj : j < n) : Lf n T B most j = if (j : Int) ∈ B then -1 else lf most (Lf n T B most) n j (-1) T := by
  refine dpv_rec n 0 _ (fun f f' j h => ?_) j hj
  show (if (j : Int) ∈ B then (-1 : Int) else lf most f n j (-1) T) = (if (j : Int) ∈ B then -1 else lf most f' n j (-1) T)
  rw [lf_congr hT h]
theorem btr_bd {most : Bool} {acc v b : Int} (h1 : -1 ≤ acc) (h2 : acc ≤ b) (h3 : 0 ≤ v) (h4 : v ≤ b) : -1 ≤ btr most acc v ∧ btr most acc v ≤ b := by
  unfold btr
  (repeat' split) <;> omega
theorem lf_bd {most : Bool} {f : Nat → Int} {n j : Nat} (hf : ∀ i, j < i → i ≤ n → f i ≤ (n : Int) - i) : ∀ (T : List Nat) (acc : Int), (∀ t ∈ T, 1 ≤ t) → -1 ≤ acc → acc ≤ (n : Int) - j → -1 ≤ lf most f n j acc T ∧ lf most f n j acc T ≤ (n : Int) - j := by
  intro T
  induction T with
  | nil => intro acc _ h1 h2; exact ⟨h1, h2⟩
  | cons s T ih =>
    intro acc hT h1 h2
    have hs := hT s (List.mem_cons_self ..)
    simp only [lf]
    by_cases hc : j + s ≤ n ∧ 0 ≤ f (j + s)
    · rw [if_pos hc]
      have h3 := hf (j + s) (by omega) hc.1
      have h4 := btr_bd (most := most) h1 h2 (v := f (j + s) + 1) (by omega) (by omega)
      exact ih _ (fun t ht => hT t (List.mem_cons_of_mem _ ht)) h4.1 h4.2
    · rw [if_neg hc]
      exact ih _ (fun t ht => hT t (List.mem_cons_of_mem _ ht)) h1 h2
theorem Lf_bd (n : Nat) (T : List Nat) (B : List Int) (most : Bool) (hT : ∀ t ∈ T, 1 ≤ t) : ∀ (d j : Nat), n - j ≤ d → j ≤ n → -1 ≤ Lf n T B most j ∧ Lf n T B most j ≤ (n : Int) - j := by
  intro d
  induction d with
  | zero =>
    intro j h1 h2
    obtain rfl : j = n := by omega
    rw [Lf_top]
    omega
  | succ d ih =>
    intro j h1 h2
    by_cases hj : j = n
    · subst hj
      rw [Lf_top]
      omega
    · rw [Lf_rec n T B most hT j (by omega)]
      split
      · omega
      · exact lf_bd (fun i h3 h4 => (ih i (by omega) h4).2) T (-1) hT (by omega) (by omega)
theorem lf_or {most : Bool} {f : Nat → Int} {n j : Nat} : ∀ (ss : List Nat) (acc : Int), lf most f n j acc ss = acc ∨ ∃ s ∈ ss, j + s ≤ n ∧ 0 ≤ f (j + s) ∧ f (j + s) = lf most f n j acc ss - 1 := by
  intro ss
  induction ss with
  | nil => intro acc; exact Or.inl rfl
  | cons s ss ih =>
    intro acc
    simp only [lf]
    by_cases hc : j + s ≤ n ∧ 0 ≤ f (j + s)
    · rw [if_pos hc]
      rcases ih (btr most acc (f (j + s) + 1)) with h | ⟨t, h1, h2⟩
      · have : btr most acc (f (j + s) + 1) = acc ∨ btr most acc (f (j + s) + 1) = f (j + s) + 1 := by
          unfold btr
          (repeat' split) <;> simp
        rcases this with h3 | h3
        · exact Or.inl (h.trans h3)
        · exact Or.inr ⟨s, List.mem_cons_self .., hc.1, hc.2, by omega⟩
      · exact Or.inr ⟨t, List.mem_cons_of_mem _ h1, h2⟩
    · rw [if_neg hc]
      rcases ih acc with h | ⟨t, h1, h2⟩
      · exact Or.inl h
      · exact Or.inr ⟨t, List.mem_cons_of_mem _ h1, h2⟩

theorem in_val (a b c : Int) : spec_l1In.f a b c = some (decide (b ≤ a ∧ a ≤ c)) := by
  unfold spec_l1In.f
  by_cases h : b ≤ a <;> simp [h]
theorem within_val (a b c : Int) : impl_within.f a b c = some (decide (b ≤ a ∧ a ≤ c)) := by
  unfold impl_within.f
  by_cases h : b ≤ a <;> simp [h]

def okB (n : Int) : Bool := decide (0 ≤ n ∧ n ≤ 100)
/-- The numbers are bears. -/
def goodB (l : List Int) : Bool := decide (1 ≤ l.length ∧ l.length ≤ 20) && l.all okB
theorem drop_cons (l : List Int) (i : Nat) (h : i < l.length) : l.drop i = l.getD i 0 :: l.drop (i + 1) := by
  rw [List.drop_eq_getElem_cons h, List.getD_eq_getElem?_getD, List.getElem?_eq_getElem h]
  rfl
theorem l1All_l (l : List Int) (hB : l.length ≤ 1048576) : ∀ (d k i : Nat), l.length - i = d → d < k → i ≤ l.length →
    spec_l1All.l0 k 0 100 l (l.length : Int) (i : Int) = some ((l.drop i).all okB) := by
  intro d
  induction d with
  | zero =>
    intro k i hd hk hi
    obtain ⟨k, rfl⟩ := kpred hk
    simp only [spec_l1All.l0]
    rw [if_neg (by omega), List.drop_eq_nil_of_le (by omega)]
    rfl
  | succ d ih =>
    intro k i hd hk hi
    obtain ⟨k, rfl⟩ := kpred hk
    simp only [spec_l1All.l0]
    rw [if_pos (by omega), if_pos (by omega), if_pos (by omega), rd_nat, in_val, drop_cons l i (by omega)]
    simp only [Option.bind_some, List.all_cons, wsucc i (by omega)]
    rw [ih k (i + 1) (by omega) (by omega) (by omega)]
    by_cases h : 0 ≤ l.getD i 0 ∧ l.getD i 0 ≤ 100
    · rw [if_pos (decide_eq_true h)]
      simp only [okB, decide_eq_true h, Bool.true_and]
    · rw [if_neg (by simpa using h)]
      simp only [okB, decide_eq_false h, Bool.false_and]
theorem weGood_val (l : List Int) (hB : l.length ≤ 1048576) (k : Nat) (hk : l.length < k) : spec_weGood.f k l = some (goodB l) := by
  unfold spec_weGood.f spec_l1All.f goodB
  have h := l1All_l l hB l.length k 0 (by omega) hk (by omega)
  rw [List.drop_zero] at h
  rw [in_val]
  simp only [Option.bind_some]
  by_cases h1 : 1 ≤ l.length ∧ l.length ≤ 20
  · rw [if_pos (decide_eq_true (by omega)), decide_eq_true h1, Bool.true_and]
    have h' : spec_l1All.l0 k 0 100 l (l.length : Int) 0 = some (l.all okB) := h
    rw [h']
    rfl
  · rw [if_neg (by simp; omega), decide_eq_false h1, Bool.false_and]
theorem areBears1_val (n : Int) : impl_AreBears_1.f n = some (!okB n) := by
  unfold impl_AreBears_1.f
  simp only [within_val, Option.bind_some]
  rfl
theorem indexFunc_l (l : List Int) (hB : l.length ≤ 1048576) : ∀ (d k i : Nat), l.length - i = d → d < k → i ≤ l.length →
    ∃ r, slices_IndexFunc_int_int.l0 k l (l.length : Int) (i : Int) = some r ∧ decide (r ≥ 0) = !(l.drop i).all okB := by
  intro d
  induction d with
  | zero =>
    intro k i hd hk hi
    obtain ⟨k, rfl⟩ := kpred hk
    refine ⟨-1, ?_, ?_⟩
    · simp only [slices_IndexFunc_int_int.l0]
      rw [if_neg (by omega)]
    · rw [List.drop_eq_nil_of_le (by omega)]
      rfl
  | succ d ih =>
    intro k i hd hk hi
    obtain ⟨k, rfl⟩ := kpred hk
    rw [drop_cons l i (by omega)]
    by_cases h : okB (l.getD i 0) = true
    · obtain ⟨r, hr, hp⟩ := ih k (i + 1) (by omega) (by omega) (by omega)
      refine ⟨r, ?_, by rw [List.all_cons, h, Bool.true_and]; exact hp⟩
      simp only [slices_IndexFunc_int_int.l0]
      rw [if_pos (by omega), if_pos (by omega), if_pos (by omega), rd_nat, areBears1_val, h]
      simp only [Option.bind_some, Bool.not_true, wsucc i (by omega)]
      exact hr
    · have h' : okB (l.getD i 0) = false := Bool.eq_false_iff.mpr h
      refine ⟨i, ?_, by rw [List.all_cons, h', Bool.false_and]; simp⟩
      simp only [slices_IndexFunc_int_int.l0]
      rw [if_pos (by omega), if_pos (by omega), if_pos (by omega), rd_nat, areBears1_val, h']
      rfl
theorem areBears_val (l : List Int) (hB : l.length ≤ 1048576) (k : Nat) (hk : l.length < k) : impl_AreBears.f k l = some (goodB l) := by
  obtain ⟨r, hr, hp⟩ := indexFunc_l l hB l.length k 0 (by omega) hk (by omega)
  have hr' : slices_IndexFunc_int_int.l0 k l (l.length : Int) 0 = some r := hr
  rw [List.drop_zero] at hp
  unfold impl_AreBears.f slices_ContainsFunc_int_int.f slices_IndexFunc_int_int.f goodB
  rw [within_val, hr']
  simp only [Option.bind_some, hp, Bool.not_not]
  by_cases h1 : 1 ≤ l.length ∧ l.length ≤ 20
  · rw [if_pos (decide_eq_true (by omega)), decide_eq_true h1, Bool.true_and]
  · rw [if_neg (by simp; omega), decide_eq_false h1, Bool.false_and]

theorem Ev.ite_true {α : Type} {g f : Nat → Option α} {r : α} {b : Bool} (h : b = true) (k : Ev g r) : Ev (fun n => if b = true then g n else f n) r := by
  subst h
  simpa using k
theorem Ev.ite_false {α : Type} {g f : Nat → Option α} {r : α} {b : Bool} (h : b = false) (k : Ev f r) : Ev (fun n => if b = true then g n else f n) r := by
  subst h
  simpa using k

theorem weGood_ev (l : List Int) (hB : l.length ≤ 1048576) : Ev (fun k => spec_weGood.f k l) (goodB l) := ⟨l.length + 1, fun k hk => weGood_val l hB k (by omega)⟩
theorem areBears_ev (l : List Int) (hB : l.length ≤ 1048576) : Ev (fun k => impl_AreBears.f k l) (goodB l) := ⟨l.length + 1, fun k hk => areBears_val l hB k (by omega)⟩
theorem okB_bd {x : Int} (h : okB x = true) : 0 ≤ x ∧ x ≤ 100 := by simpa [okB] using h
/-- What bears are. -/
theorem goodB_bd {l : List Int} (h : goodB l = true) : 1 ≤ l.length ∧ l.length ≤ 20 ∧ ∀ x ∈ l, 0 ≤ x ∧ x ≤ 100 := by
  simp only [goodB, Bool.and_eq_true, decide_eq_true_eq, List.all_eq_true] at h
  exact ⟨h.1.1, h.1.2, fun x hx => okB_bd (h.2 x hx)⟩
theorem getD_bd {l : List Int} {a b : Int} (h : ∀ x ∈ l, a ≤ x ∧ x ≤ b) {i : Nat} (hi : i < l.length) : a ≤ l.getD i 0 ∧ l.getD i 0 ≤ b := by
  rw [List.getD_eq_getElem?_getD, List.getElem?_eq_getElem hi]
  exact h _ (List.getElem_mem hi)

/-- Bears and a reach. -/
def canW (l : List Int) (r : Int) : Bool := goodB l && decide (1 ≤ r ∧ r ≤ 20)
theorem weReach_ev (l : List Int) (hB : l.length ≤ 1048576) (r : Int) : Ev (fun k => spec_weReach.f k l r) (canW l r) := by
  unfold spec_weReach.f canW
  refine Ev.bind (weGood_ev l hB) ?_
  simp only [in_val, Option.bind_some]
  cases goodB l <;> simp <;> exact Ev.now _
theorem canWear_ev (l : List Int) (hB : l.length ≤ 1048576) (r : Int) : Ev (fun k => impl_canWear.f k l r) (canW l r) := by
  unfold impl_canWear.f canW
  refine Ev.bind (areBears_ev l hB) ?_
  simp only [within_val, Option.bind_some]
  cases goodB l <;> simp <;> exact Ev.now _
theorem canW_bd {l : List Int} {r : Int} (h : canW l r = true) : goodB l = true ∧ 1 ≤ r ∧ r ≤ 20 := by
  simp only [canW, Bool.and_eq_true, decide_eq_true_eq] at h
  exact ⟨h.1, h.2.1, h.2.2⟩

/-- The steps that are worn. -/
def Bw (l : List Int) : List Int := ((List.range l.length).filter (fun i => l.getD i 0 == 0)).map (fun i : Nat => (i : Int) + 1)
theorem mem_Bw (l : List Int) (j : Nat) : ((j + 1 : Nat) : Int) ∈ Bw l ↔ j < l.length ∧ l.getD j 0 = 0 := by
  simp only [Bw, List.mem_map, List.mem_filter, List.mem_range, beq_iff_eq]
  constructor
  · rintro ⟨i, ⟨h1, h2⟩, h3⟩
    obtain rfl : i = j := by omega
    exact ⟨h1, h2⟩
  · rintro ⟨h1, h2⟩
    exact ⟨j, ⟨h1, h2⟩, by omega⟩
theorem zero_Bw (l : List Int) : ¬ ((0 : Nat) : Int) ∈ Bw l := by
  simp only [Bw, List.mem_map, not_exists, not_and]
  intro i _ h
  omega
theorem top_Bw (l : List Int) : ¬ ((l.length + 1 : Nat) : Int) ∈ Bw l := fun h => by
  have := ((mem_Bw l l.length).1 h).1
  omega
abbrev Tw (r : Nat) : List Nat := List.range' 1 r
theorem Tw_pos (r : Nat) : ∀ t ∈ Tw r, 1 ≤ t := fun t h => by
  have := List.mem_range'_1.mp h
  omega
theorem Tw_inc : ∀ (m p s : Nat), p < s → incN p (List.range' s m) := by
  intro m
  induction m with
  | zero => intro p s _; trivial
  | succ m ih => intro p s h; exact ⟨h, ih s (s + 1) (by omega)⟩
/-- How many climbs there are from a step, worn or not. -/
def Vs (n : Nat) (T : List Nat) (B : List Int) (j : Nat) : Int := if j = n then 1 else gs (V n T B) n j T
theorem V_Vs (n : Nat) (T : List Nat) (B : List Int) (hT : ∀ t ∈ T, 1 ≤ t) (hB : ¬ (n : Int) ∈ B) (j : Nat) (hj : j ≤ n) : V n T B j = if (j : Int) ∈ B then 0 else Vs n T B j := by
  by_cases h : j = n
  · subst h
    rw [V_top, if_neg hB, Vs, if_pos rfl]
  · rw [V_rec n T B hT j (by omega), Vs, if_neg h]
theorem Vs_bd (n : Nat) (T : List Nat) (B : List Int) (hT : ∀ t ∈ T, 1 ≤ t) (hi : incN 0 T) (j : Nat) (hj : j ≤ n) : 0 ≤ Vs n T B j ∧ Vs n T B j ≤ p2 (n - j) := by
  unfold Vs
  have := p2_pos (n - j)
  split
  · omega
  · exact gs_bd (fun i _ h => V_bd n T B hT hi _ i (Nat.le_refl _) h) T 0 hi
def cq (x : Int) : Int := if x < 1000000000001 then x else 1000000000001
theorem cq_bd {x : Int} (h : 0 ≤ x) : 0 ≤ cq x ∧ cq x ≤ 1000000000001 := by
  unfold cq
  split <;> omega
theorem cq_add {a b : Int} (ha : 0 ≤ a) (hb : 0 ≤ b) : (if cq a + cq b < 1000000000001 then cq a + cq b else 1000000000001) = cq (a + b) := by
  unfold cq
  (repeat' split) <;> omega
theorem gs_range_far (f : Nat → Int) (n j : Nat) : ∀ (m s : Nat), n < j + s → gs f n j (List.range' s m) = 0 := by
  intro m
  induction m with
  | zero => intro s _; rfl
  | succ m ih =>
    intro s h
    simp only [List.range'_succ, gs]
    rw [if_neg (by omega), ih (s + 1) (by omega)]
    rfl
theorem leastw (a b : Int) : spec_l1Least.f a b = some (if a < b then a else b) := by
  unfold spec_l1Least.f
  split <;> rfl
theorem weWays_l1 (l : List Int) (r : Nat) (hl : l.length ≤ 20) (hr : r ≤ 20) (hv : ∀ x ∈ l, 0 ≤ x ∧ x ≤ 100) (j : Nat) (hj : j ≤ l.length) (R : List Int) :
    ∀ (m s : Nat) (acc : Int), s + m = r + 1 → 1 ≤ s → 0 ≤ acc →
    Ev (fun k => spec_weWays.l0 k l (r : Int) ((arr (l.length + 1) (fun i => cq (Vs (l.length + 1) (Tw r) (Bw l) i)) (j + 1)).set j (cq (acc + gs (V (l.length + 1) (Tw r) (Bw l)) (l.length + 1) j (List.range' s m)))) (wrap64 ((j : Int) - 1))) R →
    Ev (fun k => spec_weWays.l1 k l (r : Int) ((arr (l.length + 1) (fun i => cq (Vs (l.length + 1) (Tw r) (Bw l) i)) (j + 1)).set j (cq acc)) (j : Int) ((j + s : Nat) : Int)) R := by
  have hT := Tw_pos r
  have hi : incN 0 (Tw r) := Tw_inc r 0 1 (by omega)
  obtain ⟨n, hn⟩ : ∃ n, n = l.length + 1 := ⟨_, rfl⟩
  have htop : ¬ (n : Int) ∈ Bw l := hn ▸ top_Bw l
  rw [← hn]
  intro m
  induction m with
  | zero =>
    intro s acc hs h1 h0 h
    simp only [List.range'_zero, gs, Int.add_zero] at h
    refine Ev.step (f := fun k => spec_weWays.j2 k l (r : Int) ((arr n (fun i => cq (Vs n (Tw r) (Bw l) i)) (j + 1)).set j (cq acc)) (j : Int) ((j + s : Nat) : Int) false) (fun k => ?_) (Ev.step (fun k => ?_) h)
    · simp only [spec_weWays.l1]
      rw [w_add j r (by omega) (by omega), if_neg (by omega)]
    · simp only [spec_weWays.j2]
      rw [if_neg (by simp)]
  | succ m ih =>
    intro s acc hs h1 h0 h
    simp only [List.range'_succ, gs] at h
    by_cases hk : j + s ≤ n
    · rw [if_pos hk] at h
      have hV := V_Vs n (Tw r) (Bw l) hT htop (j + s) hk
      have hVb := V_bd n (Tw r) (Bw l) hT hi _ (j + s) (Nat.le_refl _) hk
      have hSb := Vs_bd n (Tw r) (Bw l) hT hi (j + s) hk
      have b1 := cq_bd h0
      have b2 := cq_bd hSb.1
      have hlen : ((arr n (fun i => cq (Vs n (Tw r) (Bw l) i)) (j + 1)).set j (cq acc)).length = n + 1 := by rw [List.length_set, arr_len]
      have g1 : rd ((arr n (fun i => cq (Vs n (Tw r) (Bw l) i)) (j + 1)).set j (cq acc)) (j : Int) = cq acc := by
        rw [rd_nat, getD_set _ _ _ _ (by rw [arr_len]; omega), if_pos rfl]
      have g2 : rd ((arr n (fun i => cq (Vs n (Tw r) (Bw l) i)) (j + 1)).set j (cq acc)) ((j + s : Nat) : Int) = cq (Vs n (Tw r) (Bw l) (j + s)) := by
        rw [rd_nat, getD_set _ _ _ _ (by rw [arr_len]; omega), if_neg (by omega), arr_get _ _ _ _ hk, if_pos (by omega)]
      have st1 : ∀ k, spec_weWays.l1 (k + 1) l (r : Int) ((arr n (fun i => cq (Vs n (Tw r) (Bw l) i)) (j + 1)).set j (cq acc)) (j : Int) ((j + s : Nat) : Int) = spec_weWays.j2 k l (r : Int) ((arr n (fun i => cq (Vs n (Tw r) (Bw l) i)) (j + 1)).set j (cq acc)) (j : Int) ((j + s : Nat) : Int) true := by
        intro k
        simp only [spec_weWays.l1]
        rw [w_add j r (by omega) (by omega), if_pos (by omega), wsucc l.length (by omega), decide_eq_true (by omega)]
      have e1 : ((j + s : Nat) : Int) + 1 = ((j + (s + 1) : Nat) : Int) := by omega
      by_cases htopk : j + s = n
      · have hV1 : V n (Tw r) (Bw l) (j + s) = Vs n (Tw r) (Bw l) (j + s) := by rw [hV, if_neg (by rw [htopk]; exact htop)]
        rw [hV1] at h hVb
        have h2 := ih (s + 1) (acc + Vs n (Tw r) (Bw l) (j + s)) (by omega) (by omega) (by omega) (by rw [Int.add_assoc]; exact h)
        refine Ev.step st1 (Ev.step (fun k => ?_) h2)
        simp only [spec_weWays.j2]
        rw [if_pos trivial, if_pos (by omega), if_pos (by omega), hlen, if_pos (by omega), if_pos (by omega), if_pos (by omega), g1, g2, w_id (x := cq acc + cq (Vs n (Tw r) (Bw l) (j + s))) (by omega) (by omega), leastw, cq_add h0 hSb.1, wsucc (j + s) (by omega)]
        simp only [Option.bind_some, Int.toNat_natCast, List.set_set]
        rfl
      · obtain ⟨q, hq⟩ : ∃ q, j + s = q + 1 := ⟨j + s - 1, by omega⟩
        have hmem := mem_Bw l q
        rw [← hq] at hmem
        have hq2 : wrap64 (((j + s : Nat) : Int) - 1) = (q : Int) := by
          rw [hq, w_pred (q + 1) (by omega) (by omega), Nat.add_sub_cancel]
        have hpos : 0 ≤ l.getD q 0 := by
          have := hv (l.getD q 0) (by rw [List.getD_eq_getElem?_getD, List.getElem?_eq_getElem (by omega)]; exact List.getElem_mem _)
          exact this.1
        by_cases hw : l.getD q 0 = 0
        · have hV0 : V n (Tw r) (Bw l) (j + s) = 0 := by rw [hV, if_pos (hmem.2 ⟨by omega, hw⟩)]
          rw [hV0, Int.zero_add] at h
          have h2 := ih (s + 1) acc (by omega) (by omega) h0 h
          refine Ev.step st1 (Ev.step (fun k => ?_) h2)
          simp only [spec_weWays.j2]
          rw [if_pos trivial, if_neg (by omega), hq2]
          clear hq2
          rw [if_pos (by omega), if_pos (by omega), rd_nat, if_neg (by omega), wsucc (j + s) (by omega)]
          rfl
        · have hV1 : V n (Tw r) (Bw l) (j + s) = Vs n (Tw r) (Bw l) (j + s) := by rw [hV, if_neg (fun h => hw (hmem.1 h).2)]
          rw [hV1] at h hVb
          clear hq2
          have h2 := ih (s + 1) (acc + Vs n (Tw r) (Bw l) (j + s)) (by omega) (by omega) (by omega) (by rw [Int.add_assoc]; exact h)
          refine Ev.step st1 (Ev.step (fun k => ?_) h2)
          simp only [spec_weWays.j2]
          rw [if_pos trivial, if_neg (by omega), show wrap64 (((j + s : Nat) : Int) - 1) = (q : Int) by rw [hq, w_pred (q + 1) (by omega) (by omega), Nat.add_sub_cancel], if_pos (by omega), if_pos (by omega), rd_nat l, if_pos (by omega), if_pos (by omega), hlen, if_pos (by omega), if_pos (by omega), if_pos (by omega), g1, g2, w_id (x := cq acc + cq (Vs n (Tw r) (Bw l) (j + s))) (by omega) (by omega), leastw, cq_add h0 hSb.1, wsucc (j + s) (by omega)]
          simp only [Option.bind_some, Int.toNat_natCast, List.set_set]
          rfl
    · rw [if_neg hk, gs_range_far _ _ _ _ _ (by omega), Int.add_zero, Int.add_zero] at h
      refine Ev.step (f := fun k => spec_weWays.j2 k l (r : Int) ((arr n (fun i => cq (Vs n (Tw r) (Bw l) i)) (j + 1)).set j (cq acc)) (j : Int) ((j + s : Nat) : Int) false) (fun k => ?_) (Ev.step (fun k => ?_) h)
      · simp only [spec_weWays.l1]
        rw [w_add j r (by omega) (by omega), if_pos (by omega), wsucc l.length (by omega), decide_eq_false (by omega)]
      · simp only [spec_weWays.j2]
        rw [if_neg (by simp)]
theorem weWays_l0 (l : List Int) (r : Nat) (hl : l.length ≤ 20) (hr : r ≤ 20) (hv : ∀ x ∈ l, 0 ≤ x ∧ x ≤ 100) : ∀ (m : Nat), m ≤ l.length + 1 →
    Ev (fun k => spec_weWays.l0 k l (r : Int) (arr (l.length + 1) (fun i => cq (Vs (l.length + 1) (Tw r) (Bw l) i)) m) (wrap64 ((m : Int) - 1))) (arr (l.length + 1) (fun i => cq (Vs (l.length + 1) (Tw r) (Bw l) i)) 0) := by
  intro m
  induction m with
  | zero =>
    intro _
    refine Ev.step (fun k => ?_) (Ev.now _)
    simp only [spec_weWays.l0]
    rw [w_id (x := ((0 : Nat) : Int) - 1) (by omega) (by omega), if_neg (by omega)]
  | succ m ih =>
    intro hm
    have h0 : cq 0 = 0 := by decide
    have hvs : Vs (l.length + 1) (Tw r) (Bw l) m = gs (V (l.length + 1) (Tw r) (Bw l)) (l.length + 1) m (Tw r) := if_neg (by omega)
    have h1 := weWays_l1 l r hl hr hv m (by omega) (arr (l.length + 1) (fun i => cq (Vs (l.length + 1) (Tw r) (Bw l) i)) 0) r 1 0 (by omega) (by omega) (by omega)
      (by rw [Int.zero_add, arr_put (l.length + 1) (fun i => cq (Vs (l.length + 1) (Tw r) (Bw l) i)) m _ (by omega) (by rw [hvs])]; exact ih (by omega))
    rw [h0, ← arr_zero _ _ m (by omega), ← wsucc m (by omega)] at h1
    refine Ev.step (fun k => ?_) h1
    simp only [spec_weWays.l0]
    rw [w_pred (m + 1) (by omega) (by omega), Nat.add_sub_cancel, if_pos (by omega)]
theorem wtwo (q m : Nat) (h : q = m + 1) (hm : m ≤ 1000000000) : wrap64 ((m : Int) + 2) = ((q + 1 : Nat) : Int) := by
  rw [w_id (by omega) (by omega)]
  omega
theorem weWays_ev (l : List Int) (r : Nat) (hl : l.length ≤ 20) (hr : r ≤ 20) (hv : ∀ x ∈ l, 0 ≤ x ∧ x ≤ 100) : Ev (fun k => spec_weWays.f k l (r : Int)) (arr (l.length + 1) (fun i => cq (Vs (l.length + 1) (Tw r) (Bw l) i)) 0) := by
  have h := weWays_l0 l r hl hr hv (l.length + 1) (Nat.le_refl _)
  rw [w_pred (l.length + 1) (by omega) (by omega), Nat.add_sub_cancel, ← arr_top (l.length + 1) _ 1 (by rw [Vs, if_pos rfl]; decide)] at h
  refine Ev.congr (fun k => ?_) h
  unfold spec_weWays.f
  obtain ⟨q, hq⟩ : ∃ q, q = l.length + 1 := ⟨_, rfl⟩
  rw [wtwo q l.length hq (by omega), wsucc l.length (by omega), ← hq, if_pos (by omega), Int.toNat_natCast, if_pos (by omega)]
  simp only [Option.bind_some]
  rw [if_pos (by omega), List.length_replicate, if_pos (by omega), Int.toNat_natCast]

/-- A row that is filled from its end; d where it isn't yet. -/
def ard (d : Int) (n : Nat) (f : Nat → Int) (m : Nat) : List Int := (List.range (n + 1)).map (fun j => if m ≤ j then f j else d)
theorem ard_len (d : Int) (n : Nat) (f : Nat → Int) (m : Nat) : (ard d n f m).length = n + 1 := by simp [ard]
theorem ard_get (d : Int) (n : Nat) (f : Nat → Int) (m j : Nat) (h : j ≤ n) : (ard d n f m).getD j 0 = if m ≤ j then f j else d := by
  simp only [ard, List.getD_eq_getElem?_getD, List.getElem?_map, List.getElem?_range (show j < n + 1 by omega), Option.map_some, Option.getD_some]
theorem ard_ext {d : Int} {n : Nat} {f : Nat → Int} {m : Nat} {x : List Int} (hl : x.length = n + 1) (h : ∀ j, j ≤ n → x.getD j 0 = if m ≤ j then f j else d) : x = ard d n f m := by
  refine List.ext_getElem (by rw [hl, ard_len]) (fun j h1 h2 => ?_)
  have h3 := h j (by omega)
  rw [← ard_get d n f m j (by omega), List.getD_eq_getElem?_getD, List.getD_eq_getElem?_getD, List.getElem?_eq_getElem h1, List.getElem?_eq_getElem h2] at h3
  exact h3
theorem ard_put (d : Int) (n : Nat) (f : Nat → Int) (m : Nat) (v : Int) (h : m ≤ n) (hv : f m = v) : (ard d n f (m + 1)).set m v = ard d n f m := by
  refine ard_ext (by rw [List.length_set, ard_len]) (fun j hj => ?_)
  rw [getD_set _ _ _ _ (by rw [ard_len]; omega), ard_get d n f _ j hj]
  by_cases h1 : m = j
  · subst h1
    rw [if_pos rfl, if_pos (Nat.le_refl _), hv]
  · rw [if_neg h1]
    by_cases h2 : m ≤ j
    · rw [if_pos h2, if_pos (by omega)]
    · rw [if_neg h2, if_neg (by omega)]
theorem ard_d (d : Int) (n : Nat) (f : Nat → Int) (m : Nat) (h : m ≤ n) : ard d n f (m + 1) = (ard d n f (m + 1)).set m d := by
  symm
  refine ard_ext (by rw [List.length_set, ard_len]) (fun j hj => ?_)
  rw [getD_set _ _ _ _ (by rw [ard_len]; omega), ard_get d n f _ j hj]
  by_cases h1 : m = j
  · subst h1
    rw [if_pos rfl, if_neg (by omega)]
  · rw [if_neg h1]
theorem ard_top (d : Int) (n : Nat) (f : Nat → Int) (v : Int) (h : f n = v) : (List.replicate (n + 1) d).set n v = ard d n f n := by
  refine ard_ext (by rw [List.length_set, List.length_replicate]) (fun j hj => ?_)
  rw [getD_set _ _ _ _ (by rw [List.length_replicate]; omega)]
  by_cases h1 : n = j
  · subst h1
    rw [if_pos rfl, if_pos (Nat.le_refl _), h]
  · rw [if_neg h1, if_neg (by omega), List.getD_eq_getElem?_getD, List.getElem?_replicate, if_pos (by omega)]
    rfl
/-- Strides less one; -1: none. -/
def E1 (v : Int) : Int := if v < 0 then -1 else v - 1
def Fw (n : Nat) (T : List Nat) (B : List Int) (j : Nat) : Int := if j = n then 0 else E1 (Lf n T B false j)
theorem lf_neg {most : Bool} {f : Nat → Int} {n j : Nat} : ∀ (ss : List Nat) (acc : Int), lf most f n j acc ss < 0 → acc < 0 ∧ ∀ s ∈ ss, j + s ≤ n → f (j + s) < 0 := by
  intro ss
  induction ss with
  | nil => intro acc h; exact ⟨h, fun s hs => by simp at hs⟩
  | cons s ss ih =>
    intro acc h
    simp only [lf] at h
    obtain ⟨h1, h2⟩ := ih _ h
    by_cases hc : j + s ≤ n ∧ 0 ≤ f (j + s)
    · rw [if_pos hc] at h1
      have : 0 ≤ btr most acc (f (j + s) + 1) := by
        unfold btr
        (repeat' split) <;> omega
      omega
    · rw [if_neg hc] at h1
      refine ⟨h1, fun t ht hn => ?_⟩
      rcases List.mem_cons.mp ht with e | ht
      · subst e
        by_cases h3 : f (j + t) < 0
        · exact h3
        · exact absurd ⟨hn, by omega⟩ hc
      · exact h2 t ht hn
theorem Lf_V (n : Nat) (T : List Nat) (B : List Int) (hT : ∀ t ∈ T, 1 ≤ t) (hi : incN 0 T) : ∀ (d j : Nat), n - j ≤ d → j ≤ n → (0 < V n T B j ↔ 0 ≤ Lf n T B false j) := by
  intro d
  induction d with
  | zero =>
    intro j h1 h2
    obtain rfl : j = n := by omega
    rw [V_top, Lf_top]
    omega
  | succ d ih =>
    intro j h1 h2
    by_cases hj : j = n
    · subst hj
      rw [V_top, Lf_top]
      omega
    · rw [V_rec n T B hT j (by omega), Lf_rec n T B false hT j (by omega)]
      by_cases hb : (j : Int) ∈ B
      · rw [if_pos hb, if_pos hb]
        omega
      · rw [if_neg hb, if_neg hb, gs_pos (fun i _ h => (V_bd n T B hT hi _ i (Nat.le_refl _) h).1) hT]
        constructor
        · rintro ⟨s, a, b, c⟩
          have h3 := (ih (j + s) (by have := hT s a; omega) b).1 c
          by_cases h4 : lf false (Lf n T B false) n j (-1) T < 0
          · have := (lf_neg T (-1) h4).2 s a b
            omega
          · omega
        · intro h
          rcases lf_or (most := false) (f := Lf n T B false) (n := n) (j := j) T (-1) with h4 | ⟨s, a, b, c, _⟩
          · omega
          · exact ⟨s, a, b, (ih (j + s) (by have := hT s a; omega) b).2 c⟩
theorem Lf_ge1 (n : Nat) (T : List Nat) (B : List Int) (hT : ∀ t ∈ T, 1 ≤ t) (j : Nat) (hj : j < n) (h : 0 ≤ Lf n T B false j) : 1 ≤ Lf n T B false j := by
  have hr := Lf_rec n T B false hT j hj
  by_cases hb : (j : Int) ∈ B
  · rw [if_pos hb] at hr
    omega
  · rw [if_neg hb] at hr
    rcases lf_or (most := false) (f := Lf n T B false) (n := n) (j := j) T (-1) with h4 | ⟨s, a, b, c, d⟩ <;> omega
theorem lf_range_far (most : Bool) (f : Nat → Int) (n j : Nat) : ∀ (m s : Nat) (acc : Int), n < j + s → lf most f n j acc (List.range' s m) = acc := by
  intro m
  induction m with
  | zero => intro s acc _; rfl
  | succ m ih =>
    intro s acc h
    simp only [List.range'_succ, lf]
    rw [if_neg (fun h2 => by omega), ih (s + 1) acc (by omega)]
theorem mn_nat (a b : Nat) : mn (a : Int) (b : Int) = ((min a b : Nat) : Int) := by
  unfold mn
  split <;> omega
theorem upd_few {fa L : Int} (h2 : 0 ≤ fa → 1 ≤ fa) (hL : 0 ≤ L) : (if E1 fa < 0 then L else if L < E1 fa then L else E1 fa) = E1 (btr false fa (L + 1)) := by
  unfold btr E1
  simp only [Bool.false_eq_true, if_false]
  (repeat' split) <;> omega
theorem upd_row (Z : List Int) (j : Nat) {fa L : Int} (h2 : 0 ≤ fa → 1 ≤ fa) (hL : 0 ≤ L) : (if E1 fa < 0 then (Z.set j (E1 fa)).set j L else if L < E1 fa then (Z.set j (E1 fa)).set j L else Z.set j (E1 fa)) = Z.set j (E1 (btr false fa (L + 1))) := by
  rw [← upd_few h2 hL]
  by_cases a1 : E1 fa < 0
  · rw [if_pos a1, if_pos a1, List.set_set]
  · rw [if_neg a1, if_neg a1]
    by_cases a2 : L < E1 fa
    · rw [if_pos a2, if_pos a2, List.set_set]
    · rw [if_neg a2, if_neg a2]
theorem ways_l1 (l : List Int) (r : Nat) (hl : l.length ≤ 20) (hr : r ≤ 20) (j : Nat) (hj : j ≤ l.length) (R : List Int × List Int) :
    ∀ (m s : Nat) (acc fa : Int), s + m = r + 1 → 1 ≤ s → 0 ≤ acc → acc + gs (V (l.length + 1) (Tw r) (Bw l)) (l.length + 1) j (List.range' s m) ≤ 1152921504606846976 → (fa < 0 → fa = -1) → (0 ≤ fa → 1 ≤ fa) →
    (∀ c f, c = acc + gs (V (l.length + 1) (Tw r) (Bw l)) (l.length + 1) j (List.range' s m) → f = lf false (Lf (l.length + 1) (Tw r) (Bw l) false) (l.length + 1) j fa (List.range' s m) →
      Ev (fun k => impl_ways.l1 k l (r : Int) ((l.length + 1 : Nat) : Int) ((arr (l.length + 1) (V (l.length + 1) (Tw r) (Bw l)) (j + 1)).set j c) ((ard (-1) (l.length + 1) (Fw (l.length + 1) (Tw r) (Bw l)) (j + 1)).set j (E1 f)) (j : Int) ((min (j + r) (l.length + 1) + 1 : Nat) : Int)) R) →
    j + s ≤ min (j + r) (l.length + 1) + 1 →
    Ev (fun k => impl_ways.l1 k l (r : Int) ((l.length + 1 : Nat) : Int) ((arr (l.length + 1) (V (l.length + 1) (Tw r) (Bw l)) (j + 1)).set j acc) ((ard (-1) (l.length + 1) (Fw (l.length + 1) (Tw r) (Bw l)) (j + 1)).set j (E1 fa)) (j : Int) ((j + s : Nat) : Int)) R := by
  have hT := Tw_pos r
  have hi : incN 0 (Tw r) := Tw_inc r 0 1 (by omega)
  obtain ⟨n, hn⟩ : ∃ n, n = l.length + 1 := ⟨_, rfl⟩
  rw [← hn]
  intro m
  induction m with
  | zero =>
    intro s acc fa hs h1 h0 hb hf1 hf2 h hle
    have h2 := h acc fa (by simp [gs]) (by simp [lf])
    have e : min (j + r) n + 1 = j + s := by omega
    rw [e] at h2
    exact h2
  | succ m ih =>
    intro s acc fa hs h1 h0 hb hf1 hf2 h hle
    simp only [List.range'_succ, gs, lf] at h hb
    by_cases hk : j + s ≤ n
    · rw [if_pos hk] at h hb
      have hmin : j + s ≤ min (j + r) n := by omega
      have hVb := V_bd n (Tw r) (Bw l) hT hi _ (j + s) (Nat.le_refl _) hk
      have hLb := Lf_bd n (Tw r) (Bw l) false hT _ (j + s) (Nat.le_refl _) hk
      have hLV := Lf_V n (Tw r) (Bw l) hT hi _ (j + s) (Nat.le_refl _) hk
      have hLn := Lf_top n (Tw r) (Bw l) false
      have hrest : 0 ≤ gs (V n (Tw r) (Bw l)) n j (List.range' (s + 1) m) := gs_nonneg (fun i _ h => (V_bd n (Tw r) (Bw l) hT hi _ i (Nat.le_refl _) h).1) _ (fun t ht => by have := List.mem_range'_1.mp ht; omega)
      have hlx : ((arr n (V n (Tw r) (Bw l)) (j + 1)).set j acc).length = n + 1 := by rw [List.length_set, arr_len]
      have hly : ((ard (-1) n (Fw n (Tw r) (Bw l)) (j + 1)).set j (E1 fa)).length = n + 1 := by rw [List.length_set, ard_len]
      have gx1 : rd ((arr n (V n (Tw r) (Bw l)) (j + 1)).set j acc) (j : Int) = acc := by
        rw [rd_nat, getD_set _ _ _ _ (by rw [arr_len]; omega), if_pos rfl]
      have gx2 : rd ((arr n (V n (Tw r) (Bw l)) (j + 1)).set j acc) ((j + s : Nat) : Int) = V n (Tw r) (Bw l) (j + s) := by
        rw [rd_nat, getD_set _ _ _ _ (by rw [arr_len]; omega), if_neg (by omega), arr_get _ _ _ _ hk, if_pos (by omega)]
      have gy1 : rd ((ard (-1) n (Fw n (Tw r) (Bw l)) (j + 1)).set j (E1 fa)) (j : Int) = E1 fa := by
        rw [rd_nat, getD_set _ _ _ _ (by rw [ard_len]; omega), if_pos rfl]
      have gy2 : rd ((ard (-1) n (Fw n (Tw r) (Bw l)) (j + 1)).set j (E1 fa)) ((j + s : Nat) : Int) = Fw n (Tw r) (Bw l) (j + s) := by
        rw [rd_nat, getD_set _ _ _ _ (by rw [ard_len]; omega), if_neg (by omega), ard_get _ _ _ _ _ hk, if_pos (by omega)]
      by_cases hL : Lf n (Tw r) (Bw l) false (j + s) < 0
      · have hV0 : V n (Tw r) (Bw l) (j + s) = 0 := by omega
        have hne : j + s ≠ n := fun h => by rw [h] at hL; omega
        have hF : Fw n (Tw r) (Bw l) (j + s) = -1 := by
          unfold Fw E1
          rw [if_neg hne, if_pos hL]
        have e : (if j + s ≤ n ∧ 0 ≤ Lf n (Tw r) (Bw l) false (j + s) then btr false fa (Lf n (Tw r) (Bw l) false (j + s) + 1) else fa) = fa := if_neg (fun h => by omega)
        rw [e, hV0, Int.zero_add] at h
        rw [hV0, Int.zero_add] at hb
        refine Ev.step (fun k => ?_) (ih (s + 1) acc fa (by omega) (by omega) h0 hb hf1 hf2 h (by omega))
        simp only [impl_ways.l1]
        rw [w_add j r (by omega) (by omega), mn_nat, if_pos (by omega), if_pos (by omega), hly, if_pos (by omega), gy2, hF, if_pos (by omega), wsucc (j + s) (by omega)]
        rfl
      · have e : (if j + s ≤ n ∧ 0 ≤ Lf n (Tw r) (Bw l) false (j + s) then btr false fa (Lf n (Tw r) (Bw l) false (j + s) + 1) else fa) = btr false fa (Lf n (Tw r) (Bw l) false (j + s) + 1) := if_pos ⟨hk, by omega⟩
        rw [e] at h
        have hbt : (btr false fa (Lf n (Tw r) (Bw l) false (j + s) + 1) < 0 → btr false fa (Lf n (Tw r) (Bw l) false (j + s) + 1) = -1) ∧ (0 ≤ btr false fa (Lf n (Tw r) (Bw l) false (j + s) + 1) → 1 ≤ btr false fa (Lf n (Tw r) (Bw l) false (j + s) + 1)) := by
          unfold btr
          simp only [Bool.false_eq_true, if_false]
          constructor <;> (repeat' split) <;> omega
        have h2 := ih (s + 1) (acc + V n (Tw r) (Bw l) (j + s)) (btr false fa (Lf n (Tw r) (Bw l) false (j + s) + 1)) (by omega) (by omega) (by omega) (by omega) hbt.1 hbt.2 (fun c f hc hf => h c f (by rw [hc]; omega) hf) (by omega)
        by_cases htop : j + s = n
        · have hF : Fw n (Tw r) (Bw l) (j + s) = 0 := if_pos htop
          have hL0 : Lf n (Tw r) (Bw l) false (j + s) = 0 := by rw [htop]; exact hLn
          refine Ev.step (fun k => ?_) h2
          rw [hL0, ← upd_row _ j hf2 (by omega)]
          simp only [impl_ways.l1]
          rw [w_add j r (by omega) (by omega), mn_nat, if_pos (by omega), if_pos (by omega), hly, if_pos (by omega), gy2, hF, if_neg (by omega), if_pos (by omega), if_pos (by omega), hlx, if_pos (by omega), if_pos (by omega)]
          simp only [Option.bind_some]
          rw [if_pos (by omega), gy1, gx1, gx2, w_id (x := acc + V n (Tw r) (Bw l) (j + s)) (by omega) (by omega), wsucc (j + s) (by omega), Int.toNat_natCast, List.set_set]
          by_cases a1 : E1 fa < 0
          · rw [if_pos a1, if_pos a1]
            rfl
          · rw [if_neg a1, if_neg a1]
            by_cases a2 : 0 < E1 fa
            · rw [if_pos a2, if_pos a2]
              rfl
            · rw [if_neg a2, if_neg a2]
              rfl
        · have hL1 := Lf_ge1 n (Tw r) (Bw l) hT (j + s) (by omega) (by omega)
          have hF : Fw n (Tw r) (Bw l) (j + s) = Lf n (Tw r) (Bw l) false (j + s) - 1 := by
            unfold Fw E1
            rw [if_neg htop, if_neg hL]
          refine Ev.step (fun k => ?_) h2
          rw [← upd_row _ j hf2 (by omega)]
          simp only [impl_ways.l1]
          rw [w_add j r (by omega) (by omega), mn_nat, if_pos (by omega), if_pos (by omega), hly, if_pos (by omega), gy2, hF, if_neg (by omega), if_neg (by omega), if_pos (by omega), hlx, if_pos (by omega), if_pos (by omega)]
          simp only [Option.bind_some]
          rw [if_pos (by omega), gy1, gx1, gx2, Int.sub_add_cancel, w_id (x := Lf n (Tw r) (Bw l) false (j + s)) (by omega) (by omega), w_id (x := acc + V n (Tw r) (Bw l) (j + s)) (by omega) (by omega), wsucc (j + s) (by omega), Int.toNat_natCast, List.set_set]
          by_cases a1 : E1 fa < 0
          · rw [if_pos a1, if_pos a1]
            rfl
          · rw [if_neg a1, if_neg a1]
            by_cases a2 : Lf n (Tw r) (Bw l) false (j + s) < E1 fa
            · rw [if_pos a2, if_pos a2]
              rfl
            · rw [if_neg a2, if_neg a2]
              rfl
    · have h2 := h acc fa (by rw [if_neg hk, gs_range_far _ _ _ _ _ (by omega)]; omega) (by rw [if_neg (fun h => hk h.1), lf_range_far _ _ _ _ _ _ _ (by omega)])
      have e : min (j + r) n + 1 = j + s := by omega
      rw [e] at h2
      exact h2
theorem ways_end (l : List Int) (r : Nat) (hl : l.length ≤ 20) (hr : r ≤ 20) (j : Nat) (hj : j ≤ l.length) (R : List Int × List Int)
    (h : Ev (fun k => impl_ways.l0 k l (r : Int) ((l.length + 1 : Nat) : Int) (arr (l.length + 1) (V (l.length + 1) (Tw r) (Bw l)) j) (ard (-1) (l.length + 1) (Fw (l.length + 1) (Tw r) (Bw l)) j) (wrap64 ((j : Int) - 1))) R)
    (c f : Int) (hc : c = gs (V (l.length + 1) (Tw r) (Bw l)) (l.length + 1) j (Tw r)) (hf : f = lf false (Lf (l.length + 1) (Tw r) (Bw l) false) (l.length + 1) j (-1) (Tw r)) :
    Ev (fun k => impl_ways.l1 k l (r : Int) ((l.length + 1 : Nat) : Int) ((arr (l.length + 1) (V (l.length + 1) (Tw r) (Bw l)) (j + 1)).set j c) ((ard (-1) (l.length + 1) (Fw (l.length + 1) (Tw r) (Bw l)) (j + 1)).set j (E1 f)) (j : Int) ((min (j + r) (l.length + 1) + 1 : Nat) : Int)) R := by
  have hT := Tw_pos r
  obtain ⟨n, hn⟩ : ∃ n, n = l.length + 1 := ⟨_, rfl⟩
  rw [← hn] at h hc hf ⊢
  have hV := V_rec n (Tw r) (Bw l) hT j (by omega)
  have hL := Lf_rec n (Tw r) (Bw l) false hT j (by omega)
  have hF : Fw n (Tw r) (Bw l) j = E1 (Lf n (Tw r) (Bw l) false j) := if_neg (by omega)
  have hlx : ((arr n (V n (Tw r) (Bw l)) (j + 1)).set j c).length = n + 1 := by rw [List.length_set, arr_len]
  have hly : ((ard (-1) n (Fw n (Tw r) (Bw l)) (j + 1)).set j (E1 f)).length = n + 1 := by rw [List.length_set, ard_len]
  refine Ev.step (fun k => ?_) h
  simp only [impl_ways.l1]
  rw [w_add j r (by omega) (by omega), mn_nat, if_neg (by omega)]
  cases j with
  | zero =>
    rw [if_neg (zero_Bw l)] at hV hL
    rw [if_neg (by omega), arr_put n _ 0 c (by omega) (by rw [hV, hc]), ard_put (-1) n _ 0 (E1 f) (by omega) (by rw [hF, hL, hf])]
  | succ q =>
    have hm := mem_Bw l q
    rw [if_pos (by omega), show wrap64 (((q + 1 : Nat) : Int) - 1) = (q : Int) by rw [w_pred (q + 1) (by omega) (by omega), Nat.add_sub_cancel], if_pos (by omega), if_pos (by omega), rd_nat]
    by_cases hw : l.getD q 0 = 0
    · rw [if_pos (hm.2 ⟨by omega, hw⟩)] at hV hL
      rw [if_pos hw, if_pos (by omega), hlx, if_pos (by omega), hly, if_pos (by omega), Int.toNat_natCast, List.set_set, List.set_set, arr_put n _ (q + 1) 0 (by omega) hV, ard_put (-1) n _ (q + 1) (-1) (by omega) (by rw [hF, hL]; rfl)]
    · rw [if_neg (fun h => hw (hm.1 h).2)] at hV hL
      rw [if_neg hw, arr_put n _ (q + 1) c (by omega) (by rw [hV, hc]), ard_put (-1) n _ (q + 1) (E1 f) (by omega) (by rw [hF, hL, hf])]
theorem ways_l0 (l : List Int) (r : Nat) (hl : l.length ≤ 20) (h1r : 1 ≤ r) (hr : r ≤ 20) : ∀ (m : Nat), m ≤ l.length + 1 →
    Ev (fun k => impl_ways.l0 k l (r : Int) ((l.length + 1 : Nat) : Int) (arr (l.length + 1) (V (l.length + 1) (Tw r) (Bw l)) m) (ard (-1) (l.length + 1) (Fw (l.length + 1) (Tw r) (Bw l)) m) (wrap64 ((m : Int) - 1)))
      (arr (l.length + 1) (V (l.length + 1) (Tw r) (Bw l)) 0, ard (-1) (l.length + 1) (Fw (l.length + 1) (Tw r) (Bw l)) 0) := by
  have hT := Tw_pos r
  have hi : incN 0 (Tw r) := Tw_inc r 0 1 (by omega)
  intro m
  induction m with
  | zero =>
    intro _
    refine Ev.step (fun k => ?_) (Ev.now _)
    simp only [impl_ways.l0]
    rw [w_id (x := ((0 : Nat) : Int) - 1) (by omega) (by omega), if_neg (by omega)]
  | succ m ih =>
    intro hm
    have hb := (gs_bd (f := V (l.length + 1) (Tw r) (Bw l)) (n := l.length + 1) (j := m) (fun i _ h => V_bd (l.length + 1) (Tw r) (Bw l) hT hi _ i (Nat.le_refl _) h) (Tw r) 0 hi).2
    have h60 := p2_60 (d := l.length + 1 - m - 0) (by omega)
    have h1 := ways_l1 l r hl hr m (by omega) (arr (l.length + 1) (V (l.length + 1) (Tw r) (Bw l)) 0, ard (-1) (l.length + 1) (Fw (l.length + 1) (Tw r) (Bw l)) 0) r 1 0 (-1) (by omega) (by omega) (by omega) (by show 0 + gs (V (l.length + 1) (Tw r) (Bw l)) (l.length + 1) m (Tw r) ≤ _; omega) (fun _ => rfl) (fun h => by omega)
      (fun c f hc hf => ways_end l r hl hr m (by omega) _ (ih (by omega)) c f (by rw [hc, Int.zero_add]) hf) (by omega)
    have e1 : E1 (-1) = -1 := rfl
    rw [e1, ← arr_zero _ _ m (by omega), ← ard_d (-1) _ _ m (by omega), ← wsucc m (by omega)] at h1
    refine Ev.step (fun k => ?_) h1
    simp only [impl_ways.l0]
    rw [w_pred (m + 1) (by omega) (by omega), Nat.add_sub_cancel, if_pos (by omega)]
theorem ways_ev (l : List Int) (r : Nat) (hl : l.length ≤ 20) (h1r : 1 ≤ r) (hr : r ≤ 20) : Ev (fun k => impl_ways.f k l (r : Int)) (arr (l.length + 1) (V (l.length + 1) (Tw r) (Bw l)) 0, ard (-1) (l.length + 1) (Fw (l.length + 1) (Tw r) (Bw l)) 0) := by
  have h := ways_l0 l r hl h1r hr (l.length + 1) (Nat.le_refl _)
  obtain ⟨n, hn⟩ : ∃ n, n = l.length + 1 := ⟨_, rfl⟩
  rw [← hn] at h ⊢
  rw [← arr_top n _ 1 (V_top n _ _), ← ard_top (-1) n _ 0 (if_pos rfl)] at h
  refine Ev.congr (fun k => ?_) h
  unfold impl_ways.f slices_Repeat_int_int.f
  rw [wsucc l.length (by omega), ← hn, wsucc n (by omega), if_pos (by omega), Int.toNat_natCast, if_pos (by omega)]
  simp only [Option.bind_some]
  rw [if_pos ⟨rfl, by omega, by omega⟩]
  simp only [Option.bind_some]
  rw [if_pos (by omega), List.length_replicate, if_pos (by omega), List.length_replicate, if_pos (by omega)]
  rfl
theorem weReach_cases (l : List Int) (r : Int) (hl : l.length ≤ 1048576) : (∃ n : Nat, r = (n : Int) ∧ 1 ≤ n ∧ n ≤ 20 ∧ l.length ≤ 20 ∧ (∀ x ∈ l, 0 ≤ x ∧ x ≤ 100) ∧ canW l r = true) ∨ canW l r = false := by
  cases h : canW l r
  · exact Or.inr rfl
  · obtain ⟨h1, h2, h3⟩ := canW_bd h
    obtain ⟨g1, g2, g3⟩ := goodB_bd h1
    exact Or.inl ⟨r.toNat, by omega, by omega, by omega, g2, g3, rfl⟩

theorem toIntS_l (l : List Int) (hB : l.length ≤ 1048576) : ∀ (d k i : Nat) (x : List Int), l.length - i = d → d < k → i ≤ l.length → x.length = l.length → x.take i = l.take i →
    laws_toIntS.l0 k l x (i : Int) = some l := by
  intro d
  induction d with
  | zero =>
    intro k i x hd hk hi hx ht
    obtain ⟨k, rfl⟩ := kpred hk
    have e : i = l.length := by omega
    simp only [laws_toIntS.l0]
    rw [if_neg (by omega)]
    have h1 := ht
    rw [e, List.take_length, ← hx, List.take_length] at h1
    rw [h1]
  | succ d ih =>
    intro k i x hd hk hi hx ht
    obtain ⟨k, rfl⟩ := kpred hk
    simp only [laws_toIntS.l0]
    rw [if_pos (by omega), if_pos (by omega), if_pos (by omega), wsucc i (by omega), Int.toNat_natCast, rd_nat]
    refine ih k (i + 1) _ (by omega) (by omega) (by omega) (by simpa using hx) ?_
    rw [take_set_succ _ _ _ (by omega), take_get_succ _ _ (by omega), ht]
theorem toIntS_val (l : List Int) (hB : l.length ≤ 1048576) (k : Nat) (hk : l.length < k) : laws_toIntS.f k l = some l := by
  unfold laws_toIntS.f
  rw [if_pos (by omega), if_pos (by rw [Int.toNat_natCast]; omega)]
  exact toIntS_l l hB l.length k 0 _ (by omega) hk (by omega) (by simp) (by simp)

theorem toIntS_ev (l : List Int) (hB : l.length ≤ 1048576) : Ev (fun k => laws_toIntS.f k l) l := ⟨l.length + 1, fun k hk => toIntS_val l hB k (by omega)⟩

theorem eqIntS_l (l : List Int) (hB : l.length ≤ 1048576) : ∀ (d k i : Nat), l.length - i = d → d < k → i ≤ l.length → laws_eqIntS.l0 k l l (i : Int) = some true := by
  intro d
  induction d with
  | zero =>
    intro k i hd hk hi
    obtain ⟨k, rfl⟩ := kpred hk
    simp only [laws_eqIntS.l0]
    rw [if_neg (by omega)]
  | succ d ih =>
    intro k i hd hk hi
    obtain ⟨k, rfl⟩ := kpred hk
    simp only [laws_eqIntS.l0]
    rw [if_pos (by omega), if_pos (by omega), if_pos (by omega), if_pos trivial, wsucc i (by omega)]
    exact ih k (i + 1) (by omega) (by omega) (by omega)
theorem eqIntS_val (l : List Int) (hB : l.length ≤ 1048576) (k : Nat) (hk : l.length < k) : laws_eqIntS.f k l l = some true := by
  unfold laws_eqIntS.f
  rw [if_pos rfl]
  exact eqIntS_l l hB l.length k 0 (by omega) hk (by omega)

theorem eqIntS_ev (l : List Int) (hB : l.length ≤ 1048576) : Ev (fun k => laws_eqIntS.f k l l) true := ⟨l.length + 1, fun k hk => eqIntS_val l hB k (by omega)⟩

/- What is proved at the end: ∀ (l0 : List Int) (a1 : Int), l0.length ≤ maxLen → (∀ x ∈ l0, (Lit.int .i64 x).wf = true) → (Lit.int .i64 a1).wf = true → ∃ k, laws_FnExactFewestOnWear.f k l0 a1 = some true -/
theorem btr_le {acc v : Int} (hv : 0 ≤ v) : 0 ≤ btr false acc v ∧ btr false acc v ≤ v ∧ (0 ≤ acc → btr false acc v ≤ acc) := by
  unfold btr
  simp only [Bool.false_eq_true, if_false]
  (repeat' split) <;> omega
theorem lf_le {f : Nat → Int} {n j : Nat} : ∀ (ss : List Nat) (acc : Int), (0 ≤ acc → 0 ≤ lf false f n j acc ss ∧ lf false f n j acc ss ≤ acc) ∧ ∀ s ∈ ss, j + s ≤ n → 0 ≤ f (j + s) → 0 ≤ lf false f n j acc ss ∧ lf false f n j acc ss ≤ f (j + s) + 1 := by
  intro ss
  induction ss with
  | nil => intro acc; exact ⟨fun h => ⟨h, Int.le_refl _⟩, fun s h => by simp at h⟩
  | cons s ss ih =>
    intro acc
    simp only [lf]
    by_cases hc : j + s ≤ n ∧ 0 ≤ f (j + s)
    · rw [if_pos hc]
      have hb := btr_le (acc := acc) (v := f (j + s) + 1) (by omega)
      obtain ⟨i1, i2⟩ := ih (btr false acc (f (j + s) + 1))
      have i3 := i1 hb.1
      refine ⟨fun h => by have := hb.2.2 h; omega, fun t ht hn hf => ?_⟩
      rcases List.mem_cons.mp ht with e | ht
      · subst e
        omega
      · exact i2 t ht hn hf
    · rw [if_neg hc]
      obtain ⟨i1, i2⟩ := ih acc
      refine ⟨i1, fun t ht hn hf => ?_⟩
      rcases List.mem_cons.mp ht with e | ht
      · subst e
        exact absurd ⟨hn, hf⟩ hc
      · exact i2 t ht hn hf
/-- The fewest strides from a step, worn or not. -/
def Ls (n : Nat) (T : List Nat) (B : List Int) (j : Nat) : Int := lf false (Lf n T B false) n j (-1) T
theorem Lf_Ls (n : Nat) (T : List Nat) (B : List Int) (hT : ∀ t ∈ T, 1 ≤ t) (j : Nat) (hj : j < n) : Lf n T B false j = if (j : Int) ∈ B then -1 else Ls n T B j := Lf_rec n T B false hT j hj
theorem Ls_mono (n r : Nat) (B : List Int) : ∀ (d i j : Nat), n - i ≤ d → i ≤ j → j < n → 0 ≤ Ls n (Tw r) B i → 0 ≤ Ls n (Tw r) B j ∧ Ls n (Tw r) B j ≤ Ls n (Tw r) B i := by
  have hT := Tw_pos r
  intro d
  induction d with
  | zero =>
    intro i j h1 h2 h3 _
    omega
  | succ d ih =>
    intro i j h1 h2 h3 h0
    rcases lf_or (most := false) (f := Lf n (Tw r) B false) (n := n) (j := i) (Tw r) (-1) with h | ⟨s, a, b, c, e⟩
    · have : Ls n (Tw r) B i = -1 := h
      omega
    · have e' : Lf n (Tw r) B false (i + s) = Ls n (Tw r) B i - 1 := e
      have hs := List.mem_range'_1.mp a
      by_cases hk : j < i + s
      · have hm : i + s - j ∈ Tw r := List.mem_range'_1.mpr (by omega)
        have := (lf_le (f := Lf n (Tw r) B false) (n := n) (j := j) (Tw r) (-1)).2 (i + s - j) hm (by omega) (by rw [show j + (i + s - j) = i + s by omega]; exact c)
        rw [show j + (i + s - j) = i + s by omega] at this
        have e2 : Ls n (Tw r) B j = lf false (Lf n (Tw r) B false) n j (-1) (Tw r) := rfl
        rw [e2]
        omega
      · have hl := Lf_Ls n (Tw r) B hT (i + s) (by omega)
        by_cases hb : ((i + s : Nat) : Int) ∈ B
        · rw [if_pos hb] at hl
          omega
        · rw [if_neg hb] at hl
          have := ih (i + s) j (by omega) (by omega) h3 (by omega)
          omega
theorem few_l1 (l : List Int) (r : Nat) (hl : l.length ≤ 20) (hr : r ≤ 20) (j : Nat) (c : Int) : ∀ (m : Nat), j + m ≤ l.length → (∃ k, j < k ∧ k ≤ j + m ∧ ¬ (k : Int) ∈ Bw l) →
    ∃ q, j < q ∧ q ≤ j + m ∧ ¬ (q : Int) ∈ Bw l ∧ (∀ p, q < p → p ≤ j + m → (p : Int) ∈ Bw l) ∧
      (∀ R, Ev (fun k => spec_FewestOnWear.l0 k l (r : Int) (wrap64 (c + 1)) (q : Int)) R → Ev (fun k => spec_FewestOnWear.l1 k l (r : Int) c ((j + m : Nat) : Int)) R) := by
  intro m
  induction m with
  | zero =>
    rintro _ ⟨k, h1, h2, _⟩
    omega
  | succ m ih =>
    intro hm hex
    have hmem := mem_Bw l (j + m)
    have e : j + m + 1 = j + (m + 1) := by omega
    rw [e] at hmem
    by_cases hw : l.getD (j + m) 0 = 0
    · have hin := hmem.2 ⟨by omega, hw⟩
      obtain ⟨q, a1, a2, a3, a4, a5⟩ := ih (by omega) (by
        obtain ⟨k, h1, h2, h3⟩ := hex
        refine ⟨k, h1, ?_, h3⟩
        by_cases hk : k = j + (m + 1)
        · subst hk
          exact absurd hin h3
        · omega)
      refine ⟨q, a1, by omega, a3, fun p h1 h2 => ?_, fun R h => Ev.step (fun k => ?_) (a5 R h)⟩
      · by_cases hp : p = j + (m + 1)
        · subst hp
          exact hin
        · exact a4 p h1 (by omega)
      · simp only [spec_FewestOnWear.l1]
        rw [← e, w_pred (j + m + 1) (by omega) (by omega), Nat.add_sub_cancel, if_pos (by omega), if_pos (by omega), rd_nat, if_pos hw]
    · refine ⟨j + (m + 1), by omega, Nat.le_refl _, fun h => hw (hmem.1 h).2, fun p h1 h2 => by omega, fun R h => Ev.step (fun k => ?_) h⟩
      simp only [spec_FewestOnWear.l1]
      rw [← e, w_pred (j + m + 1) (by omega) (by omega), Nat.add_sub_cancel, if_pos (by omega), if_pos (by omega), rd_nat, if_neg hw]
theorem few_l0 (l : List Int) (r : Nat) (hl : l.length ≤ 20) (h1r : 1 ≤ r) (hr : r ≤ 20) : ∀ (d j : Nat) (c : Int), l.length + 1 - j ≤ d → j ≤ l.length → 0 ≤ c → c ≤ (j : Int) → 0 ≤ Ls (l.length + 1) (Tw r) (Bw l) j →
    Ev (fun k => spec_FewestOnWear.l0 k l (r : Int) c (j : Int)) (c + Ls (l.length + 1) (Tw r) (Bw l) j - 1, true) := by
  have hT := Tw_pos r
  have hle := fun j => lf_le (f := Lf (l.length + 1) (Tw r) (Bw l) false) (n := l.length + 1) (j := j) (Tw r) (-1)
  have hor := fun j => lf_or (most := false) (f := Lf (l.length + 1) (Tw r) (Bw l) false) (n := l.length + 1) (j := j) (Tw r) (-1)
  intro d
  induction d with
  | zero =>
    intro j c h1 h2
    omega
  | succ d ih =>
    intro j c h1 h2 h3 h3' h0
    have hLdef : Ls (l.length + 1) (Tw r) (Bw l) j = lf false (Lf (l.length + 1) (Tw r) (Bw l) false) (l.length + 1) j (-1) (Tw r) := rfl
    by_cases hfar : l.length + 1 - j > r
    · have hex : ∃ k, j < k ∧ k ≤ j + r ∧ k ≤ l.length ∧ ¬ (k : Int) ∈ Bw l ∧ 0 ≤ Ls (l.length + 1) (Tw r) (Bw l) k ∧ Ls (l.length + 1) (Tw r) (Bw l) j = Ls (l.length + 1) (Tw r) (Bw l) k + 1 := by
        rcases hor j with h | ⟨s, a, b, c', e⟩
        · omega
        · have hs := List.mem_range'_1.mp a
          have hl2 := Lf_Ls (l.length + 1) (Tw r) (Bw l) hT (j + s) (by omega)
          by_cases hb : ((j + s : Nat) : Int) ∈ Bw l
          · rw [if_pos hb] at hl2
            omega
          · rw [if_neg hb] at hl2
            exact ⟨j + s, by omega, by omega, by omega, hb, by omega, by omega⟩
      obtain ⟨k, k1, k2, k3, k4, k5, k6⟩ := hex
      obtain ⟨q, a1, a2, a3, a4, a5⟩ := few_l1 l r hl hr j c r (by omega) ⟨k, k1, k2, k4⟩
      have hkq : k ≤ q := by
        by_cases h : k ≤ q
        · exact h
        · exact absurd (a4 k (by omega) k2) k4
      have hmono := Ls_mono (l.length + 1) r (Bw l) _ k q (Nat.le_refl _) hkq (by omega) k5
      have hlq := Lf_Ls (l.length + 1) (Tw r) (Bw l) hT q (by omega)
      rw [if_neg a3] at hlq
      have hmem : q - j ∈ Tw r := List.mem_range'_1.mpr (by omega)
      have hmin := (hle j).2 (q - j) hmem (by omega) (by rw [show j + (q - j) = q by omega]; omega)
      rw [show j + (q - j) = q by omega] at hmin
      have h4 := ih q (c + 1) (by omega) (by omega) (by omega) (by omega) hmono.1
      have e : c + 1 + Ls (l.length + 1) (Tw r) (Bw l) q - 1 = c + Ls (l.length + 1) (Tw r) (Bw l) j - 1 := by omega
      rw [e] at h4
      have h5 := a5 _ (by rw [w_id (x := c + 1) (by omega) (by omega)]; exact h4)
      refine Ev.step (fun k => ?_) h5
      simp only [spec_FewestOnWear.l0]
      rw [wsucc l.length (by omega), w_sub (l.length + 1) j (by omega) (by omega), if_pos (by omega), w_add j r (by omega) (by omega)]
    · have hLn := Lf_top (l.length + 1) (Tw r) (Bw l) false
      have hmem : l.length + 1 - j ∈ Tw r := List.mem_range'_1.mpr (by omega)
      have hmin := (hle j).2 (l.length + 1 - j) hmem (by omega) (by rw [show j + (l.length + 1 - j) = l.length + 1 by omega]; omega)
      rw [show j + (l.length + 1 - j) = l.length + 1 by omega] at hmin
      have h1 : Ls (l.length + 1) (Tw r) (Bw l) j = 1 := by
        rcases hor j with h | ⟨s, a, b, c', e⟩ <;> omega
      rw [h1, Int.add_sub_cancel]
      refine Ev.step (fun k => ?_) (Ev.now _)
      simp only [spec_FewestOnWear.l0]
      rw [wsucc l.length (by omega), w_sub (l.length + 1) j (by omega) (by omega), if_neg (by omega)]
theorem FnExactFewestOnWear_agree (l : List Int) (r : Int) (hl : l.length ≤ 1048576) : ∃ w0 w1, Ev (fun k => spec_FewestOnWear.f k l r) (w0, w1) ∧ Ev (fun k => impl_FewestOnWear.f k l r) (w0, w1) := by
  have h1 := weReach_ev l hl r
  have h2 := canWear_ev l hl r
  have no : Ev (fun k => spec_FewestOnWear.j0 k l r true) (0, false) := Ev.step (fun k => by simp only [spec_FewestOnWear.j0]; rw [if_pos trivial]) (Ev.now _)
  unfold spec_FewestOnWear.f impl_FewestOnWear.f
  rcases weReach_cases l r hl with ⟨n, rfl, n1, n2, l1, l2, hc⟩ | hc
  · have w1 := weWays_ev l n l1 n2 l2
    have w2 := ways_ev l n l1 n1 n2
    have hT := Tw_pos n
    have hi : incN 0 (Tw n) := Tw_inc n 0 1 (by omega)
    have z : ∀ f : Nat → Int, rd (arr (l.length + 1) f 0) 0 = f 0 := fun f => arr_rd0 _ f 0 (by omega)
    have z2 : rd (ard (-1) (l.length + 1) (Fw (l.length + 1) (Tw n) (Bw l)) 0) 0 = Fw (l.length + 1) (Tw n) (Bw l) 0 := by
      have := ard_get (-1) (l.length + 1) (Fw (l.length + 1) (Tw n) (Bw l)) 0 0 (by omega)
      rw [if_pos (Nat.le_refl _)] at this
      exact this
    have hv := V_Vs (l.length + 1) (Tw n) (Bw l) hT (top_Bw l) 0 (by omega)
    rw [if_neg (zero_Bw l)] at hv
    have hLV := Lf_V (l.length + 1) (Tw n) (Bw l) hT hi _ 0 (Nat.le_refl _) (by omega)
    have hls := Lf_Ls (l.length + 1) (Tw n) (Bw l) hT 0 (by omega)
    rw [if_neg (zero_Bw l)] at hls
    have hb := (Vs_bd (l.length + 1) (Tw n) (Bw l) hT hi 0 (by omega)).1
    have hF : Fw (l.length + 1) (Tw n) (Bw l) 0 = E1 (Lf (l.length + 1) (Tw n) (Bw l) false 0) := if_neg (by omega)
    by_cases hz : Vs (l.length + 1) (Tw n) (Bw l) 0 = 0
    · refine ⟨0, false, Ev.bind h1 (Ev.ite_true hc (Ev.bind w1 (Ev.congr (fun k => ?_) no))), Ev.bind h2 (Ev.ite_true hc (Ev.bind w2 (Ev.congr (fun k => ?_) (Ev.now _))))⟩
      · rw [arr_len, if_pos (by omega), z, hz]
        rfl
      · simp only
        have e : E1 (Lf (l.length + 1) (Tw n) (Bw l) false 0) = -1 := if_pos (by omega)
        rw [ard_len, if_pos (by omega), z2, hF, e, if_pos (by omega)]
    · have hge := Lf_ge1 (l.length + 1) (Tw n) (Bw l) hT 0 (by omega) (by omega)
      have h5 := few_l0 l n l1 n1 n2 _ 0 0 (Nat.le_refl _) (by omega) (by omega) (by omega) (by omega)
      rw [← hls, Int.zero_add] at h5
      refine ⟨Lf (l.length + 1) (Tw n) (Bw l) false 0 - 1, true, Ev.bind h1 (Ev.ite_true hc (Ev.bind w1 (Ev.congr (fun k => ?_) (Ev.step (g := fun k => spec_FewestOnWear.j0 k l (n : Int) false) (fun k => ?_) h5)))), Ev.bind h2 (Ev.ite_true hc (Ev.bind w2 (Ev.congr (fun k => ?_) (Ev.now _))))⟩
      · rw [arr_len, if_pos (by omega), z, show (cq (Vs (l.length + 1) (Tw n) (Bw l) 0) == 0) = false by rw [beq_eq_false_iff_ne]; unfold cq; split <;> omega]
      · simp only [spec_FewestOnWear.j0]
        rw [if_neg (by simp)]
        rfl
      · simp only
        have e : E1 (Lf (l.length + 1) (Tw n) (Bw l) false 0) = Lf (l.length + 1) (Tw n) (Bw l) false 0 - 1 := if_neg (by omega)
        rw [ard_len, if_pos (by omega), z2, hF, e, if_neg (by omega)]
  · exact ⟨0, false, Ev.bind h1 (Ev.ite_false hc no), Ev.bind h2 (Ev.ite_false hc (Ev.now _))⟩
theorem FnExactFewestOnWear : ∀ (l0 : List Int) (a1 : Int), l0.length ≤ maxLen → (∀ x ∈ l0, (Lit.int .i64 x).wf = true) → (Lit.int .i64 a1).wf = true → ∃ k, laws_FnExactFewestOnWear.f k l0 a1 = some true := by
  intro l0 a1 hm0 hw0 w1
  by_cases hB0 : (l0.length : Int) > 1048576
  · exact ⟨1, by unfold laws_FnExactFewestOnWear.f; rw [if_pos hB0]⟩
  have hl0 : l0.length ≤ 1048576 := by omega
  obtain ⟨w0, w1, hS, hI⟩ := FnExactFewestOnWear_agree l0 a1 hl0
  obtain ⟨K0, k0⟩ := (show Ev (fun k => spec_FewestOnWear.f k l0 a1) (w0, w1) from hS)
  obtain ⟨K1, k1⟩ := (show Ev (fun k => impl_FewestOnWear.f k l0 a1) (w0, w1) from hI)
  obtain ⟨K2, k2⟩ := (show Ev (fun k => laws_toIntS.f k l0) l0 from toIntS_ev _ hl0)
  obtain ⟨K3, k3⟩ := (show Ev (fun k => laws_eqIntS.f k l0 l0) true from eqIntS_ev _ hl0)
  obtain ⟨K, hK⟩ : ∃ K, K = K0 + K1 + K2 + K3 := ⟨_, rfl⟩
  have e0 : ∀ j, spec_FewestOnWear.f (K + j) l0 a1 = some (w0, w1) := fun j => k0 (K + j) (by omega)
  have e1 : ∀ j, impl_FewestOnWear.f (K + j) l0 a1 = some (w0, w1) := fun j => k1 (K + j) (by omega)
  have e2 : ∀ j, laws_toIntS.f (K + j) l0 = some l0 := fun j => k2 (K + j) (by omega)
  have e3 : ∀ j, laws_eqIntS.f (K + j) l0 l0 = some true := fun j => k3 (K + j) (by omega)
  clear k0 k1 k2 k3 hK
  refine ⟨K + 16, ?_⟩
  simp [laws_FnExactFewestOnWear.f, laws_FnExactFewestOnWear.j0, e0, e1, e2, e3, hB0]

end Go.Proofs.Ytfmjkephbibddaa.Pure
