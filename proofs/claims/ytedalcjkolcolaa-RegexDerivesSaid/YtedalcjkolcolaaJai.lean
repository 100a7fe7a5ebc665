/- Proved: the given statement RegexDerivesSaid, without conditions. -/
import Derived.Test.YtedalcjkolcolaaJah
set_option linter.unusedVariables false
set_option linter.unusedSimpArgs false
section
open Go Go.Proofs Go.Ab Go.Rf
set_option maxRecDepth 100000
namespace Go.Rx
theorem der_nilX (b n : Nat) : der b n nilX = nilX := by cases n <;> rfl
theorem der_empX (b n : Nat) : der b n empX = nilX := by cases n <;> rfl
theorem derOk_nilX (b n : Nat) : derOk b n nilX = true := by cases n <;> rfl
theorem derOk_empX (b n : Nat) : derOk b n empX = true := by cases n <;> rfl
theorem hdX_nil {r : Rx} (h : r.subs = []) : hdX r = nilX := by unfold hdX; rw [h]; rfl
theorem hdX_cons {r x : Rx} {l : List Rx} (h : r.subs = x :: l) : hdX r = x := by unfold hdX; rw [h]; rfl
theorem catX_nil : catX [] = empX := rfl
theorem size_cons {r x : Rx} {l : List Rx} (h : r.subs = x :: l) : size r = 1 + size x + sizes l := by rw [size_eq, h]; simp only [sizes]; omega
theorem size_mem {r x : Rx} (h : x ∈ r.subs) : size x < size r := by
  obtain ⟨i, hi, rfl⟩ := List.mem_iff_getElem.1 h
  exact size_sub hi
theorem der_fuel (b : Nat) : ∀ (n m : Nat) (r : Rx), size r ≤ n → size r ≤ m → der b n r = der b m r := by
  intro n
  induction n with
  | zero => intro m r h; have := size_pos r; omega
  | succ n ih =>
    intro m r h h'
    cases m with
    | zero => have := size_pos r; omega
    | succ m =>
      have hh : der b n (hdX r) = der b m (hdX r) := by
        cases hs : r.subs with
        | nil => rw [hdX_nil hs, der_nilX, der_nilX]
        | cons x l => rw [hdX_cons hs]; have := size_cons hs; exact ih m x (by omega) (by omega)
      have ht : der b n (catX r.subs.tail) = der b m (catX r.subs.tail) := by
        cases hs : r.subs with
        | nil => rw [List.tail_nil, catX_nil, der_empX, der_empX]
        | cons x l =>
          have h1 := size_cons hs
          have h2 := size_catX l
          have h3 := size_pos x
          exact ih m _ (by simp; omega) (by simp; omega)
      have hm : r.subs.map (der b n) = r.subs.map (der b m) := List.map_congr_left fun x hx => by
        have := size_mem hx
        exact ih m x (by omega) (by omega)
      simp only [der]
      rw [hh, ht, hm]
theorem derOk_fuel (b : Nat) : ∀ (n m : Nat) (r : Rx), size r ≤ n → size r ≤ m → derOk b n r = derOk b m r := by
  intro n
  induction n with
  | zero => intro m r h; have := size_pos r; omega
  | succ n ih =>
    intro m r h h'
    cases m with
    | zero => have := size_pos r; omega
    | succ m =>
      have hh : derOk b n (hdX r) = derOk b m (hdX r) := by
        cases hs : r.subs with
        | nil => rw [hdX_nil hs, derOk_nilX, derOk_nilX]
        | cons x l => rw [hdX_cons hs]; have := size_cons hs; exact ih m x (by omega) (by omega)
      have hh2 : der b n (hdX r) = der b m (hdX r) := by
        cases hs : r.subs with
        | nil => rw [hdX_nil hs, der_nilX, der_nilX]
        | cons x l => rw [hdX_cons hs]; have := size_cons hs; exact der_fuel b n m x (by omega) (by omega)
      have ht : derOk b n (catX r.subs.tail) = derOk b m (catX r.subs.tail) ∧ der b n (catX r.subs.tail) = der b m (catX r.subs.tail) := by
        cases hs : r.subs with
        | nil => rw [List.tail_nil, catX_nil, der_empX, der_empX, derOk_empX, derOk_empX]; exact ⟨rfl, rfl⟩
        | cons x l =>
          have h1 := size_cons hs
          have h2 := size_catX l
          have h3 := size_pos x
          exact ⟨ih m _ (by simp; omega) (by simp; omega), der_fuel b n m _ (by simp; omega) (by simp; omega)⟩
      have hm : r.subs.map (der b n) = r.subs.map (der b m) := List.map_congr_left fun x hx => by
        have := size_mem hx
        exact der_fuel b n m x (by omega) (by omega)
      have ha : r.subs.all (derOk b n) = r.subs.all (derOk b m) := by
        rw [Bool.eq_iff_iff, List.all_eq_true, List.all_eq_true]
        refine forall_congr' fun x => forall_congr' fun hx => ?_
        have := size_mem hx
        rw [ih m x (by omega) (by omega)]
      simp only [derOk]
      rw [hh, ht.1, ht.2, hm, ha, hh2]
section
variable {r : Rx} {b : UInt8}
theorem D1_of {n : Nat} (h : size r ≤ n) : der b.toNat n r = D1 r b := der_fuel _ _ _ _ h (Nat.le_refl _)
theorem ok1_of {n : Nat} (h : size r ≤ n) : derOk b.toNat n r = ok1 r b := derOk_fuel _ _ _ _ h (Nat.le_refl _)
theorem D1_nil : D1 nilX b = nilX := der_nilX _ _
theorem D1_emp : D1 empX b = nilX := der_empX _ _
theorem succ_size (r : Rx) : ∃ n, size r = n + 1 := ⟨size r - 1, by have := size_pos r; omega⟩
theorem D1_hd {n : Nat} (h : size r = n + 1) : der b.toNat n (hdX r) = D1 (hdX r) b := by
  cases hs : r.subs with
  | nil => rw [hdX_nil hs, der_nilX, D1_nil]
  | cons x l => rw [hdX_cons hs]; have := size_cons hs; exact D1_of (by omega)
theorem D1_tl {n : Nat} (h : size r = n + 1) : der b.toNat n (catX r.subs.tail) = D1 (catX r.subs.tail) b := by
  cases hs : r.subs with
  | nil => rw [List.tail_nil, catX_nil, der_empX, D1_emp]
  | cons x l =>
    have h1 := size_cons hs
    have h2 := size_catX l
    have h3 := size_pos x
    exact D1_of (by simp; omega)
theorem D1_map {n : Nat} (h : size r = n + 1) : r.subs.map (der b.toNat n) = r.subs.map fun x => D1 x b :=
  List.map_congr_left fun x hx => by have := size_mem hx; exact D1_of (by omega)
theorem D1_set (k : r.kind = 2) : D1 r b = if hasX r b.toNat then empX else nilX := by
  obtain ⟨n, h⟩ := succ_size r
  unfold D1; rw [h]; simp only [der, k, if_true]
theorem D1_star (k : r.kind = 5) : D1 r b = catX [D1 (hdX r) b, r] := by
  obtain ⟨n, h⟩ := succ_size r
  rw [← D1_hd h]
  unfold D1; rw [h]; simp [der, k]
theorem D1_alt (k : r.kind = 4) : D1 r b = altX (r.subs.map fun x => D1 x b) := by
  obtain ⟨n, h⟩ := succ_size r
  rw [← D1_map h]
  unfold D1; rw [h]; simp [der, k]
theorem D1_cat (k : r.kind = 3) : D1 r b = if null (hdX r) then altX [catX [D1 (hdX r) b, catX r.subs.tail], D1 (catX r.subs.tail) b] else catX [D1 (hdX r) b, catX r.subs.tail] := by
  obtain ⟨n, h⟩ := succ_size r
  rw [← D1_hd h, ← D1_tl h]
  unfold D1; rw [h]; simp [der, k]
theorem D1_else (k2 : r.kind ≠ 2) (k3 : r.kind ≠ 3) (k4 : r.kind ≠ 4) (k5 : r.kind ≠ 5) : D1 r b = nilX := by
  obtain ⟨n, h⟩ := succ_size r
  unfold D1; rw [h]; simp [der, k2, k3, k4, k5]
theorem ok1_hd {n : Nat} (h : size r = n + 1) : derOk b.toNat n (hdX r) = ok1 (hdX r) b := by
  cases hs : r.subs with
  | nil => rw [hdX_nil hs, derOk_nilX]; exact (derOk_nilX _ _).symm
  | cons x l => rw [hdX_cons hs]; have := size_cons hs; exact ok1_of (by omega)
theorem ok1_tl {n : Nat} (h : size r = n + 1) : derOk b.toNat n (catX r.subs.tail) = ok1 (catX r.subs.tail) b := by
  cases hs : r.subs with
  | nil => rw [List.tail_nil, catX_nil, derOk_empX]; exact (derOk_empX _ _).symm
  | cons x l =>
    have h1 := size_cons hs
    have h2 := size_catX l
    have h3 := size_pos x
    exact ok1_of (by simp; omega)
theorem ok1_star (k : r.kind = 5) : ok1 r b = (ok1 (hdX r) b && catOk [D1 (hdX r) b, r]) := by
  obtain ⟨n, h⟩ := succ_size r
  rw [← D1_hd h, ← ok1_hd h]
  unfold ok1; rw [h]; simp [derOk, k]
theorem ok1_alt (k : r.kind = 4) : ok1 r b = ((r.subs.all fun x => ok1 x b) && altOk (r.subs.map fun x => D1 x b)) := by
  obtain ⟨n, h⟩ := succ_size r
  have ha : r.subs.all (derOk b.toNat n) = r.subs.all fun x => ok1 x b := by
    rw [Bool.eq_iff_iff, List.all_eq_true, List.all_eq_true]
    refine forall_congr' fun x => forall_congr' fun hx => ?_
    have := size_mem hx
    rw [ok1_of (by omega)]
  rw [← D1_map h, ← ha]
  unfold ok1; rw [h]; simp [derOk, k]
theorem ok1_cat (k : r.kind = 3) : ok1 r b = (ok1 (hdX r) b && (catOk r.subs.tail && (catOk [D1 (hdX r) b, catX r.subs.tail] && (!null (hdX r) || (ok1 (catX r.subs.tail) b && altOk [catX [D1 (hdX r) b, catX r.subs.tail], D1 (catX r.subs.tail) b]))))) := by
  obtain ⟨n, h⟩ := succ_size r
  rw [← D1_hd h, ← D1_tl h, ← ok1_hd h, ← ok1_tl h]
  unfold ok1; rw [h]; simp [derOk, k]
theorem ok1_else (k3 : r.kind ≠ 3) (k4 : r.kind ≠ 4) (k5 : r.kind ≠ 5) : ok1 r b = true := by
  obtain ⟨n, h⟩ := succ_size r
  unfold ok1; rw [h]; simp [derOk, k3, k4, k5]
end
end Go.Rx
end
section
open Go Go.Proofs Go.Ab Go.Rf
set_option maxRecDepth 100000
namespace Go.Rx
def Fi : Nat → List Rx → List Rx
  | 0, l => l
  | i + 1, l => Fi i (outC l)
theorem Fi_out : ∀ (i : Nat) (l : List Rx), outC (Fi i l) = Fi (i + 1) l
  | 0, _ => rfl
  | i + 1, l => Fi_out i (outC l)
theorem outC_append (l m : List Rx) : outC (l ++ m) = outC l ++ outC m := by unfold outC; rw [List.flatMap_append]
theorem outC_cons (x : Rx) (l : List Rx) : outC (x :: l) = catF x ++ outC l := by unfold outC; rw [List.flatMap_cons]
theorem Fi_append : ∀ (i : Nat) (l m : List Rx), Fi i (l ++ m) = Fi i l ++ Fi i m
  | 0, _, _ => rfl
  | i + 1, l, m => by show Fi i _ = Fi i _ ++ Fi i _; rw [outC_append, Fi_append i]
inductive PT (r : Rx) : Rx → List Rx → Prop
  | root : PT r r []
  | star {q t x l} (k : q.kind = 5) (e : q.subs = x :: l) (h : PT r q t) : PT r x (q :: t)
  | alt {q t x} (k : q.kind = 4) (e : x ∈ q.subs) (h : PT r q t) : PT r x t
  | cat {q t l x tl} (k : q.kind = 3) (e : q.subs = l ++ x :: tl) (i : Nat) (h : PT r q t) : PT r x (Fi i tl ++ t)
theorem PT.flat {r q : Rx} {t : List Rx} (h : PT r q t) : PT r q (outC t) := by
  induction h with
  | root => exact .root
  | @star q t x l k e h ih =>
    have : outC (q :: t) = q :: outC t := by rw [outC_cons]; simp [catF, k]
    rw [this]; exact .star k e ih
  | alt k e h ih => exact .alt k e ih
  | @cat q t l x tl k e i h ih => rw [outC_append, Fi_out]; exact .cat k e (i + 1) ih
theorem PT.flats {r q : Rx} {t : List Rx} (h : PT r q t) : ∀ i, PT r q (Fi i t)
  | 0 => h
  | i + 1 => h.flat.flats i
theorem PT.comp {r q q' : Rx} {t t' : List Rx} (h : PT r q t) (h' : PT q q' t') : PT r q' (t' ++ t) := by
  induction h' with
  | root => exact h
  | star k e _ ih => exact .star k e ih
  | alt k e _ ih => exact .alt k e ih
  | cat k e i _ ih => rw [List.append_assoc]; exact .cat k e i ih
theorem PT.comp0 {r q q' : Rx} {t' : List Rx} (h : PT r q []) (h' : PT q q' t') : PT r q' t' := by
  have := h.comp h'
  rwa [List.append_nil] at this
theorem flatMap_split {α β : Type} {f : α → List β} : ∀ {L : List α} {l : List β} {c : β} {rest : List β}, L.flatMap f = l ++ c :: rest → ∃ l1 x l2 u v, L = l1 ++ x :: l2 ∧ f x = u ++ c :: v ∧ rest = v ++ l2.flatMap f
  | [], l, c, rest, h => by simp at h
  | y :: L, l, c, rest, h => by
    rw [List.flatMap_cons, List.append_eq_append_iff] at h
    rcases h with ⟨a, h1, h2⟩ | ⟨a, h1, h2⟩
    · obtain ⟨l1, x, l2, u, v, e1, e2, e3⟩ := flatMap_split h2
      exact ⟨y :: l1, x, l2, u, v, by rw [e1]; rfl, e2, e3⟩
    · cases a with
      | nil =>
        rw [List.nil_append] at h2
        obtain ⟨l1, x, l2, u, v, e1, e2, e3⟩ := flatMap_split (l := []) h2.symm
        exact ⟨y :: l1, x, l2, u, v, by rw [e1]; rfl, e2, e3⟩
      | cons d a =>
        rw [List.cons_append] at h2
        injection h2 with h3 h4
        subst h3
        exact ⟨[], y, L, l, a, rfl, h1, h4⟩
theorem suf_flat {r : Rx} {t L : List Rx} (h : ∀ l c rest, L = l ++ c :: rest → ∀ j, PT r c (Fi j rest ++ t)) : ∀ l c rest, outC L = l ++ c :: rest → ∀ j, PT r c (Fi j rest ++ t) := by
  intro l c rest e j
  obtain ⟨l1, x, l2, u, v, e1, e2, e3⟩ := flatMap_split e
  have hx := h l1 x l2 e1 (j + 1)
  have e4 : Fi j rest = Fi j v ++ Fi (j + 1) l2 := by rw [e3, Fi_append]; rfl
  rw [e4, List.append_assoc]
  unfold catF at e2
  split at e2
  · rename_i k; exact .cat k e2 j hx
  · split at e2
    · simp at e2
    · have : u = [] ∧ x = c ∧ v = [] := by
        cases u with
        | nil => simpa using e2
        | cons a u => simp at e2
      obtain ⟨_, rfl, rfl⟩ := this
      have e5 : Fi j ([] : List Rx) = [] := by
        clear hx e4 e3 e2 e
        induction j with
        | zero => rfl
        | succ j ih => exact ih
      rw [e5]; exact hx
theorem suf_flats {r : Rx} {t : List Rx} : ∀ (i : Nat) {L : List Rx}, (∀ l c rest, L = l ++ c :: rest → ∀ j, PT r c (Fi j rest ++ t)) → ∀ l c rest, Fi i L = l ++ c :: rest → ∀ j, PT r c (Fi j rest ++ t)
  | 0, _, h => h
  | i + 1, _, h => suf_flats i (suf_flat h)
theorem PT.suf {r q : Rx} {t : List Rx} (h : PT r q t) : ∀ l c rest, t = l ++ c :: rest → PT r c rest := by
  induction h with
  | root => intro l c rest e; simp at e
  | @star q t x l k e h ih =>
    intro l' c rest e'
    cases l' with
    | nil => simp at e'; obtain ⟨rfl, rfl⟩ := e'; exact h
    | cons a l' => simp at e'; exact ih l' c rest e'.2
  | alt k e h ih => exact ih
  | @cat q t l x tl k e i h ih =>
    intro l' c rest e'
    rw [List.append_eq_append_iff] at e'
    have hs : ∀ l c rest, tl = l ++ c :: rest → ∀ j, PT r c (Fi j rest ++ t) := fun l1 c rest e1 j => by
      refine .cat (l := l ++ x :: l1) k ?_ j h
      rw [e, e1]; simp
    rcases e' with ⟨a, h1, h2⟩ | ⟨a, h1, h2⟩
    · exact ih a c rest h2
    · cases a with
      | nil => rw [List.nil_append] at h2; exact ih [] c rest h2.symm
      | cons d a =>
        rw [List.cons_append] at h2
        injection h2 with h3 h4
        subst h3
        rw [h4]
        exact suf_flats i hs l' c a h1 0
def tw (x : Rx) : Nat := if x.kind = 3 then size x else 1
def tws : List Rx → Nat
  | [] => 0
  | x :: l => tw x + tws l
theorem tws_append : ∀ l m : List Rx, tws (l ++ m) = tws l + tws m
  | [], m => by simp [tws]
  | x :: l, m => by simp only [List.cons_append, tws, tws_append l m]; omega
theorem tw_le (x : Rx) : tw x ≤ size x := by
  unfold tw; split
  · exact Nat.le_refl _
  · exact size_pos x
theorem tws_sizes : ∀ l : List Rx, tws l ≤ sizes l
  | [] => Nat.le_refl _
  | x :: l => by have := tws_sizes l; have := tw_le x; simp only [tws, sizes]; omega
theorem tw_pos (x : Rx) : 1 ≤ tw x := by
  unfold tw; split
  · exact size_pos x
  · exact Nat.le_refl _
theorem length_tws : ∀ l : List Rx, l.length ≤ tws l
  | [] => Nat.le_refl _
  | x :: l => by have := length_tws l; have := tw_pos x; simp only [tws, List.length_cons]; omega
theorem tws_catF (x : Rx) : tws (catF x) ≤ tw x := by
  unfold catF
  split
  · rename_i k
    have := tws_sizes x.subs
    have := size_eq x
    unfold tw; rw [if_pos k]; omega
  · split
    · exact Nat.zero_le _
    · exact Nat.le_refl _
theorem tws_outC : ∀ l : List Rx, tws (outC l) ≤ tws l
  | [] => Nat.le_refl _
  | x :: l => by
    have := tws_outC l
    have := tws_catF x
    rw [outC_cons, tws_append]
    simp only [tws]; omega
theorem tws_Fi : ∀ (i : Nat) (l : List Rx), tws (Fi i l) ≤ tws l
  | 0, _ => Nat.le_refl _
  | i + 1, l => Nat.le_trans (tws_Fi i _) (tws_outC l)
theorem PT.size {r q : Rx} {t : List Rx} (h : PT r q t) : Rx.size q + tws t ≤ Rx.size r := by
  induction h with
  | root => exact Nat.le_refl _
  | @star q t x l k e h ih =>
    have h1 := size_cons e
    have h2 : tw q = 1 := by unfold tw; rw [if_neg (by omega)]
    simp only [tws]; omega
  | @alt q t x k e h ih => have := size_mem e; omega
  | @cat q t l x tl k e i h ih =>
    rw [tws_append]
    have h1 := tws_Fi i tl
    have h2 := tws_sizes tl
    have h3 : Rx.size q = 1 + sizes l + (Rx.size x + sizes tl) := by rw [size_eq, e, sizes_append]; simp only [sizes]; omega
    omega
theorem PT.small {r q : Rx} {t : List Rx} (h : PT r q t) (ht : t ≠ []) : Rx.size q < Rx.size r := by
  have h1 := h.size
  have h2 : 0 < t.length := List.length_pos_iff.2 ht
  have h3 := length_tws t
  omega
end Go.Rx
end
section
open Go Go.Proofs Go.Ab Go.Rf
set_option maxRecDepth 100000
namespace Go.Rx
def Res1 (r : Rx) (w : List UInt8) (a : Rx) : Prop :=
  a = empX ∨ PT r a [] ∨ ∃ q t v, (PT r q t ∧ (v ≠ [] → ∃ t0, PT r q t0 ∧ t = outC t0)) ∧ t ≠ [] ∧ v <:+ w ∧ a = mk0 3 (derS q v :: t)
theorem Res1.mono {r a : Rx} {w w' : List UInt8} (h : Res1 r w a) (hw : w <:+ w') : Res1 r w' a := by
  rcases h with h | h | ⟨q, t, v, h1, h2, h3, h4⟩
  · exact .inl h
  · exact .inr (.inl h)
  · exact .inr (.inr ⟨q, t, v, h1, h2, h3.trans hw, h4⟩)
theorem Res1.comp {r q a : Rx} {w : List UInt8} (hq : PT r q []) (h : Res1 q w a) : Res1 r w a := by
  rcases h with h | h | ⟨q', t, v, h1, h2, h3, h4⟩
  · exact .inl h
  · exact .inr (.inl (hq.comp0 h))
  · exact .inr (.inr ⟨q', t, v, ⟨hq.comp0 h1.1, fun hv => by obtain ⟨t0, g1, g2⟩ := h1.2 hv; exact ⟨t0, hq.comp0 g1, g2⟩⟩, h2, h3, h4⟩)
theorem altF_nil : altF nilX = [] := rfl
theorem altF_alt {x : Rx} (k : x.kind = 4) : altF x = x.subs := by unfold altF; rw [if_pos k]
theorem altF_one {x : Rx} (k4 : x.kind ≠ 4) (k0 : x.kind ≠ 0) : altF x = [x] := by unfold altF; rw [if_neg k4, if_neg k0]
theorem mem_altF1 {x a : Rx} (h : a ∈ altF x) : (x.kind = 4 ∧ a ∈ x.subs) ∨ (x.kind ≠ 4 ∧ x.kind ≠ 0 ∧ a = x) := by
  unfold altF at h
  split at h
  · rename_i k; exact .inl ⟨k, h⟩
  · rename_i k
    split at h
    · cases h
    · rename_i k0; exact .inr ⟨k, k0, List.mem_singleton.1 h⟩
theorem kind_mk0 (k : Int) (l : List Rx) : (mk0 k l).kind = k := rfl
theorem subs_mk0 (k : Int) (l : List Rx) : (mk0 k l).subs = l := rfl
theorem joinX_two (k : Int) (a b : Rx) (l : List Rx) : joinX k (a :: b :: l) = mk0 k (a :: b :: l) := rfl
theorem altF_pos {r y a : Rx} {w : List UInt8} (h : PT r y []) (ha : a ∈ altF y) : Res1 r w a := by
  rcases mem_altF1 ha with ⟨k, hs⟩ | ⟨_, _, rfl⟩
  · exact .inr (.inl (.alt k hs h))
  · exact .inr (.inl h)
theorem res_list {r : Rx} {w : List UInt8} {L : List Rx} (hs : ∀ l c rest, L = l ++ c :: rest → PT r c rest) (hne : L ≠ []) : ∀ a ∈ altF (joinX 3 L), Res1 r w a := by
  intro a ha
  match L, hne with
  | [y], _ => exact altF_pos (hs [] y [] rfl) ha
  | c :: d :: l, _ =>
    rw [joinX_two] at ha
    rcases mem_altF1 ha with ⟨k, _⟩ | ⟨_, _, rfl⟩
    · cases k
    · exact .inr (.inr ⟨c, d :: l, [], ⟨hs [] c (d :: l) rfl, fun h => absurd rfl h⟩, by simp, List.nil_suffix, rfl⟩)
theorem PT.sufs {r q : Rx} {t : List Rx} (h : PT r q t) : ∀ l c rest, outC t = l ++ c :: rest → PT r c rest := h.flat.suf
theorem res_app {r q D : Rx} {t : List Rx} {v w : List UInt8} (h : PT r q t) (hv : v <:+ w) (hD : D = derS q v) (hS : ∀ a ∈ altF D, Res1 q v a) : ∀ a ∈ altF (catX (D :: t)), Res1 r w a := by
  intro a ha
  unfold catX at ha
  split at ha
  · cases ha
  · rename_i hk
    have hk0 : D.kind ≠ 0 := fun e => hk (by simp [e])
    rw [outC_cons] at ha
    by_cases k1 : D.kind = 1
    · have e : catF D = [] := by unfold catF; rw [if_neg (by omega), if_pos k1]
      rw [e, List.nil_append] at ha
      split at ha
      · rcases mem_altF1 ha with ⟨k, _⟩ | ⟨_, _, rfl⟩
        · cases k
        · exact .inl rfl
      · rename_i hne; exact res_list h.sufs hne a ha
    · by_cases k3 : D.kind = 3
      · have e : catF D = D.subs := by unfold catF; rw [if_pos k3]
        rw [e] at ha
        rcases hS D (by rw [altF_one (by omega) hk0]; exact List.mem_singleton.2 rfl) with h1 | h1 | ⟨q', t', v', h1, h2, h3, h4⟩
        · rw [h1] at k1; exact absurd rfl k1
        · have hDr : PT r D (outC t) := h.flat.comp h1
          have hs : ∀ l c rest, D.subs ++ outC t = l ++ c :: rest → PT r c rest := by
            intro l c rest e'
            rw [List.append_eq_append_iff] at e'
            rcases e' with ⟨x, g1, g2⟩ | ⟨x, g1, g2⟩
            · exact h.sufs x c rest g2
            · cases x with
              | nil => rw [List.nil_append] at g2; exact h.sufs [] c rest g2.symm
              | cons d x =>
                rw [List.cons_append] at g2
                injection g2 with g3 g4
                subst g3
                rw [g4]
                exact .cat k3 g1 0 hDr
          split at ha
          · rcases mem_altF1 ha with ⟨k, _⟩ | ⟨_, _, rfl⟩
            · cases k
            · exact .inl rfl
          · rename_i hne; exact res_list hs hne a ha
        · have hs : D.subs = derS q' v' :: t' := by rw [h4]; rfl
          rw [hs, List.cons_append] at ha
          rw [if_neg (by simp)] at ha
          match t', h2, h1 with
          | y :: t', _, h1 =>
            rw [List.cons_append, joinX_two] at ha
            rcases mem_altF1 ha with ⟨k, _⟩ | ⟨_, _, rfl⟩
            · cases k
            · exact .inr (.inr ⟨q', y :: t' ++ outC t, v', ⟨h.flat.comp h1.1, fun hv => by obtain ⟨t0, g1, g2⟩ := h1.2 hv; exact ⟨t0 ++ t, h.comp g1, by rw [outC_append, ← g2]⟩⟩, by simp, h3.trans hv, rfl⟩)
      · have e : catF D = [D] := by unfold catF; rw [if_neg k3, if_neg k1]
        rw [e, if_neg (by simp)] at ha
        cases ht : outC t with
        | nil =>
          rw [ht] at ha
          have hq : PT r q [] := by have := h.flat; rwa [ht] at this
          exact ((hS a ha).comp hq).mono hv
        | cons y l =>
          rw [ht] at ha
          have hq : PT r q (y :: l) := by have := h.flat; rwa [ht] at this
          rw [List.cons_append, List.nil_append, joinX_two] at ha
          rcases mem_altF1 ha with ⟨k, _⟩ | ⟨_, _, rfl⟩
          · cases k
          · exact .inr (.inr ⟨q, y :: l, v, ⟨hq, fun _ => ⟨t, h, ht.symm⟩⟩, by simp, hv, by rw [hD]⟩)
theorem catX_two (X : Rx) (l : List Rx) : ∃ l', (l' = l ∨ l' = outC l) ∧ catX [X, catX l] = catX (X :: l') := by
  by_cases h0 : l.any (fun x => x.kind == 0) = true
  · refine ⟨l, .inl rfl, ?_⟩
    have e1 : catX l = nilX := by unfold catX; rw [if_pos h0]
    have e2 : catX (X :: l) = nilX := by unfold catX; rw [if_pos (by simp only [List.any_cons, h0, Bool.or_true])]
    rw [e1, e2]
    unfold catX
    rw [if_pos]
    simp [nilX, mk0, Rx.kind]
  · have e1 : catX l = if outC l = [] then empX else joinX 3 (outC l) := by unfold catX; rw [if_neg h0]
    have h0' : l.any (fun x => x.kind == 0) = false := by simpa using h0
    cases hl : outC l with
    | nil =>
      refine ⟨l, .inl rfl, ?_⟩
      rw [e1, hl, if_pos rfl]
      have e3 : ∀ m : List Rx, outC m = [] → m.any (fun x => x.kind == 0) = false → catX (X :: m) = if X.kind == 0 then nilX else if catF X = [] then empX else joinX 3 (catF X) := by
        intro m h1 h2
        unfold catX
        rw [outC_cons, h1, List.append_nil, List.any_cons, h2, Bool.or_false]
      rw [e3 l hl h0', e3 [empX] rfl rfl]
    | cons y m =>
      cases m with
      | nil =>
        refine ⟨[y], .inr rfl, ?_⟩
        rw [e1, hl, if_neg (by simp)]
        rfl
      | cons z m =>
        refine ⟨l, .inl rfl, ?_⟩
        rw [e1, hl, if_neg (by simp), joinX_two]
        have e4 : outC (X :: [mk0 3 (y :: z :: m)]) = outC (X :: l) := by
          rw [outC_cons X [mk0 3 (y :: z :: m)], outC_cons X l, hl]
          congr 1
          simp [outC, catF, kind_mk0, subs_mk0]
        unfold catX
        rw [e4]
        simp only [List.any_cons, List.any_nil, h0', kind_mk0]
        rfl
theorem catX_pos {r q : Rx} {t : List Rx} (h : PT r q t) (X : Rx) : ∃ t', PT r q t' ∧ catX [X, catX t] = catX (X :: t') := by
  obtain ⟨t', h1, h2⟩ := catX_two X t
  rcases h1 with rfl | rfl
  · exact ⟨_, h, h2⟩
  · exact ⟨_, h.flat, h2⟩
theorem res_alt {r : Rx} {w : List UInt8} {ls : List Rx} (h : ∀ l ∈ ls, ∀ a ∈ altF l, Res1 r w a) : ∀ a ∈ altF (altX ls), Res1 r w a := by
  intro a ha
  have hm : ∀ x ∈ outA ls, Res1 r w x := fun x hx => by
    obtain ⟨l, h1, h2⟩ := mem_outA hx
    exact h l h1 x h2
  unfold altX at ha
  split at ha
  · cases ha
  · rename_i hne
    match ho : outA ls, hne with
    | [x], _ =>
      rw [ho] at ha hm
      have hx := hm x (List.mem_singleton.2 rfl)
      rcases mem_altF1 ha with ⟨k, hs⟩ | ⟨_, _, rfl⟩
      · rcases hx with h1 | h1 | ⟨q, t, v, ⟨h1, _⟩, h2, h3, h4⟩
        · have ha' : a ∈ x.subs := hs
          rw [h1] at ha'; cases ha'
        · exact .inr (.inl (.alt k hs h1))
        · have k' : x.kind = 4 := k
          rw [h4] at k'; cases k'
      · exact hx
    | x :: y :: l, _ =>
      rw [ho, joinX_two] at ha
      rw [altF_alt rfl] at ha
      exact hm a (by rw [ho]; exact ha)
theorem res_one (b : UInt8) : ∀ (n : Nat) (r : Rx), size r ≤ n → ∀ a ∈ altF (D1 r b), Res1 r [b] a := by
  intro n
  induction n with
  | zero => intro r h; have := size_pos r; omega
  | succ n ih =>
    have rl : ∀ (m : Nat) (r q : Rx) (t : List Rx) (w : List UInt8), PT r q t → sizes t ≤ m → sizes t ≤ n → [b] <:+ w → ∀ a ∈ altF (D1 (catX t) b), Res1 r w a := by
      intro m
      induction m with
      | zero =>
        intro r q t w h hm hn hw a ha
        have : t = [] := by
          cases t with
          | nil => rfl
          | cons x t => have := size_pos x; simp only [sizes] at hm; omega
        subst this
        rw [catX_nil, D1_emp] at ha
        cases ha
      | succ m ihm =>
        intro r q t w h hm hn hw a ha
        unfold catX at ha
        split at ha
        · rw [D1_nil] at ha; cases ha
        · split at ha
          · rw [D1_emp] at ha; cases ha
          · rename_i hne
            have hsz := sizes_outC t
            match ho : outC t, hne with
            | [y], _ =>
              rw [ho] at ha hsz
              have hy : PT r y [] := h.sufs [] y [] ho
              have : size y ≤ n := by simp only [sizes] at hsz; omega
              exact ((ih y this a ha).comp hy).mono hw
            | c :: d :: l, _ =>
              rw [ho] at ha hsz
              rw [joinX_two] at ha
              have hc : PT r c (d :: l) := h.sufs [] c (d :: l) ho
              have hsc : size c ≤ n ∧ sizes (d :: l) ≤ m ∧ sizes (d :: l) ≤ n := by have := size_pos c; simp only [sizes] at hsz ⊢; omega
              have first : ∀ a ∈ altF (catX [D1 c b, catX (d :: l)]), Res1 r w a := by
                obtain ⟨t', h1, h2⟩ := catX_pos hc (D1 c b)
                rw [h2]
                exact res_app h1 hw rfl (ih c hsc.1)
              have second : ∀ a ∈ altF (D1 (catX (d :: l)) b), Res1 r w a := ihm r c (d :: l) w hc hsc.2.1 hsc.2.2 hw
              rw [D1_cat rfl] at ha
              split at ha
              · refine res_alt (fun x hx => ?_) a ha
                rcases List.mem_cons.1 hx with rfl | hx
                · exact first
                · rw [List.mem_singleton.1 hx]; exact second
              · exact first a ha
    intro r h a ha
    by_cases k2 : r.kind = 2
    · rw [D1_set k2] at ha
      split at ha
      · rcases mem_altF1 ha with ⟨k, _⟩ | ⟨_, _, rfl⟩
        · cases k
        · exact .inl rfl
      · cases ha
    · by_cases k5 : r.kind = 5
      · rw [D1_star k5] at ha
        cases hs : r.subs with
        | nil =>
          rw [hdX_nil hs, D1_nil] at ha
          cases ha
        | cons x l =>
          rw [hdX_cons hs] at ha
          have := size_cons hs
          exact res_app (.star k5 hs .root) (List.suffix_refl [b]) rfl (ih x (by omega)) a ha
      · by_cases k4 : r.kind = 4
        · rw [D1_alt k4] at ha
          refine res_alt (fun y hy => ?_) a ha
          obtain ⟨x, hx, rfl⟩ := List.mem_map.1 hy
          have := size_mem hx
          exact fun a ha => (ih x (by omega) a ha).comp (.alt k4 hx .root)
        · by_cases k3 : r.kind = 3
          · cases hs : r.subs with
            | nil =>
              rw [D1_cat k3, hdX_nil hs] at ha
              have e : catX [D1 nilX b, catX r.subs.tail] = nilX := by rw [D1_nil]; rfl
              rw [e, hs] at ha
              exact absurd ha (by simp [null, nilX, mk0, altF, Rx.kind])
            | cons x tl =>
              have hsz := size_cons hs
              have hx : PT r x tl := by have := PT.cat (l := []) k3 hs 0 (.root (r := r)); rwa [List.append_nil] at this
              have first : ∀ a ∈ altF (catX [D1 x b, catX tl]), Res1 r [b] a := by
                obtain ⟨t', h1, h2⟩ := catX_pos hx (D1 x b)
                rw [h2]
                exact res_app h1 (List.suffix_refl [b]) rfl (ih x (by omega))
              have second : ∀ a ∈ altF (D1 (catX tl) b), Res1 r [b] a := rl _ r x tl [b] hx (Nat.le_refl _) (by have := size_pos x; omega) (List.suffix_refl [b])
              rw [D1_cat k3, hdX_cons hs, hs, List.tail_cons] at ha
              split at ha
              · refine res_alt (fun x hx => ?_) a ha
                rcases List.mem_cons.1 hx with rfl | hx
                · exact first
                · rw [List.mem_singleton.1 hx]; exact second
              · exact first a ha
          · rw [D1_else k2 k3 k4 k5] at ha
            cases ha
theorem res_start {r q : Rx} {t : List Rx} {w : List UInt8} {b : UInt8} (h : PT r q t) (hw : [b] <:+ w) : ∀ a ∈ altF (D1 (catX t) b), Res1 r w a := by
  have key : ∀ (m : Nat) (q : Rx) (t : List Rx), PT r q t → sizes t ≤ m → ∀ a ∈ altF (D1 (catX t) b), Res1 r w a := by
    intro m
    induction m with
    | zero =>
      intro q t h hm a ha
      have : t = [] := by
        cases t with
        | nil => rfl
        | cons x t => have := size_pos x; simp only [sizes] at hm; omega
      subst this
      rw [catX_nil, D1_emp] at ha
      cases ha
    | succ m ihm =>
      intro q t h hm a ha
      unfold catX at ha
      split at ha
      · rw [D1_nil] at ha; cases ha
      · split at ha
        · rw [D1_emp] at ha; cases ha
        · rename_i hne
          have hsz := sizes_outC t
          match ho : outC t, hne with
          | [y], _ =>
            rw [ho] at ha
            exact ((res_one b _ y (Nat.le_refl _) a ha).comp (h.sufs [] y [] ho)).mono hw
          | c :: d :: l, _ =>
            rw [ho] at ha hsz
            rw [joinX_two] at ha
            have hc : PT r c (d :: l) := h.sufs [] c (d :: l) ho
            have first : ∀ a ∈ altF (catX [D1 c b, catX (d :: l)]), Res1 r w a := by
              obtain ⟨t', h1, h2⟩ := catX_pos hc (D1 c b)
              rw [h2]
              exact res_app h1 hw rfl (res_one b _ c (Nat.le_refl _))
            have second : ∀ a ∈ altF (D1 (catX (d :: l)) b), Res1 r w a := ihm c (d :: l) hc (by have := size_pos c; simp only [sizes] at hsz ⊢; omega)
            rw [D1_cat rfl] at ha
            split at ha
            · refine res_alt (fun x hx => ?_) a ha
              rcases List.mem_cons.1 hx with rfl | hx
              · exact first
              · rw [List.mem_singleton.1 hx]; exact second
            · exact first a ha
  exact key _ q t h (Nat.le_refl _)
theorem derS_snoc (r : Rx) (u : List UInt8) (b : UInt8) : derS r (u ++ [b]) = D1 (derS r u) b := by unfold derS; rw [List.foldl_append]; rfl
theorem res_all : ∀ (k : Nat) (w : List UInt8), w.length ≤ k → ∀ (n : Nat) (r : Rx), size r ≤ n → ∀ a ∈ altF (derS r w), Res1 r w a := by
  intro k
  induction k with
  | zero =>
    intro w hw n r _ a ha
    have : w = [] := List.eq_nil_of_length_eq_zero (by omega)
    subst this
    exact altF_pos .root ha
  | succ k ih =>
    intro w hw
    rcases List.eq_nil_or_concat w with rfl | ⟨u, b, rfl⟩
    · intro n r _ a ha
      exact altF_pos .root ha
    · rw [List.concat_eq_append] at hw ⊢
      have hu : u.length ≤ k := by simp at hw; omega
      have hb : [b] <:+ u ++ [b] := List.suffix_append _ _
      intro n
      induction n with
      | zero => intro r h; have := size_pos r; omega
      | succ n ihn =>
        intro r hr a ha
        rw [derS_snoc] at ha
        have hold := ih u hu _ r (Nat.le_refl _)
        have step : ∀ x, Res1 r u x → ∀ a ∈ altF (D1 x b), Res1 r (u ++ [b]) a := by
          intro x hx a ha
          rcases hx with rfl | hx | ⟨q, t, v, ⟨h1, _⟩, h2, h3, rfl⟩
          · rw [D1_emp] at ha; cases ha
          · exact ((res_one b _ x (Nat.le_refl _) a ha).comp hx).mono hb
          · have hv : v ++ [b] <:+ u ++ [b] := by
              obtain ⟨p, rfl⟩ := h3
              exact ⟨p, by rw [List.append_assoc]⟩
            have hS : ∀ a ∈ altF (derS q (v ++ [b])), Res1 q (v ++ [b]) a := by
              by_cases hl : v.length < u.length
              · exact ih (v ++ [b]) (by simp; omega) _ q (Nat.le_refl _)
              · have : v = u := h3.eq_of_length (by have := h3.length_le; omega)
                subst this
                exact ihn q (by have := h1.small h2; omega)
            have first : ∀ a ∈ altF (catX [D1 (derS q v) b, catX t]), Res1 r (u ++ [b]) a := by
              obtain ⟨t', g1, g2⟩ := catX_pos h1 (D1 (derS q v) b)
              rw [g2]
              rw [← derS_snoc]
              exact res_app g1 hv rfl hS
            have second : ∀ a ∈ altF (D1 (catX t) b), Res1 r (u ++ [b]) a := res_start h1 hb
            rw [D1_cat rfl] at ha
            split at ha
            · refine res_alt (fun x hx => ?_) a ha
              rcases List.mem_cons.1 hx with rfl | hx
              · exact first
              · rw [List.mem_singleton.1 hx]; exact second
            · exact first a ha
        by_cases k4 : (derS r u).kind = 4
        · rw [D1_alt k4] at ha
          refine res_alt (fun y hy => ?_) a ha
          obtain ⟨x, hx, rfl⟩ := List.mem_map.1 hy
          exact step x (hold x (by rw [altF_alt k4]; exact hx))
        · by_cases k0 : (derS r u).kind = 0
          · rw [D1_else (by omega) (by omega) (by omega) (by omega)] at ha
            cases ha
          · exact step _ (hold _ (by rw [altF_one k4 k0]; exact List.mem_singleton.2 rfl)) a ha
theorem res_der (r : Rx) (w : List UInt8) : ∀ a ∈ altF (derS r w), Res1 r w a := res_all _ w (Nat.le_refl _) _ r (Nat.le_refl _)
end Go.Rx
end
section
open Go Go.Proofs Go.Ab Go.Rf
set_option maxRecDepth 100000
namespace Go.Rx
mutual
def cd : Rx → Nat
  | .mk k _ _ _ _ l => if k = 3 then 1 + cds l else 0
def cds : List Rx → Nat
  | [] => 0
  | x :: l => max (cd x) (cds l)
end
theorem cds_append : ∀ l m : List Rx, cds (l ++ m) = max (cds l) (cds m)
  | [], m => by simp [cds]
  | x :: l, m => by simp only [List.cons_append, cds, cds_append l m]; omega
theorem cd_cat {x : Rx} (k : x.kind = 3) : cd x = 1 + cds x.subs := by
  cases x with | mk k' a b c d l => simp only [cd]; rw [if_pos (show k' = 3 from k)]; rfl
theorem cd_non {x : Rx} (k : x.kind ≠ 3) : cd x = 0 := by
  cases x with | mk k' a b c d l => simp only [cd]; rw [if_neg (show ¬ k' = 3 from k)]
theorem cds_catF (x : Rx) : cds (catF x) ≤ cd x - 1 := by
  unfold catF
  split
  · rename_i k; rw [cd_cat k]; omega
  · split
    · simp [cds]
    · rename_i k _; simp [cds, cd_non k]
theorem cds_outC : ∀ l : List Rx, cds (outC l) ≤ cds l - 1
  | [] => by simp [outC, cds]
  | x :: l => by
    have h1 := cds_outC l
    have h2 := cds_catF x
    rw [outC_cons, cds_append]
    simp only [cds]; omega
theorem outC_stable : ∀ l : List Rx, cds l = 0 → outC (outC l) = outC l
  | [], _ => rfl
  | x :: l, h => by
    simp only [cds] at h
    have hx : cd x = 0 := by omega
    have hl := outC_stable l (by omega)
    have k : x.kind ≠ 3 := fun k => by rw [cd_cat k] at hx; omega
    rw [outC_cons, outC_append, hl]
    congr 1
    unfold catF
    rw [if_neg k]
    split
    · rfl
    · rename_i k1; simp [outC, catF, k, k1]
theorem Fi_fix {m : List Rx} (h : outC m = m) : ∀ i, Fi i m = m
  | 0 => rfl
  | i + 1 => by show Fi i (outC m) = m; rw [h]; exact Fi_fix h i
theorem Fi_stable : ∀ (d : Nat) (l : List Rx), cds l ≤ d → ∀ i, Fi (d + 1 + i) l = Fi (d + 1) l
  | 0, l, h, i => by
    have e := outC_stable l (by omega)
    show Fi (0 + 1 + i) l = Fi 0 (outC l)
    rw [show 0 + 1 + i = i + 1 by omega]
    exact Fi_fix e i
  | d + 1, l, h, i => by
    have := cds_outC l
    rw [show d + 1 + 1 + i = (d + 1 + i) + 1 by omega]
    exact Fi_stable d (outC l) (by omega) i
def Vs (j : Nat) (tl : List Rx) : List (List Rx) := if tl.length = 0 then [[]] else (List.range (cds tl + 2 - j)).map fun i => Fi (i + j) tl
theorem Fi_nil : ∀ i, Fi i [] = []
  | 0 => rfl
  | i + 1 => Fi_nil i
theorem mem_Vs {j i : Nat} (hj : j ≤ 1) (hi : j ≤ i) (tl : List Rx) : Fi i tl ∈ Vs j tl := by
  unfold Vs
  split
  · rename_i h
    have : tl = [] := List.eq_nil_of_length_eq_zero h
    subst this
    rw [Fi_nil]; exact List.mem_singleton.2 rfl
  · by_cases hi' : i ≤ cds tl + 1
    · exact List.mem_map.2 ⟨i - j, List.mem_range.2 (by omega), by rw [show i - j + j = i by omega]⟩
    · refine List.mem_map.2 ⟨cds tl + 1 - j, List.mem_range.2 (by omega), ?_⟩
      have := Fi_stable (cds tl) tl (Nat.le_refl _) (i - (cds tl + 1))
      rw [show cds tl + 1 + (i - (cds tl + 1)) = i by omega] at this
      rw [show cds tl + 1 - j + j = cds tl + 1 by omega]
      exact this.symm
def ext (j : Nat) (tl : List Rx) (T : List (List Rx)) : List (List Rx) := T.flatMap fun t => (Vs j tl).map fun v => v ++ t
mutual
def pts (j : Nat) : Rx → List (List Rx) → List (Rx × List Rx)
  | .mk k a b c d l, T => T.map (fun t => (.mk k a b c d l, t)) ++ (if k = 5 then ptsS j l (.mk k a b c d l) T else if k = 4 then ptsA j l T else if k = 3 then ptsC j l T else [])
def ptsS (j : Nat) : List Rx → Rx → List (List Rx) → List (Rx × List Rx)
  | [], _, _ => []
  | x :: _, e, T => pts j x (T.map (e :: ·))
def ptsA (j : Nat) : List Rx → List (List Rx) → List (Rx × List Rx)
  | [], _ => []
  | x :: l, T => pts j x T ++ ptsA j l T
def ptsC (j : Nat) : List Rx → List (List Rx) → List (Rx × List Rx)
  | [], _ => []
  | x :: l, T => pts j x (ext j l T) ++ ptsC j l T
end
theorem mem_ptsA {j : Nat} {p : Rx × List Rx} {T : List (List Rx)} : ∀ {l : List Rx}, p ∈ ptsA j l T ↔ ∃ x ∈ l, p ∈ pts j x T
  | [] => by simp [ptsA]
  | x :: l => by simp [ptsA, mem_ptsA (l := l)]
theorem mem_ptsC {j : Nat} {p : Rx × List Rx} {T : List (List Rx)} : ∀ {l : List Rx}, p ∈ ptsC j l T ↔ ∃ l1 x tl, l = l1 ++ x :: tl ∧ p ∈ pts j x (ext j tl T)
  | [] => by simp [ptsC]
  | y :: l => by
    simp only [ptsC, List.mem_append, mem_ptsC (l := l)]
    constructor
    · rintro (h | ⟨l1, x, tl, rfl, h⟩)
      · exact ⟨[], y, l, rfl, h⟩
      · exact ⟨y :: l1, x, tl, rfl, h⟩
    · rintro ⟨l1, x, tl, e, h⟩
      cases l1 with
      | nil => simp at e; obtain ⟨rfl, rfl⟩ := e; exact .inl h
      | cons z l1 => simp at e; obtain ⟨rfl, rfl⟩ := e; exact .inr ⟨l1, x, tl, rfl, h⟩
theorem pts_eq (j : Nat) (e : Rx) (T : List (List Rx)) : pts j e T = T.map (fun t => (e, t)) ++ (if e.kind = 5 then ptsS j e.subs e T else if e.kind = 4 then ptsA j e.subs T else if e.kind = 3 then ptsC j e.subs T else []) := by
  cases e with | mk k a b c d l => simp only [pts, Rx.kind, Rx.subs]; rfl
theorem mem_here {j : Nat} {e : Rx} {t : List Rx} {T : List (List Rx)} (h : t ∈ T) : (e, t) ∈ pts j e T := by
  rw [pts_eq j]; exact List.mem_append_left _ (List.mem_map.2 ⟨t, h, rfl⟩)
theorem mem_ext {j i : Nat} (hj : j ≤ 1) (hi : j ≤ i) {t tl : List Rx} {T : List (List Rx)} (h : t ∈ T) : Fi i tl ++ t ∈ ext j tl T :=
  List.mem_flatMap.2 ⟨t, h, List.mem_map.2 ⟨_, mem_Vs hj hi tl, rfl⟩⟩
inductive Nx (j : Nat) : Rx → List Rx → Rx → List Rx → Prop
  | star {q t x l} (k : q.kind = 5) (e : q.subs = x :: l) : Nx j q t x (q :: t)
  | alt {q t x} (k : q.kind = 4) (e : x ∈ q.subs) : Nx j q t x t
  | cat {q t l x tl} (k : q.kind = 3) (e : q.subs = l ++ x :: tl) (i : Nat) (hi : j ≤ i) : Nx j q t x (Fi i tl ++ t)
theorem pts_next {j : Nat} (hj : j ≤ 1) : ∀ (n : Nat) (e : Rx), size e ≤ n → ∀ (T : List (List Rx)) (q : Rx) (t : List Rx) (x : Rx) (t' : List Rx), (q, t) ∈ pts j e T → Nx j q t x t' → (x, t') ∈ pts j e T := by
  intro n
  induction n with
  | zero => intro e h; have := size_pos e; omega
  | succ n ih =>
    intro e he T q t x t' hm hn
    rw [pts_eq, List.mem_append] at hm
    rw [pts_eq]
    refine List.mem_append_right _ ?_
    rcases hm with hm | hm
    · obtain ⟨t0, ht, e0⟩ := List.mem_map.1 hm
      injection e0 with e1 e2
      subst e1; subst e2
      cases hn with
      | star k es => rw [if_pos k, es]; exact mem_here (List.mem_map.2 ⟨_, ht, rfl⟩)
      | alt k es => rw [if_neg (by omega), if_pos k]; exact mem_ptsA.2 ⟨_, es, mem_here ht⟩
      | cat k es i hi => rw [if_neg (by omega), if_neg (by omega), if_pos k]; exact mem_ptsC.2 ⟨_, _, _, es, mem_here (mem_ext hj hi ht)⟩
    · split at hm
      · rename_i k
        rw [if_pos k]
        cases hs : e.subs with
        | nil => rw [hs] at hm; simp [ptsS] at hm
        | cons y l =>
          rw [hs] at hm
          have := size_cons hs
          exact ih y (by omega) _ q t x t' hm hn
      · rename_i k
        rw [if_neg k]
        split at hm
        · rename_i k
          rw [if_pos k]
          obtain ⟨y, hy, h1⟩ := mem_ptsA.1 hm
          have := size_mem hy
          exact mem_ptsA.2 ⟨y, hy, ih y (by omega) _ q t x t' h1 hn⟩
        · rename_i k
          rw [if_neg k]
          split at hm
          · rename_i k
            rw [if_pos k]
            obtain ⟨l1, y, tl, hy, h1⟩ := mem_ptsC.1 hm
            have : y ∈ e.subs := by rw [hy]; simp
            have := size_mem this
            exact mem_ptsC.2 ⟨l1, y, tl, hy, ih y (by omega) _ q t x t' h1 hn⟩
          · cases hm
theorem PT.mem {r q : Rx} {t : List Rx} (h : PT r q t) : (q, t) ∈ pts 0 r [[]] := by
  induction h with
  | root => exact mem_here (List.mem_singleton.2 rfl)
  | star k e h ih => exact pts_next (Nat.zero_le 1) _ r (Nat.le_refl _) _ _ _ _ _ ih (.star k e)
  | alt k e h ih => exact pts_next (Nat.zero_le 1) _ r (Nat.le_refl _) _ _ _ _ _ ih (.alt k e)
  | cat k e i h ih => exact pts_next (Nat.zero_le 1) _ r (Nat.le_refl _) _ _ _ _ _ ih (.cat k e i (Nat.zero_le i))
theorem PT.memF {r q : Rx} {t : List Rx} (h : PT r q t) : (q, outC t) ∈ pts 1 r [[]] := by
  induction h with
  | root => exact mem_here (List.mem_singleton.2 rfl)
  | @star q t x l k e h ih =>
    have : outC (q :: t) = q :: outC t := by rw [outC_cons]; simp [catF, k]
    rw [this]
    exact pts_next (Nat.le_refl 1) _ r (Nat.le_refl _) _ _ _ _ _ ih (.star k e)
  | alt k e h ih => exact pts_next (Nat.le_refl 1) _ r (Nat.le_refl _) _ _ _ _ _ ih (.alt k e)
  | @cat q t l x tl k e i h ih =>
    rw [outC_append, Fi_out]
    exact pts_next (Nat.le_refl 1) _ r (Nat.le_refl _) _ _ _ _ _ ih (.cat k e (i + 1) (by omega))
def vl (j : Nat) (tl : List Rx) : Nat := if tl.length = 0 then 1 else cds tl + 2 - j
mutual
def mm (j : Nat) : Rx → Nat
  | .mk k _ _ _ _ l => 1 + (if k = 5 then mS j l else if k = 4 then mA j l else if k = 3 then mC j l else 0)
def mS (j : Nat) : List Rx → Nat
  | [] => 0
  | x :: _ => mm j x
def mA (j : Nat) : List Rx → Nat
  | [] => 0
  | x :: l => mm j x + mA j l
def mC (j : Nat) : List Rx → Nat
  | [] => 0
  | x :: l => vl j l * mm j x + mC j l
end
theorem length_Vs (j : Nat) (tl : List Rx) : (Vs j tl).length = vl j tl := by unfold Vs vl; split <;> simp
theorem length_ext (j : Nat) (tl : List Rx) : ∀ T : List (List Rx), (ext j tl T).length = T.length * vl j tl
  | [] => by simp [ext]
  | t :: T => by
    have := length_ext j tl T
    unfold ext at this ⊢
    rw [List.flatMap_cons, List.length_append, this, List.length_map, length_Vs, List.length_cons, Nat.succ_mul]; omega
theorem mm_eq (j : Nat) (e : Rx) : mm j e = 1 + (if e.kind = 5 then mS j e.subs else if e.kind = 4 then mA j e.subs else if e.kind = 3 then mC j e.subs else 0) := by
  cases e with | mk k a b c d l => simp only [mm, Rx.kind, Rx.subs]; rfl
theorem length_pts (j : Nat) : ∀ (n : Nat) (e : Rx), size e ≤ n → ∀ T : List (List Rx), (pts j e T).length = T.length * mm j e := by
  intro n
  induction n with
  | zero => intro e h; have := size_pos e; omega
  | succ n ih =>
    intro e he T
    have hA : ∀ l : List Rx, (∀ x ∈ l, size x ≤ n) → (ptsA j l T).length = T.length * mA j l := by
      intro l
      induction l with
      | nil => intro _; simp [ptsA, mA]
      | cons x l ihl =>
        intro h
        simp only [ptsA, mA, List.length_append]
        rw [ih x (h x (List.mem_cons_self ..)) T, ihl fun y hy => h y (List.mem_cons_of_mem _ hy), Nat.mul_add]
    have hC : ∀ l : List Rx, (∀ x ∈ l, size x ≤ n) → (ptsC j l T).length = T.length * mC j l := by
      intro l
      induction l with
      | nil => intro _; simp [ptsC, mC]
      | cons x l ihl =>
        intro h
        simp only [ptsC, mC, List.length_append]
        rw [ih x (h x (List.mem_cons_self ..)) _, length_ext, ihl fun y hy => h y (List.mem_cons_of_mem _ hy), Nat.mul_add, Nat.mul_assoc]
    have hs : ∀ x ∈ e.subs, size x ≤ n := fun x hx => by have := size_mem hx; omega
    rw [pts_eq, mm_eq, List.length_append, List.length_map, Nat.mul_add, Nat.mul_one]
    congr 1
    split
    · cases hl : e.subs with
      | nil => simp [ptsS, mS]
      | cons x l =>
        simp only [ptsS, mS]
        rw [ih x (hs x (by rw [hl]; simp)), List.length_map]
    · split
      · exact hA _ hs
      · split
        · exact hC _ hs
        · simp
def sufs : List UInt8 → List (List UInt8)
  | [] => [[]]
  | b :: w => (b :: w) :: sufs w
theorem length_sufs : ∀ w : List UInt8, (sufs w).length = w.length + 1
  | [] => rfl
  | b :: w => by simp [sufs, length_sufs w]
theorem mem_sufs {v : List UInt8} : ∀ {w : List UInt8}, v <:+ w → v ∈ sufs w
  | [], h => by rw [List.suffix_nil.1 h]; exact List.mem_singleton.2 rfl
  | b :: w, h => by
    rcases List.suffix_cons_iff.1 h with rfl | h
    · exact List.mem_cons_self ..
    · exact List.mem_cons_of_mem _ (mem_sufs h)
def cand (r : Rx) (w : List UInt8) : List Rx :=
  empX :: ((pts 0 r [[]]).map (·.1) ++ ((pts 0 r [[]]).map (fun p => mk0 3 (p.1 :: p.2)) ++ (pts 1 r [[]]).flatMap fun p => (sufs w).map fun v => mk0 3 (derS p.1 v :: p.2)))
theorem mem_cand {r a : Rx} {w : List UInt8} (h : Res1 r w a) : a ∈ cand r w := by
  rcases h with h | h | ⟨q, t, v, ⟨h1, hv⟩, h2, h3, h4⟩
  · subst h; exact List.mem_cons_self ..
  · exact List.mem_cons_of_mem _ (List.mem_append_left _ (List.mem_map.2 ⟨_, h.mem, rfl⟩))
  · refine List.mem_cons_of_mem _ (List.mem_append_right _ ?_)
    by_cases e : v = []
    · subst e
      exact List.mem_append_left _ (List.mem_map.2 ⟨_, h1.mem, h4.symm⟩)
    · obtain ⟨t0, g1, g2⟩ := hv e
      subst g2
      exact List.mem_append_right _ (List.mem_flatMap.2 ⟨_, g1.memF, List.mem_map.2 ⟨v, mem_sufs h3, h4.symm⟩⟩)
theorem flatMap_len {α β : Type} {f : α → List β} {n : Nat} (h : ∀ x, (f x).length = n) : ∀ l : List α, (l.flatMap f).length = l.length * n
  | [] => by simp
  | x :: l => by rw [List.flatMap_cons, List.length_append, h, flatMap_len h l, List.length_cons, Nat.succ_mul]; omega
theorem length_cand (r : Rx) (w : List UInt8) : (cand r w).length = 2 * mm 0 r + (w.length + 1) * mm 1 r + 1 := by
  have h0 := length_pts 0 _ r (Nat.le_refl _) [[]]
  have h1 := length_pts 1 _ r (Nat.le_refl _) [[]]
  simp only [List.length_singleton, Nat.one_mul] at h0 h1
  unfold cand
  rw [List.length_cons, List.length_append, List.length_append, List.length_map, List.length_map, flatMap_len (n := w.length + 1) (fun p => by rw [List.length_map, length_sufs]), h0, h1, Nat.mul_comm (w.length + 1)]
  omega
theorem nodup_len {α : Type} : ∀ {l m : List α}, l.Nodup → (∀ x ∈ l, x ∈ m) → l.length ≤ m.length
  | [], _, _, _ => Nat.zero_le _
  | x :: l, m, hn, h => by
    obtain ⟨a, b, rfl⟩ := List.append_of_mem (h x (List.mem_cons_self ..))
    have hn' := List.nodup_cons.1 hn
    have := nodup_len (m := a ++ b) hn'.2 fun y hy => by
      have h1 := h y (List.mem_cons_of_mem _ hy)
      rw [List.mem_append, List.mem_cons] at h1
      rw [List.mem_append]
      rcases h1 with h1 | rfl | h1
      · exact .inl h1
      · exact absurd hy hn'.1
      · exact .inr h1
    simp only [List.length_append, List.length_cons] at this ⊢
    omega
theorem nodup_addX {out : List Rx} {x : Rx} (h : out.Nodup) : (addX out x).Nodup := by
  unfold addX
  split
  · exact h
  · rename_i hne
    rw [List.nodup_append]
    refine ⟨h, List.nodup_cons.2 ⟨by simp, List.nodup_nil⟩, fun a ha b hb e => hne ?_⟩
    rw [List.mem_singleton.1 hb] at e
    subst e
    exact List.any_eq_true.2 ⟨a, ha, eqX_iff.2 rfl⟩
theorem nodup_foldl : ∀ (l out : List Rx), out.Nodup → (l.foldl addX out).Nodup
  | [], _, h => h
  | x :: l, out, h => nodup_foldl l _ (nodup_addX h)
theorem outA_len {r : Rx} {w : List UInt8} {ls : List Rx} (h : ∀ l ∈ ls, ∀ a ∈ altF l, Res1 r w a) : (outA ls).length ≤ 2 * mm 0 r + (w.length + 1) * mm 1 r + 1 := by
  rw [← length_cand]
  refine nodup_len (nodup_foldl _ _ List.nodup_nil) fun a ha => ?_
  obtain ⟨l, h1, h2⟩ := mem_outA ha
  exact mem_cand (h l h1 a h2)
end Go.Rx
end
section
open Go Go.Proofs Go.Ab Go.Rf
set_option maxRecDepth 100000
namespace Go.Rx
theorem three_pos (n : Nat) : 1 ≤ 3 ^ n := Nat.one_le_pow _ _ (by decide)
theorem three_gt : ∀ n : Nat, n + 1 ≤ 3 ^ n
  | 0 => by decide
  | n + 1 => by have := three_gt n; rw [Nat.pow_succ]; omega
theorem sizes_altF (x : Rx) : sizes (altF x) ≤ size x := by
  unfold altF
  split
  · have := size_eq x; omega
  · split
    · exact Nat.zero_le _
    · simp [sizes]
theorem sizes_addX (out : List Rx) (x : Rx) : sizes (addX out x) ≤ sizes out + size x := by
  unfold addX
  split
  · omega
  · rw [sizes_append]; simp [sizes]
theorem sizes_fold : ∀ (l out : List Rx), sizes (l.foldl addX out) ≤ sizes out + sizes l
  | [], out => by simp [sizes]
  | x :: l, out => by
    have h1 := sizes_fold l (addX out x)
    have h2 := sizes_addX out x
    simp only [List.foldl_cons, sizes]; omega
theorem sizes_outA (ls : List Rx) : sizes (outA ls) ≤ sizes ls := by
  unfold outA
  have h1 := sizes_fold (ls.flatMap altF) []
  have h2 : sizes (ls.flatMap altF) ≤ sizes ls := by
    clear h1
    induction ls with
    | nil => simp [sizes]
    | cons x l ih => rw [List.flatMap_cons, sizes_append]; have := sizes_altF x; simp only [sizes]; omega
  simp only [sizes] at h1
  omega
theorem size_altX (ls : List Rx) : size (altX ls) ≤ 1 + sizes ls := by
  unfold altX
  split
  · show 1 + 0 ≤ _; omega
  · have := size_joinX 4 (outA ls); have := sizes_outA ls; omega
theorem size_D1 (b : UInt8) : ∀ (n : Nat) (r : Rx), size r ≤ n → size (D1 r b) + 1 ≤ 3 ^ size r
  | 0, r, h => by have := size_pos r; omega
  | n + 1, r, h => by
    have h3 := three_gt (size r)
    by_cases k2 : r.kind = 2
    · rw [D1_set k2]; have := size_pos r; split <;> (show 1 + 0 + 1 ≤ _; omega)
    · by_cases k5 : r.kind = 5
      · rw [D1_star k5]
        cases hs : r.subs with
        | nil => rw [hdX_nil hs, D1_nil]; have := size_pos r; show 1 + 0 + 1 ≤ _; omega
        | cons x l =>
          rw [hdX_cons hs]
          have hz := size_cons hs
          have ih := size_D1 b n x (by omega)
          have h1 := size_catX [D1 x b, r]
          simp only [sizes] at h1
          have h2 : 3 ^ (size x + 1) ≤ 3 ^ size r := Nat.pow_le_pow_right (by decide) (by omega)
          have h4 : 3 ^ (size r) = 3 * 3 ^ (size r - 1) := by rw [← Nat.pow_succ']; congr 1; omega
          have h5 : 3 ^ size x ≤ 3 ^ (size r - 1) := Nat.pow_le_pow_right (by decide) (by omega)
          have h6 := three_gt (size r - 1)
          have h7 : 3 ≤ 3 ^ (size r - 1) := by
            have : 3 ^ 1 ≤ 3 ^ (size r - 1) := Nat.pow_le_pow_right (by decide) (by have := size_pos x; omega)
            simpa using this
          omega
      · by_cases k4 : r.kind = 4
        · rw [D1_alt k4]
          have h1 := size_altX (r.subs.map fun x => D1 x b)
          have key : ∀ l : List Rx, (∀ x ∈ l, size x ≤ n) → sizes (l.map fun x => D1 x b) + 1 ≤ 3 ^ sizes l := fun l hl => by
            induction l with
            | nil => simp [sizes]
            | cons x l ihl =>
              have a1 := size_D1 b n x (hl x (List.mem_cons_self ..))
              have a2 := ihl fun y hy => hl y (List.mem_cons_of_mem _ hy)
              have a3 := size_pos x
              simp only [List.map_cons, sizes]
              rw [Nat.pow_add]
              have a4 : 3 ≤ 3 ^ size x := by
                have : 3 ^ 1 ≤ 3 ^ size x := Nat.pow_le_pow_right (by decide) a3
                simpa using this
              have a5 := three_pos (sizes l)
              have a6 : 3 ^ size x + 3 ^ sizes l ≤ 3 ^ size x * 3 ^ sizes l + 1 := by
                obtain ⟨p, hp⟩ : ∃ p, 3 ^ size x = p + 1 := ⟨3 ^ size x - 1, by omega⟩
                obtain ⟨q, hq⟩ : ∃ q, 3 ^ sizes l = q + 1 := ⟨3 ^ sizes l - 1, by omega⟩
                rw [hp, hq, Nat.add_mul, Nat.mul_add]
                omega
              omega
          have h2 := key r.subs fun x hx => by have := size_mem hx; omega
          have hz := size_eq r
          have h4 : 3 ^ size r = 3 * 3 ^ sizes r.subs := by rw [hz, Nat.pow_add]
          have h5 := three_pos (sizes r.subs)
          omega
        · by_cases k3 : r.kind = 3
          · cases hs : r.subs with
            | nil =>
              have e : D1 r b = nilX := by rw [D1_cat k3, hdX_nil hs, hs, D1_nil]; rfl
              have := size_pos r; rw [e]; show 1 + 0 + 1 ≤ _; omega
            | cons x tl =>
              have hz := size_cons hs
              have hp := size_pos x
              have hct := size_catX tl
              have ih := size_D1 b n x (by omega)
              have iht := size_D1 b n (catX tl) (by omega)
              have h1 := size_catX [D1 x b, catX tl]
              simp only [sizes] at h1
              have h2 := size_altX [catX [D1 x b, catX tl], D1 (catX tl) b]
              simp only [sizes] at h2
              have h4 : 3 ^ size (catX tl) ≤ 3 ^ (1 + sizes tl) := Nat.pow_le_pow_right (by decide) hct
              have h5 : 3 ^ size r = 3 * (3 ^ size x * 3 ^ sizes tl) := by rw [hz, show 1 + size x + sizes tl = (size x + sizes tl) + 1 by omega, Nat.pow_succ', Nat.pow_add]
              have h6 : 3 ^ (1 + sizes tl) = 3 * 3 ^ sizes tl := by rw [Nat.pow_add]
              have h7 := three_gt (sizes tl)
              have h8 : 3 ≤ 3 ^ size x := by
                have : 3 ^ 1 ≤ 3 ^ size x := Nat.pow_le_pow_right (by decide) hp
                simpa using this
              have h9 : 3 ^ size x + 3 * 3 ^ sizes tl ≤ 3 ^ size x * 3 ^ sizes tl + 3 := by
                obtain ⟨p, hp⟩ : ∃ p, 3 ^ size x = p + 3 := ⟨3 ^ size x - 3, by omega⟩
                obtain ⟨q, hq⟩ : ∃ q, 3 ^ sizes tl = q + 1 := ⟨3 ^ sizes tl - 1, by omega⟩
                rw [hp, hq, Nat.add_mul, Nat.mul_add, Nat.mul_add]
                omega
              have h10 : 3 * 3 ^ sizes tl ≤ 3 ^ size x * 3 ^ sizes tl := Nat.mul_le_mul_right _ h8
              have h11 : size (D1 r b) ≤ 1 + sizes tl + 3 ^ size x + 3 * 3 ^ sizes tl := by
                rw [D1_cat k3, hdX_cons hs, hs, List.tail_cons]
                split <;> omega
              have h12 : 3 ≤ 3 * 3 ^ sizes tl := by have := three_pos (sizes tl); omega
              omega
          · have := size_pos r; rw [D1_else k2 k3 k4 k5]; show 1 + 0 + 1 ≤ _; omega
end Go.Rx
end
section
open Go Go.Proofs Go.Ab Go.Rf
set_option maxRecDepth 100000
namespace Go.Rx
theorem range_setX (p : Nat → Bool) : rangeOk (setX p) := fun i hi => by
  have := wd_lt p i
  rcases (show i = 0 ∨ i = 1 ∨ i = 2 ∨ i = 3 by omega) with rfl | rfl | rfl | rfl
  · exact ⟨Int.natCast_nonneg _, by have : (setX p).w 0 = (wd p 0 : Nat) := rfl; omega⟩
  · exact ⟨Int.natCast_nonneg _, by have : (setX p).w 1 = (wd p 1 : Nat) := rfl; omega⟩
  · exact ⟨Int.natCast_nonneg _, by have : (setX p).w 2 = (wd p 2 : Nat) := rfl; omega⟩
  · exact ⟨Int.natCast_nonneg _, by have : (setX p).w 3 = (wd p 3 : Nat) := rfl; omega⟩
theorem range_mk0 (k : Int) (l : List Rx) : rangeOk (mk0 k l) := fun i hi => by
  rcases (show i = 0 ∨ i = 1 ∨ i = 2 ∨ i = 3 by omega) with rfl | rfl | rfl | rfl <;> exact ⟨Int.le_refl _, (by decide : (0 : Int) < 2 ^ 64)⟩
structure PClosed (p : Rx → Prop) : Prop where
  set : ∀ q, p (setX q)
  node : ∀ k l, p (mk0 k l)
theorem pclosed_range : PClosed rangeOk := ⟨range_setX, range_mk0⟩
section
variable {p : Rx → Prop} (hp : PClosed p)
include hp
theorem PClosed.setA (q : Nat → Bool) : allX p (setX q) := allX_iff.2 ⟨hp.set q, fun _ h => by cases h⟩
theorem PClosed.mkA {k : Int} {l : List Rx} (h : ∀ x ∈ l, allX p x) : allX p (mk0 k l) := allX_iff.2 ⟨hp.node k l, h⟩
theorem PClosed.joinA {k : Int} {l : List Rx} (h : ∀ x ∈ l, allX p x) : allX p (joinX k l) := all_joinX (fun _ => hp.node k l) h
theorem PClosed.setL : ∀ (n : Nat) (neg : Bool) (q : Nat → Bool) (t : List UInt8) (r : Res Rx), Rx.setL n neg q t = some r → r.All (allX p)
  | 0, _, _, _, _, h => by simp [Rx.setL] at h
  | n + 1, neg, q, t, r, h => by
    unfold Rx.setL at h
    split at h
    · cases h; trivial
    · split at h
      · cases h; trivial
      · split at h
        · cases h; show allX p _; exact hp.setA _
        · exact PClosed.setL n _ _ _ _ h
theorem PClosed.opX {c : Nat} {r r' : Rx} (h : allX p r) (e : Rx.opX c r = some r') : allX p r' := by
  have he : allX p (mk0 1 []) := hp.mkA fun _ h => by cases h
  have hst : allX p (starX r) := hp.mkA fun x hx => by rw [List.mem_singleton.1 hx]; exact h
  unfold Rx.opX at e
  repeat' split at e
  all_goals first
    | (cases e; exact hst)
    | (cases e; refine hp.mkA fun x hx => ?_; simp only [List.mem_cons, List.not_mem_nil, or_false] at hx; rcases hx with rfl | rfl <;> assumption)
    | cases e
theorem PClosed.opsL : ∀ (n : Nat) (r : Rx) (t : List UInt8) (o : Res Rx), Rx.opsL n r t = some o → allX p r → o.All (allX p)
  | 0, _, _, _, h, _ => by simp [Rx.opsL] at h
  | n + 1, r, t, o, h, hr => by
    unfold Rx.opsL at h
    split at h
    · rename_i r' e; exact PClosed.opsL n r' _ _ h (hp.opX hr e)
    · cases h; exact hr
theorem PClosed.par : ∀ (n : Nat), (∀ t r, alts n t = some r → r.All (allX p)) ∧ (∀ l t r, altL n l t = some r → (∀ x ∈ l, allX p x) → r.All (allX p)) ∧ (∀ t r, seqs n t = some r → r.All (allX p)) ∧
    (∀ l t r, seqL n l t = some r → (∀ x ∈ l, allX p x) → r.All (allX p)) ∧
    (∀ t r, piece n t = some r → r.All (allX p)) ∧ (∀ t r, atom n t = some r → r.All (allX p)) := by
  intro n
  induction n with
  | zero => exact ⟨fun t r h => by simp [alts] at h, fun l t r h => by simp [altL] at h, fun t r h => by simp [seqs] at h, fun l t r h => by simp [seqL] at h, fun t r h => by simp [piece] at h, fun t r h => by simp [atom] at h⟩
  | succ n ih =>
    obtain ⟨ih1, ih2, ih3, ih4, ih5, ih6⟩ := ih
    refine ⟨fun t r h => ?_, fun l t r h hx => ?_, fun t r h => ?_, fun l t r h hx => ?_, fun t r h => ?_, fun t r h => ?_⟩
    · unfold alts at h
      split at h
      · cases h
      · cases h; trivial
      · rename_i hq
        have h1 := ih3 _ _ hq
        exact ih2 _ _ _ h (fun x hx => by rw [List.mem_singleton.1 hx]; exact h1)
    · unfold altL at h
      split at h
      · split at h
        · cases h
        · cases h; trivial
        · rename_i hq
          have h1 := ih3 _ _ hq
          refine ih2 _ _ _ h fun x hx' => ?_
          rcases List.mem_append.1 hx' with hx' | hx'
          · exact hx x hx'
          · rw [List.mem_singleton.1 hx']; exact h1
      · cases h; exact hp.joinA hx
    · unfold seqs at h
      split at h
      · cases h
      · cases h; trivial
      · rename_i hq
        have h1 := ih5 _ _ hq
        exact ih4 _ _ _ h (fun x hx => by rw [List.mem_singleton.1 hx]; exact h1)
    · unfold seqL at h
      split at h
      · split at h
        · cases h
        · cases h; trivial
        · rename_i hq
          have h1 := ih5 _ _ hq
          refine ih4 _ _ _ h fun x hx' => ?_
          rcases List.mem_append.1 hx' with hx' | hx'
          · exact hx x hx'
          · rw [List.mem_singleton.1 hx']; exact h1
      · cases h; exact hp.joinA hx
    · unfold piece at h
      split at h
      · cases h
      · cases h; trivial
      · rename_i hq
        exact hp.opsL _ _ _ _ h (ih6 _ _ hq)
    · unfold atom at h
      split at h
      · split at h
        · cases h; exact hp.mkA fun _ h => by cases h
        · split at h
          · cases h
          · cases h; trivial
          · rename_i hq
            cases h
            have h1 := ih1 _ _ hq
            unfold closeR
            split
            · exact h1
            · trivial
      · split at h
        · unfold setR at h
          split at h
          · exact hp.setL _ _ _ _ _ h
          · split at h
            · cases h; exact hp.mkA fun _ h => by cases h
            · exact hp.setL _ _ _ _ _ h
        · split at h
          · cases h; exact hp.setA _
          · split at h
            · split at h
              · cases h; exact hp.setA _
              · split at h
                · cases h; trivial
                · cases h; exact hp.setA _
            · split at h
              · cases h; trivial
              · cases h; exact hp.setA _
theorem PClosed.parse (s : List UInt8) : allX p (parseV s).1 := by
  have hn : allX p (mk0 0 []) := hp.mkA fun _ h => by cases h
  unfold parseV
  split
  · exact hn
  · split
    · rename_i hr
      have := (hp.par _).1 _ _ hr
      split
      · split
        · exact hn
        · exact this
      · exact hn
    · exact hn
    · exact hn
end
theorem parse_range (s : List UInt8) : allX rangeOk (parseV s).1 := pclosed_range.parse s
theorem parse_lens (s : List UInt8) : lens 1002 (parseV s).1 := by
  have hn : lens 1002 (mk0 0 []) := lens_mk0.2 ⟨Nat.zero_le _, fun _ h => by cases h⟩
  unfold parseV
  split
  · exact hn
  · split
    · rename_i hs _ r t hr
      split
      · split
        · exact hn
        · exact lens_mono (by omega) _ _ (Nat.le_refl _) (alts_lens hr)
      · exact hn
    · exact hn
    · exact hn
theorem parse_lens40 (s : List UInt8) : lens (2 ^ 40) (parseV s).1 := lens_mono (by omega) _ _ (Nat.le_refl _) (parse_lens s)
def e1 : List UInt8 := [97, 43, 98, 63]
def e2 : List UInt8 := [91, 97, 45, 99, 93]
def e3 : List UInt8 := [97, 124]
def e4 : List UInt8 := [91, 98, 45, 97, 93]
theorem c19' {s : List UInt8} {f i : Int} (h : (parseV s).2 = (f, i)) : Holds Try.prog 19 [A.d (.lit (bytesV s))] [] (Ret (.tup [(true, enc (parseV s).1), (true, [.lit (.int .i64 f), .lit (.int .i64 i)])])) := by
  have := c19 s
  unfold pairA at this
  rw [h] at this
  exact this
theorem p1 : (parseV e1).2 = (0, 0) := by decide
theorem p2 : (parseV e2).2 = (0, 0) := by decide
theorem p3 : (parseV e3).2 = (8, 2) := by decide
theorem p4 : (parseV e4).2 = (8, 3) := by decide
theorem c24e (s : List UInt8) (h : s.length ≤ 10) (hm : matchOk (parseV e1).1 s = true) (v : Bool) (hv : matchV (parseV e1).1 s = v) : Holds Try.prog 24 [A.agg (enc (parseV e1).1), A.d (.lit (bytesV s))] [] (Ret (boolA v)) := by
  rw [← hv]
  exact c24 _ s (parse_range _) (parse_lens40 _) (by omega) fun _ => hm
theorem c14 : Holds Try.prog 14 [] [] (Ret (boolA true)) := by
  have hsz : size (parseV e2).1 ≤ 2 ^ 40 := by decide
  have hv : sizeV (parseV e2).1 = 1 := by decide
  have hsize : Holds Try.prog 17 [A.agg (enc (parseV e2).1)] [] (Ret (intA 1)) := by
    have := c17 _ hsz
    rw [hv] at this
    exact this
  refine w14 (call1 (c19' p1) ⟨_, _, rfl, rfl, teq6 _, rfl, call1 (c19' p2) ⟨_, _, rfl, rfl, teq6 _, rfl, call1 (c19' p3) ⟨_, _, rfl, rfl, teq6 _, rfl, call1 (c19' p4) ⟨_, _, rfl, rfl, teq6 _, rfl, rfl, rfl, rfl, rfl, rfl, rfl, rfl, rfl, fun _ => ⟨fun _ => ⟨fun _ => ?_, fun h => absurd h (by decide)⟩, fun h => absurd h (by decide)⟩, fun h => absurd h (by decide)⟩⟩⟩⟩)
  refine call1 (c24e [97] (by decide) (by decide) true (by decide)) ⟨_, rfl, rfl, fun _ => ?_, fun h => by cases h⟩
  refine call1 (c24e [97, 98] (by decide) (by decide) true (by decide)) ⟨_, rfl, rfl, fun _ => ?_, fun h => by cases h⟩
  refine call1 (c24e [97, 97, 98] (by decide) (by decide) true (by decide)) ⟨_, rfl, rfl, fun _ => ?_, fun h => by cases h⟩
  refine call1 (c24e [98] (by decide) (by decide) false (by decide)) ⟨_, rfl, rfl, fun _ => ?_, fun h => by cases h⟩
  exact call1 hsize ⟨_, rfl, rfl, rfl, rfl⟩
end Go.Rx
end
section
open Go Go.Proofs Go.Ab Go.Rf
set_option maxRecDepth 100000
namespace Go.Rx
inductive Star (P : List UInt8 → Prop) : List UInt8 → Prop
  | nil : Star P []
  | step {u v} (h : P u) (ht : Star P v) : Star P (u ++ v)
theorem Star.one {P : List UInt8 → Prop} {u : List UInt8} (h : P u) : Star P u := by have := Star.step h .nil; rwa [List.append_nil] at this
theorem Star.app {P : List UInt8 → Prop} {u v : List UInt8} (h : Star P u) (h' : Star P v) : Star P (u ++ v) := by
  induction h with
  | nil => exact h'
  | step h _ ih => rw [List.append_assoc]; exact .step h ih
theorem Star.mono {P Q : List UInt8 → Prop} (hq : ∀ u, P u → Q u) {u : List UInt8} (h : Star P u) : Star Q u := by
  induction h with
  | nil => exact .nil
  | step h _ ih => exact .step (hq _ h) ih
theorem Star.cons {P : List UInt8 → Prop} {b : UInt8} {w : List UInt8} : Star P (b :: w) ↔ ∃ u v, w = u ++ v ∧ P (b :: u) ∧ Star P v := by
  constructor
  · intro h
    generalize e : b :: w = x at h
    induction h with
    | nil => cases e
    | @step u v h ht ih =>
      cases u with
      | nil => exact ih (by simpa using e)
      | cons c u =>
        injection e with e1 e2
        subst e1
        exact ⟨u, v, e2, h, ht⟩
  · rintro ⟨u, v, rfl, h, ht⟩
    exact .step (u := b :: u) h ht
mutual
def lang : Rx → List UInt8 → Prop
  | .mk k a b c d l, w => if k = 1 then w = [] else if k = 2 then ∃ x, w = [x] ∧ hasX (.mk k a b c d l) x.toNat = true else if k = 3 then langC l w else if k = 4 then langA l w else if k = 5 then langS l w else False
def langC : List Rx → List UInt8 → Prop
  | [], w => w = []
  | x :: l, w => ∃ u v, w = u ++ v ∧ lang x u ∧ langC l v
def langA : List Rx → List UInt8 → Prop
  | [], _ => False
  | x :: l, w => lang x w ∨ langA l w
def langS : List Rx → List UInt8 → Prop
  | [], w => w = []
  | x :: _, w => Star (fun u => lang x u) w
end
theorem lang_eq (r : Rx) (w : List UInt8) : lang r w ↔ if r.kind = 1 then w = [] else if r.kind = 2 then ∃ x, w = [x] ∧ hasX r x.toNat = true else if r.kind = 3 then langC r.subs w else if r.kind = 4 then langA r.subs w else if r.kind = 5 then langS r.subs w else False := by
  cases r with | mk k a b c d l => simp only [lang, Rx.kind, Rx.subs]; exact Iff.rfl
section
variable {r : Rx} {w : List UInt8}
theorem lang1 (k : r.kind = 1) : lang r w ↔ w = [] := by rw [lang_eq, if_pos k]
theorem lang2 (k : r.kind = 2) : lang r w ↔ ∃ x, w = [x] ∧ hasX r x.toNat = true := by rw [lang_eq, if_neg (by omega), if_pos k]
theorem lang3 (k : r.kind = 3) : lang r w ↔ langC r.subs w := by rw [lang_eq, if_neg (by omega), if_neg (by omega), if_pos k]
theorem lang4 (k : r.kind = 4) : lang r w ↔ langA r.subs w := by rw [lang_eq, if_neg (by omega), if_neg (by omega), if_neg (by omega), if_pos k]
theorem lang5 (k : r.kind = 5) : lang r w ↔ langS r.subs w := by rw [lang_eq, if_neg (by omega), if_neg (by omega), if_neg (by omega), if_neg (by omega), if_pos k]
theorem lang0 (k1 : r.kind ≠ 1) (k2 : r.kind ≠ 2) (k3 : r.kind ≠ 3) (k4 : r.kind ≠ 4) (k5 : r.kind ≠ 5) : ¬ lang r w := by rw [lang_eq, if_neg k1, if_neg k2, if_neg k3, if_neg k4, if_neg k5]; exact id
end
theorem lang_nilX (w : List UInt8) : ¬ lang nilX w := lang0 (by decide) (by decide) (by decide) (by decide) (by decide)
theorem lang_empX (w : List UInt8) : lang empX w ↔ w = [] := lang1 rfl
theorem langA_iff {w : List UInt8} : ∀ {l : List Rx}, langA l w ↔ ∃ x ∈ l, lang x w
  | [] => by simp [langA]
  | x :: l => by simp [langA, langA_iff (l := l)]
theorem langC_append {m : List Rx} : ∀ {l : List Rx} {w : List UInt8}, langC (l ++ m) w ↔ ∃ u v, w = u ++ v ∧ langC l u ∧ langC m v
  | [], w => by
    simp only [List.nil_append, langC]
    constructor
    · intro h; exact ⟨[], w, rfl, rfl, h⟩
    · rintro ⟨u, v, rfl, rfl, h⟩; exact h
  | x :: l, w => by
    simp only [List.cons_append, langC]
    constructor
    · rintro ⟨u, v, rfl, h1, h2⟩
      obtain ⟨v1, v2, rfl, h3, h4⟩ := langC_append.1 h2
      exact ⟨u ++ v1, v2, by rw [List.append_assoc], ⟨u, v1, rfl, h1, h3⟩, h4⟩
    · rintro ⟨_, v2, rfl, ⟨u, v1, rfl, h1, h3⟩, h4⟩
      exact ⟨u, v1 ++ v2, by rw [List.append_assoc], h1, langC_append.2 ⟨v1, v2, rfl, h3, h4⟩⟩
theorem langC_one {x : Rx} {w : List UInt8} : langC [x] w ↔ lang x w := by
  simp only [langC]
  constructor
  · rintro ⟨u, v, rfl, h, rfl⟩; rwa [List.append_nil]
  · intro h; exact ⟨w, [], (List.append_nil w).symm, h, rfl⟩
theorem langC_catF {x : Rx} {w : List UInt8} : langC (catF x) w ↔ lang x w := by
  unfold catF
  split
  · rename_i k; exact (lang3 k).symm
  · split
    · rename_i k; exact (lang1 k).symm
    · exact langC_one
theorem langC_outC : ∀ {l : List Rx} {w : List UInt8}, langC (outC l) w ↔ langC l w
  | [], w => Iff.rfl
  | x :: l, w => by
    have e : outC (x :: l) = catF x ++ outC l := by unfold outC; rw [List.flatMap_cons]
    rw [e, langC_append]
    simp only [langC]
    constructor
    · rintro ⟨u, v, rfl, h1, h2⟩; exact ⟨u, v, rfl, langC_catF.1 h1, langC_outC.1 h2⟩
    · rintro ⟨u, v, rfl, h1, h2⟩; exact ⟨u, v, rfl, langC_catF.2 h1, langC_outC.2 h2⟩
theorem langC_none {l : List Rx} {w : List UInt8} (h : l.any (fun x => x.kind == 0) = true) : ¬ langC l w := by
  induction l generalizing w with
  | nil => cases h
  | cons x l ih =>
    rintro ⟨u, v, rfl, h1, h2⟩
    rw [List.any_cons, Bool.or_eq_true] at h
    rcases h with h | h
    · have k : x.kind = 0 := by simpa using h
      exact lang0 (by omega) (by omega) (by omega) (by omega) (by omega) h1
    · exact ih h h2
theorem lang_catX {l : List Rx} {w : List UInt8} : lang (catX l) w ↔ langC l w := by
  unfold catX
  split
  · rename_i h; exact ⟨fun h1 => absurd h1 (lang_nilX w), fun h1 => absurd h1 (langC_none h)⟩
  · rw [← langC_outC]
    split
    · rename_i h; rw [h]; exact lang_empX w
    · unfold joinX
      split
      · rename_i r h; rw [h]; exact langC_one.symm
      · exact lang3 rfl
theorem mem_addX {out : List Rx} {x y : Rx} : y ∈ addX out x ↔ y ∈ out ∨ y = x := by
  unfold addX
  split
  · rename_i h
    obtain ⟨z, hz, e⟩ := List.any_eq_true.1 h
    rw [eqX_iff] at e
    constructor
    · exact .inl
    · rintro (h | rfl)
      · exact h
      · rw [e]; exact hz
  · simp
theorem mem_fold {l : List Rx} : ∀ {out : List Rx} {y : Rx}, y ∈ l.foldl addX out ↔ y ∈ out ∨ y ∈ l := by
  induction l with
  | nil => intro out y; simp
  | cons x l ih => intro out y; rw [List.foldl_cons, ih, mem_addX, List.mem_cons, or_assoc]
theorem lang_altF {x : Rx} {w : List UInt8} : (∃ y ∈ altF x, lang y w) ↔ lang x w := by
  unfold altF
  split
  · rename_i k; rw [lang4 k, langA_iff]
  · split
    · rename_i k
      have := lang0 (r := x) (w := w) (by omega) (by omega) (by omega) (by omega) (by omega)
      simp [this]
    · simp
theorem lang_altX {l : List Rx} {w : List UInt8} : lang (altX l) w ↔ langA l w := by
  have key : (∃ y ∈ outA l, lang y w) ↔ langA l w := by
    rw [langA_iff]
    unfold outA
    constructor
    · rintro ⟨y, hy, h⟩
      rw [mem_fold] at hy
      rcases hy with hy | hy
      · cases hy
      · obtain ⟨x, hx, hxy⟩ := List.mem_flatMap.1 hy
        exact ⟨x, hx, lang_altF.1 ⟨y, hxy, h⟩⟩
    · rintro ⟨x, hx, h⟩
      obtain ⟨y, hy, h1⟩ := lang_altF.2 h
      exact ⟨y, mem_fold.2 (.inr (List.mem_flatMap.2 ⟨x, hx, hy⟩)), h1⟩
  rw [← key]
  unfold altX
  split
  · rename_i h; rw [h]; simp [lang_nilX w]
  · unfold joinX
    split
    · rename_i r h; rw [h]; simp
    · rw [lang4 rfl, langA_iff]; rfl
theorem nullAll_langC : ∀ {l : List Rx}, (∀ x ∈ l, null x = true ↔ lang x []) → (nullAll l = true ↔ langC l [])
  | [], _ => by simp [nullAll, langC]
  | x :: l, h => by
    have h1 := h x (List.mem_cons_self ..)
    have h2 := nullAll_langC (l := l) fun y hy => h y (List.mem_cons_of_mem _ hy)
    simp only [nullAll, langC, Bool.and_eq_true]
    rw [h1, h2]
    constructor
    · rintro ⟨a, b⟩; exact ⟨[], [], rfl, a, b⟩
    · rintro ⟨u, v, e, a, b⟩
      obtain ⟨rfl, rfl⟩ := List.append_eq_nil_iff.1 e.symm
      exact ⟨a, b⟩
theorem nullAny_langA : ∀ {l : List Rx}, (∀ x ∈ l, null x = true ↔ lang x []) → (nullAny l = true ↔ langA l [])
  | [], _ => by simp [nullAny, langA]
  | x :: l, h => by
    have h1 := h x (List.mem_cons_self ..)
    have h2 := nullAny_langA (l := l) fun y hy => h y (List.mem_cons_of_mem _ hy)
    simp only [nullAny, langA, Bool.or_eq_true]
    rw [h1, h2]
theorem null_lang : ∀ (n : Nat) (r : Rx), size r ≤ n → (null r = true ↔ lang r [])
  | 0, r, h => by have := size_pos r; omega
  | n + 1, r, h => by
    have hs : ∀ x ∈ r.subs, (null x = true ↔ lang x []) := fun x hx => by have := size_mem hx; exact null_lang n x (by omega)
    rw [null_eq]
    by_cases k1 : r.kind = 1
    · rw [if_pos (.inl k1), lang1 k1]; simp
    · by_cases k5 : r.kind = 5
      · rw [if_pos (.inr k5), lang5 k5]
        have : langS r.subs [] := by
          cases r.subs with
          | nil => rfl
          | cons x l => exact Star.nil
        simp [this]
      · rw [if_neg (by omega)]
        by_cases k3 : r.kind = 3
        · rw [if_pos k3, lang3 k3]; exact nullAll_langC hs
        · rw [if_neg k3]
          by_cases k4 : r.kind = 4
          · rw [if_pos k4, lang4 k4]; exact nullAny_langA hs
          · rw [if_neg k4]
            by_cases k2 : r.kind = 2
            · rw [lang2 k2]; simp
            · simp [lang0 k1 k2 k3 k4 k5]
theorem null_iff (r : Rx) : null r = true ↔ lang r [] := null_lang _ r (Nat.le_refl _)
theorem D1_lang (b : UInt8) : ∀ (n : Nat) (r : Rx), size r ≤ n → ∀ w, lang (D1 r b) w ↔ lang r (b :: w)
  | 0, r, h => by have := size_pos r; omega
  | n + 1, r, h => fun w => by
    by_cases k2 : r.kind = 2
    · rw [D1_set k2, lang2 k2]
      split
      · rename_i hh
        rw [lang_empX]
        constructor
        · rintro rfl; exact ⟨b, rfl, hh⟩
        · rintro ⟨x, e, _⟩; injection e
      · rename_i hh
        constructor
        · intro h1; exact absurd h1 (lang_nilX w)
        · rintro ⟨x, e, hx⟩; injection e with e1 e2; subst e1; exact absurd hx hh
    · by_cases k5 : r.kind = 5
      · rw [D1_star k5, lang_catX, lang5 k5]
        cases hs : r.subs with
        | nil =>
          rw [hdX_nil hs, D1_nil]
          constructor
          · rintro ⟨u, v, _, h1, _⟩; exact absurd h1 (lang_nilX u)
          · intro h1; cases h1
        | cons x l =>
          rw [hdX_cons hs]
          have hx := size_cons hs
          have ih := D1_lang b n x (by omega)
          simp only [langS]
          rw [Star.cons]
          constructor
          · rintro ⟨u, v, rfl, h1, h2⟩
            rw [langC_one, lang5 k5, hs] at h2
            exact ⟨u, v, rfl, (ih u).1 h1, h2⟩
          · rintro ⟨u, v, rfl, h1, h2⟩
            refine ⟨u, v, rfl, (ih u).2 h1, ?_⟩
            rw [langC_one, lang5 k5, hs]
            exact h2
      · by_cases k4 : r.kind = 4
        · rw [D1_alt k4, lang_altX, lang4 k4, langA_iff, langA_iff]
          constructor
          · rintro ⟨y, hy, h1⟩
            obtain ⟨x, hx, rfl⟩ := List.mem_map.1 hy
            have := size_mem hx
            exact ⟨x, hx, (D1_lang b n x (by omega) w).1 h1⟩
          · rintro ⟨x, hx, h1⟩
            have := size_mem hx
            exact ⟨_, List.mem_map.2 ⟨x, hx, rfl⟩, (D1_lang b n x (by omega) w).2 h1⟩
        · by_cases k3 : r.kind = 3
          · rw [lang3 k3]
            cases hs : r.subs with
            | nil =>
              have e : D1 r b = nilX := by
                rw [D1_cat k3, hdX_nil hs, hs, D1_nil]
                rfl
              rw [e]
              constructor
              · intro h1; exact absurd h1 (lang_nilX w)
              · intro h1; cases h1
            | cons x tl =>
              have hx := size_cons hs
              have hp := size_pos x
              have ih := D1_lang b n x (by omega)
              have iht := D1_lang b n (catX tl) (by have := size_catX tl; omega)
              have first : ∀ w, lang (catX [D1 x b, catX tl]) w ↔ ∃ u v, w = u ++ v ∧ lang x (b :: u) ∧ langC tl v := fun w => by
                rw [lang_catX]
                constructor
                · rintro ⟨u, v, rfl, h1, h2⟩
                  rw [langC_one, lang_catX] at h2
                  exact ⟨u, v, rfl, (ih u).1 h1, h2⟩
                · rintro ⟨u, v, rfl, h1, h2⟩
                  refine ⟨u, v, rfl, (ih u).2 h1, ?_⟩
                  rw [langC_one, lang_catX]; exact h2
              have whole : langC (x :: tl) (b :: w) ↔ (∃ u v, w = u ++ v ∧ lang x (b :: u) ∧ langC tl v) ∨ (lang x [] ∧ langC tl (b :: w)) := by
                constructor
                · rintro ⟨u, v, e, h1, h2⟩
                  cases u with
                  | nil => right; rw [List.nil_append] at e; rw [e]; exact ⟨h1, h2⟩
                  | cons c u => left; injection e with e1 e2; subst e1; exact ⟨u, v, e2, h1, h2⟩
                · rintro (⟨u, v, rfl, h1, h2⟩ | ⟨h1, h2⟩)
                  · exact ⟨b :: u, v, rfl, h1, h2⟩
                  · exact ⟨[], b :: w, rfl, h1, h2⟩
              rw [D1_cat k3, hdX_cons hs, hs, List.tail_cons, whole]
              split
              · rename_i hn
                rw [lang_altX]
                simp only [langA, or_false]
                rw [first, iht, lang_catX]
                have := (null_iff x).1 hn
                simp [this]
              · rename_i hn
                rw [first]
                have : ¬ lang x [] := fun h1 => hn ((null_iff x).2 h1)
                simp [this]
          · rw [D1_else k2 k3 k4 k5]
            constructor
            · intro h1; exact absurd h1 (lang_nilX w)
            · intro h1
              by_cases k1 : r.kind = 1
              · rw [lang1 k1] at h1; cases h1
              · exact absurd h1 (lang0 k1 k2 k3 k4 k5)
theorem D1_iff (r : Rx) (b : UInt8) (w : List UInt8) : lang (D1 r b) w ↔ lang r (b :: w) := D1_lang b _ r (Nat.le_refl _) w
theorem derS_iff : ∀ (s : List UInt8) (r : Rx), null (derS r s) = true ↔ lang r s
  | [], r => null_iff r
  | b :: s, r => by
    show null (derS (D1 r b) s) = true ↔ _
    rw [derS_iff s, D1_iff]
theorem matchV_iff (r : Rx) (s : List UInt8) : matchV r s = true ↔ chk 1 r = 0 ∧ lang r s := by
  unfold matchV
  rw [Bool.and_eq_true, decide_eq_true_eq, derS_iff]
end Go.Rx
end
section
open Go Go.Proofs Go.Ab Go.Rf
set_option maxRecDepth 100000
namespace Go.Rx
def Bd (r : Rx) (k : Nat) : Prop := 2 * mm 0 r + (k + 1) * mm 1 r + 1 ≤ 2 ^ 40 ∧ size r ≤ 2 ^ 40
theorem vl_pos {j : Nat} (hj : j ≤ 1) (l : List Rx) : 1 ≤ vl j l := by unfold vl; split <;> omega
theorem mm_mA {j : Nat} {x : Rx} : ∀ {l : List Rx}, x ∈ l → mm j x ≤ mA j l
  | y :: l, h => by
    rcases List.mem_cons.1 h with rfl | h
    · simp only [mA]; omega
    · have := mm_mA (j := j) h; simp only [mA]; omega
theorem mm_mC {j : Nat} (hj : j ≤ 1) {x : Rx} : ∀ {l : List Rx}, x ∈ l → mm j x ≤ mC j l
  | y :: l, h => by
    rcases List.mem_cons.1 h with rfl | h
    · have := Nat.le_mul_of_pos_left (mm j x) (vl_pos hj l); simp only [mC]; omega
    · have := mm_mC hj h; simp only [mC]; omega
theorem PT.mm {j : Nat} (hj : j ≤ 1) {r q : Rx} {t : List Rx} (h : PT r q t) : Rx.mm j q ≤ Rx.mm j r := by
  induction h with
  | root => exact Nat.le_refl _
  | @star q t x l k e h ih => rw [mm_eq j q, if_pos k, e] at ih; simp only [mS] at ih; omega
  | @alt q t x k e h ih => rw [mm_eq j q, if_neg (by omega), if_pos k] at ih; have := mm_mA (j := j) e; omega
  | @cat q t l x tl k e i h ih =>
    rw [mm_eq j q, if_neg (by omega), if_neg (by omega), if_pos k] at ih
    have : x ∈ q.subs := by rw [e]; simp
    have := mm_mC hj this; omega
theorem Bd.sub {r q : Rx} {t : List Rx} {k k' : Nat} (h : Bd r k) (hq : PT r q t) (hk : k' ≤ k) : Bd q k' := by
  have h0 := hq.mm (Nat.zero_le 1)
  have h1 := hq.mm (Nat.le_refl 1)
  have h2 := hq.size
  have h3 : (k' + 1) * mm 1 q ≤ (k + 1) * mm 1 r := Nat.mul_le_mul (by omega) h1
  exact ⟨by have := h.1; omega, by have := h.2; omega⟩
theorem altOk_of {r : Rx} {w : List UInt8} {ls : List Rx} {k : Nat} (hb : Bd r k) (hw : w.length ≤ k) (h : ∀ l ∈ ls, ∀ a ∈ altF l, Res1 r w a) : altOk ls = true := by
  rw [altOk_iff]
  have h1 := outA_len h
  have h2 : (w.length + 1) * mm 1 r ≤ (k + 1) * mm 1 r := Nat.mul_le_mul (by omega) (Nat.le_refl _)
  have := hb.1
  omega
theorem len_catF (x : Rx) : (catF x).length ≤ tw x := Nat.le_trans (length_tws _) (tws_catF x)
theorem len_sub (x : Rx) : x.subs.length < size x := by have := sizes_ge x.subs; have := size_eq x; omega
theorem len_der (q : Rx) (v : List UInt8) : (catF (derS q v)).length ≤ size q := by
  by_cases k : (derS q v).kind = 3
  · have e : catF (derS q v) = (derS q v).subs := by unfold catF; rw [if_pos k]
    rw [e]
    rcases res_der q v _ (by rw [altF_one (by omega) (by omega)]; exact List.mem_singleton.2 rfl) with h1 | h1 | ⟨q', t', v', ⟨h1, _⟩, h2, h3, h4⟩
    · rw [h1] at k; cases k
    · have := h1.size; have := len_sub (derS q v); omega
    · rw [h4, subs_mk0]
      have := h1.size; have := length_tws t'; have := size_pos q'
      simp only [List.length_cons]; omega
  · have := size_pos q
    unfold catF; rw [if_neg k]; split
    · simp
    · simpa using this
theorem len_catX (t : List Rx) : (catF (catX t)).length ≤ tws t := by
  have h := tws_outC t
  unfold catX
  split
  · rename_i k
    have : t ≠ [] := fun e => by rw [e] at k; cases k
    have h2 : 0 < t.length := List.length_pos_iff.2 this
    have h3 := length_tws t
    show 1 ≤ _; omega
  · split
    · exact Nat.zero_le _
    · rename_i hne
      match ho : outC t, hne with
      | [y], _ => rw [ho] at h; have := len_catF y; simp only [tws] at h; show (catF y).length ≤ _; omega
      | c :: d :: l, _ => rw [ho] at h; exact Nat.le_trans (length_tws (c :: d :: l)) h
theorem catOk_two {r q : Rx} {t : List Rx} {v : List UInt8} (h : PT r q t) (hr : size r ≤ 2 ^ 40) : catOk [derS q v, catX t] = true := by
  rw [catOk_iff]
  have h1 := h.size
  have h2 := len_der q v
  have h3 := len_catX t
  have e : outC [derS q v, catX t] = catF (derS q v) ++ catF (catX t) := by rw [outC_cons, outC_cons]; simp [outC]
  rw [e, List.length_append]; omega
theorem catOk_tl {r q : Rx} {t : List Rx} (h : PT r q t) (hr : size r ≤ 2 ^ 40) : catOk t = true := by
  rw [catOk_iff]
  have h1 := h.size
  have h2 := length_tws (outC t)
  have h3 := tws_outC t
  omega
theorem ok_first {r q : Rx} {t : List Rx} {v w : List UInt8} (h : PT r q t) (hv : v <:+ w) : ∀ a ∈ altF (catX [derS q v, catX t]), Res1 r w a := by
  obtain ⟨t', g1, g2⟩ := catX_pos h (derS q v)
  rw [g2]
  exact res_app g1 hv rfl (res_der q v)
theorem ok_start {r : Rx} {b : UInt8} {k : Nat} (hb : Bd r k) (hk : 1 ≤ k) : ∀ (m : Nat) (q : Rx) (t : List Rx), PT r q t → sizes t ≤ m → (∀ y, size y ≤ sizes t → Bd y 1 → ok1 y b = true) → ok1 (catX t) b = true := by
  intro m
  induction m with
  | zero =>
    intro q t h hm _
    have : t = [] := by
      cases t with
      | nil => rfl
      | cons x t => have := size_pos x; simp only [sizes] at hm; omega
    subst this
    exact derOk_empX _ _
  | succ m ih =>
    intro q t h hm hone
    unfold catX
    split
    · exact derOk_nilX _ _
    · split
      · exact derOk_empX _ _
      · rename_i hne
        have hsz := sizes_outC t
        match ho : outC t, hne with
        | [y], _ =>
          rw [ho] at hsz
          exact hone y (by simp only [sizes] at hsz; omega) (hb.sub (h.sufs [] y [] ho) hk)
        | c :: d :: l, _ =>
          rw [ho] at hsz
          have hc : PT r c (d :: l) := h.sufs [] c (d :: l) ho
          have hsc : size c ≤ sizes t ∧ sizes (d :: l) ≤ m ∧ sizes (d :: l) ≤ sizes t := by have := size_pos c; simp only [sizes] at hsz ⊢; omega
          rw [joinX_two, ok1_cat rfl]
          show (ok1 c b && (catOk (d :: l) && (catOk [D1 c b, catX (d :: l)] && (!null c || (ok1 (catX (d :: l)) b && altOk [catX [D1 c b, catX (d :: l)], D1 (catX (d :: l)) b]))))) = true
          rw [hone c hsc.1 (hb.sub hc hk), catOk_tl hc hb.2, show catOk [D1 c b, catX (d :: l)] = true from catOk_two (v := [b]) hc hb.2,
            ih c (d :: l) hc hsc.2.1 fun y hy => hone y (by omega), altOk_of (w := [b]) hb (by simpa using hk) fun x hx => ?_]
          · simp
          · rcases List.mem_cons.1 hx with rfl | hx
            · exact ok_first (v := [b]) hc (List.suffix_refl _)
            · rw [List.mem_singleton.1 hx]; exact res_start hc (List.suffix_refl _)
theorem ok_one (b : UInt8) : ∀ (n : Nat) (r : Rx), size r ≤ n → Bd r 1 → ok1 r b = true := by
  intro n
  induction n with
  | zero => intro r h; have := size_pos r; omega
  | succ n ih =>
    intro r h hb
    by_cases k5 : r.kind = 5
    · rw [ok1_star k5]
      cases hs : r.subs with
      | nil =>
        rw [hdX_nil hs, D1_nil]
        have e : catF r = [r] := by unfold catF; rw [if_neg (by omega), if_neg (by omega)]
        have : catOk [nilX, r] = true := by
          rw [catOk_iff, outC_cons, outC_cons, e]
          show 2 ≤ 2 ^ 40
          decide
        rw [this, show ok1 nilX b = true from derOk_nilX _ _]; rfl
      | cons x l =>
        have hsz := size_cons hs
        have hx : PT r x [r] := .star k5 hs .root
        have e : catF r = [r] := by unfold catF; rw [if_neg (by omega), if_neg (by omega)]
        have h2 := len_der x [b]
        have : catOk [D1 x b, r] = true := by
          rw [catOk_iff, outC_cons, outC_cons, e]
          have h3 : (catF (D1 x b)).length ≤ size x := h2
          have := hb.2
          simp only [outC, List.flatMap_nil, List.append_nil, List.length_append, List.length_singleton]; omega
        rw [hdX_cons hs, this, ih x (by omega) (hb.sub hx (Nat.le_refl _))]; rfl
    · by_cases k4 : r.kind = 4
      · rw [ok1_alt k4]
        have h1 : (r.subs.all fun x => ok1 x b) = true := List.all_eq_true.2 fun x hx => by
          have := size_mem hx
          exact ih x (by omega) (hb.sub (.alt k4 hx .root) (Nat.le_refl _))
        rw [h1, altOk_of (w := [b]) hb (Nat.le_refl 1) fun y hy => ?_]
        · rfl
        · obtain ⟨x, hx, rfl⟩ := List.mem_map.1 hy
          exact fun a ha => (res_one b _ x (Nat.le_refl _) a ha).comp (.alt k4 hx .root)
      · by_cases k3 : r.kind = 3
        · rw [ok1_cat k3]
          cases hs : r.subs with
          | nil =>
            rw [hdX_nil hs, D1_nil, show ok1 nilX b = true from derOk_nilX _ _]
            rfl
          | cons x tl =>
            have hsz := size_cons hs
            have hx : PT r x tl := by have := PT.cat (l := []) k3 hs 0 (.root (r := r)); rwa [List.append_nil] at this
            rw [hdX_cons hs, List.tail_cons, ih x (by omega) (hb.sub hx (Nat.le_refl _)), catOk_tl hx hb.2, show catOk [D1 x b, catX tl] = true from catOk_two (v := [b]) hx hb.2,
              ok_start hb (Nat.le_refl _) _ x tl hx (Nat.le_refl _) fun y hy => ih y (by have := size_pos x; omega), altOk_of (w := [b]) hb (Nat.le_refl 1) fun y hy => ?_]
            · simp
            · rcases List.mem_cons.1 hy with rfl | hy
              · exact ok_first (v := [b]) hx (List.suffix_refl _)
              · rw [List.mem_singleton.1 hy]; exact res_start hx (List.suffix_refl _)
        · exact ok1_else k3 k4 k5
theorem res_step {r x : Rx} {u : List UInt8} {b : UInt8} (hx : Res1 r u x) : ∀ a ∈ altF (D1 x b), Res1 r (u ++ [b]) a := by
  intro a ha
  have hb : [b] <:+ u ++ [b] := List.suffix_append _ _
  rcases hx with rfl | hx | ⟨q, t, v, ⟨h1, _⟩, h2, h3, rfl⟩
  · rw [D1_emp] at ha; cases ha
  · exact ((res_one b _ x (Nat.le_refl _) a ha).comp hx).mono hb
  · have hv : v ++ [b] <:+ u ++ [b] := by
      obtain ⟨p, rfl⟩ := h3
      exact ⟨p, by rw [List.append_assoc]⟩
    have first := ok_first (v := v ++ [b]) h1 hv
    rw [derS_snoc] at first
    have second : ∀ a ∈ altF (D1 (catX t) b), Res1 r (u ++ [b]) a := res_start h1 hb
    rw [D1_cat rfl] at ha
    split at ha
    · refine res_alt (fun x hx => ?_) a ha
      rcases List.mem_cons.1 hx with rfl | hx
      · exact first
      · rw [List.mem_singleton.1 hx]; exact second
    · exact first a ha
theorem ok_word (b : UInt8) : ∀ (k : Nat) (w : List UInt8), w.length ≤ k → ∀ (n : Nat) (r : Rx), size r ≤ n → Bd r (w.length + 1) → ok1 (derS r w) b = true := by
  intro k
  induction k with
  | zero =>
    intro w hw n r _ hb
    have : w = [] := List.eq_nil_of_length_eq_zero (by omega)
    subst this
    exact ok_one b _ r (Nat.le_refl _) hb
  | succ k ih =>
    intro w hw n
    induction n with
    | zero => intro r h; have := size_pos r; omega
    | succ n ihn =>
      intro r hr hb
      have hlen : (w ++ [b]).length ≤ w.length + 1 := by simp
      have step : ∀ a, Res1 r w a → ok1 a b = true := by
        rintro a (rfl | ha | ⟨q, t, v, ⟨h1, _⟩, h2, h3, rfl⟩)
        · exact derOk_empX _ _
        · exact ok_one b _ a (Nat.le_refl _) (hb.sub ha (by omega))
        · have hvl := h3.length_le
          have hv : v ++ [b] <:+ w ++ [b] := by
            obtain ⟨p, rfl⟩ := h3
            exact ⟨p, by rw [List.append_assoc]⟩
          have hq : ok1 (derS q v) b = true := by
            by_cases hl : v.length < w.length
            · exact ih v (by omega) _ q (Nat.le_refl _) (hb.sub h1 (by omega))
            · have : v = w := h3.eq_of_length (by omega)
              subst this
              exact ihn q (by have := h1.small h2; omega) (hb.sub h1 (Nat.le_refl _))
          have first := ok_first (v := v ++ [b]) h1 hv
          have hc := catOk_two (v := v ++ [b]) h1 hb.2
          rw [derS_snoc] at first hc
          rw [ok1_cat rfl]
          show (ok1 (derS q v) b && (catOk t && (catOk [D1 (derS q v) b, catX t] && (!null (derS q v) || (ok1 (catX t) b && altOk [catX [D1 (derS q v) b, catX t], D1 (catX t) b]))))) = true
          rw [hq, catOk_tl h1 hb.2, hc, ok_start hb (by omega) _ q t h1 (Nat.le_refl _) fun y _ hy => ok_one b _ y (Nat.le_refl _) hy, altOk_of (w := w ++ [b]) hb hlen fun x hx => ?_]
          · simp
          · rcases List.mem_cons.1 hx with rfl | hx
            · exact first
            · rw [List.mem_singleton.1 hx]; exact res_start h1 (List.suffix_append _ _)
      have hold := res_der r w
      by_cases k4 : (derS r w).kind = 4
      · rw [ok1_alt k4]
        have h1 : ((derS r w).subs.all fun x => ok1 x b) = true := List.all_eq_true.2 fun x hx => step x (hold x (by rw [altF_alt k4]; exact hx))
        rw [h1, altOk_of (w := w ++ [b]) hb hlen fun y hy => ?_]
        · rfl
        · obtain ⟨x, hx, rfl⟩ := List.mem_map.1 hy
          exact res_step (hold x (by rw [altF_alt k4]; exact hx))
      · by_cases k0 : (derS r w).kind = 0
        · exact ok1_else (by omega) (by omega) (by omega)
        · exact step _ (hold _ (by rw [altF_one k4 k0]; exact List.mem_singleton.2 rfl))
theorem matchOk_of {r : Rx} {K : Nat} (hb : Bd r K) : ∀ (s u : List UInt8), u.length + s.length ≤ K → matchOk (derS r u) s = true
  | [], _, _ => rfl
  | b :: s, u, h => by
    show (ok1 (derS r u) b && matchOk (D1 (derS r u) b) s) = true
    simp only [List.length_cons] at h
    rw [ok_word b _ u (Nat.le_refl _) _ r (Nat.le_refl _) (hb.sub .root (by omega)), ← derS_snoc, matchOk_of hb s (u ++ [b]) (by simp; omega)]
    rfl
end Go.Rx
end
section
open Go Go.Proofs Go.Ab Go.Rf
set_option maxRecDepth 100000
namespace Go.Rx
def fT : List Nat := [0, 1, 2, 5, 9, 17, 29, 53, 89, 161, 269, 485, 809, 1457, 2429, 4373, 7289, 13121, 21869, 39365, 65609, 118097, 196829, 354293, 590489, 1062881, 1771469, 3188645, 5314409, 9565937, 15943229, 28697813, 47829689, 86093441, 143489069, 258280325, 430467209, 774840977, 1291401629, 2324522933, 3874204889, 6973568801, 11622614669, 20920706405, 34867844009, 62762119217, 104603532029, 188286357653, 313810596089, 564859072961, 941431788269, 1694577218885, 2824295364809, 5083731656657, 8472886094429, 15251194969973, 25418658283289, 45753584909921, 76255974849869, 137260754729765, 228767924549609]
def gT : List Nat := [0, 1, 4, 8, 16, 28, 52, 88, 160, 268, 484, 808, 1456, 2428, 4372, 7288, 13120, 21868, 39364, 65608, 118096, 196828, 354292, 590488, 1062880, 1771468, 3188644, 5314408, 9565936, 15943228, 28697812, 47829688, 86093440, 143489068, 258280324, 430467208, 774840976, 1291401628, 2324522932, 3874204888, 6973568800, 11622614668, 20920706404, 34867844008, 62762119216, 104603532028, 188286357652, 313810596088, 564859072960, 941431788268, 1694577218884, 2824295364808, 5083731656656, 8472886094428, 15251194969972, 25418658283288, 45753584909920, 76255974849868, 137260754729764, 228767924549608, 411782264189296]
def fB (n : Nat) : Nat := fT.getD n 0
def gB (n : Nat) : Nat := gT.getD n 0
def wB (n : Nat) : Nat := if n = 0 then 1 else n + 2
def tabOk : Bool := (List.range 61).all fun n => n == 0 || (Nat.ble (1 + gB (n - 1)) (fB n) && (List.range n).all fun j => Nat.ble (1 + (if j = 0 then 0 else fB j)) (fB n) && Nat.ble (fB (j + 1) * wB (n - (j + 1)) + gB (n - (j + 1))) (gB n))
theorem tab_ok : tabOk = true := by kernel_rfl
theorem tab {n : Nat} (h0 : 0 < n) (h : n ≤ 60) : 1 + gB (n - 1) ≤ fB n ∧ (∀ j, 1 ≤ j → j < n → 1 + fB j ≤ fB n) ∧ 1 ≤ fB n ∧ ∀ j, 1 ≤ j → j ≤ n → fB j * wB (n - j) + gB (n - j) ≤ gB n := by
  have h1 := List.all_eq_true.1 tab_ok n (List.mem_range.2 (by omega))
  simp only [Bool.or_eq_true, beq_iff_eq, Bool.and_eq_true, Nat.ble_eq] at h1
  rcases h1 with h1 | ⟨h1, h2⟩
  · omega
  · have h3 := fun j (hj : j < n) => by
      have := List.all_eq_true.1 h2 j (List.mem_range.2 hj)
      simpa only [Bool.and_eq_true, Nat.ble_eq] using this
    refine ⟨h1, fun j a b => ?_, ?_, fun j a b => ?_⟩
    · have := (h3 j b).1
      rw [if_neg (by omega)] at this
      exact this
    · have := (h3 0 h0).1
      simpa using this
    · have := (h3 (j - 1) (by omega)).2
      rw [show j - 1 + 1 = j by omega] at this
      exact this
mutual
theorem cd_size : ∀ x : Rx, cd x ≤ size x
  | .mk k _ _ _ _ l => by
    have := cds_size l
    simp only [cd, size]; split <;> omega
theorem cds_size : ∀ l : List Rx, cds l ≤ sizes l
  | [] => Nat.le_refl _
  | x :: l => by
    have := cd_size x
    have := cds_size l
    simp only [cds, sizes]; omega
end
theorem vl_le (j : Nat) (l : List Rx) : vl j l ≤ wB (sizes l) := by
  have h := cds_size l
  unfold vl wB
  cases l with
  | nil => simp [sizes]
  | cons x l =>
    have := size_pos x
    rw [if_neg (by simp), if_neg (by simp only [sizes]; omega)]
    omega
theorem mm_le (j : Nat) : ∀ (n : Nat) (e : Rx), size e ≤ n → size e ≤ 60 → mm j e ≤ fB (size e) := by
  intro n
  induction n with
  | zero => intro e h; have := size_pos e; omega
  | succ n ih =>
    intro e h h60
    obtain ⟨t1, t2, t3, _⟩ := tab (size_pos e) h60
    have hA : ∀ l : List Rx, sizes l ≤ n → sizes l ≤ 60 → mA j l ≤ gB (sizes l) := by
      intro l
      induction l with
      | nil => intro _ _; simp [mA]
      | cons x l ihl =>
        intro h1 h2
        have hx := size_pos x
        simp only [sizes] at h1 h2
        have a1 := ihl (by omega) (by omega)
        have a2 := ih x (by omega) (by omega)
        obtain ⟨_, _, _, t4⟩ := tab (n := size x + sizes l) (by omega) h2
        have a3 := t4 (size x) hx (by omega)
        rw [show size x + sizes l - size x = sizes l by omega] at a3
        have a4 : fB (size x) ≤ fB (size x) * wB (sizes l) := Nat.le_mul_of_pos_right _ (by unfold wB; split <;> omega)
        simp only [mA, sizes]; omega
    have hC : ∀ l : List Rx, sizes l ≤ n → sizes l ≤ 60 → mC j l ≤ gB (sizes l) := by
      intro l
      induction l with
      | nil => intro _ _; simp [mC]
      | cons x l ihl =>
        intro h1 h2
        have hx := size_pos x
        simp only [sizes] at h1 h2
        have a1 := ihl (by omega) (by omega)
        have a2 := ih x (by omega) (by omega)
        obtain ⟨_, _, _, t4⟩ := tab (n := size x + sizes l) (by omega) h2
        have a3 := t4 (size x) hx (by omega)
        rw [show size x + sizes l - size x = sizes l by omega] at a3
        have a4 : vl j l * mm j x ≤ fB (size x) * wB (sizes l) := by rw [Nat.mul_comm]; exact Nat.mul_le_mul a2 (vl_le j l)
        simp only [mC, sizes]; omega
    have hsz := size_eq e
    rw [show size e - 1 = sizes e.subs by omega] at t1
    rw [mm_eq]
    split
    · cases hs : e.subs with
      | nil => simp only [mS]; omega
      | cons x l =>
        have h1 := size_cons hs
        have h2 := ih x (by omega) (by omega)
        have h3 := t2 (size x) (size_pos x) (by omega)
        simp only [mS]; omega
    · split
      · have := hA e.subs (by omega) (by omega); omega
      · split
        · have := hC e.subs (by omega) (by omega); omega
        · omega
theorem fB_mono : ((List.range 61).all fun n => Nat.ble ((28 + 3) * fB n + 1) (2 ^ 40) || Nat.ble 41 n) = true := by kernel_rfl
theorem bd40 {r : Rx} (h : size r ≤ 40) {k : Nat} (hk : k ≤ 28) : Bd r k := by
  have h0 := mm_le 0 _ r (Nat.le_refl _) (by omega)
  have h1 := mm_le 1 _ r (Nat.le_refl _) (by omega)
  have h2 := List.all_eq_true.1 fB_mono (size r) (List.mem_range.2 (by omega))
  simp only [Bool.or_eq_true, Nat.ble_eq] at h2
  have h3 : (k + 1) * mm 1 r ≤ (28 + 1) * fB (size r) := Nat.mul_le_mul (by omega) h1
  exact ⟨by omega, by omega⟩
theorem matchOk40 {r : Rx} (h : size r ≤ 40) {s : List UInt8} (hs : s.length ≤ 28) : matchOk r s = true := matchOk_of (bd40 h (Nat.le_refl 28)) s [] (by simpa using hs)
end Go.Rx
end
section
open Go Go.Proofs Go.Ab Go.Rf
set_option maxRecDepth 100000
namespace Go.Rx
theorem chks_iff {lvl : Int} : ∀ {l : List Rx}, chks lvl l = 0 ↔ ∀ x ∈ l, chk lvl x = 0
  | [] => by simp [chks]
  | x :: l => by
    simp only [chks, List.mem_cons, forall_eq_or_imp]
    rw [← chks_iff (l := l)]
    split
    · rename_i h; exact ⟨fun h1 => absurd h1 h, fun h1 => absurd h1.1 h⟩
    · rename_i h; exact ⟨fun h1 => ⟨by omega, h1⟩, fun h1 => h1.2⟩
theorem levelsL_iff {m : Nat} : ∀ {l : List Rx}, levelsL l ≤ m ↔ ∀ x ∈ l, levels x ≤ m
  | [] => by simp [levelsL]
  | x :: l => by
    simp only [levelsL, List.mem_cons, forall_eq_or_imp]
    rw [← levelsL_iff (l := l)]; omega
theorem chk_lv : ∀ (n : Nat) (r : Rx), size r ≤ n → ∀ lvl : Int, chk lvl r = 0 ↔ allX (fun r => nodeErr r = 0) r ∧ lvl + levels r ≤ 17
  | 0, r, h => by have := size_pos r; omega
  | n + 1, r, h => fun lvl => by
    rw [chk_eq, allX_iff, levels_eq]
    by_cases h16 : 16 < lvl
    · rw [if_pos h16]
      constructor
      · intro h1; cases h1
      · intro h1; omega
    · rw [if_neg h16]
      by_cases hn : nodeErr r = 0
      · rw [if_neg (by omega), chks_iff]
        have ih : ∀ x ∈ r.subs, (chk (lvl + 1) x = 0 ↔ allX (fun r => nodeErr r = 0) x ∧ lvl + 1 + levels x ≤ 17) := fun x hx => by
          have := size_mem hx
          exact chk_lv n x (by omega) (lvl + 1)
        have key : (lvl + ((levelsL r.subs + 1 : Nat) : Int) ≤ 17) ↔ ∀ x ∈ r.subs, lvl + 1 + levels x ≤ 17 := by
          have := levelsL_iff (m := (16 - lvl).toNat) (l := r.subs)
          constructor
          · intro h1 x hx
            have := this.1 (by omega) x hx
            omega
          · intro h1
            have := this.2 fun x hx => by have := h1 x hx; omega
            omega
        rw [key]
        constructor
        · intro h1
          exact ⟨⟨hn, fun x hx => ((ih x hx).1 (h1 x hx)).1⟩, fun x hx => ((ih x hx).1 (h1 x hx)).2⟩
        · rintro ⟨⟨_, h1⟩, h2⟩ x hx
          exact (ih x hx).2 ⟨h1 x hx, h2 x hx⟩
      · rw [if_pos hn]
        exact ⟨fun h1 => absurd h1 hn, fun h1 => absurd h1.1.1 hn⟩
theorem chk_iff (r : Rx) (lvl : Int) : chk lvl r = 0 ↔ allX (fun r => nodeErr r = 0) r ∧ lvl + levels r ≤ 17 := chk_lv _ r (Nat.le_refl _) lvl
def Vd (m : Nat) (r : Rx) : Prop := allX (fun r => nodeErr r = 0) r ∧ levels r ≤ m
theorem Vd.of {r : Rx} {m : Nat} (h : chk 1 r = 0) (hm : levels r ≤ m) : Vd m r := ⟨((chk_iff r 1).1 h).1, hm⟩
theorem Vd.chk {r : Rx} {m : Nat} (h : Vd m r) (hm : m ≤ 16) : chk 1 r = 0 := (chk_iff r 1).2 ⟨h.1, by have := h.2; omega⟩
theorem Vd.node {m : Nat} {k : Int} {l : List Rx} (hk : nodeErr (mk0 k l) = 0) (h : ∀ x ∈ l, Vd m x) : Vd (m + 1) (mk0 k l) :=
  ⟨allX_iff.2 ⟨hk, fun x hx => (h x hx).1⟩, by
    rw [levels_eq]
    have : levelsL l ≤ m := levelsL_iff.2 fun x hx => (h x hx).2
    show levelsL l + 1 ≤ m + 1
    omega⟩
theorem Vd.mono {r : Rx} {m m' : Nat} (h : Vd m r) (hm : m ≤ m') : Vd m' r := ⟨h.1, Nat.le_trans h.2 hm⟩
theorem Vd.two {m : Nat} {k : Int} {a b : Rx} (hk : k = 3 ∨ k = 4) (ha : Vd m a) (hb : Vd m b) : Vd (m + 1) (mk0 k [a, b]) :=
  .node (by rcases hk with rfl | rfl <;> rfl) fun x hx => by
    rcases List.mem_cons.1 hx with rfl | hx
    · exact ha
    · rw [List.mem_singleton.1 hx]; exact hb
theorem Vd.star {m : Nat} {a : Rx} (ha : Vd m a) : Vd (m + 1) (mk0 5 [a]) := .node rfl fun x hx => by rw [List.mem_singleton.1 hx]; exact ha
theorem range_node {k : Int} {l : List Rx} (h : ∀ x ∈ l, allX rangeOk x) : allX rangeOk (mk0 k l) := allX_iff.2 ⟨range_mk0 k l, h⟩
theorem range_two {k : Int} {a b : Rx} (ha : allX rangeOk a) (hb : allX rangeOk b) : allX rangeOk (mk0 k [a, b]) := range_node fun x hx => by
  rcases List.mem_cons.1 hx with rfl | hx
  · exact ha
  · rw [List.mem_singleton.1 hx]; exact hb
theorem size_two (k : Int) (a b : Rx) : size (mk0 k [a, b]) = 1 + size a + size b := by simp only [mk0, size, sizes]; omega
theorem size_star (a : Rx) : size (mk0 5 [a]) = 1 + size a := by simp only [mk0, size, sizes]; omega
theorem c24q {r : Rx} {s : List UInt8} (hr : allX rangeOk r) (h : size r ≤ 40) (hs : s.length ≤ 28) : Holds Try.prog 24 [A.agg (enc r), A.d (.lit (bytesV s))] [] (Ret (boolA (matchV r s))) :=
  c24 r s hr (lens_size _ r (by omega) (Nat.le_refl _)) (by omega) fun _ => matchOk40 h hs
theorem c25 (k : Int) (a b : Rx) : Holds Try.prog 25 [A.d (.lit (.int .i64 k)), A.agg (enc a), A.agg (enc b)] [] (Ret (encA (mk0 k [a, b]))) :=
  w25 k (enc a) (enc b) ⟨teq6 a, teq6 b, rfl, rfl⟩
theorem matchV_eq {r r' : Rx} {s s' : List UInt8} (h : (chk 1 r = 0 ∧ lang r s) ↔ (chk 1 r' = 0 ∧ lang r' s')) : matchV r s = matchV r' s' := by
  rw [Bool.eq_iff_iff, matchV_iff, matchV_iff]; exact h
theorem no_beq {x y : Bool} (h : (x == y) = false) (e : x = y) : False := by subst e; cases x <;> cases h
theorem matchV_alt {m : Nat} {a b : Rx} (ha : Vd m a) (hb : Vd m b) (hm : m ≤ 15) (s : List UInt8) : matchV (mk0 4 [a, b]) s = (matchV a s || matchV b s) := by
  rw [Bool.eq_iff_iff, Bool.or_eq_true, matchV_iff, matchV_iff, matchV_iff, lang4 rfl]
  have h1 := (Vd.two (.inr rfl) ha hb).chk (by omega)
  have h2 := ha.chk (by omega)
  have h3 := hb.chk (by omega)
  simp only [subs_mk0, langA, or_false, h1, h2, h3, true_and]
theorem matchV_cat {m : Nat} {a b : Rx} (ha : Vd m a) (hb : Vd m b) (hm : m ≤ 15) (s : List UInt8) : matchV (mk0 3 [a, b]) s = true ↔ ∃ u v, s = u ++ v ∧ lang a u ∧ lang b v := by
  rw [matchV_iff, lang3 rfl]
  have h1 := (Vd.two (.inl rfl) ha hb).chk (by omega)
  simp only [subs_mk0, h1, true_and]
  constructor
  · rintro ⟨u, v, rfl, h2, h3⟩; exact ⟨u, v, rfl, h2, langC_one.1 h3⟩
  · rintro ⟨u, v, rfl, h2, h3⟩; exact ⟨u, v, rfl, h2, langC_one.2 h3⟩
end Go.Rx
end
section
open Go Go.Proofs Go.Ab Go.Rf
set_option maxRecDepth 100000
namespace Go.Rx
theorem levels_sub {r x : Rx} (h : x ∈ r.subs) : levels x + 1 ≤ levels r := by
  rw [levels_eq r]
  have := (levelsL_iff (m := levelsL r.subs)).1 (Nat.le_refl _) x h
  omega
theorem levels_pos (r : Rx) : 1 ≤ levels r := by rw [levels_eq]; omega
theorem lv_mk {m : Nat} {k : Int} {l : List Rx} (h : ∀ x ∈ l, levels x ≤ m) : levels (mk0 k l) ≤ m + 1 := by
  rw [levels_eq]
  have : levelsL l ≤ m := levelsL_iff.2 h
  show levelsL l + 1 ≤ m + 1
  omega
theorem lv_join {m : Nat} {k : Int} {l : List Rx} (h : ∀ x ∈ l, levels x ≤ m) : levels (joinX k l) ≤ m + 1 := by
  unfold joinX
  split
  · exact Nat.le_succ_of_le (h _ (by simp))
  · exact lv_mk h
theorem lv_catX {m : Nat} {l : List Rx} (h : ∀ x ∈ outC l, levels x ≤ m) : levels (catX l) ≤ m + 1 := by
  unfold catX
  split
  · show 1 ≤ _; omega
  · split
    · show 1 ≤ _; omega
    · exact lv_join h
theorem lv_altF {x a : Rx} (h : a ∈ altF x) : levels a ≤ levels x := by
  rcases mem_altF1 h with ⟨_, hs⟩ | ⟨_, _, rfl⟩
  · have := levels_sub hs; omega
  · exact Nat.le_refl _
theorem lv_catF {x y : Rx} (h : y ∈ catF x) : levels y ≤ levels x := by
  unfold catF at h
  split at h
  · have := levels_sub h; omega
  · split at h
    · cases h
    · rw [List.mem_singleton.1 h]; exact Nat.le_refl _
theorem lv_outC {l : List Rx} {m : Nat} (h : ∀ x ∈ l, levels x ≤ m) : ∀ y ∈ outC l, levels y ≤ m := fun y hy => by
  obtain ⟨x, hx, hxy⟩ := mem_outC hy
  have := h x hx; have := lv_catF hxy; omega
theorem lv_alts {m : Nat} {ls : List Rx} (h : ∀ l ∈ ls, ∀ a ∈ altF l, levels a ≤ m) : ∀ a ∈ altF (altX ls), levels a ≤ m := fun a ha => by
  have hm : ∀ x ∈ outA ls, levels x ≤ m := fun x hx => by
    obtain ⟨l, h1, h2⟩ := mem_outA hx
    exact h l h1 x h2
  unfold altX at ha
  split at ha
  · cases ha
  · unfold joinX at ha
    split at ha
    · rename_i r e
      have := hm r (by rw [e]; simp)
      have := lv_altF ha
      omega
    · rw [altF_alt rfl] at ha; exact hm a ha
theorem lv_altX {m : Nat} {ls : List Rx} (h : ∀ l ∈ ls, ∀ a ∈ altF l, levels a ≤ m) : levels (altX ls) ≤ m + 1 := by
  unfold altX
  split
  · show 1 ≤ _; omega
  · exact lv_join fun x hx => by
      obtain ⟨l, h1, h2⟩ := mem_outA hx
      exact h l h1 x h2
end Go.Rx
end
section
open Go Go.Proofs Go.Ab Go.Rf
set_option maxRecDepth 100000
namespace Go.Rx
theorem lv_D1 (b : UInt8) : ∀ (n : Nat) (r : Rx), size r ≤ n → (∀ a ∈ altF (D1 r b), levels a + 1 ≤ 2 * levels r) ∧ levels (D1 r b) ≤ 2 * levels r
  | 0, r, h => by have := size_pos r; omega
  | n + 1, r, h => by
    have hp := levels_pos r
    have hnil : (∀ a ∈ altF nilX, levels a + 1 ≤ 2 * levels r) ∧ levels nilX ≤ 2 * levels r := ⟨fun a ha => (by cases ha), by show 1 ≤ _; omega⟩
    by_cases k2 : r.kind = 2
    · rw [D1_set k2]
      split
      · refine ⟨fun a ha => ?_, by show 1 ≤ _; omega⟩
        have := lv_altF ha
        have e : levels empX = 1 := rfl
        omega
      · exact hnil
    · by_cases k5 : r.kind = 5
      · rw [D1_star k5]
        cases hs : r.subs with
        | nil => rw [hdX_nil hs, D1_nil]; exact hnil
        | cons x l =>
          rw [hdX_cons hs]
          have hz := size_cons hs
          have hx : levels x + 1 ≤ levels r := levels_sub (by rw [hs]; simp)
          have hxp := levels_pos x
          obtain ⟨_, i2⟩ := lv_D1 b n x (by omega)
          have key : ∀ y ∈ outC [D1 x b, r], levels y ≤ 2 * levels r - 2 := lv_outC fun y hy => by
            rcases List.mem_cons.1 hy with rfl | hy
            · omega
            · rw [List.mem_singleton.1 hy]; omega
          have h1 := lv_catX key
          exact ⟨fun a ha => by have := lv_altF ha; omega, by omega⟩
      · by_cases k4 : r.kind = 4
        · rw [D1_alt k4]
          have key : ∀ l ∈ r.subs.map (fun x => D1 x b), ∀ a ∈ altF l, levels a ≤ 2 * levels r - 1 := fun l hl a ha => by
            obtain ⟨x, hx, rfl⟩ := List.mem_map.1 hl
            have h1 := levels_sub hx
            have := size_mem hx
            have h2 := (lv_D1 b n x (by omega)).1 a ha
            omega
          have h1 := lv_altX key
          exact ⟨fun a ha => by have := lv_alts key a ha; omega, by omega⟩
        · by_cases k3 : r.kind = 3
          · cases hs : r.subs with
            | nil =>
              have e : D1 r b = nilX := by rw [D1_cat k3, hdX_nil hs, hs, D1_nil]; rfl
              rw [e]; exact hnil
            | cons x tl =>
              have hz := size_cons hs
              have hsp := size_pos x
              have hct := size_catX tl
              have hx : levels x + 1 ≤ levels r := levels_sub (by rw [hs]; simp)
              have hxp := levels_pos x
              have htl : ∀ y ∈ tl, levels y ≤ levels r - 1 := fun y hy => by have := levels_sub (r := r) (x := y) (by rw [hs]; exact List.mem_cons_of_mem _ hy); omega
              have hcat : levels (catX tl) ≤ levels r := by have := lv_catX (lv_outC htl); omega
              obtain ⟨_, i2⟩ := lv_D1 b n x (by omega)
              obtain ⟨j1, j2⟩ := lv_D1 b n (catX tl) (by omega)
              have hcf : ∀ y ∈ catF (catX tl), levels y ≤ levels r - 1 := fun y hy => by
                have hout := lv_outC htl
                unfold catX at hy
                split at hy
                · have := lv_catF hy; have e : levels nilX = 1 := rfl; omega
                · split at hy
                  · have := lv_catF hy; have e : levels empX = 1 := rfl; omega
                  · unfold joinX at hy
                    split at hy
                    · rename_i z e; have h1 := hout z (by rw [e]; simp); have := lv_catF hy; omega
                    · exact hout y hy
              have key : ∀ y ∈ outC [D1 x b, catX tl], levels y ≤ 2 * levels r - 2 := fun y hy => by
                have e : outC [D1 x b, catX tl] = catF (D1 x b) ++ catF (catX tl) := by rw [outC_cons, outC_cons]; simp [outC]
                rw [e, List.mem_append] at hy
                rcases hy with hy | hy
                · have := lv_catF hy; omega
                · have := hcf y hy; omega
              have h1 := lv_catX key
              have first : ∀ a ∈ altF (catX [D1 x b, catX tl]), levels a ≤ 2 * levels r - 1 := fun a ha => by have := lv_altF ha; omega
              have both : ∀ l ∈ [catX [D1 x b, catX tl], D1 (catX tl) b], ∀ a ∈ altF l, levels a ≤ 2 * levels r - 1 := fun l hl => by
                rcases List.mem_cons.1 hl with rfl | hl
                · exact first
                · rw [List.mem_singleton.1 hl]; exact fun a ha => by have := j1 a ha; omega
              rw [D1_cat k3, hdX_cons hs, hs, List.tail_cons]
              split
              · have h2 := lv_altX both
                exact ⟨fun a ha => by have := lv_alts both a ha; omega, by omega⟩
              · exact ⟨fun a ha => by have := first a ha; omega, by omega⟩
          · rw [D1_else k2 k3 k4 k5]; exact hnil
theorem levels_D1 (r : Rx) (b : UInt8) : levels (D1 r b) ≤ 2 * levels r := (lv_D1 b _ r (Nat.le_refl _)).2
end Go.Rx
end
section
open Go Go.Proofs Go.Ab Go.Rf
set_option maxRecDepth 100000
namespace Go.Rx
theorem Holds.disown {P : Program} {f : FuncId} {args : List A} {H : List (Ref × List A)} {R R' : Out → List (Ref × List A) → Prop} (h : Holds P f args H R)
    (hr : ∀ o H', R o H' → R' o H' ∨ ∃ sz es, o = .ret (.own sz es []) ∧ R' (.ret (.d (.slc es))) H') : Holds P f args H R' := by
  intro w cargs g ha hh
  refine (h w cargs g ha hh).mono fun e w' ⟨out, H', g', h1, h2, h3, h4⟩ => ?_
  rcases hr _ _ h1 with h5 | ⟨sz, es, rfl, h5⟩
  · exact ⟨out, H', g', h5, h2, h3, h4⟩
  · refine ⟨.ret (.d (.slc es)), H', g', h5, h2, h3, ?_⟩
    obtain ⟨cv, rfl, ⟨cap, cs, ho⟩, _⟩ := h4
    refine ⟨cv, rfl, ?_, fun h => by cases h⟩
    obtain ⟨hv, hrow, hpos, hsize, hroom, hlen, hel, hpr⟩ := ho
    simp only [List.length_nil, Nat.add_zero] at hv hroom
    simp only [List.append_nil] at hlen hel
    rw [hv]
    show RepD w' g'.Pr (.slc es) _
    have hk : ∀ k, k < es.length * sz → ∃ v, cs[k]? = some v ∧ ∀ (hi : k / sz < es.length) (hj : k % sz < es[k / sz].length), RepD w' g'.Pr es[k / sz][k % sz] v := fun k hk => by
      have hi : k / sz < es.length := Nat.div_lt_of_lt_mul (by rw [Nat.mul_comm]; exact hk)
      have hj : k % sz < es[k / sz].length := by rw [hlen _ (List.getElem_mem hi)]; exact Nat.mod_lt _ hpos
      obtain ⟨v, h6, h7⟩ := hel (k / sz) (k % sz) hi hj
      rw [show k / sz * sz + k % sz = k by rw [Nat.mul_comm]; exact Nat.div_add_mod k sz] at h6
      exact ⟨v, h6, fun _ _ => h7⟩
    refine .slc es sz (g'.ow .res) 0 cap (fun k => (cs[k]?).getD .nilIface) hpos hlen hroom (fun k h => ?_) (fun k h => ?_) fun i j hi hj => ?_
    · rw [hrow.cell, Nat.zero_add]
      obtain ⟨v, h6, _⟩ := hk k h
      rw [h6]; rfl
    · rw [Nat.zero_add]; exact (hpr k).2 h
    · obtain ⟨v, h6, h7⟩ := hel i j hi hj
      simp only [h6, Option.getD_some]
      exact h7
def BV (n : Nat) (f : Nat → Bool) : List (List D) := (List.range (n + 1)).map fun i => [D.lit (.bool (f i))]
theorem BV_len (n : Nat) (f : Nat → Bool) : (BV n f).length = n + 1 := by simp [BV]
theorem BV_congr {n : Nat} {f g : Nat → Bool} (h : ∀ i, i ≤ n → f i = g i) : BV n f = BV n g := by
  unfold BV
  refine List.map_congr_left fun i hi => ?_
  rw [h i (by have := List.mem_range.1 hi; omega)]
theorem BV_at {n : Nat} (f : Nat → Bool) {i : Nat} (h : i ≤ n) : gAt (BV n f) (i : Int) = [D.lit (.bool (f i))] := by
  simp [gAt, BV, List.getD, List.getElem?_range (show i < n + 1 by omega)]
theorem BV_set {n : Nat} (f : Nat → Bool) (i : Nat) (b : Bool) : gSet (BV n f) (i : Int) [D.lit (.bool b)] = BV n fun j => if j = i then b else f j := by
  unfold gSet BV
  apply List.ext_getElem
  · simp
  · intro k h1 h2
    simp only [Int.toNat_natCast, List.getElem_set, List.getElem_map, List.getElem_range]
    by_cases hk : i = k
    · subst hk; simp
    · have : ¬ k = i := fun e => hk e.symm
      simp [hk, this]
theorem BV_rpt (n : Nat) : gRpt ((n : Int) + 1) [D.lit (.bool false)] = BV n fun _ => false := by
  unfold gRpt BV
  rw [show ((n : Int) + 1).toNat = n + 1 by omega]
  apply List.ext_getElem
  · simp
  · intro k h1 h2; simp
theorem setL_one (x b : D) : Ab.setL [x] 0 [b] = [b] := rfl
def oneF (r : Rx) (s : List UInt8) (f : Nat → Bool) : Nat → Bool
  | 0 => false
  | k + 1 => f k && (match s[k]? with | some c => hasX r c.toNat | none => false)
end Go.Rx
end
section
open Go Go.Proofs Go.Ab Go.Rf
set_option maxRecDepth 100000
namespace Go.Rx
def setA (r : Rx) : A := A.agg [D.lit (.int .u64 (r.w 0)), D.lit (.int .u64 (r.w 1)), D.lit (.int .u64 (r.w 2)), D.lit (.int .u64 (r.w 3))]
theorem c58 (r : Rx) (s : List UInt8) (f : Nat → Bool) (hr : rangeOk r) (hs : s.length ≤ 2 ^ 40) : Holds Try.prog 58 [setA r, A.d (.lit (bytesV s)), A.d (.slc (BV s.length f))] [] (Ret (.d (.slc (BV s.length (oneF r s f))))) := by
  have z : (((s.length : Nat) : Int) + 1) = ((s.length + 1 : Nat) : Int) := by omega
  refine w58 _ s (BV s.length f) ⟨teq rfl, tle (by omega), tle (by omega), tle (by omega), tle (by omega), tle (by omega), fun x i => ∃ k : Nat, i = k ∧ k ≤ s.length ∧ x = BV s.length fun j => decide (j ≤ k) && oneF r s f j, fun _ i => s.length - i.toNat, ⟨0, rfl, Nat.zero_le _, ?_⟩, ?_, trivial⟩
  · rw [BV_rpt]
    refine BV_congr fun j hj => ?_
    cases j with
    | zero => rfl
    | succ j => simp
  · rintro x i ⟨k, rfl, hk, rfl⟩
    refine ⟨fun hp => ?_, fun hp => ?_⟩
    · have hp := of_tlt hp
      have hp1 : k < s.length := by omega
      have hg : s[k]? = some s[k] := List.getElem?_eq_getElem hp1
      have step : ∀ b : Bool, b = oneF r s f (k + 1) → (gSet (BV s.length fun j => decide (j ≤ k) && oneF r s f j) ((k : Int) + 1) (Ab.setL (gAt (BV s.length fun j => decide (j ≤ k) && oneF r s f j) ((k : Int) + 1)) 0 [D.lit (.bool b)])) = BV s.length fun j => decide (j ≤ k + 1) && oneF r s f j := by
        intro b hb
        rw [show ((k : Int) + 1) = ((k + 1 : Nat) : Int) by omega, BV_at _ (show k + 1 ≤ s.length by omega), setL_one, BV_set]
        refine BV_congr fun j hj => ?_
        by_cases h1 : j = k + 1
        · subst h1; simp [hb]
        · by_cases h2 : j ≤ k
          · have : j ≤ k + 1 := by omega
            simp [h1, h2, this]
          · have : ¬ j ≤ k + 1 := by omega
            simp [h1, h2, this]
      have e1 : oneF r s f (k + 1) = (f k && hasX r s[k].toNat) := by simp only [oneF, hg]
      rw [BV_at f (show k ≤ s.length by omega)]
      refine ⟨tle (by omega), tle (by omega), tle (by omega), tlt (by rw [BV_len]; omega), teq rfl, rfl, fun hf => ?_, fun hf => ?_⟩
      · have hf : f k = true := hf
        rw [gByte_get hp1]
        refine ⟨hasX r s[k].toNat, fun _ => c63w r s[k].toNat s[k].toNat_lt hr, tle (by omega), tlt (by rw [BV_len]; omega), ⟨k + 1, by omega, by omega, step _ (by rw [e1, hf, Bool.true_and])⟩, by simp only [Int.toNat_natCast]; omega⟩
      · have hf : f k = false := hf
        exact ⟨tle (by omega), tlt (by rw [BV_len]; omega), ⟨k + 1, by omega, by omega, step _ (by rw [e1, hf, Bool.false_and])⟩, by simp only [Int.toNat_natCast]; omega⟩
    · have hp := of_flt hp
      have : k = s.length := by omega
      subst this
      have e : (BV s.length fun j => decide (j ≤ s.length) && oneF r s f j) = BV s.length (oneF r s f) := BV_congr fun j hj => by simp [hj]
      rw [List.nil_append, e]
      exact ⟨rfl, rfl⟩
def moreF (f g : Nat → Bool) (k : Nat) : Bool := (List.range k).any fun i => g i && !f i
theorem moreF_succ (f g : Nat → Bool) (k : Nat) : moreF f g (k + 1) = (moreF f g k || (g k && !f k)) := by
  unfold moreF; rw [List.range_succ, List.any_append]; simp
theorem flat_BV (n : Nat) (f : Nat → Bool) : flatB 1 (BV n f) = true := by
  unfold flatB BV
  simp
theorem c59 (n : Nat) (f g : Nat → Bool) (hn : n ≤ 2 ^ 30) : Holds Try.prog 59 [A.d (.slc (BV n f)), A.d (.slc (BV n g))] []
    (Ret (.tup [(false, [D.slc (BV n fun i => f i || g i)]), (false, [D.lit (.bool (moreF f g (n + 1)))])])) := by
  refine w59 (BV n f) (BV n g) ⟨flat_BV n f, tle (by rw [BV_len]; omega), tle (by rw [BV_len]; omega), fun x m i => ∃ k : Nat, i = k ∧ k ≤ n + 1 ∧ x = (BV n fun j => f j || (decide (j < k) && g j)) ∧ m = moreF f g k, fun _ _ i => n + 1 - i.toNat, ⟨0, rfl, Nat.zero_le _, BV_congr fun j _ => by simp, rfl⟩, ?_, trivial⟩
  rintro x m i ⟨k, rfl, hk, rfl, rfl⟩
  rw [BV_len]
  refine ⟨fun hp => ?_, fun hp => ?_⟩
  · have hp := of_tlt hp
    have hk' : k ≤ n := by omega
    rw [BV_at g hk', BV_at _ hk', BV_len]
    have lt : tB (decide ((k : Int) < ((n + 1 : Nat) : Int))) = true := tlt (by omega)
    have e0 : (f k || (decide (k < k) && g k)) = f k := by simp
    rw [e0]
    refine ⟨tle (by omega), teq rfl, rfl, by rw [lt]; simp, by show (_ || true) = true; simp, fun hc => ?_, fun hc => ?_⟩
    · have hc : (g k && !f k) = true := hc
      refine ⟨lt, tle (by omega), tle (by omega), ⟨k + 1, by omega, by omega, ?_, ?_⟩, by simp only [Int.toNat_natCast]; omega⟩
      · rw [setL_one, BV_set]
        refine BV_congr fun j hj => ?_
        by_cases h1 : j = k
        · subst h1
          simp only [Bool.and_eq_true] at hc
          simp [hc.1]
        · by_cases h2 : j < k
          · have : j < k + 1 := by omega
            simp [h1, h2, this]
          · have : ¬ j < k + 1 := by omega
            simp [h1, h2, this]
      · rw [moreF_succ, hc, Bool.or_true]
    · have hc : (g k && !f k) = false := hc
      refine ⟨tle (by omega), tle (by omega), ⟨k + 1, by omega, by omega, ?_, ?_⟩, by simp only [Int.toNat_natCast]; omega⟩
      · refine BV_congr fun j hj => ?_
        by_cases h1 : j = k
        · subst h1
          cases hf : f j <;> cases hg : g j <;> simp [hf, hg] at hc ⊢
        · by_cases h2 : j < k
          · have : j < k + 1 := by omega
            simp [h2, this]
          · have : ¬ j < k + 1 := by omega
            simp [h2, this]
      · rw [moreF_succ, hc, Bool.or_false]
  · have hp := of_flt hp
    have : k = n + 1 := by omega
    subst this
    have e : (BV n fun j => f j || (decide (j < n + 1) && g j)) = BV n fun i => f i || g i := BV_congr fun j hj => by
      have : j < n + 1 := by omega
      simp [this]
    rw [List.nil_append, e]
    exact ⟨rfl, rfl⟩
end Go.Rx
end
section
open Go Go.Proofs Go.Ab Go.Rf
set_option maxRecDepth 100000
namespace Go.Rx
def cut (s : List UInt8) (i j : Nat) : List UInt8 := (s.take j).drop i
theorem cut_len {s : List UInt8} {i j : Nat} (h : j ≤ s.length) : (cut s i j).length = j - i := by unfold cut; simp; omega
theorem cut_nil {s : List UInt8} {i j : Nat} (h : j ≤ s.length) : cut s i j = [] ↔ j ≤ i := by
  rw [← List.length_eq_zero_iff, cut_len h]; omega
theorem cut_app {s : List UInt8} {i k j : Nat} (h1 : i ≤ k) (h2 : k ≤ j) (h3 : j ≤ s.length) : cut s i j = cut s i k ++ cut s k j := by
  unfold cut
  have e : s.take j = s.take k ++ (s.take j).drop k := by
    conv => lhs; rw [← List.take_append_drop k (s.take j)]
    rw [List.take_take, Nat.min_eq_left h2]
  conv => lhs; rw [e]
  rw [List.drop_append_of_le_length (by simp; omega)]
theorem cut_split {s : List UInt8} {i j : Nat} {u v : List UInt8} (h : i ≤ j) (hj : j ≤ s.length) (e : cut s i j = u ++ v) : ∃ k, i ≤ k ∧ k ≤ j ∧ u = cut s i k ∧ v = cut s k j := by
  have hl := cut_len (i := i) hj
  rw [e, List.length_append] at hl
  have hk : i + u.length ≤ j := by omega
  refine ⟨i + u.length, by omega, hk, ?_⟩
  have e2 := cut_app (s := s) (i := i) (k := i + u.length) (j := j) (by omega) hk hj
  rw [e] at e2
  exact List.append_inj e2 (by rw [cut_len (by omega)]; omega)
theorem cut_one {s : List UInt8} {i j : Nat} {x : UInt8} (h : i ≤ j) (hj : j ≤ s.length) : cut s i j = [x] ↔ j = i + 1 ∧ s[i]? = some x := by
  constructor
  · intro e
    have hl := cut_len (i := i) hj
    rw [e] at hl
    have hji : j = i + 1 := by simp at hl; omega
    subst hji
    refine ⟨rfl, ?_⟩
    have : (cut s i (i + 1))[0]? = some x := by rw [e]; rfl
    simpa [cut, List.getElem?_take] using this
  · rintro ⟨rfl, hx⟩
    have hi : i < s.length := by omega
    rw [List.getElem?_eq_getElem hi] at hx
    have hx := Option.some.inj hx
    unfold cut
    rw [List.take_add_one, List.getElem?_eq_getElem hi, hx, List.drop_append_of_le_length (by simp; omega)]
    have : (s.take i).drop i = [] := by rw [List.drop_eq_nil_iff]; simp; omega
    rw [this]; rfl
def Sem (L : List UInt8 → Prop) (s : List UInt8) (f g : Nat → Bool) : Prop := ∀ j, j ≤ s.length → (g j = true ↔ ∃ i, i ≤ j ∧ f i = true ∧ L (cut s i j))
theorem sem_eps {L : List UInt8 → Prop} {s : List UInt8} {f : Nat → Bool} (h : ∀ w, L w ↔ w = []) : Sem L s f f := fun j hj => by
  constructor
  · intro h1; exact ⟨j, Nat.le_refl _, h1, (h _).2 ((cut_nil hj).2 (Nat.le_refl _))⟩
  · rintro ⟨i, h1, h2, h3⟩
    have := (cut_nil hj).1 ((h _).1 h3)
    have : i = j := by omega
    subst this; exact h2
theorem sem_none {L : List UInt8 → Prop} {s : List UInt8} {f : Nat → Bool} (h : ∀ w, ¬ L w) : Sem L s f fun _ => false := fun j _ => by
  constructor
  · intro h1; cases h1
  · rintro ⟨i, _, _, h3⟩; exact absurd h3 (h _)
theorem sem_seq {L L1 L2 : List UInt8 → Prop} {s : List UInt8} {f g h : Nat → Bool} (hL : ∀ w, L w ↔ ∃ u v, w = u ++ v ∧ L1 u ∧ L2 v) (h1 : Sem L1 s f g) (h2 : Sem L2 s g h) : Sem L s f h := fun j hj => by
  rw [h2 j hj]
  constructor
  · rintro ⟨k, hk, hg, h4⟩
    obtain ⟨i, hi, hf, h5⟩ := (h1 k (by omega)).1 hg
    exact ⟨i, by omega, hf, (hL _).2 ⟨_, _, cut_app hi hk hj, h5, h4⟩⟩
  · rintro ⟨i, hi, hf, h4⟩
    obtain ⟨u, v, e, h5, h6⟩ := (hL _).1 h4
    obtain ⟨k, k1, k2, rfl, rfl⟩ := cut_split hi hj e
    exact ⟨k, k2, (h1 k (by omega)).2 ⟨i, k1, hf, h5⟩, h6⟩
theorem sem_or {L L1 L2 : List UInt8 → Prop} {s : List UInt8} {f g h : Nat → Bool} (hL : ∀ w, L w ↔ L1 w ∨ L2 w) (h1 : Sem L1 s f g) (h2 : Sem L2 s f h) : Sem L s f fun i => g i || h i := fun j hj => by
  show (g j || h j) = true ↔ _
  rw [Bool.or_eq_true, h1 j hj, h2 j hj]
  constructor
  · rintro (⟨i, a, b, c⟩ | ⟨i, a, b, c⟩)
    · exact ⟨i, a, b, (hL _).2 (.inl c)⟩
    · exact ⟨i, a, b, (hL _).2 (.inr c)⟩
  · rintro ⟨i, a, b, c⟩
    rcases (hL _).1 c with c | c
    · exact .inl ⟨i, a, b, c⟩
    · exact .inr ⟨i, a, b, c⟩
theorem sem_set {r : Rx} {s : List UInt8} {f : Nat → Bool} (k : r.kind = 2) : Sem (lang r) s f (oneF r s f) := fun j hj => by
  cases j with
  | zero =>
    constructor
    · intro h; cases h
    · rintro ⟨i, h1, _, h3⟩
      obtain ⟨x, hx, _⟩ := (lang2 k).1 h3
      have := ((cut_one h1 hj).1 hx).1; omega
  | succ j =>
    have hg : s[j]? = some s[j] := List.getElem?_eq_getElem (by omega)
    simp only [oneF, hg, Bool.and_eq_true]
    constructor
    · rintro ⟨h1, h2⟩
      exact ⟨j, by omega, h1, (lang2 k).2 ⟨s[j], (cut_one (by omega) hj).2 ⟨rfl, hg⟩, h2⟩⟩
    · rintro ⟨i, h1, h2, h3⟩
      obtain ⟨x, hx, h4⟩ := (lang2 k).1 h3
      obtain ⟨h5, h6⟩ := (cut_one h1 hj).1 hx
      have : i = j := by omega
      subst this
      rw [hg] at h6
      have := Option.some.inj h6
      rw [this]; exact ⟨h2, h4⟩
theorem sem_star {L : List UInt8 → Prop} {s : List UInt8} {f o g : Nat → Bool} (h0 : ∀ j ≤ s.length, f j = true → o j = true) (h1 : ∀ j ≤ s.length, o j = true → ∃ i, i ≤ j ∧ f i = true ∧ Star L (cut s i j))
    (hg : Sem L s o g) (hm : ∀ j ≤ s.length, g j = true → o j = true) : Sem (Star L) s f o := fun j hj => by
  refine ⟨h1 j hj, ?_⟩
  rintro ⟨i, hi, hf, h4⟩
  have key : ∀ w, Star L w → ∀ i, i ≤ j → o i = true → cut s i j = w → o j = true := by
    intro w hw
    induction hw with
    | nil =>
      intro i hi ho e
      have := (cut_nil hj).1 e
      have : i = j := by omega
      subst this; exact ho
    | @step u v hu _ ih =>
      intro i hi ho e
      obtain ⟨k, k1, k2, rfl, rfl⟩ := cut_split hi hj e
      exact ih k k2 (hm k (by omega) ((hg k (by omega)).2 ⟨i, k1, ho, hu⟩)) rfl
  exact key _ h4 i hi (h0 i (by omega) hf) rfl
theorem star_grow {L : List UInt8 → Prop} {s : List UInt8} {f o g : Nat → Bool} (h1 : ∀ j ≤ s.length, o j = true → ∃ i, i ≤ j ∧ f i = true ∧ Star L (cut s i j)) (hg : Sem L s o g) : ∀ j ≤ s.length, (o j || g j) = true → ∃ i, i ≤ j ∧ f i = true ∧ Star L (cut s i j) := fun j hj h => by
  rw [Bool.or_eq_true] at h
  rcases h with h | h
  · exact h1 j hj h
  · obtain ⟨k, k1, k2, k3⟩ := (hg j hj).1 h
    obtain ⟨i, i1, i2, i3⟩ := h1 k (by omega) k2
    refine ⟨i, by omega, i2, ?_⟩
    rw [cut_app i1 k1 hj]
    exact i3.app (.one k3)
theorem Star.star {P : List UInt8 → Prop} {w : List UInt8} : Star (Star P) w ↔ Star P w := by
  constructor
  · intro h
    induction h with
    | nil => exact .nil
    | step h _ ih => exact h.app ih
  · intro h; exact .one h
end Go.Rx
end
section
open Go Go.Proofs Go.Ab Go.Rf
set_option maxRecDepth 100000
namespace Go.Rx
theorem star_one {r : Rx} (h : nodeErr r = 0) (k : r.kind = 5) : ∃ x, r.subs = [x] := by
  unfold nodeErr at h
  have hk : ¬ (r.kind < 0 ∨ 5 < r.kind ∨ (r.kind ≠ 2 ∧ ¬ (r.w 0 = 0 ∧ r.w 1 = 0 ∧ r.w 2 = 0 ∧ r.w 3 = 0))) := fun hc => by rw [if_pos hc] at h; cases h
  rw [if_neg hk, if_neg (by omega), if_pos k] at h
  have : r.subs.length = 1 := by
    by_cases hl : r.subs.length = 1
    · exact hl
    · rw [if_pos hl] at h; cases h
  match hs : r.subs, this with
  | [x], _ => exact ⟨x, rfl⟩
def EndsR (s : List UInt8) (L : List UInt8 → Prop) (f : Nat → Bool) : Out → List (Ref × List A) → Prop :=
  fun o H => ∃ g, o = .ret (.d (.slc (BV s.length g))) ∧ H = [] ∧ Sem L s f g
theorem langC_snoc {l : List Rx} {x : Rx} {w : List UInt8} : langC (l ++ [x]) w ↔ ∃ u v, w = u ++ v ∧ langC l u ∧ lang x v := by
  rw [langC_append]
  constructor
  · rintro ⟨u, v, e, h1, h2⟩; exact ⟨u, v, e, h1, langC_one.1 h2⟩
  · rintro ⟨u, v, e, h1, h2⟩; exact ⟨u, v, e, h1, langC_one.2 h2⟩
theorem langA_snoc {l : List Rx} {x : Rx} {w : List UInt8} : langA (l ++ [x]) w ↔ langA l w ∨ lang x w := by
  rw [langA_iff, langA_iff]
  constructor
  · rintro ⟨y, hy, h⟩
    rcases List.mem_append.1 hy with hy | hy
    · exact .inl ⟨y, hy, h⟩
    · rw [List.mem_singleton.1 hy] at h; exact .inr h
  · rintro (⟨y, hy, h⟩ | h)
    · exact ⟨y, List.mem_append_left _ hy, h⟩
    · exact ⟨x, by simp, h⟩
theorem Sem.congr {L L' : List UInt8 → Prop} {s : List UInt8} {f g : Nat → Bool} (h : Sem L s f g) (hL : ∀ w, L w ↔ L' w) : Sem L' s f g := fun j hj => by
  rw [h j hj]
  exact ⟨fun ⟨i, a, b, c⟩ => ⟨i, a, b, (hL _).1 c⟩, fun ⟨i, a, b, c⟩ => ⟨i, a, b, (hL _).2 c⟩⟩
theorem BV_agree {s : List UInt8} {f g h : Nat → Bool} {L : List UInt8 → Prop} (hs : Sem L s f h) (e : ∀ j ≤ s.length, g j = h j) : Sem L s f g := fun j hj => by rw [e j hj]; exact hs j hj
def cntL (o : List (List D)) : Nat := o.countP fun row => !(Rf.dbool (row.getD 0 D0))
theorem countP_lt {α : Type} {p q : α → Bool} : ∀ {l : List α}, (∀ x ∈ l, p x = true → q x = true) → (∃ x ∈ l, q x = true ∧ p x = false) → l.countP p < l.countP q
  | [], _, h => by obtain ⟨_, h, _⟩ := h; cases h
  | y :: l, h, hx => by
    have hl : l.countP p ≤ l.countP q := List.countP_mono_left fun x hx => h x (List.mem_cons_of_mem _ hx)
    obtain ⟨x, hx, h1, h2⟩ := hx
    rw [List.countP_cons, List.countP_cons]
    rcases List.mem_cons.1 hx with rfl | hx
    · simp [h1, h2]; omega
    · have h3 := countP_lt (l := l) (fun x hx => h x (List.mem_cons_of_mem _ hx)) ⟨x, hx, h1, h2⟩
      have h4 := h y (List.mem_cons_self ..)
      cases hp : p y
      · simp; omega
      · simp [h4 hp]; omega
theorem cntL_BV (n : Nat) (f : Nat → Bool) : cntL (BV n f) = (List.range (n + 1)).countP fun i => !f i := by
  unfold cntL BV
  rw [List.countP_map]
  rfl
theorem cnt_step (n : Nat) (g g' : Nat → Bool) : 2 * cntL (BV n fun i => g i || g' i) + (if moreF g g' (n + 1) = true then 1 else 0) < 2 * cntL (BV n g) + (if true = true then 1 else 0) := by
  rw [cntL_BV, cntL_BV]
  have hmono : ∀ x ∈ List.range (n + 1), (!(g x || g' x)) = true → (!g x) = true := fun x _ h => by cases hg : g x <;> simp [hg] at h ⊢
  cases hm : moreF g g' (n + 1)
  · have := List.countP_mono_left hmono
    simp only [if_true, Bool.false_eq_true, if_false]; omega
  · obtain ⟨x, hx, h1⟩ := List.any_eq_true.1 hm
    rw [Bool.and_eq_true] at h1
    have := countP_lt hmono ⟨x, hx, h1.2, by simp [h1.1]⟩
    simp only [if_true]; omega
theorem enc_dec (y : Rx) : SizeOf.sizeOf ((enc y).getD 5 D0) < SizeOf.sizeOf (D.slc (encs [y])) := by
  obtain ⟨k, a, b, c, d, l⟩ := y
  show SizeOf.sizeOf (D.slc (encs l)) < SizeOf.sizeOf (D.slc [[D.lit (.int .i64 k), .lit (.int .u64 a), .lit (.int .u64 b), .lit (.int .u64 c), .lit (.int .u64 d), .slc (encs l)]])
  simp
  omega
theorem c44 (s : List UInt8) (hs : s.length ≤ 2 ^ 30) : ∀ (n : Nat) (r : Rx), size r ≤ n → n ≤ 2 ^ 40 → allX nodeOk r → ∀ f : Nat → Bool,
    Holds Try.prog 44 [A.agg (enc r), A.d (.lit (bytesV s)), A.d (.slc (BV s.length f))] [] (EndsR s (lang r) f) := by
  intro n
  induction n with
  | zero => intro r h; have := size_pos r; omega
  | succ n ih =>
    intro r h hn hok f
    obtain ⟨⟨hne, hrg⟩, hsub⟩ := allX_iff.1 hok
    have hss := sizes_ge r.subs
    have hsz := size_eq r
    have ihx : ∀ (k : Nat) (hk : k < r.subs.length) (f : Nat → Bool), Holds Try.prog 44 [A.agg (enc r.subs[k]), A.d (.lit (bytesV s)), A.d (.slc (BV s.length f))] [] (EndsR s (lang r.subs[k]) f) := fun k hk f => by
      have := size_sub hk
      exact ih _ (by omega) (by omega) (hsub _ (List.getElem_mem hk)) f
    refine Holds.disown (R := fun o H => H = [] ∧ ((∃ g, o = .ret (.d (.slc (BV s.length g))) ∧ Sem (lang r) s f g) ∨ (∃ g, o = .ret (.own 1 (BV s.length g) []) ∧ Sem (lang r) s f g))) ?_ ?_
    · refine w44 (enc r) s (BV s.length f) ?_
      simp only [enc0, enc1, enc2, enc3, enc4, enc5, dint_int, dlst_slc, isK_int, isK_slc, encs_length, List.nil_append]
      refine ⟨teq6 r, trivial, fun k1 => ⟨trivial, .inl ⟨f, rfl, sem_eps fun w => lang1 (of_teq k1)⟩⟩, fun k1 => ⟨fun k2 => ?_, fun k2 => ⟨fun k3 => ?_, fun k3 => ⟨fun k4 => ?_, fun k4 => ⟨fun k5 => ?_, fun k5 => ?_⟩⟩⟩⟩⟩
      · exact call1 (c58 r s f hrg (by omega)) ⟨_, rfl, rfl, trivial, .inl ⟨_, rfl, sem_set (of_teq k2)⟩⟩
      · have k3 := of_teq k3
        refine ⟨fun x i => ∃ (k : Nat) (g : Nat → Bool), i = k ∧ k ≤ r.subs.length ∧ x = BV s.length g ∧ Sem (langC (r.subs.take k)) s f g, fun _ i => r.subs.length - i.toNat, ⟨0, f, rfl, Nat.zero_le _, rfl, sem_eps fun w => by simp [langC]⟩, ?_, trivial⟩
        rintro x i ⟨k, g, rfl, hk, rfl, hg⟩
        refine ⟨trivial, fun hp => ?_, fun hp => ?_⟩
        · have hp := of_tlt hp
          have hk1 : k < r.subs.length := by omega
          rw [gAt_encs rfl hk1]
          refine ⟨tle (by omega), teq6 _, callE (mk := fun g => A.d (.slc (BV s.length g))) (ihx k hk1 g) fun g' hg' => ⟨_, rfl, rfl, tle (by omega), tle (by omega), ⟨k + 1, g', rfl, hk1, rfl, ?_⟩, by simp only [Int.toNat_natCast]; omega⟩⟩
          rw [take_snoc _ _ hk1]
          exact sem_seq (fun w => langC_snoc) hg hg'
        · have hp := of_flt hp
          refine ⟨trivial, .inl ⟨g, rfl, ?_⟩⟩
          rw [List.take_of_length_le (by omega)] at hg
          exact hg.congr fun w => (lang3 k3).symm
      · have k4 := of_teq k4
        have hl0 : r.subs.length < 2 ^ 40 := by omega
        refine ⟨tle (by omega), tle (by omega), tle (by omega), tle (by omega), tle (by omega), True, r.subs.length + 1, fun x i => ∃ (k : Nat) (g : Nat → Bool), i = k ∧ k ≤ r.subs.length ∧ x = BV s.length g ∧ Sem (langA (r.subs.take k)) s f g, fun _ i => r.subs.length - i.toNat, trivial, fun _ => ⟨trivial, fun hp => ?_, fun hp => ?_⟩, ?_, trivial⟩
        · have hp := of_tlt hp
          have hk1 : 0 < r.subs.length := by omega
          have e0 : gAt (encs r.subs) 0 = enc r.subs[0] := gAt_encs (i := 0) rfl hk1
          rw [e0]
          refine ⟨teq6 _, callE (mk := fun g => A.d (.slc (BV s.length g))) (ihx 0 hk1 f) fun g hg => ⟨_, rfl, rfl, ?_⟩⟩
          rw [BV_rpt]
          refine call1 (c59 s.length _ g hs) ⟨_, _, rfl, rfl, ⟨1, _, rfl, hk1, rfl, ?_⟩, by simp; omega⟩
          have e := take_snoc r.subs 0 hk1
          rw [List.take_zero, List.nil_append] at e
          rw [show (0 : Nat) + 1 = 1 from rfl] at e
          rw [e]
          exact sem_or (L1 := fun _ => False) (L2 := lang r.subs[0]) (fun w => by rw [langA_iff]; simp) (sem_none fun _ h => h) hg
        · have hp := of_flt hp
          have : r.subs = [] := List.eq_nil_of_length_eq_zero (by omega)
          rw [BV_rpt]
          refine ⟨trivial, .inl ⟨_, rfl, sem_none fun w => ?_⟩⟩
          rw [lang4 k4, this]; exact id
        · rintro x i ⟨k, g, rfl, hk, rfl, hg⟩
          refine ⟨trivial, fun hp => ?_, fun hp => ?_⟩
          · have hp := of_tlt hp
            have hk1 : k < r.subs.length := by omega
            rw [gAt_encs rfl hk1]
            refine ⟨tle (by omega), teq6 _, callE (mk := fun g => A.d (.slc (BV s.length g))) (ihx k hk1 f) fun g' hg' => ⟨_, rfl, rfl, call1 (c59 s.length g g' hs) ⟨_, _, rfl, rfl, tle (by omega), tle (by omega), ⟨k + 1, _, rfl, hk1, rfl, ?_⟩, by simp only [Int.toNat_natCast]; omega⟩⟩⟩
            rw [take_snoc _ _ hk1]
            exact sem_or (fun w => langA_snoc) hg hg'
          · have hp := of_flt hp
            refine ⟨trivial, .inl ⟨g, rfl, ?_⟩⟩
            rw [List.take_of_length_le (by omega)] at hg
            exact hg.congr fun w => (lang4 k4).symm
      · have k5 := of_teq k5
        obtain ⟨x, hx⟩ := star_one hne k5
        have hl1 : 0 < r.subs.length := by rw [hx]; simp
        have e0 : gAt (encs r.subs) 0 = enc x := by
          have e1 : gAt (encs r.subs) 0 = enc r.subs[0] := gAt_encs (i := 0) rfl hl1
          rw [e1]
          simp only [hx, List.getElem_cons_zero]
        have hxs : size x < size r := size_mem (by rw [hx]; simp)
        have hxo : allX nodeOk x := hsub x (by rw [hx]; simp)
        have hstar : ∀ w, Star (fun u => lang x u) w ↔ lang r w := fun w => by rw [lang5 k5, hx]; exact Iff.rfl
        rw [e0]
        refine ⟨trivial, tlt (by omega), teq6 x, fun a b c d e f' => ∃ q, [a, b, c, d, e, f'] = enc q ∧ size q < size r ∧ allX nodeOk q ∧ ∀ w, Star (fun u => lang q u) w ↔ lang r w, fun _ _ _ _ _ f' => SizeOf.sizeOf f', ⟨x, enc_cells x, hxs, hxo, hstar⟩, ?_, trivial⟩
        rintro a b c d e f' ⟨q, he, hqs, hqo, hql⟩
        obtain ⟨k, w0, w1, w2, w3, l⟩ := q
        have he' : [a, b, c, d, e, f'] = [D.lit (.int .i64 k), .lit (.int .u64 w0), .lit (.int .u64 w1), .lit (.int .u64 w2), .lit (.int .u64 w3), .slc (encs l)] := by rw [he]; unfold enc; rfl
        simp only [List.cons.injEq, and_true] at he'
        obtain ⟨rfl, rfl, rfl, rfl, rfl, rfl⟩ := he'
        simp only [dint_int, dlst_slc, isK_int, isK_slc, Bool.or_true, encs_length]
        refine ⟨trivial, trivial, fun hc => ?_, fun _ => ?_⟩
        · rw [Bool.and_eq_true] at hc
          have hk := of_teq hc.1
          have hl := of_teq hc.2
          match l, hl with
          | [y], _ =>
            have e1 : gAt (encs [y]) 0 = enc y := gAt_encs (l := [y]) (i := 0) rfl (by simp)
            rw [e1]
            have hys : size y < size (Rx.mk k w0 w1 w2 w3 [y]) := size_mem (r := Rx.mk k w0 w1 w2 w3 [y]) (by simp [Rx.subs])
            refine ⟨trivial, tlt (by simp), teq6 y, ⟨y, enc_cells y, by omega, (allX_iff.1 hqo).2 y (by simp [Rx.subs]), fun w => ?_⟩, ?_⟩
            · rw [← hql]
              have : ∀ u, lang (Rx.mk k w0 w1 w2 w3 [y]) u ↔ Star (fun u => lang y u) u := fun u => by rw [lang5 (r := Rx.mk k w0 w1 w2 w3 [y]) hk]; exact Iff.rfl
              constructor
              · intro h1; exact Star.one ((this w).2 h1)
              · intro h1; exact Star.star.1 (h1.mono fun u hu => (this u).1 hu)
            · exact enc_dec y
        · have hq := ih (Rx.mk k w0 w1 w2 w3 l) (by omega) (by omega) hqo
          have ecell : [D.lit (.int .i64 k), .lit (.int .u64 w0), .lit (.int .u64 w1), .lit (.int .u64 w2), .lit (.int .u64 w3), .slc (encs l)] = enc (Rx.mk k w0 w1 w2 w3 l) := by unfold enc; rfl
          rw [ecell]
          generalize hQ : Rx.mk k w0 w1 w2 w3 l = q at hq hql
          refine ⟨fun o m => ∃ g, o = BV s.length g ∧ (∀ j ≤ s.length, f j = true → g j = true) ∧ (∀ j ≤ s.length, g j = true → ∃ i, i ≤ j ∧ f i = true ∧ Star (fun u => lang q u) (cut s i j)) ∧ (m = false → ∃ g', Sem (lang q) s g g' ∧ ∀ j ≤ s.length, g' j = true → g j = true),
            fun o m => 2 * cntL o + (if m then 1 else 0), ⟨f, rfl, fun _ _ h => h, fun j hj h => ⟨j, Nat.le_refl _, h, by rw [(cut_nil hj).2 (Nat.le_refl _)]; exact .nil⟩, fun h => by cases h⟩, ?_, trivial⟩
          rintro o m ⟨g, rfl, h1, h2, h3⟩
          refine ⟨fun hm => ?_, fun hm => ?_⟩
          · refine callE (mk := fun g => A.d (.slc (BV s.length g))) (hq g) fun g' hg' => ⟨_, rfl, rfl, call1 (c59 s.length g g' hs) ⟨_, _, rfl, rfl, ⟨_, rfl, fun j hj hf => by show (g j || g' j) = true; rw [h1 j hj hf]; rfl, star_grow h2 hg', fun hmf => ?_⟩, ?_⟩⟩
            · have hle : ∀ j ≤ s.length, g' j = true → g j = true := fun j hj hj' => by
                have := (List.any_eq_false.1 hmf) j (List.mem_range.2 (by omega))
                cases hgj : g j
                · rw [hj', hgj] at this; simp at this
                · rfl
              refine ⟨g', fun j hj => ?_, fun j hj hj' => by show (g j || g' j) = true; rw [hle j hj hj']; rfl⟩
              rw [hg' j hj]
              constructor
              · rintro ⟨i, i1, i2, i3⟩; exact ⟨i, i1, by show (g i || g' i) = true; rw [i2]; rfl, i3⟩
              · rintro ⟨i, i1, i2, i3⟩
                refine ⟨i, i1, ?_, i3⟩
                have i2 : (g i || g' i) = true := i2
                rw [Bool.or_eq_true] at i2
                rcases i2 with i2 | i2
                · exact i2
                · exact hle i (by omega) i2
            · rw [hm]
              exact cnt_step s.length g g'
          · obtain ⟨g', g1, g2⟩ := h3 hm
            exact ⟨trivial, .inl ⟨g, rfl, (sem_star h1 h2 g1 g2).congr hql⟩⟩
      · have k1 := of_feq k1
        have k2 := of_feq k2
        have k3 := of_feq k3
        have k4 := of_feq k4
        have k5 := of_feq k5
        refine ⟨tle (by omega), tle (by omega), tle (by omega), tle (by omega), tle (by omega), trivial, .inr ⟨fun _ => false, ?_, sem_none fun w => lang0 k1 k2 k3 k4 k5⟩⟩
        rw [BV_rpt]
    · rintro o H ⟨rfl, h1 | ⟨g, rfl, h1⟩⟩
      · obtain ⟨g, rfl, h1⟩ := h1; exact .inl ⟨g, rfl, rfl, h1⟩
      · exact .inr ⟨1, _, rfl, g, rfl, rfl, h1⟩
end Go.Rx
end
section
open Go Go.Proofs Go.Ab Go.Rf
set_option maxRecDepth 100000
namespace Go.Rx
def at0F (j : Nat) : Bool := decide (j = 0)
theorem c30 (r : Rx) (s : List UInt8) (hs : s.length ≤ 2 ^ 30) (h : size r ≤ 2 ^ 40) (hok : allX nodeOk r) : Holds Try.prog 30 [A.agg (enc r), A.d (.lit (bytesV s))] [] (Ret (boolA (null (derS r s)))) := by
  have e : ([] : List (List D)) ++ (gSet (gRpt ((s.length : Int) + (1 : Int)) ((D.lit (.bool false)) :: ([] : List D))) (0 : Int) (Ab.setL (gAt (gRpt ((s.length : Int) + (1 : Int)) ((D.lit (.bool false)) :: ([] : List D))) (0 : Int)) 0 ((D.lit (.bool true)) :: ([] : List D)))) = BV s.length at0F := by
    rw [List.nil_append, BV_rpt]
    have e1 := BV_at (n := s.length) (fun _ => false) (Nat.zero_le _)
    have e2 := BV_set (n := s.length) (fun _ => false) 0 true
    simp only [Int.natCast_zero] at e1 e2
    have e1 : gAt (BV s.length fun _ => false) 0 = [D.lit (.bool false)] := e1
    rw [e1, setL_one]
    refine Eq.trans e2 (BV_congr fun j _ => ?_)
    unfold at0F
    by_cases hj : j = 0 <;> simp [hj]
  refine w30 (enc r) s ⟨teq6 r, tle (by omega), tle (by omega), tle (by omega), tle (by omega), tle (by omega), tlt (by rw [BV_rpt, BV_len]; omega), ?_⟩
  rw [e]
  refine callE (mk := fun g => A.d (.slc (BV s.length g))) (c44 s hs _ r (Nat.le_refl _) h hok at0F) fun g hg => ⟨_, rfl, rfl, tle (by omega), tlt (by rw [BV_len]; omega), ?_⟩
  rw [BV_at g (Nat.le_refl _)]
  have : g s.length = null (derS r s) := by
    rw [Bool.eq_iff_iff, derS_iff, hg _ (Nat.le_refl _)]
    constructor
    · rintro ⟨i, _, h1, h2⟩
      have : i = 0 := of_decide_eq_true h1
      subst this
      simpa [cut] using h2
    · intro h1; exact ⟨0, Nat.zero_le _, rfl, by simpa [cut] using h1⟩
  rw [← this]
  exact ⟨teq rfl, rfl, rfl, rfl⟩
theorem c28 (r : Rx) (s : List UInt8) (hs : s.length ≤ 2 ^ 30) (h : size r ≤ 2 ^ 40) (hr : allX rangeOk r) : Holds Try.prog 28 [A.agg (enc r), A.d (.lit (bytesV s))] [] (Ret (boolA (matchV r s))) := by
  refine w28 (enc r) s ⟨teq6 r, call1 (c16 r (lens_size _ r h (Nat.le_refl _))) ⟨_, rfl, rfl, fun hc => ?_, fun hc => ?_⟩⟩
  · have hc := of_teq hc
    have : matchV r s = null (derS r s) := by unfold matchV; rw [decide_eq_true hc]; rfl
    rw [this]
    exact call1 (c30 r s hs h (nodes_of hr hc)) ⟨_, rfl, rfl, rfl, rfl⟩
  · have hc := of_feq hc
    have : matchV r s = false := by unfold matchV; rw [decide_eq_false hc]; rfl
    rw [this]; exact ⟨rfl, rfl⟩
end Go.Rx
end
section
open Go Go.Proofs Go.Ab Go.Rf
set_option maxRecDepth 100000
namespace Go.Rx
theorem u8_of {a : Int} (h : (Lit.int .u8 a).wf = true) : ∃ b : UInt8, a = (b.toNat : Nat) := by
  have : 0 ≤ a ∧ a ≤ 255 := by simpa [Lit.wf, IntKind.min, IntKind.max, IntKind.signed, IntKind.bits] using h
  refine ⟨UInt8.ofNat a.toNat, ?_⟩
  have : (UInt8.ofNat a.toNat).toNat = a.toNat := by simp; omega
  rw [this]; omega
theorem gB_one (b : UInt8) : gBytes (((D.lit (.int .u8 ((b.toNat : Nat) : Int))) :: ([] : List D)) :: ([] : List (List D))) = [b] := by
  simp [gBytes, List.getD, Rf.dint]
theorem allX_mono' {p q : Rx → Prop} (h : ∀ r, p r → q r) : ∀ (n : Nat) (r : Rx), size r ≤ n → allX p r → allX q r
  | 0, r, hn, _ => by have := size_pos r; omega
  | n + 1, r, hn, hp => by
    rw [allX_iff] at hp ⊢
    refine ⟨h r hp.1, fun x hx => ?_⟩
    have := size_mem hx
    exact allX_mono' h n x (by omega) (hp.2 x hx)
theorem c10 (r : Rx) (a1 : Int) (s : List UInt8) (rr : allX rangeOk r) (g1 : (Lit.int .u8 a1).wf = true) : Holds Try.prog 10 [A.agg (enc r), A.d (.lit (.int .u8 a1)), A.d (.lit (bytesV s))] [] (Ret (boolA true)) := by
  obtain ⟨b, rfl⟩ := u8_of g1
  have h13 := c13 (size r) r 24 (Nat.le_refl _) (by omega)
  refine w10 (enc r) _ s ?_
  rw [gB_one b]
  refine ⟨teq6 r, call1 h13 ⟨_, rfl, rfl, fun _ => call1 c14 ⟨_, rfl, rfl, ⟨rfl, rfl⟩⟩, fun h => ?_⟩⟩
  rw [Bool.or_eq_false_iff] at h
  have h1 := of_flt h.1
  have h2 := of_flt h.2
  have sr : size r ≤ 24 := by omega
  have lr : lens (2 ^ 40) r := lens_size _ r (by omega) (Nat.le_refl _)
  have hok : ok1 r b = true := ok_one b _ r (Nat.le_refl _) (bd40 (by omega) (by omega))
  refine call1 (c29 r b rr lr fun _ => hok) ⟨_, rfl, rfl, teq6 _, call1 (c16 r lr) ⟨_, rfl, rfl, fun hc => ?_, fun hc => ?_⟩⟩
  · have hc := nteq hc
    have hd : deriveV r b = nilX := by unfold deriveV; rw [if_neg hc]
    rw [hd]
    exact callE (c21 nilX nilX (lens_size _ nilX (show 1 + 0 ≤ 2 ^ 40 by decide) (Nat.le_refl _))) fun c hc => ⟨_, rfl, rfl, fun _ => call1 c14 ⟨_, rfl, rfl, ⟨rfl, rfl⟩⟩, fun h => (by have := hc.2 rfl; rw [this] at h; cases h)⟩
  · have hc := nfeq hc
    have hd : deriveV r b = D1 r b := by unfold deriveV; rw [if_pos hc]
    rw [hd]
    have hno := nodes_of rr hc
    have hnd : allX nodeOk (D1 r b) := closed_node.der _ _ _ hno hok
    have ld : lens (2 ^ 40) (D1 r b) := der_lens lr hok
    have sd : size (D1 r b) ≤ 2 ^ 40 := by
      have h3 := size_D1 b _ r (Nat.le_refl _)
      have h4 : 3 ^ size r ≤ 3 ^ 24 := Nat.pow_le_pow_right (by decide) sr
      have h5 : (3 : Nat) ^ 24 ≤ 2 ^ 40 := by decide
      omega
    have q1 := c30 (D1 r b) s (by omega) sd hnd
    have q2 := c30 r ([b] ++ s) (by simp; omega) (by omega) hno
    have fits : tB (decide ((((([b] : List UInt8)).length : Int) + (s.length : Int)) ≤ (9223372036854775807 : Int))) = true := tle (by simp; omega)
    refine call1 (c23 _ r (Nat.le_refl _) (by omega)) ⟨_, rfl, rfl, fun hv => ?_, fun _ => ?_⟩
    · have hv := of_tle hv
      have hl := levels_D1 r b
      have hch : chk 1 (D1 r b) = 0 := (chk_iff _ 1).2 ⟨allX_mono' (fun _ h => h.1) _ _ (Nat.le_refl _) hnd, by omega⟩
      refine call1 (c16 _ ld) ⟨_, rfl, rfl, fun h => absurd hch (nteq h), fun _ => ?_⟩
      exact ⟨_, fun _ => q1, fits, call1 q2 ⟨_, rfl, rfl, fun _ => call1 c14 ⟨_, rfl, rfl, ⟨rfl, rfl⟩⟩, fun h => (no_beq h rfl).elim⟩⟩
    · exact ⟨_, fun _ => q1, fits, call1 q2 ⟨_, rfl, rfl, fun _ => call1 c14 ⟨_, rfl, rfl, ⟨rfl, rfl⟩⟩, fun h => (no_beq h rfl).elim⟩⟩
end Go.Rx
end
section
open Go Go.Proofs Go.Ab Go.Rf Go.ChangeShapes Go.WideShapes
set_option maxRecDepth 100000
namespace Go.Rx
theorem lifted10 (os : Os) (started : os.Started) (H : Type) (en : TypeId × Value → H) :
    ReturnsInHanded {} Try.checked os 10 .any (Ytedalcjkolcolaa.Rows.regexDerivesSpec.pre6 en Try.prog Try.f10 Ytedalcjkolcolaa.Rows.regexDerivesRow.domain false) (Ytedalcjkolcolaa.Rows.regexDerivesSpec.post en Try.prog Try.f10 false true false false) := by
  refine returnsInHanded_of_change (C := Try.checked) own started (by kernel_rfl) Try.func10
    (ChangeSpec.witness6 (enc := en) (C := Try.checked) false ⟨#[], #[nilArg, .int .u8 0, .string ⟨#[]⟩], []⟩ 8 (by kernel_rfl) (by kernel_rfl) (by kernel_rfl) (by kernel_rfl)) ?_
  intro W base args ds gs before hval0 hW hcnd _
  have hval : ∀ (j : Nat) t v, Try.f10.params[j]? = some t → args[j]? = some v → Value.okWide Try.prog W .any base t v := hval0
  have hW' := hW
  obtain ⟨p, q, hA0, hV, rfl, hfz, hnd⟩ := hW
  have hA : DataW.TrodAll en Try.prog W 0 (fun _ => true) true Try.f10.params.toList args.toList ds p := hA0
  rw [Try.params10] at hA hval
  obtain ⟨v0, vs0, d0, ds0, p0, q0, hargs, rfl, rfl, h0, r0⟩ := trodAll_cons hA
  obtain ⟨v1, vs1, d1, ds1, p1, q1, rfl, rfl, rfl, h1, r1⟩ := trodAll_cons r0
  obtain ⟨v2, vs2, d2, ds2, p2, q2, rfl, rfl, rfl, h2, r2⟩ := trodAll_cons r1
  obtain ⟨rfl, rfl, rfl⟩ := trodAll_nil r2
  obtain rfl : args = #[v0, v1, v2] := by cases args; simp_all
  obtain ⟨a0, k0, g0⟩ := arg_rx (hval 0 27 v0 rfl rfl) h0
  obtain ⟨a1, g1, k1⟩ := arg_int Try.underlying5 (hval 1 5 v1 rfl rfl) h1
  obtain ⟨a2, k2⟩ := arg_str Try.underlying9 (hval 2 9 v2 rfl rfl) h2
  refine (callsX_body Try.func10 rfl rfl (Holds.out (c10 a0 a1 a2 g0 g1) (w := W) (cargs := #[v0, v1, v2]) ⟨k0, k1, k2, trivial⟩)).mono fun e W' ⟨cv, g', he, hc, hb⟩ => ?_
  have hc : cv = .bool true := by cases hc; rfl
  subst hc
  exact ⟨_, he, row_post rfl hW' rfl rfl lay (by kernel_rfl) hb⟩
theorem regexDerives_holds : Ytedalcjkolcolaa.Rows.RegexDerivesSaid :=
  OpenClaim.holds_of_wide 10 Try.f10 rfl rfl rfl rfl rfl rfl rfl ⟨rfl, rfl, rfl, rfl, rfl⟩ rfl rfl rfl rfl rfl (by kernel_rfl) Try.func10 (by kernel_rfl)
    (of_decide_eq_true (by kernel_rfl)) (by unfold Func.isWrapper; first | (rw [if_pos (by decide +kernel)]; kernel_rfl) | (rw [if_neg (by decide +kernel)]; exact ⟨rfl, rfl⟩))
    (fun os started H enc _ => lifted10 os started H enc)
end Go.Rx
namespace Go.Proofs.Ytedalcjkolcolaa
theorem regexDerives_proved : Rows.RegexDerivesSaid := Go.Rx.regexDerives_holds
end Go.Proofs.Ytedalcjkolcolaa
end
