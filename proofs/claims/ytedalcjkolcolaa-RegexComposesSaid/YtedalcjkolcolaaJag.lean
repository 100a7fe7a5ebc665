/- Proved: the given statement RegexComposesSaid, without conditions. -/
import Derived.Test.YtedalcjkolcolaaJaf
set_option linter.unusedVariables false
set_option linter.unusedSimpArgs false
section
open Go Go.Proofs Go.Ab Go.Rf
set_option maxRecDepth 100000
namespace Go.Rx
def Bd (r : Rx) (k : Nat) : Prop := 2 * mm 0 r + (k + 1) * mm 1 r + 1 ≤ 2 ^ 40 ∧ size r ≤ 2 ^ 40
theorem vl_pos {j : Nat} (hj : j ≤ 1) (l : List Rx) : 1 ≤ vl j l := by unfold vl; split <;> omega
theorem mm_mA {j : Nat} {x : Rx} : ∀ {l : List Rx}, x ∈ l → mm j x ≤ mA j l
  | y :: l, h => by
    rcases List.mem_cons.1 h with rfl | h
    · simp only [mA]; omega
    · have := mm_mA (j := j) h; simp only [mA]; omega
theorem mm_mC {j : Nat} (hj : j ≤ 1) {x : Rx} : ∀ {l : List Rx}, x ∈ l → mm j x ≤ mC j l
  | y :: l, h => by
    rcases List.mem_cons.1 h with rfl | h
    · have := Nat.le_mul_of_pos_left (mm j x) (vl_pos hj l); simp only [mC]; omega
    · have := mm_mC hj h; simp only [mC]; omega
theorem PT.mm {j : Nat} (hj : j ≤ 1) {r q : Rx} {t : List Rx} (h : PT r q t) : Rx.mm j q ≤ Rx.mm j r := by
  induction h with
  | root => exact Nat.le_refl _
  | @star q t x l k e h ih => rw [mm_eq j q, if_pos k, e] at ih; simp only [mS] at ih; omega
  | @alt q t x k e h ih => rw [mm_eq j q, if_neg (by omega), if_pos k] at ih; have := mm_mA (j := j) e; omega
  | @cat q t l x tl k e i h ih =>
    rw [mm_eq j q, if_neg (by omega), if_neg (by omega), if_pos k] at ih
    have : x ∈ q.subs := by rw [e]; simp
    have := mm_mC hj this; omega
theorem Bd.sub {r q : Rx} {t : List Rx} {k k' : Nat} (h : Bd r k) (hq : PT r q t) (hk : k' ≤ k) : Bd q k' := by
  have h0 := hq.mm (Nat.zero_le 1)
  have h1 := hq.mm (Nat.le_refl 1)
  have h2 := hq.size
  have h3 : (k' + 1) * mm 1 q ≤ (k + 1) * mm 1 r := Nat.mul_le_mul (by omega) h1
  exact ⟨by have := h.1; omega, by have := h.2; omega⟩
theorem altOk_of {r : Rx} {w : List UInt8} {ls : List Rx} {k : Nat} (hb : Bd r k) (hw : w.length ≤ k) (h : ∀ l ∈ ls, ∀ a ∈ altF l, Res1 r w a) : altOk ls = true := by
  rw [altOk_iff]
  have h1 := outA_len h
  have h2 : (w.length + 1) * mm 1 r ≤ (k + 1) * mm 1 r := Nat.mul_le_mul (by omega) (Nat.le_refl _)
  have := hb.1
  omega
theorem len_catF (x : Rx) : (catF x).length ≤ tw x := Nat.le_trans (length_tws _) (tws_catF x)
theorem len_sub (x : Rx) : x.subs.length < size x := by have := sizes_ge x.subs; have := size_eq x; omega
theorem len_der (q : Rx) (v : List UInt8) : (catF (derS q v)).length ≤ size q := by
  by_cases k : (derS q v).kind = 3
  · have e : catF (derS q v) = (derS q v).subs := by unfold catF; rw [if_pos k]
    rw [e]
    rcases res_der q v _ (by rw [altF_one (by omega) (by omega)]; exact List.mem_singleton.2 rfl) with h1 | h1 | ⟨q', t', v', ⟨h1, _⟩, h2, h3, h4⟩
    · rw [h1] at k; cases k
    · have := h1.size; have := len_sub (derS q v); omega
    · rw [h4, subs_mk0]
      have := h1.size; have := length_tws t'; have := size_pos q'
      simp only [List.length_cons]; omega
  · have := size_pos q
    unfold catF; rw [if_neg k]; split
    · simp
    · simpa using this
theorem len_catX (t : List Rx) : (catF (catX t)).length ≤ tws t := by
  have h := tws_outC t
  unfold catX
  split
  · rename_i k
    have : t ≠ [] := fun e => by rw [e] at k; cases k
    have h2 : 0 < t.length := List.length_pos_iff.2 this
    have h3 := length_tws t
    show 1 ≤ _; omega
  · split
    · exact Nat.zero_le _
    · rename_i hne
      match ho : outC t, hne with
      | [y], _ => rw [ho] at h; have := len_catF y; simp only [tws] at h; show (catF y).length ≤ _; omega
      | c :: d :: l, _ => rw [ho] at h; exact Nat.le_trans (length_tws (c :: d :: l)) h
theorem catOk_two {r q : Rx} {t : List Rx} {v : List UInt8} (h : PT r q t) (hr : size r ≤ 2 ^ 40) : catOk [derS q v, catX t] = true := by
  rw [catOk_iff]
  have h1 := h.size
  have h2 := len_der q v
  have h3 := len_catX t
  have e : outC [derS q v, catX t] = catF (derS q v) ++ catF (catX t) := by rw [outC_cons, outC_cons]; simp [outC]
  rw [e, List.length_append]; omega
theorem catOk_tl {r q : Rx} {t : List Rx} (h : PT r q t) (hr : size r ≤ 2 ^ 40) : catOk t = true := by
  rw [catOk_iff]
  have h1 := h.size
  have h2 := length_tws (outC t)
  have h3 := tws_outC t
  omega
theorem ok_first {r q : Rx} {t : List Rx} {v w : List UInt8} (h : PT r q t) (hv : v <:+ w) : ∀ a ∈ altF (catX [derS q v, catX t]), Res1 r w a := by
  obtain ⟨t', g1, g2⟩ := catX_pos h (derS q v)
  rw [g2]
  exact res_app g1 hv rfl (res_der q v)
theorem ok_start {r : Rx} {b : UInt8} {k : Nat} (hb : Bd r k) (hk : 1 ≤ k) : ∀ (m : Nat) (q : Rx) (t : List Rx), PT r q t → sizes t ≤ m → (∀ y, size y ≤ sizes t → Bd y 1 → ok1 y b = true) → ok1 (catX t) b = true := by
  intro m
  induction m with
  | zero =>
    intro q t h hm _
    have : t = [] := by
      cases t with
      | nil => rfl
      | cons x t => have := size_pos x; simp only [sizes] at hm; omega
    subst this
    exact derOk_empX _ _
  | succ m ih =>
    intro q t h hm hone
    unfold catX
    split
    · exact derOk_nilX _ _
    · split
      · exact derOk_empX _ _
      · rename_i hne
        have hsz := sizes_outC t
        match ho : outC t, hne with
        | [y], _ =>
          rw [ho] at hsz
          exact hone y (by simp only [sizes] at hsz; omega) (hb.sub (h.sufs [] y [] ho) hk)
        | c :: d :: l, _ =>
          rw [ho] at hsz
          have hc : PT r c (d :: l) := h.sufs [] c (d :: l) ho
          have hsc : size c ≤ sizes t ∧ sizes (d :: l) ≤ m ∧ sizes (d :: l) ≤ sizes t := by have := size_pos c; simp only [sizes] at hsz ⊢; omega
          rw [joinX_two, ok1_cat rfl]
          show (ok1 c b && (catOk (d :: l) && (catOk [D1 c b, catX (d :: l)] && (!null c || (ok1 (catX (d :: l)) b && altOk [catX [D1 c b, catX (d :: l)], D1 (catX (d :: l)) b]))))) = true
          rw [hone c hsc.1 (hb.sub hc hk), catOk_tl hc hb.2, show catOk [D1 c b, catX (d :: l)] = true from catOk_two (v := [b]) hc hb.2,
            ih c (d :: l) hc hsc.2.1 fun y hy => hone y (by omega), altOk_of (w := [b]) hb (by simpa using hk) fun x hx => ?_]
          · simp
          · rcases List.mem_cons.1 hx with rfl | hx
            · exact ok_first (v := [b]) hc (List.suffix_refl _)
            · rw [List.mem_singleton.1 hx]; exact res_start hc (List.suffix_refl _)
theorem ok_one (b : UInt8) : ∀ (n : Nat) (r : Rx), size r ≤ n → Bd r 1 → ok1 r b = true := by
  intro n
  induction n with
  | zero => intro r h; have := size_pos r; omega
  | succ n ih =>
    intro r h hb
    by_cases k5 : r.kind = 5
    · rw [ok1_star k5]
      cases hs : r.subs with
      | nil =>
        rw [hdX_nil hs, D1_nil]
        have e : catF r = [r] := by unfold catF; rw [if_neg (by omega), if_neg (by omega)]
        have : catOk [nilX, r] = true := by
          rw [catOk_iff, outC_cons, outC_cons, e]
          show 2 ≤ 2 ^ 40
          decide
        rw [this, show ok1 nilX b = true from derOk_nilX _ _]; rfl
      | cons x l =>
        have hsz := size_cons hs
        have hx : PT r x [r] := .star k5 hs .root
        have e : catF r = [r] := by unfold catF; rw [if_neg (by omega), if_neg (by omega)]
        have h2 := len_der x [b]
        have : catOk [D1 x b, r] = true := by
          rw [catOk_iff, outC_cons, outC_cons, e]
          have h3 : (catF (D1 x b)).length ≤ size x := h2
          have := hb.2
          simp only [outC, List.flatMap_nil, List.append_nil, List.length_append, List.length_singleton]; omega
        rw [hdX_cons hs, this, ih x (by omega) (hb.sub hx (Nat.le_refl _))]; rfl
    · by_cases k4 : r.kind = 4
      · rw [ok1_alt k4]
        have h1 : (r.subs.all fun x => ok1 x b) = true := List.all_eq_true.2 fun x hx => by
          have := size_mem hx
          exact ih x (by omega) (hb.sub (.alt k4 hx .root) (Nat.le_refl _))
        rw [h1, altOk_of (w := [b]) hb (Nat.le_refl 1) fun y hy => ?_]
        · rfl
        · obtain ⟨x, hx, rfl⟩ := List.mem_map.1 hy
          exact fun a ha => (res_one b _ x (Nat.le_refl _) a ha).comp (.alt k4 hx .root)
      · by_cases k3 : r.kind = 3
        · rw [ok1_cat k3]
          cases hs : r.subs with
          | nil =>
            rw [hdX_nil hs, D1_nil, show ok1 nilX b = true from derOk_nilX _ _]
            rfl
          | cons x tl =>
            have hsz := size_cons hs
            have hx : PT r x tl := by have := PT.cat (l := []) k3 hs 0 (.root (r := r)); rwa [List.append_nil] at this
            rw [hdX_cons hs, List.tail_cons, ih x (by omega) (hb.sub hx (Nat.le_refl _)), catOk_tl hx hb.2, show catOk [D1 x b, catX tl] = true from catOk_two (v := [b]) hx hb.2,
              ok_start hb (Nat.le_refl _) _ x tl hx (Nat.le_refl _) fun y hy => ih y (by have := size_pos x; omega), altOk_of (w := [b]) hb (Nat.le_refl 1) fun y hy => ?_]
            · simp
            · rcases List.mem_cons.1 hy with rfl | hy
              · exact ok_first (v := [b]) hx (List.suffix_refl _)
              · rw [List.mem_singleton.1 hy]; exact res_start hx (List.suffix_refl _)
        · exact ok1_else k3 k4 k5
theorem res_step {r x : Rx} {u : List UInt8} {b : UInt8} (hx : Res1 r u x) : ∀ a ∈ altF (D1 x b), Res1 r (u ++ [b]) a := by
  intro a ha
  have hb : [b] <:+ u ++ [b] := List.suffix_append _ _
  rcases hx with rfl | hx | ⟨q, t, v, ⟨h1, _⟩, h2, h3, rfl⟩
  · rw [D1_emp] at ha; cases ha
  · exact ((res_one b _ x (Nat.le_refl _) a ha).comp hx).mono hb
  · have hv : v ++ [b] <:+ u ++ [b] := by
      obtain ⟨p, rfl⟩ := h3
      exact ⟨p, by rw [List.append_assoc]⟩
    have first := ok_first (v := v ++ [b]) h1 hv
    rw [derS_snoc] at first
    have second : ∀ a ∈ altF (D1 (catX t) b), Res1 r (u ++ [b]) a := res_start h1 hb
    rw [D1_cat rfl] at ha
    split at ha
    · refine res_alt (fun x hx => ?_) a ha
      rcases List.mem_cons.1 hx with rfl | hx
      · exact first
      · rw [List.mem_singleton.1 hx]; exact second
    · exact first a ha
theorem ok_word (b : UInt8) : ∀ (k : Nat) (w : List UInt8), w.length ≤ k → ∀ (n : Nat) (r : Rx), size r ≤ n → Bd r (w.length + 1) → ok1 (derS r w) b = true := by
  intro k
  induction k with
  | zero =>
    intro w hw n r _ hb
    have : w = [] := List.eq_nil_of_length_eq_zero (by omega)
    subst this
    exact ok_one b _ r (Nat.le_refl _) hb
  | succ k ih =>
    intro w hw n
    induction n with
    | zero => intro r h; have := size_pos r; omega
    | succ n ihn =>
      intro r hr hb
      have hlen : (w ++ [b]).length ≤ w.length + 1 := by simp
      have step : ∀ a, Res1 r w a → ok1 a b = true := by
        rintro a (rfl | ha | ⟨q, t, v, ⟨h1, _⟩, h2, h3, rfl⟩)
        · exact derOk_empX _ _
        · exact ok_one b _ a (Nat.le_refl _) (hb.sub ha (by omega))
        · have hvl := h3.length_le
          have hv : v ++ [b] <:+ w ++ [b] := by
            obtain ⟨p, rfl⟩ := h3
            exact ⟨p, by rw [List.append_assoc]⟩
          have hq : ok1 (derS q v) b = true := by
            by_cases hl : v.length < w.length
            · exact ih v (by omega) _ q (Nat.le_refl _) (hb.sub h1 (by omega))
            · have : v = w := h3.eq_of_length (by omega)
              subst this
              exact ihn q (by have := h1.small h2; omega) (hb.sub h1 (Nat.le_refl _))
          have first := ok_first (v := v ++ [b]) h1 hv
          have hc := catOk_two (v := v ++ [b]) h1 hb.2
          rw [derS_snoc] at first hc
          rw [ok1_cat rfl]
          show (ok1 (derS q v) b && (catOk t && (catOk [D1 (derS q v) b, catX t] && (!null (derS q v) || (ok1 (catX t) b && altOk [catX [D1 (derS q v) b, catX t], D1 (catX t) b]))))) = true
          rw [hq, catOk_tl h1 hb.2, hc, ok_start hb (by omega) _ q t h1 (Nat.le_refl _) fun y _ hy => ok_one b _ y (Nat.le_refl _) hy, altOk_of (w := w ++ [b]) hb hlen fun x hx => ?_]
          · simp
          · rcases List.mem_cons.1 hx with rfl | hx
            · exact first
            · rw [List.mem_singleton.1 hx]; exact res_start h1 (List.suffix_append _ _)
      have hold := res_der r w
      by_cases k4 : (derS r w).kind = 4
      · rw [ok1_alt k4]
        have h1 : ((derS r w).subs.all fun x => ok1 x b) = true := List.all_eq_true.2 fun x hx => step x (hold x (by rw [altF_alt k4]; exact hx))
        rw [h1, altOk_of (w := w ++ [b]) hb hlen fun y hy => ?_]
        · rfl
        · obtain ⟨x, hx, rfl⟩ := List.mem_map.1 hy
          exact res_step (hold x (by rw [altF_alt k4]; exact hx))
      · by_cases k0 : (derS r w).kind = 0
        · exact ok1_else (by omega) (by omega) (by omega)
        · exact step _ (hold _ (by rw [altF_one k4 k0]; exact List.mem_singleton.2 rfl))
theorem matchOk_of {r : Rx} {K : Nat} (hb : Bd r K) : ∀ (s u : List UInt8), u.length + s.length ≤ K → matchOk (derS r u) s = true
  | [], _, _ => rfl
  | b :: s, u, h => by
    show (ok1 (derS r u) b && matchOk (D1 (derS r u) b) s) = true
    simp only [List.length_cons] at h
    rw [ok_word b _ u (Nat.le_refl _) _ r (Nat.le_refl _) (hb.sub .root (by omega)), ← derS_snoc, matchOk_of hb s (u ++ [b]) (by simp; omega)]
    rfl
end Go.Rx
end
section
open Go Go.Proofs Go.Ab Go.Rf
set_option maxRecDepth 100000
namespace Go.Rx
theorem range_setX (p : Nat → Bool) : rangeOk (setX p) := fun i hi => by
  have := wd_lt p i
  rcases (show i = 0 ∨ i = 1 ∨ i = 2 ∨ i = 3 by omega) with rfl | rfl | rfl | rfl
  · exact ⟨Int.natCast_nonneg _, by have : (setX p).w 0 = (wd p 0 : Nat) := rfl; omega⟩
  · exact ⟨Int.natCast_nonneg _, by have : (setX p).w 1 = (wd p 1 : Nat) := rfl; omega⟩
  · exact ⟨Int.natCast_nonneg _, by have : (setX p).w 2 = (wd p 2 : Nat) := rfl; omega⟩
  · exact ⟨Int.natCast_nonneg _, by have : (setX p).w 3 = (wd p 3 : Nat) := rfl; omega⟩
theorem range_mk0 (k : Int) (l : List Rx) : rangeOk (mk0 k l) := fun i hi => by
  rcases (show i = 0 ∨ i = 1 ∨ i = 2 ∨ i = 3 by omega) with rfl | rfl | rfl | rfl <;> exact ⟨Int.le_refl _, (by decide : (0 : Int) < 2 ^ 64)⟩
structure PClosed (p : Rx → Prop) : Prop where
  set : ∀ q, p (setX q)
  node : ∀ k l, p (mk0 k l)
theorem pclosed_range : PClosed rangeOk := ⟨range_setX, range_mk0⟩
section
variable {p : Rx → Prop} (hp : PClosed p)
include hp
theorem PClosed.setA (q : Nat → Bool) : allX p (setX q) := allX_iff.2 ⟨hp.set q, fun _ h => by cases h⟩
theorem PClosed.mkA {k : Int} {l : List Rx} (h : ∀ x ∈ l, allX p x) : allX p (mk0 k l) := allX_iff.2 ⟨hp.node k l, h⟩
theorem PClosed.joinA {k : Int} {l : List Rx} (h : ∀ x ∈ l, allX p x) : allX p (joinX k l) := all_joinX (fun _ => hp.node k l) h
theorem PClosed.setL : ∀ (n : Nat) (neg : Bool) (q : Nat → Bool) (t : List UInt8) (r : Res Rx), Rx.setL n neg q t = some r → r.All (allX p)
  | 0, _, _, _, _, h => by simp [Rx.setL] at h
  | n + 1, neg, q, t, r, h => by
    unfold Rx.setL at h
    split at h
    · cases h; trivial
    · split at h
      · cases h; trivial
      · split at h
        · cases h; show allX p _; exact hp.setA _
        · exact PClosed.setL n _ _ _ _ h
theorem PClosed.opX {c : Nat} {r r' : Rx} (h : allX p r) (e : Rx.opX c r = some r') : allX p r' := by
  have he : allX p (mk0 1 []) := hp.mkA fun _ h => by cases h
  have hst : allX p (starX r) := hp.mkA fun x hx => by rw [List.mem_singleton.1 hx]; exact h
  unfold Rx.opX at e
  repeat' split at e
  all_goals first
    | (cases e; exact hst)
    | (cases e; refine hp.mkA fun x hx => ?_; simp only [List.mem_cons, List.not_mem_nil, or_false] at hx; rcases hx with rfl | rfl <;> assumption)
    | cases e
theorem PClosed.opsL : ∀ (n : Nat) (r : Rx) (t : List UInt8) (o : Res Rx), Rx.opsL n r t = some o → allX p r → o.All (allX p)
  | 0, _, _, _, h, _ => by simp [Rx.opsL] at h
  | n + 1, r, t, o, h, hr => by
    unfold Rx.opsL at h
    split at h
    · rename_i r' e; exact PClosed.opsL n r' _ _ h (hp.opX hr e)
    · cases h; exact hr
theorem PClosed.par : ∀ (n : Nat), (∀ t r, alts n t = some r → r.All (allX p)) ∧ (∀ l t r, altL n l t = some r → (∀ x ∈ l, allX p x) → r.All (allX p)) ∧ (∀ t r, seqs n t = some r → r.All (allX p)) ∧
    (∀ l t r, seqL n l t = some r → (∀ x ∈ l, allX p x) → r.All (allX p)) ∧
    (∀ t r, piece n t = some r → r.All (allX p)) ∧ (∀ t r, atom n t = some r → r.All (allX p)) := by
  intro n
  induction n with
  | zero => exact ⟨fun t r h => by simp [alts] at h, fun l t r h => by simp [altL] at h, fun t r h => by simp [seqs] at h, fun l t r h => by simp [seqL] at h, fun t r h => by simp [piece] at h, fun t r h => by simp [atom] at h⟩
  | succ n ih =>
    obtain ⟨ih1, ih2, ih3, ih4, ih5, ih6⟩ := ih
    refine ⟨fun t r h => ?_, fun l t r h hx => ?_, fun t r h => ?_, fun l t r h hx => ?_, fun t r h => ?_, fun t r h => ?_⟩
    · unfold alts at h
      split at h
      · cases h
      · cases h; trivial
      · rename_i hq
        have h1 := ih3 _ _ hq
        exact ih2 _ _ _ h (fun x hx => by rw [List.mem_singleton.1 hx]; exact h1)
    · unfold altL at h
      split at h
      · split at h
        · cases h
        · cases h; trivial
        · rename_i hq
          have h1 := ih3 _ _ hq
          refine ih2 _ _ _ h fun x hx' => ?_
          rcases List.mem_append.1 hx' with hx' | hx'
          · exact hx x hx'
          · rw [List.mem_singleton.1 hx']; exact h1
      · cases h; exact hp.joinA hx
    · unfold seqs at h
      split at h
      · cases h
      · cases h; trivial
      · rename_i hq
        have h1 := ih5 _ _ hq
        exact ih4 _ _ _ h (fun x hx => by rw [List.mem_singleton.1 hx]; exact h1)
    · unfold seqL at h
      split at h
      · split at h
        · cases h
        · cases h; trivial
        · rename_i hq
          have h1 := ih5 _ _ hq
          refine ih4 _ _ _ h fun x hx' => ?_
          rcases List.mem_append.1 hx' with hx' | hx'
          · exact hx x hx'
          · rw [List.mem_singleton.1 hx']; exact h1
      · cases h; exact hp.joinA hx
    · unfold piece at h
      split at h
      · cases h
      · cases h; trivial
      · rename_i hq
        exact hp.opsL _ _ _ _ h (ih6 _ _ hq)
    · unfold atom at h
      split at h
      · split at h
        · cases h; exact hp.mkA fun _ h => by cases h
        · split at h
          · cases h
          · cases h; trivial
          · rename_i hq
            cases h
            have h1 := ih1 _ _ hq
            unfold closeR
            split
            · exact h1
            · trivial
      · split at h
        · unfold setR at h
          split at h
          · exact hp.setL _ _ _ _ _ h
          · split at h
            · cases h; exact hp.mkA fun _ h => by cases h
            · exact hp.setL _ _ _ _ _ h
        · split at h
          · cases h; exact hp.setA _
          · split at h
            · split at h
              · cases h; exact hp.setA _
              · split at h
                · cases h; trivial
                · cases h; exact hp.setA _
            · split at h
              · cases h; trivial
              · cases h; exact hp.setA _
theorem PClosed.parse (s : List UInt8) : allX p (parseV s).1 := by
  have hn : allX p (mk0 0 []) := hp.mkA fun _ h => by cases h
  unfold parseV
  split
  · exact hn
  · split
    · rename_i hr
      have := (hp.par _).1 _ _ hr
      split
      · split
        · exact hn
        · exact this
      · exact hn
    · exact hn
    · exact hn
end
theorem parse_range (s : List UInt8) : allX rangeOk (parseV s).1 := pclosed_range.parse s
theorem parse_lens (s : List UInt8) : lens 1002 (parseV s).1 := by
  have hn : lens 1002 (mk0 0 []) := lens_mk0.2 ⟨Nat.zero_le _, fun _ h => by cases h⟩
  unfold parseV
  split
  · exact hn
  · split
    · rename_i hs _ r t hr
      split
      · split
        · exact hn
        · exact lens_mono (by omega) _ _ (Nat.le_refl _) (alts_lens hr)
      · exact hn
    · exact hn
    · exact hn
theorem parse_lens40 (s : List UInt8) : lens (2 ^ 40) (parseV s).1 := lens_mono (by omega) _ _ (Nat.le_refl _) (parse_lens s)
def e1 : List UInt8 := [97, 43, 98, 63]
def e2 : List UInt8 := [91, 97, 45, 99, 93]
def e3 : List UInt8 := [97, 124]
def e4 : List UInt8 := [91, 98, 45, 97, 93]
theorem c19' {s : List UInt8} {f i : Int} (h : (parseV s).2 = (f, i)) : Holds Try.prog 19 [A.d (.lit (bytesV s))] [] (Ret (.tup [(true, enc (parseV s).1), (true, [.lit (.int .i64 f), .lit (.int .i64 i)])])) := by
  have := c19 s
  unfold pairA at this
  rw [h] at this
  exact this
theorem p1 : (parseV e1).2 = (0, 0) := by decide
theorem p2 : (parseV e2).2 = (0, 0) := by decide
theorem p3 : (parseV e3).2 = (8, 2) := by decide
theorem p4 : (parseV e4).2 = (8, 3) := by decide
theorem c24e (s : List UInt8) (h : s.length ≤ 10) (hm : matchOk (parseV e1).1 s = true) (v : Bool) (hv : matchV (parseV e1).1 s = v) : Holds Try.prog 24 [A.agg (enc (parseV e1).1), A.d (.lit (bytesV s))] [] (Ret (boolA v)) := by
  rw [← hv]
  exact c24 _ s (parse_range _) (parse_lens40 _) (by omega) fun _ => hm
theorem c14 : Holds Try.prog 14 [] [] (Ret (boolA true)) := by
  have hsz : size (parseV e2).1 ≤ 2 ^ 40 := by decide
  have hv : sizeV (parseV e2).1 = 1 := by decide
  have hsize : Holds Try.prog 17 [A.agg (enc (parseV e2).1)] [] (Ret (intA 1)) := by
    have := c17 _ hsz
    rw [hv] at this
    exact this
  refine w14 (call1 (c19' p1) ⟨_, _, rfl, rfl, teq6 _, rfl, call1 (c19' p2) ⟨_, _, rfl, rfl, teq6 _, rfl, call1 (c19' p3) ⟨_, _, rfl, rfl, teq6 _, rfl, call1 (c19' p4) ⟨_, _, rfl, rfl, teq6 _, rfl, rfl, rfl, rfl, rfl, rfl, rfl, rfl, rfl, fun _ => ⟨fun _ => ⟨fun _ => ?_, fun h => absurd h (by decide)⟩, fun h => absurd h (by decide)⟩, fun h => absurd h (by decide)⟩⟩⟩⟩)
  refine call1 (c24e [97] (by decide) (by decide) true (by decide)) ⟨_, rfl, rfl, fun _ => ?_, fun h => by cases h⟩
  refine call1 (c24e [97, 98] (by decide) (by decide) true (by decide)) ⟨_, rfl, rfl, fun _ => ?_, fun h => by cases h⟩
  refine call1 (c24e [97, 97, 98] (by decide) (by decide) true (by decide)) ⟨_, rfl, rfl, fun _ => ?_, fun h => by cases h⟩
  refine call1 (c24e [98] (by decide) (by decide) false (by decide)) ⟨_, rfl, rfl, fun _ => ?_, fun h => by cases h⟩
  exact call1 hsize ⟨_, rfl, rfl, rfl, rfl⟩
end Go.Rx
end
section
open Go Go.Proofs Go.Ab Go.Rf
set_option maxRecDepth 100000
namespace Go.Rx
inductive Star (P : List UInt8 → Prop) : List UInt8 → Prop
  | nil : Star P []
  | step {u v} (h : P u) (ht : Star P v) : Star P (u ++ v)
theorem Star.one {P : List UInt8 → Prop} {u : List UInt8} (h : P u) : Star P u := by have := Star.step h .nil; rwa [List.append_nil] at this
theorem Star.app {P : List UInt8 → Prop} {u v : List UInt8} (h : Star P u) (h' : Star P v) : Star P (u ++ v) := by
  induction h with
  | nil => exact h'
  | step h _ ih => rw [List.append_assoc]; exact .step h ih
theorem Star.mono {P Q : List UInt8 → Prop} (hq : ∀ u, P u → Q u) {u : List UInt8} (h : Star P u) : Star Q u := by
  induction h with
  | nil => exact .nil
  | step h _ ih => exact .step (hq _ h) ih
theorem Star.cons {P : List UInt8 → Prop} {b : UInt8} {w : List UInt8} : Star P (b :: w) ↔ ∃ u v, w = u ++ v ∧ P (b :: u) ∧ Star P v := by
  constructor
  · intro h
    generalize e : b :: w = x at h
    induction h with
    | nil => cases e
    | @step u v h ht ih =>
      cases u with
      | nil => exact ih (by simpa using e)
      | cons c u =>
        injection e with e1 e2
        subst e1
        exact ⟨u, v, e2, h, ht⟩
  · rintro ⟨u, v, rfl, h, ht⟩
    exact .step (u := b :: u) h ht
mutual
def lang : Rx → List UInt8 → Prop
  | .mk k a b c d l, w => if k = 1 then w = [] else if k = 2 then ∃ x, w = [x] ∧ hasX (.mk k a b c d l) x.toNat = true else if k = 3 then langC l w else if k = 4 then langA l w else if k = 5 then langS l w else False
def langC : List Rx → List UInt8 → Prop
  | [], w => w = []
  | x :: l, w => ∃ u v, w = u ++ v ∧ lang x u ∧ langC l v
def langA : List Rx → List UInt8 → Prop
  | [], _ => False
  | x :: l, w => lang x w ∨ langA l w
def langS : List Rx → List UInt8 → Prop
  | [], w => w = []
  | x :: _, w => Star (fun u => lang x u) w
end
theorem lang_eq (r : Rx) (w : List UInt8) : lang r w ↔ if r.kind = 1 then w = [] else if r.kind = 2 then ∃ x, w = [x] ∧ hasX r x.toNat = true else if r.kind = 3 then langC r.subs w else if r.kind = 4 then langA r.subs w else if r.kind = 5 then langS r.subs w else False := by
  cases r with | mk k a b c d l => simp only [lang, Rx.kind, Rx.subs]; exact Iff.rfl
section
variable {r : Rx} {w : List UInt8}
theorem lang1 (k : r.kind = 1) : lang r w ↔ w = [] := by rw [lang_eq, if_pos k]
theorem lang2 (k : r.kind = 2) : lang r w ↔ ∃ x, w = [x] ∧ hasX r x.toNat = true := by rw [lang_eq, if_neg (by omega), if_pos k]
theorem lang3 (k : r.kind = 3) : lang r w ↔ langC r.subs w := by rw [lang_eq, if_neg (by omega), if_neg (by omega), if_pos k]
theorem lang4 (k : r.kind = 4) : lang r w ↔ langA r.subs w := by rw [lang_eq, if_neg (by omega), if_neg (by omega), if_neg (by omega), if_pos k]
theorem lang5 (k : r.kind = 5) : lang r w ↔ langS r.subs w := by rw [lang_eq, if_neg (by omega), if_neg (by omega), if_neg (by omega), if_neg (by omega), if_pos k]
theorem lang0 (k1 : r.kind ≠ 1) (k2 : r.kind ≠ 2) (k3 : r.kind ≠ 3) (k4 : r.kind ≠ 4) (k5 : r.kind ≠ 5) : ¬ lang r w := by rw [lang_eq, if_neg k1, if_neg k2, if_neg k3, if_neg k4, if_neg k5]; exact id
end
theorem lang_nilX (w : List UInt8) : ¬ lang nilX w := lang0 (by decide) (by decide) (by decide) (by decide) (by decide)
theorem lang_empX (w : List UInt8) : lang empX w ↔ w = [] := lang1 rfl
theorem langA_iff {w : List UInt8} : ∀ {l : List Rx}, langA l w ↔ ∃ x ∈ l, lang x w
  | [] => by simp [langA]
  | x :: l => by simp [langA, langA_iff (l := l)]
theorem langC_append {m : List Rx} : ∀ {l : List Rx} {w : List UInt8}, langC (l ++ m) w ↔ ∃ u v, w = u ++ v ∧ langC l u ∧ langC m v
  | [], w => by
    simp only [List.nil_append, langC]
    constructor
    · intro h; exact ⟨[], w, rfl, rfl, h⟩
    · rintro ⟨u, v, rfl, rfl, h⟩; exact h
  | x :: l, w => by
    simp only [List.cons_append, langC]
    constructor
    · rintro ⟨u, v, rfl, h1, h2⟩
      obtain ⟨v1, v2, rfl, h3, h4⟩ := langC_append.1 h2
      exact ⟨u ++ v1, v2, by rw [List.append_assoc], ⟨u, v1, rfl, h1, h3⟩, h4⟩
    · rintro ⟨_, v2, rfl, ⟨u, v1, rfl, h1, h3⟩, h4⟩
      exact ⟨u, v1 ++ v2, by rw [List.append_assoc], h1, langC_append.2 ⟨v1, v2, rfl, h3, h4⟩⟩
theorem langC_one {x : Rx} {w : List UInt8} : langC [x] w ↔ lang x w := by
  simp only [langC]
  constructor
  · rintro ⟨u, v, rfl, h, rfl⟩; rwa [List.append_nil]
  · intro h; exact ⟨w, [], (List.append_nil w).symm, h, rfl⟩
theorem langC_catF {x : Rx} {w : List UInt8} : langC (catF x) w ↔ lang x w := by
  unfold catF
  split
  · rename_i k; exact (lang3 k).symm
  · split
    · rename_i k; exact (lang1 k).symm
    · exact langC_one
theorem langC_outC : ∀ {l : List Rx} {w : List UInt8}, langC (outC l) w ↔ langC l w
  | [], w => Iff.rfl
  | x :: l, w => by
    have e : outC (x :: l) = catF x ++ outC l := by unfold outC; rw [List.flatMap_cons]
    rw [e, langC_append]
    simp only [langC]
    constructor
    · rintro ⟨u, v, rfl, h1, h2⟩; exact ⟨u, v, rfl, langC_catF.1 h1, langC_outC.1 h2⟩
    · rintro ⟨u, v, rfl, h1, h2⟩; exact ⟨u, v, rfl, langC_catF.2 h1, langC_outC.2 h2⟩
theorem langC_none {l : List Rx} {w : List UInt8} (h : l.any (fun x => x.kind == 0) = true) : ¬ langC l w := by
  induction l generalizing w with
  | nil => cases h
  | cons x l ih =>
    rintro ⟨u, v, rfl, h1, h2⟩
    rw [List.any_cons, Bool.or_eq_true] at h
    rcases h with h | h
    · have k : x.kind = 0 := by simpa using h
      exact lang0 (by omega) (by omega) (by omega) (by omega) (by omega) h1
    · exact ih h h2
theorem lang_catX {l : List Rx} {w : List UInt8} : lang (catX l) w ↔ langC l w := by
  unfold catX
  split
  · rename_i h; exact ⟨fun h1 => absurd h1 (lang_nilX w), fun h1 => absurd h1 (langC_none h)⟩
  · rw [← langC_outC]
    split
    · rename_i h; rw [h]; exact lang_empX w
    · unfold joinX
      split
      · rename_i r h; rw [h]; exact langC_one.symm
      · exact lang3 rfl
theorem mem_addX {out : List Rx} {x y : Rx} : y ∈ addX out x ↔ y ∈ out ∨ y = x := by
  unfold addX
  split
  · rename_i h
    obtain ⟨z, hz, e⟩ := List.any_eq_true.1 h
    rw [eqX_iff] at e
    constructor
    · exact .inl
    · rintro (h | rfl)
      · exact h
      · rw [e]; exact hz
  · simp
theorem mem_fold {l : List Rx} : ∀ {out : List Rx} {y : Rx}, y ∈ l.foldl addX out ↔ y ∈ out ∨ y ∈ l := by
  induction l with
  | nil => intro out y; simp
  | cons x l ih => intro out y; rw [List.foldl_cons, ih, mem_addX, List.mem_cons, or_assoc]
theorem lang_altF {x : Rx} {w : List UInt8} : (∃ y ∈ altF x, lang y w) ↔ lang x w := by
  unfold altF
  split
  · rename_i k; rw [lang4 k, langA_iff]
  · split
    · rename_i k
      have := lang0 (r := x) (w := w) (by omega) (by omega) (by omega) (by omega) (by omega)
      simp [this]
    · simp
theorem lang_altX {l : List Rx} {w : List UInt8} : lang (altX l) w ↔ langA l w := by
  have key : (∃ y ∈ outA l, lang y w) ↔ langA l w := by
    rw [langA_iff]
    unfold outA
    constructor
    · rintro ⟨y, hy, h⟩
      rw [mem_fold] at hy
      rcases hy with hy | hy
      · cases hy
      · obtain ⟨x, hx, hxy⟩ := List.mem_flatMap.1 hy
        exact ⟨x, hx, lang_altF.1 ⟨y, hxy, h⟩⟩
    · rintro ⟨x, hx, h⟩
      obtain ⟨y, hy, h1⟩ := lang_altF.2 h
      exact ⟨y, mem_fold.2 (.inr (List.mem_flatMap.2 ⟨x, hx, hy⟩)), h1⟩
  rw [← key]
  unfold altX
  split
  · rename_i h; rw [h]; simp [lang_nilX w]
  · unfold joinX
    split
    · rename_i r h; rw [h]; simp
    · rw [lang4 rfl, langA_iff]; rfl
theorem nullAll_langC : ∀ {l : List Rx}, (∀ x ∈ l, null x = true ↔ lang x []) → (nullAll l = true ↔ langC l [])
  | [], _ => by simp [nullAll, langC]
  | x :: l, h => by
    have h1 := h x (List.mem_cons_self ..)
    have h2 := nullAll_langC (l := l) fun y hy => h y (List.mem_cons_of_mem _ hy)
    simp only [nullAll, langC, Bool.and_eq_true]
    rw [h1, h2]
    constructor
    · rintro ⟨a, b⟩; exact ⟨[], [], rfl, a, b⟩
    · rintro ⟨u, v, e, a, b⟩
      obtain ⟨rfl, rfl⟩ := List.append_eq_nil_iff.1 e.symm
      exact ⟨a, b⟩
theorem nullAny_langA : ∀ {l : List Rx}, (∀ x ∈ l, null x = true ↔ lang x []) → (nullAny l = true ↔ langA l [])
  | [], _ => by simp [nullAny, langA]
  | x :: l, h => by
    have h1 := h x (List.mem_cons_self ..)
    have h2 := nullAny_langA (l := l) fun y hy => h y (List.mem_cons_of_mem _ hy)
    simp only [nullAny, langA, Bool.or_eq_true]
    rw [h1, h2]
theorem null_lang : ∀ (n : Nat) (r : Rx), size r ≤ n → (null r = true ↔ lang r [])
  | 0, r, h => by have := size_pos r; omega
  | n + 1, r, h => by
    have hs : ∀ x ∈ r.subs, (null x = true ↔ lang x []) := fun x hx => by have := size_mem hx; exact null_lang n x (by omega)
    rw [null_eq]
    by_cases k1 : r.kind = 1
    · rw [if_pos (.inl k1), lang1 k1]; simp
    · by_cases k5 : r.kind = 5
      · rw [if_pos (.inr k5), lang5 k5]
        have : langS r.subs [] := by
          cases r.subs with
          | nil => rfl
          | cons x l => exact Star.nil
        simp [this]
      · rw [if_neg (by omega)]
        by_cases k3 : r.kind = 3
        · rw [if_pos k3, lang3 k3]; exact nullAll_langC hs
        · rw [if_neg k3]
          by_cases k4 : r.kind = 4
          · rw [if_pos k4, lang4 k4]; exact nullAny_langA hs
          · rw [if_neg k4]
            by_cases k2 : r.kind = 2
            · rw [lang2 k2]; simp
            · simp [lang0 k1 k2 k3 k4 k5]
theorem null_iff (r : Rx) : null r = true ↔ lang r [] := null_lang _ r (Nat.le_refl _)
theorem D1_lang (b : UInt8) : ∀ (n : Nat) (r : Rx), size r ≤ n → ∀ w, lang (D1 r b) w ↔ lang r (b :: w)
  | 0, r, h => by have := size_pos r; omega
  | n + 1, r, h => fun w => by
    by_cases k2 : r.kind = 2
    · rw [D1_set k2, lang2 k2]
      split
      · rename_i hh
        rw [lang_empX]
        constructor
        · rintro rfl; exact ⟨b, rfl, hh⟩
        · rintro ⟨x, e, _⟩; injection e
      · rename_i hh
        constructor
        · intro h1; exact absurd h1 (lang_nilX w)
        · rintro ⟨x, e, hx⟩; injection e with e1 e2; subst e1; exact absurd hx hh
    · by_cases k5 : r.kind = 5
      · rw [D1_star k5, lang_catX, lang5 k5]
        cases hs : r.subs with
        | nil =>
          rw [hdX_nil hs, D1_nil]
          constructor
          · rintro ⟨u, v, _, h1, _⟩; exact absurd h1 (lang_nilX u)
          · intro h1; cases h1
        | cons x l =>
          rw [hdX_cons hs]
          have hx := size_cons hs
          have ih := D1_lang b n x (by omega)
          simp only [langS]
          rw [Star.cons]
          constructor
          · rintro ⟨u, v, rfl, h1, h2⟩
            rw [langC_one, lang5 k5, hs] at h2
            exact ⟨u, v, rfl, (ih u).1 h1, h2⟩
          · rintro ⟨u, v, rfl, h1, h2⟩
            refine ⟨u, v, rfl, (ih u).2 h1, ?_⟩
            rw [langC_one, lang5 k5, hs]
            exact h2
      · by_cases k4 : r.kind = 4
        · rw [D1_alt k4, lang_altX, lang4 k4, langA_iff, langA_iff]
          constructor
          · rintro ⟨y, hy, h1⟩
            obtain ⟨x, hx, rfl⟩ := List.mem_map.1 hy
            have := size_mem hx
            exact ⟨x, hx, (D1_lang b n x (by omega) w).1 h1⟩
          · rintro ⟨x, hx, h1⟩
            have := size_mem hx
            exact ⟨_, List.mem_map.2 ⟨x, hx, rfl⟩, (D1_lang b n x (by omega) w).2 h1⟩
        · by_cases k3 : r.kind = 3
          · rw [lang3 k3]
            cases hs : r.subs with
            | nil =>
              have e : D1 r b = nilX := by
                rw [D1_cat k3, hdX_nil hs, hs, D1_nil]
                rfl
              rw [e]
              constructor
              · intro h1; exact absurd h1 (lang_nilX w)
              · intro h1; cases h1
            | cons x tl =>
              have hx := size_cons hs
              have hp := size_pos x
              have ih := D1_lang b n x (by omega)
              have iht := D1_lang b n (catX tl) (by have := size_catX tl; omega)
              have first : ∀ w, lang (catX [D1 x b, catX tl]) w ↔ ∃ u v, w = u ++ v ∧ lang x (b :: u) ∧ langC tl v := fun w => by
                rw [lang_catX]
                constructor
                · rintro ⟨u, v, rfl, h1, h2⟩
                  rw [langC_one, lang_catX] at h2
                  exact ⟨u, v, rfl, (ih u).1 h1, h2⟩
                · rintro ⟨u, v, rfl, h1, h2⟩
                  refine ⟨u, v, rfl, (ih u).2 h1, ?_⟩
                  rw [langC_one, lang_catX]; exact h2
              have whole : langC (x :: tl) (b :: w) ↔ (∃ u v, w = u ++ v ∧ lang x (b :: u) ∧ langC tl v) ∨ (lang x [] ∧ langC tl (b :: w)) := by
                constructor
                · rintro ⟨u, v, e, h1, h2⟩
                  cases u with
                  | nil => right; rw [List.nil_append] at e; rw [e]; exact ⟨h1, h2⟩
                  | cons c u => left; injection e with e1 e2; subst e1; exact ⟨u, v, e2, h1, h2⟩
                · rintro (⟨u, v, rfl, h1, h2⟩ | ⟨h1, h2⟩)
                  · exact ⟨b :: u, v, rfl, h1, h2⟩
                  · exact ⟨[], b :: w, rfl, h1, h2⟩
              rw [D1_cat k3, hdX_cons hs, hs, List.tail_cons, whole]
              split
              · rename_i hn
                rw [lang_altX]
                simp only [langA, or_false]
                rw [first, iht, lang_catX]
                have := (null_iff x).1 hn
                simp [this]
              · rename_i hn
                rw [first]
                have : ¬ lang x [] := fun h1 => hn ((null_iff x).2 h1)
                simp [this]
          · rw [D1_else k2 k3 k4 k5]
            constructor
            · intro h1; exact absurd h1 (lang_nilX w)
            · intro h1
              by_cases k1 : r.kind = 1
              · rw [lang1 k1] at h1; cases h1
              · exact absurd h1 (lang0 k1 k2 k3 k4 k5)
theorem D1_iff (r : Rx) (b : UInt8) (w : List UInt8) : lang (D1 r b) w ↔ lang r (b :: w) := D1_lang b _ r (Nat.le_refl _) w
theorem derS_iff : ∀ (s : List UInt8) (r : Rx), null (derS r s) = true ↔ lang r s
  | [], r => null_iff r
  | b :: s, r => by
    show null (derS (D1 r b) s) = true ↔ _
    rw [derS_iff s, D1_iff]
theorem matchV_iff (r : Rx) (s : List UInt8) : matchV r s = true ↔ chk 1 r = 0 ∧ lang r s := by
  unfold matchV
  rw [Bool.and_eq_true, decide_eq_true_eq, derS_iff]
end Go.Rx
end
section
open Go Go.Proofs Go.Ab Go.Rf
set_option maxRecDepth 100000
namespace Go.Rx
mutual
theorem cd_size : ∀ x : Rx, cd x ≤ size x
  | .mk k _ _ _ _ l => by
    have := cds_size l
    simp only [cd, size]; split <;> omega
theorem cds_size : ∀ l : List Rx, cds l ≤ sizes l
  | [] => Nat.le_refl _
  | x :: l => by
    have := cd_size x
    have := cds_size l
    simp only [cds, sizes]; omega
end
end Go.Rx
end
section
open Go Go.Proofs Go.Ab Go.Rf
set_option maxRecDepth 100000
namespace Go.Rx
theorem chks_iff {lvl : Int} : ∀ {l : List Rx}, chks lvl l = 0 ↔ ∀ x ∈ l, chk lvl x = 0
  | [] => by simp [chks]
  | x :: l => by
    simp only [chks, List.mem_cons, forall_eq_or_imp]
    rw [← chks_iff (l := l)]
    split
    · rename_i h; exact ⟨fun h1 => absurd h1 h, fun h1 => absurd h1.1 h⟩
    · rename_i h; exact ⟨fun h1 => ⟨by omega, h1⟩, fun h1 => h1.2⟩
theorem levelsL_iff {m : Nat} : ∀ {l : List Rx}, levelsL l ≤ m ↔ ∀ x ∈ l, levels x ≤ m
  | [] => by simp [levelsL]
  | x :: l => by
    simp only [levelsL, List.mem_cons, forall_eq_or_imp]
    rw [← levelsL_iff (l := l)]; omega
theorem chk_lv : ∀ (n : Nat) (r : Rx), size r ≤ n → ∀ lvl : Int, chk lvl r = 0 ↔ allX (fun r => nodeErr r = 0) r ∧ lvl + levels r ≤ 17
  | 0, r, h => by have := size_pos r; omega
  | n + 1, r, h => fun lvl => by
    rw [chk_eq, allX_iff, levels_eq]
    by_cases h16 : 16 < lvl
    · rw [if_pos h16]
      constructor
      · intro h1; cases h1
      · intro h1; omega
    · rw [if_neg h16]
      by_cases hn : nodeErr r = 0
      · rw [if_neg (by omega), chks_iff]
        have ih : ∀ x ∈ r.subs, (chk (lvl + 1) x = 0 ↔ allX (fun r => nodeErr r = 0) x ∧ lvl + 1 + levels x ≤ 17) := fun x hx => by
          have := size_mem hx
          exact chk_lv n x (by omega) (lvl + 1)
        have key : (lvl + ((levelsL r.subs + 1 : Nat) : Int) ≤ 17) ↔ ∀ x ∈ r.subs, lvl + 1 + levels x ≤ 17 := by
          have := levelsL_iff (m := (16 - lvl).toNat) (l := r.subs)
          constructor
          · intro h1 x hx
            have := this.1 (by omega) x hx
            omega
          · intro h1
            have := this.2 fun x hx => by have := h1 x hx; omega
            omega
        rw [key]
        constructor
        · intro h1
          exact ⟨⟨hn, fun x hx => ((ih x hx).1 (h1 x hx)).1⟩, fun x hx => ((ih x hx).1 (h1 x hx)).2⟩
        · rintro ⟨⟨_, h1⟩, h2⟩ x hx
          exact (ih x hx).2 ⟨h1 x hx, h2 x hx⟩
      · rw [if_pos hn]
        exact ⟨fun h1 => absurd h1 hn, fun h1 => absurd h1.1.1 hn⟩
theorem chk_iff (r : Rx) (lvl : Int) : chk lvl r = 0 ↔ allX (fun r => nodeErr r = 0) r ∧ lvl + levels r ≤ 17 := chk_lv _ r (Nat.le_refl _) lvl
def Vd (m : Nat) (r : Rx) : Prop := allX (fun r => nodeErr r = 0) r ∧ levels r ≤ m
theorem Vd.of {r : Rx} {m : Nat} (h : chk 1 r = 0) (hm : levels r ≤ m) : Vd m r := ⟨((chk_iff r 1).1 h).1, hm⟩
theorem Vd.chk {r : Rx} {m : Nat} (h : Vd m r) (hm : m ≤ 16) : chk 1 r = 0 := (chk_iff r 1).2 ⟨h.1, by have := h.2; omega⟩
theorem Vd.node {m : Nat} {k : Int} {l : List Rx} (hk : nodeErr (mk0 k l) = 0) (h : ∀ x ∈ l, Vd m x) : Vd (m + 1) (mk0 k l) :=
  ⟨allX_iff.2 ⟨hk, fun x hx => (h x hx).1⟩, by
    rw [levels_eq]
    have : levelsL l ≤ m := levelsL_iff.2 fun x hx => (h x hx).2
    show levelsL l + 1 ≤ m + 1
    omega⟩
theorem Vd.mono {r : Rx} {m m' : Nat} (h : Vd m r) (hm : m ≤ m') : Vd m' r := ⟨h.1, Nat.le_trans h.2 hm⟩
theorem Vd.two {m : Nat} {k : Int} {a b : Rx} (hk : k = 3 ∨ k = 4) (ha : Vd m a) (hb : Vd m b) : Vd (m + 1) (mk0 k [a, b]) :=
  .node (by rcases hk with rfl | rfl <;> rfl) fun x hx => by
    rcases List.mem_cons.1 hx with rfl | hx
    · exact ha
    · rw [List.mem_singleton.1 hx]; exact hb
theorem Vd.star {m : Nat} {a : Rx} (ha : Vd m a) : Vd (m + 1) (mk0 5 [a]) := .node rfl fun x hx => by rw [List.mem_singleton.1 hx]; exact ha
theorem size_two (k : Int) (a b : Rx) : size (mk0 k [a, b]) = 1 + size a + size b := by simp only [mk0, size, sizes]; omega
theorem no_beq {x y : Bool} (h : (x == y) = false) (e : x = y) : False := by subst e; cases x <;> cases h
theorem matchV_alt {m : Nat} {a b : Rx} (ha : Vd m a) (hb : Vd m b) (hm : m ≤ 15) (s : List UInt8) : matchV (mk0 4 [a, b]) s = (matchV a s || matchV b s) := by
  rw [Bool.eq_iff_iff, Bool.or_eq_true, matchV_iff, matchV_iff, matchV_iff, lang4 rfl]
  have h1 := (Vd.two (.inr rfl) ha hb).chk (by omega)
  have h2 := ha.chk (by omega)
  have h3 := hb.chk (by omega)
  simp only [subs_mk0, langA, or_false, h1, h2, h3, true_and]
end Go.Rx
end
section
open Go Go.Proofs Go.Ab Go.Rf
set_option maxRecDepth 100000
namespace Go.Rx
def tP0 : List (List Nat) := [[0, 0, 0, 0, 0, 0, 0, 0, 0, 0, 0, 0, 0, 0, 0, 0, 0, 0, 0, 0, 0, 0, 0, 0, 0, 0, 0, 0, 0, 0, 0, 0, 0, 0, 0, 0, 0, 0, 0, 0, 0, 0, 0, 0, 0, 0, 0, 0, 0, 0, 0, 0, 0, 0, 0, 0, 0, 0, 0, 0, 0, 0, 0, 0, 0, 0, 0, 0, 0, 0, 0, 0, 0, 0, 0, 0, 0, 0, 0, 0, 0, 0, 0, 0, 0, 0, 0, 0, 0, 0, 0, 0, 0, 0, 0, 0, 0, 0, 0, 0, 0],
 [0, 1, 1, 1, 1, 1, 1, 1, 1, 1, 1, 1, 1, 1, 1, 1, 1, 1, 1, 1, 1, 1, 1, 1, 1, 1, 1, 1, 1, 1, 1, 1, 1, 1, 1, 1, 1, 1, 1, 1, 1, 1, 1, 1, 1, 1, 1, 1, 1, 1, 1, 1, 1, 1, 1, 1, 1, 1, 1, 1, 1, 1, 1, 1, 1, 1, 1, 1, 1, 1, 1, 1, 1, 1, 1, 1, 1, 1, 1, 1, 1, 1, 1, 1, 1, 1, 1, 1, 1, 1, 1, 1, 1, 1, 1, 1, 1, 1, 1, 1, 1],
 [0, 1, 3, 3, 4, 6, 8, 10, 12, 14, 16, 18, 20, 22, 24, 26, 28, 30, 32, 34, 36, 38, 40, 42, 44, 46, 48, 50, 52, 54, 56, 58, 60, 62, 64, 66, 68, 70, 72, 74, 76, 78, 80, 82, 84, 86, 88, 90, 92, 94, 96, 98, 100, 102, 104, 106, 108, 110, 112, 114, 116, 118, 120, 122, 124, 126, 128, 130, 132, 134, 136, 138, 140, 142, 144, 146, 148, 150, 152, 154, 156, 158, 160, 162, 164, 166, 168, 170, 172, 174, 176, 178, 180, 182, 184, 186, 188, 190, 192, 194, 196],
 [0, 1, 5, 5, 5, 9, 11, 15, 20, 24, 29, 33, 38, 42, 47, 53, 59, 65, 71, 77, 83, 89, 95, 101, 107, 113, 119, 125, 131, 137, 143, 149, 155, 161, 167, 173, 179, 185, 191, 197, 203, 209, 215, 221, 227, 233, 239, 245, 251, 257, 263, 269, 275, 281, 287, 293, 299, 305, 311, 317, 323, 329, 335, 341, 347, 353, 359, 365, 371, 377, 383, 389, 395, 401, 407, 413, 419, 425, 431, 437, 443, 449, 455, 461, 467, 473, 479, 485, 491, 497, 503, 509, 515, 521, 527, 533, 539, 545, 551, 557, 563],
 [0, 1, 5, 11, 11, 14, 21, 29, 36, 44, 51, 64, 71, 84, 93, 105, 120, 132, 147, 165, 183, 201, 219, 237, 256, 280, 304, 328, 352, 376, 400, 424, 448, 472, 496, 520, 544, 568, 592, 616, 640, 664, 688, 712, 736, 760, 784, 808, 832, 856, 880, 904, 928, 952, 976, 1000, 1040, 1060, 1090, 1110, 1130, 1160, 1180, 1210, 1230, 1250, 1280, 1300, 1330, 1350, 1370, 1400, 1420, 1450, 1470, 1490, 1520, 1540, 1570, 1590, 1610, 1640, 1660, 1690, 1710, 1730, 1760, 1780, 1810, 1830, 1850, 1880, 1900, 1930, 1950, 1970, 2000, 2020, 2050, 2070, 2090],
 [0, 1, 5, 17, 17, 20, 38, 41, 53, 71, 92, 113, 137, 158, 197, 218, 257, 284, 320, 365, 401, 446, 500, 554, 608, 662, 716, 773, 845, 917, 989, 1080, 1170, 1270, 1370, 1460, 1560, 1650, 1750, 1850, 1940, 2040, 2150, 2270, 2390, 2510, 2630, 2750, 2870, 2990, 3110, 3230, 3350, 3470, 3590, 3710, 3830, 3950, 4070, 4190, 4310, 4430, 4550, 4670, 4790, 4910, 5030, 5150, 5350, 5450, 5600, 5700, 5800, 5950, 6050, 6200, 6300, 6400, 6550, 6650, 6800, 6900, 7000, 7150, 7250, 7400, 7500, 7600, 7750, 7850, 8000, 8100, 8200, 8350, 8450, 8600, 8700, 8800, 8950, 9050, 9200],
 [0, 1, 5, 17, 35, 35, 57, 65, 89, 125, 134, 173, 219, 282, 345, 417, 480, 597, 660, 809, 893, 1060, 1170, 1310, 1490, 1640, 1820, 2030, 2250, 2470, 2680, 2900, 3130, 3410, 3700, 3990, 4350, 4710, 5110, 5510, 5870, 6270, 6630, 7030, 7430, 7790, 8190, 8630, 9110, 9590, 10200, 10700, 11200, 11600, 12200, 12800, 13400, 14000, 14600, 15200, 15800, 16400, 17100, 17800, 18500, 19200, 19900, 20700, 21400, 22100, 22800, 23500, 24300, 25000, 25700, 26400, 27100, 27900, 28600, 29300, 30000, 30700, 31500, 32700, 33300, 34200, 34800, 35400, 36300, 36900, 37800, 38400, 39000, 39900, 40500, 41400, 42000, 42600, 43500, 44100, 45000],
 [0, 1, 5, 17, 53, 53, 75, 147, 151, 235, 267, 363, 507, 543, 699, 883, 1150, 1400, 1690, 1940, 2410, 2660, 3260, 3590, 4260, 4700, 5260, 5980, 6580, 7300, 8140, 9020, 9900, 10900, 11800, 12700, 13800, 15000, 16100, 17600, 19000, 20600, 22200, 23600, 25200, 26700, 28300, 29900, 31300, 32900, 34700, 36600, 38500, 41000, 43000, 45000, 46600, 49000, 51400, 53800, 56300, 58600, 61300, 64300, 67300, 70300, 73300, 76300, 79300, 82300, 85800, 89300, 92800, 96300, 99800, 105000, 109000, 113000, 117000, 121000, 126000, 130000, 135000, 139000, 143000, 148000, 153000, 158000, 163000, 168000, 173000, 178000, 183000, 188000, 193000, 198000, 203000, 208000, 213000, 218000, 224000],
 [0, 1, 5, 17, 53, 107, 107, 220, 225, 308, 596, 612, 948, 1090, 1470, 2050, 2190, 2820, 3550, 4620, 5620, 6780, 7780, 9660, 10800, 13200, 14500, 17200, 19000, 21200, 24100, 26500, 29400, 32700, 36200, 39800, 43800, 47400, 51000, 55400, 60200, 64600, 70600, 76200, 82600, 89000, 95200, 105000, 113000, 120000, 128000, 135000, 143000, 151000, 158000, 166000, 175000, 185000, 194000, 207000, 217000, 227000, 235000, 247000, 259000, 271000, 283000, 295000, 308000, 323000, 338000, 353000, 368000, 383000, 398000, 413000, 431000, 448000, 466000, 483000, 501000, 527000, 547000, 567000, 587000, 607000, 632000, 656000, 680000, 704000, 728000, 758000, 782000, 812000, 836000, 860000, 890000, 920000, 950000, 980000, 1020000],
 [0, 1, 5, 17, 53, 161, 161, 227, 443, 548, 889, 1130, 1250, 2410, 3010, 3810, 4770, 5900, 8220, 10400, 11400, 14400, 18600, 23300, 28300, 34100, 39100, 48500, 54200, 66200, 72700, 86200, 95200, 108000, 122000, 134000, 149000, 165000, 183000, 201000, 221000, 239000, 257000, 279000, 303000, 325000, 355000, 383000, 415000, 447000, 478000, 527000, 567000, 602000, 642000, 677000, 717000, 757000, 792000, 832000, 877000, 927000, 972000, 1050000, 1100000, 1150000, 1190000, 1250000, 1310000, 1370000, 1430000, 1490000, 1560000, 1630000, 1710000, 1780000, 1860000, 1930000, 2010000, 2080000, 2170000, 2260000, 2350000, 2430000, 2520000, 2650000, 2750000, 2850000, 2950000, 3050000, 3180000, 3300000, 3420000, 3540000, 3660000, 3810000, 3950000, 4100000, 4240000, 4380000, 4560000],
 [0, 1, 5, 17, 53, 161, 323, 323, 815, 821, 1160, 2240, 2760, 4470, 5670, 6270, 12200, 15200, 19200, 24000, 29700, 41300, 52200, 57200, 72200, 93200, 118000, 143000, 172000, 197000, 244000, 273000, 333000, 365000, 433000, 478000, 542000, 612000, 672000, 747000, 827000, 917000, 1020000, 1120000, 1210000, 1300000, 1410000, 1530000, 1640000, 1790000, 1930000, 2090000, 2250000, 2410000, 2650000, 2850000, 3030000, 3230000, 3400000, 3600000, 3800000, 3980000, 4180000, 4400000, 4650000, 4880000, 5270000, 5520000, 5770000, 5970000, 6320000, 6620000, 6920000, 7170000, 7520000, 7880000, 8240000, 8600000, 8960000, 9380000, 9800000, 10400000, 10800000, 11300000, 11700000, 12200000, 12600000, 13200000, 13700000, 14300000, 14700000, 15300000, 16100000, 16700000, 17300000, 17900000, 18500000, 19200000, 20000000, 20700000, 21400000],
 [0, 1, 5, 17, 53, 161, 485, 485, 816, 1640, 1650, 4100, 4130, 5820, 11400, 14000, 22500, 28500, 31500, 61200, 76200, 96200, 122000, 150000, 208000, 263000, 288000, 363000, 468000, 592000, 717000, 862000, 987000, 1240000, 1380000, 1680000, 1840000, 2180000, 2410000, 2730000, 3080000, 3380000, 3750000, 4150000, 4600000, 5120000, 5620000, 6140000, 6740000, 7280000, 7820000, 8480000, 9200000, 9860000, 10900000, 11700000, 12700000, 13700000, 14600000, 16100000, 17300000, 18300000, 19500000, 20600000, 21800000, 23000000, 24000000, 25200000, 26600000, 28100000, 29400000, 31800000, 33300000, 34800000, 36000000, 38100000, 39900000, 41700000, 43200000, 45300000, 47400000, 49600000, 51800000, 53900000, 56400000, 59000000, 62600000, 65000000, 68000000, 70400000, 73400000, 75800000, 79400000, 82400000, 86000000, 88400000, 92000000, 96800000, 102000000, 105000000, 109000000],
 [0, 1, 5, 17, 53, 161, 485, 971, 978, 2940, 2950, 4920, 9870, 9930, 24800, 24900, 35100, 68600, 84200, 137000, 173000, 191000, 369000, 459000, 579000, 734000, 902000, 1260000, 1590000, 1740000, 2190000, 2820000, 3570000, 4320000, 5190000, 5940000, 7460000, 8300000, 10200000, 11200000, 13200000, 14600000, 16500000, 18600000, 20400000, 22700000, 25100000, 27800000, 30900000, 33900000, 37000000, 40600000, 43800000, 47100000, 51000000, 55400000, 59300000, 65600000, 70400000, 76400000, 82400000, 87800000, 96800000, 105000000, 111000000, 119000000, 125000000, 132000000, 140000000, 146000000, 153000000, 161000000, 170000000, 178000000, 192000000, 201000000, 210000000, 218000000, 230000000, 241000000, 252000000, 261000000, 273000000, 286000000, 299000000, 312000000, 325000000, 340000000, 356000000, 377000000, 392000000, 410000000, 424000000, 442000000, 456000000, 478000000, 496000000, 518000000, 532000000, 554000000, 582000000],
 [0, 1, 5, 17, 53, 161, 485, 1460, 1460, 2950, 5850, 5890, 17800, 17900, 29700, 59400, 59700, 150000, 151000, 212000, 413000, 507000, 824000, 1050000, 1160000, 2230000, 2770000, 3490000, 4420000, 5430000, 7580000, 9560000, 10600000, 13300000, 17100000, 21600000, 26100000, 31300000, 35800000, 44900000, 50000000, 61400000, 67400000, 79400000, 87800000, 99200000, 113000000, 124000000, 138000000, 152000000, 168000000, 187000000, 205000000, 224000000, 245000000, 264000000, 284000000, 308000000, 334000000, 357000000, 395000000, 424000000, 460000000, 496000000, 528000000, 582000000, 632000000, 668000000, 716000000, 752000000, 794000000, 842000000, 878000000, 926000000, 982000000, 1040000000, 1090000000, 1170000000, 1220000000, 1280000000, 1360000000, 1420000000, 1490000000, 1540000000, 1630000000, 1700000000, 1780000000, 1840000000, 1930000000, 2020000000, 2110000000, 2200000000, 2290000000, 2400000000, 2510000000, 2650000000, 2760000000, 2890000000, 2980000000, 3110000000, 3210000000],
 [0, 1, 5, 17, 53, 161, 485, 1460, 2920, 2960, 8830, 10400, 17900, 35300, 41100, 108000, 126000, 180000, 358000, 417000, 902000, 1070000, 1290000, 2490000, 3060000, 4960000, 6320000, 7370000, 13500000, 16800000, 21100000, 26700000, 32700000, 45600000, 57500000, 67100000, 80000000, 104000000, 131000000, 158000000, 189000000, 221000000, 271000000, 316000000, 370000000, 431000000, 478000000, 557000000, 616000000, 696000000, 793000000, 870000000, 968000000, 1080000000, 1190000000, 1320000000, 1450000000, 1580000000, 1730000000, 1860000000, 2000000000, 2170000000, 2350000000, 2510000000, 2780000000, 2980000000, 3240000000, 3490000000, 3710000000, 4090000000, 4440000000, 4690000000, 5030000000, 5280000000, 5570000000, 5910000000, 6160000000, 6500000000, 6890000000, 7300000000, 7650000000, 8210000000, 8560000000, 8980000000, 9540000000, 9960000000, 10600000000, 10900000000, 11600000000, 12100000000, 12600000000, 13000000000, 13700000000, 14300000000, 14900000000, 15600000000, 16200000000, 17000000000, 17700000000, 18700000000, 19500000000],
 [0, 1, 5, 17, 53, 161, 485, 1460, 4390, 4390, 10400, 20600, 20900, 62000, 73000, 127000, 249000, 289000, 758000, 884000, 1280000, 2520000, 2930000, 6330000, 7510000, 9050000, 17600000, 21600000, 34900000, 44400000, 51700000, 94700000, 119000000, 149000000, 188000000, 230000000, 321000000, 404000000, 471000000, 562000000, 730000000, 919000000, 1120000000, 1340000000, 1560000000, 1910000000, 2230000000, 2610000000, 3030000000, 3360000000, 3910000000, 4330000000, 4890000000, 5570000000, 6110000000, 6790000000, 7580000000, 8350000000, 9260000000, 10300000000, 11200000000, 12300000000, 13200000000, 14200000000, 15300000000, 16600000000, 17700000000, 19600000000, 21000000000, 22800000000, 24600000000, 26100000000, 28800000000, 31200000000, 33000000000, 35400000000, 37100000000, 39100000000, 41500000000, 43300000000, 45700000000, 48400000000, 51300000000, 53700000000, 57600000000, 60100000000, 63000000000, 66900000000, 69900000000, 74400000000, 76500000000, 81400000000, 84900000000, 88400000000, 91200000000, 96100000000, 102000000000, 106000000000, 111000000000, 115000000000, 121000000000]]
def tV0 : List (List Nat) := [[0, 0, 0, 0, 0, 0, 0, 0, 0, 0, 0, 0, 0, 0, 0, 0, 0, 0, 0, 0, 0, 0, 0, 0, 0, 0, 0, 0, 0, 0, 0, 0, 0, 0, 0, 0, 0, 0, 0, 0, 0, 0, 0, 0, 0, 0, 0, 0, 0, 0, 0, 0, 0, 0, 0, 0, 0, 0, 0, 0, 0, 0, 0, 0, 0, 0, 0, 0, 0, 0, 0, 0, 0, 0, 0, 0, 0, 0, 0, 0, 0, 0, 0, 0, 0, 0, 0, 0, 0, 0, 0, 0, 0, 0, 0, 0, 0, 0, 0, 0, 0],
 [0, 1, 3, 5, 7, 9, 11, 13, 15, 17, 19, 21, 23, 25, 27, 29, 31, 33, 35, 37, 39, 41, 43, 45, 47, 49, 51, 53, 55, 57, 59, 61, 63, 65, 67, 69, 71, 73, 75, 77, 79, 81, 83, 85, 87, 89, 91, 93, 95, 97, 99, 101, 103, 105, 107, 109, 111, 113, 115, 117, 119, 121, 123, 125, 127, 129, 131, 133, 135, 137, 139, 141, 143, 145, 147, 149, 151, 153, 155, 157, 159, 161, 163, 165, 167, 169, 171, 173, 175, 177, 179, 181, 183, 185, 187, 189, 191, 193, 195, 197, 199],
 [0, 2, 4, 8, 10, 14, 19, 23, 28, 32, 37, 41, 46, 52, 58, 64, 70, 76, 82, 88, 94, 100, 106, 112, 118, 124, 130, 136, 142, 148, 154, 160, 166, 172, 178, 184, 190, 196, 202, 208, 214, 220, 226, 232, 238, 244, 250, 256, 262, 268, 274, 280, 286, 292, 298, 304, 310, 316, 322, 328, 334, 340, 346, 352, 358, 364, 370, 376, 382, 388, 394, 400, 406, 412, 418, 424, 430, 436, 442, 448, 454, 460, 466, 472, 478, 484, 490, 496, 502, 508, 514, 520, 526, 532, 538, 544, 550, 556, 562, 568, 574],
 [0, 3, 5, 13, 20, 28, 35, 43, 50, 63, 70, 83, 92, 104, 119, 131, 146, 164, 182, 200, 218, 236, 255, 279, 303, 327, 351, 375, 399, 423, 447, 471, 495, 519, 543, 567, 591, 615, 639, 663, 687, 711, 735, 759, 783, 807, 831, 855, 879, 903, 927, 951, 975, 999, 1030, 1050, 1080, 1100, 1120, 1150, 1170, 1200, 1220, 1240, 1270, 1290, 1320, 1340, 1360, 1390, 1410, 1440, 1460, 1480, 1510, 1530, 1560, 1580, 1600, 1630, 1650, 1680, 1700, 1720, 1750, 1770, 1800, 1820, 1840, 1870, 1890, 1920, 1940, 1960, 1990, 2010, 2040, 2060, 2080, 2110, 2130],
 [0, 4, 7, 19, 37, 40, 52, 70, 91, 112, 136, 157, 196, 217, 256, 283, 319, 364, 400, 445, 499, 553, 607, 661, 715, 772, 844, 916, 988, 1070, 1160, 1260, 1360, 1450, 1550, 1640, 1740, 1840, 1930, 2030, 2140, 2260, 2380, 2500, 2620, 2740, 2860, 2980, 3100, 3220, 3340, 3460, 3580, 3700, 3820, 3940, 4060, 4180, 4300, 4420, 4540, 4660, 4780, 4900, 5020, 5140, 5340, 5440, 5590, 5690, 5790, 5940, 6040, 6190, 6290, 6390, 6540, 6640, 6790, 6890, 6990, 7140, 7240, 7390, 7490, 7590, 7740, 7840, 7990, 8090, 8190, 8340, 8440, 8590, 8690, 8790, 8940, 9040, 9190, 9290, 9390],
 [0, 5, 8, 20, 56, 60, 88, 124, 128, 172, 218, 281, 344, 416, 479, 596, 659, 808, 892, 1050, 1160, 1300, 1480, 1630, 1810, 2020, 2240, 2460, 2670, 2890, 3120, 3400, 3690, 3980, 4340, 4700, 5100, 5500, 5860, 6260, 6620, 7020, 7420, 7780, 8180, 8620, 9100, 9580, 10100, 10600, 11100, 11500, 12100, 12700, 13300, 13900, 14500, 15100, 15700, 16300, 17000, 17700, 18400, 19100, 19800, 20600, 21300, 22000, 22700, 23400, 24200, 24900, 25600, 26300, 27000, 27800, 28500, 29200, 29900, 30600, 31400, 32600, 33200, 34100, 34700, 35300, 36200, 36800, 37700, 38300, 38900, 39800, 40400, 41300, 41900, 42500, 43400, 44000, 44900, 45500, 46100],
 [0, 6, 10, 26, 74, 146, 150, 234, 266, 362, 506, 542, 698, 882, 1140, 1390, 1680, 1930, 2400, 2650, 3250, 3580, 4250, 4690, 5250, 5970, 6570, 7290, 8130, 9010, 9890, 10800, 11700, 12600, 13700, 14900, 16000, 17500, 18900, 20500, 22100, 23500, 25100, 26600, 28200, 29800, 31200, 32800, 34600, 36500, 38400, 40900, 42900, 44900, 46500, 48900, 51300, 53700, 56200, 58500, 61200, 64200, 67200, 70200, 73200, 76200, 79200, 82200, 85700, 89200, 92700, 96200, 99700, 104000, 108000, 112000, 116000, 120000, 125000, 129000, 134000, 138000, 142000, 147000, 152000, 157000, 162000, 167000, 172000, 177000, 182000, 187000, 192000, 197000, 202000, 207000, 212000, 217000, 223000, 231000, 235000],
 [0, 7, 11, 27, 75, 219, 224, 307, 595, 611, 947, 1080, 1460, 2040, 2180, 2810, 3540, 4610, 5610, 6770, 7770, 9650, 10700, 13100, 14400, 17100, 18900, 21100, 24000, 26400, 29300, 32600, 36100, 39700, 43700, 47300, 50900, 55300, 60100, 64500, 70500, 76100, 82500, 88900, 95100, 104000, 112000, 119000, 127000, 134000, 142000, 150000, 157000, 165000, 174000, 184000, 193000, 206000, 216000, 226000, 234000, 246000, 258000, 270000, 282000, 294000, 307000, 322000, 337000, 352000, 367000, 382000, 397000, 412000, 430000, 447000, 465000, 482000, 500000, 526000, 546000, 566000, 586000, 606000, 631000, 655000, 679000, 703000, 727000, 757000, 781000, 811000, 835000, 859000, 889000, 919000, 949000, 979000, 1010000, 1040000, 1080000],
 [0, 8, 12, 28, 76, 220, 436, 547, 888, 1120, 1240, 2400, 3000, 3800, 4760, 5890, 8210, 10300, 11300, 14300, 18500, 23200, 28200, 34000, 39000, 48400, 54100, 66100, 72600, 86100, 95100, 107000, 121000, 133000, 148000, 164000, 182000, 200000, 220000, 238000, 256000, 278000, 302000, 324000, 354000, 382000, 414000, 446000, 477000, 526000, 566000, 601000, 641000, 676000, 716000, 756000, 791000, 831000, 876000, 926000, 971000, 1040000, 1090000, 1140000, 1180000, 1240000, 1300000, 1360000, 1420000, 1480000, 1550000, 1620000, 1700000, 1770000, 1850000, 1920000, 2000000, 2070000, 2160000, 2250000, 2340000, 2420000, 2510000, 2640000, 2740000, 2840000, 2940000, 3040000, 3170000, 3290000, 3410000, 3530000, 3650000, 3800000, 3940000, 4090000, 4230000, 4370000, 4550000, 4700000, 4880000],
 [0, 9, 14, 34, 94, 274, 814, 820, 1150, 2230, 2750, 4460, 5660, 6260, 12100, 15100, 19100, 23900, 29600, 41200, 52100, 57100, 72100, 93100, 117000, 142000, 171000, 196000, 243000, 272000, 332000, 364000, 432000, 477000, 541000, 611000, 671000, 746000, 826000, 916000, 1010000, 1110000, 1200000, 1290000, 1400000, 1520000, 1630000, 1780000, 1920000, 2080000, 2240000, 2400000, 2640000, 2840000, 3020000, 3220000, 3390000, 3590000, 3790000, 3970000, 4170000, 4390000, 4640000, 4870000, 5260000, 5510000, 5760000, 5960000, 6310000, 6610000, 6910000, 7160000, 7510000, 7870000, 8230000, 8590000, 8950000, 9370000, 9790000, 10300000, 10700000, 11200000, 11600000, 12100000, 12500000, 13100000, 13600000, 14200000, 14600000, 15200000, 16000000, 16600000, 17200000, 17800000, 18400000, 19100000, 19900000, 20600000, 21300000, 22000000, 22900000],
 [0, 10, 15, 35, 95, 275, 815, 1630, 1640, 4090, 4120, 5810, 11300, 13900, 22400, 28400, 31400, 61100, 76100, 96100, 121000, 149000, 207000, 262000, 287000, 362000, 467000, 591000, 716000, 861000, 986000, 1230000, 1370000, 1670000, 1830000, 2170000, 2400000, 2720000, 3070000, 3370000, 3740000, 4140000, 4590000, 5110000, 5610000, 6130000, 6730000, 7270000, 7810000, 8470000, 9190000, 9850000, 10800000, 11600000, 12600000, 13600000, 14500000, 16000000, 17200000, 18200000, 19400000, 20500000, 21700000, 22900000, 23900000, 25100000, 26500000, 28000000, 29300000, 31700000, 33200000, 34700000, 35900000, 38000000, 39800000, 41600000, 43100000, 45200000, 47300000, 49500000, 51700000, 53800000, 56300000, 58900000, 62500000, 64900000, 67900000, 70300000, 73300000, 75700000, 79300000, 82300000, 85900000, 88300000, 91900000, 96700000, 101000000, 104000000, 108000000, 112000000, 116000000],
 [0, 11, 17, 41, 113, 329, 977, 2930, 2940, 4910, 9860, 9920, 24700, 24800, 35000, 68500, 84100, 136000, 172000, 190000, 368000, 458000, 578000, 733000, 901000, 1250000, 1580000, 1730000, 2180000, 2810000, 3560000, 4310000, 5180000, 5930000, 7450000, 8290000, 10100000, 11100000, 13100000, 14500000, 16400000, 18500000, 20300000, 22600000, 25000000, 27700000, 30800000, 33800000, 36900000, 40500000, 43700000, 47000000, 50900000, 55300000, 59200000, 65500000, 70300000, 76300000, 82300000, 87700000, 96700000, 104000000, 110000000, 118000000, 124000000, 131000000, 139000000, 145000000, 152000000, 160000000, 169000000, 177000000, 191000000, 200000000, 209000000, 217000000, 229000000, 240000000, 251000000, 260000000, 272000000, 285000000, 298000000, 311000000, 324000000, 339000000, 355000000, 376000000, 391000000, 409000000, 423000000, 441000000, 455000000, 477000000, 495000000, 517000000, 531000000, 553000000, 581000000, 613000000, 631000000],
 [0, 12, 18, 42, 114, 330, 978, 2940, 5840, 5880, 17700, 17800, 29600, 59300, 59600, 149000, 150000, 211000, 412000, 506000, 823000, 1040000, 1150000, 2220000, 2760000, 3480000, 4410000, 5420000, 7570000, 9550000, 10500000, 13200000, 17000000, 21500000, 26000000, 31200000, 35700000, 44800000, 49900000, 61300000, 67300000, 79300000, 87700000, 99100000, 112000000, 123000000, 137000000, 151000000, 167000000, 186000000, 204000000, 223000000, 244000000, 263000000, 283000000, 307000000, 333000000, 356000000, 394000000, 423000000, 459000000, 495000000, 527000000, 581000000, 631000000, 667000000, 715000000, 751000000, 793000000, 841000000, 877000000, 925000000, 981000000, 1030000000, 1080000000, 1160000000, 1210000000, 1270000000, 1350000000, 1410000000, 1480000000, 1530000000, 1620000000, 1690000000, 1770000000, 1830000000, 1920000000, 2010000000, 2100000000, 2190000000, 2280000000, 2390000000, 2500000000, 2640000000, 2750000000, 2880000000, 2970000000, 3100000000, 3200000000, 3350000000, 3480000000],
 [0, 13, 19, 43, 115, 331, 979, 2950, 8780, 10300, 17800, 35200, 41000, 107000, 125000, 179000, 357000, 416000, 901000, 1060000, 1280000, 2480000, 3050000, 4950000, 6310000, 7360000, 13400000, 16700000, 21000000, 26600000, 32600000, 45500000, 57400000, 67000000, 79900000, 103000000, 130000000, 157000000, 188000000, 220000000, 270000000, 315000000, 369000000, 430000000, 477000000, 556000000, 615000000, 695000000, 792000000, 869000000, 967000000, 1070000000, 1180000000, 1310000000, 1440000000, 1570000000, 1720000000, 1850000000, 1990000000, 2160000000, 2340000000, 2500000000, 2770000000, 2970000000, 3230000000, 3480000000, 3700000000, 4080000000, 4430000000, 4680000000, 5020000000, 5270000000, 5560000000, 5900000000, 6150000000, 6490000000, 6880000000, 7290000000, 7640000000, 8200000000, 8550000000, 8970000000, 9530000000, 9950000000, 10500000000, 10800000000, 11500000000, 12000000000, 12500000000, 12900000000, 13600000000, 14200000000, 14800000000, 15500000000, 16100000000, 16900000000, 17600000000, 18600000000, 19400000000, 20300000000, 20900000000],
 [0, 14, 21, 49, 133, 385, 1150, 3410, 10300, 20500, 20800, 61900, 72900, 126000, 248000, 288000, 757000, 883000, 1270000, 2510000, 2920000, 6320000, 7500000, 9040000, 17500000, 21500000, 34800000, 44300000, 51600000, 94600000, 118000000, 148000000, 187000000, 229000000, 320000000, 403000000, 470000000, 561000000, 729000000, 918000000, 1110000000, 1330000000, 1550000000, 1900000000, 2220000000, 2600000000, 3020000000, 3350000000, 3900000000, 4320000000, 4880000000, 5560000000, 6100000000, 6780000000, 7570000000, 8340000000, 9250000000, 10200000000, 11100000000, 12200000000, 13100000000, 14100000000, 15200000000, 16500000000, 17600000000, 19500000000, 20900000000, 22700000000, 24500000000, 26000000000, 28700000000, 31100000000, 32900000000, 35300000000, 37000000000, 39000000000, 41400000000, 43200000000, 45600000000, 48300000000, 51200000000, 53600000000, 57500000000, 60000000000, 62900000000, 66800000000, 69800000000, 74300000000, 76400000000, 81300000000, 84800000000, 88300000000, 91100000000, 96000000000, 101000000000, 105000000000, 110000000000, 114000000000, 120000000000, 124000000000, 131000000000],
 [0, 15, 22, 50, 134, 386, 1160, 3420, 10400, 30800, 30900, 72900, 145000, 147000, 435000, 512000, 890000, 1750000, 2030000, 5310000, 6190000, 8970000, 17700000, 20600000, 44400000, 52600000, 63400000, 124000000, 152000000, 245000000, 311000000, 362000000, 663000000, 834000000, 1050000000, 1320000000, 1620000000, 2250000000, 2830000000, 3300000000, 3940000000, 5120000000, 6440000000, 7850000000, 9390000000, 11000000000, 13400000000, 15700000000, 18300000000, 21300000000, 23600000000, 27400000000, 30400000000, 34300000000, 39000000000, 42800000000, 47600000000, 53100000000, 58500000000, 64900000000, 72200000000, 78500000000, 86200000000, 92500000000, 99500000000, 108000000000, 117000000000, 124000000000, 138000000000, 148000000000, 160000000000, 173000000000, 183000000000, 202000000000, 219000000000, 232000000000, 250000000000, 265000000000, 284000000000, 297000000000, 313000000000, 333000000000, 347000000000, 366000000000, 388000000000, 411000000000, 430000000000, 461000000000, 481000000000, 505000000000, 536000000000, 560000000000, 596000000000, 613000000000, 652000000000, 680000000000, 708000000000, 730000000000, 769000000000, 817000000000, 849000000000]]
def tP1 : List (List Nat) := [[0, 0, 0, 0, 0, 0, 0, 0, 0, 0, 0, 0, 0, 0, 0, 0, 0, 0, 0, 0, 0, 0, 0, 0, 0, 0, 0, 0, 0, 0, 0, 0, 0, 0, 0, 0, 0, 0, 0, 0, 0, 0, 0, 0, 0, 0, 0, 0, 0, 0, 0, 0, 0, 0, 0, 0, 0, 0, 0, 0, 0, 0, 0, 0, 0, 0, 0, 0, 0, 0, 0, 0, 0, 0, 0, 0, 0, 0, 0, 0, 0, 0, 0, 0, 0, 0, 0, 0, 0, 0, 0, 0, 0, 0, 0, 0, 0, 0, 0, 0, 0],
 [0, 1, 1, 1, 1, 1, 1, 1, 1, 1, 1, 1, 1, 1, 1, 1, 1, 1, 1, 1, 1, 1, 1, 1, 1, 1, 1, 1, 1, 1, 1, 1, 1, 1, 1, 1, 1, 1, 1, 1, 1, 1, 1, 1, 1, 1, 1, 1, 1, 1, 1, 1, 1, 1, 1, 1, 1, 1, 1, 1, 1, 1, 1, 1, 1, 1, 1, 1, 1, 1, 1, 1, 1, 1, 1, 1, 1, 1, 1, 1, 1, 1, 1, 1, 1, 1, 1, 1, 1, 1, 1, 1, 1, 1, 1, 1, 1, 1, 1, 1, 1],
 [0, 1, 3, 3, 3, 4, 5, 6, 7, 8, 9, 10, 11, 12, 13, 14, 15, 16, 17, 18, 19, 20, 21, 22, 23, 24, 25, 26, 27, 28, 29, 30, 31, 32, 33, 34, 35, 36, 37, 38, 39, 40, 41, 42, 43, 44, 45, 46, 47, 48, 49, 50, 51, 52, 53, 54, 55, 56, 57, 58, 59, 60, 61, 62, 63, 64, 65, 66, 67, 68, 69, 70, 71, 72, 73, 74, 75, 76, 77, 78, 79, 80, 81, 82, 83, 84, 85, 86, 87, 88, 89, 90, 91, 92, 93, 94, 95, 96, 97, 98, 99],
 [0, 1, 4, 5, 5, 6, 7, 9, 13, 15, 19, 21, 25, 27, 31, 33, 37, 39, 43, 45, 49, 51, 55, 57, 61, 63, 67, 69, 73, 75, 79, 81, 85, 87, 91, 93, 97, 99, 103, 105, 109, 111, 115, 117, 121, 123, 127, 129, 133, 135, 139, 141, 145, 147, 151, 153, 157, 159, 163, 165, 169, 171, 175, 177, 181, 183, 187, 189, 193, 195, 199, 201, 205, 207, 211, 213, 217, 219, 223, 225, 229, 231, 235, 237, 241, 243, 247, 249, 253, 255, 259, 261, 265, 267, 271, 273, 277, 279, 283, 285, 289],
 [0, 1, 4, 8, 8, 8, 13, 16, 21, 24, 29, 36, 41, 48, 53, 60, 65, 72, 77, 84, 89, 99, 105, 117, 123, 135, 141, 153, 159, 171, 177, 189, 195, 207, 213, 225, 231, 243, 249, 261, 267, 279, 285, 297, 303, 315, 321, 333, 339, 351, 357, 369, 375, 387, 393, 405, 411, 423, 429, 441, 447, 459, 465, 477, 483, 495, 501, 513, 519, 531, 537, 549, 555, 567, 573, 585, 591, 603, 609, 621, 627, 639, 645, 657, 663, 675, 681, 693, 699, 711, 717, 729, 735, 747, 753, 765, 771, 783, 789, 801, 807],
 [0, 1, 4, 10, 12, 13, 21, 23, 29, 37, 47, 53, 61, 71, 77, 93, 103, 111, 131, 146, 167, 182, 203, 218, 239, 254, 275, 301, 321, 349, 374, 397, 428, 457, 482, 529, 553, 601, 625, 673, 697, 745, 769, 817, 841, 889, 913, 961, 985, 1050, 1070, 1120, 1140, 1190, 1210, 1260, 1290, 1330, 1360, 1410, 1430, 1480, 1500, 1550, 1570, 1620, 1650, 1690, 1720, 1770, 1790, 1840, 1860, 1910, 1930, 1980, 2010, 2050, 2080, 2130, 2150, 2200, 2220, 2270, 2290, 2340, 2370, 2410, 2440, 2490, 2510, 2560, 2580, 2630, 2650, 2700, 2730, 2770, 2800, 2850, 2870],
 [0, 1, 4, 10, 18, 18, 26, 30, 44, 56, 62, 77, 89, 102, 125, 155, 173, 197, 227, 245, 293, 323, 347, 407, 452, 515, 560, 623, 668, 731, 776, 839, 917, 977, 1070, 1150, 1220, 1310, 1400, 1470, 1610, 1690, 1830, 1900, 2050, 2190, 2290, 2480, 2580, 2770, 2860, 3060, 3170, 3340, 3530, 3650, 3890, 4010, 4250, 4370, 4610, 4730, 4970, 5090, 5420, 5520, 5770, 5870, 6120, 6220, 6470, 6620, 6820, 6970, 7220, 7320, 7570, 7670, 7920, 8020, 8270, 8420, 8620, 8770, 9020, 9120, 9370, 9470, 9720, 9820, 10200, 10400, 10600, 10700, 11000, 11100, 11300, 11400, 11700, 11800, 12000],
 [0, 1, 4, 10, 22, 26, 37, 61, 64, 85, 97, 139, 175, 193, 238, 274, 313, 382, 472, 526, 598, 688, 742, 886, 976, 1060, 1240, 1380, 1570, 1700, 1890, 2020, 2210, 2350, 2540, 2770, 2950, 3230, 3470, 3680, 3950, 4220, 4430, 4850, 5090, 5510, 5720, 6170, 6590, 6890, 7460, 7760, 8330, 8840, 9240, 10000, 10500, 11300, 11700, 12500, 12900, 13600, 14300, 14800, 15800, 16300, 17200, 18000, 18700, 19800, 20400, 21600, 22200, 23400, 24000, 25200, 26100, 27400, 28300, 29200, 30400, 31200, 33100, 33700, 35200, 35800, 37300, 37900, 39400, 40300, 41500, 42400, 43900, 44500, 46000, 46600, 48100, 48700, 50200, 51100, 52300],
 [0, 1, 4, 10, 22, 38, 38, 74, 86, 119, 191, 200, 263, 299, 425, 533, 587, 722, 830, 947, 1170, 1440, 1600, 1820, 2090, 2250, 2680, 2950, 3200, 3740, 4160, 4730, 5120, 5690, 6330, 6850, 7610, 8130, 8890, 9450, 10300, 11300, 12000, 13100, 14100, 14900, 16000, 17100, 17900, 19600, 20500, 22200, 23100, 24900, 26500, 27700, 30000, 31200, 33500, 35500, 37100, 40200, 42200, 45400, 47000, 50200, 51800, 54600, 57400, 59400, 63400, 65400, 69000, 72200, 75000, 79400, 81800, 86600, 90300, 93800, 99300, 104000, 110000, 113000, 119000, 122000, 128000, 132000, 139000, 143000, 148000, 154000, 159000, 167000, 172000, 178000, 184000, 189000, 201000, 204000, 213000],
 [0, 1, 4, 10, 22, 46, 54, 76, 124, 164, 231, 308, 366, 582, 776, 812, 1080, 1300, 1730, 2160, 2370, 2910, 3350, 3810, 4710, 5790, 6430, 7310, 8390, 9030, 10900, 12000, 13000, 15100, 16800, 19100, 20600, 22900, 25500, 27600, 30600, 32700, 35700, 38000, 41400, 45400, 48200, 52600, 56600, 59800, 64200, 68600, 71800, 78600, 82200, 89000, 92600, 99800, 108000, 112000, 122000, 126000, 136000, 144000, 150000, 162000, 170000, 183000, 190000, 202000, 209000, 220000, 231000, 239000, 255000, 263000, 278000, 290000, 302000, 319000, 329000, 348000, 363000, 377000, 399000, 418000, 442000, 454000, 478000, 498000, 522000, 552000, 567000, 597000, 612000, 642000, 662000, 697000, 717000, 742000, 772000],
 [0, 1, 4, 10, 22, 46, 78, 98, 194, 226, 314, 506, 666, 934, 1260, 1490, 2350, 3130, 3270, 4340, 5220, 6940, 8660, 9500, 11800, 13600, 15400, 19000, 23300, 25900, 29400, 33700, 36300, 43800, 48200, 52200, 60600, 67400, 76600, 82600, 91800, 104000, 112000, 124000, 132000, 144000, 154000, 167000, 183000, 194000, 212000, 228000, 241000, 258000, 276000, 289000, 316000, 330000, 358000, 372000, 401000, 434000, 450000, 490000, 506000, 546000, 578000, 612000, 650000, 682000, 734000, 762000, 812000, 852000, 917000, 952000, 1030000, 1060000, 1120000, 1170000, 1210000, 1290000, 1330000, 1410000, 1470000, 1530000, 1610000, 1660000, 1760000, 1830000, 1900000, 2010000, 2110000, 2230000, 2290000, 2410000, 2510000, 2630000, 2780000, 2850000, 3000000],
 [0, 1, 4, 11, 22, 46, 94, 110, 195, 323, 403, 787, 915, 1280, 2050, 2690, 3760, 5060, 5980, 9420, 12700, 13200, 17500, 21000, 27900, 34800, 38200, 47400, 54600, 61800, 76200, 93400, 105000, 119000, 136000, 149000, 177000, 194000, 221000, 244000, 271000, 308000, 339000, 385000, 418000, 461000, 522000, 562000, 622000, 662000, 722000, 772000, 837000, 917000, 972000, 1080000, 1160000, 1220000, 1310000, 1400000, 1460000, 1600000, 1670000, 1810000, 1880000, 2020000, 2190000, 2270000, 2470000, 2550000, 2750000, 2910000, 3080000, 3270000, 3430000, 3690000, 3830000, 4080000, 4280000, 4600000, 4780000, 5170000, 5320000, 5620000, 5870000, 6070000, 6470000, 6670000, 7070000, 7370000, 7670000, 8070000, 8320000, 8820000, 9170000, 9520000, 10200000, 10700000, 11300000, 11600000, 12200000],
 [0, 1, 4, 12, 22, 46, 94, 158, 242, 482, 562, 987, 1640, 2040, 3960, 4600, 6430, 10400, 13600, 19000, 25500, 30100, 47300, 63700, 66200, 87700, 107000, 141000, 176000, 193000, 239000, 275000, 311000, 383000, 469000, 527000, 597000, 682000, 747000, 887000, 972000, 1120000, 1240000, 1370000, 1560000, 1710000, 1940000, 2110000, 2320000, 2630000, 2830000, 3130000, 3330000, 3630000, 3880000, 4200000, 4600000, 4880000, 5420000, 5820000, 6120000, 6570000, 7020000, 7320000, 8020000, 8370000, 9070000, 9420000, 10300000, 11100000, 11500000, 12500000, 12900000, 13900000, 14700000, 15600000, 16500000, 17300000, 18600000, 19300000, 20600000, 21600000, 23200000, 24100000, 26000000, 26800000, 28300000, 29500000, 30500000, 32500000, 33500000, 35500000, 37000000, 38500000, 40500000, 41800000, 44300000, 46000000, 47800000, 51200000, 53700000],
 [0, 1, 4, 13, 24, 46, 94, 190, 243, 483, 803, 1240, 2440, 2840, 4960, 8230, 10400, 20000, 23200, 32300, 52200, 68200, 95200, 129000, 152000, 238000, 320000, 333000, 440000, 537000, 707000, 882000, 967000, 1210000, 1390000, 1570000, 1930000, 2360000, 2650000, 3000000, 3430000, 3750000, 4450000, 4880000, 5620000, 6220000, 6870000, 7820000, 8570000, 9720000, 10700000, 11800000, 13300000, 14300000, 15800000, 16800000, 18300000, 19600000, 21200000, 23200000, 24600000, 27300000, 29300000, 30800000, 33000000, 35300000, 36900000, 40300000, 42300000, 45500000, 48300000, 51700000, 55700000, 57700000, 62700000, 66800000, 69700000, 75200000, 78200000, 83600000, 88400000, 93800000, 99200000, 105000000, 113000000, 118000000, 125000000, 132000000, 141000000, 146000000, 158000000, 162000000, 171000000, 179000000, 185000000, 197000000, 203000000, 215000000, 224000000, 233000000, 245000000],
 [0, 1, 4, 14, 26, 46, 94, 190, 318, 486, 966, 1250, 2450, 4040, 6230, 12400, 14800, 25000, 41300, 52200, 102000, 122000, 163000, 263000, 343000, 478000, 647000, 776000, 1210000, 1620000, 1940000, 2220000, 2700000, 3550000, 4430000, 5310000, 6070000, 7280000, 8360000, 9670000, 12000000, 14300000, 16100000, 18200000, 20700000, 22700000, 26900000, 29400000, 33900000, 37500000, 41400000, 47100000, 51600000, 58500000, 64400000, 71000000, 80000000, 86000000, 95000000, 102000000, 111000000, 119000000, 129000000, 141000000, 149000000, 165000000, 177000000, 186000000, 200000000, 213000000, 223000000, 243000000, 255000000, 275000000, 291000000, 312000000, 336000000, 348000000, 378000000, 402000000, 420000000, 453000000, 471000000, 503000000, 532000000, 564000000, 597000000, 632000000, 680000000, 710000000, 752000000, 794000000, 848000000, 878000000, 950000000, 974000000, 1040000000, 1090000000, 1130000000, 1200000000, 1230000000],
 [0, 1, 4, 15, 28, 50, 99, 190, 382, 579, 1170, 1940, 2940, 5820, 7530, 14900, 24400, 37500, 74600, 89000, 152000, 249000, 315000, 614000, 734000, 980000, 1590000, 2070000, 2880000, 3900000, 4670000, 7280000, 9740000, 11800000, 13500000, 16400000, 21500000, 26700000, 32000000, 36600000, 43800000, 50300000, 58200000, 72200000, 86000000, 96800000, 111000000, 126000000, 138000000, 163000000, 178000000, 205000000, 227000000, 250000000, 284000000, 311000000, 353000000, 388000000, 428000000, 482000000, 518000000, 572000000, 614000000, 668000000, 716000000, 776000000, 848000000, 896000000, 992000000, 1080000000, 1130000000, 1220000000, 1290000000, 1350000000, 1470000000, 1550000000, 1670000000, 1760000000, 1890000000, 2030000000, 2100000000, 2280000000, 2430000000, 2540000000, 2730000000, 2840000000, 3030000000, 3210000000, 3400000000, 3600000000, 3810000000, 4100000000, 4280000000, 4530000000, 4780000000, 5100000000, 5280000000, 5720000000, 5860000000, 6260000000, 6560000000]]
def tV1 : List (List Nat) := [[0, 0, 0, 0, 0, 0, 0, 0, 0, 0, 0, 0, 0, 0, 0, 0, 0, 0, 0, 0, 0, 0, 0, 0, 0, 0, 0, 0, 0, 0, 0, 0, 0, 0, 0, 0, 0, 0, 0, 0, 0, 0, 0, 0, 0, 0, 0, 0, 0, 0, 0, 0, 0, 0, 0, 0, 0, 0, 0, 0, 0, 0, 0, 0, 0, 0, 0, 0, 0, 0, 0, 0, 0, 0, 0, 0, 0, 0, 0, 0, 0, 0, 0, 0, 0, 0, 0, 0, 0, 0, 0, 0, 0, 0, 0, 0, 0, 0, 0, 0, 0],
 [0, 1, 2, 3, 4, 5, 6, 7, 8, 9, 10, 11, 12, 13, 14, 15, 16, 17, 18, 19, 20, 21, 22, 23, 24, 25, 26, 27, 28, 29, 30, 31, 32, 33, 34, 35, 36, 37, 38, 39, 40, 41, 42, 43, 44, 45, 46, 47, 48, 49, 50, 51, 52, 53, 54, 55, 56, 57, 58, 59, 60, 61, 62, 63, 64, 65, 66, 67, 68, 69, 70, 71, 72, 73, 74, 75, 76, 77, 78, 79, 80, 81, 82, 83, 84, 85, 86, 87, 88, 89, 90, 91, 92, 93, 94, 95, 96, 97, 98, 99, 100],
 [0, 2, 3, 5, 6, 8, 12, 14, 18, 20, 24, 26, 30, 32, 36, 38, 42, 44, 48, 50, 54, 56, 60, 62, 66, 68, 72, 74, 78, 80, 84, 86, 90, 92, 96, 98, 102, 104, 108, 110, 114, 116, 120, 122, 126, 128, 132, 134, 138, 140, 144, 146, 150, 152, 156, 158, 162, 164, 168, 170, 174, 176, 180, 182, 186, 188, 192, 194, 198, 200, 204, 206, 210, 212, 216, 218, 222, 224, 228, 230, 234, 236, 240, 242, 246, 248, 252, 254, 258, 260, 264, 266, 270, 272, 276, 278, 282, 284, 288, 290, 294],
 [0, 3, 4, 7, 12, 15, 20, 23, 28, 35, 40, 47, 52, 59, 64, 71, 76, 83, 88, 98, 104, 116, 122, 134, 140, 152, 158, 170, 176, 188, 194, 206, 212, 224, 230, 242, 248, 260, 266, 278, 284, 296, 302, 314, 320, 332, 338, 350, 356, 368, 374, 386, 392, 404, 410, 422, 428, 440, 446, 458, 464, 476, 482, 494, 500, 512, 518, 530, 536, 548, 554, 566, 572, 584, 590, 602, 608, 620, 626, 638, 644, 656, 662, 674, 680, 692, 698, 710, 716, 728, 734, 746, 752, 764, 770, 782, 788, 800, 806, 818, 824],
 [0, 4, 6, 12, 20, 22, 28, 36, 46, 52, 60, 70, 76, 92, 102, 110, 130, 145, 166, 181, 202, 217, 238, 253, 274, 300, 320, 348, 373, 396, 427, 456, 481, 528, 552, 600, 624, 672, 696, 744, 768, 816, 840, 888, 912, 960, 984, 1040, 1060, 1110, 1130, 1180, 1200, 1250, 1280, 1320, 1350, 1400, 1420, 1470, 1490, 1540, 1560, 1610, 1640, 1680, 1710, 1760, 1780, 1830, 1850, 1900, 1920, 1970, 2000, 2040, 2070, 2120, 2140, 2190, 2210, 2260, 2280, 2330, 2360, 2400, 2430, 2480, 2500, 2550, 2570, 2620, 2640, 2690, 2720, 2760, 2790, 2840, 2860, 2910, 2930],
 [0, 5, 7, 13, 25, 29, 43, 55, 61, 76, 88, 101, 124, 154, 172, 196, 226, 244, 292, 322, 346, 406, 451, 514, 559, 622, 667, 730, 775, 838, 916, 976, 1060, 1140, 1210, 1300, 1390, 1460, 1600, 1680, 1820, 1890, 2040, 2180, 2280, 2470, 2570, 2760, 2850, 3050, 3160, 3330, 3520, 3640, 3880, 4000, 4240, 4360, 4600, 4720, 4960, 5080, 5410, 5510, 5760, 5860, 6110, 6210, 6460, 6610, 6810, 6960, 7210, 7310, 7560, 7660, 7910, 8010, 8260, 8410, 8610, 8760, 9010, 9110, 9360, 9460, 9710, 9810, 10100, 10300, 10500, 10600, 10900, 11000, 11200, 11300, 11600, 11700, 11900, 12100, 12300],
 [0, 6, 9, 18, 36, 60, 63, 84, 96, 138, 174, 192, 237, 273, 312, 381, 471, 525, 597, 687, 741, 885, 975, 1050, 1230, 1370, 1560, 1690, 1880, 2010, 2200, 2340, 2530, 2760, 2940, 3220, 3460, 3670, 3940, 4210, 4420, 4840, 5080, 5500, 5710, 6160, 6580, 6880, 7450, 7750, 8320, 8830, 9230, 9990, 10400, 11200, 11600, 12400, 12800, 13500, 14200, 14700, 15700, 16200, 17100, 17900, 18600, 19700, 20300, 21500, 22100, 23300, 23900, 25100, 26000, 27300, 28200, 29100, 30300, 31100, 33000, 33600, 35100, 35700, 37200, 37800, 39300, 40200, 41400, 42300, 43800, 44400, 45900, 46500, 48000, 48600, 50100, 51000, 52200, 53100, 54600],
 [0, 7, 10, 19, 37, 73, 85, 118, 190, 199, 262, 298, 424, 532, 586, 721, 829, 946, 1160, 1430, 1590, 1810, 2080, 2240, 2670, 2940, 3190, 3730, 4150, 4720, 5110, 5680, 6320, 6840, 7600, 8120, 8880, 9440, 10200, 11200, 11900, 13000, 14000, 14800, 15900, 17000, 17800, 19500, 20400, 22100, 23000, 24800, 26400, 27600, 29900, 31100, 33400, 35400, 37000, 40100, 42100, 45300, 46900, 50100, 51700, 54500, 57300, 59300, 63300, 65300, 68900, 72100, 74900, 79300, 81700, 86500, 90200, 93700, 99200, 103000, 109000, 112000, 118000, 121000, 127000, 131000, 138000, 142000, 147000, 153000, 158000, 166000, 171000, 177000, 183000, 188000, 200000, 203000, 212000, 216000, 225000],
 [0, 8, 11, 20, 38, 74, 122, 163, 230, 307, 365, 581, 775, 811, 1070, 1290, 1720, 2150, 2360, 2900, 3340, 3800, 4700, 5780, 6420, 7300, 8380, 9020, 10800, 11900, 12900, 15000, 16700, 19000, 20500, 22800, 25400, 27500, 30500, 32600, 35600, 37900, 41300, 45300, 48100, 52500, 56500, 59700, 64100, 68500, 71700, 78500, 82100, 88900, 92500, 99700, 107000, 111000, 121000, 125000, 135000, 143000, 149000, 161000, 169000, 182000, 189000, 201000, 208000, 219000, 230000, 238000, 254000, 262000, 277000, 289000, 301000, 318000, 328000, 347000, 362000, 376000, 398000, 417000, 441000, 453000, 477000, 497000, 521000, 551000, 566000, 596000, 611000, 641000, 661000, 696000, 716000, 741000, 771000, 796000, 836000],
 [0, 9, 13, 25, 49, 97, 193, 225, 313, 505, 665, 933, 1250, 1480, 2340, 3120, 3260, 4330, 5210, 6930, 8650, 9490, 11700, 13500, 15300, 18900, 23200, 25800, 29300, 33600, 36200, 43700, 48100, 52100, 60500, 67300, 76500, 82500, 91700, 103000, 111000, 123000, 131000, 143000, 153000, 166000, 182000, 193000, 211000, 227000, 240000, 257000, 275000, 288000, 315000, 329000, 357000, 371000, 400000, 433000, 449000, 489000, 505000, 545000, 577000, 611000, 649000, 681000, 733000, 761000, 811000, 851000, 916000, 951000, 1020000, 1050000, 1110000, 1160000, 1200000, 1280000, 1320000, 1400000, 1460000, 1520000, 1600000, 1650000, 1750000, 1820000, 1890000, 2000000, 2100000, 2220000, 2280000, 2400000, 2500000, 2620000, 2770000, 2840000, 2990000, 3070000, 3220000],
 [0, 10, 14, 26, 50, 98, 194, 322, 402, 786, 914, 1270, 2040, 2680, 3750, 5050, 5970, 9410, 12600, 13100, 17400, 20900, 27800, 34700, 38100, 47300, 54500, 61700, 76100, 93300, 104000, 118000, 135000, 148000, 176000, 193000, 220000, 243000, 270000, 307000, 338000, 384000, 417000, 460000, 521000, 561000, 621000, 661000, 721000, 771000, 836000, 916000, 971000, 1070000, 1150000, 1210000, 1300000, 1390000, 1450000, 1590000, 1660000, 1800000, 1870000, 2010000, 2180000, 2260000, 2460000, 2540000, 2740000, 2900000, 3070000, 3260000, 3420000, 3680000, 3820000, 4070000, 4270000, 4590000, 4770000, 5160000, 5310000, 5610000, 5860000, 6060000, 6460000, 6660000, 7060000, 7360000, 7660000, 8060000, 8310000, 8810000, 9160000, 9510000, 10100000, 10600000, 11200000, 11500000, 12100000, 12600000, 13200000],
 [0, 11, 16, 31, 66, 121, 241, 481, 561, 986, 1630, 2030, 3950, 4590, 6420, 10300, 13500, 18900, 25400, 30000, 47200, 63600, 66100, 87600, 106000, 140000, 175000, 192000, 238000, 274000, 310000, 382000, 468000, 526000, 596000, 681000, 746000, 886000, 971000, 1110000, 1230000, 1360000, 1550000, 1700000, 1930000, 2100000, 2310000, 2620000, 2820000, 3120000, 3320000, 3620000, 3870000, 4190000, 4590000, 4870000, 5410000, 5810000, 6110000, 6560000, 7010000, 7310000, 8010000, 8360000, 9060000, 9410000, 10200000, 11000000, 11400000, 12400000, 12800000, 13800000, 14600000, 15500000, 16400000, 17200000, 18500000, 19200000, 20500000, 21500000, 23100000, 24000000, 25900000, 26700000, 28200000, 29400000, 30400000, 32400000, 33400000, 35400000, 36900000, 38400000, 40400000, 41700000, 44200000, 45900000, 47700000, 51100000, 53600000, 56600000, 58100000],
 [0, 12, 17, 32, 72, 122, 242, 482, 802, 1230, 2430, 2830, 4950, 8220, 10300, 19900, 23100, 32200, 52100, 68100, 95100, 128000, 151000, 237000, 319000, 332000, 439000, 536000, 706000, 881000, 966000, 1200000, 1380000, 1560000, 1920000, 2350000, 2640000, 2990000, 3420000, 3740000, 4440000, 4870000, 5610000, 6210000, 6860000, 7810000, 8560000, 9710000, 10600000, 11700000, 13200000, 14200000, 15700000, 16700000, 18200000, 19500000, 21100000, 23100000, 24500000, 27200000, 29200000, 30700000, 32900000, 35200000, 36800000, 40200000, 42200000, 45400000, 48200000, 51600000, 55600000, 57600000, 62600000, 66700000, 69600000, 75100000, 78100000, 83500000, 88300000, 93700000, 99100000, 104000000, 112000000, 117000000, 124000000, 131000000, 140000000, 145000000, 157000000, 161000000, 170000000, 178000000, 184000000, 196000000, 202000000, 214000000, 223000000, 232000000, 244000000, 251000000, 266000000],
 [0, 13, 18, 33, 78, 133, 243, 483, 963, 1240, 2440, 4030, 6220, 12300, 14700, 24900, 41200, 52100, 101000, 121000, 162000, 262000, 342000, 477000, 646000, 775000, 1200000, 1610000, 1930000, 2210000, 2690000, 3540000, 4420000, 5300000, 6060000, 7270000, 8350000, 9660000, 11900000, 14200000, 16000000, 18100000, 20600000, 22600000, 26800000, 29300000, 33800000, 37400000, 41300000, 47000000, 51500000, 58400000, 64300000, 70900000, 79900000, 85900000, 94900000, 101000000, 110000000, 118000000, 128000000, 140000000, 148000000, 164000000, 176000000, 185000000, 199000000, 212000000, 222000000, 242000000, 254000000, 274000000, 290000000, 311000000, 335000000, 347000000, 377000000, 401000000, 419000000, 452000000, 470000000, 502000000, 531000000, 563000000, 596000000, 631000000, 679000000, 709000000, 751000000, 793000000, 847000000, 877000000, 949000000, 973000000, 1030000000, 1080000000, 1120000000, 1190000000, 1220000000, 1300000000, 1350000000],
 [0, 14, 20, 38, 98, 170, 290, 578, 1160, 1930, 2930, 5810, 7520, 14800, 24300, 37400, 74500, 88900, 151000, 248000, 314000, 613000, 733000, 979000, 1580000, 2060000, 2870000, 3890000, 4660000, 7270000, 9730000, 11700000, 13400000, 16300000, 21400000, 26600000, 31900000, 36500000, 43700000, 50200000, 58100000, 72100000, 85900000, 96700000, 110000000, 125000000, 137000000, 162000000, 177000000, 204000000, 226000000, 249000000, 283000000, 310000000, 352000000, 387000000, 427000000, 481000000, 517000000, 571000000, 613000000, 667000000, 715000000, 775000000, 847000000, 895000000, 991000000, 1070000000, 1120000000, 1210000000, 1280000000, 1340000000, 1460000000, 1540000000, 1660000000, 1750000000, 1880000000, 2020000000, 2090000000, 2270000000, 2420000000, 2530000000, 2720000000, 2830000000, 3020000000, 3200000000, 3390000000, 3590000000, 3800000000, 4090000000, 4270000000, 4520000000, 4770000000, 5090000000, 5270000000, 5710000000, 5850000000, 6250000000, 6550000000, 6790000000, 7210000000],
 [0, 15, 21, 39, 105, 183, 315, 609, 1170, 2310, 3490, 7040, 11700, 17700, 35000, 45200, 89500, 147000, 226000, 448000, 535000, 913000, 1500000, 1900000, 3690000, 4410000, 5890000, 9550000, 12500000, 17300000, 23500000, 28100000, 43700000, 58500000, 70900000, 81100000, 98500000, 130000000, 161000000, 193000000, 220000000, 263000000, 302000000, 350000000, 434000000, 517000000, 581000000, 667000000, 757000000, 829000000, 979000000, 1070000000, 1240000000, 1370000000, 1510000000, 1710000000, 1870000000, 2120000000, 2330000000, 2570000000, 2900000000, 3110000000, 3440000000, 3690000000, 4010000000, 4300000000, 4680000000, 5090000000, 5440000000, 5960000000, 6490000000, 6950000000, 7570000000, 7920000000, 8550000000, 9040000000, 9460000000, 10300000000, 10900000000, 11700000000, 12400000000, 13300000000, 14300000000, 14800000000, 16000000000, 17100000000, 17800000000, 19200000000, 19900000000, 21300000000, 22500000000, 23900000000, 25300000000, 26700000000, 28800000000, 30000000000, 31800000000, 33500000000, 35800000000, 37000000000, 40100000000]]
def tK : List (List Nat) := [[2, 2, 2, 2, 2, 2, 2, 2, 2, 2, 2, 2, 2, 2, 2, 2, 2, 2, 2, 2, 2, 2, 2, 2, 2, 2, 2, 2, 2, 2, 2, 2, 2, 2, 2, 2, 2, 2, 2, 2, 2, 2, 2, 2, 2, 2, 2, 2, 2, 2, 2, 2, 2, 2, 2, 2, 2, 2, 2, 2, 2, 2, 2, 2, 2, 2, 2, 2, 2, 2, 2, 2, 2, 2, 2, 2, 2, 2, 2, 2, 2, 2, 2, 2, 2, 2, 2, 2, 2, 2, 2, 2, 2, 2, 2, 2, 2, 2, 2, 2],
 [2, 2, 2, 2, 2, 2, 2, 2, 2, 2, 2, 2, 2, 2, 2, 2, 2, 2, 2, 2, 2, 2, 2, 2, 2, 2, 2, 2, 2, 2, 2, 2, 2, 2, 2, 2, 2, 2, 2, 2, 2, 2, 2, 2, 2, 2, 2, 2, 2, 2, 2, 2, 2, 2, 2, 2, 2, 2, 2, 2, 2, 2, 2, 2, 2, 2, 2, 2, 2, 2, 2, 2, 2, 2, 2, 2, 2, 2, 2, 2, 2, 2, 2, 2, 2, 2, 2, 2, 2, 2, 2, 2, 2, 2, 2, 2, 2, 2, 2, 2],
 [2, 2, 2, 3, 3, 3, 3, 3, 3, 3, 3, 3, 3, 3, 3, 3, 3, 3, 3, 3, 3, 3, 3, 3, 3, 3, 3, 3, 3, 3, 3, 3, 3, 3, 3, 3, 3, 3, 3, 3, 3, 3, 3, 3, 3, 3, 3, 3, 3, 3, 3, 3, 3, 3, 3, 3, 3, 3, 3, 3, 3, 3, 3, 3, 3, 3, 3, 3, 3, 3, 3, 3, 3, 3, 3, 3, 3, 3, 3, 3, 3, 3, 3, 3, 3, 3, 3, 3, 3, 3, 3, 3, 3, 3, 3, 3, 3, 3, 3, 3],
 [2, 3, 3, 3, 3, 3, 4, 4, 4, 4, 4, 4, 4, 4, 4, 4, 4, 4, 4, 4, 4, 4, 4, 4, 4, 4, 4, 4, 4, 4, 4, 4, 4, 4, 4, 4, 4, 4, 4, 4, 4, 4, 4, 4, 4, 4, 4, 4, 4, 4, 4, 4, 4, 4, 4, 4, 4, 4, 4, 4, 4, 4, 4, 4, 4, 4, 4, 4, 4, 4, 4, 4, 4, 4, 4, 4, 4, 4, 4, 4, 4, 4, 4, 4, 4, 4, 4, 4, 4, 4, 4, 4, 4, 4, 4, 4, 4, 4, 4, 4],
 [3, 3, 3, 3, 4, 4, 4, 4, 4, 5, 5, 5, 5, 5, 5, 5, 5, 5, 5, 5, 5, 5, 5, 5, 5, 5, 5, 5, 5, 5, 5, 5, 5, 5, 5, 5, 5, 5, 5, 5, 5, 5, 5, 5, 5, 5, 5, 5, 5, 5, 5, 5, 5, 5, 5, 5, 5, 5, 5, 5, 5, 5, 5, 5, 5, 5, 5, 5, 5, 5, 5, 5, 5, 5, 5, 5, 5, 5, 5, 5, 5, 5, 5, 5, 5, 5, 5, 5, 5, 5, 5, 5, 5, 5, 5, 5, 5, 5, 5, 5],
 [3, 3, 4, 4, 4, 4, 4, 5, 5, 5, 5, 5, 6, 6, 6, 6, 6, 6, 6, 6, 6, 6, 6, 6, 6, 6, 6, 6, 6, 6, 6, 6, 6, 6, 6, 6, 6, 6, 6, 6, 6, 6, 6, 6, 6, 6, 6, 6, 6, 6, 6, 6, 6, 6, 6, 6, 6, 6, 6, 6, 6, 6, 6, 6, 6, 6, 6, 6, 6, 6, 6, 6, 6, 6, 6, 6, 6, 6, 6, 6, 6, 6, 6, 6, 6, 6, 6, 6, 6, 6, 6, 6, 6, 6, 6, 6, 6, 6, 6, 6],
 [4, 4, 4, 4, 4, 5, 5, 5, 5, 5, 6, 6, 6, 6, 6, 7, 7, 7, 7, 7, 7, 7, 7, 7, 7, 7, 7, 7, 7, 7, 7, 7, 7, 7, 7, 7, 7, 7, 7, 7, 7, 7, 7, 7, 7, 7, 7, 7, 7, 7, 7, 7, 7, 7, 7, 7, 7, 7, 7, 7, 7, 7, 7, 7, 7, 7, 7, 7, 7, 7, 7, 7, 7, 7, 7, 7, 7, 7, 7, 7, 7, 7, 7, 7, 7, 7, 7, 7, 7, 7, 7, 7, 7, 7, 7, 7, 7, 7, 7, 7],
 [4, 4, 4, 5, 5, 5, 5, 5, 6, 6, 6, 6, 6, 7, 7, 7, 7, 7, 8, 8, 8, 8, 8, 8, 8, 8, 8, 8, 8, 8, 8, 8, 8, 8, 8, 8, 8, 8, 8, 8, 8, 8, 8, 8, 8, 8, 8, 8, 8, 8, 8, 8, 8, 8, 8, 8, 8, 8, 8, 8, 8, 8, 8, 8, 8, 8, 8, 8, 8, 8, 8, 8, 8, 8, 8, 8, 8, 8, 8, 8, 8, 8, 8, 8, 8, 8, 8, 8, 8, 8, 8, 8, 8, 8, 8, 8, 8, 8, 8, 8],
 [4, 5, 5, 5, 5, 5, 6, 6, 6, 6, 6, 7, 7, 7, 7, 7, 8, 8, 8, 8, 8, 9, 9, 9, 9, 9, 9, 9, 9, 9, 9, 9, 9, 9, 9, 9, 9, 9, 9, 9, 9, 9, 9, 9, 9, 9, 9, 9, 9, 9, 9, 9, 9, 9, 9, 9, 9, 9, 9, 9, 9, 9, 9, 9, 9, 9, 9, 9, 9, 9, 9, 9, 9, 9, 9, 9, 9, 9, 9, 9, 9, 9, 9, 9, 9, 9, 9, 9, 9, 9, 9, 9, 9, 9, 9, 9, 9, 9, 9, 9],
 [5, 5, 5, 5, 6, 6, 6, 6, 6, 7, 7, 7, 7, 7, 8, 8, 8, 8, 8, 9, 9, 9, 9, 9, 10, 10, 10, 10, 10, 10, 10, 10, 10, 10, 10, 10, 10, 10, 10, 10, 10, 10, 10, 10, 10, 10, 10, 10, 10, 10, 10, 10, 10, 10, 10, 10, 10, 10, 10, 10, 10, 10, 10, 10, 10, 10, 10, 10, 10, 10, 10, 10, 10, 10, 10, 10, 10, 10, 10, 10, 10, 10, 10, 10, 10, 10, 10, 10, 10, 10, 10, 10, 10, 10, 10, 10, 10, 10, 10, 10],
 [5, 5, 6, 6, 6, 6, 6, 7, 7, 7, 7, 7, 8, 8, 8, 8, 8, 9, 9, 9, 9, 9, 10, 10, 10, 10, 10, 11, 11, 11, 11, 11, 11, 11, 11, 11, 11, 11, 11, 11, 11, 11, 11, 11, 11, 11, 11, 11, 11, 11, 11, 11, 11, 11, 11, 11, 11, 11, 11, 11, 11, 11, 11, 11, 11, 11, 11, 11, 11, 11, 11, 11, 11, 11, 11, 11, 11, 11, 11, 11, 11, 11, 11, 11, 11, 11, 11, 11, 11, 11, 11, 11, 11, 11, 11, 11, 11, 11, 11, 11],
 [6, 6, 6, 6, 6, 7, 7, 7, 7, 7, 8, 8, 8, 8, 8, 9, 9, 9, 9, 9, 10, 10, 10, 10, 10, 11, 11, 11, 11, 11, 12, 12, 12, 12, 12, 12, 12, 12, 12, 12, 12, 12, 12, 12, 12, 12, 12, 12, 12, 12, 12, 12, 12, 12, 12, 12, 12, 12, 12, 12, 12, 12, 12, 12, 12, 12, 12, 12, 12, 12, 12, 12, 12, 12, 12, 12, 12, 12, 12, 12, 12, 12, 12, 12, 12, 12, 12, 12, 12, 12, 12, 12, 12, 12, 12, 12, 12, 12, 12, 12],
 [6, 6, 6, 7, 7, 7, 7, 7, 8, 8, 8, 8, 8, 9, 9, 9, 9, 9, 10, 10, 10, 10, 10, 11, 11, 11, 11, 11, 12, 12, 12, 12, 12, 13, 13, 13, 13, 13, 13, 13, 13, 13, 13, 13, 13, 13, 13, 13, 13, 13, 13, 13, 13, 13, 13, 13, 13, 13, 13, 13, 13, 13, 13, 13, 13, 13, 13, 13, 13, 13, 13, 13, 13, 13, 13, 13, 13, 13, 13, 13, 13, 13, 13, 13, 13, 13, 13, 13, 13, 13, 13, 13, 13, 13, 13, 13, 13, 13, 13, 13],
 [6, 7, 7, 7, 7, 7, 8, 8, 8, 8, 8, 9, 9, 9, 9, 9, 10, 10, 10, 10, 10, 11, 11, 11, 11, 11, 12, 12, 12, 12, 12, 13, 13, 13, 13, 13, 14, 14, 14, 14, 14, 14, 14, 14, 14, 14, 14, 14, 14, 14, 14, 14, 14, 14, 14, 14, 14, 14, 14, 14, 14, 14, 14, 14, 14, 14, 14, 14, 14, 14, 14, 14, 14, 14, 14, 14, 14, 14, 14, 14, 14, 14, 14, 14, 14, 14, 14, 14, 14, 14, 14, 14, 14, 14, 14, 14, 14, 14, 14, 14],
 [7, 7, 7, 7, 8, 8, 8, 8, 8, 9, 9, 9, 9, 9, 10, 10, 10, 10, 10, 11, 11, 11, 11, 11, 12, 12, 12, 12, 12, 13, 13, 13, 13, 13, 14, 14, 14, 14, 14, 15, 15, 15, 15, 15, 15, 15, 15, 15, 15, 15, 15, 15, 15, 15, 15, 15, 15, 15, 15, 15, 15, 15, 15, 15, 15, 15, 15, 15, 15, 15, 15, 15, 15, 15, 15, 15, 15, 15, 15, 15, 15, 15, 15, 15, 15, 15, 15, 15, 15, 15, 15, 15, 15, 15, 15, 15, 15, 15, 15, 15],
 [7, 7, 8, 8, 8, 8, 8, 9, 9, 9, 9, 9, 10, 10, 10, 10, 10, 11, 11, 11, 11, 11, 12, 12, 12, 12, 12, 13, 13, 13, 13, 13, 14, 14, 14, 14, 14, 15, 15, 15, 15, 15, 16, 16, 16, 16, 16, 16, 16, 16, 16, 16, 16, 16, 16, 16, 16, 16, 16, 16, 16, 16, 16, 16, 16, 16, 16, 16, 16, 16, 16, 16, 16, 16, 16, 16, 16, 16, 16, 16, 16, 16, 16, 16, 16, 16, 16, 16, 16, 16, 16, 16, 16, 16, 16, 16, 16, 16, 16, 16]]
def tX0 : Nat := 131000000001
def tX1 : Nat := 7210000001
end Go.Rx
end
section
open Go Go.Proofs Go.Ab Go.Rf
set_option maxRecDepth 100000
namespace Go.Rx
def tP (j : Nat) : List (List Nat) := if j = 0 then tP0 else tP1
def tV (j : Nat) : List (List Nat) := if j = 0 then tV0 else tV1
def pv (j l n : Nat) : Nat := ((tP j).getD l []).getD n 0
def vv (j l n : Nat) : Nat := ((tV j).getD l []).getD n 0
def cN (l n : Nat) : Nat := min (l - 1) ((n + 2 * l - 3) / 5)
def all2 (f : Nat → Nat → Bool) : List Nat → List Nat → Bool
  | a :: l, b :: m => f a b && all2 f l m
  | _, _ => true
theorem all2_get {f : Nat → Nat → Bool} : ∀ {l m : List Nat}, all2 f l m = true → ∀ i, i < l.length → i < m.length → f (l.getD i 0) (m.getD i 0) = true
  | [], _, _, i, h, _ => by simp at h
  | a :: l, [], _, i, _, h => by simp at h
  | a :: l, b :: m, h, i, h1, h2 => by
    simp only [all2, Bool.and_eq_true] at h
    cases i with
    | zero => exact h.1
    | succ i => exact all2_get h.2 i (by simpa using h1) (by simpa using h2)
def r67 (j : Nat) (p p' v1' : List Nat) : List Nat → List Nat → Bool
  | c :: cs, v2 :: vs => all2 (fun a b => Nat.ble (Nat.add (Nat.mul (Nat.sub c j) a) v2) b) p (v2 :: vs) && (all2 (fun a b => Nat.ble (Nat.add a v2) b) p' (vs.drop 1) && (all2 (fun a b => Nat.ble (Nat.add (Nat.succ a) v2) b) v1' (vs.drop 1) && r67 j p p' v1' cs vs))
  | _, _ => true
theorem r67_get {j : Nat} {p p' v1' : List Nat} : ∀ {cs vs : List Nat}, r67 j p p' v1' cs vs = true → ∀ i, i < cs.length → i < vs.length →
    all2 (fun a b => Nat.ble (Nat.add (Nat.mul (Nat.sub (cs.getD i 0) j) a) (vs.getD i 0)) b) p (vs.drop i) = true ∧ all2 (fun a b => Nat.ble (Nat.add a (vs.getD i 0)) b) p' (vs.drop (i + 2)) = true ∧ all2 (fun a b => Nat.ble (Nat.add (Nat.succ a) (vs.getD i 0)) b) v1' (vs.drop (i + 2)) = true
  | [], _, _, i, h, _ => by simp at h
  | _ :: _, [], _, i, _, h => by simp at h
  | c :: cs, v2 :: vs, h, i, h1, h2 => by
    simp only [r67, Bool.and_eq_true] at h
    cases i with
    | zero => exact ⟨h.1, h.2.1, h.2.2.1⟩
    | succ i => exact r67_get h.2.2.2 i (by simpa using h1) (by simpa using h2)
def rowOk (j l : Nat) (p v p1 v1 p2 ks : List Nat) : Bool :=
  p.length == 101 && (v.length == 101 && (p1.length == 101 && (v1.length == 101 && ((p2.length == 101 || Nat.ble l 1) && (ks.length == 100 &&
  ((p.drop 1).all (fun a => Nat.ble 1 a) &&
  (all2 Nat.ble (p.drop 1) (p.drop 3) && (all2 (fun a b => Nat.ble (1 + a) b) (v1.drop 1) (p.drop 3) &&
  ((Nat.ble l 1 || all2 (fun a b => Nat.ble (2 + a) b) (p1.drop 1) (p.drop 2)) &&
  ((Nat.ble l 2 || all2 (fun a b => Nat.ble ((3 - j) * a + 2) b) (p2.drop 1) (p.drop 2)) &&
  (all2 Nat.ble (p.drop 1) (v.drop 1) && (all2 (fun a b => Nat.ble (1 + a) b) (v1.drop 1) (v.drop 1) &&
  ((List.range 100).all (fun i => Nat.ble (cN l (i + 1) + 2) (ks.getD i 0)) &&
  r67 j p (p.drop 1) (v1.drop 1) ks (v.drop 1))))))))))))))
def rowsOk (j : Nat) : Nat → List (List Nat) → List (List Nat) → List (List Nat) → Bool
  | l, p2 :: p1 :: p :: ps, v1 :: v :: vs, k :: ks => rowOk j l p v p1 v1 p2 k && rowsOk j (l + 1) (p1 :: p :: ps) (v :: vs) ks
  | _, _, _, _ => true
theorem rowsOk_get {j : Nat} : ∀ (i : Nat) {l : Nat} {ps vs ks : List (List Nat)}, rowsOk j l ps vs ks = true → i + 2 < ps.length → i + 1 < vs.length → i < ks.length →
    rowOk j (l + i) (ps.getD (i + 2) []) (vs.getD (i + 1) []) (ps.getD (i + 1) []) (vs.getD i []) (ps.getD i []) (ks.getD i []) = true := by
  intro i
  induction i with
  | zero =>
    intro l ps vs ks h h1 h2 h3
    match ps, vs, ks, h1, h2, h3 with
    | p2 :: p1 :: p :: ps, v1 :: v :: vs, k :: ks, _, _, _ =>
      simp only [rowsOk, Bool.and_eq_true] at h
      exact h.1
    | [], _, _, h1, _, _ => simp only [List.length_nil] at h1; omega
    | [_], _, _, h1, _, _ => simp only [List.length_cons, List.length_nil] at h1; omega
    | [_, _], _, _, h1, _, _ => simp only [List.length_cons, List.length_nil] at h1; omega
    | _ :: _ :: _ :: _, [], _, _, h2, _ => simp only [List.length_nil] at h2; omega
    | _ :: _ :: _ :: _, [_], _, _, h2, _ => simp only [List.length_cons, List.length_nil] at h2; omega
    | _ :: _ :: _ :: _, _ :: _ :: _, [], _, _, h3 => simp only [List.length_nil] at h3; omega
  | succ i ih =>
    intro l ps vs ks h h1 h2 h3
    match ps, vs, ks, h1, h2, h3 with
    | p2 :: p1 :: p :: ps, v1 :: v :: vs, k :: ks, h1, h2, h3 =>
      simp only [rowsOk, Bool.and_eq_true] at h
      simp only [List.length_cons] at h1 h2 h3
      have := ih h.2 (by simp only [List.length_cons]; omega) (by simp only [List.length_cons]; omega) (by omega)
      rw [show l + 1 + i = l + (i + 1) by omega] at this
      exact this
    | [], _, _, h1, _, _ => simp only [List.length_nil] at h1; omega
    | [_], _, _, h1, _, _ => simp only [List.length_cons, List.length_nil] at h1; omega
    | [_, _], _, _, h1, _, _ => simp only [List.length_cons, List.length_nil] at h1; omega
    | _ :: _ :: _ :: _, [], _, _, h2, _ => simp only [List.length_nil] at h2; omega
    | _ :: _ :: _ :: _, [_], _, _, h2, _ => simp only [List.length_cons, List.length_nil] at h2; omega
    | _ :: _ :: _ :: _, _ :: _ :: _, [], _, _, h3 => simp only [List.length_nil] at h3; omega
def rowsAt (j l : Nat) : Bool := rowsOk j l ((([] :: tP j).drop (l - 1)).take 7) (((tV j).drop (l - 1)).take 6) ((tK.drop l).take 5)
theorem rows01 : rowsAt 0 1 = true := by kernel_rfl
theorem rows06 : rowsAt 0 6 = true := by kernel_rfl
theorem rows0b : rowsAt 0 11 = true := by kernel_rfl
theorem rows11 : rowsAt 1 1 = true := by kernel_rfl
theorem rows16 : rowsAt 1 6 = true := by kernel_rfl
theorem rows1b : rowsAt 1 11 = true := by kernel_rfl
theorem tlen {j : Nat} (hj : j ≤ 1) : (tP j).length = 16 ∧ (tV j).length = 16 := by
  rcases (show j = 0 ∨ j = 1 by omega) with rfl | rfl <;> exact ⟨by decide, by decide⟩
theorem getD_tk {l : List (List Nat)} {a b i : Nat} (h : i < b) : ((l.drop a).take b).getD i [] = l.getD (a + i) [] := by
  simp [List.getD, h]
theorem klen : tK.length = 16 := by decide
theorem row_get {j l : Nat} (hj : j ≤ 1) (h1 : 1 ≤ l) (hl : l ≤ 15) : rowOk j l ((tP j).getD l []) ((tV j).getD l []) ((tP j).getD (l - 1) []) ((tV j).getD (l - 1) []) (([] :: tP j).getD (l - 1) []) (tK.getD l []) = true := by
  obtain ⟨e1, e2⟩ := tlen hj
  have e3 := klen
  have key : ∀ l0 i : Nat, 1 ≤ l0 → i < 5 → l0 + 4 ≤ 15 → l = l0 + i → rowsAt j l0 = true → rowOk j l ((tP j).getD l []) ((tV j).getD l []) ((tP j).getD (l - 1) []) ((tV j).getD (l - 1) []) (([] :: tP j).getD (l - 1) []) (tK.getD l []) = true := by
    intro l0 i g1 g2 g3 g4 h
    have := rowsOk_get i h (by simp [e1]; omega) (by simp [e2]; omega) (by simp [e3]; omega)
    rw [getD_tk (by omega), getD_tk (by omega), getD_tk (by omega), getD_tk (by omega), getD_tk (by omega), getD_tk (by omega)] at this
    obtain ⟨k, rfl⟩ : ∃ k, l0 = k + 1 := ⟨l0 - 1, by omega⟩
    subst g4
    rw [show k + 1 - 1 + (i + 2) = (k + 1 + i) + 1 by omega, show k + 1 - 1 + (i + 1) = k + i + 1 by omega, show k + 1 - 1 + i = k + i by omega, List.getD_cons_succ, List.getD_cons_succ] at this
    rw [show k + 1 + i - 1 = k + i by omega]
    rw [show k + 1 + i = k + i + 1 by omega] at this ⊢
    exact this
  rcases (show j = 0 ∨ j = 1 by omega) with rfl | rfl
  · by_cases c1 : l ≤ 5
    · exact key 1 (l - 1) (by omega) (by omega) (by omega) (by omega) rows01
    · by_cases c2 : l ≤ 10
      · exact key 6 (l - 6) (by omega) (by omega) (by omega) (by omega) rows06
      · exact key 11 (l - 11) (by omega) (by omega) (by omega) (by omega) rows0b
  · by_cases c1 : l ≤ 5
    · exact key 1 (l - 1) (by omega) (by omega) (by omega) (by omega) rows11
    · by_cases c2 : l ≤ 10
      · exact key 6 (l - 6) (by omega) (by omega) (by omega) (by omega) rows16
      · exact key 11 (l - 11) (by omega) (by omega) (by omega) (by omega) rows1b
theorem getD_get (l : List Nat) (n : Nat) (h : n < l.length) : l.getD n 0 = l[n] := by simp [List.getD, h]
theorem getD_drop (l : List Nat) (k i : Nat) : (l.drop k).getD i 0 = l.getD (k + i) 0 := by simp [List.getD]
end Go.Rx
end
section
open Go Go.Proofs Go.Ab Go.Rf
set_option maxRecDepth 100000
namespace Go.Rx
theorem setL_mono : ∀ (n : Nat) (neg : Bool) (p : Nat → Bool) (t : List UInt8) (r : Res Rx), setL n neg p t = some r → setL (n + 1) neg p t = some r
  | 0, _, _, _, _, h => by simp [setL] at h
  | n + 1, neg, p, t, r, h => by
    unfold setL at h ⊢
    cases e1 : byteR 0 t with
    | bad q => rw [e1] at h; exact h
    | ok lo t1 =>
      rw [e1] at h
      dsimp only at h ⊢
      cases e2 : hiR lo t1 with
      | bad q => rw [e2] at h; exact h
      | ok hi t3 =>
        rw [e2] at h
        dsimp only at h ⊢
        by_cases hc : hd t3 = 93
        · rw [if_pos hc] at h ⊢; exact h
        · rw [if_neg hc] at h ⊢; exact setL_mono n _ _ _ _ h
theorem setR_mono (n : Nat) (t : List UInt8) (r : Res Rx) (h : setR n t = some r) : setR (n + 1) t = some r := by
  unfold setR at h ⊢
  split at h
  · rename_i hc; rw [if_pos hc]; exact setL_mono _ _ _ _ _ h
  · rename_i hc; rw [if_neg hc]
    split at h
    · rename_i hc; rw [if_pos hc]; exact h
    · rename_i hc; rw [if_neg hc]; exact setL_mono _ _ _ _ _ h
theorem opsL_mono : ∀ (n : Nat) (r : Rx) (t : List UInt8) (o : Res Rx), opsL n r t = some o → opsL (n + 1) r t = some o
  | 0, _, _, _, h => by simp [opsL] at h
  | n + 1, r, t, o, h => by
    unfold opsL at h ⊢
    split at h
    · exact opsL_mono n _ _ _ h
    · exact h
theorem par_mono : ∀ (n : Nat), (∀ t r, alts n t = some r → alts (n + 1) t = some r) ∧ (∀ l t r, altL n l t = some r → altL (n + 1) l t = some r) ∧ (∀ t r, seqs n t = some r → seqs (n + 1) t = some r) ∧ (∀ l t r, seqL n l t = some r → seqL (n + 1) l t = some r) ∧
    (∀ t r, piece n t = some r → piece (n + 1) t = some r) ∧ (∀ t r, atom n t = some r → atom (n + 1) t = some r) := by
  intro n
  induction n with
  | zero => exact ⟨fun t r h => by simp [alts] at h, fun l t r h => by simp [altL] at h, fun t r h => by simp [seqs] at h, fun l t r h => by simp [seqL] at h, fun t r h => by simp [piece] at h, fun t r h => by simp [atom] at h⟩
  | succ n ih =>
    obtain ⟨ih1, ih2, ih3, ih4, ih5, ih6⟩ := ih
    refine ⟨fun t r h => ?_, fun l t r h => ?_, fun t r h => ?_, fun l t r h => ?_, fun t r h => ?_, fun t r h => ?_⟩
    · unfold alts at h ⊢
      split at h
      · cases h
      · rename_i hq; rw [ih3 _ _ hq]; exact h
      · rename_i hq; rw [ih3 _ _ hq]; exact ih2 _ _ _ h
    · unfold altL at h ⊢
      split at h
      · rename_i hc
        rw [if_pos hc]
        split at h
        · cases h
        · rename_i hq; rw [ih3 _ _ hq]; exact h
        · rename_i hq; rw [ih3 _ _ hq]; exact ih2 _ _ _ h
      · rename_i hc; rw [if_neg hc]; exact h
    · unfold seqs at h ⊢
      split at h
      · cases h
      · rename_i hq; rw [ih5 _ _ hq]; exact h
      · rename_i hq; rw [ih5 _ _ hq]; exact ih4 _ _ _ h
    · unfold seqL at h ⊢
      split at h
      · rename_i hc
        rw [if_pos hc]
        split at h
        · cases h
        · rename_i hq; rw [ih5 _ _ hq]; exact h
        · rename_i hq; rw [ih5 _ _ hq]; exact ih4 _ _ _ h
      · rename_i hc; rw [if_neg hc]; exact h
    · unfold piece at h ⊢
      split at h
      · cases h
      · rename_i hq; rw [ih6 _ _ hq]; exact h
      · rename_i hq; rw [ih6 _ _ hq]; exact opsL_mono _ _ _ _ h
    · unfold atom at h ⊢
      split at h
      · rename_i hc
        rw [if_pos hc]
        split at h
        · rename_i hc; rw [if_pos hc]; exact h
        · rename_i hc
          rw [if_neg hc]
          split at h
          · cases h
          · rename_i hq; rw [ih1 _ _ hq]; exact h
          · rename_i hq; rw [ih1 _ _ hq]; exact h
      · rename_i hc
        rw [if_neg hc]
        split at h
        · rename_i hc; rw [if_pos hc]; exact setR_mono _ _ _ h
        · rename_i hc; rw [if_neg hc]; exact h
theorem alts_le {n m : Nat} (h : n ≤ m) {t : List UInt8} {r : Res Rx} (e : alts n t = some r) : alts m t = some r := by
  induction h with
  | refl => exact e
  | step _ ih => exact (par_mono _).1 _ _ ih
theorem alts_det {n m : Nat} {t : List UInt8} {r r' : Res Rx} (h : alts n t = some r) (h' : alts m t = some r') : r = r' := by
  have h1 := alts_le (Nat.le_max_left n m) h
  have h2 := alts_le (Nat.le_max_right n m) h'
  rw [h1] at h2
  injection h2
def Res.ext {α : Type} (s : List UInt8) : Res α → Res α
  | .ok a t => .ok a (t ++ s)
  | .bad t => .bad (t ++ s)
def Res.Gd {α : Type} : Res α → Prop
  | .ok _ _ => True
  | .bad t => t ≠ []
theorem hd_app {t s : List UInt8} (h : t ≠ []) : hd (t ++ s) = hd t := by
  cases t with
  | nil => exact absurd rfl h
  | cons c t => rfl
theorem tl_app {t s : List UInt8} (h : t ≠ []) : (t ++ s).tail = t.tail ++ s := by
  cases t with
  | nil => exact absurd rfl h
  | cons c t => rfl
theorem ne_of_hd {t : List UInt8} (h : hd t ≠ 0) : t ≠ [] := fun e => h (by rw [e]; rfl)
theorem Res.Lt.noGd {α : Type} {r : Res α} (h : r.Lt []) (g : r.Gd) : False := by
  cases r with
  | ok a t => exact absurd h.1 (by simp)
  | bad t => exact g (List.suffix_nil.1 h)
section
variable {s : List UInt8} (hs : hd s = 41)
include hs
theorem hd_appN {t : List UInt8} {c : Nat} (hc : c ≠ 41) (h : hd t ≠ c) : hd (t ++ s) ≠ c := by
  by_cases ht : t = []
  · subst ht; rw [List.nil_append, hs]; omega
  · rw [hd_app ht]; exact h
theorem hexR_ext {lo : Nat} {t : List UInt8} (g : (hexR lo t).Gd) : hexR lo (t ++ s) = (hexR lo t).ext s := by
  have _ := hs
  by_cases ht : t = []
  · subst ht; exact ((hexR_lt lo []).noGd g).elim
  · unfold hexR at g ⊢
    rw [hd_app ht, tl_app ht]
    cases h1 : hexV (hd t) with
    | none => rfl
    | some d =>
      rw [h1] at g
      dsimp only at g ⊢
      by_cases h2 : d * 16 + 15 < lo
      · rw [if_pos h2, if_pos h2]; rfl
      · rw [if_neg h2] at g
        rw [if_neg h2, if_neg h2]
        by_cases ht2 : t.tail = []
        · rw [ht2] at g; exact absurd rfl g
        · rw [hd_app ht2, tl_app ht2]
          cases h3 : hexV (hd t.tail) with
          | none => rfl
          | some e => dsimp only; split <;> rfl
theorem escR_ext {lo : Nat} {t : List UInt8} (g : (escR lo t).Gd) : escR lo (t ++ s) = (escR lo t).ext s := by
  by_cases ht : t = []
  · subst ht; exact ((escR_lt lo []).noGd g).elim
  · unfold escR at g ⊢
    rw [hd_app ht, tl_app ht]
    by_cases h1 : hd t = 120
    · rw [if_pos h1] at g
      rw [if_pos h1, if_pos h1]
      exact hexR_ext hs g
    · rw [if_neg h1, if_neg h1]
      cases h2 : escV (hd t) with
      | none => rfl
      | some n => dsimp only; split <;> rfl
theorem byteR_ext {lo : Nat} {t : List UInt8} (g : (byteR lo t).Gd) : byteR lo (t ++ s) = (byteR lo t).ext s := by
  by_cases ht : t = []
  · subst ht; exact ((byteR_lt lo []).noGd g).elim
  · unfold byteR at g ⊢
    rw [hd_app ht, tl_app ht]
    by_cases h1 : hd t = 92
    · rw [if_pos h1] at g
      rw [if_pos h1, if_pos h1]
      exact escR_ext hs g
    · rw [if_neg h1, if_neg h1]
      split <;> rfl
theorem hiR_ext {lo : Nat} {t : List UInt8} (g : (hiR lo t).Gd) : hiR lo (t ++ s) = (hiR lo t).ext s := by
  unfold hiR at g ⊢
  by_cases h1 : hd t = 45
  · have ht := ne_of_hd (show hd t ≠ 0 by omega)
    rw [hd_app ht, tl_app ht, if_pos h1]
    rw [if_pos h1] at g
    rw [if_pos h1]
    exact byteR_ext hs g
  · rw [if_neg h1, if_neg (hd_appN hs (by decide) h1)]; rfl
theorem setL_ext : ∀ (n : Nat) (neg : Bool) (p : Nat → Bool) (t : List UInt8) (r : Res Rx), setL n neg p t = some r → r.Gd → setL n neg p (t ++ s) = some (r.ext s)
  | 0, _, _, _, _, h, _ => by simp [setL] at h
  | n + 1, neg, p, t, r, h, g => by
    unfold setL at h ⊢
    split at h
    · rename_i q hq
      cases h
      rw [byteR_ext hs (by rw [hq]; exact g), hq]; rfl
    · rename_i lo t1 hq
      rw [byteR_ext hs (by rw [hq]; trivial), hq]
      dsimp only [Res.ext]
      split at h
      · rename_i q hq
        cases h
        rw [hiR_ext hs (by rw [hq]; exact g), hq]; rfl
      · rename_i hi t3 hq
        rw [hiR_ext hs (by rw [hq]; trivial), hq]
        dsimp only [Res.ext]
        split at h
        · rename_i h1
          have ht := ne_of_hd (show hd t3 ≠ 0 by omega)
          rw [hd_app ht, tl_app ht, if_pos h1]
          cases h; rfl
        · rename_i h1
          rw [if_neg (hd_appN hs (by decide) h1)]
          exact setL_ext n _ _ _ _ h g
theorem setR_ext (n : Nat) (t : List UInt8) (r : Res Rx) (h : setR n t = some r) (g : r.Gd) : setR n (t ++ s) = some (r.ext s) := by
  by_cases ht : t = []
  · subst ht; exact ((setR_lt _ _ _ h).noGd g).elim
  · unfold setR at h ⊢
    rw [hd_app ht, tl_app ht]
    split at h
    · rename_i h1; rw [if_pos h1]; exact setL_ext hs _ _ _ _ _ h g
    · rename_i h1
      rw [if_neg h1]
      split at h
      · rename_i h2; rw [if_pos h2]; cases h; rfl
      · rename_i h2; rw [if_neg h2]; exact setL_ext hs _ _ _ _ _ h g
theorem opsL_ext : ∀ (n : Nat) (r : Rx) (t : List UInt8) (o : Res Rx), opsL n r t = some o → opsL n r (t ++ s) = some (o.ext s)
  | 0, _, _, _, h => by simp [opsL] at h
  | n + 1, r, t, o, h => by
    unfold opsL at h ⊢
    split at h
    · rename_i r' e
      have ht := ne_of_hd (opX_ne e)
      rw [hd_app ht, tl_app ht, e]
      exact opsL_ext n _ _ _ h
    · rename_i e
      have e2 : opX (hd (t ++ s)) r = none := by
        by_cases ht : t = []
        · subst ht; rw [List.nil_append, hs]; rfl
        · rw [hd_app ht]; exact e
      rw [e2]
      cases h; rfl
theorem closeR_ext {r : Rx} {t : List UInt8} (g : (closeR r t).Gd) : closeR r (t ++ s) = (closeR r t).ext s := by
  have _ := hs
  by_cases ht : t = []
  · subst ht; exact absurd rfl g
  · unfold closeR
    rw [hd_app ht, tl_app ht]
    split <;> rfl
theorem par_ext : ∀ (n : Nat), (∀ t r, alts n t = some r → r.Gd → alts n (t ++ s) = some (r.ext s)) ∧ (∀ l t r, altL n l t = some r → r.Gd → altL n l (t ++ s) = some (r.ext s)) ∧ (∀ t r, seqs n t = some r → r.Gd → seqs n (t ++ s) = some (r.ext s)) ∧
    (∀ l t r, seqL n l t = some r → r.Gd → seqL n l (t ++ s) = some (r.ext s)) ∧
    (∀ t r, piece n t = some r → r.Gd → piece n (t ++ s) = some (r.ext s)) ∧ (∀ t r, atom n t = some r → r.Gd → atom n (t ++ s) = some (r.ext s)) := by
  intro n
  induction n with
  | zero => exact ⟨fun t r h => by simp [alts] at h, fun l t r h => by simp [altL] at h, fun t r h => by simp [seqs] at h, fun l t r h => by simp [seqL] at h, fun t r h => by simp [piece] at h, fun t r h => by simp [atom] at h⟩
  | succ n ih =>
    obtain ⟨ih1, ih2, ih3, ih4, ih5, ih6⟩ := ih
    refine ⟨fun t r h g => ?_, fun l t r h g => ?_, fun t r h g => ?_, fun l t r h g => ?_, fun t r h g => ?_, fun t r h g => ?_⟩
    · unfold alts at h ⊢
      split at h
      · cases h
      · rename_i hq; cases h; rw [ih3 _ _ hq g]; rfl
      · rename_i hq; rw [ih3 _ _ hq trivial]; exact ih2 _ _ _ h g
    · unfold altL at h ⊢
      split at h
      · rename_i hc
        have ht := ne_of_hd (show hd t ≠ 0 by omega)
        rw [hd_app ht, tl_app ht, if_pos hc]
        split at h
        · cases h
        · rename_i hq; cases h; rw [ih3 _ _ hq g]; rfl
        · rename_i hq; rw [ih3 _ _ hq trivial]; exact ih2 _ _ _ h g
      · rename_i hc; rw [if_neg (hd_appN hs (by decide) hc)]; cases h; rfl
    · unfold seqs at h ⊢
      split at h
      · cases h
      · rename_i hq; cases h; rw [ih5 _ _ hq g]; rfl
      · rename_i hq; rw [ih5 _ _ hq trivial]; exact ih4 _ _ _ h g
    · unfold seqL at h ⊢
      split at h
      · rename_i hc
        rw [hd_app hc.1, if_pos ⟨by simp [hc.1], hc.2⟩]
        split at h
        · cases h
        · rename_i hq; cases h; rw [ih5 _ _ hq g]; rfl
        · rename_i hq; rw [ih5 _ _ hq trivial]; exact ih4 _ _ _ h g
      · rename_i hc
        rw [if_neg]
        · cases h; rfl
        · rintro ⟨_, h2, h3⟩
          by_cases ht : t = []
          · subst ht; exact h3 hs
          · rw [hd_app ht] at h2 h3; exact hc ⟨ht, h2, h3⟩
    · unfold piece at h ⊢
      split at h
      · cases h
      · rename_i hq; cases h; rw [ih6 _ _ hq g]; rfl
      · rename_i hq; rw [ih6 _ _ hq trivial]; exact opsL_ext hs _ _ _ _ h
    · by_cases ht : t = []
      · subst ht; exact (((par_lt (n + 1)).2.2.2.2.2 _ _ h).noGd g).elim
      · unfold atom at h ⊢
        rw [hd_app ht, tl_app ht]
        split at h
        · rename_i hc
          rw [if_pos hc]
          split at h
          · rename_i hc2
            have ht2 := ne_of_hd (show hd t.tail ≠ 0 by omega)
            rw [hd_app ht2, tl_app ht2, if_pos hc2]
            cases h; rfl
          · rename_i hc2
            by_cases ht2 : t.tail = []
            · rw [ht2] at h
              split at h
              · cases h
              · rename_i hq; cases h; exact (((par_lt n).1 _ _ hq).noGd g).elim
              · rename_i hq; exact (((par_lt n).1 _ _ hq).noGd trivial).elim
            · rw [hd_app ht2, if_neg hc2]
              split at h
              · cases h
              · rename_i hq; cases h; rw [ih1 _ _ hq g]; rfl
              · rename_i hq; rw [ih1 _ _ hq trivial]; cases h; exact congrArg some (closeR_ext hs g)
        · rename_i hc
          rw [if_neg hc]
          split at h
          · rename_i hc; rw [if_pos hc]; exact setR_ext hs _ _ _ h g
          · rename_i hc
            rw [if_neg hc]
            split at h
            · rename_i hc; rw [if_pos hc]; cases h; rfl
            · rename_i hc
              rw [if_neg hc]
              split at h
              · rename_i hc
                rw [if_pos hc]
                by_cases ht2 : t.tail = []
                · rw [ht2] at h
                  have e : clsV (hd []) = none := rfl
                  rw [e] at h
                  dsimp only at h
                  have h3 := escR_lt 0 []
                  split at h
                  · rename_i hq; cases h; rw [hq] at h3; exact (h3.noGd g).elim
                  · rename_i hq; rw [hq] at h3; exact (h3.noGd trivial).elim
                · rw [hd_app ht2, tl_app ht2]
                  cases e : clsV (hd t.tail) with
                  | some p => rw [e] at h; cases h; rfl
                  | none =>
                    rw [e] at h
                    dsimp only at h ⊢
                    cases hq : escR 0 t.tail with
                    | bad q => rw [hq] at h; cases h; rw [escR_ext hs (by rw [hq]; exact g), hq]; rfl
                    | ok c t1 => rw [hq] at h; cases h; rw [escR_ext hs (by rw [hq]; trivial), hq]; rfl
              · rename_i hc
                rw [if_neg hc]
                split at h
                · rename_i hc; rw [if_pos hc]; cases h; rfl
                · rename_i hc; rw [if_neg hc]; cases h; rfl
end
theorem seqL_end : ∀ (n : Nat) (l : List Rx) (t : List UInt8) (r : Rx) (t' : List UInt8), seqL n l t = some (.ok r t') → t' = [] ∨ hd t' = 124 ∨ hd t' = 41
  | 0, _, _, _, _, h => by simp [seqL] at h
  | n + 1, l, t, r, t', h => by
    unfold seqL at h
    split at h
    · split at h
      · cases h
      · cases h
      · exact seqL_end n _ _ _ _ h
    · rename_i hc
      cases h
      by_cases ht : t = []
      · exact .inl ht
      · by_cases h1 : hd t = 124
        · exact .inr (.inl h1)
        · exact .inr (.inr (by by_cases h2 : hd t = 41; exact h2; exact absurd ⟨ht, h1, h2⟩ hc))
theorem seqs_end (n : Nat) (t : List UInt8) (r : Rx) (t' : List UInt8) (h : seqs n t = some (.ok r t')) : t' = [] ∨ hd t' = 124 ∨ hd t' = 41 := by
  cases n with
  | zero => simp [seqs] at h
  | succ n =>
    unfold seqs at h
    split at h
    · cases h
    · cases h
    · exact seqL_end _ _ _ _ _ h
theorem altL_end : ∀ (n : Nat) (l : List Rx) (t : List UInt8) (r : Rx) (t' : List UInt8), altL n l t = some (.ok r t') → (t = [] ∨ hd t = 124 ∨ hd t = 41) → t' = [] ∨ hd t' = 41
  | 0, _, _, _, _, h => by simp [altL] at h
  | n + 1, l, t, r, t', h => fun h0 => by
    unfold altL at h
    split at h
    · split at h
      · cases h
      · cases h
      · rename_i hq; exact altL_end n _ _ _ _ h (seqs_end _ _ _ _ hq)
    · rename_i hc
      cases h
      rcases h0 with h0 | h0 | h0
      · exact .inl h0
      · exact absurd h0 hc
      · exact .inr h0
theorem alts_end {n : Nat} {t : List UInt8} {r : Rx} {t' : List UInt8} (h : alts n t = some (.ok r t')) : t' = [] ∨ hd t' = 41 := by
  cases n with
  | zero => simp [alts] at h
  | succ n =>
    unfold alts at h
    split at h
    · cases h
    · cases h
    · rename_i hq; exact altL_end _ _ _ _ _ h (seqs_end _ _ _ _ hq)
theorem alts_close {n : Nat} {t : List UInt8} {r : Res Rx} (h : hd t = 41) (e : alts n t = some r) : r = .bad t := by
  have ht := ne_of_hd (show hd t ≠ 0 by omega)
  have ha : atom 1 t = some (.bad t) := by
    unfold atom
    rw [h]; rfl
  have h2 : alts 4 t = some (.bad t) := by
    simp only [alts, seqs, piece, ha]
  exact alts_det e h2
theorem group_ok {n : Nat} {a w : List UInt8} {r : Rx} (h : alts n a = some (.ok r [])) (h41 : hd a ≠ 41) (hw : w = [] ∨ hd w = 124) : seqs (n + 3) (40 :: a ++ 41 :: w) = some (.ok r w) := by
  have ha : a ≠ [] := fun e => by subst e; exact ((par_lt n).1 _ _ h).noGd trivial
  have e1 := (par_ext (s := 41 :: w) rfl n).1 _ _ h trivial
  dsimp only [Res.ext] at e1
  rw [List.nil_append] at e1
  have e2 : atom (n + 1) (40 :: a ++ 41 :: w) = some (.ok r w) := by
    unfold atom
    rw [if_pos (show hd (40 :: a ++ 41 :: w) = 40 from rfl)]
    show (if hd (a ++ 41 :: w) = 41 then _ else _) = _
    rw [hd_app ha, if_neg h41]
    show (match alts n (a ++ 41 :: w) with | none => none | some (Res.bad q) => some (Res.bad q) | some (Res.ok r t1) => some (closeR r t1)) = _
    rw [e1]; rfl
  have e3 : opX (hd w) r = none := by
    rcases hw with rfl | hw
    · rfl
    · rw [hw]; rfl
  have e4 : piece (n + 2) (40 :: a ++ 41 :: w) = some (.ok r w) := by
    unfold piece
    rw [e2]
    show opsL (n + 1) r w = _
    unfold opsL; rw [e3]
  unfold seqs
  rw [e4]
  show seqL (n + 2) [r] w = _
  unfold seqL
  rw [if_neg]
  · rfl
  · rintro ⟨h1, h2, _⟩
    rcases hw with rfl | hw
    · exact h1 rfl
    · exact h2 hw
theorem group_bad {n : Nat} {a w t : List UInt8} (h : alts n a = some (.bad t)) (ht : t ≠ []) (h41 : hd a ≠ 41) : seqs (n + 3) (40 :: a ++ 41 :: w) = some (.bad (t ++ 41 :: w)) := by
  have ha : a ≠ [] := fun e => by subst e; exact ht (List.suffix_nil.1 ((par_lt n).1 _ _ h))
  have e1 := (par_ext (s := 41 :: w) rfl n).1 _ _ h ht
  dsimp only [Res.ext] at e1
  have e2 : atom (n + 1) (40 :: a ++ 41 :: w) = some (.bad (t ++ 41 :: w)) := by
    unfold atom
    rw [if_pos (show hd (40 :: a ++ 41 :: w) = 40 from rfl)]
    show (if hd (a ++ 41 :: w) = 41 then _ else _) = _
    rw [hd_app ha, if_neg h41]
    show (match alts n (a ++ 41 :: w) with | none => none | some (Res.bad q) => some (Res.bad q) | some (Res.ok r t1) => some (closeR r t1)) = _
    rw [e1]
  have e4 : piece (n + 2) (40 :: a ++ 41 :: w) = some (.bad (t ++ 41 :: w)) := by
    unfold piece
    rw [e2]
  unfold seqs
  rw [e4]
theorem seqs_mono {n m : Nat} (h : n ≤ m) {t : List UInt8} {r : Res Rx} (e : seqs n t = some r) : seqs m t = some r := by
  induction h with
  | refl => exact e
  | step _ ih => exact (par_mono _).2.2.1 _ _ ih
def altS (a b : List UInt8) : List UInt8 := ((([40] ++ a) ++ [41, 124, 40]) ++ b) ++ [41]
def optS (a : List UInt8) : List UInt8 := ([40] ++ a) ++ [41, 63]
theorem altS_eq (a b : List UInt8) : altS a b = 40 :: a ++ 41 :: (124 :: (40 :: b ++ [41])) := by simp [altS]
theorem optS_eq (a : List UInt8) : optS a = 40 :: a ++ 41 :: [63] := by simp [optS]
theorem alts_altS {n m : Nat} {a b : List UInt8} {ra rb : Rx} (ha : alts n a = some (.ok ra [])) (hb : alts m b = some (.ok rb [])) (h1 : hd a ≠ 41) (h2 : hd b ≠ 41) : ∃ k, alts k (altS a b) = some (.ok (mk0 4 [ra, rb]) []) := by
  refine ⟨max n m + 5, ?_⟩
  rw [altS_eq]
  have e1 := seqs_mono (show n + 3 ≤ max n m + 4 by omega) (group_ok (w := 124 :: (40 :: b ++ [41])) ha h1 (.inr rfl))
  have e2 := seqs_mono (show m + 3 ≤ max n m + 3 by omega) (group_ok (w := []) hb h2 (.inl rfl))
  unfold alts
  rw [e1]
  show altL (max n m + 4) [ra] (124 :: (40 :: b ++ [41])) = _
  unfold altL
  rw [if_pos (show hd (124 :: (40 :: b ++ [41])) = 124 from rfl)]
  show (match seqs (max n m + 3) (40 :: b ++ [41]) with | none => none | some (Res.bad q) => some (Res.bad q) | some (Res.ok r t1) => altL (max n m + 3) ([ra] ++ [r]) t1) = _
  rw [e2]
  rfl
theorem alts_altS_bad {n : Nat} {a b t : List UInt8} (ha : alts n a = some (.bad t)) (ht : t ≠ []) (h1 : hd a ≠ 41) : ∃ k, alts k (altS a b) = some (.bad (t ++ 41 :: (124 :: (40 :: b ++ [41])))) := by
  refine ⟨n + 4, ?_⟩
  rw [altS_eq]
  unfold alts
  rw [group_bad ha ht h1]
theorem alts_optS {n : Nat} {a : List UInt8} {ra : Rx} (ha : alts n a = some (.ok ra [])) (h1 : hd a ≠ 41) : ∃ k, alts k (optS a) = some (.ok (mk0 4 [ra, mk0 1 []]) []) := by
  refine ⟨n + 5, ?_⟩
  rw [optS_eq]
  have hne : a ≠ [] := fun e => by subst e; exact ((par_lt n).1 _ _ ha).noGd trivial
  have e1 := (par_ext (s := 41 :: [63]) rfl n).1 _ _ ha trivial
  dsimp only [Res.ext] at e1
  rw [List.nil_append] at e1
  have e1 := alts_le (show n ≤ n + 1 by omega) e1
  have e2 : atom (n + 2) (40 :: a ++ 41 :: [63]) = some (.ok ra [63]) := by
    unfold atom
    rw [if_pos (show hd (40 :: a ++ 41 :: [63]) = 40 from rfl)]
    show (if hd (a ++ 41 :: [63]) = 41 then _ else _) = _
    rw [hd_app hne, if_neg h1]
    show (match alts (n + 1) (a ++ 41 :: [63]) with | none => none | some (Res.bad q) => some (Res.bad q) | some (Res.ok r t1) => some (closeR r t1)) = _
    rw [e1]; rfl
  have e4 : piece (n + 3) (40 :: a ++ 41 :: [63]) = some (.ok (mk0 4 [ra, mk0 1 []]) []) := by
    unfold piece
    rw [e2]
    rfl
  have e5 : seqs (n + 4) (40 :: a ++ 41 :: [63]) = some (.ok (mk0 4 [ra, mk0 1 []]) []) := by
    unfold seqs
    rw [e4]
    rfl
  unfold alts
  rw [e5]
  rfl
inductive Out3 (a : List UInt8) : Prop
  | fine {n : Nat} {r : Rx} (h : alts n a = some (.ok r [])) (h2 : parseV a = if chk 1 r = 9 then (mk0 0 [], 9, 0) else (r, 0, 0))
  | close {n : Nat} {r : Rx} {t : List UInt8} (h : alts n a = some (.ok r t)) (h1 : hd t = 41) (h3 : t <:+ a) (h2 : parseV a = (mk0 0 [], 8, (a.length : Int) - t.length))
  | bad {n : Nat} {t : List UInt8} (h : alts n a = some (.bad t)) (h3 : t <:+ a) (h2 : parseV a = (mk0 0 [], 8, (a.length : Int) - t.length))
theorem out3 {a : List UInt8} (hl : a.length ≤ 1000) : Out3 a := by
  obtain ⟨res, hr⟩ := alts_some a
  have hl' : ¬ 1000 < a.length := by omega
  have hsuf := (par_lt _).1 _ _ hr
  cases res with
  | ok r t =>
    by_cases ht : t = []
    · subst ht; exact .fine hr (parse_ok hl' hr)
    · refine .close hr ((alts_end hr).resolve_left ht) hsuf.2 ?_
      unfold parseV; rw [if_neg hl', hr]; simp [ht]
  | bad t =>
    refine .bad hr hsuf ?_
    unfold parseV; rw [if_neg hl', hr]
theorem parse_of {a : List UInt8} (hl : a.length ≤ 1000) {n : Nat} {r : Rx} (h : alts n a = some (.ok r [])) : parseV a = if chk 1 r = 9 then (mk0 0 [], 9, 0) else (r, 0, 0) := by
  obtain ⟨res, hr⟩ := alts_some a
  have := alts_det h hr
  subst this
  exact parse_ok (by omega) hr
theorem parse_of_bad {a : List UInt8} (hl : a.length ≤ 1000) {n : Nat} {t : List UInt8} (h : alts n a = some (.bad t)) : parseV a = (mk0 0 [], 8, (a.length : Int) - t.length) := by
  obtain ⟨res, hr⟩ := alts_some a
  have := alts_det h hr
  subst this
  unfold parseV; rw [if_neg (by omega), hr]
end Go.Rx
end
section
open Go Go.Proofs Go.Ab Go.Rf
set_option maxRecDepth 100000
namespace Go.Rx
structure TF (j l : Nat) : Prop where
  f1 : ∀ n, 1 ≤ n → n ≤ 100 → 1 ≤ pv j l n
  f2 : ∀ n, 1 ≤ n → n + 2 ≤ 100 → pv j l n ≤ pv j l (n + 2) ∧ 1 + vv j (l - 1) n ≤ pv j l (n + 2)
  f3 : ∀ n, 2 ≤ l → 1 ≤ n → n + 1 ≤ 100 → 2 + pv j (l - 1) n ≤ pv j l (n + 1)
  f4 : ∀ n, 3 ≤ l → 1 ≤ n → n + 1 ≤ 100 → (3 - j) * pv j (l - 2) n + 2 ≤ pv j l (n + 1)
  f5 : ∀ n, 1 ≤ n → n ≤ 100 → pv j l n ≤ vv j l n ∧ 1 + vv j (l - 1) n ≤ vv j l n
  f6 : ∀ n m, 1 ≤ n → 1 ≤ m → n + m ≤ 100 → (cN l m + 2 - j) * pv j l n + vv j l m ≤ vv j l (n + m)
  f7 : ∀ n m, 1 ≤ n → 1 ≤ m → n + 1 + m ≤ 100 → pv j l n + vv j l m ≤ vv j l (n + 1 + m) ∧ 1 + vv j (l - 1) n + vv j l m ≤ vv j l (n + 1 + m)
theorem tf {j l : Nat} (hj : j ≤ 1) (h1 : 1 ≤ l) (hl : l ≤ 15) : TF j l := by
  have h := row_get hj h1 hl
  simp only [rowOk, Bool.and_eq_true, beq_iff_eq] at h
  obtain ⟨e1, e2, e3, e4, e5, e6, g1, g2, g3, g4, g5, g6, g7, g8, g9⟩ := h
  have g9 := fun m (a : 1 ≤ m) (b : m ≤ 100) => r67_get g9 (m - 1) (by omega) (by rw [List.length_drop, e2]; omega)
  have key : ∀ {f : Nat → Nat → Bool} {a b : List Nat} {x y : Nat}, a.length = 101 → b.length = 101 → all2 f (a.drop x) (b.drop y) = true → ∀ i, x + i < 101 → y + i < 101 → f (a.getD (x + i) 0) (b.getD (y + i) 0) = true := fun ha hb h i h1 h2 => by
    have := all2_get h i (by simp [ha]; omega) (by simp [hb]; omega)
    rwa [getD_drop, getD_drop] at this
  refine ⟨fun n a b => ?_, fun n a b => ⟨?_, ?_⟩, fun n c a b => ?_, fun n c a b => ?_, fun n a b => ⟨?_, ?_⟩, fun n m a b c => ?_, fun n m a b c => ⟨?_, ?_⟩⟩
  · have := List.all_eq_true.1 g1 (((tP j).getD l []).getD n 0) (by
      rw [List.mem_iff_getElem]
      refine ⟨n - 1, by simp only [List.length_drop, e1]; omega, ?_⟩
      have h3 : n < ((tP j).getD l []).length := by rw [e1]; omega
      rw [List.getElem_drop]
      rw [getD_get _ _ h3]
      congr 1; omega)
    exact Nat.le_of_ble_eq_true this
  · have := key e1 e1 g2 (n - 1) (by omega) (by omega)
    rw [show 1 + (n - 1) = n by omega, show 3 + (n - 1) = n + 2 by omega] at this
    exact Nat.le_of_ble_eq_true this
  · have := key e4 e1 g3 (n - 1) (by omega) (by omega)
    rw [show 1 + (n - 1) = n by omega, show 3 + (n - 1) = n + 2 by omega] at this
    exact Nat.le_of_ble_eq_true this
  · have g4 := (Bool.or_eq_true _ _ ▸ g4 : _ ∨ _).resolve_left (by rw [Nat.ble_eq]; omega)
    have := key e3 e1 g4 (n - 1) (by omega) (by omega)
    rw [show 1 + (n - 1) = n by omega, show 2 + (n - 1) = n + 1 by omega] at this
    exact Nat.le_of_ble_eq_true this
  · have g5 := (Bool.or_eq_true _ _ ▸ g5 : _ ∨ _).resolve_left (by rw [Nat.ble_eq]; omega)
    have e5 := (Bool.or_eq_true _ _ ▸ e5 : _ ∨ _).resolve_right (by rw [Nat.ble_eq]; omega)
    obtain ⟨k, rfl⟩ : ∃ k, l = k + 2 := ⟨l - 2, by omega⟩
    have e5 := beq_iff_eq.1 e5
    have := key e5 e1 g5 (n - 1) (by omega) (by omega)
    rw [show 1 + (n - 1) = n by omega, show 2 + (n - 1) = n + 1 by omega] at this
    exact Nat.le_of_ble_eq_true this
  · have := key e1 e2 g6 (n - 1) (by omega) (by omega)
    rw [show 1 + (n - 1) = n by omega] at this
    exact Nat.le_of_ble_eq_true this
  · have := key e4 e2 g7 (n - 1) (by omega) (by omega)
    rw [show 1 + (n - 1) = n by omega] at this
    exact Nat.le_of_ble_eq_true this
  · have h := (g9 m b (by omega)).1
    have h8 := Nat.le_of_ble_eq_true (List.all_eq_true.1 g8 (m - 1) (List.mem_range.2 (by omega)))
    rw [List.drop_drop, getD_drop, show 1 + (m - 1) = m by omega] at h
    rw [show m - 1 + 1 = m by omega] at h8
    have := all2_get h n (by rw [e1]; omega) (by rw [List.length_drop, e2]; omega)
    rw [getD_drop] at this
    have this : ((tK.getD l []).getD (m - 1) 0 - j) * pv j l n + vv j l m ≤ vv j l (m + n) := Nat.le_of_ble_eq_true this
    rw [Nat.add_comm m n] at this
    have h3 : (cN l m + 2 - j) * pv j l n ≤ ((tK.getD l []).getD (m - 1) 0 - j) * pv j l n := Nat.mul_le_mul (by omega) (Nat.le_refl _)
    omega
  · have h := (g9 m b (by omega)).2.1
    rw [List.drop_drop, getD_drop, show 1 + (m - 1) = m by omega] at h
    have := key e1 e2 h (n - 1) (by omega) (by omega)
    rw [show 1 + (n - 1) = n by omega, show 1 + (m - 1 + 2) + (n - 1) = n + 1 + m by omega] at this
    exact Nat.le_of_ble_eq_true this
  · have h := (g9 m b (by omega)).2.2
    rw [List.drop_drop, getD_drop, show 1 + (m - 1) = m by omega] at h
    have := key e4 e2 h (n - 1) (by omega) (by omega)
    rw [show 1 + (n - 1) = n by omega, show 1 + (m - 1 + 2) + (n - 1) = n + 1 + m by omega] at this
    have this : Nat.succ (vv j (l - 1) n) + vv j l m ≤ vv j l (n + 1 + m) := Nat.le_of_ble_eq_true this
    omega
theorem t15 : ((List.range 101).all fun n => Nat.ble (max (pv 0 15 n) (1 + vv 0 14 n)) tX0 && Nat.ble (max (pv 1 15 n) (1 + vv 1 14 n)) tX1) = true := by kernel_rfl
def VX (x : Rx) : Prop := allX (fun r => nodeErr r = 0) x
def PBd (n : Nat) (x : Rx) : Prop := VX x ∧ (cd x = 0 ∨ 5 * cd x + 3 ≤ n + 2 * levels x) ∧ ∀ j ≤ 1, ∀ l ≤ 15, levels x ≤ l → mm j x ≤ pv j l n
def SBd (n : Nat) (x : Rx) : Prop := VX x ∧ (cd x = 0 ∨ 5 * cd x + 1 ≤ n + 2 * levels x) ∧ ∀ j ≤ 1, ∀ l ≤ 15, levels x ≤ l → mm j x ≤ max (pv j l n) (1 + vv j (l - 1) n)
theorem lvp (r : Rx) : 1 ≤ levels r := by rw [levels_eq]; omega
theorem cd_lv : ∀ (n : Nat) (x : Rx), size x ≤ n → VX x → cd x + 1 ≤ levels x
  | 0, x, h, _ => by have := size_pos x; omega
  | n + 1, x, h, hv => by
    have hx := allX_iff.1 hv
    have key : ∀ l : List Rx, l ≠ [] → (∀ y ∈ l, cd y + 1 ≤ levels y) → cds l + 1 ≤ levelsL l := by
      intro l
      induction l with
      | nil => intro h; exact absurd rfl h
      | cons y l ih =>
        intro _ h
        have h1 := h y (List.mem_cons_self ..)
        by_cases hl : l = []
        · subst hl; simp only [cds, levelsL]; omega
        · have := ih hl fun z hz => h z (List.mem_cons_of_mem _ hz)
          simp only [cds, levelsL]; omega
    by_cases k : x.kind = 3
    · rw [cd_cat k, levels_eq]
      have := key x.subs (fun e => by
        have hn := hx.1
        unfold nodeErr at hn
        rw [e] at hn
        split at hn
        · cases hn
        · rw [if_pos (.inl k), if_pos (by decide)] at hn; cases hn) fun y hy => cd_lv n y (by have := size_mem hy; omega) (hx.2 y hy)
      omega
    · rw [cd_non k]; have := lvp x; omega
theorem cds_lv' {l : List Rx} (hne : l ≠ []) (h : ∀ y ∈ l, VX y) : cds l + 1 ≤ levelsL l := by
  induction l with
  | nil => exact absurd rfl hne
  | cons y l ih =>
    have h1 := cd_lv _ y (Nat.le_refl _) (h y (List.mem_cons_self ..))
    by_cases hl : l = []
    · subst hl; simp only [cds, levelsL]; omega
    · have := ih hl fun z hz => h z (List.mem_cons_of_mem _ hz)
      simp only [cds, levelsL]; omega
theorem lv_mk0 (k : Int) (l : List Rx) : levels (mk0 k l) = levelsL l + 1 := rfl
theorem cd_mk3 (l : List Rx) : cd (mk0 3 l) = 1 + cds l := rfl
theorem cd_mk0 {k : Int} (l : List Rx) (h : k ≠ 3) : cd (mk0 k l) = 0 := cd_non h
theorem mm_leaf (j : Nat) {x : Rx} (h : x.kind ≠ 5 ∧ x.kind ≠ 4 ∧ x.kind ≠ 3) : mm j x = 1 := by rw [mm_eq, if_neg h.1, if_neg h.2.1, if_neg h.2.2]
theorem pb_leaf {n : Nat} {x : Rx} (h1 : 1 ≤ n) (hn : n ≤ 100) (hx : VX x) (hk : x.kind ≠ 5 ∧ x.kind ≠ 4 ∧ x.kind ≠ 3) : PBd n x :=
  ⟨hx, .inl (cd_non hk.2.2), fun j hj l hl hv => by rw [mm_leaf j hk]; have := lvp x; exact (tf hj (by omega) hl).f1 n h1 hn⟩
theorem vx_leaf {x : Rx} (h : nodeErr x = 0) (hs : x.subs = []) : VX x := allX_iff.2 ⟨h, fun y hy => by rw [hs] at hy; cases hy⟩
theorem vx_setX (p : Nat → Bool) : VX (setX p) := vx_leaf rfl rfl
theorem vx_mk {k : Int} {l : List Rx} (hk : nodeErr (mk0 k l) = 0) (h : ∀ x ∈ l, VX x) : VX (mk0 k l) := allX_iff.2 ⟨hk, h⟩
theorem pb_set {n : Nat} (h1 : 1 ≤ n) (hn : n ≤ 100) (p : Nat → Bool) : PBd n (setX p) := pb_leaf h1 hn (vx_setX p) ⟨by show (2 : Int) ≠ 5; decide, by show (2 : Int) ≠ 4; decide, by show (2 : Int) ≠ 3; decide⟩
theorem pb_nil {n : Nat} (h1 : 1 ≤ n) (hn : n ≤ 100) : PBd n (mk0 0 []) := pb_leaf h1 hn (vx_leaf rfl rfl) ⟨by decide, by decide, by decide⟩
theorem pb_emp {n : Nat} (h1 : 1 ≤ n) (hn : n ≤ 100) : PBd n (mk0 1 []) := pb_leaf h1 hn (vx_leaf rfl rfl) ⟨by decide, by decide, by decide⟩
theorem mm_star (j : Nat) (r : Rx) : mm j (starX r) = 1 + mm j r := by rw [mm_eq]; rfl
theorem mm_opt (j : Nat) (r : Rx) : mm j (mk0 4 [r, mk0 1 []]) = 2 + mm j r := by
  rw [mm_eq, if_neg (by show ¬ (4 : Int) = 5; decide), if_pos (by show (4 : Int) = 4; rfl)]
  show 1 + (mm j r + (mm j (mk0 1 []) + 0)) = _
  have : mm j (mk0 1 []) = 1 := mm_leaf j ⟨by decide, by decide, by decide⟩
  omega
theorem mm_plus (j : Nat) (r : Rx) (hj : j ≤ 1) : mm j (mk0 3 [r, starX r]) = (3 - j) * mm j r + 2 := by
  rw [mm_eq, if_neg (by show ¬ (3 : Int) = 5; decide), if_neg (by show ¬ (3 : Int) = 4; decide), if_pos (by show (3 : Int) = 3; rfl)]
  show 1 + (vl j [starX r] * mm j r + (vl j [] * mm j (starX r) + 0)) = _
  have e1 : vl j [starX r] = 2 - j := by
    unfold vl
    rw [if_neg (by simp)]
    have : cds [starX r] = 0 := by simp only [cds]; rw [show cd (starX r) = 0 from cd_mk0 _ (by decide)]; rfl
    omega
  have e2 : vl j [] = 1 := rfl
  rw [e1, e2, mm_star]
  rcases (show j = 0 ∨ j = 1 by omega) with rfl | rfl <;> simp <;> omega
theorem pb_op {n c : Nat} {r r' : Rx} (h1 : 1 ≤ n) (hn : n + 1 ≤ 100) (h : PBd n r) (e : opX c r = some r') : PBd (n + 1) r' := by
  obtain ⟨hv, hc, hm⟩ := h
  have hlv := lvp r
  have hst : VX (starX r) := vx_mk rfl fun x hx => by rw [List.mem_singleton.1 hx]; exact hv
  have l1 : levels (starX r) = levels r + 1 := by show levelsL [r] + 1 = _; simp only [levelsL]; omega
  unfold opX at e
  split at e
  · cases e
    refine ⟨hst, .inl (cd_mk0 _ (by decide)), fun j hj l hl hv => ?_⟩
    rw [mm_star]
    have h2 := hm j hj (l - 1) (by omega) (by omega)
    have := (tf hj (by omega) hl).f3 n (by omega) h1 hn
    omega
  · split at e
    · cases e
      have l2 : levels (mk0 3 [r, starX r]) = levels r + 2 := by rw [lv_mk0]; simp only [levelsL]; omega
      refine ⟨vx_mk rfl fun x hx => ?_, .inr ?_, fun j hj l hl hv => ?_⟩
      · simp only [List.mem_cons, List.not_mem_nil, or_false] at hx
        rcases hx with rfl | rfl <;> assumption
      · rw [cd_mk3, l2]
        have : cds [r, starX r] = cd r := by simp only [cds]; rw [show cd (starX r) = 0 from cd_mk0 _ (by decide)]; omega
        omega
      · rw [mm_plus j r hj]
        have h2 := hm j hj (l - 2) (by omega) (by omega)
        have := (tf hj (by omega) hl).f4 n (by omega) h1 hn
        have h3 : (3 - j) * mm j r ≤ (3 - j) * pv j (l - 2) n := Nat.mul_le_mul (Nat.le_refl _) h2
        omega
    · split at e
      · cases e
        have l2 : levels (mk0 4 [r, mk0 1 []]) = levels r + 1 := by
          rw [lv_mk0]; simp only [levelsL]; rw [show levels (mk0 1 []) = 1 from rfl]; omega
        refine ⟨vx_mk rfl fun x hx => ?_, .inl (cd_mk0 _ (by decide)), fun j hj l hl hv => ?_⟩
        · simp only [List.mem_cons, List.not_mem_nil, or_false] at hx
          rcases hx with rfl | rfl
          · exact hv
          · exact vx_leaf rfl rfl
        · rw [mm_opt]
          have h2 := hm j hj (l - 1) (by omega) (by omega)
          have := (tf hj (by omega) hl).f3 n (by omega) h1 hn
          omega
      · cases e
theorem SBd.of {n : Nat} {x : Rx} (h : PBd n x) : SBd n x := ⟨h.1, h.2.1.imp id (by omega), fun j hj l hl hv => Nat.le_trans (h.2.2 j hj l hl hv) (Nat.le_max_left _ _)⟩
theorem pb_group {n : Nat} {x : Rx} (h1 : 1 ≤ n) (hn : n + 2 ≤ 100) (h : SBd n x) : PBd (n + 2) x :=
  ⟨h.1, h.2.1.imp id (by omega), fun j hj l hl hv => by
    have h2 := h.2.2 j hj l hl hv
    have := lvp x
    have := (tf hj (by omega) hl).f2 n h1 hn
    omega⟩
def PL : List Nat → List Rx → Prop
  | [], [] => True
  | n :: ns, x :: xs => 1 ≤ n ∧ PBd n x ∧ PL ns xs
  | _, _ => False
def SL : List Nat → List Rx → Prop
  | [], [] => True
  | n :: ns, x :: xs => 1 ≤ n ∧ SBd n x ∧ SL ns xs
  | _, _ => False
theorem PL.snoc : ∀ {ns : List Nat} {xs : List Rx} {n : Nat} {x : Rx}, PL ns xs → 1 ≤ n → PBd n x → PL (ns ++ [n]) (xs ++ [x])
  | [], [], _, _, _, h1, h => ⟨h1, h, trivial⟩
  | _ :: _, _ :: _, _, _, h, h1, h2 => ⟨h.1, h.2.1, h.2.2.snoc h1 h2⟩
  | [], _ :: _, _, _, h, _, _ => h.elim
  | _ :: _, [], _, _, h, _, _ => h.elim
theorem SL.snoc : ∀ {ns : List Nat} {xs : List Rx} {n : Nat} {x : Rx}, SL ns xs → 1 ≤ n → SBd n x → SL (ns ++ [n]) (xs ++ [x])
  | [], [], _, _, _, h1, h => ⟨h1, h, trivial⟩
  | _ :: _, _ :: _, _, _, h, h1, h2 => ⟨h.1, h.2.1, h.2.2.snoc h1 h2⟩
  | [], _ :: _, _, _, h, _, _ => h.elim
  | _ :: _, [], _, _, h, _, _ => h.elim
theorem PL.vx : ∀ {ns : List Nat} {xs : List Rx}, PL ns xs → ∀ x ∈ xs, VX x
  | _, [], _, x, hx => by cases hx
  | [], _ :: _, h, _, _ => h.elim
  | _ :: _, y :: ys, h, x, hx => by
    rcases List.mem_cons.1 hx with rfl | hx
    · exact h.2.1.1
    · exact h.2.2.vx x hx
theorem SL.vx : ∀ {ns : List Nat} {xs : List Rx}, SL ns xs → ∀ x ∈ xs, VX x
  | _, [], _, x, hx => by cases hx
  | [], _ :: _, h, _, _ => h.elim
  | _ :: _, y :: ys, h, x, hx => by
    rcases List.mem_cons.1 hx with rfl | hx
    · exact h.2.1.1
    · exact h.2.2.vx x hx
theorem PL.cds : ∀ {ns : List Nat} {xs : List Rx}, PL ns xs → xs.length ≤ ns.sum ∧ (Rx.cds xs = 0 ∨ 5 * Rx.cds xs + 2 + xs.length ≤ ns.sum + 2 * levelsL xs)
  | [], [], _ => ⟨Nat.le_refl _, .inl rfl⟩
  | [], _ :: _, h => h.elim
  | _ :: _, [], h => h.elim
  | n :: ns, x :: xs, ⟨h1, h2, h3⟩ => by
    obtain ⟨i1, i2⟩ := h3.cds
    have h4 := h2.2.1
    simp only [Rx.cds, levelsL, List.sum_cons, List.length_cons]
    refine ⟨by omega, ?_⟩
    omega
theorem PL.bound {j l : Nat} (hj : j ≤ 1) (h1 : 1 ≤ l) (hl : l ≤ 15) : ∀ {ns : List Nat} {xs : List Rx}, PL ns xs → xs ≠ [] → ns.sum ≤ 100 → levelsL xs ≤ l → mC j xs ≤ vv j l ns.sum
  | [], [], _, h, _, _ => absurd rfl h
  | [], _ :: _, h, _, _, _ => h.elim
  | _ :: _, [], h, _, _, _ => h.elim
  | [n], [x], ⟨h1', h2, h3⟩, _, hn, hv => by
    simp only [List.sum_cons, List.sum_nil, Nat.add_zero, levelsL, Nat.max_zero] at hn hv ⊢
    have h4 := h2.2.2 j hj l hl hv
    have h5 := ((tf hj h1 hl).f5 n h1' hn).1
    simp only [mC]
    rw [show vl j [] = 1 from rfl]; omega
  | [n], x :: _ :: _, h, _, _, _ => h.2.2.elim
  | n :: m :: ns, [x], h, _, _, _ => h.2.2.elim
  | n :: m :: ns, x :: y :: xs, ⟨h1', h2, h3⟩, _, hn, hv => by
    obtain ⟨i1, i2⟩ := h3.cds
    simp only [List.length_cons] at i1
    rw [List.sum_cons] at hn ⊢
    rw [levelsL] at hv
    have ih := PL.bound hj h1 hl h3 (by simp) (by omega) (by omega)
    have h4 := h2.2.2 j hj l hl (by omega)
    have h6 := (tf hj h1 hl).f6 n (m :: ns).sum h1' (by omega) hn
    rw [mC]
    have hc : vl j (y :: xs) ≤ cN l (m :: ns).sum + 2 - j := by
      unfold vl cN
      rw [if_neg (by simp)]
      have c1 := cds_lv' (l := y :: xs) (by simp) h3.vx
      have c2 : Rx.cds (y :: xs) ≤ ((m :: ns).sum + 2 * l - 3) / 5 := by
        simp only [List.length_cons] at i2
        omega
      have c3 : Rx.cds (y :: xs) ≤ l - 1 := by omega
      have := Nat.le_min.2 ⟨c3, c2⟩
      omega
    have := Nat.mul_le_mul hc h4
    omega
theorem SL.len : ∀ {ns : List Nat} {xs : List Rx}, SL ns xs → xs.length = ns.length ∧ ns.length ≤ ns.sum
  | [], [], _ => ⟨rfl, Nat.le_refl _⟩
  | [], _ :: _, h => h.elim
  | _ :: _, [], h => h.elim
  | n :: ns, x :: xs, ⟨h1, _, h3⟩ => by
    obtain ⟨a, b⟩ := h3.len
    simp only [List.sum_cons, List.length_cons]; omega
theorem SL.bound {j l : Nat} (hj : j ≤ 1) (h1 : 1 ≤ l) (hl : l ≤ 15) : ∀ {ns : List Nat} {xs : List Rx}, SL ns xs → xs ≠ [] → ns.sum + (ns.length - 1) ≤ 100 → levelsL xs ≤ l → mA j xs ≤ vv j l (ns.sum + (ns.length - 1))
  | [], [], _, h, _, _ => absurd rfl h
  | [], _ :: _, h, _, _, _ => h.elim
  | _ :: _, [], h, _, _, _ => h.elim
  | [n], [x], ⟨h1', h2, h3⟩, _, hn, hv => by
    simp only [List.sum_cons, List.sum_nil, Nat.add_zero, levelsL, Nat.max_zero, List.length_singleton, Nat.sub_self] at hn hv ⊢
    have h4 := h2.2.2 j hj l hl hv
    have h5 := (tf hj h1 hl).f5 n h1' hn
    simp only [mA]; omega
  | [n], x :: _ :: _, h, _, _, _ => h.2.2.elim
  | n :: m :: ns, [x], h, _, _, _ => h.2.2.elim
  | n :: m :: ns, x :: y :: xs, ⟨h1', h2, h3⟩, _, hn, hv => by
    obtain ⟨i1, i2⟩ := h3.len
    simp only [List.length_cons] at i2
    rw [List.sum_cons, List.length_cons] at hn ⊢
    rw [levelsL] at hv
    have ih := SL.bound hj h1 hl h3 (by simp) (by simp only [List.length_cons] at hn ⊢; omega) (by omega)
    have h4 := h2.2.2 j hj l hl (by omega)
    have h6 := (tf hj h1 hl).f7 n ((m :: ns).sum + ((m :: ns).length - 1)) h1' (by omega) (by simp only [List.length_cons] at hn ⊢; omega)
    rw [mA]
    rw [show n + (m :: ns).sum + ((m :: ns).length + 1 - 1) = n + 1 + ((m :: ns).sum + ((m :: ns).length - 1)) by simp only [List.length_cons]; omega]
    omega
theorem nodeErr_many {k : Int} (hk : k = 3 ∨ k = 4) {l : List Rx} (h : 2 ≤ l.length) : nodeErr (mk0 k l) = 0 := by
  have h2 : ¬ l.length < 2 := by omega
  rcases hk with rfl | rfl <;> simp [nodeErr, mk0, Rx.kind, Rx.w, Rx.subs, h2]
theorem PL.join {ns : List Nat} {xs : List Rx} (h : PL ns xs) (hne : xs ≠ []) (hn : ns.sum ≤ 100) : SBd ns.sum (joinX 3 xs) := by
  match ns, xs, h, hne with
  | [], _ :: _, h, _ => exact h.elim
  | [n], [x], h, _ => have := SBd.of h.2.1; simpa [joinX] using this
  | [n], x :: _ :: _, h, _ => exact h.2.2.elim
  | n :: m :: ns, [x], h, _ => exact h.2.2.elim
  | n :: m :: ns, x :: y :: xs, h, _ =>
    rw [joinX_two]
    obtain ⟨i1, i2⟩ := h.cds
    have hv := h.vx
    simp only [List.length_cons] at i1 i2
    refine ⟨vx_mk (nodeErr_many (.inl rfl) (by simp)) hv, .inr ?_, fun j hj l hl hl2 => ?_⟩
    · rw [cd_mk3, lv_mk0]
      have := cds_lv' (l := x :: y :: xs) (by simp) hv
      omega
    · rw [lv_mk0] at hl2
      have hlp : 1 ≤ levelsL (x :: y :: xs) := by have := lvp x; rw [levelsL]; omega
      have := PL.bound hj (l := l - 1) (by omega) (by omega) h (by simp) hn (by omega)
      rw [mm_eq, if_neg (by show ¬ (3 : Int) = 5; decide), if_neg (by show ¬ (3 : Int) = 4; decide), if_pos (by show (3 : Int) = 3; rfl)]
      exact Nat.le_trans (Nat.add_le_add_left this 1) (Nat.le_max_right _ _)
theorem SL.join {ns : List Nat} {xs : List Rx} (h : SL ns xs) (hne : xs ≠ []) (hn : ns.sum + (ns.length - 1) ≤ 100) : SBd (ns.sum + (ns.length - 1)) (joinX 4 xs) := by
  match ns, xs, h, hne with
  | [], _ :: _, h, _ => exact h.elim
  | [n], [x], h, _ => have := h.2.1; simpa [joinX] using this
  | [n], x :: _ :: _, h, _ => exact h.2.2.elim
  | n :: m :: ns, [x], h, _ => exact h.2.2.elim
  | n :: m :: ns, x :: y :: xs, h, _ =>
    rw [joinX_two]
    have hv := h.vx
    refine ⟨vx_mk (nodeErr_many (.inr rfl) (by simp)) hv, .inl (cd_mk0 _ (by decide)), fun j hj l hl hl2 => ?_⟩
    rw [lv_mk0] at hl2
    have hlp : 1 ≤ levelsL (x :: y :: xs) := by have := lvp x; rw [levelsL]; omega
    have := SL.bound hj (l := l - 1) (by omega) (by omega) h (by simp) hn (by omega)
    rw [mm_eq, if_neg (by show ¬ (4 : Int) = 5; decide), if_pos (by show (4 : Int) = 4; rfl)]
    exact Nat.le_trans (Nat.add_le_add_left this 1) (Nat.le_max_right _ _)
def Res.Bd (P : Nat → Rx → Prop) (t : List UInt8) : Res Rx → Prop
  | .ok r t' => P (t.length - t'.length) r
  | .bad _ => True
theorem setL_leaf : ∀ (n : Nat) (neg : Bool) (p : Nat → Bool) (t : List UInt8) (r : Rx) (t' : List UInt8), setL n neg p t = some (.ok r t') → ∃ q, r = setX q
  | 0, _, _, _, _, _, h => by simp [setL] at h
  | n + 1, neg, p, t, r, t', h => by
    unfold setL at h
    split at h
    · cases h
    · split at h
      · cases h
      · split at h
        · cases h; exact ⟨_, rfl⟩
        · exact setL_leaf n _ _ _ _ _ h
theorem opsL_bd : ∀ (n : Nat) (r : Rx) (t : List UInt8) (r' : Rx) (t' : List UInt8) (m : Nat), opsL n r t = some (.ok r' t') → PBd m r → 1 ≤ m → m + t.length ≤ 100 → PBd (m + (t.length - t'.length)) r'
  | 0, _, _, _, _, _, h => by simp [opsL] at h
  | n + 1, r, t, r', t', m, h => fun hb h1 hm => by
    unfold opsL at h
    split at h
    · rename_i r1 e
      have ht := hd_ne (opX_ne e)
      have hl : t.length = t.tail.length + 1 := by cases t with
        | nil => simp at ht
        | cons c t => rfl
      have hs : t' <:+ t.tail := opsL_le _ _ _ _ h
      have hs := hs.length_le
      have := opsL_bd n r1 t.tail r' t' (m + 1) h (pb_op h1 (by omega) hb e) (by omega) (by omega)
      rw [show m + 1 + (t.tail.length - t'.length) = m + (t.length - t'.length) by omega] at this
      exact this
    · cases h; rw [Nat.sub_self]; exact hb
theorem par_bd : ∀ (n : Nat), (∀ t r, alts n t = some r → t.length ≤ 100 → r.Bd SBd t) ∧
    (∀ l t ns r t', altL n l t = some (.ok r t') → SL ns l → l ≠ [] → ns.sum + (ns.length - 1) + t.length ≤ 100 → SBd (ns.sum + (ns.length - 1) + (t.length - t'.length)) r) ∧ (∀ t r, seqs n t = some r → t.length ≤ 100 → r.Bd SBd t) ∧
    (∀ l t ns r t', seqL n l t = some (.ok r t') → PL ns l → l ≠ [] → ns.sum + t.length ≤ 100 → SBd (ns.sum + (t.length - t'.length)) r) ∧
    (∀ t r, piece n t = some r → t.length ≤ 100 → r.Bd PBd t) ∧ (∀ t r, atom n t = some r → t.length ≤ 100 → r.Bd PBd t) := by
  intro n
  induction n with
  | zero => exact ⟨fun t r h => by simp [alts] at h, fun l t ns r t' h => by simp [altL] at h, fun t r h => by simp [seqs] at h, fun l t ns r t' h => by simp [seqL] at h, fun t r h => by simp [piece] at h, fun t r h => by simp [atom] at h⟩
  | succ n ih =>
    obtain ⟨ih1, ih2, ih3, ih4, ih5, ih6⟩ := ih
    refine ⟨fun t r h hl => ?_, fun l t ns r t' h hx hne hl => ?_, fun t r h hl => ?_, fun l t ns r t' h hx hne hl => ?_, fun t r h hl => ?_, fun t r h hl => ?_⟩
    · unfold alts at h
      split at h
      · cases h
      · cases h; trivial
      · rename_i r1 t1 hq
        have h1 := ih3 _ _ hq hl
        have h2 := ((par_lt n).2.2.1 _ _ hq).1
        cases r with
        | bad q => trivial
        | ok r t' =>
          have h3 := List.IsSuffix.length_le ((par_lt n).2.1 _ _ _ h)
          have := ih2 _ _ [t.length - t1.length] _ _ h ⟨by omega, h1, trivial⟩ (by simp) (by simp; omega)
          simp only [List.sum_cons, List.sum_nil, List.length_singleton, Nat.sub_self, Nat.add_zero] at this
          rw [show t.length - t1.length + (t1.length - t'.length) = t.length - t'.length by omega] at this
          exact this
    · unfold altL at h
      split at h
      · rename_i hc
        have ht := hd_ne (show hd t ≠ 0 by omega)
        have hl1 : t.length = t.tail.length + 1 := by cases t with
          | nil => simp at ht
          | cons c t => rfl
        split at h
        · cases h
        · cases h
        · rename_i r1 t1 hq
          have h1 := ih3 _ _ hq (by omega)
          have h2 := ((par_lt n).2.2.1 _ _ hq).1
          have h3 := List.IsSuffix.length_le ((par_lt n).2.1 _ _ _ h)
          have hL := hx.len
          have hpos : 1 ≤ l.length := List.length_pos_iff.2 hne
          have := ih2 _ _ (ns ++ [t.tail.length - t1.length]) _ _ h (hx.snoc (by omega) h1) (by simp) (by simp; omega)
          simp only [List.sum_append, List.sum_cons, List.sum_nil, List.length_append, List.length_singleton, Nat.add_zero] at this
          rw [show ns.sum + (t.tail.length - t1.length) + (ns.length + 1 - 1) + (t1.length - t'.length) = ns.sum + (ns.length - 1) + (t.length - t'.length) by omega] at this
          exact this
      · cases h
        rw [Nat.sub_self, Nat.add_zero]
        exact hx.join hne (by omega)
    · unfold seqs at h
      split at h
      · cases h
      · cases h; trivial
      · rename_i r1 t1 hq
        have h1 := ih5 _ _ hq hl
        have h2 := ((par_lt n).2.2.2.2.1 _ _ hq).1
        cases r with
        | bad q => trivial
        | ok r t' =>
          have h3 := List.IsSuffix.length_le ((par_lt n).2.2.2.1 _ _ _ h)
          have := ih4 _ _ [t.length - t1.length] _ _ h ⟨by omega, h1, trivial⟩ (by simp) (by simp; omega)
          simp only [List.sum_cons, List.sum_nil, Nat.add_zero] at this
          rw [show t.length - t1.length + (t1.length - t'.length) = t.length - t'.length by omega] at this
          exact this
    · unfold seqL at h
      split at h
      · split at h
        · cases h
        · cases h
        · rename_i r1 t1 hq
          have h1 := ih5 _ _ hq (by omega)
          have h2 := ((par_lt n).2.2.2.2.1 _ _ hq).1
          have h3 := List.IsSuffix.length_le ((par_lt n).2.2.2.1 _ _ _ h)
          have := ih4 _ _ (ns ++ [t.length - t1.length]) _ _ h (hx.snoc (by omega) h1) (by simp) (by simp; omega)
          simp only [List.sum_append, List.sum_cons, List.sum_nil, Nat.add_zero] at this
          rw [show ns.sum + (t.length - t1.length) + (t1.length - t'.length) = ns.sum + (t.length - t'.length) by omega] at this
          exact this
      · cases h
        rw [Nat.sub_self, Nat.add_zero]
        exact hx.join hne (by omega)
    · unfold piece at h
      split at h
      · cases h
      · cases h; trivial
      · rename_i r1 t1 hq
        have h1 := ih6 _ _ hq hl
        have h2 := ((par_lt n).2.2.2.2.2 _ _ hq).1
        cases r with
        | bad q => trivial
        | ok r t' =>
          have h3 := List.IsSuffix.length_le (opsL_le _ _ _ _ h)
          have := opsL_bd _ _ _ _ _ (t.length - t1.length) h h1 (by omega) (by omega)
          rw [show t.length - t1.length + (t1.length - t'.length) = t.length - t'.length by omega] at this
          exact this
    · cases r with
      | bad q => trivial
      | ok r t' =>
        have hlt := ((par_lt (n + 1)).2.2.2.2.2 _ _ h).1
        have k1 : 1 ≤ t.length - t'.length := by omega
        have k2 : t.length - t'.length ≤ 100 := by omega
        show PBd _ r
        unfold atom at h
        split at h
        · rename_i hc
          have ht := hd_ne (show hd t ≠ 0 by omega)
          have hl1 : t.length = t.tail.length + 1 := by cases t with
            | nil => simp at ht
            | cons c t => rfl
          split at h
          · cases h; exact pb_emp k1 k2
          · split at h
            · cases h
            · cases h
            · rename_i r1 t1 hq
              have h1 := ih1 _ _ hq (by omega)
              have h2 := ((par_lt n).1 _ _ hq).1
              unfold closeR at h
              split at h
              · rename_i hc2
                have ht1 := hd_ne (show hd t1 ≠ 0 by omega)
                have hl2 : t1.length = t1.tail.length + 1 := by cases t1 with
                  | nil => simp at ht1
                  | cons c t => rfl
                cases h
                have := pb_group (n := t.tail.length - t1.length) (by omega) (by omega) h1
                rw [show t.tail.length - t1.length + 2 = t.length - t1.tail.length by omega] at this
                exact this
              · cases h
        · split at h
          · unfold setR at h
            split at h
            · obtain ⟨q, rfl⟩ := setL_leaf _ _ _ _ _ _ h; exact pb_set k1 k2 q
            · split at h
              · cases h; exact pb_nil k1 k2
              · obtain ⟨q, rfl⟩ := setL_leaf _ _ _ _ _ _ h; exact pb_set k1 k2 q
          · split at h
            · cases h; exact pb_set k1 k2 _
            · split at h
              · split at h
                · cases h; exact pb_set k1 k2 _
                · split at h
                  · cases h
                  · cases h; exact pb_set k1 k2 _
              · split at h
                · cases h
                · cases h; exact pb_set k1 k2 _
theorem alts_bd {n : Nat} {a : List UInt8} {r : Rx} (h : alts n a = some (.ok r [])) (ha : a.length ≤ 100) : SBd a.length r := (par_bd n).1 _ _ h ha
theorem size_mm : ∀ (n : Nat) (r : Rx), size r ≤ n → VX r → size r ≤ mm 0 r
  | 0, r, h, _ => by have := size_pos r; omega
  | n + 1, r, h, hv => by
    have hx := allX_iff.1 hv
    have hn := hx.1
    have ih : ∀ x ∈ r.subs, size x ≤ mm 0 x := fun x hx' => by have := size_mem hx'; exact size_mm n x (by omega) (hx.2 x hx')
    have sA : ∀ l : List Rx, (∀ x ∈ l, size x ≤ mm 0 x) → sizes l ≤ mA 0 l := by
      intro l
      induction l with
      | nil => intro _; exact Nat.le_refl _
      | cons y l ihl =>
        intro h
        have := ihl fun z hz => h z (List.mem_cons_of_mem _ hz)
        have := h y (List.mem_cons_self ..)
        simp only [sizes, mA]; omega
    have sC : ∀ l : List Rx, (∀ x ∈ l, size x ≤ mm 0 x) → sizes l ≤ mC 0 l := by
      intro l
      induction l with
      | nil => intro _; exact Nat.le_refl _
      | cons y l ihl =>
        intro h
        have := ihl fun z hz => h z (List.mem_cons_of_mem _ hz)
        have := h y (List.mem_cons_self ..)
        have := Nat.le_mul_of_pos_left (mm 0 y) (vl_pos (Nat.zero_le 1) l)
        simp only [sizes, mC]; omega
    rw [size_eq, mm_eq]
    by_cases k5 : r.kind = 5
    · rw [if_pos k5]
      have hl : r.subs.length = 1 := by
        unfold nodeErr at hn
        simp only [k5] at hn
        by_cases hc : r.subs.length = 1
        · exact hc
        · simp [hc] at hn
          split at hn <;> simp at hn
      match hs : r.subs, hl with
      | [x], _ =>
        have := ih x (by rw [hs]; simp)
        simp only [sizes, mS]; omega
    · rw [if_neg k5]
      by_cases k4 : r.kind = 4
      · rw [if_pos k4]; have := sA _ ih; omega
      · rw [if_neg k4]
        by_cases k3 : r.kind = 3
        · rw [if_pos k3]; have := sC _ ih; omega
        · rw [if_neg k3]
          have hl : r.subs = [] := by
            cases hs : r.subs with
            | nil => rfl
            | cons x l =>
              unfold nodeErr at hn
              rw [hs] at hn
              split at hn
              · cases hn
              · rw [if_neg (by omega)] at hn
                simp at hn
          rw [hl]; exact Nat.le_refl _
theorem top_bd {n : Nat} {r : Rx} (hn : n ≤ 100) (h : SBd n r) (hl : levels r ≤ 15) : mm 0 r ≤ tX0 ∧ mm 1 r ≤ tX1 ∧ size r ≤ tX0 := by
  have h0 := h.2.2 0 (by omega) 15 (by omega) hl
  have h1 := h.2.2 1 (by omega) 15 (by omega) hl
  have ht := List.all_eq_true.1 t15 n (List.mem_range.2 (by omega))
  simp only [Bool.and_eq_true, Nat.ble_eq] at ht
  have hs := size_mm _ r (Nat.le_refl _) h.1
  have ha : mm 0 r ≤ tX0 := Nat.le_trans h0 ht.1
  exact ⟨ha, Nat.le_trans h1 ht.2, Nat.le_trans hs ha⟩
theorem bd_of {r : Rx} (h : mm 0 r ≤ 2 * tX0 + 1) (h1 : mm 1 r ≤ 2 * tX1 + 1) (hs : size r ≤ 2 * tX0 + 1) : Bd r 8 := by
  unfold tX0 at h hs; unfold tX1 at h1
  exact ⟨by omega, by omega⟩
end Go.Rx
end
section
open Go Go.Proofs Go.Ab Go.Rf
set_option maxRecDepth 100000
namespace Go.Rx
theorem chk_vx : ∀ (n : Nat) (r : Rx), size r ≤ n → VX r → ∀ lvl : Int, chk lvl r = 0 ∨ chk lvl r = 9
  | 0, r, h, _ => by have := size_pos r; omega
  | n + 1, r, h, hv => fun lvl => by
    have hx := allX_iff.1 hv
    rw [chk_eq]
    split
    · exact .inr rfl
    · rw [if_neg (by rw [hx.1]; exact fun h => h rfl)]
      have : ∀ l : List Rx, (∀ y ∈ l, y ∈ r.subs) → chks (lvl + 1) l = 0 ∨ chks (lvl + 1) l = 9 := by
        intro l
        induction l with
        | nil => intro _; exact .inl rfl
        | cons y l ih =>
          intro hl
          have hy := hl y (List.mem_cons_self ..)
          have h1 := chk_vx n y (by have := size_mem hy; omega) (hx.2 y hy) (lvl + 1)
          simp only [chks]
          split
          · rcases h1 with h1 | h1
            · exact absurd h1 ‹_›
            · exact .inr h1
          · exact ih fun z hz => hl z (List.mem_cons_of_mem _ hz)
      exact this r.subs fun y hy => hy
theorem chk_ok {r : Rx} (hv : VX r) (h : chk 1 r ≠ 9) : chk 1 r = 0 ∧ levels r ≤ 16 := by
  have h0 := (chk_vx _ r (Nat.le_refl _) hv 1).resolve_right h
  have := ((chk_iff r 1).1 h0).2
  exact ⟨h0, by omega⟩
theorem comp_bad {a b : List UInt8} (ha : a.length ≤ 100) (hb : b.length ≤ 100) (h : (parseV a).2.1 = 8) (hlt : (parseV a).2.2 < (a.length : Int)) (hne : gByte a (parseV a).2.2 ≠ 41) :
    (parseV (altS a b)).2 = (8, (parseV a).2.2 + 1) := by
  have hU : (altS a b).length = a.length + b.length + 5 := by simp [altS]; omega
  cases out3 (show a.length ≤ 1000 by omega) with
  | fine h1 h2 => rw [h2] at h; split at h <;> cases h
  | @close n r t h1 h41 h3 h2 =>
    rw [h2] at hne hlt
    have hat : At a t ((a.length : Int) - t.length) := ⟨h3, by omega, by omega⟩
    have ht := hat.lt.1 hlt
    rw [hat.byte ht, h41] at hne
    exact absurd rfl hne
  | @bad n t h1 h3 h2 =>
    rw [h2] at hne hlt
    have hat : At a t ((a.length : Int) - t.length) := ⟨h3, by omega, by omega⟩
    have ht := hat.lt.1 hlt
    rw [hat.byte ht] at hne
    have h41 : hd a ≠ 41 := fun e => by
      have := alts_close e h1
      injection this with this
      subst this
      rw [e] at hne; exact hne rfl
    obtain ⟨k, hk⟩ := alts_altS_bad (b := b) h1 ht h41
    rw [parse_of_bad (by omega) hk, h2]
    have := h3.length_le
    simp only [hU, List.length_append, List.length_cons, List.length_nil]
    congr 1; omega
structure Fine (a b s : List UInt8) (ra rb : Rx) : Prop where
  pa : parseV a = (ra, 0, 0)
  pb : parseV b = (rb, 0, 0)
  pu : parseV (altS a b) = (mk0 4 [ra, rb], 0, 0)
  po : parseV (optS a) = (mk0 4 [ra, mk0 1 []], 0, 0)
  ma : matchOk ra s = true
  mb : matchOk rb s = true
  mu : matchOk (mk0 4 [ra, rb]) s = true
  mo : matchOk (mk0 4 [ra, mk0 1 []]) s = true
  vu : matchV (mk0 4 [ra, rb]) s = (matchV ra s || matchV rb s)
  vo : matchV (mk0 4 [ra, mk0 1 []]) s = (matchV ra s || (s == []))
theorem mm_two (j : Nat) (a b : Rx) : mm j (mk0 4 [a, b]) = 1 + mm j a + mm j b := by
  rw [mm_eq, if_neg (by show ¬ (4 : Int) = 5; decide), if_pos (by show (4 : Int) = 4; rfl)]
  show 1 + (mm j a + (mm j b + 0)) = _
  omega
theorem comp_fine {a b : List UInt8} (s : List UInt8) (ha : a.length ≤ 100) (hb : b.length ≤ 100) (hs : s.length ≤ 8) (e : (parseV a).2.1 ≠ 8) (f : (parseV b).2.1 ≠ 8) :
    (parseV (altS a b)).2.1 ≠ 8 ∧ (parseV (optS a)).2.1 ≠ 8 ∧ (((parseV (altS a b)).2 = (0, 0) ∧ (parseV (optS a)).2 = (0, 0)) → ∃ ra rb, Fine a b s ra rb) := by
  have hU : (altS a b).length = a.length + b.length + 5 := by simp [altS]; omega
  have hO : (optS a).length = a.length + 3 := by simp [optS]
  cases out3 (show a.length ≤ 1000 by omega) with
  | close h1 h41 h3 h2 => rw [h2] at e; exact absurd rfl e
  | bad h1 h3 h2 => rw [h2] at e; exact absurd rfl e
  | @fine n ra h1 h2 =>
  cases out3 (show b.length ≤ 1000 by omega) with
  | close g1 g41 g3 g2 => rw [g2] at f; exact absurd rfl f
  | bad g1 g3 g2 => rw [g2] at f; exact absurd rfl f
  | @fine m rb g1 g2 =>
  have h41 : hd a ≠ 41 := fun e => by have := alts_close e h1; cases this
  have g41 : hd b ≠ 41 := fun e => by have := alts_close e g1; cases this
  obtain ⟨ku, hu⟩ := alts_altS h1 g1 h41 g41
  obtain ⟨ko, ho⟩ := alts_optS h1 h41
  have pu := parse_of (by omega) hu
  have po := parse_of (by omega) ho
  have ba := alts_bd h1 ha
  have bb := alts_bd g1 hb
  have two : ∀ x y, VX x → VX y → VX (mk0 4 [x, y]) := fun x y hx hy => vx_mk rfl fun z hz => by
    simp only [List.mem_cons, List.not_mem_nil, or_false] at hz
    rcases hz with rfl | rfl <;> assumption
  have ve : VX (mk0 1 []) := vx_leaf rfl rfl
  have n9 : (9 : Int) ≠ 8 := by decide
  have n0 : (0 : Int) ≠ 8 := by decide
  refine ⟨by rw [pu]; split; exact n9; exact n0, by rw [po]; split; exact n9; exact n0, fun ⟨z1, z2⟩ => ⟨ra, rb, ?_⟩⟩
  have c1 : chk 1 (mk0 4 [ra, rb]) ≠ 9 := fun h => by rw [pu, if_pos h] at z1; cases z1
  have c2 : chk 1 (mk0 4 [ra, mk0 1 []]) ≠ 9 := fun h => by rw [po, if_pos h] at z2; cases z2
  obtain ⟨d1, l1⟩ := chk_ok (two _ _ ba.1 bb.1) c1
  obtain ⟨d2, l2⟩ := chk_ok (two _ _ ba.1 ve) c2
  rw [lv_mk0] at l1
  simp only [levelsL] at l1
  have la : levels ra ≤ 15 := by omega
  have lb : levels rb ≤ 15 := by omega
  have vA : Vd 15 ra := ⟨ba.1, la⟩
  have vB : Vd 15 rb := ⟨bb.1, lb⟩
  have vE : Vd 15 (mk0 1 []) := ⟨ve, by decide⟩
  obtain ⟨a0, a1, a2⟩ := top_bd ha ba la
  obtain ⟨b0, b1, b2⟩ := top_bd hb bb lb
  have hE0 : ∀ j, mm j (mk0 1 []) = 1 := fun j => mm_leaf j ⟨by decide, by decide, by decide⟩
  have x0 : 1 ≤ tX0 := by decide
  have x1 : 1 ≤ tX1 := by decide
  have ok : ∀ r, Bd r 8 → matchOk r s = true := fun r hr => matchOk_of hr s [] (by simpa using hs)
  refine ⟨?_, ?_, ?_, ?_, ok _ (bd_of (by omega) (by omega) (by omega)), ok _ (bd_of (by omega) (by omega) (by omega)), ok _ (bd_of ?_ ?_ ?_), ok _ (bd_of ?_ ?_ ?_), matchV_alt vA vB (Nat.le_refl _) s, ?_⟩
  · rw [h2, if_neg (by rw [vA.chk (by omega)]; decide)]
  · rw [g2, if_neg (by rw [vB.chk (by omega)]; decide)]
  · rw [pu, if_neg c1]
  · rw [po, if_neg c2]
  · rw [mm_two]; omega
  · rw [mm_two]; omega
  · rw [size_two]; omega
  · rw [mm_two, hE0]; omega
  · rw [mm_two, hE0]; omega
  · rw [size_two, show size (mk0 1 []) = 1 from rfl]; omega
  · rw [matchV_alt vA vE (Nat.le_refl _) s]
    congr 1
    rw [Bool.eq_iff_iff, matchV_iff]
    have h0 : chk 1 (mk0 1 []) = 0 := vE.chk (by omega)
    have h1 := lang_empX s
    rw [show (mk0 1 [] : Rx) = empX from rfl] at h0 ⊢
    rw [h1, beq_iff_eq]
    simp [h0]
theorem c24f {x : List UInt8} {r : Rx} {i j : Int} (s : List UInt8) (hp : parseV x = (r, i, j)) (hs : s.length ≤ 8) (hm : matchOk r s = true) : Holds Try.prog 24 [A.agg (enc r), A.d (.lit (bytesV s))] [] (Ret (boolA (matchV r s))) := by
  have h1 := parse_range x
  have h2 := parse_lens40 x
  rw [hp] at h1 h2
  exact c24 r s h1 h2 (by omega) fun _ => hm
theorem c7 (a b s : List UInt8) : Holds Try.prog 7 [A.d (.lit (bytesV a)), A.d (.lit (bytesV b)), A.d (.lit (bytesV s))] [] (Ret (boolA true)) := by
  refine w7 a b s ⟨fun _ => call1 c14 ⟨_, rfl, rfl, ⟨rfl, rfl⟩⟩, fun hc => ?_⟩
  have hc' : (a.length ≤ 100 ∧ b.length ≤ 100) ∧ s.length ≤ 8 := by
    simp only [tB_eq, Bool.or_eq_false_iff, decide_eq_false_iff_not] at hc
    exact ⟨⟨by omega, by omega⟩, by omega⟩
  obtain ⟨⟨ha, hb⟩, hs⟩ := hc'
  have ex : ∀ {Q2 : Value → List (Ref × List A) → Prop}, ∀ _ : Nat → Nat, ∃ R' : Out → List (Ref × List A) → Prop, Holds Try.prog 14 [] [] R' ∧ (∀ v H', R' (.ret v) H' → ∃ x11 : Bool, v = (A.d (D.lit (.bool x11))) ∧ H' = [] ∧ Ret (boolA true) (.ret (A.d (D.lit (.bool x11)))) []) ∧ (∀ u H', R' (.pan u) H' → Q2 u H') := call1 c14 ⟨_, rfl, rfl, ⟨rfl, rfl⟩⟩
  have fits : ∀ l : List UInt8, ∀ k : Int, l.length ≤ 300 → k ≤ 300 → tB (decide ((l.length : Int) + k ≤ (9223372036854775807 : Int))) = true := fun l k h1 h2 => tle (by omega)
  refine call1 (c19 a) ⟨_, _, rfl, rfl, teq6 _, teq rfl, call1 (c19 b) ⟨_, _, rfl, rfl, teq6 _, teq rfl, tle (by omega), fits _ _ (by simp; omega) (by omega), fits _ _ (by simp; omega) (by omega), fits _ _ (by simp; omega) (by omega),
    call1 (c19 (altS a b)) ⟨_, _, rfl, rfl, teq6 _, teq rfl, fits _ _ (by simp; omega) (by omega), call1 (c19 (optS a)) ⟨_, _, rfl, rfl, teq6 _, teq rfl, ?_⟩⟩⟩⟩
  have hat : (parseV a).2.1 = 8 → 0 ≤ (parseV a).2.2 ∧ (parseV a).2.2 ≤ 1000 := fun h => by
    cases out3 (show a.length ≤ 1000 by omega) with
    | fine h1 h2 => rw [h2] at h; split at h <;> cases h
    | close h1 h41 h3 h2 => rw [h2]; have := h3.length_le; dsimp only; omega
    | bad h1 h3 h2 => rw [h2]; have := h3.length_le; dsimp only; omega
  show _ ∧ _
  generalize hA : parseV a = pa at hat ⊢
  generalize hB : parseV b = pb
  generalize hUe : parseV (altS a b) = pu
  generalize hOe : parseV (optS a) = po
  obtain ⟨ra, ea, ia⟩ := pa
  obtain ⟨rb, eb, ib⟩ := pb
  obtain ⟨ru, eu, iu⟩ := pu
  obtain ⟨ro, eo, io⟩ := po
  have kK : ∀ (p : Bool) (n : Int), (p || Rf.isK (.int .i64) (D.lit (.int .i64 n))) = true := fun p n => by rw [isK_int]; simp
  dsimp only at hat
  have hbad : ea = 8 → ia < (a.length : Int) → gByte a ia ≠ 41 → eu = 8 ∧ iu = ia + 1 := fun h1 h2 h3 => by
    have := comp_bad (a := a) (b := b) ha hb (by rw [hA]; exact h1) (by rw [hA]; exact h2) (by rw [hA]; exact h3)
    rw [hUe, hA] at this
    injection this with e1 e2
    exact ⟨e1, e2⟩
  refine ⟨isK_int _ _, kK _ _, kK _ _, ?_, ?_, kK _ _, ?_, ?_, kK _ _, kK _ _, fun h => ?_, fun _ => ⟨kK _ _, fun _ => ex, fun hne => ?_⟩⟩
  · simp only [tB_eq, Bool.or_eq_true, Bool.not_eq_true', Bool.and_eq_false_iff, decide_eq_true_eq]
    by_cases h8 : ea = 8
    · exact .inr (hat h8).1
    · left; left; simpa [List.getD, Rf.dint] using h8
  · simp only [tB_eq, Bool.or_eq_true, Bool.not_eq_true', Bool.and_eq_false_iff, decide_eq_true_eq, decide_eq_false_iff_not]
    omega
  · simp only [tB_eq, Bool.or_eq_true, Bool.not_eq_true', Bool.and_eq_false_iff, decide_eq_true_eq]
    by_cases h8 : ea = 8
    · right; have := (hat h8).1; show _ ≤ ia + 1; omega
    · left; left; left; simpa [List.getD, Rf.dint] using h8
  · simp only [tB_eq, Bool.or_eq_true, Bool.not_eq_true', Bool.and_eq_false_iff, decide_eq_true_eq]
    by_cases h8 : ea = 8
    · right; have := (hat h8).2; show ia + 1 ≤ _; omega
    · left; left; left; simpa [List.getD, Rf.dint] using h8
  · exfalso
    simp only [tB_eq, Bool.and_eq_true, Bool.not_eq_true', beq_iff_eq, decide_eq_true_eq, Bool.and_eq_false_iff, beq_eq_false_iff_ne] at h
    obtain ⟨⟨⟨h1, h2⟩, h3⟩, h4⟩ := h
    obtain ⟨g1, g2⟩ := hbad h1 h2 h3
    rcases h4 with h4 | h4
    · exact h4 g1
    · exact h4 g2
  · have hne' : ea ≠ 8 ∧ eb ≠ 8 := by
      simp only [tB_eq, Bool.or_eq_false_iff, beq_eq_false_iff_ne] at hne
      exact hne
    obtain ⟨u8, o8, hf⟩ := comp_fine s ha hb hs (by rw [hA]; exact hne'.1) (by rw [hB]; exact hne'.2)
    rw [hUe] at u8 hf
    rw [hOe] at o8 hf
    refine ⟨isK_int _ _, isK_int _ _, kK _ _, kK _ _, fun _ => ⟨kK _ _, fun _ => ⟨fun _ => ex, fun h => ?_⟩, fun h => ?_⟩, fun h => ?_⟩
    · exact absurd (nfeq h) o8
    · exact absurd (nfeq h) u8
    · simp only [tB_eq, Bool.or_eq_false_iff, Bool.not_eq_false', Bool.and_eq_true, beq_iff_eq] at h
      obtain ⟨⟨q1, q2⟩, q3, q4⟩ := h
      have q1 : eu = 0 := q1
      have q2 : iu = 0 := q2
      have q3 : eo = 0 := q3
      have q4 : io = 0 := q4
      subst q1; subst q2; subst q3; subst q4
      obtain ⟨ra', rb', F⟩ := hf ⟨rfl, rfl⟩
      have ea := F.pa; rw [hA] at ea; injection ea with ea _; subst ea
      have eb := F.pb; rw [hB] at eb; injection eb with eb _; subst eb
      have eu := F.pu; rw [hUe] at eu; injection eu with eu _; subst eu
      have eo := F.po; rw [hOe] at eo; injection eo with eo _; subst eo
      have cu := c24f s F.pu hs F.mu
      have co := c24f s F.po hs F.mo
      have ca := c24f s F.pa hs F.ma
      have cb := c24f s F.pb hs F.mb
      have vu := F.vu
      have vo := F.vo
      have tail : ∃ x14 : Bool, (∀ _ : Nat → Nat, Holds Try.prog 24 [(A.agg (enc (mk0 4 [ra, mk0 1 []]))), (A.d (D.lit (bytesV s)))] [] (Reads [] (A.d (D.lit (.bool x14))))) ∧
            ((!(tB (s == ([] : List UInt8)))) = true →
             ∀ _ : Nat → Nat, ∃ R' : Out → List (Ref × List A) → Prop, Holds Try.prog 24 [(A.agg (enc ra)), (A.d (D.lit (bytesV s)))] [] R' ∧
             (∀ v H', R' (.ret v) H' → ∃ x15 : Bool, v = (A.d (D.lit (.bool x15))) ∧ H' = [] ∧
              ((x14 == x15) = true →
               ∀ _ : Nat → Nat, ∃ R' : Out → List (Ref × List A) → Prop, Holds Try.prog 14 [] [] R' ∧
               (∀ v H', R' (.ret v) H' → ∃ x16 : Bool, v = (A.d (D.lit (.bool x16))) ∧ H' = [] ∧
                Ret (boolA true) (.ret (A.d (D.lit (.bool x16)))) []) ∧
               (∀ x16v H', R' (.pan x16v) H' → H' = [] ∧
                Ret (boolA true) (.pan x16v) [])) ∧
              ((x14 == x15) = false →
               Ret (boolA true) (.ret (A.d (D.lit (.bool false)))) [])) ∧
             (∀ x15v H', R' (.pan x15v) H' → H' = [] ∧
              Ret (boolA true) (.pan x15v) [])) ∧
            ((!(tB (s == ([] : List UInt8)))) = false →
             ((x14 == true) = true →
              ∀ _ : Nat → Nat, ∃ R' : Out → List (Ref × List A) → Prop, Holds Try.prog 14 [] [] R' ∧
              (∀ v H', R' (.ret v) H' → ∃ x15 : Bool, v = (A.d (D.lit (.bool x15))) ∧ H' = [] ∧
               Ret (boolA true) (.ret (A.d (D.lit (.bool x15)))) []) ∧
              (∀ x15v H', R' (.pan x15v) H' → H' = [] ∧
               Ret (boolA true) (.pan x15v) [])) ∧
             ((x14 == true) = false →
              Ret (boolA true) (.ret (A.d (D.lit (.bool false)))) [])) := by
        refine ⟨_, fun _ => co, fun h => call1 ca ⟨_, rfl, rfl, fun _ => ex, fun h2 => (no_beq h2 ?_).elim⟩, fun h => ⟨fun _ => ex, fun h2 => (no_beq h2 ?_).elim⟩⟩
        · rw [tB_eq, Bool.not_eq_true'] at h
          rw [vo, h, Bool.or_false]
        · rw [tB_eq, Bool.not_eq_false'] at h
          rw [vo, h, Bool.or_true]
      refine ⟨_, fun _ => cu, _, fun _ => ca, fun h => ⟨_, fun _ => cb, fun _ => tail, fun h2 => (no_beq h2 ?_).elim⟩, fun h => ⟨fun _ => tail, fun h2 => (no_beq h2 ?_).elim⟩⟩
      · rw [Bool.not_eq_true'] at h
        rw [vu, h, Bool.false_or]
      · rw [Bool.not_eq_false'] at h
        rw [vu, h, Bool.true_or]
end Go.Rx
end
section
open Go Go.Proofs Go.Ab Go.Rf Go.ChangeShapes Go.WideShapes
set_option maxRecDepth 100000
namespace Go.Rx
theorem lifted7 (os : Os) (started : os.Started) (H : Type) (en : TypeId × Value → H) :
    ReturnsInHanded {} Try.checked os 7 .any (Ytedalcjkolcolaa.Rows.regexComposesSpec.pre6 en Try.prog Try.f7 Ytedalcjkolcolaa.Rows.regexComposesRow.domain false) (Ytedalcjkolcolaa.Rows.regexComposesSpec.post en Try.prog Try.f7 false true false false) := by
  refine returnsInHanded_of_change (C := Try.checked) own started (by kernel_rfl) Try.func7
    (ChangeSpec.witness6 (enc := en) (C := Try.checked) false ⟨#[], #[.string ⟨#[]⟩, .string ⟨#[]⟩, .string ⟨#[]⟩], []⟩ 8 (by kernel_rfl) (by kernel_rfl) (by kernel_rfl) (by kernel_rfl)) ?_
  intro W base args ds gs before hval0 hW hcnd _
  have hval : ∀ (j : Nat) t v, Try.f7.params[j]? = some t → args[j]? = some v → Value.okWide Try.prog W .any base t v := hval0
  have hW' := hW
  obtain ⟨p, q, hA0, hV, rfl, hfz, hnd⟩ := hW
  have hA : DataW.TrodAll en Try.prog W 0 (fun _ => true) true Try.f7.params.toList args.toList ds p := hA0
  rw [Try.params7] at hA hval
  obtain ⟨v0, vs0, d0, ds0, p0, q0, hargs, rfl, rfl, h0, r0⟩ := trodAll_cons hA
  obtain ⟨v1, vs1, d1, ds1, p1, q1, rfl, rfl, rfl, h1, r1⟩ := trodAll_cons r0
  obtain ⟨v2, vs2, d2, ds2, p2, q2, rfl, rfl, rfl, h2, r2⟩ := trodAll_cons r1
  obtain ⟨rfl, rfl, rfl⟩ := trodAll_nil r2
  obtain rfl : args = #[v0, v1, v2] := by cases args; simp_all
  obtain ⟨a0, k0⟩ := arg_str Try.underlying9 (hval 0 9 v0 rfl rfl) h0
  obtain ⟨a1, k1⟩ := arg_str Try.underlying9 (hval 1 9 v1 rfl rfl) h1
  obtain ⟨a2, k2⟩ := arg_str Try.underlying9 (hval 2 9 v2 rfl rfl) h2
  refine (callsX_body Try.func7 rfl rfl (Holds.out (c7 a0 a1 a2) (w := W) (cargs := #[v0, v1, v2]) ⟨k0, k1, k2, trivial⟩)).mono fun e W' ⟨cv, g', he, hc, hb⟩ => ?_
  have hc : cv = .bool true := by cases hc; rfl
  subst hc
  exact ⟨_, he, row_post rfl hW' rfl rfl lay (by kernel_rfl) hb⟩
theorem regexComposes_holds : Ytedalcjkolcolaa.Rows.RegexComposesSaid :=
  OpenClaim.holds_of_wide 7 Try.f7 rfl rfl rfl rfl rfl rfl rfl ⟨rfl, rfl, rfl, rfl, rfl⟩ rfl rfl rfl rfl rfl (by kernel_rfl) Try.func7 (by kernel_rfl)
    (of_decide_eq_true (by kernel_rfl)) (by unfold Func.isWrapper; first | (rw [if_pos (by decide +kernel)]; kernel_rfl) | (rw [if_neg (by decide +kernel)]; exact ⟨rfl, rfl⟩))
    (fun os started H enc _ => lifted7 os started H enc)
end Go.Rx
namespace Go.Proofs.Ytedalcjkolcolaa
theorem regexComposes_proved : Rows.RegexComposesSaid := Go.Rx.regexComposes_holds
end Go.Proofs.Ytedalcjkolcolaa
end
