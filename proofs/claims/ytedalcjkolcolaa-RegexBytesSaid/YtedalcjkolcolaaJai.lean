/- Proved: the given statement RegexBytesSaid, without conditions. -/
import Derived.Test.YtedalcjkolcolaaRows
import Derived.WalkKit
import Derived.ProofKit
import Derived.OpenShut
import Derived.JoinedOf
import Derived.Deep.Slices
import Derived.Carry
import Derived.Test.YtedalcjkolcolaaJah
set_option linter.unusedVariables false
set_option linter.unusedSimpArgs false
section
open Go Go.Proofs Go.Ab Go.Rf
set_option maxRecDepth 100000
namespace Go.Rx
mutual
def allX (p : Rx → Prop) : Rx → Prop
  | .mk k a b c d l => p (.mk k a b c d l) ∧ allXs p l
def allXs (p : Rx → Prop) : List Rx → Prop
  | [] => True
  | r :: l => allX p r ∧ allXs p l
end
theorem allXs_iff {p : Rx → Prop} : ∀ {l : List Rx}, allXs p l ↔ ∀ r ∈ l, allX p r
  | [] => by simp [allXs]
  | r :: l => by simp [allXs, allXs_iff (l := l)]
theorem allX_iff {p : Rx → Prop} {r : Rx} : allX p r ↔ p r ∧ ∀ x ∈ r.subs, allX p x := by
  cases r with | mk k a b c d l => simp [allX, Rx.subs, allXs_iff]
def hasX (r : Rx) (b : Nat) : Bool := (r.w (b / 64)).toNat.testBit (b % 64)
def nodeOk (r : Rx) : Prop := nodeErr r = 0 ∧ ∀ i < 4, 0 ≤ r.w i ∧ r.w i < 2 ^ 64
theorem row_words (r : Rx) (h : ∀ i < 4, 0 ≤ r.w i ∧ r.w i < 2 ^ 64) : [(D.lit (.int .u64 (r.w 0))), D.lit (.int .u64 (r.w 1)), D.lit (.int .u64 (r.w 2)), D.lit (.int .u64 (r.w 3))] = row4 (hasX r) := by
  have key : ∀ k, k < 4 → ((wd (hasX r) k : Nat) : Int) = r.w k := fun k hk => by
    have hw := h k hk
    have : wd (hasX r) k = (r.w k).toNat := wd_eq (by omega) fun j hj => by
      unfold hasX
      rw [show (64 * k + j) / 64 = k by omega, show (64 * k + j) % 64 = j by omega]
    rw [this]; omega
  unfold row4
  rw [key 0 (by decide), key 1 (by decide), key 2 (by decide), key 3 (by decide)]
theorem c55w (r : Rx) (b : Nat) (hb : b < 256) (h : ∀ i < 4, 0 ≤ r.w i ∧ r.w i < 2 ^ 64) : Holds Try.prog 55 [A.agg [(D.lit (.int .u64 (r.w 0))), D.lit (.int .u64 (r.w 1)), D.lit (.int .u64 (r.w 2)), D.lit (.int .u64 (r.w 3))], A.d (.lit (.int .u8 b))] [] (Ret (.d (.lit (.bool (hasX r b))))) := by
  rw [row_words r h]; exact c55 (hasX r) b hb
theorem c63w (r : Rx) (b : Nat) (hb : b < 256) (h : ∀ i < 4, 0 ≤ r.w i ∧ r.w i < 2 ^ 64) : Holds Try.prog 63 [A.agg [(D.lit (.int .u64 (r.w 0))), D.lit (.int .u64 (r.w 1)), D.lit (.int .u64 (r.w 2)), D.lit (.int .u64 (r.w 3))], A.d (.lit (.int .u8 b))] [] (Ret (.d (.lit (.bool (hasX r b))))) := by
  rw [row_words r h]; exact c63 (hasX r) b hb
def hdX (r : Rx) : Rx := r.subs.headD nilX
def der (b : Nat) : Nat → Rx → Rx
  | 0, _ => nilX
  | n + 1, r =>
    if r.kind = 2 then (if hasX r b then empX else nilX)
    else if r.kind = 5 then catX [der b n (hdX r), r]
    else if r.kind = 4 then altX (r.subs.map (der b n))
    else if r.kind = 3 then (if null (hdX r) then altX [catX [der b n (hdX r), catX r.subs.tail], der b n (catX r.subs.tail)] else catX [der b n (hdX r), catX r.subs.tail])
    else nilX
def B40 : Nat := 2 ^ 40
def catOk (ls : List Rx) : Bool := Nat.ble (outC ls).length B40
def altOk (ls : List Rx) : Bool := Nat.ble (outA ls).length B40
def derOk (b : Nat) : Nat → Rx → Bool
  | 0, _ => true
  | n + 1, r =>
    if r.kind = 5 then derOk b n (hdX r) && catOk [der b n (hdX r), r]
    else if r.kind = 4 then r.subs.all (derOk b n) && altOk (r.subs.map (der b n))
    else if r.kind = 3 then derOk b n (hdX r) && (catOk r.subs.tail && (catOk [der b n (hdX r), catX r.subs.tail] && (!null (hdX r) || (derOk b n (catX r.subs.tail) && altOk [catX [der b n (hdX r), catX r.subs.tail], der b n (catX r.subs.tail)]))))
    else true
theorem catOk_iff {ls : List Rx} : catOk ls = true ↔ (outC ls).length ≤ 2 ^ 40 := by unfold catOk; rw [Nat.ble_eq]; rfl
theorem altOk_iff {ls : List Rx} : altOk ls = true ↔ (outA ls).length ≤ 2 ^ 40 := by unfold altOk; rw [Nat.ble_eq]; rfl
theorem sizes_append : ∀ (l m : List Rx), sizes (l ++ m) = sizes l + sizes m
  | [], m => by simp [sizes]
  | r :: l, m => by simp only [List.cons_append, sizes, sizes_append l m]; omega
theorem sizes_catF (x : Rx) : sizes (catF x) ≤ size x := by
  unfold catF
  split
  · have := size_eq x; omega
  · split
    · simp [sizes]
    · simp [sizes]
theorem sizes_outC : ∀ ls : List Rx, sizes (outC ls) ≤ sizes ls
  | [] => by simp [outC, sizes]
  | x :: l => by
    have h1 := sizes_outC l
    have h2 := sizes_catF x
    unfold outC at h1 ⊢
    rw [List.flatMap_cons, sizes_append]
    simp only [sizes]; omega
theorem size_joinX (k : Int) (l : List Rx) : size (joinX k l) ≤ 1 + sizes l := by
  unfold joinX
  split
  · simp [sizes]
  · simp [mk0, size]
theorem size_catX (ls : List Rx) : size (catX ls) ≤ 1 + sizes ls := by
  unfold catX
  split
  · show 1 + 0 ≤ _; omega
  · split
    · show 1 + 0 ≤ _; omega
    · have := size_joinX 3 (outC ls); have := sizes_outC ls; omega
theorem size_hd {r : Rx} (h : r.subs ≠ []) : size (hdX r) + sizes r.subs.tail + 1 = size r := by
  cases r with | mk k a b c d l =>
    cases l with
    | nil => exact absurd rfl h
    | cons x l => simp [hdX, Rx.subs, size, sizes]; omega
theorem all_joinX {p : Rx → Prop} {k : Int} {l : List Rx} (hk : l.length ≠ 1 → p (mk0 k l)) (h : ∀ x ∈ l, allX p x) : allX p (joinX k l) := by
  unfold joinX
  split
  · exact h _ (by simp)
  · rename_i hne
    exact allX_iff.2 ⟨hk (fun e => by
      match l, e with
      | [r], _ => exact hne r rfl), h⟩
theorem mem_catF {p : Rx → Prop} {x y : Rx} (h : allX p x) (hy : y ∈ catF x) : allX p y := by
  unfold catF at hy
  split at hy
  · exact (allX_iff.1 h).2 y hy
  · split at hy
    · cases hy
    · rw [List.mem_singleton.1 hy]; exact h
theorem mem_altF {p : Rx → Prop} {x y : Rx} (h : allX p x) (hy : y ∈ altF x) : allX p y := by
  unfold altF at hy
  split at hy
  · exact (allX_iff.1 h).2 y hy
  · split at hy
    · cases hy
    · rw [List.mem_singleton.1 hy]; exact h
theorem mem_foldl {l out : List Rx} {y : Rx} (h : y ∈ l.foldl addX out) : y ∈ out ∨ y ∈ l := by
  induction l generalizing out with
  | nil => exact .inl h
  | cons x l ih =>
    rcases ih h with h1 | h1
    · unfold addX at h1
      split at h1
      · exact .inl h1
      · rcases List.mem_append.1 h1 with h1 | h1
        · exact .inl h1
        · rw [List.mem_singleton.1 h1]; exact .inr (List.mem_cons_self ..)
    · exact .inr (List.mem_cons_of_mem _ h1)
theorem mem_outA {ls : List Rx} {y : Rx} (h : y ∈ outA ls) : ∃ x ∈ ls, y ∈ altF x := by
  rcases mem_foldl h with h | h
  · cases h
  · exact List.mem_flatMap.1 h
theorem mem_outC {ls : List Rx} {y : Rx} (h : y ∈ outC ls) : ∃ x ∈ ls, y ∈ catF x := List.mem_flatMap.1 h
structure Closed (p : Rx → Prop) : Prop where
  nil : p nilX
  emp : p empX
  cat : ∀ l : List Rx, 2 ≤ l.length → l.length ≤ 2 ^ 40 → p (mk0 3 l)
  alt : ∀ l : List Rx, 2 ≤ l.length → l.length ≤ 2 ^ 40 → p (mk0 4 l)
section
variable {p : Rx → Prop} (hp : Closed p)
include hp
theorem Closed.nilX : allX p nilX := allX_iff.2 ⟨hp.nil, fun _ h => by cases h⟩
theorem Closed.empX : allX p empX := allX_iff.2 ⟨hp.emp, fun _ h => by cases h⟩
theorem Closed.catX {ls : List Rx} (h : ∀ x ∈ ls, allX p x) (ho : (outC ls).length ≤ 2 ^ 40) : allX p (catX ls) := by
  unfold Rx.catX
  split
  · exact hp.nilX
  · split
    · exact hp.empX
    · rename_i hne
      refine all_joinX (fun h1 => hp.cat _ ?_ ho) fun x hx => ?_
      · have : 0 < (outC ls).length := List.length_pos_iff.2 hne
        omega
      · obtain ⟨y, hy, hxy⟩ := mem_outC hx
        exact mem_catF (h y hy) hxy
theorem Closed.altX {ls : List Rx} (h : ∀ x ∈ ls, allX p x) (ho : (outA ls).length ≤ 2 ^ 40) : allX p (altX ls) := by
  unfold Rx.altX
  split
  · exact hp.nilX
  · rename_i hne
    refine all_joinX (fun h1 => hp.alt _ ?_ ho) fun x hx => ?_
    · have : 0 < (outA ls).length := List.length_pos_iff.2 hne
      omega
    · obtain ⟨y, hy, hxy⟩ := mem_outA hx
      exact mem_altF (h y hy) hxy
theorem Closed.hdX {r : Rx} (h : allX p r) : allX p (hdX r) := by
  unfold Rx.hdX
  cases hl : r.subs with
  | nil => exact hp.nilX
  | cons x l => exact (allX_iff.1 h).2 x (by rw [hl]; exact List.mem_cons_self ..)
theorem Closed.der (b : Nat) : ∀ (n : Nat) (r : Rx), allX p r → derOk b n r = true → allX p (der b n r)
  | 0, r, _, _ => hp.nilX
  | n + 1, r, h, ho => by
    unfold derOk at ho
    unfold Rx.der
    have hh := hp.hdX h
    split
    · split
      · exact hp.empX
      · exact hp.nilX
    · split
      · rename_i h5
        rw [if_pos h5, Bool.and_eq_true, catOk_iff] at ho
        have := Closed.der b n _ hh ho.1
        exact hp.catX (fun x hx => by
          rcases List.mem_cons.1 hx with rfl | hx
          · exact this
          · rw [List.mem_singleton.1 hx]; exact h) ho.2
      · rename_i h5
        rw [if_neg h5] at ho
        split
        · rename_i h4
          rw [if_pos h4, Bool.and_eq_true, altOk_iff] at ho
          refine hp.altX (fun x hx => ?_) ho.2
          obtain ⟨y, hy, rfl⟩ := List.mem_map.1 hx
          exact Closed.der b n y ((allX_iff.1 h).2 y hy) (List.all_eq_true.1 ho.1 y hy)
        · rename_i h4
          rw [if_neg h4] at ho
          split
          · rename_i h3
            rw [if_pos h3] at ho
            simp only [Bool.and_eq_true, catOk_iff, Bool.or_eq_true, Bool.not_eq_true', altOk_iff] at ho
            obtain ⟨o1, o2, o3, o4⟩ := ho
            have hrest : allX p (Rx.catX r.subs.tail) := hp.catX (fun x hx => (allX_iff.1 h).2 x (List.mem_of_mem_tail hx)) o2
            have hfirst : allX p (Rx.catX [Rx.der b n (Rx.hdX r), Rx.catX r.subs.tail]) := hp.catX (fun x hx => by
              rcases List.mem_cons.1 hx with rfl | hx
              · exact Closed.der b n _ hh o1
              · rw [List.mem_singleton.1 hx]; exact hrest) o3
            split
            · rename_i hn
              rcases o4 with o4 | ⟨o4, o5⟩
              · rw [hn] at o4; cases o4
              · refine hp.altX (fun x hx => ?_) o5
                rcases List.mem_cons.1 hx with rfl | hx
                · exact hfirst
                · rw [List.mem_singleton.1 hx]; exact Closed.der b n _ hrest o4
            · exact hfirst
          · exact hp.nilX
end
theorem closed_node : Closed nodeOk := by
  have hw : ∀ (k : Int) (l : List Rx), ∀ i < 4, 0 ≤ (mk0 k l).w i ∧ (mk0 k l).w i < 2 ^ 64 := fun k l i hi => by
    rcases (show i = 0 ∨ i = 1 ∨ i = 2 ∨ i = 3 by omega) with rfl | rfl | rfl | rfl <;> exact ⟨Int.le_refl _, (by decide : (0 : Int) < 2 ^ 64)⟩
  refine ⟨⟨rfl, hw _ _⟩, ⟨rfl, hw _ _⟩, fun l h _ => ⟨?_, hw _ _⟩, fun l h _ => ⟨?_, hw _ _⟩⟩
  · simp [nodeErr, mk0, Rx.kind, Rx.w, Rx.subs]; omega
  · simp [nodeErr, mk0, Rx.kind, Rx.w, Rx.subs]; omega
def lenOk (r : Rx) : Prop := r.subs.length ≤ 2 ^ 40
theorem closed_len : Closed lenOk := ⟨Nat.zero_le _, Nat.zero_le _, fun l _ h => h, fun l _ h => h⟩
theorem lens_all : ∀ (n : Nat) (r : Rx), size r ≤ n → (lens (2 ^ 40) r ↔ allX lenOk r)
  | 0, r, h => by have := size_pos r; omega
  | n + 1, r, h => by
    rw [lens_iff, allX_iff]
    refine and_congr Iff.rfl (forall_congr' fun x => ?_)
    refine ⟨fun h1 hx => ?_, fun h1 hx => ?_⟩
    · obtain ⟨i, hi, rfl⟩ := List.mem_iff_getElem.1 hx
      exact (lens_all n _ (by have := size_sub hi; omega)).1 (h1 hx)
    · obtain ⟨i, hi, rfl⟩ := List.mem_iff_getElem.1 hx
      exact (lens_all n _ (by have := size_sub hi; omega)).2 (h1 hx)
theorem lens_iff_all (r : Rx) : lens (2 ^ 40) r ↔ allX lenOk r := lens_all _ r (Nat.le_refl _)
theorem der_lens {b n : Nat} {r : Rx} (h : lens (2 ^ 40) r) (ho : derOk b n r = true) : lens (2 ^ 40) (der b n r) := (lens_iff_all _).2 (closed_len.der b n r ((lens_iff_all _).1 h) ho)
theorem catX_lens {ls : List Rx} (h : ∀ x ∈ ls, lens (2 ^ 40) x) (ho : (outC ls).length ≤ 2 ^ 40) : lens (2 ^ 40) (catX ls) := (lens_iff_all _).2 (closed_len.catX (fun x hx => (lens_iff_all _).1 (h x hx)) ho)
theorem node_kinds {r : Rx} (h : nodeErr r = 0) : 0 ≤ r.kind ∧ r.kind ≤ 5 ∧ ((r.kind = 3 ∨ r.kind = 4) → 2 ≤ r.subs.length) ∧ (r.kind = 5 → r.subs.length = 1) ∧ (r.kind < 3 → r.subs = []) := by
  unfold nodeErr at h
  split at h
  · omega
  · rename_i h1
    split at h
    · split at h
      · omega
      · refine ⟨by omega, by omega, fun _ => by omega, fun _ => by omega, fun _ => by omega⟩
    · split at h
      · split at h
        · omega
        · refine ⟨by omega, by omega, fun _ => by omega, fun _ => by omega, fun _ => by omega⟩
      · split at h
        · omega
        · refine ⟨by omega, by omega, fun _ => by omega, fun _ => by omega, fun _ => List.length_eq_zero_iff.1 (by omega)⟩
theorem hdX_get {r : Rx} (h : 0 < r.subs.length) : hdX r = r.subs[0] := by
  unfold hdX
  generalize r.subs = l at h
  cases l with
  | nil => cases h
  | cons x l => rfl
theorem encs_tail : ∀ l : List Rx, gSub (encs l) 1 (l.length : Int) = encs l.tail := fun l => by
  unfold gSub
  rw [List.take_of_length_le (by simp)]
  cases l with
  | nil => rfl
  | cons x l => rfl
theorem encs2 (a b : Rx) : [enc a, enc b] = encs [a, b] := rfl
theorem c41 : ∀ (n : Nat) (b : Nat) (r : Rx), b < 256 → size r ≤ n → allX nodeOk r → lens (2 ^ 40) r → derOk b n r = true → Holds Try.prog 41 [A.agg (enc r), A.d (.lit (.int .u8 b))] [] (Ret (encA (der b n r))) := by
  intro n
  induction n with
  | zero => intro b r _ h; have := size_pos r; omega
  | succ n ih =>
    intro b r hb hs hno hl ho
    have hnode := (allX_iff.1 hno).1
    have hkinds := node_kinds hnode.1
    have hll := (lens_iff.1 hl).1
    unfold derOk at ho
    refine w41 (enc r) b ⟨teq6 r, by simp, fun h2 => ?_, fun h2 => ⟨fun h5 => ?_, fun h5 => ⟨fun h4 => ?_, fun h4 => ⟨fun h3 => ?_, fun h3 => ?_⟩⟩⟩⟩
    · rw [enc0, dint_int] at h2
      have h2 := of_teq h2
      rw [enc1, enc2, enc3, enc4]
      refine call1 (c55w r b hb hnode.2) ⟨_, rfl, rfl, fun h => ?_, fun h => ?_⟩
      · have : der b (n + 1) r = empX := by unfold der; rw [if_pos h2, h]; rfl
        rw [this]; exact ⟨rfl, rfl⟩
      · have : der b (n + 1) r = nilX := by unfold der; rw [if_pos h2, h]; rfl
        rw [this]; exact ⟨rfl, rfl⟩
    · rw [enc0, dint_int] at h2 h5
      have h2 := of_feq h2
      have h5 := of_teq h5
      rw [if_pos h5, Bool.and_eq_true, catOk_iff] at ho
      have h1 : 0 < r.subs.length := by have := hkinds.2.2.2.1 h5; omega
      have hsub := size_sub h1
      rw [enc5, dlst_slc, gAt_encs (x := 0) (i := 0) rfl h1, ← hdX_get h1]
      have hx := ih b (hdX r) hb (by rw [hdX_get h1]; omega) (closed_node.hdX hno) (by rw [hdX_get h1]; exact lens_sub hl h1) ho.1
      refine ⟨by simp, tlt (by simp; omega), teq6 _, _, fun _ => hx, teq6 _, ?_⟩
      rw [show [enc (der b n (hdX r)), enc r] = encs [der b n (hdX r), r] from rfl]
      have : der b (n + 1) r = catX [der b n (hdX r), r] := by
        conv => lhs; unfold der
        rw [if_neg h2, if_pos h5]
      rw [this]
      exact call1 (c56 _ (by simp) ho.2) ⟨_, rfl, rfl, teq6 _, rfl, rfl⟩
    · rw [enc0, dint_int] at h2 h5 h4
      have h2 := of_feq h2
      have h5 := of_feq h5
      have h4 := of_teq h4
      rw [if_neg h5, if_pos h4, Bool.and_eq_true, altOk_iff] at ho
      have h1 : 0 < r.subs.length := by have := hkinds.2.2.1 (.inr h4); omega
      have hder : der b (n + 1) r = altX (r.subs.map (der b n)) := by
        conv => lhs; unfold der
        rw [if_neg h2, if_neg h5, if_pos h4]
      have hcall : ∀ i (h : i < r.subs.length), Holds Try.prog 41 [A.agg (enc r.subs[i]), A.d (.lit (.int .u8 b))] [] (Ret (encA (der b n r.subs[i]))) := fun i h =>
        ih b _ hb (by have := size_sub h; omega) ((allX_iff.1 hno).2 _ (List.getElem_mem h)) (lens_sub hl h) (List.all_eq_true.1 ho.1 _ (List.getElem_mem h))
      have hfin : Holds Try.prog 57 [A.d (.slc (encs (r.subs.map (der b n))))] [] (Ret (encA (altX (r.subs.map (der b n))))) := c57 _ (by simpa using hll) (fun x hx => by
        obtain ⟨y, hy, rfl⟩ := List.mem_map.1 hx
        exact der_lens ((lens_iff.1 hl).2 y hy) (List.all_eq_true.1 ho.1 y hy)) ho.2
      rw [hder, enc5, dlst_slc]
      refine ⟨rfl, True, r.subs.length, fun o x _ _ _ _ _ _ => ∃ i : Nat, x = i ∧ i ≤ r.subs.length ∧ o = encs ((r.subs.take i).map (der b n)), fun _ x _ _ _ _ _ _ => r.subs.length - x.toNat, trivial, fun _ => ⟨fun hp => ?_, fun hp => ?_⟩, ?_, trivial⟩
      · rw [gAt_encs (x := 0) (i := 0) rfl h1]
        refine ⟨teq6 _, call1 (hcall 0 h1) ⟨_, rfl, rfl, teq6 _, flat1 _, tle (by simp), tle (by simp), ⟨1, rfl, h1, ?_⟩, by simp; omega⟩⟩
        rw [take_snoc _ _ h1]; rfl
      · have hp := of_flt hp
        rw [encs_length] at hp
        omega
      · rintro o x _ _ _ _ _ _ ⟨i, rfl, hi, rfl⟩
        refine ⟨fun hp => ?_, fun hp => ?_⟩
        · have hp := of_tlt hp
          rw [encs_length] at hp
          have hp1 : i < r.subs.length := by omega
          rw [gAt_encs rfl hp1]
          refine ⟨tle (by omega), teq6 _, call1 (hcall i hp1) ⟨_, rfl, rfl, teq6 _, flat1 _, tle (by simp; omega), tle (by simp; omega), tle (by omega), tle (by omega), ⟨i + 1, rfl, hp1, ?_⟩, by simp only [Int.toNat_natCast]; omega⟩⟩
          rw [take_snoc _ _ hp1, List.map_append, ← encs_append]; rfl
        · have hp := of_flt hp
          rw [encs_length] at hp
          rw [List.take_of_length_le (show r.subs.length ≤ i by omega)]
          exact call1 hfin ⟨_, rfl, rfl, teq6 _, rfl, rfl⟩
    · rw [enc0, dint_int] at h2 h5 h4 h3
      have h2 := of_feq h2
      have h5 := of_feq h5
      have h4 := of_feq h4
      have h3 := of_teq h3
      rw [if_neg h5, if_neg h4, if_pos h3] at ho
      simp only [Bool.and_eq_true, catOk_iff, Bool.or_eq_true, Bool.not_eq_true', altOk_iff] at ho
      obtain ⟨o1, o2, o3, o4⟩ := ho
      have h1 : 2 ≤ r.subs.length := hkinds.2.2.1 (.inl h3)
      have h0 : 0 < r.subs.length := by omega
      have hne : r.subs ≠ [] := fun e => by rw [e] at h0; cases h0
      have hsz := size_hd hne
      have hszp := size_pos (hdX r)
      have hszc := size_catX r.subs.tail
      have hlh : lens (2 ^ 40) (hdX r) := by rw [hdX_get h0]; exact lens_sub hl h0
      have hlt : ∀ x ∈ r.subs.tail, lens (2 ^ 40) x := fun x hx => (lens_iff.1 hl).2 x (List.mem_of_mem_tail hx)
      have hlr := catX_lens hlt o2
      have hnt : ∀ x ∈ r.subs.tail, allX nodeOk x := fun x hx => (allX_iff.1 hno).2 x (List.mem_of_mem_tail hx)
      have hnr := closed_node.catX hnt o2
      have hder : der b (n + 1) r = (if null (hdX r) then altX [catX [der b n (hdX r), catX r.subs.tail], der b n (catX r.subs.tail)] else catX [der b n (hdX r), catX r.subs.tail]) := by
        conv => lhs; unfold der
        rw [if_neg h2, if_neg h5, if_neg h4, if_pos h3]
      rw [hder, enc5, dlst_slc, encs_length, encs_tail, gAt_encs (x := 0) (i := 0) rfl h0, ← hdX_get h0]
      have hx := ih b (hdX r) hb (by omega) (closed_node.hdX hno) hlh o1
      refine ⟨rfl, flatE _, tle (by omega), tle (by omega), call1 (c56 r.subs.tail (by simp; omega) o2) ⟨_, rfl, rfl, teq6 _, tlt (by omega), teq6 _, _, fun _ => hx, teq6 _, ?_⟩⟩
      rw [show [enc (der b n (hdX r)), enc (catX r.subs.tail)] = encs [der b n (hdX r), catX r.subs.tail] from rfl]
      refine ⟨_, fun _ => c56 _ (by simp) o3, teq6 _, call1 (c42 _ (hdX r) (Nat.le_refl _) hlh) ⟨_, rfl, rfl, fun hn => ?_, fun hn => ?_⟩⟩
      · rcases o4 with o4 | ⟨o4, o5⟩
        · rw [hn] at o4; cases o4
        · have hy := ih b (catX r.subs.tail) hb (by omega) hnr hlr o4
          refine ⟨_, fun _ => hy, teq6 _, ?_⟩
          rw [show [enc (catX [der b n (hdX r), catX r.subs.tail]), enc (der b n (catX r.subs.tail))] = encs [catX [der b n (hdX r), catX r.subs.tail], der b n (catX r.subs.tail)] from rfl, hn]
          refine call1 (c57 _ (by simp) (fun x hx => ?_) o5) ⟨_, rfl, rfl, teq6 _, rfl, rfl⟩
          rcases List.mem_cons.1 hx with rfl | hx
          · refine catX_lens (fun y hy => ?_) o3
            rcases List.mem_cons.1 hy with rfl | hy
            · exact der_lens hlh o1
            · rw [List.mem_singleton.1 hy]; exact hlr
          · rw [List.mem_singleton.1 hx]; exact der_lens hlr o4
      · rw [hn]
        exact ⟨rfl, rfl⟩
    · rw [enc0, dint_int] at h2 h5 h4 h3
      have h2 := of_feq h2
      have h5 := of_feq h5
      have h4 := of_feq h4
      have h3 := of_feq h3
      have : der b (n + 1) r = nilX := by unfold der; rw [if_neg h2, if_neg h5, if_neg h4, if_neg h3]
      rw [this]; exact ⟨rfl, rfl⟩
end Go.Rx
end
section
open Go Go.Proofs Go.Ab Go.Rf
set_option maxRecDepth 100000
namespace Go.Rx
def rangeOk (r : Rx) : Prop := ∀ i < 4, 0 ≤ r.w i ∧ r.w i < 2 ^ 64
theorem chk_nodes : ∀ (n : Nat) (r : Rx) (lvl : Int), size r ≤ n → chk lvl r = 0 → allX (fun r => nodeErr r = 0) r
  | 0, r, _, h, _ => by have := size_pos r; omega
  | n + 1, r, lvl, h, hc => by
    rw [chk_eq] at hc
    split at hc
    · cases hc
    · split at hc
      · rename_i hne; exact absurd hc hne
      · rename_i hne
        refine allX_iff.2 ⟨by omega, fun x hx => ?_⟩
        obtain ⟨i, hi, rfl⟩ := List.mem_iff_getElem.1 hx
        refine chk_nodes n _ (lvl + 1) (by have := size_sub hi; omega) ?_
        have key : ∀ (l : List Rx), chks (lvl + 1) l = 0 → ∀ j (hj : j < l.length), chk (lvl + 1) l[j] = 0 := fun l => by
          induction l with
          | nil => intro _ j hj; cases hj
          | cons y l ih =>
            intro h j hj
            simp only [chks] at h
            split at h
            · rename_i hy; exact absurd h hy
            · rename_i hy
              cases j with
              | zero => show chk (lvl + 1) y = 0; omega
              | succ j => exact ih h j (by simpa using hj)
        exact key _ hc i hi
theorem allX_and {p q : Rx → Prop} : ∀ (n : Nat) (r : Rx), size r ≤ n → allX p r → allX q r → allX (fun r => p r ∧ q r) r
  | 0, r, h, _, _ => by have := size_pos r; omega
  | n + 1, r, h, h1, h2 => by
    rw [allX_iff] at h1 h2 ⊢
    refine ⟨⟨h1.1, h2.1⟩, fun x hx => ?_⟩
    obtain ⟨i, hi, rfl⟩ := List.mem_iff_getElem.1 hx
    exact allX_and n _ (by have := size_sub hi; omega) (h1.2 _ hx) (h2.2 _ hx)
theorem nodes_of {r : Rx} (hr : allX rangeOk r) (hc : chk 1 r = 0) : allX nodeOk r := allX_and _ r (Nat.le_refl _) (chk_nodes _ r 1 (Nat.le_refl _) hc) hr
def D1 (r : Rx) (b : UInt8) : Rx := der b.toNat (size r) r
def ok1 (r : Rx) (b : UInt8) : Bool := derOk b.toNat (size r) r
def derS (r : Rx) (s : List UInt8) : Rx := s.foldl D1 r
def matchOk : Rx → List UInt8 → Bool
  | _, [] => true
  | r, b :: s => ok1 r b && matchOk (D1 r b) s
def matchV (r : Rx) (s : List UInt8) : Bool := decide (chk 1 r = 0) && null (derS r s)
theorem gByte_get {s : List UInt8} {i : Nat} (h : i < s.length) : gByte s (i : Int) = (s[i].toNat : Nat) := by
  simp [gByte, List.getD, h]
theorem c24 (r : Rx) (s : List UInt8) (hr : allX rangeOk r) (hl : lens (2 ^ 40) r) (hs : s.length ≤ 2 ^ 40) (hok : chk 1 r = 0 → matchOk r s = true) : Holds Try.prog 24 [A.agg (enc r), A.d (.lit (bytesV s))] [] (Ret (boolA (matchV r s))) := by
  refine w24 (enc r) s ⟨teq6 r, call1 (c15 r hl) ⟨_, rfl, rfl, fun hc => ?_, fun hc => ?_⟩⟩
  · have hc := nteq hc
    have : matchV r s = false := by unfold matchV; rw [decide_eq_false hc]; rfl
    rw [this]; exact ⟨rfl, rfl⟩
  · have hc := nfeq hc
    have hm := hok hc
    have hno := nodes_of hr hc
    refine ⟨fun x a b c d e f => ∃ i : Nat, ∃ q, x = i ∧ i ≤ s.length ∧ [a, b, c, d, e, f] = enc q ∧ q = derS r (s.take i) ∧ allX nodeOk q ∧ lens (2 ^ 40) q ∧ matchOk q (s.drop i) = true, fun x _ _ _ _ _ _ => s.length - x.toNat, ⟨0, r, rfl, Nat.zero_le _, enc_cells r, rfl, hno, hl, hm⟩, ?_, trivial⟩
    rintro x a b c d e f ⟨i, q, rfl, hi, he, hq, hno, hl, hm⟩
    refine ⟨fun hp => ?_, fun hp => ?_⟩
    · have hp := of_tlt hp
      have hp1 : i < s.length := by omega
      rw [gByte_get hp1, he]
      have hd : s.drop i = s[i] :: s.drop (i + 1) := by rw [List.drop_eq_getElem_cons hp1]
      rw [hd] at hm
      simp only [matchOk, Bool.and_eq_true] at hm
      refine ⟨tle (by omega), call1 (c41 (size q) s[i].toNat q s[i].toNat_lt (Nat.le_refl _) hno hl hm.1) ⟨_, rfl, rfl, teq6 _, tle (by omega), tle (by omega), ⟨i + 1, D1 q s[i], rfl, hp1, enc_cells _, ?_, closed_node.der _ _ _ hno hm.1, der_lens hl hm.1, hm.2⟩, by simp only [Int.toNat_natCast]; omega⟩⟩
      rw [take_snoc _ _ hp1]
      show _ = ((s.take i ++ [s[i]]).foldl D1 r)
      rw [List.foldl_append, hq]; rfl
    · have hp := of_flt hp
      rw [List.take_of_length_le (show s.length ≤ i by omega)] at hq
      rw [he]
      refine call1 (c42 _ q (Nat.le_refl _) hl) ⟨_, rfl, rfl, ?_⟩
      have : matchV r s = null q := by unfold matchV; rw [decide_eq_true hc, hq]; rfl
      rw [this]; exact ⟨rfl, rfl⟩
def deriveV (r : Rx) (b : UInt8) : Rx := if chk 1 r = 0 then D1 r b else nilX
theorem c29 (r : Rx) (b : UInt8) (hr : allX rangeOk r) (hl : lens (2 ^ 40) r) (hok : chk 1 r = 0 → ok1 r b = true) : Holds Try.prog 29 [A.agg (enc r), A.d (.lit (.int .u8 b.toNat))] [] (Ret (encA (deriveV r b))) := by
  refine w29 (enc r) b.toNat ⟨teq6 r, call1 (c15 r hl) ⟨_, rfl, rfl, fun hc => ?_, fun hc => ?_⟩⟩
  · have hc := nteq hc
    have : deriveV r b = nilX := by unfold deriveV; rw [if_neg hc]
    rw [this]; exact ⟨rfl, rfl⟩
  · have hc := nfeq hc
    have : deriveV r b = D1 r b := by unfold deriveV; rw [if_pos hc]
    rw [this]
    exact call1 (c41 (size r) b.toNat r b.toNat_lt (Nat.le_refl _) (nodes_of hr hc) hl (hok hc)) ⟨_, rfl, rfl, teq6 _, rfl, rfl⟩
end Go.Rx
end
section
open Go Go.Proofs Go.Ab Go.Rf Go.ChangeShapes Go.WideShapes
set_option maxRecDepth 100000
namespace Go.Rx
theorem cells27 : Try.prog.cellsOf 27 = 6 := by kernel_rfl
theorem cells3 : Try.prog.cellsOf 3 = 1 := by kernel_rfl
theorem cells24 : Try.prog.cellsOf 24 = 4 := by kernel_rfl
theorem cells25 : Try.prog.cellsOf 25 = 1 := by kernel_rfl
theorem cells22 : Try.prog.cellsOf 22 = 1 := by kernel_rfl
def prW (w : World) : Nat → Nat → Prop := fun b _ => b < w.heap.size
def ghW (w : World) : Gh := ⟨prW w, fun _ => 0, fun _ => 0, fun _ => False⟩
theorem cell_lt {w : World} {a : Addr} {v : Value} (h : w.cell? a = some v) : a.block < w.heap.size := by
  unfold World.cell? at h
  by_cases hb : a.block < w.heap.size
  · exact hb
  · simp [Array.getElem?_eq_none (by omega : w.heap.size ≤ a.block)] at h
theorem Holds.out {P : Program} {f : FuncId} {args : List A} {v : A} (h : Holds P f args [] (Ret v)) {w : World} {cargs : Array Value}
    (ha : All2 (fun x v => ∀ p, RepA w (ghW w) (fun _ => 0) p x v) args cargs.toList) :
    CallsX P f cargs w fun e w' => ∃ cv g', e = .returned cv ∧ RepA w' g' (fun _ => 0) .res v cv ∧ RowKit.Below w.heap.size w w' := by
  have hh : HeapRel (entryCtx P w (ghW w) [] 0) (boxSt []) (ghW w) w := by
    have no : ∀ {o b}, ¬ Owns (boxSt []) (ghW w) o b := fun ho => by
      cases ho with
      | box h => cases h
      | slot h => cases h
      | cell h _ _ => cases h
    exact ⟨fun r c h => (by cases h), fun o o' b h _ => (no h).elim, fun o b h => (no h).elim, fun b o h => h, fun _ _ h => h, fun _ _ h => .inl h, fun _ => rfl, fun _ h => h, Fr.refl _ _ _⟩
  refine (h w cargs (ghW w) ha hh).mono fun e w' ⟨out, H', g', hR, hH, hr, he⟩ => ?_
  obtain ⟨rfl, rfl⟩ := hR
  obtain ⟨cv, rfl, h1, _⟩ := he
  refine ⟨cv, g', rfl, h1, hr.fr.os, hr.fr.tape, hr.fr.output, hr.fr.size, fun b hb => hr.fr.same b hb ?_⟩
  rintro ⟨o, ho⟩
  cases ho with
  | box h => cases h
  | slot h => cases h
  | cell h _ _ => cases h
theorem callsX_body {P : Program} {f : FuncId} {fn : Func} {c : Code} (hf : P.funcs[f]? = some fn) (hb : fn.body = some c) (hn : (fn.name == "runtime.NumGoroutine") = false) {args : Array Value} {w : World} {R : Ending → World → Prop}
    (h : CallsX P f args w R) : Calls P f args w R := by
  unfold CallsX at h
  rw [run_callFunc hf hb hn] at h
  exact h
theorem wf_i64 {n : Int} (h : (Lit.int .i64 n).wf = true) : -2 ^ 63 ≤ n ∧ n < 2 ^ 63 := by
  have := bounds_i64 h; omega
theorem wf_u64 {n : Int} (h : (Lit.int .u64 n).wf = true) : 0 ≤ n ∧ n < 2 ^ 64 := by
  have := bounds_u64 h; omega
section
variable {H : Type} {en : TypeId × Value → H} {w : World}
theorem cells_get {a : Addr} {n : Nat} {cs : List Value} (h : w.cells? 0 a n = some cs) : cs.length = n ∧ ∀ i, i < n → w.cell? (a.add i) = cs[i]? := by
  unfold World.cells? at h
  rw [if_pos (Nat.zero_le _)] at h
  have hl := mapM_some_length h
  simp only [List.length_range] at hl
  refine ⟨hl, fun i hi => mapM_some_get h i i (by simp [hi])⟩
theorem open_word {fuel : Nat} {k : IntKind} {t : TypeId} {v : Value} {x : DataW H × List MemPlace} (ht : Try.prog.underlying t = some (.int k)) (h : DataW.trod en Try.prog w 0 (fun _ => true) true fuel t [v] = some x) :
    ∃ n, v = .int k n ∧ (Lit.int k n).wf = true := by
  obtain ⟨n, h1, _, h2⟩ := DataW.trod_int ht h
  exact ⟨n, by simpa using h1, h2⟩
theorem enc_mk (k a b c d : Int) (l : List Rx) : enc (.mk k a b c d l) = [.lit (.int .i64 k), .lit (.int .u64 a), .lit (.int .u64 b), .lit (.int .u64 c), .lit (.int .u64 d), .slc (encs l)] := by unfold enc; rfl
theorem slc_rx {b off cap : Nat} (l : List Rx) (hc : l.length ≤ cap) (V : Nat → List Value) (h : ∀ i (hi : i < l.length), (V i).length = 6 ∧ All2 (RepD w (prW w)) (enc l[i]) (V i) ∧ ∀ j, j < 6 → w.cell? ⟨b, off + (i * 6 + j), none⟩ = (V i)[j]?) :
    RepD w (prW w) (.slc (encs l)) (.slice (some ⟨b, off, none⟩) l.length cap) := by
  have hk : ∀ k, k < l.length * 6 → w.cell? ⟨b, off + k, none⟩ = some ((V (k / 6)).getD (k % 6) .nilIface) := by
    intro k hk
    have hi : k / 6 < l.length := by omega
    obtain ⟨h1, _, h3⟩ := h _ hi
    have := h3 (k % 6) (Nat.mod_lt _ (by decide))
    rw [show k / 6 * 6 + k % 6 = k by omega] at this
    rw [this, List.getElem?_eq_getElem (by rw [h1]; exact Nat.mod_lt _ (by decide))]
    simp [List.getD, List.getElem?_eq_getElem (show k % 6 < (V (k / 6)).length by rw [h1]; exact Nat.mod_lt _ (by decide))]
  have hlen := encs_length l
  rw [← hlen]
  refine .slc (encs l) 6 b off cap _ (by decide) ?_ (by rw [hlen]; exact hc) (fun k hk' => hk k (by rw [hlen] at hk'; exact hk')) (fun k hk' => cell_lt (hk k (by rw [hlen] at hk'; exact hk'))) ?_
  · intro e he
    obtain ⟨i, hi, rfl⟩ := List.getElem_of_mem he
    have := encs_get l i
    rw [List.getElem?_eq_getElem hi, List.getElem?_eq_getElem (by rw [hlen] at hi; exact hi)] at this
    rw [Option.some.inj this]; exact enc_length _
  · intro i j hi hj
    have hi' : i < l.length := by rw [hlen] at hi; exact hi
    have e : (encs l)[i] = enc l[i] := by
      have := encs_get l i
      rw [List.getElem?_eq_getElem hi, List.getElem?_eq_getElem hi'] at this
      exact Option.some.inj this
    have hj' : j < 6 := by rw [e, enc_length] at hj; exact hj
    obtain ⟨h1, h2, _⟩ := h i hi'
    have hje : j < (enc l[i]).length := by rw [enc_length]; exact hj'
    obtain ⟨v, hv, hr⟩ := all2_get h2 j ((enc l[i])[j]) (List.getElem?_eq_getElem hje)
    rw [show (i * 6 + j) / 6 = i by omega, show (i * 6 + j) % 6 = j by omega]
    simp only [e]
    simpa [List.getD, hv] using hr
theorem open_rx (fuel : Nat) : ∀ (cs : List Value) (x : DataW H × List MemPlace), DataW.trod en Try.prog w 0 (fun _ => true) true fuel 27 cs = some x →
    ∃ r : Rx, cs.length = 6 ∧ All2 (RepD w (prW w)) (enc r) cs ∧ allX rangeOk r := by
  induction fuel using Nat.strongRecOn with
  | ind fuel ih =>
    intro cs x h
    obtain ⟨xs, n, rfl, rfl, hl, hxs, hf⟩ := DataW.trod_struct Try.underlying27 h
    rw [cells27] at hl
    match cs, hl with
    | [v0, v1, v2, v3, v4, v5], _ =>
      match xs, hxs with
      | [y0, y1, y2], _ =>
        have h0 : DataW.trod en Try.prog w 0 (fun _ => true) true n 3 ((([v0, v1, v2, v3, v4, v5] : List Value).drop 0).take (Try.prog.cellsOf 3)) = some y0 := hf 0 _ rfl
        have h1 : DataW.trod en Try.prog w 0 (fun _ => true) true n 24 ((([v0, v1, v2, v3, v4, v5] : List Value).drop 1).take (Try.prog.cellsOf 24)) = some y1 := hf 1 _ rfl
        have h2 : DataW.trod en Try.prog w 0 (fun _ => true) true n 25 ((([v0, v1, v2, v3, v4, v5] : List Value).drop 5).take (Try.prog.cellsOf 25)) = some y2 := hf 2 _ rfl
        rw [cells3] at h0
        rw [cells24] at h1
        rw [cells25] at h2
        obtain ⟨k, rfl, hk⟩ := open_word Try.underlying3 h0
        obtain ⟨zs, m, rfl, _, _, hzs, hz⟩ := DataW.trod_array Try.underlying24 h1
        match zs, hzs with
        | [z0, z1, z2, z3], _ =>
          have g0 := hz 0 (by decide)
          have g1 := hz 1 (by decide)
          have g2 := hz 2 (by decide)
          have g3 := hz 3 (by decide)
          rw [cells22] at g0 g1 g2 g3
          obtain ⟨a, rfl, ha⟩ := open_word Try.underlying22 g0
          obtain ⟨b, rfl, hb⟩ := open_word Try.underlying22 g1
          obtain ⟨c, rfl, hc⟩ := open_word Try.underlying22 g2
          obtain ⟨d, rfl, hd⟩ := open_word Try.underlying22 g3
          have key : ∀ l : List Rx, RepD w (prW w) (.slc (encs l)) v5 → (∀ r ∈ l, allX rangeOk r) → ∃ r : Rx, ([Value.int .i64 k, .int .u64 a, .int .u64 b, .int .u64 c, .int .u64 d, v5] : List Value).length = 6 ∧ All2 (RepD w (prW w)) (enc r) [Value.int .i64 k, .int .u64 a, .int .u64 b, .int .u64 c, .int .u64 d, v5] ∧ allX rangeOk r := by
            intro l hl hal
            refine ⟨.mk k a b c d l, rfl, ?_, ?_⟩
            · rw [enc_mk]
              exact ⟨.lit _ rfl, .lit _ rfl, .lit _ rfl, .lit _ rfl, .lit _ rfl, hl, trivial⟩
            · refine allX_iff.2 ⟨?_, hal⟩
              intro i hi
              match i, hi with
              | 0, _ => exact wf_u64 ha
              | 1, _ => exact wf_u64 hb
              | 2, _ => exact wf_u64 hc
              | 3, _ => exact wf_u64 hd
          rcases DataW.trod_slice Try.underlying25 h2 with ⟨e, _⟩ | ⟨ad, len, cap, elems, rest, q, hq, e, _, _, hlc, _, hel, hes, _⟩
          · have e : v5 = .slice none 0 0 := by simpa using e
            exact key [] (by rw [e]; exact .emp _ _) (fun _ h => by cases h)
          · have e : v5 = .slice (some ad) len cap := by simpa using e
            rw [cells27] at hes
            have hall : ∀ i, i < len → ∃ (r : Rx) (V : List Value), V.length = 6 ∧ All2 (RepD w (prW w)) (enc r) V ∧ allX rangeOk r ∧ ∀ j, j < 6 → w.cell? ((ad.add (i * 6)).add j) = V[j]? := by
              intro i hi
              have h3 := hes i hi
              rw [List.getElem?_eq_getElem (by omega)] at h3
              obtain ⟨cs', h4, h5⟩ := Option.bind_eq_some_iff.1 h3
              obtain ⟨r, h6, h7, h8⟩ := ih q (by omega) _ _ h5
              exact ⟨r, cs', h6, h7, h8, (cells_get h4).2⟩
            have hall' : ∃ (f : Nat → Rx) (V : Nat → List Value), ∀ i, i < len → (V i).length = 6 ∧ All2 (RepD w (prW w)) (enc (f i)) (V i) ∧ allX rangeOk (f i) ∧ ∀ j, j < 6 → w.cell? ((ad.add (i * 6)).add j) = (V i)[j]? := by
              classical
              refine ⟨fun i => if h : i < len then (hall i h).choose else .mk 0 0 0 0 0 [], fun i => if h : i < len then (hall i h).choose_spec.choose else [], fun i hi => ?_⟩
              simp only [hi, dif_pos]
              exact (hall i hi).choose_spec.choose_spec
            obtain ⟨f, V, hfV⟩ := hall'
            subst e
            have hmem : ∀ r ∈ (List.range len).map f, allX rangeOk r := by
              intro r hr
              obtain ⟨i, hi, rfl⟩ := List.mem_map.1 hr
              exact (hfV i (List.mem_range.1 hi)).2.2.1
            refine key ((List.range len).map f) ?_ hmem
            by_cases h0 : len = 0
            · subst h0; exact .emp _ _
            · have sp : ad.spot = none := by
                have := (hfV 0 (by omega)).2.2.2 0 (by decide)
                rw [List.getElem?_eq_getElem (by rw [(hfV 0 (by omega)).1]; decide)] at this
                simpa [Addr.add] using World.cell?_spot this
              obtain ⟨bb, off, spot⟩ := ad
              subst sp
              have := slc_rx (w := w) (b := bb) (off := off) (cap := cap) ((List.range len).map f) (by simpa using hlc) V (fun i hi => by
                have hi' : i < len := by simpa using hi
                obtain ⟨k1, k2, _, k4⟩ := hfV i hi'
                refine ⟨k1, by simpa using k2, fun j hj => ?_⟩
                rw [← k4 j hj, ← Go.WideShapes.add_plain, Go.Deep.add_add])
              simpa using this
end
end Go.Rx
end
section
open Go Go.Proofs Go.Ab Go.Rf Go.ChangeShapes Go.WideShapes
set_option maxRecDepth 100000
namespace Go.Rx
def nilArg : Value := .agg #[.int .i64 0, .int .u64 0, .int .u64 0, .int .u64 0, .int .u64 0, .slice none 0 0]
theorem lay : laidOutB Try.prog = true := by kernel_rfl
theorem own : ownKnob Try.prog.godebug = none := by kernel_rfl
section
variable {H : Type} {en : TypeId × Value → H} {w : World} {base : Nat} {sp : Nat → Bool}
theorem arg_rx {v : Value} {d : DataW H} {p : List MemPlace} (hv : Value.okWide Try.prog w .any base 27 v) (h : DataW.Trod en Try.prog w 0 (fun _ => true) true 27 v d p) :
    ∃ r : Rx, (∀ q, RepA w (ghW w) (fun _ => 0) q (.agg (enc r)) v) ∧ allX rangeOk r := by
  obtain ⟨fuel, h⟩ := h
  simp only [Value.okWide, Try.underlying27] at hv
  obtain ⟨cs, rfl, _⟩ := hv
  obtain ⟨r, _, h2, h3⟩ := open_rx fuel _ _ h
  exact ⟨r, fun q => ⟨cs.toList, by simp, h2⟩, h3⟩
theorem arg_str {t : TypeId} {v : Value} {d : DataW H} {p : List MemPlace} (ht : Try.prog.underlying t = some .string) (hv : Value.okWide Try.prog w .any base t v) (h : DataW.Trod en Try.prog w 0 (fun _ => true) true t v d p) :
    ∃ s : List UInt8, ∀ q, RepA w (ghW w) (fun _ => 0) q (.d (.lit (bytesV s))) v := by
  obtain ⟨fuel, h⟩ := h
  obtain ⟨s, h1, _⟩ := DataW.trod_string ht h
  have : v = .string s := by
    simp only [Value.okWide, ht, Cell.okWide, Cell.ok] at hv
    cases v <;> simp_all [Value.cells]
  subst this
  refine ⟨s.data.toList, fun q => ?_⟩
  have : bytesV s.data.toList = .string s := by simp [bytesV]
  rw [this]; exact .lit _ rfl
theorem arg_int {t : TypeId} {k : IntKind} {v : Value} {d : DataW H} {p : List MemPlace} (ht : Try.prog.underlying t = some (.int k)) (hv : Value.okWide Try.prog w .any base t v) (h : DataW.Trod en Try.prog w 0 (fun _ => true) true t v d p) :
    ∃ n : Int, (Lit.int k n).wf = true ∧ ∀ q, RepA w (ghW w) (fun _ => 0) q (.d (.lit (.int k n))) v := by
  obtain ⟨fuel, h⟩ := h
  obtain ⟨n, h1, _, h2⟩ := DataW.trod_int ht h
  have : v = .int k n := by
    simp only [Value.okWide, ht, Cell.okWide, Cell.ok] at hv
    cases v <;> simp_all [Value.cells]
  subst this
  exact ⟨n, h2, fun q => .lit _ rfl⟩
theorem all_stays (hl : laidOutB Try.prog = true) {W W' : World} : ∀ {ts : List TypeId} {vs : List Value} {ds : List (DataW H)} {ps : List MemPlace}, (∀ t ∈ ts, Try.prog.readableRec t = true ∧ t < Try.prog.types.size) →
    DataW.TrodAll en Try.prog W 0 (fun _ => true) true ts vs ds ps → RowKit.Below W.heap.size W W' → (∀ p ∈ ps, p.block < W.heap.size) → (∀ p ∈ ps, sp p.block = true) → DataW.TrodAll en Try.prog W' 0 sp true ts vs ds ps
  | [], _, _, _, _, h, _, _, _ => by
    obtain ⟨rfl, rfl, rfl⟩ := trodAll_nil h
    rfl
  | t :: ts, _, _, _, ht, h, hb, hlt, hs => by
    obtain ⟨v, vs1, d, ds1, a, b, rfl, rfl, rfl, h1, h2⟩ := trodAll_cons h
    refine ⟨a, b, ?_, all_stays hl (fun t h => ht t (List.mem_cons_of_mem _ h)) h2 hb (fun p hp => hlt p (List.mem_append_right _ hp)) (fun p hp => hs p (List.mem_append_right _ hp)), rfl⟩
    exact WideElems.Trod_stays hl (ht t (List.mem_cons_self ..)).1 (ht t (List.mem_cons_self ..)).2 h1 (fun p hp => hb.same (hlt p (List.mem_append_left _ hp))) (fun p hp => hs p (List.mem_append_left _ hp))
theorem row_post {fn : Func} {s : ChangeSpec} {W W' : World} {args : Array Value} {ds gs : List (DataW H)} {before : List MemPlace} (hvs : s.vars = [])
    (hW : DataW.Whole en Try.prog fn.params.toList s.vars false W args.toList ds gs before) (hres : fn.resultTypes = #[4])
    (hspec : s.fn H ds = ⟨[.lit (.bool true)], ds, []⟩) (hl : laidOutB Try.prog = true) (hrd0 : (fn.params.toList.all fun t => Try.prog.readableRec t && decide (t < Try.prog.types.size)) = true)
    (hb : RowKit.Below W.heap.size W W') : s.post en Try.prog fn false true false false W args (.bool true) W' := by
  have hlt := hW.lt
  have hrd : ∀ t ∈ fn.params.toList, Try.prog.readableRec t = true ∧ t < Try.prog.types.size := fun t ht => by
    have := List.all_eq_true.1 hrd0 t ht
    simpa using this
  obtain ⟨p, q, hA, hV, rfl, hfz, hnd⟩ := id hW
  rw [hvs] at hV
  obtain ⟨rfl, rfl⟩ := trodVars_none hV
  have hold : ∀ x ∈ p ++ [], (fun b => decide (b < W.heap.size)) x.block = true := fun x hx => by simpa using hlt x hx
  have hr : ∀ (b : Nat) (sp : Nat → Bool) (hd : Bool), DataW.TrodAll en Try.prog W' b sp hd fn.resultTypes.toList ((Value.bool true).resultList fn.resultTypes.size) (s.fn H (ds ++ [])).results [] := fun b sp hd => by
    rw [List.append_nil, hspec, hres]
    exact trodAll_cons_mk (RowKit.shut_bool Try.underlying4 _) trodAll_mk0
  have ha : ∀ sp : Nat → Bool, (∀ x ∈ p ++ [], sp x.block = true) → DataW.TrodAll en Try.prog W' 0 sp true fn.params.toList args.toList (s.fn H (ds ++ [])).args p := fun sp hs => by
    rw [List.append_nil, hspec]
    exact all_stays hl hrd hA hb (fun x hx => hlt x (by simpa using hx)) (fun x hx => hs x (by simpa using hx))
  have hv : ∀ sp : Nat → Bool, DataW.TrodVars en Try.prog W' sp s.vars (s.fn H (ds ++ [])).vars [] := fun sp => by
    rw [List.append_nil, hspec, hvs]
    rfl
  refine ⟨ds, [], p ++ [], [], p, [], hW, hr _ _ _, ha _ hold, hv _, hb.frame _, fun _ => ⟨RowKit.ok_one hres rfl (RowKit.okWide_bool_mk Try.underlying4 _), _, _, ([] ++ p) ++ [], ⟨[] ++ p, [], trodAll_append (ha _ (fun _ _ => rfl)) (hr _ _ _), hv _, rfl, ?_, ?_⟩, ?_⟩⟩
  · intro b off hx
    have hx' : MemPlace.cell b off ∈ p ++ [] := by simpa using hx
    rw [hb.frozen (hlt _ hx')]
    exact hfz b off hx'
  · intro h; cases h
  · intro x hx _
    simpa using hx
end
end Go.Rx
end
section
open Go Go.Proofs Go.Ab Go.Rf
set_option maxRecDepth 100000
namespace Go.Rx
theorem range_setX (p : Nat → Bool) : rangeOk (setX p) := fun i hi => by
  have := wd_lt p i
  rcases (show i = 0 ∨ i = 1 ∨ i = 2 ∨ i = 3 by omega) with rfl | rfl | rfl | rfl
  · exact ⟨Int.natCast_nonneg _, by have : (setX p).w 0 = (wd p 0 : Nat) := rfl; omega⟩
  · exact ⟨Int.natCast_nonneg _, by have : (setX p).w 1 = (wd p 1 : Nat) := rfl; omega⟩
  · exact ⟨Int.natCast_nonneg _, by have : (setX p).w 2 = (wd p 2 : Nat) := rfl; omega⟩
  · exact ⟨Int.natCast_nonneg _, by have : (setX p).w 3 = (wd p 3 : Nat) := rfl; omega⟩
theorem range_mk0 (k : Int) (l : List Rx) : rangeOk (mk0 k l) := fun i hi => by
  rcases (show i = 0 ∨ i = 1 ∨ i = 2 ∨ i = 3 by omega) with rfl | rfl | rfl | rfl <;> exact ⟨Int.le_refl _, (by decide : (0 : Int) < 2 ^ 64)⟩
structure PClosed (p : Rx → Prop) : Prop where
  set : ∀ q, p (setX q)
  node : ∀ k l, p (mk0 k l)
theorem pclosed_range : PClosed rangeOk := ⟨range_setX, range_mk0⟩
section
variable {p : Rx → Prop} (hp : PClosed p)
include hp
theorem PClosed.setA (q : Nat → Bool) : allX p (setX q) := allX_iff.2 ⟨hp.set q, fun _ h => by cases h⟩
theorem PClosed.mkA {k : Int} {l : List Rx} (h : ∀ x ∈ l, allX p x) : allX p (mk0 k l) := allX_iff.2 ⟨hp.node k l, h⟩
theorem PClosed.joinA {k : Int} {l : List Rx} (h : ∀ x ∈ l, allX p x) : allX p (joinX k l) := all_joinX (fun _ => hp.node k l) h
theorem PClosed.setL : ∀ (n : Nat) (neg : Bool) (q : Nat → Bool) (t : List UInt8) (r : Res Rx), Rx.setL n neg q t = some r → r.All (allX p)
  | 0, _, _, _, _, h => by simp [Rx.setL] at h
  | n + 1, neg, q, t, r, h => by
    unfold Rx.setL at h
    split at h
    · cases h; trivial
    · split at h
      · cases h; trivial
      · split at h
        · cases h; show allX p _; exact hp.setA _
        · exact PClosed.setL n _ _ _ _ h
theorem PClosed.opX {c : Nat} {r r' : Rx} (h : allX p r) (e : Rx.opX c r = some r') : allX p r' := by
  have he : allX p (mk0 1 []) := hp.mkA fun _ h => by cases h
  have hst : allX p (starX r) := hp.mkA fun x hx => by rw [List.mem_singleton.1 hx]; exact h
  unfold Rx.opX at e
  repeat' split at e
  all_goals first
    | (cases e; exact hst)
    | (cases e; refine hp.mkA fun x hx => ?_; simp only [List.mem_cons, List.not_mem_nil, or_false] at hx; rcases hx with rfl | rfl <;> assumption)
    | cases e
theorem PClosed.opsL : ∀ (n : Nat) (r : Rx) (t : List UInt8) (o : Res Rx), Rx.opsL n r t = some o → allX p r → o.All (allX p)
  | 0, _, _, _, h, _ => by simp [Rx.opsL] at h
  | n + 1, r, t, o, h, hr => by
    unfold Rx.opsL at h
    split at h
    · rename_i r' e; exact PClosed.opsL n r' _ _ h (hp.opX hr e)
    · cases h; exact hr
theorem PClosed.par : ∀ (n : Nat), (∀ t r, alts n t = some r → r.All (allX p)) ∧ (∀ l t r, altL n l t = some r → (∀ x ∈ l, allX p x) → r.All (allX p)) ∧ (∀ t r, seqs n t = some r → r.All (allX p)) ∧
    (∀ l t r, seqL n l t = some r → (∀ x ∈ l, allX p x) → r.All (allX p)) ∧
    (∀ t r, piece n t = some r → r.All (allX p)) ∧ (∀ t r, atom n t = some r → r.All (allX p)) := by
  intro n
  induction n with
  | zero => exact ⟨fun t r h => by simp [alts] at h, fun l t r h => by simp [altL] at h, fun t r h => by simp [seqs] at h, fun l t r h => by simp [seqL] at h, fun t r h => by simp [piece] at h, fun t r h => by simp [atom] at h⟩
  | succ n ih =>
    obtain ⟨ih1, ih2, ih3, ih4, ih5, ih6⟩ := ih
    refine ⟨fun t r h => ?_, fun l t r h hx => ?_, fun t r h => ?_, fun l t r h hx => ?_, fun t r h => ?_, fun t r h => ?_⟩
    · unfold alts at h
      split at h
      · cases h
      · cases h; trivial
      · rename_i hq
        have h1 := ih3 _ _ hq
        exact ih2 _ _ _ h (fun x hx => by rw [List.mem_singleton.1 hx]; exact h1)
    · unfold altL at h
      split at h
      · split at h
        · cases h
        · cases h; trivial
        · rename_i hq
          have h1 := ih3 _ _ hq
          refine ih2 _ _ _ h fun x hx' => ?_
          rcases List.mem_append.1 hx' with hx' | hx'
          · exact hx x hx'
          · rw [List.mem_singleton.1 hx']; exact h1
      · cases h; exact hp.joinA hx
    · unfold seqs at h
      split at h
      · cases h
      · cases h; trivial
      · rename_i hq
        have h1 := ih5 _ _ hq
        exact ih4 _ _ _ h (fun x hx => by rw [List.mem_singleton.1 hx]; exact h1)
    · unfold seqL at h
      split at h
      · split at h
        · cases h
        · cases h; trivial
        · rename_i hq
          have h1 := ih5 _ _ hq
          refine ih4 _ _ _ h fun x hx' => ?_
          rcases List.mem_append.1 hx' with hx' | hx'
          · exact hx x hx'
          · rw [List.mem_singleton.1 hx']; exact h1
      · cases h; exact hp.joinA hx
    · unfold piece at h
      split at h
      · cases h
      · cases h; trivial
      · rename_i hq
        exact hp.opsL _ _ _ _ h (ih6 _ _ hq)
    · unfold atom at h
      split at h
      · split at h
        · cases h; exact hp.mkA fun _ h => by cases h
        · split at h
          · cases h
          · cases h; trivial
          · rename_i hq
            cases h
            have h1 := ih1 _ _ hq
            unfold closeR
            split
            · exact h1
            · trivial
      · split at h
        · unfold setR at h
          split at h
          · exact hp.setL _ _ _ _ _ h
          · split at h
            · cases h; exact hp.mkA fun _ h => by cases h
            · exact hp.setL _ _ _ _ _ h
        · split at h
          · cases h; exact hp.setA _
          · split at h
            · split at h
              · cases h; exact hp.setA _
              · split at h
                · cases h; trivial
                · cases h; exact hp.setA _
            · split at h
              · cases h; trivial
              · cases h; exact hp.setA _
theorem PClosed.parse (s : List UInt8) : allX p (parseV s).1 := by
  have hn : allX p (mk0 0 []) := hp.mkA fun _ h => by cases h
  unfold parseV
  split
  · exact hn
  · split
    · rename_i hr
      have := (hp.par _).1 _ _ hr
      split
      · split
        · exact hn
        · exact this
      · exact hn
    · exact hn
    · exact hn
end
theorem parse_range (s : List UInt8) : allX rangeOk (parseV s).1 := pclosed_range.parse s
theorem parse_lens (s : List UInt8) : lens 1002 (parseV s).1 := by
  have hn : lens 1002 (mk0 0 []) := lens_mk0.2 ⟨Nat.zero_le _, fun _ h => by cases h⟩
  unfold parseV
  split
  · exact hn
  · split
    · rename_i hs _ r t hr
      split
      · split
        · exact hn
        · exact lens_mono (by omega) _ _ (Nat.le_refl _) (alts_lens hr)
      · exact hn
    · exact hn
    · exact hn
theorem parse_lens40 (s : List UInt8) : lens (2 ^ 40) (parseV s).1 := lens_mono (by omega) _ _ (Nat.le_refl _) (parse_lens s)
def e1 : List UInt8 := [97, 43, 98, 63]
def e2 : List UInt8 := [91, 97, 45, 99, 93]
def e3 : List UInt8 := [97, 124]
def e4 : List UInt8 := [91, 98, 45, 97, 93]
theorem c19' {s : List UInt8} {f i : Int} (h : (parseV s).2 = (f, i)) : Holds Try.prog 19 [A.d (.lit (bytesV s))] [] (Ret (.tup [(true, enc (parseV s).1), (true, [.lit (.int .i64 f), .lit (.int .i64 i)])])) := by
  have := c19 s
  unfold pairA at this
  rw [h] at this
  exact this
theorem p1 : (parseV e1).2 = (0, 0) := by decide
theorem p2 : (parseV e2).2 = (0, 0) := by decide
theorem p3 : (parseV e3).2 = (8, 2) := by decide
theorem p4 : (parseV e4).2 = (8, 3) := by decide
theorem c24e (s : List UInt8) (h : s.length ≤ 10) (hm : matchOk (parseV e1).1 s = true) (v : Bool) (hv : matchV (parseV e1).1 s = v) : Holds Try.prog 24 [A.agg (enc (parseV e1).1), A.d (.lit (bytesV s))] [] (Ret (boolA v)) := by
  rw [← hv]
  exact c24 _ s (parse_range _) (parse_lens40 _) (by omega) fun _ => hm
theorem c14 : Holds Try.prog 14 [] [] (Ret (boolA true)) := by
  have hsz : size (parseV e2).1 ≤ 2 ^ 40 := by decide
  have hv : sizeV (parseV e2).1 = 1 := by decide
  have hsize : Holds Try.prog 17 [A.agg (enc (parseV e2).1)] [] (Ret (intA 1)) := by
    have := c17 _ hsz
    rw [hv] at this
    exact this
  refine w14 (call1 (c19' p1) ⟨_, _, rfl, rfl, teq6 _, rfl, call1 (c19' p2) ⟨_, _, rfl, rfl, teq6 _, rfl, call1 (c19' p3) ⟨_, _, rfl, rfl, teq6 _, rfl, call1 (c19' p4) ⟨_, _, rfl, rfl, teq6 _, rfl, rfl, rfl, rfl, rfl, rfl, rfl, rfl, rfl, fun _ => ⟨fun _ => ⟨fun _ => ?_, fun h => absurd h (by decide)⟩, fun h => absurd h (by decide)⟩, fun h => absurd h (by decide)⟩⟩⟩⟩)
  refine call1 (c24e [97] (by decide) (by decide) true (by decide)) ⟨_, rfl, rfl, fun _ => ?_, fun h => by cases h⟩
  refine call1 (c24e [97, 98] (by decide) (by decide) true (by decide)) ⟨_, rfl, rfl, fun _ => ?_, fun h => by cases h⟩
  refine call1 (c24e [97, 97, 98] (by decide) (by decide) true (by decide)) ⟨_, rfl, rfl, fun _ => ?_, fun h => by cases h⟩
  refine call1 (c24e [98] (by decide) (by decide) false (by decide)) ⟨_, rfl, rfl, fun _ => ?_, fun h => by cases h⟩
  exact call1 hsize ⟨_, rfl, rfl, rfl, rfl⟩
end Go.Rx
end
section
open Go Go.Proofs Go.Ab Go.Rf
set_option maxRecDepth 100000
namespace Go.Rx
def hexL : List UInt8 := [48, 49, 50, 51, 52, 53, 54, 55, 56, 57, 97, 98, 99, 100, 101, 102]
def xB (b : Nat) : List UInt8 := [92, 120, hexL.getD (b / 16) 0, hexL.getD (b % 16) 0]
def gx (x0 : Int) : List UInt8 := gBytes (((D.lit (.int .u8 (92 : Int))) :: ([] : List D)) :: (((D.lit (.int .u8 (120 : Int))) :: ([] : List D)) :: (((D.lit (.int .u8 (gByte ([48, 49, 50, 51, 52, 53, 54, 55, 56, 57, 97, 98, 99, 100, 101, 102] : List UInt8) (IntKind.wrap .u8 (x0.tdiv (16 : Int)))))) :: ([] : List D)) :: (((D.lit (.int .u8 (gByte ([48, 49, 50, 51, 52, 53, 54, 55, 56, 57, 97, 98, 99, 100, 101, 102] : List UInt8) (x0.tmod (16 : Int))))) :: ([] : List D)) :: ([] : List (List D))))))
theorem all256 {p : Nat → Bool} (h : (List.range 256).all p = true) (b : Nat) (hb : b < 256) : p b = true := List.all_eq_true.1 h b (List.mem_range.2 hb)
theorem gx_all : ((List.range 256).all fun b => decide (gx (b : Int) = xB b)) = true := by kernel_rfl
theorem gx_eq (b : Nat) (hb : b < 256) : gx (b : Int) = xB b := of_decide_eq_true (all256 gx_all b hb)
def pow0 (b k : Nat) : Nat := if b / 64 = k then 2 ^ (b % 64) else 0
def isOne (x : Rx × Int × Int) (b : Nat) : Bool := match x with
  | (.mk k a0 a1 a2 a3 [], f, i) => k == 2 && a0 == pow0 b 0 && a1 == pow0 b 1 && a2 == pow0 b 2 && a3 == pow0 b 3 && f == 0 && i == 0
  | _ => false
def isNot (x : Rx × Int × Int) (b : Nat) : Bool := match x with
  | (.mk k a0 a1 a2 a3 [], f, i) => k == 2 && a0 == 2 ^ 64 - 1 - (pow0 b 0 : Int) && a1 == 2 ^ 64 - 1 - (pow0 b 1 : Int) && a2 == 2 ^ 64 - 1 - (pow0 b 2 : Int) && a3 == 2 ^ 64 - 1 - (pow0 b 3 : Int) && f == 0 && i == 0
  | _ => false
def eqP (b i : Nat) : Bool := decide (i = b)
def neP (b i : Nat) : Bool := !eqP b i
theorem wd_eqP (b k : Nat) : wd (eqP b) k = pow0 b k := by
  refine wd_eq ?_ fun j hj => ?_
  · unfold pow0; split
    · exact Nat.pow_lt_pow_right (by decide) (Nat.mod_lt _ (by decide))
    · decide
  · unfold pow0 eqP
    split
    · rw [Nat.testBit_two_pow]
      congr 1
      exact propext ⟨fun h => by omega, fun h => by omega⟩
    · rw [Nat.zero_testBit, eq_comm, decide_eq_false_iff_not]
      omega
theorem wd_neP (b k : Nat) : (wd (neP b) k : Int) = 2 ^ 64 - 1 - (pow0 b k : Int) := by
  have h1 : 2 ^ 64 - 1 - wd (eqP b) k = wd (neP b) k := wd_not (eqP b) k
  have h2 := wd_lt (eqP b) k
  rw [← wd_eqP]
  omega
theorem isOne_eq {x : Rx × Int × Int} {b : Nat} (h : isOne x b = true) : x = (setX (eqP b), 0, 0) := by
  obtain ⟨⟨k, a0, a1, a2, a3, l⟩, f, i⟩ := x
  cases l with
  | cons y l => cases h
  | nil =>
    simp only [isOne, Bool.and_eq_true, beq_iff_eq] at h
    obtain ⟨⟨⟨⟨⟨⟨rfl, rfl⟩, rfl⟩, rfl⟩, rfl⟩, rfl⟩, rfl⟩ := h
    simp only [setX, wd_eqP]
theorem isNot_eq {x : Rx × Int × Int} {b : Nat} (h : isNot x b = true) : x = (setX (neP b), 0, 0) := by
  obtain ⟨⟨k, a0, a1, a2, a3, l⟩, f, i⟩ := x
  cases l with
  | cons y l => cases h
  | nil =>
    simp only [isNot, Bool.and_eq_true, beq_iff_eq] at h
    obtain ⟨⟨⟨⟨⟨⟨rfl, h0⟩, h1⟩, h2⟩, h3⟩, rfl⟩, rfl⟩ := h
    simp only [setX, wd_neP, h0, h1, h2, h3]
theorem one_all : ((List.range 256).all fun b => isOne (parseV (xB b)) b && isOne (parseV ([91] ++ xB b ++ [93])) b && isNot (parseV ([91, 94] ++ xB b ++ [93])) b) = true := by kernel_rfl
theorem parse_one (b : Nat) (hb : b < 256) : parseV (xB b) = (setX (eqP b), 0, 0) ∧ parseV ([91] ++ xB b ++ [93]) = (setX (eqP b), 0, 0) ∧ parseV ([91, 94] ++ xB b ++ [93]) = (setX (neP b), 0, 0) := by
  have h := all256 one_all b hb
  simp only [Bool.and_eq_true] at h
  exact ⟨isOne_eq h.1.1, isOne_eq h.1.2, isNot_eq h.2⟩
theorem chk_setX (p : Nat → Bool) : chk 1 (setX p) = 0 := rfl
theorem has_setX (p : Nat → Bool) (c : Nat) (hc : c < 256) : hasX (setX p) c = p c := by
  have key : ∀ k, k < 4 → ((setX p).w k).toNat = wd p k := fun k hk => by
    match k, hk with
    | 0, _ => rfl
    | 1, _ => rfl
    | 2, _ => rfl
    | 3, _ => rfl
  unfold hasX
  rw [key _ (by omega), wd_bit, decide_eq_true (Nat.mod_lt _ (by decide)), Bool.true_and]
  congr 1
  omega
theorem D1_setX (p : Nat → Bool) (c : UInt8) : D1 (setX p) c = if p c.toNat then empX else nilX := by
  have : D1 (setX p) c = if hasX (setX p) c.toNat then empX else nilX := rfl
  rw [this, has_setX p _ c.toNat_lt]
theorem match_one (p : Nat → Bool) (c : UInt8) : matchV (setX p) [c] = p c.toNat := by
  have : matchV (setX p) [c] = null (D1 (setX p) c) := rfl
  rw [this, D1_setX]
  cases p c.toNat <;> rfl
theorem match_two (p : Nat → Bool) (c : UInt8) : matchV (setX p) [c, c] = false := by
  have : matchV (setX p) [c, c] = null (D1 (D1 (setX p) c) c) := rfl
  rw [this, D1_setX]
  cases p c.toNat <;> rfl
theorem ok_set (p : Nat → Bool) (s : List UInt8) (hs : s.length ≤ 2) : matchOk (setX p) s = true := by
  match s, hs with
  | [], _ => rfl
  | [c], _ => rfl
  | [c, d], _ =>
    show (true && (ok1 (D1 (setX p) c) d && true)) = true
    rw [D1_setX]
    cases p c.toNat <;> rfl
theorem c24s (p : Nat → Bool) (s : List UInt8) (hs : s.length ≤ 2) {v : Bool} (hv : matchV (setX p) s = v) : Holds Try.prog 24 [A.agg (enc (setX p)), A.d (.lit (bytesV s))] [] (Ret (boolA v)) := by
  rw [← hv]
  exact c24 _ s (allX_iff.2 ⟨range_setX p, fun _ h => by cases h⟩) (lens_setX p) (by omega) fun _ => ok_set p s hs
end Go.Rx
end
section
open Go Go.Proofs Go.Ab Go.Rf
set_option maxRecDepth 100000
namespace Go.Rx
theorem c19v {s : List UInt8} {r : Rx} (h : parseV s = (r, 0, 0)) : Holds Try.prog 19 [A.d (.lit (bytesV s))] [] (Ret (.tup [(true, enc r), (true, [.lit (.int .i64 0), .lit (.int .i64 0)])])) := by
  have := c19 s
  rw [h] at this
  exact this
theorem b_of {a : Int} (h : (Lit.int .u8 a).wf = true) : ∃ b : Nat, b < 256 ∧ a = b := by
  have : 0 ≤ a ∧ a ≤ 255 := by simpa [Lit.wf, IntKind.min, IntKind.max, IntKind.signed, IntKind.bits] using h
  exact ⟨a.toNat, by omega, by omega⟩
theorem gB1 (c : Nat) (_ : c < 256) : gBytes (((D.lit (.int .u8 (c : Int))) :: ([] : List D)) :: ([] : List (List D))) = [UInt8.ofNat c] := by
  simp [gBytes, List.getD, Rf.dint]
theorem nib_all : ((List.range 256).all fun b => decide (0 ≤ IntKind.wrap .u8 ((b : Int).tdiv 16)) && decide (IntKind.wrap .u8 ((b : Int).tdiv 16) < 16) && decide (0 ≤ (b : Int).tmod 16) && decide ((b : Int).tmod 16 < 16)) = true := by kernel_rfl
theorem c8 (a0 a1 : Int) (g0 : (Lit.int .u8 a0).wf = true) (g1 : (Lit.int .u8 a1).wf = true) : Holds Try.prog 8 [A.d (.lit (.int .u8 a0)), A.d (.lit (.int .u8 a1))] [] (Ret (boolA true)) := by
  obtain ⟨b, hb, rfl⟩ := b_of g0
  obtain ⟨c, hc, rfl⟩ := b_of g1
  have e := gx_eq b hb
  unfold gx at e
  obtain ⟨p1, p2, p3⟩ := parse_one b hb
  have hcn : (UInt8.ofNat c).toNat = c := by simp; omega
  have m1 : matchV (setX (eqP b)) [UInt8.ofNat c] = decide (c = b) := by rw [match_one, hcn]; rfl
  have m2 : matchV (setX (neP b)) [UInt8.ofNat c] = !decide (c = b) := by rw [match_one, hcn]; rfl
  have m0 : matchV (setX (neP b)) [] = false := rfl
  have hx : ((xB b).length : Int) = 4 := rfl
  refine w8 b c ?_
  rw [e, gB1 c hc]
  have hw := all256 nib_all b hb
  simp only [Bool.and_eq_true, decide_eq_true_eq] at hw
  have hq : decide (c = b) = tB (((b : Nat) : Int) == ((c : Nat) : Int)) := by
    rw [tB_eq]
    by_cases h : c = b
    · subst h; simp
    · have : ¬ ((b : Int) = (c : Int)) := by omega
      simp [h, this]
  have lx : ∀ l : List UInt8, l.length ≤ 10 → ((l.length : Int) ≤ 9223372036854775807) := fun l h => by omega
  refine ⟨tle hw.1.1.1, tlt hw.1.1.2, tle hw.1.2, tlt hw.2, call1 (c19v p1) ⟨_, _, rfl, rfl, teq6 _, teq rfl, tle (by rw [hx]; decide), tle (by simp [xB]), call1 (c19v p2) ⟨_, _, rfl, rfl, teq6 _, teq rfl, tle (by rw [hx]; decide), tle (by simp [xB]), call1 (c19v p3)
    ⟨_, _, rfl, rfl, teq6 _, teq rfl, rfl, rfl, rfl, rfl, rfl, rfl, fun _ => ⟨fun _ => ⟨fun _ => ?_, fun h => absurd rfl (of_feq h)⟩, fun h => absurd rfl (of_feq h)⟩, fun h => (by cases h)⟩⟩⟩⟩
  refine callE (c21 _ _ (lens_setX _)) fun x hs => ⟨_, rfl, rfl, fun _ => call1 (c17 (setX (eqP b)) (by show 1 + 0 ≤ 2 ^ 40; decide)) ⟨_, rfl, rfl, fun _ => call1 (c24s (eqP b) _ (by simp) m1) ⟨_, rfl, rfl, fun _ => call1 (c24s (neP b) _ (by simp) m2)
    ⟨_, rfl, rfl, fun _ => call1 (c24s (neP b) [] (by simp) m0) ⟨_, rfl, rfl, ?_, fun _ => call1 (c24s (neP b) [UInt8.ofNat c, UInt8.ofNat c] (by simp) (match_two _ _)) ⟨_, rfl, rfl, fun _ => call1 c14 ⟨_, rfl, rfl, ⟨rfl, rfl⟩⟩, fun h => (by cases h)⟩, fun h => (by cases h)⟩, fun h => ?_⟩, fun h => ?_⟩, fun h => absurd rfl (of_feq h)⟩, fun h => ?_⟩
  · rw [Bool.false_or]; exact tle (show ((1 : Int) + 1 ≤ _) by decide)
  · rw [← hq] at h; cases hd : decide (c = b) <;> rw [hd] at h <;> cases h
  · rw [← hq] at h; cases hd : decide (c = b) <;> rw [hd] at h <;> cases h
  · have := hs.2 rfl; rw [this] at h; cases h
end Go.Rx
end
section
open Go Go.Proofs Go.Ab Go.Rf Go.ChangeShapes Go.WideShapes
set_option maxRecDepth 100000
namespace Go.Rx
theorem lifted8 (os : Os) (started : os.Started) (H : Type) (en : TypeId × Value → H) :
    ReturnsInHanded {} Try.checked os 8 .any (Ytedalcjkolcolaa.Rows.regexBytesSpec.pre6 en Try.prog Try.f8 Ytedalcjkolcolaa.Rows.regexBytesRow.domain false) (Ytedalcjkolcolaa.Rows.regexBytesSpec.post en Try.prog Try.f8 false true false false) := by
  refine returnsInHanded_of_change (C := Try.checked) own started (by kernel_rfl) Try.func8
    (ChangeSpec.witness6 (enc := en) (C := Try.checked) false ⟨#[], #[.int .u8 0, .int .u8 0], []⟩ 8 (by kernel_rfl) (by kernel_rfl) (by kernel_rfl) (by kernel_rfl)) ?_
  intro W base args ds gs before hval0 hW hcnd _
  have hval : ∀ (j : Nat) t v, Try.f8.params[j]? = some t → args[j]? = some v → Value.okWide Try.prog W .any base t v := hval0
  have hW' := hW
  obtain ⟨p, q, hA0, hV, rfl, hfz, hnd⟩ := hW
  have hA : DataW.TrodAll en Try.prog W 0 (fun _ => true) true Try.f8.params.toList args.toList ds p := hA0
  rw [Try.params8] at hA hval
  obtain ⟨v0, vs0, d0, ds0, p0, q0, hargs, rfl, rfl, h0, r0⟩ := trodAll_cons hA
  obtain ⟨v1, vs1, d1, ds1, p1, q1, rfl, rfl, rfl, h1, r1⟩ := trodAll_cons r0
  obtain ⟨rfl, rfl, rfl⟩ := trodAll_nil r1
  obtain rfl : args = #[v0, v1] := by cases args; simp_all
  obtain ⟨a0, g0, k0⟩ := arg_int Try.underlying5 (hval 0 5 v0 rfl rfl) h0
  obtain ⟨a1, g1, k1⟩ := arg_int Try.underlying5 (hval 1 5 v1 rfl rfl) h1
  refine (callsX_body Try.func8 rfl rfl (Holds.out (c8 a0 a1 g0 g1) (w := W) (cargs := #[v0, v1]) ⟨k0, k1, trivial⟩)).mono fun e W' ⟨cv, g', he, hc, hb⟩ => ?_
  have hc : cv = .bool true := by cases hc; rfl
  subst hc
  exact ⟨_, he, row_post rfl hW' rfl rfl lay (by kernel_rfl) hb⟩
theorem regexBytes_holds : Ytedalcjkolcolaa.Rows.RegexBytesSaid :=
  OpenClaim.holds_of_wide 8 Try.f8 rfl rfl rfl rfl rfl rfl rfl ⟨rfl, rfl, rfl, rfl, rfl⟩ rfl rfl rfl rfl rfl (by kernel_rfl) Try.func8 (by kernel_rfl)
    (of_decide_eq_true (by kernel_rfl)) (by unfold Func.isWrapper; first | (rw [if_pos (by decide +kernel)]; kernel_rfl) | (rw [if_neg (by decide +kernel)]; exact ⟨rfl, rfl⟩))
    (fun os started H enc _ => lifted8 os started H enc)
end Go.Rx
namespace Go.Proofs.Ytedalcjkolcolaa
theorem regexBytes_proved : Rows.RegexBytesSaid := Go.Rx.regexBytes_holds
end Go.Proofs.Ytedalcjkolcolaa
end
