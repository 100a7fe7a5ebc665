/- Part 6 of the proof: RxB, RxSet, RxByte, RxCls, RxIdx, RxChk, RxSize, RxNull, RxSpec, RxPp, RxPq, RxPr, RxFuel, RxParse, RxCmp, RxDer, RxDrv, RxMat, RxOpen, RxTop, RxFue, RxPos, RxRes, RxCnt. -/
import Derived.Laws.Externs
import Derived.Test.YtedalcjkolcolaaRows
import Derived.WalkKit
import Derived.ProofKit
import Derived.OpenShut
import Derived.JoinedOf
import Derived.Deep.Slices
import Derived.Carry
import Derived.Test.YtedalcjkolcolaaJae
set_option linter.unusedVariables false
set_option linter.unusedSimpArgs false
section
open Go Go.Ab Go.Rf
set_option linter.unusedSimpArgs false
namespace Go.Rx
inductive Rx where
  | mk (kind s0 s1 s2 s3 : Int) (subs : List Rx)
mutual
def enc : Rx → List D
  | .mk k a b c d l => [.lit (.int .i64 k), .lit (.int .u64 a), .lit (.int .u64 b), .lit (.int .u64 c), .lit (.int .u64 d), .slc (encs l)]
def encs : List Rx → List (List D)
  | [] => []
  | r :: l => enc r :: encs l
end
mutual
def size : Rx → Nat
  | .mk _ _ _ _ _ l => 1 + sizes l
def sizes : List Rx → Nat
  | [] => 0
  | r :: l => size r + sizes l
end
def Rx.kind : Rx → Int | .mk k _ _ _ _ _ => k
def Rx.subs : Rx → List Rx | .mk _ _ _ _ _ l => l
def Rx.w (r : Rx) (i : Nat) : Int := match r, i with | .mk _ a _ _ _ _, 0 => a | .mk _ _ b _ _ _, 1 => b | .mk _ _ _ c _ _, 2 => c | .mk _ _ _ _ d _, _ => d
@[simp] theorem encs_length : ∀ l, (encs l).length = l.length
  | [] => rfl
  | r :: l => by simp [encs, encs_length l]
@[simp] theorem encs_get : ∀ (l : List Rx) (i : Nat), (encs l)[i]? = (l[i]?).map enc
  | [], i => by simp [encs]
  | r :: l, 0 => by simp [encs]
  | r :: l, i + 1 => by simp [encs, encs_get l i]
@[simp] theorem encs_append : ∀ (l m : List Rx), encs l ++ encs m = encs (l ++ m)
  | [], m => rfl
  | r :: l, m => by simp [encs, encs_append l m]
@[simp] theorem encs_nil : ([] : List (List D)) = encs [] := rfl
@[simp] theorem enc_length (r : Rx) : (enc r).length = 6 := by cases r; simp [enc]
@[simp] theorem enc0 (r : Rx) : (enc r).getD 0 D0 = .lit (.int .i64 r.kind) := by cases r; simp [enc, Rx.kind]
@[simp] theorem enc1 (r : Rx) : (enc r).getD 1 D0 = .lit (.int .u64 (r.w 0)) := by cases r; simp [enc, Rx.w]
@[simp] theorem enc2 (r : Rx) : (enc r).getD 2 D0 = .lit (.int .u64 (r.w 1)) := by cases r; simp [enc, Rx.w]
@[simp] theorem enc3 (r : Rx) : (enc r).getD 3 D0 = .lit (.int .u64 (r.w 2)) := by cases r; simp [enc, Rx.w]
@[simp] theorem enc4 (r : Rx) : (enc r).getD 4 D0 = .lit (.int .u64 (r.w 3)) := by cases r; simp [enc, Rx.w]
@[simp] theorem enc5 (r : Rx) : (enc r).getD 5 D0 = .slc (encs r.subs) := by cases r; simp [enc, Rx.subs]
@[simp] theorem enc0' (r : Rx) (h : 0 < (enc r).length) : (enc r)[0] = .lit (.int .i64 r.kind) := by cases r; simp [enc, Rx.kind, Rx.w, Rx.subs]
@[simp] theorem enc1' (r : Rx) (h : 1 < (enc r).length) : (enc r)[1] = .lit (.int .u64 (r.w 0)) := by cases r; simp [enc, Rx.kind, Rx.w, Rx.subs]
@[simp] theorem enc2' (r : Rx) (h : 2 < (enc r).length) : (enc r)[2] = .lit (.int .u64 (r.w 1)) := by cases r; simp [enc, Rx.kind, Rx.w, Rx.subs]
@[simp] theorem enc3' (r : Rx) (h : 3 < (enc r).length) : (enc r)[3] = .lit (.int .u64 (r.w 2)) := by cases r; simp [enc, Rx.kind, Rx.w, Rx.subs]
@[simp] theorem enc4' (r : Rx) (h : 4 < (enc r).length) : (enc r)[4] = .lit (.int .u64 (r.w 3)) := by cases r; simp [enc, Rx.kind, Rx.w, Rx.subs]
@[simp] theorem enc5' (r : Rx) (h : 5 < (enc r).length) : (enc r)[5] = .slc (encs r.subs) := by cases r; simp [enc, Rx.kind, Rx.w, Rx.subs]
theorem gAt_encs {l : List Rx} {i : Nat} {x : Int} (hx : x = i) (h : i < l.length) : gAt (encs l) x = enc l[i] := by
  subst hx
  have h2 := encs_get l i
  rw [List.getElem?_eq_getElem h] at h2
  simp only [gAt, List.getD, Int.toNat_natCast, h2]
  rfl
@[simp] theorem isK_int (k : IntKind) (n : Int) : Rf.isK (.int k) (.lit (.int k n)) = true := by simp [Rf.isK]
@[simp] theorem isK_bool (b : Bool) : Rf.isK .bool (.lit (.bool b)) = true := rfl
@[simp] theorem isK_slc (l : List (List D)) : Rf.isK .slc (.slc l) = true := rfl
@[simp] theorem dint_int (k : IntKind) (n : Int) : Rf.dint (.lit (.int k n)) = n := rfl
@[simp] theorem dbool_bool (b : Bool) : Rf.dbool (.lit (.bool b)) = b := rfl
@[simp] theorem dlst_slc (l : List (List D)) : Rf.dlst (.slc l) = l := rfl
def Ret (v : A) : Out → List (Ref × List A) → Prop := fun o H => o = .ret v ∧ H = []
@[simp] theorem ret_iff {v u : A} {H : List (Ref × List A)} : Ret v (.ret u) H ↔ u = v ∧ H = [] := by simp [Ret]
@[simp] theorem pan_iff {v : A} {u : Value} {H : List (Ref × List A)} : Ret v (.pan u) H ↔ False := by simp [Ret]
theorem call1 {P : Program} {f : Nat} {args : List A} {v : A} (hc : Holds P f args [] (Ret v)) {Q1 : A → List (Ref × List A) → Prop} {Q2 : Value → List (Ref × List A) → Prop} (h : Q1 v []) :
    ∀ _ : Nat → Nat, ∃ R' : Out → List (Ref × List A) → Prop, Holds P f args [] R' ∧ (∀ v H', R' (.ret v) H' → Q1 v H') ∧ (∀ u H', R' (.pan u) H' → Q2 u H') :=
  fun _ => ⟨_, hc, fun v' H' e => by obtain ⟨e1, rfl⟩ := e; cases e1; exact h, fun u H' e => by cases e.1⟩
theorem sizes_take : ∀ (l : List Rx) (k : Nat) (h : k < l.length), sizes (l.take (k+1)) = sizes (l.take k) + size l[k]
  | r :: l, 0, _ => by simp [sizes]
  | r :: l, k + 1, h => by
    have := sizes_take l k (by simpa using h)
    simp [sizes, this]; omega
theorem sizes_le : ∀ (l : List Rx) (k : Nat), sizes (l.take k) ≤ sizes l
  | [], k => by simp [sizes]
  | r :: l, 0 => by simp [sizes]
  | r :: l, k + 1 => by have := sizes_le l k; simp [sizes]; omega
theorem size_pos (r : Rx) : 1 ≤ size r := by cases r; simp [size]
theorem sizes_ge : ∀ (l : List Rx), l.length ≤ sizes l
  | [] => by simp [sizes]
  | r :: l => by have := sizes_ge l; have := size_pos r; simp [sizes]; omega
theorem size_eq (r : Rx) : size r = 1 + sizes r.subs := by cases r; rfl
theorem size_sub {r : Rx} {i : Nat} (h : i < r.subs.length) : size r.subs[i] < size r := by
  have h1 := sizes_take r.subs i h
  have h2 := sizes_le r.subs (i + 1)
  have h3 := size_eq r
  omega
mutual
def lens (B : Nat) : Rx → Prop
  | .mk _ _ _ _ _ l => l.length ≤ B ∧ lenss B l
def lenss (B : Nat) : List Rx → Prop
  | [] => True
  | r :: l => lens B r ∧ lenss B l
end
theorem lenss_iff {B : Nat} : ∀ {l : List Rx}, lenss B l ↔ ∀ r ∈ l, lens B r
  | [] => by simp [lenss]
  | r :: l => by simp [lenss, lenss_iff (l := l)]
theorem lens_iff {B : Nat} {r : Rx} : lens B r ↔ r.subs.length ≤ B ∧ ∀ x ∈ r.subs, lens B x := by
  cases r with | mk k a b c d l => simp [lens, Rx.subs, lenss_iff]
theorem lens_sub {B : Nat} {r : Rx} (h : lens B r) {i : Nat} (hi : i < r.subs.length) : lens B r.subs[i] := (lens_iff.1 h).2 _ (List.getElem_mem hi)
theorem lens_mono {B C : Nat} (h : B ≤ C) : ∀ (n : Nat) (r : Rx), size r ≤ n → lens B r → lens C r
  | 0, r, hs, _ => by have := size_pos r; omega
  | n + 1, r, hs, hr => by
    rw [lens_iff] at hr ⊢
    refine ⟨Nat.le_trans hr.1 h, fun x hx => ?_⟩
    obtain ⟨i, hi, rfl⟩ := List.mem_iff_getElem.1 hx
    exact lens_mono h n _ (by have := size_sub hi; omega) (hr.2 _ hx)
theorem lens_size {B : Nat} : ∀ (n : Nat) (r : Rx), size r ≤ n → n ≤ B → lens B r
  | 0, r, hs, _ => by have := size_pos r; omega
  | n + 1, r, hs, hB => by
    rw [lens_iff]
    refine ⟨?_, fun x hx => ?_⟩
    · have := size_eq r; have := sizes_ge r.subs; omega
    · obtain ⟨i, hi, rfl⟩ := List.mem_iff_getElem.1 hx
      exact lens_size n _ (by have := size_sub hi; omega) (by omega)
end Go.Rx
end
section
open Go Go.Proofs Go.Ab Go.Rf
set_option maxRecDepth 100000
namespace Go.Rx
def wdA (p : Nat → Bool) (k : Nat) : Nat → Nat
  | 0 => 0
  | n + 1 => wdA p k n + if p (64 * k + n) then 2 ^ n else 0
def wd (p : Nat → Bool) (k : Nat) : Nat := wdA p k 64
theorem wdA_lt (p : Nat → Bool) (k : Nat) : ∀ n, wdA p k n < 2 ^ n
  | 0 => by simp [wdA]
  | n + 1 => by
    have := wdA_lt p k n
    simp only [wdA, Nat.pow_succ]
    split <;> omega
theorem wdA_bit (p : Nat → Bool) (k : Nat) : ∀ n j, (wdA p k n).testBit j = (decide (j < n) && p (64 * k + j))
  | 0, j => by simp [wdA]
  | n + 1, j => by
    have hlt := wdA_lt p k n
    have ih := wdA_bit p k n
    simp only [wdA]
    by_cases hp : p (64 * k + n) = true
    · rw [if_pos hp, Nat.add_comm]
      by_cases hj : j = n
      · subst hj
        rw [Nat.testBit_two_pow_add_eq, ih]
        simp [hp]
      · rcases Nat.lt_or_gt_of_ne hj with h | h
        · rw [Nat.testBit_two_pow_add_gt h, ih]
          simp [h, Nat.lt_succ_of_lt h]
        · rw [Nat.testBit_lt_two_pow (Nat.lt_of_lt_of_le (show 2 ^ n + wdA p k n < 2 ^ (n + 1) by rw [Nat.pow_succ]; omega) (Nat.pow_le_pow_right (by decide) h))]
          have : ¬ j < n + 1 := by omega
          simp [this]
    · rw [if_neg hp, Nat.add_zero, ih]
      by_cases hj : j = n
      · subst hj; simp [hp]
      · have : (j < n + 1) = (j < n) := by simp; omega
        simp [this]
theorem wd_bit (p : Nat → Bool) (k j : Nat) : (wd p k).testBit j = (decide (j < 64) && p (64 * k + j)) := wdA_bit p k 64 j
theorem wd_lt (p : Nat → Bool) (k : Nat) : wd p k < 2 ^ 64 := wdA_lt p k 64
theorem wd_eq {p : Nat → Bool} {k w : Nat} (h : w < 2 ^ 64) (hb : ∀ j < 64, w.testBit j = p (64 * k + j)) : wd p k = w := by
  refine Nat.eq_of_testBit_eq fun j => ?_
  rw [wd_bit]
  by_cases hj : j < 64
  · simp [hj, hb j hj]
  · rw [Nat.testBit_lt_two_pow (Nat.lt_of_lt_of_le h (Nat.pow_le_pow_right (by decide) (by omega)))]
    simp [hj]
def row4 (p : Nat → Bool) : List D := [.lit (.int .u64 (wd p 0)), .lit (.int .u64 (wd p 1)), .lit (.int .u64 (wd p 2)), .lit (.int .u64 (wd p 3))]
theorem wrap_u64 (n : Nat) (h : n < 2 ^ 64) : IntKind.wrap .u64 (n : Int) = n := by
  have e1 : IntKind.signed .u64 = false := rfl
  have e2 : IntKind.bits .u64 = 64 := rfl
  simp [IntKind.wrap, e1, e2]
  omega
theorem gOr_nat (a b : Nat) (ha : a < 2 ^ 64) (hb : b < 2 ^ 64) : gOr .u64 (a : Int) (b : Int) = ((a ||| b : Nat) : Int) := by
  have e2 : IntKind.bits .u64 = 64 := rfl
  unfold gOr
  rw [e2]
  have : (BitVec.ofInt 64 (a : Int) ||| BitVec.ofInt 64 (b : Int)).toNat = a ||| b := by
    rw [BitVec.toNat_or, BitVec.ofInt_natCast, BitVec.ofInt_natCast, BitVec.toNat_ofNat, BitVec.toNat_ofNat, Nat.mod_eq_of_lt ha, Nat.mod_eq_of_lt hb]
  rw [this]
  exact wrap_u64 _ (Nat.or_lt_two_pow ha hb)
theorem gAnd_nat (a b : Nat) (ha : a < 2 ^ 64) (hb : b < 2 ^ 64) : gAnd .u64 (a : Int) (b : Int) = ((a &&& b : Nat) : Int) := by
  have e2 : IntKind.bits .u64 = 64 := rfl
  unfold gAnd
  rw [e2]
  have : (BitVec.ofInt 64 (a : Int) &&& BitVec.ofInt 64 (b : Int)).toNat = a &&& b := by
    rw [BitVec.toNat_and, BitVec.ofInt_natCast, BitVec.ofInt_natCast, BitVec.toNat_ofNat, BitVec.toNat_ofNat, Nat.mod_eq_of_lt ha, Nat.mod_eq_of_lt hb]
  rw [this]
  exact wrap_u64 _ (Nat.lt_of_le_of_lt Nat.and_le_left ha)
theorem gShl_one (j : Nat) (h : j < 64) : gShl .u64 1 (j : Int) = ((2 ^ j : Nat) : Int) := by
  have e2 : IntKind.bits .u64 = 64 := rfl
  unfold gShl
  rw [e2]
  have e : (min ((j : Int).toNat) 64) = j := by omega
  rw [e, Int.one_mul]
  have := wrap_u64 (2 ^ j) (Nat.pow_lt_pow_right (by decide) h)
  rw [← this]
  congr 1
theorem gShr_nat (a j : Nat) (h : j < 64) : gShr .u64 (a : Int) (j : Int) = ((a >>> j : Nat) : Int) := by
  have e2 : IntKind.bits .u64 = 64 := rfl
  unfold gShr
  rw [e2]
  have e : (min ((j : Int).toNat) 64) = j := by omega
  have h0 : (0 : Int) ≤ 2 ^ j := by exact_mod_cast Nat.zero_le (2 ^ j)
  rw [e, Nat.shiftRight_eq_div_pow, Int.fdiv_eq_ediv_of_nonneg _ h0, Int.natCast_ediv]
  rfl
theorem gNot_nat (a : Nat) (h : a < 2 ^ 64) : gNot .u64 (a : Int) = ((2 ^ 64 - 1 - a : Nat) : Int) := by
  have e2 : IntKind.bits .u64 = 64 := rfl
  have e1 : (if IntKind.signed .u64 = true then (-1 : Int) else IntKind.max .u64) = ((2 ^ 64 - 1 : Nat) : Int) := rfl
  unfold gNot
  rw [e2, e1]
  have : (BitVec.ofInt 64 ((2 ^ 64 - 1 : Nat) : Int) ^^^ BitVec.ofInt 64 (a : Int)).toNat = 2 ^ 64 - 1 - a := by
    rw [BitVec.ofInt_natCast, BitVec.ofInt_natCast]
    have : BitVec.ofNat 64 (2 ^ 64 - 1) = BitVec.allOnes 64 := rfl
    rw [this, BitVec.allOnes_xor, BitVec.toNat_not, BitVec.toNat_ofNat, Nat.mod_eq_of_lt h]
  rw [this]
  exact wrap_u64 _ (by omega)
theorem wd_or (p q : Nat → Bool) (k : Nat) : wd p k ||| wd q k = wd (fun i => p i || q i) k := by
  refine (wd_eq (Nat.or_lt_two_pow (wd_lt _ _) (wd_lt _ _)) fun j hj => ?_).symm
  rw [Nat.testBit_or, wd_bit, wd_bit]
  simp [hj]
theorem wd_not (p : Nat → Bool) (k : Nat) : 2 ^ 64 - 1 - wd p k = wd (fun i => !p i) k := by
  refine (wd_eq (by have := wd_lt p k; omega) fun j hj => ?_).symm
  rw [show 2 ^ 64 - 1 - wd p k = 2 ^ 64 - (wd p k + 1) by omega, Nat.testBit_two_pow_sub_succ (wd_lt _ _), wd_bit]
  simp [hj]
theorem wd_pow (k j : Nat) (h : j < 64) : wd (fun i => decide (i = 64 * k + j)) k = 2 ^ j := by
  refine wd_eq (Nat.pow_lt_pow_right (by decide) h) fun i hi => ?_
  rw [Nat.testBit_two_pow]
  by_cases e : j = i
  · subst e; simp
  · have : ¬ i = j := fun h => e h.symm
    simp [e, this]
theorem wd_congr {p q : Nat → Bool} {k : Nat} (h : ∀ i, 64 * k ≤ i → i < 64 * k + 64 → p i = q i) : wd p k = wd q k :=
  wd_eq (wd_lt _ _) fun j hj => by rw [wd_bit, h _ (by omega) (by omega)]; simp [hj]
theorem row4_congr {p q : Nat → Bool} (h : ∀ i < 256, p i = q i) : row4 p = row4 q := by
  unfold row4
  rw [wd_congr (p := p) (q := q) (k := 0) fun i _ h2 => h i (by omega), wd_congr (p := p) (q := q) (k := 1) fun i _ h2 => h i (by omega), wd_congr (p := p) (q := q) (k := 2) fun i _ h2 => h i (by omega), wd_congr (p := p) (q := q) (k := 3) fun i _ h2 => h i (by omega)]
@[simp] theorem row4_length (p : Nat → Bool) : (row4 p).length = 4 := rfl
@[simp] theorem row4_0 (p : Nat → Bool) : (row4 p).getD 0 D0 = .lit (.int .u64 (wd p 0)) := rfl
@[simp] theorem row4_1 (p : Nat → Bool) : (row4 p).getD 1 D0 = .lit (.int .u64 (wd p 1)) := rfl
@[simp] theorem row4_2 (p : Nat → Bool) : (row4 p).getD 2 D0 = .lit (.int .u64 (wd p 2)) := rfl
@[simp] theorem row4_3 (p : Nat → Bool) : (row4 p).getD 3 D0 = .lit (.int .u64 (wd p 3)) := rfl
theorem tdiv64 (x : Nat) : Int.tdiv (x : Int) 64 = ((x / 64 : Nat) : Int) := rfl
theorem tmod64 (x : Nat) : Int.tmod (x : Int) 64 = ((x % 64 : Nat) : Int) := rfl
theorem wrap_u8 (n : Nat) (h : n < 256) : IntKind.wrap .u8 (n : Int) = n := by
  have e1 : IntKind.signed .u8 = false := rfl
  have e2 : IntKind.bits .u8 = 8 := rfl
  simp [IntKind.wrap, e1, e2]
  omega
theorem has_word (p : Nat → Bool) (k j : Nat) (h : j < 64) : (gAnd .u64 (gShr .u64 (wd p k : Int) (j : Int)) 1 == 1) = p (64 * k + j) := by
  have hlt : wd p k >>> j < 2 ^ 64 := Nat.lt_of_le_of_lt (Nat.shiftRight_le _ _) (wd_lt p k)
  rw [gShr_nat _ _ h, show (1 : Int) = ((1 : Nat) : Int) from rfl, gAnd_nat _ _ hlt (by decide)]
  have h1 : (wd p k >>> j) &&& 1 = (p (64 * k + j)).toNat := by
    have := wd_bit p k j
    rw [decide_eq_true h, Bool.true_and] at this
    rw [← this, Nat.testBit]
    rw [Nat.and_comm]
    have : 1 &&& wd p k >>> j = 0 ∨ 1 &&& wd p k >>> j = 1 := by
      rw [Nat.and_comm, Nat.and_one_is_mod]; omega
    rcases this with e | e <;> rw [e] <;> rfl
  rw [h1]
  cases p (64 * k + j) <;> rfl
theorem c55 (p : Nat → Bool) (x : Nat) (h : x < 256) : Holds Try.prog 55 [A.agg (row4 p), A.d (.lit (.int .u8 x))] [] (Ret (.d (.lit (.bool (p x))))) := by
  have hx : x / 64 < 4 := by omega
  have hj : x % 64 < 64 := Nat.mod_lt _ (by decide)
  have e : ∀ k, x / 64 = k → 64 * k + x % 64 = x := fun k hk => by omega
  refine w55 (row4 p) x ?_
  simp only [tdiv64, tmod64, wrap_u8 _ (show x / 64 < 256 by omega), row4_length, row4_0, row4_1, row4_2, row4_3, isK_int, dint_int, has_word p _ _ hj, tB_eq, decide_eq_true_eq, beq_iff_eq, beq_eq_false_iff_ne, ret_iff, and_true, true_and]
  refine ⟨rfl, by omega, by omega, fun h0 => ⟨by omega, ?_⟩, fun h0 => ⟨fun h1 => ⟨by omega, ?_⟩, fun h1 => ⟨fun h2 => ⟨by omega, ?_⟩, fun h2 => ⟨by omega, by omega, ?_⟩⟩⟩⟩
  · rw [e 0 (by omega)]
  · rw [e 1 (by omega)]
  · rw [e 2 (by omega)]
  · rw [e 3 (by omega)]
def part (lo hi n : Nat) : Nat → Bool := fun i => decide (lo ≤ i ∧ i ≤ hi ∧ i < n)
theorem part_in {lo hi n : Nat} (h : lo ≤ n) (h' : n ≤ hi) {k : Nat} (hk : n / 64 = k) : gOr .u64 (wd (part lo hi n) k : Int) (gShl .u64 1 ((n % 64 : Nat) : Int)) = wd (part lo hi (n + 1)) k := by
  have hj : n % 64 < 64 := Nat.mod_lt _ (by decide)
  rw [gShl_one _ hj, gOr_nat _ _ (wd_lt _ _) (Nat.pow_lt_pow_right (by decide) hj), ← wd_pow k _ hj, wd_or]
  congr 1
  refine wd_congr fun i h1 h2 => ?_
  simp only [part]
  rw [Bool.eq_iff_iff]
  simp only [Bool.or_eq_true, decide_eq_true_eq]
  omega
theorem part_out (lo hi : Nat) {n k : Nat} (hk : n / 64 ≠ k ∨ ¬ (lo ≤ n ∧ n ≤ hi)) : wd (part lo hi (n + 1)) k = wd (part lo hi n) k := by
  refine wd_congr fun i h1 h2 => ?_
  simp only [part]
  rw [Bool.eq_iff_iff]
  simp only [decide_eq_true_eq]
  omega
theorem part_nil (lo hi k : Nat) : wd (part lo hi 0) k = 0 := by
  refine wd_eq (by decide) fun i hi => ?_
  rw [Nat.zero_testBit]
  symm
  simp only [part, decide_eq_false_iff_not]
  omega
theorem c79 (lo hi : Nat) (h : hi < 256) (hl : lo < 256) : Holds Try.prog 79 [A.d (.lit (.int .u8 lo)), A.d (.lit (.int .u8 hi))] [] (Ret (.agg (row4 (fun i => decide (lo ≤ i ∧ i ≤ hi))))) := by
  refine w79 lo hi ⟨fun x a b c d => ∃ n : Nat, x = n ∧ n ≤ 256 ∧ a = wd (part lo hi n) 0 ∧ b = wd (part lo hi n) 1 ∧ c = wd (part lo hi n) 2 ∧ d = wd (part lo hi n) 3, fun x _ _ _ _ => (256 - x.toNat), ⟨0, rfl, by omega, by simp [part_nil]⟩, ?_, trivial⟩
  rintro x a b c d ⟨n, rfl, hn, rfl, rfl, rfl, rfl⟩
  simp only [tdiv64, tmod64, tB_eq, decide_eq_true_eq, decide_eq_false_iff_not, beq_iff_eq, beq_eq_false_iff_ne, Int.toNat_natCast, Bool.or_eq_true, Bool.not_eq_true', Bool.and_eq_true, Bool.and_eq_false_iff]
  refine ⟨fun hc => ⟨by omega, by omega, by omega, by omega, fun hin => ⟨by omega, by omega, by omega, by omega, fun h0 => ⟨by omega, by omega, by omega, ⟨n + 1, rfl, by omega, ?_⟩, by omega⟩, fun h0 => ⟨fun h1 => ⟨by omega, by omega, by omega, ⟨n + 1, rfl, by omega, ?_⟩, by omega⟩, fun h1 => ⟨fun h2 => ⟨by omega, by omega, by omega, ⟨n + 1, rfl, by omega, ?_⟩, by omega⟩, fun h2 => ⟨by omega, by omega, by omega, by omega, ⟨n + 1, rfl, by omega, ?_⟩, by omega⟩⟩⟩⟩, fun hin => ⟨by omega, by omega, ⟨n + 1, rfl, by omega, ?_⟩, by omega⟩⟩, fun hc => ?_⟩
  · have hk : n / 64 = 0 := by omega
    rw [part_in (by omega) (by omega) hk, part_out lo hi (k := 1) (by omega), part_out lo hi (k := 2) (by omega), part_out lo hi (k := 3) (by omega)]
    simp
  · have hk : n / 64 = 1 := by omega
    rw [part_in (by omega) (by omega) hk, part_out lo hi (k := 0) (by omega), part_out lo hi (k := 2) (by omega), part_out lo hi (k := 3) (by omega)]
    simp
  · have hk : n / 64 = 2 := by omega
    rw [part_in (by omega) (by omega) hk, part_out lo hi (k := 0) (by omega), part_out lo hi (k := 1) (by omega), part_out lo hi (k := 3) (by omega)]
    simp
  · have hk : n / 64 = 3 := by omega
    rw [part_in (by omega) (by omega) hk, part_out lo hi (k := 0) (by omega), part_out lo hi (k := 1) (by omega), part_out lo hi (k := 2) (by omega)]
    simp
  · rw [part_out lo hi (k := 0) (by omega), part_out lo hi (k := 1) (by omega), part_out lo hi (k := 2) (by omega), part_out lo hi (k := 3) (by omega)]
    simp
  · have e : row4 (fun i => decide (lo ≤ i ∧ i ≤ hi)) = row4 (part lo hi n) := row4_congr fun i hi => by
      simp only [part]
      rw [Bool.eq_iff_iff]
      simp only [decide_eq_true_eq]
      omega
    rw [e]
    simp [row4]
@[simp] theorem row4_g0 (p : Nat → Bool) : (row4 p)[0]? = some (.lit (.int .u64 (wd p 0))) := rfl
@[simp] theorem row4_g1 (p : Nat → Bool) : (row4 p)[1]? = some (.lit (.int .u64 (wd p 1))) := rfl
@[simp] theorem row4_g2 (p : Nat → Bool) : (row4 p)[2]? = some (.lit (.int .u64 (wd p 2))) := rfl
@[simp] theorem row4_g3 (p : Nat → Bool) : (row4 p)[3]? = some (.lit (.int .u64 (wd p 3))) := rfl
def wq (p p' : Nat → Bool) (n k : Nat) : D := .lit (.int .u64 (wd (if k < n then p' else p) k))
theorem c91 (p q : Nat → Bool) : Holds Try.prog 91 [A.agg (row4 p), A.agg (row4 q)] [] (Ret (.agg (row4 fun i => p i || q i))) := by
  refine w91 (row4 p) (row4 q) ⟨rfl, rfl, fun x a b c d => ∃ n : Nat, x = n ∧ n ≤ 4 ∧ a = wq p (fun i => p i || q i) n 0 ∧ b = wq p (fun i => p i || q i) n 1 ∧ c = wq p (fun i => p i || q i) n 2 ∧ d = wq p (fun i => p i || q i) n 3, fun x _ _ _ _ => (4 - x.toNat), ⟨0, rfl, by omega, rfl, rfl, rfl, rfl⟩, ?_, trivial⟩
  rintro x a b c d ⟨n, rfl, hn, rfl, rfl, rfl, rfl⟩
  have hor : ∀ k, gOr .u64 (wd p k : Int) (wd q k : Int) = wd (fun i => p i || q i) k := fun k => by rw [gOr_nat _ _ (wd_lt _ _) (wd_lt _ _), wd_or]
  rcases (show n = 0 ∨ n = 1 ∨ n = 2 ∨ n = 3 ∨ n = 4 by omega) with rfl | rfl | rfl | rfl | rfl
  · simp [wq, hor]; exact ⟨1, rfl, by omega, by simp⟩
  · simp [wq, hor]; exact ⟨2, rfl, by omega, by simp⟩
  · simp [wq, hor]; exact ⟨3, rfl, by omega, by simp⟩
  · simp [wq, hor]; exact ⟨4, rfl, by omega, by simp⟩
  · simp [wq, row4]
theorem c92 (p : Nat → Bool) : Holds Try.prog 92 [A.agg (row4 p)] [] (Ret (.agg (row4 fun i => !p i))) := by
  refine w92 (row4 p) ⟨rfl, fun x a b c d => ∃ n : Nat, x = n ∧ n ≤ 4 ∧ a = wq p (fun i => !p i) n 0 ∧ b = wq p (fun i => !p i) n 1 ∧ c = wq p (fun i => !p i) n 2 ∧ d = wq p (fun i => !p i) n 3, fun x _ _ _ _ => (4 - x.toNat), ⟨0, rfl, by omega, rfl, rfl, rfl, rfl⟩, ?_, trivial⟩
  rintro x a b c d ⟨n, rfl, hn, rfl, rfl, rfl, rfl⟩
  have hor : ∀ k, gNot .u64 (wd p k : Int) = wd (fun i => !p i) k := fun k => by rw [gNot_nat _ (wd_lt _ _), wd_not]
  rcases (show n = 0 ∨ n = 1 ∨ n = 2 ∨ n = 3 ∨ n = 4 by omega) with rfl | rfl | rfl | rfl | rfl
  · simp [wq, hor]; exact ⟨1, rfl, by omega, by simp⟩
  · simp [wq, hor]; exact ⟨2, rfl, by omega, by simp⟩
  · simp [wq, hor]; exact ⟨3, rfl, by omega, by simp⟩
  · simp [wq, hor]; exact ⟨4, rfl, by omega, by simp⟩
  · simp [wq, row4]
end Go.Rx
end
section
open Go Go.Proofs Go.Ab Go.Rf
set_option maxRecDepth 100000
namespace Go.Rx
def hexV (x : Nat) : Option Nat := if 48 ≤ x ∧ x ≤ 57 then some (x - 48) else if 97 ≤ x ∧ x ≤ 102 then some (x - 97 + 10) else if 65 ≤ x ∧ x ≤ 70 then some (x - 65 + 10) else none
theorem wrap_sub (x c : Nat) (h : x < 256) (hc : c ≤ x) : IntKind.wrap .u8 ((x : Int) - (c : Int)) = ((x - c : Nat) : Int) := by
  rw [← wrap_u8 (x - c) (by omega)]
  congr 1
  omega
def ctlV (x : Nat) : Option Nat := if x = 110 then some 10 else if x = 116 then some 9 else if x = 114 then some 13 else none
def spcL : List UInt8 := [40, 41, 91, 93, 123, 125, 124, 42, 43, 63, 46, 92]
def spcV (x : Nat) : Bool := spcL.any fun b => b.toNat == x
theorem c101 (x : Nat) (h : x < 256) : Holds Try.prog 101 [A.d (.lit (.int .u8 x))] [] (Ret (.tup [(false, [.lit (.int .u8 ((hexV x).getD 0 : Nat))]), (false, [.lit (.bool (hexV x).isSome)])])) := by
  refine w101 x ?_
  have e48 : 48 ≤ x → IntKind.wrap .u8 ((x : Int) - 48) = ((x - 48 : Nat) : Int) := wrap_sub x 48 h
  have e97 : 97 ≤ x → IntKind.wrap .u8 ((x : Int) - 97) = ((x - 97 : Nat) : Int) := wrap_sub x 97 h
  have e65 : 65 ≤ x → IntKind.wrap .u8 ((x : Int) - 65) = ((x - 65 : Nat) : Int) := wrap_sub x 65 h
  have ten : ∀ n : Nat, n < 200 → IntKind.wrap .u8 ((n : Int) + 10) = ((n + 10 : Nat) : Int) := fun n hn => wrap_u8 (n + 10) (by omega)
  simp only [tB_eq, decide_eq_true_eq, Bool.and_eq_true, Bool.and_eq_false_iff, decide_eq_false_iff_not, ret_iff, and_true]
  refine ⟨fun h0 => ?_, fun h0 => ⟨fun h1 => ?_, fun h1 => ⟨fun h2 => ?_, fun h2 => ?_⟩⟩⟩
  · rw [e48 (by omega)]
    have e : hexV x = some (x - 48) := by unfold hexV; rw [if_pos (by omega)]
    rw [e]; rfl
  · rw [e97 (by omega), ten _ (by omega)]
    have e : hexV x = some (x - 97 + 10) := by unfold hexV; rw [if_neg (by omega), if_pos (by omega)]
    rw [e]; rfl
  · rw [e65 (by omega), ten _ (by omega)]
    have e : hexV x = some (x - 65 + 10) := by unfold hexV; rw [if_neg (by omega), if_neg (by omega), if_pos (by omega)]
    rw [e]; rfl
  · have e : hexV x = none := by unfold hexV; rw [if_neg (by omega), if_neg (by omega), if_neg (by omega)]
    rw [e]; rfl
end Go.Rx
end
section
open Go Go.Proofs Go.Ab Go.Rf
set_option maxRecDepth 100000
namespace Go.Rx
def rng (lo hi : Nat) : Nat → Bool := fun i => decide (lo ≤ i ∧ i ≤ hi)
def orP (p q : Nat → Bool) : Nat → Bool := fun i => p i || q i
def clsV (x : Nat) : Option (Nat → Bool) :=
  if x = 100 then some (rng 48 57) else if x = 119 then some (orP (orP (rng 48 57) (orP (rng 97 122) (rng 65 90))) (rng 95 95)) else if x = 115 then some (orP (orP (rng 9 10) (rng 13 13)) (rng 32 32)) else none
def clsA (x : Nat) : A := .tup [(true, row4 ((clsV x).getD fun _ => false)), (false, [.lit (.bool (clsV x).isSome)])]
theorem c79' (lo hi : Nat) (h : hi < 256) (hl : lo < 256) : Holds Try.prog 79 [A.d (.lit (.int .u8 lo)), A.d (.lit (.int .u8 hi))] [] (Ret (.agg (row4 (rng lo hi)))) := c79 lo hi h hl
theorem c91' (p q : Nat → Bool) : Holds Try.prog 91 [A.agg (row4 p), A.agg (row4 q)] [] (Ret (.agg (row4 (orP p q)))) := c91 p q
theorem row4_none : row4 (fun _ => false) = [.lit (.int .u64 0), .lit (.int .u64 0), .lit (.int .u64 0), .lit (.int .u64 0)] := by
  have : ∀ k, wd (fun _ => false) k = 0 := fun k => wd_eq (by decide) fun j _ => Nat.zero_testBit j
  simp [row4, this]
theorem c80 (x : Nat) (h : x < 256) : Holds Try.prog 80 [A.d (.lit (.int .u8 x))] [] (Ret (clsA x)) := by
  refine w80 x (call1 (c79' 48 57 (by decide) (by decide)) ⟨_, rfl, rfl, rfl, fun h0 => ?_, fun h0 => ⟨fun h1 => call1 (c79' 97 122 (by decide) (by decide)) ⟨_, rfl, rfl, call1 (c79' 65 90 (by decide) (by decide)) ⟨_, rfl, rfl, call1 (c91' _ _) ⟨_, rfl, rfl, rfl, call1 (c91' _ _) ⟨_, rfl, rfl, call1 (c79' 95 95 (by decide) (by decide)) ⟨_, rfl, rfl, call1 (c91' _ _) ⟨_, rfl, rfl, rfl, ?_⟩⟩⟩⟩⟩⟩,
    fun h1 => ⟨fun h2 => call1 (c79' 9 10 (by decide) (by decide)) ⟨_, rfl, rfl, call1 (c79' 13 13 (by decide) (by decide)) ⟨_, rfl, rfl, call1 (c91' _ _) ⟨_, rfl, rfl, call1 (c79' 32 32 (by decide) (by decide)) ⟨_, rfl, rfl, call1 (c91' _ _) ⟨_, rfl, rfl, rfl, ?_⟩⟩⟩⟩⟩, fun h2 => ?_⟩⟩⟩)
  all_goals simp only [tB_eq, beq_iff_eq, beq_eq_false_iff_ne] at *
  · have e : clsV x = some (rng 48 57) := by unfold clsV; rw [if_pos (by omega)]
    simp [clsA, e]
  · have e : clsV x = some (orP (orP (rng 48 57) (orP (rng 97 122) (rng 65 90))) (rng 95 95)) := by unfold clsV; rw [if_neg (by omega), if_pos (by omega)]
    simp [clsA, e]
  · have e : clsV x = some (orP (orP (rng 9 10) (rng 13 13)) (rng 32 32)) := by unfold clsV; rw [if_neg (by omega), if_neg (by omega), if_pos (by omega)]
    simp [clsA, e]
  · have e : clsV x = none := by unfold clsV; rw [if_neg (by omega), if_neg (by omega), if_neg (by omega)]
    simp [clsA, e, row4_none]
end Go.Rx
end
section
open Go Go.Proofs Go.Ab Go.Rf
set_option maxRecDepth 100000
namespace Go.Rx
def idxV (l : List UInt8) (c : Nat) : Int := firstIdx ⟨l.toArray⟩ c.toUInt8
theorem c102 (l : List UInt8) (c : Nat) : Holds Try.prog 102 [A.d (.lit (bytesV l)), A.d (.lit (.int .u8 c))] [] (Ret (.d (.lit (.int .i64 (idxV l c))))) := by
  intro w cargs g h1 h2
  have hc : cargs = #[bytesV l, .int .u8 c] := by
    rcases cargs with ⟨cl⟩
    match cl, h1 with
    | [a, b], ⟨ha, hb, _⟩ =>
      have ha := ha .res
      have hb := hb .res
      cases ha
      cases hb
      rfl
  subst hc
  unfold CallsX
  rw [run_callFunc_extern (P := Try.prog) (f := 102) (fn := Try.f102) (e := Extern.BytealgIndexByte.indexByte) rfl (by decide) rfl rfl rfl]
  rw [bytesV, run_indexByte_string]
  refine ⟨.ret (.d (.lit (.int .i64 (idxV l c)))), [], g, ⟨rfl, rfl⟩, rfl, ?_, _, rfl, ?_, fun h => by cases h⟩
  · exact ⟨h2.box, h2.inj, h2.wr, h2.prs, h2.pr0, h2.prn, h2.up, h2.uu, h2.fr⟩
  · exact .lit _ rfl
theorem c94 (l : List UInt8) (c : Nat) : Holds Try.prog 94 [A.d (.lit (bytesV l)), A.d (.lit (.int .u8 c))] [] (Ret (.d (.lit (.int .i64 (idxV l c))))) :=
  w94 l c (call1 (c102 l c) ⟨_, rfl, rfl, by simp⟩)
theorem c83 (l : List UInt8) (c : Nat) : Holds Try.prog 83 [A.d (.lit (bytesV l)), A.d (.lit (.int .u8 c))] [] (Ret (.d (.lit (.int .i64 (idxV l c))))) :=
  w83 l c (call1 (c94 l c) ⟨_, rfl, rfl, by simp⟩)
theorem idxV_nonneg (l : List UInt8) (c : Nat) (h : c < 256) : 0 ≤ idxV l c ↔ (l.any fun b => b.toNat == c) = true := by
  unfold idxV firstIdx
  have key : ∀ b : UInt8, b = c.toUInt8 ↔ b.toNat = c := fun b => by
    constructor
    · rintro rfl; simp; omega
    · rintro rfl; simp
  split
  · rename_i i hi
    have h1 := List.find?_some hi
    have h2 := List.mem_range.1 (List.mem_of_find?_eq_some hi)
    simp only [beq_iff_eq, key] at h1
    refine ⟨fun _ => List.any_eq_true.2 ⟨_, ?_, by simpa using h1⟩, fun _ => by omega⟩
    have e : (⟨l.toArray⟩ : ByteArray)[i]! = l[i]'h2 := by
      rw [getElem!_pos _ i h2]; rfl
    rw [e]
    exact List.getElem_mem _
  · rename_i hi
    refine ⟨fun h => by omega, fun h => ?_⟩
    obtain ⟨b, hb, hx⟩ := List.any_eq_true.1 h
    obtain ⟨j, hj, rfl⟩ := List.mem_iff_getElem.1 hb
    have := List.find?_eq_none.1 hi j (List.mem_range.2 hj)
    have e : (⟨l.toArray⟩ : ByteArray)[j]! = l[j]'hj := by
      rw [getElem!_pos _ j hj]; rfl
    rw [e] at this
    simp only [beq_iff_eq, key] at this
    exact absurd (by simpa using hx) this
end Go.Rx
end
section
open Go Go.Proofs Go.Ab Go.Rf
set_option maxRecDepth 100000
namespace Go.Rx
def nodeErr (r : Rx) : Int :=
  if r.kind < 0 ∨ 5 < r.kind ∨ (r.kind ≠ 2 ∧ ¬ (r.w 0 = 0 ∧ r.w 1 = 0 ∧ r.w 2 = 0 ∧ r.w 3 = 0)) then 11
  else if r.kind = 3 ∨ r.kind = 4 then (if r.subs.length < 2 then 2 else 0)
  else if r.kind = 5 then (if r.subs.length ≠ 1 then 2 else 0)
  else if r.subs.length ≠ 0 then 2 else 0
mutual
def chk (lvl : Int) : Rx → Int
  | .mk k a b c d l => if 16 < lvl then 9 else if nodeErr (.mk k a b c d l) ≠ 0 then nodeErr (.mk k a b c d l) else chks (lvl + 1) l
def chks (lvl : Int) : List Rx → Int
  | [] => 0
  | r :: l => if chk lvl r ≠ 0 then chk lvl r else chks lvl l
end
theorem chk_eq (lvl : Int) (r : Rx) : chk lvl r = if 16 < lvl then 9 else if nodeErr r ≠ 0 then nodeErr r else chks (lvl + 1) r.subs := by cases r; simp only [chk, Rx.subs]
theorem chks_none {lvl : Int} : ∀ (l : List Rx), (∀ i (h : i < l.length), chk lvl l[i] = 0) → chks lvl l = 0
  | [], _ => rfl
  | r :: l, h => by
    simp only [chks]
    rw [if_neg (fun hne => hne (h 0 (Nat.succ_pos _)))]
    exact chks_none l fun i hi => h (i + 1) (Nat.succ_lt_succ hi)
theorem chks_first {lvl : Int} : ∀ (l : List Rx) (j : Nat) (hj : j < l.length), (∀ i (h : i < j), chk lvl (l[i]'(by omega)) = 0) → chk lvl l[j] ≠ 0 → chks lvl l = chk lvl l[j]
  | r :: l, 0, _, _, h => by simp only [chks]; rw [if_pos (by simpa using h)]; rfl
  | r :: l, j + 1, hj, h0, h => by
    simp only [chks]
    rw [if_neg (by simpa using h0 0 (by omega))]
    exact chks_first l j (by simpa using hj) (fun i hi => by simpa using h0 (i + 1) (by omega)) h
end Go.Rx
end
section
open Go Go.Proofs Go.Ab Go.Rf
set_option maxRecDepth 100000
namespace Go.Rx
theorem c33 : ∀ (n : Nat) (r : Rx) (lvl : Int), size r ≤ n → lens (2 ^ 40) r → -100 ≤ lvl → lvl ≤ 100 → Holds Try.prog 33 [A.agg (enc r), A.d (.lit (.int .i64 lvl))] [] (Ret (.d (.lit (.int .i64 (chk lvl r))))) := by
  intro n
  induction n with
  | zero => intro r lvl h; have := size_pos r; omega
  | succ n ih =>
    intro r lvl hs hn h1 h2
    refine w33 (enc r) lvl ⟨by simp, fun h => ?_, fun h => ?_⟩
    · simp at h
      have e : chk lvl r = 9 := by rw [chk_eq, if_pos h]
      simp [e]
    · simp at h
      have hbad : nodeErr r ≠ 0 → chk lvl r = nodeErr r := fun he => by rw [chk_eq, if_neg (by omega), if_pos he]
      refine ⟨by simp, by simp, by simp, by simp, by simp, fun hk => ?_, fun hk => ?_⟩
      · have e : nodeErr r = 11 := by
          simp only [enc0, enc1, enc2, enc3, enc4, dint_int, tB_eq, decide_eq_true_eq, Bool.and_eq_true, Bool.or_eq_true, Bool.not_eq_true', Bool.and_eq_false_iff, beq_iff_eq, beq_eq_false_iff_ne] at hk
          unfold nodeErr
          rw [if_pos]
          rcases hk with (h | h) | ⟨h, h'⟩
          · exact .inl h
          · exact .inr (.inl h)
          · exact .inr (.inr ⟨h, by rintro ⟨a, b, c, d⟩; rcases h' with h' | h' | h' | h' <;> contradiction⟩)
        have e2 : chk lvl r = 11 := by rw [hbad (by omega), e]
        simp [e2]
      · have e : nodeErr r = if r.kind = 3 ∨ r.kind = 4 then (if r.subs.length < 2 then 2 else 0) else if r.kind = 5 then (if r.subs.length ≠ 1 then 2 else 0) else if r.subs.length ≠ 0 then 2 else 0 := by
          simp only [enc0, enc1, enc2, enc3, enc4, dint_int, tB_eq, decide_eq_false_iff_not, Bool.and_eq_true, Bool.or_eq_false_iff, Bool.not_eq_true', Bool.and_eq_false_iff, Bool.not_eq_false', beq_iff_eq] at hk
          unfold nodeErr
          rw [if_neg]
          rintro (h' | h' | ⟨h', h''⟩)
          · exact hk.1.1 h'
          · exact hk.1.2 h'
          · rcases hk.2 with h3 | h3
            · exact h' h3
            · exact h'' h3
        have hlen : r.subs.length ≤ 2 ^ 40 := (lens_iff.1 hn).1
        refine ⟨by simp, fun _ => nodeErr r = 0, ⟨fun hk => ⟨fun hl => ?_, fun hl => ?_⟩, fun hk3 => ⟨fun hk => ⟨fun hl => ?_, fun hl => ?_⟩, fun hk4 => ⟨fun hk => ⟨fun hl => ?_, fun hl => ?_⟩, fun hk5 => ⟨fun hl => ?_, fun hl => ?_⟩⟩⟩⟩, ?_, trivial⟩
        · simp at hk hl
          have e2 : nodeErr r = 2 := by rw [e, if_pos (.inl hk), if_pos (by omega)]
          have e3 : chk lvl r = 2 := by rw [hbad (by omega), e2]
          simp [e3]
        · simp at hk hl
          rw [e, if_pos (.inl hk), if_neg (by omega)]
        · simp at hk hl
          have e2 : nodeErr r = 2 := by rw [e, if_pos (.inr hk), if_pos (by omega)]
          have e3 : chk lvl r = 2 := by rw [hbad (by omega), e2]
          simp [e3]
        · simp at hk hl
          rw [e, if_pos (.inr hk), if_neg (by omega)]
        · simp at hk3 hk4 hk hl
          have e2 : nodeErr r = 2 := by rw [e, if_neg (by omega), if_pos hk, if_pos (by omega)]
          have e3 : chk lvl r = 2 := by rw [hbad (by omega), e2]
          simp [e3]
        · simp at hk3 hk4 hk hl
          rw [e, if_neg (by omega), if_pos hk, if_neg (by omega)]
        · simp only [enc0, enc5, dint_int, dlst_slc, tB_eq, encs_length, beq_eq_false_iff_ne, Bool.not_eq_true'] at hk3 hk4 hk5 hl
          have e2 : nodeErr r = 2 := by rw [e, if_neg (by omega), if_neg hk5, if_pos (by omega)]
          have e3 : chk lvl r = 2 := by rw [hbad (by omega), e2]
          simp [e3]
        · simp only [enc0, enc5, dint_int, dlst_slc, tB_eq, encs_length, beq_eq_false_iff_ne, Bool.not_eq_false', beq_iff_eq] at hk3 hk4 hk5 hl
          rw [e, if_neg (by omega), if_neg hk5, if_neg (by omega)]
        · intro _ he
          refine ⟨fun x => ∃ i : Nat, x = i ∧ i ≤ r.subs.length ∧ ∀ j (hj : j < r.subs.length), j < i → chk (lvl + 1) r.subs[j] = 0, fun x => (r.subs.length - x.toNat), ⟨0, rfl, Nat.zero_le _, fun j _ hj => absurd hj (Nat.not_lt_zero _)⟩, ?_, trivial⟩
          rintro x ⟨i, rfl, hi, hall⟩
          refine ⟨fun hc => ?_, fun hc => ?_⟩
          · simp at hc
            have hsub := size_sub hc
            simp only [enc5, dlst_slc]
            rw [gAt_encs rfl hc]
            refine ⟨by simp, by simp, by simp; omega, by simp; omega, call1 (ih r.subs[i] (lvl + 1) (by omega) (lens_sub hn hc) (by omega) (by omega)) ⟨_, rfl, rfl, fun hne => ?_, fun heq => ?_⟩⟩
            · simp at hne
              have e : chk lvl r = chk (lvl + 1) r.subs[i] := by rw [chk_eq, if_neg (by omega), if_neg (by simp [he]), chks_first r.subs i hc (fun j hj => hall j (by omega) hj) hne]
              simp [e]
            · simp at heq
              refine ⟨by simp; omega, by simp; omega, ⟨i + 1, rfl, hc, fun j hj hji => ?_⟩, by simp; omega⟩
              by_cases e : j = i
              · subst e; exact heq
              · exact hall j hj (by omega)
          · simp at hc
            have e : chk lvl r = 0 := by rw [chk_eq, if_neg (by omega), if_neg (by simp [he]), chks_none r.subs fun j hj => hall j hj (by omega)]
            simp [e]
theorem c35 : ∀ (n : Nat) (r : Rx), size r ≤ n → n ≤ 2 ^ 40 → Holds Try.prog 35 [A.agg (enc r)] [] (Ret (.d (.lit (.int .i64 (size r))))) := by
  intro n
  induction n with
  | zero => intro r h; have := size_pos r; omega
  | succ n ih =>
    intro r hs hn
    have hlen : r.subs.length < size r := by have := sizes_ge r.subs; have := size_eq r; omega
    refine w35 (enc r) ⟨by simp, by simp, fun x y => ∃ i : Nat, y = i ∧ i ≤ r.subs.length ∧ x = 1 + sizes (r.subs.take i), fun x y => (r.subs.length - y.toNat), ⟨0, rfl, Nat.zero_le _, by simp [sizes]⟩, ?_, trivial⟩
    rintro x y ⟨i, rfl, hi, rfl⟩
    have hle := sizes_le r.subs i
    have hsz := size_eq r
    refine ⟨fun hc => ?_, fun hc => ?_⟩
    · simp at hc
      have hsub := size_sub hc
      have ht := sizes_take r.subs i hc
      have hle2 := sizes_le r.subs (i + 1)
      simp only [enc5, dlst_slc]
      rw [gAt_encs rfl hc]
      refine ⟨by simp, by simp, call1 (ih r.subs[i] (by omega) (by omega)) ⟨_, rfl, rfl, by simp; omega, by simp; omega, by simp; omega, by simp; omega, ⟨i + 1, rfl, hc, by omega⟩, by simp; omega⟩⟩
    · simp at hc
      have e : i = r.subs.length := by omega
      subst e
      simp [hsz]
end Go.Rx
end
section
open Go Go.Proofs Go.Ab Go.Rf
set_option maxRecDepth 100000
namespace Go.Rx
theorem c15 (r : Rx) (h : lens (2 ^ 40) r) : Holds Try.prog 15 [A.agg (enc r)] [] (Ret (.d (.lit (.int .i64 (chk 1 r))))) :=
  w15 (enc r) ⟨by simp, call1 (c33 _ r 1 (Nat.le_refl _) h (by omega) (by omega)) ⟨_, rfl, rfl, by simp⟩⟩
def sizeV (r : Rx) : Int := if chk 1 r = 0 then size r else 0
theorem c17 (r : Rx) (h : size r ≤ 2 ^ 40) : Holds Try.prog 17 [A.agg (enc r)] [] (Ret (.d (.lit (.int .i64 (sizeV r))))) := by
  refine w17 (enc r) ⟨by simp, call1 (c15 r (lens_size _ r h (Nat.le_refl _))) ⟨_, rfl, rfl, fun hc => ?_, fun hc => ?_⟩⟩
  · simp at hc; simp [sizeV, hc]
  · simp at hc; exact call1 (c35 _ r h (Nat.le_refl _)) ⟨_, rfl, rfl, by simp [sizeV, hc]⟩
mutual
def levels : Rx → Nat
  | .mk _ _ _ _ _ l => levelsL l + 1
def levelsL : List Rx → Nat
  | [] => 0
  | r :: l => max (levels r) (levelsL l)
end
theorem levels_eq (r : Rx) : levels r = levelsL r.subs + 1 := by cases r; rfl
mutual
theorem levels_size : ∀ r : Rx, levels r ≤ size r
  | .mk _ _ _ _ _ l => by have := levelsL_sizes l; simp only [levels, size]; omega
theorem levelsL_sizes : ∀ l : List Rx, levelsL l ≤ sizes l
  | [] => by simp [levelsL, sizes]
  | r :: l => by have := levels_size r; have := levelsL_sizes l; simp only [levelsL, sizes]; omega
end
mutual
def null : Rx → Bool
  | .mk k _ _ _ _ l => if k = 1 ∨ k = 5 then true else if k = 3 then nullAll l else if k = 4 then nullAny l else false
def nullAll : List Rx → Bool
  | [] => true
  | r :: l => null r && nullAll l
def nullAny : List Rx → Bool
  | [] => false
  | r :: l => null r || nullAny l
end
theorem null_eq (r : Rx) : null r = if r.kind = 1 ∨ r.kind = 5 then true else if r.kind = 3 then nullAll r.subs else if r.kind = 4 then nullAny r.subs else false := by cases r; simp only [null, Rx.kind, Rx.subs]; rfl
theorem nullAll_iff : ∀ l : List Rx, nullAll l = true ↔ ∀ i (h : i < l.length), null l[i] = true
  | [] => by simp [nullAll]
  | r :: l => by
    simp only [nullAll, Bool.and_eq_true, nullAll_iff l]
    constructor
    · rintro ⟨h1, h2⟩ i hi
      cases i with
      | zero => exact h1
      | succ i => exact h2 i (by simpa using hi)
    · intro h
      exact ⟨h 0 (by simp), fun i hi => h (i + 1) (by simpa using hi)⟩
theorem nullAny_iff : ∀ l : List Rx, nullAny l = true ↔ ∃ i, ∃ h : i < l.length, null l[i] = true
  | [] => by simp [nullAny]
  | r :: l => by
    simp only [nullAny, Bool.or_eq_true, nullAny_iff l]
    constructor
    · rintro (h | ⟨i, hi, h⟩)
      · exact ⟨0, by simp, h⟩
      · exact ⟨i + 1, by simpa using hi, h⟩
    · rintro ⟨i, hi, h⟩
      cases i with
      | zero => exact .inl h
      | succ i => exact .inr ⟨i, by simpa using hi, h⟩
theorem c42 : ∀ (n : Nat) (r : Rx), size r ≤ n → lens (2 ^ 40) r → Holds Try.prog 42 [A.agg (enc r)] [] (Ret (.d (.lit (.bool (null r))))) := by
  intro n
  induction n with
  | zero => intro r h; have := size_pos r; omega
  | succ n ih =>
    intro r hs hn
    have hlen : r.subs.length ≤ 2 ^ 40 := (lens_iff.1 hn).1
    refine w42 (enc r) ⟨by simp, by simp, fun h1 => ?_, fun h1 => ⟨fun h5 => ?_, fun h5 => ⟨fun h3 => ⟨by simp, ?_⟩, fun h3 => ⟨fun h4 => ⟨by simp, ?_⟩, fun h4 => ?_⟩⟩⟩⟩
    · simp at h1; rw [null_eq]; simp [h1]
    · simp at h5; rw [null_eq]; simp [h5]
    · simp at h1 h5 h3
      have e : null r = nullAll r.subs := by rw [null_eq]; simp [h3]
      rw [e]
      refine ⟨fun x => ∃ i : Nat, x = i ∧ i ≤ r.subs.length ∧ ∀ j (hj : j < r.subs.length), j < i → null r.subs[j] = true, fun x => (r.subs.length - x.toNat), ⟨0, rfl, Nat.zero_le _, fun j _ hj => absurd hj (Nat.not_lt_zero _)⟩, ?_, trivial⟩
      rintro x ⟨i, rfl, hi, hall⟩
      refine ⟨fun hc => ?_, fun hc => ?_⟩
      · simp at hc
        have hsub := size_sub hc
        simp only [enc5, dlst_slc]
        rw [gAt_encs rfl hc]
        refine ⟨by simp, by simp, call1 (ih r.subs[i] (by omega) (lens_sub hn hc)) ⟨_, rfl, rfl, fun hne => ?_, fun heq => ?_⟩⟩
        · have e : nullAll r.subs = false := by
            rw [Bool.eq_false_iff]
            intro h
            have := (nullAll_iff _).1 h i hc
            rw [this] at hne
            cases hne
          simp [e]
        · refine ⟨by simp; omega, by simp; omega, ⟨i + 1, rfl, hc, fun j hj hji => ?_⟩, by simp; omega⟩
          by_cases e : j = i
          · subst e; simpa using heq
          · exact hall j hj (by omega)
      · simp at hc
        have e : nullAll r.subs = true := (nullAll_iff _).2 fun j hj => hall j hj (by omega)
        simp [e]
    · simp at h1 h5 h3 h4
      have e : null r = nullAny r.subs := by rw [null_eq]; simp [h4]
      rw [e]
      refine ⟨fun x => ∃ i : Nat, x = i ∧ i ≤ r.subs.length ∧ ∀ j (hj : j < r.subs.length), j < i → null r.subs[j] = false, fun x => (r.subs.length - x.toNat), ⟨0, rfl, Nat.zero_le _, fun j _ hj => absurd hj (Nat.not_lt_zero _)⟩, ?_, trivial⟩
      rintro x ⟨i, rfl, hi, hall⟩
      refine ⟨fun hc => ?_, fun hc => ?_⟩
      · simp at hc
        have hsub := size_sub hc
        simp only [enc5, dlst_slc]
        rw [gAt_encs rfl hc]
        refine ⟨by simp, by simp, call1 (ih r.subs[i] (by omega) (lens_sub hn hc)) ⟨_, rfl, rfl, fun hne => ?_, fun heq => ?_⟩⟩
        · have e : nullAny r.subs = true := (nullAny_iff _).2 ⟨i, hc, hne⟩
          simp [e]
        · refine ⟨by simp; omega, by simp; omega, ⟨i + 1, rfl, hc, fun j hj hji => ?_⟩, by simp; omega⟩
          by_cases e : j = i
          · subst e; exact heq
          · exact hall j hj (by omega)
      · simp at hc
        have e : nullAny r.subs = false := by
          rw [Bool.eq_false_iff]
          intro h
          obtain ⟨j, hj, h⟩ := (nullAny_iff _).1 h
          rw [hall j hj (by omega)] at h
          cases h
        simp [e]
    · simp at h1 h5 h3 h4
      rw [null_eq]; simp [h1, h5, h3, h4]
end Go.Rx
end
section
open Go Go.Proofs Go.Ab Go.Rf
set_option maxRecDepth 100000
namespace Go.Rx
inductive Res (α : Type) where
  | ok (a : α) (t : List UInt8)
  | bad (t : List UInt8)
def hd (t : List UInt8) : Nat := match t with | [] => 0 | c :: _ => c.toNat
def escV (x : Nat) : Option Nat := match ctlV x with | some n => some n | none => if spcV x || x == 94 || x == 45 then some x else none
def hexR (lo : Nat) (t : List UInt8) : Res Nat :=
  match hexV (hd t) with
  | none => .bad t
  | some d => if d * 16 + 15 < lo then .bad t else match hexV (hd t.tail) with
    | none => .bad t.tail
    | some e => if d * 16 + e < lo then .bad t.tail else .ok (d * 16 + e) t.tail.tail
def escR (lo : Nat) (t : List UInt8) : Res Nat :=
  if hd t = 120 then hexR lo t.tail else match escV (hd t) with
    | none => .bad t
    | some n => if n < lo then .bad t else .ok n t.tail
def byteR (lo : Nat) (t : List UInt8) : Res Nat :=
  if hd t = 92 then escR lo t.tail
  else if hd t < 32 ∨ 126 < hd t ∨ hd t < lo ∨ (spcV (hd t) || hd t == 94 || hd t == 45) = true then .bad t else .ok (hd t) t.tail
def mk0 (k : Int) (l : List Rx) : Rx := .mk k 0 0 0 0 l
def setX (p : Nat → Bool) : Rx := .mk 2 (wd p 0) (wd p 1) (wd p 2) (wd p 3) []
def hiR (lo : Nat) (t : List UInt8) : Res Nat := if hd t = 45 then byteR lo t.tail else .ok lo t
def negP (neg : Bool) (p : Nat → Bool) : Nat → Bool := if neg then fun i => !p i else p
def setL : Nat → Bool → (Nat → Bool) → List UInt8 → Option (Res Rx)
  | 0, _, _, _ => none
  | n + 1, neg, p, t => match byteR 0 t with
    | .bad q => some (.bad q)
    | .ok lo t1 => match hiR lo t1 with
      | .bad q => some (.bad q)
      | .ok hi t3 => if hd t3 = 93 then some (.ok (setX (negP neg (orP p (rng lo hi)))) t3.tail) else setL n neg (orP p (rng lo hi)) t3
def no : Nat → Bool := fun _ => false
def setR (n : Nat) (t : List UInt8) : Option (Res Rx) :=
  if hd t = 94 then setL n true no t.tail else if hd t = 93 then some (.ok (mk0 0 []) t.tail) else setL n false no t
def joinX (k : Int) (l : List Rx) : Rx := match l with | [r] => r | l => mk0 k l
def starX (r : Rx) : Rx := mk0 5 [r]
def opX (c : Nat) (r : Rx) : Option Rx := if c = 42 then some (starX r) else if c = 43 then some (mk0 3 [r, starX r]) else if c = 63 then some (mk0 4 [r, mk0 1 []]) else none
def opsL : Nat → Rx → List UInt8 → Option (Res Rx)
  | 0, _, _ => none
  | n + 1, r, t => match opX (hd t) r with | some r' => opsL n r' t.tail | none => some (.ok r t)
def oneX (c : Nat) : Rx := setX (rng c c)
def closeR (r : Rx) (t : List UInt8) : Res Rx := if hd t = 41 then .ok r t.tail else .bad t
mutual
def alts : Nat → List UInt8 → Option (Res Rx)
  | 0, _ => none
  | n + 1, t => match seqs n t with
    | none => none
    | some (.bad q) => some (.bad q)
    | some (.ok r t1) => altL n [r] t1
def altL : Nat → List Rx → List UInt8 → Option (Res Rx)
  | 0, _, _ => none
  | n + 1, l, t => if hd t = 124 then (match seqs n t.tail with
    | none => none
    | some (.bad q) => some (.bad q)
    | some (.ok r t1) => altL n (l ++ [r]) t1) else some (.ok (joinX 4 l) t)
def seqs : Nat → List UInt8 → Option (Res Rx)
  | 0, _ => none
  | n + 1, t => match piece n t with
    | none => none
    | some (.bad q) => some (.bad q)
    | some (.ok r t1) => seqL n [r] t1
def seqL : Nat → List Rx → List UInt8 → Option (Res Rx)
  | 0, _, _ => none
  | n + 1, l, t => if t ≠ [] ∧ hd t ≠ 124 ∧ hd t ≠ 41 then (match piece n t with
    | none => none
    | some (.bad q) => some (.bad q)
    | some (.ok r t1) => seqL n (l ++ [r]) t1) else some (.ok (joinX 3 l) t)
def piece : Nat → List UInt8 → Option (Res Rx)
  | 0, _ => none
  | n + 1, t => match atom n t with
    | none => none
    | some (.bad q) => some (.bad q)
    | some (.ok r t1) => opsL n r t1
def atom : Nat → List UInt8 → Option (Res Rx)
  | 0, _ => none
  | n + 1, t =>
    if hd t = 40 then (if hd t.tail = 41 then some (.ok (mk0 1 []) t.tail.tail) else match alts n t.tail with
      | none => none
      | some (.bad q) => some (.bad q)
      | some (.ok r t1) => some (closeR r t1))
    else if hd t = 91 then setR n t.tail
    else if hd t = 46 then some (.ok (setX (rng 0 255)) t.tail)
    else if hd t = 92 then (match clsV (hd t.tail) with
      | some p => some (.ok (setX p) t.tail.tail)
      | none => match escR 0 t.tail with
        | .bad q => some (.bad q)
        | .ok c t1 => some (.ok (oneX c) t1))
    else if hd t < 32 ∨ 126 < hd t ∨ spcV (hd t) = true then some (.bad t)
    else some (.ok (oneX (hd t)) t.tail)
end
def Res.Lt {α : Type} (t : List UInt8) : Res α → Prop
  | .ok _ t' => t'.length < t.length ∧ t' <:+ t
  | .bad t' => t' <:+ t
def Res.Le {α : Type} (t : List UInt8) : Res α → Prop
  | .ok _ t' => t' <:+ t
  | .bad t' => t' <:+ t
theorem hd_ne {t : List UInt8} (h : hd t ≠ 0) : t.tail.length < t.length := by
  cases t with
  | nil => exact absurd rfl h
  | cons c t => simp
theorem tail_suf (t : List UInt8) : t.tail <:+ t := List.tail_suffix t
theorem hexV_ne {x d : Nat} (h : hexV x = some d) : x ≠ 0 := by
  rintro rfl; simp [hexV] at h
theorem hexR_lt (lo : Nat) (t : List UInt8) : (hexR lo t).Lt t := by
  unfold hexR
  split
  · exact List.suffix_refl _
  · rename_i d hd1
    split
    · exact List.suffix_refl _
    · split
      · exact tail_suf _
      · rename_i e he
        split
        · exact tail_suf _
        · have h1 := hd_ne (hexV_ne hd1)
          have h2 := hd_ne (hexV_ne he)
          exact ⟨by omega, (tail_suf _).trans (tail_suf _)⟩
theorem escV_ne {x d : Nat} (h : escV x = some d) : x ≠ 0 := by
  rintro rfl; revert h; simp [escV, ctlV, spcV, spcL]
theorem Res.Lt.tail {α : Type} {t : List UInt8} {r : Res α} (h : r.Lt t.tail) : r.Lt t := by
  cases r with
  | ok a t' => exact ⟨by have := h.1; have : t.tail.length ≤ t.length := by simp
                         omega, h.2.trans (tail_suf _)⟩
  | bad t' => exact List.IsSuffix.trans (show t' <:+ t.tail from h) (tail_suf _)
theorem escR_lt (lo : Nat) (t : List UInt8) : (escR lo t).Lt t := by
  unfold escR
  split
  · exact (hexR_lt _ _).tail
  · split
    · exact List.suffix_refl _
    · rename_i n hn
      split
      · exact List.suffix_refl _
      · exact ⟨hd_ne (escV_ne hn), tail_suf _⟩
theorem byteR_lt (lo : Nat) (t : List UInt8) : (byteR lo t).Lt t := by
  unfold byteR
  split
  · exact (escR_lt _ _).tail
  · split
    · exact List.suffix_refl _
    · rename_i h
      exact ⟨hd_ne (by omega), tail_suf _⟩
theorem Res.Lt.trans {α : Type} {t t' : List UInt8} {r : Res α} (h : r.Lt t') (h2 : t' <:+ t) : r.Lt t := by
  cases r with
  | ok a q => exact ⟨Nat.lt_of_lt_of_le h.1 h2.length_le, h.2.trans h2⟩
  | bad q => exact List.IsSuffix.trans (show q <:+ t' from h) h2
theorem hiR_le (lo : Nat) (t : List UInt8) : (hiR lo t).Le t := by
  unfold hiR
  split
  · have := (byteR_lt lo t.tail).tail
    cases hb : byteR lo t.tail with
    | ok a q => rw [hb] at this; exact this.2
    | bad q => rw [hb] at this; exact this
  · exact List.suffix_refl _
theorem setL_lt : ∀ (n : Nat) (neg : Bool) (p : Nat → Bool) (t : List UInt8) (r : Res Rx), setL n neg p t = some r → r.Lt t
  | 0, _, _, _, _, h => by simp [setL] at h
  | n + 1, neg, p, t, r, h => by
    unfold setL at h
    have h1 := byteR_lt 0 t
    split at h
    · rename_i q hq; rw [hq] at h1; cases h; exact h1
    · rename_i lo t1 hq
      rw [hq] at h1
      have h2 := hiR_le lo t1
      split at h
      · rename_i q hq; rw [hq] at h2; cases h; exact List.IsSuffix.trans h2 h1.2
      · rename_i hi t3 hq
        rw [hq] at h2
        have h3 : t3 <:+ t1 := h2
        split at h
        · cases h
          exact ⟨by have := h1.1; have := h3.length_le; have : t3.tail.length ≤ t3.length := by simp
                    omega, (tail_suf _).trans (h3.trans h1.2)⟩
        · exact (setL_lt n neg _ t3 r h).trans (h3.trans h1.2)
theorem setR_lt (n : Nat) (t : List UInt8) (r : Res Rx) (h : setR n t = some r) : r.Lt t := by
  unfold setR at h
  split at h
  · exact (setL_lt _ _ _ _ _ h).tail
  · split at h
    · cases h; exact ⟨hd_ne (by omega), tail_suf _⟩
    · exact setL_lt _ _ _ _ _ h
theorem opX_ne {c : Nat} {r r' : Rx} (h : opX c r = some r') : c ≠ 0 := by
  rintro rfl; simp [opX] at h
theorem opsL_le : ∀ (n : Nat) (r : Rx) (t : List UInt8) (o : Res Rx), opsL n r t = some o → o.Le t
  | 0, _, _, _, h => by simp [opsL] at h
  | n + 1, r, t, o, h => by
    unfold opsL at h
    split at h
    · rename_i r' _
      have := opsL_le n r' t.tail o h
      cases o with
      | ok a q => exact List.IsSuffix.trans this (tail_suf _)
      | bad q => exact List.IsSuffix.trans this (tail_suf _)
    · cases h; exact List.suffix_refl _
theorem Res.Le.trans {α : Type} {t t' : List UInt8} {r : Res α} (h : r.Le t') (h2 : t' <:+ t) : r.Le t := by
  cases r with
  | ok a q => exact List.IsSuffix.trans h h2
  | bad q => exact List.IsSuffix.trans h h2
theorem Res.Le.lt {α : Type} {t t' : List UInt8} {r : Res α} (h : r.Le t') (h2 : t' <:+ t) (h3 : t'.length < t.length) : r.Lt t := by
  cases r with
  | ok a q => exact ⟨Nat.lt_of_le_of_lt (List.IsSuffix.length_le h) h3, List.IsSuffix.trans h h2⟩
  | bad q => exact List.IsSuffix.trans h h2
theorem par_lt : ∀ (n : Nat), (∀ t r, alts n t = some r → r.Lt t) ∧ (∀ l t r, altL n l t = some r → r.Le t) ∧ (∀ t r, seqs n t = some r → r.Lt t) ∧ (∀ l t r, seqL n l t = some r → r.Le t) ∧
    (∀ t r, piece n t = some r → r.Lt t) ∧ (∀ t r, atom n t = some r → r.Lt t) := by
  intro n
  induction n with
  | zero => exact ⟨fun t r h => by simp [alts] at h, fun l t r h => by simp [altL] at h, fun t r h => by simp [seqs] at h, fun l t r h => by simp [seqL] at h, fun t r h => by simp [piece] at h, fun t r h => by simp [atom] at h⟩
  | succ n ih =>
    obtain ⟨ih1, ih2, ih3, ih4, ih5, ih6⟩ := ih
    refine ⟨fun t r h => ?_, fun l t r h => ?_, fun t r h => ?_, fun l t r h => ?_, fun t r h => ?_, fun t r h => ?_⟩
    · unfold alts at h
      split at h
      · cases h
      · rename_i hq; cases h; exact ih3 _ _ hq
      · rename_i hq; have := ih3 _ _ hq; exact (ih2 _ _ _ h).lt this.2 this.1
    · unfold altL at h
      split at h
      · split at h
        · cases h
        · rename_i hq; cases h; exact (ih3 _ _ hq).tail
        · rename_i hq; have := (ih3 _ _ hq).tail; exact (ih2 _ _ _ h).trans this.2
      · cases h; exact List.suffix_refl _
    · unfold seqs at h
      split at h
      · cases h
      · rename_i hq; cases h; exact ih5 _ _ hq
      · rename_i hq; have := ih5 _ _ hq; exact (ih4 _ _ _ h).lt this.2 this.1
    · unfold seqL at h
      split at h
      · split at h
        · cases h
        · rename_i hq; cases h; exact (ih5 _ _ hq)
        · rename_i hq; have := (ih5 _ _ hq); exact (ih4 _ _ _ h).trans this.2
      · cases h; exact List.suffix_refl _
    · unfold piece at h
      split at h
      · cases h
      · rename_i hq; cases h; exact ih6 _ _ hq
      · rename_i hq; have := ih6 _ _ hq; exact (opsL_le _ _ _ _ h).lt this.2 this.1
    · unfold atom at h
      split at h
      · have h0 := hd_ne (show hd t ≠ 0 by omega)
        split at h
        · have h1 := hd_ne (show hd t.tail ≠ 0 by omega)
          cases h; exact ⟨by omega, (tail_suf _).trans (tail_suf _)⟩
        · split at h
          · cases h
          · rename_i hq; cases h; exact (ih1 _ _ hq).tail
          · rename_i hq
            have h2 := (ih1 _ _ hq).tail
            cases h
            unfold closeR
            split
            · rename_i t1 _
              exact ⟨by have := h2.1; have : t1.tail.length ≤ t1.length := by simp
                        omega, (tail_suf _).trans h2.2⟩
            · exact h2.2
      · split at h
        · exact (setR_lt _ _ _ h).tail
        · split at h
          · cases h; exact ⟨hd_ne (by omega), tail_suf _⟩
          · split at h
            · split at h
              · cases h; exact ⟨by have h1 := hd_ne (show hd t ≠ 0 by omega); have : t.tail.tail.length ≤ t.tail.length := by simp
                                   omega, (tail_suf _).trans (tail_suf _)⟩
              · have h1 := (escR_lt 0 t.tail).tail
                split at h
                · rename_i q hq; rw [hq] at h1; cases h; exact h1
                · rename_i q hq; rw [hq] at h1; cases h; exact h1
            · split at h
              · cases h; exact List.suffix_refl _
              · cases h; exact ⟨hd_ne (by omega), tail_suf _⟩
end Go.Rx
end
section
open Go Go.Proofs Go.Ab Go.Rf
set_option maxRecDepth 100000
namespace Go.Rx
def boolA (b : Bool) : A := .d (.lit (.bool b))
theorem tle {a b : Int} (h : a ≤ b) : (tB (decide (a ≤ b))) = true := by simp [h]
theorem tlt {a b : Int} (h : a < b) : (tB (decide (a < b))) = true := by simp [h]
theorem teq {a b : Int} (h : a = b) : (tB (a == b)) = true := by simp [h]
theorem of_tle {a b : Int} (h : (tB (decide (a ≤ b))) = true) : a ≤ b := by simpa using h
theorem of_tlt {a b : Int} (h : (tB (decide (a < b))) = true) : a < b := by simpa using h
theorem of_teq {a b : Int} (h : (tB (a == b)) = true) : a = b := by simpa using h
theorem of_fle {a b : Int} (h : (tB (decide (a ≤ b))) = false) : b < a := by simpa using h
theorem of_flt {a b : Int} (h : (tB (decide (a < b))) = false) : b ≤ a := by simpa using h
theorem of_feq {a b : Int} (h : (tB (a == b)) = false) : a ≠ b := by simpa using h
structure At (s t : List UInt8) (i : Int) : Prop where
  suf : t <:+ s
  pos : i + t.length = s.length
  sm : s.length ≤ 1048576
theorem At.next {s t : List UInt8} {i : Int} (h : At s t i) (hn : t ≠ []) : At s t.tail (i + 1) := by
  refine ⟨(tail_suf _).trans h.suf, ?_, h.sm⟩
  have := h.pos
  have : t.tail.length + 1 = t.length := by cases t with
    | nil => exact absurd rfl hn
    | cons c t => simp
  omega
theorem At.lo {s t : List UInt8} {i : Int} (h : At s t i) : 0 ≤ i ∧ i ≤ 1048576 := by
  have := h.pos; have := h.sm; have := h.suf.length_le; omega
theorem At.lt {s t : List UInt8} {i : Int} (h : At s t i) : i < (s.length : Int) ↔ t ≠ [] := by
  have h1 := h.pos
  cases t with
  | nil => simp at h1; simp; omega
  | cons c t => simp at h1; simp; omega
theorem At.byte {s t : List UInt8} {i : Int} (h : At s t i) (hn : t ≠ []) : gByte s i = hd t := by
  obtain ⟨u, hu⟩ := h.suf
  cases t with
  | nil => exact absurd rfl hn
  | cons c t =>
    have h1 := h.pos
    rw [← hu] at h1 ⊢
    simp only [List.length_append, List.length_cons] at h1
    have e : i.toNat = u.length := by omega
    simp [gByte, e, hd]
theorem hd_nil {t : List UInt8} (h : hd t ≠ 0) : t ≠ [] := by rintro rfl; exact h rfl
theorem hd_lt (t : List UInt8) : hd t < 256 := by
  cases t with
  | nil => simp [hd]
  | cons c t => exact c.toNat_lt
def PB (q : Ref) (s : List UInt8) (i : Int) : List (Ref × List A) := [(.up q, [A.d (.lit (bytesV s)), A.d (.lit (.int .i64 i))])]
def faultV (i : Int) : Value := dval (D.lit (.iface 56 (.agg (([D.lit (.int .i64 i)] : List D).map dval).toArray)))
def Res.map {α β : Type} (f : α → β) : Res α → Res β | .ok a t => .ok (f a) t | .bad t => .bad t
def RetB (v : A) (B : List (Ref × List A)) : Out → List (Ref × List A) → Prop := fun o H => o = .ret v ∧ H = B
def PAft (q : Ref) (s : List UInt8) (res : Res A) : Out → List (Ref × List A) → Prop := fun o H => match res with
  | .ok v t => o = .ret v ∧ ∃ i, At s t i ∧ H = PB q s i
  | .bad t => ∃ i j, At s t i ∧ o = .pan (faultV i) ∧ H = PB q s j
theorem callB {P : Program} {f : Nat} {args : List A} {v : A} {B B' : List (Ref × List A)} (hc : Holds P f args B (RetB v B')) {Q1 : A → List (Ref × List A) → Prop} {Q2 : Value → List (Ref × List A) → Prop} (h : Q1 v B') :
    ∀ _ : Nat → Nat, ∃ R' : Out → List (Ref × List A) → Prop, Holds P f args B R' ∧ (∀ v H', R' (.ret v) H' → Q1 v H') ∧ (∀ u H', R' (.pan u) H' → Q2 u H') :=
  fun _ => ⟨_, hc, fun v' H' e => by obtain ⟨e1, rfl⟩ := e; cases e1; exact h, fun u H' e => by cases e.1⟩
theorem callF {P : Program} {f : Nat} {args : List A} {v : Value} {B B' : List (Ref × List A)} (hc : Holds P f args B fun o H => o = .pan v ∧ H = B') {Q1 : A → List (Ref × List A) → Prop} {Q2 : Value → List (Ref × List A) → Prop} (h : Q2 v B') :
    ∀ _ : Nat → Nat, ∃ R' : Out → List (Ref × List A) → Prop, Holds P f args B R' ∧ (∀ v H', R' (.ret v) H' → Q1 v H') ∧ (∀ u H', R' (.pan u) H' → Q2 u H') :=
  fun _ => ⟨_, hc, fun v' H' e => (by cases e.1), fun u H' e => by obtain ⟨e1, rfl⟩ := e; cases e1; exact h⟩
theorem callP {P : Program} {f : Nat} {args : List A} {B : List (Ref × List A)} {q : Ref} {s : List UInt8} {res : Res A} (hc : Holds P f args B (PAft q s res)) {Q1 : A → List (Ref × List A) → Prop} {Q2 : Value → List (Ref × List A) → Prop}
    (h1 : ∀ v t i, res = .ok v t → At s t i → Q1 v (PB q s i)) (h2 : ∀ t i j, res = .bad t → At s t i → Q2 (faultV i) (PB q s j)) :
    ∀ _ : Nat → Nat, ∃ R' : Out → List (Ref × List A) → Prop, Holds P f args B R' ∧ (∀ v H', R' (.ret v) H' → Q1 v H') ∧ (∀ u H', R' (.pan u) H' → Q2 u H') := by
  refine fun _ => ⟨_, hc, fun v' H' e => (by
    cases res with
    | ok v t => obtain ⟨e1, i, hi, rfl⟩ := e; cases e1; exact h1 _ t i rfl hi
    | bad t => obtain ⟨i, j, hi, e1, _⟩ := e; cases e1), fun u H' e => by
    cases res with
    | ok v t => cases e.1
    | bad t => obtain ⟨i, j, hi, e1, rfl⟩ := e; cases e1; exact h2 t i j rfl hi⟩
theorem aft_ok {q : Ref} {s t : List UInt8} {v : A} {res : Res A} {i : Int} (h : res = .ok v t) (hi : At s t i) : PAft q s res (.ret v) (PB q s i) := by subst h; exact ⟨rfl, i, hi, rfl⟩
theorem aft_bad {q : Ref} {s t : List UInt8} {res : Res A} {i j : Int} (h : res = .bad t) (hi : At s t i) : PAft q s res (.pan (faultV i)) (PB q s j) := by subst h; exact ⟨i, j, hi, rfl, rfl⟩
theorem map_ok {α β : Type} {f : α → β} {r : Res α} {b : β} {t : List UInt8} (h : r.map f = .ok b t) : ∃ a, r = .ok a t ∧ f a = b := by
  cases r with
  | ok a t' => cases h; exact ⟨a, rfl, rfl⟩
  | bad t' => cases h
theorem map_bad {α β : Type} {f : α → β} {r : Res α} {t : List UInt8} (h : r.map f = .bad t) : r = .bad t := by
  cases r with
  | ok a t' => cases h
  | bad t' => cases h; rfl
theorem c49 {q : Ref} {s t : List UInt8} {i : Int} (h : At s t i) : Holds Try.prog 49 [A.ptr (.up q) 0] (PB q s i) (RetB (.d (.lit (.int .u8 (hd t)))) (PB q s i)) := by
  refine w49 s i q ⟨fun hc => ?_, fun hc => ?_⟩
  · have hn := h.lt.1 (of_tlt hc)
    exact ⟨tle h.lo.1, by rw [h.byte hn]; exact ⟨rfl, rfl⟩⟩
  · have hn : t = [] := Classical.byContradiction fun hn => by have := h.lt.2 hn; have := of_flt hc; omega
    subst hn
    exact ⟨rfl, rfl⟩
theorem c38 {q : Ref} {s : List UInt8} {i j : Int} : Holds Try.prog 38 [A.ptr (.up q) 0, A.d (.lit (.int .i64 j))] (PB q s i) (fun o H => o = .pan (faultV j) ∧ H = PB q s i) :=
  w38 s i j q ⟨rfl, rfl, rfl⟩
theorem c50 (k : Int) (l : List Rx) : Holds Try.prog 50 [A.d (.lit (.int .i64 k)), A.d (.slc (encs l))] [] (Ret (.agg (enc (joinX k l)))) := by
  refine w50 k (encs l) ⟨fun h => ?_, fun h => ?_⟩
  · have h := of_teq h
    simp only [encs_length] at h
    match l, h with
    | [r], _ =>
      have e : gAt (encs [r]) 0 = enc r := rfl
      rw [e]
      exact ⟨tlt (by simp), teq (by simp), rfl, rfl⟩
  · have h := of_feq h
    simp only [encs_length] at h
    match l, h with
    | [], _ => exact ⟨rfl, rfl⟩
    | [r], h => exact absurd rfl h
    | _ :: _ :: _, _ => exact ⟨rfl, rfl⟩
theorem c81 (c : Nat) (h : c < 256) : Holds Try.prog 81 [A.d (.lit (.int .u8 c))] [] (Ret (.agg (enc (oneX c)))) :=
  w81 c (call1 (c79' c c h h) ⟨_, rfl, rfl, rfl, rfl, rfl⟩)
theorem nib (n d : Nat) (hn : n < 16) (hd : d < 16) : gOr .u8 (gShl .u8 (n : Int) 4) (d : Int) = ((n * 16 + d : Nat) : Int) := by
  have : ∀ n < 16, ∀ d < 16, gOr .u8 (gShl .u8 ((n : Nat) : Int) 4) ((d : Nat) : Int) = ((n * 16 + d : Nat) : Int) := by decide
  exact this n hn d hd
theorem hexV_lt {x d : Nat} (h : hexV x = some d) : d < 16 := by
  unfold hexV at h
  repeat' split at h
  all_goals first | cases h; omega | cases h
def u8A (n : Nat) : A := .d (.lit (.int .u8 n))
theorem c93 {q : Ref} {s t : List UInt8} {i : Int} (lo : Nat) (h : At s t (i + 1)) : Holds Try.prog 93 [A.ptr (.up q) 0, A.d (.lit (.int .u8 lo))] (PB q s i) (PAft q s ((hexR lo t).map u8A)) := by
  refine w93 s i lo q ⟨fun x k s' i' => s' = s ∧ ((k = 0 ∧ x = 0 ∧ i' = i) ∨ (∃ d, hexV (hd t) = some d ∧ ¬ d * 16 + 15 < lo ∧ k = 1 ∧ x = (d : Nat) ∧ i' = i + 1) ∨ (∃ d, hexR lo t = .ok d t.tail.tail ∧ k = 2 ∧ x = (d : Nat) ∧ At s t.tail.tail (i' + 1))), fun _ k _ _ => 2 - k.toNat, ⟨rfl, .inl ⟨rfl, rfl, rfl⟩⟩, ?_, trivial⟩
  have hlo := h.lo
  rintro x k s' i' ⟨rfl, ⟨rfl, rfl, rfl⟩ | ⟨d, hd1, hd2, rfl, rfl, rfl⟩ | ⟨d, hd1, rfl, rfl, hd2⟩⟩
  · refine ⟨fun _ => ⟨tle (by omega), fun _ => ⟨tle (by omega), tle (by omega), callB (c49 h) ⟨_, _, _, rfl, rfl, call1 (c101 (hd t) (hd_lt t)) ⟨_, _, rfl, rfl, fun hc => ?_, fun hc => ?_⟩⟩⟩, fun h0 => absurd rfl (of_feq h0)⟩, fun h0 => absurd (of_flt h0) (by decide)⟩
    · refine callF c38 ⟨_, _, rfl, ?_⟩
      refine aft_bad (t := t) ?_ h
      unfold hexR
      cases hv : hexV (hd t) with
      | none => rfl
      | some d =>
        have h1 := hexV_lt hv
        rw [hv] at hc
        rw [show ((0 : Int)) = ((0 : Nat) : Int) from rfl] at hc
        simp only [Option.getD_some, Option.isSome_some, nib 0 d (by decide) h1, show (15 : Int) = ((15 : Nat) : Int) from rfl, nib (0 * 16 + d) 15 (by omega) (by decide), Bool.not_true, Bool.false_or] at hc
        have hc := of_tlt hc
        dsimp only
        rw [if_pos (by omega)]
        rfl
    · refine ⟨tle (by omega), tle (by omega), ⟨rfl, .inr (.inl ?_)⟩, by simp⟩
      cases hv : hexV (hd t) with
      | none => rw [hv] at hc; cases hc
      | some d =>
        have h1 := hexV_lt hv
        rw [hv] at hc
        rw [show ((0 : Int)) = ((0 : Nat) : Int) from rfl] at hc ⊢
        simp only [Option.getD_some, Option.isSome_some, nib 0 d (by decide) h1, show (15 : Int) = ((15 : Nat) : Int) from rfl, nib (0 * 16 + d) 15 (by omega) (by decide), Bool.not_true, Bool.false_or] at hc ⊢
        have hc := of_flt hc
        exact ⟨d, rfl, by omega, by omega, by omega, trivial⟩
  · have hne := hd_nil (hexV_ne hd1)
    have h2 := h.next hne
    have h1 := hexV_lt hd1
    have hlo2 := h2.lo
    refine ⟨fun _ => ⟨tle (by omega), fun h0 => absurd (of_teq h0) (by decide), fun _ => ⟨teq rfl, tle (by omega), tle (by omega), callB (c49 h2) ⟨_, _, _, rfl, rfl, call1 (c101 (hd t.tail) (hd_lt _)) ⟨_, _, rfl, rfl, fun hc => ?_, fun hc => ?_⟩⟩⟩⟩, fun h0 => absurd (of_flt h0) (by decide)⟩
    · refine callF c38 ⟨_, _, rfl, ?_⟩
      refine aft_bad (t := t.tail) ?_ h2
      unfold hexR
      rw [hd1]
      dsimp only
      rw [if_neg hd2]
      cases hv : hexV (hd t.tail) with
      | none => rfl
      | some e =>
        have h3 := hexV_lt hv
        rw [hv] at hc
        simp only [Option.getD_some, Option.isSome_some, nib d e h1 h3, Bool.not_true, Bool.false_or] at hc
        have hc := of_tlt hc
        dsimp only
        rw [if_pos (by omega)]
        rfl
    · refine ⟨tle (by omega), tle (by omega), ⟨rfl, .inr (.inr ?_)⟩, by simp⟩
      cases hv : hexV (hd t.tail) with
      | none => rw [hv] at hc; cases hc
      | some e =>
        have h3 := hexV_lt hv
        rw [hv] at hc
        simp only [Option.getD_some, Option.isSome_some, nib d e h1 h3, Bool.not_true, Bool.false_or] at hc ⊢
        have hc := of_flt hc
        refine ⟨d * 16 + e, ?_, by omega, by omega, h2.next (hd_nil (hexV_ne hv))⟩
        unfold hexR
        rw [hd1]
        dsimp only
        rw [if_neg hd2, hv]
        dsimp only
        rw [if_neg (by omega)]
  · refine ⟨fun h0 => absurd (of_tlt h0) (by decide), fun _ => ⟨?_, ?_, ?_⟩⟩
    · have := hd2.lo; exact tle (by omega)
    · have := hd2.lo; exact tle (by omega)
    · exact aft_ok (by rw [hd1]; rfl) hd2
end Go.Rx
end
section
open Go Go.Proofs Go.Ab Go.Rf
set_option maxRecDepth 100000
namespace Go.Rx
theorem At.end_ {s t : List UInt8} {i : Int} (h : At s t i) (hc : (s.length : Int) ≤ i) : t = [] := Classical.byContradiction fun hn => by have := h.lt.2 hn; omega
theorem At.more {s t : List UInt8} {i : Int} (h : At s t i) (hc : i < (s.length : Int)) : t ≠ [] := h.lt.1 hc
theorem ctlV_none {x : Nat} (h1 : x ≠ 110) (h2 : x ≠ 116) (h3 : x ≠ 114) : ctlV x = none := by
  unfold ctlV; rw [if_neg h1, if_neg h2, if_neg h3]
def escL : List UInt8 := [40, 41, 91, 93, 123, 125, 124, 42, 43, 63, 46, 92, 45, 94]
theorem escL_any (x : Nat) : (escL.any fun b => b.toNat == x) = (spcV x || x == 94 || x == 45) := by
  simp only [escL, spcV, spcL, List.any_cons, List.any_nil, Bool.or_false]
  have e1 : ((45 : UInt8).toNat == x) = (x == 45) := Bool.eq_iff_iff.2 (by simp; exact eq_comm)
  have e2 : ((94 : UInt8).toNat == x) = (x == 94) := Bool.eq_iff_iff.2 (by simp; exact eq_comm)
  rw [e1, e2]
  cases x == 94 <;> cases x == 45 <;> simp
theorem c82 {q : Ref} {s t : List UInt8} {i : Int} (lo : Nat) (h : At s t (i + 1)) : Holds Try.prog 82 [A.ptr (.up q) 0, A.d (.lit (.int .u8 lo))] (PB q s i) (PAft q s ((escR lo t).map u8A)) := by
  have hlo := h.lo
  have fin : ∀ n : Nat, t ≠ [] → hd t ≠ 120 → escV (hd t) = some n → (lo : Int) ≤ (n : Int) → PAft q s ((escR lo t).map u8A) (.ret (u8A n)) (PB q s (i + 1 + 1)) := fun n hn h1 h2 h3 => by
    refine aft_ok (t := t.tail) ?_ (h.next hn)
    unfold escR
    rw [if_neg h1, h2]
    dsimp only
    rw [if_neg (by omega)]
    rfl
  have low : ∀ (n : Nat) (j : Int), hd t ≠ 120 → escV (hd t) = some n → (n : Int) < (lo : Int) → PAft q s ((escR lo t).map u8A) (.pan (faultV (i + 1))) (PB q s j) := fun n j h1 h2 h3 => by
    refine aft_bad (t := t) ?_ h
    unfold escR
    rw [if_neg h1, h2]
    dsimp only
    rw [if_pos (by omega)]
    rfl
  have non : ∀ (j : Int), hd t ≠ 120 → escV (hd t) = none → PAft q s ((escR lo t).map u8A) (.pan (faultV (i + 1))) (PB q s j) := fun j h1 h2 => by
    refine aft_bad (t := t) ?_ h
    unfold escR
    rw [if_neg h1, h2]
    rfl
  refine w82 s i lo q ⟨tle (by omega), tle (by omega), callB (c49 h) ⟨_, _, _, rfl, rfl, fun hc => ?_, fun hc => ⟨fun h0 => ?_, fun h0 => ⟨fun h1 => ⟨fun h2 => ?_, fun h2 => ?_⟩, fun h1 => ⟨fun h2 => ⟨fun h3 => ?_, fun h3 => ?_⟩, fun h2 => ⟨fun h3 => ⟨fun h4 => ?_, fun h4 => ?_⟩, fun h3 => ?_⟩⟩⟩⟩⟩⟩
  · have ht := h.end_ (of_tle hc)
    subst ht
    have e : (s.length : Int) = i + 1 := by have := h.pos; simp at this; omega
    rw [e]
    exact callF c38 ⟨_, _, rfl, non _ (by decide) rfl⟩
  · have h0 := of_teq h0
    have e : escR lo t = hexR lo t.tail := by unfold escR; rw [if_pos (by omega)]
    have hn := h.more (of_fle hc)
    rw [e]
    exact callP (c93 lo (h.next hn)) (fun v t' i' e hi => by obtain ⟨n, e1, rfl⟩ := map_ok e; exact ⟨_, _, _, rfl, rfl, aft_ok e hi⟩) (fun t' i' j e hi => ⟨_, _, rfl, aft_bad e hi⟩)
  · exact callF c38 ⟨_, _, rfl, low 10 _ (by have := of_feq h0; omega) (by rw [show hd t = 110 by have := of_teq h1; omega]; rfl) (of_tlt h2)⟩
  · exact ⟨tle (by omega), tle (by omega), fin 10 (h.more (of_fle hc)) (by have := of_feq h0; omega) (by rw [show hd t = 110 by have := of_teq h1; omega]; rfl) (of_flt h2)⟩
  · exact callF c38 ⟨_, _, rfl, low 9 _ (by have := of_feq h0; omega) (by rw [show hd t = 116 by have := of_teq h2; omega]; rfl) (of_tlt h3)⟩
  · exact ⟨tle (by omega), tle (by omega), fin 9 (h.more (of_fle hc)) (by have := of_feq h0; omega) (by rw [show hd t = 116 by have := of_teq h2; omega]; rfl) (of_flt h3)⟩
  · exact callF c38 ⟨_, _, rfl, low 13 _ (by have := of_feq h0; omega) (by rw [show hd t = 114 by have := of_teq h3; omega]; rfl) (of_tlt h4)⟩
  · exact ⟨tle (by omega), tle (by omega), fin 13 (h.more (of_fle hc)) (by have := of_feq h0; omega) (by rw [show hd t = 114 by have := of_teq h3; omega]; rfl) (of_flt h4)⟩
  · have hx : hd t ≠ 120 := by have := of_feq h0; omega
    have ec : ctlV (hd t) = none := ctlV_none (by have := of_feq h1; omega) (by have := of_feq h2; omega) (by have := of_feq h3; omega)
    have hidx := idxV_nonneg escL (hd t) (hd_lt t)
    rw [escL_any] at hidx
    refine call1 (c83 escL (hd t)) ⟨_, rfl, rfl, fun h4 => ?_, fun h4 => ⟨fun h5 => ?_, fun h5 => ?_⟩⟩
    · have h4 := of_tlt h4
      have hb : ¬ ((spcV (hd t) || hd t == 94 || hd t == 45) = true) := fun hb => by have := hidx.2 hb; omega
      refine callF c38 ⟨_, _, rfl, non _ hx ?_⟩
      unfold escV; rw [ec]; dsimp only; rw [if_neg hb]
    · have h4 := of_flt h4
      have es : escV (hd t) = some (hd t) := by unfold escV; rw [ec]; dsimp only; rw [if_pos (hidx.1 h4)]
      exact callF c38 ⟨_, _, rfl, low _ _ hx es (of_tlt h5)⟩
    · have h4 := of_flt h4
      have es : escV (hd t) = some (hd t) := by unfold escV; rw [ec]; dsimp only; rw [if_pos (hidx.1 h4)]
      exact ⟨tle (by omega), tle (by omega), fin _ (h.more (of_fle hc)) hx es (of_flt h5)⟩
def itemL : List UInt8 := [40, 41, 91, 93, 123, 125, 124, 42, 43, 63, 46, 94, 45]
theorem itemL_any (x : Nat) (h : x ≠ 92) : (itemL.any fun b => b.toNat == x) = (spcV x || x == 94 || x == 45) := by
  simp only [itemL, spcV, spcL, List.any_cons, List.any_nil, Bool.or_false]
  have e1 : ((45 : UInt8).toNat == x) = (x == 45) := Bool.eq_iff_iff.2 (by simp; exact eq_comm)
  have e2 : ((94 : UInt8).toNat == x) = (x == 94) := Bool.eq_iff_iff.2 (by simp; exact eq_comm)
  have e3 : ((92 : UInt8).toNat == x) = false := by simpa using fun e => h e.symm
  rw [e1, e2, e3]
  simp [Bool.or_assoc]
theorem c90 {q : Ref} {s t : List UInt8} {i : Int} (lo : Nat) (h : At s t i) : Holds Try.prog 90 [A.ptr (.up q) 0, A.d (.lit (.int .u8 lo))] (PB q s i) (PAft q s ((byteR lo t).map u8A)) := by
  have hlo := h.lo
  have bad : ∀ (j : Int), hd t ≠ 92 → (hd t < 32 ∨ 126 < hd t ∨ hd t < lo ∨ (spcV (hd t) || hd t == 94 || hd t == 45) = true) → PAft q s ((byteR lo t).map u8A) (.pan (faultV i)) (PB q s j) := fun j h1 h2 => by
    refine aft_bad (t := t) ?_ h
    unfold byteR
    rw [if_neg h1, if_pos h2]
    rfl
  refine w90 s i lo q (callB (c49 h) ⟨_, _, _, rfl, rfl, fun hc => ?_, fun hc => ⟨fun h0 => ?_, fun h0 => ⟨fun h1 => ?_, fun h1 => ?_⟩⟩⟩)
  · have ht := h.end_ (of_tle hc)
    subst ht
    have e : (s.length : Int) = i := by have := h.pos; simp at this; omega
    rw [e]
    exact callF c38 ⟨_, _, rfl, bad _ (by decide) (.inl (by decide))⟩
  · have h0 := of_teq h0
    have e : byteR lo t = escR lo t.tail := by unfold byteR; rw [if_pos (by omega)]
    rw [e]
    exact callP (c82 lo (h.next (h.more (of_fle hc)))) (fun v t' i' e hi => by obtain ⟨n, e1, rfl⟩ := map_ok e; exact ⟨_, _, _, rfl, rfl, aft_ok e hi⟩) (fun t' i' j e hi => ⟨_, _, rfl, aft_bad e hi⟩)
  · have hx : hd t ≠ 92 := by have := of_feq h0; omega
    have hidx := idxV_nonneg itemL (hd t) (hd_lt t)
    rw [itemL_any _ hx] at hidx
    simp only [tB_eq, Bool.not_eq_true', Bool.or_eq_false_iff, decide_eq_false_iff_not] at h1
    refine call1 (c83 itemL (hd t)) ⟨_, rfl, rfl, fun h4 => ?_, fun h4 => ?_⟩
    · exact callF c38 ⟨_, _, rfl, bad _ hx (.inr (.inr (.inr (hidx.1 (of_tle h4)))))⟩
    · have h4 := of_fle h4
      refine ⟨tle (by omega), tle (by omega), aft_ok (t := t.tail) ?_ (h.next (h.more (of_fle hc)))⟩
      unfold byteR
      rw [if_neg hx, if_neg]
      · rfl
      · rintro (h5 | h5 | h5 | h5)
        · omega
        · omega
        · omega
        · have := hidx.2 h5; omega
  · have hx : hd t ≠ 92 := by have := of_feq h0; omega
    simp only [tB_eq, Bool.not_eq_false', Bool.or_eq_true, decide_eq_true_eq] at h1
    exact callF c38 ⟨_, _, rfl, bad _ hx (by omega)⟩
def setC (n : Nat) (neg : Bool) (p : Nat → Bool) (t : List UInt8) : Option (Res Rx) := if hd t = 93 then some (.ok (setX (negP neg p)) t.tail) else setL n neg p t
structure SetI (s : List UInt8) (neg : Bool) (res : Res Rx) (b : Bool) (a0 a1 a2 a3 : D) (s' : List UInt8) (i : Int) (n : Nat) (p : Nat → Bool) (t : List UInt8) : Prop where
  es : s' = s
  e0 : a0 = .lit (.int .u64 (wd p 0))
  e1 : a1 = .lit (.int .u64 (wd p 1))
  e2 : a2 = .lit (.int .u64 (wd p 2))
  e3 : a3 = .lit (.int .u64 (wd p 3))
  at_ : At s t i
  run : (if b then setL n neg p t else setC n neg p t) = some res
theorem setL_step {n : Nat} {neg : Bool} {p : Nat → Bool} {t t1 t3 : List UInt8} {lo hi : Nat} {res : Res Rx} (h : setL n neg p t = some res) (h1 : byteR 0 t = .ok lo t1) (h2 : hiR lo t1 = .ok hi t3) : ∃ m, setC m neg (orP p (rng lo hi)) t3 = some res := by
  cases n with
  | zero => simp [setL] at h
  | succ m =>
    refine ⟨m, ?_⟩
    unfold setL at h
    rw [h1] at h
    dsimp only at h
    rw [h2] at h
    exact h
theorem setL_bad1 {n : Nat} {neg : Bool} {p : Nat → Bool} {t q : List UInt8} {res : Res Rx} (h : setL n neg p t = some res) (h1 : byteR 0 t = .bad q) : res = .bad q := by
  cases n with
  | zero => simp [setL] at h
  | succ m =>
    unfold setL at h
    rw [h1] at h
    cases h; rfl
theorem setL_bad2 {n : Nat} {neg : Bool} {p : Nat → Bool} {t t1 q : List UInt8} {lo : Nat} {res : Res Rx} (h : setL n neg p t = some res) (h1 : byteR 0 t = .ok lo t1) (h2 : hiR lo t1 = .bad q) : res = .bad q := by
  cases n with
  | zero => simp [setL] at h
  | succ m =>
    unfold setL at h
    rw [h1] at h
    dsimp only at h
    rw [h2] at h
    cases h; rfl
theorem SetI.lt {s t : List UInt8} {i i' : Int} {t' : List UInt8} (h : At s t i) (h' : At s t' i') (hl : t'.length < t.length) : ((s.length : Int) - i').toNat < ((s.length : Int) - i).toNat := by
  have := h.pos; have := h'.pos; omega
theorem byteR_u8 (lo : Nat) {t t' : List UInt8} {n : Nat} (h : byteR lo t = .ok n t') : n < 256 := by
  have h0 := hd_lt t
  have hx : ∀ t : List UInt8, hexR lo t = .ok n t' → n < 256 := fun t h => by
    unfold hexR at h
    split at h
    · cases h
    · rename_i d hd1
      split at h
      · cases h
      · split at h
        · cases h
        · rename_i e hd2
          have := hexV_lt hd1
          have := hexV_lt hd2
          split at h
          · cases h
          · cases h; omega
  unfold byteR at h
  split at h
  · unfold escR at h
    split at h
    · exact hx _ h
    · split at h
      · cases h
      · rename_i m hm
        split at h
        · cases h
        · cases h
          have h1 := hd_lt t.tail
          unfold escV at hm
          split at hm
          · rename_i k hk
            cases hm
            unfold ctlV at hk
            repeat' split at hk
            all_goals first | cases hk; decide | cases hk
          · split at hm
            · cases hm; exact h1
            · cases hm
  · split at h
    · cases h
    · cases h; exact h0
theorem c79r (lo hi : Nat) (h : hi < 256) (hl : lo < 256) : ∀ _ : Nat → Nat, Holds Try.prog 79 [A.d (.lit (.int .u8 lo)), A.d (.lit (.int .u8 hi))] [] (Reads [] (.agg (row4 (rng lo hi)))) := fun _ => c79' lo hi h hl
theorem wd_no (k : Nat) : wd no k = 0 := wd_eq (by decide) fun j _ => Nat.zero_testBit j
theorem c78 {q : Ref} {s t : List UInt8} {i : Int} (n : Nat) (res : Res Rx) (hr : setR n t = some res) (h : At s t (i + 1)) : Holds Try.prog 78 [A.ptr (.up q) 0] (PB q s i) (PAft q s (res.map fun r => A.agg (enc r))) := by
  have hlo := h.lo
  refine w78 s i q ⟨tle (by omega), tle (by omega), callB (c49 h) ⟨_, _, _, rfl, rfl, fun h0 => ⟨tle (by omega), tle (by omega), ?_⟩, fun h0 => callB (c49 h) ⟨_, _, _, rfl, rfl, fun h1 => ?_, fun h1 => ?_⟩⟩⟩
  · have h0 := of_teq h0
    have hn : t ≠ [] := hd_nil (by omega)
    have hr' : setL n true no t.tail = some res := by unfold setR at hr; rw [if_pos (by omega)] at hr; exact hr
    refine ⟨fun b a0 a1 a2 a3 s' i' => ∃ n p t, SetI s true res b a0 a1 a2 a3 s' i' n p t, fun _ _ _ _ _ s' i' => ((s'.length : Int) - i').toNat, ⟨n, no, t.tail, rfl, by simp [wd_no], by simp [wd_no], by simp [wd_no], by simp [wd_no], h.next hn, hr'⟩, ?_, trivial⟩
    rintro b a0 a1 a2 a3 s' i' ⟨m, p, t', rfl, rfl, rfl, rfl, rfl, hat, hrun⟩
    have hlo' := hat.lo
    have key : ∀ n, setL n true p t' = some res → ∀ lo t1 i1, byteR 0 t' = .ok lo t1 → At s' t1 i1 → ∀ hi t3 i3, hiR lo t1 = .ok hi t3 → At s' t3 i3 →
        (∃ n p' t, SetI s' true res false ((row4 (orP p (rng lo hi))).getD 0 D0) ((row4 (orP p (rng lo hi))).getD 1 D0) ((row4 (orP p (rng lo hi))).getD 2 D0) ((row4 (orP p (rng lo hi))).getD 3 D0) s' i3 n p' t) ∧ ((s'.length : Int) - i3).toNat < ((s'.length : Int) - i').toNat := fun n hs lo t1 i1 e1 h1 hi t3 i3 e2 h2 => by
      obtain ⟨m, hm⟩ := setL_step hs e1 e2
      refine ⟨⟨m, orP p (rng lo hi), t3, rfl, rfl, rfl, rfl, rfl, h2, hm⟩, SetI.lt hat h2 ?_⟩
      have hl1 := byteR_lt 0 t'
      rw [e1] at hl1
      have hl2 := hiR_le lo t1
      rw [e2] at hl2
      have := hl1.1
      have := List.IsSuffix.length_le hl2
      omega
    refine ⟨fun hb => callB (c49 hat) ⟨_, _, _, rfl, rfl, fun hc => ?_, fun hc => ?_⟩, fun hb => ?_⟩
    rotate_left
    · have hc : hd t' = 93 := by simp at hc; omega
      have hn' : t' ≠ [] := hd_nil (by omega)
      have hb : b = false := by simpa using hb
      subst hb
      simp only [Bool.false_eq_true, if_false, setC, if_pos hc] at hrun
      cases hrun
      refine ⟨tle (by omega), tle (by omega), call1 (c92 p) ⟨_, rfl, rfl, rfl, ?_⟩⟩
      exact ⟨rfl, _, hat.next hn', rfl⟩
    all_goals
      have hrun' : setL m true p t' = some res := by
        first
          | (have hb : b = true := by simpa using hb
             subst hb
             exact hrun)
          | (have hb : b = false := by simpa using hb
             subst hb
             have hc : hd t' ≠ 93 := by simp at hc; omega
             simp only [Bool.false_eq_true, if_false, setC, if_neg hc] at hrun
             exact hrun)
      refine callP (c90 0 hat) (fun v t1 i1 e1 hi1 => ?_) (fun t1 i1 j e1 hi1 => ?_)
      · obtain ⟨lo, f1, rfl⟩ := map_ok e1
        have hlo1 := hi1.lo
        refine ⟨_, _, _, rfl, rfl, callB (c49 hi1) ⟨_, _, _, rfl, rfl, fun h2 => ?_, fun h2 => ?_⟩⟩
        · have h2 := of_teq h2
          have hn1 : t1 ≠ [] := hd_nil (by omega)
          have eh : hiR lo t1 = byteR lo t1.tail := by unfold hiR; rw [if_pos (by omega)]
          refine ⟨tle (by omega), tle (by omega), callP (c90 lo (hi1.next hn1)) (fun v t3 i3 e3 hi3 => ?_) (fun t3 i3 j e3 hi3 => ?_)⟩
          · obtain ⟨hi, f3, rfl⟩ := map_ok e3
            exact ⟨_, _, _, rfl, rfl, _, c79r lo hi (byteR_u8 _ f3) (byteR_u8 _ f1), call1 (c91' p (rng lo hi)) ⟨_, rfl, rfl, rfl, (key m hrun' lo t1 i1 f1 hi1 hi t3 i3 (by rw [eh, f3]) hi3)⟩⟩
          · have e3 := map_bad e3
            have := setL_bad2 hrun' f1 (by rw [eh, e3])
            subst this
            exact ⟨_, _, rfl, aft_bad rfl hi3⟩
        · have h2 := of_feq h2
          have eh : hiR lo t1 = .ok lo t1 := by unfold hiR; rw [if_neg (by omega)]
          exact ⟨_, c79r lo lo (byteR_u8 _ f1) (byteR_u8 _ f1), call1 (c91' p (rng lo lo)) ⟨_, rfl, rfl, rfl, (key m hrun' lo t1 i1 f1 hi1 lo t1 i1 eh hi1)⟩⟩
      · have e1 := map_bad e1
        have := setL_bad1 hrun' e1
        subst this
        exact ⟨_, _, rfl, aft_bad rfl hi1⟩
  · have h0 := of_feq h0
    have h1 := of_teq h1
    have hn : t ≠ [] := hd_nil (by omega)
    unfold setR at hr
    rw [if_neg (by omega), if_pos (by omega)] at hr
    cases hr
    exact ⟨tle (by omega), tle (by omega), aft_ok rfl (h.next hn)⟩
  · have h0 := of_feq h0
    have h1 := of_feq h1
    have hr' : setL n false no t = some res := by unfold setR at hr; rw [if_neg (by omega), if_neg (by omega)] at hr; exact hr
    refine ⟨fun b a0 a1 a2 a3 s' i' => ∃ n p t, SetI s false res b a0 a1 a2 a3 s' i' n p t, fun _ _ _ _ _ s' i' => ((s'.length : Int) - i').toNat, ⟨n, no, t, rfl, by simp [wd_no], by simp [wd_no], by simp [wd_no], by simp [wd_no], h, hr'⟩, ?_, trivial⟩
    rintro b a0 a1 a2 a3 s' i' ⟨m, p, t', rfl, rfl, rfl, rfl, rfl, hat, hrun⟩
    have hlo' := hat.lo
    have key : ∀ n, setL n false p t' = some res → ∀ lo t1 i1, byteR 0 t' = .ok lo t1 → At s' t1 i1 → ∀ hi t3 i3, hiR lo t1 = .ok hi t3 → At s' t3 i3 →
        (∃ n p' t, SetI s' false res false ((row4 (orP p (rng lo hi))).getD 0 D0) ((row4 (orP p (rng lo hi))).getD 1 D0) ((row4 (orP p (rng lo hi))).getD 2 D0) ((row4 (orP p (rng lo hi))).getD 3 D0) s' i3 n p' t) ∧ ((s'.length : Int) - i3).toNat < ((s'.length : Int) - i').toNat := fun n hs lo t1 i1 e1 h1 hi t3 i3 e2 h2 => by
      obtain ⟨m, hm⟩ := setL_step hs e1 e2
      refine ⟨⟨m, orP p (rng lo hi), t3, rfl, rfl, rfl, rfl, rfl, h2, hm⟩, SetI.lt hat h2 ?_⟩
      have hl1 := byteR_lt 0 t'
      rw [e1] at hl1
      have hl2 := hiR_le lo t1
      rw [e2] at hl2
      have := hl1.1
      have := List.IsSuffix.length_le hl2
      omega
    refine ⟨fun hb => callB (c49 hat) ⟨_, _, _, rfl, rfl, fun hc => ?_, fun hc => ?_⟩, fun hb => ?_⟩
    rotate_left
    · have hc : hd t' = 93 := by simp at hc; omega
      have hn' : t' ≠ [] := hd_nil (by omega)
      have hb : b = false := by simpa using hb
      subst hb
      simp only [Bool.false_eq_true, if_false, setC, if_pos hc] at hrun
      cases hrun
      exact ⟨tle (by omega), tle (by omega), rfl, _, hat.next hn', rfl⟩
    all_goals
      have hrun' : setL m false p t' = some res := by
        first
          | (have hb : b = true := by simpa using hb
             subst hb
             exact hrun)
          | (have hb : b = false := by simpa using hb
             subst hb
             have hc : hd t' ≠ 93 := by simp at hc; omega
             simp only [Bool.false_eq_true, if_false, setC, if_neg hc] at hrun
             exact hrun)
      refine callP (c90 0 hat) (fun v t1 i1 e1 hi1 => ?_) (fun t1 i1 j e1 hi1 => ?_)
      · obtain ⟨lo, f1, rfl⟩ := map_ok e1
        have hlo1 := hi1.lo
        refine ⟨_, _, _, rfl, rfl, callB (c49 hi1) ⟨_, _, _, rfl, rfl, fun h2 => ?_, fun h2 => ?_⟩⟩
        · have h2 := of_teq h2
          have hn1 : t1 ≠ [] := hd_nil (by omega)
          have eh : hiR lo t1 = byteR lo t1.tail := by unfold hiR; rw [if_pos (by omega)]
          refine ⟨tle (by omega), tle (by omega), callP (c90 lo (hi1.next hn1)) (fun v t3 i3 e3 hi3 => ?_) (fun t3 i3 j e3 hi3 => ?_)⟩
          · obtain ⟨hi, f3, rfl⟩ := map_ok e3
            exact ⟨_, _, _, rfl, rfl, _, c79r lo hi (byteR_u8 _ f3) (byteR_u8 _ f1), call1 (c91' p (rng lo hi)) ⟨_, rfl, rfl, rfl, (key m hrun' lo t1 i1 f1 hi1 hi t3 i3 (by rw [eh, f3]) hi3)⟩⟩
          · have e3 := map_bad e3
            have := setL_bad2 hrun' f1 (by rw [eh, e3])
            subst this
            exact ⟨_, _, rfl, aft_bad rfl hi3⟩
        · have h2 := of_feq h2
          have eh : hiR lo t1 = .ok lo t1 := by unfold hiR; rw [if_neg (by omega)]
          exact ⟨_, c79r lo lo (byteR_u8 _ f1) (byteR_u8 _ f1), call1 (c91' p (rng lo lo)) ⟨_, rfl, rfl, rfl, (key m hrun' lo t1 i1 f1 hi1 lo t1 i1 eh hi1)⟩⟩
      · have e1 := map_bad e1
        have := setL_bad1 hrun' e1
        subst this
        exact ⟨_, _, rfl, aft_bad rfl hi1⟩
end Go.Rx
end
section
open Go Go.Proofs Go.Ab Go.Rf
set_option maxRecDepth 100000
namespace Go.Rx
def encA (r : Rx) : A := .agg (enc r)
def K37 (n : Nat) : Prop := ∀ (q : Ref) (s t : List UInt8) (i : Int) (res : Res Rx), alts n t = some res → At s t i → Holds Try.prog 37 [A.ptr (.up q) 0] (PB q s i) (PAft q s (res.map encA))
def K48 (n : Nat) : Prop := ∀ (q : Ref) (s t : List UInt8) (i : Int) (res : Res Rx), seqs n t = some res → At s t i → Holds Try.prog 48 [A.ptr (.up q) 0] (PB q s i) (PAft q s (res.map encA))
def K65 (n : Nat) : Prop := ∀ (q : Ref) (s t : List UInt8) (i : Int) (res : Res Rx), piece n t = some res → At s t i → Holds Try.prog 65 [A.ptr (.up q) 0] (PB q s i) (PAft q s (res.map encA))
def K73 (n : Nat) : Prop := ∀ (q : Ref) (s t : List UInt8) (i : Int) (res : Res Rx), atom n t = some res → At s t i → Holds Try.prog 73 [A.ptr (.up q) 0] (PB q s i) (PAft q s (res.map encA))
theorem teq6 (r : Rx) : (tB (((enc r).length : Int) == 6)) = true := teq (by simp)
def groupR (n : Nat) (t : List UInt8) : Option (Res Rx) :=
  if hd t = 41 then some (.ok (mk0 1 []) t.tail) else match alts n t with
    | none => none
    | some (.bad q) => some (.bad q)
    | some (.ok r t1) => some (closeR r t1)
theorem c77 {n : Nat} (K : K37 n) {q : Ref} {s t : List UInt8} {i : Int} {res : Res Rx} (hr : groupR n t = some res) (h : At s t (i + 1)) : Holds Try.prog 77 [A.ptr (.up q) 0] (PB q s i) (PAft q s (res.map encA)) := by
  have hlo := h.lo
  refine w77 s i q ⟨tle (by omega), tle (by omega), callB (c49 h) ⟨_, _, _, rfl, rfl, fun h0 => ?_, fun h0 => ?_⟩⟩
  · have h0 := of_teq h0
    unfold groupR at hr
    rw [if_pos (by omega)] at hr
    cases hr
    exact ⟨tle (by omega), tle (by omega), aft_ok rfl (h.next (hd_nil (by omega)))⟩
  · have h0 := of_feq h0
    unfold groupR at hr
    rw [if_neg (by omega)] at hr
    cases ha : alts n t with
    | none => rw [ha] at hr; cases hr
    | some ra =>
      rw [ha] at hr
      refine callP (K (.up q) s t (i + 1) ra ha h) (fun v t1 i1 e1 hi1 => ?_) (fun t1 i1 j e1 hi1 => ?_)
      · obtain ⟨r, f1, rfl⟩ := map_ok e1
        subst f1
        cases hr
        have hlo1 := hi1.lo
        refine ⟨_, _, _, rfl, rfl, teq6 r, callB (c49 hi1) ⟨_, _, _, rfl, rfl, fun h2 => ?_, fun h2 => ?_⟩⟩
        · have h2 : hd t1 ≠ 41 := by simp at h2; omega
          refine callF c38 ⟨_, _, rfl, aft_bad (t := t1) ?_ hi1⟩
          unfold closeR
          rw [if_neg h2]; rfl
        · have h2 : hd t1 = 41 := by simp at h2; omega
          refine ⟨tle (by omega), tle (by omega), aft_ok (t := t1.tail) ?_ (hi1.next (hd_nil (by omega)))⟩
          unfold closeR
          rw [if_pos h2]; rfl
      · have f1 := map_bad e1
        subst f1
        cases hr
        exact ⟨_, _, rfl, aft_bad rfl hi1⟩
theorem c73 {n : Nat} (K : K37 n) : K73 (n + 1) := by
  intro q s t i res hr h
  have hlo := h.lo
  have hx := hd_lt t
  unfold atom at hr
  have bad : hd t ≠ 40 → hd t ≠ 91 → hd t ≠ 46 → hd t ≠ 92 → (hd t < 32 ∨ 126 < hd t ∨ spcV (hd t) = true) → ∀ j, PAft q s (res.map encA) (.pan (faultV i)) (PB q s j) := fun h1 h2 h3 h4 h5 j => by
    rw [if_neg h1, if_neg h2, if_neg h3, if_neg h4, if_pos h5] at hr
    cases hr
    exact aft_bad rfl h
  refine w73 s i q (callB (c49 h) ⟨_, _, _, rfl, rfl, fun hc => ?_, fun hc => ⟨fun h0 => ?_, fun h0 => ⟨fun h1 => ?_, fun h1 => ⟨fun h2 => ?_, fun h2 => ⟨fun h3 => ?_, fun h3 => ⟨fun h4 => ?_, fun h4 => ?_⟩⟩⟩⟩⟩⟩)
  · have ht := h.end_ (of_tle hc)
    subst ht
    have e : (s.length : Int) = i := by have := h.pos; simp at this; omega
    rw [e]
    exact callF c38 ⟨_, _, rfl, bad (by decide) (by decide) (by decide) (by decide) (.inl (by decide)) _⟩
  · have h0 := of_teq h0
    have hn : t ≠ [] := hd_nil (by omega)
    rw [if_pos (by omega)] at hr
    have hg : groupR n t.tail = some res := hr
    exact callP (c77 K hg (h.next hn)) (fun v t1 i1 e1 hi1 => by obtain ⟨r, f1, rfl⟩ := map_ok e1; exact ⟨_, _, _, rfl, rfl, teq6 r, aft_ok e1 hi1⟩) (fun t1 i1 j e1 hi1 => ⟨_, _, rfl, aft_bad e1 hi1⟩)
  · have h0 := of_feq h0
    have h1 := of_teq h1
    have hn : t ≠ [] := hd_nil (by omega)
    rw [if_neg (by omega), if_pos (by omega)] at hr
    exact callP (c78 n res hr (h.next hn)) (fun v t1 i1 e1 hi1 => by obtain ⟨r, f1, rfl⟩ := map_ok e1; exact ⟨_, _, _, rfl, rfl, teq6 r, aft_ok e1 hi1⟩) (fun t1 i1 j e1 hi1 => ⟨_, _, rfl, aft_bad e1 hi1⟩)
  · have h0 := of_feq h0
    have h1 := of_feq h1
    have h2 := of_teq h2
    have hn : t ≠ [] := hd_nil (by omega)
    rw [if_neg (by omega), if_neg (by omega), if_pos (by omega)] at hr
    cases hr
    exact ⟨tle (by omega), tle (by omega), call1 (c79' 0 255 (by decide) (by decide)) ⟨_, rfl, rfl, rfl, aft_ok rfl (h.next hn)⟩⟩
  · have h0 := of_feq h0
    have h1 := of_feq h1
    have h2 := of_feq h2
    have h3 := of_teq h3
    have hn : t ≠ [] := hd_nil (by omega)
    have h' := h.next hn
    have hlo' := h'.lo
    rw [if_neg (by omega), if_neg (by omega), if_neg (by omega), if_pos (by omega)] at hr
    have esc : clsV (hd t.tail) = none → ∀ (Q1 : A → List (Ref × List A) → Prop) (Q2 : Value → List (Ref × List A) → Prop), (∀ c t1 i1, c < 256 → At s t1 i1 → PAft q s (res.map encA) (.ret (encA (oneX c))) (PB q s i1) → Q1 (u8A c) (PB (.up q) s i1)) → (∀ i1 j, PAft q s (res.map encA) (.pan (faultV i1)) (PB q s j) → Q2 (faultV i1) (PB (.up q) s j)) →
        ∀ _ : Nat → Nat, ∃ R' : Out → List (Ref × List A) → Prop, Holds Try.prog 82 [(A.ptr (.up (Ref.up q)) 0), A.d (.lit (.int .u8 (0 : Int)))] (PB (.up q) s i) R' ∧ (∀ v H', R' (.ret v) H' → Q1 v H') ∧ (∀ u H', R' (.pan u) H' → Q2 u H') := fun hcl Q1 Q2 k1 k2 => by
      rw [hcl] at hr
      refine callP (c82 0 h') (fun v t1 i1 e1 hi1 => ?_) (fun t1 i1 j e1 hi1 => ?_)
      · obtain ⟨c, f1, rfl⟩ := map_ok e1
        rw [f1] at hr
        cases hr
        have hc : c < 256 := byteR_u8 0 (t := t) (by unfold byteR; rw [if_pos (by omega), f1])
        exact k1 c t1 i1 hc hi1 (aft_ok rfl hi1)
      · have f1 := map_bad e1
        rw [f1] at hr
        cases hr
        exact k2 i1 j (aft_bad rfl hi1)
    refine ⟨tle (by omega), tle (by omega), fun hm => ?_, fun hm => ?_⟩
    · have hn' := h'.more (of_tlt hm)
      rw [h'.byte hn']
      refine ⟨tle (by omega), call1 (c80 (hd t.tail) (hd_lt _)) ⟨_, _, rfl, rfl, rfl, fun hs => ?_, fun hs => ?_⟩⟩
      · cases hcl : clsV (hd t.tail) with
        | none => rw [hcl] at hs; cases hs
        | some p =>
          rw [hcl] at hr
          cases hr
          have h'' := h'.next hn'
          rw [show i + 1 + 1 = i + 2 by omega] at h''
          exact ⟨tle (by omega), tle (by omega), aft_ok rfl h''⟩
      · cases hcl : clsV (hd t.tail) with
        | some p => rw [hcl] at hs; cases hs
        | none =>
          exact esc hcl _ _ (fun c t1 i1 hc hi1 k => ⟨_, _, _, rfl, rfl, call1 (c81 c hc) ⟨_, rfl, rfl, teq6 _, k⟩⟩) (fun i1 j k => ⟨_, _, rfl, k⟩)
    · have hn' := h'.end_ (of_flt hm)
      exact esc (by rw [hn']; rfl) _ _ (fun c t1 i1 hc hi1 k => ⟨_, _, _, rfl, rfl, call1 (c81 c hc) ⟨_, rfl, rfl, teq6 _, k⟩⟩) (fun i1 j k => ⟨_, _, rfl, k⟩)
  · have h0 := of_feq h0
    have h1 := of_feq h1
    have h2 := of_feq h2
    have h3 := of_feq h3
    simp only [tB_eq, Bool.not_eq_true', Bool.or_eq_false_iff, decide_eq_false_iff_not] at h4
    have hidx := idxV_nonneg spcL (hd t) hx
    refine call1 (c83 spcL (hd t)) ⟨_, rfl, rfl, fun h5 => ?_, fun h5 => ?_⟩
    · exact callF c38 ⟨_, _, rfl, bad (by omega) (by omega) (by omega) (by omega) (.inr (.inr (hidx.1 (of_tle h5)))) _⟩
    · have h5 := of_fle h5
      have hn := h.more (of_fle hc)
      have hsp : ¬ spcV (hd t) = true := fun hb => by have := hidx.2 hb; omega
      rw [if_neg (by omega), if_neg (by omega), if_neg (by omega), if_neg (by omega), if_neg (by rintro (h6 | h6 | h6) <;> first | omega | exact hsp h6)] at hr
      cases hr
      exact ⟨tle (by omega), tle (by omega), call1 (c81 (hd t) hx) ⟨_, rfl, rfl, teq6 _, aft_ok rfl (h.next hn)⟩⟩
  · have h0 := of_feq h0
    have h1 := of_feq h1
    have h2 := of_feq h2
    have h3 := of_feq h3
    simp only [tB_eq, Bool.not_eq_false', Bool.or_eq_true, decide_eq_true_eq] at h4
    exact callF c38 ⟨_, _, rfl, bad (by omega) (by omega) (by omega) (by omega) (by omega) _⟩
theorem enc_cells (r : Rx) : [(enc r).getD 0 D0, (enc r).getD 1 D0, (enc r).getD 2 D0, (enc r).getD 3 D0, (enc r).getD 4 D0, (enc r).getD 5 D0] = enc r := by cases r; rfl
theorem opsL_some {m : Nat} {r r' : Rx} {t : List UInt8} {res : Res Rx} (h : opsL m r t = some res) (h1 : opX (hd t) r = some r') : ∃ m', opsL m' r' t.tail = some res := by
  cases m with
  | zero => simp [opsL] at h
  | succ m => refine ⟨m, ?_⟩; unfold opsL at h; rw [h1] at h; exact h
theorem opsL_none {m : Nat} {r : Rx} {t : List UInt8} {res : Res Rx} (h : opsL m r t = some res) (h1 : opX (hd t) r = none) : res = .ok r t := by
  cases m with
  | zero => simp [opsL] at h
  | succ m => unfold opsL at h; rw [h1] at h; cases h; rfl
theorem c65 {n : Nat} (K : K73 n) : K65 (n + 1) := by
  intro q s t i res hr h
  unfold piece at hr
  cases ha : atom n t with
  | none => rw [ha] at hr; cases hr
  | some ra =>
    rw [ha] at hr
    refine w65 s i q (callP (K (.up q) s t i ra ha h) (fun v t1 i1 e1 hi1 => ?_) (fun t1 i1 j e1 hi1 => ?_))
    · obtain ⟨r, f1, rfl⟩ := map_ok e1
      subst f1
      refine ⟨_, _, _, rfl, rfl, teq6 r, fun a b c d e f s' i' => ∃ m r t, s' = s ∧ [a, b, c, d, e, f] = enc r ∧ At s t i' ∧ opsL m r t = some res, fun _ _ _ _ _ _ s' i' => ((s'.length : Int) - i').toNat, ⟨n, r, t1, rfl, enc_cells r, hi1, hr⟩, ?_, trivial⟩
      rintro a b c d e f s' i' ⟨m, r', t', rfl, he, hat, hrun⟩
      have hlo' := hat.lo
      have lt : t' ≠ [] → ((s'.length : Int) - (i' + 1)).toNat < ((s'.length : Int) - i').toNat := fun hn => by have := hat.lt.2 hn; omega
      refine callB (c49 hat) ⟨_, _, _, rfl, rfl, fun h0 => ?_, fun h0 => ⟨fun h1 => ?_, fun h1 => ⟨fun h2 => ?_, fun h2 => ?_⟩⟩⟩
      · have h0 := of_teq h0
        have hn := hd_nil (t := t') (by omega)
        obtain ⟨m', hm⟩ := opsL_some hrun (r' := starX r') (by unfold opX; rw [if_pos (by omega)])
        refine ⟨tle (by omega), tle (by omega), ⟨m', _, _, rfl, ?_, hat.next hn, hm⟩, lt hn⟩
        rw [he]; rfl
      · have h0 := of_feq h0
        have h1 := of_teq h1
        have hn := hd_nil (t := t') (by omega)
        obtain ⟨m', hm⟩ := opsL_some hrun (r' := mk0 3 [r', starX r']) (by unfold opX; rw [if_neg (by omega), if_pos (by omega)])
        refine ⟨tle (by omega), tle (by omega), ⟨m', _, _, rfl, ?_, hat.next hn, hm⟩, lt hn⟩
        rw [he]; rfl
      · have h0 := of_feq h0
        have h1 := of_feq h1
        have h2 := of_teq h2
        have hn := hd_nil (t := t') (by omega)
        obtain ⟨m', hm⟩ := opsL_some hrun (r' := mk0 4 [r', mk0 1 []]) (by unfold opX; rw [if_neg (by omega), if_neg (by omega), if_pos (by omega)])
        refine ⟨tle (by omega), tle (by omega), ⟨m', _, _, rfl, ?_, hat.next hn, hm⟩, lt hn⟩
        rw [he]; rfl
      · have h0 := of_feq h0
        have h1 := of_feq h1
        have h2 := of_feq h2
        have := opsL_none hrun (by unfold opX; rw [if_neg (by omega), if_neg (by omega), if_neg (by omega)])
        subst this
        rw [he]
        exact aft_ok rfl hat
    · have f1 := map_bad e1
      subst f1
      cases hr
      exact ⟨_, _, rfl, aft_bad rfl hi1⟩
theorem heap_any {C : Ctx} {r : Ref} {x : A} {H : List (Ref × List A)} {g : Gh} {w : World} (h : HeapRel C (boxSt ((r, [x]) :: H)) g w) : HeapRel C (boxSt ((r, [A.any]) :: H)) g w := by
  have old : ∀ {o b}, Owns (boxSt ((r, [A.any]) :: H)) g o b → Owns (boxSt ((r, [x]) :: H)) g o b := fun {o b} ho => by
    cases ho with
    | @box q c h1 =>
      by_cases e : q = r
      · subst e; exact .box (c := [x]) (by simp [boxSt, kOf])
      · exact .box (c := c) (by simpa [boxSt, kOf, upd, e] using h1)
    | slot h1 => cases h1
    | @cell q c j a h1 h2 h3 =>
      by_cases e : q = r
      · subst e
        have hc : c = [A.any] := by simpa [boxSt, kOf] using h1.symm
        subst hc
        cases j with
        | zero => cases h2; cases h3
        | succ j => simp at h2
      · exact .cell (c := c) (by simpa [boxSt, kOf, upd, e] using h1) h2 h3
  refine ⟨fun q c hc => ?_, fun o o' b h1 h2 => h.inj o o' b (old h1) (old h2), fun o b h1 => h.wr o b (old h1), h.prs, h.pr0, h.prn, h.up, h.uu, h.fr⟩
  by_cases e : q = r
  · subst e
    have hc : c = [A.any] := by simpa [boxSt, kOf] using hc.symm
    subst hc
    obtain ⟨cs, k1, k2, k3, k4, k5⟩ := h.box q [x] (by simp [boxSt, kOf])
    refine ⟨cs, k1, k2, fun j a ha => ?_, k4, k5⟩
    cases j with
    | zero =>
      cases ha
      obtain ⟨_, v, k6, _⟩ := k3 0 x rfl
      exact ⟨rfl, v, k6, trivial⟩
    | succ j => simp at ha
  · exact h.box q c (by simpa [boxSt, kOf, upd, e] using hc)
theorem holds_lose {P : Program} {f : Nat} {args : List A} {r : Ref} {x : A} {H : List (Ref × List A)} {R R' : Out → List (Ref × List A) → Prop} (h : Holds P f args ((r, [x]) :: H) R)
    (hret : ∀ v H', R (.ret v) H' → R' (.ret v) H') (hpan : ∀ u H', R (.pan u) H' → ∃ y H1, H' = (r, [y]) :: H1 ∧ R' (.pan u) ((r, [A.any]) :: H1)) :
    Holds P f args ((r, [x]) :: H) R' :=
  fun w cargs g h1 h2 => (h w cargs g h1 h2).mono fun e w' ⟨out, H', g', a, b, c, d⟩ => by
    cases out with
    | ret v => exact ⟨.ret v, H', g', hret _ _ a, b, c, d⟩
    | pan u =>
      obtain ⟨y, H1, rfl, hR⟩ := hpan _ _ a
      exact ⟨.pan u, _, g', hR, b, heap_any c, d⟩
def Aft64 (q0 q1 q2 : Ref) (s : List UInt8) (l : List Rx) (res : Res Rx) : Out → List (Ref × List A) → Prop := fun o H => match res with
  | .ok r t => o = .ret (.tup []) ∧ ∃ i, At s t i ∧ H = [(.up q0, [A.own 6 (encs (l ++ [r])) []]), (.up q1, [A.ptr (.up q2) 0]), (.up q2, [A.d (.lit (bytesV s)), A.d (.lit (.int .i64 i))])]
  | .bad t => ∃ i j, At s t i ∧ o = .pan (faultV i) ∧ H = [(.up q0, [A.any]), (.up q1, [A.ptr (.up q2) 0]), (.up q2, [A.d (.lit (bytesV s)), A.d (.lit (.int .i64 j))])]
theorem setL_all {a b : List D} (h : a.length = b.length) : Ab.setL a 0 b = b := by
  unfold Ab.setL; simp [← h]
theorem c64a {n : Nat} (K : K65 n) {q0 q1 q2 : Ref} (h01 : q0 ≠ q1) (h02 : q0 ≠ q2) (h12 : q1 ≠ q2) {s t : List UInt8} {i : Int} {res : Res Rx} (hr : piece n t = some res) (h : At s t i) :
    Holds Try.prog 64 [A.ptr (.up q0) 0, A.ptr (.up q1) 0] [(.up q0, [A.zs []]), (.up q1, [A.ptr (.up q2) 0]), (.up q2, [A.d (.lit (bytesV s)), A.d (.lit (.int .i64 i))])] (Aft64 q0 q1 q2 s [] res) := by
  let R0 : Out → List (Ref × List A) → Prop := fun o H => match res with
    | .ok r t => o = .ret (.tup []) ∧ ∃ i, At s t i ∧ H = [(.up q0, [A.own 6 (encs ([] ++ [r])) []]), (.up q1, [A.ptr (.up q2) 0]), (.up q2, [A.d (.lit (bytesV s)), A.d (.lit (.int .i64 i))])]
    | .bad t => ∃ i j, At s t i ∧ o = .pan (faultV i) ∧ H = [(.up q0, [A.zs []]), (.up q1, [A.ptr (.up q2) 0]), (.up q2, [A.d (.lit (bytesV s)), A.d (.lit (.int .i64 j))])]
  refine holds_lose (R := R0) (w64a s i q0 q1 q2 h01 h02 h12 (callP (K (.up q2) s t i res hr h) (fun v t1 i1 e1 hi1 => ?_) (fun t1 i1 j e1 hi1 => ?_))) (fun v H' ho => ?_) (fun u H' ho => ?_)
  · obtain ⟨r, f1, rfl⟩ := map_ok e1
    subst f1
    refine ⟨_, _, _, rfl, rfl, tle (by decide), tle (by decide), tlt (by decide), teq6 r, rfl, i1, hi1, ?_⟩
    have e : gAt (((D.lit (.int .i64 (0 : Int))) :: ((D.lit (.int .u64 (0 : Int))) :: ((D.lit (.int .u64 (0 : Int))) :: ((D.lit (.int .u64 (0 : Int))) :: ((D.lit (.int .u64 (0 : Int))) :: ((D.slc ([] : List (List D))) :: ([] : List D))))))) :: ([] : List (List D))) (0 : Int) = [D.lit (.int .i64 (0 : Int)), D.lit (.int .u64 (0 : Int)), D.lit (.int .u64 (0 : Int)), D.lit (.int .u64 (0 : Int)), D.lit (.int .u64 (0 : Int)), D.slc []] := rfl
    rw [e, setL_all (by simp)]
    rfl
  · have f1 := map_bad e1
    subst f1
    exact ⟨_, _, rfl, i1, j, hi1, rfl, rfl⟩
  · cases res with
    | ok r t1 => exact ho
    | bad t1 => obtain ⟨_, _, _, e, _⟩ := ho; cases e
  · cases res with
    | ok r t1 => cases ho.1
    | bad t1 => obtain ⟨i1, j, hi1, e, rfl⟩ := ho; exact ⟨_, _, rfl, i1, j, hi1, e, rfl⟩
theorem c64b {n : Nat} (K : K65 n) {q0 q1 q2 : Ref} (h01 : q0 ≠ q1) (h02 : q0 ≠ q2) (h12 : q1 ≠ q2) {s t : List UInt8} {i : Int} {res : Res Rx} {l : List Rx} (hl : l.length ≤ 1048576) (hr : piece n t = some res) (h : At s t i) :
    Holds Try.prog 64 [A.ptr (.up q0) 0, A.ptr (.up q1) 0] [(.up q0, [A.own 6 (encs l) []]), (.up q1, [A.ptr (.up q2) 0]), (.up q2, [A.d (.lit (bytesV s)), A.d (.lit (.int .i64 i))])] (Aft64 q0 q1 q2 s l res) := by
  refine w64b (encs l) s i q0 q1 q2 h01 h02 h12 (callP (K (.up q2) s t i res hr h) (fun v t1 i1 e1 hi1 => ?_) (fun t1 i1 j e1 hi1 => ?_))
  · obtain ⟨r, f1, rfl⟩ := map_ok e1
    subst f1
    refine ⟨_, _, _, rfl, rfl, tle (by simp; omega), tle (by simp; omega), teq6 r, rfl, i1, hi1, ?_⟩
    rw [setL_all (by simp)]
    show [(Ref.up q0, [A.own 6 (encs l ++ encs [r]) []]), _, _] = _
    rw [encs_append]
  · have f1 := map_bad e1
    subst f1
    exact ⟨_, _, rfl, i1, j, hi1, rfl, rfl⟩
theorem flat1 (r : Rx) : flatB 6 [enc r] = true := by unfold flatB; rw [List.all_cons, enc_length]; rfl
theorem callA {f : Nat} {args : List A} {B : List (Ref × List A)} {q0 q1 q2 : Ref} {s : List UInt8} {l : List Rx} {res : Res Rx} (hc : Holds Try.prog f args B (Aft64 q0 q1 q2 s l res)) {Q1 : A → List (Ref × List A) → Prop} {Q2 : Value → List (Ref × List A) → Prop}
    (h1 : ∀ r t i, res = .ok r t → At s t i → Q1 (.tup []) [(.up q0, [A.own 6 (encs (l ++ [r])) []]), (.up q1, [A.ptr (.up q2) 0]), (.up q2, [A.d (.lit (bytesV s)), A.d (.lit (.int .i64 i))])])
    (h2 : ∀ t i j, res = .bad t → At s t i → Q2 (faultV i) [(.up q0, [A.any]), (.up q1, [A.ptr (.up q2) 0]), (.up q2, [A.d (.lit (bytesV s)), A.d (.lit (.int .i64 j))])]) :
    ∃ R' : Out → List (Ref × List A) → Prop, Holds Try.prog f args B R' ∧ (∀ v H', R' (.ret v) H' → Q1 v H') ∧ (∀ u H', R' (.pan u) H' → Q2 u H') := by
  refine ⟨_, hc, fun v' H' e => ?_, fun u H' e => ?_⟩
  · cases res with
    | ok v t => obtain ⟨e1, i, hi, rfl⟩ := e; cases e1; exact h1 _ t i rfl hi
    | bad t => obtain ⟨i, j, hi, e1, _⟩ := e; cases e1
  · cases res with
    | ok v t => cases e.1
    | bad t => obtain ⟨i, j, hi, e1, rfl⟩ := e; cases e1; exact h2 t i j rfl hi
theorem ref_ne1 {q : Ref} {a b : Nat} : Ref.own a b ≠ Ref.up q := fun h => by cases h
theorem ref_ne2 {a b c d : Nat} (h : a ≠ c) : Ref.own a b ≠ Ref.own c d := fun e => by cases e; exact h rfl
theorem c48 {n : Nat} (K : ∀ m, m ≤ n → K65 m) : K48 (n + 1) := by
  intro q s t i res hr h
  unfold seqs at hr
  cases ha : piece n t with
  | none => rw [ha] at hr; cases hr
  | some ra =>
    rw [ha] at hr
    refine w48 s i q fun ν => callA (c64a (K n (Nat.le_refl _)) (ref_ne2 (by decide)) ref_ne1 ref_ne1 ha h) (fun r t1 i1 e1 hi1 => ?_) (fun t1 i1 j e1 hi1 => ?_)
    · subst e1
      have hlt := (par_lt n).2.2.2.2.1 _ _ ha
      refine ⟨_, _, _, rfl, rfl, fun x s' i' => ∃ m l t', s' = s ∧ x = encs l ∧ At s t' i' ∧ seqL m l t' = some res ∧ m ≤ n ∧ l.length + t'.length ≤ s.length, fun _ s' i' => ((s'.length : Int) - i').toNat, ⟨n, [r], t1, rfl, rfl, hi1, hr, Nat.le_refl _, ?_⟩, ?_, trivial⟩
      · have := hlt.1
        have := h.suf.length_le
        simp; omega
      · rintro x s' i' ⟨m, l, t', rfl, rfl, hat, hrun, hm, hl⟩
        have hsm := hat.sm
        have done : ¬ (t' ≠ [] ∧ hd t' ≠ 124 ∧ hd t' ≠ 41) → PAft q s' (res.map encA) (.ret (encA (joinX 3 l))) (PB q s' i') := fun hn => by
          cases m with
          | zero => simp [seqL] at hrun
          | succ m =>
            unfold seqL at hrun
            rw [if_neg hn] at hrun
            cases hrun
            exact aft_ok rfl hat
        refine ⟨fun h0 => callB (c49 hat) ⟨_, _, _, rfl, rfl, fun h1 => callB (c49 hat) ⟨_, _, _, rfl, rfl, fun h2 => fun ν => ?_, fun h2 => ?_⟩, fun h1 => ?_⟩, fun h0 => ?_⟩
        · have hn : t' ≠ [] ∧ hd t' ≠ 124 ∧ hd t' ≠ 41 := ⟨hat.more (of_tlt h0), by simp at h1; omega, by simp at h2; omega⟩
          cases m with
          | zero => simp [seqL] at hrun
          | succ m =>
            unfold seqL at hrun
            rw [if_pos hn] at hrun
            cases hb : piece m t' with
            | none => rw [hb] at hrun; cases hrun
            | some rb =>
              rw [hb] at hrun
              refine callA (c64b (K m (by omega)) (ref_ne2 (by decide)) ref_ne1 ref_ne1 (by omega) hb hat) (fun r t2 i2 e2 hi2 => ?_) (fun t2 i2 j e2 hi2 => ?_)
              · subst e2
                have hlt2 := ((par_lt m).2.2.2.2.1 _ _ hb).1
                refine ⟨_, _, _, rfl, rfl, ⟨m, l ++ [r], t2, rfl, rfl, hi2, hrun, by omega, by simp; omega⟩, ?_⟩
                exact SetI.lt hat hi2 hlt2
              · subst e2
                cases hrun
                exact ⟨_, _, rfl, aft_bad rfl hi2⟩
        · have h2 : hd t' = 41 := by simp at h2; omega
          exact call1 (c50 3 l) ⟨_, rfl, rfl, teq6 _, done fun h => h.2.2 h2⟩
        · have h1 : hd t' = 124 := by simp at h1; omega
          exact call1 (c50 3 l) ⟨_, rfl, rfl, teq6 _, done fun h => h.2.1 h1⟩
        · exact call1 (c50 3 l) ⟨_, rfl, rfl, teq6 _, done fun h => h.1 (hat.end_ (of_flt h0))⟩
    · subst e1
      cases hr
      exact ⟨_, _, rfl, aft_bad rfl hi1⟩
theorem c37 {n : Nat} (K : ∀ m, m ≤ n → K48 m) : K37 (n + 1) := by
  intro q s t i res hr h
  unfold alts at hr
  cases ha : seqs n t with
  | none => rw [ha] at hr; cases hr
  | some ra =>
    rw [ha] at hr
    refine w37 s i q (callP (K n (Nat.le_refl _) (.up q) s t i ra ha h) (fun v t1 i1 e1 hi1 => ?_) (fun t1 i1 j e1 hi1 => ?_))
    · obtain ⟨r, f1, rfl⟩ := map_ok e1
      subst f1
      have hlt := (par_lt n).2.2.1 _ _ ha
      refine ⟨_, _, _, rfl, rfl, teq6 r, fun x s' i' => ∃ m l t', s' = s ∧ x = encs l ∧ At s t' i' ∧ altL m l t' = some res ∧ m ≤ n ∧ l.length + t'.length ≤ s.length, fun _ s' i' => ((s'.length : Int) - i').toNat, ⟨n, [r], t1, rfl, rfl, hi1, hr, Nat.le_refl _, ?_⟩, ?_, trivial⟩
      · have := hlt.1
        have := h.suf.length_le
        simp; omega
      · rintro x s' i' ⟨m, l, t', rfl, rfl, hat, hrun, hm, hl⟩
        have hsm := hat.sm
        have hlo := hat.lo
        cases m with
        | zero => simp [altL] at hrun
        | succ m =>
          unfold altL at hrun
          refine callB (c49 hat) ⟨_, _, _, rfl, rfl, fun h1 => ⟨tle (by omega), tle (by omega), ?_⟩, fun h1 => ?_⟩
          · have h1 := of_teq h1
            have hn : t' ≠ [] := hd_nil (by omega)
            have hnl : t'.tail.length + 1 = t'.length := by cases t' with
              | nil => exact absurd rfl hn
              | cons c t => simp
            rw [if_pos (by omega)] at hrun
            cases hb : seqs m t'.tail with
            | none => rw [hb] at hrun; cases hrun
            | some rb =>
              rw [hb] at hrun
              refine callP (K m (by omega) (.up q) s' t'.tail (i' + 1) rb hb (hat.next hn)) (fun v t2 i2 e2 hi2 => ?_) (fun t2 i2 j e2 hi2 => ?_)
              · obtain ⟨r', f2, rfl⟩ := map_ok e2
                subst f2
                have hlt2 := ((par_lt m).2.2.1 _ _ hb).1
                refine ⟨_, _, _, rfl, rfl, teq6 r', flat1 r', tle (by simp; omega), tle (by simp; omega), ⟨m, l ++ [r'], t2, rfl, ?_, hi2, hrun, by omega, by simp; omega⟩, SetI.lt hat hi2 (by omega)⟩
                show encs l ++ encs [r'] = _
                rw [encs_append]
              · have f2 := map_bad e2
                subst f2
                cases hrun
                exact ⟨_, _, rfl, aft_bad rfl hi2⟩
          · have h1 := of_feq h1
            rw [if_neg (by omega)] at hrun
            cases hrun
            exact call1 (c50 4 l) ⟨_, rfl, rfl, teq6 _, aft_ok rfl hat⟩
    · have f1 := map_bad e1
      subst f1
      cases hr
      exact ⟨_, _, rfl, aft_bad rfl hi1⟩
theorem k_all : ∀ n, (∀ m, m ≤ n → K37 m ∧ K48 m ∧ K65 m ∧ K73 m) := by
  intro n
  induction n with
  | zero =>
    intro m hm
    have : m = 0 := by omega
    subst this
    exact ⟨fun q s t i res hr => by simp [alts] at hr, fun q s t i res hr => by simp [seqs] at hr, fun q s t i res hr => by simp [piece] at hr, fun q s t i res hr => by simp [atom] at hr⟩
  | succ n ih =>
    intro m hm
    by_cases h : m ≤ n
    · exact ih m h
    · have : m = n + 1 := by omega
      subst this
      exact ⟨c37 fun m h => (ih m h).2.1, c48 fun m h => (ih m h).2.2.1, c65 (ih n (Nat.le_refl _)).2.2.2, c73 (ih n (Nat.le_refl _)).1⟩
theorem k37 (n : Nat) : K37 n := (k_all n n (Nat.le_refl _)).1
end Go.Rx
end
section
open Go Go.Proofs Go.Ab Go.Rf
set_option maxRecDepth 100000
namespace Go.Rx
theorem setL_some : ∀ (n : Nat) (neg : Bool) (p : Nat → Bool) (t : List UInt8), t.length < n → setL n neg p t ≠ none
  | 0, _, _, _, h => by omega
  | n + 1, neg, p, t, h => by
    unfold setL
    have h1 := byteR_lt 0 t
    cases e1 : byteR 0 t with
    | bad q => simp
    | ok lo t1 =>
      rw [e1] at h1
      dsimp only
      have h2 := hiR_le lo t1
      cases e2 : hiR lo t1 with
      | bad q => simp
      | ok hi t3 =>
        rw [e2] at h2
        dsimp only
        split
        · simp
        · refine setL_some n neg _ t3 ?_
          have := h1.1
          have := List.IsSuffix.length_le h2
          omega
theorem setR_some (n : Nat) (t : List UInt8) (h : t.length < n) : setR n t ≠ none := by
  unfold setR
  split
  · exact setL_some _ _ _ _ (by simp; omega)
  · split
    · simp
    · exact setL_some _ _ _ _ h
theorem opsL_fuel : ∀ (n : Nat) (r : Rx) (t : List UInt8), t.length < n → opsL n r t ≠ none
  | 0, _, _, h => by omega
  | n + 1, r, t, h => by
    unfold opsL
    cases e : opX (hd t) r with
    | none => simp
    | some r' =>
      have := hd_ne (opX_ne e)
      exact opsL_fuel n r' t.tail (by omega)
theorem fuel_all : ∀ n, (∀ t, 5 * t.length + 4 ≤ n → alts n t ≠ none) ∧ (∀ l t, 5 * t.length + 4 ≤ n → altL n l t ≠ none) ∧ (∀ t, 5 * t.length + 3 ≤ n → seqs n t ≠ none) ∧ (∀ l t, 5 * t.length + 3 ≤ n → seqL n l t ≠ none) ∧
    (∀ t, 5 * t.length + 2 ≤ n → piece n t ≠ none) ∧ (∀ t, 5 * t.length + 1 ≤ n → atom n t ≠ none) := by
  intro n
  induction n with
  | zero => exact ⟨fun t h => by omega, fun l t h => by omega, fun t h => by omega, fun l t h => by omega, fun t h => by omega, fun t h => by omega⟩
  | succ n ih =>
    obtain ⟨ih1, ih2, ih3, ih4, ih5, ih6⟩ := ih
    refine ⟨fun t h => ?_, fun l t h => ?_, fun t h => ?_, fun l t h => ?_, fun t h => ?_, fun t h => ?_⟩
    · unfold alts
      cases e : seqs n t with
      | none => exact absurd e (ih3 t (by omega))
      | some res => cases res with
        | bad q => simp
        | ok r t1 => have := ((par_lt n).2.2.1 _ _ e).1; exact ih2 _ _ (by omega)
    · unfold altL
      split
      · rename_i hc
        have ht := hd_ne (show hd t ≠ 0 by omega)
        cases e : seqs n t.tail with
        | none => exact absurd e (ih3 t.tail (by omega))
        | some res => cases res with
          | bad q => simp
          | ok r t1 => have := ((par_lt n).2.2.1 _ _ e).1; exact ih2 _ _ (by omega)
      · simp
    · unfold seqs
      cases e : piece n t with
      | none => exact absurd e (ih5 t (by omega))
      | some res => cases res with
        | bad q => simp
        | ok r t1 => have := ((par_lt n).2.2.2.2.1 _ _ e).1; exact ih4 _ _ (by omega)
    · unfold seqL
      split
      · cases e : piece n t with
        | none => exact absurd e (ih5 t (by omega))
        | some res => cases res with
          | bad q => simp
          | ok r t1 => have := ((par_lt n).2.2.2.2.1 _ _ e).1; exact ih4 _ _ (by omega)
      · simp
    · unfold piece
      cases e : atom n t with
      | none => exact absurd e (ih6 t (by omega))
      | some res => cases res with
        | bad q => simp
        | ok r t1 => have := ((par_lt n).2.2.2.2.2 _ _ e).1; exact opsL_fuel _ _ _ (by omega)
    · unfold atom
      have ht : hd t ≠ 0 → t.tail.length < t.length := hd_ne
      split
      · rename_i hc
        have ht := ht (by omega)
        split
        · simp
        · cases e : alts n t.tail with
          | none => exact absurd e (ih1 t.tail (by omega))
          | some res => cases res <;> simp
      · split
        · rename_i hc
          have ht := ht (by omega)
          exact setR_some _ _ (by omega)
        · split
          · simp
          · split
            · cases clsV (hd t.tail) with
              | some p => simp
              | none => dsimp only; cases escR 0 t.tail <;> simp
            · split <;> simp
def fuelOf (t : List UInt8) : Nat := 5 * t.length + 4
theorem alts_some (t : List UInt8) : ∃ res, alts (fuelOf t) t = some res := by
  have := (fuel_all (fuelOf t)).1 t (Nat.le_refl _)
  cases h : alts (fuelOf t) t with
  | none => exact absurd h this
  | some r => exact ⟨r, rfl⟩
def parseV (s : List UInt8) : Rx × Int × Int :=
  if 1000 < s.length then (mk0 0 [], 2, 0) else match alts (fuelOf s) s with
    | some (.ok r t) => if t = [] then (if chk 1 r = 9 then (mk0 0 [], 9, 0) else (r, 0, 0)) else (mk0 0 [], 8, (s.length : Int) - t.length)
    | some (.bad t) => (mk0 0 [], 8, (s.length : Int) - t.length)
    | none => (mk0 0 [], 0, 0)
def pairA (x : Rx × Int × Int) : A := .tup [(true, enc x.1), (true, [.lit (.int .i64 x.2.1), .lit (.int .i64 x.2.2)])]
theorem lens_mk0 {B : Nat} {k : Int} {l : List Rx} : lens B (mk0 k l) ↔ l.length ≤ B ∧ ∀ x ∈ l, lens B x := lens_iff
theorem lens_setX {B : Nat} (p : Nat → Bool) : lens B (setX p) := lens_iff.2 ⟨Nat.zero_le _, fun _ h => by cases h⟩
theorem lens_joinX {B : Nat} {k : Int} {l : List Rx} (h : l.length ≤ B) (hl : ∀ x ∈ l, lens B x) : lens B (joinX k l) := by
  unfold joinX
  split
  · exact hl _ (by simp)
  · exact lens_mk0.2 ⟨h, hl⟩
def Res.All {α : Type} (P : α → Prop) : Res α → Prop | .ok a _ => P a | .bad _ => True
theorem setL_lens {B : Nat} : ∀ (n : Nat) (neg : Bool) (p : Nat → Bool) (t : List UInt8) (r : Res Rx), setL n neg p t = some r → r.All (lens B)
  | 0, _, _, _, _, h => by simp [setL] at h
  | n + 1, neg, p, t, r, h => by
    unfold setL at h
    split at h
    · cases h; trivial
    · split at h
      · cases h; trivial
      · split at h
        · cases h; show lens B _; exact lens_setX _
        · exact setL_lens n _ _ _ _ h
theorem lens_star {B : Nat} {r : Rx} (hB : 2 ≤ B) (h : lens B r) : lens B (starX r) := lens_mk0.2 ⟨by simp; omega, by simpa using h⟩
theorem opX_lens {B c : Nat} {r r' : Rx} (hB : 2 ≤ B) (h : lens B r) (e : opX c r = some r') : lens B r' := by
  unfold opX at e
  have he : lens B (mk0 1 []) := lens_mk0.2 ⟨Nat.zero_le _, by simp⟩
  repeat' split at e
  all_goals first
    | (cases e; exact lens_star hB h)
    | (cases e; exact lens_mk0.2 ⟨by simpa using hB, by simp; exact ⟨h, lens_star hB h⟩⟩)
    | (cases e; exact lens_mk0.2 ⟨by simpa using hB, by simp; exact ⟨h, he⟩⟩)
    | cases e
theorem opsL_lens {B : Nat} (hB : 2 ≤ B) : ∀ (n : Nat) (r : Rx) (t : List UInt8) (o : Res Rx), opsL n r t = some o → lens B r → o.All (lens B)
  | 0, _, _, _, h, _ => by simp [opsL] at h
  | n + 1, r, t, o, h, hr => by
    unfold opsL at h
    split at h
    · rename_i r' e; exact opsL_lens hB n r' _ _ h (opX_lens hB hr e)
    · cases h; exact hr
theorem par_lens (B : Nat) (hB : 2 ≤ B) : ∀ (n : Nat), (∀ t r, alts n t = some r → t.length ≤ B → r.All (lens B)) ∧ (∀ l t r, altL n l t = some r → l.length + t.length ≤ B → (∀ x ∈ l, lens B x) → r.All (lens B)) ∧ (∀ t r, seqs n t = some r → t.length ≤ B → r.All (lens B)) ∧
    (∀ l t r, seqL n l t = some r → l.length + t.length ≤ B → (∀ x ∈ l, lens B x) → r.All (lens B)) ∧
    (∀ t r, piece n t = some r → t.length ≤ B → r.All (lens B)) ∧ (∀ t r, atom n t = some r → t.length ≤ B → r.All (lens B)) := by
  intro n
  induction n with
  | zero => exact ⟨fun t r h => by simp [alts] at h, fun l t r h => by simp [altL] at h, fun t r h => by simp [seqs] at h, fun l t r h => by simp [seqL] at h, fun t r h => by simp [piece] at h, fun t r h => by simp [atom] at h⟩
  | succ n ih =>
    obtain ⟨ih1, ih2, ih3, ih4, ih5, ih6⟩ := ih
    refine ⟨fun t r h hl => ?_, fun l t r h hl hx => ?_, fun t r h hl => ?_, fun l t r h hl hx => ?_, fun t r h hl => ?_, fun t r h hl => ?_⟩
    · unfold alts at h
      split at h
      · cases h
      · cases h; trivial
      · rename_i hq
        have h1 := ih3 _ _ hq hl
        have h2 := ((par_lt n).2.2.1 _ _ hq).1
        exact ih2 _ _ _ h (by simp; omega) (fun x hx => by rw [List.mem_singleton.1 hx]; exact h1)
    · unfold altL at h
      split at h
      · rename_i hc
        have h0 := hd_ne (show hd t ≠ 0 by omega)
        split at h
        · cases h
        · cases h; trivial
        · rename_i hq
          have h1 := ih3 _ _ hq (by omega)
          have h2 := ((par_lt n).2.2.1 _ _ hq).1
          refine ih2 _ _ _ h (by simp; omega) fun x hx' => ?_
          rcases List.mem_append.1 hx' with hx' | hx'
          · exact hx x hx'
          · rw [List.mem_singleton.1 hx']; exact h1
      · cases h; exact lens_joinX (by omega) hx
    · unfold seqs at h
      split at h
      · cases h
      · cases h; trivial
      · rename_i hq
        have h1 := ih5 _ _ hq hl
        have h2 := ((par_lt n).2.2.2.2.1 _ _ hq).1
        exact ih4 _ _ _ h (by simp; omega) (fun x hx => by rw [List.mem_singleton.1 hx]; exact h1)
    · unfold seqL at h
      split at h
      · split at h
        · cases h
        · cases h; trivial
        · rename_i hq
          have h1 := ih5 _ _ hq (by omega)
          have h2 := ((par_lt n).2.2.2.2.1 _ _ hq).1
          refine ih4 _ _ _ h (by simp; omega) fun x hx' => ?_
          rcases List.mem_append.1 hx' with hx' | hx'
          · exact hx x hx'
          · rw [List.mem_singleton.1 hx']; exact h1
      · cases h; exact lens_joinX (by omega) hx
    · unfold piece at h
      split at h
      · cases h
      · cases h; trivial
      · rename_i hq
        exact opsL_lens hB _ _ _ _ h (ih6 _ _ hq hl)
    · have hT : t.tail.length ≤ B := by simp; omega
      unfold atom at h
      split at h
      · split at h
        · cases h; show lens B (mk0 1 []); exact lens_mk0.2 ⟨Nat.zero_le _, by simp⟩
        · split at h
          · cases h
          · cases h; trivial
          · rename_i hq
            cases h
            have h1 := ih1 _ _ hq hT
            unfold closeR
            split
            · exact h1
            · trivial
      · split at h
        · unfold setR at h
          split at h
          · exact setL_lens _ _ _ _ _ h
          · split at h
            · cases h; show lens B (mk0 1 []); exact lens_mk0.2 ⟨Nat.zero_le _, by simp⟩
            · exact setL_lens _ _ _ _ _ h
        · split at h
          · cases h; show lens B _; exact lens_setX _
          · split at h
            · split at h
              · cases h; show lens B _; exact lens_setX _
              · split at h
                · cases h; trivial
                · cases h; show lens B _; exact lens_setX _
            · split at h
              · cases h; trivial
              · cases h; show lens B _; exact lens_setX _
theorem alts_lens {n : Nat} {t t' : List UInt8} {r : Rx} (h : alts n t = some (.ok r t')) : lens (t.length + 2) r := (par_lens (t.length + 2) (by omega) n).1 t _ h (by omega)
theorem at0 {s : List UInt8} (h : s.length ≤ 1048576) : At s s 0 := ⟨List.suffix_refl _, by omega, h⟩
theorem parse_long {s : List UInt8} (h : 1000 < s.length) : parseV s = (mk0 0 [], 2, 0) := by unfold parseV; rw [if_pos h]
theorem parse_bad {s t : List UInt8} {i : Int} (h : ¬ 1000 < s.length) (hr : alts (fuelOf s) s = some (.bad t)) (hi : At s t i) : parseV s = (mk0 0 [], 8, i) := by
  unfold parseV; rw [if_neg h, hr]
  have := hi.pos
  have : (s.length : Int) - t.length = i := by omega
  simp [this]
theorem parse_more {s t : List UInt8} {r : Rx} {i : Int} (h : ¬ 1000 < s.length) (hr : alts (fuelOf s) s = some (.ok r t)) (hi : At s t i) (ht : t ≠ []) : parseV s = (mk0 0 [], 8, i) := by
  unfold parseV; rw [if_neg h, hr]
  have := hi.pos
  have : (s.length : Int) - t.length = i := by omega
  simp [this, ht]
theorem parse_ok {s : List UInt8} {r : Rx} (h : ¬ 1000 < s.length) (hr : alts (fuelOf s) s = some (.ok r [])) : parseV s = if chk 1 r = 9 then (mk0 0 [], 9, 0) else (r, 0, 0) := by
  unfold parseV; rw [if_neg h, hr]; simp
end Go.Rx
end
section
open Go Go.Proofs Go.Ab Go.Rf
set_option maxRecDepth 100000
namespace Go.Rx
theorem list4 {α : Type} {l : List α} (h : l.length = 4) : ∃ a b c d, l = [a, b, c, d] := by
  match l, h with
  | [a, b, c, d], _ => exact ⟨a, b, c, d, rfl⟩
def RfinP (s : List UInt8) : Out → Prop := fun o => o = .ret (pairA (parseV s))
theorem enc_row (r : Rx) : enc r = [(enc r).getD 0 D0, (enc r).getD 1 D0, (enc r).getD 2 D0, (enc r).getD 3 D0, (enc r).getD 4 D0, (enc r).getD 5 D0] := (enc_cells r).symm
theorem c19 (s : List UInt8) : Holds Try.prog 19 [A.d (.lit (bytesV s))] [] (Ret (pairA (parseV s))) := by
  have key : Holds Try.prog 19 [A.d (D.lit (bytesV s))] [] (fun o H => H = [] ∧ RfinP s o) := by
    refine w19p _ rfl s ⟨fun hl => ⟨fun _ => ?_, fun h => absurd rfl h⟩, fun hl => ⟨fun h => (by cases h), fun _ => ⟨_, rfl, fun qs hlen hn => ?_⟩⟩⟩
    · have hl := of_tlt hl
      unfold RfinP
      rw [parse_long (by omega)]
      rfl
    · have hl := of_flt hl
      have hs : ¬ 1000 < s.length := by omega
      have h0 : At s s 0 := at0 (by omega)
      obtain ⟨res, hr⟩ := alts_some s
      obtain ⟨q0, q1, q2, q3, rfl⟩ := list4 hlen
      simp only [List.nodup_cons, List.mem_cons, List.not_mem_nil, or_false, not_or, List.nodup_nil, and_true, not_false_eq_true] at hn
      obtain ⟨⟨h01, h02, h03⟩, ⟨h12, h13⟩, h23⟩ := hn
      have failz : ∀ (i j : Int), parseV s = (mk0 0 [], 8, i) → midR Try.prog 36 3 [(1, 6), (2, 2)] (RfinP s) [q0, q1, q2, q3] (.pan (faultV i)) [(Ref.up q0, [A.ptr (Ref.up q3) 0]), (Ref.up q1, [A.d (.lit (.int .i64 0)), A.d (.lit (.int .u64 0)), A.d (.lit (.int .u64 0)), A.d (.lit (.int .u64 0)), A.d (.lit (.int .u64 0)), A.zs []]), (Ref.up q2, [A.d (.lit (.int .i64 0)), A.d (.lit (.int .i64 0))]), (Ref.up q3, [A.d (.lit (bytesV s)), A.d (.lit (.int .i64 j))])] := fun i j hp =>
        ⟨_, fun H => H = _, w36z _ rfl _ _ _ _ _ (D.lit .nilIface) _ _ s j i q0 q1 q2 q3 h01 h02 h12 h03 h13 h23 rfl, rfl, fun H2 hR => by subst hR; exact ⟨_, rfl, by unfold RfinP; rw [hp]; rfl⟩⟩
      have faild : ∀ (i j : Int) (a b c d e f : D), parseV s = (mk0 0 [], 8, i) → midR Try.prog 36 3 [(1, 6), (2, 2)] (RfinP s) [q0, q1, q2, q3] (.pan (faultV i)) [(Ref.up q0, [A.ptr (Ref.up q3) 0]), (Ref.up q1, [A.d a, A.d b, A.d c, A.d d, A.d e, A.d f]), (Ref.up q2, [A.d (.lit (.int .i64 0)), A.d (.lit (.int .i64 0))]), (Ref.up q3, [A.d (.lit (bytesV s)), A.d (.lit (.int .i64 j))])] := fun i j a b c d e f hp =>
        ⟨_, fun H => H = _, w36f _ rfl _ _ _ _ _ _ _ _ s j i q0 q1 q2 q3 h01 h02 h12 h03 h13 h23 rfl, rfl, fun H2 hR => by subst hR; exact ⟨_, rfl, by unfold RfinP; rw [hp]; rfl⟩⟩
      have fine : ∀ (j : Int) (a b c d e f g h : D), pairA (parseV s) = .tup [(true, [a, b, c, d, e, f]), (true, [g, h])] → midR Try.prog 36 3 [(1, 6), (2, 2)] (RfinP s) [q0, q1, q2, q3] (.ret (.tup [])) [(Ref.up q0, [A.ptr (Ref.up q3) 0]), (Ref.up q1, [A.d a, A.d b, A.d c, A.d d, A.d e, A.d f]), (Ref.up q2, [A.d g, A.d h]), (Ref.up q3, [A.d (.lit (bytesV s)), A.d (.lit (.int .i64 j))])] := fun j a b c d e f g h hp =>
        ⟨_, fun H => H = _, w36n _ rfl _ _ _ _ _ _ _ _ s j 0 q0 q1 q2 q3 h01 h02 h12 h03 h13 h23 rfl, rfl, fun H2 hR => by subst hR; exact ⟨_, rfl, by unfold RfinP; rw [hp]; rfl⟩⟩
      refine w19q s 0 0 0 0 0 0 0 s 0 q0 q1 q2 q3 h01 h02 h12 h03 h13 h23 ?_
      refine callP (k37 _ (Ref.up q3) s s 0 res hr h0) (fun v t i e hi => ?_) (fun t i j e hi => ?_)
      · obtain ⟨r, f1, rfl⟩ := map_ok e
        subst f1
        refine ⟨_, _, _, rfl, rfl, teq6 r, fun hf => ?_, fun hf => ?_⟩
        · have ht : t ≠ [] := hi.more (of_tlt hf)
          exact callF c38 ⟨_, _, rfl, faild i i _ _ _ _ _ _ (parse_more hs hr hi ht)⟩
        · have ht : t = [] := hi.end_ (of_flt hf)
          subst ht
          have hp := parse_ok hs hr
          have hb : lens (2 ^ 40) r := lens_mono (by omega) _ r (Nat.le_refl _) (alts_lens hr)
          refine call1 (c15 r hb) ⟨_, rfl, rfl, fun h9 => ?_, fun h9 => ?_⟩
          · rw [if_pos (of_teq h9)] at hp
            exact fine i _ _ _ _ _ _ _ _ (by rw [hp]; rfl)
          · rw [if_neg (of_feq h9)] at hp
            exact fine i _ _ _ _ _ _ _ _ (by rw [hp]; show A.tup [(true, enc r), _] = _; rw [enc_row r]; rfl)
      · have f1 := map_bad e
        subst f1
        exact ⟨_, _, rfl, failz i j (parse_bad hs hr hi)⟩
  exact key.mono fun o H' h => ⟨h.2, h.1⟩
end Go.Rx
end
section
open Go Go.Proofs Go.Ab Go.Rf
set_option maxRecDepth 100000
namespace Go.Rx
def intA (n : Int) : A := .d (.lit (.int .i64 n))
theorem rx_ext {a b : Rx} (hk : a.kind = b.kind) (h0 : a.w 0 = b.w 0) (h1 : a.w 1 = b.w 1) (h2 : a.w 2 = b.w 2) (h3 : a.w 3 = b.w 3) (hs : a.subs = b.subs) : a = b := by
  cases a; cases b
  simp only [Rx.kind, Rx.w, Rx.subs] at hk h0 h1 h2 h3 hs
  subst hk h0 h1 h2 h3 hs
  rfl
theorem nteq {a b : Int} (h : (!(tB (a == b))) = true) : a ≠ b := by simpa using h
theorem nfeq {a b : Int} (h : (!(tB (a == b))) = false) : a = b := by simpa using h
end Go.Rx
end
section
open Go Go.Proofs Go.Ab Go.Rf
set_option maxRecDepth 100000
namespace Go.Rx
mutual
def eqX : Rx → Rx → Bool
  | .mk k a b c d l, .mk k' a' b' c' d' l' => k == k' && (a == a' && (b == b' && (c == c' && (d == d' && eqXs l l'))))
def eqXs : List Rx → List Rx → Bool
  | [], [] => true
  | r :: l, r' :: l' => eqX r r' && eqXs l l'
  | _, _ => false
end
mutual
theorem eqX_iff : ∀ {a b : Rx}, eqX a b = true ↔ a = b
  | .mk k a b c d l, .mk k' a' b' c' d' l' => by
    simp only [eqX, Bool.and_eq_true, beq_iff_eq, Rx.mk.injEq]
    rw [eqXs_iff (a := l) (b := l')]
theorem eqXs_iff : ∀ {a b : List Rx}, eqXs a b = true ↔ a = b
  | [], [] => by simp [eqXs]
  | [], _ :: _ => by simp [eqXs]
  | _ :: _, [] => by simp [eqXs]
  | r :: l, r' :: l' => by
    simp only [eqXs, Bool.and_eq_true, List.cons.injEq]
    rw [eqX_iff (a := r) (b := r'), eqXs_iff (a := l) (b := l')]
end
theorem c69 : ∀ (n : Nat) (a b : Rx), size a ≤ n → lens (2 ^ 40) a → Holds Try.prog 69 [A.agg (enc a), A.agg (enc b)] [] (Ret (boolA (eqX a b))) := by
  intro n
  induction n with
  | zero => intro a b h; have := size_pos a; omega
  | succ n ih =>
    intro a b hs hl
    have hlen : a.subs.length ≤ 2 ^ 40 := (lens_iff.1 hl).1
    have no : a ≠ b → Ret (boolA (eqX a b)) (.ret (A.d (.lit (.bool false)))) [] := fun h => by
      have : eqX a b = false := Bool.eq_false_iff.2 fun e => h (eqX_iff.1 e)
      rw [this]; exact ⟨rfl, rfl⟩
    refine w69 (enc a) (enc b) ⟨teq6 a, teq6 b, by simp, by simp, by simp, by simp, by simp, by simp, by simp, by simp, by simp, by simp, by simp, by simp, fun h => ?_, fun h => ?_⟩
    · simp only [enc0, enc1, enc2, enc3, enc4, enc5, dint_int, dlst_slc, encs_length, tB_eq, Bool.or_eq_true, Bool.not_eq_true', Bool.and_eq_false_iff, beq_eq_false_iff_ne] at h
      refine no fun e => ?_
      subst e
      rcases h with (h | h) | h
      · exact h rfl
      · rcases h with h | h | h | h <;> exact h rfl
      · exact h rfl
    · simp only [enc0, enc1, enc2, enc3, enc4, enc5, dint_int, dlst_slc, encs_length, tB_eq, Bool.or_eq_false_iff, Bool.not_eq_false', Bool.and_eq_true, beq_iff_eq] at h
      obtain ⟨⟨hk, h0, h1, h2, h3⟩, hll⟩ := h
      have hll : a.subs.length = b.subs.length := by omega
      refine ⟨by simp, fun x => ∃ i : Nat, x = i ∧ i ≤ a.subs.length ∧ ∀ j (hj : j < a.subs.length), j < i → a.subs[j] = b.subs[j]'(by omega), fun x => a.subs.length - x.toNat, ⟨0, rfl, Nat.zero_le _, fun j _ hj => absurd hj (Nat.not_lt_zero _)⟩, ?_, trivial⟩
      rintro x ⟨i, rfl, hi, hall2⟩
      refine ⟨fun hc => ?_, fun hc => ?_⟩
      · have hc := of_tlt hc
        rw [enc5, dlst_slc, encs_length] at hc
        have hc1 : i < a.subs.length := by omega
        have hc2 : i < b.subs.length := by omega
        rw [enc5, dlst_slc, enc5, dlst_slc, gAt_encs rfl hc1, gAt_encs rfl hc2]
        have hsub := size_sub hc1
        refine ⟨tle (by omega), teq6 _, rfl, tlt (by simp; omega), teq6 _, call1 (ih a.subs[i] b.subs[i] (by omega) (lens_sub hl hc1)) ⟨_, rfl, rfl, fun hne => ?_, fun heq => ?_⟩⟩
        · refine no fun e => ?_
          have : eqX a.subs[i] b.subs[i] = true := eqX_iff.2 (by subst e; rfl)
          rw [this] at hne; cases hne
        · have heq : eqX a.subs[i] b.subs[i] = true := by simpa using heq
          refine ⟨tle (by omega), tle (by omega), ⟨i + 1, rfl, hc1, fun j hj hji => ?_⟩, by simp only [Int.toNat_natCast]; omega⟩
          by_cases e : j = i
          · subst e; exact eqX_iff.1 heq
          · exact hall2 j hj (by omega)
      · have hc := of_flt hc
        rw [enc5, dlst_slc, encs_length] at hc
        have hsub : a.subs = b.subs := List.ext_getElem hll fun j h1 h2 => hall2 j h1 (by omega)
        have e := rx_ext hk h0 h1 h2 h3 hsub
        rw [eqX_iff.2 e]
        exact ⟨rfl, rfl⟩
def addX (out : List Rx) (x : Rx) : List Rx := if out.any (eqX x) then out else out ++ [x]
def Aft68 (q : Ref) (out : List Rx) : Out → List (Ref × List A) → Prop := fun o H => o = .ret (.tup []) ∧ H = [(.up q, [A.own 6 (encs out) []])]
theorem c68a (x : Rx) (q : Ref) : Holds Try.prog 68 [A.agg (enc x), A.ptr (.up q) 0] [(.up q, [A.zs []])] (Aft68 q (addX [] x)) := by
  refine w68a (enc x) q ⟨teq6 x, True, 0, trivial, fun _ => ⟨tle (by decide), tle (by decide), tlt (by decide), rfl, ?_⟩, trivial⟩
  have e : gAt (((D.lit (.int .i64 (0 : Int))) :: ((D.lit (.int .u64 (0 : Int))) :: ((D.lit (.int .u64 (0 : Int))) :: ((D.lit (.int .u64 (0 : Int))) :: ((D.lit (.int .u64 (0 : Int))) :: ((D.slc ([] : List (List D))) :: ([] : List D))))))) :: ([] : List (List D))) (0 : Int) = [D.lit (.int .i64 (0 : Int)), D.lit (.int .u64 (0 : Int)), D.lit (.int .u64 (0 : Int)), D.lit (.int .u64 (0 : Int)), D.lit (.int .u64 (0 : Int)), D.slc []] := rfl
  rw [e, setL_all (by simp)]
  rfl
theorem c68b (x : Rx) (out : List Rx) (q : Ref) (hx : lens (2 ^ 40) x) (ho : (addX out x).length ≤ 2 ^ 40) : Holds Try.prog 68 [A.agg (enc x), A.ptr (.up q) 0] [(.up q, [A.own 6 (encs out) []])] (Aft68 q (addX out x)) := by
  have hle : out.length ≤ 2 ^ 40 := by
    unfold addX at ho
    split at ho
    · exact ho
    · simp at ho; omega
  refine w68b (enc x) (encs out) q ⟨teq6 x, fun v => ∃ i : Nat, v = i ∧ i ≤ out.length ∧ ∀ j (hj : j < out.length), j < i → eqX x out[j] = false, fun v => out.length - v.toNat, ⟨0, rfl, Nat.zero_le _, fun j _ hj => absurd hj (Nat.not_lt_zero _)⟩, ?_, trivial⟩
  rintro v ⟨i, rfl, hi, hall⟩
  refine ⟨fun hc => ?_, fun hc => ?_⟩
  · have hc := of_tlt hc
    rw [encs_length] at hc
    have hc1 : i < out.length := by omega
    rw [gAt_encs rfl hc1]
    refine ⟨tle (by omega), teq6 _, call1 (c69 _ x out[i] (Nat.le_refl _) hx) ⟨_, rfl, rfl, fun he => ?_, fun he => ⟨tle (by omega), tle (by omega), ⟨i + 1, rfl, hc1, fun j hj hji => ?_⟩, by simp only [Int.toNat_natCast]; omega⟩⟩⟩
    · have : addX out x = out := by
        unfold addX
        rw [if_pos (List.any_eq_true.2 ⟨_, List.getElem_mem hc1, he⟩)]
      rw [this]
      exact ⟨rfl, rfl⟩
    · by_cases e : j = i
      · subst e; exact he
      · exact hall j hj (by omega)
  · have hc := of_flt hc
    rw [encs_length] at hc
    have hno : out.any (eqX x) = false := Bool.eq_false_iff.2 fun h => by
      obtain ⟨y, hy, hxy⟩ := List.any_eq_true.1 h
      obtain ⟨j, hj, rfl⟩ := List.mem_iff_getElem.1 hy
      rw [hall j hj (by omega)] at hxy; cases hxy
    have ha : addX out x = out ++ [x] := by unfold addX; rw [hno]; rfl
    rw [ha] at ho ⊢
    simp only [List.length_append, List.length_singleton] at ho
    refine ⟨tle (by simp; omega), tle (by simp; omega), ?_⟩
    rw [setL_all (by simp)]
    show Aft68 q (out ++ [x]) _ [(Ref.up q, [A.own 6 (encs out ++ encs [x]) []])]
    rw [encs_append]
    exact ⟨rfl, rfl⟩
theorem call68 {P : Program} {f : Nat} {args : List A} {B : List (Ref × List A)} {q : Ref} {out : List Rx} (hc : Holds P f args B (Aft68 q out)) {Q1 : A → List (Ref × List A) → Prop} {Q2 : Value → List (Ref × List A) → Prop} (h : Q1 (.tup []) [(.up q, [A.own 6 (encs out) []])]) :
    ∃ R' : Out → List (Ref × List A) → Prop, Holds P f args B R' ∧ (∀ v H', R' (.ret v) H' → Q1 v H') ∧ (∀ u H', R' (.pan u) H' → Q2 u H') :=
  ⟨_, hc, fun v' H' e => (by obtain ⟨e1, rfl⟩ := e; cases e1; exact h), fun u H' e => by cases e.1⟩
def nilX : Rx := mk0 0 []
def empX : Rx := mk0 1 []
def altF (x : Rx) : List Rx := if x.kind = 4 then x.subs else if x.kind = 0 then [] else [x]
def outA (ls : List Rx) : List Rx := (ls.flatMap altF).foldl addX []
def altX (ls : List Rx) : Rx := if outA ls = [] then nilX else joinX 4 (outA ls)
theorem addX_len (out : List Rx) (x : Rx) : out.length ≤ (addX out x).length := by
  unfold addX; split
  · exact Nat.le_refl _
  · simp
theorem foldl_len : ∀ (l out : List Rx), out.length ≤ (l.foldl addX out).length
  | [], out => Nat.le_refl _
  | x :: l, out => Nat.le_trans (addX_len out x) (foldl_len l _)
theorem take_snoc {α : Type} : ∀ (l : List α) (i : Nat) (h : i < l.length), l.take (i + 1) = l.take i ++ [l[i]]
  | x :: l, 0, _ => rfl
  | x :: l, i + 1, h => by
    show x :: l.take (i + 1) = _
    rw [take_snoc l i (by simpa using h)]; rfl
theorem outA_take {ls : List Rx} {i : Nat} (h : i < ls.length) : outA (ls.take (i + 1)) = (altF ls[i]).foldl addX (outA (ls.take i)) := by
  unfold outA
  rw [take_snoc _ _ h, List.flatMap_append, List.foldl_append, List.flatMap_cons, List.flatMap_nil, List.append_nil]
theorem outA_le {ls : List Rx} (i : Nat) : (outA (ls.take i)).length ≤ (outA ls).length := by
  have e : outA ls = ((ls.drop i).flatMap altF).foldl addX (outA (ls.take i)) := by
    unfold outA
    rw [← List.foldl_append, ← List.flatMap_append, List.take_append_drop]
  rw [e]
  exact foldl_len _ _
theorem foldl_take {l out : List Rx} {j : Nat} (h : j < l.length) : (l.take (j + 1)).foldl addX out = addX ((l.take j).foldl addX out) l[j] := by
  rw [take_snoc _ _ h, List.foldl_append]; rfl
theorem foldl_le {l out : List Rx} (j : Nat) : ((l.take j).foldl addX out).length ≤ (l.foldl addX out).length := by
  have e : l.foldl addX out = (l.drop j).foldl addX ((l.take j).foldl addX out) := by rw [← List.foldl_append, List.take_append_drop]
  rw [e]
  exact foldl_len _ _
theorem c57 (ls : List Rx) (hlen : ls.length ≤ 2 ^ 40) (hl : ∀ x ∈ ls, lens (2 ^ 40) x) (ho : (outA ls).length ≤ 2 ^ 40) : Holds Try.prog 57 [A.d (.slc (encs ls))] [] (Ret (encA (altX ls))) := by
  have hget : ∀ i (h : i < ls.length), lens (2 ^ 40) ls[i] := fun i h => hl _ (List.getElem_mem h)
  refine w57 (encs ls) ⟨fun x => ∃ i : Nat, x = i ∧ i ≤ ls.length ∧ outA (ls.take i) = [], fun x => ls.length - x.toNat, fun x _ _ _ _ _ _ _ o => ∃ i : Nat, x = i ∧ i ≤ ls.length ∧ o = encs (outA (ls.take i)), fun x _ _ _ _ _ _ _ _ => ls.length - x.toNat, ⟨0, rfl, Nat.zero_le _, rfl⟩, ?_, ?_, trivial⟩
  · rintro x ⟨i, rfl, hi, hout⟩
    refine ⟨fun hc => ?_, fun hc => ?_⟩
    · have hc := of_tlt hc
      rw [encs_length] at hc
      have hc1 : i < ls.length := by omega
      rw [gAt_encs rfl hc1]
      have htk := outA_take hc1
      rw [hout] at htk
      have hsl := (lens_iff.1 (hget i hc1)).1
      have hbig := outA_le (ls := ls) (i + 1)
      refine ⟨tle (by omega), teq6 _, by simp, fun hk => ?_, fun hk => ⟨fun h0 => fun ν => ?_, fun h0 => ?_⟩⟩
      · rw [enc0, dint_int] at hk
        have hk := of_teq hk
        have hF : altF ls[i] = ls[i].subs := by unfold altF; rw [if_pos hk]
        rw [hF] at htk
        rw [enc5, dlst_slc]
        refine ⟨rfl, True, ls[i].subs.length, fun x _ _ _ _ _ _ o => ∃ j : Nat, x = j ∧ j ≤ ls[i].subs.length ∧ o = encs ((ls[i].subs.take j).foldl addX []), fun x _ _ _ _ _ _ _ => ls[i].subs.length - x.toNat, trivial, fun _ => ⟨fun hp => ?_, fun hp => ?_⟩, ?_, trivial⟩
        · have hp := of_tlt hp
          rw [encs_length] at hp
          have hp1 : 0 < ls[i].subs.length := by omega
          rw [gAt_encs (x := 0) (i := 0) rfl hp1]
          refine ⟨teq6 _, fun ν => call68 (c68a _ _) ⟨_, rfl, rfl, ⟨1, rfl, hp1, ?_⟩, by simp; omega⟩⟩
          rw [foldl_take hp1]; rfl
        · have hp := of_flt hp
          rw [encs_length] at hp
          refine ⟨tle (by omega), tle (by omega), ⟨i + 1, rfl, hc1, ?_⟩, by simp only [Int.toNat_natCast]; omega⟩
          have : ls[i].subs = [] := List.length_eq_zero_iff.1 (by omega)
          rw [htk, this]; rfl
        · rintro x a b c d e f o ⟨j, rfl, hj, rfl⟩
          refine ⟨fun hp => ?_, fun hp => ?_⟩
          · have hp := of_tlt hp
            rw [encs_length] at hp
            have hp1 : j < ls[i].subs.length := by omega
            rw [gAt_encs rfl hp1]
            have hft := foldl_take (out := []) hp1
            have hfl := foldl_le (l := ls[i].subs) (out := []) (j + 1)
            refine ⟨tle (by omega), teq6 _, fun ν => call68 (c68b _ _ _ (lens_sub (hget i hc1) hp1) (by rw [← hft]; rw [htk] at hbig; omega)) ⟨_, rfl, rfl, tle (by omega), tle (by omega), ⟨j + 1, rfl, hp1, by rw [hft]⟩, by simp only [Int.toNat_natCast]; omega⟩⟩
          · have hp := of_flt hp
            rw [encs_length] at hp
            refine ⟨tle (by omega), tle (by omega), ⟨i + 1, rfl, hc1, ?_⟩, by simp only [Int.toNat_natCast]; omega⟩
            rw [htk, List.take_of_length_le (show ls[i].subs.length ≤ j by omega)]
      · rw [enc0, dint_int] at hk h0
        have hk := of_feq hk
        have h0 := nteq h0
        have hF : altF ls[i] = [ls[i]] := by unfold altF; rw [if_neg hk, if_neg h0]
        rw [hF] at htk
        exact call68 (c68a _ _) ⟨_, rfl, rfl, tle (by omega), tle (by omega), ⟨i + 1, rfl, hc1, by rw [htk]; rfl⟩, by simp only [Int.toNat_natCast]; omega⟩
      · rw [enc0, dint_int] at hk h0
        have hk := of_feq hk
        have h0 := nfeq h0
        have hF : altF ls[i] = [] := by unfold altF; rw [if_neg hk, if_pos h0]
        rw [hF] at htk
        exact ⟨tle (by omega), tle (by omega), ⟨i + 1, rfl, hc1, htk⟩, by simp only [Int.toNat_natCast]; omega⟩
    · have hc := of_flt hc
      rw [encs_length] at hc
      rw [List.take_of_length_le (by omega)] at hout
      have : altX ls = nilX := by unfold altX; rw [if_pos hout]
      rw [this]
      exact ⟨rfl, rfl⟩
  · rintro x z1 a0 b0 c0 d0 e0 f0 o0 ⟨i, rfl, hi, rfl⟩
    refine ⟨fun hc => ?_, fun hc => ?_⟩
    · have hc := of_tlt hc
      rw [encs_length] at hc
      have hc1 : i < ls.length := by omega
      rw [gAt_encs rfl hc1]
      have htk := outA_take hc1
      have hsl := (lens_iff.1 (hget i hc1)).1
      have hbig := outA_le (ls := ls) (i + 1)
      refine ⟨tle (by omega), teq6 _, by simp, fun hk => ?_, fun hk => ⟨fun h0 => fun ν => ?_, fun h0 => ?_⟩⟩
      · rw [enc0, dint_int] at hk
        have hk := of_teq hk
        have hF : altF ls[i] = ls[i].subs := by unfold altF; rw [if_pos hk]
        rw [hF] at htk
        rw [enc5, dlst_slc]
        refine ⟨rfl, fun x o => ∃ j : Nat, x = j ∧ j ≤ ls[i].subs.length ∧ o = encs ((ls[i].subs.take j).foldl addX (outA (ls.take i))), fun x _ => ls[i].subs.length - x.toNat, ⟨0, rfl, Nat.zero_le _, rfl⟩, ?_, trivial⟩
        rintro x o ⟨j, rfl, hj, rfl⟩
        refine ⟨fun hp => ?_, fun hp => ?_⟩
        · have hp := of_tlt hp
          rw [encs_length] at hp
          have hp1 : j < ls[i].subs.length := by omega
          rw [gAt_encs rfl hp1]
          have hft := foldl_take (out := outA (ls.take i)) hp1
          have hfl := foldl_le (l := ls[i].subs) (out := outA (ls.take i)) (j + 1)
          refine ⟨tle (by omega), teq6 _, fun ν => call68 (c68b _ _ _ (lens_sub (hget i hc1) hp1) (by rw [← hft]; rw [htk] at hbig; omega)) ⟨_, rfl, rfl, tle (by omega), tle (by omega), ⟨j + 1, rfl, hp1, by rw [hft]⟩, by simp only [Int.toNat_natCast]; omega⟩⟩
        · have hp := of_flt hp
          rw [encs_length] at hp
          refine ⟨tle (by omega), tle (by omega), ⟨i + 1, rfl, hc1, ?_⟩, by simp only [Int.toNat_natCast]; omega⟩
          rw [htk, List.take_of_length_le (show ls[i].subs.length ≤ j by omega)]
      · rw [enc0, dint_int] at hk h0
        have hk := of_feq hk
        have h0 := nteq h0
        have hF : altF ls[i] = [ls[i]] := by unfold altF; rw [if_neg hk, if_neg h0]
        rw [hF] at htk
        have e9 : addX (outA (ls.take i)) ls[i] = outA (ls.take (i + 1)) := by rw [htk]; rfl
        exact call68 (c68b _ _ _ (hget i hc1) (by rw [e9]; omega)) ⟨_, rfl, rfl, tle (by omega), tle (by omega), ⟨i + 1, rfl, hc1, by rw [e9]⟩, by simp only [Int.toNat_natCast]; omega⟩
      · rw [enc0, dint_int] at hk h0
        have hk := of_feq hk
        have h0 := nfeq h0
        have hF : altF ls[i] = [] := by unfold altF; rw [if_neg hk, if_pos h0]
        rw [hF] at htk
        exact ⟨tle (by omega), tle (by omega), ⟨i + 1, rfl, hc1, by rw [htk]; rfl⟩, by simp only [Int.toNat_natCast]; omega⟩
    · have hc := of_flt hc
      rw [encs_length] at hc
      rw [List.take_of_length_le (show ls.length ≤ i by omega)]
      refine ⟨fun hz => ?_, fun hz => ?_⟩
      · have hz := of_teq hz
        rw [encs_length] at hz
        have h0 : outA ls = [] := List.length_eq_zero_iff.1 (by omega)
        have : altX ls = nilX := by unfold altX; rw [if_pos h0]
        rw [this]
        exact ⟨rfl, rfl⟩
      · have hz := of_feq hz
        rw [encs_length] at hz
        have h0 : outA ls ≠ [] := fun h => hz (by rw [h]; rfl)
        have : altX ls = joinX 4 (outA ls) := by unfold altX; rw [if_neg h0]
        rw [this]
        exact call1 (c50 4 _) ⟨_, rfl, rfl, teq6 _, rfl, rfl⟩
def catF (x : Rx) : List Rx := if x.kind = 3 then x.subs else if x.kind = 1 then [] else [x]
def outC (ls : List Rx) : List Rx := ls.flatMap catF
def catX (ls : List Rx) : Rx := if ls.any (fun x => x.kind == 0) then nilX else if outC ls = [] then empX else joinX 3 (outC ls)
theorem outC_take {ls : List Rx} {i : Nat} (h : i < ls.length) : outC (ls.take (i + 1)) = outC (ls.take i) ++ catF ls[i] := by
  unfold outC
  rw [take_snoc _ _ h, List.flatMap_append, List.flatMap_cons, List.flatMap_nil, List.append_nil]
theorem outC_le {ls : List Rx} (i : Nat) : (outC (ls.take i)).length ≤ (outC ls).length := by
  have e : outC ls = outC (ls.take i) ++ outC (ls.drop i) := by
    unfold outC
    rw [← List.flatMap_append, List.take_append_drop]
  rw [e]; simp
theorem flatE (l : List Rx) : flatB 6 (encs l) = true := by
  unfold flatB
  rw [List.all_eq_true]
  intro z hz
  obtain ⟨j, hj, rfl⟩ := List.mem_iff_getElem.1 hz
  have hj' : j < l.length := by simpa using hj
  have := encs_get l j
  rw [List.getElem?_eq_getElem hj, List.getElem?_eq_getElem hj'] at this
  simp only [Option.map_some, Option.some.injEq] at this
  rw [this]; simp
theorem c56 (ls : List Rx) (hlen : ls.length ≤ 2 ^ 40) (ho : (outC ls).length ≤ 2 ^ 40) : Holds Try.prog 56 [A.d (.slc (encs ls))] [] (Ret (encA (catX ls))) := by
  have none : ∀ i (h : i < ls.length), ls[i].kind = 0 → Ret (encA (catX ls)) (.ret (encA nilX)) [] := fun i h hk => by
    have : catX ls = nilX := by unfold catX; rw [if_pos (List.any_eq_true.2 ⟨_, List.getElem_mem h, by simpa using hk⟩)]
    rw [this]; exact ⟨rfl, rfl⟩
  have hany : (∀ j (h : j < ls.length), ls[j].kind ≠ 0) → ls.any (fun x => x.kind == 0) = false := fun h => Bool.eq_false_iff.2 fun ht => by
    obtain ⟨x, hx, h0⟩ := List.any_eq_true.1 ht
    obtain ⟨j, hj, rfl⟩ := List.mem_iff_getElem.1 hx
    exact h j hj (by simpa using h0)
  refine w56 (encs ls) ⟨fun x => ∃ i : Nat, x = i ∧ i ≤ ls.length ∧ outC (ls.take i) = [] ∧ ∀ j (hj : j < ls.length), j < i → ls[j].kind ≠ 0, fun x => ls.length - x.toNat, fun o x _ _ _ _ _ _ _ _ => ∃ i : Nat, x = i ∧ i ≤ ls.length ∧ o = encs (outC (ls.take i)) ∧ ∀ j (hj : j < ls.length), j < i → ls[j].kind ≠ 0, fun _ x _ _ _ _ _ _ _ _ => ls.length - x.toNat, ⟨0, rfl, Nat.zero_le _, rfl, fun j _ hj => absurd hj (Nat.not_lt_zero _)⟩, ?_, ?_, trivial⟩
  · rintro x ⟨i, rfl, hi, hout, hall⟩
    refine ⟨fun hc => ?_, fun hc => ?_⟩
    · have hc := of_tlt hc
      rw [encs_length] at hc
      have hc1 : i < ls.length := by omega
      rw [gAt_encs rfl hc1]
      have htk := outC_take hc1
      rw [hout, List.nil_append] at htk
      have hbig := outC_le (ls := ls) (i + 1)
      rw [htk] at hbig
      have nz : ls[i].kind ≠ 0 → ∀ j (hj : j < ls.length), j < i + 1 → ls[j].kind ≠ 0 := fun h j hj hji => by
        by_cases e : j = i
        · subst e; exact h
        · exact hall j hj (by omega)
      refine ⟨tle (by omega), teq6 _, by simp, fun h0 => ?_, fun h0 => ⟨fun h3 => ?_, fun h3 => ⟨fun h1 => ?_, fun h1 => ?_⟩⟩⟩
      · rw [enc0, dint_int] at h0
        exact none i hc1 (of_teq h0)
      · rw [enc0, dint_int] at h0 h3
        have h0 := of_feq h0
        have h3 := of_teq h3
        have hF : catF ls[i] = ls[i].subs := by unfold catF; rw [if_pos h3]
        rw [hF] at htk hbig
        rw [enc5, dlst_slc]
        refine ⟨rfl, flatE _, tle (by simp; omega), tle (by simp; omega), fun hz => ?_, fun hz => ?_⟩
        · have hz := of_teq hz
          rw [encs_length] at hz
          exact ⟨tle (by omega), tle (by omega), ⟨i + 1, rfl, hc1, by rw [htk]; exact List.length_eq_zero_iff.1 (by omega), nz h0⟩, by simp only [Int.toNat_natCast]; omega⟩
        · exact ⟨tle (by omega), tle (by omega), ⟨i + 1, rfl, hc1, by rw [htk]; rfl, nz h0⟩, by simp only [Int.toNat_natCast]; omega⟩
      · rw [enc0, dint_int] at h0 h3 h1
        have h0 := of_feq h0
        have h3 := of_feq h3
        have h1 := of_teq h1
        have hF : catF ls[i] = [] := by unfold catF; rw [if_neg h3, if_pos h1]
        rw [hF] at htk
        exact ⟨tle (by omega), tle (by omega), ⟨i + 1, rfl, hc1, htk, nz h0⟩, by simp only [Int.toNat_natCast]; omega⟩
      · rw [enc0, dint_int] at h0 h3 h1
        have h0 := of_feq h0
        have h3 := of_feq h3
        have h1 := of_feq h1
        have hF : catF ls[i] = [ls[i]] := by unfold catF; rw [if_neg h3, if_neg h1]
        rw [hF] at htk
        exact ⟨flat1 _, tle (by simp), tle (by simp), tle (by omega), tle (by omega), ⟨i + 1, rfl, hc1, by rw [htk]; rfl, nz h0⟩, by simp only [Int.toNat_natCast]; omega⟩
    · have hc := of_flt hc
      rw [encs_length] at hc
      rw [List.take_of_length_le (show ls.length ≤ i by omega)] at hout
      have : catX ls = empX := by
        unfold catX
        rw [hany fun j hj => hall j hj (by omega), if_neg (by simp), if_pos hout]
      rw [this]; exact ⟨rfl, rfl⟩
  · rintro o x k z a0 b0 c0 d0 e0 f0 ⟨i, rfl, hi, rfl, hall⟩
    refine ⟨fun hc => ?_, fun hc => ?_⟩
    · have hc := of_tlt hc
      rw [encs_length] at hc
      have hc1 : i < ls.length := by omega
      rw [gAt_encs rfl hc1]
      have htk := outC_take hc1
      have hbig := outC_le (ls := ls) (i + 1)
      rw [htk, List.length_append] at hbig
      have nz : ls[i].kind ≠ 0 → ∀ j (hj : j < ls.length), j < i + 1 → ls[j].kind ≠ 0 := fun h j hj hji => by
        by_cases e : j = i
        · subst e; exact h
        · exact hall j hj (by omega)
      refine ⟨tle (by omega), teq6 _, by simp, fun h0 => ?_, fun h0 => ⟨fun h3 => ?_, fun h3 => ⟨fun h1 => ?_, fun h1 => ?_⟩⟩⟩
      · rw [enc0, dint_int] at h0
        exact none i hc1 (of_teq h0)
      · rw [enc0, dint_int] at h0 h3
        have h0 := of_feq h0
        have h3 := of_teq h3
        have hF : catF ls[i] = ls[i].subs := by unfold catF; rw [if_pos h3]
        rw [hF] at htk hbig
        rw [enc5, dlst_slc]
        exact ⟨rfl, flatE _, tle (by simp; omega), tle (by simp; omega), tle (by omega), tle (by omega), ⟨i + 1, rfl, hc1, by rw [htk, ← encs_append], nz h0⟩, by simp only [Int.toNat_natCast]; omega⟩
      · rw [enc0, dint_int] at h0 h3 h1
        have h0 := of_feq h0
        have h3 := of_feq h3
        have h1 := of_teq h1
        have hF : catF ls[i] = [] := by unfold catF; rw [if_neg h3, if_pos h1]
        rw [hF, List.append_nil] at htk
        exact ⟨tle (by omega), tle (by omega), ⟨i + 1, rfl, hc1, by rw [htk], nz h0⟩, by simp only [Int.toNat_natCast]; omega⟩
      · rw [enc0, dint_int] at h0 h3 h1
        have h0 := of_feq h0
        have h3 := of_feq h3
        have h1 := of_feq h1
        have hF : catF ls[i] = [ls[i]] := by unfold catF; rw [if_neg h3, if_neg h1]
        rw [hF] at htk hbig
        simp only [List.length_singleton] at hbig
        refine ⟨flat1 _, tle (by simp; omega), tle (by simp; omega), tle (by omega), tle (by omega), ⟨i + 1, rfl, hc1, ?_, nz h0⟩, by simp only [Int.toNat_natCast]; omega⟩
        rw [htk, ← encs_append]; rfl
    · have hc := of_flt hc
      rw [encs_length] at hc
      have e : catX ls = if outC ls = [] then empX else joinX 3 (outC ls) := by
        unfold catX
        rw [hany fun j hj => hall j hj (by omega), if_neg (by simp)]
      rw [List.take_of_length_le (show ls.length ≤ i by omega), e]
      refine ⟨fun hz => ?_, fun hz => ?_⟩
      · have hz := of_teq hz
        rw [encs_length] at hz
        rw [if_pos (List.length_eq_zero_iff.1 (by omega))]
        exact ⟨rfl, rfl⟩
      · have hz := of_feq hz
        rw [encs_length] at hz
        rw [if_neg (fun h => hz (by rw [h]; rfl))]
        exact call1 (c50 3 _) ⟨_, rfl, rfl, teq6 _, rfl, rfl⟩
end Go.Rx
end
section
open Go Go.Proofs Go.Ab Go.Rf
set_option maxRecDepth 100000
namespace Go.Rx
mutual
def allX (p : Rx → Prop) : Rx → Prop
  | .mk k a b c d l => p (.mk k a b c d l) ∧ allXs p l
def allXs (p : Rx → Prop) : List Rx → Prop
  | [] => True
  | r :: l => allX p r ∧ allXs p l
end
theorem allXs_iff {p : Rx → Prop} : ∀ {l : List Rx}, allXs p l ↔ ∀ r ∈ l, allX p r
  | [] => by simp [allXs]
  | r :: l => by simp [allXs, allXs_iff (l := l)]
theorem allX_iff {p : Rx → Prop} {r : Rx} : allX p r ↔ p r ∧ ∀ x ∈ r.subs, allX p x := by
  cases r with | mk k a b c d l => simp [allX, Rx.subs, allXs_iff]
def hasX (r : Rx) (b : Nat) : Bool := (r.w (b / 64)).toNat.testBit (b % 64)
def nodeOk (r : Rx) : Prop := nodeErr r = 0 ∧ ∀ i < 4, 0 ≤ r.w i ∧ r.w i < 2 ^ 64
theorem row_words (r : Rx) (h : ∀ i < 4, 0 ≤ r.w i ∧ r.w i < 2 ^ 64) : [(D.lit (.int .u64 (r.w 0))), D.lit (.int .u64 (r.w 1)), D.lit (.int .u64 (r.w 2)), D.lit (.int .u64 (r.w 3))] = row4 (hasX r) := by
  have key : ∀ k, k < 4 → ((wd (hasX r) k : Nat) : Int) = r.w k := fun k hk => by
    have hw := h k hk
    have : wd (hasX r) k = (r.w k).toNat := wd_eq (by omega) fun j hj => by
      unfold hasX
      rw [show (64 * k + j) / 64 = k by omega, show (64 * k + j) % 64 = j by omega]
    rw [this]; omega
  unfold row4
  rw [key 0 (by decide), key 1 (by decide), key 2 (by decide), key 3 (by decide)]
theorem c55w (r : Rx) (b : Nat) (hb : b < 256) (h : ∀ i < 4, 0 ≤ r.w i ∧ r.w i < 2 ^ 64) : Holds Try.prog 55 [A.agg [(D.lit (.int .u64 (r.w 0))), D.lit (.int .u64 (r.w 1)), D.lit (.int .u64 (r.w 2)), D.lit (.int .u64 (r.w 3))], A.d (.lit (.int .u8 b))] [] (Ret (.d (.lit (.bool (hasX r b))))) := by
  rw [row_words r h]; exact c55 (hasX r) b hb
def hdX (r : Rx) : Rx := r.subs.headD nilX
def der (b : Nat) : Nat → Rx → Rx
  | 0, _ => nilX
  | n + 1, r =>
    if r.kind = 2 then (if hasX r b then empX else nilX)
    else if r.kind = 5 then catX [der b n (hdX r), r]
    else if r.kind = 4 then altX (r.subs.map (der b n))
    else if r.kind = 3 then (if null (hdX r) then altX [catX [der b n (hdX r), catX r.subs.tail], der b n (catX r.subs.tail)] else catX [der b n (hdX r), catX r.subs.tail])
    else nilX
def B40 : Nat := 2 ^ 40
def catOk (ls : List Rx) : Bool := Nat.ble (outC ls).length B40
def altOk (ls : List Rx) : Bool := Nat.ble (outA ls).length B40
def derOk (b : Nat) : Nat → Rx → Bool
  | 0, _ => true
  | n + 1, r =>
    if r.kind = 5 then derOk b n (hdX r) && catOk [der b n (hdX r), r]
    else if r.kind = 4 then r.subs.all (derOk b n) && altOk (r.subs.map (der b n))
    else if r.kind = 3 then derOk b n (hdX r) && (catOk r.subs.tail && (catOk [der b n (hdX r), catX r.subs.tail] && (!null (hdX r) || (derOk b n (catX r.subs.tail) && altOk [catX [der b n (hdX r), catX r.subs.tail], der b n (catX r.subs.tail)]))))
    else true
theorem catOk_iff {ls : List Rx} : catOk ls = true ↔ (outC ls).length ≤ 2 ^ 40 := by unfold catOk; rw [Nat.ble_eq]; rfl
theorem altOk_iff {ls : List Rx} : altOk ls = true ↔ (outA ls).length ≤ 2 ^ 40 := by unfold altOk; rw [Nat.ble_eq]; rfl
theorem sizes_append : ∀ (l m : List Rx), sizes (l ++ m) = sizes l + sizes m
  | [], m => by simp [sizes]
  | r :: l, m => by simp only [List.cons_append, sizes, sizes_append l m]; omega
theorem sizes_catF (x : Rx) : sizes (catF x) ≤ size x := by
  unfold catF
  split
  · have := size_eq x; omega
  · split
    · simp [sizes]
    · simp [sizes]
theorem sizes_outC : ∀ ls : List Rx, sizes (outC ls) ≤ sizes ls
  | [] => by simp [outC, sizes]
  | x :: l => by
    have h1 := sizes_outC l
    have h2 := sizes_catF x
    unfold outC at h1 ⊢
    rw [List.flatMap_cons, sizes_append]
    simp only [sizes]; omega
theorem size_joinX (k : Int) (l : List Rx) : size (joinX k l) ≤ 1 + sizes l := by
  unfold joinX
  split
  · simp [sizes]
  · simp [mk0, size]
theorem size_catX (ls : List Rx) : size (catX ls) ≤ 1 + sizes ls := by
  unfold catX
  split
  · show 1 + 0 ≤ _; omega
  · split
    · show 1 + 0 ≤ _; omega
    · have := size_joinX 3 (outC ls); have := sizes_outC ls; omega
theorem size_hd {r : Rx} (h : r.subs ≠ []) : size (hdX r) + sizes r.subs.tail + 1 = size r := by
  cases r with | mk k a b c d l =>
    cases l with
    | nil => exact absurd rfl h
    | cons x l => simp [hdX, Rx.subs, size, sizes]; omega
theorem all_joinX {p : Rx → Prop} {k : Int} {l : List Rx} (hk : l.length ≠ 1 → p (mk0 k l)) (h : ∀ x ∈ l, allX p x) : allX p (joinX k l) := by
  unfold joinX
  split
  · exact h _ (by simp)
  · rename_i hne
    exact allX_iff.2 ⟨hk (fun e => by
      match l, e with
      | [r], _ => exact hne r rfl), h⟩
theorem mem_catF {p : Rx → Prop} {x y : Rx} (h : allX p x) (hy : y ∈ catF x) : allX p y := by
  unfold catF at hy
  split at hy
  · exact (allX_iff.1 h).2 y hy
  · split at hy
    · cases hy
    · rw [List.mem_singleton.1 hy]; exact h
theorem mem_altF {p : Rx → Prop} {x y : Rx} (h : allX p x) (hy : y ∈ altF x) : allX p y := by
  unfold altF at hy
  split at hy
  · exact (allX_iff.1 h).2 y hy
  · split at hy
    · cases hy
    · rw [List.mem_singleton.1 hy]; exact h
theorem mem_foldl {l out : List Rx} {y : Rx} (h : y ∈ l.foldl addX out) : y ∈ out ∨ y ∈ l := by
  induction l generalizing out with
  | nil => exact .inl h
  | cons x l ih =>
    rcases ih h with h1 | h1
    · unfold addX at h1
      split at h1
      · exact .inl h1
      · rcases List.mem_append.1 h1 with h1 | h1
        · exact .inl h1
        · rw [List.mem_singleton.1 h1]; exact .inr (List.mem_cons_self ..)
    · exact .inr (List.mem_cons_of_mem _ h1)
theorem mem_outA {ls : List Rx} {y : Rx} (h : y ∈ outA ls) : ∃ x ∈ ls, y ∈ altF x := by
  rcases mem_foldl h with h | h
  · cases h
  · exact List.mem_flatMap.1 h
theorem mem_outC {ls : List Rx} {y : Rx} (h : y ∈ outC ls) : ∃ x ∈ ls, y ∈ catF x := List.mem_flatMap.1 h
structure Closed (p : Rx → Prop) : Prop where
  nil : p nilX
  emp : p empX
  cat : ∀ l : List Rx, 2 ≤ l.length → l.length ≤ 2 ^ 40 → p (mk0 3 l)
  alt : ∀ l : List Rx, 2 ≤ l.length → l.length ≤ 2 ^ 40 → p (mk0 4 l)
section
variable {p : Rx → Prop} (hp : Closed p)
include hp
theorem Closed.nilX : allX p nilX := allX_iff.2 ⟨hp.nil, fun _ h => by cases h⟩
theorem Closed.empX : allX p empX := allX_iff.2 ⟨hp.emp, fun _ h => by cases h⟩
theorem Closed.catX {ls : List Rx} (h : ∀ x ∈ ls, allX p x) (ho : (outC ls).length ≤ 2 ^ 40) : allX p (catX ls) := by
  unfold Rx.catX
  split
  · exact hp.nilX
  · split
    · exact hp.empX
    · rename_i hne
      refine all_joinX (fun h1 => hp.cat _ ?_ ho) fun x hx => ?_
      · have : 0 < (outC ls).length := List.length_pos_iff.2 hne
        omega
      · obtain ⟨y, hy, hxy⟩ := mem_outC hx
        exact mem_catF (h y hy) hxy
theorem Closed.altX {ls : List Rx} (h : ∀ x ∈ ls, allX p x) (ho : (outA ls).length ≤ 2 ^ 40) : allX p (altX ls) := by
  unfold Rx.altX
  split
  · exact hp.nilX
  · rename_i hne
    refine all_joinX (fun h1 => hp.alt _ ?_ ho) fun x hx => ?_
    · have : 0 < (outA ls).length := List.length_pos_iff.2 hne
      omega
    · obtain ⟨y, hy, hxy⟩ := mem_outA hx
      exact mem_altF (h y hy) hxy
theorem Closed.hdX {r : Rx} (h : allX p r) : allX p (hdX r) := by
  unfold Rx.hdX
  cases hl : r.subs with
  | nil => exact hp.nilX
  | cons x l => exact (allX_iff.1 h).2 x (by rw [hl]; exact List.mem_cons_self ..)
theorem Closed.der (b : Nat) : ∀ (n : Nat) (r : Rx), allX p r → derOk b n r = true → allX p (der b n r)
  | 0, r, _, _ => hp.nilX
  | n + 1, r, h, ho => by
    unfold derOk at ho
    unfold Rx.der
    have hh := hp.hdX h
    split
    · split
      · exact hp.empX
      · exact hp.nilX
    · split
      · rename_i h5
        rw [if_pos h5, Bool.and_eq_true, catOk_iff] at ho
        have := Closed.der b n _ hh ho.1
        exact hp.catX (fun x hx => by
          rcases List.mem_cons.1 hx with rfl | hx
          · exact this
          · rw [List.mem_singleton.1 hx]; exact h) ho.2
      · rename_i h5
        rw [if_neg h5] at ho
        split
        · rename_i h4
          rw [if_pos h4, Bool.and_eq_true, altOk_iff] at ho
          refine hp.altX (fun x hx => ?_) ho.2
          obtain ⟨y, hy, rfl⟩ := List.mem_map.1 hx
          exact Closed.der b n y ((allX_iff.1 h).2 y hy) (List.all_eq_true.1 ho.1 y hy)
        · rename_i h4
          rw [if_neg h4] at ho
          split
          · rename_i h3
            rw [if_pos h3] at ho
            simp only [Bool.and_eq_true, catOk_iff, Bool.or_eq_true, Bool.not_eq_true', altOk_iff] at ho
            obtain ⟨o1, o2, o3, o4⟩ := ho
            have hrest : allX p (Rx.catX r.subs.tail) := hp.catX (fun x hx => (allX_iff.1 h).2 x (List.mem_of_mem_tail hx)) o2
            have hfirst : allX p (Rx.catX [Rx.der b n (Rx.hdX r), Rx.catX r.subs.tail]) := hp.catX (fun x hx => by
              rcases List.mem_cons.1 hx with rfl | hx
              · exact Closed.der b n _ hh o1
              · rw [List.mem_singleton.1 hx]; exact hrest) o3
            split
            · rename_i hn
              rcases o4 with o4 | ⟨o4, o5⟩
              · rw [hn] at o4; cases o4
              · refine hp.altX (fun x hx => ?_) o5
                rcases List.mem_cons.1 hx with rfl | hx
                · exact hfirst
                · rw [List.mem_singleton.1 hx]; exact Closed.der b n _ hrest o4
            · exact hfirst
          · exact hp.nilX
end
theorem closed_node : Closed nodeOk := by
  have hw : ∀ (k : Int) (l : List Rx), ∀ i < 4, 0 ≤ (mk0 k l).w i ∧ (mk0 k l).w i < 2 ^ 64 := fun k l i hi => by
    rcases (show i = 0 ∨ i = 1 ∨ i = 2 ∨ i = 3 by omega) with rfl | rfl | rfl | rfl <;> exact ⟨Int.le_refl _, (by decide : (0 : Int) < 2 ^ 64)⟩
  refine ⟨⟨rfl, hw _ _⟩, ⟨rfl, hw _ _⟩, fun l h _ => ⟨?_, hw _ _⟩, fun l h _ => ⟨?_, hw _ _⟩⟩
  · simp [nodeErr, mk0, Rx.kind, Rx.w, Rx.subs]; omega
  · simp [nodeErr, mk0, Rx.kind, Rx.w, Rx.subs]; omega
def lenOk (r : Rx) : Prop := r.subs.length ≤ 2 ^ 40
theorem closed_len : Closed lenOk := ⟨Nat.zero_le _, Nat.zero_le _, fun l _ h => h, fun l _ h => h⟩
theorem lens_all : ∀ (n : Nat) (r : Rx), size r ≤ n → (lens (2 ^ 40) r ↔ allX lenOk r)
  | 0, r, h => by have := size_pos r; omega
  | n + 1, r, h => by
    rw [lens_iff, allX_iff]
    refine and_congr Iff.rfl (forall_congr' fun x => ?_)
    refine ⟨fun h1 hx => ?_, fun h1 hx => ?_⟩
    · obtain ⟨i, hi, rfl⟩ := List.mem_iff_getElem.1 hx
      exact (lens_all n _ (by have := size_sub hi; omega)).1 (h1 hx)
    · obtain ⟨i, hi, rfl⟩ := List.mem_iff_getElem.1 hx
      exact (lens_all n _ (by have := size_sub hi; omega)).2 (h1 hx)
theorem lens_iff_all (r : Rx) : lens (2 ^ 40) r ↔ allX lenOk r := lens_all _ r (Nat.le_refl _)
theorem der_lens {b n : Nat} {r : Rx} (h : lens (2 ^ 40) r) (ho : derOk b n r = true) : lens (2 ^ 40) (der b n r) := (lens_iff_all _).2 (closed_len.der b n r ((lens_iff_all _).1 h) ho)
theorem catX_lens {ls : List Rx} (h : ∀ x ∈ ls, lens (2 ^ 40) x) (ho : (outC ls).length ≤ 2 ^ 40) : lens (2 ^ 40) (catX ls) := (lens_iff_all _).2 (closed_len.catX (fun x hx => (lens_iff_all _).1 (h x hx)) ho)
theorem node_kinds {r : Rx} (h : nodeErr r = 0) : 0 ≤ r.kind ∧ r.kind ≤ 5 ∧ ((r.kind = 3 ∨ r.kind = 4) → 2 ≤ r.subs.length) ∧ (r.kind = 5 → r.subs.length = 1) ∧ (r.kind < 3 → r.subs = []) := by
  unfold nodeErr at h
  split at h
  · omega
  · rename_i h1
    split at h
    · split at h
      · omega
      · refine ⟨by omega, by omega, fun _ => by omega, fun _ => by omega, fun _ => by omega⟩
    · split at h
      · split at h
        · omega
        · refine ⟨by omega, by omega, fun _ => by omega, fun _ => by omega, fun _ => by omega⟩
      · split at h
        · omega
        · refine ⟨by omega, by omega, fun _ => by omega, fun _ => by omega, fun _ => List.length_eq_zero_iff.1 (by omega)⟩
theorem hdX_get {r : Rx} (h : 0 < r.subs.length) : hdX r = r.subs[0] := by
  unfold hdX
  generalize r.subs = l at h
  cases l with
  | nil => cases h
  | cons x l => rfl
theorem encs_tail : ∀ l : List Rx, gSub (encs l) 1 (l.length : Int) = encs l.tail := fun l => by
  unfold gSub
  rw [List.take_of_length_le (by simp)]
  cases l with
  | nil => rfl
  | cons x l => rfl
theorem c41 : ∀ (n : Nat) (b : Nat) (r : Rx), b < 256 → size r ≤ n → allX nodeOk r → lens (2 ^ 40) r → derOk b n r = true → Holds Try.prog 41 [A.agg (enc r), A.d (.lit (.int .u8 b))] [] (Ret (encA (der b n r))) := by
  intro n
  induction n with
  | zero => intro b r _ h; have := size_pos r; omega
  | succ n ih =>
    intro b r hb hs hno hl ho
    have hnode := (allX_iff.1 hno).1
    have hkinds := node_kinds hnode.1
    have hll := (lens_iff.1 hl).1
    unfold derOk at ho
    refine w41 (enc r) b ⟨teq6 r, by simp, fun h2 => ?_, fun h2 => ⟨fun h5 => ?_, fun h5 => ⟨fun h4 => ?_, fun h4 => ⟨fun h3 => ?_, fun h3 => ?_⟩⟩⟩⟩
    · rw [enc0, dint_int] at h2
      have h2 := of_teq h2
      rw [enc1, enc2, enc3, enc4]
      refine call1 (c55w r b hb hnode.2) ⟨_, rfl, rfl, fun h => ?_, fun h => ?_⟩
      · have : der b (n + 1) r = empX := by unfold der; rw [if_pos h2, h]; rfl
        rw [this]; exact ⟨rfl, rfl⟩
      · have : der b (n + 1) r = nilX := by unfold der; rw [if_pos h2, h]; rfl
        rw [this]; exact ⟨rfl, rfl⟩
    · rw [enc0, dint_int] at h2 h5
      have h2 := of_feq h2
      have h5 := of_teq h5
      rw [if_pos h5, Bool.and_eq_true, catOk_iff] at ho
      have h1 : 0 < r.subs.length := by have := hkinds.2.2.2.1 h5; omega
      have hsub := size_sub h1
      rw [enc5, dlst_slc, gAt_encs (x := 0) (i := 0) rfl h1, ← hdX_get h1]
      have hx := ih b (hdX r) hb (by rw [hdX_get h1]; omega) (closed_node.hdX hno) (by rw [hdX_get h1]; exact lens_sub hl h1) ho.1
      refine ⟨by simp, tlt (by simp; omega), teq6 _, _, fun _ => hx, teq6 _, ?_⟩
      rw [show [enc (der b n (hdX r)), enc r] = encs [der b n (hdX r), r] from rfl]
      have : der b (n + 1) r = catX [der b n (hdX r), r] := by
        conv => lhs; unfold der
        rw [if_neg h2, if_pos h5]
      rw [this]
      exact call1 (c56 _ (by simp) ho.2) ⟨_, rfl, rfl, teq6 _, rfl, rfl⟩
    · rw [enc0, dint_int] at h2 h5 h4
      have h2 := of_feq h2
      have h5 := of_feq h5
      have h4 := of_teq h4
      rw [if_neg h5, if_pos h4, Bool.and_eq_true, altOk_iff] at ho
      have h1 : 0 < r.subs.length := by have := hkinds.2.2.1 (.inr h4); omega
      have hder : der b (n + 1) r = altX (r.subs.map (der b n)) := by
        conv => lhs; unfold der
        rw [if_neg h2, if_neg h5, if_pos h4]
      have hcall : ∀ i (h : i < r.subs.length), Holds Try.prog 41 [A.agg (enc r.subs[i]), A.d (.lit (.int .u8 b))] [] (Ret (encA (der b n r.subs[i]))) := fun i h =>
        ih b _ hb (by have := size_sub h; omega) ((allX_iff.1 hno).2 _ (List.getElem_mem h)) (lens_sub hl h) (List.all_eq_true.1 ho.1 _ (List.getElem_mem h))
      have hfin : Holds Try.prog 57 [A.d (.slc (encs (r.subs.map (der b n))))] [] (Ret (encA (altX (r.subs.map (der b n))))) := c57 _ (by simpa using hll) (fun x hx => by
        obtain ⟨y, hy, rfl⟩ := List.mem_map.1 hx
        exact der_lens ((lens_iff.1 hl).2 y hy) (List.all_eq_true.1 ho.1 y hy)) ho.2
      rw [hder, enc5, dlst_slc]
      refine ⟨rfl, True, r.subs.length, fun o x _ _ _ _ _ _ => ∃ i : Nat, x = i ∧ i ≤ r.subs.length ∧ o = encs ((r.subs.take i).map (der b n)), fun _ x _ _ _ _ _ _ => r.subs.length - x.toNat, trivial, fun _ => ⟨fun hp => ?_, fun hp => ?_⟩, ?_, trivial⟩
      · rw [gAt_encs (x := 0) (i := 0) rfl h1]
        refine ⟨teq6 _, call1 (hcall 0 h1) ⟨_, rfl, rfl, teq6 _, flat1 _, tle (by simp), tle (by simp), ⟨1, rfl, h1, ?_⟩, by simp; omega⟩⟩
        rw [take_snoc _ _ h1]; rfl
      · have hp := of_flt hp
        rw [encs_length] at hp
        omega
      · rintro o x _ _ _ _ _ _ ⟨i, rfl, hi, rfl⟩
        refine ⟨fun hp => ?_, fun hp => ?_⟩
        · have hp := of_tlt hp
          rw [encs_length] at hp
          have hp1 : i < r.subs.length := by omega
          rw [gAt_encs rfl hp1]
          refine ⟨tle (by omega), teq6 _, call1 (hcall i hp1) ⟨_, rfl, rfl, teq6 _, flat1 _, tle (by simp; omega), tle (by simp; omega), tle (by omega), tle (by omega), ⟨i + 1, rfl, hp1, ?_⟩, by simp only [Int.toNat_natCast]; omega⟩⟩
          rw [take_snoc _ _ hp1, List.map_append, ← encs_append]; rfl
        · have hp := of_flt hp
          rw [encs_length] at hp
          rw [List.take_of_length_le (show r.subs.length ≤ i by omega)]
          exact call1 hfin ⟨_, rfl, rfl, teq6 _, rfl, rfl⟩
    · rw [enc0, dint_int] at h2 h5 h4 h3
      have h2 := of_feq h2
      have h5 := of_feq h5
      have h4 := of_feq h4
      have h3 := of_teq h3
      rw [if_neg h5, if_neg h4, if_pos h3] at ho
      simp only [Bool.and_eq_true, catOk_iff, Bool.or_eq_true, Bool.not_eq_true', altOk_iff] at ho
      obtain ⟨o1, o2, o3, o4⟩ := ho
      have h1 : 2 ≤ r.subs.length := hkinds.2.2.1 (.inl h3)
      have h0 : 0 < r.subs.length := by omega
      have hne : r.subs ≠ [] := fun e => by rw [e] at h0; cases h0
      have hsz := size_hd hne
      have hszp := size_pos (hdX r)
      have hszc := size_catX r.subs.tail
      have hlh : lens (2 ^ 40) (hdX r) := by rw [hdX_get h0]; exact lens_sub hl h0
      have hlt : ∀ x ∈ r.subs.tail, lens (2 ^ 40) x := fun x hx => (lens_iff.1 hl).2 x (List.mem_of_mem_tail hx)
      have hlr := catX_lens hlt o2
      have hnt : ∀ x ∈ r.subs.tail, allX nodeOk x := fun x hx => (allX_iff.1 hno).2 x (List.mem_of_mem_tail hx)
      have hnr := closed_node.catX hnt o2
      have hder : der b (n + 1) r = (if null (hdX r) then altX [catX [der b n (hdX r), catX r.subs.tail], der b n (catX r.subs.tail)] else catX [der b n (hdX r), catX r.subs.tail]) := by
        conv => lhs; unfold der
        rw [if_neg h2, if_neg h5, if_neg h4, if_pos h3]
      rw [hder, enc5, dlst_slc, encs_length, encs_tail, gAt_encs (x := 0) (i := 0) rfl h0, ← hdX_get h0]
      have hx := ih b (hdX r) hb (by omega) (closed_node.hdX hno) hlh o1
      refine ⟨rfl, flatE _, tle (by omega), tle (by omega), call1 (c56 r.subs.tail (by simp; omega) o2) ⟨_, rfl, rfl, teq6 _, tlt (by omega), teq6 _, _, fun _ => hx, teq6 _, ?_⟩⟩
      rw [show [enc (der b n (hdX r)), enc (catX r.subs.tail)] = encs [der b n (hdX r), catX r.subs.tail] from rfl]
      refine ⟨_, fun _ => c56 _ (by simp) o3, teq6 _, call1 (c42 _ (hdX r) (Nat.le_refl _) hlh) ⟨_, rfl, rfl, fun hn => ?_, fun hn => ?_⟩⟩
      · rcases o4 with o4 | ⟨o4, o5⟩
        · rw [hn] at o4; cases o4
        · have hy := ih b (catX r.subs.tail) hb (by omega) hnr hlr o4
          refine ⟨_, fun _ => hy, teq6 _, ?_⟩
          rw [show [enc (catX [der b n (hdX r), catX r.subs.tail]), enc (der b n (catX r.subs.tail))] = encs [catX [der b n (hdX r), catX r.subs.tail], der b n (catX r.subs.tail)] from rfl, hn]
          refine call1 (c57 _ (by simp) (fun x hx => ?_) o5) ⟨_, rfl, rfl, teq6 _, rfl, rfl⟩
          rcases List.mem_cons.1 hx with rfl | hx
          · refine catX_lens (fun y hy => ?_) o3
            rcases List.mem_cons.1 hy with rfl | hy
            · exact der_lens hlh o1
            · rw [List.mem_singleton.1 hy]; exact hlr
          · rw [List.mem_singleton.1 hx]; exact der_lens hlr o4
      · rw [hn]
        exact ⟨rfl, rfl⟩
    · rw [enc0, dint_int] at h2 h5 h4 h3
      have h2 := of_feq h2
      have h5 := of_feq h5
      have h4 := of_feq h4
      have h3 := of_feq h3
      have : der b (n + 1) r = nilX := by unfold der; rw [if_neg h2, if_neg h5, if_neg h4, if_neg h3]
      rw [this]; exact ⟨rfl, rfl⟩
end Go.Rx
end
section
open Go Go.Proofs Go.Ab Go.Rf
set_option maxRecDepth 100000
namespace Go.Rx
def rangeOk (r : Rx) : Prop := ∀ i < 4, 0 ≤ r.w i ∧ r.w i < 2 ^ 64
theorem chk_nodes : ∀ (n : Nat) (r : Rx) (lvl : Int), size r ≤ n → chk lvl r = 0 → allX (fun r => nodeErr r = 0) r
  | 0, r, _, h, _ => by have := size_pos r; omega
  | n + 1, r, lvl, h, hc => by
    rw [chk_eq] at hc
    split at hc
    · cases hc
    · split at hc
      · rename_i hne; exact absurd hc hne
      · rename_i hne
        refine allX_iff.2 ⟨by omega, fun x hx => ?_⟩
        obtain ⟨i, hi, rfl⟩ := List.mem_iff_getElem.1 hx
        refine chk_nodes n _ (lvl + 1) (by have := size_sub hi; omega) ?_
        have key : ∀ (l : List Rx), chks (lvl + 1) l = 0 → ∀ j (hj : j < l.length), chk (lvl + 1) l[j] = 0 := fun l => by
          induction l with
          | nil => intro _ j hj; cases hj
          | cons y l ih =>
            intro h j hj
            simp only [chks] at h
            split at h
            · rename_i hy; exact absurd h hy
            · rename_i hy
              cases j with
              | zero => show chk (lvl + 1) y = 0; omega
              | succ j => exact ih h j (by simpa using hj)
        exact key _ hc i hi
theorem allX_and {p q : Rx → Prop} : ∀ (n : Nat) (r : Rx), size r ≤ n → allX p r → allX q r → allX (fun r => p r ∧ q r) r
  | 0, r, h, _, _ => by have := size_pos r; omega
  | n + 1, r, h, h1, h2 => by
    rw [allX_iff] at h1 h2 ⊢
    refine ⟨⟨h1.1, h2.1⟩, fun x hx => ?_⟩
    obtain ⟨i, hi, rfl⟩ := List.mem_iff_getElem.1 hx
    exact allX_and n _ (by have := size_sub hi; omega) (h1.2 _ hx) (h2.2 _ hx)
theorem nodes_of {r : Rx} (hr : allX rangeOk r) (hc : chk 1 r = 0) : allX nodeOk r := allX_and _ r (Nat.le_refl _) (chk_nodes _ r 1 (Nat.le_refl _) hc) hr
def D1 (r : Rx) (b : UInt8) : Rx := der b.toNat (size r) r
def ok1 (r : Rx) (b : UInt8) : Bool := derOk b.toNat (size r) r
def derS (r : Rx) (s : List UInt8) : Rx := s.foldl D1 r
def matchOk : Rx → List UInt8 → Bool
  | _, [] => true
  | r, b :: s => ok1 r b && matchOk (D1 r b) s
def matchV (r : Rx) (s : List UInt8) : Bool := decide (chk 1 r = 0) && null (derS r s)
theorem gByte_get {s : List UInt8} {i : Nat} (h : i < s.length) : gByte s (i : Int) = (s[i].toNat : Nat) := by
  simp [gByte, List.getD, h]
theorem c24 (r : Rx) (s : List UInt8) (hr : allX rangeOk r) (hl : lens (2 ^ 40) r) (hs : s.length ≤ 2 ^ 40) (hok : chk 1 r = 0 → matchOk r s = true) : Holds Try.prog 24 [A.agg (enc r), A.d (.lit (bytesV s))] [] (Ret (boolA (matchV r s))) := by
  refine w24 (enc r) s ⟨teq6 r, call1 (c15 r hl) ⟨_, rfl, rfl, fun hc => ?_, fun hc => ?_⟩⟩
  · have hc := nteq hc
    have : matchV r s = false := by unfold matchV; rw [decide_eq_false hc]; rfl
    rw [this]; exact ⟨rfl, rfl⟩
  · have hc := nfeq hc
    have hm := hok hc
    have hno := nodes_of hr hc
    refine ⟨fun x a b c d e f => ∃ i : Nat, ∃ q, x = i ∧ i ≤ s.length ∧ [a, b, c, d, e, f] = enc q ∧ q = derS r (s.take i) ∧ allX nodeOk q ∧ lens (2 ^ 40) q ∧ matchOk q (s.drop i) = true, fun x _ _ _ _ _ _ => s.length - x.toNat, ⟨0, r, rfl, Nat.zero_le _, enc_cells r, rfl, hno, hl, hm⟩, ?_, trivial⟩
    rintro x a b c d e f ⟨i, q, rfl, hi, he, hq, hno, hl, hm⟩
    refine ⟨fun hp => ?_, fun hp => ?_⟩
    · have hp := of_tlt hp
      have hp1 : i < s.length := by omega
      rw [gByte_get hp1, he]
      have hd : s.drop i = s[i] :: s.drop (i + 1) := by rw [List.drop_eq_getElem_cons hp1]
      rw [hd] at hm
      simp only [matchOk, Bool.and_eq_true] at hm
      refine ⟨tle (by omega), call1 (c41 (size q) s[i].toNat q s[i].toNat_lt (Nat.le_refl _) hno hl hm.1) ⟨_, rfl, rfl, teq6 _, tle (by omega), tle (by omega), ⟨i + 1, D1 q s[i], rfl, hp1, enc_cells _, ?_, closed_node.der _ _ _ hno hm.1, der_lens hl hm.1, hm.2⟩, by simp only [Int.toNat_natCast]; omega⟩⟩
      rw [take_snoc _ _ hp1]
      show _ = ((s.take i ++ [s[i]]).foldl D1 r)
      rw [List.foldl_append, hq]; rfl
    · have hp := of_flt hp
      rw [List.take_of_length_le (show s.length ≤ i by omega)] at hq
      rw [he]
      refine call1 (c42 _ q (Nat.le_refl _) hl) ⟨_, rfl, rfl, ?_⟩
      have : matchV r s = null q := by unfold matchV; rw [decide_eq_true hc, hq]; rfl
      rw [this]; exact ⟨rfl, rfl⟩
end Go.Rx
end
section
open Go Go.Proofs Go.Ab Go.Rf Go.ChangeShapes Go.WideShapes
set_option maxRecDepth 100000
namespace Go.Rx
def prW (w : World) : Nat → Nat → Prop := fun b _ => b < w.heap.size
def ghW (w : World) : Gh := ⟨prW w, fun _ => 0, fun _ => 0, fun _ => False⟩
theorem Holds.out {P : Program} {f : FuncId} {args : List A} {v : A} (h : Holds P f args [] (Ret v)) {w : World} {cargs : Array Value}
    (ha : All2 (fun x v => ∀ p, RepA w (ghW w) (fun _ => 0) p x v) args cargs.toList) :
    CallsX P f cargs w fun e w' => ∃ cv g', e = .returned cv ∧ RepA w' g' (fun _ => 0) .res v cv ∧ RowKit.Below w.heap.size w w' := by
  have hh : HeapRel (entryCtx P w (ghW w) [] 0) (boxSt []) (ghW w) w := by
    have no : ∀ {o b}, ¬ Owns (boxSt []) (ghW w) o b := fun ho => by
      cases ho with
      | box h => cases h
      | slot h => cases h
      | cell h _ _ => cases h
    exact ⟨fun r c h => (by cases h), fun o o' b h _ => (no h).elim, fun o b h => (no h).elim, fun b o h => h, fun _ _ h => h, fun _ _ h => .inl h, fun _ => rfl, fun _ h => h, Fr.refl _ _ _⟩
  refine (h w cargs (ghW w) ha hh).mono fun e w' ⟨out, H', g', hR, hH, hr, he⟩ => ?_
  obtain ⟨rfl, rfl⟩ := hR
  obtain ⟨cv, rfl, h1, _⟩ := he
  refine ⟨cv, g', rfl, h1, hr.fr.os, hr.fr.tape, hr.fr.output, hr.fr.size, fun b hb => hr.fr.same b hb ?_⟩
  rintro ⟨o, ho⟩
  cases ho with
  | box h => cases h
  | slot h => cases h
  | cell h _ _ => cases h
theorem callsX_body {P : Program} {f : FuncId} {fn : Func} {c : Code} (hf : P.funcs[f]? = some fn) (hb : fn.body = some c) (hn : (fn.name == "runtime.NumGoroutine") = false) {args : Array Value} {w : World} {R : Ending → World → Prop}
    (h : CallsX P f args w R) : Calls P f args w R := by
  unfold CallsX at h
  rw [run_callFunc hf hb hn] at h
  exact h
section
variable {H : Type} {en : TypeId × Value → H} {w : World}
end
end Go.Rx
end
section
open Go Go.Proofs Go.Ab Go.Rf Go.ChangeShapes Go.WideShapes
set_option maxRecDepth 100000
namespace Go.Rx
theorem lay : laidOutB Try.prog = true := by kernel_rfl
theorem own : ownKnob Try.prog.godebug = none := by kernel_rfl
section
variable {H : Type} {en : TypeId × Value → H} {w : World} {base : Nat} {sp : Nat → Bool}
theorem arg_str {t : TypeId} {v : Value} {d : DataW H} {p : List MemPlace} (ht : Try.prog.underlying t = some .string) (hv : Value.okWide Try.prog w .any base t v) (h : DataW.Trod en Try.prog w 0 (fun _ => true) true t v d p) :
    ∃ s : List UInt8, ∀ q, RepA w (ghW w) (fun _ => 0) q (.d (.lit (bytesV s))) v := by
  obtain ⟨fuel, h⟩ := h
  obtain ⟨s, h1, _⟩ := DataW.trod_string ht h
  have : v = .string s := by
    simp only [Value.okWide, ht, Cell.okWide, Cell.ok] at hv
    cases v <;> simp_all [Value.cells]
  subst this
  refine ⟨s.data.toList, fun q => ?_⟩
  have : bytesV s.data.toList = .string s := by simp [bytesV]
  rw [this]; exact .lit _ rfl
theorem all_stays (hl : laidOutB Try.prog = true) {W W' : World} : ∀ {ts : List TypeId} {vs : List Value} {ds : List (DataW H)} {ps : List MemPlace}, (∀ t ∈ ts, Try.prog.readableRec t = true ∧ t < Try.prog.types.size) →
    DataW.TrodAll en Try.prog W 0 (fun _ => true) true ts vs ds ps → RowKit.Below W.heap.size W W' → (∀ p ∈ ps, p.block < W.heap.size) → (∀ p ∈ ps, sp p.block = true) → DataW.TrodAll en Try.prog W' 0 sp true ts vs ds ps
  | [], _, _, _, _, h, _, _, _ => by
    obtain ⟨rfl, rfl, rfl⟩ := trodAll_nil h
    rfl
  | t :: ts, _, _, _, ht, h, hb, hlt, hs => by
    obtain ⟨v, vs1, d, ds1, a, b, rfl, rfl, rfl, h1, h2⟩ := trodAll_cons h
    refine ⟨a, b, ?_, all_stays hl (fun t h => ht t (List.mem_cons_of_mem _ h)) h2 hb (fun p hp => hlt p (List.mem_append_right _ hp)) (fun p hp => hs p (List.mem_append_right _ hp)), rfl⟩
    exact WideElems.Trod_stays hl (ht t (List.mem_cons_self ..)).1 (ht t (List.mem_cons_self ..)).2 h1 (fun p hp => hb.same (hlt p (List.mem_append_left _ hp))) (fun p hp => hs p (List.mem_append_left _ hp))
theorem row_post {fn : Func} {s : ChangeSpec} {W W' : World} {args : Array Value} {ds gs : List (DataW H)} {before : List MemPlace} (hvs : s.vars = [])
    (hW : DataW.Whole en Try.prog fn.params.toList s.vars false W args.toList ds gs before) (hres : fn.resultTypes = #[4])
    (hspec : s.fn H ds = ⟨[.lit (.bool true)], ds, []⟩) (hl : laidOutB Try.prog = true) (hrd0 : (fn.params.toList.all fun t => Try.prog.readableRec t && decide (t < Try.prog.types.size)) = true)
    (hb : RowKit.Below W.heap.size W W') : s.post en Try.prog fn false true false false W args (.bool true) W' := by
  have hlt := hW.lt
  have hrd : ∀ t ∈ fn.params.toList, Try.prog.readableRec t = true ∧ t < Try.prog.types.size := fun t ht => by
    have := List.all_eq_true.1 hrd0 t ht
    simpa using this
  obtain ⟨p, q, hA, hV, rfl, hfz, hnd⟩ := id hW
  rw [hvs] at hV
  obtain ⟨rfl, rfl⟩ := trodVars_none hV
  have hold : ∀ x ∈ p ++ [], (fun b => decide (b < W.heap.size)) x.block = true := fun x hx => by simpa using hlt x hx
  have hr : ∀ (b : Nat) (sp : Nat → Bool) (hd : Bool), DataW.TrodAll en Try.prog W' b sp hd fn.resultTypes.toList ((Value.bool true).resultList fn.resultTypes.size) (s.fn H (ds ++ [])).results [] := fun b sp hd => by
    rw [List.append_nil, hspec, hres]
    exact trodAll_cons_mk (RowKit.shut_bool Try.underlying4 _) trodAll_mk0
  have ha : ∀ sp : Nat → Bool, (∀ x ∈ p ++ [], sp x.block = true) → DataW.TrodAll en Try.prog W' 0 sp true fn.params.toList args.toList (s.fn H (ds ++ [])).args p := fun sp hs => by
    rw [List.append_nil, hspec]
    exact all_stays hl hrd hA hb (fun x hx => hlt x (by simpa using hx)) (fun x hx => hs x (by simpa using hx))
  have hv : ∀ sp : Nat → Bool, DataW.TrodVars en Try.prog W' sp s.vars (s.fn H (ds ++ [])).vars [] := fun sp => by
    rw [List.append_nil, hspec, hvs]
    rfl
  refine ⟨ds, [], p ++ [], [], p, [], hW, hr _ _ _, ha _ hold, hv _, hb.frame _, fun _ => ⟨RowKit.ok_one hres rfl (RowKit.okWide_bool_mk Try.underlying4 _), _, _, ([] ++ p) ++ [], ⟨[] ++ p, [], trodAll_append (ha _ (fun _ _ => rfl)) (hr _ _ _), hv _, rfl, ?_, ?_⟩, ?_⟩⟩
  · intro b off hx
    have hx' : MemPlace.cell b off ∈ p ++ [] := by simpa using hx
    rw [hb.frozen (hlt _ hx')]
    exact hfz b off hx'
  · intro h; cases h
  · intro x hx _
    simpa using hx
end
end Go.Rx
end
section
open Go Go.Proofs Go.Ab Go.Rf
set_option maxRecDepth 100000
namespace Go.Rx
theorem der_nilX (b n : Nat) : der b n nilX = nilX := by cases n <;> rfl
theorem der_empX (b n : Nat) : der b n empX = nilX := by cases n <;> rfl
theorem derOk_nilX (b n : Nat) : derOk b n nilX = true := by cases n <;> rfl
theorem derOk_empX (b n : Nat) : derOk b n empX = true := by cases n <;> rfl
theorem hdX_nil {r : Rx} (h : r.subs = []) : hdX r = nilX := by unfold hdX; rw [h]; rfl
theorem hdX_cons {r x : Rx} {l : List Rx} (h : r.subs = x :: l) : hdX r = x := by unfold hdX; rw [h]; rfl
theorem catX_nil : catX [] = empX := rfl
theorem size_cons {r x : Rx} {l : List Rx} (h : r.subs = x :: l) : size r = 1 + size x + sizes l := by rw [size_eq, h]; simp only [sizes]; omega
theorem size_mem {r x : Rx} (h : x ∈ r.subs) : size x < size r := by
  obtain ⟨i, hi, rfl⟩ := List.mem_iff_getElem.1 h
  exact size_sub hi
theorem der_fuel (b : Nat) : ∀ (n m : Nat) (r : Rx), size r ≤ n → size r ≤ m → der b n r = der b m r := by
  intro n
  induction n with
  | zero => intro m r h; have := size_pos r; omega
  | succ n ih =>
    intro m r h h'
    cases m with
    | zero => have := size_pos r; omega
    | succ m =>
      have hh : der b n (hdX r) = der b m (hdX r) := by
        cases hs : r.subs with
        | nil => rw [hdX_nil hs, der_nilX, der_nilX]
        | cons x l => rw [hdX_cons hs]; have := size_cons hs; exact ih m x (by omega) (by omega)
      have ht : der b n (catX r.subs.tail) = der b m (catX r.subs.tail) := by
        cases hs : r.subs with
        | nil => rw [List.tail_nil, catX_nil, der_empX, der_empX]
        | cons x l =>
          have h1 := size_cons hs
          have h2 := size_catX l
          have h3 := size_pos x
          exact ih m _ (by simp; omega) (by simp; omega)
      have hm : r.subs.map (der b n) = r.subs.map (der b m) := List.map_congr_left fun x hx => by
        have := size_mem hx
        exact ih m x (by omega) (by omega)
      simp only [der]
      rw [hh, ht, hm]
theorem derOk_fuel (b : Nat) : ∀ (n m : Nat) (r : Rx), size r ≤ n → size r ≤ m → derOk b n r = derOk b m r := by
  intro n
  induction n with
  | zero => intro m r h; have := size_pos r; omega
  | succ n ih =>
    intro m r h h'
    cases m with
    | zero => have := size_pos r; omega
    | succ m =>
      have hh : derOk b n (hdX r) = derOk b m (hdX r) := by
        cases hs : r.subs with
        | nil => rw [hdX_nil hs, derOk_nilX, derOk_nilX]
        | cons x l => rw [hdX_cons hs]; have := size_cons hs; exact ih m x (by omega) (by omega)
      have hh2 : der b n (hdX r) = der b m (hdX r) := by
        cases hs : r.subs with
        | nil => rw [hdX_nil hs, der_nilX, der_nilX]
        | cons x l => rw [hdX_cons hs]; have := size_cons hs; exact der_fuel b n m x (by omega) (by omega)
      have ht : derOk b n (catX r.subs.tail) = derOk b m (catX r.subs.tail) ∧ der b n (catX r.subs.tail) = der b m (catX r.subs.tail) := by
        cases hs : r.subs with
        | nil => rw [List.tail_nil, catX_nil, der_empX, der_empX, derOk_empX, derOk_empX]; exact ⟨rfl, rfl⟩
        | cons x l =>
          have h1 := size_cons hs
          have h2 := size_catX l
          have h3 := size_pos x
          exact ⟨ih m _ (by simp; omega) (by simp; omega), der_fuel b n m _ (by simp; omega) (by simp; omega)⟩
      have hm : r.subs.map (der b n) = r.subs.map (der b m) := List.map_congr_left fun x hx => by
        have := size_mem hx
        exact der_fuel b n m x (by omega) (by omega)
      have ha : r.subs.all (derOk b n) = r.subs.all (derOk b m) := by
        rw [Bool.eq_iff_iff, List.all_eq_true, List.all_eq_true]
        refine forall_congr' fun x => forall_congr' fun hx => ?_
        have := size_mem hx
        rw [ih m x (by omega) (by omega)]
      simp only [derOk]
      rw [hh, ht.1, ht.2, hm, ha, hh2]
section
variable {r : Rx} {b : UInt8}
theorem D1_of {n : Nat} (h : size r ≤ n) : der b.toNat n r = D1 r b := der_fuel _ _ _ _ h (Nat.le_refl _)
theorem ok1_of {n : Nat} (h : size r ≤ n) : derOk b.toNat n r = ok1 r b := derOk_fuel _ _ _ _ h (Nat.le_refl _)
theorem D1_nil : D1 nilX b = nilX := der_nilX _ _
theorem D1_emp : D1 empX b = nilX := der_empX _ _
theorem succ_size (r : Rx) : ∃ n, size r = n + 1 := ⟨size r - 1, by have := size_pos r; omega⟩
theorem D1_hd {n : Nat} (h : size r = n + 1) : der b.toNat n (hdX r) = D1 (hdX r) b := by
  cases hs : r.subs with
  | nil => rw [hdX_nil hs, der_nilX, D1_nil]
  | cons x l => rw [hdX_cons hs]; have := size_cons hs; exact D1_of (by omega)
theorem D1_tl {n : Nat} (h : size r = n + 1) : der b.toNat n (catX r.subs.tail) = D1 (catX r.subs.tail) b := by
  cases hs : r.subs with
  | nil => rw [List.tail_nil, catX_nil, der_empX, D1_emp]
  | cons x l =>
    have h1 := size_cons hs
    have h2 := size_catX l
    have h3 := size_pos x
    exact D1_of (by simp; omega)
theorem D1_map {n : Nat} (h : size r = n + 1) : r.subs.map (der b.toNat n) = r.subs.map fun x => D1 x b :=
  List.map_congr_left fun x hx => by have := size_mem hx; exact D1_of (by omega)
theorem D1_set (k : r.kind = 2) : D1 r b = if hasX r b.toNat then empX else nilX := by
  obtain ⟨n, h⟩ := succ_size r
  unfold D1; rw [h]; simp only [der, k, if_true]
theorem D1_star (k : r.kind = 5) : D1 r b = catX [D1 (hdX r) b, r] := by
  obtain ⟨n, h⟩ := succ_size r
  rw [← D1_hd h]
  unfold D1; rw [h]; simp [der, k]
theorem D1_alt (k : r.kind = 4) : D1 r b = altX (r.subs.map fun x => D1 x b) := by
  obtain ⟨n, h⟩ := succ_size r
  rw [← D1_map h]
  unfold D1; rw [h]; simp [der, k]
theorem D1_cat (k : r.kind = 3) : D1 r b = if null (hdX r) then altX [catX [D1 (hdX r) b, catX r.subs.tail], D1 (catX r.subs.tail) b] else catX [D1 (hdX r) b, catX r.subs.tail] := by
  obtain ⟨n, h⟩ := succ_size r
  rw [← D1_hd h, ← D1_tl h]
  unfold D1; rw [h]; simp [der, k]
theorem D1_else (k2 : r.kind ≠ 2) (k3 : r.kind ≠ 3) (k4 : r.kind ≠ 4) (k5 : r.kind ≠ 5) : D1 r b = nilX := by
  obtain ⟨n, h⟩ := succ_size r
  unfold D1; rw [h]; simp [der, k2, k3, k4, k5]
theorem ok1_hd {n : Nat} (h : size r = n + 1) : derOk b.toNat n (hdX r) = ok1 (hdX r) b := by
  cases hs : r.subs with
  | nil => rw [hdX_nil hs, derOk_nilX]; exact (derOk_nilX _ _).symm
  | cons x l => rw [hdX_cons hs]; have := size_cons hs; exact ok1_of (by omega)
theorem ok1_tl {n : Nat} (h : size r = n + 1) : derOk b.toNat n (catX r.subs.tail) = ok1 (catX r.subs.tail) b := by
  cases hs : r.subs with
  | nil => rw [List.tail_nil, catX_nil, derOk_empX]; exact (derOk_empX _ _).symm
  | cons x l =>
    have h1 := size_cons hs
    have h2 := size_catX l
    have h3 := size_pos x
    exact ok1_of (by simp; omega)
theorem ok1_star (k : r.kind = 5) : ok1 r b = (ok1 (hdX r) b && catOk [D1 (hdX r) b, r]) := by
  obtain ⟨n, h⟩ := succ_size r
  rw [← D1_hd h, ← ok1_hd h]
  unfold ok1; rw [h]; simp [derOk, k]
theorem ok1_alt (k : r.kind = 4) : ok1 r b = ((r.subs.all fun x => ok1 x b) && altOk (r.subs.map fun x => D1 x b)) := by
  obtain ⟨n, h⟩ := succ_size r
  have ha : r.subs.all (derOk b.toNat n) = r.subs.all fun x => ok1 x b := by
    rw [Bool.eq_iff_iff, List.all_eq_true, List.all_eq_true]
    refine forall_congr' fun x => forall_congr' fun hx => ?_
    have := size_mem hx
    rw [ok1_of (by omega)]
  rw [← D1_map h, ← ha]
  unfold ok1; rw [h]; simp [derOk, k]
theorem ok1_cat (k : r.kind = 3) : ok1 r b = (ok1 (hdX r) b && (catOk r.subs.tail && (catOk [D1 (hdX r) b, catX r.subs.tail] && (!null (hdX r) || (ok1 (catX r.subs.tail) b && altOk [catX [D1 (hdX r) b, catX r.subs.tail], D1 (catX r.subs.tail) b]))))) := by
  obtain ⟨n, h⟩ := succ_size r
  rw [← D1_hd h, ← D1_tl h, ← ok1_hd h, ← ok1_tl h]
  unfold ok1; rw [h]; simp [derOk, k]
theorem ok1_else (k3 : r.kind ≠ 3) (k4 : r.kind ≠ 4) (k5 : r.kind ≠ 5) : ok1 r b = true := by
  obtain ⟨n, h⟩ := succ_size r
  unfold ok1; rw [h]; simp [derOk, k3, k4, k5]
end
end Go.Rx
end
section
open Go Go.Proofs Go.Ab Go.Rf
set_option maxRecDepth 100000
namespace Go.Rx
def Fi : Nat → List Rx → List Rx
  | 0, l => l
  | i + 1, l => Fi i (outC l)
theorem Fi_out : ∀ (i : Nat) (l : List Rx), outC (Fi i l) = Fi (i + 1) l
  | 0, _ => rfl
  | i + 1, l => Fi_out i (outC l)
theorem outC_append (l m : List Rx) : outC (l ++ m) = outC l ++ outC m := by unfold outC; rw [List.flatMap_append]
theorem outC_cons (x : Rx) (l : List Rx) : outC (x :: l) = catF x ++ outC l := by unfold outC; rw [List.flatMap_cons]
theorem Fi_append : ∀ (i : Nat) (l m : List Rx), Fi i (l ++ m) = Fi i l ++ Fi i m
  | 0, _, _ => rfl
  | i + 1, l, m => by show Fi i _ = Fi i _ ++ Fi i _; rw [outC_append, Fi_append i]
inductive PT (r : Rx) : Rx → List Rx → Prop
  | root : PT r r []
  | star {q t x l} (k : q.kind = 5) (e : q.subs = x :: l) (h : PT r q t) : PT r x (q :: t)
  | alt {q t x} (k : q.kind = 4) (e : x ∈ q.subs) (h : PT r q t) : PT r x t
  | cat {q t l x tl} (k : q.kind = 3) (e : q.subs = l ++ x :: tl) (i : Nat) (h : PT r q t) : PT r x (Fi i tl ++ t)
theorem PT.flat {r q : Rx} {t : List Rx} (h : PT r q t) : PT r q (outC t) := by
  induction h with
  | root => exact .root
  | @star q t x l k e h ih =>
    have : outC (q :: t) = q :: outC t := by rw [outC_cons]; simp [catF, k]
    rw [this]; exact .star k e ih
  | alt k e h ih => exact .alt k e ih
  | @cat q t l x tl k e i h ih => rw [outC_append, Fi_out]; exact .cat k e (i + 1) ih
theorem PT.comp {r q q' : Rx} {t t' : List Rx} (h : PT r q t) (h' : PT q q' t') : PT r q' (t' ++ t) := by
  induction h' with
  | root => exact h
  | star k e _ ih => exact .star k e ih
  | alt k e _ ih => exact .alt k e ih
  | cat k e i _ ih => rw [List.append_assoc]; exact .cat k e i ih
theorem PT.comp0 {r q q' : Rx} {t' : List Rx} (h : PT r q []) (h' : PT q q' t') : PT r q' t' := by
  have := h.comp h'
  rwa [List.append_nil] at this
theorem flatMap_split {α β : Type} {f : α → List β} : ∀ {L : List α} {l : List β} {c : β} {rest : List β}, L.flatMap f = l ++ c :: rest → ∃ l1 x l2 u v, L = l1 ++ x :: l2 ∧ f x = u ++ c :: v ∧ rest = v ++ l2.flatMap f
  | [], l, c, rest, h => by simp at h
  | y :: L, l, c, rest, h => by
    rw [List.flatMap_cons, List.append_eq_append_iff] at h
    rcases h with ⟨a, h1, h2⟩ | ⟨a, h1, h2⟩
    · obtain ⟨l1, x, l2, u, v, e1, e2, e3⟩ := flatMap_split h2
      exact ⟨y :: l1, x, l2, u, v, by rw [e1]; rfl, e2, e3⟩
    · cases a with
      | nil =>
        rw [List.nil_append] at h2
        obtain ⟨l1, x, l2, u, v, e1, e2, e3⟩ := flatMap_split (l := []) h2.symm
        exact ⟨y :: l1, x, l2, u, v, by rw [e1]; rfl, e2, e3⟩
      | cons d a =>
        rw [List.cons_append] at h2
        injection h2 with h3 h4
        subst h3
        exact ⟨[], y, L, l, a, rfl, h1, h4⟩
theorem suf_flat {r : Rx} {t L : List Rx} (h : ∀ l c rest, L = l ++ c :: rest → ∀ j, PT r c (Fi j rest ++ t)) : ∀ l c rest, outC L = l ++ c :: rest → ∀ j, PT r c (Fi j rest ++ t) := by
  intro l c rest e j
  obtain ⟨l1, x, l2, u, v, e1, e2, e3⟩ := flatMap_split e
  have hx := h l1 x l2 e1 (j + 1)
  have e4 : Fi j rest = Fi j v ++ Fi (j + 1) l2 := by rw [e3, Fi_append]; rfl
  rw [e4, List.append_assoc]
  unfold catF at e2
  split at e2
  · rename_i k; exact .cat k e2 j hx
  · split at e2
    · simp at e2
    · have : u = [] ∧ x = c ∧ v = [] := by
        cases u with
        | nil => simpa using e2
        | cons a u => simp at e2
      obtain ⟨_, rfl, rfl⟩ := this
      have e5 : Fi j ([] : List Rx) = [] := by
        clear hx e4 e3 e2 e
        induction j with
        | zero => rfl
        | succ j ih => exact ih
      rw [e5]; exact hx
theorem suf_flats {r : Rx} {t : List Rx} : ∀ (i : Nat) {L : List Rx}, (∀ l c rest, L = l ++ c :: rest → ∀ j, PT r c (Fi j rest ++ t)) → ∀ l c rest, Fi i L = l ++ c :: rest → ∀ j, PT r c (Fi j rest ++ t)
  | 0, _, h => h
  | i + 1, _, h => suf_flats i (suf_flat h)
theorem PT.suf {r q : Rx} {t : List Rx} (h : PT r q t) : ∀ l c rest, t = l ++ c :: rest → PT r c rest := by
  induction h with
  | root => intro l c rest e; simp at e
  | @star q t x l k e h ih =>
    intro l' c rest e'
    cases l' with
    | nil => simp at e'; obtain ⟨rfl, rfl⟩ := e'; exact h
    | cons a l' => simp at e'; exact ih l' c rest e'.2
  | alt k e h ih => exact ih
  | @cat q t l x tl k e i h ih =>
    intro l' c rest e'
    rw [List.append_eq_append_iff] at e'
    have hs : ∀ l c rest, tl = l ++ c :: rest → ∀ j, PT r c (Fi j rest ++ t) := fun l1 c rest e1 j => by
      refine .cat (l := l ++ x :: l1) k ?_ j h
      rw [e, e1]; simp
    rcases e' with ⟨a, h1, h2⟩ | ⟨a, h1, h2⟩
    · exact ih a c rest h2
    · cases a with
      | nil => rw [List.nil_append] at h2; exact ih [] c rest h2.symm
      | cons d a =>
        rw [List.cons_append] at h2
        injection h2 with h3 h4
        subst h3
        rw [h4]
        exact suf_flats i hs l' c a h1 0
def tw (x : Rx) : Nat := if x.kind = 3 then size x else 1
def tws : List Rx → Nat
  | [] => 0
  | x :: l => tw x + tws l
theorem tws_append : ∀ l m : List Rx, tws (l ++ m) = tws l + tws m
  | [], m => by simp [tws]
  | x :: l, m => by simp only [List.cons_append, tws, tws_append l m]; omega
theorem tw_le (x : Rx) : tw x ≤ size x := by
  unfold tw; split
  · exact Nat.le_refl _
  · exact size_pos x
theorem tws_sizes : ∀ l : List Rx, tws l ≤ sizes l
  | [] => Nat.le_refl _
  | x :: l => by have := tws_sizes l; have := tw_le x; simp only [tws, sizes]; omega
theorem tw_pos (x : Rx) : 1 ≤ tw x := by
  unfold tw; split
  · exact size_pos x
  · exact Nat.le_refl _
theorem length_tws : ∀ l : List Rx, l.length ≤ tws l
  | [] => Nat.le_refl _
  | x :: l => by have := length_tws l; have := tw_pos x; simp only [tws, List.length_cons]; omega
theorem tws_catF (x : Rx) : tws (catF x) ≤ tw x := by
  unfold catF
  split
  · rename_i k
    have := tws_sizes x.subs
    have := size_eq x
    unfold tw; rw [if_pos k]; omega
  · split
    · exact Nat.zero_le _
    · exact Nat.le_refl _
theorem tws_outC : ∀ l : List Rx, tws (outC l) ≤ tws l
  | [] => Nat.le_refl _
  | x :: l => by
    have := tws_outC l
    have := tws_catF x
    rw [outC_cons, tws_append]
    simp only [tws]; omega
theorem tws_Fi : ∀ (i : Nat) (l : List Rx), tws (Fi i l) ≤ tws l
  | 0, _ => Nat.le_refl _
  | i + 1, l => Nat.le_trans (tws_Fi i _) (tws_outC l)
theorem PT.size {r q : Rx} {t : List Rx} (h : PT r q t) : Rx.size q + tws t ≤ Rx.size r := by
  induction h with
  | root => exact Nat.le_refl _
  | @star q t x l k e h ih =>
    have h1 := size_cons e
    have h2 : tw q = 1 := by unfold tw; rw [if_neg (by omega)]
    simp only [tws]; omega
  | @alt q t x k e h ih => have := size_mem e; omega
  | @cat q t l x tl k e i h ih =>
    rw [tws_append]
    have h1 := tws_Fi i tl
    have h2 := tws_sizes tl
    have h3 : Rx.size q = 1 + sizes l + (Rx.size x + sizes tl) := by rw [size_eq, e, sizes_append]; simp only [sizes]; omega
    omega
theorem PT.small {r q : Rx} {t : List Rx} (h : PT r q t) (ht : t ≠ []) : Rx.size q < Rx.size r := by
  have h1 := h.size
  have h2 : 0 < t.length := List.length_pos_iff.2 ht
  have h3 := length_tws t
  omega
end Go.Rx
end
section
open Go Go.Proofs Go.Ab Go.Rf
set_option maxRecDepth 100000
namespace Go.Rx
def Res1 (r : Rx) (w : List UInt8) (a : Rx) : Prop :=
  a = empX ∨ PT r a [] ∨ ∃ q t v, (PT r q t ∧ (v ≠ [] → ∃ t0, PT r q t0 ∧ t = outC t0)) ∧ t ≠ [] ∧ v <:+ w ∧ a = mk0 3 (derS q v :: t)
theorem Res1.mono {r a : Rx} {w w' : List UInt8} (h : Res1 r w a) (hw : w <:+ w') : Res1 r w' a := by
  rcases h with h | h | ⟨q, t, v, h1, h2, h3, h4⟩
  · exact .inl h
  · exact .inr (.inl h)
  · exact .inr (.inr ⟨q, t, v, h1, h2, h3.trans hw, h4⟩)
theorem Res1.comp {r q a : Rx} {w : List UInt8} (hq : PT r q []) (h : Res1 q w a) : Res1 r w a := by
  rcases h with h | h | ⟨q', t, v, h1, h2, h3, h4⟩
  · exact .inl h
  · exact .inr (.inl (hq.comp0 h))
  · exact .inr (.inr ⟨q', t, v, ⟨hq.comp0 h1.1, fun hv => by obtain ⟨t0, g1, g2⟩ := h1.2 hv; exact ⟨t0, hq.comp0 g1, g2⟩⟩, h2, h3, h4⟩)
theorem altF_alt {x : Rx} (k : x.kind = 4) : altF x = x.subs := by unfold altF; rw [if_pos k]
theorem altF_one {x : Rx} (k4 : x.kind ≠ 4) (k0 : x.kind ≠ 0) : altF x = [x] := by unfold altF; rw [if_neg k4, if_neg k0]
theorem mem_altF1 {x a : Rx} (h : a ∈ altF x) : (x.kind = 4 ∧ a ∈ x.subs) ∨ (x.kind ≠ 4 ∧ x.kind ≠ 0 ∧ a = x) := by
  unfold altF at h
  split at h
  · rename_i k; exact .inl ⟨k, h⟩
  · rename_i k
    split at h
    · cases h
    · rename_i k0; exact .inr ⟨k, k0, List.mem_singleton.1 h⟩
theorem kind_mk0 (k : Int) (l : List Rx) : (mk0 k l).kind = k := rfl
theorem subs_mk0 (k : Int) (l : List Rx) : (mk0 k l).subs = l := rfl
theorem joinX_two (k : Int) (a b : Rx) (l : List Rx) : joinX k (a :: b :: l) = mk0 k (a :: b :: l) := rfl
theorem altF_pos {r y a : Rx} {w : List UInt8} (h : PT r y []) (ha : a ∈ altF y) : Res1 r w a := by
  rcases mem_altF1 ha with ⟨k, hs⟩ | ⟨_, _, rfl⟩
  · exact .inr (.inl (.alt k hs h))
  · exact .inr (.inl h)
theorem res_list {r : Rx} {w : List UInt8} {L : List Rx} (hs : ∀ l c rest, L = l ++ c :: rest → PT r c rest) (hne : L ≠ []) : ∀ a ∈ altF (joinX 3 L), Res1 r w a := by
  intro a ha
  match L, hne with
  | [y], _ => exact altF_pos (hs [] y [] rfl) ha
  | c :: d :: l, _ =>
    rw [joinX_two] at ha
    rcases mem_altF1 ha with ⟨k, _⟩ | ⟨_, _, rfl⟩
    · cases k
    · exact .inr (.inr ⟨c, d :: l, [], ⟨hs [] c (d :: l) rfl, fun h => absurd rfl h⟩, by simp, List.nil_suffix, rfl⟩)
theorem PT.sufs {r q : Rx} {t : List Rx} (h : PT r q t) : ∀ l c rest, outC t = l ++ c :: rest → PT r c rest := h.flat.suf
theorem res_app {r q D : Rx} {t : List Rx} {v w : List UInt8} (h : PT r q t) (hv : v <:+ w) (hD : D = derS q v) (hS : ∀ a ∈ altF D, Res1 q v a) : ∀ a ∈ altF (catX (D :: t)), Res1 r w a := by
  intro a ha
  unfold catX at ha
  split at ha
  · cases ha
  · rename_i hk
    have hk0 : D.kind ≠ 0 := fun e => hk (by simp [e])
    rw [outC_cons] at ha
    by_cases k1 : D.kind = 1
    · have e : catF D = [] := by unfold catF; rw [if_neg (by omega), if_pos k1]
      rw [e, List.nil_append] at ha
      split at ha
      · rcases mem_altF1 ha with ⟨k, _⟩ | ⟨_, _, rfl⟩
        · cases k
        · exact .inl rfl
      · rename_i hne; exact res_list h.sufs hne a ha
    · by_cases k3 : D.kind = 3
      · have e : catF D = D.subs := by unfold catF; rw [if_pos k3]
        rw [e] at ha
        rcases hS D (by rw [altF_one (by omega) hk0]; exact List.mem_singleton.2 rfl) with h1 | h1 | ⟨q', t', v', h1, h2, h3, h4⟩
        · rw [h1] at k1; exact absurd rfl k1
        · have hDr : PT r D (outC t) := h.flat.comp h1
          have hs : ∀ l c rest, D.subs ++ outC t = l ++ c :: rest → PT r c rest := by
            intro l c rest e'
            rw [List.append_eq_append_iff] at e'
            rcases e' with ⟨x, g1, g2⟩ | ⟨x, g1, g2⟩
            · exact h.sufs x c rest g2
            · cases x with
              | nil => rw [List.nil_append] at g2; exact h.sufs [] c rest g2.symm
              | cons d x =>
                rw [List.cons_append] at g2
                injection g2 with g3 g4
                subst g3
                rw [g4]
                exact .cat k3 g1 0 hDr
          split at ha
          · rcases mem_altF1 ha with ⟨k, _⟩ | ⟨_, _, rfl⟩
            · cases k
            · exact .inl rfl
          · rename_i hne; exact res_list hs hne a ha
        · have hs : D.subs = derS q' v' :: t' := by rw [h4]; rfl
          rw [hs, List.cons_append] at ha
          rw [if_neg (by simp)] at ha
          match t', h2, h1 with
          | y :: t', _, h1 =>
            rw [List.cons_append, joinX_two] at ha
            rcases mem_altF1 ha with ⟨k, _⟩ | ⟨_, _, rfl⟩
            · cases k
            · exact .inr (.inr ⟨q', y :: t' ++ outC t, v', ⟨h.flat.comp h1.1, fun hv => by obtain ⟨t0, g1, g2⟩ := h1.2 hv; exact ⟨t0 ++ t, h.comp g1, by rw [outC_append, ← g2]⟩⟩, by simp, h3.trans hv, rfl⟩)
      · have e : catF D = [D] := by unfold catF; rw [if_neg k3, if_neg k1]
        rw [e, if_neg (by simp)] at ha
        cases ht : outC t with
        | nil =>
          rw [ht] at ha
          have hq : PT r q [] := by have := h.flat; rwa [ht] at this
          exact ((hS a ha).comp hq).mono hv
        | cons y l =>
          rw [ht] at ha
          have hq : PT r q (y :: l) := by have := h.flat; rwa [ht] at this
          rw [List.cons_append, List.nil_append, joinX_two] at ha
          rcases mem_altF1 ha with ⟨k, _⟩ | ⟨_, _, rfl⟩
          · cases k
          · exact .inr (.inr ⟨q, y :: l, v, ⟨hq, fun _ => ⟨t, h, ht.symm⟩⟩, by simp, hv, by rw [hD]⟩)
theorem catX_two (X : Rx) (l : List Rx) : ∃ l', (l' = l ∨ l' = outC l) ∧ catX [X, catX l] = catX (X :: l') := by
  by_cases h0 : l.any (fun x => x.kind == 0) = true
  · refine ⟨l, .inl rfl, ?_⟩
    have e1 : catX l = nilX := by unfold catX; rw [if_pos h0]
    have e2 : catX (X :: l) = nilX := by unfold catX; rw [if_pos (by simp only [List.any_cons, h0, Bool.or_true])]
    rw [e1, e2]
    unfold catX
    rw [if_pos]
    simp [nilX, mk0, Rx.kind]
  · have e1 : catX l = if outC l = [] then empX else joinX 3 (outC l) := by unfold catX; rw [if_neg h0]
    have h0' : l.any (fun x => x.kind == 0) = false := by simpa using h0
    cases hl : outC l with
    | nil =>
      refine ⟨l, .inl rfl, ?_⟩
      rw [e1, hl, if_pos rfl]
      have e3 : ∀ m : List Rx, outC m = [] → m.any (fun x => x.kind == 0) = false → catX (X :: m) = if X.kind == 0 then nilX else if catF X = [] then empX else joinX 3 (catF X) := by
        intro m h1 h2
        unfold catX
        rw [outC_cons, h1, List.append_nil, List.any_cons, h2, Bool.or_false]
      rw [e3 l hl h0', e3 [empX] rfl rfl]
    | cons y m =>
      cases m with
      | nil =>
        refine ⟨[y], .inr rfl, ?_⟩
        rw [e1, hl, if_neg (by simp)]
        rfl
      | cons z m =>
        refine ⟨l, .inl rfl, ?_⟩
        rw [e1, hl, if_neg (by simp), joinX_two]
        have e4 : outC (X :: [mk0 3 (y :: z :: m)]) = outC (X :: l) := by
          rw [outC_cons X [mk0 3 (y :: z :: m)], outC_cons X l, hl]
          congr 1
          simp [outC, catF, kind_mk0, subs_mk0]
        unfold catX
        rw [e4]
        simp only [List.any_cons, List.any_nil, h0', kind_mk0]
        rfl
theorem catX_pos {r q : Rx} {t : List Rx} (h : PT r q t) (X : Rx) : ∃ t', PT r q t' ∧ catX [X, catX t] = catX (X :: t') := by
  obtain ⟨t', h1, h2⟩ := catX_two X t
  rcases h1 with rfl | rfl
  · exact ⟨_, h, h2⟩
  · exact ⟨_, h.flat, h2⟩
theorem res_alt {r : Rx} {w : List UInt8} {ls : List Rx} (h : ∀ l ∈ ls, ∀ a ∈ altF l, Res1 r w a) : ∀ a ∈ altF (altX ls), Res1 r w a := by
  intro a ha
  have hm : ∀ x ∈ outA ls, Res1 r w x := fun x hx => by
    obtain ⟨l, h1, h2⟩ := mem_outA hx
    exact h l h1 x h2
  unfold altX at ha
  split at ha
  · cases ha
  · rename_i hne
    match ho : outA ls, hne with
    | [x], _ =>
      rw [ho] at ha hm
      have hx := hm x (List.mem_singleton.2 rfl)
      rcases mem_altF1 ha with ⟨k, hs⟩ | ⟨_, _, rfl⟩
      · rcases hx with h1 | h1 | ⟨q, t, v, ⟨h1, _⟩, h2, h3, h4⟩
        · have ha' : a ∈ x.subs := hs
          rw [h1] at ha'; cases ha'
        · exact .inr (.inl (.alt k hs h1))
        · have k' : x.kind = 4 := k
          rw [h4] at k'; cases k'
      · exact hx
    | x :: y :: l, _ =>
      rw [ho, joinX_two] at ha
      rw [altF_alt rfl] at ha
      exact hm a (by rw [ho]; exact ha)
theorem res_one (b : UInt8) : ∀ (n : Nat) (r : Rx), size r ≤ n → ∀ a ∈ altF (D1 r b), Res1 r [b] a := by
  intro n
  induction n with
  | zero => intro r h; have := size_pos r; omega
  | succ n ih =>
    have rl : ∀ (m : Nat) (r q : Rx) (t : List Rx) (w : List UInt8), PT r q t → sizes t ≤ m → sizes t ≤ n → [b] <:+ w → ∀ a ∈ altF (D1 (catX t) b), Res1 r w a := by
      intro m
      induction m with
      | zero =>
        intro r q t w h hm hn hw a ha
        have : t = [] := by
          cases t with
          | nil => rfl
          | cons x t => have := size_pos x; simp only [sizes] at hm; omega
        subst this
        rw [catX_nil, D1_emp] at ha
        cases ha
      | succ m ihm =>
        intro r q t w h hm hn hw a ha
        unfold catX at ha
        split at ha
        · rw [D1_nil] at ha; cases ha
        · split at ha
          · rw [D1_emp] at ha; cases ha
          · rename_i hne
            have hsz := sizes_outC t
            match ho : outC t, hne with
            | [y], _ =>
              rw [ho] at ha hsz
              have hy : PT r y [] := h.sufs [] y [] ho
              have : size y ≤ n := by simp only [sizes] at hsz; omega
              exact ((ih y this a ha).comp hy).mono hw
            | c :: d :: l, _ =>
              rw [ho] at ha hsz
              rw [joinX_two] at ha
              have hc : PT r c (d :: l) := h.sufs [] c (d :: l) ho
              have hsc : size c ≤ n ∧ sizes (d :: l) ≤ m ∧ sizes (d :: l) ≤ n := by have := size_pos c; simp only [sizes] at hsz ⊢; omega
              have first : ∀ a ∈ altF (catX [D1 c b, catX (d :: l)]), Res1 r w a := by
                obtain ⟨t', h1, h2⟩ := catX_pos hc (D1 c b)
                rw [h2]
                exact res_app h1 hw rfl (ih c hsc.1)
              have second : ∀ a ∈ altF (D1 (catX (d :: l)) b), Res1 r w a := ihm r c (d :: l) w hc hsc.2.1 hsc.2.2 hw
              rw [D1_cat rfl] at ha
              split at ha
              · refine res_alt (fun x hx => ?_) a ha
                rcases List.mem_cons.1 hx with rfl | hx
                · exact first
                · rw [List.mem_singleton.1 hx]; exact second
              · exact first a ha
    intro r h a ha
    by_cases k2 : r.kind = 2
    · rw [D1_set k2] at ha
      split at ha
      · rcases mem_altF1 ha with ⟨k, _⟩ | ⟨_, _, rfl⟩
        · cases k
        · exact .inl rfl
      · cases ha
    · by_cases k5 : r.kind = 5
      · rw [D1_star k5] at ha
        cases hs : r.subs with
        | nil =>
          rw [hdX_nil hs, D1_nil] at ha
          cases ha
        | cons x l =>
          rw [hdX_cons hs] at ha
          have := size_cons hs
          exact res_app (.star k5 hs .root) (List.suffix_refl [b]) rfl (ih x (by omega)) a ha
      · by_cases k4 : r.kind = 4
        · rw [D1_alt k4] at ha
          refine res_alt (fun y hy => ?_) a ha
          obtain ⟨x, hx, rfl⟩ := List.mem_map.1 hy
          have := size_mem hx
          exact fun a ha => (ih x (by omega) a ha).comp (.alt k4 hx .root)
        · by_cases k3 : r.kind = 3
          · cases hs : r.subs with
            | nil =>
              rw [D1_cat k3, hdX_nil hs] at ha
              have e : catX [D1 nilX b, catX r.subs.tail] = nilX := by rw [D1_nil]; rfl
              rw [e, hs] at ha
              exact absurd ha (by simp [null, nilX, mk0, altF, Rx.kind])
            | cons x tl =>
              have hsz := size_cons hs
              have hx : PT r x tl := by have := PT.cat (l := []) k3 hs 0 (.root (r := r)); rwa [List.append_nil] at this
              have first : ∀ a ∈ altF (catX [D1 x b, catX tl]), Res1 r [b] a := by
                obtain ⟨t', h1, h2⟩ := catX_pos hx (D1 x b)
                rw [h2]
                exact res_app h1 (List.suffix_refl [b]) rfl (ih x (by omega))
              have second : ∀ a ∈ altF (D1 (catX tl) b), Res1 r [b] a := rl _ r x tl [b] hx (Nat.le_refl _) (by have := size_pos x; omega) (List.suffix_refl [b])
              rw [D1_cat k3, hdX_cons hs, hs, List.tail_cons] at ha
              split at ha
              · refine res_alt (fun x hx => ?_) a ha
                rcases List.mem_cons.1 hx with rfl | hx
                · exact first
                · rw [List.mem_singleton.1 hx]; exact second
              · exact first a ha
          · rw [D1_else k2 k3 k4 k5] at ha
            cases ha
theorem res_start {r q : Rx} {t : List Rx} {w : List UInt8} {b : UInt8} (h : PT r q t) (hw : [b] <:+ w) : ∀ a ∈ altF (D1 (catX t) b), Res1 r w a := by
  have key : ∀ (m : Nat) (q : Rx) (t : List Rx), PT r q t → sizes t ≤ m → ∀ a ∈ altF (D1 (catX t) b), Res1 r w a := by
    intro m
    induction m with
    | zero =>
      intro q t h hm a ha
      have : t = [] := by
        cases t with
        | nil => rfl
        | cons x t => have := size_pos x; simp only [sizes] at hm; omega
      subst this
      rw [catX_nil, D1_emp] at ha
      cases ha
    | succ m ihm =>
      intro q t h hm a ha
      unfold catX at ha
      split at ha
      · rw [D1_nil] at ha; cases ha
      · split at ha
        · rw [D1_emp] at ha; cases ha
        · rename_i hne
          have hsz := sizes_outC t
          match ho : outC t, hne with
          | [y], _ =>
            rw [ho] at ha
            exact ((res_one b _ y (Nat.le_refl _) a ha).comp (h.sufs [] y [] ho)).mono hw
          | c :: d :: l, _ =>
            rw [ho] at ha hsz
            rw [joinX_two] at ha
            have hc : PT r c (d :: l) := h.sufs [] c (d :: l) ho
            have first : ∀ a ∈ altF (catX [D1 c b, catX (d :: l)]), Res1 r w a := by
              obtain ⟨t', h1, h2⟩ := catX_pos hc (D1 c b)
              rw [h2]
              exact res_app h1 hw rfl (res_one b _ c (Nat.le_refl _))
            have second : ∀ a ∈ altF (D1 (catX (d :: l)) b), Res1 r w a := ihm c (d :: l) hc (by have := size_pos c; simp only [sizes] at hsz ⊢; omega)
            rw [D1_cat rfl] at ha
            split at ha
            · refine res_alt (fun x hx => ?_) a ha
              rcases List.mem_cons.1 hx with rfl | hx
              · exact first
              · rw [List.mem_singleton.1 hx]; exact second
            · exact first a ha
  exact key _ q t h (Nat.le_refl _)
theorem derS_snoc (r : Rx) (u : List UInt8) (b : UInt8) : derS r (u ++ [b]) = D1 (derS r u) b := by unfold derS; rw [List.foldl_append]; rfl
theorem res_all : ∀ (k : Nat) (w : List UInt8), w.length ≤ k → ∀ (n : Nat) (r : Rx), size r ≤ n → ∀ a ∈ altF (derS r w), Res1 r w a := by
  intro k
  induction k with
  | zero =>
    intro w hw n r _ a ha
    have : w = [] := List.eq_nil_of_length_eq_zero (by omega)
    subst this
    exact altF_pos .root ha
  | succ k ih =>
    intro w hw
    rcases List.eq_nil_or_concat w with rfl | ⟨u, b, rfl⟩
    · intro n r _ a ha
      exact altF_pos .root ha
    · rw [List.concat_eq_append] at hw ⊢
      have hu : u.length ≤ k := by simp at hw; omega
      have hb : [b] <:+ u ++ [b] := List.suffix_append _ _
      intro n
      induction n with
      | zero => intro r h; have := size_pos r; omega
      | succ n ihn =>
        intro r hr a ha
        rw [derS_snoc] at ha
        have hold := ih u hu _ r (Nat.le_refl _)
        have step : ∀ x, Res1 r u x → ∀ a ∈ altF (D1 x b), Res1 r (u ++ [b]) a := by
          intro x hx a ha
          rcases hx with rfl | hx | ⟨q, t, v, ⟨h1, _⟩, h2, h3, rfl⟩
          · rw [D1_emp] at ha; cases ha
          · exact ((res_one b _ x (Nat.le_refl _) a ha).comp hx).mono hb
          · have hv : v ++ [b] <:+ u ++ [b] := by
              obtain ⟨p, rfl⟩ := h3
              exact ⟨p, by rw [List.append_assoc]⟩
            have hS : ∀ a ∈ altF (derS q (v ++ [b])), Res1 q (v ++ [b]) a := by
              by_cases hl : v.length < u.length
              · exact ih (v ++ [b]) (by simp; omega) _ q (Nat.le_refl _)
              · have : v = u := h3.eq_of_length (by have := h3.length_le; omega)
                subst this
                exact ihn q (by have := h1.small h2; omega)
            have first : ∀ a ∈ altF (catX [D1 (derS q v) b, catX t]), Res1 r (u ++ [b]) a := by
              obtain ⟨t', g1, g2⟩ := catX_pos h1 (D1 (derS q v) b)
              rw [g2]
              rw [← derS_snoc]
              exact res_app g1 hv rfl hS
            have second : ∀ a ∈ altF (D1 (catX t) b), Res1 r (u ++ [b]) a := res_start h1 hb
            rw [D1_cat rfl] at ha
            split at ha
            · refine res_alt (fun x hx => ?_) a ha
              rcases List.mem_cons.1 hx with rfl | hx
              · exact first
              · rw [List.mem_singleton.1 hx]; exact second
            · exact first a ha
        by_cases k4 : (derS r u).kind = 4
        · rw [D1_alt k4] at ha
          refine res_alt (fun y hy => ?_) a ha
          obtain ⟨x, hx, rfl⟩ := List.mem_map.1 hy
          exact step x (hold x (by rw [altF_alt k4]; exact hx))
        · by_cases k0 : (derS r u).kind = 0
          · rw [D1_else (by omega) (by omega) (by omega) (by omega)] at ha
            cases ha
          · exact step _ (hold _ (by rw [altF_one k4 k0]; exact List.mem_singleton.2 rfl)) a ha
theorem res_der (r : Rx) (w : List UInt8) : ∀ a ∈ altF (derS r w), Res1 r w a := res_all _ w (Nat.le_refl _) _ r (Nat.le_refl _)
end Go.Rx
end
section
open Go Go.Proofs Go.Ab Go.Rf
set_option maxRecDepth 100000
namespace Go.Rx
mutual
def cd : Rx → Nat
  | .mk k _ _ _ _ l => if k = 3 then 1 + cds l else 0
def cds : List Rx → Nat
  | [] => 0
  | x :: l => max (cd x) (cds l)
end
theorem cds_append : ∀ l m : List Rx, cds (l ++ m) = max (cds l) (cds m)
  | [], m => by simp [cds]
  | x :: l, m => by simp only [List.cons_append, cds, cds_append l m]; omega
theorem cd_cat {x : Rx} (k : x.kind = 3) : cd x = 1 + cds x.subs := by
  cases x with | mk k' a b c d l => simp only [cd]; rw [if_pos (show k' = 3 from k)]; rfl
theorem cd_non {x : Rx} (k : x.kind ≠ 3) : cd x = 0 := by
  cases x with | mk k' a b c d l => simp only [cd]; rw [if_neg (show ¬ k' = 3 from k)]
theorem cds_catF (x : Rx) : cds (catF x) ≤ cd x - 1 := by
  unfold catF
  split
  · rename_i k; rw [cd_cat k]; omega
  · split
    · simp [cds]
    · rename_i k _; simp [cds, cd_non k]
theorem cds_outC : ∀ l : List Rx, cds (outC l) ≤ cds l - 1
  | [] => by simp [outC, cds]
  | x :: l => by
    have h1 := cds_outC l
    have h2 := cds_catF x
    rw [outC_cons, cds_append]
    simp only [cds]; omega
theorem outC_stable : ∀ l : List Rx, cds l = 0 → outC (outC l) = outC l
  | [], _ => rfl
  | x :: l, h => by
    simp only [cds] at h
    have hx : cd x = 0 := by omega
    have hl := outC_stable l (by omega)
    have k : x.kind ≠ 3 := fun k => by rw [cd_cat k] at hx; omega
    rw [outC_cons, outC_append, hl]
    congr 1
    unfold catF
    rw [if_neg k]
    split
    · rfl
    · rename_i k1; simp [outC, catF, k, k1]
theorem Fi_fix {m : List Rx} (h : outC m = m) : ∀ i, Fi i m = m
  | 0 => rfl
  | i + 1 => by show Fi i (outC m) = m; rw [h]; exact Fi_fix h i
theorem Fi_stable : ∀ (d : Nat) (l : List Rx), cds l ≤ d → ∀ i, Fi (d + 1 + i) l = Fi (d + 1) l
  | 0, l, h, i => by
    have e := outC_stable l (by omega)
    show Fi (0 + 1 + i) l = Fi 0 (outC l)
    rw [show 0 + 1 + i = i + 1 by omega]
    exact Fi_fix e i
  | d + 1, l, h, i => by
    have := cds_outC l
    rw [show d + 1 + 1 + i = (d + 1 + i) + 1 by omega]
    exact Fi_stable d (outC l) (by omega) i
def Vs (j : Nat) (tl : List Rx) : List (List Rx) := if tl.length = 0 then [[]] else (List.range (cds tl + 2 - j)).map fun i => Fi (i + j) tl
theorem Fi_nil : ∀ i, Fi i [] = []
  | 0 => rfl
  | i + 1 => Fi_nil i
theorem mem_Vs {j i : Nat} (hj : j ≤ 1) (hi : j ≤ i) (tl : List Rx) : Fi i tl ∈ Vs j tl := by
  unfold Vs
  split
  · rename_i h
    have : tl = [] := List.eq_nil_of_length_eq_zero h
    subst this
    rw [Fi_nil]; exact List.mem_singleton.2 rfl
  · by_cases hi' : i ≤ cds tl + 1
    · exact List.mem_map.2 ⟨i - j, List.mem_range.2 (by omega), by rw [show i - j + j = i by omega]⟩
    · refine List.mem_map.2 ⟨cds tl + 1 - j, List.mem_range.2 (by omega), ?_⟩
      have := Fi_stable (cds tl) tl (Nat.le_refl _) (i - (cds tl + 1))
      rw [show cds tl + 1 + (i - (cds tl + 1)) = i by omega] at this
      rw [show cds tl + 1 - j + j = cds tl + 1 by omega]
      exact this.symm
def ext (j : Nat) (tl : List Rx) (T : List (List Rx)) : List (List Rx) := T.flatMap fun t => (Vs j tl).map fun v => v ++ t
mutual
def pts (j : Nat) : Rx → List (List Rx) → List (Rx × List Rx)
  | .mk k a b c d l, T => T.map (fun t => (.mk k a b c d l, t)) ++ (if k = 5 then ptsS j l (.mk k a b c d l) T else if k = 4 then ptsA j l T else if k = 3 then ptsC j l T else [])
def ptsS (j : Nat) : List Rx → Rx → List (List Rx) → List (Rx × List Rx)
  | [], _, _ => []
  | x :: _, e, T => pts j x (T.map (e :: ·))
def ptsA (j : Nat) : List Rx → List (List Rx) → List (Rx × List Rx)
  | [], _ => []
  | x :: l, T => pts j x T ++ ptsA j l T
def ptsC (j : Nat) : List Rx → List (List Rx) → List (Rx × List Rx)
  | [], _ => []
  | x :: l, T => pts j x (ext j l T) ++ ptsC j l T
end
theorem mem_ptsA {j : Nat} {p : Rx × List Rx} {T : List (List Rx)} : ∀ {l : List Rx}, p ∈ ptsA j l T ↔ ∃ x ∈ l, p ∈ pts j x T
  | [] => by simp [ptsA]
  | x :: l => by simp [ptsA, mem_ptsA (l := l)]
theorem mem_ptsC {j : Nat} {p : Rx × List Rx} {T : List (List Rx)} : ∀ {l : List Rx}, p ∈ ptsC j l T ↔ ∃ l1 x tl, l = l1 ++ x :: tl ∧ p ∈ pts j x (ext j tl T)
  | [] => by simp [ptsC]
  | y :: l => by
    simp only [ptsC, List.mem_append, mem_ptsC (l := l)]
    constructor
    · rintro (h | ⟨l1, x, tl, rfl, h⟩)
      · exact ⟨[], y, l, rfl, h⟩
      · exact ⟨y :: l1, x, tl, rfl, h⟩
    · rintro ⟨l1, x, tl, e, h⟩
      cases l1 with
      | nil => simp at e; obtain ⟨rfl, rfl⟩ := e; exact .inl h
      | cons z l1 => simp at e; obtain ⟨rfl, rfl⟩ := e; exact .inr ⟨l1, x, tl, rfl, h⟩
theorem pts_eq (j : Nat) (e : Rx) (T : List (List Rx)) : pts j e T = T.map (fun t => (e, t)) ++ (if e.kind = 5 then ptsS j e.subs e T else if e.kind = 4 then ptsA j e.subs T else if e.kind = 3 then ptsC j e.subs T else []) := by
  cases e with | mk k a b c d l => simp only [pts, Rx.kind, Rx.subs]; rfl
theorem mem_here {j : Nat} {e : Rx} {t : List Rx} {T : List (List Rx)} (h : t ∈ T) : (e, t) ∈ pts j e T := by
  rw [pts_eq j]; exact List.mem_append_left _ (List.mem_map.2 ⟨t, h, rfl⟩)
theorem mem_ext {j i : Nat} (hj : j ≤ 1) (hi : j ≤ i) {t tl : List Rx} {T : List (List Rx)} (h : t ∈ T) : Fi i tl ++ t ∈ ext j tl T :=
  List.mem_flatMap.2 ⟨t, h, List.mem_map.2 ⟨_, mem_Vs hj hi tl, rfl⟩⟩
inductive Nx (j : Nat) : Rx → List Rx → Rx → List Rx → Prop
  | star {q t x l} (k : q.kind = 5) (e : q.subs = x :: l) : Nx j q t x (q :: t)
  | alt {q t x} (k : q.kind = 4) (e : x ∈ q.subs) : Nx j q t x t
  | cat {q t l x tl} (k : q.kind = 3) (e : q.subs = l ++ x :: tl) (i : Nat) (hi : j ≤ i) : Nx j q t x (Fi i tl ++ t)
theorem pts_next {j : Nat} (hj : j ≤ 1) : ∀ (n : Nat) (e : Rx), size e ≤ n → ∀ (T : List (List Rx)) (q : Rx) (t : List Rx) (x : Rx) (t' : List Rx), (q, t) ∈ pts j e T → Nx j q t x t' → (x, t') ∈ pts j e T := by
  intro n
  induction n with
  | zero => intro e h; have := size_pos e; omega
  | succ n ih =>
    intro e he T q t x t' hm hn
    rw [pts_eq, List.mem_append] at hm
    rw [pts_eq]
    refine List.mem_append_right _ ?_
    rcases hm with hm | hm
    · obtain ⟨t0, ht, e0⟩ := List.mem_map.1 hm
      injection e0 with e1 e2
      subst e1; subst e2
      cases hn with
      | star k es => rw [if_pos k, es]; exact mem_here (List.mem_map.2 ⟨_, ht, rfl⟩)
      | alt k es => rw [if_neg (by omega), if_pos k]; exact mem_ptsA.2 ⟨_, es, mem_here ht⟩
      | cat k es i hi => rw [if_neg (by omega), if_neg (by omega), if_pos k]; exact mem_ptsC.2 ⟨_, _, _, es, mem_here (mem_ext hj hi ht)⟩
    · split at hm
      · rename_i k
        rw [if_pos k]
        cases hs : e.subs with
        | nil => rw [hs] at hm; simp [ptsS] at hm
        | cons y l =>
          rw [hs] at hm
          have := size_cons hs
          exact ih y (by omega) _ q t x t' hm hn
      · rename_i k
        rw [if_neg k]
        split at hm
        · rename_i k
          rw [if_pos k]
          obtain ⟨y, hy, h1⟩ := mem_ptsA.1 hm
          have := size_mem hy
          exact mem_ptsA.2 ⟨y, hy, ih y (by omega) _ q t x t' h1 hn⟩
        · rename_i k
          rw [if_neg k]
          split at hm
          · rename_i k
            rw [if_pos k]
            obtain ⟨l1, y, tl, hy, h1⟩ := mem_ptsC.1 hm
            have : y ∈ e.subs := by rw [hy]; simp
            have := size_mem this
            exact mem_ptsC.2 ⟨l1, y, tl, hy, ih y (by omega) _ q t x t' h1 hn⟩
          · cases hm
theorem PT.mem {r q : Rx} {t : List Rx} (h : PT r q t) : (q, t) ∈ pts 0 r [[]] := by
  induction h with
  | root => exact mem_here (List.mem_singleton.2 rfl)
  | star k e h ih => exact pts_next (Nat.zero_le 1) _ r (Nat.le_refl _) _ _ _ _ _ ih (.star k e)
  | alt k e h ih => exact pts_next (Nat.zero_le 1) _ r (Nat.le_refl _) _ _ _ _ _ ih (.alt k e)
  | cat k e i h ih => exact pts_next (Nat.zero_le 1) _ r (Nat.le_refl _) _ _ _ _ _ ih (.cat k e i (Nat.zero_le i))
theorem PT.memF {r q : Rx} {t : List Rx} (h : PT r q t) : (q, outC t) ∈ pts 1 r [[]] := by
  induction h with
  | root => exact mem_here (List.mem_singleton.2 rfl)
  | @star q t x l k e h ih =>
    have : outC (q :: t) = q :: outC t := by rw [outC_cons]; simp [catF, k]
    rw [this]
    exact pts_next (Nat.le_refl 1) _ r (Nat.le_refl _) _ _ _ _ _ ih (.star k e)
  | alt k e h ih => exact pts_next (Nat.le_refl 1) _ r (Nat.le_refl _) _ _ _ _ _ ih (.alt k e)
  | @cat q t l x tl k e i h ih =>
    rw [outC_append, Fi_out]
    exact pts_next (Nat.le_refl 1) _ r (Nat.le_refl _) _ _ _ _ _ ih (.cat k e (i + 1) (by omega))
def vl (j : Nat) (tl : List Rx) : Nat := if tl.length = 0 then 1 else cds tl + 2 - j
mutual
def mm (j : Nat) : Rx → Nat
  | .mk k _ _ _ _ l => 1 + (if k = 5 then mS j l else if k = 4 then mA j l else if k = 3 then mC j l else 0)
def mS (j : Nat) : List Rx → Nat
  | [] => 0
  | x :: _ => mm j x
def mA (j : Nat) : List Rx → Nat
  | [] => 0
  | x :: l => mm j x + mA j l
def mC (j : Nat) : List Rx → Nat
  | [] => 0
  | x :: l => vl j l * mm j x + mC j l
end
theorem length_Vs (j : Nat) (tl : List Rx) : (Vs j tl).length = vl j tl := by unfold Vs vl; split <;> simp
theorem length_ext (j : Nat) (tl : List Rx) : ∀ T : List (List Rx), (ext j tl T).length = T.length * vl j tl
  | [] => by simp [ext]
  | t :: T => by
    have := length_ext j tl T
    unfold ext at this ⊢
    rw [List.flatMap_cons, List.length_append, this, List.length_map, length_Vs, List.length_cons, Nat.succ_mul]; omega
theorem mm_eq (j : Nat) (e : Rx) : mm j e = 1 + (if e.kind = 5 then mS j e.subs else if e.kind = 4 then mA j e.subs else if e.kind = 3 then mC j e.subs else 0) := by
  cases e with | mk k a b c d l => simp only [mm, Rx.kind, Rx.subs]; rfl
theorem length_pts (j : Nat) : ∀ (n : Nat) (e : Rx), size e ≤ n → ∀ T : List (List Rx), (pts j e T).length = T.length * mm j e := by
  intro n
  induction n with
  | zero => intro e h; have := size_pos e; omega
  | succ n ih =>
    intro e he T
    have hA : ∀ l : List Rx, (∀ x ∈ l, size x ≤ n) → (ptsA j l T).length = T.length * mA j l := by
      intro l
      induction l with
      | nil => intro _; simp [ptsA, mA]
      | cons x l ihl =>
        intro h
        simp only [ptsA, mA, List.length_append]
        rw [ih x (h x (List.mem_cons_self ..)) T, ihl fun y hy => h y (List.mem_cons_of_mem _ hy), Nat.mul_add]
    have hC : ∀ l : List Rx, (∀ x ∈ l, size x ≤ n) → (ptsC j l T).length = T.length * mC j l := by
      intro l
      induction l with
      | nil => intro _; simp [ptsC, mC]
      | cons x l ihl =>
        intro h
        simp only [ptsC, mC, List.length_append]
        rw [ih x (h x (List.mem_cons_self ..)) _, length_ext, ihl fun y hy => h y (List.mem_cons_of_mem _ hy), Nat.mul_add, Nat.mul_assoc]
    have hs : ∀ x ∈ e.subs, size x ≤ n := fun x hx => by have := size_mem hx; omega
    rw [pts_eq, mm_eq, List.length_append, List.length_map, Nat.mul_add, Nat.mul_one]
    congr 1
    split
    · cases hl : e.subs with
      | nil => simp [ptsS, mS]
      | cons x l =>
        simp only [ptsS, mS]
        rw [ih x (hs x (by rw [hl]; simp)), List.length_map]
    · split
      · exact hA _ hs
      · split
        · exact hC _ hs
        · simp
def sufs : List UInt8 → List (List UInt8)
  | [] => [[]]
  | b :: w => (b :: w) :: sufs w
theorem length_sufs : ∀ w : List UInt8, (sufs w).length = w.length + 1
  | [] => rfl
  | b :: w => by simp [sufs, length_sufs w]
theorem mem_sufs {v : List UInt8} : ∀ {w : List UInt8}, v <:+ w → v ∈ sufs w
  | [], h => by rw [List.suffix_nil.1 h]; exact List.mem_singleton.2 rfl
  | b :: w, h => by
    rcases List.suffix_cons_iff.1 h with rfl | h
    · exact List.mem_cons_self ..
    · exact List.mem_cons_of_mem _ (mem_sufs h)
def cand (r : Rx) (w : List UInt8) : List Rx :=
  empX :: ((pts 0 r [[]]).map (·.1) ++ ((pts 0 r [[]]).map (fun p => mk0 3 (p.1 :: p.2)) ++ (pts 1 r [[]]).flatMap fun p => (sufs w).map fun v => mk0 3 (derS p.1 v :: p.2)))
theorem mem_cand {r a : Rx} {w : List UInt8} (h : Res1 r w a) : a ∈ cand r w := by
  rcases h with h | h | ⟨q, t, v, ⟨h1, hv⟩, h2, h3, h4⟩
  · subst h; exact List.mem_cons_self ..
  · exact List.mem_cons_of_mem _ (List.mem_append_left _ (List.mem_map.2 ⟨_, h.mem, rfl⟩))
  · refine List.mem_cons_of_mem _ (List.mem_append_right _ ?_)
    by_cases e : v = []
    · subst e
      exact List.mem_append_left _ (List.mem_map.2 ⟨_, h1.mem, h4.symm⟩)
    · obtain ⟨t0, g1, g2⟩ := hv e
      subst g2
      exact List.mem_append_right _ (List.mem_flatMap.2 ⟨_, g1.memF, List.mem_map.2 ⟨v, mem_sufs h3, h4.symm⟩⟩)
theorem flatMap_len {α β : Type} {f : α → List β} {n : Nat} (h : ∀ x, (f x).length = n) : ∀ l : List α, (l.flatMap f).length = l.length * n
  | [] => by simp
  | x :: l => by rw [List.flatMap_cons, List.length_append, h, flatMap_len h l, List.length_cons, Nat.succ_mul]; omega
theorem length_cand (r : Rx) (w : List UInt8) : (cand r w).length = 2 * mm 0 r + (w.length + 1) * mm 1 r + 1 := by
  have h0 := length_pts 0 _ r (Nat.le_refl _) [[]]
  have h1 := length_pts 1 _ r (Nat.le_refl _) [[]]
  simp only [List.length_singleton, Nat.one_mul] at h0 h1
  unfold cand
  rw [List.length_cons, List.length_append, List.length_append, List.length_map, List.length_map, flatMap_len (n := w.length + 1) (fun p => by rw [List.length_map, length_sufs]), h0, h1, Nat.mul_comm (w.length + 1)]
  omega
theorem nodup_len {α : Type} : ∀ {l m : List α}, l.Nodup → (∀ x ∈ l, x ∈ m) → l.length ≤ m.length
  | [], _, _, _ => Nat.zero_le _
  | x :: l, m, hn, h => by
    obtain ⟨a, b, rfl⟩ := List.append_of_mem (h x (List.mem_cons_self ..))
    have hn' := List.nodup_cons.1 hn
    have := nodup_len (m := a ++ b) hn'.2 fun y hy => by
      have h1 := h y (List.mem_cons_of_mem _ hy)
      rw [List.mem_append, List.mem_cons] at h1
      rw [List.mem_append]
      rcases h1 with h1 | rfl | h1
      · exact .inl h1
      · exact absurd hy hn'.1
      · exact .inr h1
    simp only [List.length_append, List.length_cons] at this ⊢
    omega
theorem nodup_addX {out : List Rx} {x : Rx} (h : out.Nodup) : (addX out x).Nodup := by
  unfold addX
  split
  · exact h
  · rename_i hne
    rw [List.nodup_append]
    refine ⟨h, List.nodup_cons.2 ⟨by simp, List.nodup_nil⟩, fun a ha b hb e => hne ?_⟩
    rw [List.mem_singleton.1 hb] at e
    subst e
    exact List.any_eq_true.2 ⟨a, ha, eqX_iff.2 rfl⟩
theorem nodup_foldl : ∀ (l out : List Rx), out.Nodup → (l.foldl addX out).Nodup
  | [], _, h => h
  | x :: l, out, h => nodup_foldl l _ (nodup_addX h)
theorem outA_len {r : Rx} {w : List UInt8} {ls : List Rx} (h : ∀ l ∈ ls, ∀ a ∈ altF l, Res1 r w a) : (outA ls).length ≤ 2 * mm 0 r + (w.length + 1) * mm 1 r + 1 := by
  rw [← length_cand]
  refine nodup_len (nodup_foldl _ _ List.nodup_nil) fun a ha => ?_
  obtain ⟨l, h1, h2⟩ := mem_outA ha
  exact mem_cand (h l h1 a h2)
end Go.Rx
end
