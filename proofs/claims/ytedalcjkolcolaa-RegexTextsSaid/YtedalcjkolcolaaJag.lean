/- Part 7 of the proof: RxB, RxSet, RxByte, RxCls, RxIdx, RxChk, RxSize, RxNull, RxSpec, RxPp, RxPq, RxPr, RxFuel, RxParse, RxCmp, RxDer, RxDrv, RxMat, RxOpen, RxTop, RxCtx, RxTxt. -/
import Derived.Laws.Externs
import Derived.Test.YtedalcjkolcolaaRows
import Derived.WalkKit
import Derived.ProofKit
import Derived.OpenShut
import Derived.JoinedOf
import Derived.Deep.Slices
import Derived.Carry
import Derived.Test.YtedalcjkolcolaaJaf
set_option linter.unusedVariables false
set_option linter.unusedSimpArgs false
section
open Go Go.Ab Go.Rf
set_option linter.unusedSimpArgs false
namespace Go.Rx
inductive Rx where
 | mk (kind s0 s1 s2 s3 : Int) (subs : List Rx)
mutual
def enc : Rx -> List D
 | .mk k a b c d l => [.lit (.int .i64 k), .lit (.int .u64 a), .lit (.int .u64 b), .lit (.int .u64 c), .lit (.int .u64 d), .slc (encs l)]
def encs : List Rx -> List (List D)
 | [] => []
 | r :: l => enc r :: encs l
end
mutual
def size : Rx -> Nat
 | .mk _ _ _ _ _ l => 1 + Zam l
def Zam : List Rx -> Nat
 | [] => 0
 | r :: l => size r + Zam l
end
def Rx.kind : Rx -> Int | .mk k _ _ _ _ _ => k
def Rx.subs : Rx -> List Rx | .mk _ _ _ _ _ l => l
def Rx.w (r : Rx) (i : Nat) : Int := match r, i with | .mk _ a _ _ _ _, 0 => a | .mk _ _ b _ _ _, 1 => b | .mk _ _ _ c _ _, 2 => c | .mk _ _ _ _ d _, _ => d
@[simp] theorem Zab : ∀ l, (encs l).length = l.length
  | [] => rfl
  | r :: l => by simp [encs, Zab l]
@[simp] theorem Zii : ∀ (l : List Rx) (i : Nat), (encs l)[i]? = (l[i]?).map enc
  | [], i => by simp [encs]
  | r :: l, 0 => by simp [encs]
  | r :: l, i + 1 => by simp [encs, Zii l i]
@[simp] theorem Zbn : ∀ (l m : List Rx), encs l ++ encs m = encs (l ++ m)
  | [], m => rfl
  | r :: l, m => by simp [encs, Zbn l m]
@[simp] theorem Z7d : ([] : List (List D)) = encs [] := rfl
@[simp] theorem Ze7 (r : Rx) : (enc r).length = 6 := by cases r; simp [enc]
@[simp] theorem enc0 (r : Rx) : (enc r).getD 0 D0 = .lit (.int .i64 r.kind) := by cases r; simp [enc, Rx.kind]
@[simp] theorem enc1 (r : Rx) : (enc r).getD 1 D0 = .lit (.int .u64 (r.w 0)) := by cases r; simp [enc, Rx.w]
@[simp] theorem enc2 (r : Rx) : (enc r).getD 2 D0 = .lit (.int .u64 (r.w 1)) := by cases r; simp [enc, Rx.w]
@[simp] theorem enc3 (r : Rx) : (enc r).getD 3 D0 = .lit (.int .u64 (r.w 2)) := by cases r; simp [enc, Rx.w]
@[simp] theorem enc4 (r : Rx) : (enc r).getD 4 D0 = .lit (.int .u64 (r.w 3)) := by cases r; simp [enc, Rx.w]
@[simp] theorem enc5 (r : Rx) : (enc r).getD 5 D0 = .slc (encs r.subs) := by cases r; simp [enc, Rx.subs]
@[simp] theorem Z7y (r : Rx) (h : 0 < (enc r).length) : (enc r)[0] = .lit (.int .i64 r.kind) := by cases r; simp [enc, Rx.kind, Rx.w, Rx.subs]
@[simp] theorem Z7z (r : Rx) (h : 1 < (enc r).length) : (enc r)[1] = .lit (.int .u64 (r.w 0)) := by cases r; simp [enc, Rx.kind, Rx.w, Rx.subs]
@[simp] theorem Z70 (r : Rx) (h : 2 < (enc r).length) : (enc r)[2] = .lit (.int .u64 (r.w 1)) := by cases r; simp [enc, Rx.kind, Rx.w, Rx.subs]
@[simp] theorem Z71 (r : Rx) (h : 3 < (enc r).length) : (enc r)[3] = .lit (.int .u64 (r.w 2)) := by cases r; simp [enc, Rx.kind, Rx.w, Rx.subs]
@[simp] theorem Z72 (r : Rx) (h : 4 < (enc r).length) : (enc r)[4] = .lit (.int .u64 (r.w 3)) := by cases r; simp [enc, Rx.kind, Rx.w, Rx.subs]
@[simp] theorem Z73 (r : Rx) (h : 5 < (enc r).length) : (enc r)[5] = .slc (encs r.subs) := by cases r; simp [enc, Rx.kind, Rx.w, Rx.subs]
theorem Zaq {l : List Rx} {i : Nat} {x : Int} (hx : x = i) (h : i < l.length) : gAt (encs l) x = enc l[i] := by
 subst hx
 have h2 := Zii l i
 rw [List.getElem?_eq_getElem h] at h2
 simp only [gAt, List.getD, Int.toNat_natCast, h2]
 rfl
@[simp] theorem isK_int (k : IntKind) (n : Int) : Rf.isK (.int k) (.lit (.int k n)) = true := by simp [Rf.isK]
@[simp] theorem isK_bool (b : Bool) : Rf.isK .bool (.lit (.bool b)) = true := rfl
@[simp] theorem isK_slc (l : List (List D)) : Rf.isK .slc (.slc l) = true := rfl
@[simp] theorem Zar (k : IntKind) (n : Int) : Rf.dint (.lit (.int k n)) = n := rfl
@[simp] theorem Z5o (b : Bool) : Rf.dbool (.lit (.bool b)) = b := rfl
@[simp] theorem Zaw (l : List (List D)) : Rf.dlst (.slc l) = l := rfl
def Ret (v : A) : Out -> List (Ref × List A) -> Prop := fun o H => o = .ret v /\ H = []
@[simp] theorem Zfn {v u : A} {H : List (Ref × List A)} : Ret v (.ret u) H ↔ u = v /\ H = [] := by simp [Ret]
@[simp] theorem Z7n {v : A} {u : Value} {H : List (Ref × List A)} : Ret v (.pan u) H ↔ False := by simp [Ret]
theorem Zae {P : Program} {f : Nat} {args : List A} {v : A} (hc : Holds P f args [] (Ret v)) {Q1 : A -> List (Ref × List A) -> Prop} {Q2 : Value -> List (Ref × List A) -> Prop} (h : Q1 v []) :
 ∀ _ : Nat -> Nat, ∃ R' : Out -> List (Ref × List A) -> Prop, Holds P f args [] R' /\ (∀ v H', R' (.ret v) H' -> Q1 v H') /\ (∀ u H', R' (.pan u) H' -> Q2 u H') :=
 fun _ => ⟨_, hc, fun v' H' e => by obtain ⟨e1, rfl⟩ := e; cases e1; exact h, fun u H' e => by cases e.1⟩
theorem Zgq : ∀ (l : List Rx) (k : Nat) (h : k < l.length), Zam (l.take (k+1)) = Zam (l.take k) + size l[k]
 | r :: l, 0, _ => by simp [Zam]
 | r :: l, k + 1, h => by
   have := Zgq l k (by simpa using h)
   simp [Zam, this]; omega
theorem Zgr : ∀ (l : List Rx) (k : Nat), Zam (l.take k) <= Zam l
 | [], k => by simp [Zam]
 | r :: l, 0 => by simp [Zam]
 | r :: l, k + 1 => by have := Zgr l k; simp [Zam]; omega
theorem Zaf (r : Rx) : 1 <= size r := by cases r; simp [size]
theorem Zfo : ∀ (l : List Rx), l.length <= Zam l
 | [] => by simp [Zam]
 | r :: l => by have := Zfo l; have := Zaf r; simp [Zam]; omega
theorem Zb1 (r : Rx) : size r = 1 + Zam r.subs := by cases r; rfl
theorem Zbc {r : Rx} {i : Nat} (h : i < r.subs.length) : size r.subs[i] < size r := by
 have h1 := Zgq r.subs i h
 have h2 := Zgr r.subs (i + 1)
 have h3 := Zb1 r
 omega
mutual
def lens (B : Nat) : Rx -> Prop
 | .mk _ _ _ _ _ l => l.length <= B /\ Zyv B l
def Zyv (B : Nat) : List Rx -> Prop
 | [] => True
 | r :: l => lens B r /\ Zyv B l
end
theorem Zql {B : Nat} : ∀ {l : List Rx}, Zyv B l ↔ ∀ r ∈ l, lens B r
 | [] => by simp [Zyv]
 | r :: l => by simp [Zyv, Zql (l := l)]
theorem Zb6 {B : Nat} {r : Rx} : lens B r ↔ r.subs.length <= B /\ ∀ x ∈ r.subs, lens B x := by
 cases r with | mk k a b c d l => simp [lens, Rx.subs, Zql]
theorem Zdd {B : Nat} {r : Rx} (h : lens B r) {i : Nat} (hi : i < r.subs.length) : lens B r.subs[i] := (Zb6.1 h).2 _ (List.getElem_mem hi)
theorem Zgc {B C : Nat} (h : B <= C) : ∀ (n : Nat) (r : Rx), size r <= n -> lens B r -> lens C r
 | 0, r, hs, _ => by have := Zaf r; omega
 | n + 1, r, hs, hr => by
   rw [Zb6] at hr ⊢
   refine ⟨Nat.le_trans hr.1 h, fun x hx => ?_⟩
   obtain ⟨i, hi, rfl⟩ := List.mem_iff_getElem.1 hx
   exact Zgc h n _ (by have := Zbc hi; omega) (hr.2 _ hx)
theorem Zij {B : Nat} : ∀ (n : Nat) (r : Rx), size r <= n -> n <= B -> lens B r
 | 0, r, hs, _ => by have := Zaf r; omega
 | n + 1, r, hs, hB => by
   rw [Zb6]
   refine ⟨?_, fun x hx => ?_⟩
   ·have := Zb1 r; have := Zfo r.subs; omega
   ·obtain ⟨i, hi, rfl⟩ := List.mem_iff_getElem.1 hx
    exact Zij n _ (by have := Zbc hi; omega) (by omega)
end Go.Rx
end
section
open Go Go.Proofs Go.Ab Go.Rf
set_option maxRecDepth 100000
namespace Go.Rx
def wdA (p : Nat -> Bool) (k : Nat) : Nat -> Nat
 | 0 => 0
 | n + 1 => wdA p k n + if p (64 * k + n) then 2 ^ n else 0
def wd (p : Nat -> Bool) (k : Nat) : Nat := wdA p k 64
theorem Zyw (p : Nat -> Bool) (k : Nat) : ∀ n, wdA p k n < 2 ^ n
 | 0 => by simp [wdA]
 | n + 1 => by
   have := Zyw p k n
   simp only [wdA, Nat.pow_succ]
   split <;> omega
theorem Zyx (p : Nat -> Bool) (k : Nat) : ∀ n j, (wdA p k n).testBit j = (decide (j < n) && p (64 * k + j))
 | 0, j => by simp [wdA]
 | n + 1, j => by
   have hlt := Zyw p k n
   have ih := Zyx p k n
   simp only [wdA]
   by_cases hp : p (64 * k + n) = true
   ·rw [if_pos hp, Nat.add_comm]
    by_cases hj : j = n
    ·subst hj
     rw [Nat.testBit_two_pow_add_eq, ih]
     simp [hp]
    ·rcases Nat.lt_or_gt_of_ne hj with h | h
     ·rw [Nat.testBit_two_pow_add_gt h, ih]
      simp [h, Nat.lt_succ_of_lt h]
     ·rw [Nat.testBit_lt_two_pow (Nat.lt_of_lt_of_le (show 2 ^ n + wdA p k n < 2 ^ (n + 1) by rw [Nat.pow_succ]; omega) (Nat.pow_le_pow_right (by decide) h))]
      have : ¬ j < n + 1 := by omega
      simp [this]
   ·rw [if_neg hp, Nat.add_zero, ih]
    by_cases hj : j = n
    ·subst hj; simp [hp]
    ·have : (j < n + 1) = (j < n) := by simp; omega
     simp [this]
theorem Zmz (p : Nat -> Bool) (k j : Nat) : (wd p k).testBit j = (decide (j < 64) && p (64 * k + j)) := Zyx p k 64 j
theorem Zhl (p : Nat -> Bool) (k : Nat) : wd p k < 2 ^ 64 := Zyw p k 64
theorem Zn6 {p : Nat -> Bool} {k w : Nat} (h : w < 2 ^ 64) (hb : ∀ j < 64, w.testBit j = p (64 * k + j)) : wd p k = w := by
 refine Nat.eq_of_testBit_eq fun j => ?_
 rw [Zmz]
 by_cases hj : j < 64
 ·simp [hj, hb j hj]
 ·rw [Nat.testBit_lt_two_pow (Nat.lt_of_lt_of_le h (Nat.pow_le_pow_right (by decide) (by omega)))]
  simp [hj]
def row4 (p : Nat -> Bool) : List D := [.lit (.int .u64 (wd p 0)), .lit (.int .u64 (wd p 1)), .lit (.int .u64 (wd p 2)), .lit (.int .u64 (wd p 3))]
theorem Zj1 (n : Nat) (h : n < 2 ^ 64) : IntKind.wrap .u64 (n : Int) = n := by
 have e1 : IntKind.signed .u64 = false := rfl
 have e2 : IntKind.bits .u64 = 64 := rfl
 simp [IntKind.wrap, e1, e2]
 omega
theorem Zn7 (a b : Nat) (ha : a < 2 ^ 64) (hb : b < 2 ^ 64) : gOr .u64 (a : Int) (b : Int) = ((a ||| b : Nat) : Int) := by
 have e2 : IntKind.bits .u64 = 64 := rfl
 unfold gOr
 rw [e2]
 have : (BitVec.ofInt 64 (a : Int) ||| BitVec.ofInt 64 (b : Int)).toNat = a ||| b := by
  rw [BitVec.toNat_or, BitVec.ofInt_natCast, BitVec.ofInt_natCast, BitVec.toNat_ofNat, BitVec.toNat_ofNat, Nat.mod_eq_of_lt ha, Nat.mod_eq_of_lt hb]
 rw [this]
 exact Zj1 _ (Nat.or_lt_two_pow ha hb)
theorem Z02 (a b : Nat) (ha : a < 2 ^ 64) (hb : b < 2 ^ 64) : gAnd .u64 (a : Int) (b : Int) = ((a &&& b : Nat) : Int) := by
 have e2 : IntKind.bits .u64 = 64 := rfl
 unfold gAnd
 rw [e2]
 have : (BitVec.ofInt 64 (a : Int) &&& BitVec.ofInt 64 (b : Int)).toNat = a &&& b := by
  rw [BitVec.toNat_and, BitVec.ofInt_natCast, BitVec.ofInt_natCast, BitVec.toNat_ofNat, BitVec.toNat_ofNat, Nat.mod_eq_of_lt ha, Nat.mod_eq_of_lt hb]
 rw [this]
 exact Zj1 _ (Nat.lt_of_le_of_lt Nat.and_le_left ha)
theorem Zug (j : Nat) (h : j < 64) : gShl .u64 1 (j : Int) = ((2 ^ j : Nat) : Int) := by
 have e2 : IntKind.bits .u64 = 64 := rfl
 unfold gShl
 rw [e2]
 have e : (min ((j : Int).toNat) 64) = j := by omega
 rw [e, Int.one_mul]
 have := Zj1 (2 ^ j) (Nat.pow_lt_pow_right (by decide) h)
 rw [<- this]
 congr 1
theorem Z03 (a j : Nat) (h : j < 64) : gShr .u64 (a : Int) (j : Int) = ((a >>> j : Nat) : Int) := by
 have e2 : IntKind.bits .u64 = 64 := rfl
 unfold gShr
 rw [e2]
 have e : (min ((j : Int).toNat) 64) = j := by omega
 have h0 : (0 : Int) <= 2 ^ j := by exact_mod_cast Nat.zero_le (2 ^ j)
 rw [e, Nat.shiftRight_eq_div_pow, Int.fdiv_eq_ediv_of_nonneg _ h0, Int.natCast_ediv]
 rfl
theorem Zuh (a : Nat) (h : a < 2 ^ 64) : gNot .u64 (a : Int) = ((2 ^ 64 - 1 - a : Nat) : Int) := by
 have e2 : IntKind.bits .u64 = 64 := rfl
 have e1 : (if IntKind.signed .u64 = true then (-1 : Int) else IntKind.max .u64) = ((2 ^ 64 - 1 : Nat) : Int) := rfl
 unfold gNot
 rw [e2, e1]
 have : (BitVec.ofInt 64 ((2 ^ 64 - 1 : Nat) : Int) ^^^ BitVec.ofInt 64 (a : Int)).toNat = 2 ^ 64 - 1 - a := by
  rw [BitVec.ofInt_natCast, BitVec.ofInt_natCast]
  have : BitVec.ofNat 64 (2 ^ 64 - 1) = BitVec.allOnes 64 := rfl
  rw [this, BitVec.allOnes_xor, BitVec.toNat_not, BitVec.toNat_ofNat, Nat.mod_eq_of_lt h]
 rw [this]
 exact Zj1 _ (by omega)
theorem Z04 (p q : Nat -> Bool) (k : Nat) : wd p k ||| wd q k = wd (fun i => p i || q i) k := by
 refine (Zn6 (Nat.or_lt_two_pow (Zhl _ _) (Zhl _ _)) fun j hj => ?_).symm
 rw [Nat.testBit_or, Zmz, Zmz]
 simp [hj]
theorem Z2t (p : Nat -> Bool) (k : Nat) : 2 ^ 64 - 1 - wd p k = wd (fun i => !p i) k := by
 refine (Zn6 (by have := Zhl p k; omega) fun j hj => ?_).symm
 rw [show 2 ^ 64 - 1 - wd p k = 2 ^ 64 - (wd p k + 1) by omega, Nat.testBit_two_pow_sub_succ (Zhl _ _), Zmz]
 simp [hj]
theorem Z2u (k j : Nat) (h : j < 64) : wd (fun i => decide (i = 64 * k + j)) k = 2 ^ j := by
 refine Zn6 (Nat.pow_lt_pow_right (by decide) h) fun i hi => ?_
 rw [Nat.testBit_two_pow]
 by_cases e : j = i
 ·subst e; simp
 ·have : ¬ i = j := fun h => e h.symm
  simp [e, this]
theorem Zep {p q : Nat -> Bool} {k : Nat} (h : ∀ i, 64 * k <= i -> i < 64 * k + 64 -> p i = q i) : wd p k = wd q k :=
 Zn6 (Zhl _ _) fun j hj => by rw [Zmz, h _ (by omega) (by omega)]; simp [hj]
theorem Zi9 {p q : Nat -> Bool} (h : ∀ i < 256, p i = q i) : row4 p = row4 q := by
 unfold row4
 rw [Zep (p := p) (q := q) (k := 0) fun i _ h2 => h i (by omega), Zep (p := p) (q := q) (k := 1) fun i _ h2 => h i (by omega), Zep (p := p) (q := q) (k := 2) fun i _ h2 => h i (by omega), Zep (p := p) (q := q) (k := 3) fun i _ h2 => h i (by omega)]
@[simp] theorem Zlf (p : Nat -> Bool) : (row4 p).length = 4 := rfl
@[simp] theorem Z2v (p : Nat -> Bool) : (row4 p).getD 0 D0 = .lit (.int .u64 (wd p 0)) := rfl
@[simp] theorem Z2w (p : Nat -> Bool) : (row4 p).getD 1 D0 = .lit (.int .u64 (wd p 1)) := rfl
@[simp] theorem Z2x (p : Nat -> Bool) : (row4 p).getD 2 D0 = .lit (.int .u64 (wd p 2)) := rfl
@[simp] theorem Z2y (p : Nat -> Bool) : (row4 p).getD 3 D0 = .lit (.int .u64 (wd p 3)) := rfl
theorem Zui (x : Nat) : Int.tdiv (x : Int) 64 = ((x / 64 : Nat) : Int) := rfl
theorem Zuj (x : Nat) : Int.tmod (x : Int) 64 = ((x % 64 : Nat) : Int) := rfl
theorem Zfp (n : Nat) (h : n < 256) : IntKind.wrap .u8 (n : Int) = n := by
 have e1 : IntKind.signed .u8 = false := rfl
 have e2 : IntKind.bits .u8 = 8 := rfl
 simp [IntKind.wrap, e1, e2]
 omega
theorem Zuk (p : Nat -> Bool) (k j : Nat) (h : j < 64) : (gAnd .u64 (gShr .u64 (wd p k : Int) (j : Int)) 1 == 1) = p (64 * k + j) := by
 have hlt : wd p k >>> j < 2 ^ 64 := Nat.lt_of_le_of_lt (Nat.shiftRight_le _ _) (Zhl p k)
 rw [Z03 _ _ h, show (1 : Int) = ((1 : Nat) : Int) from rfl, Z02 _ _ hlt (by decide)]
 have h1 : (wd p k >>> j) &&& 1 = (p (64 * k + j)).toNat := by
  have := Zmz p k j
  rw [decide_eq_true h, Bool.true_and] at this
  rw [<- this, Nat.testBit]
  rw [Nat.and_comm]
  have : 1 &&& wd p k >>> j = 0 \/ 1 &&& wd p k >>> j = 1 := by
   rw [Nat.and_comm, Nat.and_one_is_mod]; omega
  rcases this with e | e <;> rw [e] <;> rfl
 rw [h1]
 cases p (64 * k + j) <;> rfl
theorem c55 (p : Nat -> Bool) (x : Nat) (h : x < 256) : Holds Try.prog 55 [A.agg (row4 p), A.d (.lit (.int .u8 x))] [] (Ret (.d (.lit (.bool (p x))))) := by
 have hx : x / 64 < 4 := by omega
 have hj : x % 64 < 64 := Nat.mod_lt _ (by decide)
 have e : ∀ k, x / 64 = k -> 64 * k + x % 64 = x := fun k hk => by omega
 refine w55 (row4 p) x ?_
 simp only [Zui, Zuj, Zfp _ (show x / 64 < 256 by omega), Zlf, Z2v, Z2w, Z2x, Z2y, isK_int, Zar, Zuk p _ _ hj, Zbg, decide_eq_true_eq, beq_iff_eq, beq_eq_false_iff_ne, Zfn, and_true, true_and]
 refine ⟨rfl, by omega, by omega, fun h0 => ⟨by omega, ?_⟩, fun h0 => ⟨fun h1 => ⟨by omega, ?_⟩, fun h1 => ⟨fun h2 => ⟨by omega, ?_⟩, fun h2 => ⟨by omega, by omega, ?_⟩⟩⟩⟩
 ·rw [e 0 (by omega)]
 ·rw [e 1 (by omega)]
 ·rw [e 2 (by omega)]
 ·rw [e 3 (by omega)]
theorem c63 (p : Nat -> Bool) (x : Nat) (h : x < 256) : Holds Try.prog 63 [A.agg (row4 p), A.d (.lit (.int .u8 x))] [] (Ret (.d (.lit (.bool (p x))))) := by
 have hx : x / 64 < 4 := by omega
 have hj : x % 64 < 64 := Nat.mod_lt _ (by decide)
 have e : ∀ k, x / 64 = k -> 64 * k + x % 64 = x := fun k hk => by omega
 refine w63 (row4 p) x ?_
 simp only [Zui, Zuj, Zfp _ (show x / 64 < 256 by omega), Zlf, Z2v, Z2w, Z2x, Z2y, isK_int, Zar, Zuk p _ _ hj, Zbg, decide_eq_true_eq, beq_iff_eq, beq_eq_false_iff_ne, Zfn, and_true, true_and]
 refine ⟨rfl, by omega, by omega, fun h0 => ⟨by omega, ?_⟩, fun h0 => ⟨fun h1 => ⟨by omega, ?_⟩, fun h1 => ⟨fun h2 => ⟨by omega, ?_⟩, fun h2 => ⟨by omega, by omega, ?_⟩⟩⟩⟩
 ·rw [e 0 (by omega)]
 ·rw [e 1 (by omega)]
 ·rw [e 2 (by omega)]
 ·rw [e 3 (by omega)]
def upTo (lo n : Nat) : Nat -> Bool := fun i => decide (lo <= i /\ i < n)
theorem Zn8 {lo n : Nat} (h : lo <= n) {k : Nat} (hk : n / 64 = k) : gOr .u64 (wd (upTo lo n) k : Int) (gShl .u64 1 ((n % 64 : Nat) : Int)) = wd (upTo lo (n + 1)) k := by
 have hj : n % 64 < 64 := Nat.mod_lt _ (by decide)
 rw [Zug _ hj, Zn7 _ _ (Zhl _ _) (Nat.pow_lt_pow_right (by decide) hj), <- Z2u k _ hj, Z04]
 congr 1
 refine Zep fun i h1 h2 => ?_
 simp only [upTo]
 rw [Bool.eq_iff_iff]
 simp only [Bool.or_eq_true, decide_eq_true_eq]
 omega
theorem Zcn (lo : Nat) {n k : Nat} (hk : n / 64 ≠ k) : wd (upTo lo (n + 1)) k = wd (upTo lo n) k := by
 refine Zep fun i h1 h2 => ?_
 simp only [upTo]
 rw [Bool.eq_iff_iff]
 simp only [decide_eq_true_eq]
 omega
theorem Z05 (lo k : Nat) : wd (upTo lo lo) k = 0 := by
 refine Zn6 (by decide) fun i hi => ?_
 rw [Nat.zero_testBit]
 symm
 simp only [upTo, decide_eq_false_iff_not]
 omega
theorem c85 (lo hi : Nat) (h : hi < 256) (hl : lo < 2 ^ 40) : Holds Try.prog 85 [A.d (.lit (.int .i64 lo)), A.d (.lit (.int .i64 hi))] [] (Ret (.agg (row4 (fun i => decide (lo <= i /\ i <= hi))))) := by
 refine w85 lo hi ⟨fun x a b c d => ∃ n : Nat, x = n /\ lo <= n /\ (n <= hi + 1 \/ n = lo) /\ a = wd (upTo lo n) 0 /\ b = wd (upTo lo n) 1 /\ c = wd (upTo lo n) 2 /\ d = wd (upTo lo n) 3, fun x _ _ _ _ => (hi + 1 - x.toNat), ⟨lo, rfl, Nat.le_refl _, .inr rfl, by simp [Z05]⟩, ?_, trivial⟩
 rintro x a b c d ⟨n, rfl, hn, hn2, rfl, rfl, rfl, rfl⟩
 simp only [Zui, Zuj, Zbg, decide_eq_true_eq, decide_eq_false_iff_not, beq_iff_eq, beq_eq_false_iff_ne, Int.toNat_natCast]
 refine ⟨fun hc => ⟨by omega, by omega, by omega, by omega, fun h0 => ⟨by omega, by omega, by omega, ⟨n + 1, rfl, by omega, .inl (by omega), ?_⟩, by omega⟩, fun h0 => ⟨fun h1 => ⟨by omega, by omega, by omega, ⟨n + 1, rfl, by omega, .inl (by omega), ?_⟩, by omega⟩, fun h1 => ⟨fun h2 => ⟨by omega, by omega, by omega, ⟨n + 1, rfl, by omega, .inl (by omega), ?_⟩, by omega⟩, fun h2 => ⟨by omega, by omega, by omega, by omega, ⟨n + 1, rfl, by omega, .inl (by omega), ?_⟩, by omega⟩⟩⟩⟩, fun hc => ?_⟩
 ·have hk : n / 64 = 0 := by omega
  rw [Zn8 hn hk, Zcn lo (k := 1) (by omega), Zcn lo (k := 2) (by omega), Zcn lo (k := 3) (by omega)]
  simp
 ·have hk : n / 64 = 1 := by omega
  rw [Zn8 hn hk, Zcn lo (k := 0) (by omega), Zcn lo (k := 2) (by omega), Zcn lo (k := 3) (by omega)]
  simp
 ·have hk : n / 64 = 2 := by omega
  rw [Zn8 hn hk, Zcn lo (k := 0) (by omega), Zcn lo (k := 1) (by omega), Zcn lo (k := 3) (by omega)]
  simp
 ·have hk : n / 64 = 3 := by omega
  rw [Zn8 hn hk, Zcn lo (k := 0) (by omega), Zcn lo (k := 1) (by omega), Zcn lo (k := 2) (by omega)]
  simp
 ·have e : row4 (fun i => decide (lo <= i /\ i <= hi)) = row4 (upTo lo n) := Zi9 fun i hi => by
   simp only [upTo]
   rw [Bool.eq_iff_iff]
   simp only [decide_eq_true_eq]
   omega
  rw [e]
  simp [row4]
def part (lo hi n : Nat) : Nat -> Bool := fun i => decide (lo <= i /\ i <= hi /\ i < n)
theorem Zn9 {lo hi n : Nat} (h : lo <= n) (h' : n <= hi) {k : Nat} (hk : n / 64 = k) : gOr .u64 (wd (part lo hi n) k : Int) (gShl .u64 1 ((n % 64 : Nat) : Int)) = wd (part lo hi (n + 1)) k := by
 have hj : n % 64 < 64 := Nat.mod_lt _ (by decide)
 rw [Zug _ hj, Zn7 _ _ (Zhl _ _) (Nat.pow_lt_pow_right (by decide) hj), <- Z2u k _ hj, Z04]
 congr 1
 refine Zep fun i h1 h2 => ?_
 simp only [part]
 rw [Bool.eq_iff_iff]
 simp only [Bool.or_eq_true, decide_eq_true_eq]
 omega
theorem Zb2 (lo hi : Nat) {n k : Nat} (hk : n / 64 ≠ k \/ ¬ (lo <= n /\ n <= hi)) : wd (part lo hi (n + 1)) k = wd (part lo hi n) k := by
 refine Zep fun i h1 h2 => ?_
 simp only [part]
 rw [Bool.eq_iff_iff]
 simp only [decide_eq_true_eq]
 omega
theorem Z06 (lo hi k : Nat) : wd (part lo hi 0) k = 0 := by
 refine Zn6 (by decide) fun i hi => ?_
 rw [Nat.zero_testBit]
 symm
 simp only [part, decide_eq_false_iff_not]
 omega
theorem c79 (lo hi : Nat) (h : hi < 256) (hl : lo < 256) : Holds Try.prog 79 [A.d (.lit (.int .u8 lo)), A.d (.lit (.int .u8 hi))] [] (Ret (.agg (row4 (fun i => decide (lo <= i /\ i <= hi))))) := by
 refine w79 lo hi ⟨fun x a b c d => ∃ n : Nat, x = n /\ n <= 256 /\ a = wd (part lo hi n) 0 /\ b = wd (part lo hi n) 1 /\ c = wd (part lo hi n) 2 /\ d = wd (part lo hi n) 3, fun x _ _ _ _ => (256 - x.toNat), ⟨0, rfl, by omega, by simp [Z06]⟩, ?_, trivial⟩
 rintro x a b c d ⟨n, rfl, hn, rfl, rfl, rfl, rfl⟩
 simp only [Zui, Zuj, Zbg, decide_eq_true_eq, decide_eq_false_iff_not, beq_iff_eq, beq_eq_false_iff_ne, Int.toNat_natCast, Bool.or_eq_true, Bool.not_eq_true', Bool.and_eq_true, Bool.and_eq_false_iff]
 refine ⟨fun hc => ⟨by omega, by omega, by omega, by omega, fun hin => ⟨by omega, by omega, by omega, by omega, fun h0 => ⟨by omega, by omega, by omega, ⟨n + 1, rfl, by omega, ?_⟩, by omega⟩, fun h0 => ⟨fun h1 => ⟨by omega, by omega, by omega, ⟨n + 1, rfl, by omega, ?_⟩, by omega⟩, fun h1 => ⟨fun h2 => ⟨by omega, by omega, by omega, ⟨n + 1, rfl, by omega, ?_⟩, by omega⟩, fun h2 => ⟨by omega, by omega, by omega, by omega, ⟨n + 1, rfl, by omega, ?_⟩, by omega⟩⟩⟩⟩, fun hin => ⟨by omega, by omega, ⟨n + 1, rfl, by omega, ?_⟩, by omega⟩⟩, fun hc => ?_⟩
 ·have hk : n / 64 = 0 := by omega
  rw [Zn9 (by omega) (by omega) hk, Zb2 lo hi (k := 1) (by omega), Zb2 lo hi (k := 2) (by omega), Zb2 lo hi (k := 3) (by omega)]
  simp
 ·have hk : n / 64 = 1 := by omega
  rw [Zn9 (by omega) (by omega) hk, Zb2 lo hi (k := 0) (by omega), Zb2 lo hi (k := 2) (by omega), Zb2 lo hi (k := 3) (by omega)]
  simp
 ·have hk : n / 64 = 2 := by omega
  rw [Zn9 (by omega) (by omega) hk, Zb2 lo hi (k := 0) (by omega), Zb2 lo hi (k := 1) (by omega), Zb2 lo hi (k := 3) (by omega)]
  simp
 ·have hk : n / 64 = 3 := by omega
  rw [Zn9 (by omega) (by omega) hk, Zb2 lo hi (k := 0) (by omega), Zb2 lo hi (k := 1) (by omega), Zb2 lo hi (k := 2) (by omega)]
  simp
 ·rw [Zb2 lo hi (k := 0) (by omega), Zb2 lo hi (k := 1) (by omega), Zb2 lo hi (k := 2) (by omega), Zb2 lo hi (k := 3) (by omega)]
  simp
 ·have e : row4 (fun i => decide (lo <= i /\ i <= hi)) = row4 (part lo hi n) := Zi9 fun i hi => by
   simp only [part]
   rw [Bool.eq_iff_iff]
   simp only [decide_eq_true_eq]
   omega
  rw [e]
  simp [row4]
@[simp] theorem Z7o (p : Nat -> Bool) : (row4 p)[0]? = some (.lit (.int .u64 (wd p 0))) := rfl
@[simp] theorem Z7p (p : Nat -> Bool) : (row4 p)[1]? = some (.lit (.int .u64 (wd p 1))) := rfl
@[simp] theorem Z7q (p : Nat -> Bool) : (row4 p)[2]? = some (.lit (.int .u64 (wd p 2))) := rfl
@[simp] theorem Z7r (p : Nat -> Bool) : (row4 p)[3]? = some (.lit (.int .u64 (wd p 3))) := rfl
def wq (p p' : Nat -> Bool) (n k : Nat) : D := .lit (.int .u64 (wd (if k < n then p' else p) k))
theorem c91 (p q : Nat -> Bool) : Holds Try.prog 91 [A.agg (row4 p), A.agg (row4 q)] [] (Ret (.agg (row4 fun i => p i || q i))) := by
 refine w91 (row4 p) (row4 q) ⟨rfl, rfl, fun x a b c d => ∃ n : Nat, x = n /\ n <= 4 /\ a = wq p (fun i => p i || q i) n 0 /\ b = wq p (fun i => p i || q i) n 1 /\ c = wq p (fun i => p i || q i) n 2 /\ d = wq p (fun i => p i || q i) n 3, fun x _ _ _ _ => (4 - x.toNat), ⟨0, rfl, by omega, rfl, rfl, rfl, rfl⟩, ?_, trivial⟩
 rintro x a b c d ⟨n, rfl, hn, rfl, rfl, rfl, rfl⟩
 have hor : ∀ k, gOr .u64 (wd p k : Int) (wd q k : Int) = wd (fun i => p i || q i) k := fun k => by rw [Zn7 _ _ (Zhl _ _) (Zhl _ _), Z04]
 rcases (show n = 0 \/ n = 1 \/ n = 2 \/ n = 3 \/ n = 4 by omega) with rfl | rfl | rfl | rfl | rfl
 ·simp [wq, hor]; exact ⟨1, rfl, by omega, by simp⟩
 ·simp [wq, hor]; exact ⟨2, rfl, by omega, by simp⟩
 ·simp [wq, hor]; exact ⟨3, rfl, by omega, by simp⟩
 ·simp [wq, hor]; exact ⟨4, rfl, by omega, by simp⟩
 ·simp [wq, row4]
theorem c99 (p q : Nat -> Bool) : Holds Try.prog 99 [A.agg (row4 p), A.agg (row4 q)] [] (Ret (.agg (row4 fun i => p i || q i))) := by
 refine w99 (row4 p) (row4 q) ⟨rfl, rfl, fun x a b c d => ∃ n : Nat, x = n /\ n <= 4 /\ a = wq p (fun i => p i || q i) n 0 /\ b = wq p (fun i => p i || q i) n 1 /\ c = wq p (fun i => p i || q i) n 2 /\ d = wq p (fun i => p i || q i) n 3, fun x _ _ _ _ => (4 - x.toNat), ⟨0, rfl, by omega, rfl, rfl, rfl, rfl⟩, ?_, trivial⟩
 rintro x a b c d ⟨n, rfl, hn, rfl, rfl, rfl, rfl⟩
 have hor : ∀ k, gOr .u64 (wd p k : Int) (wd q k : Int) = wd (fun i => p i || q i) k := fun k => by rw [Zn7 _ _ (Zhl _ _) (Zhl _ _), Z04]
 rcases (show n = 0 \/ n = 1 \/ n = 2 \/ n = 3 \/ n = 4 by omega) with rfl | rfl | rfl | rfl | rfl
 ·simp [wq, hor]; exact ⟨1, rfl, by omega, by simp⟩
 ·simp [wq, hor]; exact ⟨2, rfl, by omega, by simp⟩
 ·simp [wq, hor]; exact ⟨3, rfl, by omega, by simp⟩
 ·simp [wq, hor]; exact ⟨4, rfl, by omega, by simp⟩
 ·simp [wq, row4]
theorem c92 (p : Nat -> Bool) : Holds Try.prog 92 [A.agg (row4 p)] [] (Ret (.agg (row4 fun i => !p i))) := by
 refine w92 (row4 p) ⟨rfl, fun x a b c d => ∃ n : Nat, x = n /\ n <= 4 /\ a = wq p (fun i => !p i) n 0 /\ b = wq p (fun i => !p i) n 1 /\ c = wq p (fun i => !p i) n 2 /\ d = wq p (fun i => !p i) n 3, fun x _ _ _ _ => (4 - x.toNat), ⟨0, rfl, by omega, rfl, rfl, rfl, rfl⟩, ?_, trivial⟩
 rintro x a b c d ⟨n, rfl, hn, rfl, rfl, rfl, rfl⟩
 have hor : ∀ k, gNot .u64 (wd p k : Int) = wd (fun i => !p i) k := fun k => by rw [Zuh _ (Zhl _ _), Z2t]
 rcases (show n = 0 \/ n = 1 \/ n = 2 \/ n = 3 \/ n = 4 by omega) with rfl | rfl | rfl | rfl | rfl
 ·simp [wq, hor]; exact ⟨1, rfl, by omega, by simp⟩
 ·simp [wq, hor]; exact ⟨2, rfl, by omega, by simp⟩
 ·simp [wq, hor]; exact ⟨3, rfl, by omega, by simp⟩
 ·simp [wq, hor]; exact ⟨4, rfl, by omega, by simp⟩
 ·simp [wq, row4]
theorem c100 (p : Nat -> Bool) : Holds Try.prog 100 [A.agg (row4 p)] [] (Ret (.agg (row4 fun i => !p i))) := by
 refine w100 (row4 p) ⟨rfl, fun x a b c d => ∃ n : Nat, x = n /\ n <= 4 /\ a = wq p (fun i => !p i) n 0 /\ b = wq p (fun i => !p i) n 1 /\ c = wq p (fun i => !p i) n 2 /\ d = wq p (fun i => !p i) n 3, fun x _ _ _ _ => (4 - x.toNat), ⟨0, rfl, by omega, rfl, rfl, rfl, rfl⟩, ?_, trivial⟩
 rintro x a b c d ⟨n, rfl, hn, rfl, rfl, rfl, rfl⟩
 have hor : ∀ k, gNot .u64 (wd p k : Int) = wd (fun i => !p i) k := fun k => by rw [Zuh _ (Zhl _ _), Z2t]
 rcases (show n = 0 \/ n = 1 \/ n = 2 \/ n = 3 \/ n = 4 by omega) with rfl | rfl | rfl | rfl | rfl
 ·simp [wq, hor]; exact ⟨1, rfl, by omega, by simp⟩
 ·simp [wq, hor]; exact ⟨2, rfl, by omega, by simp⟩
 ·simp [wq, hor]; exact ⟨3, rfl, by omega, by simp⟩
 ·simp [wq, hor]; exact ⟨4, rfl, by omega, by simp⟩
 ·simp [wq, row4]
end Go.Rx
end
section
open Go Go.Proofs Go.Ab Go.Rf
set_option maxRecDepth 100000
namespace Go.Rx
def hexV (x : Nat) : Option Nat := if 48 <= x /\ x <= 57 then some (x - 48) else if 97 <= x /\ x <= 102 then some (x - 97 + 10) else if 65 <= x /\ x <= 70 then some (x - 65 + 10) else none
def optI (o : Option Nat) : Int := match o with | some n => n | none => -1
theorem Zgs (x c : Nat) (h : x < 256) (hc : c <= x) : IntKind.wrap .u8 ((x : Int) - (c : Int)) = ((x - c : Nat) : Int) := by
 rw [<- Zfp (x - c) (by omega)]
 congr 1
 omega
theorem c103 (x : Nat) (h : x < 256) : Holds Try.prog 103 [A.d (.lit (.int .u8 x))] [] (Ret (.d (.lit (.int .i64 (optI (hexV x)))))) := by
 refine w103 x ?_
 have e48 : 48 <= x -> IntKind.wrap .u8 ((x : Int) - 48) = ((x - 48 : Nat) : Int) := Zgs x 48 h
 have e97 : 97 <= x -> IntKind.wrap .u8 ((x : Int) - 97) = ((x - 97 : Nat) : Int) := Zgs x 97 h
 have e65 : 65 <= x -> IntKind.wrap .u8 ((x : Int) - 65) = ((x - 65 : Nat) : Int) := Zgs x 65 h
 simp only [Zbg, decide_eq_true_eq, Bool.and_eq_true, Bool.and_eq_false_iff, decide_eq_false_iff_not, Zfn, and_true, A.d.injEq, D.lit.injEq, Value.int.injEq, true_and]
 refine ⟨fun h0 => ?_, fun h0 => ⟨fun h1 => ?_, fun h1 => ⟨fun h2 => ?_, fun h2 => ?_⟩⟩⟩
 ·rw [e48 (by omega)]
  have e : hexV x = some (x - 48) := by unfold hexV; rw [if_pos (by omega)]
  rw [e]
  exact ⟨by omega, by omega, rfl⟩
 ·rw [e97 (by omega)]
  have e : hexV x = some (x - 97 + 10) := by unfold hexV; rw [if_neg (by omega), if_pos (by omega)]
  rw [e]
  exact ⟨by omega, by omega, by omega, by omega, by simp [optI]⟩
 ·rw [e65 (by omega)]
  have e : hexV x = some (x - 65 + 10) := by unfold hexV; rw [if_neg (by omega), if_neg (by omega), if_pos (by omega)]
  rw [e]
  exact ⟨by omega, by omega, by omega, by omega, by simp [optI]⟩
 ·have e : hexV x = none := by unfold hexV; rw [if_neg (by omega), if_neg (by omega), if_neg (by omega)]
  rw [e]; rfl
def ctlV (x : Nat) : Option Nat := if x = 110 then some 10 else if x = 116 then some 9 else if x = 114 then some 13 else none
theorem c97 (x : Nat) (h : x < 256) : Holds Try.prog 97 [A.d (.lit (.int .u8 x))] [] (Ret (.d (.lit (.int .i64 (optI (ctlV x)))))) := by
 refine w97 x ?_
 simp only [Zbg, beq_iff_eq, beq_eq_false_iff_ne, Zfn, and_true, A.d.injEq, D.lit.injEq, Value.int.injEq, true_and]
 refine ⟨fun h0 => ?_, fun h0 => ⟨fun h1 => ?_, fun h1 => ⟨fun h2 => ?_, fun h2 => ?_⟩⟩⟩
 ·have e : ctlV x = some 10 := by unfold ctlV; rw [if_pos (by omega)]
  rw [e]; rfl
 ·have e : ctlV x = some 9 := by unfold ctlV; rw [if_neg (by omega), if_pos (by omega)]
  rw [e]; rfl
 ·have e : ctlV x = some 13 := by unfold ctlV; rw [if_neg (by omega), if_neg (by omega), if_pos (by omega)]
  rw [e]; rfl
 ·have e : ctlV x = none := by unfold ctlV; rw [if_neg (by omega), if_neg (by omega), if_neg (by omega)]
  rw [e]; rfl
def spcL : List UInt8 := [40, 41, 91, 93, 123, 125, 124, 42, 43, 63, 46, 92]
def spcV (x : Nat) : Bool := spcL.any fun b => b.toNat == x
theorem c87 (x : Nat) (h : x < 256) : Holds Try.prog 87 [A.d (.lit (.int .u8 x))] [] (Ret (.d (.lit (.bool (spcV x))))) := by
 refine w87 x ⟨fun y => ∃ i : Nat, y = i /\ i <= 12 /\ ∀ j < i, (spcL.getD j 0).toNat ≠ x, fun y => (12 - y.toNat), ⟨0, rfl, by omega, fun j hj => absurd hj (Nat.not_lt_zero _)⟩, ?_, trivial⟩
 rintro y ⟨i, rfl, hi, hall⟩
 have eg : Zak [40, 41, 91, 93, 123, 125, 124, 42, 43, 63, 46, 92] (i : Int) = ((spcL.getD i 0).toNat : Nat) := rfl
 simp only [eg, Zbg, decide_eq_true_eq, decide_eq_false_iff_not, beq_iff_eq, beq_eq_false_iff_ne, Int.toNat_natCast, Zfn, and_true, A.d.injEq, D.lit.injEq, Value.bool.injEq]
 refine ⟨fun hc => ⟨by omega, fun he => ?_, fun he => ⟨by omega, by omega, ⟨i + 1, rfl, by omega, fun j hj => ?_⟩, by omega⟩⟩, fun hc => ?_⟩
 ·symm
  have hl : i < spcL.length := by show i < 12; omega
  refine List.any_eq_true.2 ⟨spcL[i], List.getElem_mem hl, ?_⟩
  have e : spcL.getD i 0 = spcL[i] := by simp [List.getD, hl]
  rw [e] at he
  simpa using Int.ofNat.inj he
 ·by_cases e : j = i
  ·subst e; exact fun h => he (by rw [h])
  ·exact hall j (by omega)
 ·symm
  refine Bool.eq_false_iff.2 fun ht => ?_
  obtain ⟨b, hb, hx⟩ := List.any_eq_true.1 ht
  obtain ⟨j, hj, rfl⟩ := List.mem_iff_getElem.1 hb
  have hj12 : j < 12 := hj
  refine hall j (by omega) ?_
  have e : spcL.getD j 0 = spcL[j]'hj := by rw [List.getD, List.getElem?_eq_getElem hj]; rfl
  exact (congrArg UInt8.toNat e).trans (eq_of_beq hx)
theorem c101 (x : Nat) (h : x < 256) : Holds Try.prog 101 [A.d (.lit (.int .u8 x))] [] (Ret (.tup [(false, [.lit (.int .u8 ((hexV x).getD 0 : Nat))]), (false, [.lit (.bool (hexV x).isSome)])])) := by
 refine w101 x ?_
 have e48 : 48 <= x -> IntKind.wrap .u8 ((x : Int) - 48) = ((x - 48 : Nat) : Int) := Zgs x 48 h
 have e97 : 97 <= x -> IntKind.wrap .u8 ((x : Int) - 97) = ((x - 97 : Nat) : Int) := Zgs x 97 h
 have e65 : 65 <= x -> IntKind.wrap .u8 ((x : Int) - 65) = ((x - 65 : Nat) : Int) := Zgs x 65 h
 have ten : ∀ n : Nat, n < 200 -> IntKind.wrap .u8 ((n : Int) + 10) = ((n + 10 : Nat) : Int) := fun n hn => Zfp (n + 10) (by omega)
 simp only [Zbg, decide_eq_true_eq, Bool.and_eq_true, Bool.and_eq_false_iff, decide_eq_false_iff_not, Zfn, and_true]
 refine ⟨fun h0 => ?_, fun h0 => ⟨fun h1 => ?_, fun h1 => ⟨fun h2 => ?_, fun h2 => ?_⟩⟩⟩
 ·rw [e48 (by omega)]
  have e : hexV x = some (x - 48) := by unfold hexV; rw [if_pos (by omega)]
  rw [e]; rfl
 ·rw [e97 (by omega), ten _ (by omega)]
  have e : hexV x = some (x - 97 + 10) := by unfold hexV; rw [if_neg (by omega), if_pos (by omega)]
  rw [e]; rfl
 ·rw [e65 (by omega), ten _ (by omega)]
  have e : hexV x = some (x - 65 + 10) := by unfold hexV; rw [if_neg (by omega), if_neg (by omega), if_pos (by omega)]
  rw [e]; rfl
 ·have e : hexV x = none := by unfold hexV; rw [if_neg (by omega), if_neg (by omega), if_neg (by omega)]
  rw [e]; rfl
end Go.Rx
end
section
open Go Go.Proofs Go.Ab Go.Rf
set_option maxRecDepth 100000
namespace Go.Rx
def rng (lo hi : Nat) : Nat -> Bool := fun i => decide (lo <= i /\ i <= hi)
def orP (p q : Nat -> Bool) : Nat -> Bool := fun i => p i || q i
def clsV (x : Nat) : Option (Nat -> Bool) :=
 if x = 100 then some (rng 48 57) else if x = 119 then some (orP (orP (rng 48 57) (orP (rng 97 122) (rng 65 90))) (rng 95 95)) else if x = 115 then some (orP (orP (rng 9 10) (rng 13 13)) (rng 32 32)) else none
def clsA (x : Nat) : A := .tup [(true, row4 ((clsV x).getD fun _ => false)), (false, [.lit (.bool (clsV x).isSome)])]
theorem c79' (lo hi : Nat) (h : hi < 256) (hl : lo < 256) : Holds Try.prog 79 [A.d (.lit (.int .u8 lo)), A.d (.lit (.int .u8 hi))] [] (Ret (.agg (row4 (rng lo hi)))) := c79 lo hi h hl
theorem c91' (p q : Nat -> Bool) : Holds Try.prog 91 [A.agg (row4 p), A.agg (row4 q)] [] (Ret (.agg (row4 (orP p q)))) := c91 p q
theorem Zqm : row4 (fun _ => false) = [.lit (.int .u64 0), .lit (.int .u64 0), .lit (.int .u64 0), .lit (.int .u64 0)] := by
 have : ∀ k, wd (fun _ => false) k = 0 := fun k => Zn6 (by decide) fun j _ => Nat.zero_testBit j
 simp [row4, this]
theorem c80 (x : Nat) (h : x < 256) : Holds Try.prog 80 [A.d (.lit (.int .u8 x))] [] (Ret (clsA x)) := by
 refine w80 x (Zae (c79' 48 57 (by decide) (by decide)) ⟨_, rfl, rfl, rfl, fun h0 => ?_, fun h0 => ⟨fun h1 => Zae (c79' 97 122 (by decide) (by decide)) ⟨_, rfl, rfl, Zae (c79' 65 90 (by decide) (by decide)) ⟨_, rfl, rfl, Zae (c91' _ _) ⟨_, rfl, rfl, rfl, Zae (c91' _ _) ⟨_, rfl, rfl, Zae (c79' 95 95 (by decide) (by decide)) ⟨_, rfl, rfl, Zae (c91' _ _) ⟨_, rfl, rfl, rfl, ?_⟩⟩⟩⟩⟩⟩,
  fun h1 => ⟨fun h2 => Zae (c79' 9 10 (by decide) (by decide)) ⟨_, rfl, rfl, Zae (c79' 13 13 (by decide) (by decide)) ⟨_, rfl, rfl, Zae (c91' _ _) ⟨_, rfl, rfl, Zae (c79' 32 32 (by decide) (by decide)) ⟨_, rfl, rfl, Zae (c91' _ _) ⟨_, rfl, rfl, rfl, ?_⟩⟩⟩⟩⟩, fun h2 => ?_⟩⟩⟩)
 all_goals simp only [Zbg, beq_iff_eq, beq_eq_false_iff_ne] at *
 ·have e : clsV x = some (rng 48 57) := by unfold clsV; rw [if_pos (by omega)]
  simp [clsA, e]
 ·have e : clsV x = some (orP (orP (rng 48 57) (orP (rng 97 122) (rng 65 90))) (rng 95 95)) := by unfold clsV; rw [if_neg (by omega), if_pos (by omega)]
  simp [clsA, e]
 ·have e : clsV x = some (orP (orP (rng 9 10) (rng 13 13)) (rng 32 32)) := by unfold clsV; rw [if_neg (by omega), if_neg (by omega), if_pos (by omega)]
  simp [clsA, e]
 ·have e : clsV x = none := by unfold clsV; rw [if_neg (by omega), if_neg (by omega), if_neg (by omega)]
  simp [clsA, e, Zqm]
theorem c85' (lo hi : Nat) (h : hi < 256) (hl : lo < 256) : Holds Try.prog 85 [A.d (.lit (.int .i64 lo)), A.d (.lit (.int .i64 hi))] [] (Ret (.agg (row4 (rng lo hi)))) := c85 lo hi h (by omega)
theorem c99' (p q : Nat -> Bool) : Holds Try.prog 99 [A.agg (row4 p), A.agg (row4 q)] [] (Ret (.agg (row4 (orP p q)))) := c99 p q
theorem c96 (x : Nat) (h : x < 256) : Holds Try.prog 96 [A.d (.lit (.int .u8 x))] [] (Ret (clsA x)) := by
 refine w96 x ⟨fun h0 => Zae (c85' 48 57 (by decide) (by decide)) ⟨_, rfl, rfl, rfl, ?_⟩, fun h0 => ⟨fun h1 => Zae (c85' 48 57 (by decide) (by decide)) ⟨_, rfl, rfl, Zae (c85' 97 122 (by decide) (by decide)) ⟨_, rfl, rfl, Zae (c99' _ _) ⟨_, rfl, rfl, Zae (c85' 65 90 (by decide) (by decide)) ⟨_, rfl, rfl, Zae (c85' 95 95 (by decide) (by decide)) ⟨_, rfl, rfl, Zae (c99' _ _) ⟨_, rfl, rfl, Zae (c99' _ _) ⟨_, rfl, rfl, rfl, ?_⟩⟩⟩⟩⟩⟩⟩,
  fun h1 => ⟨fun h2 => Zae (c85' 32 32 (by decide) (by decide)) ⟨_, rfl, rfl, Zae (c85' 9 10 (by decide) (by decide)) ⟨_, rfl, rfl, Zae (c99' _ _) ⟨_, rfl, rfl, Zae (c85' 13 13 (by decide) (by decide)) ⟨_, rfl, rfl, Zae (c99' _ _) ⟨_, rfl, rfl, rfl, ?_⟩⟩⟩⟩⟩, fun h2 => ?_⟩⟩⟩
 all_goals simp only [Zbg, beq_iff_eq, beq_eq_false_iff_ne] at *
 ·have e : clsV x = some (rng 48 57) := by unfold clsV; rw [if_pos (by omega)]
  simp [clsA, e]
 ·have e : clsV x = some (orP (orP (rng 48 57) (orP (rng 97 122) (rng 65 90))) (rng 95 95)) := by unfold clsV; rw [if_neg (by omega), if_pos (by omega)]
  simp only [clsA, e, Zfn, and_true, Option.getD_some, Option.isSome_some]
  congr 4
  funext i
  simp only [orP]
  cases rng 48 57 i <;> cases rng 97 122 i <;> cases rng 65 90 i <;> cases rng 95 95 i <;> rfl
 ·have e : clsV x = some (orP (orP (rng 9 10) (rng 13 13)) (rng 32 32)) := by unfold clsV; rw [if_neg (by omega), if_neg (by omega), if_pos (by omega)]
  simp only [clsA, e, Zfn, and_true, Option.getD_some, Option.isSome_some]
  congr 4
  funext i
  simp only [orP]
  cases rng 9 10 i <;> cases rng 13 13 i <;> cases rng 32 32 i <;> rfl
 ·have e : clsV x = none := by unfold clsV; rw [if_neg (by omega), if_neg (by omega), if_neg (by omega)]
  simp [clsA, e, Zqm]
end Go.Rx
end
section
open Go Go.Proofs Go.Ab Go.Rf
set_option maxRecDepth 100000
namespace Go.Rx
def idxV (l : List UInt8) (c : Nat) : Int := firstIdx ⟨l.toArray⟩ c.toUInt8
theorem c102 (l : List UInt8) (c : Nat) : Holds Try.prog 102 [A.d (.lit (Zaa l)), A.d (.lit (.int .u8 c))] [] (Ret (.d (.lit (.int .i64 (idxV l c))))) := by
 intro w cargs g h1 h2
 have hc : cargs = #[Zaa l, .int .u8 c] := by
  rcases cargs with ⟨cl⟩
  match cl, h1 with
  | [a, b], ⟨ha, hb, _⟩ =>
    have ha := ha .res
    have hb := hb .res
    cases ha
    cases hb
    rfl
 subst hc
 unfold CallsX
 rw [run_callFunc_extern (P := Try.prog) (f := 102) (fn := Try.f102) (e := Extern.BytealgIndexByte.indexByte) rfl (by decide) rfl rfl rfl]
 rw [Zaa, run_indexByte_string]
 refine ⟨.ret (.d (.lit (.int .i64 (idxV l c)))), [], g, ⟨rfl, rfl⟩, rfl, ?_, _, rfl, ?_, fun h => by cases h⟩
 ·exact ⟨h2.box, h2.inj, h2.wr, h2.prs, h2.pr0, h2.prn, h2.up, h2.uu, h2.fr⟩
 ·exact .lit _ rfl
theorem c94 (l : List UInt8) (c : Nat) : Holds Try.prog 94 [A.d (.lit (Zaa l)), A.d (.lit (.int .u8 c))] [] (Ret (.d (.lit (.int .i64 (idxV l c))))) :=
 w94 l c (Zae (c102 l c) ⟨_, rfl, rfl, by simp⟩)
theorem c83 (l : List UInt8) (c : Nat) : Holds Try.prog 83 [A.d (.lit (Zaa l)), A.d (.lit (.int .u8 c))] [] (Ret (.d (.lit (.int .i64 (idxV l c))))) :=
 w83 l c (Zae (c94 l c) ⟨_, rfl, rfl, by simp⟩)
theorem Zhm (l : List UInt8) (c : Nat) (h : c < 256) : 0 <= idxV l c ↔ (l.any fun b => b.toNat == c) = true := by
 unfold idxV firstIdx
 have key : ∀ b : UInt8, b = c.toUInt8 ↔ b.toNat = c := fun b => by
  constructor
  ·rintro rfl; simp; omega
  ·rintro rfl; simp
 split
 ·rename_i i hi
  have h1 := List.find?_some hi
  have h2 := List.mem_range.1 (List.mem_of_find?_eq_some hi)
  simp only [beq_iff_eq, key] at h1
  refine ⟨fun _ => List.any_eq_true.2 ⟨_, ?_, by simpa using h1⟩, fun _ => by omega⟩
  have e : (⟨l.toArray⟩ : ByteArray)[i]! = l[i]'h2 := by
   rw [getElem!_pos _ i h2]; rfl
  rw [e]
  exact List.getElem_mem _
 ·rename_i hi
  refine ⟨fun h => by omega, fun h => ?_⟩
  obtain ⟨b, hb, hx⟩ := List.any_eq_true.1 h
  obtain ⟨j, hj, rfl⟩ := List.mem_iff_getElem.1 hb
  have := List.find?_eq_none.1 hi j (List.mem_range.2 hj)
  have e : (⟨l.toArray⟩ : ByteArray)[j]! = l[j]'hj := by
   rw [getElem!_pos _ j hj]; rfl
  rw [e] at this
  simp only [beq_iff_eq, key] at this
  exact absurd (by simpa using hx) this
end Go.Rx
end
section
open Go Go.Proofs Go.Ab Go.Rf
set_option maxRecDepth 100000
namespace Go.Rx
def Zau (r : Rx) : Int :=
 if r.kind < 0 \/ 5 < r.kind \/ (r.kind ≠ 2 /\ ¬ (r.w 0 = 0 /\ r.w 1 = 0 /\ r.w 2 = 0 /\ r.w 3 = 0)) then 11
 else if r.kind = 3 \/ r.kind = 4 then (if r.subs.length < 2 then 2 else 0)
 else if r.kind = 5 then (if r.subs.length ≠ 1 then 2 else 0)
 else if r.subs.length ≠ 0 then 2 else 0
theorem c47 (r : Rx) : Holds Try.prog 47 [A.agg (enc r)] [] (Ret (.d (.lit (.int .i64 (Zau r))))) := by
 refine w47 (enc r) ?_
 have e : (0 < r.subs.length) ↔ ¬ r.subs = [] := List.length_pos_iff
 simp only [enc0, enc1, enc2, enc3, enc4, enc5, Ze7, isK_int, isK_slc, Zar, Zaw, Zbg, Zab, Zfn, and_true, true_and, decide_eq_true_eq, decide_eq_false_iff_not, Bool.or_true, Bool.and_eq_true, Bool.or_eq_true, Bool.not_eq_true', Bool.and_eq_false_iff, Bool.or_eq_false_iff, Bool.not_eq_false', beq_iff_eq, beq_eq_false_iff_ne, A.d.injEq, D.lit.injEq, Value.int.injEq]
 refine ⟨rfl, fun h => ?_, fun h => ⟨fun h2 => ?_, fun h2 => ?_⟩⟩
 ·unfold Zau
  rw [if_pos]
  rcases h with (h | h) | ⟨h, h'⟩
  ·exact .inl h
  ·exact .inr (.inl h)
  ·exact .inr (.inr ⟨h, by rintro ⟨a, b, c, d⟩; rcases h' with h' | h' | h' | h' <;> contradiction⟩)
 ·unfold Zau
  rw [if_neg]
  ·repeat' split
   all_goals omega
  ·rintro (h' | h' | ⟨h', h''⟩)
   ·exact h.1.1 h'
   ·exact h.1.2 h'
   ·rcases h.2 with h3 | h3
    ·exact h' h3
    ·exact h'' h3
 ·unfold Zau
  rw [if_neg]
  ·repeat' split
   all_goals omega
  ·rintro (h' | h' | ⟨h', h''⟩)
   ·exact h.1.1 h'
   ·exact h.1.2 h'
   ·rcases h.2 with h3 | h3
    ·exact h' h3
    ·exact h'' h3
mutual
def chk (lvl : Int) : Rx -> Int
 | .mk k a b c d l => if 16 < lvl then 9 else if Zau (.mk k a b c d l) ≠ 0 then Zau (.mk k a b c d l) else chks (lvl + 1) l
def chks (lvl : Int) : List Rx -> Int
 | [] => 0
 | r :: l => if chk lvl r ≠ 0 then chk lvl r else chks lvl l
end
theorem Zg8 (lvl : Int) (r : Rx) : chk lvl r = if 16 < lvl then 9 else if Zau r ≠ 0 then Zau r else chks (lvl + 1) r.subs := by cases r; simp only [chk, Rx.subs]
theorem Zlg {lvl : Int} : ∀ (l : List Rx), (∀ i (h : i < l.length), chk lvl l[i] = 0) -> chks lvl l = 0
 | [], _ => rfl
 | r :: l, h => by
   simp only [chks]
   rw [if_neg (fun hne => hne (h 0 (Nat.succ_pos _)))]
   exact Zlg l fun i hi => h (i + 1) (Nat.succ_lt_succ hi)
theorem Zja {lvl : Int} : ∀ (l : List Rx) (j : Nat) (hj : j < l.length), (∀ i (h : i < j), chk lvl (l[i]'(by omega)) = 0) -> chk lvl l[j] ≠ 0 -> chks lvl l = chk lvl l[j]
 | r :: l, 0, _, _, h => by simp only [chks]; rw [if_pos (by simpa using h)]; rfl
 | r :: l, j + 1, hj, h0, h => by
   simp only [chks]
   rw [if_neg (by simpa using h0 0 (by omega))]
   exact Zja l j (by simpa using hj) (fun i hi => by simpa using h0 (i + 1) (by omega)) h
theorem c34 : ∀ (n : Nat) (r : Rx) (lvl : Int), size r <= n -> lens (2 ^ 40) r -> -100 <= lvl -> lvl <= 100 -> Holds Try.prog 34 [A.agg (enc r), A.d (.lit (.int .i64 lvl))] [] (Ret (.d (.lit (.int .i64 (chk lvl r))))) := by
 intro n
 induction n with
 | zero => intro r lvl h; have := Zaf r; omega
 | succ n ih =>
   intro r lvl hs hn h1 h2
   refine w34 (enc r) lvl ⟨by simp, fun h => ?_, fun h => ?_⟩
   ·simp at h
    have e : chk lvl r = 9 := by rw [Zg8, if_pos h]
    simp [e]
   ·simp at h
    refine Zae (c47 r) ⟨Zau r, rfl, rfl, fun he => ?_, fun he => ?_⟩
    ·simp at he
     have e : chk lvl r = Zau r := by rw [Zg8, if_neg (by omega), if_pos he]
     simp [e]
    ·simp at he
     have hlen : r.subs.length <= 2 ^ 40 := (Zb6.1 hn).1
     refine ⟨fun x => ∃ i : Nat, x = i /\ i <= r.subs.length /\ ∀ j (hj : j < r.subs.length), j < i -> chk (lvl + 1) r.subs[j] = 0, fun x => (r.subs.length - x.toNat), ⟨0, rfl, Nat.zero_le _, fun j _ hj => absurd hj (Nat.not_lt_zero _)⟩, ?_, trivial⟩
     rintro x ⟨i, rfl, hi, hall⟩
     refine ⟨by simp, fun hc => ?_, fun hc => ?_⟩
     ·simp at hc
      have hsub := Zbc hc
      simp only [enc5, Zaw]
      rw [Zaq rfl hc]
      refine ⟨by simp, by simp, by simp; omega, by simp; omega, Zae (ih r.subs[i] (lvl + 1) (by omega) (Zdd hn hc) (by omega) (by omega)) ⟨_, rfl, rfl, fun hne => ?_, fun heq => ?_⟩⟩
      ·simp at hne
       have e : chk lvl r = chk (lvl + 1) r.subs[i] := by rw [Zg8, if_neg (by omega), if_neg (by simp [he]), Zja r.subs i hc (fun j hj => hall j (by omega) hj) hne]
       simp [e]
      ·simp at heq
       refine ⟨by simp; omega, by simp; omega, ⟨i + 1, rfl, hc, fun j hj hji => ?_⟩, by simp; omega⟩
       by_cases e : j = i
       ·subst e; exact heq
       ·exact hall j hj (by omega)
     ·simp at hc
      have e : chk lvl r = 0 := by rw [Zg8, if_neg (by omega), if_neg (by simp [he]), Zlg r.subs fun j hj => hall j hj (by omega)]
      simp [e]
end Go.Rx
end
section
open Go Go.Proofs Go.Ab Go.Rf
set_option maxRecDepth 100000
namespace Go.Rx
theorem c33 : ∀ (n : Nat) (r : Rx) (lvl : Int), size r <= n -> lens (2 ^ 40) r -> -100 <= lvl -> lvl <= 100 -> Holds Try.prog 33 [A.agg (enc r), A.d (.lit (.int .i64 lvl))] [] (Ret (.d (.lit (.int .i64 (chk lvl r))))) := by
 intro n
 induction n with
 | zero => intro r lvl h; have := Zaf r; omega
 | succ n ih =>
   intro r lvl hs hn h1 h2
   refine w33 (enc r) lvl ⟨by simp, fun h => ?_, fun h => ?_⟩
   ·simp at h
    have e : chk lvl r = 9 := by rw [Zg8, if_pos h]
    simp [e]
   ·simp at h
    have hbad : Zau r ≠ 0 -> chk lvl r = Zau r := fun he => by rw [Zg8, if_neg (by omega), if_pos he]
    refine ⟨by simp, by simp, by simp, by simp, by simp, fun hk => ?_, fun hk => ?_⟩
    ·have e : Zau r = 11 := by
      simp only [enc0, enc1, enc2, enc3, enc4, Zar, Zbg, decide_eq_true_eq, Bool.and_eq_true, Bool.or_eq_true, Bool.not_eq_true', Bool.and_eq_false_iff, beq_iff_eq, beq_eq_false_iff_ne] at hk
      unfold Zau
      rw [if_pos]
      rcases hk with (h | h) | ⟨h, h'⟩
      ·exact .inl h
      ·exact .inr (.inl h)
      ·exact .inr (.inr ⟨h, by rintro ⟨a, b, c, d⟩; rcases h' with h' | h' | h' | h' <;> contradiction⟩)
     have e2 : chk lvl r = 11 := by rw [hbad (by omega), e]
     simp [e2]
    ·have e : Zau r = if r.kind = 3 \/ r.kind = 4 then (if r.subs.length < 2 then 2 else 0) else if r.kind = 5 then (if r.subs.length ≠ 1 then 2 else 0) else if r.subs.length ≠ 0 then 2 else 0 := by
      simp only [enc0, enc1, enc2, enc3, enc4, Zar, Zbg, decide_eq_false_iff_not, Bool.and_eq_true, Bool.or_eq_false_iff, Bool.not_eq_true', Bool.and_eq_false_iff, Bool.not_eq_false', beq_iff_eq] at hk
      unfold Zau
      rw [if_neg]
      rintro (h' | h' | ⟨h', h''⟩)
      ·exact hk.1.1 h'
      ·exact hk.1.2 h'
      ·rcases hk.2 with h3 | h3
       ·exact h' h3
       ·exact h'' h3
     have hlen : r.subs.length <= 2 ^ 40 := (Zb6.1 hn).1
     refine ⟨by simp, fun _ => Zau r = 0, ⟨fun hk => ⟨fun hl => ?_, fun hl => ?_⟩, fun hk3 => ⟨fun hk => ⟨fun hl => ?_, fun hl => ?_⟩, fun hk4 => ⟨fun hk => ⟨fun hl => ?_, fun hl => ?_⟩, fun hk5 => ⟨fun hl => ?_, fun hl => ?_⟩⟩⟩⟩, ?_, trivial⟩
     ·simp at hk hl
      have e2 : Zau r = 2 := by rw [e, if_pos (.inl hk), if_pos (by omega)]
      have e3 : chk lvl r = 2 := by rw [hbad (by omega), e2]
      simp [e3]
     ·simp at hk hl
      rw [e, if_pos (.inl hk), if_neg (by omega)]
     ·simp at hk hl
      have e2 : Zau r = 2 := by rw [e, if_pos (.inr hk), if_pos (by omega)]
      have e3 : chk lvl r = 2 := by rw [hbad (by omega), e2]
      simp [e3]
     ·simp at hk hl
      rw [e, if_pos (.inr hk), if_neg (by omega)]
     ·simp at hk3 hk4 hk hl
      have e2 : Zau r = 2 := by rw [e, if_neg (by omega), if_pos hk, if_pos (by omega)]
      have e3 : chk lvl r = 2 := by rw [hbad (by omega), e2]
      simp [e3]
     ·simp at hk3 hk4 hk hl
      rw [e, if_neg (by omega), if_pos hk, if_neg (by omega)]
     ·simp only [enc0, enc5, Zar, Zaw, Zbg, Zab, beq_eq_false_iff_ne, Bool.not_eq_true'] at hk3 hk4 hk5 hl
      have e2 : Zau r = 2 := by rw [e, if_neg (by omega), if_neg hk5, if_pos (by omega)]
      have e3 : chk lvl r = 2 := by rw [hbad (by omega), e2]
      simp [e3]
     ·simp only [enc0, enc5, Zar, Zaw, Zbg, Zab, beq_eq_false_iff_ne, Bool.not_eq_false', beq_iff_eq] at hk3 hk4 hk5 hl
      rw [e, if_neg (by omega), if_neg hk5, if_neg (by omega)]
     ·intro _ he
      refine ⟨fun x => ∃ i : Nat, x = i /\ i <= r.subs.length /\ ∀ j (hj : j < r.subs.length), j < i -> chk (lvl + 1) r.subs[j] = 0, fun x => (r.subs.length - x.toNat), ⟨0, rfl, Nat.zero_le _, fun j _ hj => absurd hj (Nat.not_lt_zero _)⟩, ?_, trivial⟩
      rintro x ⟨i, rfl, hi, hall⟩
      refine ⟨fun hc => ?_, fun hc => ?_⟩
      ·simp at hc
       have hsub := Zbc hc
       simp only [enc5, Zaw]
       rw [Zaq rfl hc]
       refine ⟨by simp, by simp, by simp; omega, by simp; omega, Zae (ih r.subs[i] (lvl + 1) (by omega) (Zdd hn hc) (by omega) (by omega)) ⟨_, rfl, rfl, fun hne => ?_, fun heq => ?_⟩⟩
       ·simp at hne
        have e : chk lvl r = chk (lvl + 1) r.subs[i] := by rw [Zg8, if_neg (by omega), if_neg (by simp [he]), Zja r.subs i hc (fun j hj => hall j (by omega) hj) hne]
        simp [e]
       ·simp at heq
        refine ⟨by simp; omega, by simp; omega, ⟨i + 1, rfl, hc, fun j hj hji => ?_⟩, by simp; omega⟩
        by_cases e : j = i
        ·subst e; exact heq
        ·exact hall j hj (by omega)
      ·simp at hc
       have e : chk lvl r = 0 := by rw [Zg8, if_neg (by omega), if_neg (by simp [he]), Zlg r.subs fun j hj => hall j hj (by omega)]
       simp [e]
theorem c35 : ∀ (n : Nat) (r : Rx), size r <= n -> n <= 2 ^ 40 -> Holds Try.prog 35 [A.agg (enc r)] [] (Ret (.d (.lit (.int .i64 (size r))))) := by
 intro n
 induction n with
 | zero => intro r h; have := Zaf r; omega
 | succ n ih =>
   intro r hs hn
   have hlen : r.subs.length < size r := by have := Zfo r.subs; have := Zb1 r; omega
   refine w35 (enc r) ⟨by simp, by simp, fun x y => ∃ i : Nat, y = i /\ i <= r.subs.length /\ x = 1 + Zam (r.subs.take i), fun x y => (r.subs.length - y.toNat), ⟨0, rfl, Nat.zero_le _, by simp [Zam]⟩, ?_, trivial⟩
   rintro x y ⟨i, rfl, hi, rfl⟩
   have hle := Zgr r.subs i
   have hsz := Zb1 r
   refine ⟨fun hc => ?_, fun hc => ?_⟩
   ·simp at hc
    have hsub := Zbc hc
    have ht := Zgq r.subs i hc
    have hle2 := Zgr r.subs (i + 1)
    simp only [enc5, Zaw]
    rw [Zaq rfl hc]
    refine ⟨by simp, by simp, Zae (ih r.subs[i] (by omega) (by omega)) ⟨_, rfl, rfl, by simp; omega, by simp; omega, by simp; omega, by simp; omega, ⟨i + 1, rfl, hc, by omega⟩, by simp; omega⟩⟩
   ·simp at hc
    have e : i = r.subs.length := by omega
    subst e
    simp [hsz]
theorem c13 : ∀ (n : Nat) (r : Rx) (m : Nat), size r <= n -> m <= 2 ^ 40 -> Holds Try.prog 13 [A.agg (enc r), A.d (.lit (.int .i64 m))] [] (Ret (.d (.lit (.int .i64 (min (size r) (m + 1) : Nat))))) := by
 intro n
 induction n with
 | zero => intro r m h; have := Zaf r; omega
 | succ n ih =>
   intro r m hs hm
   have hsz := Zb1 r
   refine w13 (enc r) m ⟨by simp, fun x y => ∃ i : Nat, y = i /\ i <= r.subs.length /\ x = (min (1 + Zam (r.subs.take i)) (m + 1) : Nat) /\ (i : Int) <= x, fun x y => (r.subs.length - y.toNat), ⟨0, rfl, Nat.zero_le _, by simp [Zam], by omega⟩, ?_, trivial⟩
   rintro x y ⟨i, rfl, hi, rfl, hix⟩
   have hle := Zgr r.subs i
   refine ⟨by simp, fun hc => ?_, fun hc => ?_⟩
   ·simp only [enc5, Zaw, Zab, Zbg, Bool.and_eq_true, decide_eq_true_eq] at hc
    have hc1 : i < r.subs.length := by omega
    have hsub := Zbc hc1
    have ht := Zgq r.subs i hc1
    have hp := Zaf r.subs[i]
    simp only [enc5, Zaw]
    rw [Zaq rfl hc1]
    have e1 : (m : Int) - (min (1 + Zam (r.subs.take i)) (m + 1) : Nat) = ((m - min (1 + Zam (r.subs.take i)) (m + 1) : Nat) : Int) := by omega
    rw [e1]
    refine ⟨by simp, by simp, by simp <;> omega, by simp <;> omega, Zae (ih r.subs[i] _ (by omega) (by omega)) ⟨_, rfl, rfl, by simp only [Zbg, decide_eq_true_eq]; omega, by simp only [Zbg, decide_eq_true_eq]; omega, by simp only [Zbg, decide_eq_true_eq]; omega, by simp only [Zbg, decide_eq_true_eq]; omega, ⟨i + 1, rfl, hc1, by omega, by omega⟩, by simp only [Int.toNat_natCast]; omega⟩⟩
   ·simp only [enc5, Zaw, Zab, Zbg, Bool.and_eq_false_iff, decide_eq_false_iff_not] at hc
    have e : (min (1 + Zam (r.subs.take i)) (m + 1)) = min (size r) (m + 1) := by
     rcases hc with hc | hc
     ·have e : i = r.subs.length := by omega
      subst e
      simp [hsz]
     ·omega
    rw [e]
    simp
end Go.Rx
end
section
open Go Go.Proofs Go.Ab Go.Rf
set_option maxRecDepth 100000
namespace Go.Rx
theorem c15 (r : Rx) (h : lens (2 ^ 40) r) : Holds Try.prog 15 [A.agg (enc r)] [] (Ret (.d (.lit (.int .i64 (chk 1 r))))) :=
 w15 (enc r) ⟨by simp, Zae (c33 _ r 1 (Nat.le_refl _) h (by omega) (by omega)) ⟨_, rfl, rfl, by simp⟩⟩
theorem c16 (r : Rx) (h : lens (2 ^ 40) r) : Holds Try.prog 16 [A.agg (enc r)] [] (Ret (.d (.lit (.int .i64 (chk 1 r))))) :=
 w16 (enc r) ⟨by simp, Zae (c34 _ r 1 (Nat.le_refl _) h (by omega) (by omega)) ⟨_, rfl, rfl, by simp⟩⟩
def Z07 (r : Rx) : Int := if chk 1 r = 0 then size r else 0
theorem c17 (r : Rx) (h : size r <= 2 ^ 40) : Holds Try.prog 17 [A.agg (enc r)] [] (Ret (.d (.lit (.int .i64 (Z07 r))))) := by
 refine w17 (enc r) ⟨by simp, Zae (c15 r (Zij _ r h (Nat.le_refl _))) ⟨_, rfl, rfl, fun hc => ?_, fun hc => ?_⟩⟩
 ·simp at hc; simp [Z07, hc]
 ·simp at hc; exact Zae (c35 _ r h (Nat.le_refl _)) ⟨_, rfl, rfl, by simp [Z07, hc]⟩
mutual
def Zfu : Rx -> Nat
 | .mk _ _ _ _ _ l => Zcp l + 1
def Zcp : List Rx -> Nat
 | [] => 0
 | r :: l => max (Zfu r) (Zcp l)
end
theorem Zik (r : Rx) : Zfu r = Zcp r.subs + 1 := by cases r; rfl
mutual
theorem Zsr : ∀ r : Rx, Zfu r <= size r
 | .mk _ _ _ _ _ l => by have := Zil l; simp only [Zfu, size]; omega
theorem Zil : ∀ l : List Rx, Zcp l <= Zam l
 | [] => by simp [Zcp, Zam]
 | r :: l => by have := Zsr r; have := Zil l; simp only [Zcp, Zam]; omega
end
mutual
def null : Rx -> Bool
 | .mk k _ _ _ _ l => if k = 1 \/ k = 5 then true else if k = 3 then Zdo l else if k = 4 then Zdp l else false
def Zdo : List Rx -> Bool
 | [] => true
 | r :: l => null r && Zdo l
def Zdp : List Rx -> Bool
 | [] => false
 | r :: l => null r || Zdp l
end
theorem Zjb (r : Rx) : null r = if r.kind = 1 \/ r.kind = 5 then true else if r.kind = 3 then Zdo r.subs else if r.kind = 4 then Zdp r.subs else false := by cases r; simp only [null, Rx.kind, Rx.subs]; rfl
theorem Zhn : ∀ l : List Rx, Zdo l = true ↔ ∀ i (h : i < l.length), null l[i] = true
 | [] => by simp [Zdo]
 | r :: l => by
   simp only [Zdo, Bool.and_eq_true, Zhn l]
   constructor
   ·rintro ⟨h1, h2⟩ i hi
    cases i with
    | zero => exact h1
    | succ i => exact h2 i (by simpa using hi)
   ·intro h
    exact ⟨h 0 (by simp), fun i hi => h (i + 1) (by simpa using hi)⟩
theorem Zho : ∀ l : List Rx, Zdp l = true ↔ ∃ i, ∃ h : i < l.length, null l[i] = true
 | [] => by simp [Zdp]
 | r :: l => by
   simp only [Zdp, Bool.or_eq_true, Zho l]
   constructor
   ·rintro (h | ⟨i, hi, h⟩)
    ·exact ⟨0, by simp, h⟩
    ·exact ⟨i + 1, by simpa using hi, h⟩
   ·rintro ⟨i, hi, h⟩
    cases i with
    | zero => exact .inl h
    | succ i => exact .inr ⟨i, by simpa using hi, h⟩
theorem c42 : ∀ (n : Nat) (r : Rx), size r <= n -> lens (2 ^ 40) r -> Holds Try.prog 42 [A.agg (enc r)] [] (Ret (.d (.lit (.bool (null r))))) := by
 intro n
 induction n with
 | zero => intro r h; have := Zaf r; omega
 | succ n ih =>
   intro r hs hn
   have hlen : r.subs.length <= 2 ^ 40 := (Zb6.1 hn).1
   refine w42 (enc r) ⟨by simp, by simp, fun h1 => ?_, fun h1 => ⟨fun h5 => ?_, fun h5 => ⟨fun h3 => ⟨by simp, ?_⟩, fun h3 => ⟨fun h4 => ⟨by simp, ?_⟩, fun h4 => ?_⟩⟩⟩⟩
   ·simp at h1; rw [Zjb]; simp [h1]
   ·simp at h5; rw [Zjb]; simp [h5]
   ·simp at h1 h5 h3
    have e : null r = Zdo r.subs := by rw [Zjb]; simp [h3]
    rw [e]
    refine ⟨fun x => ∃ i : Nat, x = i /\ i <= r.subs.length /\ ∀ j (hj : j < r.subs.length), j < i -> null r.subs[j] = true, fun x => (r.subs.length - x.toNat), ⟨0, rfl, Nat.zero_le _, fun j _ hj => absurd hj (Nat.not_lt_zero _)⟩, ?_, trivial⟩
    rintro x ⟨i, rfl, hi, hall⟩
    refine ⟨fun hc => ?_, fun hc => ?_⟩
    ·simp at hc
     have hsub := Zbc hc
     simp only [enc5, Zaw]
     rw [Zaq rfl hc]
     refine ⟨by simp, by simp, Zae (ih r.subs[i] (by omega) (Zdd hn hc)) ⟨_, rfl, rfl, fun hne => ?_, fun heq => ?_⟩⟩
     ·have e : Zdo r.subs = false := by
       rw [Bool.eq_false_iff]
       intro h
       have := (Zhn _).1 h i hc
       rw [this] at hne
       cases hne
      simp [e]
     ·refine ⟨by simp; omega, by simp; omega, ⟨i + 1, rfl, hc, fun j hj hji => ?_⟩, by simp; omega⟩
      by_cases e : j = i
      ·subst e; simpa using heq
      ·exact hall j hj (by omega)
    ·simp at hc
     have e : Zdo r.subs = true := (Zhn _).2 fun j hj => hall j hj (by omega)
     simp [e]
   ·simp at h1 h5 h3 h4
    have e : null r = Zdp r.subs := by rw [Zjb]; simp [h4]
    rw [e]
    refine ⟨fun x => ∃ i : Nat, x = i /\ i <= r.subs.length /\ ∀ j (hj : j < r.subs.length), j < i -> null r.subs[j] = false, fun x => (r.subs.length - x.toNat), ⟨0, rfl, Nat.zero_le _, fun j _ hj => absurd hj (Nat.not_lt_zero _)⟩, ?_, trivial⟩
    rintro x ⟨i, rfl, hi, hall⟩
    refine ⟨fun hc => ?_, fun hc => ?_⟩
    ·simp at hc
     have hsub := Zbc hc
     simp only [enc5, Zaw]
     rw [Zaq rfl hc]
     refine ⟨by simp, by simp, Zae (ih r.subs[i] (by omega) (Zdd hn hc)) ⟨_, rfl, rfl, fun hne => ?_, fun heq => ?_⟩⟩
     ·have e : Zdp r.subs = true := (Zho _).2 ⟨i, hc, hne⟩
      simp [e]
     ·refine ⟨by simp; omega, by simp; omega, ⟨i + 1, rfl, hc, fun j hj hji => ?_⟩, by simp; omega⟩
      by_cases e : j = i
      ·subst e; exact heq
      ·exact hall j hj (by omega)
    ·simp at hc
     have e : Zdp r.subs = false := by
      rw [Bool.eq_false_iff]
      intro h
      obtain ⟨j, hj, h⟩ := (Zho _).1 h
      rw [hall j hj (by omega)] at h
      cases h
     simp [e]
   ·simp at h1 h5 h3 h4
    rw [Zjb]; simp [h1, h5, h3, h4]
end Go.Rx
end
section
open Go Go.Proofs Go.Ab Go.Rf
set_option maxRecDepth 100000
namespace Go.Rx
inductive Res (α : Type) where
 | ok (a : α) (t : List UInt8)
 | bad (t : List UInt8)
def hd (t : List UInt8) : Nat := match t with | [] => 0 | c :: _ => c.toNat
def escV (x : Nat) : Option Nat := match ctlV x with | some n => some n | none => if spcV x || x == 94 || x == 45 then some x else none
def hexR (lo : Nat) (t : List UInt8) : Res Nat :=
 match hexV (hd t) with
 | none => .bad t
 | some d => if d * 16 + 15 < lo then .bad t else match hexV (hd t.tail) with
   | none => .bad t.tail
   | some e => if d * 16 + e < lo then .bad t.tail else .ok (d * 16 + e) t.tail.tail
def escR (lo : Nat) (t : List UInt8) : Res Nat :=
 if hd t = 120 then hexR lo t.tail else match escV (hd t) with
  | none => .bad t
  | some n => if n < lo then .bad t else .ok n t.tail
def Zcb (lo : Nat) (t : List UInt8) : Res Nat :=
 if hd t = 92 then escR lo t.tail
 else if hd t < 32 \/ 126 < hd t \/ hd t < lo \/ (spcV (hd t) || hd t == 94 || hd t == 45) = true then .bad t else .ok (hd t) t.tail
def mk0 (k : Int) (l : List Rx) : Rx := .mk k 0 0 0 0 l
def setX (p : Nat -> Bool) : Rx := .mk 2 (wd p 0) (wd p 1) (wd p 2) (wd p 3) []
def hiR (lo : Nat) (t : List UInt8) : Res Nat := if hd t = 45 then Zcb lo t.tail else .ok lo t
def negP (neg : Bool) (p : Nat -> Bool) : Nat -> Bool := if neg then fun i => !p i else p
def setL : Nat -> Bool -> (Nat -> Bool) -> List UInt8 -> Option (Res Rx)
 | 0, _, _, _ => none
 | n + 1, neg, p, t => match Zcb 0 t with
   | .bad q => some (.bad q)
   | .ok lo t1 => match hiR lo t1 with
     | .bad q => some (.bad q)
     | .ok hi t3 => if hd t3 = 93 then some (.ok (setX (negP neg (orP p (rng lo hi)))) t3.tail) else setL n neg (orP p (rng lo hi)) t3
def no : Nat -> Bool := fun _ => false
def setR (n : Nat) (t : List UInt8) : Option (Res Rx) :=
 if hd t = 94 then setL n true no t.tail else if hd t = 93 then some (.ok (mk0 0 []) t.tail) else setL n false no t
def Zcs (k : Int) (l : List Rx) : Rx := match l with | [r] => r | l => mk0 k l
def Zme (r : Rx) : Rx := mk0 5 [r]
def opX (c : Nat) (r : Rx) : Option Rx := if c = 42 then some (Zme r) else if c = 43 then some (mk0 3 [r, Zme r]) else if c = 63 then some (mk0 4 [r, mk0 1 []]) else none
def opsL : Nat -> Rx -> List UInt8 -> Option (Res Rx)
 | 0, _, _ => none
 | n + 1, r, t => match opX (hd t) r with | some r' => opsL n r' t.tail | none => some (.ok r t)
def oneX (c : Nat) : Rx := setX (rng c c)
def Zg9 (r : Rx) (t : List UInt8) : Res Rx := if hd t = 41 then .ok r t.tail else .bad t
mutual
def alts : Nat -> List UInt8 -> Option (Res Rx)
 | 0, _ => none
 | n + 1, t => match seqs n t with
   | none => none
   | some (.bad q) => some (.bad q)
   | some (.ok r t1) => altL n [r] t1
def altL : Nat -> List Rx -> List UInt8 -> Option (Res Rx)
 | 0, _, _ => none
 | n + 1, l, t => if hd t = 124 then (match seqs n t.tail with
   | none => none
   | some (.bad q) => some (.bad q)
   | some (.ok r t1) => altL n (l ++ [r]) t1) else some (.ok (Zcs 4 l) t)
def seqs : Nat -> List UInt8 -> Option (Res Rx)
 | 0, _ => none
 | n + 1, t => match Zb7 n t with
   | none => none
   | some (.bad q) => some (.bad q)
   | some (.ok r t1) => seqL n [r] t1
def seqL : Nat -> List Rx -> List UInt8 -> Option (Res Rx)
 | 0, _, _ => none
 | n + 1, l, t => if t ≠ [] /\ hd t ≠ 124 /\ hd t ≠ 41 then (match Zb7 n t with
   | none => none
   | some (.bad q) => some (.bad q)
   | some (.ok r t1) => seqL n (l ++ [r]) t1) else some (.ok (Zcs 3 l) t)
def Zb7 : Nat -> List UInt8 -> Option (Res Rx)
 | 0, _ => none
 | n + 1, t => match atom n t with
   | none => none
   | some (.bad q) => some (.bad q)
   | some (.ok r t1) => opsL n r t1
def atom : Nat -> List UInt8 -> Option (Res Rx)
 | 0, _ => none
 | n + 1, t =>
   if hd t = 40 then (if hd t.tail = 41 then some (.ok (mk0 1 []) t.tail.tail) else match alts n t.tail with
    | none => none
    | some (.bad q) => some (.bad q)
    | some (.ok r t1) => some (Zg9 r t1))
   else if hd t = 91 then setR n t.tail
   else if hd t = 46 then some (.ok (setX (rng 0 255)) t.tail)
   else if hd t = 92 then (match clsV (hd t.tail) with
    | some p => some (.ok (setX p) t.tail.tail)
    | none => match escR 0 t.tail with
      | .bad q => some (.bad q)
      | .ok c t1 => some (.ok (oneX c) t1))
   else if hd t < 32 \/ 126 < hd t \/ spcV (hd t) = true then some (.bad t)
   else some (.ok (oneX (hd t)) t.tail)
end
def Res.Lt {α : Type} (t : List UInt8) : Res α -> Prop
 | .ok _ t' => t'.length < t.length /\ t' <:+ t
 | .bad t' => t' <:+ t
def Res.Le {α : Type} (t : List UInt8) : Res α -> Prop
 | .ok _ t' => t' <:+ t
 | .bad t' => t' <:+ t
theorem Zim {t : List UInt8} (h : hd t ≠ 0) : t.tail.length < t.length := by
 cases t with
 | nil => exact absurd rfl h
 | cons c t => simp
theorem Zbd (t : List UInt8) : t.tail <:+ t := List.tail_suffix t
theorem Zoa {x d : Nat} (h : hexV x = some d) : x ≠ 0 := by
 rintro rfl; simp [hexV] at h
theorem Z4q (lo : Nat) (t : List UInt8) : (hexR lo t).Lt t := by
 unfold hexR
 split
 ·exact List.suffix_refl _
 ·rename_i d hd1
  split
  ·exact List.suffix_refl _
  ·split
   ·exact Zbd _
   ·rename_i e he
    split
    ·exact Zbd _
    ·have h1 := Zim (Zoa hd1)
     have h2 := Zim (Zoa he)
     exact ⟨by omega, (Zbd _).trans (Zbd _)⟩
theorem Z4r {x d : Nat} (h : escV x = some d) : x ≠ 0 := by
 rintro rfl; revert h; simp [escV, ctlV, spcV, spcL]
theorem Res.Lt.tail {α : Type} {t : List UInt8} {r : Res α} (h : r.Lt t.tail) : r.Lt t := by
 cases r with
 | ok a t' => exact ⟨by have := h.1; have : t.tail.length <= t.length := by simp
                        omega, h.2.trans (Zbd _)⟩
 | bad t' => exact List.IsSuffix.trans (show t' <:+ t.tail from h) (Zbd _)
theorem Zyy (lo : Nat) (t : List UInt8) : (escR lo t).Lt t := by
 unfold escR
 split
 ·exact (Z4q _ _).tail
 ·split
  ·exact List.suffix_refl _
  ·rename_i n hn
   split
   ·exact List.suffix_refl _
   ·exact ⟨Zim (Z4r hn), Zbd _⟩
theorem Zgt (lo : Nat) (t : List UInt8) : (Zcb lo t).Lt t := by
 unfold Zcb
 split
 ·exact (Zyy _ _).tail
 ·split
  ·exact List.suffix_refl _
  ·rename_i h
   exact ⟨Zim (by omega), Zbd _⟩
theorem Res.Lt.trans {α : Type} {t t' : List UInt8} {r : Res α} (h : r.Lt t') (h2 : t' <:+ t) : r.Lt t := by
 cases r with
 | ok a q => exact ⟨Nat.lt_of_lt_of_le h.1 h2.length_le, h.2.trans h2⟩
 | bad q => exact List.IsSuffix.trans (show q <:+ t' from h) h2
theorem Zqn (lo : Nat) (t : List UInt8) : (hiR lo t).Le t := by
 unfold hiR
 split
 ·have := (Zgt lo t.tail).tail
  cases hb : Zcb lo t.tail with
  | ok a q => rw [hb] at this; exact this.2
  | bad q => rw [hb] at this; exact this
 ·exact List.suffix_refl _
theorem Zss : ∀ (n : Nat) (neg : Bool) (p : Nat -> Bool) (t : List UInt8) (r : Res Rx), setL n neg p t = some r -> r.Lt t
 | 0, _, _, _, _, h => by simp [setL] at h
 | n + 1, neg, p, t, r, h => by
   unfold setL at h
   have h1 := Zgt 0 t
   split at h
   ·rename_i q hq; rw [hq] at h1; cases h; exact h1
   ·rename_i lo t1 hq
    rw [hq] at h1
    have h2 := Zqn lo t1
    split at h
    ·rename_i q hq; rw [hq] at h2; cases h; exact List.IsSuffix.trans h2 h1.2
    ·rename_i hi t3 hq
     rw [hq] at h2
     have h3 : t3 <:+ t1 := h2
     split at h
     ·cases h
      exact ⟨by have := h1.1; have := h3.length_le; have : t3.tail.length <= t3.length := by simp
                omega, (Zbd _).trans (h3.trans h1.2)⟩
     ·exact (Zss n neg _ t3 r h).trans (h3.trans h1.2)
theorem Z4s (n : Nat) (t : List UInt8) (r : Res Rx) (h : setR n t = some r) : r.Lt t := by
 unfold setR at h
 split at h
 ·exact (Zss _ _ _ _ _ h).tail
 ·split at h
  ·cases h; exact ⟨Zim (by omega), Zbd _⟩
  ·exact Zss _ _ _ _ _ h
theorem Z6q {c : Nat} {r r' : Rx} (h : opX c r = some r') : c ≠ 0 := by
 rintro rfl; simp [opX] at h
theorem Zyz : ∀ (n : Nat) (r : Rx) (t : List UInt8) (o : Res Rx), opsL n r t = some o -> o.Le t
 | 0, _, _, _, h => by simp [opsL] at h
 | n + 1, r, t, o, h => by
   unfold opsL at h
   split at h
   ·rename_i r' _
    have := Zyz n r' t.tail o h
    cases o with
    | ok a q => exact List.IsSuffix.trans this (Zbd _)
    | bad q => exact List.IsSuffix.trans this (Zbd _)
   ·cases h; exact List.suffix_refl _
theorem Res.Lt.le {α : Type} {t : List UInt8} {r : Res α} (h : r.Lt t) : r.Le t := by
 cases r with
 | ok a q => exact h.2
 | bad q => exact h
theorem Res.Le.trans {α : Type} {t t' : List UInt8} {r : Res α} (h : r.Le t') (h2 : t' <:+ t) : r.Le t := by
 cases r with
 | ok a q => exact List.IsSuffix.trans h h2
 | bad q => exact List.IsSuffix.trans h h2
theorem Res.Le.lt {α : Type} {t t' : List UInt8} {r : Res α} (h : r.Le t') (h2 : t' <:+ t) (h3 : t'.length < t.length) : r.Lt t := by
 cases r with
 | ok a q => exact ⟨Nat.lt_of_le_of_lt (List.IsSuffix.length_le h) h3, List.IsSuffix.trans h h2⟩
 | bad q => exact List.IsSuffix.trans h h2
theorem Zdi : ∀ (n : Nat), (∀ t r, alts n t = some r -> r.Lt t) /\ (∀ l t r, altL n l t = some r -> r.Le t) /\ (∀ t r, seqs n t = some r -> r.Lt t) /\ (∀ l t r, seqL n l t = some r -> r.Le t) /\
 (∀ t r, Zb7 n t = some r -> r.Lt t) /\ (∀ t r, atom n t = some r -> r.Lt t) := by
 intro n
 induction n with
 | zero => exact ⟨fun t r h => by simp [alts] at h, fun l t r h => by simp [altL] at h, fun t r h => by simp [seqs] at h, fun l t r h => by simp [seqL] at h, fun t r h => by simp [Zb7] at h, fun t r h => by simp [atom] at h⟩
 | succ n ih =>
   obtain ⟨ih1, ih2, ih3, ih4, ih5, ih6⟩ := ih
   refine ⟨fun t r h => ?_, fun l t r h => ?_, fun t r h => ?_, fun l t r h => ?_, fun t r h => ?_, fun t r h => ?_⟩
   ·unfold alts at h
    split at h
    ·cases h
    ·rename_i hq; cases h; exact ih3 _ _ hq
    ·rename_i hq; have := ih3 _ _ hq; exact (ih2 _ _ _ h).lt this.2 this.1
   ·unfold altL at h
    split at h
    ·split at h
     ·cases h
     ·rename_i hq; cases h; exact (ih3 _ _ hq).tail
     ·rename_i hq; have := (ih3 _ _ hq).tail; exact (ih2 _ _ _ h).trans this.2
    ·cases h; exact List.suffix_refl _
   ·unfold seqs at h
    split at h
    ·cases h
    ·rename_i hq; cases h; exact ih5 _ _ hq
    ·rename_i hq; have := ih5 _ _ hq; exact (ih4 _ _ _ h).lt this.2 this.1
   ·unfold seqL at h
    split at h
    ·split at h
     ·cases h
     ·rename_i hq; cases h; exact (ih5 _ _ hq)
     ·rename_i hq; have := (ih5 _ _ hq); exact (ih4 _ _ _ h).trans this.2
    ·cases h; exact List.suffix_refl _
   ·unfold Zb7 at h
    split at h
    ·cases h
    ·rename_i hq; cases h; exact ih6 _ _ hq
    ·rename_i hq; have := ih6 _ _ hq; exact (Zyz _ _ _ _ h).lt this.2 this.1
   ·unfold atom at h
    split at h
    ·have h0 := Zim (show hd t ≠ 0 by omega)
     split at h
     ·have h1 := Zim (show hd t.tail ≠ 0 by omega)
      cases h; exact ⟨by omega, (Zbd _).trans (Zbd _)⟩
     ·split at h
      ·cases h
      ·rename_i hq; cases h; exact (ih1 _ _ hq).tail
      ·rename_i hq
       have h2 := (ih1 _ _ hq).tail
       cases h
       unfold Zg9
       split
       ·rename_i t1 _
        exact ⟨by have := h2.1; have : t1.tail.length <= t1.length := by simp
                  omega, (Zbd _).trans h2.2⟩
       ·exact h2.2
    ·split at h
     ·exact (Z4s _ _ _ h).tail
     ·split at h
      ·cases h; exact ⟨Zim (by omega), Zbd _⟩
      ·split at h
       ·split at h
        ·cases h; exact ⟨by have h1 := Zim (show hd t ≠ 0 by omega); have : t.tail.tail.length <= t.tail.length := by simp
                            omega, (Zbd _).trans (Zbd _)⟩
        ·have h1 := (Zyy 0 t.tail).tail
         split at h
         ·rename_i q hq; rw [hq] at h1; cases h; exact h1
         ·rename_i q hq; rw [hq] at h1; cases h; exact h1
       ·split at h
        ·cases h; exact List.suffix_refl _
        ·cases h; exact ⟨Zim (by omega), Zbd _⟩
end Go.Rx
end
section
open Go Go.Proofs Go.Ab Go.Rf
set_option maxRecDepth 100000
namespace Go.Rx
def Zhp (b : Bool) : A := .d (.lit (.bool b))
theorem tle {a b : Int} (h : a <= b) : (tB (decide (a <= b))) = true := by simp [h]
theorem tlt {a b : Int} (h : a < b) : (tB (decide (a < b))) = true := by simp [h]
theorem teq {a b : Int} (h : a = b) : (tB (a == b)) = true := by simp [h]
theorem Zlh {a b : Int} (h : (tB (decide (a <= b))) = true) : a <= b := by simpa using h
theorem Zax {a b : Int} (h : (tB (decide (a < b))) = true) : a < b := by simpa using h
theorem Zao {a b : Int} (h : (tB (a == b)) = true) : a = b := by simpa using h
theorem Ze8 {a b : Int} (h : (tB (decide (a <= b))) = false) : b < a := by simpa using h
theorem Zan {a b : Int} (h : (tB (decide (a < b))) = false) : b <= a := by simpa using h
theorem Zag {a b : Int} (h : (tB (a == b)) = false) : a ≠ b := by simpa using h
structure At (s t : List UInt8) (i : Int) : Prop where
 suf : t <:+ s
 pos : i + t.length = s.length
 sm : s.length <= 1048576
theorem At.next {s t : List UInt8} {i : Int} (h : At s t i) (hn : t ≠ []) : At s t.tail (i + 1) := by
 refine ⟨(Zbd _).trans h.suf, ?_, h.sm⟩
 have := h.pos
 have : t.tail.length + 1 = t.length := by cases t with
  | nil => exact absurd rfl hn
  | cons c t => simp
 omega
theorem At.lo {s t : List UInt8} {i : Int} (h : At s t i) : 0 <= i /\ i <= 1048576 := by
 have := h.pos; have := h.sm; have := h.suf.length_le; omega
theorem At.lt {s t : List UInt8} {i : Int} (h : At s t i) : i < (s.length : Int) ↔ t ≠ [] := by
 have h1 := h.pos
 cases t with
 | nil => simp at h1; simp; omega
 | cons c t => simp at h1; simp; omega
theorem At.byte {s t : List UInt8} {i : Int} (h : At s t i) (hn : t ≠ []) : Zak s i = hd t := by
 obtain ⟨u, hu⟩ := h.suf
 cases t with
 | nil => exact absurd rfl hn
 | cons c t =>
   have h1 := h.pos
   rw [<- hu] at h1 ⊢
   simp only [List.length_append, List.length_cons] at h1
   have e : i.toNat = u.length := by omega
   simp [Zak, e, hd]
theorem Za5 {t : List UInt8} (h : hd t ≠ 0) : t ≠ [] := by rintro rfl; exact h rfl
theorem Zin (t : List UInt8) : hd t < 256 := by
 cases t with
 | nil => simp [hd]
 | cons c t => exact c.toNat_lt
def PB (q : Ref) (s : List UInt8) (i : Int) : List (Ref × List A) := [(.up q, [A.d (.lit (Zaa s)), A.d (.lit (.int .i64 i))])]
def Zec (i : Int) : Value := dval (D.lit (.iface 56 (.agg (([D.lit (.int .i64 i)] : List D).map dval).toArray)))
def Res.map {α β : Type} (f : α -> β) : Res α -> Res β | .ok a t => .ok (f a) t | .bad t => .bad t
def RetB (v : A) (B : List (Ref × List A)) : Out -> List (Ref × List A) -> Prop := fun o H => o = .ret v /\ H = B
def PAft (q : Ref) (s : List UInt8) (res : Res A) : Out -> List (Ref × List A) -> Prop := fun o H => match res with
 | .ok v t => o = .ret v /\ ∃ i, At s t i /\ H = PB q s i
 | .bad t => ∃ i j, At s t i /\ o = .pan (Zec i) /\ H = PB q s j
theorem Za3 {P : Program} {f : Nat} {args : List A} {v : A} {B B' : List (Ref × List A)} (hc : Holds P f args B (RetB v B')) {Q1 : A -> List (Ref × List A) -> Prop} {Q2 : Value -> List (Ref × List A) -> Prop} (h : Q1 v B') :
 ∀ _ : Nat -> Nat, ∃ R' : Out -> List (Ref × List A) -> Prop, Holds P f args B R' /\ (∀ v H', R' (.ret v) H' -> Q1 v H') /\ (∀ u H', R' (.pan u) H' -> Q2 u H') :=
 fun _ => ⟨_, hc, fun v' H' e => by obtain ⟨e1, rfl⟩ := e; cases e1; exact h, fun u H' e => by cases e.1⟩
theorem Zgz {P : Program} {f : Nat} {args : List A} {v : Value} {B B' : List (Ref × List A)} (hc : Holds P f args B fun o H => o = .pan v /\ H = B') {Q1 : A -> List (Ref × List A) -> Prop} {Q2 : Value -> List (Ref × List A) -> Prop} (h : Q2 v B') :
 ∀ _ : Nat -> Nat, ∃ R' : Out -> List (Ref × List A) -> Prop, Holds P f args B R' /\ (∀ v H', R' (.ret v) H' -> Q1 v H') /\ (∀ u H', R' (.pan u) H' -> Q2 u H') :=
 fun _ => ⟨_, hc, fun v' H' e => (by cases e.1), fun u H' e => by obtain ⟨e1, rfl⟩ := e; cases e1; exact h⟩
theorem Zg0 {P : Program} {f : Nat} {args : List A} {B : List (Ref × List A)} {q : Ref} {s : List UInt8} {res : Res A} (hc : Holds P f args B (PAft q s res)) {Q1 : A -> List (Ref × List A) -> Prop} {Q2 : Value -> List (Ref × List A) -> Prop}
 (h1 : ∀ v t i, res = .ok v t -> At s t i -> Q1 v (PB q s i)) (h2 : ∀ t i j, res = .bad t -> At s t i -> Q2 (Zec i) (PB q s j)) :
 ∀ _ : Nat -> Nat, ∃ R' : Out -> List (Ref × List A) -> Prop, Holds P f args B R' /\ (∀ v H', R' (.ret v) H' -> Q1 v H') /\ (∀ u H', R' (.pan u) H' -> Q2 u H') := by
 refine fun _ => ⟨_, hc, fun v' H' e => (by
  cases res with
  | ok v t => obtain ⟨e1, i, hi, rfl⟩ := e; cases e1; exact h1 _ t i rfl hi
  | bad t => obtain ⟨i, j, hi, e1, _⟩ := e; cases e1), fun u H' e => by
  cases res with
  | ok v t => cases e.1
  | bad t => obtain ⟨i, j, hi, e1, rfl⟩ := e; cases e1; exact h2 t i j rfl hi⟩
theorem Zdj {q : Ref} {s t : List UInt8} {v : A} {res : Res A} {i : Int} (h : res = .ok v t) (hi : At s t i) : PAft q s res (.ret v) (PB q s i) := by subst h; exact ⟨rfl, i, hi, rfl⟩
theorem Zbq {q : Ref} {s t : List UInt8} {res : Res A} {i j : Int} (h : res = .bad t) (hi : At s t i) : PAft q s res (.pan (Zec i)) (PB q s j) := by subst h; exact ⟨i, j, hi, rfl, rfl⟩
theorem Zby {α β : Type} {f : α -> β} {r : Res α} {b : β} {t : List UInt8} (h : r.map f = .ok b t) : ∃ a, r = .ok a t /\ f a = b := by
 cases r with
 | ok a t' => cases h; exact ⟨a, rfl, rfl⟩
 | bad t' => cases h
theorem Zbr {α β : Type} {f : α -> β} {r : Res α} {t : List UInt8} (h : r.map f = .bad t) : r = .bad t := by
 cases r with
 | ok a t' => cases h
 | bad t' => cases h; rfl
theorem c49 {q : Ref} {s t : List UInt8} {i : Int} (h : At s t i) : Holds Try.prog 49 [A.ptr (.up q) 0] (PB q s i) (RetB (.d (.lit (.int .u8 (hd t)))) (PB q s i)) := by
 refine w49 s i q ⟨fun hc => ?_, fun hc => ?_⟩
 ·have hn := h.lt.1 (Zax hc)
  exact ⟨tle h.lo.1, by rw [h.byte hn]; exact ⟨rfl, rfl⟩⟩
 ·have hn : t = [] := Classical.byContradiction fun hn => by have := h.lt.2 hn; have := Zan hc; omega
  subst hn
  exact ⟨rfl, rfl⟩
theorem c38 {q : Ref} {s : List UInt8} {i j : Int} : Holds Try.prog 38 [A.ptr (.up q) 0, A.d (.lit (.int .i64 j))] (PB q s i) (fun o H => o = .pan (Zec j) /\ H = PB q s i) :=
 w38 s i j q ⟨rfl, rfl, rfl⟩
theorem c50 (k : Int) (l : List Rx) : Holds Try.prog 50 [A.d (.lit (.int .i64 k)), A.d (.slc (encs l))] [] (Ret (.agg (enc (Zcs k l)))) := by
 refine w50 k (encs l) ⟨fun h => ?_, fun h => ?_⟩
 ·have h := Zao h
  simp only [Zab] at h
  match l, h with
  | [r], _ =>
    have e : gAt (encs [r]) 0 = enc r := rfl
    rw [e]
    exact ⟨tlt (by simp), teq (by simp), rfl, rfl⟩
 ·have h := Zag h
  simp only [Zab] at h
  match l, h with
  | [], _ => exact ⟨rfl, rfl⟩
  | [r], h => exact absurd rfl h
  | _ :: _ :: _, _ => exact ⟨rfl, rfl⟩
theorem c81 (c : Nat) (h : c < 256) : Holds Try.prog 81 [A.d (.lit (.int .u8 c))] [] (Ret (.agg (enc (oneX c)))) :=
 w81 c (Zae (c79' c c h h) ⟨_, rfl, rfl, rfl, rfl, rfl⟩)
theorem nib (n d : Nat) (hn : n < 16) (hd : d < 16) : gOr .u8 (gShl .u8 (n : Int) 4) (d : Int) = ((n * 16 + d : Nat) : Int) := by
 have : ∀ n < 16, ∀ d < 16, gOr .u8 (gShl .u8 ((n : Nat) : Int) 4) ((d : Nat) : Int) = ((n * 16 + d : Nat) : Int) := by decide
 exact this n hn d hd
theorem Zfq {x d : Nat} (h : hexV x = some d) : d < 16 := by
 unfold hexV at h
 repeat' split at h
 all_goals first | cases h; omega | cases h
def u8A (n : Nat) : A := .d (.lit (.int .u8 n))
theorem c93 {q : Ref} {s t : List UInt8} {i : Int} (lo : Nat) (h : At s t (i + 1)) : Holds Try.prog 93 [A.ptr (.up q) 0, A.d (.lit (.int .u8 lo))] (PB q s i) (PAft q s ((hexR lo t).map u8A)) := by
 refine w93 s i lo q ⟨fun x k s' i' => s' = s /\ ((k = 0 /\ x = 0 /\ i' = i) \/ (∃ d, hexV (hd t) = some d /\ ¬ d * 16 + 15 < lo /\ k = 1 /\ x = (d : Nat) /\ i' = i + 1) \/ (∃ d, hexR lo t = .ok d t.tail.tail /\ k = 2 /\ x = (d : Nat) /\ At s t.tail.tail (i' + 1))), fun _ k _ _ => 2 - k.toNat, ⟨rfl, .inl ⟨rfl, rfl, rfl⟩⟩, ?_, trivial⟩
 have hlo := h.lo
 rintro x k s' i' ⟨rfl, ⟨rfl, rfl, rfl⟩ | ⟨d, hd1, hd2, rfl, rfl, rfl⟩ | ⟨d, hd1, rfl, rfl, hd2⟩⟩
 ·refine ⟨fun _ => ⟨tle (by omega), fun _ => ⟨tle (by omega), tle (by omega), Za3 (c49 h) ⟨_, _, _, rfl, rfl, Zae (c101 (hd t) (Zin t)) ⟨_, _, rfl, rfl, fun hc => ?_, fun hc => ?_⟩⟩⟩, fun h0 => absurd rfl (Zag h0)⟩, fun h0 => absurd (Zan h0) (by decide)⟩
  ·refine Zgz c38 ⟨_, _, rfl, ?_⟩
   refine Zbq (t := t) ?_ h
   unfold hexR
   cases hv : hexV (hd t) with
   | none => rfl
   | some d =>
     have h1 := Zfq hv
     rw [hv] at hc
     rw [show ((0 : Int)) = ((0 : Nat) : Int) from rfl] at hc
     simp only [Option.getD_some, Option.isSome_some, nib 0 d (by decide) h1, show (15 : Int) = ((15 : Nat) : Int) from rfl, nib (0 * 16 + d) 15 (by omega) (by decide), Bool.not_true, Bool.false_or] at hc
     have hc := Zax hc
     dsimp only
     rw [if_pos (by omega)]
     rfl
  ·refine ⟨tle (by omega), tle (by omega), ⟨rfl, .inr (.inl ?_)⟩, by simp⟩
   cases hv : hexV (hd t) with
   | none => rw [hv] at hc; cases hc
   | some d =>
     have h1 := Zfq hv
     rw [hv] at hc
     rw [show ((0 : Int)) = ((0 : Nat) : Int) from rfl] at hc ⊢
     simp only [Option.getD_some, Option.isSome_some, nib 0 d (by decide) h1, show (15 : Int) = ((15 : Nat) : Int) from rfl, nib (0 * 16 + d) 15 (by omega) (by decide), Bool.not_true, Bool.false_or] at hc ⊢
     have hc := Zan hc
     exact ⟨d, rfl, by omega, by omega, by omega, trivial⟩
 ·have hne := Za5 (Zoa hd1)
  have h2 := h.next hne
  have h1 := Zfq hd1
  have hlo2 := h2.lo
  refine ⟨fun _ => ⟨tle (by omega), fun h0 => absurd (Zao h0) (by decide), fun _ => ⟨teq rfl, tle (by omega), tle (by omega), Za3 (c49 h2) ⟨_, _, _, rfl, rfl, Zae (c101 (hd t.tail) (Zin _)) ⟨_, _, rfl, rfl, fun hc => ?_, fun hc => ?_⟩⟩⟩⟩, fun h0 => absurd (Zan h0) (by decide)⟩
  ·refine Zgz c38 ⟨_, _, rfl, ?_⟩
   refine Zbq (t := t.tail) ?_ h2
   unfold hexR
   rw [hd1]
   dsimp only
   rw [if_neg hd2]
   cases hv : hexV (hd t.tail) with
   | none => rfl
   | some e =>
     have h3 := Zfq hv
     rw [hv] at hc
     simp only [Option.getD_some, Option.isSome_some, nib d e h1 h3, Bool.not_true, Bool.false_or] at hc
     have hc := Zax hc
     dsimp only
     rw [if_pos (by omega)]
     rfl
  ·refine ⟨tle (by omega), tle (by omega), ⟨rfl, .inr (.inr ?_)⟩, by simp⟩
   cases hv : hexV (hd t.tail) with
   | none => rw [hv] at hc; cases hc
   | some e =>
     have h3 := Zfq hv
     rw [hv] at hc
     simp only [Option.getD_some, Option.isSome_some, nib d e h1 h3, Bool.not_true, Bool.false_or] at hc ⊢
     have hc := Zan hc
     refine ⟨d * 16 + e, ?_, by omega, by omega, h2.next (Za5 (Zoa hv))⟩
     unfold hexR
     rw [hd1]
     dsimp only
     rw [if_neg hd2, hv]
     dsimp only
     rw [if_neg (by omega)]
 ·refine ⟨fun h0 => absurd (Zax h0) (by decide), fun _ => ⟨?_, ?_, ?_⟩⟩
  ·have := hd2.lo; exact tle (by omega)
  ·have := hd2.lo; exact tle (by omega)
  ·exact Zdj (by rw [hd1]; rfl) hd2
end Go.Rx
end
section
open Go Go.Proofs Go.Ab Go.Rf
set_option maxRecDepth 100000
namespace Go.Rx
theorem At.end_ {s t : List UInt8} {i : Int} (h : At s t i) (hc : (s.length : Int) <= i) : t = [] := Classical.byContradiction fun hn => by have := h.lt.2 hn; omega
theorem At.more {s t : List UInt8} {i : Int} (h : At s t i) (hc : i < (s.length : Int)) : t ≠ [] := h.lt.1 hc
theorem Zqo {x : Nat} (h1 : x ≠ 110) (h2 : x ≠ 116) (h3 : x ≠ 114) : ctlV x = none := by
 unfold ctlV; rw [if_neg h1, if_neg h2, if_neg h3]
def escL : List UInt8 := [40, 41, 91, 93, 123, 125, 124, 42, 43, 63, 46, 92, 45, 94]
theorem Z08 (x : Nat) : (escL.any fun b => b.toNat == x) = (spcV x || x == 94 || x == 45) := by
 simp only [escL, spcV, spcL, List.any_cons, List.any_nil, Bool.or_false]
 have e1 : ((45 : UInt8).toNat == x) = (x == 45) := Bool.eq_iff_iff.2 (by simp; exact eq_comm)
 have e2 : ((94 : UInt8).toNat == x) = (x == 94) := Bool.eq_iff_iff.2 (by simp; exact eq_comm)
 rw [e1, e2]
 cases x == 94 <;> cases x == 45 <;> simp
theorem c82 {q : Ref} {s t : List UInt8} {i : Int} (lo : Nat) (h : At s t (i + 1)) : Holds Try.prog 82 [A.ptr (.up q) 0, A.d (.lit (.int .u8 lo))] (PB q s i) (PAft q s ((escR lo t).map u8A)) := by
 have hlo := h.lo
 have fin : ∀ n : Nat, t ≠ [] -> hd t ≠ 120 -> escV (hd t) = some n -> (lo : Int) <= (n : Int) -> PAft q s ((escR lo t).map u8A) (.ret (u8A n)) (PB q s (i + 1 + 1)) := fun n hn h1 h2 h3 => by
  refine Zdj (t := t.tail) ?_ (h.next hn)
  unfold escR
  rw [if_neg h1, h2]
  dsimp only
  rw [if_neg (by omega)]
  rfl
 have low : ∀ (n : Nat) (j : Int), hd t ≠ 120 -> escV (hd t) = some n -> (n : Int) < (lo : Int) -> PAft q s ((escR lo t).map u8A) (.pan (Zec (i + 1))) (PB q s j) := fun n j h1 h2 h3 => by
  refine Zbq (t := t) ?_ h
  unfold escR
  rw [if_neg h1, h2]
  dsimp only
  rw [if_pos (by omega)]
  rfl
 have non : ∀ (j : Int), hd t ≠ 120 -> escV (hd t) = none -> PAft q s ((escR lo t).map u8A) (.pan (Zec (i + 1))) (PB q s j) := fun j h1 h2 => by
  refine Zbq (t := t) ?_ h
  unfold escR
  rw [if_neg h1, h2]
  rfl
 refine w82 s i lo q ⟨tle (by omega), tle (by omega), Za3 (c49 h) ⟨_, _, _, rfl, rfl, fun hc => ?_, fun hc => ⟨fun h0 => ?_, fun h0 => ⟨fun h1 => ⟨fun h2 => ?_, fun h2 => ?_⟩, fun h1 => ⟨fun h2 => ⟨fun h3 => ?_, fun h3 => ?_⟩, fun h2 => ⟨fun h3 => ⟨fun h4 => ?_, fun h4 => ?_⟩, fun h3 => ?_⟩⟩⟩⟩⟩⟩
 ·have ht := h.end_ (Zlh hc)
  subst ht
  have e : (s.length : Int) = i + 1 := by have := h.pos; simp at this; omega
  rw [e]
  exact Zgz c38 ⟨_, _, rfl, non _ (by decide) rfl⟩
 ·have h0 := Zao h0
  have e : escR lo t = hexR lo t.tail := by unfold escR; rw [if_pos (by omega)]
  have hn := h.more (Ze8 hc)
  rw [e]
  exact Zg0 (c93 lo (h.next hn)) (fun v t' i' e hi => by obtain ⟨n, e1, rfl⟩ := Zby e; exact ⟨_, _, _, rfl, rfl, Zdj e hi⟩) (fun t' i' j e hi => ⟨_, _, rfl, Zbq e hi⟩)
 ·exact Zgz c38 ⟨_, _, rfl, low 10 _ (by have := Zag h0; omega) (by rw [show hd t = 110 by have := Zao h1; omega]; rfl) (Zax h2)⟩
 ·exact ⟨tle (by omega), tle (by omega), fin 10 (h.more (Ze8 hc)) (by have := Zag h0; omega) (by rw [show hd t = 110 by have := Zao h1; omega]; rfl) (Zan h2)⟩
 ·exact Zgz c38 ⟨_, _, rfl, low 9 _ (by have := Zag h0; omega) (by rw [show hd t = 116 by have := Zao h2; omega]; rfl) (Zax h3)⟩
 ·exact ⟨tle (by omega), tle (by omega), fin 9 (h.more (Ze8 hc)) (by have := Zag h0; omega) (by rw [show hd t = 116 by have := Zao h2; omega]; rfl) (Zan h3)⟩
 ·exact Zgz c38 ⟨_, _, rfl, low 13 _ (by have := Zag h0; omega) (by rw [show hd t = 114 by have := Zao h3; omega]; rfl) (Zax h4)⟩
 ·exact ⟨tle (by omega), tle (by omega), fin 13 (h.more (Ze8 hc)) (by have := Zag h0; omega) (by rw [show hd t = 114 by have := Zao h3; omega]; rfl) (Zan h4)⟩
 ·have hx : hd t ≠ 120 := by have := Zag h0; omega
  have ec : ctlV (hd t) = none := Zqo (by have := Zag h1; omega) (by have := Zag h2; omega) (by have := Zag h3; omega)
  have hidx := Zhm escL (hd t) (Zin t)
  rw [Z08] at hidx
  refine Zae (c83 escL (hd t)) ⟨_, rfl, rfl, fun h4 => ?_, fun h4 => ⟨fun h5 => ?_, fun h5 => ?_⟩⟩
  ·have h4 := Zax h4
   have hb : ¬ ((spcV (hd t) || hd t == 94 || hd t == 45) = true) := fun hb => by have := hidx.2 hb; omega
   refine Zgz c38 ⟨_, _, rfl, non _ hx ?_⟩
   unfold escV; rw [ec]; dsimp only; rw [if_neg hb]
  ·have h4 := Zan h4
   have es : escV (hd t) = some (hd t) := by unfold escV; rw [ec]; dsimp only; rw [if_pos (hidx.1 h4)]
   exact Zgz c38 ⟨_, _, rfl, low _ _ hx es (Zax h5)⟩
  ·have h4 := Zan h4
   have es : escV (hd t) = some (hd t) := by unfold escV; rw [ec]; dsimp only; rw [if_pos (hidx.1 h4)]
   exact ⟨tle (by omega), tle (by omega), fin _ (h.more (Ze8 hc)) hx es (Zan h5)⟩
def itemL : List UInt8 := [40, 41, 91, 93, 123, 125, 124, 42, 43, 63, 46, 94, 45]
theorem Zy0 (x : Nat) (h : x ≠ 92) : (itemL.any fun b => b.toNat == x) = (spcV x || x == 94 || x == 45) := by
 simp only [itemL, spcV, spcL, List.any_cons, List.any_nil, Bool.or_false]
 have e1 : ((45 : UInt8).toNat == x) = (x == 45) := Bool.eq_iff_iff.2 (by simp; exact eq_comm)
 have e2 : ((94 : UInt8).toNat == x) = (x == 94) := Bool.eq_iff_iff.2 (by simp; exact eq_comm)
 have e3 : ((92 : UInt8).toNat == x) = false := by simpa using fun e => h e.symm
 rw [e1, e2, e3]
 simp [Bool.or_assoc]
theorem c90 {q : Ref} {s t : List UInt8} {i : Int} (lo : Nat) (h : At s t i) : Holds Try.prog 90 [A.ptr (.up q) 0, A.d (.lit (.int .u8 lo))] (PB q s i) (PAft q s ((Zcb lo t).map u8A)) := by
 have hlo := h.lo
 have bad : ∀ (j : Int), hd t ≠ 92 -> (hd t < 32 \/ 126 < hd t \/ hd t < lo \/ (spcV (hd t) || hd t == 94 || hd t == 45) = true) -> PAft q s ((Zcb lo t).map u8A) (.pan (Zec i)) (PB q s j) := fun j h1 h2 => by
  refine Zbq (t := t) ?_ h
  unfold Zcb
  rw [if_neg h1, if_pos h2]
  rfl
 refine w90 s i lo q (Za3 (c49 h) ⟨_, _, _, rfl, rfl, fun hc => ?_, fun hc => ⟨fun h0 => ?_, fun h0 => ⟨fun h1 => ?_, fun h1 => ?_⟩⟩⟩)
 ·have ht := h.end_ (Zlh hc)
  subst ht
  have e : (s.length : Int) = i := by have := h.pos; simp at this; omega
  rw [e]
  exact Zgz c38 ⟨_, _, rfl, bad _ (by decide) (.inl (by decide))⟩
 ·have h0 := Zao h0
  have e : Zcb lo t = escR lo t.tail := by unfold Zcb; rw [if_pos (by omega)]
  rw [e]
  exact Zg0 (c82 lo (h.next (h.more (Ze8 hc)))) (fun v t' i' e hi => by obtain ⟨n, e1, rfl⟩ := Zby e; exact ⟨_, _, _, rfl, rfl, Zdj e hi⟩) (fun t' i' j e hi => ⟨_, _, rfl, Zbq e hi⟩)
 ·have hx : hd t ≠ 92 := by have := Zag h0; omega
  have hidx := Zhm itemL (hd t) (Zin t)
  rw [Zy0 _ hx] at hidx
  simp only [Zbg, Bool.not_eq_true', Bool.or_eq_false_iff, decide_eq_false_iff_not] at h1
  refine Zae (c83 itemL (hd t)) ⟨_, rfl, rfl, fun h4 => ?_, fun h4 => ?_⟩
  ·exact Zgz c38 ⟨_, _, rfl, bad _ hx (.inr (.inr (.inr (hidx.1 (Zlh h4)))))⟩
  ·have h4 := Ze8 h4
   refine ⟨tle (by omega), tle (by omega), Zdj (t := t.tail) ?_ (h.next (h.more (Ze8 hc)))⟩
   unfold Zcb
   rw [if_neg hx, if_neg]
   ·rfl
   ·rintro (h5 | h5 | h5 | h5)
    ·omega
    ·omega
    ·omega
    ·have := hidx.2 h5; omega
 ·have hx : hd t ≠ 92 := by have := Zag h0; omega
  simp only [Zbg, Bool.not_eq_false', Bool.or_eq_true, decide_eq_true_eq] at h1
  exact Zgz c38 ⟨_, _, rfl, bad _ hx (by omega)⟩
def setC (n : Nat) (neg : Bool) (p : Nat -> Bool) (t : List UInt8) : Option (Res Rx) := if hd t = 93 then some (.ok (setX (negP neg p)) t.tail) else setL n neg p t
structure SetI (s : List UInt8) (neg : Bool) (res : Res Rx) (b : Bool) (a0 a1 a2 a3 : D) (s' : List UInt8) (i : Int) (n : Nat) (p : Nat -> Bool) (t : List UInt8) : Prop where
 es : s' = s
 e0 : a0 = .lit (.int .u64 (wd p 0))
 e1 : a1 = .lit (.int .u64 (wd p 1))
 e2 : a2 = .lit (.int .u64 (wd p 2))
 e3 : a3 = .lit (.int .u64 (wd p 3))
 at_ : At s t i
 run : (if b then setL n neg p t else setC n neg p t) = some res
theorem Zli {n : Nat} {neg : Bool} {p : Nat -> Bool} {t t1 t3 : List UInt8} {lo hi : Nat} {res : Res Rx} (h : setL n neg p t = some res) (h1 : Zcb 0 t = .ok lo t1) (h2 : hiR lo t1 = .ok hi t3) : ∃ m, setC m neg (orP p (rng lo hi)) t3 = some res := by
 cases n with
 | zero => simp [setL] at h
 | succ m =>
   refine ⟨m, ?_⟩
   unfold setL at h
   rw [h1] at h
   dsimp only at h
   rw [h2] at h
   exact h
theorem Zlj {n : Nat} {neg : Bool} {p : Nat -> Bool} {t q : List UInt8} {res : Res Rx} (h : setL n neg p t = some res) (h1 : Zcb 0 t = .bad q) : res = .bad q := by
 cases n with
 | zero => simp [setL] at h
 | succ m =>
   unfold setL at h
   rw [h1] at h
   cases h; rfl
theorem Zlk {n : Nat} {neg : Bool} {p : Nat -> Bool} {t t1 q : List UInt8} {lo : Nat} {res : Res Rx} (h : setL n neg p t = some res) (h1 : Zcb 0 t = .ok lo t1) (h2 : hiR lo t1 = .bad q) : res = .bad q := by
 cases n with
 | zero => simp [setL] at h
 | succ m =>
   unfold setL at h
   rw [h1] at h
   dsimp only at h
   rw [h2] at h
   cases h; rfl
theorem SetI.lt {s t : List UInt8} {i i' : Int} {t' : List UInt8} (h : At s t i) (h' : At s t' i') (hl : t'.length < t.length) : ((s.length : Int) - i').toNat < ((s.length : Int) - i).toNat := by
 have := h.pos; have := h'.pos; omega
theorem Zco (lo : Nat) {t t' : List UInt8} {n : Nat} (h : Zcb lo t = .ok n t') : n < 256 := by
 have h0 := Zin t
 have hx : ∀ t : List UInt8, hexR lo t = .ok n t' -> n < 256 := fun t h => by
  unfold hexR at h
  split at h
  ·cases h
  ·rename_i d hd1
   split at h
   ·cases h
   ·split at h
    ·cases h
    ·rename_i e hd2
     have := Zfq hd1
     have := Zfq hd2
     split at h
     ·cases h
     ·cases h; omega
 unfold Zcb at h
 split at h
 ·unfold escR at h
  split at h
  ·exact hx _ h
  ·split at h
   ·cases h
   ·rename_i m hm
    split at h
    ·cases h
    ·cases h
     have h1 := Zin t.tail
     unfold escV at hm
     split at hm
     ·rename_i k hk
      cases hm
      unfold ctlV at hk
      repeat' split at hk
      all_goals first | cases hk; decide | cases hk
     ·split at hm
      ·cases hm; exact h1
      ·cases hm
 ·split at h
  ·cases h
  ·cases h; exact h0
theorem c79r (lo hi : Nat) (h : hi < 256) (hl : lo < 256) : ∀ _ : Nat -> Nat, Holds Try.prog 79 [A.d (.lit (.int .u8 lo)), A.d (.lit (.int .u8 hi))] [] (Zce [] (.agg (row4 (rng lo hi)))) := fun _ => c79' lo hi h hl
theorem Zjv (k : Nat) : wd no k = 0 := Zn6 (by decide) fun j _ => Nat.zero_testBit j
theorem c78 {q : Ref} {s t : List UInt8} {i : Int} (n : Nat) (res : Res Rx) (hr : setR n t = some res) (h : At s t (i + 1)) : Holds Try.prog 78 [A.ptr (.up q) 0] (PB q s i) (PAft q s (res.map fun r => A.agg (enc r))) := by
 have hlo := h.lo
 refine w78 s i q ⟨tle (by omega), tle (by omega), Za3 (c49 h) ⟨_, _, _, rfl, rfl, fun h0 => ⟨tle (by omega), tle (by omega), ?_⟩, fun h0 => Za3 (c49 h) ⟨_, _, _, rfl, rfl, fun h1 => ?_, fun h1 => ?_⟩⟩⟩
 ·have h0 := Zao h0
  have hn : t ≠ [] := Za5 (by omega)
  have hr' : setL n true no t.tail = some res := by unfold setR at hr; rw [if_pos (by omega)] at hr; exact hr
  refine ⟨fun b a0 a1 a2 a3 s' i' => ∃ n p t, SetI s true res b a0 a1 a2 a3 s' i' n p t, fun _ _ _ _ _ s' i' => ((s'.length : Int) - i').toNat, ⟨n, no, t.tail, rfl, by simp [Zjv], by simp [Zjv], by simp [Zjv], by simp [Zjv], h.next hn, hr'⟩, ?_, trivial⟩
  rintro b a0 a1 a2 a3 s' i' ⟨m, p, t', rfl, rfl, rfl, rfl, rfl, hat, hrun⟩
  have hlo' := hat.lo
  have key : ∀ n, setL n true p t' = some res -> ∀ lo t1 i1, Zcb 0 t' = .ok lo t1 -> At s' t1 i1 -> ∀ hi t3 i3, hiR lo t1 = .ok hi t3 -> At s' t3 i3 ->
   (∃ n p' t, SetI s' true res false ((row4 (orP p (rng lo hi))).getD 0 D0) ((row4 (orP p (rng lo hi))).getD 1 D0) ((row4 (orP p (rng lo hi))).getD 2 D0) ((row4 (orP p (rng lo hi))).getD 3 D0) s' i3 n p' t) /\ ((s'.length : Int) - i3).toNat < ((s'.length : Int) - i').toNat := fun n hs lo t1 i1 e1 h1 hi t3 i3 e2 h2 => by
   obtain ⟨m, hm⟩ := Zli hs e1 e2
   refine ⟨⟨m, orP p (rng lo hi), t3, rfl, rfl, rfl, rfl, rfl, h2, hm⟩, SetI.lt hat h2 ?_⟩
   have hl1 := Zgt 0 t'
   rw [e1] at hl1
   have hl2 := Zqn lo t1
   rw [e2] at hl2
   have := hl1.1
   have := List.IsSuffix.length_le hl2
   omega
  refine ⟨fun hb => Za3 (c49 hat) ⟨_, _, _, rfl, rfl, fun hc => ?_, fun hc => ?_⟩, fun hb => ?_⟩
  rotate_left
  ·have hc : hd t' = 93 := by simp at hc; omega
   have hn' : t' ≠ [] := Za5 (by omega)
   have hb : b = false := by simpa using hb
   subst hb
   simp only [Bool.false_eq_true, if_false, setC, if_pos hc] at hrun
   cases hrun
   refine ⟨tle (by omega), tle (by omega), Zae (c92 p) ⟨_, rfl, rfl, rfl, ?_⟩⟩
   exact ⟨rfl, _, hat.next hn', rfl⟩
  all_goals
   have hrun' : setL m true p t' = some res := by
    first
     | (have hb : b = true := by simpa using hb
        subst hb
        exact hrun)
     | (have hb : b = false := by simpa using hb
        subst hb
        have hc : hd t' ≠ 93 := by simp at hc; omega
        simp only [Bool.false_eq_true, if_false, setC, if_neg hc] at hrun
        exact hrun)
   refine Zg0 (c90 0 hat) (fun v t1 i1 e1 hi1 => ?_) (fun t1 i1 j e1 hi1 => ?_)
   ·obtain ⟨lo, f1, rfl⟩ := Zby e1
    have hlo1 := hi1.lo
    refine ⟨_, _, _, rfl, rfl, Za3 (c49 hi1) ⟨_, _, _, rfl, rfl, fun h2 => ?_, fun h2 => ?_⟩⟩
    ·have h2 := Zao h2
     have hn1 : t1 ≠ [] := Za5 (by omega)
     have eh : hiR lo t1 = Zcb lo t1.tail := by unfold hiR; rw [if_pos (by omega)]
     refine ⟨tle (by omega), tle (by omega), Zg0 (c90 lo (hi1.next hn1)) (fun v t3 i3 e3 hi3 => ?_) (fun t3 i3 j e3 hi3 => ?_)⟩
     ·obtain ⟨hi, f3, rfl⟩ := Zby e3
      exact ⟨_, _, _, rfl, rfl, _, c79r lo hi (Zco _ f3) (Zco _ f1), Zae (c91' p (rng lo hi)) ⟨_, rfl, rfl, rfl, (key m hrun' lo t1 i1 f1 hi1 hi t3 i3 (by rw [eh, f3]) hi3)⟩⟩
     ·have e3 := Zbr e3
      have := Zlk hrun' f1 (by rw [eh, e3])
      subst this
      exact ⟨_, _, rfl, Zbq rfl hi3⟩
    ·have h2 := Zag h2
     have eh : hiR lo t1 = .ok lo t1 := by unfold hiR; rw [if_neg (by omega)]
     exact ⟨_, c79r lo lo (Zco _ f1) (Zco _ f1), Zae (c91' p (rng lo lo)) ⟨_, rfl, rfl, rfl, (key m hrun' lo t1 i1 f1 hi1 lo t1 i1 eh hi1)⟩⟩
   ·have e1 := Zbr e1
    have := Zlj hrun' e1
    subst this
    exact ⟨_, _, rfl, Zbq rfl hi1⟩
 ·have h0 := Zag h0
  have h1 := Zao h1
  have hn : t ≠ [] := Za5 (by omega)
  unfold setR at hr
  rw [if_neg (by omega), if_pos (by omega)] at hr
  cases hr
  exact ⟨tle (by omega), tle (by omega), Zdj rfl (h.next hn)⟩
 ·have h0 := Zag h0
  have h1 := Zag h1
  have hr' : setL n false no t = some res := by unfold setR at hr; rw [if_neg (by omega), if_neg (by omega)] at hr; exact hr
  refine ⟨fun b a0 a1 a2 a3 s' i' => ∃ n p t, SetI s false res b a0 a1 a2 a3 s' i' n p t, fun _ _ _ _ _ s' i' => ((s'.length : Int) - i').toNat, ⟨n, no, t, rfl, by simp [Zjv], by simp [Zjv], by simp [Zjv], by simp [Zjv], h, hr'⟩, ?_, trivial⟩
  rintro b a0 a1 a2 a3 s' i' ⟨m, p, t', rfl, rfl, rfl, rfl, rfl, hat, hrun⟩
  have hlo' := hat.lo
  have key : ∀ n, setL n false p t' = some res -> ∀ lo t1 i1, Zcb 0 t' = .ok lo t1 -> At s' t1 i1 -> ∀ hi t3 i3, hiR lo t1 = .ok hi t3 -> At s' t3 i3 ->
   (∃ n p' t, SetI s' false res false ((row4 (orP p (rng lo hi))).getD 0 D0) ((row4 (orP p (rng lo hi))).getD 1 D0) ((row4 (orP p (rng lo hi))).getD 2 D0) ((row4 (orP p (rng lo hi))).getD 3 D0) s' i3 n p' t) /\ ((s'.length : Int) - i3).toNat < ((s'.length : Int) - i').toNat := fun n hs lo t1 i1 e1 h1 hi t3 i3 e2 h2 => by
   obtain ⟨m, hm⟩ := Zli hs e1 e2
   refine ⟨⟨m, orP p (rng lo hi), t3, rfl, rfl, rfl, rfl, rfl, h2, hm⟩, SetI.lt hat h2 ?_⟩
   have hl1 := Zgt 0 t'
   rw [e1] at hl1
   have hl2 := Zqn lo t1
   rw [e2] at hl2
   have := hl1.1
   have := List.IsSuffix.length_le hl2
   omega
  refine ⟨fun hb => Za3 (c49 hat) ⟨_, _, _, rfl, rfl, fun hc => ?_, fun hc => ?_⟩, fun hb => ?_⟩
  rotate_left
  ·have hc : hd t' = 93 := by simp at hc; omega
   have hn' : t' ≠ [] := Za5 (by omega)
   have hb : b = false := by simpa using hb
   subst hb
   simp only [Bool.false_eq_true, if_false, setC, if_pos hc] at hrun
   cases hrun
   exact ⟨tle (by omega), tle (by omega), rfl, _, hat.next hn', rfl⟩
  all_goals
   have hrun' : setL m false p t' = some res := by
    first
     | (have hb : b = true := by simpa using hb
        subst hb
        exact hrun)
     | (have hb : b = false := by simpa using hb
        subst hb
        have hc : hd t' ≠ 93 := by simp at hc; omega
        simp only [Bool.false_eq_true, if_false, setC, if_neg hc] at hrun
        exact hrun)
   refine Zg0 (c90 0 hat) (fun v t1 i1 e1 hi1 => ?_) (fun t1 i1 j e1 hi1 => ?_)
   ·obtain ⟨lo, f1, rfl⟩ := Zby e1
    have hlo1 := hi1.lo
    refine ⟨_, _, _, rfl, rfl, Za3 (c49 hi1) ⟨_, _, _, rfl, rfl, fun h2 => ?_, fun h2 => ?_⟩⟩
    ·have h2 := Zao h2
     have hn1 : t1 ≠ [] := Za5 (by omega)
     have eh : hiR lo t1 = Zcb lo t1.tail := by unfold hiR; rw [if_pos (by omega)]
     refine ⟨tle (by omega), tle (by omega), Zg0 (c90 lo (hi1.next hn1)) (fun v t3 i3 e3 hi3 => ?_) (fun t3 i3 j e3 hi3 => ?_)⟩
     ·obtain ⟨hi, f3, rfl⟩ := Zby e3
      exact ⟨_, _, _, rfl, rfl, _, c79r lo hi (Zco _ f3) (Zco _ f1), Zae (c91' p (rng lo hi)) ⟨_, rfl, rfl, rfl, (key m hrun' lo t1 i1 f1 hi1 hi t3 i3 (by rw [eh, f3]) hi3)⟩⟩
     ·have e3 := Zbr e3
      have := Zlk hrun' f1 (by rw [eh, e3])
      subst this
      exact ⟨_, _, rfl, Zbq rfl hi3⟩
    ·have h2 := Zag h2
     have eh : hiR lo t1 = .ok lo t1 := by unfold hiR; rw [if_neg (by omega)]
     exact ⟨_, c79r lo lo (Zco _ f1) (Zco _ f1), Zae (c91' p (rng lo lo)) ⟨_, rfl, rfl, rfl, (key m hrun' lo t1 i1 f1 hi1 lo t1 i1 eh hi1)⟩⟩
   ·have e1 := Zbr e1
    have := Zlj hrun' e1
    subst this
    exact ⟨_, _, rfl, Zbq rfl hi1⟩
end Go.Rx
end
section
open Go Go.Proofs Go.Ab Go.Rf
set_option maxRecDepth 100000
namespace Go.Rx
def encA (r : Rx) : A := .agg (enc r)
def K37 (n : Nat) : Prop := ∀ (q : Ref) (s t : List UInt8) (i : Int) (res : Res Rx), alts n t = some res -> At s t i -> Holds Try.prog 37 [A.ptr (.up q) 0] (PB q s i) (PAft q s (res.map encA))
def K48 (n : Nat) : Prop := ∀ (q : Ref) (s t : List UInt8) (i : Int) (res : Res Rx), seqs n t = some res -> At s t i -> Holds Try.prog 48 [A.ptr (.up q) 0] (PB q s i) (PAft q s (res.map encA))
def K65 (n : Nat) : Prop := ∀ (q : Ref) (s t : List UInt8) (i : Int) (res : Res Rx), Zb7 n t = some res -> At s t i -> Holds Try.prog 65 [A.ptr (.up q) 0] (PB q s i) (PAft q s (res.map encA))
def K73 (n : Nat) : Prop := ∀ (q : Ref) (s t : List UInt8) (i : Int) (res : Res Rx), atom n t = some res -> At s t i -> Holds Try.prog 73 [A.ptr (.up q) 0] (PB q s i) (PAft q s (res.map encA))
theorem teq6 (r : Rx) : (tB (((enc r).length : Int) == 6)) = true := teq (by simp)
def Zul (n : Nat) (t : List UInt8) : Option (Res Rx) :=
 if hd t = 41 then some (.ok (mk0 1 []) t.tail) else match alts n t with
  | none => none
  | some (.bad q) => some (.bad q)
  | some (.ok r t1) => some (Zg9 r t1)
theorem c77 {n : Nat} (K : K37 n) {q : Ref} {s t : List UInt8} {i : Int} {res : Res Rx} (hr : Zul n t = some res) (h : At s t (i + 1)) : Holds Try.prog 77 [A.ptr (.up q) 0] (PB q s i) (PAft q s (res.map encA)) := by
 have hlo := h.lo
 refine w77 s i q ⟨tle (by omega), tle (by omega), Za3 (c49 h) ⟨_, _, _, rfl, rfl, fun h0 => ?_, fun h0 => ?_⟩⟩
 ·have h0 := Zao h0
  unfold Zul at hr
  rw [if_pos (by omega)] at hr
  cases hr
  exact ⟨tle (by omega), tle (by omega), Zdj rfl (h.next (Za5 (by omega)))⟩
 ·have h0 := Zag h0
  unfold Zul at hr
  rw [if_neg (by omega)] at hr
  cases ha : alts n t with
  | none => rw [ha] at hr; cases hr
  | some ra =>
    rw [ha] at hr
    refine Zg0 (K (.up q) s t (i + 1) ra ha h) (fun v t1 i1 e1 hi1 => ?_) (fun t1 i1 j e1 hi1 => ?_)
    ·obtain ⟨r, f1, rfl⟩ := Zby e1
     subst f1
     cases hr
     have hlo1 := hi1.lo
     refine ⟨_, _, _, rfl, rfl, teq6 r, Za3 (c49 hi1) ⟨_, _, _, rfl, rfl, fun h2 => ?_, fun h2 => ?_⟩⟩
     ·have h2 : hd t1 ≠ 41 := by simp at h2; omega
      refine Zgz c38 ⟨_, _, rfl, Zbq (t := t1) ?_ hi1⟩
      unfold Zg9
      rw [if_neg h2]; rfl
     ·have h2 : hd t1 = 41 := by simp at h2; omega
      refine ⟨tle (by omega), tle (by omega), Zdj (t := t1.tail) ?_ (hi1.next (Za5 (by omega)))⟩
      unfold Zg9
      rw [if_pos h2]; rfl
    ·have f1 := Zbr e1
     subst f1
     cases hr
     exact ⟨_, _, rfl, Zbq rfl hi1⟩
theorem c73 {n : Nat} (K : K37 n) : K73 (n + 1) := by
 intro q s t i res hr h
 have hlo := h.lo
 have hx := Zin t
 unfold atom at hr
 have bad : hd t ≠ 40 -> hd t ≠ 91 -> hd t ≠ 46 -> hd t ≠ 92 -> (hd t < 32 \/ 126 < hd t \/ spcV (hd t) = true) -> ∀ j, PAft q s (res.map encA) (.pan (Zec i)) (PB q s j) := fun h1 h2 h3 h4 h5 j => by
  rw [if_neg h1, if_neg h2, if_neg h3, if_neg h4, if_pos h5] at hr
  cases hr
  exact Zbq rfl h
 refine w73 s i q (Za3 (c49 h) ⟨_, _, _, rfl, rfl, fun hc => ?_, fun hc => ⟨fun h0 => ?_, fun h0 => ⟨fun h1 => ?_, fun h1 => ⟨fun h2 => ?_, fun h2 => ⟨fun h3 => ?_, fun h3 => ⟨fun h4 => ?_, fun h4 => ?_⟩⟩⟩⟩⟩⟩)
 ·have ht := h.end_ (Zlh hc)
  subst ht
  have e : (s.length : Int) = i := by have := h.pos; simp at this; omega
  rw [e]
  exact Zgz c38 ⟨_, _, rfl, bad (by decide) (by decide) (by decide) (by decide) (.inl (by decide)) _⟩
 ·have h0 := Zao h0
  have hn : t ≠ [] := Za5 (by omega)
  rw [if_pos (by omega)] at hr
  have hg : Zul n t.tail = some res := hr
  exact Zg0 (c77 K hg (h.next hn)) (fun v t1 i1 e1 hi1 => by obtain ⟨r, f1, rfl⟩ := Zby e1; exact ⟨_, _, _, rfl, rfl, teq6 r, Zdj e1 hi1⟩) (fun t1 i1 j e1 hi1 => ⟨_, _, rfl, Zbq e1 hi1⟩)
 ·have h0 := Zag h0
  have h1 := Zao h1
  have hn : t ≠ [] := Za5 (by omega)
  rw [if_neg (by omega), if_pos (by omega)] at hr
  exact Zg0 (c78 n res hr (h.next hn)) (fun v t1 i1 e1 hi1 => by obtain ⟨r, f1, rfl⟩ := Zby e1; exact ⟨_, _, _, rfl, rfl, teq6 r, Zdj e1 hi1⟩) (fun t1 i1 j e1 hi1 => ⟨_, _, rfl, Zbq e1 hi1⟩)
 ·have h0 := Zag h0
  have h1 := Zag h1
  have h2 := Zao h2
  have hn : t ≠ [] := Za5 (by omega)
  rw [if_neg (by omega), if_neg (by omega), if_pos (by omega)] at hr
  cases hr
  exact ⟨tle (by omega), tle (by omega), Zae (c79' 0 255 (by decide) (by decide)) ⟨_, rfl, rfl, rfl, Zdj rfl (h.next hn)⟩⟩
 ·have h0 := Zag h0
  have h1 := Zag h1
  have h2 := Zag h2
  have h3 := Zao h3
  have hn : t ≠ [] := Za5 (by omega)
  have h' := h.next hn
  have hlo' := h'.lo
  rw [if_neg (by omega), if_neg (by omega), if_neg (by omega), if_pos (by omega)] at hr
  have esc : clsV (hd t.tail) = none -> ∀ (Q1 : A -> List (Ref × List A) -> Prop) (Q2 : Value -> List (Ref × List A) -> Prop), (∀ c t1 i1, c < 256 -> At s t1 i1 -> PAft q s (res.map encA) (.ret (encA (oneX c))) (PB q s i1) -> Q1 (u8A c) (PB (.up q) s i1)) -> (∀ i1 j, PAft q s (res.map encA) (.pan (Zec i1)) (PB q s j) -> Q2 (Zec i1) (PB (.up q) s j)) ->
   ∀ _ : Nat -> Nat, ∃ R' : Out -> List (Ref × List A) -> Prop, Holds Try.prog 82 [(A.ptr (.up (Ref.up q)) 0), A.d (.lit (.int .u8 (0 : Int)))] (PB (.up q) s i) R' /\ (∀ v H', R' (.ret v) H' -> Q1 v H') /\ (∀ u H', R' (.pan u) H' -> Q2 u H') := fun hcl Q1 Q2 k1 k2 => by
   rw [hcl] at hr
   refine Zg0 (c82 0 h') (fun v t1 i1 e1 hi1 => ?_) (fun t1 i1 j e1 hi1 => ?_)
   ·obtain ⟨c, f1, rfl⟩ := Zby e1
    rw [f1] at hr
    cases hr
    have hc : c < 256 := Zco 0 (t := t) (by unfold Zcb; rw [if_pos (by omega), f1])
    exact k1 c t1 i1 hc hi1 (Zdj rfl hi1)
   ·have f1 := Zbr e1
    rw [f1] at hr
    cases hr
    exact k2 i1 j (Zbq rfl hi1)
  refine ⟨tle (by omega), tle (by omega), fun hm => ?_, fun hm => ?_⟩
  ·have hn' := h'.more (Zax hm)
   rw [h'.byte hn']
   refine ⟨tle (by omega), Zae (c80 (hd t.tail) (Zin _)) ⟨_, _, rfl, rfl, rfl, fun hs => ?_, fun hs => ?_⟩⟩
   ·cases hcl : clsV (hd t.tail) with
    | none => rw [hcl] at hs; cases hs
    | some p =>
      rw [hcl] at hr
      cases hr
      have h'' := h'.next hn'
      rw [show i + 1 + 1 = i + 2 by omega] at h''
      exact ⟨tle (by omega), tle (by omega), Zdj rfl h''⟩
   ·cases hcl : clsV (hd t.tail) with
    | some p => rw [hcl] at hs; cases hs
    | none =>
      exact esc hcl _ _ (fun c t1 i1 hc hi1 k => ⟨_, _, _, rfl, rfl, Zae (c81 c hc) ⟨_, rfl, rfl, teq6 _, k⟩⟩) (fun i1 j k => ⟨_, _, rfl, k⟩)
  ·have hn' := h'.end_ (Zan hm)
   exact esc (by rw [hn']; rfl) _ _ (fun c t1 i1 hc hi1 k => ⟨_, _, _, rfl, rfl, Zae (c81 c hc) ⟨_, rfl, rfl, teq6 _, k⟩⟩) (fun i1 j k => ⟨_, _, rfl, k⟩)
 ·have h0 := Zag h0
  have h1 := Zag h1
  have h2 := Zag h2
  have h3 := Zag h3
  simp only [Zbg, Bool.not_eq_true', Bool.or_eq_false_iff, decide_eq_false_iff_not] at h4
  have hidx := Zhm spcL (hd t) hx
  refine Zae (c83 spcL (hd t)) ⟨_, rfl, rfl, fun h5 => ?_, fun h5 => ?_⟩
  ·exact Zgz c38 ⟨_, _, rfl, bad (by omega) (by omega) (by omega) (by omega) (.inr (.inr (hidx.1 (Zlh h5)))) _⟩
  ·have h5 := Ze8 h5
   have hn := h.more (Ze8 hc)
   have hsp : ¬ spcV (hd t) = true := fun hb => by have := hidx.2 hb; omega
   rw [if_neg (by omega), if_neg (by omega), if_neg (by omega), if_neg (by omega), if_neg (by rintro (h6 | h6 | h6) <;> first | omega | exact hsp h6)] at hr
   cases hr
   exact ⟨tle (by omega), tle (by omega), Zae (c81 (hd t) hx) ⟨_, rfl, rfl, teq6 _, Zdj rfl (h.next hn)⟩⟩
 ·have h0 := Zag h0
  have h1 := Zag h1
  have h2 := Zag h2
  have h3 := Zag h3
  simp only [Zbg, Bool.not_eq_false', Bool.or_eq_true, decide_eq_true_eq] at h4
  exact Zgz c38 ⟨_, _, rfl, bad (by omega) (by omega) (by omega) (by omega) (by omega) _⟩
theorem Zdk (r : Rx) : [(enc r).getD 0 D0, (enc r).getD 1 D0, (enc r).getD 2 D0, (enc r).getD 3 D0, (enc r).getD 4 D0, (enc r).getD 5 D0] = enc r := by cases r; rfl
theorem Ze9 {m : Nat} {r r' : Rx} {t : List UInt8} {res : Res Rx} (h : opsL m r t = some res) (h1 : opX (hd t) r = some r') : ∃ m', opsL m' r' t.tail = some res := by
 cases m with
 | zero => simp [opsL] at h
 | succ m => refine ⟨m, ?_⟩; unfold opsL at h; rw [h1] at h; exact h
theorem Zqp {m : Nat} {r : Rx} {t : List UInt8} {res : Res Rx} (h : opsL m r t = some res) (h1 : opX (hd t) r = none) : res = .ok r t := by
 cases m with
 | zero => simp [opsL] at h
 | succ m => unfold opsL at h; rw [h1] at h; cases h; rfl
theorem c65 {n : Nat} (K : K73 n) : K65 (n + 1) := by
 intro q s t i res hr h
 unfold Zb7 at hr
 cases ha : atom n t with
 | none => rw [ha] at hr; cases hr
 | some ra =>
   rw [ha] at hr
   refine w65 s i q (Zg0 (K (.up q) s t i ra ha h) (fun v t1 i1 e1 hi1 => ?_) (fun t1 i1 j e1 hi1 => ?_))
   ·obtain ⟨r, f1, rfl⟩ := Zby e1
    subst f1
    refine ⟨_, _, _, rfl, rfl, teq6 r, fun a b c d e f s' i' => ∃ m r t, s' = s /\ [a, b, c, d, e, f] = enc r /\ At s t i' /\ opsL m r t = some res, fun _ _ _ _ _ _ s' i' => ((s'.length : Int) - i').toNat, ⟨n, r, t1, rfl, Zdk r, hi1, hr⟩, ?_, trivial⟩
    rintro a b c d e f s' i' ⟨m, r', t', rfl, he, hat, hrun⟩
    have hlo' := hat.lo
    have lt : t' ≠ [] -> ((s'.length : Int) - (i' + 1)).toNat < ((s'.length : Int) - i').toNat := fun hn => by have := hat.lt.2 hn; omega
    refine Za3 (c49 hat) ⟨_, _, _, rfl, rfl, fun h0 => ?_, fun h0 => ⟨fun h1 => ?_, fun h1 => ⟨fun h2 => ?_, fun h2 => ?_⟩⟩⟩
    ·have h0 := Zao h0
     have hn := Za5 (t := t') (by omega)
     obtain ⟨m', hm⟩ := Ze9 hrun (r' := Zme r') (by unfold opX; rw [if_pos (by omega)])
     refine ⟨tle (by omega), tle (by omega), ⟨m', _, _, rfl, ?_, hat.next hn, hm⟩, lt hn⟩
     rw [he]; rfl
    ·have h0 := Zag h0
     have h1 := Zao h1
     have hn := Za5 (t := t') (by omega)
     obtain ⟨m', hm⟩ := Ze9 hrun (r' := mk0 3 [r', Zme r']) (by unfold opX; rw [if_neg (by omega), if_pos (by omega)])
     refine ⟨tle (by omega), tle (by omega), ⟨m', _, _, rfl, ?_, hat.next hn, hm⟩, lt hn⟩
     rw [he]; rfl
    ·have h0 := Zag h0
     have h1 := Zag h1
     have h2 := Zao h2
     have hn := Za5 (t := t') (by omega)
     obtain ⟨m', hm⟩ := Ze9 hrun (r' := mk0 4 [r', mk0 1 []]) (by unfold opX; rw [if_neg (by omega), if_neg (by omega), if_pos (by omega)])
     refine ⟨tle (by omega), tle (by omega), ⟨m', _, _, rfl, ?_, hat.next hn, hm⟩, lt hn⟩
     rw [he]; rfl
    ·have h0 := Zag h0
     have h1 := Zag h1
     have h2 := Zag h2
     have := Zqp hrun (by unfold opX; rw [if_neg (by omega), if_neg (by omega), if_neg (by omega)])
     subst this
     rw [he]
     exact Zdj rfl hat
   ·have f1 := Zbr e1
    subst f1
    cases hr
    exact ⟨_, _, rfl, Zbq rfl hi1⟩
theorem Z09 {C : Ctx} {r : Ref} {x : A} {H : List (Ref × List A)} {g : Gh} {w : World} (h : HeapRel C (Zay ((r, [x]) :: H)) g w) : HeapRel C (Zay ((r, [A.any]) :: H)) g w := by
 have old : ∀ {o b}, Owns (Zay ((r, [A.any]) :: H)) g o b -> Owns (Zay ((r, [x]) :: H)) g o b := fun {o b} ho => by
  cases ho with
  | @box q c h1 =>
    by_cases e : q = r
    ·subst e; exact .box (c := [x]) (by simp [Zay, kOf])
    ·exact .box (c := c) (by simpa [Zay, kOf, upd, e] using h1)
  | slot h1 => cases h1
  | @cell q c j a h1 h2 h3 =>
    by_cases e : q = r
    ·subst e
     have hc : c = [A.any] := by simpa [Zay, kOf] using h1.symm
     subst hc
     cases j with
     | zero => cases h2; cases h3
     | succ j => simp at h2
    ·exact .cell (c := c) (by simpa [Zay, kOf, upd, e] using h1) h2 h3
 refine ⟨fun q c hc => ?_, fun o o' b h1 h2 => h.inj o o' b (old h1) (old h2), fun o b h1 => h.wr o b (old h1), h.prs, h.pr0, h.prn, h.up, h.uu, h.fr⟩
 by_cases e : q = r
 ·subst e
  have hc : c = [A.any] := by simpa [Zay, kOf] using hc.symm
  subst hc
  obtain ⟨cs, k1, k2, k3, k4, k5⟩ := h.box q [x] (by simp [Zay, kOf])
  refine ⟨cs, k1, k2, fun j a ha => ?_, k4, k5⟩
  cases j with
  | zero =>
    cases ha
    obtain ⟨_, v, k6, _⟩ := k3 0 x rfl
    exact ⟨rfl, v, k6, trivial⟩
  | succ j => simp at ha
 ·exact h.box q c (by simpa [Zay, kOf, upd, e] using hc)
theorem Zv9 {P : Program} {f : Nat} {args : List A} {r : Ref} {x : A} {H : List (Ref × List A)} {R R' : Out -> List (Ref × List A) -> Prop} (h : Holds P f args ((r, [x]) :: H) R)
 (hret : ∀ v H', R (.ret v) H' -> R' (.ret v) H') (hpan : ∀ u H', R (.pan u) H' -> ∃ y H1, H' = (r, [y]) :: H1 /\ R' (.pan u) ((r, [A.any]) :: H1)) :
 Holds P f args ((r, [x]) :: H) R' :=
 fun w cargs g h1 h2 => (h w cargs g h1 h2).mono fun e w' ⟨out, H', g', a, b, c, d⟩ => by
  cases out with
  | ret v => exact ⟨.ret v, H', g', hret _ _ a, b, c, d⟩
  | pan u =>
    obtain ⟨y, H1, rfl, hR⟩ := hpan _ _ a
    exact ⟨.pan u, _, g', hR, b, Z09 c, d⟩
def Z4t (q0 q1 q2 : Ref) (s : List UInt8) (l : List Rx) (res : Res Rx) : Out -> List (Ref × List A) -> Prop := fun o H => match res with
 | .ok r t => o = .ret (.tup []) /\ ∃ i, At s t i /\ H = [(.up q0, [A.own 6 (encs (l ++ [r])) []]), (.up q1, [A.ptr (.up q2) 0]), (.up q2, [A.d (.lit (Zaa s)), A.d (.lit (.int .i64 i))])]
 | .bad t => ∃ i j, At s t i /\ o = .pan (Zec i) /\ H = [(.up q0, [A.any]), (.up q1, [A.ptr (.up q2) 0]), (.up q2, [A.d (.lit (Zaa s)), A.d (.lit (.int .i64 j))])]
theorem Zj2 {a b : List D} (h : a.length = b.length) : Ab.setL a 0 b = b := by
 unfold Ab.setL; simp [<- h]
theorem c64a {n : Nat} (K : K65 n) {q0 q1 q2 : Ref} (h01 : q0 ≠ q1) (h02 : q0 ≠ q2) (h12 : q1 ≠ q2) {s t : List UInt8} {i : Int} {res : Res Rx} (hr : Zb7 n t = some res) (h : At s t i) :
 Holds Try.prog 64 [A.ptr (.up q0) 0, A.ptr (.up q1) 0] [(.up q0, [A.zs []]), (.up q1, [A.ptr (.up q2) 0]), (.up q2, [A.d (.lit (Zaa s)), A.d (.lit (.int .i64 i))])] (Z4t q0 q1 q2 s [] res) := by
 let R0 : Out -> List (Ref × List A) -> Prop := fun o H => match res with
  | .ok r t => o = .ret (.tup []) /\ ∃ i, At s t i /\ H = [(.up q0, [A.own 6 (encs ([] ++ [r])) []]), (.up q1, [A.ptr (.up q2) 0]), (.up q2, [A.d (.lit (Zaa s)), A.d (.lit (.int .i64 i))])]
  | .bad t => ∃ i j, At s t i /\ o = .pan (Zec i) /\ H = [(.up q0, [A.zs []]), (.up q1, [A.ptr (.up q2) 0]), (.up q2, [A.d (.lit (Zaa s)), A.d (.lit (.int .i64 j))])]
 refine Zv9 (R := R0) (w64a s i q0 q1 q2 h01 h02 h12 (Zg0 (K (.up q2) s t i res hr h) (fun v t1 i1 e1 hi1 => ?_) (fun t1 i1 j e1 hi1 => ?_))) (fun v H' ho => ?_) (fun u H' ho => ?_)
 ·obtain ⟨r, f1, rfl⟩ := Zby e1
  subst f1
  refine ⟨_, _, _, rfl, rfl, tle (by decide), tle (by decide), tlt (by decide), teq6 r, rfl, i1, hi1, ?_⟩
  have e : gAt (((D.lit (.int .i64 (0 : Int))) :: ((D.lit (.int .u64 (0 : Int))) :: ((D.lit (.int .u64 (0 : Int))) :: ((D.lit (.int .u64 (0 : Int))) :: ((D.lit (.int .u64 (0 : Int))) :: ((D.slc ([] : List (List D))) :: ([] : List D))))))) :: ([] : List (List D))) (0 : Int) = [D.lit (.int .i64 (0 : Int)), D.lit (.int .u64 (0 : Int)), D.lit (.int .u64 (0 : Int)), D.lit (.int .u64 (0 : Int)), D.lit (.int .u64 (0 : Int)), D.slc []] := rfl
  rw [e, Zj2 (by simp)]
  rfl
 ·have f1 := Zbr e1
  subst f1
  exact ⟨_, _, rfl, i1, j, hi1, rfl, rfl⟩
 ·cases res with
  | ok r t1 => exact ho
  | bad t1 => obtain ⟨_, _, _, e, _⟩ := ho; cases e
 ·cases res with
  | ok r t1 => cases ho.1
  | bad t1 => obtain ⟨i1, j, hi1, e, rfl⟩ := ho; exact ⟨_, _, rfl, i1, j, hi1, e, rfl⟩
theorem c64b {n : Nat} (K : K65 n) {q0 q1 q2 : Ref} (h01 : q0 ≠ q1) (h02 : q0 ≠ q2) (h12 : q1 ≠ q2) {s t : List UInt8} {i : Int} {res : Res Rx} {l : List Rx} (hl : l.length <= 1048576) (hr : Zb7 n t = some res) (h : At s t i) :
 Holds Try.prog 64 [A.ptr (.up q0) 0, A.ptr (.up q1) 0] [(.up q0, [A.own 6 (encs l) []]), (.up q1, [A.ptr (.up q2) 0]), (.up q2, [A.d (.lit (Zaa s)), A.d (.lit (.int .i64 i))])] (Z4t q0 q1 q2 s l res) := by
 refine w64b (encs l) s i q0 q1 q2 h01 h02 h12 (Zg0 (K (.up q2) s t i res hr h) (fun v t1 i1 e1 hi1 => ?_) (fun t1 i1 j e1 hi1 => ?_))
 ·obtain ⟨r, f1, rfl⟩ := Zby e1
  subst f1
  refine ⟨_, _, _, rfl, rfl, tle (by simp; omega), tle (by simp; omega), teq6 r, rfl, i1, hi1, ?_⟩
  rw [Zj2 (by simp)]
  show [(Ref.up q0, [A.own 6 (encs l ++ encs [r]) []]), _, _] = _
  rw [Zbn]
 ·have f1 := Zbr e1
  subst f1
  exact ⟨_, _, rfl, i1, j, hi1, rfl, rfl⟩
theorem Zob (r : Rx) : Zga 6 [enc r] = true := by unfold Zga; rw [List.all_cons, Ze7]; rfl
theorem Z6r {f : Nat} {args : List A} {B : List (Ref × List A)} {q0 q1 q2 : Ref} {s : List UInt8} {l : List Rx} {res : Res Rx} (hc : Holds Try.prog f args B (Z4t q0 q1 q2 s l res)) {Q1 : A -> List (Ref × List A) -> Prop} {Q2 : Value -> List (Ref × List A) -> Prop}
 (h1 : ∀ r t i, res = .ok r t -> At s t i -> Q1 (.tup []) [(.up q0, [A.own 6 (encs (l ++ [r])) []]), (.up q1, [A.ptr (.up q2) 0]), (.up q2, [A.d (.lit (Zaa s)), A.d (.lit (.int .i64 i))])])
 (h2 : ∀ t i j, res = .bad t -> At s t i -> Q2 (Zec i) [(.up q0, [A.any]), (.up q1, [A.ptr (.up q2) 0]), (.up q2, [A.d (.lit (Zaa s)), A.d (.lit (.int .i64 j))])]) :
 ∃ R' : Out -> List (Ref × List A) -> Prop, Holds Try.prog f args B R' /\ (∀ v H', R' (.ret v) H' -> Q1 v H') /\ (∀ u H', R' (.pan u) H' -> Q2 u H') := by
 refine ⟨_, hc, fun v' H' e => ?_, fun u H' e => ?_⟩
 ·cases res with
  | ok v t => obtain ⟨e1, i, hi, rfl⟩ := e; cases e1; exact h1 _ t i rfl hi
  | bad t => obtain ⟨i, j, hi, e1, _⟩ := e; cases e1
 ·cases res with
  | ok v t => cases e.1
  | bad t => obtain ⟨i, j, hi, e1, rfl⟩ := e; cases e1; exact h2 t i j rfl hi
theorem Zoc {q : Ref} {a b : Nat} : Ref.own a b ≠ Ref.up q := fun h => by cases h
theorem Zy1 {a b c d : Nat} (h : a ≠ c) : Ref.own a b ≠ Ref.own c d := fun e => by cases e; exact h rfl
theorem c48 {n : Nat} (K : ∀ m, m <= n -> K65 m) : K48 (n + 1) := by
 intro q s t i res hr h
 unfold seqs at hr
 cases ha : Zb7 n t with
 | none => rw [ha] at hr; cases hr
 | some ra =>
   rw [ha] at hr
   refine w48 s i q fun ν => Z6r (c64a (K n (Nat.le_refl _)) (Zy1 (by decide)) Zoc Zoc ha h) (fun r t1 i1 e1 hi1 => ?_) (fun t1 i1 j e1 hi1 => ?_)
   ·subst e1
    have hlt := (Zdi n).2.2.2.2.1 _ _ ha
    refine ⟨_, _, _, rfl, rfl, fun x s' i' => ∃ m l t', s' = s /\ x = encs l /\ At s t' i' /\ seqL m l t' = some res /\ m <= n /\ l.length + t'.length <= s.length, fun _ s' i' => ((s'.length : Int) - i').toNat, ⟨n, [r], t1, rfl, rfl, hi1, hr, Nat.le_refl _, ?_⟩, ?_, trivial⟩
    ·have := hlt.1
     have := h.suf.length_le
     simp; omega
    ·rintro x s' i' ⟨m, l, t', rfl, rfl, hat, hrun, hm, hl⟩
     have hsm := hat.sm
     have done : ¬ (t' ≠ [] /\ hd t' ≠ 124 /\ hd t' ≠ 41) -> PAft q s' (res.map encA) (.ret (encA (Zcs 3 l))) (PB q s' i') := fun hn => by
      cases m with
      | zero => simp [seqL] at hrun
      | succ m =>
        unfold seqL at hrun
        rw [if_neg hn] at hrun
        cases hrun
        exact Zdj rfl hat
     refine ⟨fun h0 => Za3 (c49 hat) ⟨_, _, _, rfl, rfl, fun h1 => Za3 (c49 hat) ⟨_, _, _, rfl, rfl, fun h2 => fun ν => ?_, fun h2 => ?_⟩, fun h1 => ?_⟩, fun h0 => ?_⟩
     ·have hn : t' ≠ [] /\ hd t' ≠ 124 /\ hd t' ≠ 41 := ⟨hat.more (Zax h0), by simp at h1; omega, by simp at h2; omega⟩
      cases m with
      | zero => simp [seqL] at hrun
      | succ m =>
        unfold seqL at hrun
        rw [if_pos hn] at hrun
        cases hb : Zb7 m t' with
        | none => rw [hb] at hrun; cases hrun
        | some rb =>
          rw [hb] at hrun
          refine Z6r (c64b (K m (by omega)) (Zy1 (by decide)) Zoc Zoc (by omega) hb hat) (fun r t2 i2 e2 hi2 => ?_) (fun t2 i2 j e2 hi2 => ?_)
          ·subst e2
           have hlt2 := ((Zdi m).2.2.2.2.1 _ _ hb).1
           refine ⟨_, _, _, rfl, rfl, ⟨m, l ++ [r], t2, rfl, rfl, hi2, hrun, by omega, by simp; omega⟩, ?_⟩
           exact SetI.lt hat hi2 hlt2
          ·subst e2
           cases hrun
           exact ⟨_, _, rfl, Zbq rfl hi2⟩
     ·have h2 : hd t' = 41 := by simp at h2; omega
      exact Zae (c50 3 l) ⟨_, rfl, rfl, teq6 _, done fun h => h.2.2 h2⟩
     ·have h1 : hd t' = 124 := by simp at h1; omega
      exact Zae (c50 3 l) ⟨_, rfl, rfl, teq6 _, done fun h => h.2.1 h1⟩
     ·exact Zae (c50 3 l) ⟨_, rfl, rfl, teq6 _, done fun h => h.1 (hat.end_ (Zan h0))⟩
   ·subst e1
    cases hr
    exact ⟨_, _, rfl, Zbq rfl hi1⟩
theorem c37 {n : Nat} (K : ∀ m, m <= n -> K48 m) : K37 (n + 1) := by
 intro q s t i res hr h
 unfold alts at hr
 cases ha : seqs n t with
 | none => rw [ha] at hr; cases hr
 | some ra =>
   rw [ha] at hr
   refine w37 s i q (Zg0 (K n (Nat.le_refl _) (.up q) s t i ra ha h) (fun v t1 i1 e1 hi1 => ?_) (fun t1 i1 j e1 hi1 => ?_))
   ·obtain ⟨r, f1, rfl⟩ := Zby e1
    subst f1
    have hlt := (Zdi n).2.2.1 _ _ ha
    refine ⟨_, _, _, rfl, rfl, teq6 r, fun x s' i' => ∃ m l t', s' = s /\ x = encs l /\ At s t' i' /\ altL m l t' = some res /\ m <= n /\ l.length + t'.length <= s.length, fun _ s' i' => ((s'.length : Int) - i').toNat, ⟨n, [r], t1, rfl, rfl, hi1, hr, Nat.le_refl _, ?_⟩, ?_, trivial⟩
    ·have := hlt.1
     have := h.suf.length_le
     simp; omega
    ·rintro x s' i' ⟨m, l, t', rfl, rfl, hat, hrun, hm, hl⟩
     have hsm := hat.sm
     have hlo := hat.lo
     cases m with
     | zero => simp [altL] at hrun
     | succ m =>
       unfold altL at hrun
       refine Za3 (c49 hat) ⟨_, _, _, rfl, rfl, fun h1 => ⟨tle (by omega), tle (by omega), ?_⟩, fun h1 => ?_⟩
       ·have h1 := Zao h1
        have hn : t' ≠ [] := Za5 (by omega)
        have hnl : t'.tail.length + 1 = t'.length := by cases t' with
         | nil => exact absurd rfl hn
         | cons c t => simp
        rw [if_pos (by omega)] at hrun
        cases hb : seqs m t'.tail with
        | none => rw [hb] at hrun; cases hrun
        | some rb =>
          rw [hb] at hrun
          refine Zg0 (K m (by omega) (.up q) s' t'.tail (i' + 1) rb hb (hat.next hn)) (fun v t2 i2 e2 hi2 => ?_) (fun t2 i2 j e2 hi2 => ?_)
          ·obtain ⟨r', f2, rfl⟩ := Zby e2
           subst f2
           have hlt2 := ((Zdi m).2.2.1 _ _ hb).1
           refine ⟨_, _, _, rfl, rfl, teq6 r', Zob r', tle (by simp; omega), tle (by simp; omega), ⟨m, l ++ [r'], t2, rfl, ?_, hi2, hrun, by omega, by simp; omega⟩, SetI.lt hat hi2 (by omega)⟩
           show encs l ++ encs [r'] = _
           rw [Zbn]
          ·have f2 := Zbr e2
           subst f2
           cases hrun
           exact ⟨_, _, rfl, Zbq rfl hi2⟩
       ·have h1 := Zag h1
        rw [if_neg (by omega)] at hrun
        cases hrun
        exact Zae (c50 4 l) ⟨_, rfl, rfl, teq6 _, Zdj rfl hat⟩
   ·have f1 := Zbr e1
    subst f1
    cases hr
    exact ⟨_, _, rfl, Zbq rfl hi1⟩
theorem Z7s : ∀ n, (∀ m, m <= n -> K37 m /\ K48 m /\ K65 m /\ K73 m) := by
 intro n
 induction n with
 | zero =>
   intro m hm
   have : m = 0 := by omega
   subst this
   exact ⟨fun q s t i res hr => by simp [alts] at hr, fun q s t i res hr => by simp [seqs] at hr, fun q s t i res hr => by simp [Zb7] at hr, fun q s t i res hr => by simp [atom] at hr⟩
 | succ n ih =>
   intro m hm
   by_cases h : m <= n
   ·exact ih m h
   ·have : m = n + 1 := by omega
    subst this
    exact ⟨c37 fun m h => (ih m h).2.1, c48 fun m h => (ih m h).2.2.1, c65 (ih n (Nat.le_refl _)).2.2.2, c73 (ih n (Nat.le_refl _)).1⟩
theorem k37 (n : Nat) : K37 n := (Z7s n n (Nat.le_refl _)).1
end Go.Rx
end
section
open Go Go.Proofs Go.Ab Go.Rf
set_option maxRecDepth 100000
namespace Go.Rx
theorem Zll : ∀ (n : Nat) (neg : Bool) (p : Nat -> Bool) (t : List UInt8), t.length < n -> setL n neg p t ≠ none
 | 0, _, _, _, h => by omega
 | n + 1, neg, p, t, h => by
   unfold setL
   have h1 := Zgt 0 t
   cases e1 : Zcb 0 t with
   | bad q => simp
   | ok lo t1 =>
     rw [e1] at h1
     dsimp only
     have h2 := Zqn lo t1
     cases e2 : hiR lo t1 with
     | bad q => simp
     | ok hi t3 =>
       rw [e2] at h2
       dsimp only
       split
       ·simp
       ·refine Zll n neg _ t3 ?_
        have := h1.1
        have := List.IsSuffix.length_le h2
        omega
theorem Zy2 (n : Nat) (t : List UInt8) (h : t.length < n) : setR n t ≠ none := by
 unfold setR
 split
 ·exact Zll _ _ _ _ (by simp; omega)
 ·split
  ·simp
  ·exact Zll _ _ _ _ h
theorem Zqq : ∀ (n : Nat) (r : Rx) (t : List UInt8), t.length < n -> opsL n r t ≠ none
 | 0, _, _, h => by omega
 | n + 1, r, t, h => by
   unfold opsL
   cases e : opX (hd t) r with
   | none => simp
   | some r' =>
     have := Zim (Z6q e)
     exact Zqq n r' t.tail (by omega)
theorem Z1a : ∀ n, (∀ t, 5 * t.length + 4 <= n -> alts n t ≠ none) /\ (∀ l t, 5 * t.length + 4 <= n -> altL n l t ≠ none) /\ (∀ t, 5 * t.length + 3 <= n -> seqs n t ≠ none) /\ (∀ l t, 5 * t.length + 3 <= n -> seqL n l t ≠ none) /\
 (∀ t, 5 * t.length + 2 <= n -> Zb7 n t ≠ none) /\ (∀ t, 5 * t.length + 1 <= n -> atom n t ≠ none) := by
 intro n
 induction n with
 | zero => exact ⟨fun t h => by omega, fun l t h => by omega, fun t h => by omega, fun l t h => by omega, fun t h => by omega, fun t h => by omega⟩
 | succ n ih =>
   obtain ⟨ih1, ih2, ih3, ih4, ih5, ih6⟩ := ih
   refine ⟨fun t h => ?_, fun l t h => ?_, fun t h => ?_, fun l t h => ?_, fun t h => ?_, fun t h => ?_⟩
   ·unfold alts
    cases e : seqs n t with
    | none => exact absurd e (ih3 t (by omega))
    | some res => cases res with
      | bad q => simp
      | ok r t1 => have := ((Zdi n).2.2.1 _ _ e).1; exact ih2 _ _ (by omega)
   ·unfold altL
    split
    ·rename_i hc
     have ht := Zim (show hd t ≠ 0 by omega)
     cases e : seqs n t.tail with
     | none => exact absurd e (ih3 t.tail (by omega))
     | some res => cases res with
       | bad q => simp
       | ok r t1 => have := ((Zdi n).2.2.1 _ _ e).1; exact ih2 _ _ (by omega)
    ·simp
   ·unfold seqs
    cases e : Zb7 n t with
    | none => exact absurd e (ih5 t (by omega))
    | some res => cases res with
      | bad q => simp
      | ok r t1 => have := ((Zdi n).2.2.2.2.1 _ _ e).1; exact ih4 _ _ (by omega)
   ·unfold seqL
    split
    ·cases e : Zb7 n t with
     | none => exact absurd e (ih5 t (by omega))
     | some res => cases res with
       | bad q => simp
       | ok r t1 => have := ((Zdi n).2.2.2.2.1 _ _ e).1; exact ih4 _ _ (by omega)
    ·simp
   ·unfold Zb7
    cases e : atom n t with
    | none => exact absurd e (ih6 t (by omega))
    | some res => cases res with
      | bad q => simp
      | ok r t1 => have := ((Zdi n).2.2.2.2.2 _ _ e).1; exact Zqq _ _ _ (by omega)
   ·unfold atom
    have ht : hd t ≠ 0 -> t.tail.length < t.length := Zim
    split
    ·rename_i hc
     have ht := ht (by omega)
     split
     ·simp
     ·cases e : alts n t.tail with
      | none => exact absurd e (ih1 t.tail (by omega))
      | some res => cases res <;> simp
    ·split
     ·rename_i hc
      have ht := ht (by omega)
      exact Zy2 _ _ (by omega)
     ·split
      ·simp
      ·split
       ·cases clsV (hd t.tail) with
        | some p => simp
        | none => dsimp only; cases escR 0 t.tail <;> simp
       ·split <;> simp
def Zlm (t : List UInt8) : Nat := 5 * t.length + 4
theorem Zln (t : List UInt8) : ∃ res, alts (Zlm t) t = some res := by
 have := (Z1a (Zlm t)).1 t (Nat.le_refl _)
 cases h : alts (Zlm t) t with
 | none => exact absurd h this
 | some r => exact ⟨r, rfl⟩
def Za6 (s : List UInt8) : Rx × Int × Int :=
 if 1000 < s.length then (mk0 0 [], 2, 0) else match alts (Zlm s) s with
  | some (.ok r t) => if t = [] then (if chk 1 r = 9 then (mk0 0 [], 9, 0) else (r, 0, 0)) else (mk0 0 [], 8, (s.length : Int) - t.length)
  | some (.bad t) => (mk0 0 [], 8, (s.length : Int) - t.length)
  | none => (mk0 0 [], 0, 0)
def Zy3 (x : Rx × Int × Int) : A := .tup [(true, enc x.1), (true, [.lit (.int .i64 x.2.1), .lit (.int .i64 x.2.2)])]
theorem Zeq {B : Nat} {k : Int} {l : List Rx} : lens B (mk0 k l) ↔ l.length <= B /\ ∀ x ∈ l, lens B x := Zb6
theorem Zgd {B : Nat} (p : Nat -> Bool) : lens B (setX p) := Zb6.2 ⟨Nat.zero_le _, fun _ h => by cases h⟩
theorem Zm0 {B : Nat} {k : Int} {l : List Rx} (h : l.length <= B) (hl : ∀ x ∈ l, lens B x) : lens B (Zcs k l) := by
 unfold Zcs
 split
 ·exact hl _ (by simp)
 ·exact Zeq.2 ⟨h, hl⟩
def Res.All {α : Type} (P : α -> Prop) : Res α -> Prop | .ok a _ => P a | .bad _ => True
theorem Zlo {B : Nat} : ∀ (n : Nat) (neg : Bool) (p : Nat -> Bool) (t : List UInt8) (r : Res Rx), setL n neg p t = some r -> r.All (lens B)
 | 0, _, _, _, _, h => by simp [setL] at h
 | n + 1, neg, p, t, r, h => by
   unfold setL at h
   split at h
   ·cases h; trivial
   ·split at h
    ·cases h; trivial
    ·split at h
     ·cases h; show lens B _; exact Zgd _
     ·exact Zlo n _ _ _ _ h
theorem Zqr {B : Nat} {r : Rx} (hB : 2 <= B) (h : lens B r) : lens B (Zme r) := Zeq.2 ⟨by simp; omega, by simpa using h⟩
theorem Z1b {B c : Nat} {r r' : Rx} (hB : 2 <= B) (h : lens B r) (e : opX c r = some r') : lens B r' := by
 unfold opX at e
 have he : lens B (mk0 1 []) := Zeq.2 ⟨Nat.zero_le _, by simp⟩
 repeat' split at e
 all_goals first
  | (cases e; exact Zqr hB h)
  | (cases e; exact Zeq.2 ⟨by simpa using hB, by simp; exact ⟨h, Zqr hB h⟩⟩)
  | (cases e; exact Zeq.2 ⟨by simpa using hB, by simp; exact ⟨h, he⟩⟩)
  | cases e
theorem Zqs {B : Nat} (hB : 2 <= B) : ∀ (n : Nat) (r : Rx) (t : List UInt8) (o : Res Rx), opsL n r t = some o -> lens B r -> o.All (lens B)
 | 0, _, _, _, h, _ => by simp [opsL] at h
 | n + 1, r, t, o, h, hr => by
   unfold opsL at h
   split at h
   ·rename_i r' e; exact Zqs hB n r' _ _ h (Z1b hB hr e)
   ·cases h; exact hr
theorem Z1c (B : Nat) (hB : 2 <= B) : ∀ (n : Nat), (∀ t r, alts n t = some r -> t.length <= B -> r.All (lens B)) /\ (∀ l t r, altL n l t = some r -> l.length + t.length <= B -> (∀ x ∈ l, lens B x) -> r.All (lens B)) /\ (∀ t r, seqs n t = some r -> t.length <= B -> r.All (lens B)) /\
 (∀ l t r, seqL n l t = some r -> l.length + t.length <= B -> (∀ x ∈ l, lens B x) -> r.All (lens B)) /\
 (∀ t r, Zb7 n t = some r -> t.length <= B -> r.All (lens B)) /\ (∀ t r, atom n t = some r -> t.length <= B -> r.All (lens B)) := by
 intro n
 induction n with
 | zero => exact ⟨fun t r h => by simp [alts] at h, fun l t r h => by simp [altL] at h, fun t r h => by simp [seqs] at h, fun l t r h => by simp [seqL] at h, fun t r h => by simp [Zb7] at h, fun t r h => by simp [atom] at h⟩
 | succ n ih =>
   obtain ⟨ih1, ih2, ih3, ih4, ih5, ih6⟩ := ih
   refine ⟨fun t r h hl => ?_, fun l t r h hl hx => ?_, fun t r h hl => ?_, fun l t r h hl hx => ?_, fun t r h hl => ?_, fun t r h hl => ?_⟩
   ·unfold alts at h
    split at h
    ·cases h
    ·cases h; trivial
    ·rename_i hq
     have h1 := ih3 _ _ hq hl
     have h2 := ((Zdi n).2.2.1 _ _ hq).1
     exact ih2 _ _ _ h (by simp; omega) (fun x hx => by rw [List.mem_singleton.1 hx]; exact h1)
   ·unfold altL at h
    split at h
    ·rename_i hc
     have h0 := Zim (show hd t ≠ 0 by omega)
     split at h
     ·cases h
     ·cases h; trivial
     ·rename_i hq
      have h1 := ih3 _ _ hq (by omega)
      have h2 := ((Zdi n).2.2.1 _ _ hq).1
      refine ih2 _ _ _ h (by simp; omega) fun x hx' => ?_
      rcases List.mem_append.1 hx' with hx' | hx'
      ·exact hx x hx'
      ·rw [List.mem_singleton.1 hx']; exact h1
    ·cases h; exact Zm0 (by omega) hx
   ·unfold seqs at h
    split at h
    ·cases h
    ·cases h; trivial
    ·rename_i hq
     have h1 := ih5 _ _ hq hl
     have h2 := ((Zdi n).2.2.2.2.1 _ _ hq).1
     exact ih4 _ _ _ h (by simp; omega) (fun x hx => by rw [List.mem_singleton.1 hx]; exact h1)
   ·unfold seqL at h
    split at h
    ·split at h
     ·cases h
     ·cases h; trivial
     ·rename_i hq
      have h1 := ih5 _ _ hq (by omega)
      have h2 := ((Zdi n).2.2.2.2.1 _ _ hq).1
      refine ih4 _ _ _ h (by simp; omega) fun x hx' => ?_
      rcases List.mem_append.1 hx' with hx' | hx'
      ·exact hx x hx'
      ·rw [List.mem_singleton.1 hx']; exact h1
    ·cases h; exact Zm0 (by omega) hx
   ·unfold Zb7 at h
    split at h
    ·cases h
    ·cases h; trivial
    ·rename_i hq
     exact Zqs hB _ _ _ _ h (ih6 _ _ hq hl)
   ·have hT : t.tail.length <= B := by simp; omega
    unfold atom at h
    split at h
    ·split at h
     ·cases h; show lens B (mk0 1 []); exact Zeq.2 ⟨Nat.zero_le _, by simp⟩
     ·split at h
      ·cases h
      ·cases h; trivial
      ·rename_i hq
       cases h
       have h1 := ih1 _ _ hq hT
       unfold Zg9
       split
       ·exact h1
       ·trivial
    ·split at h
     ·unfold setR at h
      split at h
      ·exact Zlo _ _ _ _ _ h
      ·split at h
       ·cases h; show lens B (mk0 1 []); exact Zeq.2 ⟨Nat.zero_le _, by simp⟩
       ·exact Zlo _ _ _ _ _ h
     ·split at h
      ·cases h; show lens B _; exact Zgd _
      ·split at h
       ·split at h
        ·cases h; show lens B _; exact Zgd _
        ·split at h
         ·cases h; trivial
         ·cases h; show lens B _; exact Zgd _
       ·split at h
        ·cases h; trivial
        ·cases h; show lens B _; exact Zgd _
theorem Zlp {n : Nat} {t t' : List UInt8} {r : Rx} (h : alts n t = some (.ok r t')) : lens (t.length + 2) r := (Z1c (t.length + 2) (by omega) n).1 t _ h (by omega)
theorem at0 {s : List UInt8} (h : s.length <= 1048576) : At s s 0 := ⟨List.suffix_refl _, by omega, h⟩
theorem Zm1 {s : List UInt8} (h : 1000 < s.length) : Za6 s = (mk0 0 [], 2, 0) := by unfold Za6; rw [if_pos h]
theorem Zqt {s t : List UInt8} {i : Int} (h : ¬ 1000 < s.length) (hr : alts (Zlm s) s = some (.bad t)) (hi : At s t i) : Za6 s = (mk0 0 [], 8, i) := by
 unfold Za6; rw [if_neg h, hr]
 have := hi.pos
 have : (s.length : Int) - t.length = i := by omega
 simp [this]
theorem Zm2 {s t : List UInt8} {r : Rx} {i : Int} (h : ¬ 1000 < s.length) (hr : alts (Zlm s) s = some (.ok r t)) (hi : At s t i) (ht : t ≠ []) : Za6 s = (mk0 0 [], 8, i) := by
 unfold Za6; rw [if_neg h, hr]
 have := hi.pos
 have : (s.length : Int) - t.length = i := by omega
 simp [this, ht]
theorem Zod {s : List UInt8} {r : Rx} (h : ¬ 1000 < s.length) (hr : alts (Zlm s) s = some (.ok r [])) : Za6 s = if chk 1 r = 9 then (mk0 0 [], 9, 0) else (r, 0, 0) := by
 unfold Za6; rw [if_neg h, hr]; simp
end Go.Rx
end
section
open Go Go.Proofs Go.Ab Go.Rf
set_option maxRecDepth 100000
namespace Go.Rx
theorem Z7t {α : Type} {l : List α} (h : l.length = 4) : ∃ a b c d, l = [a, b, c, d] := by
 match l, h with
 | [a, b, c, d], _ => exact ⟨a, b, c, d, rfl⟩
def Zqu (s : List UInt8) : Out -> Prop := fun o => o = .ret (Zy3 (Za6 s))
theorem Z4u (r : Rx) : enc r = [(enc r).getD 0 D0, (enc r).getD 1 D0, (enc r).getD 2 D0, (enc r).getD 3 D0, (enc r).getD 4 D0, (enc r).getD 5 D0] := (Zdk r).symm
theorem c19 (s : List UInt8) : Holds Try.prog 19 [A.d (.lit (Zaa s))] [] (Ret (Zy3 (Za6 s))) := by
 have key : Holds Try.prog 19 [A.d (D.lit (Zaa s))] [] (fun o H => H = [] /\ Zqu s o) := by
  refine w19p _ rfl s ⟨fun hl => ⟨fun _ => ?_, fun h => absurd rfl h⟩, fun hl => ⟨fun h => (by cases h), fun _ => ⟨_, rfl, fun qs hlen hn => ?_⟩⟩⟩
  ·have hl := Zax hl
   unfold Zqu
   rw [Zm1 (by omega)]
   rfl
  ·have hl := Zan hl
   have hs : ¬ 1000 < s.length := by omega
   have h0 : At s s 0 := at0 (by omega)
   obtain ⟨res, hr⟩ := Zln s
   obtain ⟨q0, q1, q2, q3, rfl⟩ := Z7t hlen
   simp only [List.nodup_cons, List.mem_cons, List.not_mem_nil, or_false, not_or, List.nodup_nil, and_true, not_false_eq_true] at hn
   obtain ⟨⟨h01, h02, h03⟩, ⟨h12, h13⟩, h23⟩ := hn
   have failz : ∀ (i j : Int), Za6 s = (mk0 0 [], 8, i) -> midR Try.prog 36 3 [(1, 6), (2, 2)] (Zqu s) [q0, q1, q2, q3] (.pan (Zec i)) [(Ref.up q0, [A.ptr (Ref.up q3) 0]), (Ref.up q1, [A.d (.lit (.int .i64 0)), A.d (.lit (.int .u64 0)), A.d (.lit (.int .u64 0)), A.d (.lit (.int .u64 0)), A.d (.lit (.int .u64 0)), A.zs []]), (Ref.up q2, [A.d (.lit (.int .i64 0)), A.d (.lit (.int .i64 0))]), (Ref.up q3, [A.d (.lit (Zaa s)), A.d (.lit (.int .i64 j))])] := fun i j hp =>
    ⟨_, fun H => H = _, w36z _ rfl _ _ _ _ _ (D.lit .nilIface) _ _ s j i q0 q1 q2 q3 h01 h02 h12 h03 h13 h23 rfl, rfl, fun H2 hR => by subst hR; exact ⟨_, rfl, by unfold Zqu; rw [hp]; rfl⟩⟩
   have faild : ∀ (i j : Int) (a b c d e f : D), Za6 s = (mk0 0 [], 8, i) -> midR Try.prog 36 3 [(1, 6), (2, 2)] (Zqu s) [q0, q1, q2, q3] (.pan (Zec i)) [(Ref.up q0, [A.ptr (Ref.up q3) 0]), (Ref.up q1, [A.d a, A.d b, A.d c, A.d d, A.d e, A.d f]), (Ref.up q2, [A.d (.lit (.int .i64 0)), A.d (.lit (.int .i64 0))]), (Ref.up q3, [A.d (.lit (Zaa s)), A.d (.lit (.int .i64 j))])] := fun i j a b c d e f hp =>
    ⟨_, fun H => H = _, w36f _ rfl _ _ _ _ _ _ _ _ s j i q0 q1 q2 q3 h01 h02 h12 h03 h13 h23 rfl, rfl, fun H2 hR => by subst hR; exact ⟨_, rfl, by unfold Zqu; rw [hp]; rfl⟩⟩
   have fine : ∀ (j : Int) (a b c d e f g h : D), Zy3 (Za6 s) = .tup [(true, [a, b, c, d, e, f]), (true, [g, h])] -> midR Try.prog 36 3 [(1, 6), (2, 2)] (Zqu s) [q0, q1, q2, q3] (.ret (.tup [])) [(Ref.up q0, [A.ptr (Ref.up q3) 0]), (Ref.up q1, [A.d a, A.d b, A.d c, A.d d, A.d e, A.d f]), (Ref.up q2, [A.d g, A.d h]), (Ref.up q3, [A.d (.lit (Zaa s)), A.d (.lit (.int .i64 j))])] := fun j a b c d e f g h hp =>
    ⟨_, fun H => H = _, w36n _ rfl _ _ _ _ _ _ _ _ s j 0 q0 q1 q2 q3 h01 h02 h12 h03 h13 h23 rfl, rfl, fun H2 hR => by subst hR; exact ⟨_, rfl, by unfold Zqu; rw [hp]; rfl⟩⟩
   refine w19q s 0 0 0 0 0 0 0 s 0 q0 q1 q2 q3 h01 h02 h12 h03 h13 h23 ?_
   refine Zg0 (k37 _ (Ref.up q3) s s 0 res hr h0) (fun v t i e hi => ?_) (fun t i j e hi => ?_)
   ·obtain ⟨r, f1, rfl⟩ := Zby e
    subst f1
    refine ⟨_, _, _, rfl, rfl, teq6 r, fun hf => ?_, fun hf => ?_⟩
    ·have ht : t ≠ [] := hi.more (Zax hf)
     exact Zgz c38 ⟨_, _, rfl, faild i i _ _ _ _ _ _ (Zm2 hs hr hi ht)⟩
    ·have ht : t = [] := hi.end_ (Zan hf)
     subst ht
     have hp := Zod hs hr
     have hb : lens (2 ^ 40) r := Zgc (by omega) _ r (Nat.le_refl _) (Zlp hr)
     refine Zae (c15 r hb) ⟨_, rfl, rfl, fun h9 => ?_, fun h9 => ?_⟩
     ·rw [if_pos (Zao h9)] at hp
      exact fine i _ _ _ _ _ _ _ _ (by rw [hp]; rfl)
     ·rw [if_neg (Zag h9)] at hp
      exact fine i _ _ _ _ _ _ _ _ (by rw [hp]; show A.tup [(true, enc r), _] = _; rw [Z4u r]; rfl)
   ·have f1 := Zbr e
    subst f1
    exact ⟨_, _, rfl, failz i j (Zqt hs hr hi)⟩
 exact key.mono fun o H' h => ⟨h.2, h.1⟩
end Go.Rx
end
section
open Go Go.Proofs Go.Ab Go.Rf
set_option maxRecDepth 100000
namespace Go.Rx
theorem Zy4 {α : Type} {P : Program} {f : Nat} {args : List A} {mk : α -> A} {p : α -> Prop} (hc : Holds P f args [] (fun o H => ∃ n, o = .ret (mk n) /\ H = [] /\ p n)) {Q1 : A -> List (Ref × List A) -> Prop} {Q2 : Value -> List (Ref × List A) -> Prop} (h : ∀ n, p n -> Q1 (mk n) []) :
 ∀ _ : Nat -> Nat, ∃ R' : Out -> List (Ref × List A) -> Prop, Holds P f args [] R' /\ (∀ v H', R' (.ret v) H' -> Q1 v H') /\ (∀ u H', R' (.pan u) H' -> Q2 u H') :=
 fun _ => ⟨_, hc, fun v' H' e => (by obtain ⟨n, e1, rfl, hp⟩ := e; cases e1; exact h n hp), fun u H' e => by obtain ⟨n, e1, _⟩ := e; cases e1⟩
def intA (n : Int) : A := .d (.lit (.int .i64 n))
theorem Z6s {a b : Rx} (hk : a.kind = b.kind) (h0 : a.w 0 = b.w 0) (h1 : a.w 1 = b.w 1) (h2 : a.w 2 = b.w 2) (h3 : a.w 3 = b.w 3) (hs : a.subs = b.subs) : a = b := by
 cases a; cases b
 simp only [Rx.kind, Rx.w, Rx.subs] at hk h0 h1 h2 h3 hs
 subst hk h0 h1 h2 h3 hs
 rfl
theorem nteq {a b : Int} (h : (!(tB (a == b))) = true) : a ≠ b := by simpa using h
theorem nfeq {a b : Int} (h : (!(tB (a == b))) = false) : a = b := by simpa using h
end Go.Rx
end
section
open Go Go.Proofs Go.Ab Go.Rf
set_option maxRecDepth 100000
namespace Go.Rx
mutual
def eqX : Rx -> Rx -> Bool
 | .mk k a b c d l, .mk k' a' b' c' d' l' => k == k' && (a == a' && (b == b' && (c == c' && (d == d' && eqXs l l'))))
def eqXs : List Rx -> List Rx -> Bool
 | [], [] => true
 | r :: l, r' :: l' => eqX r r' && eqXs l l'
 | _, _ => false
end
mutual
theorem Zhq : ∀ {a b : Rx}, eqX a b = true ↔ a = b
 | .mk k a b c d l, .mk k' a' b' c' d' l' => by
   simp only [eqX, Bool.and_eq_true, beq_iff_eq, Rx.mk.injEq]
   rw [Zum (a := l) (b := l')]
theorem Zum : ∀ {a b : List Rx}, eqXs a b = true ↔ a = b
 | [], [] => by simp [eqXs]
 | [], _ :: _ => by simp [eqXs]
 | _ :: _, [] => by simp [eqXs]
 | r :: l, r' :: l' => by
   simp only [eqXs, Bool.and_eq_true, List.cons.injEq]
   rw [Zhq (a := r) (b := r'), Zum (a := l) (b := l')]
end
theorem c69 : ∀ (n : Nat) (a b : Rx), size a <= n -> lens (2 ^ 40) a -> Holds Try.prog 69 [A.agg (enc a), A.agg (enc b)] [] (Ret (Zhp (eqX a b))) := by
 intro n
 induction n with
 | zero => intro a b h; have := Zaf a; omega
 | succ n ih =>
   intro a b hs hl
   have hlen : a.subs.length <= 2 ^ 40 := (Zb6.1 hl).1
   have no : a ≠ b -> Ret (Zhp (eqX a b)) (.ret (A.d (.lit (.bool false)))) [] := fun h => by
    have : eqX a b = false := Bool.eq_false_iff.2 fun e => h (Zhq.1 e)
    rw [this]; exact ⟨rfl, rfl⟩
   refine w69 (enc a) (enc b) ⟨teq6 a, teq6 b, by simp, by simp, by simp, by simp, by simp, by simp, by simp, by simp, by simp, by simp, by simp, by simp, fun h => ?_, fun h => ?_⟩
   ·simp only [enc0, enc1, enc2, enc3, enc4, enc5, Zar, Zaw, Zab, Zbg, Bool.or_eq_true, Bool.not_eq_true', Bool.and_eq_false_iff, beq_eq_false_iff_ne] at h
    refine no fun e => ?_
    subst e
    rcases h with (h | h) | h
    ·exact h rfl
    ·rcases h with h | h | h | h <;> exact h rfl
    ·exact h rfl
   ·simp only [enc0, enc1, enc2, enc3, enc4, enc5, Zar, Zaw, Zab, Zbg, Bool.or_eq_false_iff, Bool.not_eq_false', Bool.and_eq_true, beq_iff_eq] at h
    obtain ⟨⟨hk, h0, h1, h2, h3⟩, hll⟩ := h
    have hll : a.subs.length = b.subs.length := by omega
    refine ⟨by simp, fun x => ∃ i : Nat, x = i /\ i <= a.subs.length /\ ∀ j (hj : j < a.subs.length), j < i -> a.subs[j] = b.subs[j]'(by omega), fun x => a.subs.length - x.toNat, ⟨0, rfl, Nat.zero_le _, fun j _ hj => absurd hj (Nat.not_lt_zero _)⟩, ?_, trivial⟩
    rintro x ⟨i, rfl, hi, hall2⟩
    refine ⟨fun hc => ?_, fun hc => ?_⟩
    ·have hc := Zax hc
     rw [enc5, Zaw, Zab] at hc
     have hc1 : i < a.subs.length := by omega
     have hc2 : i < b.subs.length := by omega
     rw [enc5, Zaw, enc5, Zaw, Zaq rfl hc1, Zaq rfl hc2]
     have hsub := Zbc hc1
     refine ⟨tle (by omega), teq6 _, rfl, tlt (by simp; omega), teq6 _, Zae (ih a.subs[i] b.subs[i] (by omega) (Zdd hl hc1)) ⟨_, rfl, rfl, fun hne => ?_, fun heq => ?_⟩⟩
     ·refine no fun e => ?_
      have : eqX a.subs[i] b.subs[i] = true := Zhq.2 (by subst e; rfl)
      rw [this] at hne; cases hne
     ·have heq : eqX a.subs[i] b.subs[i] = true := by simpa using heq
      refine ⟨tle (by omega), tle (by omega), ⟨i + 1, rfl, hc1, fun j hj hji => ?_⟩, by simp only [Int.toNat_natCast]; omega⟩
      by_cases e : j = i
      ·subst e; exact Zhq.1 heq
      ·exact hall2 j hj (by omega)
    ·have hc := Zan hc
     rw [enc5, Zaw, Zab] at hc
     have hsub : a.subs = b.subs := List.ext_getElem hll fun j h1 h2 => hall2 j h1 (by omega)
     have e := Z6s hk h0 h1 h2 h3 hsub
     rw [Zhq.2 e]
     exact ⟨rfl, rfl⟩
def addX (out : List Rx) (x : Rx) : List Rx := if out.any (eqX x) then out else out ++ [x]
def Z1d (q : Ref) (out : List Rx) : Out -> List (Ref × List A) -> Prop := fun o H => o = .ret (.tup []) /\ H = [(.up q, [A.own 6 (encs out) []])]
theorem c68a (x : Rx) (q : Ref) : Holds Try.prog 68 [A.agg (enc x), A.ptr (.up q) 0] [(.up q, [A.zs []])] (Z1d q (addX [] x)) := by
 refine w68a (enc x) q ⟨teq6 x, True, 0, trivial, fun _ => ⟨tle (by decide), tle (by decide), tlt (by decide), rfl, ?_⟩, trivial⟩
 have e : gAt (((D.lit (.int .i64 (0 : Int))) :: ((D.lit (.int .u64 (0 : Int))) :: ((D.lit (.int .u64 (0 : Int))) :: ((D.lit (.int .u64 (0 : Int))) :: ((D.lit (.int .u64 (0 : Int))) :: ((D.slc ([] : List (List D))) :: ([] : List D))))))) :: ([] : List (List D))) (0 : Int) = [D.lit (.int .i64 (0 : Int)), D.lit (.int .u64 (0 : Int)), D.lit (.int .u64 (0 : Int)), D.lit (.int .u64 (0 : Int)), D.lit (.int .u64 (0 : Int)), D.slc []] := rfl
 rw [e, Zj2 (by simp)]
 rfl
theorem c68b (x : Rx) (out : List Rx) (q : Ref) (hx : lens (2 ^ 40) x) (ho : (addX out x).length <= 2 ^ 40) : Holds Try.prog 68 [A.agg (enc x), A.ptr (.up q) 0] [(.up q, [A.own 6 (encs out) []])] (Z1d q (addX out x)) := by
 have hle : out.length <= 2 ^ 40 := by
  unfold addX at ho
  split at ho
  ·exact ho
  ·simp at ho; omega
 refine w68b (enc x) (encs out) q ⟨teq6 x, fun v => ∃ i : Nat, v = i /\ i <= out.length /\ ∀ j (hj : j < out.length), j < i -> eqX x out[j] = false, fun v => out.length - v.toNat, ⟨0, rfl, Nat.zero_le _, fun j _ hj => absurd hj (Nat.not_lt_zero _)⟩, ?_, trivial⟩
 rintro v ⟨i, rfl, hi, hall⟩
 refine ⟨fun hc => ?_, fun hc => ?_⟩
 ·have hc := Zax hc
  rw [Zab] at hc
  have hc1 : i < out.length := by omega
  rw [Zaq rfl hc1]
  refine ⟨tle (by omega), teq6 _, Zae (c69 _ x out[i] (Nat.le_refl _) hx) ⟨_, rfl, rfl, fun he => ?_, fun he => ⟨tle (by omega), tle (by omega), ⟨i + 1, rfl, hc1, fun j hj hji => ?_⟩, by simp only [Int.toNat_natCast]; omega⟩⟩⟩
  ·have : addX out x = out := by
    unfold addX
    rw [if_pos (List.any_eq_true.2 ⟨_, List.getElem_mem hc1, he⟩)]
   rw [this]
   exact ⟨rfl, rfl⟩
  ·by_cases e : j = i
   ·subst e; exact he
   ·exact hall j hj (by omega)
 ·have hc := Zan hc
  rw [Zab] at hc
  have hno : out.any (eqX x) = false := Bool.eq_false_iff.2 fun h => by
   obtain ⟨y, hy, hxy⟩ := List.any_eq_true.1 h
   obtain ⟨j, hj, rfl⟩ := List.mem_iff_getElem.1 hy
   rw [hall j hj (by omega)] at hxy; cases hxy
  have ha : addX out x = out ++ [x] := by unfold addX; rw [hno]; rfl
  rw [ha] at ho ⊢
  simp only [List.length_append, List.length_singleton] at ho
  refine ⟨tle (by simp; omega), tle (by simp; omega), ?_⟩
  rw [Zj2 (by simp)]
  show Z1d q (out ++ [x]) _ [(Ref.up q, [A.own 6 (encs out ++ encs [x]) []])]
  rw [Zbn]
  exact ⟨rfl, rfl⟩
theorem Zqv {P : Program} {f : Nat} {args : List A} {B : List (Ref × List A)} {q : Ref} {out : List Rx} (hc : Holds P f args B (Z1d q out)) {Q1 : A -> List (Ref × List A) -> Prop} {Q2 : Value -> List (Ref × List A) -> Prop} (h : Q1 (.tup []) [(.up q, [A.own 6 (encs out) []])]) :
 ∃ R' : Out -> List (Ref × List A) -> Prop, Holds P f args B R' /\ (∀ v H', R' (.ret v) H' -> Q1 v H') /\ (∀ u H', R' (.pan u) H' -> Q2 u H') :=
 ⟨_, hc, fun v' H' e => (by obtain ⟨e1, rfl⟩ := e; cases e1; exact h), fun u H' e => by cases e.1⟩
def nilX : Rx := mk0 0 []
def empX : Rx := mk0 1 []
def altF (x : Rx) : List Rx := if x.kind = 4 then x.subs else if x.kind = 0 then [] else [x]
def outA (ls : List Rx) : List Rx := (ls.flatMap altF).foldl addX []
def altX (ls : List Rx) : Rx := if outA ls = [] then nilX else Zcs 4 (outA ls)
theorem Z1e (out : List Rx) (x : Rx) : out.length <= (addX out x).length := by
 unfold addX; split
 ·exact Nat.le_refl _
 ·simp
theorem Zlq : ∀ (l out : List Rx), out.length <= (l.foldl addX out).length
 | [], out => Nat.le_refl _
 | x :: l, out => Nat.le_trans (Z1e out x) (Zlq l _)
theorem Zcl {α : Type} : ∀ (l : List α) (i : Nat) (h : i < l.length), l.take (i + 1) = l.take i ++ [l[i]]
 | x :: l, 0, _ => rfl
 | x :: l, i + 1, h => by
   show x :: l.take (i + 1) = _
   rw [Zcl l i (by simpa using h)]; rfl
theorem Zqw {ls : List Rx} {i : Nat} (h : i < ls.length) : outA (ls.take (i + 1)) = (altF ls[i]).foldl addX (outA (ls.take i)) := by
 unfold outA
 rw [Zcl _ _ h, List.flatMap_append, List.foldl_append, List.flatMap_cons, List.flatMap_nil, List.append_nil]
theorem Zy5 {ls : List Rx} (i : Nat) : (outA (ls.take i)).length <= (outA ls).length := by
 have e : outA ls = ((ls.drop i).flatMap altF).foldl addX (outA (ls.take i)) := by
  unfold outA
  rw [<- List.foldl_append, <- List.flatMap_append, List.take_append_drop]
 rw [e]
 exact Zlq _ _
theorem Zjc {l out : List Rx} {j : Nat} (h : j < l.length) : (l.take (j + 1)).foldl addX out = addX ((l.take j).foldl addX out) l[j] := by
 rw [Zcl _ _ h, List.foldl_append]; rfl
theorem Zun {l out : List Rx} (j : Nat) : ((l.take j).foldl addX out).length <= (l.foldl addX out).length := by
 have e : l.foldl addX out = (l.drop j).foldl addX ((l.take j).foldl addX out) := by rw [<- List.foldl_append, List.take_append_drop]
 rw [e]
 exact Zlq _ _
theorem c57 (ls : List Rx) (hlen : ls.length <= 2 ^ 40) (hl : ∀ x ∈ ls, lens (2 ^ 40) x) (ho : (outA ls).length <= 2 ^ 40) : Holds Try.prog 57 [A.d (.slc (encs ls))] [] (Ret (encA (altX ls))) := by
 have hget : ∀ i (h : i < ls.length), lens (2 ^ 40) ls[i] := fun i h => hl _ (List.getElem_mem h)
 refine w57 (encs ls) ⟨fun x => ∃ i : Nat, x = i /\ i <= ls.length /\ outA (ls.take i) = [], fun x => ls.length - x.toNat, fun x _ _ _ _ _ _ _ o => ∃ i : Nat, x = i /\ i <= ls.length /\ o = encs (outA (ls.take i)), fun x _ _ _ _ _ _ _ _ => ls.length - x.toNat, ⟨0, rfl, Nat.zero_le _, rfl⟩, ?_, ?_, trivial⟩
 ·rintro x ⟨i, rfl, hi, hout⟩
  refine ⟨fun hc => ?_, fun hc => ?_⟩
  ·have hc := Zax hc
   rw [Zab] at hc
   have hc1 : i < ls.length := by omega
   rw [Zaq rfl hc1]
   have htk := Zqw hc1
   rw [hout] at htk
   have hsl := (Zb6.1 (hget i hc1)).1
   have hbig := Zy5 (ls := ls) (i + 1)
   refine ⟨tle (by omega), teq6 _, by simp, fun hk => ?_, fun hk => ⟨fun h0 => fun ν => ?_, fun h0 => ?_⟩⟩
   ·rw [enc0, Zar] at hk
    have hk := Zao hk
    have hF : altF ls[i] = ls[i].subs := by unfold altF; rw [if_pos hk]
    rw [hF] at htk
    rw [enc5, Zaw]
    refine ⟨rfl, True, ls[i].subs.length, fun x _ _ _ _ _ _ o => ∃ j : Nat, x = j /\ j <= ls[i].subs.length /\ o = encs ((ls[i].subs.take j).foldl addX []), fun x _ _ _ _ _ _ _ => ls[i].subs.length - x.toNat, trivial, fun _ => ⟨fun hp => ?_, fun hp => ?_⟩, ?_, trivial⟩
    ·have hp := Zax hp
     rw [Zab] at hp
     have hp1 : 0 < ls[i].subs.length := by omega
     rw [Zaq (x := 0) (i := 0) rfl hp1]
     refine ⟨teq6 _, fun ν => Zqv (c68a _ _) ⟨_, rfl, rfl, ⟨1, rfl, hp1, ?_⟩, by simp; omega⟩⟩
     rw [Zjc hp1]; rfl
    ·have hp := Zan hp
     rw [Zab] at hp
     refine ⟨tle (by omega), tle (by omega), ⟨i + 1, rfl, hc1, ?_⟩, by simp only [Int.toNat_natCast]; omega⟩
     have : ls[i].subs = [] := List.length_eq_zero_iff.1 (by omega)
     rw [htk, this]; rfl
    ·rintro x a b c d e f o ⟨j, rfl, hj, rfl⟩
     refine ⟨fun hp => ?_, fun hp => ?_⟩
     ·have hp := Zax hp
      rw [Zab] at hp
      have hp1 : j < ls[i].subs.length := by omega
      rw [Zaq rfl hp1]
      have hft := Zjc (out := []) hp1
      have hfl := Zun (l := ls[i].subs) (out := []) (j + 1)
      refine ⟨tle (by omega), teq6 _, fun ν => Zqv (c68b _ _ _ (Zdd (hget i hc1) hp1) (by rw [<- hft]; rw [htk] at hbig; omega)) ⟨_, rfl, rfl, tle (by omega), tle (by omega), ⟨j + 1, rfl, hp1, by rw [hft]⟩, by simp only [Int.toNat_natCast]; omega⟩⟩
     ·have hp := Zan hp
      rw [Zab] at hp
      refine ⟨tle (by omega), tle (by omega), ⟨i + 1, rfl, hc1, ?_⟩, by simp only [Int.toNat_natCast]; omega⟩
      rw [htk, List.take_of_length_le (show ls[i].subs.length <= j by omega)]
   ·rw [enc0, Zar] at hk h0
    have hk := Zag hk
    have h0 := nteq h0
    have hF : altF ls[i] = [ls[i]] := by unfold altF; rw [if_neg hk, if_neg h0]
    rw [hF] at htk
    exact Zqv (c68a _ _) ⟨_, rfl, rfl, tle (by omega), tle (by omega), ⟨i + 1, rfl, hc1, by rw [htk]; rfl⟩, by simp only [Int.toNat_natCast]; omega⟩
   ·rw [enc0, Zar] at hk h0
    have hk := Zag hk
    have h0 := nfeq h0
    have hF : altF ls[i] = [] := by unfold altF; rw [if_neg hk, if_pos h0]
    rw [hF] at htk
    exact ⟨tle (by omega), tle (by omega), ⟨i + 1, rfl, hc1, htk⟩, by simp only [Int.toNat_natCast]; omega⟩
  ·have hc := Zan hc
   rw [Zab] at hc
   rw [List.take_of_length_le (by omega)] at hout
   have : altX ls = nilX := by unfold altX; rw [if_pos hout]
   rw [this]
   exact ⟨rfl, rfl⟩
 ·rintro x z1 a0 b0 c0 d0 e0 f0 o0 ⟨i, rfl, hi, rfl⟩
  refine ⟨fun hc => ?_, fun hc => ?_⟩
  ·have hc := Zax hc
   rw [Zab] at hc
   have hc1 : i < ls.length := by omega
   rw [Zaq rfl hc1]
   have htk := Zqw hc1
   have hsl := (Zb6.1 (hget i hc1)).1
   have hbig := Zy5 (ls := ls) (i + 1)
   refine ⟨tle (by omega), teq6 _, by simp, fun hk => ?_, fun hk => ⟨fun h0 => fun ν => ?_, fun h0 => ?_⟩⟩
   ·rw [enc0, Zar] at hk
    have hk := Zao hk
    have hF : altF ls[i] = ls[i].subs := by unfold altF; rw [if_pos hk]
    rw [hF] at htk
    rw [enc5, Zaw]
    refine ⟨rfl, fun x o => ∃ j : Nat, x = j /\ j <= ls[i].subs.length /\ o = encs ((ls[i].subs.take j).foldl addX (outA (ls.take i))), fun x _ => ls[i].subs.length - x.toNat, ⟨0, rfl, Nat.zero_le _, rfl⟩, ?_, trivial⟩
    rintro x o ⟨j, rfl, hj, rfl⟩
    refine ⟨fun hp => ?_, fun hp => ?_⟩
    ·have hp := Zax hp
     rw [Zab] at hp
     have hp1 : j < ls[i].subs.length := by omega
     rw [Zaq rfl hp1]
     have hft := Zjc (out := outA (ls.take i)) hp1
     have hfl := Zun (l := ls[i].subs) (out := outA (ls.take i)) (j + 1)
     refine ⟨tle (by omega), teq6 _, fun ν => Zqv (c68b _ _ _ (Zdd (hget i hc1) hp1) (by rw [<- hft]; rw [htk] at hbig; omega)) ⟨_, rfl, rfl, tle (by omega), tle (by omega), ⟨j + 1, rfl, hp1, by rw [hft]⟩, by simp only [Int.toNat_natCast]; omega⟩⟩
    ·have hp := Zan hp
     rw [Zab] at hp
     refine ⟨tle (by omega), tle (by omega), ⟨i + 1, rfl, hc1, ?_⟩, by simp only [Int.toNat_natCast]; omega⟩
     rw [htk, List.take_of_length_le (show ls[i].subs.length <= j by omega)]
   ·rw [enc0, Zar] at hk h0
    have hk := Zag hk
    have h0 := nteq h0
    have hF : altF ls[i] = [ls[i]] := by unfold altF; rw [if_neg hk, if_neg h0]
    rw [hF] at htk
    have e9 : addX (outA (ls.take i)) ls[i] = outA (ls.take (i + 1)) := by rw [htk]; rfl
    exact Zqv (c68b _ _ _ (hget i hc1) (by rw [e9]; omega)) ⟨_, rfl, rfl, tle (by omega), tle (by omega), ⟨i + 1, rfl, hc1, by rw [e9]⟩, by simp only [Int.toNat_natCast]; omega⟩
   ·rw [enc0, Zar] at hk h0
    have hk := Zag hk
    have h0 := nfeq h0
    have hF : altF ls[i] = [] := by unfold altF; rw [if_neg hk, if_pos h0]
    rw [hF] at htk
    exact ⟨tle (by omega), tle (by omega), ⟨i + 1, rfl, hc1, by rw [htk]; rfl⟩, by simp only [Int.toNat_natCast]; omega⟩
  ·have hc := Zan hc
   rw [Zab] at hc
   rw [List.take_of_length_le (show ls.length <= i by omega)]
   refine ⟨fun hz => ?_, fun hz => ?_⟩
   ·have hz := Zao hz
    rw [Zab] at hz
    have h0 : outA ls = [] := List.length_eq_zero_iff.1 (by omega)
    have : altX ls = nilX := by unfold altX; rw [if_pos h0]
    rw [this]
    exact ⟨rfl, rfl⟩
   ·have hz := Zag hz
    rw [Zab] at hz
    have h0 : outA ls ≠ [] := fun h => hz (by rw [h]; rfl)
    have : altX ls = Zcs 4 (outA ls) := by unfold altX; rw [if_neg h0]
    rw [this]
    exact Zae (c50 4 _) ⟨_, rfl, rfl, teq6 _, rfl, rfl⟩
def catF (x : Rx) : List Rx := if x.kind = 3 then x.subs else if x.kind = 1 then [] else [x]
def outC (ls : List Rx) : List Rx := ls.flatMap catF
def catX (ls : List Rx) : Rx := if ls.any (fun x => x.kind == 0) then nilX else if outC ls = [] then empX else Zcs 3 (outC ls)
theorem Zqx {ls : List Rx} {i : Nat} (h : i < ls.length) : outC (ls.take (i + 1)) = outC (ls.take i) ++ catF ls[i] := by
 unfold outC
 rw [Zcl _ _ h, List.flatMap_append, List.flatMap_cons, List.flatMap_nil, List.append_nil]
theorem Zy6 {ls : List Rx} (i : Nat) : (outC (ls.take i)).length <= (outC ls).length := by
 have e : outC ls = outC (ls.take i) ++ outC (ls.drop i) := by
  unfold outC
  rw [<- List.flatMap_append, List.take_append_drop]
 rw [e]; simp
theorem Z4v (l : List Rx) : Zga 6 (encs l) = true := by
 unfold Zga
 rw [List.all_eq_true]
 intro z hz
 obtain ⟨j, hj, rfl⟩ := List.mem_iff_getElem.1 hz
 have hj' : j < l.length := by simpa using hj
 have := Zii l j
 rw [List.getElem?_eq_getElem hj, List.getElem?_eq_getElem hj'] at this
 simp only [Option.map_some, Option.some.injEq] at this
 rw [this]; simp
theorem c56 (ls : List Rx) (hlen : ls.length <= 2 ^ 40) (ho : (outC ls).length <= 2 ^ 40) : Holds Try.prog 56 [A.d (.slc (encs ls))] [] (Ret (encA (catX ls))) := by
 have none : ∀ i (h : i < ls.length), ls[i].kind = 0 -> Ret (encA (catX ls)) (.ret (encA nilX)) [] := fun i h hk => by
  have : catX ls = nilX := by unfold catX; rw [if_pos (List.any_eq_true.2 ⟨_, List.getElem_mem h, by simpa using hk⟩)]
  rw [this]; exact ⟨rfl, rfl⟩
 have hany : (∀ j (h : j < ls.length), ls[j].kind ≠ 0) -> ls.any (fun x => x.kind == 0) = false := fun h => Bool.eq_false_iff.2 fun ht => by
  obtain ⟨x, hx, h0⟩ := List.any_eq_true.1 ht
  obtain ⟨j, hj, rfl⟩ := List.mem_iff_getElem.1 hx
  exact h j hj (by simpa using h0)
 refine w56 (encs ls) ⟨fun x => ∃ i : Nat, x = i /\ i <= ls.length /\ outC (ls.take i) = [] /\ ∀ j (hj : j < ls.length), j < i -> ls[j].kind ≠ 0, fun x => ls.length - x.toNat, fun o x _ _ _ _ _ _ _ _ => ∃ i : Nat, x = i /\ i <= ls.length /\ o = encs (outC (ls.take i)) /\ ∀ j (hj : j < ls.length), j < i -> ls[j].kind ≠ 0, fun _ x _ _ _ _ _ _ _ _ => ls.length - x.toNat, ⟨0, rfl, Nat.zero_le _, rfl, fun j _ hj => absurd hj (Nat.not_lt_zero _)⟩, ?_, ?_, trivial⟩
 ·rintro x ⟨i, rfl, hi, hout, hall⟩
  refine ⟨fun hc => ?_, fun hc => ?_⟩
  ·have hc := Zax hc
   rw [Zab] at hc
   have hc1 : i < ls.length := by omega
   rw [Zaq rfl hc1]
   have htk := Zqx hc1
   rw [hout, List.nil_append] at htk
   have hbig := Zy6 (ls := ls) (i + 1)
   rw [htk] at hbig
   have nz : ls[i].kind ≠ 0 -> ∀ j (hj : j < ls.length), j < i + 1 -> ls[j].kind ≠ 0 := fun h j hj hji => by
    by_cases e : j = i
    ·subst e; exact h
    ·exact hall j hj (by omega)
   refine ⟨tle (by omega), teq6 _, by simp, fun h0 => ?_, fun h0 => ⟨fun h3 => ?_, fun h3 => ⟨fun h1 => ?_, fun h1 => ?_⟩⟩⟩
   ·rw [enc0, Zar] at h0
    exact none i hc1 (Zao h0)
   ·rw [enc0, Zar] at h0 h3
    have h0 := Zag h0
    have h3 := Zao h3
    have hF : catF ls[i] = ls[i].subs := by unfold catF; rw [if_pos h3]
    rw [hF] at htk hbig
    rw [enc5, Zaw]
    refine ⟨rfl, Z4v _, tle (by simp; omega), tle (by simp; omega), fun hz => ?_, fun hz => ?_⟩
    ·have hz := Zao hz
     rw [Zab] at hz
     exact ⟨tle (by omega), tle (by omega), ⟨i + 1, rfl, hc1, by rw [htk]; exact List.length_eq_zero_iff.1 (by omega), nz h0⟩, by simp only [Int.toNat_natCast]; omega⟩
    ·exact ⟨tle (by omega), tle (by omega), ⟨i + 1, rfl, hc1, by rw [htk]; rfl, nz h0⟩, by simp only [Int.toNat_natCast]; omega⟩
   ·rw [enc0, Zar] at h0 h3 h1
    have h0 := Zag h0
    have h3 := Zag h3
    have h1 := Zao h1
    have hF : catF ls[i] = [] := by unfold catF; rw [if_neg h3, if_pos h1]
    rw [hF] at htk
    exact ⟨tle (by omega), tle (by omega), ⟨i + 1, rfl, hc1, htk, nz h0⟩, by simp only [Int.toNat_natCast]; omega⟩
   ·rw [enc0, Zar] at h0 h3 h1
    have h0 := Zag h0
    have h3 := Zag h3
    have h1 := Zag h1
    have hF : catF ls[i] = [ls[i]] := by unfold catF; rw [if_neg h3, if_neg h1]
    rw [hF] at htk
    exact ⟨Zob _, tle (by simp), tle (by simp), tle (by omega), tle (by omega), ⟨i + 1, rfl, hc1, by rw [htk]; rfl, nz h0⟩, by simp only [Int.toNat_natCast]; omega⟩
  ·have hc := Zan hc
   rw [Zab] at hc
   rw [List.take_of_length_le (show ls.length <= i by omega)] at hout
   have : catX ls = empX := by
    unfold catX
    rw [hany fun j hj => hall j hj (by omega), if_neg (by simp), if_pos hout]
   rw [this]; exact ⟨rfl, rfl⟩
 ·rintro o x k z a0 b0 c0 d0 e0 f0 ⟨i, rfl, hi, rfl, hall⟩
  refine ⟨fun hc => ?_, fun hc => ?_⟩
  ·have hc := Zax hc
   rw [Zab] at hc
   have hc1 : i < ls.length := by omega
   rw [Zaq rfl hc1]
   have htk := Zqx hc1
   have hbig := Zy6 (ls := ls) (i + 1)
   rw [htk, List.length_append] at hbig
   have nz : ls[i].kind ≠ 0 -> ∀ j (hj : j < ls.length), j < i + 1 -> ls[j].kind ≠ 0 := fun h j hj hji => by
    by_cases e : j = i
    ·subst e; exact h
    ·exact hall j hj (by omega)
   refine ⟨tle (by omega), teq6 _, by simp, fun h0 => ?_, fun h0 => ⟨fun h3 => ?_, fun h3 => ⟨fun h1 => ?_, fun h1 => ?_⟩⟩⟩
   ·rw [enc0, Zar] at h0
    exact none i hc1 (Zao h0)
   ·rw [enc0, Zar] at h0 h3
    have h0 := Zag h0
    have h3 := Zao h3
    have hF : catF ls[i] = ls[i].subs := by unfold catF; rw [if_pos h3]
    rw [hF] at htk hbig
    rw [enc5, Zaw]
    exact ⟨rfl, Z4v _, tle (by simp; omega), tle (by simp; omega), tle (by omega), tle (by omega), ⟨i + 1, rfl, hc1, by rw [htk, <- Zbn], nz h0⟩, by simp only [Int.toNat_natCast]; omega⟩
   ·rw [enc0, Zar] at h0 h3 h1
    have h0 := Zag h0
    have h3 := Zag h3
    have h1 := Zao h1
    have hF : catF ls[i] = [] := by unfold catF; rw [if_neg h3, if_pos h1]
    rw [hF, List.append_nil] at htk
    exact ⟨tle (by omega), tle (by omega), ⟨i + 1, rfl, hc1, by rw [htk], nz h0⟩, by simp only [Int.toNat_natCast]; omega⟩
   ·rw [enc0, Zar] at h0 h3 h1
    have h0 := Zag h0
    have h3 := Zag h3
    have h1 := Zag h1
    have hF : catF ls[i] = [ls[i]] := by unfold catF; rw [if_neg h3, if_neg h1]
    rw [hF] at htk hbig
    simp only [List.length_singleton] at hbig
    refine ⟨Zob _, tle (by simp; omega), tle (by simp; omega), tle (by omega), tle (by omega), ⟨i + 1, rfl, hc1, ?_, nz h0⟩, by simp only [Int.toNat_natCast]; omega⟩
    rw [htk, <- Zbn]; rfl
  ·have hc := Zan hc
   rw [Zab] at hc
   have e : catX ls = if outC ls = [] then empX else Zcs 3 (outC ls) := by
    unfold catX
    rw [hany fun j hj => hall j hj (by omega), if_neg (by simp)]
   rw [List.take_of_length_le (show ls.length <= i by omega), e]
   refine ⟨fun hz => ?_, fun hz => ?_⟩
   ·have hz := Zao hz
    rw [Zab] at hz
    rw [if_pos (List.length_eq_zero_iff.1 (by omega))]
    exact ⟨rfl, rfl⟩
   ·have hz := Zag hz
    rw [Zab] at hz
    rw [if_neg (fun h => hz (by rw [h]; rfl))]
    exact Zae (c50 3 _) ⟨_, rfl, rfl, teq6 _, rfl, rfl⟩
end Go.Rx
end
section
open Go Go.Proofs Go.Ab Go.Rf
set_option maxRecDepth 100000
namespace Go.Rx
mutual
def allX (p : Rx -> Prop) : Rx -> Prop
 | .mk k a b c d l => p (.mk k a b c d l) /\ Zy7 p l
def Zy7 (p : Rx -> Prop) : List Rx -> Prop
 | [] => True
 | r :: l => allX p r /\ Zy7 p l
end
theorem Zqy {p : Rx -> Prop} : ∀ {l : List Rx}, Zy7 p l ↔ ∀ r ∈ l, allX p r
 | [] => by simp [Zy7]
 | r :: l => by simp [Zy7, Zqy (l := l)]
theorem Zav {p : Rx -> Prop} {r : Rx} : allX p r ↔ p r /\ ∀ x ∈ r.subs, allX p x := by
 cases r with | mk k a b c d l => simp [allX, Rx.subs, Zqy]
def hasX (r : Rx) (b : Nat) : Bool := (r.w (b / 64)).toNat.testBit (b % 64)
def nodeOk (r : Rx) : Prop := Zau r = 0 /\ ∀ i < 4, 0 <= r.w i /\ r.w i < 2 ^ 64
theorem Zge (r : Rx) (h : ∀ i < 4, 0 <= r.w i /\ r.w i < 2 ^ 64) : [(D.lit (.int .u64 (r.w 0))), D.lit (.int .u64 (r.w 1)), D.lit (.int .u64 (r.w 2)), D.lit (.int .u64 (r.w 3))] = row4 (hasX r) := by
 have key : ∀ k, k < 4 -> ((wd (hasX r) k : Nat) : Int) = r.w k := fun k hk => by
  have hw := h k hk
  have : wd (hasX r) k = (r.w k).toNat := Zn6 (by omega) fun j hj => by
   unfold hasX
   rw [show (64 * k + j) / 64 = k by omega, show (64 * k + j) % 64 = j by omega]
  rw [this]; omega
 unfold row4
 rw [key 0 (by decide), key 1 (by decide), key 2 (by decide), key 3 (by decide)]
theorem c55w (r : Rx) (b : Nat) (hb : b < 256) (h : ∀ i < 4, 0 <= r.w i /\ r.w i < 2 ^ 64) : Holds Try.prog 55 [A.agg [(D.lit (.int .u64 (r.w 0))), D.lit (.int .u64 (r.w 1)), D.lit (.int .u64 (r.w 2)), D.lit (.int .u64 (r.w 3))], A.d (.lit (.int .u8 b))] [] (Ret (.d (.lit (.bool (hasX r b))))) := by
 rw [Zge r h]; exact c55 (hasX r) b hb
theorem c63w (r : Rx) (b : Nat) (hb : b < 256) (h : ∀ i < 4, 0 <= r.w i /\ r.w i < 2 ^ 64) : Holds Try.prog 63 [A.agg [(D.lit (.int .u64 (r.w 0))), D.lit (.int .u64 (r.w 1)), D.lit (.int .u64 (r.w 2)), D.lit (.int .u64 (r.w 3))], A.d (.lit (.int .u8 b))] [] (Ret (.d (.lit (.bool (hasX r b))))) := by
 rw [Zge r h]; exact c63 (hasX r) b hb
def hdX (r : Rx) : Rx := r.subs.headD nilX
def der (b : Nat) : Nat -> Rx -> Rx
 | 0, _ => nilX
 | n + 1, r =>
   if r.kind = 2 then (if hasX r b then empX else nilX)
   else if r.kind = 5 then catX [der b n (hdX r), r]
   else if r.kind = 4 then altX (r.subs.map (der b n))
   else if r.kind = 3 then (if null (hdX r) then altX [catX [der b n (hdX r), catX r.subs.tail], der b n (catX r.subs.tail)] else catX [der b n (hdX r), catX r.subs.tail])
   else nilX
def B40 : Nat := 2 ^ 40
def Zg1 (ls : List Rx) : Bool := Nat.ble (outC ls).length B40
def Zqz (ls : List Rx) : Bool := Nat.ble (outA ls).length B40
def Zcz (b : Nat) : Nat -> Rx -> Bool
 | 0, _ => true
 | n + 1, r =>
   if r.kind = 5 then Zcz b n (hdX r) && Zg1 [der b n (hdX r), r]
   else if r.kind = 4 then r.subs.all (Zcz b n) && Zqz (r.subs.map (der b n))
   else if r.kind = 3 then Zcz b n (hdX r) && (Zg1 r.subs.tail && (Zg1 [der b n (hdX r), catX r.subs.tail] && (!null (hdX r) || (Zcz b n (catX r.subs.tail) && Zqz [catX [der b n (hdX r), catX r.subs.tail], der b n (catX r.subs.tail)]))))
   else true
theorem Zdl {ls : List Rx} : Zg1 ls = true ↔ (outC ls).length <= 2 ^ 40 := by unfold Zg1; rw [Nat.ble_eq]; rfl
theorem Zgf {ls : List Rx} : Zqz ls = true ↔ (outA ls).length <= 2 ^ 40 := by unfold Zqz; rw [Nat.ble_eq]; rfl
theorem Zgg : ∀ (l m : List Rx), Zam (l ++ m) = Zam l + Zam m
 | [], m => by simp [Zam]
 | r :: l, m => by simp only [List.cons_append, Zam, Zgg l m]; omega
theorem Zwa (x : Rx) : Zam (catF x) <= size x := by
 unfold catF
 split
 ·have := Zb1 x; omega
 ·split
  ·simp [Zam]
  ·simp [Zam]
theorem Zfa : ∀ ls : List Rx, Zam (outC ls) <= Zam ls
 | [] => by simp [outC, Zam]
 | x :: l => by
   have h1 := Zfa l
   have h2 := Zwa x
   unfold outC at h1 ⊢
   rw [List.flatMap_cons, Zgg]
   simp only [Zam]; omega
theorem Zwb (k : Int) (l : List Rx) : size (Zcs k l) <= 1 + Zam l := by
 unfold Zcs
 split
 ·simp [Zam]
 ·simp [mk0, size]
theorem Zfb (ls : List Rx) : size (catX ls) <= 1 + Zam ls := by
 unfold catX
 split
 ·show 1 + 0 <= _; omega
 ·split
  ·show 1 + 0 <= _; omega
  ·have := Zwb 3 (outC ls); have := Zfa ls; omega
theorem Z4w {r : Rx} (h : r.subs ≠ []) : size (hdX r) + Zam r.subs.tail + 1 = size r := by
 cases r with | mk k a b c d l =>
  cases l with
  | nil => exact absurd rfl h
  | cons x l => simp [hdX, Rx.subs, size, Zam]; omega
theorem Zlr {p : Rx -> Prop} {k : Int} {l : List Rx} (hk : l.length ≠ 1 -> p (mk0 k l)) (h : ∀ x ∈ l, allX p x) : allX p (Zcs k l) := by
 unfold Zcs
 split
 ·exact h _ (by simp)
 ·rename_i hne
  exact Zav.2 ⟨hk (fun e => by
   match l, e with
   | [r], _ => exact hne r rfl), h⟩
theorem Z1f {p : Rx -> Prop} {x y : Rx} (h : allX p x) (hy : y ∈ catF x) : allX p y := by
 unfold catF at hy
 split at hy
 ·exact (Zav.1 h).2 y hy
 ·split at hy
  ·cases hy
  ·rw [List.mem_singleton.1 hy]; exact h
theorem Z1g {p : Rx -> Prop} {x y : Rx} (h : allX p x) (hy : y ∈ altF x) : allX p y := by
 unfold altF at hy
 split at hy
 ·exact (Zav.1 h).2 y hy
 ·split at hy
  ·cases hy
  ·rw [List.mem_singleton.1 hy]; exact h
theorem Zy8 {l out : List Rx} {y : Rx} (h : y ∈ l.foldl addX out) : y ∈ out \/ y ∈ l := by
 induction l generalizing out with
 | nil => exact .inl h
 | cons x l ih =>
   rcases ih h with h1 | h1
   ·unfold addX at h1
    split at h1
    ·exact .inl h1
    ·rcases List.mem_append.1 h1 with h1 | h1
     ·exact .inl h1
     ·rw [List.mem_singleton.1 h1]; exact .inr (List.mem_cons_self ..)
   ·exact .inr (List.mem_cons_of_mem _ h1)
theorem Zoe {ls : List Rx} {y : Rx} (h : y ∈ outA ls) : ∃ x ∈ ls, y ∈ altF x := by
 rcases Zy8 h with h | h
 ·cases h
 ·exact List.mem_flatMap.1 h
theorem Z1h {ls : List Rx} {y : Rx} (h : y ∈ outC ls) : ∃ x ∈ ls, y ∈ catF x := List.mem_flatMap.1 h
structure Closed (p : Rx -> Prop) : Prop where
 nil : p nilX
 emp : p empX
 cat : ∀ l : List Rx, 2 <= l.length -> l.length <= 2 ^ 40 -> p (mk0 3 l)
 alt : ∀ l : List Rx, 2 <= l.length -> l.length <= 2 ^ 40 -> p (mk0 4 l)
section
variable {p : Rx -> Prop} (hp : Closed p)
include hp
theorem Closed.nilX : allX p nilX := Zav.2 ⟨hp.nil, fun _ h => by cases h⟩
theorem Closed.empX : allX p empX := Zav.2 ⟨hp.emp, fun _ h => by cases h⟩
theorem Closed.catX {ls : List Rx} (h : ∀ x ∈ ls, allX p x) (ho : (outC ls).length <= 2 ^ 40) : allX p (catX ls) := by
 unfold Rx.catX
 split
 ·exact hp.nilX
 ·split
  ·exact hp.empX
  ·rename_i hne
   refine Zlr (fun h1 => hp.cat _ ?_ ho) fun x hx => ?_
   ·have : 0 < (outC ls).length := List.length_pos_iff.2 hne
    omega
   ·obtain ⟨y, hy, hxy⟩ := Z1h hx
    exact Z1f (h y hy) hxy
theorem Closed.altX {ls : List Rx} (h : ∀ x ∈ ls, allX p x) (ho : (outA ls).length <= 2 ^ 40) : allX p (altX ls) := by
 unfold Rx.altX
 split
 ·exact hp.nilX
 ·rename_i hne
  refine Zlr (fun h1 => hp.alt _ ?_ ho) fun x hx => ?_
  ·have : 0 < (outA ls).length := List.length_pos_iff.2 hne
   omega
  ·obtain ⟨y, hy, hxy⟩ := Zoe hx
   exact Z1g (h y hy) hxy
theorem Closed.hdX {r : Rx} (h : allX p r) : allX p (hdX r) := by
 unfold Rx.hdX
 cases hl : r.subs with
 | nil => exact hp.nilX
 | cons x l => exact (Zav.1 h).2 x (by rw [hl]; exact List.mem_cons_self ..)
theorem Closed.der (b : Nat) : ∀ (n : Nat) (r : Rx), allX p r -> Zcz b n r = true -> allX p (der b n r)
 | 0, r, _, _ => hp.nilX
 | n + 1, r, h, ho => by
   unfold Zcz at ho
   unfold Rx.der
   have hh := hp.hdX h
   split
   ·split
    ·exact hp.empX
    ·exact hp.nilX
   ·split
    ·rename_i h5
     rw [if_pos h5, Bool.and_eq_true, Zdl] at ho
     have := Closed.der b n _ hh ho.1
     exact hp.catX (fun x hx => by
      rcases List.mem_cons.1 hx with rfl | hx
      ·exact this
      ·rw [List.mem_singleton.1 hx]; exact h) ho.2
    ·rename_i h5
     rw [if_neg h5] at ho
     split
     ·rename_i h4
      rw [if_pos h4, Bool.and_eq_true, Zgf] at ho
      refine hp.altX (fun x hx => ?_) ho.2
      obtain ⟨y, hy, rfl⟩ := List.mem_map.1 hx
      exact Closed.der b n y ((Zav.1 h).2 y hy) (List.all_eq_true.1 ho.1 y hy)
     ·rename_i h4
      rw [if_neg h4] at ho
      split
      ·rename_i h3
       rw [if_pos h3] at ho
       simp only [Bool.and_eq_true, Zdl, Bool.or_eq_true, Bool.not_eq_true', Zgf] at ho
       obtain ⟨o1, o2, o3, o4⟩ := ho
       have hrest : allX p (Rx.catX r.subs.tail) := hp.catX (fun x hx => (Zav.1 h).2 x (List.mem_of_mem_tail hx)) o2
       have hfirst : allX p (Rx.catX [Rx.der b n (Rx.hdX r), Rx.catX r.subs.tail]) := hp.catX (fun x hx => by
        rcases List.mem_cons.1 hx with rfl | hx
        ·exact Closed.der b n _ hh o1
        ·rw [List.mem_singleton.1 hx]; exact hrest) o3
       split
       ·rename_i hn
        rcases o4 with o4 | ⟨o4, o5⟩
        ·rw [hn] at o4; cases o4
        ·refine hp.altX (fun x hx => ?_) o5
         rcases List.mem_cons.1 hx with rfl | hx
         ·exact hfirst
         ·rw [List.mem_singleton.1 hx]; exact Closed.der b n _ hrest o4
       ·exact hfirst
      ·exact hp.nilX
end
theorem closed_node : Closed nodeOk := by
 have hw : ∀ (k : Int) (l : List Rx), ∀ i < 4, 0 <= (mk0 k l).w i /\ (mk0 k l).w i < 2 ^ 64 := fun k l i hi => by
  rcases (show i = 0 \/ i = 1 \/ i = 2 \/ i = 3 by omega) with rfl | rfl | rfl | rfl <;> exact ⟨Int.le_refl _, (by decide : (0 : Int) < 2 ^ 64)⟩
 refine ⟨⟨rfl, hw _ _⟩, ⟨rfl, hw _ _⟩, fun l h _ => ⟨?_, hw _ _⟩, fun l h _ => ⟨?_, hw _ _⟩⟩
 ·simp [Zau, mk0, Rx.kind, Rx.w, Rx.subs]; omega
 ·simp [Zau, mk0, Rx.kind, Rx.w, Rx.subs]; omega
def lenOk (r : Rx) : Prop := r.subs.length <= 2 ^ 40
theorem closed_len : Closed lenOk := ⟨Nat.zero_le _, Nat.zero_le _, fun l _ h => h, fun l _ h => h⟩
theorem Zof : ∀ (n : Nat) (r : Rx), size r <= n -> (lens (2 ^ 40) r ↔ allX lenOk r)
 | 0, r, h => by have := Zaf r; omega
 | n + 1, r, h => by
   rw [Zb6, Zav]
   refine and_congr Iff.rfl (forall_congr' fun x => ?_)
   refine ⟨fun h1 hx => ?_, fun h1 hx => ?_⟩
   ·obtain ⟨i, hi, rfl⟩ := List.mem_iff_getElem.1 hx
    exact (Zof n _ (by have := Zbc hi; omega)).1 (h1 hx)
   ·obtain ⟨i, hi, rfl⟩ := List.mem_iff_getElem.1 hx
    exact (Zof n _ (by have := Zbc hi; omega)).2 (h1 hx)
theorem Zer (r : Rx) : lens (2 ^ 40) r ↔ allX lenOk r := Zof _ r (Nat.le_refl _)
theorem Zj3 {b n : Nat} {r : Rx} (h : lens (2 ^ 40) r) (ho : Zcz b n r = true) : lens (2 ^ 40) (der b n r) := (Zer _).2 (closed_len.der b n r ((Zer _).1 h) ho)
theorem Zq0 {ls : List Rx} (h : ∀ x ∈ ls, lens (2 ^ 40) x) (ho : (outC ls).length <= 2 ^ 40) : lens (2 ^ 40) (catX ls) := (Zer _).2 (closed_len.catX (fun x hx => (Zer _).1 (h x hx)) ho)
theorem Zwc {r : Rx} (h : Zau r = 0) : 0 <= r.kind /\ r.kind <= 5 /\ ((r.kind = 3 \/ r.kind = 4) -> 2 <= r.subs.length) /\ (r.kind = 5 -> r.subs.length = 1) /\ (r.kind < 3 -> r.subs = []) := by
 unfold Zau at h
 split at h
 ·omega
 ·rename_i h1
  split at h
  ·split at h
   ·omega
   ·refine ⟨by omega, by omega, fun _ => by omega, fun _ => by omega, fun _ => by omega⟩
  ·split at h
   ·split at h
    ·omega
    ·refine ⟨by omega, by omega, fun _ => by omega, fun _ => by omega, fun _ => by omega⟩
   ·split at h
    ·omega
    ·refine ⟨by omega, by omega, fun _ => by omega, fun _ => by omega, fun _ => List.length_eq_zero_iff.1 (by omega)⟩
theorem Zls {r : Rx} (h : 0 < r.subs.length) : hdX r = r.subs[0] := by
 unfold hdX
 generalize r.subs = l at h
 cases l with
 | nil => cases h
 | cons x l => rfl
theorem Zy9 : ∀ l : List Rx, gSub (encs l) 1 (l.length : Int) = encs l.tail := fun l => by
 unfold gSub
 rw [List.take_of_length_le (by simp)]
 cases l with
 | nil => rfl
 | cons x l => rfl
theorem c41 : ∀ (n : Nat) (b : Nat) (r : Rx), b < 256 -> size r <= n -> allX nodeOk r -> lens (2 ^ 40) r -> Zcz b n r = true -> Holds Try.prog 41 [A.agg (enc r), A.d (.lit (.int .u8 b))] [] (Ret (encA (der b n r))) := by
 intro n
 induction n with
 | zero => intro b r _ h; have := Zaf r; omega
 | succ n ih =>
   intro b r hb hs hno hl ho
   have hnode := (Zav.1 hno).1
   have hkinds := Zwc hnode.1
   have hll := (Zb6.1 hl).1
   unfold Zcz at ho
   refine w41 (enc r) b ⟨teq6 r, by simp, fun h2 => ?_, fun h2 => ⟨fun h5 => ?_, fun h5 => ⟨fun h4 => ?_, fun h4 => ⟨fun h3 => ?_, fun h3 => ?_⟩⟩⟩⟩
   ·rw [enc0, Zar] at h2
    have h2 := Zao h2
    rw [enc1, enc2, enc3, enc4]
    refine Zae (c55w r b hb hnode.2) ⟨_, rfl, rfl, fun h => ?_, fun h => ?_⟩
    ·have : der b (n + 1) r = empX := by unfold der; rw [if_pos h2, h]; rfl
     rw [this]; exact ⟨rfl, rfl⟩
    ·have : der b (n + 1) r = nilX := by unfold der; rw [if_pos h2, h]; rfl
     rw [this]; exact ⟨rfl, rfl⟩
   ·rw [enc0, Zar] at h2 h5
    have h2 := Zag h2
    have h5 := Zao h5
    rw [if_pos h5, Bool.and_eq_true, Zdl] at ho
    have h1 : 0 < r.subs.length := by have := hkinds.2.2.2.1 h5; omega
    have hsub := Zbc h1
    rw [enc5, Zaw, Zaq (x := 0) (i := 0) rfl h1, <- Zls h1]
    have hx := ih b (hdX r) hb (by rw [Zls h1]; omega) (closed_node.hdX hno) (by rw [Zls h1]; exact Zdd hl h1) ho.1
    refine ⟨by simp, tlt (by simp; omega), teq6 _, _, fun _ => hx, teq6 _, ?_⟩
    rw [show [enc (der b n (hdX r)), enc r] = encs [der b n (hdX r), r] from rfl]
    have : der b (n + 1) r = catX [der b n (hdX r), r] := by
     conv => lhs; unfold der
     rw [if_neg h2, if_pos h5]
    rw [this]
    exact Zae (c56 _ (by simp) ho.2) ⟨_, rfl, rfl, teq6 _, rfl, rfl⟩
   ·rw [enc0, Zar] at h2 h5 h4
    have h2 := Zag h2
    have h5 := Zag h5
    have h4 := Zao h4
    rw [if_neg h5, if_pos h4, Bool.and_eq_true, Zgf] at ho
    have h1 : 0 < r.subs.length := by have := hkinds.2.2.1 (.inr h4); omega
    have hder : der b (n + 1) r = altX (r.subs.map (der b n)) := by
     conv => lhs; unfold der
     rw [if_neg h2, if_neg h5, if_pos h4]
    have hcall : ∀ i (h : i < r.subs.length), Holds Try.prog 41 [A.agg (enc r.subs[i]), A.d (.lit (.int .u8 b))] [] (Ret (encA (der b n r.subs[i]))) := fun i h =>
     ih b _ hb (by have := Zbc h; omega) ((Zav.1 hno).2 _ (List.getElem_mem h)) (Zdd hl h) (List.all_eq_true.1 ho.1 _ (List.getElem_mem h))
    have hfin : Holds Try.prog 57 [A.d (.slc (encs (r.subs.map (der b n))))] [] (Ret (encA (altX (r.subs.map (der b n))))) := c57 _ (by simpa using hll) (fun x hx => by
     obtain ⟨y, hy, rfl⟩ := List.mem_map.1 hx
     exact Zj3 ((Zb6.1 hl).2 y hy) (List.all_eq_true.1 ho.1 y hy)) ho.2
    rw [hder, enc5, Zaw]
    refine ⟨rfl, True, r.subs.length, fun o x _ _ _ _ _ _ => ∃ i : Nat, x = i /\ i <= r.subs.length /\ o = encs ((r.subs.take i).map (der b n)), fun _ x _ _ _ _ _ _ => r.subs.length - x.toNat, trivial, fun _ => ⟨fun hp => ?_, fun hp => ?_⟩, ?_, trivial⟩
    ·rw [Zaq (x := 0) (i := 0) rfl h1]
     refine ⟨teq6 _, Zae (hcall 0 h1) ⟨_, rfl, rfl, teq6 _, Zob _, tle (by simp), tle (by simp), ⟨1, rfl, h1, ?_⟩, by simp; omega⟩⟩
     rw [Zcl _ _ h1]; rfl
    ·have hp := Zan hp
     rw [Zab] at hp
     omega
    ·rintro o x _ _ _ _ _ _ ⟨i, rfl, hi, rfl⟩
     refine ⟨fun hp => ?_, fun hp => ?_⟩
     ·have hp := Zax hp
      rw [Zab] at hp
      have hp1 : i < r.subs.length := by omega
      rw [Zaq rfl hp1]
      refine ⟨tle (by omega), teq6 _, Zae (hcall i hp1) ⟨_, rfl, rfl, teq6 _, Zob _, tle (by simp; omega), tle (by simp; omega), tle (by omega), tle (by omega), ⟨i + 1, rfl, hp1, ?_⟩, by simp only [Int.toNat_natCast]; omega⟩⟩
      rw [Zcl _ _ hp1, List.map_append, <- Zbn]; rfl
     ·have hp := Zan hp
      rw [Zab] at hp
      rw [List.take_of_length_le (show r.subs.length <= i by omega)]
      exact Zae hfin ⟨_, rfl, rfl, teq6 _, rfl, rfl⟩
   ·rw [enc0, Zar] at h2 h5 h4 h3
    have h2 := Zag h2
    have h5 := Zag h5
    have h4 := Zag h4
    have h3 := Zao h3
    rw [if_neg h5, if_neg h4, if_pos h3] at ho
    simp only [Bool.and_eq_true, Zdl, Bool.or_eq_true, Bool.not_eq_true', Zgf] at ho
    obtain ⟨o1, o2, o3, o4⟩ := ho
    have h1 : 2 <= r.subs.length := hkinds.2.2.1 (.inl h3)
    have h0 : 0 < r.subs.length := by omega
    have hne : r.subs ≠ [] := fun e => by rw [e] at h0; cases h0
    have hsz := Z4w hne
    have hszp := Zaf (hdX r)
    have hszc := Zfb r.subs.tail
    have hlh : lens (2 ^ 40) (hdX r) := by rw [Zls h0]; exact Zdd hl h0
    have hlt : ∀ x ∈ r.subs.tail, lens (2 ^ 40) x := fun x hx => (Zb6.1 hl).2 x (List.mem_of_mem_tail hx)
    have hlr := Zq0 hlt o2
    have hnt : ∀ x ∈ r.subs.tail, allX nodeOk x := fun x hx => (Zav.1 hno).2 x (List.mem_of_mem_tail hx)
    have hnr := closed_node.catX hnt o2
    have hder : der b (n + 1) r = (if null (hdX r) then altX [catX [der b n (hdX r), catX r.subs.tail], der b n (catX r.subs.tail)] else catX [der b n (hdX r), catX r.subs.tail]) := by
     conv => lhs; unfold der
     rw [if_neg h2, if_neg h5, if_neg h4, if_pos h3]
    rw [hder, enc5, Zaw, Zab, Zy9, Zaq (x := 0) (i := 0) rfl h0, <- Zls h0]
    have hx := ih b (hdX r) hb (by omega) (closed_node.hdX hno) hlh o1
    refine ⟨rfl, Z4v _, tle (by omega), tle (by omega), Zae (c56 r.subs.tail (by simp; omega) o2) ⟨_, rfl, rfl, teq6 _, tlt (by omega), teq6 _, _, fun _ => hx, teq6 _, ?_⟩⟩
    rw [show [enc (der b n (hdX r)), enc (catX r.subs.tail)] = encs [der b n (hdX r), catX r.subs.tail] from rfl]
    refine ⟨_, fun _ => c56 _ (by simp) o3, teq6 _, Zae (c42 _ (hdX r) (Nat.le_refl _) hlh) ⟨_, rfl, rfl, fun hn => ?_, fun hn => ?_⟩⟩
    ·rcases o4 with o4 | ⟨o4, o5⟩
     ·rw [hn] at o4; cases o4
     ·have hy := ih b (catX r.subs.tail) hb (by omega) hnr hlr o4
      refine ⟨_, fun _ => hy, teq6 _, ?_⟩
      rw [show [enc (catX [der b n (hdX r), catX r.subs.tail]), enc (der b n (catX r.subs.tail))] = encs [catX [der b n (hdX r), catX r.subs.tail], der b n (catX r.subs.tail)] from rfl, hn]
      refine Zae (c57 _ (by simp) (fun x hx => ?_) o5) ⟨_, rfl, rfl, teq6 _, rfl, rfl⟩
      rcases List.mem_cons.1 hx with rfl | hx
      ·refine Zq0 (fun y hy => ?_) o3
       rcases List.mem_cons.1 hy with rfl | hy
       ·exact Zj3 hlh o1
       ·rw [List.mem_singleton.1 hy]; exact hlr
      ·rw [List.mem_singleton.1 hx]; exact Zj3 hlr o4
    ·rw [hn]
     exact ⟨rfl, rfl⟩
   ·rw [enc0, Zar] at h2 h5 h4 h3
    have h2 := Zag h2
    have h5 := Zag h5
    have h4 := Zag h4
    have h3 := Zag h3
    have : der b (n + 1) r = nilX := by unfold der; rw [if_neg h2, if_neg h5, if_neg h4, if_neg h3]
    rw [this]; exact ⟨rfl, rfl⟩
end Go.Rx
end
section
open Go Go.Proofs Go.Ab Go.Rf
set_option maxRecDepth 100000
namespace Go.Rx
def rangeOk (r : Rx) : Prop := ∀ i < 4, 0 <= r.w i /\ r.w i < 2 ^ 64
theorem Zq1 : ∀ (n : Nat) (r : Rx) (lvl : Int), size r <= n -> chk lvl r = 0 -> allX (fun r => Zau r = 0) r
 | 0, r, _, h, _ => by have := Zaf r; omega
 | n + 1, r, lvl, h, hc => by
   rw [Zg8] at hc
   split at hc
   ·cases hc
   ·split at hc
    ·rename_i hne; exact absurd hc hne
    ·rename_i hne
     refine Zav.2 ⟨by omega, fun x hx => ?_⟩
     obtain ⟨i, hi, rfl⟩ := List.mem_iff_getElem.1 hx
     refine Zq1 n _ (lvl + 1) (by have := Zbc hi; omega) ?_
     have key : ∀ (l : List Rx), chks (lvl + 1) l = 0 -> ∀ j (hj : j < l.length), chk (lvl + 1) l[j] = 0 := fun l => by
      induction l with
      | nil => intro _ j hj; cases hj
      | cons y l ih =>
        intro h j hj
        simp only [chks] at h
        split at h
        ·rename_i hy; exact absurd h hy
        ·rename_i hy
         cases j with
         | zero => show chk (lvl + 1) y = 0; omega
         | succ j => exact ih h j (by simpa using hj)
     exact key _ hc i hi
theorem Zuo {p q : Rx -> Prop} : ∀ (n : Nat) (r : Rx), size r <= n -> allX p r -> allX q r -> allX (fun r => p r /\ q r) r
 | 0, r, h, _, _ => by have := Zaf r; omega
 | n + 1, r, h, h1, h2 => by
   rw [Zav] at h1 h2 ⊢
   refine ⟨⟨h1.1, h2.1⟩, fun x hx => ?_⟩
   obtain ⟨i, hi, rfl⟩ := List.mem_iff_getElem.1 hx
   exact Zuo n _ (by have := Zbc hi; omega) (h1.2 _ hx) (h2.2 _ hx)
theorem Zj4 {r : Rx} (hr : allX rangeOk r) (hc : chk 1 r = 0) : allX nodeOk r := Zuo _ r (Nat.le_refl _) (Zq1 _ r 1 (Nat.le_refl _) hc) hr
def D1 (r : Rx) (b : UInt8) : Rx := der b.toNat (size r) r
def ok1 (r : Rx) (b : UInt8) : Bool := Zcz b.toNat (size r) r
def derS (r : Rx) (s : List UInt8) : Rx := s.foldl D1 r
def Zlt : Rx -> List UInt8 -> Bool
 | _, [] => true
 | r, b :: s => ok1 r b && Zlt (D1 r b) s
def Zm3 (r : Rx) (s : List UInt8) : Bool := decide (chk 1 r = 0) && null (derS r s)
theorem Zq2 {s : List UInt8} {i : Nat} (h : i < s.length) : Zak s (i : Int) = (s[i].toNat : Nat) := by
 simp [Zak, List.getD, h]
theorem c24 (r : Rx) (s : List UInt8) (hr : allX rangeOk r) (hl : lens (2 ^ 40) r) (hs : s.length <= 2 ^ 40) (hok : chk 1 r = 0 -> Zlt r s = true) : Holds Try.prog 24 [A.agg (enc r), A.d (.lit (Zaa s))] [] (Ret (Zhp (Zm3 r s))) := by
 refine w24 (enc r) s ⟨teq6 r, Zae (c15 r hl) ⟨_, rfl, rfl, fun hc => ?_, fun hc => ?_⟩⟩
 ·have hc := nteq hc
  have : Zm3 r s = false := by unfold Zm3; rw [decide_eq_false hc]; rfl
  rw [this]; exact ⟨rfl, rfl⟩
 ·have hc := nfeq hc
  have hm := hok hc
  have hno := Zj4 hr hc
  refine ⟨fun x a b c d e f => ∃ i : Nat, ∃ q, x = i /\ i <= s.length /\ [a, b, c, d, e, f] = enc q /\ q = derS r (s.take i) /\ allX nodeOk q /\ lens (2 ^ 40) q /\ Zlt q (s.drop i) = true, fun x _ _ _ _ _ _ => s.length - x.toNat, ⟨0, r, rfl, Nat.zero_le _, Zdk r, rfl, hno, hl, hm⟩, ?_, trivial⟩
  rintro x a b c d e f ⟨i, q, rfl, hi, he, hq, hno, hl, hm⟩
  refine ⟨fun hp => ?_, fun hp => ?_⟩
  ·have hp := Zax hp
   have hp1 : i < s.length := by omega
   rw [Zq2 hp1, he]
   have hd : s.drop i = s[i] :: s.drop (i + 1) := by rw [List.drop_eq_getElem_cons hp1]
   rw [hd] at hm
   simp only [Zlt, Bool.and_eq_true] at hm
   refine ⟨tle (by omega), Zae (c41 (size q) s[i].toNat q s[i].toNat_lt (Nat.le_refl _) hno hl hm.1) ⟨_, rfl, rfl, teq6 _, tle (by omega), tle (by omega), ⟨i + 1, D1 q s[i], rfl, hp1, Zdk _, ?_, closed_node.der _ _ _ hno hm.1, Zj3 hl hm.1, hm.2⟩, by simp only [Int.toNat_natCast]; omega⟩⟩
   rw [Zcl _ _ hp1]
   show _ = ((s.take i ++ [s[i]]).foldl D1 r)
   rw [List.foldl_append, hq]; rfl
  ·have hp := Zan hp
   rw [List.take_of_length_le (show s.length <= i by omega)] at hq
   rw [he]
   refine Zae (c42 _ q (Nat.le_refl _) hl) ⟨_, rfl, rfl, ?_⟩
   have : Zm3 r s = null q := by unfold Zm3; rw [decide_eq_true hc, hq]; rfl
   rw [this]; exact ⟨rfl, rfl⟩
end Go.Rx
end
section
open Go Go.Proofs Go.Ab Go.Rf Go.ChangeShapes Go.WideShapes
set_option maxRecDepth 100000
namespace Go.Rx
theorem Zza : Try.prog.cellsOf 27 = 6 := by kernel_rfl
theorem Z6t : Try.prog.cellsOf 3 = 1 := by kernel_rfl
theorem Z4x : Try.prog.cellsOf 24 = 4 := by kernel_rfl
theorem Z4y : Try.prog.cellsOf 25 = 1 := by kernel_rfl
theorem Z4z : Try.prog.cellsOf 22 = 1 := by kernel_rfl
def prW (w : World) : Nat -> Nat -> Prop := fun b _ => b < w.heap.size
def ghW (w : World) : Gh := ⟨prW w, fun _ => 0, fun _ => 0, fun _ => False⟩
theorem Z40 {w : World} {a : Addr} {v : Value} (h : w.cell? a = some v) : a.block < w.heap.size := by
 unfold World.cell? at h
 by_cases hb : a.block < w.heap.size
 ·exact hb
 ·simp [Array.getElem?_eq_none (by omega : w.heap.size <= a.block)] at h
theorem Holds.out {P : Program} {f : FuncId} {args : List A} {v : A} (h : Holds P f args [] (Ret v)) {w : World} {cargs : Array Value}
 (ha : All2 (fun x v => ∀ p, RepA w (ghW w) (fun _ => 0) p x v) args cargs.toList) :
 CallsX P f cargs w fun e w' => ∃ cv g', e = .returned cv /\ RepA w' g' (fun _ => 0) .res v cv /\ RowKit.Below w.heap.size w w' := by
 have hh : HeapRel (Zah P w (ghW w) [] 0) (Zay []) (ghW w) w := by
  have no : ∀ {o b}, ¬ Owns (Zay []) (ghW w) o b := fun ho => by
   cases ho with
   | box h => cases h
   | slot h => cases h
   | cell h _ _ => cases h
  exact ⟨fun r c h => (by cases h), fun o o' b h _ => (no h).elim, fun o b h => (no h).elim, fun b o h => h, fun _ _ h => h, fun _ _ h => .inl h, fun _ => rfl, fun _ h => h, Fr.refl _ _ _⟩
 refine (h w cargs (ghW w) ha hh).mono fun e w' ⟨out, H', g', hR, hH, hr, he⟩ => ?_
 obtain ⟨rfl, rfl⟩ := hR
 obtain ⟨cv, rfl, h1, _⟩ := he
 refine ⟨cv, g', rfl, h1, hr.fr.os, hr.fr.tape, hr.fr.output, hr.fr.size, fun b hb => hr.fr.same b hb ?_⟩
 rintro ⟨o, ho⟩
 cases ho with
 | box h => cases h
 | slot h => cases h
 | cell h _ _ => cases h
theorem Zst {P : Program} {f : FuncId} {fn : Func} {c : Code} (hf : P.funcs[f]? = some fn) (hb : fn.body = some c) (hn : (fn.name == "runtime.NumGoroutine") = false) {args : Array Value} {w : World} {R : Ending -> World -> Prop}
 (h : CallsX P f args w R) : Calls P f args w R := by
 unfold CallsX at h
 rw [Zeh hf hb hn] at h
 exact h
theorem Zup {n : Int} (h : (Lit.int .u64 n).wf = true) : 0 <= n /\ n < 2 ^ 64 := by
 have := bounds_u64 h; omega
section
variable {H : Type} {en : TypeId × Value -> H} {w : World}
theorem Zzb {a : Addr} {n : Nat} {cs : List Value} (h : w.cells? 0 a n = some cs) : cs.length = n /\ ∀ i, i < n -> w.cell? (a.add i) = cs[i]? := by
 unfold World.cells? at h
 rw [if_pos (Nat.zero_le _)] at h
 have hl := mapM_some_length h
 simp only [List.length_range] at hl
 refine ⟨hl, fun i hi => mapM_some_get h i i (by simp [hi])⟩
theorem Zgh {fuel : Nat} {k : IntKind} {t : TypeId} {v : Value} {x : DataW H × List MemPlace} (ht : Try.prog.underlying t = some (.int k)) (h : DataW.trod en Try.prog w 0 (fun _ => true) true fuel t [v] = some x) :
 ∃ n, v = .int k n /\ (Lit.int k n).wf = true := by
 obtain ⟨n, h1, _, h2⟩ := DataW.trod_int ht h
 exact ⟨n, by simpa using h1, h2⟩
theorem Z6u (k a b c d : Int) (l : List Rx) : enc (.mk k a b c d l) = [.lit (.int .i64 k), .lit (.int .u64 a), .lit (.int .u64 b), .lit (.int .u64 c), .lit (.int .u64 d), .slc (encs l)] := by unfold enc; rfl
theorem Z6v {b off cap : Nat} (l : List Rx) (hc : l.length <= cap) (V : Nat -> List Value) (h : ∀ i (hi : i < l.length), (V i).length = 6 /\ All2 (RepD w (prW w)) (enc l[i]) (V i) /\ ∀ j, j < 6 -> w.cell? ⟨b, off + (i * 6 + j), none⟩ = (V i)[j]?) :
 RepD w (prW w) (.slc (encs l)) (.slice (some ⟨b, off, none⟩) l.length cap) := by
 have hk : ∀ k, k < l.length * 6 -> w.cell? ⟨b, off + k, none⟩ = some ((V (k / 6)).getD (k % 6) .nilIface) := by
  intro k hk
  have hi : k / 6 < l.length := by omega
  obtain ⟨h1, _, h3⟩ := h _ hi
  have := h3 (k % 6) (Nat.mod_lt _ (by decide))
  rw [show k / 6 * 6 + k % 6 = k by omega] at this
  rw [this, List.getElem?_eq_getElem (by rw [h1]; exact Nat.mod_lt _ (by decide))]
  simp [List.getD, List.getElem?_eq_getElem (show k % 6 < (V (k / 6)).length by rw [h1]; exact Nat.mod_lt _ (by decide))]
 have hlen := Zab l
 rw [<- hlen]
 refine .slc (encs l) 6 b off cap _ (by decide) ?_ (by rw [hlen]; exact hc) (fun k hk' => hk k (by rw [hlen] at hk'; exact hk')) (fun k hk' => Z40 (hk k (by rw [hlen] at hk'; exact hk'))) ?_
 ·intro e he
  obtain ⟨i, hi, rfl⟩ := List.getElem_of_mem he
  have := Zii l i
  rw [List.getElem?_eq_getElem hi, List.getElem?_eq_getElem (by rw [hlen] at hi; exact hi)] at this
  rw [Option.some.inj this]; exact Ze7 _
 ·intro i j hi hj
  have hi' : i < l.length := by rw [hlen] at hi; exact hi
  have e : (encs l)[i] = enc l[i] := by
   have := Zii l i
   rw [List.getElem?_eq_getElem hi, List.getElem?_eq_getElem hi'] at this
   exact Option.some.inj this
  have hj' : j < 6 := by rw [e, Ze7] at hj; exact hj
  obtain ⟨h1, h2, _⟩ := h i hi'
  have hje : j < (enc l[i]).length := by rw [Ze7]; exact hj'
  obtain ⟨v, hv, hr⟩ := Zbu h2 j ((enc l[i])[j]) (List.getElem?_eq_getElem hje)
  rw [show (i * 6 + j) / 6 = i by omega, show (i * 6 + j) % 6 = j by omega]
  simp only [e]
  simpa [List.getD, hv] using hr
theorem Z41 (fuel : Nat) : ∀ (cs : List Value) (x : DataW H × List MemPlace), DataW.trod en Try.prog w 0 (fun _ => true) true fuel 27 cs = some x ->
 ∃ r : Rx, cs.length = 6 /\ All2 (RepD w (prW w)) (enc r) cs /\ allX rangeOk r := by
 induction fuel using Nat.strongRecOn with
 | ind fuel ih =>
   intro cs x h
   obtain ⟨xs, n, rfl, rfl, hl, hxs, hf⟩ := DataW.trod_struct Try.underlying27 h
   rw [Zza] at hl
   match cs, hl with
   | [v0, v1, v2, v3, v4, v5], _ =>
     match xs, hxs with
     | [y0, y1, y2], _ =>
       have h0 : DataW.trod en Try.prog w 0 (fun _ => true) true n 3 ((([v0, v1, v2, v3, v4, v5] : List Value).drop 0).take (Try.prog.cellsOf 3)) = some y0 := hf 0 _ rfl
       have h1 : DataW.trod en Try.prog w 0 (fun _ => true) true n 24 ((([v0, v1, v2, v3, v4, v5] : List Value).drop 1).take (Try.prog.cellsOf 24)) = some y1 := hf 1 _ rfl
       have h2 : DataW.trod en Try.prog w 0 (fun _ => true) true n 25 ((([v0, v1, v2, v3, v4, v5] : List Value).drop 5).take (Try.prog.cellsOf 25)) = some y2 := hf 2 _ rfl
       rw [Z6t] at h0
       rw [Z4x] at h1
       rw [Z4y] at h2
       obtain ⟨k, rfl, hk⟩ := Zgh Try.underlying3 h0
       obtain ⟨zs, m, rfl, _, _, hzs, hz⟩ := DataW.trod_array Try.underlying24 h1
       match zs, hzs with
       | [z0, z1, z2, z3], _ =>
         have g0 := hz 0 (by decide)
         have g1 := hz 1 (by decide)
         have g2 := hz 2 (by decide)
         have g3 := hz 3 (by decide)
         rw [Z4z] at g0 g1 g2 g3
         obtain ⟨a, rfl, ha⟩ := Zgh Try.underlying22 g0
         obtain ⟨b, rfl, hb⟩ := Zgh Try.underlying22 g1
         obtain ⟨c, rfl, hc⟩ := Zgh Try.underlying22 g2
         obtain ⟨d, rfl, hd⟩ := Zgh Try.underlying22 g3
         have key : ∀ l : List Rx, RepD w (prW w) (.slc (encs l)) v5 -> (∀ r ∈ l, allX rangeOk r) -> ∃ r : Rx, ([Value.int .i64 k, .int .u64 a, .int .u64 b, .int .u64 c, .int .u64 d, v5] : List Value).length = 6 /\ All2 (RepD w (prW w)) (enc r) [Value.int .i64 k, .int .u64 a, .int .u64 b, .int .u64 c, .int .u64 d, v5] /\ allX rangeOk r := by
          intro l hl hal
          refine ⟨.mk k a b c d l, rfl, ?_, ?_⟩
          ·rw [Z6u]
           exact ⟨.lit _ rfl, .lit _ rfl, .lit _ rfl, .lit _ rfl, .lit _ rfl, hl, trivial⟩
          ·refine Zav.2 ⟨?_, hal⟩
           intro i hi
           match i, hi with
           | 0, _ => exact Zup ha
           | 1, _ => exact Zup hb
           | 2, _ => exact Zup hc
           | 3, _ => exact Zup hd
         rcases DataW.trod_slice Try.underlying25 h2 with ⟨e, _⟩ | ⟨ad, len, cap, elems, rest, q, hq, e, _, _, hlc, _, hel, hes, _⟩
         ·have e : v5 = .slice none 0 0 := by simpa using e
          exact key [] (by rw [e]; exact .emp _ _) (fun _ h => by cases h)
         ·have e : v5 = .slice (some ad) len cap := by simpa using e
          rw [Zza] at hes
          have hall : ∀ i, i < len -> ∃ (r : Rx) (V : List Value), V.length = 6 /\ All2 (RepD w (prW w)) (enc r) V /\ allX rangeOk r /\ ∀ j, j < 6 -> w.cell? ((ad.add (i * 6)).add j) = V[j]? := by
           intro i hi
           have h3 := hes i hi
           rw [List.getElem?_eq_getElem (by omega)] at h3
           obtain ⟨cs', h4, h5⟩ := Option.bind_eq_some_iff.1 h3
           obtain ⟨r, h6, h7, h8⟩ := ih q (by omega) _ _ h5
           exact ⟨r, cs', h6, h7, h8, (Zzb h4).2⟩
          have hall' : ∃ (f : Nat -> Rx) (V : Nat -> List Value), ∀ i, i < len -> (V i).length = 6 /\ All2 (RepD w (prW w)) (enc (f i)) (V i) /\ allX rangeOk (f i) /\ ∀ j, j < 6 -> w.cell? ((ad.add (i * 6)).add j) = (V i)[j]? := by
           classical
           refine ⟨fun i => if h : i < len then (hall i h).choose else .mk 0 0 0 0 0 [], fun i => if h : i < len then (hall i h).choose_spec.choose else [], fun i hi => ?_⟩
           simp only [hi, dif_pos]
           exact (hall i hi).choose_spec.choose_spec
          obtain ⟨f, V, hfV⟩ := hall'
          subst e
          have hmem : ∀ r ∈ (List.range len).map f, allX rangeOk r := by
           intro r hr
           obtain ⟨i, hi, rfl⟩ := List.mem_map.1 hr
           exact (hfV i (List.mem_range.1 hi)).2.2.1
          refine key ((List.range len).map f) ?_ hmem
          by_cases h0 : len = 0
          ·subst h0; exact .emp _ _
          ·have sp : ad.spot = none := by
            have := (hfV 0 (by omega)).2.2.2 0 (by decide)
            rw [List.getElem?_eq_getElem (by rw [(hfV 0 (by omega)).1]; decide)] at this
            simpa [Addr.add] using World.cell?_spot this
           obtain ⟨bb, off, spot⟩ := ad
           subst sp
           have := Z6v (w := w) (b := bb) (off := off) (cap := cap) ((List.range len).map f) (by simpa using hlc) V (fun i hi => by
            have hi' : i < len := by simpa using hi
            obtain ⟨k1, k2, _, k4⟩ := hfV i hi'
            refine ⟨k1, by simpa using k2, fun j hj => ?_⟩
            rw [<- k4 j hj, <- Go.WideShapes.add_plain, Go.Deep.add_add])
           simpa using this
end
end Go.Rx
end
section
open Go Go.Proofs Go.Ab Go.Rf Go.ChangeShapes Go.WideShapes
set_option maxRecDepth 100000
namespace Go.Rx
def Z6w : Value := .agg #[.int .i64 0, .int .u64 0, .int .u64 0, .int .u64 0, .int .u64 0, .slice none 0 0]
theorem lay : laidOutB Try.prog = true := by kernel_rfl
theorem own : ownKnob Try.prog.godebug = none := by kernel_rfl
section
variable {H : Type} {en : TypeId × Value -> H} {w : World} {base : Nat} {sp : Nat -> Bool}
theorem Z6x {v : Value} {d : DataW H} {p : List MemPlace} (hv : Value.okWide Try.prog w .any base 27 v) (h : DataW.Trod en Try.prog w 0 (fun _ => true) true 27 v d p) :
 ∃ r : Rx, (∀ q, RepA w (ghW w) (fun _ => 0) q (.agg (enc r)) v) /\ allX rangeOk r := by
 obtain ⟨fuel, h⟩ := h
 simp only [Value.okWide, Try.underlying27] at hv
 obtain ⟨cs, rfl, _⟩ := hv
 obtain ⟨r, _, h2, h3⟩ := Z41 fuel _ _ h
 exact ⟨r, fun q => ⟨cs.toList, by simp, h2⟩, h3⟩
theorem Z42 {t : TypeId} {v : Value} {d : DataW H} {p : List MemPlace} (ht : Try.prog.underlying t = some .string) (hv : Value.okWide Try.prog w .any base t v) (h : DataW.Trod en Try.prog w 0 (fun _ => true) true t v d p) :
 ∃ s : List UInt8, ∀ q, RepA w (ghW w) (fun _ => 0) q (.d (.lit (Zaa s))) v := by
 obtain ⟨fuel, h⟩ := h
 obtain ⟨s, h1, _⟩ := DataW.trod_string ht h
 have : v = .string s := by
  simp only [Value.okWide, ht, Cell.okWide, Cell.ok] at hv
  cases v <;> simp_all [Value.cells]
 subst this
 refine ⟨s.data.toList, fun q => ?_⟩
 have : Zaa s.data.toList = .string s := by simp [Zaa]
 rw [this]; exact .lit _ rfl
theorem Zq3 (hl : laidOutB Try.prog = true) {W W' : World} : ∀ {ts : List TypeId} {vs : List Value} {ds : List (DataW H)} {ps : List MemPlace}, (∀ t ∈ ts, Try.prog.readableRec t = true /\ t < Try.prog.types.size) ->
 DataW.TrodAll en Try.prog W 0 (fun _ => true) true ts vs ds ps -> RowKit.Below W.heap.size W W' -> (∀ p ∈ ps, p.block < W.heap.size) -> (∀ p ∈ ps, sp p.block = true) -> DataW.TrodAll en Try.prog W' 0 sp true ts vs ds ps
 | [], _, _, _, _, h, _, _, _ => by
   obtain ⟨rfl, rfl, rfl⟩ := trodAll_nil h
   rfl
 | t :: ts, _, _, _, ht, h, hb, hlt, hs => by
   obtain ⟨v, vs1, d, ds1, a, b, rfl, rfl, rfl, h1, h2⟩ := trodAll_cons h
   refine ⟨a, b, ?_, Zq3 hl (fun t h => ht t (List.mem_cons_of_mem _ h)) h2 hb (fun p hp => hlt p (List.mem_append_right _ hp)) (fun p hp => hs p (List.mem_append_right _ hp)), rfl⟩
   exact WideElems.Trod_stays hl (ht t (List.mem_cons_self ..)).1 (ht t (List.mem_cons_self ..)).2 h1 (fun p hp => hb.same (hlt p (List.mem_append_left _ hp))) (fun p hp => hs p (List.mem_append_left _ hp))
theorem Z1i {fn : Func} {s : ChangeSpec} {W W' : World} {args : Array Value} {ds gs : List (DataW H)} {before : List MemPlace} (hvs : s.vars = [])
 (hW : DataW.Whole en Try.prog fn.params.toList s.vars false W args.toList ds gs before) (hres : fn.resultTypes = #[4])
 (hspec : s.fn H ds = ⟨[.lit (.bool true)], ds, []⟩) (hl : laidOutB Try.prog = true) (hrd0 : (fn.params.toList.all fun t => Try.prog.readableRec t && decide (t < Try.prog.types.size)) = true)
 (hb : RowKit.Below W.heap.size W W') : s.post en Try.prog fn false true false false W args (.bool true) W' := by
 have hlt := hW.lt
 have hrd : ∀ t ∈ fn.params.toList, Try.prog.readableRec t = true /\ t < Try.prog.types.size := fun t ht => by
  have := List.all_eq_true.1 hrd0 t ht
  simpa using this
 obtain ⟨p, q, hA, hV, rfl, hfz, hnd⟩ := id hW
 rw [hvs] at hV
 obtain ⟨rfl, rfl⟩ := trodVars_none hV
 have hold : ∀ x ∈ p ++ [], (fun b => decide (b < W.heap.size)) x.block = true := fun x hx => by simpa using hlt x hx
 have hr : ∀ (b : Nat) (sp : Nat -> Bool) (hd : Bool), DataW.TrodAll en Try.prog W' b sp hd fn.resultTypes.toList ((Value.bool true).resultList fn.resultTypes.size) (s.fn H (ds ++ [])).results [] := fun b sp hd => by
  rw [List.append_nil, hspec, hres]
  exact trodAll_cons_mk (RowKit.shut_bool Try.underlying4 _) trodAll_mk0
 have ha : ∀ sp : Nat -> Bool, (∀ x ∈ p ++ [], sp x.block = true) -> DataW.TrodAll en Try.prog W' 0 sp true fn.params.toList args.toList (s.fn H (ds ++ [])).args p := fun sp hs => by
  rw [List.append_nil, hspec]
  exact Zq3 hl hrd hA hb (fun x hx => hlt x (by simpa using hx)) (fun x hx => hs x (by simpa using hx))
 have hv : ∀ sp : Nat -> Bool, DataW.TrodVars en Try.prog W' sp s.vars (s.fn H (ds ++ [])).vars [] := fun sp => by
  rw [List.append_nil, hspec, hvs]
  rfl
 refine ⟨ds, [], p ++ [], [], p, [], hW, hr _ _ _, ha _ hold, hv _, hb.frame _, fun _ => ⟨RowKit.ok_one hres rfl (RowKit.okWide_bool_mk Try.underlying4 _), _, _, ([] ++ p) ++ [], ⟨[] ++ p, [], trodAll_append (ha _ (fun _ _ => rfl)) (hr _ _ _), hv _, rfl, ?_, ?_⟩, ?_⟩⟩
 ·intro b off hx
  have hx' : MemPlace.cell b off ∈ p ++ [] := by simpa using hx
  rw [hb.frozen (hlt _ hx')]
  exact hfz b off hx'
 ·intro h; cases h
 ·intro x hx _
  simpa using hx
end
end Go.Rx
end
section
open Go Go.Proofs Go.Ab Go.Rf
set_option maxRecDepth 100000
namespace Go.Rx
theorem Zlu : ∀ (n : Nat) (neg : Bool) (p : Nat -> Bool) (t : List UInt8) (r : Res Rx), setL n neg p t = some r -> setL (n + 1) neg p t = some r
 | 0, _, _, _, _, h => by simp [setL] at h
 | n + 1, neg, p, t, r, h => by
   unfold setL at h ⊢
   cases e1 : Zcb 0 t with
   | bad q => rw [e1] at h; exact h
   | ok lo t1 =>
     rw [e1] at h
     dsimp only at h ⊢
     cases e2 : hiR lo t1 with
     | bad q => rw [e2] at h; exact h
     | ok hi t3 =>
       rw [e2] at h
       dsimp only at h ⊢
       by_cases hc : hd t3 = 93
       ·rw [if_pos hc] at h ⊢; exact h
       ·rw [if_neg hc] at h ⊢; exact Zlu n _ _ _ _ h
theorem Zzc (n : Nat) (t : List UInt8) (r : Res Rx) (h : setR n t = some r) : setR (n + 1) t = some r := by
 unfold setR at h ⊢
 split at h
 ·rename_i hc; rw [if_pos hc]; exact Zlu _ _ _ _ _ h
 ·rename_i hc; rw [if_neg hc]
  split at h
  ·rename_i hc; rw [if_pos hc]; exact h
  ·rename_i hc; rw [if_neg hc]; exact Zlu _ _ _ _ _ h
theorem Zlv : ∀ (n : Nat) (r : Rx) (t : List UInt8) (o : Res Rx), opsL n r t = some o -> opsL (n + 1) r t = some o
 | 0, _, _, _, h => by simp [opsL] at h
 | n + 1, r, t, o, h => by
   unfold opsL at h ⊢
   split at h
   ·exact Zlv n _ _ _ h
   ·exact h
theorem Zgu : ∀ (n : Nat), (∀ t r, alts n t = some r -> alts (n + 1) t = some r) /\ (∀ l t r, altL n l t = some r -> altL (n + 1) l t = some r) /\ (∀ t r, seqs n t = some r -> seqs (n + 1) t = some r) /\ (∀ l t r, seqL n l t = some r -> seqL (n + 1) l t = some r) /\
 (∀ t r, Zb7 n t = some r -> Zb7 (n + 1) t = some r) /\ (∀ t r, atom n t = some r -> atom (n + 1) t = some r) := by
 intro n
 induction n with
 | zero => exact ⟨fun t r h => by simp [alts] at h, fun l t r h => by simp [altL] at h, fun t r h => by simp [seqs] at h, fun l t r h => by simp [seqL] at h, fun t r h => by simp [Zb7] at h, fun t r h => by simp [atom] at h⟩
 | succ n ih =>
   obtain ⟨ih1, ih2, ih3, ih4, ih5, ih6⟩ := ih
   refine ⟨fun t r h => ?_, fun l t r h => ?_, fun t r h => ?_, fun l t r h => ?_, fun t r h => ?_, fun t r h => ?_⟩
   ·unfold alts at h ⊢
    split at h
    ·cases h
    ·rename_i hq; rw [ih3 _ _ hq]; exact h
    ·rename_i hq; rw [ih3 _ _ hq]; exact ih2 _ _ _ h
   ·unfold altL at h ⊢
    split at h
    ·rename_i hc
     rw [if_pos hc]
     split at h
     ·cases h
     ·rename_i hq; rw [ih3 _ _ hq]; exact h
     ·rename_i hq; rw [ih3 _ _ hq]; exact ih2 _ _ _ h
    ·rename_i hc; rw [if_neg hc]; exact h
   ·unfold seqs at h ⊢
    split at h
    ·cases h
    ·rename_i hq; rw [ih5 _ _ hq]; exact h
    ·rename_i hq; rw [ih5 _ _ hq]; exact ih4 _ _ _ h
   ·unfold seqL at h ⊢
    split at h
    ·rename_i hc
     rw [if_pos hc]
     split at h
     ·cases h
     ·rename_i hq; rw [ih5 _ _ hq]; exact h
     ·rename_i hq; rw [ih5 _ _ hq]; exact ih4 _ _ _ h
    ·rename_i hc; rw [if_neg hc]; exact h
   ·unfold Zb7 at h ⊢
    split at h
    ·cases h
    ·rename_i hq; rw [ih6 _ _ hq]; exact h
    ·rename_i hq; rw [ih6 _ _ hq]; exact Zlv _ _ _ _ h
   ·unfold atom at h ⊢
    split at h
    ·rename_i hc
     rw [if_pos hc]
     split at h
     ·rename_i hc; rw [if_pos hc]; exact h
     ·rename_i hc
      rw [if_neg hc]
      split at h
      ·cases h
      ·rename_i hq; rw [ih1 _ _ hq]; exact h
      ·rename_i hq; rw [ih1 _ _ hq]; exact h
    ·rename_i hc
     rw [if_neg hc]
     split at h
     ·rename_i hc; rw [if_pos hc]; exact Zzc _ _ _ h
     ·rename_i hc; rw [if_neg hc]; exact h
theorem Zzd {n m : Nat} (h : n <= m) {t : List UInt8} {r : Res Rx} (e : alts n t = some r) : alts m t = some r := by
 induction h with
 | refl => exact e
 | step _ ih => exact (Zgu _).1 _ _ ih
theorem Z1j {n m : Nat} {t : List UInt8} {r r' : Res Rx} (h : alts n t = some r) (h' : alts m t = some r') : r = r' := by
 have h1 := Zzd (Nat.le_max_left n m) h
 have h2 := Zzd (Nat.le_max_right n m) h'
 rw [h1] at h2
 injection h2
def Res.ext {α : Type} (s : List UInt8) : Res α -> Res α
 | .ok a t => .ok a (t ++ s)
 | .bad t => .bad (t ++ s)
section
variable {s : List UInt8} (hs : hd s = 41)
include hs
end
theorem Z43 (c : UInt8) (t : List UInt8) : hd (c :: t) = c.toNat := rfl
theorem Zq4 {n m : Nat} (h : n <= m) {t : List UInt8} {r : Res Rx} (e : seqs n t = some r) : seqs m t = some r := by
 induction h with
 | refl => exact e
 | step _ ih => exact (Zgu _).2.2.1 _ _ ih
inductive Out3 (a : List UInt8) : Prop
 | fine {n : Nat} {r : Rx} (h : alts n a = some (.ok r [])) (h2 : Za6 a = if chk 1 r = 9 then (mk0 0 [], 9, 0) else (r, 0, 0))
 | close {n : Nat} {r : Rx} {t : List UInt8} (h : alts n a = some (.ok r t)) (h1 : hd t = 41) (h3 : t <:+ a) (h2 : Za6 a = (mk0 0 [], 8, (a.length : Int) - t.length))
 | bad {n : Nat} {t : List UInt8} (h : alts n a = some (.bad t)) (h3 : t <:+ a) (h2 : Za6 a = (mk0 0 [], 8, (a.length : Int) - t.length))
theorem Z1k {a : List UInt8} (hl : a.length <= 1000) {n : Nat} {r : Rx} (h : alts n a = some (.ok r [])) : Za6 a = if chk 1 r = 9 then (mk0 0 [], 9, 0) else (r, 0, 0) := by
 obtain ⟨res, hr⟩ := Zln a
 have := Z1j h hr
 subst this
 exact Zod (by omega) hr
end Go.Rx
end
section
open Go Go.Proofs Go.Ab Go.Rf
set_option maxRecDepth 100000
namespace Go.Rx
def hexD (n : Nat) : UInt8 := UInt8.ofNat (if n < 10 then 48 + n else 87 + n)
def alnV (x : Nat) : Bool := (decide (97 <= x) && decide (x <= 122) || decide (65 <= x) && decide (x <= 90)) || decide (48 <= x) && decide (x <= 57)
def bt (x : Nat) : List UInt8 := if alnV x then [UInt8.ofNat x] else [92, 120, hexD (x / 16), hexD (x % 16)]
theorem Zq5 : ∀ n < 16, hexV (hexD n).toNat = some n := by decide
theorem Zuq : ∀ x < 256, alnV x = true -> (UInt8.ofNat x).toNat = x /\ x ≠ 92 /\ 32 <= x /\ x <= 126 /\ (spcV x || x == 94 || x == 45) = false /\ x ≠ 94 /\ x ≠ 93 /\ x ≠ 45 := by decide
theorem Zur {x lo : Nat} (hx : x < 256) (hl : lo <= x) (w : List UInt8) : Zcb lo (bt x ++ w) = .ok x w := by
 unfold bt
 by_cases ha : alnV x = true
 ·rw [if_pos ha]
  obtain ⟨h1, h2, h3, h4, h5, _⟩ := Zuq x hx ha
  unfold Zcb
  have e : hd ([UInt8.ofNat x] ++ w) = x := h1
  rw [e, if_neg h2, if_neg (by rintro (h | h | h | h) <;> first | omega | (rw [h5] at h; cases h))]
  rfl
 ·rw [if_neg ha]
  unfold Zcb
  rw [if_pos (by rfl)]
  show escR lo (120 :: hexD (x / 16) :: hexD (x % 16) :: w) = _
  unfold escR
  rw [if_pos (by rfl)]
  show hexR lo (hexD (x / 16) :: hexD (x % 16) :: w) = _
  unfold hexR
  show (match hexV (hexD (x / 16)).toNat with
   | none => _
   | some d => _) = _
  rw [Zq5 _ (by omega)]
  dsimp only
  rw [if_neg (by omega)]
  show (match hexV (hexD (x % 16)).toNat with
   | none => _
   | some d => _) = _
  rw [Zq5 _ (by omega)]
  dsimp only
  rw [if_neg (by omega), show x / 16 * 16 + x % 16 = x by omega]
  rfl
theorem Z7u {x : Nat} (hx : x < 256) : ∃ c t, bt x = c :: t /\ c.toNat ≠ 94 /\ c.toNat ≠ 93 /\ c.toNat ≠ 45 := by
 unfold bt
 by_cases ha : alnV x = true
 ·rw [if_pos ha]
  obtain ⟨h1, _, _, _, _, h6, h7, h8⟩ := Zuq x hx ha
  exact ⟨_, _, rfl, by rw [h1]; exact h6, by rw [h1]; exact h7, by rw [h1]; exact h8⟩
 ·rw [if_neg ha]; exact ⟨_, _, rfl, by decide, by decide, by decide⟩
theorem Zus (x : Nat) : (bt x).length <= 4 := by unfold bt; split <;> simp
def bump : List (Nat × Nat) -> Nat -> List (Nat × Nat)
 | [], _ => []
 | [q], n => [(q.1, n)]
 | q :: q2 :: l, n => q :: bump (q2 :: l) n
theorem Zlw (q : Nat × Nat) (n : Nat) : ∀ m : List (Nat × Nat), bump (m ++ [q]) n = m ++ [(q.1, n)]
 | [] => rfl
 | [x] => rfl
 | x :: y :: l => by
   show x :: bump (y :: l ++ [q]) n = _
   rw [Zlw q n (y :: l)]; rfl
def rgN (p : Nat -> Bool) : Nat -> List (Nat × Nat)
 | 0 => []
 | n + 1 => if p n then (if decide (0 < n) && p (n - 1) then bump (rgN p n) n else rgN p n ++ [(n, n)]) else rgN p n
def cov (l : List (Nat × Nat)) (i : Nat) : Bool := l.any fun q => decide (q.1 <= i) && decide (i <= q.2)
theorem Zsu (l m : List (Nat × Nat)) (i : Nat) : cov (l ++ m) i = (cov l i || cov m i) := by simp [cov]
structure RgI (p : Nat -> Bool) (n : Nat) (l : List (Nat × Nat)) : Prop where
 le : ∀ q ∈ l, q.1 <= q.2 /\ q.2 < n
 cov : ∀ i, cov l i = (decide (i < n) && p i)
 last : 0 < n -> p (n - 1) = true -> ∃ m a, l = m ++ [(a, n - 1)]
theorem Zm4 (p : Nat -> Bool) : ∀ n, RgI p n (rgN p n)
 | 0 => ⟨fun q h => (by cases h), fun i => (by simp [cov, rgN]), fun h => absurd h (by decide)⟩
 | n + 1 => by
   have ih := Zm4 p n
   unfold rgN
   cases hp : p n with
   | false =>
     rw [if_neg (by decide)]
     refine ⟨fun q h => ⟨(ih.le q h).1, by have := (ih.le q h).2; omega⟩, fun i => ?_, fun _ h => ?_⟩
     ·rw [ih.cov]
      by_cases h : i = n
      ·subst h; simp [hp]
      ·rw [show decide (i < n + 1) = decide (i < n) by rw [Bool.eq_iff_iff]; simp; omega]
     ·rw [Nat.add_sub_cancel, hp] at h; cases h
   | true =>
     rw [if_pos rfl]
     cases hq : decide (0 < n) && p (n - 1) with
     | false =>
       rw [if_neg (by decide)]
       refine ⟨fun q h => ?_, fun i => ?_, fun _ _ => ⟨_, n, rfl⟩⟩
       ·rcases List.mem_append.1 h with h | h
        ·exact ⟨(ih.le q h).1, by have := (ih.le q h).2; omega⟩
        ·rw [List.mem_singleton.1 h]; exact ⟨Nat.le_refl _, Nat.lt_succ_self _⟩
       ·rw [Zsu, ih.cov]
        by_cases h : i = n
        ·subst h; simp [cov, hp]
        ·rw [show decide (i < n + 1) = decide (i < n) by rw [Bool.eq_iff_iff]; simp; omega]
         have : cov [(n, n)] i = false := by simp only [cov, List.any_cons, List.any_nil, Bool.or_false, Bool.and_eq_false_iff, decide_eq_false_iff_not]; omega
         rw [this, Bool.or_false]
     | true =>
       rw [if_pos rfl]
       rw [Bool.and_eq_true, decide_eq_true_eq] at hq
       obtain ⟨m, a, e⟩ := ih.last hq.1 hq.2
       rw [e, Zlw]
       have ha := ih.le (a, n - 1) (by rw [e]; simp)
       refine ⟨fun q h => ?_, fun i => ?_, fun _ _ => ⟨_, _, rfl⟩⟩
       ·rcases List.mem_append.1 h with h | h
        ·have := ih.le q (by rw [e]; exact List.mem_append_left _ h)
         exact ⟨this.1, by omega⟩
        ·rw [List.mem_singleton.1 h]
         have := ha.1
         exact ⟨by dsimp only at this ⊢; omega, Nat.lt_succ_self _⟩
       ·have hc := ih.cov i
        rw [e, Zsu] at hc
        rw [Zsu]
        by_cases h : i = n
        ·subst h
         have : cov [(a, i)] i = true := by
          have := ha.1
          simp only [cov, List.any_cons, List.any_nil, Bool.or_false, Bool.and_eq_true, decide_eq_true_eq]; dsimp only at this; omega
         rw [this]; simp [hp]
        ·rw [show decide (i < n + 1) = decide (i < n) by rw [Bool.eq_iff_iff]; simp; omega, <- hc]
         congr 1
         simp only [cov, List.any_cons, List.any_nil, Bool.or_false]
         rw [show decide (i <= n) = decide (i <= n - 1) by rw [Bool.eq_iff_iff]; simp; omega]
def cntN (p : Nat -> Bool) : Nat -> Nat
 | 0 => 0
 | n + 1 => cntN p n + (if p n && !(decide (0 < n) && p (n - 1)) then 1 else 0)
theorem Zlx : ∀ (l : List (Nat × Nat)) (n : Nat), (bump l n).length = l.length
 | [], _ => rfl
 | [_], _ => rfl
 | _ :: y :: l, n => by simp [bump, Zlx (y :: l) n]
theorem Zly (p : Nat -> Bool) : ∀ n, (rgN p n).length = cntN p n
 | 0 => rfl
 | n + 1 => by
   unfold rgN cntN
   rw [<- Zly p n]
   cases hp : p n
   ·simp
   ·cases hq : decide (0 < n) && p (n - 1)
    ·simp
    ·simp [Zlx]
def rt (q : Nat × Nat) : List UInt8 := bt q.1 ++ (if q.1 < q.2 then 45 :: bt q.2 else [])
def setT (l : List (Nat × Nat)) : List UInt8 := 91 :: (l.flatMap rt ++ [93])
def Zwd (p : Nat -> Bool) (l : List (Nat × Nat)) : Nat -> Bool := l.foldl (fun p q => orP p (rng q.1 q.2)) p
theorem Zq6 : ∀ (l : List (Nat × Nat)) (p : Nat -> Bool) (i : Nat), Zwd p l i = (p i || cov l i)
 | [], p, i => by simp [Zwd, cov]
 | q :: l, p, i => by
   have := Zq6 l (orP p (rng q.1 q.2)) i
   show Zwd (orP p (rng q.1 q.2)) l i = _
   rw [this]
   simp only [orP, rng, cov, List.any_cons, Bool.or_assoc]
   rw [show decide (q.1 <= i /\ i <= q.2) = (decide (q.1 <= i) && decide (i <= q.2)) by simp]
theorem Z6y {q : Nat × Nat} (h : q.1 < 256) (w : List UInt8) : ∃ c t, rt q ++ w = c :: t /\ c.toNat ≠ 94 /\ c.toNat ≠ 93 /\ c.toNat ≠ 45 := by
 obtain ⟨c, t, e, h1⟩ := Z7u h
 exact ⟨c, t ++ (if q.1 < q.2 then 45 :: bt q.2 else []) ++ w, by rw [rt, e]; simp, h1⟩
theorem Zze : ∀ (l : List (Nat × Nat)) (q : Nat × Nat) (p : Nat -> Bool) (w : List UInt8), (∀ x ∈ q :: l, x.1 <= x.2 /\ x.2 < 256) ->
 setL (l.length + 1) false p ((q :: l).flatMap rt ++ 93 :: w) = some (.ok (setX (Zwd p (q :: l))) w)
 | l, q, p, w, h => by
   obtain ⟨hq1, hq2⟩ := h q (by simp)
   have key : ∀ t, (∀ c t', t = c :: t' -> c.toNat ≠ 45) -> Zcb 0 (rt q ++ t) = .ok q.1 ((if q.1 < q.2 then 45 :: bt q.2 else []) ++ t) /\ hiR q.1 ((if q.1 < q.2 then 45 :: bt q.2 else []) ++ t) = .ok q.2 t := fun t ht => by
    refine ⟨by rw [rt, List.append_assoc]; exact Zur (by omega) (Nat.zero_le _) _, ?_⟩
    unfold hiR
    by_cases hlt : q.1 < q.2
    ·rw [if_pos hlt, if_pos (by rfl)]
     exact Zur hq2 hq1 t
    ·rw [if_neg hlt, List.nil_append, if_neg]
     ·rw [show q.1 = q.2 by omega]
     ·cases t with
      | nil => decide
      | cons c t' => exact ht c t' rfl
   unfold setL
   rw [List.flatMap_cons, List.append_assoc]
   cases l with
   | nil =>
     obtain ⟨e1, e2⟩ := key ([].flatMap rt ++ 93 :: w) (fun c t' e => by cases e; decide)
     rw [e1]
     dsimp only
     rw [e2]
     dsimp only
     rw [if_pos (by rfl)]
     rfl
   | cons q2 l =>
     have h2 := h q2 (by simp)
     obtain ⟨c, t, ec, h94, h93, h45⟩ := Z6y (q := q2) (by omega) (l.flatMap rt ++ 93 :: w)
     have et : (q2 :: l).flatMap rt ++ 93 :: w = c :: t := by rw [List.flatMap_cons, List.append_assoc]; exact ec
     obtain ⟨e1, e2⟩ := key ((q2 :: l).flatMap rt ++ 93 :: w) (fun c' t' e => by rw [et] at e; cases e; exact h45)
     rw [e1]
     dsimp only
     rw [e2]
     dsimp only
     rw [if_neg (by rw [et]; exact h93)]
     exact Zze l q2 _ w fun x hx => h x (List.mem_cons_of_mem _ hx)
theorem Z1l {l : List (Nat × Nat)} (hl : ∀ x ∈ l, x.1 <= x.2 /\ x.2 < 256) (w : List UInt8) : ∃ k, atom k (setT l ++ w) = some (.ok (if l = [] then mk0 0 [] else setX (Zwd no l)) w) := by
 have e0 : setT l ++ w = 91 :: (l.flatMap rt ++ 93 :: w) := by simp [setT]
 rw [e0]
 refine ⟨l.length + 1, ?_⟩
 unfold atom
 rw [if_neg (by rw [Z43]; decide), if_pos (by rfl)]
 show setR l.length (l.flatMap rt ++ 93 :: w) = _
 unfold setR
 cases l with
 | nil => rw [if_neg (by show ¬ (93 : Nat) = 94; decide), if_pos (by rfl)]; rfl
 | cons q l =>
   have h2 := hl q (by simp)
   obtain ⟨c, t, ec, h94, h93, h45⟩ := Z6y (q := q) (by omega) (l.flatMap rt ++ 93 :: w)
   have et : (q :: l).flatMap rt ++ 93 :: w = c :: t := by rw [List.flatMap_cons, List.append_assoc]; exact ec
   rw [if_neg (by rw [et]; exact h94), if_neg (by rw [et]; exact h93), if_neg (by simp)]
   exact Zze l q no w hl
theorem Z1m {a b c d : Int} (h : ∀ i < 4, 0 <= (Rx.mk 2 a b c d []).w i /\ (Rx.mk 2 a b c d []).w i < 2 ^ 64) {p : Nat -> Bool} (hp : ∀ i < 256, p i = hasX (Rx.mk 2 a b c d []) i) : setX p = .mk 2 a b c d [] := by
 have h1 := Zi9 hp
 rw [<- Zge _ h] at h1
 unfold row4 at h1
 simp only [List.cons.injEq, D.lit.injEq, Value.int.injEq, true_and, and_true, Rx.w] at h1
 unfold setX
 rw [h1.1, h1.2.1, h1.2.2.1, h1.2.2.2]
end Go.Rx
end
