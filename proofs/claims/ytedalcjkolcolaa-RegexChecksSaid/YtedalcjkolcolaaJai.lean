/- Part 9 of the proof: RxB, Wsets, RxSet, RxByte, RxCls, RxIdx, Wchk, RxChk, RxSize, RxNull, RxSpec. -/
import Derived.Test.YtedalcjkolcolaaProg
import Derived.Laws.Externs
import Derived.Test.YtedalcjkolcolaaJah
section
open Go Go.Ab Go.Rf
set_option linter.unusedSimpArgs false
namespace Go.Rx
inductive Rx where
  | mk (kind s0 s1 s2 s3 : Int) (subs : List Rx)
mutual
def enc : Rx → List D
  | .mk k a b c d l => [.lit (.int .i64 k), .lit (.int .u64 a), .lit (.int .u64 b), .lit (.int .u64 c), .lit (.int .u64 d), .slc (encs l)]
def encs : List Rx → List (List D)
  | [] => []
  | r :: l => enc r :: encs l
end
mutual
def size : Rx → Nat
  | .mk _ _ _ _ _ l => 1 + sizes l
def sizes : List Rx → Nat
  | [] => 0
  | r :: l => size r + sizes l
end
def Rx.kind : Rx → Int | .mk k _ _ _ _ _ => k
def Rx.subs : Rx → List Rx | .mk _ _ _ _ _ l => l
def Rx.w (r : Rx) (i : Nat) : Int := match r, i with | .mk _ a _ _ _ _, 0 => a | .mk _ _ b _ _ _, 1 => b | .mk _ _ _ c _ _, 2 => c | .mk _ _ _ _ d _, _ => d
@[simp] theorem encs_length : ∀ l, (encs l).length = l.length
  | [] => rfl
  | r :: l => by simp [encs, encs_length l]
@[simp] theorem encs_get : ∀ (l : List Rx) (i : Nat), (encs l)[i]? = (l[i]?).map enc
  | [], i => by simp [encs]
  | r :: l, 0 => by simp [encs]
  | r :: l, i + 1 => by simp [encs, encs_get l i]
@[simp] theorem encs_append : ∀ (l m : List Rx), encs l ++ encs m = encs (l ++ m)
  | [], m => rfl
  | r :: l, m => by simp [encs, encs_append l m]
@[simp] theorem encs_nil : ([] : List (List D)) = encs [] := rfl
@[simp] theorem enc_length (r : Rx) : (enc r).length = 6 := by cases r; simp [enc]
@[simp] theorem enc0 (r : Rx) : (enc r).getD 0 D0 = .lit (.int .i64 r.kind) := by cases r; simp [enc, Rx.kind]
@[simp] theorem enc1 (r : Rx) : (enc r).getD 1 D0 = .lit (.int .u64 (r.w 0)) := by cases r; simp [enc, Rx.w]
@[simp] theorem enc2 (r : Rx) : (enc r).getD 2 D0 = .lit (.int .u64 (r.w 1)) := by cases r; simp [enc, Rx.w]
@[simp] theorem enc3 (r : Rx) : (enc r).getD 3 D0 = .lit (.int .u64 (r.w 2)) := by cases r; simp [enc, Rx.w]
@[simp] theorem enc4 (r : Rx) : (enc r).getD 4 D0 = .lit (.int .u64 (r.w 3)) := by cases r; simp [enc, Rx.w]
@[simp] theorem enc5 (r : Rx) : (enc r).getD 5 D0 = .slc (encs r.subs) := by cases r; simp [enc, Rx.subs]
@[simp] theorem enc0' (r : Rx) (h : 0 < (enc r).length) : (enc r)[0] = .lit (.int .i64 r.kind) := by cases r; simp [enc, Rx.kind, Rx.w, Rx.subs]
@[simp] theorem enc1' (r : Rx) (h : 1 < (enc r).length) : (enc r)[1] = .lit (.int .u64 (r.w 0)) := by cases r; simp [enc, Rx.kind, Rx.w, Rx.subs]
@[simp] theorem enc2' (r : Rx) (h : 2 < (enc r).length) : (enc r)[2] = .lit (.int .u64 (r.w 1)) := by cases r; simp [enc, Rx.kind, Rx.w, Rx.subs]
@[simp] theorem enc3' (r : Rx) (h : 3 < (enc r).length) : (enc r)[3] = .lit (.int .u64 (r.w 2)) := by cases r; simp [enc, Rx.kind, Rx.w, Rx.subs]
@[simp] theorem enc4' (r : Rx) (h : 4 < (enc r).length) : (enc r)[4] = .lit (.int .u64 (r.w 3)) := by cases r; simp [enc, Rx.kind, Rx.w, Rx.subs]
@[simp] theorem enc5' (r : Rx) (h : 5 < (enc r).length) : (enc r)[5] = .slc (encs r.subs) := by cases r; simp [enc, Rx.kind, Rx.w, Rx.subs]
theorem gAt_encs {l : List Rx} {i : Nat} {x : Int} (hx : x = i) (h : i < l.length) : gAt (encs l) x = enc l[i] := by
  subst hx
  have h2 := encs_get l i
  rw [List.getElem?_eq_getElem h] at h2
  simp only [gAt, List.getD, Int.toNat_natCast, h2]
  rfl
@[simp] theorem isK_int (k : IntKind) (n : Int) : Rf.isK (.int k) (.lit (.int k n)) = true := by simp [Rf.isK]
@[simp] theorem isK_bool (b : Bool) : Rf.isK .bool (.lit (.bool b)) = true := rfl
@[simp] theorem isK_slc (l : List (List D)) : Rf.isK .slc (.slc l) = true := rfl
@[simp] theorem dint_int (k : IntKind) (n : Int) : Rf.dint (.lit (.int k n)) = n := rfl
@[simp] theorem dbool_bool (b : Bool) : Rf.dbool (.lit (.bool b)) = b := rfl
@[simp] theorem dlst_slc (l : List (List D)) : Rf.dlst (.slc l) = l := rfl
def Ret (v : A) : Out → List (Ref × List A) → Prop := fun o H => o = .ret v ∧ H = []
@[simp] theorem ret_iff {v u : A} {H : List (Ref × List A)} : Ret v (.ret u) H ↔ u = v ∧ H = [] := by simp [Ret]
@[simp] theorem pan_iff {v : A} {u : Value} {H : List (Ref × List A)} : Ret v (.pan u) H ↔ False := by simp [Ret]
theorem call1 {P : Program} {f : Nat} {args : List A} {v : A} (hc : Holds P f args [] (Ret v)) {Q1 : A → List (Ref × List A) → Prop} {Q2 : Value → List (Ref × List A) → Prop} (h : Q1 v []) :
    ∀ _ : Nat → Nat, ∃ R' : Out → List (Ref × List A) → Prop, Holds P f args [] R' ∧ (∀ v H', R' (.ret v) H' → Q1 v H') ∧ (∀ u H', R' (.pan u) H' → Q2 u H') :=
  fun _ => ⟨_, hc, fun v' H' e => by obtain ⟨e1, rfl⟩ := e; cases e1; exact h, fun u H' e => by cases e.1⟩
theorem sizes_take : ∀ (l : List Rx) (k : Nat) (h : k < l.length), sizes (l.take (k+1)) = sizes (l.take k) + size l[k]
  | r :: l, 0, _ => by simp [sizes]
  | r :: l, k + 1, h => by
    have := sizes_take l k (by simpa using h)
    simp [sizes, this]; omega
theorem sizes_le : ∀ (l : List Rx) (k : Nat), sizes (l.take k) ≤ sizes l
  | [], k => by simp [sizes]
  | r :: l, 0 => by simp [sizes]
  | r :: l, k + 1 => by have := sizes_le l k; simp [sizes]; omega
theorem size_pos (r : Rx) : 1 ≤ size r := by cases r; simp [size]
theorem sizes_ge : ∀ (l : List Rx), l.length ≤ sizes l
  | [] => by simp [sizes]
  | r :: l => by have := sizes_ge l; have := size_pos r; simp [sizes]; omega
theorem size_eq (r : Rx) : size r = 1 + sizes r.subs := by cases r; rfl
theorem size_sub {r : Rx} {i : Nat} (h : i < r.subs.length) : size r.subs[i] < size r := by
  have h1 := sizes_take r.subs i h
  have h2 := sizes_le r.subs (i + 1)
  have h3 := size_eq r
  omega
mutual
def lens (B : Nat) : Rx → Prop
  | .mk _ _ _ _ _ l => l.length ≤ B ∧ lenss B l
def lenss (B : Nat) : List Rx → Prop
  | [] => True
  | r :: l => lens B r ∧ lenss B l
end
theorem lenss_iff {B : Nat} : ∀ {l : List Rx}, lenss B l ↔ ∀ r ∈ l, lens B r
  | [] => by simp [lenss]
  | r :: l => by simp [lenss, lenss_iff (l := l)]
theorem lens_iff {B : Nat} {r : Rx} : lens B r ↔ r.subs.length ≤ B ∧ ∀ x ∈ r.subs, lens B x := by
  cases r with | mk k a b c d l => simp [lens, Rx.subs, lenss_iff]
theorem lens_sub {B : Nat} {r : Rx} (h : lens B r) {i : Nat} (hi : i < r.subs.length) : lens B r.subs[i] := (lens_iff.1 h).2 _ (List.getElem_mem hi)
theorem lens_mono {B C : Nat} (h : B ≤ C) : ∀ (n : Nat) (r : Rx), size r ≤ n → lens B r → lens C r
  | 0, r, hs, _ => by have := size_pos r; omega
  | n + 1, r, hs, hr => by
    rw [lens_iff] at hr ⊢
    refine ⟨Nat.le_trans hr.1 h, fun x hx => ?_⟩
    obtain ⟨i, hi, rfl⟩ := List.mem_iff_getElem.1 hx
    exact lens_mono h n _ (by have := size_sub hi; omega) (hr.2 _ hx)
theorem lens_size {B : Nat} : ∀ (n : Nat) (r : Rx), size r ≤ n → n ≤ B → lens B r
  | 0, r, hs, _ => by have := size_pos r; omega
  | n + 1, r, hs, hB => by
    rw [lens_iff]
    refine ⟨?_, fun x hx => ?_⟩
    · have := size_eq r; have := sizes_ge r.subs; omega
    · obtain ⟨i, hi, rfl⟩ := List.mem_iff_getElem.1 hx
      exact lens_size n _ (by have := size_sub hi; omega) (by omega)
end Go.Rx
end
section
open Go Go.Proofs Go.Ab Go.Rf
set_option maxRecDepth 1000000
set_option maxHeartbeats 2000000
set_option linter.unusedVariables false
namespace Go.Rx
theorem w83 {R : Out → List (Ref × List A) → Prop} (x0 : List UInt8) (x1 : Int) (h : ∀ _ : Nat → Nat, ∃ R' : Out → List (Ref × List A) → Prop, Holds Try.prog 94 [(A.d (D.lit (bytesV x0))), (A.d (D.lit (.int .u8 x1)))] [] R' ∧
  (∀ v H', R' (.ret v) H' → ∃ x2 : Int, v = (A.d (D.lit (.int .i64 x2))) ∧ H' = [] ∧
   R (.ret (A.d (D.lit (.int .i64 x2)))) []) ∧
  (∀ x2v H', R' (.pan x2v) H' → H' = [] ∧
   R (.pan x2v) [])) :
    Holds Try.prog 83 [(A.d (D.lit (bytesV x0))), (A.d (D.lit (.int .u8 x1)))] [] R :=
  walk (c := ⟨Try.prog, 8, true, [0, 1, 4]⟩) (op := {  }) (fn := Try.f83) (args := [.c (.o1 .cs (.var 0)), .c (.o1 (.ci .u8) (.var 1))]) (K := []) (nv := 2) (depth := 4) (up := upOf []) (ρ := envOf [.s x0, .i x1])
    rfl rfl rfl rfl rfl (by decide) (by decide) (by decide) (by decide) rfl (by simp [bxDen, RRef.den, upOf]) (T_of (by kernel_rfl) h)
theorem w94 {R : Out → List (Ref × List A) → Prop} (x0 : List UInt8) (x1 : Int) (h : ∀ _ : Nat → Nat, ∃ R' : Out → List (Ref × List A) → Prop, Holds Try.prog 102 [(A.d (D.lit (bytesV x0))), (A.d (D.lit (.int .u8 x1)))] [] R' ∧
  (∀ v H', R' (.ret v) H' → ∃ x2 : Int, v = (A.d (D.lit (.int .i64 x2))) ∧ H' = [] ∧
   R (.ret (A.d (D.lit (.int .i64 x2)))) []) ∧
  (∀ x2v H', R' (.pan x2v) H' → H' = [] ∧
   R (.pan x2v) [])) :
    Holds Try.prog 94 [(A.d (D.lit (bytesV x0))), (A.d (D.lit (.int .u8 x1)))] [] R :=
  walk (c := ⟨Try.prog, 8, true, [0, 1, 4]⟩) (op := {  }) (fn := Try.f94) (args := [.c (.o1 .cs (.var 0)), .c (.o1 (.ci .u8) (.var 1))]) (K := []) (nv := 2) (depth := 4) (up := upOf []) (ρ := envOf [.s x0, .i x1])
    rfl rfl rfl rfl rfl (by decide) (by decide) (by decide) (by decide) rfl (by simp [bxDen, RRef.den, upOf]) (T_of (by kernel_rfl) h)
theorem w55 {R : Out → List (Ref × List A) → Prop} (x0 : List D) (x1 : Int) (h : (tB ((x0.length : Int) == (4 : Int))) = true ∧
  (tB (decide ((0 : Int) ≤ (IntKind.wrap .u8 (x1.tdiv (64 : Int)))))) = true ∧
  (tB (decide ((IntKind.wrap .u8 (x1.tdiv (64 : Int))) < (4 : Int)))) = true ∧
  ((tB ((IntKind.wrap .u8 (x1.tdiv (64 : Int))) == (0 : Int))) = true →
   (Rf.isK (.int .u64) (x0.getD 0 D0)) = true ∧
   (tB (decide ((0 : Int) ≤ (x1.tmod (64 : Int))))) = true ∧
   R (.ret (A.d (D.lit (.bool (tB ((gAnd .u64 (gShr .u64 (Rf.dint (x0.getD 0 D0)) (x1.tmod (64 : Int))) (1 : Int)) == (1 : Int))))))) []) ∧
  ((tB ((IntKind.wrap .u8 (x1.tdiv (64 : Int))) == (0 : Int))) = false →
   ((tB ((IntKind.wrap .u8 (x1.tdiv (64 : Int))) == (1 : Int))) = true →
    (Rf.isK (.int .u64) (x0.getD 1 D0)) = true ∧
    (tB (decide ((0 : Int) ≤ (x1.tmod (64 : Int))))) = true ∧
    R (.ret (A.d (D.lit (.bool (tB ((gAnd .u64 (gShr .u64 (Rf.dint (x0.getD 1 D0)) (x1.tmod (64 : Int))) (1 : Int)) == (1 : Int))))))) []) ∧
   ((tB ((IntKind.wrap .u8 (x1.tdiv (64 : Int))) == (1 : Int))) = false →
    ((tB ((IntKind.wrap .u8 (x1.tdiv (64 : Int))) == (2 : Int))) = true →
     (Rf.isK (.int .u64) (x0.getD 2 D0)) = true ∧
     (tB (decide ((0 : Int) ≤ (x1.tmod (64 : Int))))) = true ∧
     R (.ret (A.d (D.lit (.bool (tB ((gAnd .u64 (gShr .u64 (Rf.dint (x0.getD 2 D0)) (x1.tmod (64 : Int))) (1 : Int)) == (1 : Int))))))) []) ∧
    ((tB ((IntKind.wrap .u8 (x1.tdiv (64 : Int))) == (2 : Int))) = false →
     (tB ((IntKind.wrap .u8 (x1.tdiv (64 : Int))) == (3 : Int))) = true ∧
     (Rf.isK (.int .u64) (x0.getD 3 D0)) = true ∧
     (tB (decide ((0 : Int) ≤ (x1.tmod (64 : Int))))) = true ∧
     R (.ret (A.d (D.lit (.bool (tB ((gAnd .u64 (gShr .u64 (Rf.dint (x0.getD 3 D0)) (x1.tmod (64 : Int))) (1 : Int)) == (1 : Int))))))) [])))) :
    Holds Try.prog 55 [(A.agg x0), (A.d (D.lit (.int .u8 x1)))] [] R :=
  walk (c := ⟨Try.prog, 14, true, [0, 1, 2, 4]⟩) (op := {  }) (fn := Try.f55) (args := [.agg (.var 0), .c (.o1 (.ci .u8) (.var 1))]) (K := []) (nv := 2) (depth := 4) (up := upOf []) (ρ := envOf [.r x0, .i x1])
    rfl rfl rfl rfl rfl (by decide) (by decide) (by decide) (by decide) rfl (by simp [bxDen, RRef.den, upOf]) (T_of (by kernel_rfl) h)
theorem w63 {R : Out → List (Ref × List A) → Prop} (x0 : List D) (x1 : Int) (h : (tB ((x0.length : Int) == (4 : Int))) = true ∧
  (tB (decide ((0 : Int) ≤ (IntKind.wrap .u8 (x1.tdiv (64 : Int)))))) = true ∧
  (tB (decide ((IntKind.wrap .u8 (x1.tdiv (64 : Int))) < (4 : Int)))) = true ∧
  ((tB ((IntKind.wrap .u8 (x1.tdiv (64 : Int))) == (0 : Int))) = true →
   (Rf.isK (.int .u64) (x0.getD 0 D0)) = true ∧
   (tB (decide ((0 : Int) ≤ (x1.tmod (64 : Int))))) = true ∧
   R (.ret (A.d (D.lit (.bool (tB ((gAnd .u64 (gShr .u64 (Rf.dint (x0.getD 0 D0)) (x1.tmod (64 : Int))) (1 : Int)) == (1 : Int))))))) []) ∧
  ((tB ((IntKind.wrap .u8 (x1.tdiv (64 : Int))) == (0 : Int))) = false →
   ((tB ((IntKind.wrap .u8 (x1.tdiv (64 : Int))) == (1 : Int))) = true →
    (Rf.isK (.int .u64) (x0.getD 1 D0)) = true ∧
    (tB (decide ((0 : Int) ≤ (x1.tmod (64 : Int))))) = true ∧
    R (.ret (A.d (D.lit (.bool (tB ((gAnd .u64 (gShr .u64 (Rf.dint (x0.getD 1 D0)) (x1.tmod (64 : Int))) (1 : Int)) == (1 : Int))))))) []) ∧
   ((tB ((IntKind.wrap .u8 (x1.tdiv (64 : Int))) == (1 : Int))) = false →
    ((tB ((IntKind.wrap .u8 (x1.tdiv (64 : Int))) == (2 : Int))) = true →
     (Rf.isK (.int .u64) (x0.getD 2 D0)) = true ∧
     (tB (decide ((0 : Int) ≤ (x1.tmod (64 : Int))))) = true ∧
     R (.ret (A.d (D.lit (.bool (tB ((gAnd .u64 (gShr .u64 (Rf.dint (x0.getD 2 D0)) (x1.tmod (64 : Int))) (1 : Int)) == (1 : Int))))))) []) ∧
    ((tB ((IntKind.wrap .u8 (x1.tdiv (64 : Int))) == (2 : Int))) = false →
     (tB ((IntKind.wrap .u8 (x1.tdiv (64 : Int))) == (3 : Int))) = true ∧
     (Rf.isK (.int .u64) (x0.getD 3 D0)) = true ∧
     (tB (decide ((0 : Int) ≤ (x1.tmod (64 : Int))))) = true ∧
     R (.ret (A.d (D.lit (.bool (tB ((gAnd .u64 (gShr .u64 (Rf.dint (x0.getD 3 D0)) (x1.tmod (64 : Int))) (1 : Int)) == (1 : Int))))))) [])))) :
    Holds Try.prog 63 [(A.agg x0), (A.d (D.lit (.int .u8 x1)))] [] R :=
  walk (c := ⟨Try.prog, 14, true, [0, 1, 2, 4]⟩) (op := {  }) (fn := Try.f63) (args := [.agg (.var 0), .c (.o1 (.ci .u8) (.var 1))]) (K := []) (nv := 2) (depth := 4) (up := upOf []) (ρ := envOf [.r x0, .i x1])
    rfl rfl rfl rfl rfl (by decide) (by decide) (by decide) (by decide) rfl (by simp [bxDen, RRef.den, upOf]) (T_of (by kernel_rfl) h)
theorem w79 {R : Out → List (Ref × List A) → Prop} (x0 : Int) (x1 : Int) (h : ∃ (I0_0 : Int → Int → Int → Int → Int → Prop) (M0_0 : Int → Int → Int → Int → Int → Nat), I0_0 (0 : Int) (0 : Int) (0 : Int) (0 : Int) (0 : Int) ∧
  (∀ (x2 : Int) (x3 : Int) (x4 : Int) (x5 : Int) (x6 : Int) , I0_0 x2 x3 x4 x5 x6 →
   ((tB (decide (x2 < (256 : Int)))) = true →
    (tB (decide ((-9223372036854775808 : Int) ≤ x0))) = true ∧
    (tB (decide (x0 ≤ (9223372036854775807 : Int)))) = true ∧
    ((!(tB (decide (x0 ≤ x2)))) || (tB (decide ((-9223372036854775808 : Int) ≤ x1)))) = true ∧
    ((!(tB (decide (x0 ≤ x2)))) || (tB (decide (x1 ≤ (9223372036854775807 : Int))))) = true ∧
    (((tB (decide (x0 ≤ x2))) && (tB (decide (x2 ≤ x1)))) = true →
     (tB (decide ((-9223372036854775808 : Int) ≤ (x2.tdiv (64 : Int))))) = true ∧
     (tB (decide ((x2.tdiv (64 : Int)) ≤ (9223372036854775807 : Int)))) = true ∧
     (tB (decide ((0 : Int) ≤ (x2.tdiv (64 : Int))))) = true ∧
     (tB (decide ((x2.tdiv (64 : Int)) < (4 : Int)))) = true ∧
     ((tB ((x2.tdiv (64 : Int)) == (0 : Int))) = true →
      (tB (decide ((0 : Int) ≤ (x2.tmod (64 : Int))))) = true ∧
      (tB (decide ((-9223372036854775808 : Int) ≤ (x2 + (1 : Int))))) = true ∧
      (tB (decide ((x2 + (1 : Int)) ≤ (9223372036854775807 : Int)))) = true ∧
      I0_0 (x2 + (1 : Int)) (gOr .u64 x3 (gShl .u64 (1 : Int) (x2.tmod (64 : Int)))) x4 x5 x6 ∧ M0_0 (x2 + (1 : Int)) (gOr .u64 x3 (gShl .u64 (1 : Int) (x2.tmod (64 : Int)))) x4 x5 x6 < M0_0 x2 x3 x4 x5 x6) ∧
     ((tB ((x2.tdiv (64 : Int)) == (0 : Int))) = false →
      ((tB ((x2.tdiv (64 : Int)) == (1 : Int))) = true →
       (tB (decide ((0 : Int) ≤ (x2.tmod (64 : Int))))) = true ∧
       (tB (decide ((-9223372036854775808 : Int) ≤ (x2 + (1 : Int))))) = true ∧
       (tB (decide ((x2 + (1 : Int)) ≤ (9223372036854775807 : Int)))) = true ∧
       I0_0 (x2 + (1 : Int)) x3 (gOr .u64 x4 (gShl .u64 (1 : Int) (x2.tmod (64 : Int)))) x5 x6 ∧ M0_0 (x2 + (1 : Int)) x3 (gOr .u64 x4 (gShl .u64 (1 : Int) (x2.tmod (64 : Int)))) x5 x6 < M0_0 x2 x3 x4 x5 x6) ∧
      ((tB ((x2.tdiv (64 : Int)) == (1 : Int))) = false →
       ((tB ((x2.tdiv (64 : Int)) == (2 : Int))) = true →
        (tB (decide ((0 : Int) ≤ (x2.tmod (64 : Int))))) = true ∧
        (tB (decide ((-9223372036854775808 : Int) ≤ (x2 + (1 : Int))))) = true ∧
        (tB (decide ((x2 + (1 : Int)) ≤ (9223372036854775807 : Int)))) = true ∧
        I0_0 (x2 + (1 : Int)) x3 x4 (gOr .u64 x5 (gShl .u64 (1 : Int) (x2.tmod (64 : Int)))) x6 ∧ M0_0 (x2 + (1 : Int)) x3 x4 (gOr .u64 x5 (gShl .u64 (1 : Int) (x2.tmod (64 : Int)))) x6 < M0_0 x2 x3 x4 x5 x6) ∧
       ((tB ((x2.tdiv (64 : Int)) == (2 : Int))) = false →
        (tB ((x2.tdiv (64 : Int)) == (3 : Int))) = true ∧
        (tB (decide ((0 : Int) ≤ (x2.tmod (64 : Int))))) = true ∧
        (tB (decide ((-9223372036854775808 : Int) ≤ (x2 + (1 : Int))))) = true ∧
        (tB (decide ((x2 + (1 : Int)) ≤ (9223372036854775807 : Int)))) = true ∧
        I0_0 (x2 + (1 : Int)) x3 x4 x5 (gOr .u64 x6 (gShl .u64 (1 : Int) (x2.tmod (64 : Int)))) ∧ M0_0 (x2 + (1 : Int)) x3 x4 x5 (gOr .u64 x6 (gShl .u64 (1 : Int) (x2.tmod (64 : Int)))) < M0_0 x2 x3 x4 x5 x6)))) ∧
    (((tB (decide (x0 ≤ x2))) && (tB (decide (x2 ≤ x1)))) = false →
     (tB (decide ((-9223372036854775808 : Int) ≤ (x2 + (1 : Int))))) = true ∧
     (tB (decide ((x2 + (1 : Int)) ≤ (9223372036854775807 : Int)))) = true ∧
     I0_0 (x2 + (1 : Int)) x3 x4 x5 x6 ∧ M0_0 (x2 + (1 : Int)) x3 x4 x5 x6 < M0_0 x2 x3 x4 x5 x6)) ∧
   ((tB (decide (x2 < (256 : Int)))) = false →
    R (.ret (A.agg ((D.lit (.int .u64 x3)) :: ((D.lit (.int .u64 x4)) :: ((D.lit (.int .u64 x5)) :: ((D.lit (.int .u64 x6)) :: ([] : List D))))))) [])) ∧
  True) :
    Holds Try.prog 79 [(A.d (D.lit (.int .u8 x0))), (A.d (D.lit (.int .u8 x1)))] [] R :=
  walk (c := ⟨Try.prog, 31, true, [0, 1, 4, 5, 6, 7, 8, 19]⟩) (op := {  }) (fn := Try.f79) (args := [.c (.o1 (.ci .u8) (.var 0)), .c (.o1 (.ci .u8) (.var 1))]) (K := []) (nv := 2) (depth := 5) (up := upOf []) (ρ := envOf [.i x0, .i x1])
    rfl rfl rfl rfl rfl (by decide) (by decide) (by decide) (by decide) rfl (by simp [bxDen, RRef.den, upOf]) (T_of (by kernel_rfl) h)
theorem w85 {R : Out → List (Ref × List A) → Prop} (x0 : Int) (x1 : Int) (h : ∃ (I0_0 : Int → Int → Int → Int → Int → Prop) (M0_0 : Int → Int → Int → Int → Int → Nat), I0_0 x0 (0 : Int) (0 : Int) (0 : Int) (0 : Int) ∧
  (∀ (x2 : Int) (x3 : Int) (x4 : Int) (x5 : Int) (x6 : Int) , I0_0 x2 x3 x4 x5 x6 →
   ((tB (decide (x2 ≤ x1))) = true →
    (tB (decide ((-9223372036854775808 : Int) ≤ (x2.tdiv (64 : Int))))) = true ∧
    (tB (decide ((x2.tdiv (64 : Int)) ≤ (9223372036854775807 : Int)))) = true ∧
    (tB (decide ((0 : Int) ≤ (x2.tdiv (64 : Int))))) = true ∧
    (tB (decide ((x2.tdiv (64 : Int)) < (4 : Int)))) = true ∧
    ((tB ((x2.tdiv (64 : Int)) == (0 : Int))) = true →
     (tB (decide ((0 : Int) ≤ (x2.tmod (64 : Int))))) = true ∧
     (tB (decide ((-9223372036854775808 : Int) ≤ (x2 + (1 : Int))))) = true ∧
     (tB (decide ((x2 + (1 : Int)) ≤ (9223372036854775807 : Int)))) = true ∧
     I0_0 (x2 + (1 : Int)) (gOr .u64 x3 (gShl .u64 (1 : Int) (x2.tmod (64 : Int)))) x4 x5 x6 ∧ M0_0 (x2 + (1 : Int)) (gOr .u64 x3 (gShl .u64 (1 : Int) (x2.tmod (64 : Int)))) x4 x5 x6 < M0_0 x2 x3 x4 x5 x6) ∧
    ((tB ((x2.tdiv (64 : Int)) == (0 : Int))) = false →
     ((tB ((x2.tdiv (64 : Int)) == (1 : Int))) = true →
      (tB (decide ((0 : Int) ≤ (x2.tmod (64 : Int))))) = true ∧
      (tB (decide ((-9223372036854775808 : Int) ≤ (x2 + (1 : Int))))) = true ∧
      (tB (decide ((x2 + (1 : Int)) ≤ (9223372036854775807 : Int)))) = true ∧
      I0_0 (x2 + (1 : Int)) x3 (gOr .u64 x4 (gShl .u64 (1 : Int) (x2.tmod (64 : Int)))) x5 x6 ∧ M0_0 (x2 + (1 : Int)) x3 (gOr .u64 x4 (gShl .u64 (1 : Int) (x2.tmod (64 : Int)))) x5 x6 < M0_0 x2 x3 x4 x5 x6) ∧
     ((tB ((x2.tdiv (64 : Int)) == (1 : Int))) = false →
      ((tB ((x2.tdiv (64 : Int)) == (2 : Int))) = true →
       (tB (decide ((0 : Int) ≤ (x2.tmod (64 : Int))))) = true ∧
       (tB (decide ((-9223372036854775808 : Int) ≤ (x2 + (1 : Int))))) = true ∧
       (tB (decide ((x2 + (1 : Int)) ≤ (9223372036854775807 : Int)))) = true ∧
       I0_0 (x2 + (1 : Int)) x3 x4 (gOr .u64 x5 (gShl .u64 (1 : Int) (x2.tmod (64 : Int)))) x6 ∧ M0_0 (x2 + (1 : Int)) x3 x4 (gOr .u64 x5 (gShl .u64 (1 : Int) (x2.tmod (64 : Int)))) x6 < M0_0 x2 x3 x4 x5 x6) ∧
      ((tB ((x2.tdiv (64 : Int)) == (2 : Int))) = false →
       (tB ((x2.tdiv (64 : Int)) == (3 : Int))) = true ∧
       (tB (decide ((0 : Int) ≤ (x2.tmod (64 : Int))))) = true ∧
       (tB (decide ((-9223372036854775808 : Int) ≤ (x2 + (1 : Int))))) = true ∧
       (tB (decide ((x2 + (1 : Int)) ≤ (9223372036854775807 : Int)))) = true ∧
       I0_0 (x2 + (1 : Int)) x3 x4 x5 (gOr .u64 x6 (gShl .u64 (1 : Int) (x2.tmod (64 : Int)))) ∧ M0_0 (x2 + (1 : Int)) x3 x4 x5 (gOr .u64 x6 (gShl .u64 (1 : Int) (x2.tmod (64 : Int)))) < M0_0 x2 x3 x4 x5 x6)))) ∧
   ((tB (decide (x2 ≤ x1))) = false →
    R (.ret (A.agg ((D.lit (.int .u64 x3)) :: ((D.lit (.int .u64 x4)) :: ((D.lit (.int .u64 x5)) :: ((D.lit (.int .u64 x6)) :: ([] : List D))))))) [])) ∧
  True) :
    Holds Try.prog 85 [(A.d (D.lit (.int .i64 x0))), (A.d (D.lit (.int .i64 x1)))] [] R :=
  walk (c := ⟨Try.prog, 25, true, [0, 1, 4, 5, 6, 10]⟩) (op := {  }) (fn := Try.f85) (args := [.c (.o1 (.ci .i64) (.var 0)), .c (.o1 (.ci .i64) (.var 1))]) (K := []) (nv := 2) (depth := 5) (up := upOf []) (ρ := envOf [.i x0, .i x1])
    rfl rfl rfl rfl rfl (by decide) (by decide) (by decide) (by decide) rfl (by simp [bxDen, RRef.den, upOf]) (T_of (by kernel_rfl) h)
theorem w91 {R : Out → List (Ref × List A) → Prop} (x0 : List D) (x1 : List D) (h : (tB ((x0.length : Int) == (4 : Int))) = true ∧
  (tB ((x1.length : Int) == (4 : Int))) = true ∧
  ∃ (I0_0 : Int → D → D → D → D → Prop) (M0_0 : Int → D → D → D → D → Nat), I0_0 (0 : Int) (x0.getD 0 D0) (x0.getD 1 D0) (x0.getD 2 D0) (x0.getD 3 D0) ∧
  (∀ (x2 : Int) (x3 : D) (x4 : D) (x5 : D) (x6 : D) , I0_0 x2 x3 x4 x5 x6 →
   ((tB (decide (x2 < (4 : Int)))) = true →
    (tB (decide ((0 : Int) ≤ x2))) = true ∧
    ((tB (x2 == (0 : Int))) = true →
     (Rf.isK (.int .u64) x3) = true ∧
     (Rf.isK (.int .u64) (x1.getD 0 D0)) = true ∧
     (tB (decide ((-9223372036854775808 : Int) ≤ (x2 + (1 : Int))))) = true ∧
     (tB (decide ((x2 + (1 : Int)) ≤ (9223372036854775807 : Int)))) = true ∧
     I0_0 (x2 + (1 : Int)) (D.lit (.int .u64 (gOr .u64 (Rf.dint x3) (Rf.dint (x1.getD 0 D0))))) x4 x5 x6 ∧ M0_0 (x2 + (1 : Int)) (D.lit (.int .u64 (gOr .u64 (Rf.dint x3) (Rf.dint (x1.getD 0 D0))))) x4 x5 x6 < M0_0 x2 x3 x4 x5 x6) ∧
    ((tB (x2 == (0 : Int))) = false →
     ((tB (x2 == (1 : Int))) = true →
      (Rf.isK (.int .u64) x4) = true ∧
      (Rf.isK (.int .u64) (x1.getD 1 D0)) = true ∧
      (tB (decide ((-9223372036854775808 : Int) ≤ (x2 + (1 : Int))))) = true ∧
      (tB (decide ((x2 + (1 : Int)) ≤ (9223372036854775807 : Int)))) = true ∧
      I0_0 (x2 + (1 : Int)) x3 (D.lit (.int .u64 (gOr .u64 (Rf.dint x4) (Rf.dint (x1.getD 1 D0))))) x5 x6 ∧ M0_0 (x2 + (1 : Int)) x3 (D.lit (.int .u64 (gOr .u64 (Rf.dint x4) (Rf.dint (x1.getD 1 D0))))) x5 x6 < M0_0 x2 x3 x4 x5 x6) ∧
     ((tB (x2 == (1 : Int))) = false →
      ((tB (x2 == (2 : Int))) = true →
       (Rf.isK (.int .u64) x5) = true ∧
       (Rf.isK (.int .u64) (x1.getD 2 D0)) = true ∧
       (tB (decide ((-9223372036854775808 : Int) ≤ (x2 + (1 : Int))))) = true ∧
       (tB (decide ((x2 + (1 : Int)) ≤ (9223372036854775807 : Int)))) = true ∧
       I0_0 (x2 + (1 : Int)) x3 x4 (D.lit (.int .u64 (gOr .u64 (Rf.dint x5) (Rf.dint (x1.getD 2 D0))))) x6 ∧ M0_0 (x2 + (1 : Int)) x3 x4 (D.lit (.int .u64 (gOr .u64 (Rf.dint x5) (Rf.dint (x1.getD 2 D0))))) x6 < M0_0 x2 x3 x4 x5 x6) ∧
      ((tB (x2 == (2 : Int))) = false →
       (tB (x2 == (3 : Int))) = true ∧
       (Rf.isK (.int .u64) x6) = true ∧
       (Rf.isK (.int .u64) (x1.getD 3 D0)) = true ∧
       (tB (decide ((-9223372036854775808 : Int) ≤ (x2 + (1 : Int))))) = true ∧
       (tB (decide ((x2 + (1 : Int)) ≤ (9223372036854775807 : Int)))) = true ∧
       I0_0 (x2 + (1 : Int)) x3 x4 x5 (D.lit (.int .u64 (gOr .u64 (Rf.dint x6) (Rf.dint (x1.getD 3 D0))))) ∧ M0_0 (x2 + (1 : Int)) x3 x4 x5 (D.lit (.int .u64 (gOr .u64 (Rf.dint x6) (Rf.dint (x1.getD 3 D0))))) < M0_0 x2 x3 x4 x5 x6)))) ∧
   ((tB (decide (x2 < (4 : Int)))) = false →
    R (.ret (A.agg (x3 :: (x4 :: (x5 :: (x6 :: ([] : List D))))))) [])) ∧
  True) :
    Holds Try.prog 91 [(A.agg x0), (A.agg x1)] [] R :=
  walk (c := ⟨Try.prog, 19, true, [0, 1, 2, 3, 4, 5, 6, 7]⟩) (op := {  }) (fn := Try.f91) (args := [.agg (.var 0), .agg (.var 1)]) (K := []) (nv := 2) (depth := 5) (up := upOf []) (ρ := envOf [.r x0, .r x1])
    rfl rfl rfl rfl rfl (by decide) (by decide) (by decide) (by decide) rfl (by simp [bxDen, RRef.den, upOf]) (T_of (by kernel_rfl) h)
theorem w92 {R : Out → List (Ref × List A) → Prop} (x0 : List D) (h : (tB ((x0.length : Int) == (4 : Int))) = true ∧
  ∃ (I0_0 : Int → D → D → D → D → Prop) (M0_0 : Int → D → D → D → D → Nat), I0_0 (0 : Int) (x0.getD 0 D0) (x0.getD 1 D0) (x0.getD 2 D0) (x0.getD 3 D0) ∧
  (∀ (x1 : Int) (x2 : D) (x3 : D) (x4 : D) (x5 : D) , I0_0 x1 x2 x3 x4 x5 →
   ((tB (decide (x1 < (4 : Int)))) = true →
    (tB (decide ((0 : Int) ≤ x1))) = true ∧
    ((tB (x1 == (0 : Int))) = true →
     (Rf.isK (.int .u64) x2) = true ∧
     (tB (decide ((-9223372036854775808 : Int) ≤ (x1 + (1 : Int))))) = true ∧
     (tB (decide ((x1 + (1 : Int)) ≤ (9223372036854775807 : Int)))) = true ∧
     I0_0 (x1 + (1 : Int)) (D.lit (.int .u64 (gNot .u64 (Rf.dint x2)))) x3 x4 x5 ∧ M0_0 (x1 + (1 : Int)) (D.lit (.int .u64 (gNot .u64 (Rf.dint x2)))) x3 x4 x5 < M0_0 x1 x2 x3 x4 x5) ∧
    ((tB (x1 == (0 : Int))) = false →
     ((tB (x1 == (1 : Int))) = true →
      (Rf.isK (.int .u64) x3) = true ∧
      (tB (decide ((-9223372036854775808 : Int) ≤ (x1 + (1 : Int))))) = true ∧
      (tB (decide ((x1 + (1 : Int)) ≤ (9223372036854775807 : Int)))) = true ∧
      I0_0 (x1 + (1 : Int)) x2 (D.lit (.int .u64 (gNot .u64 (Rf.dint x3)))) x4 x5 ∧ M0_0 (x1 + (1 : Int)) x2 (D.lit (.int .u64 (gNot .u64 (Rf.dint x3)))) x4 x5 < M0_0 x1 x2 x3 x4 x5) ∧
     ((tB (x1 == (1 : Int))) = false →
      ((tB (x1 == (2 : Int))) = true →
       (Rf.isK (.int .u64) x4) = true ∧
       (tB (decide ((-9223372036854775808 : Int) ≤ (x1 + (1 : Int))))) = true ∧
       (tB (decide ((x1 + (1 : Int)) ≤ (9223372036854775807 : Int)))) = true ∧
       I0_0 (x1 + (1 : Int)) x2 x3 (D.lit (.int .u64 (gNot .u64 (Rf.dint x4)))) x5 ∧ M0_0 (x1 + (1 : Int)) x2 x3 (D.lit (.int .u64 (gNot .u64 (Rf.dint x4)))) x5 < M0_0 x1 x2 x3 x4 x5) ∧
      ((tB (x1 == (2 : Int))) = false →
       (tB (x1 == (3 : Int))) = true ∧
       (Rf.isK (.int .u64) x5) = true ∧
       (tB (decide ((-9223372036854775808 : Int) ≤ (x1 + (1 : Int))))) = true ∧
       (tB (decide ((x1 + (1 : Int)) ≤ (9223372036854775807 : Int)))) = true ∧
       I0_0 (x1 + (1 : Int)) x2 x3 x4 (D.lit (.int .u64 (gNot .u64 (Rf.dint x5)))) ∧ M0_0 (x1 + (1 : Int)) x2 x3 x4 (D.lit (.int .u64 (gNot .u64 (Rf.dint x5)))) < M0_0 x1 x2 x3 x4 x5)))) ∧
   ((tB (decide (x1 < (4 : Int)))) = false →
    R (.ret (A.agg (x2 :: (x3 :: (x4 :: (x5 :: ([] : List D))))))) [])) ∧
  True) :
    Holds Try.prog 92 [(A.agg x0)] [] R :=
  walk (c := ⟨Try.prog, 15, true, [0, 1, 2, 3, 4, 5]⟩) (op := {  }) (fn := Try.f92) (args := [.agg (.var 0)]) (K := []) (nv := 1) (depth := 4) (up := upOf []) (ρ := envOf [.r x0])
    rfl rfl rfl rfl rfl (by decide) (by decide) (by decide) (by decide) rfl (by simp [bxDen, RRef.den, upOf]) (T_of (by kernel_rfl) h)
theorem w99 {R : Out → List (Ref × List A) → Prop} (x0 : List D) (x1 : List D) (h : (tB ((x0.length : Int) == (4 : Int))) = true ∧
  (tB ((x1.length : Int) == (4 : Int))) = true ∧
  ∃ (I0_0 : Int → D → D → D → D → Prop) (M0_0 : Int → D → D → D → D → Nat), I0_0 (0 : Int) (x0.getD 0 D0) (x0.getD 1 D0) (x0.getD 2 D0) (x0.getD 3 D0) ∧
  (∀ (x2 : Int) (x3 : D) (x4 : D) (x5 : D) (x6 : D) , I0_0 x2 x3 x4 x5 x6 →
   ((tB (decide (x2 < (4 : Int)))) = true →
    (tB (decide ((0 : Int) ≤ x2))) = true ∧
    ((tB (x2 == (0 : Int))) = true →
     (Rf.isK (.int .u64) x3) = true ∧
     (Rf.isK (.int .u64) (x1.getD 0 D0)) = true ∧
     (tB (decide ((-9223372036854775808 : Int) ≤ (x2 + (1 : Int))))) = true ∧
     (tB (decide ((x2 + (1 : Int)) ≤ (9223372036854775807 : Int)))) = true ∧
     I0_0 (x2 + (1 : Int)) (D.lit (.int .u64 (gOr .u64 (Rf.dint x3) (Rf.dint (x1.getD 0 D0))))) x4 x5 x6 ∧ M0_0 (x2 + (1 : Int)) (D.lit (.int .u64 (gOr .u64 (Rf.dint x3) (Rf.dint (x1.getD 0 D0))))) x4 x5 x6 < M0_0 x2 x3 x4 x5 x6) ∧
    ((tB (x2 == (0 : Int))) = false →
     ((tB (x2 == (1 : Int))) = true →
      (Rf.isK (.int .u64) x4) = true ∧
      (Rf.isK (.int .u64) (x1.getD 1 D0)) = true ∧
      (tB (decide ((-9223372036854775808 : Int) ≤ (x2 + (1 : Int))))) = true ∧
      (tB (decide ((x2 + (1 : Int)) ≤ (9223372036854775807 : Int)))) = true ∧
      I0_0 (x2 + (1 : Int)) x3 (D.lit (.int .u64 (gOr .u64 (Rf.dint x4) (Rf.dint (x1.getD 1 D0))))) x5 x6 ∧ M0_0 (x2 + (1 : Int)) x3 (D.lit (.int .u64 (gOr .u64 (Rf.dint x4) (Rf.dint (x1.getD 1 D0))))) x5 x6 < M0_0 x2 x3 x4 x5 x6) ∧
     ((tB (x2 == (1 : Int))) = false →
      ((tB (x2 == (2 : Int))) = true →
       (Rf.isK (.int .u64) x5) = true ∧
       (Rf.isK (.int .u64) (x1.getD 2 D0)) = true ∧
       (tB (decide ((-9223372036854775808 : Int) ≤ (x2 + (1 : Int))))) = true ∧
       (tB (decide ((x2 + (1 : Int)) ≤ (9223372036854775807 : Int)))) = true ∧
       I0_0 (x2 + (1 : Int)) x3 x4 (D.lit (.int .u64 (gOr .u64 (Rf.dint x5) (Rf.dint (x1.getD 2 D0))))) x6 ∧ M0_0 (x2 + (1 : Int)) x3 x4 (D.lit (.int .u64 (gOr .u64 (Rf.dint x5) (Rf.dint (x1.getD 2 D0))))) x6 < M0_0 x2 x3 x4 x5 x6) ∧
      ((tB (x2 == (2 : Int))) = false →
       (tB (x2 == (3 : Int))) = true ∧
       (Rf.isK (.int .u64) x6) = true ∧
       (Rf.isK (.int .u64) (x1.getD 3 D0)) = true ∧
       (tB (decide ((-9223372036854775808 : Int) ≤ (x2 + (1 : Int))))) = true ∧
       (tB (decide ((x2 + (1 : Int)) ≤ (9223372036854775807 : Int)))) = true ∧
       I0_0 (x2 + (1 : Int)) x3 x4 x5 (D.lit (.int .u64 (gOr .u64 (Rf.dint x6) (Rf.dint (x1.getD 3 D0))))) ∧ M0_0 (x2 + (1 : Int)) x3 x4 x5 (D.lit (.int .u64 (gOr .u64 (Rf.dint x6) (Rf.dint (x1.getD 3 D0))))) < M0_0 x2 x3 x4 x5 x6)))) ∧
   ((tB (decide (x2 < (4 : Int)))) = false →
    R (.ret (A.agg (x3 :: (x4 :: (x5 :: (x6 :: ([] : List D))))))) [])) ∧
  True) :
    Holds Try.prog 99 [(A.agg x0), (A.agg x1)] [] R :=
  walk (c := ⟨Try.prog, 20, true, [0, 1, 2, 3, 4, 5, 7]⟩) (op := {  }) (fn := Try.f99) (args := [.agg (.var 0), .agg (.var 1)]) (K := []) (nv := 2) (depth := 5) (up := upOf []) (ρ := envOf [.r x0, .r x1])
    rfl rfl rfl rfl rfl (by decide) (by decide) (by decide) (by decide) rfl (by simp [bxDen, RRef.den, upOf]) (T_of (by kernel_rfl) h)
theorem w100 {R : Out → List (Ref × List A) → Prop} (x0 : List D) (h : (tB ((x0.length : Int) == (4 : Int))) = true ∧
  ∃ (I0_0 : Int → D → D → D → D → Prop) (M0_0 : Int → D → D → D → D → Nat), I0_0 (0 : Int) (x0.getD 0 D0) (x0.getD 1 D0) (x0.getD 2 D0) (x0.getD 3 D0) ∧
  (∀ (x1 : Int) (x2 : D) (x3 : D) (x4 : D) (x5 : D) , I0_0 x1 x2 x3 x4 x5 →
   ((tB (decide (x1 < (4 : Int)))) = true →
    (tB (decide ((0 : Int) ≤ x1))) = true ∧
    ((tB (x1 == (0 : Int))) = true →
     (Rf.isK (.int .u64) x2) = true ∧
     (tB (decide ((-9223372036854775808 : Int) ≤ (x1 + (1 : Int))))) = true ∧
     (tB (decide ((x1 + (1 : Int)) ≤ (9223372036854775807 : Int)))) = true ∧
     I0_0 (x1 + (1 : Int)) (D.lit (.int .u64 (gNot .u64 (Rf.dint x2)))) x3 x4 x5 ∧ M0_0 (x1 + (1 : Int)) (D.lit (.int .u64 (gNot .u64 (Rf.dint x2)))) x3 x4 x5 < M0_0 x1 x2 x3 x4 x5) ∧
    ((tB (x1 == (0 : Int))) = false →
     ((tB (x1 == (1 : Int))) = true →
      (Rf.isK (.int .u64) x3) = true ∧
      (tB (decide ((-9223372036854775808 : Int) ≤ (x1 + (1 : Int))))) = true ∧
      (tB (decide ((x1 + (1 : Int)) ≤ (9223372036854775807 : Int)))) = true ∧
      I0_0 (x1 + (1 : Int)) x2 (D.lit (.int .u64 (gNot .u64 (Rf.dint x3)))) x4 x5 ∧ M0_0 (x1 + (1 : Int)) x2 (D.lit (.int .u64 (gNot .u64 (Rf.dint x3)))) x4 x5 < M0_0 x1 x2 x3 x4 x5) ∧
     ((tB (x1 == (1 : Int))) = false →
      ((tB (x1 == (2 : Int))) = true →
       (Rf.isK (.int .u64) x4) = true ∧
       (tB (decide ((-9223372036854775808 : Int) ≤ (x1 + (1 : Int))))) = true ∧
       (tB (decide ((x1 + (1 : Int)) ≤ (9223372036854775807 : Int)))) = true ∧
       I0_0 (x1 + (1 : Int)) x2 x3 (D.lit (.int .u64 (gNot .u64 (Rf.dint x4)))) x5 ∧ M0_0 (x1 + (1 : Int)) x2 x3 (D.lit (.int .u64 (gNot .u64 (Rf.dint x4)))) x5 < M0_0 x1 x2 x3 x4 x5) ∧
      ((tB (x1 == (2 : Int))) = false →
       (tB (x1 == (3 : Int))) = true ∧
       (Rf.isK (.int .u64) x5) = true ∧
       (tB (decide ((-9223372036854775808 : Int) ≤ (x1 + (1 : Int))))) = true ∧
       (tB (decide ((x1 + (1 : Int)) ≤ (9223372036854775807 : Int)))) = true ∧
       I0_0 (x1 + (1 : Int)) x2 x3 x4 (D.lit (.int .u64 (gNot .u64 (Rf.dint x5)))) ∧ M0_0 (x1 + (1 : Int)) x2 x3 x4 (D.lit (.int .u64 (gNot .u64 (Rf.dint x5)))) < M0_0 x1 x2 x3 x4 x5)))) ∧
   ((tB (decide (x1 < (4 : Int)))) = false →
    R (.ret (A.agg (x2 :: (x3 :: (x4 :: (x5 :: ([] : List D))))))) [])) ∧
  True) :
    Holds Try.prog 100 [(A.agg x0)] [] R :=
  walk (c := ⟨Try.prog, 15, true, [0, 1, 2, 3, 5]⟩) (op := {  }) (fn := Try.f100) (args := [.agg (.var 0)]) (K := []) (nv := 1) (depth := 4) (up := upOf []) (ρ := envOf [.r x0])
    rfl rfl rfl rfl rfl (by decide) (by decide) (by decide) (by decide) rfl (by simp [bxDen, RRef.den, upOf]) (T_of (by kernel_rfl) h)
theorem w103 {R : Out → List (Ref × List A) → Prop} (x0 : Int) (h : (((tB (decide ((48 : Int) ≤ x0))) && (tB (decide (x0 ≤ (57 : Int))))) = true →
   (tB (decide ((-9223372036854775808 : Int) ≤ (IntKind.wrap .u8 (x0 - (48 : Int)))))) = true ∧
   (tB (decide ((IntKind.wrap .u8 (x0 - (48 : Int))) ≤ (9223372036854775807 : Int)))) = true ∧
   R (.ret (A.d (D.lit (.int .i64 (IntKind.wrap .u8 (x0 - (48 : Int))))))) []) ∧
  (((tB (decide ((48 : Int) ≤ x0))) && (tB (decide (x0 ≤ (57 : Int))))) = false →
   (((tB (decide ((97 : Int) ≤ x0))) && (tB (decide (x0 ≤ (102 : Int))))) = true →
    (tB (decide ((-9223372036854775808 : Int) ≤ (IntKind.wrap .u8 (x0 - (97 : Int)))))) = true ∧
    (tB (decide ((IntKind.wrap .u8 (x0 - (97 : Int))) ≤ (9223372036854775807 : Int)))) = true ∧
    (tB (decide ((-9223372036854775808 : Int) ≤ ((IntKind.wrap .u8 (x0 - (97 : Int))) + (10 : Int))))) = true ∧
    (tB (decide (((IntKind.wrap .u8 (x0 - (97 : Int))) + (10 : Int)) ≤ (9223372036854775807 : Int)))) = true ∧
    R (.ret (A.d (D.lit (.int .i64 ((IntKind.wrap .u8 (x0 - (97 : Int))) + (10 : Int)))))) []) ∧
   (((tB (decide ((97 : Int) ≤ x0))) && (tB (decide (x0 ≤ (102 : Int))))) = false →
    (((tB (decide ((65 : Int) ≤ x0))) && (tB (decide (x0 ≤ (70 : Int))))) = true →
     (tB (decide ((-9223372036854775808 : Int) ≤ (IntKind.wrap .u8 (x0 - (65 : Int)))))) = true ∧
     (tB (decide ((IntKind.wrap .u8 (x0 - (65 : Int))) ≤ (9223372036854775807 : Int)))) = true ∧
     (tB (decide ((-9223372036854775808 : Int) ≤ ((IntKind.wrap .u8 (x0 - (65 : Int))) + (10 : Int))))) = true ∧
     (tB (decide (((IntKind.wrap .u8 (x0 - (65 : Int))) + (10 : Int)) ≤ (9223372036854775807 : Int)))) = true ∧
     R (.ret (A.d (D.lit (.int .i64 ((IntKind.wrap .u8 (x0 - (65 : Int))) + (10 : Int)))))) []) ∧
    (((tB (decide ((65 : Int) ≤ x0))) && (tB (decide (x0 ≤ (70 : Int))))) = false →
     R (.ret (A.d (D.lit (.int .i64 (-1 : Int))))) [])))) :
    Holds Try.prog 103 [(A.d (D.lit (.int .u8 x0)))] [] R :=
  walk (c := ⟨Try.prog, 35, true, [0, 2, 3, 13, 24]⟩) (op := {  }) (fn := Try.f103) (args := [.c (.o1 (.ci .u8) (.var 0))]) (K := []) (nv := 1) (depth := 6) (up := upOf []) (ρ := envOf [.i x0])
    rfl rfl rfl rfl rfl (by decide) (by decide) (by decide) (by decide) rfl (by simp [bxDen, RRef.den, upOf]) (T_of (by kernel_rfl) h)
theorem w101 {R : Out → List (Ref × List A) → Prop} (x0 : Int) (h : (((tB (decide ((48 : Int) ≤ x0))) && (tB (decide (x0 ≤ (57 : Int))))) = true →
   R (.ret (A.tup [(false, [(D.lit (.int .u8 (IntKind.wrap .u8 (x0 - (48 : Int)))))]), (false, [(D.lit (.bool true))])])) []) ∧
  (((tB (decide ((48 : Int) ≤ x0))) && (tB (decide (x0 ≤ (57 : Int))))) = false →
   (((tB (decide ((97 : Int) ≤ x0))) && (tB (decide (x0 ≤ (102 : Int))))) = true →
    R (.ret (A.tup [(false, [(D.lit (.int .u8 (IntKind.wrap .u8 ((IntKind.wrap .u8 (x0 - (97 : Int))) + (10 : Int)))))]), (false, [(D.lit (.bool true))])])) []) ∧
   (((tB (decide ((97 : Int) ≤ x0))) && (tB (decide (x0 ≤ (102 : Int))))) = false →
    (((tB (decide ((65 : Int) ≤ x0))) && (tB (decide (x0 ≤ (70 : Int))))) = true →
     R (.ret (A.tup [(false, [(D.lit (.int .u8 (IntKind.wrap .u8 ((IntKind.wrap .u8 (x0 - (65 : Int))) + (10 : Int)))))]), (false, [(D.lit (.bool true))])])) []) ∧
    (((tB (decide ((65 : Int) ≤ x0))) && (tB (decide (x0 ≤ (70 : Int))))) = false →
     R (.ret (A.tup [(false, [(D.lit (.int .u8 (0 : Int)))]), (false, [(D.lit (.bool false))])])) [])))) :
    Holds Try.prog 101 [(A.d (D.lit (.int .u8 x0)))] [] R :=
  walk (c := ⟨Try.prog, 33, true, [0, 2, 3, 4, 13, 23]⟩) (op := {  }) (fn := Try.f101) (args := [.c (.o1 (.ci .u8) (.var 0))]) (K := []) (nv := 1) (depth := 6) (up := upOf []) (ρ := envOf [.i x0])
    rfl rfl rfl rfl rfl (by decide) (by decide) (by decide) (by decide) rfl (by simp [bxDen, RRef.den, upOf]) (T_of (by kernel_rfl) h)
theorem w87 {R : Out → List (Ref × List A) → Prop} (x0 : Int) (h : ∃ (I0_0 : Int → Prop) (M0_0 : Int → Nat), I0_0 (0 : Int) ∧
  (∀ (x1 : Int) , I0_0 x1 →
   ((tB (decide (x1 < (12 : Int)))) = true →
    (tB (decide ((0 : Int) ≤ x1))) = true ∧
    ((tB ((gByte ([40, 41, 91, 93, 123, 125, 124, 42, 43, 63, 46, 92] : List UInt8) x1) == x0)) = true →
     R (.ret (A.d (D.lit (.bool true)))) []) ∧
    ((tB ((gByte ([40, 41, 91, 93, 123, 125, 124, 42, 43, 63, 46, 92] : List UInt8) x1) == x0)) = false →
     (tB (decide ((-9223372036854775808 : Int) ≤ (x1 + (1 : Int))))) = true ∧
     (tB (decide ((x1 + (1 : Int)) ≤ (9223372036854775807 : Int)))) = true ∧
     I0_0 (x1 + (1 : Int)) ∧ M0_0 (x1 + (1 : Int)) < M0_0 x1)) ∧
   ((tB (decide (x1 < (12 : Int)))) = false →
    R (.ret (A.d (D.lit (.bool false)))) [])) ∧
  True) :
    Holds Try.prog 87 [(A.d (D.lit (.int .u8 x0)))] [] R :=
  walk (c := ⟨Try.prog, 16, true, [0, 2, 3, 4, 8, 15]⟩) (op := {  }) (fn := Try.f87) (args := [.c (.o1 (.ci .u8) (.var 0))]) (K := []) (nv := 1) (depth := 5) (up := upOf []) (ρ := envOf [.i x0])
    rfl rfl rfl rfl rfl (by decide) (by decide) (by decide) (by decide) rfl (by simp [bxDen, RRef.den, upOf]) (T_of (by kernel_rfl) h)
theorem w97 {R : Out → List (Ref × List A) → Prop} (x0 : Int) (h : ((tB (x0 == (110 : Int))) = true →
   R (.ret (A.d (D.lit (.int .i64 (10 : Int))))) []) ∧
  ((tB (x0 == (110 : Int))) = false →
   ((tB (x0 == (116 : Int))) = true →
    R (.ret (A.d (D.lit (.int .i64 (9 : Int))))) []) ∧
   ((tB (x0 == (116 : Int))) = false →
    ((tB (x0 == (114 : Int))) = true →
     R (.ret (A.d (D.lit (.int .i64 (13 : Int))))) []) ∧
    ((tB (x0 == (114 : Int))) = false →
     R (.ret (A.d (D.lit (.int .i64 (-1 : Int))))) [])))) :
    Holds Try.prog 97 [(A.d (D.lit (.int .u8 x0)))] [] R :=
  walk (c := ⟨Try.prog, 10, true, [0, 2, 3, 4, 6, 8]⟩) (op := {  }) (fn := Try.f97) (args := [.c (.o1 (.ci .u8) (.var 0))]) (K := []) (nv := 1) (depth := 4) (up := upOf []) (ρ := envOf [.i x0])
    rfl rfl rfl rfl rfl (by decide) (by decide) (by decide) (by decide) rfl (by simp [bxDen, RRef.den, upOf]) (T_of (by kernel_rfl) h)
theorem w54 {R : Out → List (Ref × List A) → Prop} (x0 : Bool) (h : (x0 = true →
   R (.ret (A.d (D.lit (.int .i64 (-1 : Int))))) []) ∧
  (x0 = false →
   R (.ret (A.d (D.lit (.int .i64 (1 : Int))))) [])) :
    Holds Try.prog 54 [(A.d (D.lit (.bool x0)))] [] R :=
  walk (c := ⟨Try.prog, 4, true, [0, 2, 3]⟩) (op := {  }) (fn := Try.f54) (args := [.c (.o1 .cb (.o1 .tb (.var 0)))]) (K := []) (nv := 1) (depth := 3) (up := upOf []) (ρ := envOf [.b x0])
    rfl rfl rfl rfl rfl (by decide) (by decide) (by decide) (by decide) rfl (by simp [bxDen, RRef.den, upOf]) (T_of (by kernel_rfl) h)
theorem w80 {R : Out → List (Ref × List A) → Prop} (x0 : Int) (h : ∀ _ : Nat → Nat, ∃ R' : Out → List (Ref × List A) → Prop, Holds Try.prog 79 [(A.d (D.lit (.int .u8 (48 : Int)))), (A.d (D.lit (.int .u8 (57 : Int))))] [] R' ∧
  (∀ v H', R' (.ret v) H' → ∃ x1 : List D, v = (A.agg x1) ∧ H' = [] ∧
   (tB ((x1.length : Int) == (4 : Int))) = true ∧
   ((tB (x0 == (100 : Int))) = true →
    R (.ret (A.tup [(true, x1), (false, [(D.lit (.bool true))])])) []) ∧
   ((tB (x0 == (100 : Int))) = false →
    ((tB (x0 == (119 : Int))) = true →
     ∀ _ : Nat → Nat, ∃ R' : Out → List (Ref × List A) → Prop, Holds Try.prog 79 [(A.d (D.lit (.int .u8 (97 : Int)))), (A.d (D.lit (.int .u8 (122 : Int))))] [] R' ∧
     (∀ v H', R' (.ret v) H' → ∃ x2 : List D, v = (A.agg x2) ∧ H' = [] ∧
      ∀ _ : Nat → Nat, ∃ R' : Out → List (Ref × List A) → Prop, Holds Try.prog 79 [(A.d (D.lit (.int .u8 (65 : Int)))), (A.d (D.lit (.int .u8 (90 : Int))))] [] R' ∧
      (∀ v H', R' (.ret v) H' → ∃ x3 : List D, v = (A.agg x3) ∧ H' = [] ∧
       ∀ _ : Nat → Nat, ∃ R' : Out → List (Ref × List A) → Prop, Holds Try.prog 91 [(A.agg x2), (A.agg x3)] [] R' ∧
       (∀ v H', R' (.ret v) H' → ∃ x4 : List D, v = (A.agg x4) ∧ H' = [] ∧
        (tB ((x4.length : Int) == (4 : Int))) = true ∧
        ∀ _ : Nat → Nat, ∃ R' : Out → List (Ref × List A) → Prop, Holds Try.prog 91 [(A.agg x1), (A.agg x4)] [] R' ∧
        (∀ v H', R' (.ret v) H' → ∃ x5 : List D, v = (A.agg x5) ∧ H' = [] ∧
         ∀ _ : Nat → Nat, ∃ R' : Out → List (Ref × List A) → Prop, Holds Try.prog 79 [(A.d (D.lit (.int .u8 (95 : Int)))), (A.d (D.lit (.int .u8 (95 : Int))))] [] R' ∧
         (∀ v H', R' (.ret v) H' → ∃ x6 : List D, v = (A.agg x6) ∧ H' = [] ∧
          ∀ _ : Nat → Nat, ∃ R' : Out → List (Ref × List A) → Prop, Holds Try.prog 91 [(A.agg x5), (A.agg x6)] [] R' ∧
          (∀ v H', R' (.ret v) H' → ∃ x7 : List D, v = (A.agg x7) ∧ H' = [] ∧
           (tB ((x7.length : Int) == (4 : Int))) = true ∧
           R (.ret (A.tup [(true, x7), (false, [(D.lit (.bool true))])])) []) ∧
          (∀ x7v H', R' (.pan x7v) H' → H' = [] ∧
           R (.pan x7v) [])) ∧
         (∀ x6v H', R' (.pan x6v) H' → H' = [] ∧
          R (.pan x6v) [])) ∧
        (∀ x5v H', R' (.pan x5v) H' → H' = [] ∧
         R (.pan x5v) [])) ∧
       (∀ x4v H', R' (.pan x4v) H' → H' = [] ∧
        R (.pan x4v) [])) ∧
      (∀ x3v H', R' (.pan x3v) H' → H' = [] ∧
       R (.pan x3v) [])) ∧
     (∀ x2v H', R' (.pan x2v) H' → H' = [] ∧
      R (.pan x2v) [])) ∧
    ((tB (x0 == (119 : Int))) = false →
     ((tB (x0 == (115 : Int))) = true →
      ∀ _ : Nat → Nat, ∃ R' : Out → List (Ref × List A) → Prop, Holds Try.prog 79 [(A.d (D.lit (.int .u8 (9 : Int)))), (A.d (D.lit (.int .u8 (10 : Int))))] [] R' ∧
      (∀ v H', R' (.ret v) H' → ∃ x2 : List D, v = (A.agg x2) ∧ H' = [] ∧
       ∀ _ : Nat → Nat, ∃ R' : Out → List (Ref × List A) → Prop, Holds Try.prog 79 [(A.d (D.lit (.int .u8 (13 : Int)))), (A.d (D.lit (.int .u8 (13 : Int))))] [] R' ∧
       (∀ v H', R' (.ret v) H' → ∃ x3 : List D, v = (A.agg x3) ∧ H' = [] ∧
        ∀ _ : Nat → Nat, ∃ R' : Out → List (Ref × List A) → Prop, Holds Try.prog 91 [(A.agg x2), (A.agg x3)] [] R' ∧
        (∀ v H', R' (.ret v) H' → ∃ x4 : List D, v = (A.agg x4) ∧ H' = [] ∧
         ∀ _ : Nat → Nat, ∃ R' : Out → List (Ref × List A) → Prop, Holds Try.prog 79 [(A.d (D.lit (.int .u8 (32 : Int)))), (A.d (D.lit (.int .u8 (32 : Int))))] [] R' ∧
         (∀ v H', R' (.ret v) H' → ∃ x5 : List D, v = (A.agg x5) ∧ H' = [] ∧
          ∀ _ : Nat → Nat, ∃ R' : Out → List (Ref × List A) → Prop, Holds Try.prog 91 [(A.agg x4), (A.agg x5)] [] R' ∧
          (∀ v H', R' (.ret v) H' → ∃ x6 : List D, v = (A.agg x6) ∧ H' = [] ∧
           (tB ((x6.length : Int) == (4 : Int))) = true ∧
           R (.ret (A.tup [(true, x6), (false, [(D.lit (.bool true))])])) []) ∧
          (∀ x6v H', R' (.pan x6v) H' → H' = [] ∧
           R (.pan x6v) [])) ∧
         (∀ x5v H', R' (.pan x5v) H' → H' = [] ∧
          R (.pan x5v) [])) ∧
        (∀ x4v H', R' (.pan x4v) H' → H' = [] ∧
         R (.pan x4v) [])) ∧
       (∀ x3v H', R' (.pan x3v) H' → H' = [] ∧
        R (.pan x3v) [])) ∧
      (∀ x2v H', R' (.pan x2v) H' → H' = [] ∧
       R (.pan x2v) [])) ∧
     ((tB (x0 == (115 : Int))) = false →
      R (.ret (A.tup [(true, ((D.lit (.int .u64 (0 : Int))) :: ((D.lit (.int .u64 (0 : Int))) :: ((D.lit (.int .u64 (0 : Int))) :: ((D.lit (.int .u64 (0 : Int))) :: ([] : List D)))))), (false, [(D.lit (.bool false))])])) [])))) ∧
  (∀ x1v H', R' (.pan x1v) H' → H' = [] ∧
   R (.pan x1v) [])) :
    Holds Try.prog 80 [(A.d (D.lit (.int .u8 x0)))] [] R :=
  walk (c := ⟨Try.prog, 29, true, [0, 2, 3, 4, 5, 7, 8, 11, 21]⟩) (op := {  }) (fn := Try.f80) (args := [.c (.o1 (.ci .u8) (.var 0))]) (K := []) (nv := 1) (depth := 5) (up := upOf []) (ρ := envOf [.i x0])
    rfl rfl rfl rfl rfl (by decide) (by decide) (by decide) (by decide) rfl (by simp [bxDen, RRef.den, upOf]) (T_of (by kernel_rfl) h)
theorem w96 {R : Out → List (Ref × List A) → Prop} (x0 : Int) (h : ((tB (x0 == (100 : Int))) = true →
   ∀ _ : Nat → Nat, ∃ R' : Out → List (Ref × List A) → Prop, Holds Try.prog 85 [(A.d (D.lit (.int .i64 (48 : Int)))), (A.d (D.lit (.int .i64 (57 : Int))))] [] R' ∧
   (∀ v H', R' (.ret v) H' → ∃ x1 : List D, v = (A.agg x1) ∧ H' = [] ∧
    (tB ((x1.length : Int) == (4 : Int))) = true ∧
    R (.ret (A.tup [(true, x1), (false, [(D.lit (.bool true))])])) []) ∧
   (∀ x1v H', R' (.pan x1v) H' → H' = [] ∧
    R (.pan x1v) [])) ∧
  ((tB (x0 == (100 : Int))) = false →
   ((tB (x0 == (119 : Int))) = true →
    ∀ _ : Nat → Nat, ∃ R' : Out → List (Ref × List A) → Prop, Holds Try.prog 85 [(A.d (D.lit (.int .i64 (48 : Int)))), (A.d (D.lit (.int .i64 (57 : Int))))] [] R' ∧
    (∀ v H', R' (.ret v) H' → ∃ x1 : List D, v = (A.agg x1) ∧ H' = [] ∧
     ∀ _ : Nat → Nat, ∃ R' : Out → List (Ref × List A) → Prop, Holds Try.prog 85 [(A.d (D.lit (.int .i64 (97 : Int)))), (A.d (D.lit (.int .i64 (122 : Int))))] [] R' ∧
     (∀ v H', R' (.ret v) H' → ∃ x2 : List D, v = (A.agg x2) ∧ H' = [] ∧
      ∀ _ : Nat → Nat, ∃ R' : Out → List (Ref × List A) → Prop, Holds Try.prog 99 [(A.agg x1), (A.agg x2)] [] R' ∧
      (∀ v H', R' (.ret v) H' → ∃ x3 : List D, v = (A.agg x3) ∧ H' = [] ∧
       ∀ _ : Nat → Nat, ∃ R' : Out → List (Ref × List A) → Prop, Holds Try.prog 85 [(A.d (D.lit (.int .i64 (65 : Int)))), (A.d (D.lit (.int .i64 (90 : Int))))] [] R' ∧
       (∀ v H', R' (.ret v) H' → ∃ x4 : List D, v = (A.agg x4) ∧ H' = [] ∧
        ∀ _ : Nat → Nat, ∃ R' : Out → List (Ref × List A) → Prop, Holds Try.prog 85 [(A.d (D.lit (.int .i64 (95 : Int)))), (A.d (D.lit (.int .i64 (95 : Int))))] [] R' ∧
        (∀ v H', R' (.ret v) H' → ∃ x5 : List D, v = (A.agg x5) ∧ H' = [] ∧
         ∀ _ : Nat → Nat, ∃ R' : Out → List (Ref × List A) → Prop, Holds Try.prog 99 [(A.agg x4), (A.agg x5)] [] R' ∧
         (∀ v H', R' (.ret v) H' → ∃ x6 : List D, v = (A.agg x6) ∧ H' = [] ∧
          ∀ _ : Nat → Nat, ∃ R' : Out → List (Ref × List A) → Prop, Holds Try.prog 99 [(A.agg x3), (A.agg x6)] [] R' ∧
          (∀ v H', R' (.ret v) H' → ∃ x7 : List D, v = (A.agg x7) ∧ H' = [] ∧
           (tB ((x7.length : Int) == (4 : Int))) = true ∧
           R (.ret (A.tup [(true, x7), (false, [(D.lit (.bool true))])])) []) ∧
          (∀ x7v H', R' (.pan x7v) H' → H' = [] ∧
           R (.pan x7v) [])) ∧
         (∀ x6v H', R' (.pan x6v) H' → H' = [] ∧
          R (.pan x6v) [])) ∧
        (∀ x5v H', R' (.pan x5v) H' → H' = [] ∧
         R (.pan x5v) [])) ∧
       (∀ x4v H', R' (.pan x4v) H' → H' = [] ∧
        R (.pan x4v) [])) ∧
      (∀ x3v H', R' (.pan x3v) H' → H' = [] ∧
       R (.pan x3v) [])) ∧
     (∀ x2v H', R' (.pan x2v) H' → H' = [] ∧
      R (.pan x2v) [])) ∧
    (∀ x1v H', R' (.pan x1v) H' → H' = [] ∧
     R (.pan x1v) [])) ∧
   ((tB (x0 == (119 : Int))) = false →
    ((tB (x0 == (115 : Int))) = true →
     ∀ _ : Nat → Nat, ∃ R' : Out → List (Ref × List A) → Prop, Holds Try.prog 85 [(A.d (D.lit (.int .i64 (32 : Int)))), (A.d (D.lit (.int .i64 (32 : Int))))] [] R' ∧
     (∀ v H', R' (.ret v) H' → ∃ x1 : List D, v = (A.agg x1) ∧ H' = [] ∧
      ∀ _ : Nat → Nat, ∃ R' : Out → List (Ref × List A) → Prop, Holds Try.prog 85 [(A.d (D.lit (.int .i64 (9 : Int)))), (A.d (D.lit (.int .i64 (10 : Int))))] [] R' ∧
      (∀ v H', R' (.ret v) H' → ∃ x2 : List D, v = (A.agg x2) ∧ H' = [] ∧
       ∀ _ : Nat → Nat, ∃ R' : Out → List (Ref × List A) → Prop, Holds Try.prog 99 [(A.agg x1), (A.agg x2)] [] R' ∧
       (∀ v H', R' (.ret v) H' → ∃ x3 : List D, v = (A.agg x3) ∧ H' = [] ∧
        ∀ _ : Nat → Nat, ∃ R' : Out → List (Ref × List A) → Prop, Holds Try.prog 85 [(A.d (D.lit (.int .i64 (13 : Int)))), (A.d (D.lit (.int .i64 (13 : Int))))] [] R' ∧
        (∀ v H', R' (.ret v) H' → ∃ x4 : List D, v = (A.agg x4) ∧ H' = [] ∧
         ∀ _ : Nat → Nat, ∃ R' : Out → List (Ref × List A) → Prop, Holds Try.prog 99 [(A.agg x3), (A.agg x4)] [] R' ∧
         (∀ v H', R' (.ret v) H' → ∃ x5 : List D, v = (A.agg x5) ∧ H' = [] ∧
          (tB ((x5.length : Int) == (4 : Int))) = true ∧
          R (.ret (A.tup [(true, x5), (false, [(D.lit (.bool true))])])) []) ∧
         (∀ x5v H', R' (.pan x5v) H' → H' = [] ∧
          R (.pan x5v) [])) ∧
        (∀ x4v H', R' (.pan x4v) H' → H' = [] ∧
         R (.pan x4v) [])) ∧
       (∀ x3v H', R' (.pan x3v) H' → H' = [] ∧
        R (.pan x3v) [])) ∧
      (∀ x2v H', R' (.pan x2v) H' → H' = [] ∧
       R (.pan x2v) [])) ∧
     (∀ x1v H', R' (.pan x1v) H' → H' = [] ∧
      R (.pan x1v) [])) ∧
    ((tB (x0 == (115 : Int))) = false →
     R (.ret (A.tup [(true, ((D.lit (.int .u64 (0 : Int))) :: ((D.lit (.int .u64 (0 : Int))) :: ((D.lit (.int .u64 (0 : Int))) :: ((D.lit (.int .u64 (0 : Int))) :: ([] : List D)))))), (false, [(D.lit (.bool false))])])) [])))) :
    Holds Try.prog 96 [(A.d (D.lit (.int .u8 x0)))] [] R :=
  walk (c := ⟨Try.prog, 25, true, [0, 2, 3, 4, 5, 8, 17]⟩) (op := {  }) (fn := Try.f96) (args := [.c (.o1 (.ci .u8) (.var 0))]) (K := []) (nv := 1) (depth := 5) (up := upOf []) (ρ := envOf [.i x0])
    rfl rfl rfl rfl rfl (by decide) (by decide) (by decide) (by decide) rfl (by simp [bxDen, RRef.den, upOf]) (T_of (by kernel_rfl) h)
end Go.Rx
end
section
open Go Go.Proofs Go.Ab Go.Rf
set_option maxRecDepth 100000
namespace Go.Rx
def wdA (p : Nat → Bool) (k : Nat) : Nat → Nat
  | 0 => 0
  | n + 1 => wdA p k n + if p (64 * k + n) then 2 ^ n else 0
def wd (p : Nat → Bool) (k : Nat) : Nat := wdA p k 64
theorem wdA_lt (p : Nat → Bool) (k : Nat) : ∀ n, wdA p k n < 2 ^ n
  | 0 => by simp [wdA]
  | n + 1 => by
    have := wdA_lt p k n
    simp only [wdA, Nat.pow_succ]
    split <;> omega
theorem wdA_bit (p : Nat → Bool) (k : Nat) : ∀ n j, (wdA p k n).testBit j = (decide (j < n) && p (64 * k + j))
  | 0, j => by simp [wdA]
  | n + 1, j => by
    have hlt := wdA_lt p k n
    have ih := wdA_bit p k n
    simp only [wdA]
    by_cases hp : p (64 * k + n) = true
    · rw [if_pos hp, Nat.add_comm]
      by_cases hj : j = n
      · subst hj
        rw [Nat.testBit_two_pow_add_eq, ih]
        simp [hp]
      · rcases Nat.lt_or_gt_of_ne hj with h | h
        · rw [Nat.testBit_two_pow_add_gt h, ih]
          simp [h, Nat.lt_succ_of_lt h]
        · rw [Nat.testBit_lt_two_pow (Nat.lt_of_lt_of_le (show 2 ^ n + wdA p k n < 2 ^ (n + 1) by rw [Nat.pow_succ]; omega) (Nat.pow_le_pow_right (by decide) h))]
          have : ¬ j < n + 1 := by omega
          simp [this]
    · rw [if_neg hp, Nat.add_zero, ih]
      by_cases hj : j = n
      · subst hj; simp [hp]
      · have : (j < n + 1) = (j < n) := by simp; omega
        simp [this]
theorem wd_bit (p : Nat → Bool) (k j : Nat) : (wd p k).testBit j = (decide (j < 64) && p (64 * k + j)) := wdA_bit p k 64 j
theorem wd_lt (p : Nat → Bool) (k : Nat) : wd p k < 2 ^ 64 := wdA_lt p k 64
theorem wd_eq {p : Nat → Bool} {k w : Nat} (h : w < 2 ^ 64) (hb : ∀ j < 64, w.testBit j = p (64 * k + j)) : wd p k = w := by
  refine Nat.eq_of_testBit_eq fun j => ?_
  rw [wd_bit]
  by_cases hj : j < 64
  · simp [hj, hb j hj]
  · rw [Nat.testBit_lt_two_pow (Nat.lt_of_lt_of_le h (Nat.pow_le_pow_right (by decide) (by omega)))]
    simp [hj]
def row4 (p : Nat → Bool) : List D := [.lit (.int .u64 (wd p 0)), .lit (.int .u64 (wd p 1)), .lit (.int .u64 (wd p 2)), .lit (.int .u64 (wd p 3))]
theorem wrap_u64 (n : Nat) (h : n < 2 ^ 64) : IntKind.wrap .u64 (n : Int) = n := by
  have e1 : IntKind.signed .u64 = false := rfl
  have e2 : IntKind.bits .u64 = 64 := rfl
  simp [IntKind.wrap, e1, e2]
  omega
theorem gOr_nat (a b : Nat) (ha : a < 2 ^ 64) (hb : b < 2 ^ 64) : gOr .u64 (a : Int) (b : Int) = ((a ||| b : Nat) : Int) := by
  have e2 : IntKind.bits .u64 = 64 := rfl
  unfold gOr
  rw [e2]
  have : (BitVec.ofInt 64 (a : Int) ||| BitVec.ofInt 64 (b : Int)).toNat = a ||| b := by
    rw [BitVec.toNat_or, BitVec.ofInt_natCast, BitVec.ofInt_natCast, BitVec.toNat_ofNat, BitVec.toNat_ofNat, Nat.mod_eq_of_lt ha, Nat.mod_eq_of_lt hb]
  rw [this]
  exact wrap_u64 _ (Nat.or_lt_two_pow ha hb)
theorem gAnd_nat (a b : Nat) (ha : a < 2 ^ 64) (hb : b < 2 ^ 64) : gAnd .u64 (a : Int) (b : Int) = ((a &&& b : Nat) : Int) := by
  have e2 : IntKind.bits .u64 = 64 := rfl
  unfold gAnd
  rw [e2]
  have : (BitVec.ofInt 64 (a : Int) &&& BitVec.ofInt 64 (b : Int)).toNat = a &&& b := by
    rw [BitVec.toNat_and, BitVec.ofInt_natCast, BitVec.ofInt_natCast, BitVec.toNat_ofNat, BitVec.toNat_ofNat, Nat.mod_eq_of_lt ha, Nat.mod_eq_of_lt hb]
  rw [this]
  exact wrap_u64 _ (Nat.lt_of_le_of_lt Nat.and_le_left ha)
theorem gShl_one (j : Nat) (h : j < 64) : gShl .u64 1 (j : Int) = ((2 ^ j : Nat) : Int) := by
  have e2 : IntKind.bits .u64 = 64 := rfl
  unfold gShl
  rw [e2]
  have e : (min ((j : Int).toNat) 64) = j := by omega
  rw [e, Int.one_mul]
  have := wrap_u64 (2 ^ j) (Nat.pow_lt_pow_right (by decide) h)
  rw [← this]
  congr 1
theorem gShr_nat (a j : Nat) (h : j < 64) : gShr .u64 (a : Int) (j : Int) = ((a >>> j : Nat) : Int) := by
  have e2 : IntKind.bits .u64 = 64 := rfl
  unfold gShr
  rw [e2]
  have e : (min ((j : Int).toNat) 64) = j := by omega
  have h0 : (0 : Int) ≤ 2 ^ j := by exact_mod_cast Nat.zero_le (2 ^ j)
  rw [e, Nat.shiftRight_eq_div_pow, Int.fdiv_eq_ediv_of_nonneg _ h0, Int.natCast_ediv]
  rfl
theorem gNot_nat (a : Nat) (h : a < 2 ^ 64) : gNot .u64 (a : Int) = ((2 ^ 64 - 1 - a : Nat) : Int) := by
  have e2 : IntKind.bits .u64 = 64 := rfl
  have e1 : (if IntKind.signed .u64 = true then (-1 : Int) else IntKind.max .u64) = ((2 ^ 64 - 1 : Nat) : Int) := rfl
  unfold gNot
  rw [e2, e1]
  have : (BitVec.ofInt 64 ((2 ^ 64 - 1 : Nat) : Int) ^^^ BitVec.ofInt 64 (a : Int)).toNat = 2 ^ 64 - 1 - a := by
    rw [BitVec.ofInt_natCast, BitVec.ofInt_natCast]
    have : BitVec.ofNat 64 (2 ^ 64 - 1) = BitVec.allOnes 64 := rfl
    rw [this, BitVec.allOnes_xor, BitVec.toNat_not, BitVec.toNat_ofNat, Nat.mod_eq_of_lt h]
  rw [this]
  exact wrap_u64 _ (by omega)
theorem wd_or (p q : Nat → Bool) (k : Nat) : wd p k ||| wd q k = wd (fun i => p i || q i) k := by
  refine (wd_eq (Nat.or_lt_two_pow (wd_lt _ _) (wd_lt _ _)) fun j hj => ?_).symm
  rw [Nat.testBit_or, wd_bit, wd_bit]
  simp [hj]
theorem wd_not (p : Nat → Bool) (k : Nat) : 2 ^ 64 - 1 - wd p k = wd (fun i => !p i) k := by
  refine (wd_eq (by have := wd_lt p k; omega) fun j hj => ?_).symm
  rw [show 2 ^ 64 - 1 - wd p k = 2 ^ 64 - (wd p k + 1) by omega, Nat.testBit_two_pow_sub_succ (wd_lt _ _), wd_bit]
  simp [hj]
theorem wd_pow (k j : Nat) (h : j < 64) : wd (fun i => decide (i = 64 * k + j)) k = 2 ^ j := by
  refine wd_eq (Nat.pow_lt_pow_right (by decide) h) fun i hi => ?_
  rw [Nat.testBit_two_pow]
  by_cases e : j = i
  · subst e; simp
  · have : ¬ i = j := fun h => e h.symm
    simp [e, this]
theorem wd_ne (k k' j : Nat) (hj : j < 64) (h : k ≠ k') : wd (fun i => decide (i = 64 * k' + j)) k = 0 := by
  refine wd_eq (by decide) fun i hi => ?_
  rw [Nat.zero_testBit]
  symm
  simp; omega
theorem wd_congr {p q : Nat → Bool} {k : Nat} (h : ∀ i, 64 * k ≤ i → i < 64 * k + 64 → p i = q i) : wd p k = wd q k :=
  wd_eq (wd_lt _ _) fun j hj => by rw [wd_bit, h _ (by omega) (by omega)]; simp [hj]
theorem row4_congr {p q : Nat → Bool} (h : ∀ i < 256, p i = q i) : row4 p = row4 q := by
  unfold row4
  rw [wd_congr (p := p) (q := q) (k := 0) fun i _ h2 => h i (by omega), wd_congr (p := p) (q := q) (k := 1) fun i _ h2 => h i (by omega), wd_congr (p := p) (q := q) (k := 2) fun i _ h2 => h i (by omega), wd_congr (p := p) (q := q) (k := 3) fun i _ h2 => h i (by omega)]
@[simp] theorem row4_length (p : Nat → Bool) : (row4 p).length = 4 := rfl
@[simp] theorem row4_0 (p : Nat → Bool) : (row4 p).getD 0 D0 = .lit (.int .u64 (wd p 0)) := rfl
@[simp] theorem row4_1 (p : Nat → Bool) : (row4 p).getD 1 D0 = .lit (.int .u64 (wd p 1)) := rfl
@[simp] theorem row4_2 (p : Nat → Bool) : (row4 p).getD 2 D0 = .lit (.int .u64 (wd p 2)) := rfl
@[simp] theorem row4_3 (p : Nat → Bool) : (row4 p).getD 3 D0 = .lit (.int .u64 (wd p 3)) := rfl
theorem tdiv64 (x : Nat) : Int.tdiv (x : Int) 64 = ((x / 64 : Nat) : Int) := rfl
theorem tmod64 (x : Nat) : Int.tmod (x : Int) 64 = ((x % 64 : Nat) : Int) := rfl
theorem wrap_u8 (n : Nat) (h : n < 256) : IntKind.wrap .u8 (n : Int) = n := by
  have e1 : IntKind.signed .u8 = false := rfl
  have e2 : IntKind.bits .u8 = 8 := rfl
  simp [IntKind.wrap, e1, e2]
  omega
theorem has_word (p : Nat → Bool) (k j : Nat) (h : j < 64) : (gAnd .u64 (gShr .u64 (wd p k : Int) (j : Int)) 1 == 1) = p (64 * k + j) := by
  have hlt : wd p k >>> j < 2 ^ 64 := Nat.lt_of_le_of_lt (Nat.shiftRight_le _ _) (wd_lt p k)
  rw [gShr_nat _ _ h, show (1 : Int) = ((1 : Nat) : Int) from rfl, gAnd_nat _ _ hlt (by decide)]
  have h1 : (wd p k >>> j) &&& 1 = (p (64 * k + j)).toNat := by
    have := wd_bit p k j
    rw [decide_eq_true h, Bool.true_and] at this
    rw [← this, Nat.testBit]
    rw [Nat.and_comm]
    have : 1 &&& wd p k >>> j = 0 ∨ 1 &&& wd p k >>> j = 1 := by
      rw [Nat.and_comm, Nat.and_one_is_mod]; omega
    rcases this with e | e <;> rw [e] <;> rfl
  rw [h1]
  cases p (64 * k + j) <;> rfl
theorem c55 (p : Nat → Bool) (x : Nat) (h : x < 256) : Holds Try.prog 55 [A.agg (row4 p), A.d (.lit (.int .u8 x))] [] (Ret (.d (.lit (.bool (p x))))) := by
  have hx : x / 64 < 4 := by omega
  have hj : x % 64 < 64 := Nat.mod_lt _ (by decide)
  have e : ∀ k, x / 64 = k → 64 * k + x % 64 = x := fun k hk => by omega
  refine w55 (row4 p) x ?_
  simp only [tdiv64, tmod64, wrap_u8 _ (show x / 64 < 256 by omega), row4_length, row4_0, row4_1, row4_2, row4_3, isK_int, dint_int, has_word p _ _ hj, tB_eq, decide_eq_true_eq, beq_iff_eq, beq_eq_false_iff_ne, ret_iff, and_true, true_and]
  refine ⟨rfl, by omega, by omega, fun h0 => ⟨by omega, ?_⟩, fun h0 => ⟨fun h1 => ⟨by omega, ?_⟩, fun h1 => ⟨fun h2 => ⟨by omega, ?_⟩, fun h2 => ⟨by omega, by omega, ?_⟩⟩⟩⟩
  · rw [e 0 (by omega)]
  · rw [e 1 (by omega)]
  · rw [e 2 (by omega)]
  · rw [e 3 (by omega)]
theorem c63 (p : Nat → Bool) (x : Nat) (h : x < 256) : Holds Try.prog 63 [A.agg (row4 p), A.d (.lit (.int .u8 x))] [] (Ret (.d (.lit (.bool (p x))))) := by
  have hx : x / 64 < 4 := by omega
  have hj : x % 64 < 64 := Nat.mod_lt _ (by decide)
  have e : ∀ k, x / 64 = k → 64 * k + x % 64 = x := fun k hk => by omega
  refine w63 (row4 p) x ?_
  simp only [tdiv64, tmod64, wrap_u8 _ (show x / 64 < 256 by omega), row4_length, row4_0, row4_1, row4_2, row4_3, isK_int, dint_int, has_word p _ _ hj, tB_eq, decide_eq_true_eq, beq_iff_eq, beq_eq_false_iff_ne, ret_iff, and_true, true_and]
  refine ⟨rfl, by omega, by omega, fun h0 => ⟨by omega, ?_⟩, fun h0 => ⟨fun h1 => ⟨by omega, ?_⟩, fun h1 => ⟨fun h2 => ⟨by omega, ?_⟩, fun h2 => ⟨by omega, by omega, ?_⟩⟩⟩⟩
  · rw [e 0 (by omega)]
  · rw [e 1 (by omega)]
  · rw [e 2 (by omega)]
  · rw [e 3 (by omega)]
def upTo (lo n : Nat) : Nat → Bool := fun i => decide (lo ≤ i ∧ i < n)
theorem upTo_in {lo n : Nat} (h : lo ≤ n) {k : Nat} (hk : n / 64 = k) : gOr .u64 (wd (upTo lo n) k : Int) (gShl .u64 1 ((n % 64 : Nat) : Int)) = wd (upTo lo (n + 1)) k := by
  have hj : n % 64 < 64 := Nat.mod_lt _ (by decide)
  rw [gShl_one _ hj, gOr_nat _ _ (wd_lt _ _) (Nat.pow_lt_pow_right (by decide) hj), ← wd_pow k _ hj, wd_or]
  congr 1
  refine wd_congr fun i h1 h2 => ?_
  simp only [upTo]
  rw [Bool.eq_iff_iff]
  simp only [Bool.or_eq_true, decide_eq_true_eq]
  omega
theorem upTo_out (lo : Nat) {n k : Nat} (hk : n / 64 ≠ k) : wd (upTo lo (n + 1)) k = wd (upTo lo n) k := by
  refine wd_congr fun i h1 h2 => ?_
  simp only [upTo]
  rw [Bool.eq_iff_iff]
  simp only [decide_eq_true_eq]
  omega
theorem upTo_nil (lo k : Nat) : wd (upTo lo lo) k = 0 := by
  refine wd_eq (by decide) fun i hi => ?_
  rw [Nat.zero_testBit]
  symm
  simp only [upTo, decide_eq_false_iff_not]
  omega
theorem c85 (lo hi : Nat) (h : hi < 256) (hl : lo < 2 ^ 40) : Holds Try.prog 85 [A.d (.lit (.int .i64 lo)), A.d (.lit (.int .i64 hi))] [] (Ret (.agg (row4 (fun i => decide (lo ≤ i ∧ i ≤ hi))))) := by
  refine w85 lo hi ⟨fun x a b c d => ∃ n : Nat, x = n ∧ lo ≤ n ∧ (n ≤ hi + 1 ∨ n = lo) ∧ a = wd (upTo lo n) 0 ∧ b = wd (upTo lo n) 1 ∧ c = wd (upTo lo n) 2 ∧ d = wd (upTo lo n) 3, fun x _ _ _ _ => (hi + 1 - x.toNat), ⟨lo, rfl, Nat.le_refl _, .inr rfl, by simp [upTo_nil]⟩, ?_, trivial⟩
  rintro x a b c d ⟨n, rfl, hn, hn2, rfl, rfl, rfl, rfl⟩
  simp only [tdiv64, tmod64, tB_eq, decide_eq_true_eq, decide_eq_false_iff_not, beq_iff_eq, beq_eq_false_iff_ne, Int.toNat_natCast]
  refine ⟨fun hc => ⟨by omega, by omega, by omega, by omega, fun h0 => ⟨by omega, by omega, by omega, ⟨n + 1, rfl, by omega, .inl (by omega), ?_⟩, by omega⟩, fun h0 => ⟨fun h1 => ⟨by omega, by omega, by omega, ⟨n + 1, rfl, by omega, .inl (by omega), ?_⟩, by omega⟩, fun h1 => ⟨fun h2 => ⟨by omega, by omega, by omega, ⟨n + 1, rfl, by omega, .inl (by omega), ?_⟩, by omega⟩, fun h2 => ⟨by omega, by omega, by omega, by omega, ⟨n + 1, rfl, by omega, .inl (by omega), ?_⟩, by omega⟩⟩⟩⟩, fun hc => ?_⟩
  · have hk : n / 64 = 0 := by omega
    rw [upTo_in hn hk, upTo_out lo (k := 1) (by omega), upTo_out lo (k := 2) (by omega), upTo_out lo (k := 3) (by omega)]
    simp
  · have hk : n / 64 = 1 := by omega
    rw [upTo_in hn hk, upTo_out lo (k := 0) (by omega), upTo_out lo (k := 2) (by omega), upTo_out lo (k := 3) (by omega)]
    simp
  · have hk : n / 64 = 2 := by omega
    rw [upTo_in hn hk, upTo_out lo (k := 0) (by omega), upTo_out lo (k := 1) (by omega), upTo_out lo (k := 3) (by omega)]
    simp
  · have hk : n / 64 = 3 := by omega
    rw [upTo_in hn hk, upTo_out lo (k := 0) (by omega), upTo_out lo (k := 1) (by omega), upTo_out lo (k := 2) (by omega)]
    simp
  · have e : row4 (fun i => decide (lo ≤ i ∧ i ≤ hi)) = row4 (upTo lo n) := row4_congr fun i hi => by
      simp only [upTo]
      rw [Bool.eq_iff_iff]
      simp only [decide_eq_true_eq]
      omega
    rw [e]
    simp [row4]
def part (lo hi n : Nat) : Nat → Bool := fun i => decide (lo ≤ i ∧ i ≤ hi ∧ i < n)
theorem part_in {lo hi n : Nat} (h : lo ≤ n) (h' : n ≤ hi) {k : Nat} (hk : n / 64 = k) : gOr .u64 (wd (part lo hi n) k : Int) (gShl .u64 1 ((n % 64 : Nat) : Int)) = wd (part lo hi (n + 1)) k := by
  have hj : n % 64 < 64 := Nat.mod_lt _ (by decide)
  rw [gShl_one _ hj, gOr_nat _ _ (wd_lt _ _) (Nat.pow_lt_pow_right (by decide) hj), ← wd_pow k _ hj, wd_or]
  congr 1
  refine wd_congr fun i h1 h2 => ?_
  simp only [part]
  rw [Bool.eq_iff_iff]
  simp only [Bool.or_eq_true, decide_eq_true_eq]
  omega
theorem part_out (lo hi : Nat) {n k : Nat} (hk : n / 64 ≠ k ∨ ¬ (lo ≤ n ∧ n ≤ hi)) : wd (part lo hi (n + 1)) k = wd (part lo hi n) k := by
  refine wd_congr fun i h1 h2 => ?_
  simp only [part]
  rw [Bool.eq_iff_iff]
  simp only [decide_eq_true_eq]
  omega
theorem part_nil (lo hi k : Nat) : wd (part lo hi 0) k = 0 := by
  refine wd_eq (by decide) fun i hi => ?_
  rw [Nat.zero_testBit]
  symm
  simp only [part, decide_eq_false_iff_not]
  omega
theorem c79 (lo hi : Nat) (h : hi < 256) (hl : lo < 256) : Holds Try.prog 79 [A.d (.lit (.int .u8 lo)), A.d (.lit (.int .u8 hi))] [] (Ret (.agg (row4 (fun i => decide (lo ≤ i ∧ i ≤ hi))))) := by
  refine w79 lo hi ⟨fun x a b c d => ∃ n : Nat, x = n ∧ n ≤ 256 ∧ a = wd (part lo hi n) 0 ∧ b = wd (part lo hi n) 1 ∧ c = wd (part lo hi n) 2 ∧ d = wd (part lo hi n) 3, fun x _ _ _ _ => (256 - x.toNat), ⟨0, rfl, by omega, by simp [part_nil]⟩, ?_, trivial⟩
  rintro x a b c d ⟨n, rfl, hn, rfl, rfl, rfl, rfl⟩
  simp only [tdiv64, tmod64, tB_eq, decide_eq_true_eq, decide_eq_false_iff_not, beq_iff_eq, beq_eq_false_iff_ne, Int.toNat_natCast, Bool.or_eq_true, Bool.not_eq_true', Bool.and_eq_true, Bool.and_eq_false_iff]
  refine ⟨fun hc => ⟨by omega, by omega, by omega, by omega, fun hin => ⟨by omega, by omega, by omega, by omega, fun h0 => ⟨by omega, by omega, by omega, ⟨n + 1, rfl, by omega, ?_⟩, by omega⟩, fun h0 => ⟨fun h1 => ⟨by omega, by omega, by omega, ⟨n + 1, rfl, by omega, ?_⟩, by omega⟩, fun h1 => ⟨fun h2 => ⟨by omega, by omega, by omega, ⟨n + 1, rfl, by omega, ?_⟩, by omega⟩, fun h2 => ⟨by omega, by omega, by omega, by omega, ⟨n + 1, rfl, by omega, ?_⟩, by omega⟩⟩⟩⟩, fun hin => ⟨by omega, by omega, ⟨n + 1, rfl, by omega, ?_⟩, by omega⟩⟩, fun hc => ?_⟩
  · have hk : n / 64 = 0 := by omega
    rw [part_in (by omega) (by omega) hk, part_out lo hi (k := 1) (by omega), part_out lo hi (k := 2) (by omega), part_out lo hi (k := 3) (by omega)]
    simp
  · have hk : n / 64 = 1 := by omega
    rw [part_in (by omega) (by omega) hk, part_out lo hi (k := 0) (by omega), part_out lo hi (k := 2) (by omega), part_out lo hi (k := 3) (by omega)]
    simp
  · have hk : n / 64 = 2 := by omega
    rw [part_in (by omega) (by omega) hk, part_out lo hi (k := 0) (by omega), part_out lo hi (k := 1) (by omega), part_out lo hi (k := 3) (by omega)]
    simp
  · have hk : n / 64 = 3 := by omega
    rw [part_in (by omega) (by omega) hk, part_out lo hi (k := 0) (by omega), part_out lo hi (k := 1) (by omega), part_out lo hi (k := 2) (by omega)]
    simp
  · rw [part_out lo hi (k := 0) (by omega), part_out lo hi (k := 1) (by omega), part_out lo hi (k := 2) (by omega), part_out lo hi (k := 3) (by omega)]
    simp
  · have e : row4 (fun i => decide (lo ≤ i ∧ i ≤ hi)) = row4 (part lo hi n) := row4_congr fun i hi => by
      simp only [part]
      rw [Bool.eq_iff_iff]
      simp only [decide_eq_true_eq]
      omega
    rw [e]
    simp [row4]
@[simp] theorem row4_g0 (p : Nat → Bool) : (row4 p)[0]? = some (.lit (.int .u64 (wd p 0))) := rfl
@[simp] theorem row4_g1 (p : Nat → Bool) : (row4 p)[1]? = some (.lit (.int .u64 (wd p 1))) := rfl
@[simp] theorem row4_g2 (p : Nat → Bool) : (row4 p)[2]? = some (.lit (.int .u64 (wd p 2))) := rfl
@[simp] theorem row4_g3 (p : Nat → Bool) : (row4 p)[3]? = some (.lit (.int .u64 (wd p 3))) := rfl
def wq (p p' : Nat → Bool) (n k : Nat) : D := .lit (.int .u64 (wd (if k < n then p' else p) k))
theorem c91 (p q : Nat → Bool) : Holds Try.prog 91 [A.agg (row4 p), A.agg (row4 q)] [] (Ret (.agg (row4 fun i => p i || q i))) := by
  refine w91 (row4 p) (row4 q) ⟨rfl, rfl, fun x a b c d => ∃ n : Nat, x = n ∧ n ≤ 4 ∧ a = wq p (fun i => p i || q i) n 0 ∧ b = wq p (fun i => p i || q i) n 1 ∧ c = wq p (fun i => p i || q i) n 2 ∧ d = wq p (fun i => p i || q i) n 3, fun x _ _ _ _ => (4 - x.toNat), ⟨0, rfl, by omega, rfl, rfl, rfl, rfl⟩, ?_, trivial⟩
  rintro x a b c d ⟨n, rfl, hn, rfl, rfl, rfl, rfl⟩
  have hor : ∀ k, gOr .u64 (wd p k : Int) (wd q k : Int) = wd (fun i => p i || q i) k := fun k => by rw [gOr_nat _ _ (wd_lt _ _) (wd_lt _ _), wd_or]
  rcases (show n = 0 ∨ n = 1 ∨ n = 2 ∨ n = 3 ∨ n = 4 by omega) with rfl | rfl | rfl | rfl | rfl
  · simp [wq, hor]; exact ⟨1, rfl, by omega, by simp⟩
  · simp [wq, hor]; exact ⟨2, rfl, by omega, by simp⟩
  · simp [wq, hor]; exact ⟨3, rfl, by omega, by simp⟩
  · simp [wq, hor]; exact ⟨4, rfl, by omega, by simp⟩
  · simp [wq, row4]
theorem c99 (p q : Nat → Bool) : Holds Try.prog 99 [A.agg (row4 p), A.agg (row4 q)] [] (Ret (.agg (row4 fun i => p i || q i))) := by
  refine w99 (row4 p) (row4 q) ⟨rfl, rfl, fun x a b c d => ∃ n : Nat, x = n ∧ n ≤ 4 ∧ a = wq p (fun i => p i || q i) n 0 ∧ b = wq p (fun i => p i || q i) n 1 ∧ c = wq p (fun i => p i || q i) n 2 ∧ d = wq p (fun i => p i || q i) n 3, fun x _ _ _ _ => (4 - x.toNat), ⟨0, rfl, by omega, rfl, rfl, rfl, rfl⟩, ?_, trivial⟩
  rintro x a b c d ⟨n, rfl, hn, rfl, rfl, rfl, rfl⟩
  have hor : ∀ k, gOr .u64 (wd p k : Int) (wd q k : Int) = wd (fun i => p i || q i) k := fun k => by rw [gOr_nat _ _ (wd_lt _ _) (wd_lt _ _), wd_or]
  rcases (show n = 0 ∨ n = 1 ∨ n = 2 ∨ n = 3 ∨ n = 4 by omega) with rfl | rfl | rfl | rfl | rfl
  · simp [wq, hor]; exact ⟨1, rfl, by omega, by simp⟩
  · simp [wq, hor]; exact ⟨2, rfl, by omega, by simp⟩
  · simp [wq, hor]; exact ⟨3, rfl, by omega, by simp⟩
  · simp [wq, hor]; exact ⟨4, rfl, by omega, by simp⟩
  · simp [wq, row4]
theorem c92 (p : Nat → Bool) : Holds Try.prog 92 [A.agg (row4 p)] [] (Ret (.agg (row4 fun i => !p i))) := by
  refine w92 (row4 p) ⟨rfl, fun x a b c d => ∃ n : Nat, x = n ∧ n ≤ 4 ∧ a = wq p (fun i => !p i) n 0 ∧ b = wq p (fun i => !p i) n 1 ∧ c = wq p (fun i => !p i) n 2 ∧ d = wq p (fun i => !p i) n 3, fun x _ _ _ _ => (4 - x.toNat), ⟨0, rfl, by omega, rfl, rfl, rfl, rfl⟩, ?_, trivial⟩
  rintro x a b c d ⟨n, rfl, hn, rfl, rfl, rfl, rfl⟩
  have hor : ∀ k, gNot .u64 (wd p k : Int) = wd (fun i => !p i) k := fun k => by rw [gNot_nat _ (wd_lt _ _), wd_not]
  rcases (show n = 0 ∨ n = 1 ∨ n = 2 ∨ n = 3 ∨ n = 4 by omega) with rfl | rfl | rfl | rfl | rfl
  · simp [wq, hor]; exact ⟨1, rfl, by omega, by simp⟩
  · simp [wq, hor]; exact ⟨2, rfl, by omega, by simp⟩
  · simp [wq, hor]; exact ⟨3, rfl, by omega, by simp⟩
  · simp [wq, hor]; exact ⟨4, rfl, by omega, by simp⟩
  · simp [wq, row4]
theorem c100 (p : Nat → Bool) : Holds Try.prog 100 [A.agg (row4 p)] [] (Ret (.agg (row4 fun i => !p i))) := by
  refine w100 (row4 p) ⟨rfl, fun x a b c d => ∃ n : Nat, x = n ∧ n ≤ 4 ∧ a = wq p (fun i => !p i) n 0 ∧ b = wq p (fun i => !p i) n 1 ∧ c = wq p (fun i => !p i) n 2 ∧ d = wq p (fun i => !p i) n 3, fun x _ _ _ _ => (4 - x.toNat), ⟨0, rfl, by omega, rfl, rfl, rfl, rfl⟩, ?_, trivial⟩
  rintro x a b c d ⟨n, rfl, hn, rfl, rfl, rfl, rfl⟩
  have hor : ∀ k, gNot .u64 (wd p k : Int) = wd (fun i => !p i) k := fun k => by rw [gNot_nat _ (wd_lt _ _), wd_not]
  rcases (show n = 0 ∨ n = 1 ∨ n = 2 ∨ n = 3 ∨ n = 4 by omega) with rfl | rfl | rfl | rfl | rfl
  · simp [wq, hor]; exact ⟨1, rfl, by omega, by simp⟩
  · simp [wq, hor]; exact ⟨2, rfl, by omega, by simp⟩
  · simp [wq, hor]; exact ⟨3, rfl, by omega, by simp⟩
  · simp [wq, hor]; exact ⟨4, rfl, by omega, by simp⟩
  · simp [wq, row4]
end Go.Rx
end
section
open Go Go.Proofs Go.Ab Go.Rf
set_option maxRecDepth 100000
namespace Go.Rx
def hexV (x : Nat) : Option Nat := if 48 ≤ x ∧ x ≤ 57 then some (x - 48) else if 97 ≤ x ∧ x ≤ 102 then some (x - 97 + 10) else if 65 ≤ x ∧ x ≤ 70 then some (x - 65 + 10) else none
def optI (o : Option Nat) : Int := match o with | some n => n | none => -1
theorem wrap_sub (x c : Nat) (h : x < 256) (hc : c ≤ x) : IntKind.wrap .u8 ((x : Int) - (c : Int)) = ((x - c : Nat) : Int) := by
  rw [← wrap_u8 (x - c) (by omega)]
  congr 1
  omega
theorem c103 (x : Nat) (h : x < 256) : Holds Try.prog 103 [A.d (.lit (.int .u8 x))] [] (Ret (.d (.lit (.int .i64 (optI (hexV x)))))) := by
  refine w103 x ?_
  have e48 : 48 ≤ x → IntKind.wrap .u8 ((x : Int) - 48) = ((x - 48 : Nat) : Int) := wrap_sub x 48 h
  have e97 : 97 ≤ x → IntKind.wrap .u8 ((x : Int) - 97) = ((x - 97 : Nat) : Int) := wrap_sub x 97 h
  have e65 : 65 ≤ x → IntKind.wrap .u8 ((x : Int) - 65) = ((x - 65 : Nat) : Int) := wrap_sub x 65 h
  simp only [tB_eq, decide_eq_true_eq, Bool.and_eq_true, Bool.and_eq_false_iff, decide_eq_false_iff_not, ret_iff, and_true, A.d.injEq, D.lit.injEq, Value.int.injEq, true_and]
  refine ⟨fun h0 => ?_, fun h0 => ⟨fun h1 => ?_, fun h1 => ⟨fun h2 => ?_, fun h2 => ?_⟩⟩⟩
  · rw [e48 (by omega)]
    have e : hexV x = some (x - 48) := by unfold hexV; rw [if_pos (by omega)]
    rw [e]
    exact ⟨by omega, by omega, rfl⟩
  · rw [e97 (by omega)]
    have e : hexV x = some (x - 97 + 10) := by unfold hexV; rw [if_neg (by omega), if_pos (by omega)]
    rw [e]
    exact ⟨by omega, by omega, by omega, by omega, by simp [optI]⟩
  · rw [e65 (by omega)]
    have e : hexV x = some (x - 65 + 10) := by unfold hexV; rw [if_neg (by omega), if_neg (by omega), if_pos (by omega)]
    rw [e]
    exact ⟨by omega, by omega, by omega, by omega, by simp [optI]⟩
  · have e : hexV x = none := by unfold hexV; rw [if_neg (by omega), if_neg (by omega), if_neg (by omega)]
    rw [e]; rfl
theorem c54 (b : Bool) : Holds Try.prog 54 [A.d (.lit (.bool b))] [] (Ret (.d (.lit (.int .i64 (if b then -1 else 1))))) := by
  refine w54 b ?_
  cases b <;> simp
def ctlV (x : Nat) : Option Nat := if x = 110 then some 10 else if x = 116 then some 9 else if x = 114 then some 13 else none
theorem c97 (x : Nat) (h : x < 256) : Holds Try.prog 97 [A.d (.lit (.int .u8 x))] [] (Ret (.d (.lit (.int .i64 (optI (ctlV x)))))) := by
  refine w97 x ?_
  simp only [tB_eq, beq_iff_eq, beq_eq_false_iff_ne, ret_iff, and_true, A.d.injEq, D.lit.injEq, Value.int.injEq, true_and]
  refine ⟨fun h0 => ?_, fun h0 => ⟨fun h1 => ?_, fun h1 => ⟨fun h2 => ?_, fun h2 => ?_⟩⟩⟩
  · have e : ctlV x = some 10 := by unfold ctlV; rw [if_pos (by omega)]
    rw [e]; rfl
  · have e : ctlV x = some 9 := by unfold ctlV; rw [if_neg (by omega), if_pos (by omega)]
    rw [e]; rfl
  · have e : ctlV x = some 13 := by unfold ctlV; rw [if_neg (by omega), if_neg (by omega), if_pos (by omega)]
    rw [e]; rfl
  · have e : ctlV x = none := by unfold ctlV; rw [if_neg (by omega), if_neg (by omega), if_neg (by omega)]
    rw [e]; rfl
def spcL : List UInt8 := [40, 41, 91, 93, 123, 125, 124, 42, 43, 63, 46, 92]
def spcV (x : Nat) : Bool := spcL.any fun b => b.toNat == x
theorem c87 (x : Nat) (h : x < 256) : Holds Try.prog 87 [A.d (.lit (.int .u8 x))] [] (Ret (.d (.lit (.bool (spcV x))))) := by
  refine w87 x ⟨fun y => ∃ i : Nat, y = i ∧ i ≤ 12 ∧ ∀ j < i, (spcL.getD j 0).toNat ≠ x, fun y => (12 - y.toNat), ⟨0, rfl, by omega, fun j hj => absurd hj (Nat.not_lt_zero _)⟩, ?_, trivial⟩
  rintro y ⟨i, rfl, hi, hall⟩
  have eg : gByte [40, 41, 91, 93, 123, 125, 124, 42, 43, 63, 46, 92] (i : Int) = ((spcL.getD i 0).toNat : Nat) := rfl
  simp only [eg, tB_eq, decide_eq_true_eq, decide_eq_false_iff_not, beq_iff_eq, beq_eq_false_iff_ne, Int.toNat_natCast, ret_iff, and_true, A.d.injEq, D.lit.injEq, Value.bool.injEq]
  refine ⟨fun hc => ⟨by omega, fun he => ?_, fun he => ⟨by omega, by omega, ⟨i + 1, rfl, by omega, fun j hj => ?_⟩, by omega⟩⟩, fun hc => ?_⟩
  · symm
    have hl : i < spcL.length := by show i < 12; omega
    refine List.any_eq_true.2 ⟨spcL[i], List.getElem_mem hl, ?_⟩
    have e : spcL.getD i 0 = spcL[i] := by simp [List.getD, hl]
    rw [e] at he
    simpa using Int.ofNat.inj he
  · by_cases e : j = i
    · subst e; exact fun h => he (by rw [h])
    · exact hall j (by omega)
  · symm
    refine Bool.eq_false_iff.2 fun ht => ?_
    obtain ⟨b, hb, hx⟩ := List.any_eq_true.1 ht
    obtain ⟨j, hj, rfl⟩ := List.mem_iff_getElem.1 hb
    have hj12 : j < 12 := hj
    refine hall j (by omega) ?_
    have e : spcL.getD j 0 = spcL[j]'hj := by rw [List.getD, List.getElem?_eq_getElem hj]; rfl
    exact (congrArg UInt8.toNat e).trans (eq_of_beq hx)
theorem c101 (x : Nat) (h : x < 256) : Holds Try.prog 101 [A.d (.lit (.int .u8 x))] [] (Ret (.tup [(false, [.lit (.int .u8 ((hexV x).getD 0 : Nat))]), (false, [.lit (.bool (hexV x).isSome)])])) := by
  refine w101 x ?_
  have e48 : 48 ≤ x → IntKind.wrap .u8 ((x : Int) - 48) = ((x - 48 : Nat) : Int) := wrap_sub x 48 h
  have e97 : 97 ≤ x → IntKind.wrap .u8 ((x : Int) - 97) = ((x - 97 : Nat) : Int) := wrap_sub x 97 h
  have e65 : 65 ≤ x → IntKind.wrap .u8 ((x : Int) - 65) = ((x - 65 : Nat) : Int) := wrap_sub x 65 h
  have ten : ∀ n : Nat, n < 200 → IntKind.wrap .u8 ((n : Int) + 10) = ((n + 10 : Nat) : Int) := fun n hn => wrap_u8 (n + 10) (by omega)
  simp only [tB_eq, decide_eq_true_eq, Bool.and_eq_true, Bool.and_eq_false_iff, decide_eq_false_iff_not, ret_iff, and_true]
  refine ⟨fun h0 => ?_, fun h0 => ⟨fun h1 => ?_, fun h1 => ⟨fun h2 => ?_, fun h2 => ?_⟩⟩⟩
  · rw [e48 (by omega)]
    have e : hexV x = some (x - 48) := by unfold hexV; rw [if_pos (by omega)]
    rw [e]; rfl
  · rw [e97 (by omega), ten _ (by omega)]
    have e : hexV x = some (x - 97 + 10) := by unfold hexV; rw [if_neg (by omega), if_pos (by omega)]
    rw [e]; rfl
  · rw [e65 (by omega), ten _ (by omega)]
    have e : hexV x = some (x - 65 + 10) := by unfold hexV; rw [if_neg (by omega), if_neg (by omega), if_pos (by omega)]
    rw [e]; rfl
  · have e : hexV x = none := by unfold hexV; rw [if_neg (by omega), if_neg (by omega), if_neg (by omega)]
    rw [e]; rfl
end Go.Rx
end
section
open Go Go.Proofs Go.Ab Go.Rf
set_option maxRecDepth 100000
namespace Go.Rx
def rng (lo hi : Nat) : Nat → Bool := fun i => decide (lo ≤ i ∧ i ≤ hi)
def orP (p q : Nat → Bool) : Nat → Bool := fun i => p i || q i
def clsV (x : Nat) : Option (Nat → Bool) :=
  if x = 100 then some (rng 48 57) else if x = 119 then some (orP (orP (rng 48 57) (orP (rng 97 122) (rng 65 90))) (rng 95 95)) else if x = 115 then some (orP (orP (rng 9 10) (rng 13 13)) (rng 32 32)) else none
def clsA (x : Nat) : A := .tup [(true, row4 ((clsV x).getD fun _ => false)), (false, [.lit (.bool (clsV x).isSome)])]
theorem c79' (lo hi : Nat) (h : hi < 256) (hl : lo < 256) : Holds Try.prog 79 [A.d (.lit (.int .u8 lo)), A.d (.lit (.int .u8 hi))] [] (Ret (.agg (row4 (rng lo hi)))) := c79 lo hi h hl
theorem c91' (p q : Nat → Bool) : Holds Try.prog 91 [A.agg (row4 p), A.agg (row4 q)] [] (Ret (.agg (row4 (orP p q)))) := c91 p q
theorem row4_none : row4 (fun _ => false) = [.lit (.int .u64 0), .lit (.int .u64 0), .lit (.int .u64 0), .lit (.int .u64 0)] := by
  have : ∀ k, wd (fun _ => false) k = 0 := fun k => wd_eq (by decide) fun j _ => Nat.zero_testBit j
  simp [row4, this]
theorem c80 (x : Nat) (h : x < 256) : Holds Try.prog 80 [A.d (.lit (.int .u8 x))] [] (Ret (clsA x)) := by
  refine w80 x (call1 (c79' 48 57 (by decide) (by decide)) ⟨_, rfl, rfl, rfl, fun h0 => ?_, fun h0 => ⟨fun h1 => call1 (c79' 97 122 (by decide) (by decide)) ⟨_, rfl, rfl, call1 (c79' 65 90 (by decide) (by decide)) ⟨_, rfl, rfl, call1 (c91' _ _) ⟨_, rfl, rfl, rfl, call1 (c91' _ _) ⟨_, rfl, rfl, call1 (c79' 95 95 (by decide) (by decide)) ⟨_, rfl, rfl, call1 (c91' _ _) ⟨_, rfl, rfl, rfl, ?_⟩⟩⟩⟩⟩⟩,
    fun h1 => ⟨fun h2 => call1 (c79' 9 10 (by decide) (by decide)) ⟨_, rfl, rfl, call1 (c79' 13 13 (by decide) (by decide)) ⟨_, rfl, rfl, call1 (c91' _ _) ⟨_, rfl, rfl, call1 (c79' 32 32 (by decide) (by decide)) ⟨_, rfl, rfl, call1 (c91' _ _) ⟨_, rfl, rfl, rfl, ?_⟩⟩⟩⟩⟩, fun h2 => ?_⟩⟩⟩)
  all_goals simp only [tB_eq, beq_iff_eq, beq_eq_false_iff_ne] at *
  · have e : clsV x = some (rng 48 57) := by unfold clsV; rw [if_pos (by omega)]
    simp [clsA, e]
  · have e : clsV x = some (orP (orP (rng 48 57) (orP (rng 97 122) (rng 65 90))) (rng 95 95)) := by unfold clsV; rw [if_neg (by omega), if_pos (by omega)]
    simp [clsA, e]
  · have e : clsV x = some (orP (orP (rng 9 10) (rng 13 13)) (rng 32 32)) := by unfold clsV; rw [if_neg (by omega), if_neg (by omega), if_pos (by omega)]
    simp [clsA, e]
  · have e : clsV x = none := by unfold clsV; rw [if_neg (by omega), if_neg (by omega), if_neg (by omega)]
    simp [clsA, e, row4_none]
theorem c85' (lo hi : Nat) (h : hi < 256) (hl : lo < 256) : Holds Try.prog 85 [A.d (.lit (.int .i64 lo)), A.d (.lit (.int .i64 hi))] [] (Ret (.agg (row4 (rng lo hi)))) := c85 lo hi h (by omega)
theorem c99' (p q : Nat → Bool) : Holds Try.prog 99 [A.agg (row4 p), A.agg (row4 q)] [] (Ret (.agg (row4 (orP p q)))) := c99 p q
theorem c96 (x : Nat) (h : x < 256) : Holds Try.prog 96 [A.d (.lit (.int .u8 x))] [] (Ret (clsA x)) := by
  refine w96 x ⟨fun h0 => call1 (c85' 48 57 (by decide) (by decide)) ⟨_, rfl, rfl, rfl, ?_⟩, fun h0 => ⟨fun h1 => call1 (c85' 48 57 (by decide) (by decide)) ⟨_, rfl, rfl, call1 (c85' 97 122 (by decide) (by decide)) ⟨_, rfl, rfl, call1 (c99' _ _) ⟨_, rfl, rfl, call1 (c85' 65 90 (by decide) (by decide)) ⟨_, rfl, rfl, call1 (c85' 95 95 (by decide) (by decide)) ⟨_, rfl, rfl, call1 (c99' _ _) ⟨_, rfl, rfl, call1 (c99' _ _) ⟨_, rfl, rfl, rfl, ?_⟩⟩⟩⟩⟩⟩⟩,
    fun h1 => ⟨fun h2 => call1 (c85' 32 32 (by decide) (by decide)) ⟨_, rfl, rfl, call1 (c85' 9 10 (by decide) (by decide)) ⟨_, rfl, rfl, call1 (c99' _ _) ⟨_, rfl, rfl, call1 (c85' 13 13 (by decide) (by decide)) ⟨_, rfl, rfl, call1 (c99' _ _) ⟨_, rfl, rfl, rfl, ?_⟩⟩⟩⟩⟩, fun h2 => ?_⟩⟩⟩
  all_goals simp only [tB_eq, beq_iff_eq, beq_eq_false_iff_ne] at *
  · have e : clsV x = some (rng 48 57) := by unfold clsV; rw [if_pos (by omega)]
    simp [clsA, e]
  · have e : clsV x = some (orP (orP (rng 48 57) (orP (rng 97 122) (rng 65 90))) (rng 95 95)) := by unfold clsV; rw [if_neg (by omega), if_pos (by omega)]
    simp only [clsA, e, ret_iff, and_true, Option.getD_some, Option.isSome_some]
    congr 4
    funext i
    simp only [orP]
    cases rng 48 57 i <;> cases rng 97 122 i <;> cases rng 65 90 i <;> cases rng 95 95 i <;> rfl
  · have e : clsV x = some (orP (orP (rng 9 10) (rng 13 13)) (rng 32 32)) := by unfold clsV; rw [if_neg (by omega), if_neg (by omega), if_pos (by omega)]
    simp only [clsA, e, ret_iff, and_true, Option.getD_some, Option.isSome_some]
    congr 4
    funext i
    simp only [orP]
    cases rng 9 10 i <;> cases rng 13 13 i <;> cases rng 32 32 i <;> rfl
  · have e : clsV x = none := by unfold clsV; rw [if_neg (by omega), if_neg (by omega), if_neg (by omega)]
    simp [clsA, e, row4_none]
end Go.Rx
end
section
open Go Go.Proofs Go.Ab Go.Rf
set_option maxRecDepth 100000
namespace Go.Rx
def idxV (l : List UInt8) (c : Nat) : Int := firstIdx ⟨l.toArray⟩ c.toUInt8
theorem c102 (l : List UInt8) (c : Nat) : Holds Try.prog 102 [A.d (.lit (bytesV l)), A.d (.lit (.int .u8 c))] [] (Ret (.d (.lit (.int .i64 (idxV l c))))) := by
  intro w cargs g h1 h2
  have hc : cargs = #[bytesV l, .int .u8 c] := by
    rcases cargs with ⟨cl⟩
    match cl, h1 with
    | [a, b], ⟨ha, hb, _⟩ =>
      have ha := ha .res
      have hb := hb .res
      cases ha
      cases hb
      rfl
  subst hc
  unfold CallsX
  rw [run_callFunc_extern (P := Try.prog) (f := 102) (fn := Try.f102) (e := Extern.BytealgIndexByte.indexByte) rfl (by decide) rfl rfl rfl]
  rw [bytesV, run_indexByte_string]
  refine ⟨.ret (.d (.lit (.int .i64 (idxV l c)))), [], g, ⟨rfl, rfl⟩, rfl, ?_, _, rfl, ?_, fun h => by cases h⟩
  · exact ⟨h2.box, h2.inj, h2.wr, h2.prs, h2.pr0, h2.prn, h2.up, h2.uu, h2.fr⟩
  · exact .lit _ rfl
theorem c94 (l : List UInt8) (c : Nat) : Holds Try.prog 94 [A.d (.lit (bytesV l)), A.d (.lit (.int .u8 c))] [] (Ret (.d (.lit (.int .i64 (idxV l c))))) :=
  w94 l c (call1 (c102 l c) ⟨_, rfl, rfl, by simp⟩)
theorem c83 (l : List UInt8) (c : Nat) : Holds Try.prog 83 [A.d (.lit (bytesV l)), A.d (.lit (.int .u8 c))] [] (Ret (.d (.lit (.int .i64 (idxV l c))))) :=
  w83 l c (call1 (c94 l c) ⟨_, rfl, rfl, by simp⟩)
theorem idxV_nonneg (l : List UInt8) (c : Nat) (h : c < 256) : 0 ≤ idxV l c ↔ (l.any fun b => b.toNat == c) = true := by
  unfold idxV firstIdx
  have key : ∀ b : UInt8, b = c.toUInt8 ↔ b.toNat = c := fun b => by
    constructor
    · rintro rfl; simp; omega
    · rintro rfl; simp
  split
  · rename_i i hi
    have h1 := List.find?_some hi
    have h2 := List.mem_range.1 (List.mem_of_find?_eq_some hi)
    simp only [beq_iff_eq, key] at h1
    refine ⟨fun _ => List.any_eq_true.2 ⟨_, ?_, by simpa using h1⟩, fun _ => by omega⟩
    have e : (⟨l.toArray⟩ : ByteArray)[i]! = l[i]'h2 := by
      rw [getElem!_pos _ i h2]; rfl
    rw [e]
    exact List.getElem_mem _
  · rename_i hi
    refine ⟨fun h => by omega, fun h => ?_⟩
    obtain ⟨b, hb, hx⟩ := List.any_eq_true.1 h
    obtain ⟨j, hj, rfl⟩ := List.mem_iff_getElem.1 hb
    have := List.find?_eq_none.1 hi j (List.mem_range.2 hj)
    have e : (⟨l.toArray⟩ : ByteArray)[j]! = l[j]'hj := by
      rw [getElem!_pos _ j hj]; rfl
    rw [e] at this
    simp only [beq_iff_eq, key] at this
    exact absurd (by simpa using hx) this
end Go.Rx
end
section
open Go Go.Proofs Go.Ab Go.Rf
set_option maxRecDepth 1000000
set_option maxHeartbeats 2000000
set_option linter.unusedVariables false
namespace Go.Rx
theorem w47 {R : Out → List (Ref × List A) → Prop} (x0 : List D) (h : (tB ((x0.length : Int) == (6 : Int))) = true ∧
  (Rf.isK (.int .i64) (x0.getD 0 D0)) = true ∧
  ((!((!((tB (decide ((Rf.dint (x0.getD 0 D0)) < (0 : Int)))) || (tB (decide ((5 : Int) < (Rf.dint (x0.getD 0 D0))))))) && (!(tB ((Rf.dint (x0.getD 0 D0)) == (2 : Int)))))) || (Rf.isK (.int .u64) (x0.getD 1 D0))) = true ∧
  ((!((!((tB (decide ((Rf.dint (x0.getD 0 D0)) < (0 : Int)))) || (tB (decide ((5 : Int) < (Rf.dint (x0.getD 0 D0))))))) && (!(tB ((Rf.dint (x0.getD 0 D0)) == (2 : Int)))))) || (Rf.isK (.int .u64) (x0.getD 2 D0))) = true ∧
  ((!((!((tB (decide ((Rf.dint (x0.getD 0 D0)) < (0 : Int)))) || (tB (decide ((5 : Int) < (Rf.dint (x0.getD 0 D0))))))) && (!(tB ((Rf.dint (x0.getD 0 D0)) == (2 : Int)))))) || (Rf.isK (.int .u64) (x0.getD 3 D0))) = true ∧
  ((!((!((tB (decide ((Rf.dint (x0.getD 0 D0)) < (0 : Int)))) || (tB (decide ((5 : Int) < (Rf.dint (x0.getD 0 D0))))))) && (!(tB ((Rf.dint (x0.getD 0 D0)) == (2 : Int)))))) || (Rf.isK (.int .u64) (x0.getD 4 D0))) = true ∧
  ((((tB (decide ((Rf.dint (x0.getD 0 D0)) < (0 : Int)))) || (tB (decide ((5 : Int) < (Rf.dint (x0.getD 0 D0)))))) || ((!(tB ((Rf.dint (x0.getD 0 D0)) == (2 : Int)))) && (!((tB ((Rf.dint (x0.getD 1 D0)) == (0 : Int))) && ((tB ((Rf.dint (x0.getD 2 D0)) == (0 : Int))) && ((tB ((Rf.dint (x0.getD 3 D0)) == (0 : Int))) && (tB ((Rf.dint (x0.getD 4 D0)) == (0 : Int))))))))) = true →
   R (.ret (A.d (D.lit (.int .i64 (11 : Int))))) []) ∧
  ((((tB (decide ((Rf.dint (x0.getD 0 D0)) < (0 : Int)))) || (tB (decide ((5 : Int) < (Rf.dint (x0.getD 0 D0)))))) || ((!(tB ((Rf.dint (x0.getD 0 D0)) == (2 : Int)))) && (!((tB ((Rf.dint (x0.getD 1 D0)) == (0 : Int))) && ((tB ((Rf.dint (x0.getD 2 D0)) == (0 : Int))) && ((tB ((Rf.dint (x0.getD 3 D0)) == (0 : Int))) && (tB ((Rf.dint (x0.getD 4 D0)) == (0 : Int))))))))) = false →
   (Rf.isK .slc (x0.getD 5 D0)) = true ∧
   (((((tB (decide ((Rf.dint (x0.getD 0 D0)) < (3 : Int)))) && (tB (decide ((0 : Int) < ((Rf.dlst (x0.getD 5 D0)).length : Int))))) || (((tB ((Rf.dint (x0.getD 0 D0)) == (3 : Int))) || (tB ((Rf.dint (x0.getD 0 D0)) == (4 : Int)))) && (tB (decide (((Rf.dlst (x0.getD 5 D0)).length : Int) < (2 : Int)))))) || ((tB ((Rf.dint (x0.getD 0 D0)) == (5 : Int))) && (!(tB (((Rf.dlst (x0.getD 5 D0)).length : Int) == (1 : Int)))))) = true →
    R (.ret (A.d (D.lit (.int .i64 (2 : Int))))) []) ∧
   (((((tB (decide ((Rf.dint (x0.getD 0 D0)) < (3 : Int)))) && (tB (decide ((0 : Int) < ((Rf.dlst (x0.getD 5 D0)).length : Int))))) || (((tB ((Rf.dint (x0.getD 0 D0)) == (3 : Int))) || (tB ((Rf.dint (x0.getD 0 D0)) == (4 : Int)))) && (tB (decide (((Rf.dlst (x0.getD 5 D0)).length : Int) < (2 : Int)))))) || ((tB ((Rf.dint (x0.getD 0 D0)) == (5 : Int))) && (!(tB (((Rf.dlst (x0.getD 5 D0)).length : Int) == (1 : Int)))))) = false →
    R (.ret (A.d (D.lit (.int .i64 (0 : Int))))) []))) :
    Holds Try.prog 47 [(A.agg x0)] [] R :=
  walk (c := ⟨Try.prog, 56, true, [0, 1, 2, 3, 22, 55]⟩) (op := {  }) (fn := Try.f47) (args := [.agg (.var 0)]) (K := []) (nv := 1) (depth := 6) (up := upOf []) (ρ := envOf [.r x0])
    rfl rfl rfl rfl rfl (by decide) (by decide) (by decide) (by decide) rfl (by simp [bxDen, RRef.den, upOf]) (T_of (by kernel_rfl) h)
theorem w34 {R : Out → List (Ref × List A) → Prop} (x0 : List D) (x1 : Int) (h : (tB ((x0.length : Int) == (6 : Int))) = true ∧
  ((tB (decide ((16 : Int) < x1))) = true →
   R (.ret (A.d (D.lit (.int .i64 (9 : Int))))) []) ∧
  ((tB (decide ((16 : Int) < x1))) = false →
   ∀ _ : Nat → Nat, ∃ R' : Out → List (Ref × List A) → Prop, Holds Try.prog 47 [(A.agg x0)] [] R' ∧
   (∀ v H', R' (.ret v) H' → ∃ x2 : Int, v = (A.d (D.lit (.int .i64 x2))) ∧ H' = [] ∧
    ((!(tB (x2 == (0 : Int)))) = true →
     R (.ret (A.d (D.lit (.int .i64 x2)))) []) ∧
    ((!(tB (x2 == (0 : Int)))) = false →
     ∃ (I0_0 : Int → Prop) (M0_0 : Int → Nat), I0_0 (0 : Int) ∧
     (∀ (x3 : Int) , I0_0 x3 →
      (Rf.isK .slc (x0.getD 5 D0)) = true ∧
      ((tB (decide (x3 < ((Rf.dlst (x0.getD 5 D0)).length : Int)))) = true →
       (tB (decide ((0 : Int) ≤ x3))) = true ∧
       (tB (((gAt (Rf.dlst (x0.getD 5 D0)) x3).length : Int) == (6 : Int))) = true ∧
       (tB (decide ((-9223372036854775808 : Int) ≤ (x1 + (1 : Int))))) = true ∧
       (tB (decide ((x1 + (1 : Int)) ≤ (9223372036854775807 : Int)))) = true ∧
       ∀ _ : Nat → Nat, ∃ R' : Out → List (Ref × List A) → Prop, Holds Try.prog 34 [(A.agg (gAt (Rf.dlst (x0.getD 5 D0)) x3)), (A.d (D.lit (.int .i64 (x1 + (1 : Int)))))] [] R' ∧
       (∀ v H', R' (.ret v) H' → ∃ x4 : Int, v = (A.d (D.lit (.int .i64 x4))) ∧ H' = [] ∧
        ((!(tB (x4 == (0 : Int)))) = true →
         R (.ret (A.d (D.lit (.int .i64 x4)))) []) ∧
        ((!(tB (x4 == (0 : Int)))) = false →
         (tB (decide ((-9223372036854775808 : Int) ≤ (x3 + (1 : Int))))) = true ∧
         (tB (decide ((x3 + (1 : Int)) ≤ (9223372036854775807 : Int)))) = true ∧
         I0_0 (x3 + (1 : Int)) ∧ M0_0 (x3 + (1 : Int)) < M0_0 x3)) ∧
       (∀ x4v H', R' (.pan x4v) H' → H' = [] ∧
        R (.pan x4v) [])) ∧
      ((tB (decide (x3 < ((Rf.dlst (x0.getD 5 D0)).length : Int)))) = false →
       R (.ret (A.d (D.lit (.int .i64 (0 : Int))))) [])) ∧
     True)) ∧
   (∀ x2v H', R' (.pan x2v) H' → H' = [] ∧
    R (.pan x2v) []))) :
    Holds Try.prog 34 [(A.agg x0), (A.d (D.lit (.int .i64 x1)))] [] R :=
  walk (c := ⟨Try.prog, 33, true, [0, 1, 2, 4, 5, 6, 7, 9, 13, 19, 31]⟩) (op := {  }) (fn := Try.f34) (args := [.agg (.var 0), .c (.o1 (.ci .i64) (.var 1))]) (K := []) (nv := 2) (depth := 6) (up := upOf []) (ρ := envOf [.r x0, .i x1])
    rfl rfl rfl rfl rfl (by decide) (by decide) (by decide) (by decide) rfl (by simp [bxDen, RRef.den, upOf]) (T_of (by kernel_rfl) h)
theorem w33 {R : Out → List (Ref × List A) → Prop} (x0 : List D) (x1 : Int) (h : (tB ((x0.length : Int) == (6 : Int))) = true ∧
  ((tB (decide ((16 : Int) < x1))) = true →
   R (.ret (A.d (D.lit (.int .i64 (9 : Int))))) []) ∧
  ((tB (decide ((16 : Int) < x1))) = false →
   (Rf.isK (.int .i64) (x0.getD 0 D0)) = true ∧
   ((!((!((tB (decide ((Rf.dint (x0.getD 0 D0)) < (0 : Int)))) || (tB (decide ((5 : Int) < (Rf.dint (x0.getD 0 D0))))))) && (!(tB ((Rf.dint (x0.getD 0 D0)) == (2 : Int)))))) || (Rf.isK (.int .u64) (x0.getD 1 D0))) = true ∧
   ((!((!((tB (decide ((Rf.dint (x0.getD 0 D0)) < (0 : Int)))) || (tB (decide ((5 : Int) < (Rf.dint (x0.getD 0 D0))))))) && (!(tB ((Rf.dint (x0.getD 0 D0)) == (2 : Int)))))) || (Rf.isK (.int .u64) (x0.getD 2 D0))) = true ∧
   ((!((!((tB (decide ((Rf.dint (x0.getD 0 D0)) < (0 : Int)))) || (tB (decide ((5 : Int) < (Rf.dint (x0.getD 0 D0))))))) && (!(tB ((Rf.dint (x0.getD 0 D0)) == (2 : Int)))))) || (Rf.isK (.int .u64) (x0.getD 3 D0))) = true ∧
   ((!((!((tB (decide ((Rf.dint (x0.getD 0 D0)) < (0 : Int)))) || (tB (decide ((5 : Int) < (Rf.dint (x0.getD 0 D0))))))) && (!(tB ((Rf.dint (x0.getD 0 D0)) == (2 : Int)))))) || (Rf.isK (.int .u64) (x0.getD 4 D0))) = true ∧
   ((((tB (decide ((Rf.dint (x0.getD 0 D0)) < (0 : Int)))) || (tB (decide ((5 : Int) < (Rf.dint (x0.getD 0 D0)))))) || ((!(tB ((Rf.dint (x0.getD 0 D0)) == (2 : Int)))) && (!((tB ((Rf.dint (x0.getD 1 D0)) == (0 : Int))) && ((tB ((Rf.dint (x0.getD 2 D0)) == (0 : Int))) && ((tB ((Rf.dint (x0.getD 3 D0)) == (0 : Int))) && (tB ((Rf.dint (x0.getD 4 D0)) == (0 : Int))))))))) = true →
    R (.ret (A.d (D.lit (.int .i64 (11 : Int))))) []) ∧
   ((((tB (decide ((Rf.dint (x0.getD 0 D0)) < (0 : Int)))) || (tB (decide ((5 : Int) < (Rf.dint (x0.getD 0 D0)))))) || ((!(tB ((Rf.dint (x0.getD 0 D0)) == (2 : Int)))) && (!((tB ((Rf.dint (x0.getD 1 D0)) == (0 : Int))) && ((tB ((Rf.dint (x0.getD 2 D0)) == (0 : Int))) && ((tB ((Rf.dint (x0.getD 3 D0)) == (0 : Int))) && (tB ((Rf.dint (x0.getD 4 D0)) == (0 : Int))))))))) = false →
    (Rf.isK .slc (x0.getD 5 D0)) = true ∧
    ∃ J2_0 : Bool → Prop, (((tB ((Rf.dint (x0.getD 0 D0)) == (3 : Int))) = true →
      ((tB (decide (((Rf.dlst (x0.getD 5 D0)).length : Int) < (2 : Int)))) = true →
       R (.ret (A.d (D.lit (.int .i64 (2 : Int))))) []) ∧
      ((tB (decide (((Rf.dlst (x0.getD 5 D0)).length : Int) < (2 : Int)))) = false →
       J2_0 true)) ∧
     ((tB ((Rf.dint (x0.getD 0 D0)) == (3 : Int))) = false →
      ((tB ((Rf.dint (x0.getD 0 D0)) == (4 : Int))) = true →
       ((tB (decide (((Rf.dlst (x0.getD 5 D0)).length : Int) < (2 : Int)))) = true →
        R (.ret (A.d (D.lit (.int .i64 (2 : Int))))) []) ∧
       ((tB (decide (((Rf.dlst (x0.getD 5 D0)).length : Int) < (2 : Int)))) = false →
        J2_0 true)) ∧
      ((tB ((Rf.dint (x0.getD 0 D0)) == (4 : Int))) = false →
       ((tB ((Rf.dint (x0.getD 0 D0)) == (5 : Int))) = true →
        ((!(tB (((Rf.dlst (x0.getD 5 D0)).length : Int) == (1 : Int)))) = true →
         R (.ret (A.d (D.lit (.int .i64 (2 : Int))))) []) ∧
        ((!(tB (((Rf.dlst (x0.getD 5 D0)).length : Int) == (1 : Int)))) = false →
         J2_0 false)) ∧
       ((tB ((Rf.dint (x0.getD 0 D0)) == (5 : Int))) = false →
        ((!(tB (((Rf.dlst (x0.getD 5 D0)).length : Int) == (0 : Int)))) = true →
         R (.ret (A.d (D.lit (.int .i64 (2 : Int))))) []) ∧
        ((!(tB (((Rf.dlst (x0.getD 5 D0)).length : Int) == (0 : Int)))) = false →
         J2_0 false))))) ∧
    (∀ (x2 : Bool) , J2_0 x2 →
     ∃ (I0_0 : Int → Prop) (M0_0 : Int → Nat), I0_0 (0 : Int) ∧
     (∀ (x3 : Int) , I0_0 x3 →
      ((tB (decide (x3 < ((Rf.dlst (x0.getD 5 D0)).length : Int)))) = true →
       (tB (decide ((0 : Int) ≤ x3))) = true ∧
       (tB (((gAt (Rf.dlst (x0.getD 5 D0)) x3).length : Int) == (6 : Int))) = true ∧
       (tB (decide ((-9223372036854775808 : Int) ≤ (x1 + (1 : Int))))) = true ∧
       (tB (decide ((x1 + (1 : Int)) ≤ (9223372036854775807 : Int)))) = true ∧
       ∀ _ : Nat → Nat, ∃ R' : Out → List (Ref × List A) → Prop, Holds Try.prog 33 [(A.agg (gAt (Rf.dlst (x0.getD 5 D0)) x3)), (A.d (D.lit (.int .i64 (x1 + (1 : Int)))))] [] R' ∧
       (∀ v H', R' (.ret v) H' → ∃ x4 : Int, v = (A.d (D.lit (.int .i64 x4))) ∧ H' = [] ∧
        ((!(tB (x4 == (0 : Int)))) = true →
         R (.ret (A.d (D.lit (.int .i64 x4)))) []) ∧
        ((!(tB (x4 == (0 : Int)))) = false →
         (tB (decide ((-9223372036854775808 : Int) ≤ (x3 + (1 : Int))))) = true ∧
         (tB (decide ((x3 + (1 : Int)) ≤ (9223372036854775807 : Int)))) = true ∧
         I0_0 (x3 + (1 : Int)) ∧ M0_0 (x3 + (1 : Int)) < M0_0 x3)) ∧
       (∀ x4v H', R' (.pan x4v) H' → H' = [] ∧
        R (.pan x4v) [])) ∧
      ((tB (decide (x3 < ((Rf.dlst (x0.getD 5 D0)).length : Int)))) = false →
       R (.ret (A.d (D.lit (.int .i64 (0 : Int))))) [])) ∧
     True) ∧
    True))) :
    Holds Try.prog 33 [(A.agg x0), (A.d (D.lit (.int .i64 x1)))] [] R :=
  walk (c := ⟨Try.prog, 61, true, [0, 1, 2, 4, 5, 7, 8, 10, 29, 34, 36, 37, 41, 42, 45, 47, 48, 49, 50, 58]⟩) (op := { cuts := [16] }) (fn := Try.f33) (args := [.agg (.var 0), .c (.o1 (.ci .i64) (.var 1))]) (K := []) (nv := 2) (depth := 6) (up := upOf []) (ρ := envOf [.r x0, .i x1])
    rfl rfl rfl rfl rfl (by decide) (by decide) (by decide) (by decide) rfl (by simp [bxDen, RRef.den, upOf]) (T_of (by kernel_rfl) h)
theorem w35 {R : Out → List (Ref × List A) → Prop} (x0 : List D) (h : (tB ((x0.length : Int) == (6 : Int))) = true ∧
  (Rf.isK .slc (x0.getD 5 D0)) = true ∧
  ∃ (I0_0 : Int → Int → Prop) (M0_0 : Int → Int → Nat), I0_0 (1 : Int) (0 : Int) ∧
  (∀ (x1 : Int) (x2 : Int) , I0_0 x1 x2 →
   ((tB (decide (x2 < ((Rf.dlst (x0.getD 5 D0)).length : Int)))) = true →
    (tB (decide ((0 : Int) ≤ x2))) = true ∧
    (tB (((gAt (Rf.dlst (x0.getD 5 D0)) x2).length : Int) == (6 : Int))) = true ∧
    ∀ _ : Nat → Nat, ∃ R' : Out → List (Ref × List A) → Prop, Holds Try.prog 35 [(A.agg (gAt (Rf.dlst (x0.getD 5 D0)) x2))] [] R' ∧
    (∀ v H', R' (.ret v) H' → ∃ x3 : Int, v = (A.d (D.lit (.int .i64 x3))) ∧ H' = [] ∧
     (tB (decide ((-9223372036854775808 : Int) ≤ (x1 + x3)))) = true ∧
     (tB (decide ((x1 + x3) ≤ (9223372036854775807 : Int)))) = true ∧
     (tB (decide ((-9223372036854775808 : Int) ≤ (x2 + (1 : Int))))) = true ∧
     (tB (decide ((x2 + (1 : Int)) ≤ (9223372036854775807 : Int)))) = true ∧
     I0_0 (x1 + x3) (x2 + (1 : Int)) ∧ M0_0 (x1 + x3) (x2 + (1 : Int)) < M0_0 x1 x2) ∧
    (∀ x3v H', R' (.pan x3v) H' → H' = [] ∧
     R (.pan x3v) [])) ∧
   ((tB (decide (x2 < ((Rf.dlst (x0.getD 5 D0)).length : Int)))) = false →
    R (.ret (A.d (D.lit (.int .i64 x1)))) [])) ∧
  True) :
    Holds Try.prog 35 [(A.agg x0)] [] R :=
  walk (c := ⟨Try.prog, 19, true, [0, 1, 2, 3, 5, 7, 8, 9, 10]⟩) (op := {  }) (fn := Try.f35) (args := [.agg (.var 0)]) (K := []) (nv := 1) (depth := 5) (up := upOf []) (ρ := envOf [.r x0])
    rfl rfl rfl rfl rfl (by decide) (by decide) (by decide) (by decide) rfl (by simp [bxDen, RRef.den, upOf]) (T_of (by kernel_rfl) h)
theorem w13 {R : Out → List (Ref × List A) → Prop} (x0 : List D) (x1 : Int) (h : (tB ((x0.length : Int) == (6 : Int))) = true ∧
  ∃ (I0_0 : Int → Int → Prop) (M0_0 : Int → Int → Nat), I0_0 (1 : Int) (0 : Int) ∧
  (∀ (x2 : Int) (x3 : Int) , I0_0 x2 x3 →
   (Rf.isK .slc (x0.getD 5 D0)) = true ∧
   (((tB (decide (x3 < ((Rf.dlst (x0.getD 5 D0)).length : Int)))) && (tB (decide (x2 ≤ x1)))) = true →
    (tB (decide ((0 : Int) ≤ x3))) = true ∧
    (tB (((gAt (Rf.dlst (x0.getD 5 D0)) x3).length : Int) == (6 : Int))) = true ∧
    (tB (decide ((-9223372036854775808 : Int) ≤ (x1 - x2)))) = true ∧
    (tB (decide ((x1 - x2) ≤ (9223372036854775807 : Int)))) = true ∧
    ∀ _ : Nat → Nat, ∃ R' : Out → List (Ref × List A) → Prop, Holds Try.prog 13 [(A.agg (gAt (Rf.dlst (x0.getD 5 D0)) x3)), (A.d (D.lit (.int .i64 (x1 - x2))))] [] R' ∧
    (∀ v H', R' (.ret v) H' → ∃ x4 : Int, v = (A.d (D.lit (.int .i64 x4))) ∧ H' = [] ∧
     (tB (decide ((-9223372036854775808 : Int) ≤ (x2 + x4)))) = true ∧
     (tB (decide ((x2 + x4) ≤ (9223372036854775807 : Int)))) = true ∧
     (tB (decide ((-9223372036854775808 : Int) ≤ (x3 + (1 : Int))))) = true ∧
     (tB (decide ((x3 + (1 : Int)) ≤ (9223372036854775807 : Int)))) = true ∧
     I0_0 (x2 + x4) (x3 + (1 : Int)) ∧ M0_0 (x2 + x4) (x3 + (1 : Int)) < M0_0 x2 x3) ∧
    (∀ x4v H', R' (.pan x4v) H' → H' = [] ∧
     R (.pan x4v) [])) ∧
   (((tB (decide (x3 < ((Rf.dlst (x0.getD 5 D0)).length : Int)))) && (tB (decide (x2 ≤ x1)))) = false →
    R (.ret (A.d (D.lit (.int .i64 x2)))) [])) ∧
  True) :
    Holds Try.prog 13 [(A.agg x0), (A.d (D.lit (.int .i64 x1)))] [] R :=
  walk (c := ⟨Try.prog, 31, true, [0, 1, 2, 4, 5, 6, 16]⟩) (op := {  }) (fn := Try.f13) (args := [.agg (.var 0), .c (.o1 (.ci .i64) (.var 1))]) (K := []) (nv := 2) (depth := 5) (up := upOf []) (ρ := envOf [.r x0, .i x1])
    rfl rfl rfl rfl rfl (by decide) (by decide) (by decide) (by decide) rfl (by simp [bxDen, RRef.den, upOf]) (T_of (by kernel_rfl) h)
theorem w15 {R : Out → List (Ref × List A) → Prop} (x0 : List D) (h : (tB ((x0.length : Int) == (6 : Int))) = true ∧
  ∀ _ : Nat → Nat, ∃ R' : Out → List (Ref × List A) → Prop, Holds Try.prog 33 [(A.agg x0), (A.d (D.lit (.int .i64 (1 : Int))))] [] R' ∧
  (∀ v H', R' (.ret v) H' → ∃ x1 : Int, v = (A.d (D.lit (.int .i64 x1))) ∧ H' = [] ∧
   R (.ret (A.d (D.lit (.int .i64 x1)))) []) ∧
  (∀ x1v H', R' (.pan x1v) H' → H' = [] ∧
   R (.pan x1v) [])) :
    Holds Try.prog 15 [(A.agg x0)] [] R :=
  walk (c := ⟨Try.prog, 5, true, [0, 1, 2]⟩) (op := {  }) (fn := Try.f15) (args := [.agg (.var 0)]) (K := []) (nv := 1) (depth := 3) (up := upOf []) (ρ := envOf [.r x0])
    rfl rfl rfl rfl rfl (by decide) (by decide) (by decide) (by decide) rfl (by simp [bxDen, RRef.den, upOf]) (T_of (by kernel_rfl) h)
theorem w16 {R : Out → List (Ref × List A) → Prop} (x0 : List D) (h : (tB ((x0.length : Int) == (6 : Int))) = true ∧
  ∀ _ : Nat → Nat, ∃ R' : Out → List (Ref × List A) → Prop, Holds Try.prog 34 [(A.agg x0), (A.d (D.lit (.int .i64 (1 : Int))))] [] R' ∧
  (∀ v H', R' (.ret v) H' → ∃ x1 : Int, v = (A.d (D.lit (.int .i64 x1))) ∧ H' = [] ∧
   R (.ret (A.d (D.lit (.int .i64 x1)))) []) ∧
  (∀ x1v H', R' (.pan x1v) H' → H' = [] ∧
   R (.pan x1v) [])) :
    Holds Try.prog 16 [(A.agg x0)] [] R :=
  walk (c := ⟨Try.prog, 5, true, [0, 1, 2]⟩) (op := {  }) (fn := Try.f16) (args := [.agg (.var 0)]) (K := []) (nv := 1) (depth := 3) (up := upOf []) (ρ := envOf [.r x0])
    rfl rfl rfl rfl rfl (by decide) (by decide) (by decide) (by decide) rfl (by simp [bxDen, RRef.den, upOf]) (T_of (by kernel_rfl) h)
theorem w17 {R : Out → List (Ref × List A) → Prop} (x0 : List D) (h : (tB ((x0.length : Int) == (6 : Int))) = true ∧
  ∀ _ : Nat → Nat, ∃ R' : Out → List (Ref × List A) → Prop, Holds Try.prog 15 [(A.agg x0)] [] R' ∧
  (∀ v H', R' (.ret v) H' → ∃ x1 : Int, v = (A.d (D.lit (.int .i64 x1))) ∧ H' = [] ∧
   ((!(tB (x1 == (0 : Int)))) = true →
    R (.ret (A.d (D.lit (.int .i64 (0 : Int))))) []) ∧
   ((!(tB (x1 == (0 : Int)))) = false →
    ∀ _ : Nat → Nat, ∃ R' : Out → List (Ref × List A) → Prop, Holds Try.prog 35 [(A.agg x0)] [] R' ∧
    (∀ v H', R' (.ret v) H' → ∃ x2 : Int, v = (A.d (D.lit (.int .i64 x2))) ∧ H' = [] ∧
     R (.ret (A.d (D.lit (.int .i64 x2)))) []) ∧
    (∀ x2v H', R' (.pan x2v) H' → H' = [] ∧
     R (.pan x2v) []))) ∧
  (∀ x1v H', R' (.pan x1v) H' → H' = [] ∧
   R (.pan x1v) [])) :
    Holds Try.prog 17 [(A.agg x0)] [] R :=
  walk (c := ⟨Try.prog, 8, true, [0, 1, 2, 5]⟩) (op := {  }) (fn := Try.f17) (args := [.agg (.var 0)]) (K := []) (nv := 1) (depth := 4) (up := upOf []) (ρ := envOf [.r x0])
    rfl rfl rfl rfl rfl (by decide) (by decide) (by decide) (by decide) rfl (by simp [bxDen, RRef.den, upOf]) (T_of (by kernel_rfl) h)
theorem w18 {R : Out → List (Ref × List A) → Prop} (x0 : List D) (h : (tB ((x0.length : Int) == (6 : Int))) = true ∧
  ∀ _ : Nat → Nat, ∃ R' : Out → List (Ref × List A) → Prop, Holds Try.prog 16 [(A.agg x0)] [] R' ∧
  (∀ v H', R' (.ret v) H' → ∃ x1 : Int, v = (A.d (D.lit (.int .i64 x1))) ∧ H' = [] ∧
   ((!(tB (x1 == (0 : Int)))) = true →
    R (.ret (A.d (D.lit (.int .i64 (0 : Int))))) []) ∧
   ((!(tB (x1 == (0 : Int)))) = false →
    ∀ _ : Nat → Nat, ∃ R' : Out → List (Ref × List A) → Prop, Holds Try.prog 13 [(A.agg x0), (A.d (D.lit (.int .i64 (1099511627776 : Int))))] [] R' ∧
    (∀ v H', R' (.ret v) H' → ∃ x2 : Int, v = (A.d (D.lit (.int .i64 x2))) ∧ H' = [] ∧
     R (.ret (A.d (D.lit (.int .i64 x2)))) []) ∧
    (∀ x2v H', R' (.pan x2v) H' → H' = [] ∧
     R (.pan x2v) []))) ∧
  (∀ x1v H', R' (.pan x1v) H' → H' = [] ∧
   R (.pan x1v) [])) :
    Holds Try.prog 18 [(A.agg x0)] [] R :=
  walk (c := ⟨Try.prog, 8, true, [0, 1, 2, 5]⟩) (op := {  }) (fn := Try.f18) (args := [.agg (.var 0)]) (K := []) (nv := 1) (depth := 4) (up := upOf []) (ρ := envOf [.r x0])
    rfl rfl rfl rfl rfl (by decide) (by decide) (by decide) (by decide) rfl (by simp [bxDen, RRef.den, upOf]) (T_of (by kernel_rfl) h)
theorem w22 {R : Out → List (Ref × List A) → Prop} (x0 : List D) (h : (tB ((x0.length : Int) == (6 : Int))) = true ∧
  ∀ _ : Nat → Nat, ∃ R' : Out → List (Ref × List A) → Prop, Holds Try.prog 13 [(A.agg x0), (A.d (D.lit (.int .i64 (12 : Int))))] [] R' ∧
  (∀ v H', R' (.ret v) H' → ∃ x1 : Int, v = (A.d (D.lit (.int .i64 x1))) ∧ H' = [] ∧
   R (.ret (A.d (D.lit (.bool (tB (decide (x1 ≤ (12 : Int)))))))) []) ∧
  (∀ x1v H', R' (.pan x1v) H' → H' = [] ∧
   R (.pan x1v) [])) :
    Holds Try.prog 22 [(A.agg x0)] [] R :=
  walk (c := ⟨Try.prog, 6, true, [0, 1, 2]⟩) (op := {  }) (fn := Try.f22) (args := [.agg (.var 0)]) (K := []) (nv := 1) (depth := 3) (up := upOf []) (ρ := envOf [.r x0])
    rfl rfl rfl rfl rfl (by decide) (by decide) (by decide) (by decide) rfl (by simp [bxDen, RRef.den, upOf]) (T_of (by kernel_rfl) h)
theorem w23 {R : Out → List (Ref × List A) → Prop} (x0 : List D) (h : (tB ((x0.length : Int) == (6 : Int))) = true ∧
  ∃ (I0_0 : Int → Int → Prop) (M0_0 : Int → Int → Nat), I0_0 (0 : Int) (0 : Int) ∧
  (∀ (x1 : Int) (x2 : Int) , I0_0 x1 x2 →
   (Rf.isK .slc (x0.getD 5 D0)) = true ∧
   ((tB (decide (x2 < ((Rf.dlst (x0.getD 5 D0)).length : Int)))) = true →
    (tB (decide ((0 : Int) ≤ x2))) = true ∧
    (tB (((gAt (Rf.dlst (x0.getD 5 D0)) x2).length : Int) == (6 : Int))) = true ∧
    ∀ _ : Nat → Nat, ∃ R' : Out → List (Ref × List A) → Prop, Holds Try.prog 23 [(A.agg (gAt (Rf.dlst (x0.getD 5 D0)) x2))] [] R' ∧
    (∀ v H', R' (.ret v) H' → ∃ x3 : Int, v = (A.d (D.lit (.int .i64 x3))) ∧ H' = [] ∧
     (tB (decide ((-9223372036854775808 : Int) ≤ (x2 + (1 : Int))))) = true ∧
     (tB (decide ((x2 + (1 : Int)) ≤ (9223372036854775807 : Int)))) = true ∧
     I0_0 (gMax x1 x3) (x2 + (1 : Int)) ∧ M0_0 (gMax x1 x3) (x2 + (1 : Int)) < M0_0 x1 x2) ∧
    (∀ x3v H', R' (.pan x3v) H' → H' = [] ∧
     R (.pan x3v) [])) ∧
   ((tB (decide (x2 < ((Rf.dlst (x0.getD 5 D0)).length : Int)))) = false →
    (tB (decide ((-9223372036854775808 : Int) ≤ (x1 + (1 : Int))))) = true ∧
    (tB (decide ((x1 + (1 : Int)) ≤ (9223372036854775807 : Int)))) = true ∧
    R (.ret (A.d (D.lit (.int .i64 (x1 + (1 : Int)))))) [])) ∧
  True) :
    Holds Try.prog 23 [(A.agg x0)] [] R :=
  walk (c := ⟨Try.prog, 22, true, [0, 1, 2, 3, 4, 9]⟩) (op := {  }) (fn := Try.f23) (args := [.agg (.var 0)]) (K := []) (nv := 1) (depth := 5) (up := upOf []) (ρ := envOf [.r x0])
    rfl rfl rfl rfl rfl (by decide) (by decide) (by decide) (by decide) rfl (by simp [bxDen, RRef.den, upOf]) (T_of (by kernel_rfl) h)
theorem w42 {R : Out → List (Ref × List A) → Prop} (x0 : List D) (h : (tB ((x0.length : Int) == (6 : Int))) = true ∧
  (Rf.isK (.int .i64) (x0.getD 0 D0)) = true ∧
  ((tB ((Rf.dint (x0.getD 0 D0)) == (1 : Int))) = true →
   R (.ret (A.d (D.lit (.bool true)))) []) ∧
  ((tB ((Rf.dint (x0.getD 0 D0)) == (1 : Int))) = false →
   ((tB ((Rf.dint (x0.getD 0 D0)) == (5 : Int))) = true →
    R (.ret (A.d (D.lit (.bool true)))) []) ∧
   ((tB ((Rf.dint (x0.getD 0 D0)) == (5 : Int))) = false →
    ((tB ((Rf.dint (x0.getD 0 D0)) == (3 : Int))) = true →
     (Rf.isK .slc (x0.getD 5 D0)) = true ∧
     ∃ (I0_0 : Int → Prop) (M0_0 : Int → Nat), I0_0 (0 : Int) ∧
     (∀ (x1 : Int) , I0_0 x1 →
      ((tB (decide (x1 < ((Rf.dlst (x0.getD 5 D0)).length : Int)))) = true →
       (tB (decide ((0 : Int) ≤ x1))) = true ∧
       (tB (((gAt (Rf.dlst (x0.getD 5 D0)) x1).length : Int) == (6 : Int))) = true ∧
       ∀ _ : Nat → Nat, ∃ R' : Out → List (Ref × List A) → Prop, Holds Try.prog 42 [(A.agg (gAt (Rf.dlst (x0.getD 5 D0)) x1))] [] R' ∧
       (∀ v H', R' (.ret v) H' → ∃ x2 : Bool, v = (A.d (D.lit (.bool x2))) ∧ H' = [] ∧
        ((!x2) = true →
         R (.ret (A.d (D.lit (.bool false)))) []) ∧
        ((!x2) = false →
         (tB (decide ((-9223372036854775808 : Int) ≤ (x1 + (1 : Int))))) = true ∧
         (tB (decide ((x1 + (1 : Int)) ≤ (9223372036854775807 : Int)))) = true ∧
         I0_0 (x1 + (1 : Int)) ∧ M0_0 (x1 + (1 : Int)) < M0_0 x1)) ∧
       (∀ x2v H', R' (.pan x2v) H' → H' = [] ∧
        R (.pan x2v) [])) ∧
      ((tB (decide (x1 < ((Rf.dlst (x0.getD 5 D0)).length : Int)))) = false →
       R (.ret (A.d (D.lit (.bool true)))) [])) ∧
     True) ∧
    ((tB ((Rf.dint (x0.getD 0 D0)) == (3 : Int))) = false →
     ((tB ((Rf.dint (x0.getD 0 D0)) == (4 : Int))) = true →
      (Rf.isK .slc (x0.getD 5 D0)) = true ∧
      ∃ (I0_0 : Int → Prop) (M0_0 : Int → Nat), I0_0 (0 : Int) ∧
      (∀ (x1 : Int) , I0_0 x1 →
       ((tB (decide (x1 < ((Rf.dlst (x0.getD 5 D0)).length : Int)))) = true →
        (tB (decide ((0 : Int) ≤ x1))) = true ∧
        (tB (((gAt (Rf.dlst (x0.getD 5 D0)) x1).length : Int) == (6 : Int))) = true ∧
        ∀ _ : Nat → Nat, ∃ R' : Out → List (Ref × List A) → Prop, Holds Try.prog 42 [(A.agg (gAt (Rf.dlst (x0.getD 5 D0)) x1))] [] R' ∧
        (∀ v H', R' (.ret v) H' → ∃ x2 : Bool, v = (A.d (D.lit (.bool x2))) ∧ H' = [] ∧
         (x2 = true →
          R (.ret (A.d (D.lit (.bool true)))) []) ∧
         (x2 = false →
          (tB (decide ((-9223372036854775808 : Int) ≤ (x1 + (1 : Int))))) = true ∧
          (tB (decide ((x1 + (1 : Int)) ≤ (9223372036854775807 : Int)))) = true ∧
          I0_0 (x1 + (1 : Int)) ∧ M0_0 (x1 + (1 : Int)) < M0_0 x1)) ∧
        (∀ x2v H', R' (.pan x2v) H' → H' = [] ∧
         R (.pan x2v) [])) ∧
       ((tB (decide (x1 < ((Rf.dlst (x0.getD 5 D0)).length : Int)))) = false →
        R (.ret (A.d (D.lit (.bool false)))) [])) ∧
      True) ∧
     ((tB ((Rf.dint (x0.getD 0 D0)) == (4 : Int))) = false →
      R (.ret (A.d (D.lit (.bool false)))) []))))) :
    Holds Try.prog 42 [(A.agg x0)] [] R :=
  walk (c := ⟨Try.prog, 37, true, [0, 1, 2, 4, 6, 8, 9, 12, 15, 16, 17, 18, 23, 25, 28, 29, 30, 31, 35]⟩) (op := {  }) (fn := Try.f42) (args := [.agg (.var 0)]) (K := []) (nv := 1) (depth := 6) (up := upOf []) (ρ := envOf [.r x0])
    rfl rfl rfl rfl rfl (by decide) (by decide) (by decide) (by decide) rfl (by simp [bxDen, RRef.den, upOf]) (T_of (by kernel_rfl) h)
theorem w43 {R : Out → List (Ref × List A) → Prop} (x0 : List D) (h : (tB ((x0.length : Int) == (6 : Int))) = true ∧
  (Rf.isK (.int .i64) (x0.getD 0 D0)) = true ∧
  ((tB ((Rf.dint (x0.getD 0 D0)) == (1 : Int))) = true →
   R (.ret (A.d (D.lit (.bool true)))) []) ∧
  ((tB ((Rf.dint (x0.getD 0 D0)) == (1 : Int))) = false →
   ((tB ((Rf.dint (x0.getD 0 D0)) == (5 : Int))) = true →
    R (.ret (A.d (D.lit (.bool true)))) []) ∧
   ((tB ((Rf.dint (x0.getD 0 D0)) == (5 : Int))) = false →
    ((tB ((Rf.dint (x0.getD 0 D0)) == (3 : Int))) = true →
     ∃ (I0_0 : Int → Prop) (M0_0 : Int → Nat), I0_0 (0 : Int) ∧
     (∀ (x1 : Int) , I0_0 x1 →
      (Rf.isK .slc (x0.getD 5 D0)) = true ∧
      ((tB (decide (x1 < ((Rf.dlst (x0.getD 5 D0)).length : Int)))) = true →
       (tB (decide ((0 : Int) ≤ x1))) = true ∧
       (tB (((gAt (Rf.dlst (x0.getD 5 D0)) x1).length : Int) == (6 : Int))) = true ∧
       ∀ _ : Nat → Nat, ∃ R' : Out → List (Ref × List A) → Prop, Holds Try.prog 43 [(A.agg (gAt (Rf.dlst (x0.getD 5 D0)) x1))] [] R' ∧
       (∀ v H', R' (.ret v) H' → ∃ x2 : Bool, v = (A.d (D.lit (.bool x2))) ∧ H' = [] ∧
        ((!x2) = true →
         R (.ret (A.d (D.lit (.bool false)))) []) ∧
        ((!x2) = false →
         (tB (decide ((-9223372036854775808 : Int) ≤ (x1 + (1 : Int))))) = true ∧
         (tB (decide ((x1 + (1 : Int)) ≤ (9223372036854775807 : Int)))) = true ∧
         I0_0 (x1 + (1 : Int)) ∧ M0_0 (x1 + (1 : Int)) < M0_0 x1)) ∧
       (∀ x2v H', R' (.pan x2v) H' → H' = [] ∧
        R (.pan x2v) [])) ∧
      ((tB (decide (x1 < ((Rf.dlst (x0.getD 5 D0)).length : Int)))) = false →
       R (.ret (A.d (D.lit (.bool true)))) [])) ∧
     True) ∧
    ((tB ((Rf.dint (x0.getD 0 D0)) == (3 : Int))) = false →
     ((tB ((Rf.dint (x0.getD 0 D0)) == (4 : Int))) = true →
      ∃ (I0_0 : Int → Prop) (M0_0 : Int → Nat), I0_0 (0 : Int) ∧
      (∀ (x1 : Int) , I0_0 x1 →
       (Rf.isK .slc (x0.getD 5 D0)) = true ∧
       ((tB (decide (x1 < ((Rf.dlst (x0.getD 5 D0)).length : Int)))) = true →
        (tB (decide ((0 : Int) ≤ x1))) = true ∧
        (tB (((gAt (Rf.dlst (x0.getD 5 D0)) x1).length : Int) == (6 : Int))) = true ∧
        ∀ _ : Nat → Nat, ∃ R' : Out → List (Ref × List A) → Prop, Holds Try.prog 43 [(A.agg (gAt (Rf.dlst (x0.getD 5 D0)) x1))] [] R' ∧
        (∀ v H', R' (.ret v) H' → ∃ x2 : Bool, v = (A.d (D.lit (.bool x2))) ∧ H' = [] ∧
         (x2 = true →
          R (.ret (A.d (D.lit (.bool true)))) []) ∧
         (x2 = false →
          (tB (decide ((-9223372036854775808 : Int) ≤ (x1 + (1 : Int))))) = true ∧
          (tB (decide ((x1 + (1 : Int)) ≤ (9223372036854775807 : Int)))) = true ∧
          I0_0 (x1 + (1 : Int)) ∧ M0_0 (x1 + (1 : Int)) < M0_0 x1)) ∧
        (∀ x2v H', R' (.pan x2v) H' → H' = [] ∧
         R (.pan x2v) [])) ∧
       ((tB (decide (x1 < ((Rf.dlst (x0.getD 5 D0)).length : Int)))) = false →
        R (.ret (A.d (D.lit (.bool false)))) [])) ∧
      True) ∧
     ((tB ((Rf.dint (x0.getD 0 D0)) == (4 : Int))) = false →
      R (.ret (A.d (D.lit (.bool false)))) []))))) :
    Holds Try.prog 43 [(A.agg x0)] [] R :=
  walk (c := ⟨Try.prog, 41, true, [0, 1, 2, 3, 4, 6, 7, 10, 16, 25, 26, 32, 40]⟩) (op := {  }) (fn := Try.f43) (args := [.agg (.var 0)]) (K := []) (nv := 1) (depth := 6) (up := upOf []) (ρ := envOf [.r x0])
    rfl rfl rfl rfl rfl (by decide) (by decide) (by decide) (by decide) rfl (by simp [bxDen, RRef.den, upOf]) (T_of (by kernel_rfl) h)
theorem w26 {R : Out → List (Ref × List A) → Prop} (x0 : List D) (h : (tB ((x0.length : Int) == (6 : Int))) = true ∧
  ∀ _ : Nat → Nat, ∃ R' : Out → List (Ref × List A) → Prop, Holds Try.prog 15 [(A.agg x0)] [] R' ∧
  (∀ v H', R' (.ret v) H' → ∃ x1 : Int, v = (A.d (D.lit (.int .i64 x1))) ∧ H' = [] ∧
   ((tB (x1 == (0 : Int))) = true →
    ∀ _ : Nat → Nat, ∃ R' : Out → List (Ref × List A) → Prop, Holds Try.prog 42 [(A.agg x0)] [] R' ∧
    (∀ v H', R' (.ret v) H' → ∃ x2 : Bool, v = (A.d (D.lit (.bool x2))) ∧ H' = [] ∧
     R (.ret (A.d (D.lit (.bool x2)))) []) ∧
    (∀ x2v H', R' (.pan x2v) H' → H' = [] ∧
     R (.pan x2v) [])) ∧
   ((tB (x1 == (0 : Int))) = false →
    R (.ret (A.d (D.lit (.bool false)))) [])) ∧
  (∀ x1v H', R' (.pan x1v) H' → H' = [] ∧
   R (.pan x1v) [])) :
    Holds Try.prog 26 [(A.agg x0)] [] R :=
  walk (c := ⟨Try.prog, 10, true, [0, 1, 2]⟩) (op := {  }) (fn := Try.f26) (args := [.agg (.var 0)]) (K := []) (nv := 1) (depth := 4) (up := upOf []) (ρ := envOf [.r x0])
    rfl rfl rfl rfl rfl (by decide) (by decide) (by decide) (by decide) rfl (by simp [bxDen, RRef.den, upOf]) (T_of (by kernel_rfl) h)
theorem w27 {R : Out → List (Ref × List A) → Prop} (x0 : List D) (h : (tB ((x0.length : Int) == (6 : Int))) = true ∧
  ∀ _ : Nat → Nat, ∃ R' : Out → List (Ref × List A) → Prop, Holds Try.prog 16 [(A.agg x0)] [] R' ∧
  (∀ v H', R' (.ret v) H' → ∃ x1 : Int, v = (A.d (D.lit (.int .i64 x1))) ∧ H' = [] ∧
   ((tB (x1 == (0 : Int))) = true →
    ∀ _ : Nat → Nat, ∃ R' : Out → List (Ref × List A) → Prop, Holds Try.prog 43 [(A.agg x0)] [] R' ∧
    (∀ v H', R' (.ret v) H' → ∃ x2 : Bool, v = (A.d (D.lit (.bool x2))) ∧ H' = [] ∧
     R (.ret (A.d (D.lit (.bool x2)))) []) ∧
    (∀ x2v H', R' (.pan x2v) H' → H' = [] ∧
     R (.pan x2v) [])) ∧
   ((tB (x1 == (0 : Int))) = false →
    R (.ret (A.d (D.lit (.bool false)))) [])) ∧
  (∀ x1v H', R' (.pan x1v) H' → H' = [] ∧
   R (.pan x1v) [])) :
    Holds Try.prog 27 [(A.agg x0)] [] R :=
  walk (c := ⟨Try.prog, 10, true, [0, 1, 2]⟩) (op := {  }) (fn := Try.f27) (args := [.agg (.var 0)]) (K := []) (nv := 1) (depth := 4) (up := upOf []) (ρ := envOf [.r x0])
    rfl rfl rfl rfl rfl (by decide) (by decide) (by decide) (by decide) rfl (by simp [bxDen, RRef.den, upOf]) (T_of (by kernel_rfl) h)
end Go.Rx
end
section
open Go Go.Proofs Go.Ab Go.Rf
set_option maxRecDepth 100000
namespace Go.Rx
def nodeErr (r : Rx) : Int :=
  if r.kind < 0 ∨ 5 < r.kind ∨ (r.kind ≠ 2 ∧ ¬ (r.w 0 = 0 ∧ r.w 1 = 0 ∧ r.w 2 = 0 ∧ r.w 3 = 0)) then 11
  else if r.kind = 3 ∨ r.kind = 4 then (if r.subs.length < 2 then 2 else 0)
  else if r.kind = 5 then (if r.subs.length ≠ 1 then 2 else 0)
  else if r.subs.length ≠ 0 then 2 else 0
theorem c47 (r : Rx) : Holds Try.prog 47 [A.agg (enc r)] [] (Ret (.d (.lit (.int .i64 (nodeErr r))))) := by
  refine w47 (enc r) ?_
  have e : (0 < r.subs.length) ↔ ¬ r.subs = [] := List.length_pos_iff
  simp only [enc0, enc1, enc2, enc3, enc4, enc5, enc_length, isK_int, isK_slc, dint_int, dlst_slc, tB_eq, encs_length, ret_iff, and_true, true_and, decide_eq_true_eq, decide_eq_false_iff_not, Bool.or_true, Bool.and_eq_true, Bool.or_eq_true, Bool.not_eq_true', Bool.and_eq_false_iff, Bool.or_eq_false_iff, Bool.not_eq_false', beq_iff_eq, beq_eq_false_iff_ne, A.d.injEq, D.lit.injEq, Value.int.injEq]
  refine ⟨rfl, fun h => ?_, fun h => ⟨fun h2 => ?_, fun h2 => ?_⟩⟩
  · unfold nodeErr
    rw [if_pos]
    rcases h with (h | h) | ⟨h, h'⟩
    · exact .inl h
    · exact .inr (.inl h)
    · exact .inr (.inr ⟨h, by rintro ⟨a, b, c, d⟩; rcases h' with h' | h' | h' | h' <;> contradiction⟩)
  · unfold nodeErr
    rw [if_neg]
    · repeat' split
      all_goals omega
    · rintro (h' | h' | ⟨h', h''⟩)
      · exact h.1.1 h'
      · exact h.1.2 h'
      · rcases h.2 with h3 | h3
        · exact h' h3
        · exact h'' h3
  · unfold nodeErr
    rw [if_neg]
    · repeat' split
      all_goals omega
    · rintro (h' | h' | ⟨h', h''⟩)
      · exact h.1.1 h'
      · exact h.1.2 h'
      · rcases h.2 with h3 | h3
        · exact h' h3
        · exact h'' h3
mutual
def chk (lvl : Int) : Rx → Int
  | .mk k a b c d l => if 16 < lvl then 9 else if nodeErr (.mk k a b c d l) ≠ 0 then nodeErr (.mk k a b c d l) else chks (lvl + 1) l
def chks (lvl : Int) : List Rx → Int
  | [] => 0
  | r :: l => if chk lvl r ≠ 0 then chk lvl r else chks lvl l
end
theorem chk_eq (lvl : Int) (r : Rx) : chk lvl r = if 16 < lvl then 9 else if nodeErr r ≠ 0 then nodeErr r else chks (lvl + 1) r.subs := by cases r; simp only [chk, Rx.subs]
theorem chks_none {lvl : Int} : ∀ (l : List Rx), (∀ i (h : i < l.length), chk lvl l[i] = 0) → chks lvl l = 0
  | [], _ => rfl
  | r :: l, h => by
    simp only [chks]
    rw [if_neg (fun hne => hne (h 0 (Nat.succ_pos _)))]
    exact chks_none l fun i hi => h (i + 1) (Nat.succ_lt_succ hi)
theorem chks_first {lvl : Int} : ∀ (l : List Rx) (j : Nat) (hj : j < l.length), (∀ i (h : i < j), chk lvl (l[i]'(by omega)) = 0) → chk lvl l[j] ≠ 0 → chks lvl l = chk lvl l[j]
  | r :: l, 0, _, _, h => by simp only [chks]; rw [if_pos (by simpa using h)]; rfl
  | r :: l, j + 1, hj, h0, h => by
    simp only [chks]
    rw [if_neg (by simpa using h0 0 (by omega))]
    exact chks_first l j (by simpa using hj) (fun i hi => by simpa using h0 (i + 1) (by omega)) h
theorem c34 : ∀ (n : Nat) (r : Rx) (lvl : Int), size r ≤ n → lens (2 ^ 40) r → -100 ≤ lvl → lvl ≤ 100 → Holds Try.prog 34 [A.agg (enc r), A.d (.lit (.int .i64 lvl))] [] (Ret (.d (.lit (.int .i64 (chk lvl r))))) := by
  intro n
  induction n with
  | zero => intro r lvl h; have := size_pos r; omega
  | succ n ih =>
    intro r lvl hs hn h1 h2
    refine w34 (enc r) lvl ⟨by simp, fun h => ?_, fun h => ?_⟩
    · simp at h
      have e : chk lvl r = 9 := by rw [chk_eq, if_pos h]
      simp [e]
    · simp at h
      refine call1 (c47 r) ⟨nodeErr r, rfl, rfl, fun he => ?_, fun he => ?_⟩
      · simp at he
        have e : chk lvl r = nodeErr r := by rw [chk_eq, if_neg (by omega), if_pos he]
        simp [e]
      · simp at he
        have hlen : r.subs.length ≤ 2 ^ 40 := (lens_iff.1 hn).1
        refine ⟨fun x => ∃ i : Nat, x = i ∧ i ≤ r.subs.length ∧ ∀ j (hj : j < r.subs.length), j < i → chk (lvl + 1) r.subs[j] = 0, fun x => (r.subs.length - x.toNat), ⟨0, rfl, Nat.zero_le _, fun j _ hj => absurd hj (Nat.not_lt_zero _)⟩, ?_, trivial⟩
        rintro x ⟨i, rfl, hi, hall⟩
        refine ⟨by simp, fun hc => ?_, fun hc => ?_⟩
        · simp at hc
          have hsub := size_sub hc
          simp only [enc5, dlst_slc]
          rw [gAt_encs rfl hc]
          refine ⟨by simp, by simp, by simp; omega, by simp; omega, call1 (ih r.subs[i] (lvl + 1) (by omega) (lens_sub hn hc) (by omega) (by omega)) ⟨_, rfl, rfl, fun hne => ?_, fun heq => ?_⟩⟩
          · simp at hne
            have e : chk lvl r = chk (lvl + 1) r.subs[i] := by rw [chk_eq, if_neg (by omega), if_neg (by simp [he]), chks_first r.subs i hc (fun j hj => hall j (by omega) hj) hne]
            simp [e]
          · simp at heq
            refine ⟨by simp; omega, by simp; omega, ⟨i + 1, rfl, hc, fun j hj hji => ?_⟩, by simp; omega⟩
            by_cases e : j = i
            · subst e; exact heq
            · exact hall j hj (by omega)
        · simp at hc
          have e : chk lvl r = 0 := by rw [chk_eq, if_neg (by omega), if_neg (by simp [he]), chks_none r.subs fun j hj => hall j hj (by omega)]
          simp [e]
end Go.Rx
end
section
open Go Go.Proofs Go.Ab Go.Rf
set_option maxRecDepth 100000
namespace Go.Rx
theorem c33 : ∀ (n : Nat) (r : Rx) (lvl : Int), size r ≤ n → lens (2 ^ 40) r → -100 ≤ lvl → lvl ≤ 100 → Holds Try.prog 33 [A.agg (enc r), A.d (.lit (.int .i64 lvl))] [] (Ret (.d (.lit (.int .i64 (chk lvl r))))) := by
  intro n
  induction n with
  | zero => intro r lvl h; have := size_pos r; omega
  | succ n ih =>
    intro r lvl hs hn h1 h2
    refine w33 (enc r) lvl ⟨by simp, fun h => ?_, fun h => ?_⟩
    · simp at h
      have e : chk lvl r = 9 := by rw [chk_eq, if_pos h]
      simp [e]
    · simp at h
      have hbad : nodeErr r ≠ 0 → chk lvl r = nodeErr r := fun he => by rw [chk_eq, if_neg (by omega), if_pos he]
      refine ⟨by simp, by simp, by simp, by simp, by simp, fun hk => ?_, fun hk => ?_⟩
      · have e : nodeErr r = 11 := by
          simp only [enc0, enc1, enc2, enc3, enc4, dint_int, tB_eq, decide_eq_true_eq, Bool.and_eq_true, Bool.or_eq_true, Bool.not_eq_true', Bool.and_eq_false_iff, beq_iff_eq, beq_eq_false_iff_ne] at hk
          unfold nodeErr
          rw [if_pos]
          rcases hk with (h | h) | ⟨h, h'⟩
          · exact .inl h
          · exact .inr (.inl h)
          · exact .inr (.inr ⟨h, by rintro ⟨a, b, c, d⟩; rcases h' with h' | h' | h' | h' <;> contradiction⟩)
        have e2 : chk lvl r = 11 := by rw [hbad (by omega), e]
        simp [e2]
      · have e : nodeErr r = if r.kind = 3 ∨ r.kind = 4 then (if r.subs.length < 2 then 2 else 0) else if r.kind = 5 then (if r.subs.length ≠ 1 then 2 else 0) else if r.subs.length ≠ 0 then 2 else 0 := by
          simp only [enc0, enc1, enc2, enc3, enc4, dint_int, tB_eq, decide_eq_false_iff_not, Bool.and_eq_true, Bool.or_eq_false_iff, Bool.not_eq_true', Bool.and_eq_false_iff, Bool.not_eq_false', beq_iff_eq] at hk
          unfold nodeErr
          rw [if_neg]
          rintro (h' | h' | ⟨h', h''⟩)
          · exact hk.1.1 h'
          · exact hk.1.2 h'
          · rcases hk.2 with h3 | h3
            · exact h' h3
            · exact h'' h3
        have hlen : r.subs.length ≤ 2 ^ 40 := (lens_iff.1 hn).1
        refine ⟨by simp, fun _ => nodeErr r = 0, ⟨fun hk => ⟨fun hl => ?_, fun hl => ?_⟩, fun hk3 => ⟨fun hk => ⟨fun hl => ?_, fun hl => ?_⟩, fun hk4 => ⟨fun hk => ⟨fun hl => ?_, fun hl => ?_⟩, fun hk5 => ⟨fun hl => ?_, fun hl => ?_⟩⟩⟩⟩, ?_, trivial⟩
        · simp at hk hl
          have e2 : nodeErr r = 2 := by rw [e, if_pos (.inl hk), if_pos (by omega)]
          have e3 : chk lvl r = 2 := by rw [hbad (by omega), e2]
          simp [e3]
        · simp at hk hl
          rw [e, if_pos (.inl hk), if_neg (by omega)]
        · simp at hk hl
          have e2 : nodeErr r = 2 := by rw [e, if_pos (.inr hk), if_pos (by omega)]
          have e3 : chk lvl r = 2 := by rw [hbad (by omega), e2]
          simp [e3]
        · simp at hk hl
          rw [e, if_pos (.inr hk), if_neg (by omega)]
        · simp at hk3 hk4 hk hl
          have e2 : nodeErr r = 2 := by rw [e, if_neg (by omega), if_pos hk, if_pos (by omega)]
          have e3 : chk lvl r = 2 := by rw [hbad (by omega), e2]
          simp [e3]
        · simp at hk3 hk4 hk hl
          rw [e, if_neg (by omega), if_pos hk, if_neg (by omega)]
        · simp only [enc0, enc5, dint_int, dlst_slc, tB_eq, encs_length, beq_eq_false_iff_ne, Bool.not_eq_true'] at hk3 hk4 hk5 hl
          have e2 : nodeErr r = 2 := by rw [e, if_neg (by omega), if_neg hk5, if_pos (by omega)]
          have e3 : chk lvl r = 2 := by rw [hbad (by omega), e2]
          simp [e3]
        · simp only [enc0, enc5, dint_int, dlst_slc, tB_eq, encs_length, beq_eq_false_iff_ne, Bool.not_eq_false', beq_iff_eq] at hk3 hk4 hk5 hl
          rw [e, if_neg (by omega), if_neg hk5, if_neg (by omega)]
        · intro _ he
          refine ⟨fun x => ∃ i : Nat, x = i ∧ i ≤ r.subs.length ∧ ∀ j (hj : j < r.subs.length), j < i → chk (lvl + 1) r.subs[j] = 0, fun x => (r.subs.length - x.toNat), ⟨0, rfl, Nat.zero_le _, fun j _ hj => absurd hj (Nat.not_lt_zero _)⟩, ?_, trivial⟩
          rintro x ⟨i, rfl, hi, hall⟩
          refine ⟨fun hc => ?_, fun hc => ?_⟩
          · simp at hc
            have hsub := size_sub hc
            simp only [enc5, dlst_slc]
            rw [gAt_encs rfl hc]
            refine ⟨by simp, by simp, by simp; omega, by simp; omega, call1 (ih r.subs[i] (lvl + 1) (by omega) (lens_sub hn hc) (by omega) (by omega)) ⟨_, rfl, rfl, fun hne => ?_, fun heq => ?_⟩⟩
            · simp at hne
              have e : chk lvl r = chk (lvl + 1) r.subs[i] := by rw [chk_eq, if_neg (by omega), if_neg (by simp [he]), chks_first r.subs i hc (fun j hj => hall j (by omega) hj) hne]
              simp [e]
            · simp at heq
              refine ⟨by simp; omega, by simp; omega, ⟨i + 1, rfl, hc, fun j hj hji => ?_⟩, by simp; omega⟩
              by_cases e : j = i
              · subst e; exact heq
              · exact hall j hj (by omega)
          · simp at hc
            have e : chk lvl r = 0 := by rw [chk_eq, if_neg (by omega), if_neg (by simp [he]), chks_none r.subs fun j hj => hall j hj (by omega)]
            simp [e]
theorem c35 : ∀ (n : Nat) (r : Rx), size r ≤ n → n ≤ 2 ^ 40 → Holds Try.prog 35 [A.agg (enc r)] [] (Ret (.d (.lit (.int .i64 (size r))))) := by
  intro n
  induction n with
  | zero => intro r h; have := size_pos r; omega
  | succ n ih =>
    intro r hs hn
    have hlen : r.subs.length < size r := by have := sizes_ge r.subs; have := size_eq r; omega
    refine w35 (enc r) ⟨by simp, by simp, fun x y => ∃ i : Nat, y = i ∧ i ≤ r.subs.length ∧ x = 1 + sizes (r.subs.take i), fun x y => (r.subs.length - y.toNat), ⟨0, rfl, Nat.zero_le _, by simp [sizes]⟩, ?_, trivial⟩
    rintro x y ⟨i, rfl, hi, rfl⟩
    have hle := sizes_le r.subs i
    have hsz := size_eq r
    refine ⟨fun hc => ?_, fun hc => ?_⟩
    · simp at hc
      have hsub := size_sub hc
      have ht := sizes_take r.subs i hc
      have hle2 := sizes_le r.subs (i + 1)
      simp only [enc5, dlst_slc]
      rw [gAt_encs rfl hc]
      refine ⟨by simp, by simp, call1 (ih r.subs[i] (by omega) (by omega)) ⟨_, rfl, rfl, by simp; omega, by simp; omega, by simp; omega, by simp; omega, ⟨i + 1, rfl, hc, by omega⟩, by simp; omega⟩⟩
    · simp at hc
      have e : i = r.subs.length := by omega
      subst e
      simp [hsz]
theorem c13 : ∀ (n : Nat) (r : Rx) (m : Nat), size r ≤ n → m ≤ 2 ^ 40 → Holds Try.prog 13 [A.agg (enc r), A.d (.lit (.int .i64 m))] [] (Ret (.d (.lit (.int .i64 (min (size r) (m + 1) : Nat))))) := by
  intro n
  induction n with
  | zero => intro r m h; have := size_pos r; omega
  | succ n ih =>
    intro r m hs hm
    have hsz := size_eq r
    refine w13 (enc r) m ⟨by simp, fun x y => ∃ i : Nat, y = i ∧ i ≤ r.subs.length ∧ x = (min (1 + sizes (r.subs.take i)) (m + 1) : Nat) ∧ (i : Int) ≤ x, fun x y => (r.subs.length - y.toNat), ⟨0, rfl, Nat.zero_le _, by simp [sizes], by omega⟩, ?_, trivial⟩
    rintro x y ⟨i, rfl, hi, rfl, hix⟩
    have hle := sizes_le r.subs i
    refine ⟨by simp, fun hc => ?_, fun hc => ?_⟩
    · simp only [enc5, dlst_slc, encs_length, tB_eq, Bool.and_eq_true, decide_eq_true_eq] at hc
      have hc1 : i < r.subs.length := by omega
      have hsub := size_sub hc1
      have ht := sizes_take r.subs i hc1
      have hp := size_pos r.subs[i]
      simp only [enc5, dlst_slc]
      rw [gAt_encs rfl hc1]
      have e1 : (m : Int) - (min (1 + sizes (r.subs.take i)) (m + 1) : Nat) = ((m - min (1 + sizes (r.subs.take i)) (m + 1) : Nat) : Int) := by omega
      rw [e1]
      refine ⟨by simp, by simp, by simp <;> omega, by simp <;> omega, call1 (ih r.subs[i] _ (by omega) (by omega)) ⟨_, rfl, rfl, by simp only [tB_eq, decide_eq_true_eq]; omega, by simp only [tB_eq, decide_eq_true_eq]; omega, by simp only [tB_eq, decide_eq_true_eq]; omega, by simp only [tB_eq, decide_eq_true_eq]; omega, ⟨i + 1, rfl, hc1, by omega, by omega⟩, by simp only [Int.toNat_natCast]; omega⟩⟩
    · simp only [enc5, dlst_slc, encs_length, tB_eq, Bool.and_eq_false_iff, decide_eq_false_iff_not] at hc
      have e : (min (1 + sizes (r.subs.take i)) (m + 1)) = min (size r) (m + 1) := by
        rcases hc with hc | hc
        · have e : i = r.subs.length := by omega
          subst e
          simp [hsz]
        · omega
      rw [e]
      simp
end Go.Rx
end
section
open Go Go.Proofs Go.Ab Go.Rf
set_option maxRecDepth 100000
namespace Go.Rx
theorem c15 (r : Rx) (h : lens (2 ^ 40) r) : Holds Try.prog 15 [A.agg (enc r)] [] (Ret (.d (.lit (.int .i64 (chk 1 r))))) :=
  w15 (enc r) ⟨by simp, call1 (c33 _ r 1 (Nat.le_refl _) h (by omega) (by omega)) ⟨_, rfl, rfl, by simp⟩⟩
theorem c16 (r : Rx) (h : lens (2 ^ 40) r) : Holds Try.prog 16 [A.agg (enc r)] [] (Ret (.d (.lit (.int .i64 (chk 1 r))))) :=
  w16 (enc r) ⟨by simp, call1 (c34 _ r 1 (Nat.le_refl _) h (by omega) (by omega)) ⟨_, rfl, rfl, by simp⟩⟩
def sizeV (r : Rx) : Int := if chk 1 r = 0 then size r else 0
theorem c17 (r : Rx) (h : size r ≤ 2 ^ 40) : Holds Try.prog 17 [A.agg (enc r)] [] (Ret (.d (.lit (.int .i64 (sizeV r))))) := by
  refine w17 (enc r) ⟨by simp, call1 (c15 r (lens_size _ r h (Nat.le_refl _))) ⟨_, rfl, rfl, fun hc => ?_, fun hc => ?_⟩⟩
  · simp at hc; simp [sizeV, hc]
  · simp at hc; exact call1 (c35 _ r h (Nat.le_refl _)) ⟨_, rfl, rfl, by simp [sizeV, hc]⟩
theorem c18 (r : Rx) (h : size r ≤ 2 ^ 40) : Holds Try.prog 18 [A.agg (enc r)] [] (Ret (.d (.lit (.int .i64 (sizeV r))))) := by
  refine w18 (enc r) ⟨by simp, call1 (c16 r (lens_size _ r h (Nat.le_refl _))) ⟨_, rfl, rfl, fun hc => ?_, fun hc => ?_⟩⟩
  · simp at hc; simp [sizeV, hc]
  · simp at hc
    have := c13 (size r) r (2 ^ 40) (Nat.le_refl _) (Nat.le_refl _)
    have e : min (size r) (2 ^ 40 + 1) = size r := by omega
    rw [e] at this
    exact call1 this ⟨_, rfl, rfl, by simp [sizeV, hc]⟩
theorem c22 (r : Rx) : Holds Try.prog 22 [A.agg (enc r)] [] (Ret (.d (.lit (.bool (decide (size r ≤ 12)))))) := by
  have := c13 (size r) r 12 (Nat.le_refl _) (by omega)
  refine w22 (enc r) ⟨by simp, call1 this ⟨_, rfl, rfl, ?_⟩⟩
  have e : (((min (size r) 13 : Nat) : Int) ≤ 12) ↔ size r ≤ 12 := by omega
  simp only [tB_eq, ret_iff, and_true, A.d.injEq, D.lit.injEq, Value.bool.injEq, decide_eq_decide]
  exact e
mutual
def levels : Rx → Nat
  | .mk _ _ _ _ _ l => levelsL l + 1
def levelsL : List Rx → Nat
  | [] => 0
  | r :: l => max (levels r) (levelsL l)
end
theorem levels_eq (r : Rx) : levels r = levelsL r.subs + 1 := by cases r; rfl
def levelsT (l : List Rx) (i : Nat) : Nat := levelsL (l.take i)
theorem levelsL_take : ∀ (l : List Rx) (k : Nat) (h : k < l.length), levelsL (l.take (k+1)) = max (levelsL (l.take k)) (levels l[k])
  | r :: l, 0, _ => by simp [levelsL]
  | r :: l, k + 1, h => by
    have := levelsL_take l k (by simpa using h)
    simp [levelsL, this] <;> omega
mutual
theorem levels_size : ∀ r : Rx, levels r ≤ size r
  | .mk _ _ _ _ _ l => by have := levelsL_sizes l; simp only [levels, size]; omega
theorem levelsL_sizes : ∀ l : List Rx, levelsL l ≤ sizes l
  | [] => by simp [levelsL, sizes]
  | r :: l => by have := levels_size r; have := levelsL_sizes l; simp only [levelsL, sizes]; omega
end
theorem c23 : ∀ (n : Nat) (r : Rx), size r ≤ n → n ≤ 2 ^ 40 → Holds Try.prog 23 [A.agg (enc r)] [] (Ret (.d (.lit (.int .i64 (levels r))))) := by
  intro n
  induction n with
  | zero => intro r h; have := size_pos r; omega
  | succ n ih =>
    intro r hs hn
    have hlen : r.subs.length < size r := by have := sizes_ge r.subs; have := size_eq r; omega
    refine w23 (enc r) ⟨by simp, fun x y => ∃ i : Nat, y = i ∧ i ≤ r.subs.length ∧ x = levelsL (r.subs.take i), fun x y => (r.subs.length - y.toNat), ⟨0, rfl, Nat.zero_le _, by simp [levelsL]⟩, ?_, trivial⟩
    rintro x y ⟨i, rfl, hi, rfl⟩
    refine ⟨by simp, fun hc => ?_, fun hc => ?_⟩
    · simp at hc
      have hsub := size_sub hc
      have ht := levelsL_take r.subs i hc
      simp only [enc5, dlst_slc]
      rw [gAt_encs rfl hc]
      refine ⟨by simp, by simp, call1 (ih r.subs[i] (by omega) (by omega)) ⟨_, rfl, rfl, by simp; omega, by simp; omega, ⟨i + 1, rfl, hc, by rw [ht]; unfold gMax; split <;> omega⟩, by simp; omega⟩⟩
    · simp at hc
      have e : i = r.subs.length := by omega
      subst e
      have h1 := levels_eq r
      have h2 := levels_size r
      rw [List.take_length] at *
      refine ⟨by simp only [tB_eq, decide_eq_true_eq]; omega, by simp only [tB_eq, decide_eq_true_eq]; omega, by simp [h1]⟩
mutual
def null : Rx → Bool
  | .mk k _ _ _ _ l => if k = 1 ∨ k = 5 then true else if k = 3 then nullAll l else if k = 4 then nullAny l else false
def nullAll : List Rx → Bool
  | [] => true
  | r :: l => null r && nullAll l
def nullAny : List Rx → Bool
  | [] => false
  | r :: l => null r || nullAny l
end
theorem null_eq (r : Rx) : null r = if r.kind = 1 ∨ r.kind = 5 then true else if r.kind = 3 then nullAll r.subs else if r.kind = 4 then nullAny r.subs else false := by cases r; simp only [null, Rx.kind, Rx.subs]; rfl
theorem nullAll_iff : ∀ l : List Rx, nullAll l = true ↔ ∀ i (h : i < l.length), null l[i] = true
  | [] => by simp [nullAll]
  | r :: l => by
    simp only [nullAll, Bool.and_eq_true, nullAll_iff l]
    constructor
    · rintro ⟨h1, h2⟩ i hi
      cases i with
      | zero => exact h1
      | succ i => exact h2 i (by simpa using hi)
    · intro h
      exact ⟨h 0 (by simp), fun i hi => h (i + 1) (by simpa using hi)⟩
theorem nullAny_iff : ∀ l : List Rx, nullAny l = true ↔ ∃ i, ∃ h : i < l.length, null l[i] = true
  | [] => by simp [nullAny]
  | r :: l => by
    simp only [nullAny, Bool.or_eq_true, nullAny_iff l]
    constructor
    · rintro (h | ⟨i, hi, h⟩)
      · exact ⟨0, by simp, h⟩
      · exact ⟨i + 1, by simpa using hi, h⟩
    · rintro ⟨i, hi, h⟩
      cases i with
      | zero => exact .inl h
      | succ i => exact .inr ⟨i, by simpa using hi, h⟩
theorem c42 : ∀ (n : Nat) (r : Rx), size r ≤ n → lens (2 ^ 40) r → Holds Try.prog 42 [A.agg (enc r)] [] (Ret (.d (.lit (.bool (null r))))) := by
  intro n
  induction n with
  | zero => intro r h; have := size_pos r; omega
  | succ n ih =>
    intro r hs hn
    have hlen : r.subs.length ≤ 2 ^ 40 := (lens_iff.1 hn).1
    refine w42 (enc r) ⟨by simp, by simp, fun h1 => ?_, fun h1 => ⟨fun h5 => ?_, fun h5 => ⟨fun h3 => ⟨by simp, ?_⟩, fun h3 => ⟨fun h4 => ⟨by simp, ?_⟩, fun h4 => ?_⟩⟩⟩⟩
    · simp at h1; rw [null_eq]; simp [h1]
    · simp at h5; rw [null_eq]; simp [h5]
    · simp at h1 h5 h3
      have e : null r = nullAll r.subs := by rw [null_eq]; simp [h3]
      rw [e]
      refine ⟨fun x => ∃ i : Nat, x = i ∧ i ≤ r.subs.length ∧ ∀ j (hj : j < r.subs.length), j < i → null r.subs[j] = true, fun x => (r.subs.length - x.toNat), ⟨0, rfl, Nat.zero_le _, fun j _ hj => absurd hj (Nat.not_lt_zero _)⟩, ?_, trivial⟩
      rintro x ⟨i, rfl, hi, hall⟩
      refine ⟨fun hc => ?_, fun hc => ?_⟩
      · simp at hc
        have hsub := size_sub hc
        simp only [enc5, dlst_slc]
        rw [gAt_encs rfl hc]
        refine ⟨by simp, by simp, call1 (ih r.subs[i] (by omega) (lens_sub hn hc)) ⟨_, rfl, rfl, fun hne => ?_, fun heq => ?_⟩⟩
        · have e : nullAll r.subs = false := by
            rw [Bool.eq_false_iff]
            intro h
            have := (nullAll_iff _).1 h i hc
            rw [this] at hne
            cases hne
          simp [e]
        · refine ⟨by simp; omega, by simp; omega, ⟨i + 1, rfl, hc, fun j hj hji => ?_⟩, by simp; omega⟩
          by_cases e : j = i
          · subst e; simpa using heq
          · exact hall j hj (by omega)
      · simp at hc
        have e : nullAll r.subs = true := (nullAll_iff _).2 fun j hj => hall j hj (by omega)
        simp [e]
    · simp at h1 h5 h3 h4
      have e : null r = nullAny r.subs := by rw [null_eq]; simp [h4]
      rw [e]
      refine ⟨fun x => ∃ i : Nat, x = i ∧ i ≤ r.subs.length ∧ ∀ j (hj : j < r.subs.length), j < i → null r.subs[j] = false, fun x => (r.subs.length - x.toNat), ⟨0, rfl, Nat.zero_le _, fun j _ hj => absurd hj (Nat.not_lt_zero _)⟩, ?_, trivial⟩
      rintro x ⟨i, rfl, hi, hall⟩
      refine ⟨fun hc => ?_, fun hc => ?_⟩
      · simp at hc
        have hsub := size_sub hc
        simp only [enc5, dlst_slc]
        rw [gAt_encs rfl hc]
        refine ⟨by simp, by simp, call1 (ih r.subs[i] (by omega) (lens_sub hn hc)) ⟨_, rfl, rfl, fun hne => ?_, fun heq => ?_⟩⟩
        · have e : nullAny r.subs = true := (nullAny_iff _).2 ⟨i, hc, hne⟩
          simp [e]
        · refine ⟨by simp; omega, by simp; omega, ⟨i + 1, rfl, hc, fun j hj hji => ?_⟩, by simp; omega⟩
          by_cases e : j = i
          · subst e; exact heq
          · exact hall j hj (by omega)
      · simp at hc
        have e : nullAny r.subs = false := by
          rw [Bool.eq_false_iff]
          intro h
          obtain ⟨j, hj, h⟩ := (nullAny_iff _).1 h
          rw [hall j hj (by omega)] at h
          cases h
        simp [e]
    · simp at h1 h5 h3 h4
      rw [null_eq]; simp [h1, h5, h3, h4]
theorem c43 : ∀ (n : Nat) (r : Rx), size r ≤ n → lens (2 ^ 40) r → Holds Try.prog 43 [A.agg (enc r)] [] (Ret (.d (.lit (.bool (null r))))) := by
  intro n
  induction n with
  | zero => intro r h; have := size_pos r; omega
  | succ n ih =>
    intro r hs hn
    have hlen : r.subs.length ≤ 2 ^ 40 := (lens_iff.1 hn).1
    refine w43 (enc r) ⟨by simp, by simp, fun h1 => ?_, fun h1 => ⟨fun h5 => ?_, fun h5 => ⟨fun h3 => ?_, fun h3 => ⟨fun h4 => ?_, fun h4 => ?_⟩⟩⟩⟩
    · simp at h1; rw [null_eq]; simp [h1]
    · simp at h5; rw [null_eq]; simp [h5]
    · simp at h1 h5 h3
      have e : null r = nullAll r.subs := by rw [null_eq]; simp [h3]
      rw [e]
      refine ⟨fun x => ∃ i : Nat, x = i ∧ i ≤ r.subs.length ∧ ∀ j (hj : j < r.subs.length), j < i → null r.subs[j] = true, fun x => (r.subs.length - x.toNat), ⟨0, rfl, Nat.zero_le _, fun j _ hj => absurd hj (Nat.not_lt_zero _)⟩, ?_, trivial⟩
      rintro x ⟨i, rfl, hi, hall⟩
      refine ⟨by simp, fun hc => ?_, fun hc => ?_⟩
      · simp at hc
        have hsub := size_sub hc
        simp only [enc5, dlst_slc]
        rw [gAt_encs rfl hc]
        refine ⟨by simp, by simp, call1 (ih r.subs[i] (by omega) (lens_sub hn hc)) ⟨_, rfl, rfl, fun hne => ?_, fun heq => ?_⟩⟩
        · have e : nullAll r.subs = false := by
            rw [Bool.eq_false_iff]
            intro h
            have := (nullAll_iff _).1 h i hc
            rw [this] at hne
            cases hne
          simp [e]
        · refine ⟨by simp; omega, by simp; omega, ⟨i + 1, rfl, hc, fun j hj hji => ?_⟩, by simp; omega⟩
          by_cases e : j = i
          · subst e; simpa using heq
          · exact hall j hj (by omega)
      · simp at hc
        have e : nullAll r.subs = true := (nullAll_iff _).2 fun j hj => hall j hj (by omega)
        simp [e]
    · simp at h1 h5 h3 h4
      have e : null r = nullAny r.subs := by rw [null_eq]; simp [h4]
      rw [e]
      refine ⟨fun x => ∃ i : Nat, x = i ∧ i ≤ r.subs.length ∧ ∀ j (hj : j < r.subs.length), j < i → null r.subs[j] = false, fun x => (r.subs.length - x.toNat), ⟨0, rfl, Nat.zero_le _, fun j _ hj => absurd hj (Nat.not_lt_zero _)⟩, ?_, trivial⟩
      rintro x ⟨i, rfl, hi, hall⟩
      refine ⟨by simp, fun hc => ?_, fun hc => ?_⟩
      · simp at hc
        have hsub := size_sub hc
        simp only [enc5, dlst_slc]
        rw [gAt_encs rfl hc]
        refine ⟨by simp, by simp, call1 (ih r.subs[i] (by omega) (lens_sub hn hc)) ⟨_, rfl, rfl, fun hne => ?_, fun heq => ?_⟩⟩
        · have e : nullAny r.subs = true := (nullAny_iff _).2 ⟨i, hc, hne⟩
          simp [e]
        · refine ⟨by simp; omega, by simp; omega, ⟨i + 1, rfl, hc, fun j hj hji => ?_⟩, by simp; omega⟩
          by_cases e : j = i
          · subst e; exact heq
          · exact hall j hj (by omega)
      · simp at hc
        have e : nullAny r.subs = false := by
          rw [Bool.eq_false_iff]
          intro h
          obtain ⟨j, hj, h⟩ := (nullAny_iff _).1 h
          rw [hall j hj (by omega)] at h
          cases h
        simp [e]
    · simp at h1 h5 h3 h4
      rw [null_eq]; simp [h1, h5, h3, h4]
def nullV (r : Rx) : Bool := decide (chk 1 r = 0) && null r
theorem c26 (r : Rx) (h : lens (2 ^ 40) r) : Holds Try.prog 26 [A.agg (enc r)] [] (Ret (.d (.lit (.bool (nullV r))))) := by
  refine w26 (enc r) ⟨by simp, call1 (c15 r h) ⟨_, rfl, rfl, fun hc => ?_, fun hc => ?_⟩⟩
  · simp at hc; exact call1 (c42 _ r (Nat.le_refl _) h) ⟨_, rfl, rfl, by simp [nullV, hc]⟩
  · simp at hc; simp [nullV, hc]
theorem c27 (r : Rx) (h : lens (2 ^ 40) r) : Holds Try.prog 27 [A.agg (enc r)] [] (Ret (.d (.lit (.bool (nullV r))))) := by
  refine w27 (enc r) ⟨by simp, call1 (c16 r h) ⟨_, rfl, rfl, fun hc => ?_, fun hc => ?_⟩⟩
  · simp at hc; exact call1 (c43 _ r (Nat.le_refl _) h) ⟨_, rfl, rfl, by simp [nullV, hc]⟩
  · simp at hc; simp [nullV, hc]
end Go.Rx
end
section
open Go Go.Proofs Go.Ab Go.Rf
set_option maxRecDepth 100000
namespace Go.Rx
inductive Res (α : Type) where
  | ok (a : α) (t : List UInt8)
  | bad (t : List UInt8)
def hd (t : List UInt8) : Nat := match t with | [] => 0 | c :: _ => c.toNat
def escV (x : Nat) : Option Nat := match ctlV x with | some n => some n | none => if spcV x || x == 94 || x == 45 then some x else none
def hexR (lo : Nat) (t : List UInt8) : Res Nat :=
  match hexV (hd t) with
  | none => .bad t
  | some d => if d * 16 + 15 < lo then .bad t else match hexV (hd t.tail) with
    | none => .bad t.tail
    | some e => if d * 16 + e < lo then .bad t.tail else .ok (d * 16 + e) t.tail.tail
def escR (lo : Nat) (t : List UInt8) : Res Nat :=
  if hd t = 120 then hexR lo t.tail else match escV (hd t) with
    | none => .bad t
    | some n => if n < lo then .bad t else .ok n t.tail
def byteR (lo : Nat) (t : List UInt8) : Res Nat :=
  if hd t = 92 then escR lo t.tail
  else if hd t < 32 ∨ 126 < hd t ∨ hd t < lo ∨ (spcV (hd t) || hd t == 94 || hd t == 45) = true then .bad t else .ok (hd t) t.tail
def mk0 (k : Int) (l : List Rx) : Rx := .mk k 0 0 0 0 l
def setX (p : Nat → Bool) : Rx := .mk 2 (wd p 0) (wd p 1) (wd p 2) (wd p 3) []
def hiR (lo : Nat) (t : List UInt8) : Res Nat := if hd t = 45 then byteR lo t.tail else .ok lo t
def negP (neg : Bool) (p : Nat → Bool) : Nat → Bool := if neg then fun i => !p i else p
def setL : Nat → Bool → (Nat → Bool) → List UInt8 → Option (Res Rx)
  | 0, _, _, _ => none
  | n + 1, neg, p, t => match byteR 0 t with
    | .bad q => some (.bad q)
    | .ok lo t1 => match hiR lo t1 with
      | .bad q => some (.bad q)
      | .ok hi t3 => if hd t3 = 93 then some (.ok (setX (negP neg (orP p (rng lo hi)))) t3.tail) else setL n neg (orP p (rng lo hi)) t3
def no : Nat → Bool := fun _ => false
def setR (n : Nat) (t : List UInt8) : Option (Res Rx) :=
  if hd t = 94 then setL n true no t.tail else if hd t = 93 then some (.ok (mk0 0 []) t.tail) else setL n false no t
def joinX (k : Int) (l : List Rx) : Rx := match l with | [r] => r | l => mk0 k l
def starX (r : Rx) : Rx := mk0 5 [r]
def opX (c : Nat) (r : Rx) : Option Rx := if c = 42 then some (starX r) else if c = 43 then some (mk0 3 [r, starX r]) else if c = 63 then some (mk0 4 [r, mk0 1 []]) else none
def opsL : Nat → Rx → List UInt8 → Option (Res Rx)
  | 0, _, _ => none
  | n + 1, r, t => match opX (hd t) r with | some r' => opsL n r' t.tail | none => some (.ok r t)
def oneX (c : Nat) : Rx := setX (rng c c)
def closeR (r : Rx) (t : List UInt8) : Res Rx := if hd t = 41 then .ok r t.tail else .bad t
mutual
def alts : Nat → List UInt8 → Option (Res Rx)
  | 0, _ => none
  | n + 1, t => match seqs n t with
    | none => none
    | some (.bad q) => some (.bad q)
    | some (.ok r t1) => altL n [r] t1
def altL : Nat → List Rx → List UInt8 → Option (Res Rx)
  | 0, _, _ => none
  | n + 1, l, t => if hd t = 124 then (match seqs n t.tail with
    | none => none
    | some (.bad q) => some (.bad q)
    | some (.ok r t1) => altL n (l ++ [r]) t1) else some (.ok (joinX 4 l) t)
def seqs : Nat → List UInt8 → Option (Res Rx)
  | 0, _ => none
  | n + 1, t => match piece n t with
    | none => none
    | some (.bad q) => some (.bad q)
    | some (.ok r t1) => seqL n [r] t1
def seqL : Nat → List Rx → List UInt8 → Option (Res Rx)
  | 0, _, _ => none
  | n + 1, l, t => if t ≠ [] ∧ hd t ≠ 124 ∧ hd t ≠ 41 then (match piece n t with
    | none => none
    | some (.bad q) => some (.bad q)
    | some (.ok r t1) => seqL n (l ++ [r]) t1) else some (.ok (joinX 3 l) t)
def piece : Nat → List UInt8 → Option (Res Rx)
  | 0, _ => none
  | n + 1, t => match atom n t with
    | none => none
    | some (.bad q) => some (.bad q)
    | some (.ok r t1) => opsL n r t1
def atom : Nat → List UInt8 → Option (Res Rx)
  | 0, _ => none
  | n + 1, t =>
    if hd t = 40 then (if hd t.tail = 41 then some (.ok (mk0 1 []) t.tail.tail) else match alts n t.tail with
      | none => none
      | some (.bad q) => some (.bad q)
      | some (.ok r t1) => some (closeR r t1))
    else if hd t = 91 then setR n t.tail
    else if hd t = 46 then some (.ok (setX (rng 0 255)) t.tail)
    else if hd t = 92 then (match clsV (hd t.tail) with
      | some p => some (.ok (setX p) t.tail.tail)
      | none => match escR 0 t.tail with
        | .bad q => some (.bad q)
        | .ok c t1 => some (.ok (oneX c) t1))
    else if hd t < 32 ∨ 126 < hd t ∨ spcV (hd t) = true then some (.bad t)
    else some (.ok (oneX (hd t)) t.tail)
end
def Res.Lt {α : Type} (t : List UInt8) : Res α → Prop
  | .ok _ t' => t'.length < t.length ∧ t' <:+ t
  | .bad t' => t' <:+ t
def Res.Le {α : Type} (t : List UInt8) : Res α → Prop
  | .ok _ t' => t' <:+ t
  | .bad t' => t' <:+ t
theorem hd_ne {t : List UInt8} (h : hd t ≠ 0) : t.tail.length < t.length := by
  cases t with
  | nil => exact absurd rfl h
  | cons c t => simp
theorem tail_suf (t : List UInt8) : t.tail <:+ t := List.tail_suffix t
theorem hexV_ne {x d : Nat} (h : hexV x = some d) : x ≠ 0 := by
  rintro rfl; simp [hexV] at h
theorem hexR_lt (lo : Nat) (t : List UInt8) : (hexR lo t).Lt t := by
  unfold hexR
  split
  · exact List.suffix_refl _
  · rename_i d hd1
    split
    · exact List.suffix_refl _
    · split
      · exact tail_suf _
      · rename_i e he
        split
        · exact tail_suf _
        · have h1 := hd_ne (hexV_ne hd1)
          have h2 := hd_ne (hexV_ne he)
          exact ⟨by omega, (tail_suf _).trans (tail_suf _)⟩
theorem escV_ne {x d : Nat} (h : escV x = some d) : x ≠ 0 := by
  rintro rfl; revert h; simp [escV, ctlV, spcV, spcL]
theorem Res.Lt.tail {α : Type} {t : List UInt8} {r : Res α} (h : r.Lt t.tail) : r.Lt t := by
  cases r with
  | ok a t' => exact ⟨by have := h.1; have : t.tail.length ≤ t.length := by simp
                         omega, h.2.trans (tail_suf _)⟩
  | bad t' => exact List.IsSuffix.trans (show t' <:+ t.tail from h) (tail_suf _)
theorem escR_lt (lo : Nat) (t : List UInt8) : (escR lo t).Lt t := by
  unfold escR
  split
  · exact (hexR_lt _ _).tail
  · split
    · exact List.suffix_refl _
    · rename_i n hn
      split
      · exact List.suffix_refl _
      · exact ⟨hd_ne (escV_ne hn), tail_suf _⟩
theorem byteR_lt (lo : Nat) (t : List UInt8) : (byteR lo t).Lt t := by
  unfold byteR
  split
  · exact (escR_lt _ _).tail
  · split
    · exact List.suffix_refl _
    · rename_i h
      exact ⟨hd_ne (by omega), tail_suf _⟩
theorem Res.Lt.trans {α : Type} {t t' : List UInt8} {r : Res α} (h : r.Lt t') (h2 : t' <:+ t) : r.Lt t := by
  cases r with
  | ok a q => exact ⟨Nat.lt_of_lt_of_le h.1 h2.length_le, h.2.trans h2⟩
  | bad q => exact List.IsSuffix.trans (show q <:+ t' from h) h2
theorem hiR_le (lo : Nat) (t : List UInt8) : (hiR lo t).Le t := by
  unfold hiR
  split
  · have := (byteR_lt lo t.tail).tail
    cases hb : byteR lo t.tail with
    | ok a q => rw [hb] at this; exact this.2
    | bad q => rw [hb] at this; exact this
  · exact List.suffix_refl _
theorem setL_lt : ∀ (n : Nat) (neg : Bool) (p : Nat → Bool) (t : List UInt8) (r : Res Rx), setL n neg p t = some r → r.Lt t
  | 0, _, _, _, _, h => by simp [setL] at h
  | n + 1, neg, p, t, r, h => by
    unfold setL at h
    have h1 := byteR_lt 0 t
    split at h
    · rename_i q hq; rw [hq] at h1; cases h; exact h1
    · rename_i lo t1 hq
      rw [hq] at h1
      have h2 := hiR_le lo t1
      split at h
      · rename_i q hq; rw [hq] at h2; cases h; exact List.IsSuffix.trans h2 h1.2
      · rename_i hi t3 hq
        rw [hq] at h2
        have h3 : t3 <:+ t1 := h2
        split at h
        · cases h
          exact ⟨by have := h1.1; have := h3.length_le; have : t3.tail.length ≤ t3.length := by simp
                    omega, (tail_suf _).trans (h3.trans h1.2)⟩
        · exact (setL_lt n neg _ t3 r h).trans (h3.trans h1.2)
theorem setR_lt (n : Nat) (t : List UInt8) (r : Res Rx) (h : setR n t = some r) : r.Lt t := by
  unfold setR at h
  split at h
  · exact (setL_lt _ _ _ _ _ h).tail
  · split at h
    · cases h; exact ⟨hd_ne (by omega), tail_suf _⟩
    · exact setL_lt _ _ _ _ _ h
theorem opX_ne {c : Nat} {r r' : Rx} (h : opX c r = some r') : c ≠ 0 := by
  rintro rfl; simp [opX] at h
theorem opsL_le : ∀ (n : Nat) (r : Rx) (t : List UInt8) (o : Res Rx), opsL n r t = some o → o.Le t
  | 0, _, _, _, h => by simp [opsL] at h
  | n + 1, r, t, o, h => by
    unfold opsL at h
    split at h
    · rename_i r' _
      have := opsL_le n r' t.tail o h
      cases o with
      | ok a q => exact List.IsSuffix.trans this (tail_suf _)
      | bad q => exact List.IsSuffix.trans this (tail_suf _)
    · cases h; exact List.suffix_refl _
theorem Res.Lt.le {α : Type} {t : List UInt8} {r : Res α} (h : r.Lt t) : r.Le t := by
  cases r with
  | ok a q => exact h.2
  | bad q => exact h
theorem Res.Le.trans {α : Type} {t t' : List UInt8} {r : Res α} (h : r.Le t') (h2 : t' <:+ t) : r.Le t := by
  cases r with
  | ok a q => exact List.IsSuffix.trans h h2
  | bad q => exact List.IsSuffix.trans h h2
theorem Res.Le.lt {α : Type} {t t' : List UInt8} {r : Res α} (h : r.Le t') (h2 : t' <:+ t) (h3 : t'.length < t.length) : r.Lt t := by
  cases r with
  | ok a q => exact ⟨Nat.lt_of_le_of_lt (List.IsSuffix.length_le h) h3, List.IsSuffix.trans h h2⟩
  | bad q => exact List.IsSuffix.trans h h2
theorem par_lt : ∀ (n : Nat), (∀ t r, alts n t = some r → r.Lt t) ∧ (∀ l t r, altL n l t = some r → r.Le t) ∧ (∀ t r, seqs n t = some r → r.Lt t) ∧ (∀ l t r, seqL n l t = some r → r.Le t) ∧
    (∀ t r, piece n t = some r → r.Lt t) ∧ (∀ t r, atom n t = some r → r.Lt t) := by
  intro n
  induction n with
  | zero => exact ⟨fun t r h => by simp [alts] at h, fun l t r h => by simp [altL] at h, fun t r h => by simp [seqs] at h, fun l t r h => by simp [seqL] at h, fun t r h => by simp [piece] at h, fun t r h => by simp [atom] at h⟩
  | succ n ih =>
    obtain ⟨ih1, ih2, ih3, ih4, ih5, ih6⟩ := ih
    refine ⟨fun t r h => ?_, fun l t r h => ?_, fun t r h => ?_, fun l t r h => ?_, fun t r h => ?_, fun t r h => ?_⟩
    · unfold alts at h
      split at h
      · cases h
      · rename_i hq; cases h; exact ih3 _ _ hq
      · rename_i hq; have := ih3 _ _ hq; exact (ih2 _ _ _ h).lt this.2 this.1
    · unfold altL at h
      split at h
      · split at h
        · cases h
        · rename_i hq; cases h; exact (ih3 _ _ hq).tail
        · rename_i hq; have := (ih3 _ _ hq).tail; exact (ih2 _ _ _ h).trans this.2
      · cases h; exact List.suffix_refl _
    · unfold seqs at h
      split at h
      · cases h
      · rename_i hq; cases h; exact ih5 _ _ hq
      · rename_i hq; have := ih5 _ _ hq; exact (ih4 _ _ _ h).lt this.2 this.1
    · unfold seqL at h
      split at h
      · split at h
        · cases h
        · rename_i hq; cases h; exact (ih5 _ _ hq)
        · rename_i hq; have := (ih5 _ _ hq); exact (ih4 _ _ _ h).trans this.2
      · cases h; exact List.suffix_refl _
    · unfold piece at h
      split at h
      · cases h
      · rename_i hq; cases h; exact ih6 _ _ hq
      · rename_i hq; have := ih6 _ _ hq; exact (opsL_le _ _ _ _ h).lt this.2 this.1
    · unfold atom at h
      split at h
      · have h0 := hd_ne (show hd t ≠ 0 by omega)
        split at h
        · have h1 := hd_ne (show hd t.tail ≠ 0 by omega)
          cases h; exact ⟨by omega, (tail_suf _).trans (tail_suf _)⟩
        · split at h
          · cases h
          · rename_i hq; cases h; exact (ih1 _ _ hq).tail
          · rename_i hq
            have h2 := (ih1 _ _ hq).tail
            cases h
            unfold closeR
            split
            · rename_i t1 _
              exact ⟨by have := h2.1; have : t1.tail.length ≤ t1.length := by simp
                        omega, (tail_suf _).trans h2.2⟩
            · exact h2.2
      · split at h
        · exact (setR_lt _ _ _ h).tail
        · split at h
          · cases h; exact ⟨hd_ne (by omega), tail_suf _⟩
          · split at h
            · split at h
              · cases h; exact ⟨by have h1 := hd_ne (show hd t ≠ 0 by omega); have : t.tail.tail.length ≤ t.tail.length := by simp
                                   omega, (tail_suf _).trans (tail_suf _)⟩
              · have h1 := (escR_lt 0 t.tail).tail
                split at h
                · rename_i q hq; rw [hq] at h1; cases h; exact h1
                · rename_i q hq; rw [hq] at h1; cases h; exact h1
            · split at h
              · cases h; exact List.suffix_refl _
              · cases h; exact ⟨hd_ne (by omega), tail_suf _⟩
end Go.Rx
end
