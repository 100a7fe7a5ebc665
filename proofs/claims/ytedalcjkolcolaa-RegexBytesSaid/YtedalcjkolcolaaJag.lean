/- Part 7 of the proof: Wref, Wprs, Wmat, Wtop. -/
import Derived.Test.YtedalcjkolcolaaProg
import Derived.Test.YtedalcjkolcolaaJaf
set_option linter.unusedVariables false
set_option linter.unusedSimpArgs false
section
open Go Go.Proofs Go.Ab Go.Rf
set_option maxRecDepth 1000000
set_option maxHeartbeats 2000000
set_option linter.unusedVariables false
namespace Go.Rx
theorem w39 {R : Out → List (Ref × List A) → Prop} (x0 : List UInt8) (x1 : Int) (x2 : Bool) (q0 : Ref) (h : ∀ _ : Nat → Nat, ∃ R' : Out → List (Ref × List A) → Prop, Holds Try.prog 51 [(A.ptr (.up (Ref.up q0)) 0)] [(Ref.up (Ref.up q0), [(A.d (D.lit (bytesV x0))), (A.d (D.lit (.int .i64 x1))), (A.d (D.lit (.bool x2)))])] R' ∧
  (∀ v H', R' (.ret v) H' → ∃ x3 : List D, ∃ x4 : List UInt8, ∃ x5 : Int, ∃ x6 : Bool, v = (A.agg x3) ∧ H' = [(Ref.up (Ref.up q0), [(A.d (D.lit (bytesV x4))), (A.d (D.lit (.int .i64 x5))), (A.d (D.lit (.bool x6)))])] ∧
   (tB ((x3.length : Int) == (6 : Int))) = true ∧
   ∃ (I0_0 : List (List D) → List UInt8 → Int → Bool → Prop) (M0_0 : List (List D) → List UInt8 → Int → Bool → Nat), I0_0 (x3 :: ([] : List (List D))) x4 x5 x6 ∧
   (∀ (x7 : List (List D)) (x8 : List UInt8) (x9 : Int) (x10 : Bool) , I0_0 x7 x8 x9 x10 →
    ∀ _ : Nat → Nat, ∃ R' : Out → List (Ref × List A) → Prop, Holds Try.prog 52 [(A.ptr (.up (Ref.up q0)) 0), (A.d (D.lit (.int .u8 (124 : Int))))] [(Ref.up (Ref.up q0), [(A.d (D.lit (bytesV x8))), (A.d (D.lit (.int .i64 x9))), (A.d (D.lit (.bool x10)))])] R' ∧
    (∀ v H', R' (.ret v) H' → ∃ x11 : Bool, ∃ x12 : List UInt8, ∃ x13 : Int, ∃ x14 : Bool, v = (A.d (D.lit (.bool x11))) ∧ H' = [(Ref.up (Ref.up q0), [(A.d (D.lit (bytesV x12))), (A.d (D.lit (.int .i64 x13))), (A.d (D.lit (.bool x14)))])] ∧
     (x11 = true →
      ∀ _ : Nat → Nat, ∃ R' : Out → List (Ref × List A) → Prop, Holds Try.prog 51 [(A.ptr (.up (Ref.up q0)) 0)] [(Ref.up (Ref.up q0), [(A.d (D.lit (bytesV x12))), (A.d (D.lit (.int .i64 x13))), (A.d (D.lit (.bool x14)))])] R' ∧
      (∀ v H', R' (.ret v) H' → ∃ x15 : List D, ∃ x16 : List UInt8, ∃ x17 : Int, ∃ x18 : Bool, v = (A.agg x15) ∧ H' = [(Ref.up (Ref.up q0), [(A.d (D.lit (bytesV x16))), (A.d (D.lit (.int .i64 x17))), (A.d (D.lit (.bool x18)))])] ∧
       (tB ((x15.length : Int) == (6 : Int))) = true ∧
       (flatB 6 (x15 :: ([] : List (List D)))) = true ∧
       (tB (decide ((((x7.length : Int) + ((x15 :: ([] : List (List D))).length : Int)) * (64 : Int)) ≤ (140737488355328 : Int)))) = true ∧
       (tB (decide (((x7.length : Int) + ((x15 :: ([] : List (List D))).length : Int)) ≤ (1099511627776 : Int)))) = true ∧
       I0_0 (x7 ++ (x15 :: ([] : List (List D)))) x16 x17 x18 ∧ M0_0 (x7 ++ (x15 :: ([] : List (List D)))) x16 x17 x18 < M0_0 x7 x8 x9 x10) ∧
      (∀ x15v H', R' (.pan x15v) H' → ∃ x16 : List UInt8, ∃ x17 : Int, ∃ x18 : Bool, H' = [(Ref.up (Ref.up q0), [(A.d (D.lit (bytesV x16))), (A.d (D.lit (.int .i64 x17))), (A.d (D.lit (.bool x18)))])] ∧
       R (.pan x15v) [((Ref.up q0), [(A.d (D.lit (bytesV x16))), (A.d (D.lit (.int .i64 x17))), (A.d (D.lit (.bool x18)))])])) ∧
     (x11 = false →
      ∀ _ : Nat → Nat, ∃ R' : Out → List (Ref × List A) → Prop, Holds Try.prog 53 [(A.d (D.lit (.int .i64 (4 : Int)))), (A.d (D.slc x7))] [] R' ∧
      (∀ v H', R' (.ret v) H' → ∃ x15 : List D, v = (A.agg x15) ∧ H' = [] ∧
       (tB ((x15.length : Int) == (6 : Int))) = true ∧
       R (.ret (A.agg x15)) [((Ref.up q0), [(A.d (D.lit (bytesV x12))), (A.d (D.lit (.int .i64 x13))), (A.d (D.lit (.bool x14)))])]) ∧
      (∀ x15v H', R' (.pan x15v) H' → H' = [] ∧
       R (.pan x15v) [((Ref.up q0), [(A.d (D.lit (bytesV x12))), (A.d (D.lit (.int .i64 x13))), (A.d (D.lit (.bool x14)))])]))) ∧
    (∀ x11v H', R' (.pan x11v) H' → ∃ x12 : List UInt8, ∃ x13 : Int, ∃ x14 : Bool, H' = [(Ref.up (Ref.up q0), [(A.d (D.lit (bytesV x12))), (A.d (D.lit (.int .i64 x13))), (A.d (D.lit (.bool x14)))])] ∧
     R (.pan x11v) [((Ref.up q0), [(A.d (D.lit (bytesV x12))), (A.d (D.lit (.int .i64 x13))), (A.d (D.lit (.bool x14)))])])) ∧
   True) ∧
  (∀ x3v H', R' (.pan x3v) H' → ∃ x4 : List UInt8, ∃ x5 : Int, ∃ x6 : Bool, H' = [(Ref.up (Ref.up q0), [(A.d (D.lit (bytesV x4))), (A.d (D.lit (.int .i64 x5))), (A.d (D.lit (.bool x6)))])] ∧
   R (.pan x3v) [((Ref.up q0), [(A.d (D.lit (bytesV x4))), (A.d (D.lit (.int .i64 x5))), (A.d (D.lit (.bool x6)))])])) :
    Holds Try.prog 39 [(A.ptr (Ref.up q0) 0)] [((Ref.up q0), [(A.d (D.lit (bytesV x0))), (A.d (D.lit (.int .i64 x1))), (A.d (D.lit (.bool x2)))])] R :=
  walk (c := ⟨Try.prog, 16, true, [0, 2, 3, 8]⟩) (op := {  }) (fn := Try.f39) (args := [.ptr (.up 0) 0]) (K := [(.up 0, [.c (.o1 .cs (.var 0)), .c (.o1 (.ci .i64) (.var 1)), .c (.o1 .cb (.o1 .tb (.var 2)))])]) (nv := 3) (depth := 5) (up := upOf [q0]) (ρ := envOf [.s x0, .i x1, .b x2])
    rfl rfl rfl rfl rfl (by decide) (by decide) (by decide) (by decide) rfl (by simp [bxDen, RRef.den, upOf]) (T_of (by kernel_rfl) h)
theorem w51 {R : Out → List (Ref × List A) → Prop} (x0 : List UInt8) (x1 : Int) (x2 : Bool) (q0 : Ref) (h : ∀ _ : Nat → Nat, ∃ R' : Out → List (Ref × List A) → Prop, Holds Try.prog 66 [(A.ptr (.up (Ref.up q0)) 0)] [(Ref.up (Ref.up q0), [(A.d (D.lit (bytesV x0))), (A.d (D.lit (.int .i64 x1))), (A.d (D.lit (.bool x2)))])] R' ∧
  (∀ v H', R' (.ret v) H' → ∃ x3 : List D, ∃ x4 : List UInt8, ∃ x5 : Int, ∃ x6 : Bool, v = (A.agg x3) ∧ H' = [(Ref.up (Ref.up q0), [(A.d (D.lit (bytesV x4))), (A.d (D.lit (.int .i64 x5))), (A.d (D.lit (.bool x6)))])] ∧
   (tB ((x3.length : Int) == (6 : Int))) = true ∧
   ∃ (I0_0 : List (List D) → List UInt8 → Int → Bool → Prop) (M0_0 : List (List D) → List UInt8 → Int → Bool → Nat), I0_0 (x3 :: ([] : List (List D))) x4 x5 x6 ∧
   (∀ (x7 : List (List D)) (x8 : List UInt8) (x9 : Int) (x10 : Bool) , I0_0 x7 x8 x9 x10 →
    ∃ x11 : Bool, (∀ _ : Nat → Nat, Holds Try.prog 67 [(A.ptr (.up (Ref.up q0)) 0)] [(Ref.up (Ref.up q0), [(A.d (D.lit (bytesV x8))), (A.d (D.lit (.int .i64 x9))), (A.d (D.lit (.bool x10)))])] (Reads [(Ref.up (Ref.up q0), [(A.d (D.lit (bytesV x8))), (A.d (D.lit (.int .i64 x9))), (A.d (D.lit (.bool x10)))])] (A.d (D.lit (.bool x11))))) ∧
    ((!x11) || (tB (decide ((0 : Int) ≤ x9)))) = true ∧
    ((!x11) || (tB (decide (x9 < (x8.length : Int))))) = true ∧
    ((!(x11 && (!(tB ((gByte x8 x9) == (124 : Int)))))) || (tB (decide ((0 : Int) ≤ x9)))) = true ∧
    ((!(x11 && (!(tB ((gByte x8 x9) == (124 : Int)))))) || (tB (decide (x9 < (x8.length : Int))))) = true ∧
    (((x11 && (!(tB ((gByte x8 x9) == (124 : Int))))) && (!(tB ((gByte x8 x9) == (41 : Int))))) = true →
     ∀ _ : Nat → Nat, ∃ R' : Out → List (Ref × List A) → Prop, Holds Try.prog 66 [(A.ptr (.up (Ref.up q0)) 0)] [(Ref.up (Ref.up q0), [(A.d (D.lit (bytesV x8))), (A.d (D.lit (.int .i64 x9))), (A.d (D.lit (.bool x10)))])] R' ∧
     (∀ v H', R' (.ret v) H' → ∃ x12 : List D, ∃ x13 : List UInt8, ∃ x14 : Int, ∃ x15 : Bool, v = (A.agg x12) ∧ H' = [(Ref.up (Ref.up q0), [(A.d (D.lit (bytesV x13))), (A.d (D.lit (.int .i64 x14))), (A.d (D.lit (.bool x15)))])] ∧
      (tB ((x12.length : Int) == (6 : Int))) = true ∧
      (flatB 6 (x12 :: ([] : List (List D)))) = true ∧
      (tB (decide ((((x7.length : Int) + ((x12 :: ([] : List (List D))).length : Int)) * (64 : Int)) ≤ (140737488355328 : Int)))) = true ∧
      (tB (decide (((x7.length : Int) + ((x12 :: ([] : List (List D))).length : Int)) ≤ (1099511627776 : Int)))) = true ∧
      I0_0 (x7 ++ (x12 :: ([] : List (List D)))) x13 x14 x15 ∧ M0_0 (x7 ++ (x12 :: ([] : List (List D)))) x13 x14 x15 < M0_0 x7 x8 x9 x10) ∧
     (∀ x12v H', R' (.pan x12v) H' → ∃ x13 : List UInt8, ∃ x14 : Int, ∃ x15 : Bool, H' = [(Ref.up (Ref.up q0), [(A.d (D.lit (bytesV x13))), (A.d (D.lit (.int .i64 x14))), (A.d (D.lit (.bool x15)))])] ∧
      R (.pan x12v) [((Ref.up q0), [(A.d (D.lit (bytesV x13))), (A.d (D.lit (.int .i64 x14))), (A.d (D.lit (.bool x15)))])])) ∧
    (((x11 && (!(tB ((gByte x8 x9) == (124 : Int))))) && (!(tB ((gByte x8 x9) == (41 : Int))))) = false →
     ∀ _ : Nat → Nat, ∃ R' : Out → List (Ref × List A) → Prop, Holds Try.prog 53 [(A.d (D.lit (.int .i64 (3 : Int)))), (A.d (D.slc x7))] [] R' ∧
     (∀ v H', R' (.ret v) H' → ∃ x12 : List D, v = (A.agg x12) ∧ H' = [] ∧
      (tB ((x12.length : Int) == (6 : Int))) = true ∧
      R (.ret (A.agg x12)) [((Ref.up q0), [(A.d (D.lit (bytesV x8))), (A.d (D.lit (.int .i64 x9))), (A.d (D.lit (.bool x10)))])]) ∧
     (∀ x12v H', R' (.pan x12v) H' → H' = [] ∧
      R (.pan x12v) [((Ref.up q0), [(A.d (D.lit (bytesV x8))), (A.d (D.lit (.int .i64 x9))), (A.d (D.lit (.bool x10)))])]))) ∧
   True) ∧
  (∀ x3v H', R' (.pan x3v) H' → ∃ x4 : List UInt8, ∃ x5 : Int, ∃ x6 : Bool, H' = [(Ref.up (Ref.up q0), [(A.d (D.lit (bytesV x4))), (A.d (D.lit (.int .i64 x5))), (A.d (D.lit (.bool x6)))])] ∧
   R (.pan x3v) [((Ref.up q0), [(A.d (D.lit (bytesV x4))), (A.d (D.lit (.int .i64 x5))), (A.d (D.lit (.bool x6)))])])) :
    Holds Try.prog 51 [(A.ptr (Ref.up q0) 0)] [((Ref.up q0), [(A.d (D.lit (bytesV x0))), (A.d (D.lit (.int .i64 x1))), (A.d (D.lit (.bool x2)))])] R :=
  walk (c := ⟨Try.prog, 40, true, [0, 2, 3, 32]⟩) (op := {  }) (fn := Try.f51) (args := [.ptr (.up 0) 0]) (K := [(.up 0, [.c (.o1 .cs (.var 0)), .c (.o1 (.ci .i64) (.var 1)), .c (.o1 .cb (.o1 .tb (.var 2)))])]) (nv := 3) (depth := 6) (up := upOf [q0]) (ρ := envOf [.s x0, .i x1, .b x2])
    rfl rfl rfl rfl rfl (by decide) (by decide) (by decide) (by decide) rfl (by simp [bxDen, RRef.den, upOf]) (T_of (by kernel_rfl) h)
theorem w52 {R : Out → List (Ref × List A) → Prop} (x0 : List UInt8) (x1 : Int) (x2 : Bool) (x3 : Int) (q0 : Ref) (h : ((x2 || (tB (decide ((x0.length : Int) ≤ x1)))) || (tB (decide ((0 : Int) ≤ x1)))) = true ∧
  ((x2 || (tB (decide ((x0.length : Int) ≤ x1)))) || (tB (decide (x1 < (x0.length : Int))))) = true ∧
  (((x2 || (tB (decide ((x0.length : Int) ≤ x1)))) || (!(tB ((gByte x0 x1) == x3)))) = true →
   R (.ret (A.d (D.lit (.bool false)))) [((Ref.up q0), [(A.d (D.lit (bytesV x0))), (A.d (D.lit (.int .i64 x1))), (A.d (D.lit (.bool x2)))])]) ∧
  (((x2 || (tB (decide ((x0.length : Int) ≤ x1)))) || (!(tB ((gByte x0 x1) == x3)))) = false →
   (tB (decide ((-9223372036854775808 : Int) ≤ (x1 + (1 : Int))))) = true ∧
   (tB (decide ((x1 + (1 : Int)) ≤ (9223372036854775807 : Int)))) = true ∧
   R (.ret (A.d (D.lit (.bool true)))) [((Ref.up q0), [(A.d (D.lit (bytesV x0))), (A.d (D.lit (.int .i64 (x1 + (1 : Int))))), (A.d (D.lit (.bool x2)))])])) :
    Holds Try.prog 52 [(A.ptr (Ref.up q0) 0), (A.d (D.lit (.int .u8 x3)))] [((Ref.up q0), [(A.d (D.lit (bytesV x0))), (A.d (D.lit (.int .i64 x1))), (A.d (D.lit (.bool x2)))])] R :=
  walk (c := ⟨Try.prog, 42, true, [0, 1, 4, 33]⟩) (op := {  }) (fn := Try.f52) (args := [.ptr (.up 0) 0, .c (.o1 (.ci .u8) (.var 3))]) (K := [(.up 0, [.c (.o1 .cs (.var 0)), .c (.o1 (.ci .i64) (.var 1)), .c (.o1 .cb (.o1 .tb (.var 2)))])]) (nv := 4) (depth := 6) (up := upOf [q0]) (ρ := envOf [.s x0, .i x1, .b x2, .i x3])
    rfl rfl rfl rfl rfl (by decide) (by decide) (by decide) (by decide) rfl (by simp [bxDen, RRef.den, upOf]) (T_of (by kernel_rfl) h)
theorem w53 {R : Out → List (Ref × List A) → Prop} (x0 : Int) (x1 : List (List D)) (h : ((tB ((x1.length : Int) == (1 : Int))) = true →
   (tB (decide ((0 : Int) < (x1.length : Int)))) = true ∧
   (tB (((gAt x1 (0 : Int)).length : Int) == (6 : Int))) = true ∧
   R (.ret (A.agg (gAt x1 (0 : Int)))) []) ∧
  ((tB ((x1.length : Int) == (1 : Int))) = false →
   R (.ret (A.agg ((D.lit (.int .i64 x0)) :: ((D.lit (.int .u64 (0 : Int))) :: ((D.lit (.int .u64 (0 : Int))) :: ((D.lit (.int .u64 (0 : Int))) :: ((D.lit (.int .u64 (0 : Int))) :: ((D.slc x1) :: ([] : List D))))))))) [])) :
    Holds Try.prog 53 [(A.d (D.lit (.int .i64 x0))), (A.d (D.slc x1))] [] R :=
  walk (c := ⟨Try.prog, 14, true, [0, 1, 4, 7]⟩) (op := {  }) (fn := Try.f53) (args := [.c (.o1 (.ci .i64) (.var 0)), .c (.o1 .cl (.var 1))]) (K := []) (nv := 2) (depth := 4) (up := upOf []) (ρ := envOf [.i x0, .l x1])
    rfl rfl rfl rfl rfl (by decide) (by decide) (by decide) (by decide) rfl (by simp [bxDen, RRef.den, upOf]) (T_of (by kernel_rfl) h)
theorem w66 {R : Out → List (Ref × List A) → Prop} (x0 : List UInt8) (x1 : Int) (x2 : Bool) (q0 : Ref) (h : ∀ _ : Nat → Nat, ∃ R' : Out → List (Ref × List A) → Prop, Holds Try.prog 74 [(A.ptr (.up (Ref.up q0)) 0)] [(Ref.up (Ref.up q0), [(A.d (D.lit (bytesV x0))), (A.d (D.lit (.int .i64 x1))), (A.d (D.lit (.bool x2)))])] R' ∧
  (∀ v H', R' (.ret v) H' → ∃ x3 : List D, ∃ x4 : List UInt8, ∃ x5 : Int, ∃ x6 : Bool, v = (A.agg x3) ∧ H' = [(Ref.up (Ref.up q0), [(A.d (D.lit (bytesV x4))), (A.d (D.lit (.int .i64 x5))), (A.d (D.lit (.bool x6)))])] ∧
   (tB ((x3.length : Int) == (6 : Int))) = true ∧
   ∃ (I0_0 : D → D → D → D → D → D → List UInt8 → Int → Bool → Prop) (M0_0 : D → D → D → D → D → D → List UInt8 → Int → Bool → Nat), I0_0 (x3.getD 0 D0) (x3.getD 1 D0) (x3.getD 2 D0) (x3.getD 3 D0) (x3.getD 4 D0) (x3.getD 5 D0) x4 x5 x6 ∧
   (∀ (x7 : D) (x8 : D) (x9 : D) (x10 : D) (x11 : D) (x12 : D) (x13 : List UInt8) (x14 : Int) (x15 : Bool) , I0_0 x7 x8 x9 x10 x11 x12 x13 x14 x15 →
    ((!x15) = true →
     ∀ _ : Nat → Nat, ∃ R' : Out → List (Ref × List A) → Prop, Holds Try.prog 52 [(A.ptr (.up (Ref.up q0)) 0), (A.d (D.lit (.int .u8 (42 : Int))))] [(Ref.up (Ref.up q0), [(A.d (D.lit (bytesV x13))), (A.d (D.lit (.int .i64 x14))), (A.d (D.lit (.bool x15)))])] R' ∧
     (∀ v H', R' (.ret v) H' → ∃ x16 : Bool, ∃ x17 : List UInt8, ∃ x18 : Int, ∃ x19 : Bool, v = (A.d (D.lit (.bool x16))) ∧ H' = [(Ref.up (Ref.up q0), [(A.d (D.lit (bytesV x17))), (A.d (D.lit (.int .i64 x18))), (A.d (D.lit (.bool x19)))])] ∧
      (x16 = true →
       I0_0 (D.lit (.int .i64 (5 : Int))) (D.lit (.int .u64 (0 : Int))) (D.lit (.int .u64 (0 : Int))) (D.lit (.int .u64 (0 : Int))) (D.lit (.int .u64 (0 : Int))) (D.slc ((x7 :: (x8 :: (x9 :: (x10 :: (x11 :: (x12 :: ([] : List D))))))) :: ([] : List (List D)))) x17 x18 x19 ∧ M0_0 (D.lit (.int .i64 (5 : Int))) (D.lit (.int .u64 (0 : Int))) (D.lit (.int .u64 (0 : Int))) (D.lit (.int .u64 (0 : Int))) (D.lit (.int .u64 (0 : Int))) (D.slc ((x7 :: (x8 :: (x9 :: (x10 :: (x11 :: (x12 :: ([] : List D))))))) :: ([] : List (List D)))) x17 x18 x19 < M0_0 x7 x8 x9 x10 x11 x12 x13 x14 x15) ∧
      (x16 = false →
       ∀ _ : Nat → Nat, ∃ R' : Out → List (Ref × List A) → Prop, Holds Try.prog 52 [(A.ptr (.up (Ref.up q0)) 0), (A.d (D.lit (.int .u8 (43 : Int))))] [(Ref.up (Ref.up q0), [(A.d (D.lit (bytesV x17))), (A.d (D.lit (.int .i64 x18))), (A.d (D.lit (.bool x19)))])] R' ∧
       (∀ v H', R' (.ret v) H' → ∃ x20 : Bool, ∃ x21 : List UInt8, ∃ x22 : Int, ∃ x23 : Bool, v = (A.d (D.lit (.bool x20))) ∧ H' = [(Ref.up (Ref.up q0), [(A.d (D.lit (bytesV x21))), (A.d (D.lit (.int .i64 x22))), (A.d (D.lit (.bool x23)))])] ∧
        (x20 = true →
         I0_0 (D.lit (.int .i64 (3 : Int))) (D.lit (.int .u64 (0 : Int))) (D.lit (.int .u64 (0 : Int))) (D.lit (.int .u64 (0 : Int))) (D.lit (.int .u64 (0 : Int))) (D.slc ((x7 :: (x8 :: (x9 :: (x10 :: (x11 :: (x12 :: ([] : List D))))))) :: (((D.lit (.int .i64 (5 : Int))) :: ((D.lit (.int .u64 (0 : Int))) :: ((D.lit (.int .u64 (0 : Int))) :: ((D.lit (.int .u64 (0 : Int))) :: ((D.lit (.int .u64 (0 : Int))) :: ((D.slc ((x7 :: (x8 :: (x9 :: (x10 :: (x11 :: (x12 :: ([] : List D))))))) :: ([] : List (List D)))) :: ([] : List D))))))) :: ([] : List (List D))))) x21 x22 x23 ∧ M0_0 (D.lit (.int .i64 (3 : Int))) (D.lit (.int .u64 (0 : Int))) (D.lit (.int .u64 (0 : Int))) (D.lit (.int .u64 (0 : Int))) (D.lit (.int .u64 (0 : Int))) (D.slc ((x7 :: (x8 :: (x9 :: (x10 :: (x11 :: (x12 :: ([] : List D))))))) :: (((D.lit (.int .i64 (5 : Int))) :: ((D.lit (.int .u64 (0 : Int))) :: ((D.lit (.int .u64 (0 : Int))) :: ((D.lit (.int .u64 (0 : Int))) :: ((D.lit (.int .u64 (0 : Int))) :: ((D.slc ((x7 :: (x8 :: (x9 :: (x10 :: (x11 :: (x12 :: ([] : List D))))))) :: ([] : List (List D)))) :: ([] : List D))))))) :: ([] : List (List D))))) x21 x22 x23 < M0_0 x7 x8 x9 x10 x11 x12 x13 x14 x15) ∧
        (x20 = false →
         ∀ _ : Nat → Nat, ∃ R' : Out → List (Ref × List A) → Prop, Holds Try.prog 52 [(A.ptr (.up (Ref.up q0)) 0), (A.d (D.lit (.int .u8 (63 : Int))))] [(Ref.up (Ref.up q0), [(A.d (D.lit (bytesV x21))), (A.d (D.lit (.int .i64 x22))), (A.d (D.lit (.bool x23)))])] R' ∧
         (∀ v H', R' (.ret v) H' → ∃ x24 : Bool, ∃ x25 : List UInt8, ∃ x26 : Int, ∃ x27 : Bool, v = (A.d (D.lit (.bool x24))) ∧ H' = [(Ref.up (Ref.up q0), [(A.d (D.lit (bytesV x25))), (A.d (D.lit (.int .i64 x26))), (A.d (D.lit (.bool x27)))])] ∧
          (x24 = true →
           I0_0 (D.lit (.int .i64 (4 : Int))) (D.lit (.int .u64 (0 : Int))) (D.lit (.int .u64 (0 : Int))) (D.lit (.int .u64 (0 : Int))) (D.lit (.int .u64 (0 : Int))) (D.slc ((x7 :: (x8 :: (x9 :: (x10 :: (x11 :: (x12 :: ([] : List D))))))) :: (((D.lit (.int .i64 (1 : Int))) :: ((D.lit (.int .u64 (0 : Int))) :: ((D.lit (.int .u64 (0 : Int))) :: ((D.lit (.int .u64 (0 : Int))) :: ((D.lit (.int .u64 (0 : Int))) :: ((D.slc ([] : List (List D))) :: ([] : List D))))))) :: ([] : List (List D))))) x25 x26 x27 ∧ M0_0 (D.lit (.int .i64 (4 : Int))) (D.lit (.int .u64 (0 : Int))) (D.lit (.int .u64 (0 : Int))) (D.lit (.int .u64 (0 : Int))) (D.lit (.int .u64 (0 : Int))) (D.slc ((x7 :: (x8 :: (x9 :: (x10 :: (x11 :: (x12 :: ([] : List D))))))) :: (((D.lit (.int .i64 (1 : Int))) :: ((D.lit (.int .u64 (0 : Int))) :: ((D.lit (.int .u64 (0 : Int))) :: ((D.lit (.int .u64 (0 : Int))) :: ((D.lit (.int .u64 (0 : Int))) :: ((D.slc ([] : List (List D))) :: ([] : List D))))))) :: ([] : List (List D))))) x25 x26 x27 < M0_0 x7 x8 x9 x10 x11 x12 x13 x14 x15) ∧
          (x24 = false →
           R (.ret (A.agg (x7 :: (x8 :: (x9 :: (x10 :: (x11 :: (x12 :: ([] : List D))))))))) [((Ref.up q0), [(A.d (D.lit (bytesV x25))), (A.d (D.lit (.int .i64 x26))), (A.d (D.lit (.bool x27)))])])) ∧
         (∀ x24v H', R' (.pan x24v) H' → ∃ x25 : List UInt8, ∃ x26 : Int, ∃ x27 : Bool, H' = [(Ref.up (Ref.up q0), [(A.d (D.lit (bytesV x25))), (A.d (D.lit (.int .i64 x26))), (A.d (D.lit (.bool x27)))])] ∧
          R (.pan x24v) [((Ref.up q0), [(A.d (D.lit (bytesV x25))), (A.d (D.lit (.int .i64 x26))), (A.d (D.lit (.bool x27)))])]))) ∧
       (∀ x20v H', R' (.pan x20v) H' → ∃ x21 : List UInt8, ∃ x22 : Int, ∃ x23 : Bool, H' = [(Ref.up (Ref.up q0), [(A.d (D.lit (bytesV x21))), (A.d (D.lit (.int .i64 x22))), (A.d (D.lit (.bool x23)))])] ∧
        R (.pan x20v) [((Ref.up q0), [(A.d (D.lit (bytesV x21))), (A.d (D.lit (.int .i64 x22))), (A.d (D.lit (.bool x23)))])]))) ∧
     (∀ x16v H', R' (.pan x16v) H' → ∃ x17 : List UInt8, ∃ x18 : Int, ∃ x19 : Bool, H' = [(Ref.up (Ref.up q0), [(A.d (D.lit (bytesV x17))), (A.d (D.lit (.int .i64 x18))), (A.d (D.lit (.bool x19)))])] ∧
      R (.pan x16v) [((Ref.up q0), [(A.d (D.lit (bytesV x17))), (A.d (D.lit (.int .i64 x18))), (A.d (D.lit (.bool x19)))])])) ∧
    ((!x15) = false →
     R (.ret (A.agg (x7 :: (x8 :: (x9 :: (x10 :: (x11 :: (x12 :: ([] : List D))))))))) [((Ref.up q0), [(A.d (D.lit (bytesV x13))), (A.d (D.lit (.int .i64 x14))), (A.d (D.lit (.bool x15)))])])) ∧
   True) ∧
  (∀ x3v H', R' (.pan x3v) H' → ∃ x4 : List UInt8, ∃ x5 : Int, ∃ x6 : Bool, H' = [(Ref.up (Ref.up q0), [(A.d (D.lit (bytesV x4))), (A.d (D.lit (.int .i64 x5))), (A.d (D.lit (.bool x6)))])] ∧
   R (.pan x3v) [((Ref.up q0), [(A.d (D.lit (bytesV x4))), (A.d (D.lit (.int .i64 x5))), (A.d (D.lit (.bool x6)))])])) :
    Holds Try.prog 66 [(A.ptr (Ref.up q0) 0)] [((Ref.up q0), [(A.d (D.lit (bytesV x0))), (A.d (D.lit (.int .i64 x1))), (A.d (D.lit (.bool x2)))])] R :=
  walk (c := ⟨Try.prog, 35, true, [0, 2, 3, 10, 12, 18, 27]⟩) (op := {  }) (fn := Try.f66) (args := [.ptr (.up 0) 0]) (K := [(.up 0, [.c (.o1 .cs (.var 0)), .c (.o1 (.ci .i64) (.var 1)), .c (.o1 .cb (.o1 .tb (.var 2)))])]) (nv := 3) (depth := 6) (up := upOf [q0]) (ρ := envOf [.s x0, .i x1, .b x2])
    rfl rfl rfl rfl rfl (by decide) (by decide) (by decide) (by decide) rfl (by simp [bxDen, RRef.den, upOf]) (T_of (by kernel_rfl) h)
theorem w67 {R : Out → List (Ref × List A) → Prop} (x0 : List UInt8) (x1 : Int) (x2 : Bool) (q0 : Ref) (h : R (.ret (A.d (D.lit (.bool ((!x2) && (tB (decide (x1 < (x0.length : Int))))))))) [((Ref.up q0), [(A.d (D.lit (bytesV x0))), (A.d (D.lit (.int .i64 x1))), (A.d (D.lit (.bool x2)))])]) :
    Holds Try.prog 67 [(A.ptr (Ref.up q0) 0)] [((Ref.up q0), [(A.d (D.lit (bytesV x0))), (A.d (D.lit (.int .i64 x1))), (A.d (D.lit (.bool x2)))])] R :=
  walk (c := ⟨Try.prog, 20, true, [0, 2]⟩) (op := {  }) (fn := Try.f67) (args := [.ptr (.up 0) 0]) (K := [(.up 0, [.c (.o1 .cs (.var 0)), .c (.o1 (.ci .i64) (.var 1)), .c (.o1 .cb (.o1 .tb (.var 2)))])]) (nv := 3) (depth := 5) (up := upOf [q0]) (ρ := envOf [.s x0, .i x1, .b x2])
    rfl rfl rfl rfl rfl (by decide) (by decide) (by decide) (by decide) rfl (by simp [bxDen, RRef.den, upOf]) (T_of (by kernel_rfl) h)
theorem w74 {R : Out → List (Ref × List A) → Prop} (x0 : List UInt8) (x1 : Int) (x2 : Bool) (q0 : Ref) (h : ∀ _ : Nat → Nat, ∃ R' : Out → List (Ref × List A) → Prop, Holds Try.prog 52 [(A.ptr (.up (Ref.up q0)) 0), (A.d (D.lit (.int .u8 (92 : Int))))] [(Ref.up (Ref.up q0), [(A.d (D.lit (bytesV x0))), (A.d (D.lit (.int .i64 x1))), (A.d (D.lit (.bool x2)))])] R' ∧
  (∀ v H', R' (.ret v) H' → ∃ x3 : Bool, ∃ x4 : List UInt8, ∃ x5 : Int, ∃ x6 : Bool, v = (A.d (D.lit (.bool x3))) ∧ H' = [(Ref.up (Ref.up q0), [(A.d (D.lit (bytesV x4))), (A.d (D.lit (.int .i64 x5))), (A.d (D.lit (.bool x6)))])] ∧
   (x3 = true →
    ∀ _ : Nat → Nat, ∃ R' : Out → List (Ref × List A) → Prop, Holds Try.prog 84 [(A.ptr (.up (Ref.up q0)) 0)] [(Ref.up (Ref.up q0), [(A.d (D.lit (bytesV x4))), (A.d (D.lit (.int .i64 x5))), (A.d (D.lit (.bool x6)))])] R' ∧
    (∀ v H', R' (.ret v) H' → ∃ x7 : List D, ∃ x8 : List UInt8, ∃ x9 : Int, ∃ x10 : Bool, v = (A.agg x7) ∧ H' = [(Ref.up (Ref.up q0), [(A.d (D.lit (bytesV x8))), (A.d (D.lit (.int .i64 x9))), (A.d (D.lit (.bool x10)))])] ∧
     (tB ((x7.length : Int) == (6 : Int))) = true ∧
     R (.ret (A.agg x7)) [((Ref.up q0), [(A.d (D.lit (bytesV x8))), (A.d (D.lit (.int .i64 x9))), (A.d (D.lit (.bool x10)))])]) ∧
    (∀ x7v H', R' (.pan x7v) H' → ∃ x8 : List UInt8, ∃ x9 : Int, ∃ x10 : Bool, H' = [(Ref.up (Ref.up q0), [(A.d (D.lit (bytesV x8))), (A.d (D.lit (.int .i64 x9))), (A.d (D.lit (.bool x10)))])] ∧
     R (.pan x7v) [((Ref.up q0), [(A.d (D.lit (bytesV x8))), (A.d (D.lit (.int .i64 x9))), (A.d (D.lit (.bool x10)))])])) ∧
   (x3 = false →
    ∀ _ : Nat → Nat, ∃ R' : Out → List (Ref × List A) → Prop, Holds Try.prog 52 [(A.ptr (.up (Ref.up q0)) 0), (A.d (D.lit (.int .u8 (46 : Int))))] [(Ref.up (Ref.up q0), [(A.d (D.lit (bytesV x4))), (A.d (D.lit (.int .i64 x5))), (A.d (D.lit (.bool x6)))])] R' ∧
    (∀ v H', R' (.ret v) H' → ∃ x7 : Bool, ∃ x8 : List UInt8, ∃ x9 : Int, ∃ x10 : Bool, v = (A.d (D.lit (.bool x7))) ∧ H' = [(Ref.up (Ref.up q0), [(A.d (D.lit (bytesV x8))), (A.d (D.lit (.int .i64 x9))), (A.d (D.lit (.bool x10)))])] ∧
     (x7 = true →
      ∀ _ : Nat → Nat, ∃ R' : Out → List (Ref × List A) → Prop, Holds Try.prog 85 [(A.d (D.lit (.int .i64 (0 : Int)))), (A.d (D.lit (.int .i64 (255 : Int))))] [] R' ∧
      (∀ v H', R' (.ret v) H' → ∃ x11 : List D, v = (A.agg x11) ∧ H' = [] ∧
       (tB ((x11.length : Int) == (4 : Int))) = true ∧
       R (.ret (A.agg ((D.lit (.int .i64 (2 : Int))) :: ((x11.getD 0 D0) :: ((x11.getD 1 D0) :: ((x11.getD 2 D0) :: ((x11.getD 3 D0) :: ((D.slc ([] : List (List D))) :: ([] : List D))))))))) [((Ref.up q0), [(A.d (D.lit (bytesV x8))), (A.d (D.lit (.int .i64 x9))), (A.d (D.lit (.bool x10)))])]) ∧
      (∀ x11v H', R' (.pan x11v) H' → H' = [] ∧
       R (.pan x11v) [((Ref.up q0), [(A.d (D.lit (bytesV x8))), (A.d (D.lit (.int .i64 x9))), (A.d (D.lit (.bool x10)))])])) ∧
     (x7 = false →
      ∀ _ : Nat → Nat, ∃ R' : Out → List (Ref × List A) → Prop, Holds Try.prog 52 [(A.ptr (.up (Ref.up q0)) 0), (A.d (D.lit (.int .u8 (91 : Int))))] [(Ref.up (Ref.up q0), [(A.d (D.lit (bytesV x8))), (A.d (D.lit (.int .i64 x9))), (A.d (D.lit (.bool x10)))])] R' ∧
      (∀ v H', R' (.ret v) H' → ∃ x11 : Bool, ∃ x12 : List UInt8, ∃ x13 : Int, ∃ x14 : Bool, v = (A.d (D.lit (.bool x11))) ∧ H' = [(Ref.up (Ref.up q0), [(A.d (D.lit (bytesV x12))), (A.d (D.lit (.int .i64 x13))), (A.d (D.lit (.bool x14)))])] ∧
       (x11 = true →
        ∀ _ : Nat → Nat, ∃ R' : Out → List (Ref × List A) → Prop, Holds Try.prog 86 [(A.ptr (.up (Ref.up q0)) 0)] [(Ref.up (Ref.up q0), [(A.d (D.lit (bytesV x12))), (A.d (D.lit (.int .i64 x13))), (A.d (D.lit (.bool x14)))])] R' ∧
        (∀ v H', R' (.ret v) H' → ∃ x15 : List D, ∃ x16 : List UInt8, ∃ x17 : Int, ∃ x18 : Bool, v = (A.agg x15) ∧ H' = [(Ref.up (Ref.up q0), [(A.d (D.lit (bytesV x16))), (A.d (D.lit (.int .i64 x17))), (A.d (D.lit (.bool x18)))])] ∧
         (tB ((x15.length : Int) == (6 : Int))) = true ∧
         R (.ret (A.agg x15)) [((Ref.up q0), [(A.d (D.lit (bytesV x16))), (A.d (D.lit (.int .i64 x17))), (A.d (D.lit (.bool x18)))])]) ∧
        (∀ x15v H', R' (.pan x15v) H' → ∃ x16 : List UInt8, ∃ x17 : Int, ∃ x18 : Bool, H' = [(Ref.up (Ref.up q0), [(A.d (D.lit (bytesV x16))), (A.d (D.lit (.int .i64 x17))), (A.d (D.lit (.bool x18)))])] ∧
         R (.pan x15v) [((Ref.up q0), [(A.d (D.lit (bytesV x16))), (A.d (D.lit (.int .i64 x17))), (A.d (D.lit (.bool x18)))])])) ∧
       (x11 = false →
        ∀ _ : Nat → Nat, ∃ R' : Out → List (Ref × List A) → Prop, Holds Try.prog 52 [(A.ptr (.up (Ref.up q0)) 0), (A.d (D.lit (.int .u8 (40 : Int))))] [(Ref.up (Ref.up q0), [(A.d (D.lit (bytesV x12))), (A.d (D.lit (.int .i64 x13))), (A.d (D.lit (.bool x14)))])] R' ∧
        (∀ v H', R' (.ret v) H' → ∃ x15 : Bool, ∃ x16 : List UInt8, ∃ x17 : Int, ∃ x18 : Bool, v = (A.d (D.lit (.bool x15))) ∧ H' = [(Ref.up (Ref.up q0), [(A.d (D.lit (bytesV x16))), (A.d (D.lit (.int .i64 x17))), (A.d (D.lit (.bool x18)))])] ∧
         (x15 = true →
          ∀ _ : Nat → Nat, ∃ R' : Out → List (Ref × List A) → Prop, Holds Try.prog 52 [(A.ptr (.up (Ref.up q0)) 0), (A.d (D.lit (.int .u8 (41 : Int))))] [(Ref.up (Ref.up q0), [(A.d (D.lit (bytesV x16))), (A.d (D.lit (.int .i64 x17))), (A.d (D.lit (.bool x18)))])] R' ∧
          (∀ v H', R' (.ret v) H' → ∃ x19 : Bool, ∃ x20 : List UInt8, ∃ x21 : Int, ∃ x22 : Bool, v = (A.d (D.lit (.bool x19))) ∧ H' = [(Ref.up (Ref.up q0), [(A.d (D.lit (bytesV x20))), (A.d (D.lit (.int .i64 x21))), (A.d (D.lit (.bool x22)))])] ∧
           (x19 = true →
            R (.ret (A.agg ((D.lit (.int .i64 (1 : Int))) :: ((D.lit (.int .u64 (0 : Int))) :: ((D.lit (.int .u64 (0 : Int))) :: ((D.lit (.int .u64 (0 : Int))) :: ((D.lit (.int .u64 (0 : Int))) :: ((D.slc ([] : List (List D))) :: ([] : List D))))))))) [((Ref.up q0), [(A.d (D.lit (bytesV x20))), (A.d (D.lit (.int .i64 x21))), (A.d (D.lit (.bool x22)))])]) ∧
           (x19 = false →
            ∀ _ : Nat → Nat, ∃ R' : Out → List (Ref × List A) → Prop, Holds Try.prog 39 [(A.ptr (.up (Ref.up q0)) 0)] [(Ref.up (Ref.up q0), [(A.d (D.lit (bytesV x20))), (A.d (D.lit (.int .i64 x21))), (A.d (D.lit (.bool x22)))])] R' ∧
            (∀ v H', R' (.ret v) H' → ∃ x23 : List D, ∃ x24 : List UInt8, ∃ x25 : Int, ∃ x26 : Bool, v = (A.agg x23) ∧ H' = [(Ref.up (Ref.up q0), [(A.d (D.lit (bytesV x24))), (A.d (D.lit (.int .i64 x25))), (A.d (D.lit (.bool x26)))])] ∧
             (tB ((x23.length : Int) == (6 : Int))) = true ∧
             ∀ _ : Nat → Nat, ∃ R' : Out → List (Ref × List A) → Prop, Holds Try.prog 52 [(A.ptr (.up (Ref.up q0)) 0), (A.d (D.lit (.int .u8 (41 : Int))))] [(Ref.up (Ref.up q0), [(A.d (D.lit (bytesV x24))), (A.d (D.lit (.int .i64 x25))), (A.d (D.lit (.bool x26)))])] R' ∧
             (∀ v H', R' (.ret v) H' → ∃ x27 : Bool, ∃ x28 : List UInt8, ∃ x29 : Int, ∃ x30 : Bool, v = (A.d (D.lit (.bool x27))) ∧ H' = [(Ref.up (Ref.up q0), [(A.d (D.lit (bytesV x28))), (A.d (D.lit (.int .i64 x29))), (A.d (D.lit (.bool x30)))])] ∧
              ((!x27) = true →
               R (.ret (A.agg x23)) [((Ref.up q0), [(A.d (D.lit (bytesV x28))), (A.d (D.lit (.int .i64 x29))), (A.d (D.lit (.bool true)))])]) ∧
              ((!x27) = false →
               R (.ret (A.agg x23)) [((Ref.up q0), [(A.d (D.lit (bytesV x28))), (A.d (D.lit (.int .i64 x29))), (A.d (D.lit (.bool x30)))])])) ∧
             (∀ x27v H', R' (.pan x27v) H' → ∃ x28 : List UInt8, ∃ x29 : Int, ∃ x30 : Bool, H' = [(Ref.up (Ref.up q0), [(A.d (D.lit (bytesV x28))), (A.d (D.lit (.int .i64 x29))), (A.d (D.lit (.bool x30)))])] ∧
              R (.pan x27v) [((Ref.up q0), [(A.d (D.lit (bytesV x28))), (A.d (D.lit (.int .i64 x29))), (A.d (D.lit (.bool x30)))])])) ∧
            (∀ x23v H', R' (.pan x23v) H' → ∃ x24 : List UInt8, ∃ x25 : Int, ∃ x26 : Bool, H' = [(Ref.up (Ref.up q0), [(A.d (D.lit (bytesV x24))), (A.d (D.lit (.int .i64 x25))), (A.d (D.lit (.bool x26)))])] ∧
             R (.pan x23v) [((Ref.up q0), [(A.d (D.lit (bytesV x24))), (A.d (D.lit (.int .i64 x25))), (A.d (D.lit (.bool x26)))])]))) ∧
          (∀ x19v H', R' (.pan x19v) H' → ∃ x20 : List UInt8, ∃ x21 : Int, ∃ x22 : Bool, H' = [(Ref.up (Ref.up q0), [(A.d (D.lit (bytesV x20))), (A.d (D.lit (.int .i64 x21))), (A.d (D.lit (.bool x22)))])] ∧
           R (.pan x19v) [((Ref.up q0), [(A.d (D.lit (bytesV x20))), (A.d (D.lit (.int .i64 x21))), (A.d (D.lit (.bool x22)))])])) ∧
         (x15 = false →
          ∃ x19 : Bool, (∀ _ : Nat → Nat, Holds Try.prog 67 [(A.ptr (.up (Ref.up q0)) 0)] [(Ref.up (Ref.up q0), [(A.d (D.lit (bytesV x16))), (A.d (D.lit (.int .i64 x17))), (A.d (D.lit (.bool x18)))])] (Reads [(Ref.up (Ref.up q0), [(A.d (D.lit (bytesV x16))), (A.d (D.lit (.int .i64 x17))), (A.d (D.lit (.bool x18)))])] (A.d (D.lit (.bool x19))))) ∧
          ((!x19) || (tB (decide ((0 : Int) ≤ x17)))) = true ∧
          ((!x19) || (tB (decide (x17 < (x16.length : Int))))) = true ∧
          (((!x19) || (tB (decide ((gByte x16 x17) < (32 : Int))))) || (tB (decide ((0 : Int) ≤ x17)))) = true ∧
          (((!x19) || (tB (decide ((gByte x16 x17) < (32 : Int))))) || (tB (decide (x17 < (x16.length : Int))))) = true ∧
          ((((!x19) || (tB (decide ((gByte x16 x17) < (32 : Int))))) || (tB (decide ((126 : Int) < (gByte x16 x17))))) || (tB (decide ((0 : Int) ≤ x17)))) = true ∧
          ((((!x19) || (tB (decide ((gByte x16 x17) < (32 : Int))))) || (tB (decide ((126 : Int) < (gByte x16 x17))))) || (tB (decide (x17 < (x16.length : Int))))) = true ∧
          ((!(((!x19) || (tB (decide ((gByte x16 x17) < (32 : Int))))) || (tB (decide ((126 : Int) < (gByte x16 x17)))))) = true →
           ∀ _ : Nat → Nat, ∃ R' : Out → List (Ref × List A) → Prop, Holds Try.prog 87 [(A.d (D.lit (.int .u8 (gByte x16 x17))))] [] R' ∧
           (∀ v H', R' (.ret v) H' → ∃ x20 : Bool, v = (A.d (D.lit (.bool x20))) ∧ H' = [] ∧
            (x20 = true →
             R (.ret (A.agg ((D.lit (.int .i64 (0 : Int))) :: ((D.lit (.int .u64 (0 : Int))) :: ((D.lit (.int .u64 (0 : Int))) :: ((D.lit (.int .u64 (0 : Int))) :: ((D.lit (.int .u64 (0 : Int))) :: ((D.slc ([] : List (List D))) :: ([] : List D))))))))) [((Ref.up q0), [(A.d (D.lit (bytesV x16))), (A.d (D.lit (.int .i64 x17))), (A.d (D.lit (.bool true)))])]) ∧
            (x20 = false →
             (tB (decide ((-9223372036854775808 : Int) ≤ (x17 + (1 : Int))))) = true ∧
             (tB (decide ((x17 + (1 : Int)) ≤ (9223372036854775807 : Int)))) = true ∧
             (tB (decide ((-9223372036854775808 : Int) ≤ ((x17 + (1 : Int)) - (1 : Int))))) = true ∧
             (tB (decide (((x17 + (1 : Int)) - (1 : Int)) ≤ (9223372036854775807 : Int)))) = true ∧
             (tB (decide ((0 : Int) ≤ ((x17 + (1 : Int)) - (1 : Int))))) = true ∧
             (tB (decide (((x17 + (1 : Int)) - (1 : Int)) < (x16.length : Int)))) = true ∧
             (tB (decide ((-9223372036854775808 : Int) ≤ (gByte x16 ((x17 + (1 : Int)) - (1 : Int)))))) = true ∧
             (tB (decide ((gByte x16 ((x17 + (1 : Int)) - (1 : Int))) ≤ (9223372036854775807 : Int)))) = true ∧
             ∀ _ : Nat → Nat, ∃ R' : Out → List (Ref × List A) → Prop, Holds Try.prog 85 [(A.d (D.lit (.int .i64 (gByte x16 ((x17 + (1 : Int)) - (1 : Int)))))), (A.d (D.lit (.int .i64 (gByte x16 ((x17 + (1 : Int)) - (1 : Int))))))] [] R' ∧
             (∀ v H', R' (.ret v) H' → ∃ x21 : List D, v = (A.agg x21) ∧ H' = [] ∧
              (tB ((x21.length : Int) == (4 : Int))) = true ∧
              R (.ret (A.agg ((D.lit (.int .i64 (2 : Int))) :: ((x21.getD 0 D0) :: ((x21.getD 1 D0) :: ((x21.getD 2 D0) :: ((x21.getD 3 D0) :: ((D.slc ([] : List (List D))) :: ([] : List D))))))))) [((Ref.up q0), [(A.d (D.lit (bytesV x16))), (A.d (D.lit (.int .i64 (x17 + (1 : Int))))), (A.d (D.lit (.bool x18)))])]) ∧
             (∀ x21v H', R' (.pan x21v) H' → H' = [] ∧
              R (.pan x21v) [((Ref.up q0), [(A.d (D.lit (bytesV x16))), (A.d (D.lit (.int .i64 (x17 + (1 : Int))))), (A.d (D.lit (.bool x18)))])]))) ∧
           (∀ x20v H', R' (.pan x20v) H' → H' = [] ∧
            R (.pan x20v) [((Ref.up q0), [(A.d (D.lit (bytesV x16))), (A.d (D.lit (.int .i64 x17))), (A.d (D.lit (.bool x18)))])])) ∧
          ((!(((!x19) || (tB (decide ((gByte x16 x17) < (32 : Int))))) || (tB (decide ((126 : Int) < (gByte x16 x17)))))) = false →
           R (.ret (A.agg ((D.lit (.int .i64 (0 : Int))) :: ((D.lit (.int .u64 (0 : Int))) :: ((D.lit (.int .u64 (0 : Int))) :: ((D.lit (.int .u64 (0 : Int))) :: ((D.lit (.int .u64 (0 : Int))) :: ((D.slc ([] : List (List D))) :: ([] : List D))))))))) [((Ref.up q0), [(A.d (D.lit (bytesV x16))), (A.d (D.lit (.int .i64 x17))), (A.d (D.lit (.bool true)))])]))) ∧
        (∀ x15v H', R' (.pan x15v) H' → ∃ x16 : List UInt8, ∃ x17 : Int, ∃ x18 : Bool, H' = [(Ref.up (Ref.up q0), [(A.d (D.lit (bytesV x16))), (A.d (D.lit (.int .i64 x17))), (A.d (D.lit (.bool x18)))])] ∧
         R (.pan x15v) [((Ref.up q0), [(A.d (D.lit (bytesV x16))), (A.d (D.lit (.int .i64 x17))), (A.d (D.lit (.bool x18)))])]))) ∧
      (∀ x11v H', R' (.pan x11v) H' → ∃ x12 : List UInt8, ∃ x13 : Int, ∃ x14 : Bool, H' = [(Ref.up (Ref.up q0), [(A.d (D.lit (bytesV x12))), (A.d (D.lit (.int .i64 x13))), (A.d (D.lit (.bool x14)))])] ∧
       R (.pan x11v) [((Ref.up q0), [(A.d (D.lit (bytesV x12))), (A.d (D.lit (.int .i64 x13))), (A.d (D.lit (.bool x14)))])]))) ∧
    (∀ x7v H', R' (.pan x7v) H' → ∃ x8 : List UInt8, ∃ x9 : Int, ∃ x10 : Bool, H' = [(Ref.up (Ref.up q0), [(A.d (D.lit (bytesV x8))), (A.d (D.lit (.int .i64 x9))), (A.d (D.lit (.bool x10)))])] ∧
     R (.pan x7v) [((Ref.up q0), [(A.d (D.lit (bytesV x8))), (A.d (D.lit (.int .i64 x9))), (A.d (D.lit (.bool x10)))])]))) ∧
  (∀ x3v H', R' (.pan x3v) H' → ∃ x4 : List UInt8, ∃ x5 : Int, ∃ x6 : Bool, H' = [(Ref.up (Ref.up q0), [(A.d (D.lit (bytesV x4))), (A.d (D.lit (.int .i64 x5))), (A.d (D.lit (.bool x6)))])] ∧
   R (.pan x3v) [((Ref.up q0), [(A.d (D.lit (bytesV x4))), (A.d (D.lit (.int .i64 x5))), (A.d (D.lit (.bool x6)))])])) :
    Holds Try.prog 74 [(A.ptr (Ref.up q0) 0)] [((Ref.up q0), [(A.d (D.lit (bytesV x0))), (A.d (D.lit (.int .i64 x1))), (A.d (D.lit (.bool x2)))])] R :=
  walk (c := ⟨Try.prog, 101, true, [0, 2, 3, 4, 5, 10, 15, 20, 24, 30, 73]⟩) (op := {  }) (fn := Try.f74) (args := [.ptr (.up 0) 0]) (K := [(.up 0, [.c (.o1 .cs (.var 0)), .c (.o1 (.ci .i64) (.var 1)), .c (.o1 .cb (.o1 .tb (.var 2)))])]) (nv := 3) (depth := 7) (up := upOf [q0]) (ρ := envOf [.s x0, .i x1, .b x2])
    rfl rfl rfl rfl rfl (by decide) (by decide) (by decide) (by decide) rfl (by simp [bxDen, RRef.den, upOf]) (T_of (by kernel_rfl) h)
theorem w84 {R : Out → List (Ref × List A) → Prop} (x0 : List UInt8) (x1 : Int) (x2 : Bool) (q0 : Ref) (h : ∀ _ : Nat → Nat, ∃ R' : Out → List (Ref × List A) → Prop, Holds Try.prog 52 [(A.ptr (.up (Ref.up q0)) 0), (A.d (D.lit (.int .u8 (120 : Int))))] [(Ref.up (Ref.up q0), [(A.d (D.lit (bytesV x0))), (A.d (D.lit (.int .i64 x1))), (A.d (D.lit (.bool x2)))])] R' ∧
  (∀ v H', R' (.ret v) H' → ∃ x3 : Bool, ∃ x4 : List UInt8, ∃ x5 : Int, ∃ x6 : Bool, v = (A.d (D.lit (.bool x3))) ∧ H' = [(Ref.up (Ref.up q0), [(A.d (D.lit (bytesV x4))), (A.d (D.lit (.int .i64 x5))), (A.d (D.lit (.bool x6)))])] ∧
   (x3 = true →
    ∀ _ : Nat → Nat, ∃ R' : Out → List (Ref × List A) → Prop, Holds Try.prog 95 [(A.ptr (.up (Ref.up q0)) 0), (A.d (D.lit (.int .i64 (0 : Int))))] [(Ref.up (Ref.up q0), [(A.d (D.lit (bytesV x4))), (A.d (D.lit (.int .i64 x5))), (A.d (D.lit (.bool x6)))])] R' ∧
    (∀ v H', R' (.ret v) H' → ∃ x7 : Int, ∃ x8 : List UInt8, ∃ x9 : Int, ∃ x10 : Bool, v = (A.d (D.lit (.int .i64 x7))) ∧ H' = [(Ref.up (Ref.up q0), [(A.d (D.lit (bytesV x8))), (A.d (D.lit (.int .i64 x9))), (A.d (D.lit (.bool x10)))])] ∧
     ∀ _ : Nat → Nat, ∃ R' : Out → List (Ref × List A) → Prop, Holds Try.prog 85 [(A.d (D.lit (.int .i64 x7))), (A.d (D.lit (.int .i64 x7)))] [] R' ∧
     (∀ v H', R' (.ret v) H' → ∃ x11 : List D, v = (A.agg x11) ∧ H' = [] ∧
      (tB ((x11.length : Int) == (4 : Int))) = true ∧
      R (.ret (A.agg ((D.lit (.int .i64 (2 : Int))) :: ((x11.getD 0 D0) :: ((x11.getD 1 D0) :: ((x11.getD 2 D0) :: ((x11.getD 3 D0) :: ((D.slc ([] : List (List D))) :: ([] : List D))))))))) [((Ref.up q0), [(A.d (D.lit (bytesV x8))), (A.d (D.lit (.int .i64 x9))), (A.d (D.lit (.bool x10)))])]) ∧
     (∀ x11v H', R' (.pan x11v) H' → H' = [] ∧
      R (.pan x11v) [((Ref.up q0), [(A.d (D.lit (bytesV x8))), (A.d (D.lit (.int .i64 x9))), (A.d (D.lit (.bool x10)))])])) ∧
    (∀ x7v H', R' (.pan x7v) H' → ∃ x8 : List UInt8, ∃ x9 : Int, ∃ x10 : Bool, H' = [(Ref.up (Ref.up q0), [(A.d (D.lit (bytesV x8))), (A.d (D.lit (.int .i64 x9))), (A.d (D.lit (.bool x10)))])] ∧
     R (.pan x7v) [((Ref.up q0), [(A.d (D.lit (bytesV x8))), (A.d (D.lit (.int .i64 x9))), (A.d (D.lit (.bool x10)))])])) ∧
   (x3 = false →
    ∀ _ : Nat → Nat, ∃ R' : Out → List (Ref × List A) → Prop, Holds Try.prog 67 [(A.ptr (.up (Ref.up q0)) 0)] [(Ref.up (Ref.up q0), [(A.d (D.lit (bytesV x4))), (A.d (D.lit (.int .i64 x5))), (A.d (D.lit (.bool x6)))])] R' ∧
    (∀ v H', R' (.ret v) H' → ∃ x7 : Bool, ∃ x8 : List UInt8, ∃ x9 : Int, ∃ x10 : Bool, v = (A.d (D.lit (.bool x7))) ∧ H' = [(Ref.up (Ref.up q0), [(A.d (D.lit (bytesV x8))), (A.d (D.lit (.int .i64 x9))), (A.d (D.lit (.bool x10)))])] ∧
     (x7 = true →
      (tB (decide ((0 : Int) ≤ x9))) = true ∧
      (tB (decide (x9 < (x8.length : Int)))) = true ∧
      ∀ _ : Nat → Nat, ∃ R' : Out → List (Ref × List A) → Prop, Holds Try.prog 96 [(A.d (D.lit (.int .u8 (gByte x8 x9))))] [] R' ∧
      (∀ v H', R' (.ret v) H' → ∃ x11 : List D, ∃ x12 : Bool, v = (A.tup [(true, x11), (false, [(D.lit (.bool x12))])]) ∧ H' = [] ∧
       (tB ((x11.length : Int) == (4 : Int))) = true ∧
       ∀ _ : Nat → Nat, ∃ R' : Out → List (Ref × List A) → Prop, Holds Try.prog 97 [(A.d (D.lit (.int .u8 (gByte x8 x9))))] [] R' ∧
       (∀ v H', R' (.ret v) H' → ∃ x13 : Int, v = (A.d (D.lit (.int .i64 x13))) ∧ H' = [] ∧
        ((tB (decide ((0 : Int) ≤ x13))) = true →
         ∀ _ : Nat → Nat, ∃ R' : Out → List (Ref × List A) → Prop, Holds Try.prog 85 [(A.d (D.lit (.int .i64 x13))), (A.d (D.lit (.int .i64 x13)))] [] R' ∧
         (∀ v H', R' (.ret v) H' → ∃ x14 : List D, v = (A.agg x14) ∧ H' = [] ∧
          (tB ((x14.length : Int) == (4 : Int))) = true ∧
          ∀ _ : Nat → Nat, ∃ R' : Out → List (Ref × List A) → Prop, Holds Try.prog 87 [(A.d (D.lit (.int .u8 (gByte x8 x9))))] [] R' ∧
          (∀ v H', R' (.ret v) H' → ∃ x15 : Bool, v = (A.d (D.lit (.bool x15))) ∧ H' = [] ∧
           (((x15 || (tB ((gByte x8 x9) == (94 : Int)))) || (tB ((gByte x8 x9) == (45 : Int)))) = true →
            (tB (decide ((-9223372036854775808 : Int) ≤ (gByte x8 x9)))) = true ∧
            (tB (decide ((gByte x8 x9) ≤ (9223372036854775807 : Int)))) = true ∧
            ∀ _ : Nat → Nat, ∃ R' : Out → List (Ref × List A) → Prop, Holds Try.prog 85 [(A.d (D.lit (.int .i64 (gByte x8 x9)))), (A.d (D.lit (.int .i64 (gByte x8 x9))))] [] R' ∧
            (∀ v H', R' (.ret v) H' → ∃ x16 : List D, v = (A.agg x16) ∧ H' = [] ∧
             (tB ((x16.length : Int) == (4 : Int))) = true ∧
             (tB (decide ((-9223372036854775808 : Int) ≤ (x9 + (1 : Int))))) = true ∧
             (tB (decide ((x9 + (1 : Int)) ≤ (9223372036854775807 : Int)))) = true ∧
             R (.ret (A.agg ((D.lit (.int .i64 (2 : Int))) :: ((x16.getD 0 D0) :: ((x16.getD 1 D0) :: ((x16.getD 2 D0) :: ((x16.getD 3 D0) :: ((D.slc ([] : List (List D))) :: ([] : List D))))))))) [((Ref.up q0), [(A.d (D.lit (bytesV x8))), (A.d (D.lit (.int .i64 (x9 + (1 : Int))))), (A.d (D.lit (.bool x10)))])]) ∧
            (∀ x16v H', R' (.pan x16v) H' → H' = [] ∧
             R (.pan x16v) [((Ref.up q0), [(A.d (D.lit (bytesV x8))), (A.d (D.lit (.int .i64 x9))), (A.d (D.lit (.bool x10)))])])) ∧
           (((x15 || (tB ((gByte x8 x9) == (94 : Int)))) || (tB ((gByte x8 x9) == (45 : Int)))) = false →
            (tB (decide ((-9223372036854775808 : Int) ≤ (x9 + (1 : Int))))) = true ∧
            (tB (decide ((x9 + (1 : Int)) ≤ (9223372036854775807 : Int)))) = true ∧
            R (.ret (A.agg ((D.lit (.int .i64 (2 : Int))) :: ((x14.getD 0 D0) :: ((x14.getD 1 D0) :: ((x14.getD 2 D0) :: ((x14.getD 3 D0) :: ((D.slc ([] : List (List D))) :: ([] : List D))))))))) [((Ref.up q0), [(A.d (D.lit (bytesV x8))), (A.d (D.lit (.int .i64 (x9 + (1 : Int))))), (A.d (D.lit (.bool x10)))])])) ∧
          (∀ x15v H', R' (.pan x15v) H' → H' = [] ∧
           R (.pan x15v) [((Ref.up q0), [(A.d (D.lit (bytesV x8))), (A.d (D.lit (.int .i64 x9))), (A.d (D.lit (.bool x10)))])])) ∧
         (∀ x14v H', R' (.pan x14v) H' → H' = [] ∧
          R (.pan x14v) [((Ref.up q0), [(A.d (D.lit (bytesV x8))), (A.d (D.lit (.int .i64 x9))), (A.d (D.lit (.bool x10)))])])) ∧
        ((tB (decide ((0 : Int) ≤ x13))) = false →
         ∀ _ : Nat → Nat, ∃ R' : Out → List (Ref × List A) → Prop, Holds Try.prog 87 [(A.d (D.lit (.int .u8 (gByte x8 x9))))] [] R' ∧
         (∀ v H', R' (.ret v) H' → ∃ x14 : Bool, v = (A.d (D.lit (.bool x14))) ∧ H' = [] ∧
          (((x14 || (tB ((gByte x8 x9) == (94 : Int)))) || (tB ((gByte x8 x9) == (45 : Int)))) = true →
           (tB (decide ((-9223372036854775808 : Int) ≤ (gByte x8 x9)))) = true ∧
           (tB (decide ((gByte x8 x9) ≤ (9223372036854775807 : Int)))) = true ∧
           ∀ _ : Nat → Nat, ∃ R' : Out → List (Ref × List A) → Prop, Holds Try.prog 85 [(A.d (D.lit (.int .i64 (gByte x8 x9)))), (A.d (D.lit (.int .i64 (gByte x8 x9))))] [] R' ∧
           (∀ v H', R' (.ret v) H' → ∃ x15 : List D, v = (A.agg x15) ∧ H' = [] ∧
            (tB ((x15.length : Int) == (4 : Int))) = true ∧
            (tB (decide ((-9223372036854775808 : Int) ≤ (x9 + (1 : Int))))) = true ∧
            (tB (decide ((x9 + (1 : Int)) ≤ (9223372036854775807 : Int)))) = true ∧
            R (.ret (A.agg ((D.lit (.int .i64 (2 : Int))) :: ((x15.getD 0 D0) :: ((x15.getD 1 D0) :: ((x15.getD 2 D0) :: ((x15.getD 3 D0) :: ((D.slc ([] : List (List D))) :: ([] : List D))))))))) [((Ref.up q0), [(A.d (D.lit (bytesV x8))), (A.d (D.lit (.int .i64 (x9 + (1 : Int))))), (A.d (D.lit (.bool x10)))])]) ∧
           (∀ x15v H', R' (.pan x15v) H' → H' = [] ∧
            R (.pan x15v) [((Ref.up q0), [(A.d (D.lit (bytesV x8))), (A.d (D.lit (.int .i64 x9))), (A.d (D.lit (.bool x10)))])])) ∧
          (((x14 || (tB ((gByte x8 x9) == (94 : Int)))) || (tB ((gByte x8 x9) == (45 : Int)))) = false →
           (x12 = true →
            (tB (decide ((-9223372036854775808 : Int) ≤ (x9 + (1 : Int))))) = true ∧
            (tB (decide ((x9 + (1 : Int)) ≤ (9223372036854775807 : Int)))) = true ∧
            R (.ret (A.agg ((D.lit (.int .i64 (2 : Int))) :: ((x11.getD 0 D0) :: ((x11.getD 1 D0) :: ((x11.getD 2 D0) :: ((x11.getD 3 D0) :: ((D.slc ([] : List (List D))) :: ([] : List D))))))))) [((Ref.up q0), [(A.d (D.lit (bytesV x8))), (A.d (D.lit (.int .i64 (x9 + (1 : Int))))), (A.d (D.lit (.bool x10)))])]) ∧
           (x12 = false →
            R (.ret (A.agg ((D.lit (.int .i64 (0 : Int))) :: ((D.lit (.int .u64 (0 : Int))) :: ((D.lit (.int .u64 (0 : Int))) :: ((D.lit (.int .u64 (0 : Int))) :: ((D.lit (.int .u64 (0 : Int))) :: ((D.slc ([] : List (List D))) :: ([] : List D))))))))) [((Ref.up q0), [(A.d (D.lit (bytesV x8))), (A.d (D.lit (.int .i64 x9))), (A.d (D.lit (.bool true)))])]))) ∧
         (∀ x14v H', R' (.pan x14v) H' → H' = [] ∧
          R (.pan x14v) [((Ref.up q0), [(A.d (D.lit (bytesV x8))), (A.d (D.lit (.int .i64 x9))), (A.d (D.lit (.bool x10)))])]))) ∧
       (∀ x13v H', R' (.pan x13v) H' → H' = [] ∧
        R (.pan x13v) [((Ref.up q0), [(A.d (D.lit (bytesV x8))), (A.d (D.lit (.int .i64 x9))), (A.d (D.lit (.bool x10)))])])) ∧
      (∀ x11v H', R' (.pan x11v) H' → H' = [] ∧
       R (.pan x11v) [((Ref.up q0), [(A.d (D.lit (bytesV x8))), (A.d (D.lit (.int .i64 x9))), (A.d (D.lit (.bool x10)))])])) ∧
     (x7 = false →
      R (.ret (A.agg ((D.lit (.int .i64 (0 : Int))) :: ((D.lit (.int .u64 (0 : Int))) :: ((D.lit (.int .u64 (0 : Int))) :: ((D.lit (.int .u64 (0 : Int))) :: ((D.lit (.int .u64 (0 : Int))) :: ((D.slc ([] : List (List D))) :: ([] : List D))))))))) [((Ref.up q0), [(A.d (D.lit (bytesV x8))), (A.d (D.lit (.int .i64 x9))), (A.d (D.lit (.bool true)))])])) ∧
    (∀ x7v H', R' (.pan x7v) H' → ∃ x8 : List UInt8, ∃ x9 : Int, ∃ x10 : Bool, H' = [(Ref.up (Ref.up q0), [(A.d (D.lit (bytesV x8))), (A.d (D.lit (.int .i64 x9))), (A.d (D.lit (.bool x10)))])] ∧
     R (.pan x7v) [((Ref.up q0), [(A.d (D.lit (bytesV x8))), (A.d (D.lit (.int .i64 x9))), (A.d (D.lit (.bool x10)))])]))) ∧
  (∀ x3v H', R' (.pan x3v) H' → ∃ x4 : List UInt8, ∃ x5 : Int, ∃ x6 : Bool, H' = [(Ref.up (Ref.up q0), [(A.d (D.lit (bytesV x4))), (A.d (D.lit (.int .i64 x5))), (A.d (D.lit (.bool x6)))])] ∧
   R (.pan x3v) [((Ref.up q0), [(A.d (D.lit (bytesV x4))), (A.d (D.lit (.int .i64 x5))), (A.d (D.lit (.bool x6)))])])) :
    Holds Try.prog 84 [(A.ptr (Ref.up q0) 0)] [((Ref.up q0), [(A.d (D.lit (bytesV x0))), (A.d (D.lit (.int .i64 x1))), (A.d (D.lit (.bool x2)))])] R :=
  walk (c := ⟨Try.prog, 69, true, [0, 2, 3, 4, 5, 6, 7, 9, 17, 35, 48, 54]⟩) (op := {  }) (fn := Try.f84) (args := [.ptr (.up 0) 0]) (K := [(.up 0, [.c (.o1 .cs (.var 0)), .c (.o1 (.ci .i64) (.var 1)), .c (.o1 .cb (.o1 .tb (.var 2)))])]) (nv := 3) (depth := 7) (up := upOf [q0]) (ρ := envOf [.s x0, .i x1, .b x2])
    rfl rfl rfl rfl rfl (by decide) (by decide) (by decide) (by decide) rfl (by simp [bxDen, RRef.den, upOf]) (T_of (by kernel_rfl) h)
theorem w86 {R : Out → List (Ref × List A) → Prop} (x0 : List UInt8) (x1 : Int) (x2 : Bool) (q0 : Ref) (h : ∀ _ : Nat → Nat, ∃ R' : Out → List (Ref × List A) → Prop, Holds Try.prog 52 [(A.ptr (.up (Ref.up q0)) 0), (A.d (D.lit (.int .u8 (93 : Int))))] [(Ref.up (Ref.up q0), [(A.d (D.lit (bytesV x0))), (A.d (D.lit (.int .i64 x1))), (A.d (D.lit (.bool x2)))])] R' ∧
  (∀ v H', R' (.ret v) H' → ∃ x3 : Bool, ∃ x4 : List UInt8, ∃ x5 : Int, ∃ x6 : Bool, v = (A.d (D.lit (.bool x3))) ∧ H' = [(Ref.up (Ref.up q0), [(A.d (D.lit (bytesV x4))), (A.d (D.lit (.int .i64 x5))), (A.d (D.lit (.bool x6)))])] ∧
   (x3 = true →
    R (.ret (A.agg ((D.lit (.int .i64 (0 : Int))) :: ((D.lit (.int .u64 (0 : Int))) :: ((D.lit (.int .u64 (0 : Int))) :: ((D.lit (.int .u64 (0 : Int))) :: ((D.lit (.int .u64 (0 : Int))) :: ((D.slc ([] : List (List D))) :: ([] : List D))))))))) [((Ref.up q0), [(A.d (D.lit (bytesV x4))), (A.d (D.lit (.int .i64 x5))), (A.d (D.lit (.bool x6)))])]) ∧
   (x3 = false →
    ∀ _ : Nat → Nat, ∃ R' : Out → List (Ref × List A) → Prop, Holds Try.prog 52 [(A.ptr (.up (Ref.up q0)) 0), (A.d (D.lit (.int .u8 (94 : Int))))] [(Ref.up (Ref.up q0), [(A.d (D.lit (bytesV x4))), (A.d (D.lit (.int .i64 x5))), (A.d (D.lit (.bool x6)))])] R' ∧
    (∀ v H', R' (.ret v) H' → ∃ x7 : Bool, ∃ x8 : List UInt8, ∃ x9 : Int, ∃ x10 : Bool, v = (A.d (D.lit (.bool x7))) ∧ H' = [(Ref.up (Ref.up q0), [(A.d (D.lit (bytesV x8))), (A.d (D.lit (.int .i64 x9))), (A.d (D.lit (.bool x10)))])] ∧
     ∃ (I0_0 : D → D → D → D → List UInt8 → Int → Bool → Prop) (M0_0 : D → D → D → D → List UInt8 → Int → Bool → Nat), I0_0 (D.lit (.int .u64 (0 : Int))) (D.lit (.int .u64 (0 : Int))) (D.lit (.int .u64 (0 : Int))) (D.lit (.int .u64 (0 : Int))) x8 x9 x10 ∧
     (∀ (x11 : D) (x12 : D) (x13 : D) (x14 : D) (x15 : List UInt8) (x16 : Int) (x17 : Bool) , I0_0 x11 x12 x13 x14 x15 x16 x17 →
      ((!x17) = true →
       ∀ _ : Nat → Nat, ∃ R' : Out → List (Ref × List A) → Prop, Holds Try.prog 98 [(A.ptr (.up (Ref.up q0)) 0), (A.d (D.lit (.int .i64 (0 : Int))))] [(Ref.up (Ref.up q0), [(A.d (D.lit (bytesV x15))), (A.d (D.lit (.int .i64 x16))), (A.d (D.lit (.bool x17)))])] R' ∧
       (∀ v H', R' (.ret v) H' → ∃ x18 : Int, ∃ x19 : List UInt8, ∃ x20 : Int, ∃ x21 : Bool, v = (A.d (D.lit (.int .i64 x18))) ∧ H' = [(Ref.up (Ref.up q0), [(A.d (D.lit (bytesV x19))), (A.d (D.lit (.int .i64 x20))), (A.d (D.lit (.bool x21)))])] ∧
        ∀ _ : Nat → Nat, ∃ R' : Out → List (Ref × List A) → Prop, Holds Try.prog 52 [(A.ptr (.up (Ref.up q0)) 0), (A.d (D.lit (.int .u8 (45 : Int))))] [(Ref.up (Ref.up q0), [(A.d (D.lit (bytesV x19))), (A.d (D.lit (.int .i64 x20))), (A.d (D.lit (.bool x21)))])] R' ∧
        (∀ v H', R' (.ret v) H' → ∃ x22 : Bool, ∃ x23 : List UInt8, ∃ x24 : Int, ∃ x25 : Bool, v = (A.d (D.lit (.bool x22))) ∧ H' = [(Ref.up (Ref.up q0), [(A.d (D.lit (bytesV x23))), (A.d (D.lit (.int .i64 x24))), (A.d (D.lit (.bool x25)))])] ∧
         (x22 = true →
          ∀ _ : Nat → Nat, ∃ R' : Out → List (Ref × List A) → Prop, Holds Try.prog 98 [(A.ptr (.up (Ref.up q0)) 0), (A.d (D.lit (.int .i64 x18)))] [(Ref.up (Ref.up q0), [(A.d (D.lit (bytesV x23))), (A.d (D.lit (.int .i64 x24))), (A.d (D.lit (.bool x25)))])] R' ∧
          (∀ v H', R' (.ret v) H' → ∃ x26 : Int, ∃ x27 : List UInt8, ∃ x28 : Int, ∃ x29 : Bool, v = (A.d (D.lit (.int .i64 x26))) ∧ H' = [(Ref.up (Ref.up q0), [(A.d (D.lit (bytesV x27))), (A.d (D.lit (.int .i64 x28))), (A.d (D.lit (.bool x29)))])] ∧
           ((!x29) = true →
            ∃ x30 : List D, (∀ _ : Nat → Nat, Holds Try.prog 85 [(A.d (D.lit (.int .i64 x18))), (A.d (D.lit (.int .i64 x26)))] [] (Reads [] (A.agg x30))) ∧
            ∀ _ : Nat → Nat, ∃ R' : Out → List (Ref × List A) → Prop, Holds Try.prog 99 [(A.agg (x11 :: (x12 :: (x13 :: (x14 :: ([] : List D)))))), (A.agg x30)] [] R' ∧
            (∀ v H', R' (.ret v) H' → ∃ x31 : List D, v = (A.agg x31) ∧ H' = [] ∧
             (tB ((x31.length : Int) == (4 : Int))) = true ∧
             ∀ _ : Nat → Nat, ∃ R' : Out → List (Ref × List A) → Prop, Holds Try.prog 52 [(A.ptr (.up (Ref.up q0)) 0), (A.d (D.lit (.int .u8 (93 : Int))))] [(Ref.up (Ref.up q0), [(A.d (D.lit (bytesV x27))), (A.d (D.lit (.int .i64 x28))), (A.d (D.lit (.bool x29)))])] R' ∧
             (∀ v H', R' (.ret v) H' → ∃ x32 : Bool, ∃ x33 : List UInt8, ∃ x34 : Int, ∃ x35 : Bool, v = (A.d (D.lit (.bool x32))) ∧ H' = [(Ref.up (Ref.up q0), [(A.d (D.lit (bytesV x33))), (A.d (D.lit (.int .i64 x34))), (A.d (D.lit (.bool x35)))])] ∧
              (x32 = true →
               (x7 = true →
                ∀ _ : Nat → Nat, ∃ R' : Out → List (Ref × List A) → Prop, Holds Try.prog 100 [(A.agg x31)] [] R' ∧
                (∀ v H', R' (.ret v) H' → ∃ x36 : List D, v = (A.agg x36) ∧ H' = [] ∧
                 (tB ((x36.length : Int) == (4 : Int))) = true ∧
                 R (.ret (A.agg ((D.lit (.int .i64 (2 : Int))) :: ((x36.getD 0 D0) :: ((x36.getD 1 D0) :: ((x36.getD 2 D0) :: ((x36.getD 3 D0) :: ((D.slc ([] : List (List D))) :: ([] : List D))))))))) [((Ref.up q0), [(A.d (D.lit (bytesV x33))), (A.d (D.lit (.int .i64 x34))), (A.d (D.lit (.bool x35)))])]) ∧
                (∀ x36v H', R' (.pan x36v) H' → H' = [] ∧
                 R (.pan x36v) [((Ref.up q0), [(A.d (D.lit (bytesV x33))), (A.d (D.lit (.int .i64 x34))), (A.d (D.lit (.bool x35)))])])) ∧
               (x7 = false →
                R (.ret (A.agg ((D.lit (.int .i64 (2 : Int))) :: ((x31.getD 0 D0) :: ((x31.getD 1 D0) :: ((x31.getD 2 D0) :: ((x31.getD 3 D0) :: ((D.slc ([] : List (List D))) :: ([] : List D))))))))) [((Ref.up q0), [(A.d (D.lit (bytesV x33))), (A.d (D.lit (.int .i64 x34))), (A.d (D.lit (.bool x35)))])])) ∧
              (x32 = false →
               I0_0 (x31.getD 0 D0) (x31.getD 1 D0) (x31.getD 2 D0) (x31.getD 3 D0) x33 x34 x35 ∧ M0_0 (x31.getD 0 D0) (x31.getD 1 D0) (x31.getD 2 D0) (x31.getD 3 D0) x33 x34 x35 < M0_0 x11 x12 x13 x14 x15 x16 x17)) ∧
             (∀ x32v H', R' (.pan x32v) H' → ∃ x33 : List UInt8, ∃ x34 : Int, ∃ x35 : Bool, H' = [(Ref.up (Ref.up q0), [(A.d (D.lit (bytesV x33))), (A.d (D.lit (.int .i64 x34))), (A.d (D.lit (.bool x35)))])] ∧
              R (.pan x32v) [((Ref.up q0), [(A.d (D.lit (bytesV x33))), (A.d (D.lit (.int .i64 x34))), (A.d (D.lit (.bool x35)))])])) ∧
            (∀ x31v H', R' (.pan x31v) H' → H' = [] ∧
             R (.pan x31v) [((Ref.up q0), [(A.d (D.lit (bytesV x27))), (A.d (D.lit (.int .i64 x28))), (A.d (D.lit (.bool x29)))])])) ∧
           ((!x29) = false →
            ∀ _ : Nat → Nat, ∃ R' : Out → List (Ref × List A) → Prop, Holds Try.prog 52 [(A.ptr (.up (Ref.up q0)) 0), (A.d (D.lit (.int .u8 (93 : Int))))] [(Ref.up (Ref.up q0), [(A.d (D.lit (bytesV x27))), (A.d (D.lit (.int .i64 x28))), (A.d (D.lit (.bool x29)))])] R' ∧
            (∀ v H', R' (.ret v) H' → ∃ x30 : Bool, ∃ x31 : List UInt8, ∃ x32 : Int, ∃ x33 : Bool, v = (A.d (D.lit (.bool x30))) ∧ H' = [(Ref.up (Ref.up q0), [(A.d (D.lit (bytesV x31))), (A.d (D.lit (.int .i64 x32))), (A.d (D.lit (.bool x33)))])] ∧
             (x30 = true →
              (x7 = true →
               ∀ _ : Nat → Nat, ∃ R' : Out → List (Ref × List A) → Prop, Holds Try.prog 100 [(A.agg (x11 :: (x12 :: (x13 :: (x14 :: ([] : List D))))))] [] R' ∧
               (∀ v H', R' (.ret v) H' → ∃ x34 : List D, v = (A.agg x34) ∧ H' = [] ∧
                (tB ((x34.length : Int) == (4 : Int))) = true ∧
                R (.ret (A.agg ((D.lit (.int .i64 (2 : Int))) :: ((x34.getD 0 D0) :: ((x34.getD 1 D0) :: ((x34.getD 2 D0) :: ((x34.getD 3 D0) :: ((D.slc ([] : List (List D))) :: ([] : List D))))))))) [((Ref.up q0), [(A.d (D.lit (bytesV x31))), (A.d (D.lit (.int .i64 x32))), (A.d (D.lit (.bool x33)))])]) ∧
               (∀ x34v H', R' (.pan x34v) H' → H' = [] ∧
                R (.pan x34v) [((Ref.up q0), [(A.d (D.lit (bytesV x31))), (A.d (D.lit (.int .i64 x32))), (A.d (D.lit (.bool x33)))])])) ∧
              (x7 = false →
               R (.ret (A.agg ((D.lit (.int .i64 (2 : Int))) :: (x11 :: (x12 :: (x13 :: (x14 :: ((D.slc ([] : List (List D))) :: ([] : List D))))))))) [((Ref.up q0), [(A.d (D.lit (bytesV x31))), (A.d (D.lit (.int .i64 x32))), (A.d (D.lit (.bool x33)))])])) ∧
             (x30 = false →
              I0_0 x11 x12 x13 x14 x31 x32 x33 ∧ M0_0 x11 x12 x13 x14 x31 x32 x33 < M0_0 x11 x12 x13 x14 x15 x16 x17)) ∧
            (∀ x30v H', R' (.pan x30v) H' → ∃ x31 : List UInt8, ∃ x32 : Int, ∃ x33 : Bool, H' = [(Ref.up (Ref.up q0), [(A.d (D.lit (bytesV x31))), (A.d (D.lit (.int .i64 x32))), (A.d (D.lit (.bool x33)))])] ∧
             R (.pan x30v) [((Ref.up q0), [(A.d (D.lit (bytesV x31))), (A.d (D.lit (.int .i64 x32))), (A.d (D.lit (.bool x33)))])]))) ∧
          (∀ x26v H', R' (.pan x26v) H' → ∃ x27 : List UInt8, ∃ x28 : Int, ∃ x29 : Bool, H' = [(Ref.up (Ref.up q0), [(A.d (D.lit (bytesV x27))), (A.d (D.lit (.int .i64 x28))), (A.d (D.lit (.bool x29)))])] ∧
           R (.pan x26v) [((Ref.up q0), [(A.d (D.lit (bytesV x27))), (A.d (D.lit (.int .i64 x28))), (A.d (D.lit (.bool x29)))])])) ∧
         (x22 = false →
          ((!x25) = true →
           ∃ x26 : List D, (∀ _ : Nat → Nat, Holds Try.prog 85 [(A.d (D.lit (.int .i64 x18))), (A.d (D.lit (.int .i64 x18)))] [] (Reads [] (A.agg x26))) ∧
           ∀ _ : Nat → Nat, ∃ R' : Out → List (Ref × List A) → Prop, Holds Try.prog 99 [(A.agg (x11 :: (x12 :: (x13 :: (x14 :: ([] : List D)))))), (A.agg x26)] [] R' ∧
           (∀ v H', R' (.ret v) H' → ∃ x27 : List D, v = (A.agg x27) ∧ H' = [] ∧
            (tB ((x27.length : Int) == (4 : Int))) = true ∧
            ∀ _ : Nat → Nat, ∃ R' : Out → List (Ref × List A) → Prop, Holds Try.prog 52 [(A.ptr (.up (Ref.up q0)) 0), (A.d (D.lit (.int .u8 (93 : Int))))] [(Ref.up (Ref.up q0), [(A.d (D.lit (bytesV x23))), (A.d (D.lit (.int .i64 x24))), (A.d (D.lit (.bool x25)))])] R' ∧
            (∀ v H', R' (.ret v) H' → ∃ x28 : Bool, ∃ x29 : List UInt8, ∃ x30 : Int, ∃ x31 : Bool, v = (A.d (D.lit (.bool x28))) ∧ H' = [(Ref.up (Ref.up q0), [(A.d (D.lit (bytesV x29))), (A.d (D.lit (.int .i64 x30))), (A.d (D.lit (.bool x31)))])] ∧
             (x28 = true →
              (x7 = true →
               ∀ _ : Nat → Nat, ∃ R' : Out → List (Ref × List A) → Prop, Holds Try.prog 100 [(A.agg x27)] [] R' ∧
               (∀ v H', R' (.ret v) H' → ∃ x32 : List D, v = (A.agg x32) ∧ H' = [] ∧
                (tB ((x32.length : Int) == (4 : Int))) = true ∧
                R (.ret (A.agg ((D.lit (.int .i64 (2 : Int))) :: ((x32.getD 0 D0) :: ((x32.getD 1 D0) :: ((x32.getD 2 D0) :: ((x32.getD 3 D0) :: ((D.slc ([] : List (List D))) :: ([] : List D))))))))) [((Ref.up q0), [(A.d (D.lit (bytesV x29))), (A.d (D.lit (.int .i64 x30))), (A.d (D.lit (.bool x31)))])]) ∧
               (∀ x32v H', R' (.pan x32v) H' → H' = [] ∧
                R (.pan x32v) [((Ref.up q0), [(A.d (D.lit (bytesV x29))), (A.d (D.lit (.int .i64 x30))), (A.d (D.lit (.bool x31)))])])) ∧
              (x7 = false →
               R (.ret (A.agg ((D.lit (.int .i64 (2 : Int))) :: ((x27.getD 0 D0) :: ((x27.getD 1 D0) :: ((x27.getD 2 D0) :: ((x27.getD 3 D0) :: ((D.slc ([] : List (List D))) :: ([] : List D))))))))) [((Ref.up q0), [(A.d (D.lit (bytesV x29))), (A.d (D.lit (.int .i64 x30))), (A.d (D.lit (.bool x31)))])])) ∧
             (x28 = false →
              I0_0 (x27.getD 0 D0) (x27.getD 1 D0) (x27.getD 2 D0) (x27.getD 3 D0) x29 x30 x31 ∧ M0_0 (x27.getD 0 D0) (x27.getD 1 D0) (x27.getD 2 D0) (x27.getD 3 D0) x29 x30 x31 < M0_0 x11 x12 x13 x14 x15 x16 x17)) ∧
            (∀ x28v H', R' (.pan x28v) H' → ∃ x29 : List UInt8, ∃ x30 : Int, ∃ x31 : Bool, H' = [(Ref.up (Ref.up q0), [(A.d (D.lit (bytesV x29))), (A.d (D.lit (.int .i64 x30))), (A.d (D.lit (.bool x31)))])] ∧
             R (.pan x28v) [((Ref.up q0), [(A.d (D.lit (bytesV x29))), (A.d (D.lit (.int .i64 x30))), (A.d (D.lit (.bool x31)))])])) ∧
           (∀ x27v H', R' (.pan x27v) H' → H' = [] ∧
            R (.pan x27v) [((Ref.up q0), [(A.d (D.lit (bytesV x23))), (A.d (D.lit (.int .i64 x24))), (A.d (D.lit (.bool x25)))])])) ∧
          ((!x25) = false →
           ∀ _ : Nat → Nat, ∃ R' : Out → List (Ref × List A) → Prop, Holds Try.prog 52 [(A.ptr (.up (Ref.up q0)) 0), (A.d (D.lit (.int .u8 (93 : Int))))] [(Ref.up (Ref.up q0), [(A.d (D.lit (bytesV x23))), (A.d (D.lit (.int .i64 x24))), (A.d (D.lit (.bool x25)))])] R' ∧
           (∀ v H', R' (.ret v) H' → ∃ x26 : Bool, ∃ x27 : List UInt8, ∃ x28 : Int, ∃ x29 : Bool, v = (A.d (D.lit (.bool x26))) ∧ H' = [(Ref.up (Ref.up q0), [(A.d (D.lit (bytesV x27))), (A.d (D.lit (.int .i64 x28))), (A.d (D.lit (.bool x29)))])] ∧
            (x26 = true →
             (x7 = true →
              ∀ _ : Nat → Nat, ∃ R' : Out → List (Ref × List A) → Prop, Holds Try.prog 100 [(A.agg (x11 :: (x12 :: (x13 :: (x14 :: ([] : List D))))))] [] R' ∧
              (∀ v H', R' (.ret v) H' → ∃ x30 : List D, v = (A.agg x30) ∧ H' = [] ∧
               (tB ((x30.length : Int) == (4 : Int))) = true ∧
               R (.ret (A.agg ((D.lit (.int .i64 (2 : Int))) :: ((x30.getD 0 D0) :: ((x30.getD 1 D0) :: ((x30.getD 2 D0) :: ((x30.getD 3 D0) :: ((D.slc ([] : List (List D))) :: ([] : List D))))))))) [((Ref.up q0), [(A.d (D.lit (bytesV x27))), (A.d (D.lit (.int .i64 x28))), (A.d (D.lit (.bool x29)))])]) ∧
              (∀ x30v H', R' (.pan x30v) H' → H' = [] ∧
               R (.pan x30v) [((Ref.up q0), [(A.d (D.lit (bytesV x27))), (A.d (D.lit (.int .i64 x28))), (A.d (D.lit (.bool x29)))])])) ∧
             (x7 = false →
              R (.ret (A.agg ((D.lit (.int .i64 (2 : Int))) :: (x11 :: (x12 :: (x13 :: (x14 :: ((D.slc ([] : List (List D))) :: ([] : List D))))))))) [((Ref.up q0), [(A.d (D.lit (bytesV x27))), (A.d (D.lit (.int .i64 x28))), (A.d (D.lit (.bool x29)))])])) ∧
            (x26 = false →
             I0_0 x11 x12 x13 x14 x27 x28 x29 ∧ M0_0 x11 x12 x13 x14 x27 x28 x29 < M0_0 x11 x12 x13 x14 x15 x16 x17)) ∧
           (∀ x26v H', R' (.pan x26v) H' → ∃ x27 : List UInt8, ∃ x28 : Int, ∃ x29 : Bool, H' = [(Ref.up (Ref.up q0), [(A.d (D.lit (bytesV x27))), (A.d (D.lit (.int .i64 x28))), (A.d (D.lit (.bool x29)))])] ∧
            R (.pan x26v) [((Ref.up q0), [(A.d (D.lit (bytesV x27))), (A.d (D.lit (.int .i64 x28))), (A.d (D.lit (.bool x29)))])])))) ∧
        (∀ x22v H', R' (.pan x22v) H' → ∃ x23 : List UInt8, ∃ x24 : Int, ∃ x25 : Bool, H' = [(Ref.up (Ref.up q0), [(A.d (D.lit (bytesV x23))), (A.d (D.lit (.int .i64 x24))), (A.d (D.lit (.bool x25)))])] ∧
         R (.pan x22v) [((Ref.up q0), [(A.d (D.lit (bytesV x23))), (A.d (D.lit (.int .i64 x24))), (A.d (D.lit (.bool x25)))])])) ∧
       (∀ x18v H', R' (.pan x18v) H' → ∃ x19 : List UInt8, ∃ x20 : Int, ∃ x21 : Bool, H' = [(Ref.up (Ref.up q0), [(A.d (D.lit (bytesV x19))), (A.d (D.lit (.int .i64 x20))), (A.d (D.lit (.bool x21)))])] ∧
        R (.pan x18v) [((Ref.up q0), [(A.d (D.lit (bytesV x19))), (A.d (D.lit (.int .i64 x20))), (A.d (D.lit (.bool x21)))])])) ∧
      ((!x17) = false →
       (x7 = true →
        ∀ _ : Nat → Nat, ∃ R' : Out → List (Ref × List A) → Prop, Holds Try.prog 100 [(A.agg (x11 :: (x12 :: (x13 :: (x14 :: ([] : List D))))))] [] R' ∧
        (∀ v H', R' (.ret v) H' → ∃ x18 : List D, v = (A.agg x18) ∧ H' = [] ∧
         (tB ((x18.length : Int) == (4 : Int))) = true ∧
         R (.ret (A.agg ((D.lit (.int .i64 (2 : Int))) :: ((x18.getD 0 D0) :: ((x18.getD 1 D0) :: ((x18.getD 2 D0) :: ((x18.getD 3 D0) :: ((D.slc ([] : List (List D))) :: ([] : List D))))))))) [((Ref.up q0), [(A.d (D.lit (bytesV x15))), (A.d (D.lit (.int .i64 x16))), (A.d (D.lit (.bool x17)))])]) ∧
        (∀ x18v H', R' (.pan x18v) H' → H' = [] ∧
         R (.pan x18v) [((Ref.up q0), [(A.d (D.lit (bytesV x15))), (A.d (D.lit (.int .i64 x16))), (A.d (D.lit (.bool x17)))])])) ∧
       (x7 = false →
        R (.ret (A.agg ((D.lit (.int .i64 (2 : Int))) :: (x11 :: (x12 :: (x13 :: (x14 :: ((D.slc ([] : List (List D))) :: ([] : List D))))))))) [((Ref.up q0), [(A.d (D.lit (bytesV x15))), (A.d (D.lit (.int .i64 x16))), (A.d (D.lit (.bool x17)))])]))) ∧
     True) ∧
    (∀ x7v H', R' (.pan x7v) H' → ∃ x8 : List UInt8, ∃ x9 : Int, ∃ x10 : Bool, H' = [(Ref.up (Ref.up q0), [(A.d (D.lit (bytesV x8))), (A.d (D.lit (.int .i64 x9))), (A.d (D.lit (.bool x10)))])] ∧
     R (.pan x7v) [((Ref.up q0), [(A.d (D.lit (bytesV x8))), (A.d (D.lit (.int .i64 x9))), (A.d (D.lit (.bool x10)))])]))) ∧
  (∀ x3v H', R' (.pan x3v) H' → ∃ x4 : List UInt8, ∃ x5 : Int, ∃ x6 : Bool, H' = [(Ref.up (Ref.up q0), [(A.d (D.lit (bytesV x4))), (A.d (D.lit (.int .i64 x5))), (A.d (D.lit (.bool x6)))])] ∧
   R (.pan x3v) [((Ref.up q0), [(A.d (D.lit (bytesV x4))), (A.d (D.lit (.int .i64 x5))), (A.d (D.lit (.bool x6)))])])) :
    Holds Try.prog 86 [(A.ptr (Ref.up q0) 0)] [((Ref.up q0), [(A.d (D.lit (bytesV x0))), (A.d (D.lit (.int .i64 x1))), (A.d (D.lit (.bool x2)))])] R :=
  walk (c := ⟨Try.prog, 42, true, [0, 2, 3, 4, 5, 6, 8, 16, 21, 29, 36, 37]⟩) (op := {  }) (fn := Try.f86) (args := [.ptr (.up 0) 0]) (K := [(.up 0, [.c (.o1 .cs (.var 0)), .c (.o1 (.ci .i64) (.var 1)), .c (.o1 .cb (.o1 .tb (.var 2)))])]) (nv := 3) (depth := 6) (up := upOf [q0]) (ρ := envOf [.s x0, .i x1, .b x2])
    rfl rfl rfl rfl rfl (by decide) (by decide) (by decide) (by decide) rfl (by simp [bxDen, RRef.den, upOf]) (T_of (by kernel_rfl) h)
theorem w95 {R : Out → List (Ref × List A) → Prop} (x0 : List UInt8) (x1 : Int) (x2 : Bool) (x3 : Int) (q0 : Ref) (h : ∃ x4 : Bool, (∀ _ : Nat → Nat, Holds Try.prog 67 [(A.ptr (.up (Ref.up q0)) 0)] [(Ref.up (Ref.up q0), [(A.d (D.lit (bytesV x0))), (A.d (D.lit (.int .i64 x1))), (A.d (D.lit (.bool x2)))])] (Reads [(Ref.up (Ref.up q0), [(A.d (D.lit (bytesV x0))), (A.d (D.lit (.int .i64 x1))), (A.d (D.lit (.bool x2)))])] (A.d (D.lit (.bool x4))))) ∧
  ((!x4) || (tB (decide ((0 : Int) ≤ x1)))) = true ∧
  ((!x4) || (tB (decide (x1 < (x0.length : Int))))) = true ∧
  (x4 = true →
   ∃ x5 : Int, (∀ _ : Nat → Nat, Holds Try.prog 103 [(A.d (D.lit (.int .u8 (gByte x0 x1))))] [] (Reads [] (A.d (D.lit (.int .i64 x5))))) ∧
   ((tB (decide (x5 < (0 : Int)))) || (tB (decide ((0 : Int) ≤ x1)))) = true ∧
   ((tB (decide (x5 < (0 : Int)))) || (tB (decide (x1 < (x0.length : Int))))) = true ∧
   ((!(tB (decide (x5 < (0 : Int))))) = true →
    ∃ x6 : Int, (∀ _ : Nat → Nat, Holds Try.prog 103 [(A.d (D.lit (.int .u8 (gByte x0 x1))))] [] (Reads [] (A.d (D.lit (.int .i64 x6))))) ∧
    (tB (decide ((-9223372036854775808 : Int) ≤ (x6 * (16 : Int))))) = true ∧
    (tB (decide ((x6 * (16 : Int)) ≤ (9223372036854775807 : Int)))) = true ∧
    (tB (decide ((-9223372036854775808 : Int) ≤ ((x6 * (16 : Int)) + (15 : Int))))) = true ∧
    (tB (decide (((x6 * (16 : Int)) + (15 : Int)) ≤ (9223372036854775807 : Int)))) = true ∧
    ((tB (decide (((x6 * (16 : Int)) + (15 : Int)) < x3))) = true →
     R (.ret (A.d (D.lit (.int .i64 (0 : Int))))) [((Ref.up q0), [(A.d (D.lit (bytesV x0))), (A.d (D.lit (.int .i64 x1))), (A.d (D.lit (.bool true)))])]) ∧
    ((tB (decide (((x6 * (16 : Int)) + (15 : Int)) < x3))) = false →
     (tB (decide ((0 : Int) ≤ x1))) = true ∧
     (tB (decide (x1 < (x0.length : Int)))) = true ∧
     ∀ _ : Nat → Nat, ∃ R' : Out → List (Ref × List A) → Prop, Holds Try.prog 103 [(A.d (D.lit (.int .u8 (gByte x0 x1))))] [] R' ∧
     (∀ v H', R' (.ret v) H' → ∃ x7 : Int, v = (A.d (D.lit (.int .i64 x7))) ∧ H' = [] ∧
      (tB (decide ((-9223372036854775808 : Int) ≤ (x7 * (16 : Int))))) = true ∧
      (tB (decide ((x7 * (16 : Int)) ≤ (9223372036854775807 : Int)))) = true ∧
      (tB (decide ((-9223372036854775808 : Int) ≤ (x1 + (1 : Int))))) = true ∧
      (tB (decide ((x1 + (1 : Int)) ≤ (9223372036854775807 : Int)))) = true ∧
      ∃ x8 : Bool, (∀ _ : Nat → Nat, Holds Try.prog 67 [(A.ptr (.up (Ref.up q0)) 0)] [(Ref.up (Ref.up q0), [(A.d (D.lit (bytesV x0))), (A.d (D.lit (.int .i64 (x1 + (1 : Int))))), (A.d (D.lit (.bool x2)))])] (Reads [(Ref.up (Ref.up q0), [(A.d (D.lit (bytesV x0))), (A.d (D.lit (.int .i64 (x1 + (1 : Int))))), (A.d (D.lit (.bool x2)))])] (A.d (D.lit (.bool x8))))) ∧
      ((!x8) || (tB (decide ((0 : Int) ≤ (x1 + (1 : Int)))))) = true ∧
      ((!x8) || (tB (decide ((x1 + (1 : Int)) < (x0.length : Int))))) = true ∧
      (x8 = true →
       ∃ x9 : Int, (∀ _ : Nat → Nat, Holds Try.prog 103 [(A.d (D.lit (.int .u8 (gByte x0 (x1 + (1 : Int))))))] [] (Reads [] (A.d (D.lit (.int .i64 x9))))) ∧
       ((tB (decide (x9 < (0 : Int)))) || (tB (decide ((0 : Int) ≤ (x1 + (1 : Int)))))) = true ∧
       ((tB (decide (x9 < (0 : Int)))) || (tB (decide ((x1 + (1 : Int)) < (x0.length : Int))))) = true ∧
       ((!(tB (decide (x9 < (0 : Int))))) = true →
        ∃ x10 : Int, (∀ _ : Nat → Nat, Holds Try.prog 103 [(A.d (D.lit (.int .u8 (gByte x0 (x1 + (1 : Int))))))] [] (Reads [] (A.d (D.lit (.int .i64 x10))))) ∧
        (tB (decide ((-9223372036854775808 : Int) ≤ ((x7 * (16 : Int)) + x10)))) = true ∧
        (tB (decide (((x7 * (16 : Int)) + x10) ≤ (9223372036854775807 : Int)))) = true ∧
        ((tB (decide (((x7 * (16 : Int)) + x10) < x3))) = true →
         R (.ret (A.d (D.lit (.int .i64 (0 : Int))))) [((Ref.up q0), [(A.d (D.lit (bytesV x0))), (A.d (D.lit (.int .i64 (x1 + (1 : Int))))), (A.d (D.lit (.bool true)))])]) ∧
        ((tB (decide (((x7 * (16 : Int)) + x10) < x3))) = false →
         (tB (decide ((-9223372036854775808 : Int) ≤ ((x1 + (1 : Int)) + (1 : Int))))) = true ∧
         (tB (decide (((x1 + (1 : Int)) + (1 : Int)) ≤ (9223372036854775807 : Int)))) = true ∧
         (tB (decide ((-9223372036854775808 : Int) ≤ (((x1 + (1 : Int)) + (1 : Int)) - (1 : Int))))) = true ∧
         (tB (decide ((((x1 + (1 : Int)) + (1 : Int)) - (1 : Int)) ≤ (9223372036854775807 : Int)))) = true ∧
         (tB (decide ((0 : Int) ≤ (((x1 + (1 : Int)) + (1 : Int)) - (1 : Int))))) = true ∧
         (tB (decide ((((x1 + (1 : Int)) + (1 : Int)) - (1 : Int)) < (x0.length : Int)))) = true ∧
         ∃ x11 : Int, (∀ _ : Nat → Nat, Holds Try.prog 103 [(A.d (D.lit (.int .u8 (gByte x0 (((x1 + (1 : Int)) + (1 : Int)) - (1 : Int))))))] [] (Reads [] (A.d (D.lit (.int .i64 x11))))) ∧
         (tB (decide ((-9223372036854775808 : Int) ≤ ((x7 * (16 : Int)) + x11)))) = true ∧
         (tB (decide (((x7 * (16 : Int)) + x11) ≤ (9223372036854775807 : Int)))) = true ∧
         R (.ret (A.d (D.lit (.int .i64 ((x7 * (16 : Int)) + x11))))) [((Ref.up q0), [(A.d (D.lit (bytesV x0))), (A.d (D.lit (.int .i64 ((x1 + (1 : Int)) + (1 : Int))))), (A.d (D.lit (.bool x2)))])])) ∧
       ((!(tB (decide (x9 < (0 : Int))))) = false →
        R (.ret (A.d (D.lit (.int .i64 (0 : Int))))) [((Ref.up q0), [(A.d (D.lit (bytesV x0))), (A.d (D.lit (.int .i64 (x1 + (1 : Int))))), (A.d (D.lit (.bool true)))])])) ∧
      (x8 = false →
       R (.ret (A.d (D.lit (.int .i64 (0 : Int))))) [((Ref.up q0), [(A.d (D.lit (bytesV x0))), (A.d (D.lit (.int .i64 (x1 + (1 : Int))))), (A.d (D.lit (.bool true)))])])) ∧
     (∀ x7v H', R' (.pan x7v) H' → H' = [] ∧
      R (.pan x7v) [((Ref.up q0), [(A.d (D.lit (bytesV x0))), (A.d (D.lit (.int .i64 x1))), (A.d (D.lit (.bool x2)))])]))) ∧
   ((!(tB (decide (x5 < (0 : Int))))) = false →
    R (.ret (A.d (D.lit (.int .i64 (0 : Int))))) [((Ref.up q0), [(A.d (D.lit (bytesV x0))), (A.d (D.lit (.int .i64 x1))), (A.d (D.lit (.bool true)))])])) ∧
  (x4 = false →
   R (.ret (A.d (D.lit (.int .i64 (0 : Int))))) [((Ref.up q0), [(A.d (D.lit (bytesV x0))), (A.d (D.lit (.int .i64 x1))), (A.d (D.lit (.bool true)))])])) :
    Holds Try.prog 95 [(A.ptr (Ref.up q0) 0), (A.d (D.lit (.int .i64 x3)))] [((Ref.up q0), [(A.d (D.lit (bytesV x0))), (A.d (D.lit (.int .i64 x1))), (A.d (D.lit (.bool x2)))])] R :=
  walk (c := ⟨Try.prog, 116, true, [0, 1, 4, 5, 37, 91]⟩) (op := {  }) (fn := Try.f95) (args := [.ptr (.up 0) 0, .c (.o1 (.ci .i64) (.var 3))]) (K := [(.up 0, [.c (.o1 .cs (.var 0)), .c (.o1 (.ci .i64) (.var 1)), .c (.o1 .cb (.o1 .tb (.var 2)))])]) (nv := 4) (depth := 7) (up := upOf [q0]) (ρ := envOf [.s x0, .i x1, .b x2, .i x3])
    rfl rfl rfl rfl rfl (by decide) (by decide) (by decide) (by decide) rfl (by simp [bxDen, RRef.den, upOf]) (T_of (by kernel_rfl) h)
theorem w98 {R : Out → List (Ref × List A) → Prop} (x0 : List UInt8) (x1 : Int) (x2 : Bool) (x3 : Int) (q0 : Ref) (h : ∀ _ : Nat → Nat, ∃ R' : Out → List (Ref × List A) → Prop, Holds Try.prog 52 [(A.ptr (.up (Ref.up q0)) 0), (A.d (D.lit (.int .u8 (92 : Int))))] [(Ref.up (Ref.up q0), [(A.d (D.lit (bytesV x0))), (A.d (D.lit (.int .i64 x1))), (A.d (D.lit (.bool x2)))])] R' ∧
  (∀ v H', R' (.ret v) H' → ∃ x4 : Bool, ∃ x5 : List UInt8, ∃ x6 : Int, ∃ x7 : Bool, v = (A.d (D.lit (.bool x4))) ∧ H' = [(Ref.up (Ref.up q0), [(A.d (D.lit (bytesV x5))), (A.d (D.lit (.int .i64 x6))), (A.d (D.lit (.bool x7)))])] ∧
   (x4 = true →
    ∀ _ : Nat → Nat, ∃ R' : Out → List (Ref × List A) → Prop, Holds Try.prog 52 [(A.ptr (.up (Ref.up q0)) 0), (A.d (D.lit (.int .u8 (120 : Int))))] [(Ref.up (Ref.up q0), [(A.d (D.lit (bytesV x5))), (A.d (D.lit (.int .i64 x6))), (A.d (D.lit (.bool x7)))])] R' ∧
    (∀ v H', R' (.ret v) H' → ∃ x8 : Bool, ∃ x9 : List UInt8, ∃ x10 : Int, ∃ x11 : Bool, v = (A.d (D.lit (.bool x8))) ∧ H' = [(Ref.up (Ref.up q0), [(A.d (D.lit (bytesV x9))), (A.d (D.lit (.int .i64 x10))), (A.d (D.lit (.bool x11)))])] ∧
     (x8 = true →
      ∀ _ : Nat → Nat, ∃ R' : Out → List (Ref × List A) → Prop, Holds Try.prog 95 [(A.ptr (.up (Ref.up q0)) 0), (A.d (D.lit (.int .i64 x3)))] [(Ref.up (Ref.up q0), [(A.d (D.lit (bytesV x9))), (A.d (D.lit (.int .i64 x10))), (A.d (D.lit (.bool x11)))])] R' ∧
      (∀ v H', R' (.ret v) H' → ∃ x12 : Int, ∃ x13 : List UInt8, ∃ x14 : Int, ∃ x15 : Bool, v = (A.d (D.lit (.int .i64 x12))) ∧ H' = [(Ref.up (Ref.up q0), [(A.d (D.lit (bytesV x13))), (A.d (D.lit (.int .i64 x14))), (A.d (D.lit (.bool x15)))])] ∧
       R (.ret (A.d (D.lit (.int .i64 x12)))) [((Ref.up q0), [(A.d (D.lit (bytesV x13))), (A.d (D.lit (.int .i64 x14))), (A.d (D.lit (.bool x15)))])]) ∧
      (∀ x12v H', R' (.pan x12v) H' → ∃ x13 : List UInt8, ∃ x14 : Int, ∃ x15 : Bool, H' = [(Ref.up (Ref.up q0), [(A.d (D.lit (bytesV x13))), (A.d (D.lit (.int .i64 x14))), (A.d (D.lit (.bool x15)))])] ∧
       R (.pan x12v) [((Ref.up q0), [(A.d (D.lit (bytesV x13))), (A.d (D.lit (.int .i64 x14))), (A.d (D.lit (.bool x15)))])])) ∧
     (x8 = false →
      ∀ _ : Nat → Nat, ∃ R' : Out → List (Ref × List A) → Prop, Holds Try.prog 67 [(A.ptr (.up (Ref.up q0)) 0)] [(Ref.up (Ref.up q0), [(A.d (D.lit (bytesV x9))), (A.d (D.lit (.int .i64 x10))), (A.d (D.lit (.bool x11)))])] R' ∧
      (∀ v H', R' (.ret v) H' → ∃ x12 : Bool, ∃ x13 : List UInt8, ∃ x14 : Int, ∃ x15 : Bool, v = (A.d (D.lit (.bool x12))) ∧ H' = [(Ref.up (Ref.up q0), [(A.d (D.lit (bytesV x13))), (A.d (D.lit (.int .i64 x14))), (A.d (D.lit (.bool x15)))])] ∧
       (x12 = true →
        (tB (decide ((0 : Int) ≤ x14))) = true ∧
        (tB (decide (x14 < (x13.length : Int)))) = true ∧
        ∀ _ : Nat → Nat, ∃ R' : Out → List (Ref × List A) → Prop, Holds Try.prog 97 [(A.d (D.lit (.int .u8 (gByte x13 x14))))] [] R' ∧
        (∀ v H', R' (.ret v) H' → ∃ x16 : Int, v = (A.d (D.lit (.int .i64 x16))) ∧ H' = [] ∧
         ∀ _ : Nat → Nat, ∃ R' : Out → List (Ref × List A) → Prop, Holds Try.prog 87 [(A.d (D.lit (.int .u8 (gByte x13 x14))))] [] R' ∧
         (∀ v H', R' (.ret v) H' → ∃ x17 : Bool, v = (A.d (D.lit (.bool x17))) ∧ H' = [] ∧
          (((x17 || (tB ((gByte x13 x14) == (94 : Int)))) || (tB ((gByte x13 x14) == (45 : Int)))) = true →
           (tB (decide ((-9223372036854775808 : Int) ≤ (gByte x13 x14)))) = true ∧
           (tB (decide ((gByte x13 x14) ≤ (9223372036854775807 : Int)))) = true ∧
           ((tB (decide (x3 ≤ (gByte x13 x14)))) = true →
            (tB (decide ((-9223372036854775808 : Int) ≤ (x14 + (1 : Int))))) = true ∧
            (tB (decide ((x14 + (1 : Int)) ≤ (9223372036854775807 : Int)))) = true ∧
            R (.ret (A.d (D.lit (.int .i64 (gByte x13 x14))))) [((Ref.up q0), [(A.d (D.lit (bytesV x13))), (A.d (D.lit (.int .i64 (x14 + (1 : Int))))), (A.d (D.lit (.bool x15)))])]) ∧
           ((tB (decide (x3 ≤ (gByte x13 x14)))) = false →
            R (.ret (A.d (D.lit (.int .i64 (0 : Int))))) [((Ref.up q0), [(A.d (D.lit (bytesV x13))), (A.d (D.lit (.int .i64 x14))), (A.d (D.lit (.bool true)))])])) ∧
          (((x17 || (tB ((gByte x13 x14) == (94 : Int)))) || (tB ((gByte x13 x14) == (45 : Int)))) = false →
           ((tB (decide (x3 ≤ x16))) = true →
            (tB (decide ((-9223372036854775808 : Int) ≤ (x14 + (1 : Int))))) = true ∧
            (tB (decide ((x14 + (1 : Int)) ≤ (9223372036854775807 : Int)))) = true ∧
            R (.ret (A.d (D.lit (.int .i64 x16)))) [((Ref.up q0), [(A.d (D.lit (bytesV x13))), (A.d (D.lit (.int .i64 (x14 + (1 : Int))))), (A.d (D.lit (.bool x15)))])]) ∧
           ((tB (decide (x3 ≤ x16))) = false →
            R (.ret (A.d (D.lit (.int .i64 (0 : Int))))) [((Ref.up q0), [(A.d (D.lit (bytesV x13))), (A.d (D.lit (.int .i64 x14))), (A.d (D.lit (.bool true)))])]))) ∧
         (∀ x17v H', R' (.pan x17v) H' → H' = [] ∧
          R (.pan x17v) [((Ref.up q0), [(A.d (D.lit (bytesV x13))), (A.d (D.lit (.int .i64 x14))), (A.d (D.lit (.bool x15)))])])) ∧
        (∀ x16v H', R' (.pan x16v) H' → H' = [] ∧
         R (.pan x16v) [((Ref.up q0), [(A.d (D.lit (bytesV x13))), (A.d (D.lit (.int .i64 x14))), (A.d (D.lit (.bool x15)))])])) ∧
       (x12 = false →
        R (.ret (A.d (D.lit (.int .i64 (0 : Int))))) [((Ref.up q0), [(A.d (D.lit (bytesV x13))), (A.d (D.lit (.int .i64 x14))), (A.d (D.lit (.bool true)))])])) ∧
      (∀ x12v H', R' (.pan x12v) H' → ∃ x13 : List UInt8, ∃ x14 : Int, ∃ x15 : Bool, H' = [(Ref.up (Ref.up q0), [(A.d (D.lit (bytesV x13))), (A.d (D.lit (.int .i64 x14))), (A.d (D.lit (.bool x15)))])] ∧
       R (.pan x12v) [((Ref.up q0), [(A.d (D.lit (bytesV x13))), (A.d (D.lit (.int .i64 x14))), (A.d (D.lit (.bool x15)))])]))) ∧
    (∀ x8v H', R' (.pan x8v) H' → ∃ x9 : List UInt8, ∃ x10 : Int, ∃ x11 : Bool, H' = [(Ref.up (Ref.up q0), [(A.d (D.lit (bytesV x9))), (A.d (D.lit (.int .i64 x10))), (A.d (D.lit (.bool x11)))])] ∧
     R (.pan x8v) [((Ref.up q0), [(A.d (D.lit (bytesV x9))), (A.d (D.lit (.int .i64 x10))), (A.d (D.lit (.bool x11)))])])) ∧
   (x4 = false →
    ∀ _ : Nat → Nat, ∃ R' : Out → List (Ref × List A) → Prop, Holds Try.prog 67 [(A.ptr (.up (Ref.up q0)) 0)] [(Ref.up (Ref.up q0), [(A.d (D.lit (bytesV x5))), (A.d (D.lit (.int .i64 x6))), (A.d (D.lit (.bool x7)))])] R' ∧
    (∀ v H', R' (.ret v) H' → ∃ x8 : Bool, ∃ x9 : List UInt8, ∃ x10 : Int, ∃ x11 : Bool, v = (A.d (D.lit (.bool x8))) ∧ H' = [(Ref.up (Ref.up q0), [(A.d (D.lit (bytesV x9))), (A.d (D.lit (.int .i64 x10))), (A.d (D.lit (.bool x11)))])] ∧
     ((!x8) = true →
      R (.ret (A.d (D.lit (.int .i64 (0 : Int))))) [((Ref.up q0), [(A.d (D.lit (bytesV x9))), (A.d (D.lit (.int .i64 x10))), (A.d (D.lit (.bool true)))])]) ∧
     ((!x8) = false →
      (tB (decide ((0 : Int) ≤ x10))) = true ∧
      (tB (decide (x10 < (x9.length : Int)))) = true ∧
      ((!((tB (decide ((gByte x9 x10) < (32 : Int)))) || (tB (decide ((126 : Int) < (gByte x9 x10)))))) = true →
       ∀ _ : Nat → Nat, ∃ R' : Out → List (Ref × List A) → Prop, Holds Try.prog 87 [(A.d (D.lit (.int .u8 (gByte x9 x10))))] [] R' ∧
       (∀ v H', R' (.ret v) H' → ∃ x12 : Bool, v = (A.d (D.lit (.bool x12))) ∧ H' = [] ∧
        (((x12 || (tB ((gByte x9 x10) == (94 : Int)))) || (tB ((gByte x9 x10) == (45 : Int)))) || (tB (decide ((-9223372036854775808 : Int) ≤ (gByte x9 x10))))) = true ∧
        (((x12 || (tB ((gByte x9 x10) == (94 : Int)))) || (tB ((gByte x9 x10) == (45 : Int)))) || (tB (decide ((gByte x9 x10) ≤ (9223372036854775807 : Int))))) = true ∧
        ((((x12 || (tB ((gByte x9 x10) == (94 : Int)))) || (tB ((gByte x9 x10) == (45 : Int)))) || (tB (decide ((gByte x9 x10) < x3)))) = true →
         R (.ret (A.d (D.lit (.int .i64 (0 : Int))))) [((Ref.up q0), [(A.d (D.lit (bytesV x9))), (A.d (D.lit (.int .i64 x10))), (A.d (D.lit (.bool true)))])]) ∧
        ((((x12 || (tB ((gByte x9 x10) == (94 : Int)))) || (tB ((gByte x9 x10) == (45 : Int)))) || (tB (decide ((gByte x9 x10) < x3)))) = false →
         (tB (decide ((-9223372036854775808 : Int) ≤ (x10 + (1 : Int))))) = true ∧
         (tB (decide ((x10 + (1 : Int)) ≤ (9223372036854775807 : Int)))) = true ∧
         (tB (decide ((-9223372036854775808 : Int) ≤ (gByte x9 x10)))) = true ∧
         (tB (decide ((gByte x9 x10) ≤ (9223372036854775807 : Int)))) = true ∧
         R (.ret (A.d (D.lit (.int .i64 (gByte x9 x10))))) [((Ref.up q0), [(A.d (D.lit (bytesV x9))), (A.d (D.lit (.int .i64 (x10 + (1 : Int))))), (A.d (D.lit (.bool x11)))])])) ∧
       (∀ x12v H', R' (.pan x12v) H' → H' = [] ∧
        R (.pan x12v) [((Ref.up q0), [(A.d (D.lit (bytesV x9))), (A.d (D.lit (.int .i64 x10))), (A.d (D.lit (.bool x11)))])])) ∧
      ((!((tB (decide ((gByte x9 x10) < (32 : Int)))) || (tB (decide ((126 : Int) < (gByte x9 x10)))))) = false →
       R (.ret (A.d (D.lit (.int .i64 (0 : Int))))) [((Ref.up q0), [(A.d (D.lit (bytesV x9))), (A.d (D.lit (.int .i64 x10))), (A.d (D.lit (.bool true)))])]))) ∧
    (∀ x8v H', R' (.pan x8v) H' → ∃ x9 : List UInt8, ∃ x10 : Int, ∃ x11 : Bool, H' = [(Ref.up (Ref.up q0), [(A.d (D.lit (bytesV x9))), (A.d (D.lit (.int .i64 x10))), (A.d (D.lit (.bool x11)))])] ∧
     R (.pan x8v) [((Ref.up q0), [(A.d (D.lit (bytesV x9))), (A.d (D.lit (.int .i64 x10))), (A.d (D.lit (.bool x11)))])]))) ∧
  (∀ x4v H', R' (.pan x4v) H' → ∃ x5 : List UInt8, ∃ x6 : Int, ∃ x7 : Bool, H' = [(Ref.up (Ref.up q0), [(A.d (D.lit (bytesV x5))), (A.d (D.lit (.int .i64 x6))), (A.d (D.lit (.bool x7)))])] ∧
   R (.pan x4v) [((Ref.up q0), [(A.d (D.lit (bytesV x5))), (A.d (D.lit (.int .i64 x6))), (A.d (D.lit (.bool x7)))])])) :
    Holds Try.prog 98 [(A.ptr (Ref.up q0) 0), (A.d (D.lit (.int .i64 x3)))] [((Ref.up q0), [(A.d (D.lit (bytesV x0))), (A.d (D.lit (.int .i64 x1))), (A.d (D.lit (.bool x2)))])] R :=
  walk (c := ⟨Try.prog, 107, true, [0, 1, 4, 5, 6, 7, 9, 11, 16, 37, 42, 57, 93]⟩) (op := {  }) (fn := Try.f98) (args := [.ptr (.up 0) 0, .c (.o1 (.ci .i64) (.var 3))]) (K := [(.up 0, [.c (.o1 .cs (.var 0)), .c (.o1 (.ci .i64) (.var 1)), .c (.o1 .cb (.o1 .tb (.var 2)))])]) (nv := 4) (depth := 7) (up := upOf [q0]) (ρ := envOf [.s x0, .i x1, .b x2, .i x3])
    rfl rfl rfl rfl rfl (by decide) (by decide) (by decide) (by decide) rfl (by simp [bxDen, RRef.den, upOf]) (T_of (by kernel_rfl) h)
theorem w20 {R : Out → List (Ref × List A) → Prop} (x0 : List UInt8) (h : ((tB (decide ((1000 : Int) < (x0.length : Int)))) = true →
   R (.ret (A.tup [(true, ((D.lit (.int .i64 (0 : Int))) :: ((D.lit (.int .u64 (0 : Int))) :: ((D.lit (.int .u64 (0 : Int))) :: ((D.lit (.int .u64 (0 : Int))) :: ((D.lit (.int .u64 (0 : Int))) :: ((D.slc ([] : List (List D))) :: ([] : List D)))))))), (true, ((D.lit (.int .i64 (2 : Int))) :: ((D.lit (.int .i64 (0 : Int))) :: ([] : List D))))])) []) ∧
  ((tB (decide ((1000 : Int) < (x0.length : Int)))) = false →
   ∀ ν : Nat → Nat, ∃ R' : Out → List (Ref × List A) → Prop, Holds Try.prog 39 [(A.ptr (.up (Ref.own 13 (ν 13))) 0)] [(Ref.up (Ref.own 13 (ν 13)), [(A.d (D.lit (bytesV x0))), (A.d (D.lit (.int .i64 (0 : Int)))), (A.d (D.lit (.bool false)))])] R' ∧
   (∀ v H', R' (.ret v) H' → ∃ x1 : List D, ∃ x2 : List UInt8, ∃ x3 : Int, ∃ x4 : Bool, v = (A.agg x1) ∧ H' = [(Ref.up (Ref.own 13 (ν 13)), [(A.d (D.lit (bytesV x2))), (A.d (D.lit (.int .i64 x3))), (A.d (D.lit (.bool x4)))])] ∧
    (tB ((x1.length : Int) == (6 : Int))) = true ∧
    ((x4 || (tB (decide (x3 < (x0.length : Int))))) = true →
     R (.ret (A.tup [(true, ((D.lit (.int .i64 (0 : Int))) :: ((D.lit (.int .u64 (0 : Int))) :: ((D.lit (.int .u64 (0 : Int))) :: ((D.lit (.int .u64 (0 : Int))) :: ((D.lit (.int .u64 (0 : Int))) :: ((D.slc ([] : List (List D))) :: ([] : List D)))))))), (true, ((D.lit (.int .i64 (8 : Int))) :: ((D.lit (.int .i64 x3)) :: ([] : List D))))])) []) ∧
    ((x4 || (tB (decide (x3 < (x0.length : Int))))) = false →
     ∀ _ : Nat → Nat, ∃ R' : Out → List (Ref × List A) → Prop, Holds Try.prog 16 [(A.agg x1)] [] R' ∧
     (∀ v H', R' (.ret v) H' → ∃ x5 : Int, v = (A.d (D.lit (.int .i64 x5))) ∧ H' = [] ∧
      ((tB (x5 == (9 : Int))) = true →
       R (.ret (A.tup [(true, ((D.lit (.int .i64 (0 : Int))) :: ((D.lit (.int .u64 (0 : Int))) :: ((D.lit (.int .u64 (0 : Int))) :: ((D.lit (.int .u64 (0 : Int))) :: ((D.lit (.int .u64 (0 : Int))) :: ((D.slc ([] : List (List D))) :: ([] : List D)))))))), (true, ((D.lit (.int .i64 (9 : Int))) :: ((D.lit (.int .i64 (0 : Int))) :: ([] : List D))))])) []) ∧
      ((tB (x5 == (9 : Int))) = false →
       R (.ret (A.tup [(true, x1), (true, ((D.lit (.int .i64 (0 : Int))) :: ((D.lit (.int .i64 (0 : Int))) :: ([] : List D))))])) [])) ∧
     (∀ x5v H', R' (.pan x5v) H' → H' = [] ∧
      R (.pan x5v) []))) ∧
   (∀ x1v H', R' (.pan x1v) H' → ∃ x2 : List UInt8, ∃ x3 : Int, ∃ x4 : Bool, H' = [(Ref.up (Ref.own 13 (ν 13)), [(A.d (D.lit (bytesV x2))), (A.d (D.lit (.int .i64 x3))), (A.d (D.lit (.bool x4)))])] ∧
    R (.pan x1v) []))) :
    Holds Try.prog 20 [(A.d (D.lit (bytesV x0)))] [] R :=
  walk (c := ⟨Try.prog, 42, true, [0, 2, 3, 4, 5, 8, 28, 37]⟩) (op := { lat := [6] }) (fn := Try.f20) (args := [.c (.o1 .cs (.var 0))]) (K := []) (nv := 1) (depth := 6) (up := upOf []) (ρ := envOf [.s x0])
    rfl rfl rfl rfl rfl (by decide) (by decide) (by decide) (by decide) rfl (by simp [bxDen, RRef.den, upOf]) (T_of (by kernel_rfl) h)
end Go.Rx
end
section
open Go Go.Proofs Go.Ab Go.Rf
set_option maxRecDepth 1000000
set_option maxHeartbeats 2000000
set_option linter.unusedVariables false
namespace Go.Rx
theorem w19p {Rfin : Out → Prop} (R : Out → List (Ref × List A) → Prop) (hR : R = preR Try.prog (postCode 4 (bodyOf Try.f19)) 36 36 [4, 2, 3] [0] [(2, 1), (3, 2)] [(1, 6), (2, 2)] Rfin) (x0 : List UInt8) (h : ((tB (decide ((1000 : Int) < (x0.length : Int)))) = true →
   R (.ret (A.tup [(true, ((D.lit (.int .i64 (0 : Int))) :: ((D.lit (.int .u64 (0 : Int))) :: ((D.lit (.int .u64 (0 : Int))) :: ((D.lit (.int .u64 (0 : Int))) :: ((D.lit (.int .u64 (0 : Int))) :: ((D.slc ([] : List (List D))) :: ([] : List D)))))))), (true, ((D.lit (.int .i64 (2 : Int))) :: ((D.lit (.int .i64 (0 : Int))) :: ([] : List D))))])) []) ∧
  ((tB (decide ((1000 : Int) < (x0.length : Int)))) = false →
   R (.ret (A.tup [(false, [(D.lit (bytesV x0))])])) [((Ref.own 4 0), [(A.ptr (Ref.up (Ref.own 3 3)) 0)]), ((Ref.own 2 0), [(A.d (D.lit (.int .i64 (0 : Int)))), (A.d (D.lit (.int .u64 (0 : Int)))), (A.d (D.lit (.int .u64 (0 : Int)))), (A.d (D.lit (.int .u64 (0 : Int)))), (A.d (D.lit (.int .u64 (0 : Int)))), (A.zs ([] : List (List D)))]), ((Ref.own 3 0), [(A.d (D.lit (.int .i64 (0 : Int)))), (A.d (D.lit (.int .i64 (0 : Int))))]), ((Ref.own 12 0), [(A.d (D.lit (bytesV x0))), (A.d (D.lit (.int .i64 (0 : Int))))])])) :
    Holds Try.prog 19 [A.d (D.lit (bytesV x0))] [] (fun o H => H = [] ∧ Rfin o) := by
  subst hR
  exact holds_defer (c := ⟨Try.prog, 36, true, [0, 2, 3, 4, 7, 22, 31]⟩) (op := {}) (f := 19) (F := 36) (fn := Try.f19) (Fn' := Try.f36) (Fcode := bodyOf Try.f36) (l := preCodes 4 (bodyOf Try.f19)) (id := 4) (o1 := opAt (defOps 4 (bodyOf Try.f19)) 0) (o2 := opAt (defOps 4 (bodyOf Try.f19)) 1) (post := postCode 4 (bodyOf Try.f19)) (tys := #[]) (dt := 13) (caps := [4, 2, 3]) (data := [0]) (extra := [.own 12]) (rl := [.cell 2 27, .cell 3 35]) (keep := [(2, 1), (3, 2)]) (kn := [(1, 6), (2, 2)]) (args := [.c (.o1 .cs (.var 0))]) (nv := 1) (depth := 6) (ρ := envOf [.s x0])
    rfl rfl (by kernel_rfl) rfl rfl (by decide) rfl rfl (by decide) (by kernel_rfl) (by kernel_rfl) (by kernel_rfl) (by kernel_rfl) (by kernel_rfl) (by kernel_rfl) (by decide) (by decide) (by decide) (by decide) (by decide) (by kernel_rfl) (by decide) (by decide) rfl (T_of (by kernel_rfl) h)
theorem w19q {R : Out → List (Ref × List A) → Prop} (x0 : List UInt8) (x1 : Int) (x2 : Int) (x3 : Int) (x4 : Int) (x5 : Int) (x6 : Int) (x7 : Int) (x8 : List UInt8) (x9 : Int) (q0 q1 q2 q3 : Ref) (hq01 : q0 ≠ q1) (hq02 : q0 ≠ q2) (hq12 : q1 ≠ q2) (hq03 : q0 ≠ q3) (hq13 : q1 ≠ q3) (hq23 : q2 ≠ q3) (h : ∀ _ : Nat → Nat, ∃ R' : Out → List (Ref × List A) → Prop, Holds Try.prog 37 [(A.ptr (.up (Ref.up q3)) 0)] [(Ref.up (Ref.up q3), [(A.d (D.lit (bytesV x8))), (A.d (D.lit (.int .i64 x9)))])] R' ∧
  (∀ v H', R' (.ret v) H' → ∃ x10 : List D, ∃ x11 : List UInt8, ∃ x12 : Int, v = (A.agg x10) ∧ H' = [(Ref.up (Ref.up q3), [(A.d (D.lit (bytesV x11))), (A.d (D.lit (.int .i64 x12)))])] ∧
   (tB ((x10.length : Int) == (6 : Int))) = true ∧
   ((tB (decide (x12 < (x0.length : Int)))) = true →
    ∀ _ : Nat → Nat, ∃ R' : Out → List (Ref × List A) → Prop, Holds Try.prog 38 [(A.ptr (.up (Ref.up q3)) 0), (A.d (D.lit (.int .i64 x12)))] [(Ref.up (Ref.up q3), [(A.d (D.lit (bytesV x11))), (A.d (D.lit (.int .i64 x12)))])] R' ∧
    (∀ v H', R' (.ret v) H' → ∃ x13 : List UInt8, ∃ x14 : Int, v = (A.tup []) ∧ H' = [(Ref.up (Ref.up q3), [(A.d (D.lit (bytesV x13))), (A.d (D.lit (.int .i64 x14)))])] ∧
     ∀ _ : Nat → Nat, ∃ R' : Out → List (Ref × List A) → Prop, Holds Try.prog 15 [(A.agg x10)] [] R' ∧
     (∀ v H', R' (.ret v) H' → ∃ x15 : Int, v = (A.d (D.lit (.int .i64 x15))) ∧ H' = [] ∧
      ((tB (x15 == (9 : Int))) = true →
       R (.ret (A.tup [])) [((Ref.up q0), [(A.ptr (Ref.up q3) 0)]), ((Ref.up q1), [(A.d (D.lit (.int .i64 (0 : Int)))), (A.d (D.lit (.int .u64 (0 : Int)))), (A.d (D.lit (.int .u64 (0 : Int)))), (A.d (D.lit (.int .u64 (0 : Int)))), (A.d (D.lit (.int .u64 (0 : Int)))), (A.d (D.slc ([] : List (List D))))]), ((Ref.up q2), [(A.d (D.lit (.int .i64 (9 : Int)))), (A.d (D.lit (.int .i64 (0 : Int))))]), ((Ref.up q3), [(A.d (D.lit (bytesV x13))), (A.d (D.lit (.int .i64 x14)))])]) ∧
      ((tB (x15 == (9 : Int))) = false →
       R (.ret (A.tup [])) [((Ref.up q0), [(A.ptr (Ref.up q3) 0)]), ((Ref.up q1), [(A.d (x10.getD 0 D0)), (A.d (x10.getD 1 D0)), (A.d (x10.getD 2 D0)), (A.d (x10.getD 3 D0)), (A.d (x10.getD 4 D0)), (A.d (x10.getD 5 D0))]), ((Ref.up q2), [(A.d (D.lit (.int .i64 (0 : Int)))), (A.d (D.lit (.int .i64 (0 : Int))))]), ((Ref.up q3), [(A.d (D.lit (bytesV x13))), (A.d (D.lit (.int .i64 x14)))])])) ∧
     (∀ x15v H', R' (.pan x15v) H' → H' = [] ∧
      R (.pan x15v) [((Ref.up q0), [(A.ptr (Ref.up q3) 0)]), ((Ref.up q1), [(A.d (x10.getD 0 D0)), (A.d (x10.getD 1 D0)), (A.d (x10.getD 2 D0)), (A.d (x10.getD 3 D0)), (A.d (x10.getD 4 D0)), (A.d (x10.getD 5 D0))]), ((Ref.up q2), [(A.d (D.lit (.int .i64 x6))), (A.d (D.lit (.int .i64 x7)))]), ((Ref.up q3), [(A.d (D.lit (bytesV x13))), (A.d (D.lit (.int .i64 x14)))])])) ∧
    (∀ x13v H', R' (.pan x13v) H' → ∃ x14 : List UInt8, ∃ x15 : Int, H' = [(Ref.up (Ref.up q3), [(A.d (D.lit (bytesV x14))), (A.d (D.lit (.int .i64 x15)))])] ∧
     R (.pan x13v) [((Ref.up q0), [(A.ptr (Ref.up q3) 0)]), ((Ref.up q1), [(A.d (x10.getD 0 D0)), (A.d (x10.getD 1 D0)), (A.d (x10.getD 2 D0)), (A.d (x10.getD 3 D0)), (A.d (x10.getD 4 D0)), (A.d (x10.getD 5 D0))]), ((Ref.up q2), [(A.d (D.lit (.int .i64 x6))), (A.d (D.lit (.int .i64 x7)))]), ((Ref.up q3), [(A.d (D.lit (bytesV x14))), (A.d (D.lit (.int .i64 x15)))])])) ∧
   ((tB (decide (x12 < (x0.length : Int)))) = false →
    ∀ _ : Nat → Nat, ∃ R' : Out → List (Ref × List A) → Prop, Holds Try.prog 15 [(A.agg x10)] [] R' ∧
    (∀ v H', R' (.ret v) H' → ∃ x13 : Int, v = (A.d (D.lit (.int .i64 x13))) ∧ H' = [] ∧
     ((tB (x13 == (9 : Int))) = true →
      R (.ret (A.tup [])) [((Ref.up q0), [(A.ptr (Ref.up q3) 0)]), ((Ref.up q1), [(A.d (D.lit (.int .i64 (0 : Int)))), (A.d (D.lit (.int .u64 (0 : Int)))), (A.d (D.lit (.int .u64 (0 : Int)))), (A.d (D.lit (.int .u64 (0 : Int)))), (A.d (D.lit (.int .u64 (0 : Int)))), (A.d (D.slc ([] : List (List D))))]), ((Ref.up q2), [(A.d (D.lit (.int .i64 (9 : Int)))), (A.d (D.lit (.int .i64 (0 : Int))))]), ((Ref.up q3), [(A.d (D.lit (bytesV x11))), (A.d (D.lit (.int .i64 x12)))])]) ∧
     ((tB (x13 == (9 : Int))) = false →
      R (.ret (A.tup [])) [((Ref.up q0), [(A.ptr (Ref.up q3) 0)]), ((Ref.up q1), [(A.d (x10.getD 0 D0)), (A.d (x10.getD 1 D0)), (A.d (x10.getD 2 D0)), (A.d (x10.getD 3 D0)), (A.d (x10.getD 4 D0)), (A.d (x10.getD 5 D0))]), ((Ref.up q2), [(A.d (D.lit (.int .i64 (0 : Int)))), (A.d (D.lit (.int .i64 (0 : Int))))]), ((Ref.up q3), [(A.d (D.lit (bytesV x11))), (A.d (D.lit (.int .i64 x12)))])])) ∧
    (∀ x13v H', R' (.pan x13v) H' → H' = [] ∧
     R (.pan x13v) [((Ref.up q0), [(A.ptr (Ref.up q3) 0)]), ((Ref.up q1), [(A.d (x10.getD 0 D0)), (A.d (x10.getD 1 D0)), (A.d (x10.getD 2 D0)), (A.d (x10.getD 3 D0)), (A.d (x10.getD 4 D0)), (A.d (x10.getD 5 D0))]), ((Ref.up q2), [(A.d (D.lit (.int .i64 x6))), (A.d (D.lit (.int .i64 x7)))]), ((Ref.up q3), [(A.d (D.lit (bytesV x11))), (A.d (D.lit (.int .i64 x12)))])]))) ∧
  (∀ x10v H', R' (.pan x10v) H' → ∃ x11 : List UInt8, ∃ x12 : Int, H' = [(Ref.up (Ref.up q3), [(A.d (D.lit (bytesV x11))), (A.d (D.lit (.int .i64 x12)))])] ∧
   R (.pan x10v) [((Ref.up q0), [(A.ptr (Ref.up q3) 0)]), ((Ref.up q1), [(A.d (D.lit (.int .i64 x1))), (A.d (D.lit (.int .u64 x2))), (A.d (D.lit (.int .u64 x3))), (A.d (D.lit (.int .u64 x4))), (A.d (D.lit (.int .u64 x5))), (A.zs ([] : List (List D)))]), ((Ref.up q2), [(A.d (D.lit (.int .i64 x6))), (A.d (D.lit (.int .i64 x7)))]), ((Ref.up q3), [(A.d (D.lit (bytesV x11))), (A.d (D.lit (.int .i64 x12)))])])) :
    PostHolds Try.prog (postCode 4 (bodyOf Try.f19)) 36 [(0, (A.d (D.lit (bytesV x0)))), (4, (A.ptr (Ref.up q0) 0)), (2, (A.ptr (Ref.up q1) 0)), (3, (A.ptr (Ref.up q2) 0))] [((Ref.up q0), [(A.ptr (Ref.up q3) 0)]), ((Ref.up q1), [(A.d (D.lit (.int .i64 x1))), (A.d (D.lit (.int .u64 x2))), (A.d (D.lit (.int .u64 x3))), (A.d (D.lit (.int .u64 x4))), (A.d (D.lit (.int .u64 x5))), (A.zs ([] : List (List D)))]), ((Ref.up q2), [(A.d (D.lit (.int .i64 x6))), (A.d (D.lit (.int .i64 x7)))]), ((Ref.up q3), [(A.d (D.lit (bytesV x8))), (A.d (D.lit (.int .i64 x9)))])] [(2, Ref.up q1), (3, Ref.up q2)] R :=
  walkPost (c := ⟨Try.prog, 36, true, [0, 2, 3, 4, 7, 22, 31]⟩) (op := {}) (post := postCode 4 (bodyOf Try.f19)) (slots := [(0, .c (.o1 .cs (.var 0))), (4, .ptr (.up 0) 0), (2, .ptr (.up 1) 0), (3, .ptr (.up 2) 0)]) (K := [(.up 0, [.ptr (.up 3) 0]), (.up 1, [.c (.o1 (.ci .i64) (.var 1)), .c (.o1 (.ci .u64) (.var 2)), .c (.o1 (.ci .u64) (.var 3)), .c (.o1 (.ci .u64) (.var 4)), .c (.o1 (.ci .u64) (.var 5)), .zs .lnil]), (.up 2, [.c (.o1 (.ci .i64) (.var 6)), .c (.o1 (.ci .i64) (.var 7))]), (.up 3, [.c (.o1 .cs (.var 8)), .c (.o1 (.ci .i64) (.var 9))])]) (keep := [(2, 1), (3, 2)]) (nv := 10) (depth := 6) (up := upOf [q0, q1, q2, q3]) (ρ := envOf [.s x0, .i x1, .i x2, .i x3, .i x4, .i x5, .i x6, .i x7, .s x8, .i x9])
    rfl (by decide) (by decide) rfl (by simp [bxDen, RRef.den, upOf, hq01 , hq02 , hq12 , hq03 , hq13 , hq23]) (T_of (by kernel_rfl) h)
theorem w36n {R0 : List (Ref × List A) → Prop} (R : Out → List (Ref × List A) → Prop) (hR : R = fun o H => match o with | .ret _ => R0 H | .pan _ => False) (x0 : D) (x1 : D) (x2 : D) (x3 : D) (x4 : D) (x5 : D) (x6 : D) (x7 : D) (x8 : List UInt8) (x9 : Int) (x10 : Int) (q0 q1 q2 q3 : Ref) (hq01 : q0 ≠ q1) (hq02 : q0 ≠ q2) (hq12 : q1 ≠ q2) (hq03 : q0 ≠ q3) (hq13 : q1 ≠ q3) (hq23 : q2 ≠ q3) (h : R (.ret (A.tup [])) [((Ref.up q0), [(A.ptr (Ref.up q3) 0)]), ((Ref.up q1), [(A.d x0), (A.d x1), (A.d x2), (A.d x3), (A.d x4), (A.d x5)]), ((Ref.up q2), [(A.d x6), (A.d x7)]), ((Ref.up q3), [(A.d (D.lit (bytesV x8))), (A.d (D.lit (.int .i64 x9)))])]) :
    HoldsD Try.prog 36 [(A.ptr (Ref.up q0) 0), (A.ptr (Ref.up q1) 0), (A.ptr (Ref.up q2) 0)] [((Ref.up q0), [(A.ptr (Ref.up q3) 0)]), ((Ref.up q1), [(A.d x0), (A.d x1), (A.d x2), (A.d x3), (A.d x4), (A.d x5)]), ((Ref.up q2), [(A.d x6), (A.d x7)]), ((Ref.up q3), [(A.d (D.lit (bytesV x8))), (A.d (D.lit (.int .i64 x9)))])] (FrameMode.returning) (recIn (FrameMode.returning)).2 R0 := by
  subst hR
  exact walkR (c := ⟨Try.prog, 24, true, [0, 1, 2, 3, 4, 5, 8, 20]⟩) (op := {}) (f := 36) (fn := Try.f36) (id := 0) (o1 := opAt (defOps 0 (bodyOf Try.f36)) 0) (o2 := opAt (defOps 0 (bodyOf Try.f36)) 1) (rest := postCode 0 (bodyOf Try.f36)) (tys := #[]) (d6 := 6) (d3 := 3) (args := [.ptr (.up 0) 0, .ptr (.up 1) 0, .ptr (.up 2) 0]) (K := [(.up 0, [.ptr (.up 3) 0]), (.up 1, [.c (.var 0), .c (.var 1), .c (.var 2), .c (.var 3), .c (.var 4), .c (.var 5)]), (.up 2, [.c (.var 6), .c (.var 7)]), (.up 3, [.c (.o1 .cs (.var 8)), .c (.o1 (.ci .i64) (.var 9))])]) (nv := 11) (depth := 5) (up := upOf [q0, q1, q2, q3]) (ρ := envOf [.d x0, .d x1, .d x2, .d x3, .d x4, .d x5, .d x6, .d x7, .s x8, .i x9, .i x10]) (e := .val .nilIface)
    rfl rfl (by kernel_rfl) rfl rfl (by kernel_rfl) (by kernel_rfl) (by kernel_rfl) (by kernel_rfl) (by kernel_rfl) (by kernel_rfl) (by decide) (by decide) (by decide) (by decide) (by decide) rfl rfl rfl (by simp [bxDen, RRef.den, upOf, hq01 , hq02 , hq12 , hq03 , hq13 , hq23]) (T_of (by kernel_rfl) h)
theorem w36f {R0 : List (Ref × List A) → Prop} (R : Out → List (Ref × List A) → Prop) (hR : R = fun o H => match o with | .ret _ => R0 H | .pan _ => False) (x0 : D) (x1 : D) (x2 : D) (x3 : D) (x4 : D) (x5 : D) (x6 : D) (x7 : D) (x8 : List UInt8) (x9 : Int) (x10 : Int) (q0 q1 q2 q3 : Ref) (hq01 : q0 ≠ q1) (hq02 : q0 ≠ q2) (hq12 : q1 ≠ q2) (hq03 : q0 ≠ q3) (hq13 : q1 ≠ q3) (hq23 : q2 ≠ q3) (h : R (.ret (A.tup [])) [((Ref.up q0), [(A.ptr (Ref.up q3) 0)]), ((Ref.up q1), [(A.d (D.lit (.int .i64 (0 : Int)))), (A.d (D.lit (.int .u64 (0 : Int)))), (A.d (D.lit (.int .u64 (0 : Int)))), (A.d (D.lit (.int .u64 (0 : Int)))), (A.d (D.lit (.int .u64 (0 : Int)))), (A.d (D.slc ([] : List (List D))))]), ((Ref.up q2), [(A.d (D.lit (.int .i64 (8 : Int)))), (A.d (D.lit (.int .i64 x10)))]), ((Ref.up q3), [(A.d (D.lit (bytesV x8))), (A.d (D.lit (.int .i64 x9)))])]) :
    HoldsD Try.prog 36 [(A.ptr (Ref.up q0) 0), (A.ptr (Ref.up q1) 0), (A.ptr (Ref.up q2) 0)] [((Ref.up q0), [(A.ptr (Ref.up q3) 0)]), ((Ref.up q1), [(A.d x0), (A.d x1), (A.d x2), (A.d x3), (A.d x4), (A.d x5)]), ((Ref.up q2), [(A.d x6), (A.d x7)]), ((Ref.up q3), [(A.d (D.lit (bytesV x8))), (A.d (D.lit (.int .i64 x9)))])] (FrameMode.panicking [{ v := dval (D.lit (.iface 56 (.agg (([D.lit (.int .i64 x10)] : List D).map dval).toArray))), recovered := false }]) (recIn (FrameMode.panicking [{ v := dval (D.lit (.iface 56 (.agg (([D.lit (.int .i64 x10)] : List D).map dval).toArray))), recovered := false }])).2 R0 := by
  subst hR
  exact walkR (c := ⟨Try.prog, 24, true, [0, 1, 2, 3, 4, 5, 8, 20]⟩) (op := {}) (f := 36) (fn := Try.f36) (id := 0) (o1 := opAt (defOps 0 (bodyOf Try.f36)) 0) (o2 := opAt (defOps 0 (bodyOf Try.f36)) 1) (rest := postCode 0 (bodyOf Try.f36)) (tys := #[]) (d6 := 6) (d3 := 3) (args := [.ptr (.up 0) 0, .ptr (.up 1) 0, .ptr (.up 2) 0]) (K := [(.up 0, [.ptr (.up 3) 0]), (.up 1, [.c (.var 0), .c (.var 1), .c (.var 2), .c (.var 3), .c (.var 4), .c (.var 5)]), (.up 2, [.c (.var 6), .c (.var 7)]), (.up 3, [.c (.o1 .cs (.var 8)), .c (.o1 (.ci .i64) (.var 9))])]) (nv := 11) (depth := 5) (up := upOf [q0, q1, q2, q3]) (ρ := envOf [.d x0, .d x1, .d x2, .d x3, .d x4, .d x5, .d x6, .d x7, .s x8, .i x9, .i x10]) (e := E.o1 (.mkA 56) (.o2 .rcons (.o1 (.ci .i64) (.var 10)) .rnil))
    rfl rfl (by kernel_rfl) rfl rfl (by kernel_rfl) (by kernel_rfl) (by kernel_rfl) (by kernel_rfl) (by kernel_rfl) (by kernel_rfl) (by decide) (by decide) (by decide) (by decide) (by decide) rfl rfl rfl (by simp [bxDen, RRef.den, upOf, hq01 , hq02 , hq12 , hq03 , hq13 , hq23]) (T_of (by kernel_rfl) h)
theorem w36z {R0 : List (Ref × List A) → Prop} (R : Out → List (Ref × List A) → Prop) (hR : R = fun o H => match o with | .ret _ => R0 H | .pan _ => False) (x0 : D) (x1 : D) (x2 : D) (x3 : D) (x4 : D) (x5 : D) (x6 : D) (x7 : D) (x8 : List UInt8) (x9 : Int) (x10 : Int) (q0 q1 q2 q3 : Ref) (hq01 : q0 ≠ q1) (hq02 : q0 ≠ q2) (hq12 : q1 ≠ q2) (hq03 : q0 ≠ q3) (hq13 : q1 ≠ q3) (hq23 : q2 ≠ q3) (h : R (.ret (A.tup [])) [((Ref.up q0), [(A.ptr (Ref.up q3) 0)]), ((Ref.up q1), [(A.d (D.lit (.int .i64 (0 : Int)))), (A.d (D.lit (.int .u64 (0 : Int)))), (A.d (D.lit (.int .u64 (0 : Int)))), (A.d (D.lit (.int .u64 (0 : Int)))), (A.d (D.lit (.int .u64 (0 : Int)))), (A.d (D.slc ([] : List (List D))))]), ((Ref.up q2), [(A.d (D.lit (.int .i64 (8 : Int)))), (A.d (D.lit (.int .i64 x10)))]), ((Ref.up q3), [(A.d (D.lit (bytesV x8))), (A.d (D.lit (.int .i64 x9)))])]) :
    HoldsD Try.prog 36 [(A.ptr (Ref.up q0) 0), (A.ptr (Ref.up q1) 0), (A.ptr (Ref.up q2) 0)] [((Ref.up q0), [(A.ptr (Ref.up q3) 0)]), ((Ref.up q1), [(A.d x0), (A.d x1), (A.d x2), (A.d x3), (A.d x4), (A.zs ([] : List (List D)))]), ((Ref.up q2), [(A.d x6), (A.d x7)]), ((Ref.up q3), [(A.d (D.lit (bytesV x8))), (A.d (D.lit (.int .i64 x9)))])] (FrameMode.panicking [{ v := dval (D.lit (.iface 56 (.agg (([D.lit (.int .i64 x10)] : List D).map dval).toArray))), recovered := false }]) (recIn (FrameMode.panicking [{ v := dval (D.lit (.iface 56 (.agg (([D.lit (.int .i64 x10)] : List D).map dval).toArray))), recovered := false }])).2 R0 := by
  subst hR
  exact walkR (c := ⟨Try.prog, 24, true, [0, 1, 2, 3, 4, 5, 8, 20]⟩) (op := {}) (f := 36) (fn := Try.f36) (id := 0) (o1 := opAt (defOps 0 (bodyOf Try.f36)) 0) (o2 := opAt (defOps 0 (bodyOf Try.f36)) 1) (rest := postCode 0 (bodyOf Try.f36)) (tys := #[]) (d6 := 6) (d3 := 3) (args := [.ptr (.up 0) 0, .ptr (.up 1) 0, .ptr (.up 2) 0]) (K := [(.up 0, [.ptr (.up 3) 0]), (.up 1, [.c (.var 0), .c (.var 1), .c (.var 2), .c (.var 3), .c (.var 4), .zs .lnil]), (.up 2, [.c (.var 6), .c (.var 7)]), (.up 3, [.c (.o1 .cs (.var 8)), .c (.o1 (.ci .i64) (.var 9))])]) (nv := 11) (depth := 5) (up := upOf [q0, q1, q2, q3]) (ρ := envOf [.d x0, .d x1, .d x2, .d x3, .d x4, .d x5, .d x6, .d x7, .s x8, .i x9, .i x10]) (e := E.o1 (.mkA 56) (.o2 .rcons (.o1 (.ci .i64) (.var 10)) .rnil))
    rfl rfl (by kernel_rfl) rfl rfl (by kernel_rfl) (by kernel_rfl) (by kernel_rfl) (by kernel_rfl) (by kernel_rfl) (by kernel_rfl) (by decide) (by decide) (by decide) (by decide) (by decide) rfl rfl rfl (by simp [bxDen, RRef.den, upOf, hq01 , hq02 , hq12 , hq03 , hq13 , hq23]) (T_of (by kernel_rfl) h)
end Go.Rx
end
section
open Go Go.Proofs Go.Ab Go.Rf
set_option maxRecDepth 1000000
set_option maxHeartbeats 2000000
set_option linter.unusedVariables false
namespace Go.Rx
theorem w21 {R : Out → List (Ref × List A) → Prop} (x0 : List D) (x1 : List D) (h : (tB ((x0.length : Int) == (6 : Int))) = true ∧
  (tB ((x1.length : Int) == (6 : Int))) = true ∧
  ∀ _ : Nat → Nat, ∃ R' : Out → List (Ref × List A) → Prop, Holds Try.prog 40 [(A.agg x0), (A.agg x1)] [] R' ∧
  (∀ v H', R' (.ret v) H' → ∃ x2 : Int, v = (A.d (D.lit (.int .i64 x2))) ∧ H' = [] ∧
   R (.ret (A.d (D.lit (.bool (tB (x2 == (0 : Int))))))) []) ∧
  (∀ x2v H', R' (.pan x2v) H' → H' = [] ∧
   R (.pan x2v) [])) :
    Holds Try.prog 21 [(A.agg x0), (A.agg x1)] [] R :=
  walk (c := ⟨Try.prog, 9, true, [0, 1, 2, 3, 4]⟩) (op := {  }) (fn := Try.f21) (args := [.agg (.var 0), .agg (.var 1)]) (K := []) (nv := 2) (depth := 4) (up := upOf []) (ρ := envOf [.r x0, .r x1])
    rfl rfl rfl rfl rfl (by decide) (by decide) (by decide) (by decide) rfl (by simp [bxDen, RRef.den, upOf]) (T_of (by kernel_rfl) h)
theorem w40 {R : Out → List (Ref × List A) → Prop} (x0 : List D) (x1 : List D) (h : (tB ((x0.length : Int) == (6 : Int))) = true ∧
  (tB ((x1.length : Int) == (6 : Int))) = true ∧
  (Rf.isK (.int .i64) (x0.getD 0 D0)) = true ∧
  (Rf.isK (.int .i64) (x1.getD 0 D0)) = true ∧
  ((!(tB ((Rf.dint (x0.getD 0 D0)) == (Rf.dint (x1.getD 0 D0))))) = true →
   ∀ _ : Nat → Nat, ∃ R' : Out → List (Ref × List A) → Prop, Holds Try.prog 54 [(A.d (D.lit (.bool (tB (decide ((Rf.dint (x0.getD 0 D0)) < (Rf.dint (x1.getD 0 D0))))))))] [] R' ∧
   (∀ v H', R' (.ret v) H' → ∃ x2 : Int, v = (A.d (D.lit (.int .i64 x2))) ∧ H' = [] ∧
    R (.ret (A.d (D.lit (.int .i64 x2)))) []) ∧
   (∀ x2v H', R' (.pan x2v) H' → H' = [] ∧
    R (.pan x2v) [])) ∧
  ((!(tB ((Rf.dint (x0.getD 0 D0)) == (Rf.dint (x1.getD 0 D0))))) = false →
   ∃ (I0_0 : Int → Prop) (M0_0 : Int → Nat), I0_0 (0 : Int) ∧
   (∀ (x2 : Int) , I0_0 x2 →
    ((tB (decide (x2 < (4 : Int)))) = true →
     (tB (decide ((0 : Int) ≤ x2))) = true ∧
     ((tB (x2 == (0 : Int))) = true →
      (Rf.isK (.int .u64) (x0.getD 1 D0)) = true ∧
      (Rf.isK (.int .u64) (x1.getD 1 D0)) = true ∧
      ((!(tB ((Rf.dint (x0.getD 1 D0)) == (Rf.dint (x1.getD 1 D0))))) = true →
       ∀ _ : Nat → Nat, ∃ R' : Out → List (Ref × List A) → Prop, Holds Try.prog 54 [(A.d (D.lit (.bool (tB (decide ((Rf.dint (x0.getD 1 D0)) < (Rf.dint (x1.getD 1 D0))))))))] [] R' ∧
       (∀ v H', R' (.ret v) H' → ∃ x3 : Int, v = (A.d (D.lit (.int .i64 x3))) ∧ H' = [] ∧
        R (.ret (A.d (D.lit (.int .i64 x3)))) []) ∧
       (∀ x3v H', R' (.pan x3v) H' → H' = [] ∧
        R (.pan x3v) [])) ∧
      ((!(tB ((Rf.dint (x0.getD 1 D0)) == (Rf.dint (x1.getD 1 D0))))) = false →
       (tB (decide ((-9223372036854775808 : Int) ≤ (x2 + (1 : Int))))) = true ∧
       (tB (decide ((x2 + (1 : Int)) ≤ (9223372036854775807 : Int)))) = true ∧
       I0_0 (x2 + (1 : Int)) ∧ M0_0 (x2 + (1 : Int)) < M0_0 x2)) ∧
     ((tB (x2 == (0 : Int))) = false →
      ((tB (x2 == (1 : Int))) = true →
       (Rf.isK (.int .u64) (x0.getD 2 D0)) = true ∧
       (Rf.isK (.int .u64) (x1.getD 2 D0)) = true ∧
       ((!(tB ((Rf.dint (x0.getD 2 D0)) == (Rf.dint (x1.getD 2 D0))))) = true →
        ∀ _ : Nat → Nat, ∃ R' : Out → List (Ref × List A) → Prop, Holds Try.prog 54 [(A.d (D.lit (.bool (tB (decide ((Rf.dint (x0.getD 2 D0)) < (Rf.dint (x1.getD 2 D0))))))))] [] R' ∧
        (∀ v H', R' (.ret v) H' → ∃ x3 : Int, v = (A.d (D.lit (.int .i64 x3))) ∧ H' = [] ∧
         R (.ret (A.d (D.lit (.int .i64 x3)))) []) ∧
        (∀ x3v H', R' (.pan x3v) H' → H' = [] ∧
         R (.pan x3v) [])) ∧
       ((!(tB ((Rf.dint (x0.getD 2 D0)) == (Rf.dint (x1.getD 2 D0))))) = false →
        (tB (decide ((-9223372036854775808 : Int) ≤ (x2 + (1 : Int))))) = true ∧
        (tB (decide ((x2 + (1 : Int)) ≤ (9223372036854775807 : Int)))) = true ∧
        I0_0 (x2 + (1 : Int)) ∧ M0_0 (x2 + (1 : Int)) < M0_0 x2)) ∧
      ((tB (x2 == (1 : Int))) = false →
       ((tB (x2 == (2 : Int))) = true →
        (Rf.isK (.int .u64) (x0.getD 3 D0)) = true ∧
        (Rf.isK (.int .u64) (x1.getD 3 D0)) = true ∧
        ((!(tB ((Rf.dint (x0.getD 3 D0)) == (Rf.dint (x1.getD 3 D0))))) = true →
         ∀ _ : Nat → Nat, ∃ R' : Out → List (Ref × List A) → Prop, Holds Try.prog 54 [(A.d (D.lit (.bool (tB (decide ((Rf.dint (x0.getD 3 D0)) < (Rf.dint (x1.getD 3 D0))))))))] [] R' ∧
         (∀ v H', R' (.ret v) H' → ∃ x3 : Int, v = (A.d (D.lit (.int .i64 x3))) ∧ H' = [] ∧
          R (.ret (A.d (D.lit (.int .i64 x3)))) []) ∧
         (∀ x3v H', R' (.pan x3v) H' → H' = [] ∧
          R (.pan x3v) [])) ∧
        ((!(tB ((Rf.dint (x0.getD 3 D0)) == (Rf.dint (x1.getD 3 D0))))) = false →
         (tB (decide ((-9223372036854775808 : Int) ≤ (x2 + (1 : Int))))) = true ∧
         (tB (decide ((x2 + (1 : Int)) ≤ (9223372036854775807 : Int)))) = true ∧
         I0_0 (x2 + (1 : Int)) ∧ M0_0 (x2 + (1 : Int)) < M0_0 x2)) ∧
       ((tB (x2 == (2 : Int))) = false →
        (tB (x2 == (3 : Int))) = true ∧
        (Rf.isK (.int .u64) (x0.getD 4 D0)) = true ∧
        (Rf.isK (.int .u64) (x1.getD 4 D0)) = true ∧
        ((!(tB ((Rf.dint (x0.getD 4 D0)) == (Rf.dint (x1.getD 4 D0))))) = true →
         ∀ _ : Nat → Nat, ∃ R' : Out → List (Ref × List A) → Prop, Holds Try.prog 54 [(A.d (D.lit (.bool (tB (decide ((Rf.dint (x0.getD 4 D0)) < (Rf.dint (x1.getD 4 D0))))))))] [] R' ∧
         (∀ v H', R' (.ret v) H' → ∃ x3 : Int, v = (A.d (D.lit (.int .i64 x3))) ∧ H' = [] ∧
          R (.ret (A.d (D.lit (.int .i64 x3)))) []) ∧
         (∀ x3v H', R' (.pan x3v) H' → H' = [] ∧
          R (.pan x3v) [])) ∧
        ((!(tB ((Rf.dint (x0.getD 4 D0)) == (Rf.dint (x1.getD 4 D0))))) = false →
         (tB (decide ((-9223372036854775808 : Int) ≤ (x2 + (1 : Int))))) = true ∧
         (tB (decide ((x2 + (1 : Int)) ≤ (9223372036854775807 : Int)))) = true ∧
         I0_0 (x2 + (1 : Int)) ∧ M0_0 (x2 + (1 : Int)) < M0_0 x2))))) ∧
    ((tB (decide (x2 < (4 : Int)))) = false →
     (Rf.isK .slc (x0.getD 5 D0)) = true ∧
     (Rf.isK .slc (x1.getD 5 D0)) = true ∧
     ((!(tB (((Rf.dlst (x0.getD 5 D0)).length : Int) == ((Rf.dlst (x1.getD 5 D0)).length : Int)))) = true →
      ∀ _ : Nat → Nat, ∃ R' : Out → List (Ref × List A) → Prop, Holds Try.prog 54 [(A.d (D.lit (.bool (tB (decide (((Rf.dlst (x0.getD 5 D0)).length : Int) < ((Rf.dlst (x1.getD 5 D0)).length : Int)))))))] [] R' ∧
      (∀ v H', R' (.ret v) H' → ∃ x3 : Int, v = (A.d (D.lit (.int .i64 x3))) ∧ H' = [] ∧
       R (.ret (A.d (D.lit (.int .i64 x3)))) []) ∧
      (∀ x3v H', R' (.pan x3v) H' → H' = [] ∧
       R (.pan x3v) [])) ∧
     ((!(tB (((Rf.dlst (x0.getD 5 D0)).length : Int) == ((Rf.dlst (x1.getD 5 D0)).length : Int)))) = false →
      ∃ (I1_0 : Int → Prop) (M1_0 : Int → Nat), I1_0 (0 : Int) ∧
      (∀ (x3 : Int) , I1_0 x3 →
       ((tB (decide (x3 < ((Rf.dlst (x0.getD 5 D0)).length : Int)))) = true →
        (tB (decide ((0 : Int) ≤ x3))) = true ∧
        (tB (((gAt (Rf.dlst (x0.getD 5 D0)) x3).length : Int) == (6 : Int))) = true ∧
        (tB (decide (x3 < ((Rf.dlst (x1.getD 5 D0)).length : Int)))) = true ∧
        (tB (((gAt (Rf.dlst (x1.getD 5 D0)) x3).length : Int) == (6 : Int))) = true ∧
        ∀ _ : Nat → Nat, ∃ R' : Out → List (Ref × List A) → Prop, Holds Try.prog 40 [(A.agg (gAt (Rf.dlst (x0.getD 5 D0)) x3)), (A.agg (gAt (Rf.dlst (x1.getD 5 D0)) x3))] [] R' ∧
        (∀ v H', R' (.ret v) H' → ∃ x4 : Int, v = (A.d (D.lit (.int .i64 x4))) ∧ H' = [] ∧
         ((!(tB (x4 == (0 : Int)))) = true →
          R (.ret (A.d (D.lit (.int .i64 x4)))) []) ∧
         ((!(tB (x4 == (0 : Int)))) = false →
          (tB (decide ((-9223372036854775808 : Int) ≤ (x3 + (1 : Int))))) = true ∧
          (tB (decide ((x3 + (1 : Int)) ≤ (9223372036854775807 : Int)))) = true ∧
          I1_0 (x3 + (1 : Int)) ∧ M1_0 (x3 + (1 : Int)) < M1_0 x3)) ∧
        (∀ x4v H', R' (.pan x4v) H' → H' = [] ∧
         R (.pan x4v) [])) ∧
       ((tB (decide (x3 < ((Rf.dlst (x0.getD 5 D0)).length : Int)))) = false →
        R (.ret (A.d (D.lit (.int .i64 (0 : Int))))) [])) ∧
      True))) ∧
   True)) :
    Holds Try.prog 40 [(A.agg x0), (A.agg x1)] [] R :=
  walk (c := ⟨Try.prog, 78, true, [0, 1, 2, 3, 4, 5, 6, 7, 12, 20, 31, 48, 61, 76]⟩) (op := {  }) (fn := Try.f40) (args := [.agg (.var 0), .agg (.var 1)]) (K := []) (nv := 2) (depth := 7) (up := upOf []) (ρ := envOf [.r x0, .r x1])
    rfl rfl rfl rfl rfl (by decide) (by decide) (by decide) (by decide) rfl (by simp [bxDen, RRef.den, upOf]) (T_of (by kernel_rfl) h)
end Go.Rx
end
section
open Go Go.Proofs Go.Ab Go.Rf
set_option maxRecDepth 1000000
set_option maxHeartbeats 2000000
set_option linter.unusedVariables false
namespace Go.Rx
theorem w8 {R : Out → List (Ref × List A) → Prop} (x0 : Int) (x1 : Int) (h : (tB (decide ((0 : Int) ≤ (IntKind.wrap .u8 (x0.tdiv (16 : Int)))))) = true ∧
  (tB (decide ((IntKind.wrap .u8 (x0.tdiv (16 : Int))) < (16 : Int)))) = true ∧
  (tB (decide ((0 : Int) ≤ (x0.tmod (16 : Int))))) = true ∧
  (tB (decide ((x0.tmod (16 : Int)) < (16 : Int)))) = true ∧
  ∀ _ : Nat → Nat, ∃ R' : Out → List (Ref × List A) → Prop, Holds Try.prog 19 [(A.d (D.lit (bytesV (gBytes (((D.lit (.int .u8 (92 : Int))) :: ([] : List D)) :: (((D.lit (.int .u8 (120 : Int))) :: ([] : List D)) :: (((D.lit (.int .u8 (gByte ([48, 49, 50, 51, 52, 53, 54, 55, 56, 57, 97, 98, 99, 100, 101, 102] : List UInt8) (IntKind.wrap .u8 (x0.tdiv (16 : Int)))))) :: ([] : List D)) :: (((D.lit (.int .u8 (gByte ([48, 49, 50, 51, 52, 53, 54, 55, 56, 57, 97, 98, 99, 100, 101, 102] : List UInt8) (x0.tmod (16 : Int))))) :: ([] : List D)) :: ([] : List (List D))))))))))] [] R' ∧
  (∀ v H', R' (.ret v) H' → ∃ x2 : List D, ∃ x3 : List D, v = (A.tup [(true, x2), (true, x3)]) ∧ H' = [] ∧
   (tB ((x2.length : Int) == (6 : Int))) = true ∧
   (tB ((x3.length : Int) == (2 : Int))) = true ∧
   (tB (decide (((1 : Int) + ((gBytes (((D.lit (.int .u8 (92 : Int))) :: ([] : List D)) :: (((D.lit (.int .u8 (120 : Int))) :: ([] : List D)) :: (((D.lit (.int .u8 (gByte ([48, 49, 50, 51, 52, 53, 54, 55, 56, 57, 97, 98, 99, 100, 101, 102] : List UInt8) (IntKind.wrap .u8 (x0.tdiv (16 : Int)))))) :: ([] : List D)) :: (((D.lit (.int .u8 (gByte ([48, 49, 50, 51, 52, 53, 54, 55, 56, 57, 97, 98, 99, 100, 101, 102] : List UInt8) (x0.tmod (16 : Int))))) :: ([] : List D)) :: ([] : List (List D))))))).length : Int)) ≤ (9223372036854775807 : Int)))) = true ∧
   (tB (decide ((((([91] : List UInt8) ++ (gBytes (((D.lit (.int .u8 (92 : Int))) :: ([] : List D)) :: (((D.lit (.int .u8 (120 : Int))) :: ([] : List D)) :: (((D.lit (.int .u8 (gByte ([48, 49, 50, 51, 52, 53, 54, 55, 56, 57, 97, 98, 99, 100, 101, 102] : List UInt8) (IntKind.wrap .u8 (x0.tdiv (16 : Int)))))) :: ([] : List D)) :: (((D.lit (.int .u8 (gByte ([48, 49, 50, 51, 52, 53, 54, 55, 56, 57, 97, 98, 99, 100, 101, 102] : List UInt8) (x0.tmod (16 : Int))))) :: ([] : List D)) :: ([] : List (List D)))))))).length : Int) + (1 : Int)) ≤ (9223372036854775807 : Int)))) = true ∧
   ∀ _ : Nat → Nat, ∃ R' : Out → List (Ref × List A) → Prop, Holds Try.prog 19 [(A.d (D.lit (bytesV ((([91] : List UInt8) ++ (gBytes (((D.lit (.int .u8 (92 : Int))) :: ([] : List D)) :: (((D.lit (.int .u8 (120 : Int))) :: ([] : List D)) :: (((D.lit (.int .u8 (gByte ([48, 49, 50, 51, 52, 53, 54, 55, 56, 57, 97, 98, 99, 100, 101, 102] : List UInt8) (IntKind.wrap .u8 (x0.tdiv (16 : Int)))))) :: ([] : List D)) :: (((D.lit (.int .u8 (gByte ([48, 49, 50, 51, 52, 53, 54, 55, 56, 57, 97, 98, 99, 100, 101, 102] : List UInt8) (x0.tmod (16 : Int))))) :: ([] : List D)) :: ([] : List (List D)))))))) ++ ([93] : List UInt8)))))] [] R' ∧
   (∀ v H', R' (.ret v) H' → ∃ x4 : List D, ∃ x5 : List D, v = (A.tup [(true, x4), (true, x5)]) ∧ H' = [] ∧
    (tB ((x4.length : Int) == (6 : Int))) = true ∧
    (tB ((x5.length : Int) == (2 : Int))) = true ∧
    (tB (decide (((2 : Int) + ((gBytes (((D.lit (.int .u8 (92 : Int))) :: ([] : List D)) :: (((D.lit (.int .u8 (120 : Int))) :: ([] : List D)) :: (((D.lit (.int .u8 (gByte ([48, 49, 50, 51, 52, 53, 54, 55, 56, 57, 97, 98, 99, 100, 101, 102] : List UInt8) (IntKind.wrap .u8 (x0.tdiv (16 : Int)))))) :: ([] : List D)) :: (((D.lit (.int .u8 (gByte ([48, 49, 50, 51, 52, 53, 54, 55, 56, 57, 97, 98, 99, 100, 101, 102] : List UInt8) (x0.tmod (16 : Int))))) :: ([] : List D)) :: ([] : List (List D))))))).length : Int)) ≤ (9223372036854775807 : Int)))) = true ∧
    (tB (decide ((((([91, 94] : List UInt8) ++ (gBytes (((D.lit (.int .u8 (92 : Int))) :: ([] : List D)) :: (((D.lit (.int .u8 (120 : Int))) :: ([] : List D)) :: (((D.lit (.int .u8 (gByte ([48, 49, 50, 51, 52, 53, 54, 55, 56, 57, 97, 98, 99, 100, 101, 102] : List UInt8) (IntKind.wrap .u8 (x0.tdiv (16 : Int)))))) :: ([] : List D)) :: (((D.lit (.int .u8 (gByte ([48, 49, 50, 51, 52, 53, 54, 55, 56, 57, 97, 98, 99, 100, 101, 102] : List UInt8) (x0.tmod (16 : Int))))) :: ([] : List D)) :: ([] : List (List D)))))))).length : Int) + (1 : Int)) ≤ (9223372036854775807 : Int)))) = true ∧
    ∀ _ : Nat → Nat, ∃ R' : Out → List (Ref × List A) → Prop, Holds Try.prog 19 [(A.d (D.lit (bytesV ((([91, 94] : List UInt8) ++ (gBytes (((D.lit (.int .u8 (92 : Int))) :: ([] : List D)) :: (((D.lit (.int .u8 (120 : Int))) :: ([] : List D)) :: (((D.lit (.int .u8 (gByte ([48, 49, 50, 51, 52, 53, 54, 55, 56, 57, 97, 98, 99, 100, 101, 102] : List UInt8) (IntKind.wrap .u8 (x0.tdiv (16 : Int)))))) :: ([] : List D)) :: (((D.lit (.int .u8 (gByte ([48, 49, 50, 51, 52, 53, 54, 55, 56, 57, 97, 98, 99, 100, 101, 102] : List UInt8) (x0.tmod (16 : Int))))) :: ([] : List D)) :: ([] : List (List D)))))))) ++ ([93] : List UInt8)))))] [] R' ∧
    (∀ v H', R' (.ret v) H' → ∃ x6 : List D, ∃ x7 : List D, v = (A.tup [(true, x6), (true, x7)]) ∧ H' = [] ∧
     (tB ((x6.length : Int) == (6 : Int))) = true ∧
     (tB ((x7.length : Int) == (2 : Int))) = true ∧
     (Rf.isK (.int .i64) (x3.getD 0 D0)) = true ∧
     (Rf.isK (.int .i64) (x3.getD 1 D0)) = true ∧
     ((!((tB ((Rf.dint (x3.getD 0 D0)) == (0 : Int))) && (tB ((Rf.dint (x3.getD 1 D0)) == (0 : Int))))) || (Rf.isK (.int .i64) (x5.getD 0 D0))) = true ∧
     ((!((tB ((Rf.dint (x3.getD 0 D0)) == (0 : Int))) && (tB ((Rf.dint (x3.getD 1 D0)) == (0 : Int))))) || (Rf.isK (.int .i64) (x5.getD 1 D0))) = true ∧
     ((!(((tB ((Rf.dint (x3.getD 0 D0)) == (0 : Int))) && (tB ((Rf.dint (x3.getD 1 D0)) == (0 : Int)))) && ((tB ((Rf.dint (x5.getD 0 D0)) == (0 : Int))) && (tB ((Rf.dint (x5.getD 1 D0)) == (0 : Int)))))) || (Rf.isK (.int .i64) (x7.getD 0 D0))) = true ∧
     ((!(((tB ((Rf.dint (x3.getD 0 D0)) == (0 : Int))) && (tB ((Rf.dint (x3.getD 1 D0)) == (0 : Int)))) && ((tB ((Rf.dint (x5.getD 0 D0)) == (0 : Int))) && (tB ((Rf.dint (x5.getD 1 D0)) == (0 : Int)))))) || (Rf.isK (.int .i64) (x7.getD 1 D0))) = true ∧
     ((((tB ((Rf.dint (x3.getD 0 D0)) == (0 : Int))) && (tB ((Rf.dint (x3.getD 1 D0)) == (0 : Int)))) && ((tB ((Rf.dint (x5.getD 0 D0)) == (0 : Int))) && (tB ((Rf.dint (x5.getD 1 D0)) == (0 : Int))))) = true →
      ((tB ((Rf.dint (x7.getD 0 D0)) == (0 : Int))) = true →
       ((tB ((Rf.dint (x7.getD 1 D0)) == (0 : Int))) = true →
        ∀ _ : Nat → Nat, ∃ R' : Out → List (Ref × List A) → Prop, Holds Try.prog 21 [(A.agg x2), (A.agg x4)] [] R' ∧
        (∀ v H', R' (.ret v) H' → ∃ x8 : Bool, v = (A.d (D.lit (.bool x8))) ∧ H' = [] ∧
         (x8 = true →
          ∀ _ : Nat → Nat, ∃ R' : Out → List (Ref × List A) → Prop, Holds Try.prog 17 [(A.agg x2)] [] R' ∧
          (∀ v H', R' (.ret v) H' → ∃ x9 : Int, v = (A.d (D.lit (.int .i64 x9))) ∧ H' = [] ∧
           ((tB (x9 == (1 : Int))) = true →
            ∀ _ : Nat → Nat, ∃ R' : Out → List (Ref × List A) → Prop, Holds Try.prog 24 [(A.agg x2), (A.d (D.lit (bytesV (gBytes (((D.lit (.int .u8 x1)) :: ([] : List D)) :: ([] : List (List D)))))))] [] R' ∧
            (∀ v H', R' (.ret v) H' → ∃ x10 : Bool, v = (A.d (D.lit (.bool x10))) ∧ H' = [] ∧
             ((x10 == (tB (x0 == x1))) = true →
              ∀ _ : Nat → Nat, ∃ R' : Out → List (Ref × List A) → Prop, Holds Try.prog 24 [(A.agg x6), (A.d (D.lit (bytesV (gBytes (((D.lit (.int .u8 x1)) :: ([] : List D)) :: ([] : List (List D)))))))] [] R' ∧
              (∀ v H', R' (.ret v) H' → ∃ x11 : Bool, v = (A.d (D.lit (.bool x11))) ∧ H' = [] ∧
               ((x11 == (!(tB (x0 == x1)))) = true →
                ∀ _ : Nat → Nat, ∃ R' : Out → List (Ref × List A) → Prop, Holds Try.prog 24 [(A.agg x6), (A.d (D.lit (bytesV ([] : List UInt8))))] [] R' ∧
                (∀ v H', R' (.ret v) H' → ∃ x12 : Bool, v = (A.d (D.lit (.bool x12))) ∧ H' = [] ∧
                 (x12 || (tB (decide ((((gBytes (((D.lit (.int .u8 x1)) :: ([] : List D)) :: ([] : List (List D)))).length : Int) + ((gBytes (((D.lit (.int .u8 x1)) :: ([] : List D)) :: ([] : List (List D)))).length : Int)) ≤ (9223372036854775807 : Int))))) = true ∧
                 ((!x12) = true →
                  ∀ _ : Nat → Nat, ∃ R' : Out → List (Ref × List A) → Prop, Holds Try.prog 24 [(A.agg x6), (A.d (D.lit (bytesV ((gBytes (((D.lit (.int .u8 x1)) :: ([] : List D)) :: ([] : List (List D)))) ++ (gBytes (((D.lit (.int .u8 x1)) :: ([] : List D)) :: ([] : List (List D))))))))] [] R' ∧
                  (∀ v H', R' (.ret v) H' → ∃ x13 : Bool, v = (A.d (D.lit (.bool x13))) ∧ H' = [] ∧
                   ((!x13) = true →
                    ∀ _ : Nat → Nat, ∃ R' : Out → List (Ref × List A) → Prop, Holds Try.prog 14 [] [] R' ∧
                    (∀ v H', R' (.ret v) H' → ∃ x14 : Bool, v = (A.d (D.lit (.bool x14))) ∧ H' = [] ∧
                     R (.ret (A.d (D.lit (.bool x14)))) []) ∧
                    (∀ x14v H', R' (.pan x14v) H' → H' = [] ∧
                     R (.pan x14v) [])) ∧
                   ((!x13) = false →
                    R (.ret (A.d (D.lit (.bool false)))) [])) ∧
                  (∀ x13v H', R' (.pan x13v) H' → H' = [] ∧
                   R (.pan x13v) [])) ∧
                 ((!x12) = false →
                  R (.ret (A.d (D.lit (.bool false)))) [])) ∧
                (∀ x12v H', R' (.pan x12v) H' → H' = [] ∧
                 R (.pan x12v) [])) ∧
               ((x11 == (!(tB (x0 == x1)))) = false →
                R (.ret (A.d (D.lit (.bool false)))) [])) ∧
              (∀ x11v H', R' (.pan x11v) H' → H' = [] ∧
               R (.pan x11v) [])) ∧
             ((x10 == (tB (x0 == x1))) = false →
              R (.ret (A.d (D.lit (.bool false)))) [])) ∧
            (∀ x10v H', R' (.pan x10v) H' → H' = [] ∧
             R (.pan x10v) [])) ∧
           ((tB (x9 == (1 : Int))) = false →
            R (.ret (A.d (D.lit (.bool false)))) [])) ∧
          (∀ x9v H', R' (.pan x9v) H' → H' = [] ∧
           R (.pan x9v) [])) ∧
         (x8 = false →
          R (.ret (A.d (D.lit (.bool false)))) [])) ∧
        (∀ x8v H', R' (.pan x8v) H' → H' = [] ∧
         R (.pan x8v) [])) ∧
       ((tB ((Rf.dint (x7.getD 1 D0)) == (0 : Int))) = false →
        R (.ret (A.d (D.lit (.bool false)))) [])) ∧
      ((tB ((Rf.dint (x7.getD 0 D0)) == (0 : Int))) = false →
       R (.ret (A.d (D.lit (.bool false)))) [])) ∧
     ((((tB ((Rf.dint (x3.getD 0 D0)) == (0 : Int))) && (tB ((Rf.dint (x3.getD 1 D0)) == (0 : Int)))) && ((tB ((Rf.dint (x5.getD 0 D0)) == (0 : Int))) && (tB ((Rf.dint (x5.getD 1 D0)) == (0 : Int))))) = false →
      R (.ret (A.d (D.lit (.bool false)))) [])) ∧
    (∀ x6v H', R' (.pan x6v) H' → H' = [] ∧
     R (.pan x6v) [])) ∧
   (∀ x4v H', R' (.pan x4v) H' → H' = [] ∧
    R (.pan x4v) [])) ∧
  (∀ x2v H', R' (.pan x2v) H' → H' = [] ∧
   R (.pan x2v) [])) :
    Holds Try.prog 8 [(A.d (D.lit (.int .u8 x0))), (A.d (D.lit (.int .u8 x1)))] [] R :=
  walk (c := ⟨Try.prog, 105, true, [0, 1, 4, 5, 6, 7, 8, 9, 10, 11, 12, 13, 14]⟩) (op := {  }) (fn := Try.f8) (args := [.c (.o1 (.ci .u8) (.var 0)), .c (.o1 (.ci .u8) (.var 1))]) (K := []) (nv := 2) (depth := 7) (up := upOf []) (ρ := envOf [.i x0, .i x1])
    rfl rfl rfl rfl rfl (by decide) (by decide) (by decide) (by decide) rfl (by simp [bxDen, RRef.den, upOf]) (T_of (by kernel_rfl) h)
theorem w14 {R : Out → List (Ref × List A) → Prop} (h : ∀ _ : Nat → Nat, ∃ R' : Out → List (Ref × List A) → Prop, Holds Try.prog 19 [(A.d (D.lit (bytesV ([97, 43, 98, 63] : List UInt8))))] [] R' ∧
  (∀ v H', R' (.ret v) H' → ∃ x0 : List D, ∃ x1 : List D, v = (A.tup [(true, x0), (true, x1)]) ∧ H' = [] ∧
   (tB ((x0.length : Int) == (6 : Int))) = true ∧
   (tB ((x1.length : Int) == (2 : Int))) = true ∧
   ∀ _ : Nat → Nat, ∃ R' : Out → List (Ref × List A) → Prop, Holds Try.prog 19 [(A.d (D.lit (bytesV ([91, 97, 45, 99, 93] : List UInt8))))] [] R' ∧
   (∀ v H', R' (.ret v) H' → ∃ x2 : List D, ∃ x3 : List D, v = (A.tup [(true, x2), (true, x3)]) ∧ H' = [] ∧
    (tB ((x2.length : Int) == (6 : Int))) = true ∧
    (tB ((x3.length : Int) == (2 : Int))) = true ∧
    ∀ _ : Nat → Nat, ∃ R' : Out → List (Ref × List A) → Prop, Holds Try.prog 19 [(A.d (D.lit (bytesV ([97, 124] : List UInt8))))] [] R' ∧
    (∀ v H', R' (.ret v) H' → ∃ x4 : List D, ∃ x5 : List D, v = (A.tup [(true, x4), (true, x5)]) ∧ H' = [] ∧
     (tB ((x4.length : Int) == (6 : Int))) = true ∧
     (tB ((x5.length : Int) == (2 : Int))) = true ∧
     ∀ _ : Nat → Nat, ∃ R' : Out → List (Ref × List A) → Prop, Holds Try.prog 19 [(A.d (D.lit (bytesV ([91, 98, 45, 97, 93] : List UInt8))))] [] R' ∧
     (∀ v H', R' (.ret v) H' → ∃ x6 : List D, ∃ x7 : List D, v = (A.tup [(true, x6), (true, x7)]) ∧ H' = [] ∧
      (tB ((x6.length : Int) == (6 : Int))) = true ∧
      (tB ((x7.length : Int) == (2 : Int))) = true ∧
      (Rf.isK (.int .i64) (x1.getD 0 D0)) = true ∧
      (Rf.isK (.int .i64) (x1.getD 1 D0)) = true ∧
      ((!((tB ((Rf.dint (x1.getD 0 D0)) == (0 : Int))) && (tB ((Rf.dint (x1.getD 1 D0)) == (0 : Int))))) || (Rf.isK (.int .i64) (x3.getD 0 D0))) = true ∧
      ((!((tB ((Rf.dint (x1.getD 0 D0)) == (0 : Int))) && (tB ((Rf.dint (x1.getD 1 D0)) == (0 : Int))))) || (Rf.isK (.int .i64) (x3.getD 1 D0))) = true ∧
      ((!(((tB ((Rf.dint (x1.getD 0 D0)) == (0 : Int))) && (tB ((Rf.dint (x1.getD 1 D0)) == (0 : Int)))) && ((tB ((Rf.dint (x3.getD 0 D0)) == (0 : Int))) && (tB ((Rf.dint (x3.getD 1 D0)) == (0 : Int)))))) || (Rf.isK (.int .i64) (x5.getD 0 D0))) = true ∧
      ((!(((tB ((Rf.dint (x1.getD 0 D0)) == (0 : Int))) && (tB ((Rf.dint (x1.getD 1 D0)) == (0 : Int)))) && ((tB ((Rf.dint (x3.getD 0 D0)) == (0 : Int))) && (tB ((Rf.dint (x3.getD 1 D0)) == (0 : Int)))))) || (Rf.isK (.int .i64) (x5.getD 1 D0))) = true ∧
      ((!((((tB ((Rf.dint (x1.getD 0 D0)) == (0 : Int))) && (tB ((Rf.dint (x1.getD 1 D0)) == (0 : Int)))) && ((tB ((Rf.dint (x3.getD 0 D0)) == (0 : Int))) && (tB ((Rf.dint (x3.getD 1 D0)) == (0 : Int))))) && ((tB ((Rf.dint (x5.getD 0 D0)) == (8 : Int))) && (tB ((Rf.dint (x5.getD 1 D0)) == (2 : Int)))))) || (Rf.isK (.int .i64) (x7.getD 0 D0))) = true ∧
      ((!((((tB ((Rf.dint (x1.getD 0 D0)) == (0 : Int))) && (tB ((Rf.dint (x1.getD 1 D0)) == (0 : Int)))) && ((tB ((Rf.dint (x3.getD 0 D0)) == (0 : Int))) && (tB ((Rf.dint (x3.getD 1 D0)) == (0 : Int))))) && ((tB ((Rf.dint (x5.getD 0 D0)) == (8 : Int))) && (tB ((Rf.dint (x5.getD 1 D0)) == (2 : Int)))))) || (Rf.isK (.int .i64) (x7.getD 1 D0))) = true ∧
      (((((tB ((Rf.dint (x1.getD 0 D0)) == (0 : Int))) && (tB ((Rf.dint (x1.getD 1 D0)) == (0 : Int)))) && ((tB ((Rf.dint (x3.getD 0 D0)) == (0 : Int))) && (tB ((Rf.dint (x3.getD 1 D0)) == (0 : Int))))) && ((tB ((Rf.dint (x5.getD 0 D0)) == (8 : Int))) && (tB ((Rf.dint (x5.getD 1 D0)) == (2 : Int))))) = true →
       ((tB ((Rf.dint (x7.getD 0 D0)) == (8 : Int))) = true →
        ((tB ((Rf.dint (x7.getD 1 D0)) == (3 : Int))) = true →
         ∀ _ : Nat → Nat, ∃ R' : Out → List (Ref × List A) → Prop, Holds Try.prog 24 [(A.agg x0), (A.d (D.lit (bytesV ([97] : List UInt8))))] [] R' ∧
         (∀ v H', R' (.ret v) H' → ∃ x8 : Bool, v = (A.d (D.lit (.bool x8))) ∧ H' = [] ∧
          (x8 = true →
           ∀ _ : Nat → Nat, ∃ R' : Out → List (Ref × List A) → Prop, Holds Try.prog 24 [(A.agg x0), (A.d (D.lit (bytesV ([97, 98] : List UInt8))))] [] R' ∧
           (∀ v H', R' (.ret v) H' → ∃ x9 : Bool, v = (A.d (D.lit (.bool x9))) ∧ H' = [] ∧
            (x9 = true →
             ∀ _ : Nat → Nat, ∃ R' : Out → List (Ref × List A) → Prop, Holds Try.prog 24 [(A.agg x0), (A.d (D.lit (bytesV ([97, 97, 98] : List UInt8))))] [] R' ∧
             (∀ v H', R' (.ret v) H' → ∃ x10 : Bool, v = (A.d (D.lit (.bool x10))) ∧ H' = [] ∧
              (x10 = true →
               ∀ _ : Nat → Nat, ∃ R' : Out → List (Ref × List A) → Prop, Holds Try.prog 24 [(A.agg x0), (A.d (D.lit (bytesV ([98] : List UInt8))))] [] R' ∧
               (∀ v H', R' (.ret v) H' → ∃ x11 : Bool, v = (A.d (D.lit (.bool x11))) ∧ H' = [] ∧
                ((!x11) = true →
                 ∀ _ : Nat → Nat, ∃ R' : Out → List (Ref × List A) → Prop, Holds Try.prog 17 [(A.agg x2)] [] R' ∧
                 (∀ v H', R' (.ret v) H' → ∃ x12 : Int, v = (A.d (D.lit (.int .i64 x12))) ∧ H' = [] ∧
                  R (.ret (A.d (D.lit (.bool (tB (x12 == (1 : Int))))))) []) ∧
                 (∀ x12v H', R' (.pan x12v) H' → H' = [] ∧
                  R (.pan x12v) [])) ∧
                ((!x11) = false →
                 R (.ret (A.d (D.lit (.bool false)))) [])) ∧
               (∀ x11v H', R' (.pan x11v) H' → H' = [] ∧
                R (.pan x11v) [])) ∧
              (x10 = false →
               R (.ret (A.d (D.lit (.bool false)))) [])) ∧
             (∀ x10v H', R' (.pan x10v) H' → H' = [] ∧
              R (.pan x10v) [])) ∧
            (x9 = false →
             R (.ret (A.d (D.lit (.bool false)))) [])) ∧
           (∀ x9v H', R' (.pan x9v) H' → H' = [] ∧
            R (.pan x9v) [])) ∧
          (x8 = false →
           R (.ret (A.d (D.lit (.bool false)))) [])) ∧
         (∀ x8v H', R' (.pan x8v) H' → H' = [] ∧
          R (.pan x8v) [])) ∧
        ((tB ((Rf.dint (x7.getD 1 D0)) == (3 : Int))) = false →
         R (.ret (A.d (D.lit (.bool false)))) [])) ∧
       ((tB ((Rf.dint (x7.getD 0 D0)) == (8 : Int))) = false →
        R (.ret (A.d (D.lit (.bool false)))) [])) ∧
      (((((tB ((Rf.dint (x1.getD 0 D0)) == (0 : Int))) && (tB ((Rf.dint (x1.getD 1 D0)) == (0 : Int)))) && ((tB ((Rf.dint (x3.getD 0 D0)) == (0 : Int))) && (tB ((Rf.dint (x3.getD 1 D0)) == (0 : Int))))) && ((tB ((Rf.dint (x5.getD 0 D0)) == (8 : Int))) && (tB ((Rf.dint (x5.getD 1 D0)) == (2 : Int))))) = false →
       R (.ret (A.d (D.lit (.bool false)))) [])) ∧
     (∀ x6v H', R' (.pan x6v) H' → H' = [] ∧
      R (.pan x6v) [])) ∧
    (∀ x4v H', R' (.pan x4v) H' → H' = [] ∧
     R (.pan x4v) [])) ∧
   (∀ x2v H', R' (.pan x2v) H' → H' = [] ∧
    R (.pan x2v) [])) ∧
  (∀ x0v H', R' (.pan x0v) H' → H' = [] ∧
   R (.pan x0v) [])) :
    Holds Try.prog 14 [] [] R :=
  walk (c := ⟨Try.prog, 67, true, [0, 1, 2, 3, 4, 6, 8, 9]⟩) (op := {  }) (fn := Try.f14) (args := []) (K := []) (nv := 0) (depth := 7) (up := upOf []) (ρ := envOf [])
    rfl rfl rfl rfl rfl (by decide) (by decide) (by decide) (by decide) rfl (by simp [bxDen, RRef.den, upOf]) (T_of (by kernel_rfl) h)
end Go.Rx
end
