/- Part 11 of the proof: Wref, RxQp, RxQr, RxFuel, RxRefP. -/
import Derived.Test.YtedalcjkolcolaaProg
import Derived.Test.YtedalcjkolcolaaJaj
section
open Go Go.Proofs Go.Ab Go.Rf
set_option maxRecDepth 1000000
set_option maxHeartbeats 2000000
set_option linter.unusedVariables false
namespace Go.Rx
theorem w39 {R : Out → List (Ref × List A) → Prop} (x0 : List UInt8) (x1 : Int) (x2 : Bool) (q0 : Ref) (h : ∀ _ : Nat → Nat, ∃ R' : Out → List (Ref × List A) → Prop, Holds Try.prog 51 [(A.ptr (.up (Ref.up q0)) 0)] [(Ref.up (Ref.up q0), [(A.d (D.lit (bytesV x0))), (A.d (D.lit (.int .i64 x1))), (A.d (D.lit (.bool x2)))])] R' ∧
  (∀ v H', R' (.ret v) H' → ∃ x3 : List D, ∃ x4 : List UInt8, ∃ x5 : Int, ∃ x6 : Bool, v = (A.agg x3) ∧ H' = [(Ref.up (Ref.up q0), [(A.d (D.lit (bytesV x4))), (A.d (D.lit (.int .i64 x5))), (A.d (D.lit (.bool x6)))])] ∧
   (tB ((x3.length : Int) == (6 : Int))) = true ∧
   ∃ (I0_0 : List (List D) → List UInt8 → Int → Bool → Prop) (M0_0 : List (List D) → List UInt8 → Int → Bool → Nat), I0_0 (x3 :: ([] : List (List D))) x4 x5 x6 ∧
   (∀ (x7 : List (List D)) (x8 : List UInt8) (x9 : Int) (x10 : Bool) , I0_0 x7 x8 x9 x10 →
    ∀ _ : Nat → Nat, ∃ R' : Out → List (Ref × List A) → Prop, Holds Try.prog 52 [(A.ptr (.up (Ref.up q0)) 0), (A.d (D.lit (.int .u8 (124 : Int))))] [(Ref.up (Ref.up q0), [(A.d (D.lit (bytesV x8))), (A.d (D.lit (.int .i64 x9))), (A.d (D.lit (.bool x10)))])] R' ∧
    (∀ v H', R' (.ret v) H' → ∃ x11 : Bool, ∃ x12 : List UInt8, ∃ x13 : Int, ∃ x14 : Bool, v = (A.d (D.lit (.bool x11))) ∧ H' = [(Ref.up (Ref.up q0), [(A.d (D.lit (bytesV x12))), (A.d (D.lit (.int .i64 x13))), (A.d (D.lit (.bool x14)))])] ∧
     (x11 = true →
      ∀ _ : Nat → Nat, ∃ R' : Out → List (Ref × List A) → Prop, Holds Try.prog 51 [(A.ptr (.up (Ref.up q0)) 0)] [(Ref.up (Ref.up q0), [(A.d (D.lit (bytesV x12))), (A.d (D.lit (.int .i64 x13))), (A.d (D.lit (.bool x14)))])] R' ∧
      (∀ v H', R' (.ret v) H' → ∃ x15 : List D, ∃ x16 : List UInt8, ∃ x17 : Int, ∃ x18 : Bool, v = (A.agg x15) ∧ H' = [(Ref.up (Ref.up q0), [(A.d (D.lit (bytesV x16))), (A.d (D.lit (.int .i64 x17))), (A.d (D.lit (.bool x18)))])] ∧
       (tB ((x15.length : Int) == (6 : Int))) = true ∧
       (flatB 6 (x15 :: ([] : List (List D)))) = true ∧
       (tB (decide ((((x7.length : Int) + ((x15 :: ([] : List (List D))).length : Int)) * (64 : Int)) ≤ (140737488355328 : Int)))) = true ∧
       (tB (decide (((x7.length : Int) + ((x15 :: ([] : List (List D))).length : Int)) ≤ (1099511627776 : Int)))) = true ∧
       I0_0 (x7 ++ (x15 :: ([] : List (List D)))) x16 x17 x18 ∧ M0_0 (x7 ++ (x15 :: ([] : List (List D)))) x16 x17 x18 < M0_0 x7 x8 x9 x10) ∧
      (∀ x15v H', R' (.pan x15v) H' → ∃ x16 : List UInt8, ∃ x17 : Int, ∃ x18 : Bool, H' = [(Ref.up (Ref.up q0), [(A.d (D.lit (bytesV x16))), (A.d (D.lit (.int .i64 x17))), (A.d (D.lit (.bool x18)))])] ∧
       R (.pan x15v) [((Ref.up q0), [(A.d (D.lit (bytesV x16))), (A.d (D.lit (.int .i64 x17))), (A.d (D.lit (.bool x18)))])])) ∧
     (x11 = false →
      ∀ _ : Nat → Nat, ∃ R' : Out → List (Ref × List A) → Prop, Holds Try.prog 53 [(A.d (D.lit (.int .i64 (4 : Int)))), (A.d (D.slc x7))] [] R' ∧
      (∀ v H', R' (.ret v) H' → ∃ x15 : List D, v = (A.agg x15) ∧ H' = [] ∧
       (tB ((x15.length : Int) == (6 : Int))) = true ∧
       R (.ret (A.agg x15)) [((Ref.up q0), [(A.d (D.lit (bytesV x12))), (A.d (D.lit (.int .i64 x13))), (A.d (D.lit (.bool x14)))])]) ∧
      (∀ x15v H', R' (.pan x15v) H' → H' = [] ∧
       R (.pan x15v) [((Ref.up q0), [(A.d (D.lit (bytesV x12))), (A.d (D.lit (.int .i64 x13))), (A.d (D.lit (.bool x14)))])]))) ∧
    (∀ x11v H', R' (.pan x11v) H' → ∃ x12 : List UInt8, ∃ x13 : Int, ∃ x14 : Bool, H' = [(Ref.up (Ref.up q0), [(A.d (D.lit (bytesV x12))), (A.d (D.lit (.int .i64 x13))), (A.d (D.lit (.bool x14)))])] ∧
     R (.pan x11v) [((Ref.up q0), [(A.d (D.lit (bytesV x12))), (A.d (D.lit (.int .i64 x13))), (A.d (D.lit (.bool x14)))])])) ∧
   True) ∧
  (∀ x3v H', R' (.pan x3v) H' → ∃ x4 : List UInt8, ∃ x5 : Int, ∃ x6 : Bool, H' = [(Ref.up (Ref.up q0), [(A.d (D.lit (bytesV x4))), (A.d (D.lit (.int .i64 x5))), (A.d (D.lit (.bool x6)))])] ∧
   R (.pan x3v) [((Ref.up q0), [(A.d (D.lit (bytesV x4))), (A.d (D.lit (.int .i64 x5))), (A.d (D.lit (.bool x6)))])])) :
    Holds Try.prog 39 [(A.ptr (Ref.up q0) 0)] [((Ref.up q0), [(A.d (D.lit (bytesV x0))), (A.d (D.lit (.int .i64 x1))), (A.d (D.lit (.bool x2)))])] R :=
  walk (c := ⟨Try.prog, 16, true, [0, 2, 3, 8]⟩) (op := {  }) (fn := Try.f39) (args := [.ptr (.up 0) 0]) (K := [(.up 0, [.c (.o1 .cs (.var 0)), .c (.o1 (.ci .i64) (.var 1)), .c (.o1 .cb (.o1 .tb (.var 2)))])]) (nv := 3) (depth := 5) (up := upOf [q0]) (ρ := envOf [.s x0, .i x1, .b x2])
    rfl rfl rfl rfl rfl (by decide) (by decide) (by decide) (by decide) rfl (by simp [bxDen, RRef.den, upOf]) (T_of (by kernel_rfl) h)
theorem w51 {R : Out → List (Ref × List A) → Prop} (x0 : List UInt8) (x1 : Int) (x2 : Bool) (q0 : Ref) (h : ∀ _ : Nat → Nat, ∃ R' : Out → List (Ref × List A) → Prop, Holds Try.prog 66 [(A.ptr (.up (Ref.up q0)) 0)] [(Ref.up (Ref.up q0), [(A.d (D.lit (bytesV x0))), (A.d (D.lit (.int .i64 x1))), (A.d (D.lit (.bool x2)))])] R' ∧
  (∀ v H', R' (.ret v) H' → ∃ x3 : List D, ∃ x4 : List UInt8, ∃ x5 : Int, ∃ x6 : Bool, v = (A.agg x3) ∧ H' = [(Ref.up (Ref.up q0), [(A.d (D.lit (bytesV x4))), (A.d (D.lit (.int .i64 x5))), (A.d (D.lit (.bool x6)))])] ∧
   (tB ((x3.length : Int) == (6 : Int))) = true ∧
   ∃ (I0_0 : List (List D) → List UInt8 → Int → Bool → Prop) (M0_0 : List (List D) → List UInt8 → Int → Bool → Nat), I0_0 (x3 :: ([] : List (List D))) x4 x5 x6 ∧
   (∀ (x7 : List (List D)) (x8 : List UInt8) (x9 : Int) (x10 : Bool) , I0_0 x7 x8 x9 x10 →
    ∃ x11 : Bool, (∀ _ : Nat → Nat, Holds Try.prog 67 [(A.ptr (.up (Ref.up q0)) 0)] [(Ref.up (Ref.up q0), [(A.d (D.lit (bytesV x8))), (A.d (D.lit (.int .i64 x9))), (A.d (D.lit (.bool x10)))])] (Reads [(Ref.up (Ref.up q0), [(A.d (D.lit (bytesV x8))), (A.d (D.lit (.int .i64 x9))), (A.d (D.lit (.bool x10)))])] (A.d (D.lit (.bool x11))))) ∧
    ((!x11) || (tB (decide ((0 : Int) ≤ x9)))) = true ∧
    ((!x11) || (tB (decide (x9 < (x8.length : Int))))) = true ∧
    ((!(x11 && (!(tB ((gByte x8 x9) == (124 : Int)))))) || (tB (decide ((0 : Int) ≤ x9)))) = true ∧
    ((!(x11 && (!(tB ((gByte x8 x9) == (124 : Int)))))) || (tB (decide (x9 < (x8.length : Int))))) = true ∧
    (((x11 && (!(tB ((gByte x8 x9) == (124 : Int))))) && (!(tB ((gByte x8 x9) == (41 : Int))))) = true →
     ∀ _ : Nat → Nat, ∃ R' : Out → List (Ref × List A) → Prop, Holds Try.prog 66 [(A.ptr (.up (Ref.up q0)) 0)] [(Ref.up (Ref.up q0), [(A.d (D.lit (bytesV x8))), (A.d (D.lit (.int .i64 x9))), (A.d (D.lit (.bool x10)))])] R' ∧
     (∀ v H', R' (.ret v) H' → ∃ x12 : List D, ∃ x13 : List UInt8, ∃ x14 : Int, ∃ x15 : Bool, v = (A.agg x12) ∧ H' = [(Ref.up (Ref.up q0), [(A.d (D.lit (bytesV x13))), (A.d (D.lit (.int .i64 x14))), (A.d (D.lit (.bool x15)))])] ∧
      (tB ((x12.length : Int) == (6 : Int))) = true ∧
      (flatB 6 (x12 :: ([] : List (List D)))) = true ∧
      (tB (decide ((((x7.length : Int) + ((x12 :: ([] : List (List D))).length : Int)) * (64 : Int)) ≤ (140737488355328 : Int)))) = true ∧
      (tB (decide (((x7.length : Int) + ((x12 :: ([] : List (List D))).length : Int)) ≤ (1099511627776 : Int)))) = true ∧
      I0_0 (x7 ++ (x12 :: ([] : List (List D)))) x13 x14 x15 ∧ M0_0 (x7 ++ (x12 :: ([] : List (List D)))) x13 x14 x15 < M0_0 x7 x8 x9 x10) ∧
     (∀ x12v H', R' (.pan x12v) H' → ∃ x13 : List UInt8, ∃ x14 : Int, ∃ x15 : Bool, H' = [(Ref.up (Ref.up q0), [(A.d (D.lit (bytesV x13))), (A.d (D.lit (.int .i64 x14))), (A.d (D.lit (.bool x15)))])] ∧
      R (.pan x12v) [((Ref.up q0), [(A.d (D.lit (bytesV x13))), (A.d (D.lit (.int .i64 x14))), (A.d (D.lit (.bool x15)))])])) ∧
    (((x11 && (!(tB ((gByte x8 x9) == (124 : Int))))) && (!(tB ((gByte x8 x9) == (41 : Int))))) = false →
     ∀ _ : Nat → Nat, ∃ R' : Out → List (Ref × List A) → Prop, Holds Try.prog 53 [(A.d (D.lit (.int .i64 (3 : Int)))), (A.d (D.slc x7))] [] R' ∧
     (∀ v H', R' (.ret v) H' → ∃ x12 : List D, v = (A.agg x12) ∧ H' = [] ∧
      (tB ((x12.length : Int) == (6 : Int))) = true ∧
      R (.ret (A.agg x12)) [((Ref.up q0), [(A.d (D.lit (bytesV x8))), (A.d (D.lit (.int .i64 x9))), (A.d (D.lit (.bool x10)))])]) ∧
     (∀ x12v H', R' (.pan x12v) H' → H' = [] ∧
      R (.pan x12v) [((Ref.up q0), [(A.d (D.lit (bytesV x8))), (A.d (D.lit (.int .i64 x9))), (A.d (D.lit (.bool x10)))])]))) ∧
   True) ∧
  (∀ x3v H', R' (.pan x3v) H' → ∃ x4 : List UInt8, ∃ x5 : Int, ∃ x6 : Bool, H' = [(Ref.up (Ref.up q0), [(A.d (D.lit (bytesV x4))), (A.d (D.lit (.int .i64 x5))), (A.d (D.lit (.bool x6)))])] ∧
   R (.pan x3v) [((Ref.up q0), [(A.d (D.lit (bytesV x4))), (A.d (D.lit (.int .i64 x5))), (A.d (D.lit (.bool x6)))])])) :
    Holds Try.prog 51 [(A.ptr (Ref.up q0) 0)] [((Ref.up q0), [(A.d (D.lit (bytesV x0))), (A.d (D.lit (.int .i64 x1))), (A.d (D.lit (.bool x2)))])] R :=
  walk (c := ⟨Try.prog, 40, true, [0, 2, 3, 32]⟩) (op := {  }) (fn := Try.f51) (args := [.ptr (.up 0) 0]) (K := [(.up 0, [.c (.o1 .cs (.var 0)), .c (.o1 (.ci .i64) (.var 1)), .c (.o1 .cb (.o1 .tb (.var 2)))])]) (nv := 3) (depth := 6) (up := upOf [q0]) (ρ := envOf [.s x0, .i x1, .b x2])
    rfl rfl rfl rfl rfl (by decide) (by decide) (by decide) (by decide) rfl (by simp [bxDen, RRef.den, upOf]) (T_of (by kernel_rfl) h)
theorem w52 {R : Out → List (Ref × List A) → Prop} (x0 : List UInt8) (x1 : Int) (x2 : Bool) (x3 : Int) (q0 : Ref) (h : ((x2 || (tB (decide ((x0.length : Int) ≤ x1)))) || (tB (decide ((0 : Int) ≤ x1)))) = true ∧
  ((x2 || (tB (decide ((x0.length : Int) ≤ x1)))) || (tB (decide (x1 < (x0.length : Int))))) = true ∧
  (((x2 || (tB (decide ((x0.length : Int) ≤ x1)))) || (!(tB ((gByte x0 x1) == x3)))) = true →
   R (.ret (A.d (D.lit (.bool false)))) [((Ref.up q0), [(A.d (D.lit (bytesV x0))), (A.d (D.lit (.int .i64 x1))), (A.d (D.lit (.bool x2)))])]) ∧
  (((x2 || (tB (decide ((x0.length : Int) ≤ x1)))) || (!(tB ((gByte x0 x1) == x3)))) = false →
   (tB (decide ((-9223372036854775808 : Int) ≤ (x1 + (1 : Int))))) = true ∧
   (tB (decide ((x1 + (1 : Int)) ≤ (9223372036854775807 : Int)))) = true ∧
   R (.ret (A.d (D.lit (.bool true)))) [((Ref.up q0), [(A.d (D.lit (bytesV x0))), (A.d (D.lit (.int .i64 (x1 + (1 : Int))))), (A.d (D.lit (.bool x2)))])])) :
    Holds Try.prog 52 [(A.ptr (Ref.up q0) 0), (A.d (D.lit (.int .u8 x3)))] [((Ref.up q0), [(A.d (D.lit (bytesV x0))), (A.d (D.lit (.int .i64 x1))), (A.d (D.lit (.bool x2)))])] R :=
  walk (c := ⟨Try.prog, 42, true, [0, 1, 4, 33]⟩) (op := {  }) (fn := Try.f52) (args := [.ptr (.up 0) 0, .c (.o1 (.ci .u8) (.var 3))]) (K := [(.up 0, [.c (.o1 .cs (.var 0)), .c (.o1 (.ci .i64) (.var 1)), .c (.o1 .cb (.o1 .tb (.var 2)))])]) (nv := 4) (depth := 6) (up := upOf [q0]) (ρ := envOf [.s x0, .i x1, .b x2, .i x3])
    rfl rfl rfl rfl rfl (by decide) (by decide) (by decide) (by decide) rfl (by simp [bxDen, RRef.den, upOf]) (T_of (by kernel_rfl) h)
theorem w53 {R : Out → List (Ref × List A) → Prop} (x0 : Int) (x1 : List (List D)) (h : ((tB ((x1.length : Int) == (1 : Int))) = true →
   (tB (decide ((0 : Int) < (x1.length : Int)))) = true ∧
   (tB (((gAt x1 (0 : Int)).length : Int) == (6 : Int))) = true ∧
   R (.ret (A.agg (gAt x1 (0 : Int)))) []) ∧
  ((tB ((x1.length : Int) == (1 : Int))) = false →
   R (.ret (A.agg ((D.lit (.int .i64 x0)) :: ((D.lit (.int .u64 (0 : Int))) :: ((D.lit (.int .u64 (0 : Int))) :: ((D.lit (.int .u64 (0 : Int))) :: ((D.lit (.int .u64 (0 : Int))) :: ((D.slc x1) :: ([] : List D))))))))) [])) :
    Holds Try.prog 53 [(A.d (D.lit (.int .i64 x0))), (A.d (D.slc x1))] [] R :=
  walk (c := ⟨Try.prog, 14, true, [0, 1, 4, 7]⟩) (op := {  }) (fn := Try.f53) (args := [.c (.o1 (.ci .i64) (.var 0)), .c (.o1 .cl (.var 1))]) (K := []) (nv := 2) (depth := 4) (up := upOf []) (ρ := envOf [.i x0, .l x1])
    rfl rfl rfl rfl rfl (by decide) (by decide) (by decide) (by decide) rfl (by simp [bxDen, RRef.den, upOf]) (T_of (by kernel_rfl) h)
theorem w66 {R : Out → List (Ref × List A) → Prop} (x0 : List UInt8) (x1 : Int) (x2 : Bool) (q0 : Ref) (h : ∀ _ : Nat → Nat, ∃ R' : Out → List (Ref × List A) → Prop, Holds Try.prog 74 [(A.ptr (.up (Ref.up q0)) 0)] [(Ref.up (Ref.up q0), [(A.d (D.lit (bytesV x0))), (A.d (D.lit (.int .i64 x1))), (A.d (D.lit (.bool x2)))])] R' ∧
  (∀ v H', R' (.ret v) H' → ∃ x3 : List D, ∃ x4 : List UInt8, ∃ x5 : Int, ∃ x6 : Bool, v = (A.agg x3) ∧ H' = [(Ref.up (Ref.up q0), [(A.d (D.lit (bytesV x4))), (A.d (D.lit (.int .i64 x5))), (A.d (D.lit (.bool x6)))])] ∧
   (tB ((x3.length : Int) == (6 : Int))) = true ∧
   ∃ (I0_0 : D → D → D → D → D → D → List UInt8 → Int → Bool → Prop) (M0_0 : D → D → D → D → D → D → List UInt8 → Int → Bool → Nat), I0_0 (x3.getD 0 D0) (x3.getD 1 D0) (x3.getD 2 D0) (x3.getD 3 D0) (x3.getD 4 D0) (x3.getD 5 D0) x4 x5 x6 ∧
   (∀ (x7 : D) (x8 : D) (x9 : D) (x10 : D) (x11 : D) (x12 : D) (x13 : List UInt8) (x14 : Int) (x15 : Bool) , I0_0 x7 x8 x9 x10 x11 x12 x13 x14 x15 →
    ((!x15) = true →
     ∀ _ : Nat → Nat, ∃ R' : Out → List (Ref × List A) → Prop, Holds Try.prog 52 [(A.ptr (.up (Ref.up q0)) 0), (A.d (D.lit (.int .u8 (42 : Int))))] [(Ref.up (Ref.up q0), [(A.d (D.lit (bytesV x13))), (A.d (D.lit (.int .i64 x14))), (A.d (D.lit (.bool x15)))])] R' ∧
     (∀ v H', R' (.ret v) H' → ∃ x16 : Bool, ∃ x17 : List UInt8, ∃ x18 : Int, ∃ x19 : Bool, v = (A.d (D.lit (.bool x16))) ∧ H' = [(Ref.up (Ref.up q0), [(A.d (D.lit (bytesV x17))), (A.d (D.lit (.int .i64 x18))), (A.d (D.lit (.bool x19)))])] ∧
      (x16 = true →
       I0_0 (D.lit (.int .i64 (5 : Int))) (D.lit (.int .u64 (0 : Int))) (D.lit (.int .u64 (0 : Int))) (D.lit (.int .u64 (0 : Int))) (D.lit (.int .u64 (0 : Int))) (D.slc ((x7 :: (x8 :: (x9 :: (x10 :: (x11 :: (x12 :: ([] : List D))))))) :: ([] : List (List D)))) x17 x18 x19 ∧ M0_0 (D.lit (.int .i64 (5 : Int))) (D.lit (.int .u64 (0 : Int))) (D.lit (.int .u64 (0 : Int))) (D.lit (.int .u64 (0 : Int))) (D.lit (.int .u64 (0 : Int))) (D.slc ((x7 :: (x8 :: (x9 :: (x10 :: (x11 :: (x12 :: ([] : List D))))))) :: ([] : List (List D)))) x17 x18 x19 < M0_0 x7 x8 x9 x10 x11 x12 x13 x14 x15) ∧
      (x16 = false →
       ∀ _ : Nat → Nat, ∃ R' : Out → List (Ref × List A) → Prop, Holds Try.prog 52 [(A.ptr (.up (Ref.up q0)) 0), (A.d (D.lit (.int .u8 (43 : Int))))] [(Ref.up (Ref.up q0), [(A.d (D.lit (bytesV x17))), (A.d (D.lit (.int .i64 x18))), (A.d (D.lit (.bool x19)))])] R' ∧
       (∀ v H', R' (.ret v) H' → ∃ x20 : Bool, ∃ x21 : List UInt8, ∃ x22 : Int, ∃ x23 : Bool, v = (A.d (D.lit (.bool x20))) ∧ H' = [(Ref.up (Ref.up q0), [(A.d (D.lit (bytesV x21))), (A.d (D.lit (.int .i64 x22))), (A.d (D.lit (.bool x23)))])] ∧
        (x20 = true →
         I0_0 (D.lit (.int .i64 (3 : Int))) (D.lit (.int .u64 (0 : Int))) (D.lit (.int .u64 (0 : Int))) (D.lit (.int .u64 (0 : Int))) (D.lit (.int .u64 (0 : Int))) (D.slc ((x7 :: (x8 :: (x9 :: (x10 :: (x11 :: (x12 :: ([] : List D))))))) :: (((D.lit (.int .i64 (5 : Int))) :: ((D.lit (.int .u64 (0 : Int))) :: ((D.lit (.int .u64 (0 : Int))) :: ((D.lit (.int .u64 (0 : Int))) :: ((D.lit (.int .u64 (0 : Int))) :: ((D.slc ((x7 :: (x8 :: (x9 :: (x10 :: (x11 :: (x12 :: ([] : List D))))))) :: ([] : List (List D)))) :: ([] : List D))))))) :: ([] : List (List D))))) x21 x22 x23 ∧ M0_0 (D.lit (.int .i64 (3 : Int))) (D.lit (.int .u64 (0 : Int))) (D.lit (.int .u64 (0 : Int))) (D.lit (.int .u64 (0 : Int))) (D.lit (.int .u64 (0 : Int))) (D.slc ((x7 :: (x8 :: (x9 :: (x10 :: (x11 :: (x12 :: ([] : List D))))))) :: (((D.lit (.int .i64 (5 : Int))) :: ((D.lit (.int .u64 (0 : Int))) :: ((D.lit (.int .u64 (0 : Int))) :: ((D.lit (.int .u64 (0 : Int))) :: ((D.lit (.int .u64 (0 : Int))) :: ((D.slc ((x7 :: (x8 :: (x9 :: (x10 :: (x11 :: (x12 :: ([] : List D))))))) :: ([] : List (List D)))) :: ([] : List D))))))) :: ([] : List (List D))))) x21 x22 x23 < M0_0 x7 x8 x9 x10 x11 x12 x13 x14 x15) ∧
        (x20 = false →
         ∀ _ : Nat → Nat, ∃ R' : Out → List (Ref × List A) → Prop, Holds Try.prog 52 [(A.ptr (.up (Ref.up q0)) 0), (A.d (D.lit (.int .u8 (63 : Int))))] [(Ref.up (Ref.up q0), [(A.d (D.lit (bytesV x21))), (A.d (D.lit (.int .i64 x22))), (A.d (D.lit (.bool x23)))])] R' ∧
         (∀ v H', R' (.ret v) H' → ∃ x24 : Bool, ∃ x25 : List UInt8, ∃ x26 : Int, ∃ x27 : Bool, v = (A.d (D.lit (.bool x24))) ∧ H' = [(Ref.up (Ref.up q0), [(A.d (D.lit (bytesV x25))), (A.d (D.lit (.int .i64 x26))), (A.d (D.lit (.bool x27)))])] ∧
          (x24 = true →
           I0_0 (D.lit (.int .i64 (4 : Int))) (D.lit (.int .u64 (0 : Int))) (D.lit (.int .u64 (0 : Int))) (D.lit (.int .u64 (0 : Int))) (D.lit (.int .u64 (0 : Int))) (D.slc ((x7 :: (x8 :: (x9 :: (x10 :: (x11 :: (x12 :: ([] : List D))))))) :: (((D.lit (.int .i64 (1 : Int))) :: ((D.lit (.int .u64 (0 : Int))) :: ((D.lit (.int .u64 (0 : Int))) :: ((D.lit (.int .u64 (0 : Int))) :: ((D.lit (.int .u64 (0 : Int))) :: ((D.slc ([] : List (List D))) :: ([] : List D))))))) :: ([] : List (List D))))) x25 x26 x27 ∧ M0_0 (D.lit (.int .i64 (4 : Int))) (D.lit (.int .u64 (0 : Int))) (D.lit (.int .u64 (0 : Int))) (D.lit (.int .u64 (0 : Int))) (D.lit (.int .u64 (0 : Int))) (D.slc ((x7 :: (x8 :: (x9 :: (x10 :: (x11 :: (x12 :: ([] : List D))))))) :: (((D.lit (.int .i64 (1 : Int))) :: ((D.lit (.int .u64 (0 : Int))) :: ((D.lit (.int .u64 (0 : Int))) :: ((D.lit (.int .u64 (0 : Int))) :: ((D.lit (.int .u64 (0 : Int))) :: ((D.slc ([] : List (List D))) :: ([] : List D))))))) :: ([] : List (List D))))) x25 x26 x27 < M0_0 x7 x8 x9 x10 x11 x12 x13 x14 x15) ∧
          (x24 = false →
           R (.ret (A.agg (x7 :: (x8 :: (x9 :: (x10 :: (x11 :: (x12 :: ([] : List D))))))))) [((Ref.up q0), [(A.d (D.lit (bytesV x25))), (A.d (D.lit (.int .i64 x26))), (A.d (D.lit (.bool x27)))])])) ∧
         (∀ x24v H', R' (.pan x24v) H' → ∃ x25 : List UInt8, ∃ x26 : Int, ∃ x27 : Bool, H' = [(Ref.up (Ref.up q0), [(A.d (D.lit (bytesV x25))), (A.d (D.lit (.int .i64 x26))), (A.d (D.lit (.bool x27)))])] ∧
          R (.pan x24v) [((Ref.up q0), [(A.d (D.lit (bytesV x25))), (A.d (D.lit (.int .i64 x26))), (A.d (D.lit (.bool x27)))])]))) ∧
       (∀ x20v H', R' (.pan x20v) H' → ∃ x21 : List UInt8, ∃ x22 : Int, ∃ x23 : Bool, H' = [(Ref.up (Ref.up q0), [(A.d (D.lit (bytesV x21))), (A.d (D.lit (.int .i64 x22))), (A.d (D.lit (.bool x23)))])] ∧
        R (.pan x20v) [((Ref.up q0), [(A.d (D.lit (bytesV x21))), (A.d (D.lit (.int .i64 x22))), (A.d (D.lit (.bool x23)))])]))) ∧
     (∀ x16v H', R' (.pan x16v) H' → ∃ x17 : List UInt8, ∃ x18 : Int, ∃ x19 : Bool, H' = [(Ref.up (Ref.up q0), [(A.d (D.lit (bytesV x17))), (A.d (D.lit (.int .i64 x18))), (A.d (D.lit (.bool x19)))])] ∧
      R (.pan x16v) [((Ref.up q0), [(A.d (D.lit (bytesV x17))), (A.d (D.lit (.int .i64 x18))), (A.d (D.lit (.bool x19)))])])) ∧
    ((!x15) = false →
     R (.ret (A.agg (x7 :: (x8 :: (x9 :: (x10 :: (x11 :: (x12 :: ([] : List D))))))))) [((Ref.up q0), [(A.d (D.lit (bytesV x13))), (A.d (D.lit (.int .i64 x14))), (A.d (D.lit (.bool x15)))])])) ∧
   True) ∧
  (∀ x3v H', R' (.pan x3v) H' → ∃ x4 : List UInt8, ∃ x5 : Int, ∃ x6 : Bool, H' = [(Ref.up (Ref.up q0), [(A.d (D.lit (bytesV x4))), (A.d (D.lit (.int .i64 x5))), (A.d (D.lit (.bool x6)))])] ∧
   R (.pan x3v) [((Ref.up q0), [(A.d (D.lit (bytesV x4))), (A.d (D.lit (.int .i64 x5))), (A.d (D.lit (.bool x6)))])])) :
    Holds Try.prog 66 [(A.ptr (Ref.up q0) 0)] [((Ref.up q0), [(A.d (D.lit (bytesV x0))), (A.d (D.lit (.int .i64 x1))), (A.d (D.lit (.bool x2)))])] R :=
  walk (c := ⟨Try.prog, 35, true, [0, 2, 3, 10, 12, 18, 27]⟩) (op := {  }) (fn := Try.f66) (args := [.ptr (.up 0) 0]) (K := [(.up 0, [.c (.o1 .cs (.var 0)), .c (.o1 (.ci .i64) (.var 1)), .c (.o1 .cb (.o1 .tb (.var 2)))])]) (nv := 3) (depth := 6) (up := upOf [q0]) (ρ := envOf [.s x0, .i x1, .b x2])
    rfl rfl rfl rfl rfl (by decide) (by decide) (by decide) (by decide) rfl (by simp [bxDen, RRef.den, upOf]) (T_of (by kernel_rfl) h)
theorem w67 {R : Out → List (Ref × List A) → Prop} (x0 : List UInt8) (x1 : Int) (x2 : Bool) (q0 : Ref) (h : R (.ret (A.d (D.lit (.bool ((!x2) && (tB (decide (x1 < (x0.length : Int))))))))) [((Ref.up q0), [(A.d (D.lit (bytesV x0))), (A.d (D.lit (.int .i64 x1))), (A.d (D.lit (.bool x2)))])]) :
    Holds Try.prog 67 [(A.ptr (Ref.up q0) 0)] [((Ref.up q0), [(A.d (D.lit (bytesV x0))), (A.d (D.lit (.int .i64 x1))), (A.d (D.lit (.bool x2)))])] R :=
  walk (c := ⟨Try.prog, 20, true, [0, 2]⟩) (op := {  }) (fn := Try.f67) (args := [.ptr (.up 0) 0]) (K := [(.up 0, [.c (.o1 .cs (.var 0)), .c (.o1 (.ci .i64) (.var 1)), .c (.o1 .cb (.o1 .tb (.var 2)))])]) (nv := 3) (depth := 5) (up := upOf [q0]) (ρ := envOf [.s x0, .i x1, .b x2])
    rfl rfl rfl rfl rfl (by decide) (by decide) (by decide) (by decide) rfl (by simp [bxDen, RRef.den, upOf]) (T_of (by kernel_rfl) h)
theorem w74 {R : Out → List (Ref × List A) → Prop} (x0 : List UInt8) (x1 : Int) (x2 : Bool) (q0 : Ref) (h : ∀ _ : Nat → Nat, ∃ R' : Out → List (Ref × List A) → Prop, Holds Try.prog 52 [(A.ptr (.up (Ref.up q0)) 0), (A.d (D.lit (.int .u8 (92 : Int))))] [(Ref.up (Ref.up q0), [(A.d (D.lit (bytesV x0))), (A.d (D.lit (.int .i64 x1))), (A.d (D.lit (.bool x2)))])] R' ∧
  (∀ v H', R' (.ret v) H' → ∃ x3 : Bool, ∃ x4 : List UInt8, ∃ x5 : Int, ∃ x6 : Bool, v = (A.d (D.lit (.bool x3))) ∧ H' = [(Ref.up (Ref.up q0), [(A.d (D.lit (bytesV x4))), (A.d (D.lit (.int .i64 x5))), (A.d (D.lit (.bool x6)))])] ∧
   (x3 = true →
    ∀ _ : Nat → Nat, ∃ R' : Out → List (Ref × List A) → Prop, Holds Try.prog 84 [(A.ptr (.up (Ref.up q0)) 0)] [(Ref.up (Ref.up q0), [(A.d (D.lit (bytesV x4))), (A.d (D.lit (.int .i64 x5))), (A.d (D.lit (.bool x6)))])] R' ∧
    (∀ v H', R' (.ret v) H' → ∃ x7 : List D, ∃ x8 : List UInt8, ∃ x9 : Int, ∃ x10 : Bool, v = (A.agg x7) ∧ H' = [(Ref.up (Ref.up q0), [(A.d (D.lit (bytesV x8))), (A.d (D.lit (.int .i64 x9))), (A.d (D.lit (.bool x10)))])] ∧
     (tB ((x7.length : Int) == (6 : Int))) = true ∧
     R (.ret (A.agg x7)) [((Ref.up q0), [(A.d (D.lit (bytesV x8))), (A.d (D.lit (.int .i64 x9))), (A.d (D.lit (.bool x10)))])]) ∧
    (∀ x7v H', R' (.pan x7v) H' → ∃ x8 : List UInt8, ∃ x9 : Int, ∃ x10 : Bool, H' = [(Ref.up (Ref.up q0), [(A.d (D.lit (bytesV x8))), (A.d (D.lit (.int .i64 x9))), (A.d (D.lit (.bool x10)))])] ∧
     R (.pan x7v) [((Ref.up q0), [(A.d (D.lit (bytesV x8))), (A.d (D.lit (.int .i64 x9))), (A.d (D.lit (.bool x10)))])])) ∧
   (x3 = false →
    ∀ _ : Nat → Nat, ∃ R' : Out → List (Ref × List A) → Prop, Holds Try.prog 52 [(A.ptr (.up (Ref.up q0)) 0), (A.d (D.lit (.int .u8 (46 : Int))))] [(Ref.up (Ref.up q0), [(A.d (D.lit (bytesV x4))), (A.d (D.lit (.int .i64 x5))), (A.d (D.lit (.bool x6)))])] R' ∧
    (∀ v H', R' (.ret v) H' → ∃ x7 : Bool, ∃ x8 : List UInt8, ∃ x9 : Int, ∃ x10 : Bool, v = (A.d (D.lit (.bool x7))) ∧ H' = [(Ref.up (Ref.up q0), [(A.d (D.lit (bytesV x8))), (A.d (D.lit (.int .i64 x9))), (A.d (D.lit (.bool x10)))])] ∧
     (x7 = true →
      ∀ _ : Nat → Nat, ∃ R' : Out → List (Ref × List A) → Prop, Holds Try.prog 85 [(A.d (D.lit (.int .i64 (0 : Int)))), (A.d (D.lit (.int .i64 (255 : Int))))] [] R' ∧
      (∀ v H', R' (.ret v) H' → ∃ x11 : List D, v = (A.agg x11) ∧ H' = [] ∧
       (tB ((x11.length : Int) == (4 : Int))) = true ∧
       R (.ret (A.agg ((D.lit (.int .i64 (2 : Int))) :: ((x11.getD 0 D0) :: ((x11.getD 1 D0) :: ((x11.getD 2 D0) :: ((x11.getD 3 D0) :: ((D.slc ([] : List (List D))) :: ([] : List D))))))))) [((Ref.up q0), [(A.d (D.lit (bytesV x8))), (A.d (D.lit (.int .i64 x9))), (A.d (D.lit (.bool x10)))])]) ∧
      (∀ x11v H', R' (.pan x11v) H' → H' = [] ∧
       R (.pan x11v) [((Ref.up q0), [(A.d (D.lit (bytesV x8))), (A.d (D.lit (.int .i64 x9))), (A.d (D.lit (.bool x10)))])])) ∧
     (x7 = false →
      ∀ _ : Nat → Nat, ∃ R' : Out → List (Ref × List A) → Prop, Holds Try.prog 52 [(A.ptr (.up (Ref.up q0)) 0), (A.d (D.lit (.int .u8 (91 : Int))))] [(Ref.up (Ref.up q0), [(A.d (D.lit (bytesV x8))), (A.d (D.lit (.int .i64 x9))), (A.d (D.lit (.bool x10)))])] R' ∧
      (∀ v H', R' (.ret v) H' → ∃ x11 : Bool, ∃ x12 : List UInt8, ∃ x13 : Int, ∃ x14 : Bool, v = (A.d (D.lit (.bool x11))) ∧ H' = [(Ref.up (Ref.up q0), [(A.d (D.lit (bytesV x12))), (A.d (D.lit (.int .i64 x13))), (A.d (D.lit (.bool x14)))])] ∧
       (x11 = true →
        ∀ _ : Nat → Nat, ∃ R' : Out → List (Ref × List A) → Prop, Holds Try.prog 86 [(A.ptr (.up (Ref.up q0)) 0)] [(Ref.up (Ref.up q0), [(A.d (D.lit (bytesV x12))), (A.d (D.lit (.int .i64 x13))), (A.d (D.lit (.bool x14)))])] R' ∧
        (∀ v H', R' (.ret v) H' → ∃ x15 : List D, ∃ x16 : List UInt8, ∃ x17 : Int, ∃ x18 : Bool, v = (A.agg x15) ∧ H' = [(Ref.up (Ref.up q0), [(A.d (D.lit (bytesV x16))), (A.d (D.lit (.int .i64 x17))), (A.d (D.lit (.bool x18)))])] ∧
         (tB ((x15.length : Int) == (6 : Int))) = true ∧
         R (.ret (A.agg x15)) [((Ref.up q0), [(A.d (D.lit (bytesV x16))), (A.d (D.lit (.int .i64 x17))), (A.d (D.lit (.bool x18)))])]) ∧
        (∀ x15v H', R' (.pan x15v) H' → ∃ x16 : List UInt8, ∃ x17 : Int, ∃ x18 : Bool, H' = [(Ref.up (Ref.up q0), [(A.d (D.lit (bytesV x16))), (A.d (D.lit (.int .i64 x17))), (A.d (D.lit (.bool x18)))])] ∧
         R (.pan x15v) [((Ref.up q0), [(A.d (D.lit (bytesV x16))), (A.d (D.lit (.int .i64 x17))), (A.d (D.lit (.bool x18)))])])) ∧
       (x11 = false →
        ∀ _ : Nat → Nat, ∃ R' : Out → List (Ref × List A) → Prop, Holds Try.prog 52 [(A.ptr (.up (Ref.up q0)) 0), (A.d (D.lit (.int .u8 (40 : Int))))] [(Ref.up (Ref.up q0), [(A.d (D.lit (bytesV x12))), (A.d (D.lit (.int .i64 x13))), (A.d (D.lit (.bool x14)))])] R' ∧
        (∀ v H', R' (.ret v) H' → ∃ x15 : Bool, ∃ x16 : List UInt8, ∃ x17 : Int, ∃ x18 : Bool, v = (A.d (D.lit (.bool x15))) ∧ H' = [(Ref.up (Ref.up q0), [(A.d (D.lit (bytesV x16))), (A.d (D.lit (.int .i64 x17))), (A.d (D.lit (.bool x18)))])] ∧
         (x15 = true →
          ∀ _ : Nat → Nat, ∃ R' : Out → List (Ref × List A) → Prop, Holds Try.prog 52 [(A.ptr (.up (Ref.up q0)) 0), (A.d (D.lit (.int .u8 (41 : Int))))] [(Ref.up (Ref.up q0), [(A.d (D.lit (bytesV x16))), (A.d (D.lit (.int .i64 x17))), (A.d (D.lit (.bool x18)))])] R' ∧
          (∀ v H', R' (.ret v) H' → ∃ x19 : Bool, ∃ x20 : List UInt8, ∃ x21 : Int, ∃ x22 : Bool, v = (A.d (D.lit (.bool x19))) ∧ H' = [(Ref.up (Ref.up q0), [(A.d (D.lit (bytesV x20))), (A.d (D.lit (.int .i64 x21))), (A.d (D.lit (.bool x22)))])] ∧
           (x19 = true →
            R (.ret (A.agg ((D.lit (.int .i64 (1 : Int))) :: ((D.lit (.int .u64 (0 : Int))) :: ((D.lit (.int .u64 (0 : Int))) :: ((D.lit (.int .u64 (0 : Int))) :: ((D.lit (.int .u64 (0 : Int))) :: ((D.slc ([] : List (List D))) :: ([] : List D))))))))) [((Ref.up q0), [(A.d (D.lit (bytesV x20))), (A.d (D.lit (.int .i64 x21))), (A.d (D.lit (.bool x22)))])]) ∧
           (x19 = false →
            ∀ _ : Nat → Nat, ∃ R' : Out → List (Ref × List A) → Prop, Holds Try.prog 39 [(A.ptr (.up (Ref.up q0)) 0)] [(Ref.up (Ref.up q0), [(A.d (D.lit (bytesV x20))), (A.d (D.lit (.int .i64 x21))), (A.d (D.lit (.bool x22)))])] R' ∧
            (∀ v H', R' (.ret v) H' → ∃ x23 : List D, ∃ x24 : List UInt8, ∃ x25 : Int, ∃ x26 : Bool, v = (A.agg x23) ∧ H' = [(Ref.up (Ref.up q0), [(A.d (D.lit (bytesV x24))), (A.d (D.lit (.int .i64 x25))), (A.d (D.lit (.bool x26)))])] ∧
             (tB ((x23.length : Int) == (6 : Int))) = true ∧
             ∀ _ : Nat → Nat, ∃ R' : Out → List (Ref × List A) → Prop, Holds Try.prog 52 [(A.ptr (.up (Ref.up q0)) 0), (A.d (D.lit (.int .u8 (41 : Int))))] [(Ref.up (Ref.up q0), [(A.d (D.lit (bytesV x24))), (A.d (D.lit (.int .i64 x25))), (A.d (D.lit (.bool x26)))])] R' ∧
             (∀ v H', R' (.ret v) H' → ∃ x27 : Bool, ∃ x28 : List UInt8, ∃ x29 : Int, ∃ x30 : Bool, v = (A.d (D.lit (.bool x27))) ∧ H' = [(Ref.up (Ref.up q0), [(A.d (D.lit (bytesV x28))), (A.d (D.lit (.int .i64 x29))), (A.d (D.lit (.bool x30)))])] ∧
              ((!x27) = true →
               R (.ret (A.agg x23)) [((Ref.up q0), [(A.d (D.lit (bytesV x28))), (A.d (D.lit (.int .i64 x29))), (A.d (D.lit (.bool true)))])]) ∧
              ((!x27) = false →
               R (.ret (A.agg x23)) [((Ref.up q0), [(A.d (D.lit (bytesV x28))), (A.d (D.lit (.int .i64 x29))), (A.d (D.lit (.bool x30)))])])) ∧
             (∀ x27v H', R' (.pan x27v) H' → ∃ x28 : List UInt8, ∃ x29 : Int, ∃ x30 : Bool, H' = [(Ref.up (Ref.up q0), [(A.d (D.lit (bytesV x28))), (A.d (D.lit (.int .i64 x29))), (A.d (D.lit (.bool x30)))])] ∧
              R (.pan x27v) [((Ref.up q0), [(A.d (D.lit (bytesV x28))), (A.d (D.lit (.int .i64 x29))), (A.d (D.lit (.bool x30)))])])) ∧
            (∀ x23v H', R' (.pan x23v) H' → ∃ x24 : List UInt8, ∃ x25 : Int, ∃ x26 : Bool, H' = [(Ref.up (Ref.up q0), [(A.d (D.lit (bytesV x24))), (A.d (D.lit (.int .i64 x25))), (A.d (D.lit (.bool x26)))])] ∧
             R (.pan x23v) [((Ref.up q0), [(A.d (D.lit (bytesV x24))), (A.d (D.lit (.int .i64 x25))), (A.d (D.lit (.bool x26)))])]))) ∧
          (∀ x19v H', R' (.pan x19v) H' → ∃ x20 : List UInt8, ∃ x21 : Int, ∃ x22 : Bool, H' = [(Ref.up (Ref.up q0), [(A.d (D.lit (bytesV x20))), (A.d (D.lit (.int .i64 x21))), (A.d (D.lit (.bool x22)))])] ∧
           R (.pan x19v) [((Ref.up q0), [(A.d (D.lit (bytesV x20))), (A.d (D.lit (.int .i64 x21))), (A.d (D.lit (.bool x22)))])])) ∧
         (x15 = false →
          ∃ x19 : Bool, (∀ _ : Nat → Nat, Holds Try.prog 67 [(A.ptr (.up (Ref.up q0)) 0)] [(Ref.up (Ref.up q0), [(A.d (D.lit (bytesV x16))), (A.d (D.lit (.int .i64 x17))), (A.d (D.lit (.bool x18)))])] (Reads [(Ref.up (Ref.up q0), [(A.d (D.lit (bytesV x16))), (A.d (D.lit (.int .i64 x17))), (A.d (D.lit (.bool x18)))])] (A.d (D.lit (.bool x19))))) ∧
          ((!x19) || (tB (decide ((0 : Int) ≤ x17)))) = true ∧
          ((!x19) || (tB (decide (x17 < (x16.length : Int))))) = true ∧
          (((!x19) || (tB (decide ((gByte x16 x17) < (32 : Int))))) || (tB (decide ((0 : Int) ≤ x17)))) = true ∧
          (((!x19) || (tB (decide ((gByte x16 x17) < (32 : Int))))) || (tB (decide (x17 < (x16.length : Int))))) = true ∧
          ((((!x19) || (tB (decide ((gByte x16 x17) < (32 : Int))))) || (tB (decide ((126 : Int) < (gByte x16 x17))))) || (tB (decide ((0 : Int) ≤ x17)))) = true ∧
          ((((!x19) || (tB (decide ((gByte x16 x17) < (32 : Int))))) || (tB (decide ((126 : Int) < (gByte x16 x17))))) || (tB (decide (x17 < (x16.length : Int))))) = true ∧
          ((!(((!x19) || (tB (decide ((gByte x16 x17) < (32 : Int))))) || (tB (decide ((126 : Int) < (gByte x16 x17)))))) = true →
           ∀ _ : Nat → Nat, ∃ R' : Out → List (Ref × List A) → Prop, Holds Try.prog 87 [(A.d (D.lit (.int .u8 (gByte x16 x17))))] [] R' ∧
           (∀ v H', R' (.ret v) H' → ∃ x20 : Bool, v = (A.d (D.lit (.bool x20))) ∧ H' = [] ∧
            (x20 = true →
             R (.ret (A.agg ((D.lit (.int .i64 (0 : Int))) :: ((D.lit (.int .u64 (0 : Int))) :: ((D.lit (.int .u64 (0 : Int))) :: ((D.lit (.int .u64 (0 : Int))) :: ((D.lit (.int .u64 (0 : Int))) :: ((D.slc ([] : List (List D))) :: ([] : List D))))))))) [((Ref.up q0), [(A.d (D.lit (bytesV x16))), (A.d (D.lit (.int .i64 x17))), (A.d (D.lit (.bool true)))])]) ∧
            (x20 = false →
             (tB (decide ((-9223372036854775808 : Int) ≤ (x17 + (1 : Int))))) = true ∧
             (tB (decide ((x17 + (1 : Int)) ≤ (9223372036854775807 : Int)))) = true ∧
             (tB (decide ((-9223372036854775808 : Int) ≤ ((x17 + (1 : Int)) - (1 : Int))))) = true ∧
             (tB (decide (((x17 + (1 : Int)) - (1 : Int)) ≤ (9223372036854775807 : Int)))) = true ∧
             (tB (decide ((0 : Int) ≤ ((x17 + (1 : Int)) - (1 : Int))))) = true ∧
             (tB (decide (((x17 + (1 : Int)) - (1 : Int)) < (x16.length : Int)))) = true ∧
             (tB (decide ((-9223372036854775808 : Int) ≤ (gByte x16 ((x17 + (1 : Int)) - (1 : Int)))))) = true ∧
             (tB (decide ((gByte x16 ((x17 + (1 : Int)) - (1 : Int))) ≤ (9223372036854775807 : Int)))) = true ∧
             ∀ _ : Nat → Nat, ∃ R' : Out → List (Ref × List A) → Prop, Holds Try.prog 85 [(A.d (D.lit (.int .i64 (gByte x16 ((x17 + (1 : Int)) - (1 : Int)))))), (A.d (D.lit (.int .i64 (gByte x16 ((x17 + (1 : Int)) - (1 : Int))))))] [] R' ∧
             (∀ v H', R' (.ret v) H' → ∃ x21 : List D, v = (A.agg x21) ∧ H' = [] ∧
              (tB ((x21.length : Int) == (4 : Int))) = true ∧
              R (.ret (A.agg ((D.lit (.int .i64 (2 : Int))) :: ((x21.getD 0 D0) :: ((x21.getD 1 D0) :: ((x21.getD 2 D0) :: ((x21.getD 3 D0) :: ((D.slc ([] : List (List D))) :: ([] : List D))))))))) [((Ref.up q0), [(A.d (D.lit (bytesV x16))), (A.d (D.lit (.int .i64 (x17 + (1 : Int))))), (A.d (D.lit (.bool x18)))])]) ∧
             (∀ x21v H', R' (.pan x21v) H' → H' = [] ∧
              R (.pan x21v) [((Ref.up q0), [(A.d (D.lit (bytesV x16))), (A.d (D.lit (.int .i64 (x17 + (1 : Int))))), (A.d (D.lit (.bool x18)))])]))) ∧
           (∀ x20v H', R' (.pan x20v) H' → H' = [] ∧
            R (.pan x20v) [((Ref.up q0), [(A.d (D.lit (bytesV x16))), (A.d (D.lit (.int .i64 x17))), (A.d (D.lit (.bool x18)))])])) ∧
          ((!(((!x19) || (tB (decide ((gByte x16 x17) < (32 : Int))))) || (tB (decide ((126 : Int) < (gByte x16 x17)))))) = false →
           R (.ret (A.agg ((D.lit (.int .i64 (0 : Int))) :: ((D.lit (.int .u64 (0 : Int))) :: ((D.lit (.int .u64 (0 : Int))) :: ((D.lit (.int .u64 (0 : Int))) :: ((D.lit (.int .u64 (0 : Int))) :: ((D.slc ([] : List (List D))) :: ([] : List D))))))))) [((Ref.up q0), [(A.d (D.lit (bytesV x16))), (A.d (D.lit (.int .i64 x17))), (A.d (D.lit (.bool true)))])]))) ∧
        (∀ x15v H', R' (.pan x15v) H' → ∃ x16 : List UInt8, ∃ x17 : Int, ∃ x18 : Bool, H' = [(Ref.up (Ref.up q0), [(A.d (D.lit (bytesV x16))), (A.d (D.lit (.int .i64 x17))), (A.d (D.lit (.bool x18)))])] ∧
         R (.pan x15v) [((Ref.up q0), [(A.d (D.lit (bytesV x16))), (A.d (D.lit (.int .i64 x17))), (A.d (D.lit (.bool x18)))])]))) ∧
      (∀ x11v H', R' (.pan x11v) H' → ∃ x12 : List UInt8, ∃ x13 : Int, ∃ x14 : Bool, H' = [(Ref.up (Ref.up q0), [(A.d (D.lit (bytesV x12))), (A.d (D.lit (.int .i64 x13))), (A.d (D.lit (.bool x14)))])] ∧
       R (.pan x11v) [((Ref.up q0), [(A.d (D.lit (bytesV x12))), (A.d (D.lit (.int .i64 x13))), (A.d (D.lit (.bool x14)))])]))) ∧
    (∀ x7v H', R' (.pan x7v) H' → ∃ x8 : List UInt8, ∃ x9 : Int, ∃ x10 : Bool, H' = [(Ref.up (Ref.up q0), [(A.d (D.lit (bytesV x8))), (A.d (D.lit (.int .i64 x9))), (A.d (D.lit (.bool x10)))])] ∧
     R (.pan x7v) [((Ref.up q0), [(A.d (D.lit (bytesV x8))), (A.d (D.lit (.int .i64 x9))), (A.d (D.lit (.bool x10)))])]))) ∧
  (∀ x3v H', R' (.pan x3v) H' → ∃ x4 : List UInt8, ∃ x5 : Int, ∃ x6 : Bool, H' = [(Ref.up (Ref.up q0), [(A.d (D.lit (bytesV x4))), (A.d (D.lit (.int .i64 x5))), (A.d (D.lit (.bool x6)))])] ∧
   R (.pan x3v) [((Ref.up q0), [(A.d (D.lit (bytesV x4))), (A.d (D.lit (.int .i64 x5))), (A.d (D.lit (.bool x6)))])])) :
    Holds Try.prog 74 [(A.ptr (Ref.up q0) 0)] [((Ref.up q0), [(A.d (D.lit (bytesV x0))), (A.d (D.lit (.int .i64 x1))), (A.d (D.lit (.bool x2)))])] R :=
  walk (c := ⟨Try.prog, 101, true, [0, 2, 3, 4, 5, 10, 15, 20, 24, 30, 73]⟩) (op := {  }) (fn := Try.f74) (args := [.ptr (.up 0) 0]) (K := [(.up 0, [.c (.o1 .cs (.var 0)), .c (.o1 (.ci .i64) (.var 1)), .c (.o1 .cb (.o1 .tb (.var 2)))])]) (nv := 3) (depth := 7) (up := upOf [q0]) (ρ := envOf [.s x0, .i x1, .b x2])
    rfl rfl rfl rfl rfl (by decide) (by decide) (by decide) (by decide) rfl (by simp [bxDen, RRef.den, upOf]) (T_of (by kernel_rfl) h)
theorem w84 {R : Out → List (Ref × List A) → Prop} (x0 : List UInt8) (x1 : Int) (x2 : Bool) (q0 : Ref) (h : ∀ _ : Nat → Nat, ∃ R' : Out → List (Ref × List A) → Prop, Holds Try.prog 52 [(A.ptr (.up (Ref.up q0)) 0), (A.d (D.lit (.int .u8 (120 : Int))))] [(Ref.up (Ref.up q0), [(A.d (D.lit (bytesV x0))), (A.d (D.lit (.int .i64 x1))), (A.d (D.lit (.bool x2)))])] R' ∧
  (∀ v H', R' (.ret v) H' → ∃ x3 : Bool, ∃ x4 : List UInt8, ∃ x5 : Int, ∃ x6 : Bool, v = (A.d (D.lit (.bool x3))) ∧ H' = [(Ref.up (Ref.up q0), [(A.d (D.lit (bytesV x4))), (A.d (D.lit (.int .i64 x5))), (A.d (D.lit (.bool x6)))])] ∧
   (x3 = true →
    ∀ _ : Nat → Nat, ∃ R' : Out → List (Ref × List A) → Prop, Holds Try.prog 95 [(A.ptr (.up (Ref.up q0)) 0), (A.d (D.lit (.int .i64 (0 : Int))))] [(Ref.up (Ref.up q0), [(A.d (D.lit (bytesV x4))), (A.d (D.lit (.int .i64 x5))), (A.d (D.lit (.bool x6)))])] R' ∧
    (∀ v H', R' (.ret v) H' → ∃ x7 : Int, ∃ x8 : List UInt8, ∃ x9 : Int, ∃ x10 : Bool, v = (A.d (D.lit (.int .i64 x7))) ∧ H' = [(Ref.up (Ref.up q0), [(A.d (D.lit (bytesV x8))), (A.d (D.lit (.int .i64 x9))), (A.d (D.lit (.bool x10)))])] ∧
     ∀ _ : Nat → Nat, ∃ R' : Out → List (Ref × List A) → Prop, Holds Try.prog 85 [(A.d (D.lit (.int .i64 x7))), (A.d (D.lit (.int .i64 x7)))] [] R' ∧
     (∀ v H', R' (.ret v) H' → ∃ x11 : List D, v = (A.agg x11) ∧ H' = [] ∧
      (tB ((x11.length : Int) == (4 : Int))) = true ∧
      R (.ret (A.agg ((D.lit (.int .i64 (2 : Int))) :: ((x11.getD 0 D0) :: ((x11.getD 1 D0) :: ((x11.getD 2 D0) :: ((x11.getD 3 D0) :: ((D.slc ([] : List (List D))) :: ([] : List D))))))))) [((Ref.up q0), [(A.d (D.lit (bytesV x8))), (A.d (D.lit (.int .i64 x9))), (A.d (D.lit (.bool x10)))])]) ∧
     (∀ x11v H', R' (.pan x11v) H' → H' = [] ∧
      R (.pan x11v) [((Ref.up q0), [(A.d (D.lit (bytesV x8))), (A.d (D.lit (.int .i64 x9))), (A.d (D.lit (.bool x10)))])])) ∧
    (∀ x7v H', R' (.pan x7v) H' → ∃ x8 : List UInt8, ∃ x9 : Int, ∃ x10 : Bool, H' = [(Ref.up (Ref.up q0), [(A.d (D.lit (bytesV x8))), (A.d (D.lit (.int .i64 x9))), (A.d (D.lit (.bool x10)))])] ∧
     R (.pan x7v) [((Ref.up q0), [(A.d (D.lit (bytesV x8))), (A.d (D.lit (.int .i64 x9))), (A.d (D.lit (.bool x10)))])])) ∧
   (x3 = false →
    ∀ _ : Nat → Nat, ∃ R' : Out → List (Ref × List A) → Prop, Holds Try.prog 67 [(A.ptr (.up (Ref.up q0)) 0)] [(Ref.up (Ref.up q0), [(A.d (D.lit (bytesV x4))), (A.d (D.lit (.int .i64 x5))), (A.d (D.lit (.bool x6)))])] R' ∧
    (∀ v H', R' (.ret v) H' → ∃ x7 : Bool, ∃ x8 : List UInt8, ∃ x9 : Int, ∃ x10 : Bool, v = (A.d (D.lit (.bool x7))) ∧ H' = [(Ref.up (Ref.up q0), [(A.d (D.lit (bytesV x8))), (A.d (D.lit (.int .i64 x9))), (A.d (D.lit (.bool x10)))])] ∧
     (x7 = true →
      (tB (decide ((0 : Int) ≤ x9))) = true ∧
      (tB (decide (x9 < (x8.length : Int)))) = true ∧
      ∀ _ : Nat → Nat, ∃ R' : Out → List (Ref × List A) → Prop, Holds Try.prog 96 [(A.d (D.lit (.int .u8 (gByte x8 x9))))] [] R' ∧
      (∀ v H', R' (.ret v) H' → ∃ x11 : List D, ∃ x12 : Bool, v = (A.tup [(true, x11), (false, [(D.lit (.bool x12))])]) ∧ H' = [] ∧
       (tB ((x11.length : Int) == (4 : Int))) = true ∧
       ∀ _ : Nat → Nat, ∃ R' : Out → List (Ref × List A) → Prop, Holds Try.prog 97 [(A.d (D.lit (.int .u8 (gByte x8 x9))))] [] R' ∧
       (∀ v H', R' (.ret v) H' → ∃ x13 : Int, v = (A.d (D.lit (.int .i64 x13))) ∧ H' = [] ∧
        ((tB (decide ((0 : Int) ≤ x13))) = true →
         ∀ _ : Nat → Nat, ∃ R' : Out → List (Ref × List A) → Prop, Holds Try.prog 85 [(A.d (D.lit (.int .i64 x13))), (A.d (D.lit (.int .i64 x13)))] [] R' ∧
         (∀ v H', R' (.ret v) H' → ∃ x14 : List D, v = (A.agg x14) ∧ H' = [] ∧
          (tB ((x14.length : Int) == (4 : Int))) = true ∧
          ∀ _ : Nat → Nat, ∃ R' : Out → List (Ref × List A) → Prop, Holds Try.prog 87 [(A.d (D.lit (.int .u8 (gByte x8 x9))))] [] R' ∧
          (∀ v H', R' (.ret v) H' → ∃ x15 : Bool, v = (A.d (D.lit (.bool x15))) ∧ H' = [] ∧
           (((x15 || (tB ((gByte x8 x9) == (94 : Int)))) || (tB ((gByte x8 x9) == (45 : Int)))) = true →
            (tB (decide ((-9223372036854775808 : Int) ≤ (gByte x8 x9)))) = true ∧
            (tB (decide ((gByte x8 x9) ≤ (9223372036854775807 : Int)))) = true ∧
            ∀ _ : Nat → Nat, ∃ R' : Out → List (Ref × List A) → Prop, Holds Try.prog 85 [(A.d (D.lit (.int .i64 (gByte x8 x9)))), (A.d (D.lit (.int .i64 (gByte x8 x9))))] [] R' ∧
            (∀ v H', R' (.ret v) H' → ∃ x16 : List D, v = (A.agg x16) ∧ H' = [] ∧
             (tB ((x16.length : Int) == (4 : Int))) = true ∧
             (tB (decide ((-9223372036854775808 : Int) ≤ (x9 + (1 : Int))))) = true ∧
             (tB (decide ((x9 + (1 : Int)) ≤ (9223372036854775807 : Int)))) = true ∧
             R (.ret (A.agg ((D.lit (.int .i64 (2 : Int))) :: ((x16.getD 0 D0) :: ((x16.getD 1 D0) :: ((x16.getD 2 D0) :: ((x16.getD 3 D0) :: ((D.slc ([] : List (List D))) :: ([] : List D))))))))) [((Ref.up q0), [(A.d (D.lit (bytesV x8))), (A.d (D.lit (.int .i64 (x9 + (1 : Int))))), (A.d (D.lit (.bool x10)))])]) ∧
            (∀ x16v H', R' (.pan x16v) H' → H' = [] ∧
             R (.pan x16v) [((Ref.up q0), [(A.d (D.lit (bytesV x8))), (A.d (D.lit (.int .i64 x9))), (A.d (D.lit (.bool x10)))])])) ∧
           (((x15 || (tB ((gByte x8 x9) == (94 : Int)))) || (tB ((gByte x8 x9) == (45 : Int)))) = false →
            (tB (decide ((-9223372036854775808 : Int) ≤ (x9 + (1 : Int))))) = true ∧
            (tB (decide ((x9 + (1 : Int)) ≤ (9223372036854775807 : Int)))) = true ∧
            R (.ret (A.agg ((D.lit (.int .i64 (2 : Int))) :: ((x14.getD 0 D0) :: ((x14.getD 1 D0) :: ((x14.getD 2 D0) :: ((x14.getD 3 D0) :: ((D.slc ([] : List (List D))) :: ([] : List D))))))))) [((Ref.up q0), [(A.d (D.lit (bytesV x8))), (A.d (D.lit (.int .i64 (x9 + (1 : Int))))), (A.d (D.lit (.bool x10)))])])) ∧
          (∀ x15v H', R' (.pan x15v) H' → H' = [] ∧
           R (.pan x15v) [((Ref.up q0), [(A.d (D.lit (bytesV x8))), (A.d (D.lit (.int .i64 x9))), (A.d (D.lit (.bool x10)))])])) ∧
         (∀ x14v H', R' (.pan x14v) H' → H' = [] ∧
          R (.pan x14v) [((Ref.up q0), [(A.d (D.lit (bytesV x8))), (A.d (D.lit (.int .i64 x9))), (A.d (D.lit (.bool x10)))])])) ∧
        ((tB (decide ((0 : Int) ≤ x13))) = false →
         ∀ _ : Nat → Nat, ∃ R' : Out → List (Ref × List A) → Prop, Holds Try.prog 87 [(A.d (D.lit (.int .u8 (gByte x8 x9))))] [] R' ∧
         (∀ v H', R' (.ret v) H' → ∃ x14 : Bool, v = (A.d (D.lit (.bool x14))) ∧ H' = [] ∧
          (((x14 || (tB ((gByte x8 x9) == (94 : Int)))) || (tB ((gByte x8 x9) == (45 : Int)))) = true →
           (tB (decide ((-9223372036854775808 : Int) ≤ (gByte x8 x9)))) = true ∧
           (tB (decide ((gByte x8 x9) ≤ (9223372036854775807 : Int)))) = true ∧
           ∀ _ : Nat → Nat, ∃ R' : Out → List (Ref × List A) → Prop, Holds Try.prog 85 [(A.d (D.lit (.int .i64 (gByte x8 x9)))), (A.d (D.lit (.int .i64 (gByte x8 x9))))] [] R' ∧
           (∀ v H', R' (.ret v) H' → ∃ x15 : List D, v = (A.agg x15) ∧ H' = [] ∧
            (tB ((x15.length : Int) == (4 : Int))) = true ∧
            (tB (decide ((-9223372036854775808 : Int) ≤ (x9 + (1 : Int))))) = true ∧
            (tB (decide ((x9 + (1 : Int)) ≤ (9223372036854775807 : Int)))) = true ∧
            R (.ret (A.agg ((D.lit (.int .i64 (2 : Int))) :: ((x15.getD 0 D0) :: ((x15.getD 1 D0) :: ((x15.getD 2 D0) :: ((x15.getD 3 D0) :: ((D.slc ([] : List (List D))) :: ([] : List D))))))))) [((Ref.up q0), [(A.d (D.lit (bytesV x8))), (A.d (D.lit (.int .i64 (x9 + (1 : Int))))), (A.d (D.lit (.bool x10)))])]) ∧
           (∀ x15v H', R' (.pan x15v) H' → H' = [] ∧
            R (.pan x15v) [((Ref.up q0), [(A.d (D.lit (bytesV x8))), (A.d (D.lit (.int .i64 x9))), (A.d (D.lit (.bool x10)))])])) ∧
          (((x14 || (tB ((gByte x8 x9) == (94 : Int)))) || (tB ((gByte x8 x9) == (45 : Int)))) = false →
           (x12 = true →
            (tB (decide ((-9223372036854775808 : Int) ≤ (x9 + (1 : Int))))) = true ∧
            (tB (decide ((x9 + (1 : Int)) ≤ (9223372036854775807 : Int)))) = true ∧
            R (.ret (A.agg ((D.lit (.int .i64 (2 : Int))) :: ((x11.getD 0 D0) :: ((x11.getD 1 D0) :: ((x11.getD 2 D0) :: ((x11.getD 3 D0) :: ((D.slc ([] : List (List D))) :: ([] : List D))))))))) [((Ref.up q0), [(A.d (D.lit (bytesV x8))), (A.d (D.lit (.int .i64 (x9 + (1 : Int))))), (A.d (D.lit (.bool x10)))])]) ∧
           (x12 = false →
            R (.ret (A.agg ((D.lit (.int .i64 (0 : Int))) :: ((D.lit (.int .u64 (0 : Int))) :: ((D.lit (.int .u64 (0 : Int))) :: ((D.lit (.int .u64 (0 : Int))) :: ((D.lit (.int .u64 (0 : Int))) :: ((D.slc ([] : List (List D))) :: ([] : List D))))))))) [((Ref.up q0), [(A.d (D.lit (bytesV x8))), (A.d (D.lit (.int .i64 x9))), (A.d (D.lit (.bool true)))])]))) ∧
         (∀ x14v H', R' (.pan x14v) H' → H' = [] ∧
          R (.pan x14v) [((Ref.up q0), [(A.d (D.lit (bytesV x8))), (A.d (D.lit (.int .i64 x9))), (A.d (D.lit (.bool x10)))])]))) ∧
       (∀ x13v H', R' (.pan x13v) H' → H' = [] ∧
        R (.pan x13v) [((Ref.up q0), [(A.d (D.lit (bytesV x8))), (A.d (D.lit (.int .i64 x9))), (A.d (D.lit (.bool x10)))])])) ∧
      (∀ x11v H', R' (.pan x11v) H' → H' = [] ∧
       R (.pan x11v) [((Ref.up q0), [(A.d (D.lit (bytesV x8))), (A.d (D.lit (.int .i64 x9))), (A.d (D.lit (.bool x10)))])])) ∧
     (x7 = false →
      R (.ret (A.agg ((D.lit (.int .i64 (0 : Int))) :: ((D.lit (.int .u64 (0 : Int))) :: ((D.lit (.int .u64 (0 : Int))) :: ((D.lit (.int .u64 (0 : Int))) :: ((D.lit (.int .u64 (0 : Int))) :: ((D.slc ([] : List (List D))) :: ([] : List D))))))))) [((Ref.up q0), [(A.d (D.lit (bytesV x8))), (A.d (D.lit (.int .i64 x9))), (A.d (D.lit (.bool true)))])])) ∧
    (∀ x7v H', R' (.pan x7v) H' → ∃ x8 : List UInt8, ∃ x9 : Int, ∃ x10 : Bool, H' = [(Ref.up (Ref.up q0), [(A.d (D.lit (bytesV x8))), (A.d (D.lit (.int .i64 x9))), (A.d (D.lit (.bool x10)))])] ∧
     R (.pan x7v) [((Ref.up q0), [(A.d (D.lit (bytesV x8))), (A.d (D.lit (.int .i64 x9))), (A.d (D.lit (.bool x10)))])]))) ∧
  (∀ x3v H', R' (.pan x3v) H' → ∃ x4 : List UInt8, ∃ x5 : Int, ∃ x6 : Bool, H' = [(Ref.up (Ref.up q0), [(A.d (D.lit (bytesV x4))), (A.d (D.lit (.int .i64 x5))), (A.d (D.lit (.bool x6)))])] ∧
   R (.pan x3v) [((Ref.up q0), [(A.d (D.lit (bytesV x4))), (A.d (D.lit (.int .i64 x5))), (A.d (D.lit (.bool x6)))])])) :
    Holds Try.prog 84 [(A.ptr (Ref.up q0) 0)] [((Ref.up q0), [(A.d (D.lit (bytesV x0))), (A.d (D.lit (.int .i64 x1))), (A.d (D.lit (.bool x2)))])] R :=
  walk (c := ⟨Try.prog, 69, true, [0, 2, 3, 4, 5, 6, 7, 9, 17, 35, 48, 54]⟩) (op := {  }) (fn := Try.f84) (args := [.ptr (.up 0) 0]) (K := [(.up 0, [.c (.o1 .cs (.var 0)), .c (.o1 (.ci .i64) (.var 1)), .c (.o1 .cb (.o1 .tb (.var 2)))])]) (nv := 3) (depth := 7) (up := upOf [q0]) (ρ := envOf [.s x0, .i x1, .b x2])
    rfl rfl rfl rfl rfl (by decide) (by decide) (by decide) (by decide) rfl (by simp [bxDen, RRef.den, upOf]) (T_of (by kernel_rfl) h)
theorem w86 {R : Out → List (Ref × List A) → Prop} (x0 : List UInt8) (x1 : Int) (x2 : Bool) (q0 : Ref) (h : ∀ _ : Nat → Nat, ∃ R' : Out → List (Ref × List A) → Prop, Holds Try.prog 52 [(A.ptr (.up (Ref.up q0)) 0), (A.d (D.lit (.int .u8 (93 : Int))))] [(Ref.up (Ref.up q0), [(A.d (D.lit (bytesV x0))), (A.d (D.lit (.int .i64 x1))), (A.d (D.lit (.bool x2)))])] R' ∧
  (∀ v H', R' (.ret v) H' → ∃ x3 : Bool, ∃ x4 : List UInt8, ∃ x5 : Int, ∃ x6 : Bool, v = (A.d (D.lit (.bool x3))) ∧ H' = [(Ref.up (Ref.up q0), [(A.d (D.lit (bytesV x4))), (A.d (D.lit (.int .i64 x5))), (A.d (D.lit (.bool x6)))])] ∧
   (x3 = true →
    R (.ret (A.agg ((D.lit (.int .i64 (0 : Int))) :: ((D.lit (.int .u64 (0 : Int))) :: ((D.lit (.int .u64 (0 : Int))) :: ((D.lit (.int .u64 (0 : Int))) :: ((D.lit (.int .u64 (0 : Int))) :: ((D.slc ([] : List (List D))) :: ([] : List D))))))))) [((Ref.up q0), [(A.d (D.lit (bytesV x4))), (A.d (D.lit (.int .i64 x5))), (A.d (D.lit (.bool x6)))])]) ∧
   (x3 = false →
    ∀ _ : Nat → Nat, ∃ R' : Out → List (Ref × List A) → Prop, Holds Try.prog 52 [(A.ptr (.up (Ref.up q0)) 0), (A.d (D.lit (.int .u8 (94 : Int))))] [(Ref.up (Ref.up q0), [(A.d (D.lit (bytesV x4))), (A.d (D.lit (.int .i64 x5))), (A.d (D.lit (.bool x6)))])] R' ∧
    (∀ v H', R' (.ret v) H' → ∃ x7 : Bool, ∃ x8 : List UInt8, ∃ x9 : Int, ∃ x10 : Bool, v = (A.d (D.lit (.bool x7))) ∧ H' = [(Ref.up (Ref.up q0), [(A.d (D.lit (bytesV x8))), (A.d (D.lit (.int .i64 x9))), (A.d (D.lit (.bool x10)))])] ∧
     ∃ (I0_0 : D → D → D → D → List UInt8 → Int → Bool → Prop) (M0_0 : D → D → D → D → List UInt8 → Int → Bool → Nat), I0_0 (D.lit (.int .u64 (0 : Int))) (D.lit (.int .u64 (0 : Int))) (D.lit (.int .u64 (0 : Int))) (D.lit (.int .u64 (0 : Int))) x8 x9 x10 ∧
     (∀ (x11 : D) (x12 : D) (x13 : D) (x14 : D) (x15 : List UInt8) (x16 : Int) (x17 : Bool) , I0_0 x11 x12 x13 x14 x15 x16 x17 →
      ((!x17) = true →
       ∀ _ : Nat → Nat, ∃ R' : Out → List (Ref × List A) → Prop, Holds Try.prog 98 [(A.ptr (.up (Ref.up q0)) 0), (A.d (D.lit (.int .i64 (0 : Int))))] [(Ref.up (Ref.up q0), [(A.d (D.lit (bytesV x15))), (A.d (D.lit (.int .i64 x16))), (A.d (D.lit (.bool x17)))])] R' ∧
       (∀ v H', R' (.ret v) H' → ∃ x18 : Int, ∃ x19 : List UInt8, ∃ x20 : Int, ∃ x21 : Bool, v = (A.d (D.lit (.int .i64 x18))) ∧ H' = [(Ref.up (Ref.up q0), [(A.d (D.lit (bytesV x19))), (A.d (D.lit (.int .i64 x20))), (A.d (D.lit (.bool x21)))])] ∧
        ∀ _ : Nat → Nat, ∃ R' : Out → List (Ref × List A) → Prop, Holds Try.prog 52 [(A.ptr (.up (Ref.up q0)) 0), (A.d (D.lit (.int .u8 (45 : Int))))] [(Ref.up (Ref.up q0), [(A.d (D.lit (bytesV x19))), (A.d (D.lit (.int .i64 x20))), (A.d (D.lit (.bool x21)))])] R' ∧
        (∀ v H', R' (.ret v) H' → ∃ x22 : Bool, ∃ x23 : List UInt8, ∃ x24 : Int, ∃ x25 : Bool, v = (A.d (D.lit (.bool x22))) ∧ H' = [(Ref.up (Ref.up q0), [(A.d (D.lit (bytesV x23))), (A.d (D.lit (.int .i64 x24))), (A.d (D.lit (.bool x25)))])] ∧
         (x22 = true →
          ∀ _ : Nat → Nat, ∃ R' : Out → List (Ref × List A) → Prop, Holds Try.prog 98 [(A.ptr (.up (Ref.up q0)) 0), (A.d (D.lit (.int .i64 x18)))] [(Ref.up (Ref.up q0), [(A.d (D.lit (bytesV x23))), (A.d (D.lit (.int .i64 x24))), (A.d (D.lit (.bool x25)))])] R' ∧
          (∀ v H', R' (.ret v) H' → ∃ x26 : Int, ∃ x27 : List UInt8, ∃ x28 : Int, ∃ x29 : Bool, v = (A.d (D.lit (.int .i64 x26))) ∧ H' = [(Ref.up (Ref.up q0), [(A.d (D.lit (bytesV x27))), (A.d (D.lit (.int .i64 x28))), (A.d (D.lit (.bool x29)))])] ∧
           ((!x29) = true →
            ∃ x30 : List D, (∀ _ : Nat → Nat, Holds Try.prog 85 [(A.d (D.lit (.int .i64 x18))), (A.d (D.lit (.int .i64 x26)))] [] (Reads [] (A.agg x30))) ∧
            ∀ _ : Nat → Nat, ∃ R' : Out → List (Ref × List A) → Prop, Holds Try.prog 99 [(A.agg (x11 :: (x12 :: (x13 :: (x14 :: ([] : List D)))))), (A.agg x30)] [] R' ∧
            (∀ v H', R' (.ret v) H' → ∃ x31 : List D, v = (A.agg x31) ∧ H' = [] ∧
             (tB ((x31.length : Int) == (4 : Int))) = true ∧
             ∀ _ : Nat → Nat, ∃ R' : Out → List (Ref × List A) → Prop, Holds Try.prog 52 [(A.ptr (.up (Ref.up q0)) 0), (A.d (D.lit (.int .u8 (93 : Int))))] [(Ref.up (Ref.up q0), [(A.d (D.lit (bytesV x27))), (A.d (D.lit (.int .i64 x28))), (A.d (D.lit (.bool x29)))])] R' ∧
             (∀ v H', R' (.ret v) H' → ∃ x32 : Bool, ∃ x33 : List UInt8, ∃ x34 : Int, ∃ x35 : Bool, v = (A.d (D.lit (.bool x32))) ∧ H' = [(Ref.up (Ref.up q0), [(A.d (D.lit (bytesV x33))), (A.d (D.lit (.int .i64 x34))), (A.d (D.lit (.bool x35)))])] ∧
              (x32 = true →
               (x7 = true →
                ∀ _ : Nat → Nat, ∃ R' : Out → List (Ref × List A) → Prop, Holds Try.prog 100 [(A.agg x31)] [] R' ∧
                (∀ v H', R' (.ret v) H' → ∃ x36 : List D, v = (A.agg x36) ∧ H' = [] ∧
                 (tB ((x36.length : Int) == (4 : Int))) = true ∧
                 R (.ret (A.agg ((D.lit (.int .i64 (2 : Int))) :: ((x36.getD 0 D0) :: ((x36.getD 1 D0) :: ((x36.getD 2 D0) :: ((x36.getD 3 D0) :: ((D.slc ([] : List (List D))) :: ([] : List D))))))))) [((Ref.up q0), [(A.d (D.lit (bytesV x33))), (A.d (D.lit (.int .i64 x34))), (A.d (D.lit (.bool x35)))])]) ∧
                (∀ x36v H', R' (.pan x36v) H' → H' = [] ∧
                 R (.pan x36v) [((Ref.up q0), [(A.d (D.lit (bytesV x33))), (A.d (D.lit (.int .i64 x34))), (A.d (D.lit (.bool x35)))])])) ∧
               (x7 = false →
                R (.ret (A.agg ((D.lit (.int .i64 (2 : Int))) :: ((x31.getD 0 D0) :: ((x31.getD 1 D0) :: ((x31.getD 2 D0) :: ((x31.getD 3 D0) :: ((D.slc ([] : List (List D))) :: ([] : List D))))))))) [((Ref.up q0), [(A.d (D.lit (bytesV x33))), (A.d (D.lit (.int .i64 x34))), (A.d (D.lit (.bool x35)))])])) ∧
              (x32 = false →
               I0_0 (x31.getD 0 D0) (x31.getD 1 D0) (x31.getD 2 D0) (x31.getD 3 D0) x33 x34 x35 ∧ M0_0 (x31.getD 0 D0) (x31.getD 1 D0) (x31.getD 2 D0) (x31.getD 3 D0) x33 x34 x35 < M0_0 x11 x12 x13 x14 x15 x16 x17)) ∧
             (∀ x32v H', R' (.pan x32v) H' → ∃ x33 : List UInt8, ∃ x34 : Int, ∃ x35 : Bool, H' = [(Ref.up (Ref.up q0), [(A.d (D.lit (bytesV x33))), (A.d (D.lit (.int .i64 x34))), (A.d (D.lit (.bool x35)))])] ∧
              R (.pan x32v) [((Ref.up q0), [(A.d (D.lit (bytesV x33))), (A.d (D.lit (.int .i64 x34))), (A.d (D.lit (.bool x35)))])])) ∧
            (∀ x31v H', R' (.pan x31v) H' → H' = [] ∧
             R (.pan x31v) [((Ref.up q0), [(A.d (D.lit (bytesV x27))), (A.d (D.lit (.int .i64 x28))), (A.d (D.lit (.bool x29)))])])) ∧
           ((!x29) = false →
            ∀ _ : Nat → Nat, ∃ R' : Out → List (Ref × List A) → Prop, Holds Try.prog 52 [(A.ptr (.up (Ref.up q0)) 0), (A.d (D.lit (.int .u8 (93 : Int))))] [(Ref.up (Ref.up q0), [(A.d (D.lit (bytesV x27))), (A.d (D.lit (.int .i64 x28))), (A.d (D.lit (.bool x29)))])] R' ∧
            (∀ v H', R' (.ret v) H' → ∃ x30 : Bool, ∃ x31 : List UInt8, ∃ x32 : Int, ∃ x33 : Bool, v = (A.d (D.lit (.bool x30))) ∧ H' = [(Ref.up (Ref.up q0), [(A.d (D.lit (bytesV x31))), (A.d (D.lit (.int .i64 x32))), (A.d (D.lit (.bool x33)))])] ∧
             (x30 = true →
              (x7 = true →
               ∀ _ : Nat → Nat, ∃ R' : Out → List (Ref × List A) → Prop, Holds Try.prog 100 [(A.agg (x11 :: (x12 :: (x13 :: (x14 :: ([] : List D))))))] [] R' ∧
               (∀ v H', R' (.ret v) H' → ∃ x34 : List D, v = (A.agg x34) ∧ H' = [] ∧
                (tB ((x34.length : Int) == (4 : Int))) = true ∧
                R (.ret (A.agg ((D.lit (.int .i64 (2 : Int))) :: ((x34.getD 0 D0) :: ((x34.getD 1 D0) :: ((x34.getD 2 D0) :: ((x34.getD 3 D0) :: ((D.slc ([] : List (List D))) :: ([] : List D))))))))) [((Ref.up q0), [(A.d (D.lit (bytesV x31))), (A.d (D.lit (.int .i64 x32))), (A.d (D.lit (.bool x33)))])]) ∧
               (∀ x34v H', R' (.pan x34v) H' → H' = [] ∧
                R (.pan x34v) [((Ref.up q0), [(A.d (D.lit (bytesV x31))), (A.d (D.lit (.int .i64 x32))), (A.d (D.lit (.bool x33)))])])) ∧
              (x7 = false →
               R (.ret (A.agg ((D.lit (.int .i64 (2 : Int))) :: (x11 :: (x12 :: (x13 :: (x14 :: ((D.slc ([] : List (List D))) :: ([] : List D))))))))) [((Ref.up q0), [(A.d (D.lit (bytesV x31))), (A.d (D.lit (.int .i64 x32))), (A.d (D.lit (.bool x33)))])])) ∧
             (x30 = false →
              I0_0 x11 x12 x13 x14 x31 x32 x33 ∧ M0_0 x11 x12 x13 x14 x31 x32 x33 < M0_0 x11 x12 x13 x14 x15 x16 x17)) ∧
            (∀ x30v H', R' (.pan x30v) H' → ∃ x31 : List UInt8, ∃ x32 : Int, ∃ x33 : Bool, H' = [(Ref.up (Ref.up q0), [(A.d (D.lit (bytesV x31))), (A.d (D.lit (.int .i64 x32))), (A.d (D.lit (.bool x33)))])] ∧
             R (.pan x30v) [((Ref.up q0), [(A.d (D.lit (bytesV x31))), (A.d (D.lit (.int .i64 x32))), (A.d (D.lit (.bool x33)))])]))) ∧
          (∀ x26v H', R' (.pan x26v) H' → ∃ x27 : List UInt8, ∃ x28 : Int, ∃ x29 : Bool, H' = [(Ref.up (Ref.up q0), [(A.d (D.lit (bytesV x27))), (A.d (D.lit (.int .i64 x28))), (A.d (D.lit (.bool x29)))])] ∧
           R (.pan x26v) [((Ref.up q0), [(A.d (D.lit (bytesV x27))), (A.d (D.lit (.int .i64 x28))), (A.d (D.lit (.bool x29)))])])) ∧
         (x22 = false →
          ((!x25) = true →
           ∃ x26 : List D, (∀ _ : Nat → Nat, Holds Try.prog 85 [(A.d (D.lit (.int .i64 x18))), (A.d (D.lit (.int .i64 x18)))] [] (Reads [] (A.agg x26))) ∧
           ∀ _ : Nat → Nat, ∃ R' : Out → List (Ref × List A) → Prop, Holds Try.prog 99 [(A.agg (x11 :: (x12 :: (x13 :: (x14 :: ([] : List D)))))), (A.agg x26)] [] R' ∧
           (∀ v H', R' (.ret v) H' → ∃ x27 : List D, v = (A.agg x27) ∧ H' = [] ∧
            (tB ((x27.length : Int) == (4 : Int))) = true ∧
            ∀ _ : Nat → Nat, ∃ R' : Out → List (Ref × List A) → Prop, Holds Try.prog 52 [(A.ptr (.up (Ref.up q0)) 0), (A.d (D.lit (.int .u8 (93 : Int))))] [(Ref.up (Ref.up q0), [(A.d (D.lit (bytesV x23))), (A.d (D.lit (.int .i64 x24))), (A.d (D.lit (.bool x25)))])] R' ∧
            (∀ v H', R' (.ret v) H' → ∃ x28 : Bool, ∃ x29 : List UInt8, ∃ x30 : Int, ∃ x31 : Bool, v = (A.d (D.lit (.bool x28))) ∧ H' = [(Ref.up (Ref.up q0), [(A.d (D.lit (bytesV x29))), (A.d (D.lit (.int .i64 x30))), (A.d (D.lit (.bool x31)))])] ∧
             (x28 = true →
              (x7 = true →
               ∀ _ : Nat → Nat, ∃ R' : Out → List (Ref × List A) → Prop, Holds Try.prog 100 [(A.agg x27)] [] R' ∧
               (∀ v H', R' (.ret v) H' → ∃ x32 : List D, v = (A.agg x32) ∧ H' = [] ∧
                (tB ((x32.length : Int) == (4 : Int))) = true ∧
                R (.ret (A.agg ((D.lit (.int .i64 (2 : Int))) :: ((x32.getD 0 D0) :: ((x32.getD 1 D0) :: ((x32.getD 2 D0) :: ((x32.getD 3 D0) :: ((D.slc ([] : List (List D))) :: ([] : List D))))))))) [((Ref.up q0), [(A.d (D.lit (bytesV x29))), (A.d (D.lit (.int .i64 x30))), (A.d (D.lit (.bool x31)))])]) ∧
               (∀ x32v H', R' (.pan x32v) H' → H' = [] ∧
                R (.pan x32v) [((Ref.up q0), [(A.d (D.lit (bytesV x29))), (A.d (D.lit (.int .i64 x30))), (A.d (D.lit (.bool x31)))])])) ∧
              (x7 = false →
               R (.ret (A.agg ((D.lit (.int .i64 (2 : Int))) :: ((x27.getD 0 D0) :: ((x27.getD 1 D0) :: ((x27.getD 2 D0) :: ((x27.getD 3 D0) :: ((D.slc ([] : List (List D))) :: ([] : List D))))))))) [((Ref.up q0), [(A.d (D.lit (bytesV x29))), (A.d (D.lit (.int .i64 x30))), (A.d (D.lit (.bool x31)))])])) ∧
             (x28 = false →
              I0_0 (x27.getD 0 D0) (x27.getD 1 D0) (x27.getD 2 D0) (x27.getD 3 D0) x29 x30 x31 ∧ M0_0 (x27.getD 0 D0) (x27.getD 1 D0) (x27.getD 2 D0) (x27.getD 3 D0) x29 x30 x31 < M0_0 x11 x12 x13 x14 x15 x16 x17)) ∧
            (∀ x28v H', R' (.pan x28v) H' → ∃ x29 : List UInt8, ∃ x30 : Int, ∃ x31 : Bool, H' = [(Ref.up (Ref.up q0), [(A.d (D.lit (bytesV x29))), (A.d (D.lit (.int .i64 x30))), (A.d (D.lit (.bool x31)))])] ∧
             R (.pan x28v) [((Ref.up q0), [(A.d (D.lit (bytesV x29))), (A.d (D.lit (.int .i64 x30))), (A.d (D.lit (.bool x31)))])])) ∧
           (∀ x27v H', R' (.pan x27v) H' → H' = [] ∧
            R (.pan x27v) [((Ref.up q0), [(A.d (D.lit (bytesV x23))), (A.d (D.lit (.int .i64 x24))), (A.d (D.lit (.bool x25)))])])) ∧
          ((!x25) = false →
           ∀ _ : Nat → Nat, ∃ R' : Out → List (Ref × List A) → Prop, Holds Try.prog 52 [(A.ptr (.up (Ref.up q0)) 0), (A.d (D.lit (.int .u8 (93 : Int))))] [(Ref.up (Ref.up q0), [(A.d (D.lit (bytesV x23))), (A.d (D.lit (.int .i64 x24))), (A.d (D.lit (.bool x25)))])] R' ∧
           (∀ v H', R' (.ret v) H' → ∃ x26 : Bool, ∃ x27 : List UInt8, ∃ x28 : Int, ∃ x29 : Bool, v = (A.d (D.lit (.bool x26))) ∧ H' = [(Ref.up (Ref.up q0), [(A.d (D.lit (bytesV x27))), (A.d (D.lit (.int .i64 x28))), (A.d (D.lit (.bool x29)))])] ∧
            (x26 = true →
             (x7 = true →
              ∀ _ : Nat → Nat, ∃ R' : Out → List (Ref × List A) → Prop, Holds Try.prog 100 [(A.agg (x11 :: (x12 :: (x13 :: (x14 :: ([] : List D))))))] [] R' ∧
              (∀ v H', R' (.ret v) H' → ∃ x30 : List D, v = (A.agg x30) ∧ H' = [] ∧
               (tB ((x30.length : Int) == (4 : Int))) = true ∧
               R (.ret (A.agg ((D.lit (.int .i64 (2 : Int))) :: ((x30.getD 0 D0) :: ((x30.getD 1 D0) :: ((x30.getD 2 D0) :: ((x30.getD 3 D0) :: ((D.slc ([] : List (List D))) :: ([] : List D))))))))) [((Ref.up q0), [(A.d (D.lit (bytesV x27))), (A.d (D.lit (.int .i64 x28))), (A.d (D.lit (.bool x29)))])]) ∧
              (∀ x30v H', R' (.pan x30v) H' → H' = [] ∧
               R (.pan x30v) [((Ref.up q0), [(A.d (D.lit (bytesV x27))), (A.d (D.lit (.int .i64 x28))), (A.d (D.lit (.bool x29)))])])) ∧
             (x7 = false →
              R (.ret (A.agg ((D.lit (.int .i64 (2 : Int))) :: (x11 :: (x12 :: (x13 :: (x14 :: ((D.slc ([] : List (List D))) :: ([] : List D))))))))) [((Ref.up q0), [(A.d (D.lit (bytesV x27))), (A.d (D.lit (.int .i64 x28))), (A.d (D.lit (.bool x29)))])])) ∧
            (x26 = false →
             I0_0 x11 x12 x13 x14 x27 x28 x29 ∧ M0_0 x11 x12 x13 x14 x27 x28 x29 < M0_0 x11 x12 x13 x14 x15 x16 x17)) ∧
           (∀ x26v H', R' (.pan x26v) H' → ∃ x27 : List UInt8, ∃ x28 : Int, ∃ x29 : Bool, H' = [(Ref.up (Ref.up q0), [(A.d (D.lit (bytesV x27))), (A.d (D.lit (.int .i64 x28))), (A.d (D.lit (.bool x29)))])] ∧
            R (.pan x26v) [((Ref.up q0), [(A.d (D.lit (bytesV x27))), (A.d (D.lit (.int .i64 x28))), (A.d (D.lit (.bool x29)))])])))) ∧
        (∀ x22v H', R' (.pan x22v) H' → ∃ x23 : List UInt8, ∃ x24 : Int, ∃ x25 : Bool, H' = [(Ref.up (Ref.up q0), [(A.d (D.lit (bytesV x23))), (A.d (D.lit (.int .i64 x24))), (A.d (D.lit (.bool x25)))])] ∧
         R (.pan x22v) [((Ref.up q0), [(A.d (D.lit (bytesV x23))), (A.d (D.lit (.int .i64 x24))), (A.d (D.lit (.bool x25)))])])) ∧
       (∀ x18v H', R' (.pan x18v) H' → ∃ x19 : List UInt8, ∃ x20 : Int, ∃ x21 : Bool, H' = [(Ref.up (Ref.up q0), [(A.d (D.lit (bytesV x19))), (A.d (D.lit (.int .i64 x20))), (A.d (D.lit (.bool x21)))])] ∧
        R (.pan x18v) [((Ref.up q0), [(A.d (D.lit (bytesV x19))), (A.d (D.lit (.int .i64 x20))), (A.d (D.lit (.bool x21)))])])) ∧
      ((!x17) = false →
       (x7 = true →
        ∀ _ : Nat → Nat, ∃ R' : Out → List (Ref × List A) → Prop, Holds Try.prog 100 [(A.agg (x11 :: (x12 :: (x13 :: (x14 :: ([] : List D))))))] [] R' ∧
        (∀ v H', R' (.ret v) H' → ∃ x18 : List D, v = (A.agg x18) ∧ H' = [] ∧
         (tB ((x18.length : Int) == (4 : Int))) = true ∧
         R (.ret (A.agg ((D.lit (.int .i64 (2 : Int))) :: ((x18.getD 0 D0) :: ((x18.getD 1 D0) :: ((x18.getD 2 D0) :: ((x18.getD 3 D0) :: ((D.slc ([] : List (List D))) :: ([] : List D))))))))) [((Ref.up q0), [(A.d (D.lit (bytesV x15))), (A.d (D.lit (.int .i64 x16))), (A.d (D.lit (.bool x17)))])]) ∧
        (∀ x18v H', R' (.pan x18v) H' → H' = [] ∧
         R (.pan x18v) [((Ref.up q0), [(A.d (D.lit (bytesV x15))), (A.d (D.lit (.int .i64 x16))), (A.d (D.lit (.bool x17)))])])) ∧
       (x7 = false →
        R (.ret (A.agg ((D.lit (.int .i64 (2 : Int))) :: (x11 :: (x12 :: (x13 :: (x14 :: ((D.slc ([] : List (List D))) :: ([] : List D))))))))) [((Ref.up q0), [(A.d (D.lit (bytesV x15))), (A.d (D.lit (.int .i64 x16))), (A.d (D.lit (.bool x17)))])]))) ∧
     True) ∧
    (∀ x7v H', R' (.pan x7v) H' → ∃ x8 : List UInt8, ∃ x9 : Int, ∃ x10 : Bool, H' = [(Ref.up (Ref.up q0), [(A.d (D.lit (bytesV x8))), (A.d (D.lit (.int .i64 x9))), (A.d (D.lit (.bool x10)))])] ∧
     R (.pan x7v) [((Ref.up q0), [(A.d (D.lit (bytesV x8))), (A.d (D.lit (.int .i64 x9))), (A.d (D.lit (.bool x10)))])]))) ∧
  (∀ x3v H', R' (.pan x3v) H' → ∃ x4 : List UInt8, ∃ x5 : Int, ∃ x6 : Bool, H' = [(Ref.up (Ref.up q0), [(A.d (D.lit (bytesV x4))), (A.d (D.lit (.int .i64 x5))), (A.d (D.lit (.bool x6)))])] ∧
   R (.pan x3v) [((Ref.up q0), [(A.d (D.lit (bytesV x4))), (A.d (D.lit (.int .i64 x5))), (A.d (D.lit (.bool x6)))])])) :
    Holds Try.prog 86 [(A.ptr (Ref.up q0) 0)] [((Ref.up q0), [(A.d (D.lit (bytesV x0))), (A.d (D.lit (.int .i64 x1))), (A.d (D.lit (.bool x2)))])] R :=
  walk (c := ⟨Try.prog, 42, true, [0, 2, 3, 4, 5, 6, 8, 16, 21, 29, 36, 37]⟩) (op := {  }) (fn := Try.f86) (args := [.ptr (.up 0) 0]) (K := [(.up 0, [.c (.o1 .cs (.var 0)), .c (.o1 (.ci .i64) (.var 1)), .c (.o1 .cb (.o1 .tb (.var 2)))])]) (nv := 3) (depth := 6) (up := upOf [q0]) (ρ := envOf [.s x0, .i x1, .b x2])
    rfl rfl rfl rfl rfl (by decide) (by decide) (by decide) (by decide) rfl (by simp [bxDen, RRef.den, upOf]) (T_of (by kernel_rfl) h)
theorem w95 {R : Out → List (Ref × List A) → Prop} (x0 : List UInt8) (x1 : Int) (x2 : Bool) (x3 : Int) (q0 : Ref) (h : ∃ x4 : Bool, (∀ _ : Nat → Nat, Holds Try.prog 67 [(A.ptr (.up (Ref.up q0)) 0)] [(Ref.up (Ref.up q0), [(A.d (D.lit (bytesV x0))), (A.d (D.lit (.int .i64 x1))), (A.d (D.lit (.bool x2)))])] (Reads [(Ref.up (Ref.up q0), [(A.d (D.lit (bytesV x0))), (A.d (D.lit (.int .i64 x1))), (A.d (D.lit (.bool x2)))])] (A.d (D.lit (.bool x4))))) ∧
  ((!x4) || (tB (decide ((0 : Int) ≤ x1)))) = true ∧
  ((!x4) || (tB (decide (x1 < (x0.length : Int))))) = true ∧
  (x4 = true →
   ∃ x5 : Int, (∀ _ : Nat → Nat, Holds Try.prog 103 [(A.d (D.lit (.int .u8 (gByte x0 x1))))] [] (Reads [] (A.d (D.lit (.int .i64 x5))))) ∧
   ((tB (decide (x5 < (0 : Int)))) || (tB (decide ((0 : Int) ≤ x1)))) = true ∧
   ((tB (decide (x5 < (0 : Int)))) || (tB (decide (x1 < (x0.length : Int))))) = true ∧
   ((!(tB (decide (x5 < (0 : Int))))) = true →
    ∃ x6 : Int, (∀ _ : Nat → Nat, Holds Try.prog 103 [(A.d (D.lit (.int .u8 (gByte x0 x1))))] [] (Reads [] (A.d (D.lit (.int .i64 x6))))) ∧
    (tB (decide ((-9223372036854775808 : Int) ≤ (x6 * (16 : Int))))) = true ∧
    (tB (decide ((x6 * (16 : Int)) ≤ (9223372036854775807 : Int)))) = true ∧
    (tB (decide ((-9223372036854775808 : Int) ≤ ((x6 * (16 : Int)) + (15 : Int))))) = true ∧
    (tB (decide (((x6 * (16 : Int)) + (15 : Int)) ≤ (9223372036854775807 : Int)))) = true ∧
    ((tB (decide (((x6 * (16 : Int)) + (15 : Int)) < x3))) = true →
     R (.ret (A.d (D.lit (.int .i64 (0 : Int))))) [((Ref.up q0), [(A.d (D.lit (bytesV x0))), (A.d (D.lit (.int .i64 x1))), (A.d (D.lit (.bool true)))])]) ∧
    ((tB (decide (((x6 * (16 : Int)) + (15 : Int)) < x3))) = false →
     (tB (decide ((0 : Int) ≤ x1))) = true ∧
     (tB (decide (x1 < (x0.length : Int)))) = true ∧
     ∀ _ : Nat → Nat, ∃ R' : Out → List (Ref × List A) → Prop, Holds Try.prog 103 [(A.d (D.lit (.int .u8 (gByte x0 x1))))] [] R' ∧
     (∀ v H', R' (.ret v) H' → ∃ x7 : Int, v = (A.d (D.lit (.int .i64 x7))) ∧ H' = [] ∧
      (tB (decide ((-9223372036854775808 : Int) ≤ (x7 * (16 : Int))))) = true ∧
      (tB (decide ((x7 * (16 : Int)) ≤ (9223372036854775807 : Int)))) = true ∧
      (tB (decide ((-9223372036854775808 : Int) ≤ (x1 + (1 : Int))))) = true ∧
      (tB (decide ((x1 + (1 : Int)) ≤ (9223372036854775807 : Int)))) = true ∧
      ∃ x8 : Bool, (∀ _ : Nat → Nat, Holds Try.prog 67 [(A.ptr (.up (Ref.up q0)) 0)] [(Ref.up (Ref.up q0), [(A.d (D.lit (bytesV x0))), (A.d (D.lit (.int .i64 (x1 + (1 : Int))))), (A.d (D.lit (.bool x2)))])] (Reads [(Ref.up (Ref.up q0), [(A.d (D.lit (bytesV x0))), (A.d (D.lit (.int .i64 (x1 + (1 : Int))))), (A.d (D.lit (.bool x2)))])] (A.d (D.lit (.bool x8))))) ∧
      ((!x8) || (tB (decide ((0 : Int) ≤ (x1 + (1 : Int)))))) = true ∧
      ((!x8) || (tB (decide ((x1 + (1 : Int)) < (x0.length : Int))))) = true ∧
      (x8 = true →
       ∃ x9 : Int, (∀ _ : Nat → Nat, Holds Try.prog 103 [(A.d (D.lit (.int .u8 (gByte x0 (x1 + (1 : Int))))))] [] (Reads [] (A.d (D.lit (.int .i64 x9))))) ∧
       ((tB (decide (x9 < (0 : Int)))) || (tB (decide ((0 : Int) ≤ (x1 + (1 : Int)))))) = true ∧
       ((tB (decide (x9 < (0 : Int)))) || (tB (decide ((x1 + (1 : Int)) < (x0.length : Int))))) = true ∧
       ((!(tB (decide (x9 < (0 : Int))))) = true →
        ∃ x10 : Int, (∀ _ : Nat → Nat, Holds Try.prog 103 [(A.d (D.lit (.int .u8 (gByte x0 (x1 + (1 : Int))))))] [] (Reads [] (A.d (D.lit (.int .i64 x10))))) ∧
        (tB (decide ((-9223372036854775808 : Int) ≤ ((x7 * (16 : Int)) + x10)))) = true ∧
        (tB (decide (((x7 * (16 : Int)) + x10) ≤ (9223372036854775807 : Int)))) = true ∧
        ((tB (decide (((x7 * (16 : Int)) + x10) < x3))) = true →
         R (.ret (A.d (D.lit (.int .i64 (0 : Int))))) [((Ref.up q0), [(A.d (D.lit (bytesV x0))), (A.d (D.lit (.int .i64 (x1 + (1 : Int))))), (A.d (D.lit (.bool true)))])]) ∧
        ((tB (decide (((x7 * (16 : Int)) + x10) < x3))) = false →
         (tB (decide ((-9223372036854775808 : Int) ≤ ((x1 + (1 : Int)) + (1 : Int))))) = true ∧
         (tB (decide (((x1 + (1 : Int)) + (1 : Int)) ≤ (9223372036854775807 : Int)))) = true ∧
         (tB (decide ((-9223372036854775808 : Int) ≤ (((x1 + (1 : Int)) + (1 : Int)) - (1 : Int))))) = true ∧
         (tB (decide ((((x1 + (1 : Int)) + (1 : Int)) - (1 : Int)) ≤ (9223372036854775807 : Int)))) = true ∧
         (tB (decide ((0 : Int) ≤ (((x1 + (1 : Int)) + (1 : Int)) - (1 : Int))))) = true ∧
         (tB (decide ((((x1 + (1 : Int)) + (1 : Int)) - (1 : Int)) < (x0.length : Int)))) = true ∧
         ∃ x11 : Int, (∀ _ : Nat → Nat, Holds Try.prog 103 [(A.d (D.lit (.int .u8 (gByte x0 (((x1 + (1 : Int)) + (1 : Int)) - (1 : Int))))))] [] (Reads [] (A.d (D.lit (.int .i64 x11))))) ∧
         (tB (decide ((-9223372036854775808 : Int) ≤ ((x7 * (16 : Int)) + x11)))) = true ∧
         (tB (decide (((x7 * (16 : Int)) + x11) ≤ (9223372036854775807 : Int)))) = true ∧
         R (.ret (A.d (D.lit (.int .i64 ((x7 * (16 : Int)) + x11))))) [((Ref.up q0), [(A.d (D.lit (bytesV x0))), (A.d (D.lit (.int .i64 ((x1 + (1 : Int)) + (1 : Int))))), (A.d (D.lit (.bool x2)))])])) ∧
       ((!(tB (decide (x9 < (0 : Int))))) = false →
        R (.ret (A.d (D.lit (.int .i64 (0 : Int))))) [((Ref.up q0), [(A.d (D.lit (bytesV x0))), (A.d (D.lit (.int .i64 (x1 + (1 : Int))))), (A.d (D.lit (.bool true)))])])) ∧
      (x8 = false →
       R (.ret (A.d (D.lit (.int .i64 (0 : Int))))) [((Ref.up q0), [(A.d (D.lit (bytesV x0))), (A.d (D.lit (.int .i64 (x1 + (1 : Int))))), (A.d (D.lit (.bool true)))])])) ∧
     (∀ x7v H', R' (.pan x7v) H' → H' = [] ∧
      R (.pan x7v) [((Ref.up q0), [(A.d (D.lit (bytesV x0))), (A.d (D.lit (.int .i64 x1))), (A.d (D.lit (.bool x2)))])]))) ∧
   ((!(tB (decide (x5 < (0 : Int))))) = false →
    R (.ret (A.d (D.lit (.int .i64 (0 : Int))))) [((Ref.up q0), [(A.d (D.lit (bytesV x0))), (A.d (D.lit (.int .i64 x1))), (A.d (D.lit (.bool true)))])])) ∧
  (x4 = false →
   R (.ret (A.d (D.lit (.int .i64 (0 : Int))))) [((Ref.up q0), [(A.d (D.lit (bytesV x0))), (A.d (D.lit (.int .i64 x1))), (A.d (D.lit (.bool true)))])])) :
    Holds Try.prog 95 [(A.ptr (Ref.up q0) 0), (A.d (D.lit (.int .i64 x3)))] [((Ref.up q0), [(A.d (D.lit (bytesV x0))), (A.d (D.lit (.int .i64 x1))), (A.d (D.lit (.bool x2)))])] R :=
  walk (c := ⟨Try.prog, 116, true, [0, 1, 4, 5, 37, 91]⟩) (op := {  }) (fn := Try.f95) (args := [.ptr (.up 0) 0, .c (.o1 (.ci .i64) (.var 3))]) (K := [(.up 0, [.c (.o1 .cs (.var 0)), .c (.o1 (.ci .i64) (.var 1)), .c (.o1 .cb (.o1 .tb (.var 2)))])]) (nv := 4) (depth := 7) (up := upOf [q0]) (ρ := envOf [.s x0, .i x1, .b x2, .i x3])
    rfl rfl rfl rfl rfl (by decide) (by decide) (by decide) (by decide) rfl (by simp [bxDen, RRef.den, upOf]) (T_of (by kernel_rfl) h)
theorem w98 {R : Out → List (Ref × List A) → Prop} (x0 : List UInt8) (x1 : Int) (x2 : Bool) (x3 : Int) (q0 : Ref) (h : ∀ _ : Nat → Nat, ∃ R' : Out → List (Ref × List A) → Prop, Holds Try.prog 52 [(A.ptr (.up (Ref.up q0)) 0), (A.d (D.lit (.int .u8 (92 : Int))))] [(Ref.up (Ref.up q0), [(A.d (D.lit (bytesV x0))), (A.d (D.lit (.int .i64 x1))), (A.d (D.lit (.bool x2)))])] R' ∧
  (∀ v H', R' (.ret v) H' → ∃ x4 : Bool, ∃ x5 : List UInt8, ∃ x6 : Int, ∃ x7 : Bool, v = (A.d (D.lit (.bool x4))) ∧ H' = [(Ref.up (Ref.up q0), [(A.d (D.lit (bytesV x5))), (A.d (D.lit (.int .i64 x6))), (A.d (D.lit (.bool x7)))])] ∧
   (x4 = true →
    ∀ _ : Nat → Nat, ∃ R' : Out → List (Ref × List A) → Prop, Holds Try.prog 52 [(A.ptr (.up (Ref.up q0)) 0), (A.d (D.lit (.int .u8 (120 : Int))))] [(Ref.up (Ref.up q0), [(A.d (D.lit (bytesV x5))), (A.d (D.lit (.int .i64 x6))), (A.d (D.lit (.bool x7)))])] R' ∧
    (∀ v H', R' (.ret v) H' → ∃ x8 : Bool, ∃ x9 : List UInt8, ∃ x10 : Int, ∃ x11 : Bool, v = (A.d (D.lit (.bool x8))) ∧ H' = [(Ref.up (Ref.up q0), [(A.d (D.lit (bytesV x9))), (A.d (D.lit (.int .i64 x10))), (A.d (D.lit (.bool x11)))])] ∧
     (x8 = true →
      ∀ _ : Nat → Nat, ∃ R' : Out → List (Ref × List A) → Prop, Holds Try.prog 95 [(A.ptr (.up (Ref.up q0)) 0), (A.d (D.lit (.int .i64 x3)))] [(Ref.up (Ref.up q0), [(A.d (D.lit (bytesV x9))), (A.d (D.lit (.int .i64 x10))), (A.d (D.lit (.bool x11)))])] R' ∧
      (∀ v H', R' (.ret v) H' → ∃ x12 : Int, ∃ x13 : List UInt8, ∃ x14 : Int, ∃ x15 : Bool, v = (A.d (D.lit (.int .i64 x12))) ∧ H' = [(Ref.up (Ref.up q0), [(A.d (D.lit (bytesV x13))), (A.d (D.lit (.int .i64 x14))), (A.d (D.lit (.bool x15)))])] ∧
       R (.ret (A.d (D.lit (.int .i64 x12)))) [((Ref.up q0), [(A.d (D.lit (bytesV x13))), (A.d (D.lit (.int .i64 x14))), (A.d (D.lit (.bool x15)))])]) ∧
      (∀ x12v H', R' (.pan x12v) H' → ∃ x13 : List UInt8, ∃ x14 : Int, ∃ x15 : Bool, H' = [(Ref.up (Ref.up q0), [(A.d (D.lit (bytesV x13))), (A.d (D.lit (.int .i64 x14))), (A.d (D.lit (.bool x15)))])] ∧
       R (.pan x12v) [((Ref.up q0), [(A.d (D.lit (bytesV x13))), (A.d (D.lit (.int .i64 x14))), (A.d (D.lit (.bool x15)))])])) ∧
     (x8 = false →
      ∀ _ : Nat → Nat, ∃ R' : Out → List (Ref × List A) → Prop, Holds Try.prog 67 [(A.ptr (.up (Ref.up q0)) 0)] [(Ref.up (Ref.up q0), [(A.d (D.lit (bytesV x9))), (A.d (D.lit (.int .i64 x10))), (A.d (D.lit (.bool x11)))])] R' ∧
      (∀ v H', R' (.ret v) H' → ∃ x12 : Bool, ∃ x13 : List UInt8, ∃ x14 : Int, ∃ x15 : Bool, v = (A.d (D.lit (.bool x12))) ∧ H' = [(Ref.up (Ref.up q0), [(A.d (D.lit (bytesV x13))), (A.d (D.lit (.int .i64 x14))), (A.d (D.lit (.bool x15)))])] ∧
       (x12 = true →
        (tB (decide ((0 : Int) ≤ x14))) = true ∧
        (tB (decide (x14 < (x13.length : Int)))) = true ∧
        ∀ _ : Nat → Nat, ∃ R' : Out → List (Ref × List A) → Prop, Holds Try.prog 97 [(A.d (D.lit (.int .u8 (gByte x13 x14))))] [] R' ∧
        (∀ v H', R' (.ret v) H' → ∃ x16 : Int, v = (A.d (D.lit (.int .i64 x16))) ∧ H' = [] ∧
         ∀ _ : Nat → Nat, ∃ R' : Out → List (Ref × List A) → Prop, Holds Try.prog 87 [(A.d (D.lit (.int .u8 (gByte x13 x14))))] [] R' ∧
         (∀ v H', R' (.ret v) H' → ∃ x17 : Bool, v = (A.d (D.lit (.bool x17))) ∧ H' = [] ∧
          (((x17 || (tB ((gByte x13 x14) == (94 : Int)))) || (tB ((gByte x13 x14) == (45 : Int)))) = true →
           (tB (decide ((-9223372036854775808 : Int) ≤ (gByte x13 x14)))) = true ∧
           (tB (decide ((gByte x13 x14) ≤ (9223372036854775807 : Int)))) = true ∧
           ((tB (decide (x3 ≤ (gByte x13 x14)))) = true →
            (tB (decide ((-9223372036854775808 : Int) ≤ (x14 + (1 : Int))))) = true ∧
            (tB (decide ((x14 + (1 : Int)) ≤ (9223372036854775807 : Int)))) = true ∧
            R (.ret (A.d (D.lit (.int .i64 (gByte x13 x14))))) [((Ref.up q0), [(A.d (D.lit (bytesV x13))), (A.d (D.lit (.int .i64 (x14 + (1 : Int))))), (A.d (D.lit (.bool x15)))])]) ∧
           ((tB (decide (x3 ≤ (gByte x13 x14)))) = false →
            R (.ret (A.d (D.lit (.int .i64 (0 : Int))))) [((Ref.up q0), [(A.d (D.lit (bytesV x13))), (A.d (D.lit (.int .i64 x14))), (A.d (D.lit (.bool true)))])])) ∧
          (((x17 || (tB ((gByte x13 x14) == (94 : Int)))) || (tB ((gByte x13 x14) == (45 : Int)))) = false →
           ((tB (decide (x3 ≤ x16))) = true →
            (tB (decide ((-9223372036854775808 : Int) ≤ (x14 + (1 : Int))))) = true ∧
            (tB (decide ((x14 + (1 : Int)) ≤ (9223372036854775807 : Int)))) = true ∧
            R (.ret (A.d (D.lit (.int .i64 x16)))) [((Ref.up q0), [(A.d (D.lit (bytesV x13))), (A.d (D.lit (.int .i64 (x14 + (1 : Int))))), (A.d (D.lit (.bool x15)))])]) ∧
           ((tB (decide (x3 ≤ x16))) = false →
            R (.ret (A.d (D.lit (.int .i64 (0 : Int))))) [((Ref.up q0), [(A.d (D.lit (bytesV x13))), (A.d (D.lit (.int .i64 x14))), (A.d (D.lit (.bool true)))])]))) ∧
         (∀ x17v H', R' (.pan x17v) H' → H' = [] ∧
          R (.pan x17v) [((Ref.up q0), [(A.d (D.lit (bytesV x13))), (A.d (D.lit (.int .i64 x14))), (A.d (D.lit (.bool x15)))])])) ∧
        (∀ x16v H', R' (.pan x16v) H' → H' = [] ∧
         R (.pan x16v) [((Ref.up q0), [(A.d (D.lit (bytesV x13))), (A.d (D.lit (.int .i64 x14))), (A.d (D.lit (.bool x15)))])])) ∧
       (x12 = false →
        R (.ret (A.d (D.lit (.int .i64 (0 : Int))))) [((Ref.up q0), [(A.d (D.lit (bytesV x13))), (A.d (D.lit (.int .i64 x14))), (A.d (D.lit (.bool true)))])])) ∧
      (∀ x12v H', R' (.pan x12v) H' → ∃ x13 : List UInt8, ∃ x14 : Int, ∃ x15 : Bool, H' = [(Ref.up (Ref.up q0), [(A.d (D.lit (bytesV x13))), (A.d (D.lit (.int .i64 x14))), (A.d (D.lit (.bool x15)))])] ∧
       R (.pan x12v) [((Ref.up q0), [(A.d (D.lit (bytesV x13))), (A.d (D.lit (.int .i64 x14))), (A.d (D.lit (.bool x15)))])]))) ∧
    (∀ x8v H', R' (.pan x8v) H' → ∃ x9 : List UInt8, ∃ x10 : Int, ∃ x11 : Bool, H' = [(Ref.up (Ref.up q0), [(A.d (D.lit (bytesV x9))), (A.d (D.lit (.int .i64 x10))), (A.d (D.lit (.bool x11)))])] ∧
     R (.pan x8v) [((Ref.up q0), [(A.d (D.lit (bytesV x9))), (A.d (D.lit (.int .i64 x10))), (A.d (D.lit (.bool x11)))])])) ∧
   (x4 = false →
    ∀ _ : Nat → Nat, ∃ R' : Out → List (Ref × List A) → Prop, Holds Try.prog 67 [(A.ptr (.up (Ref.up q0)) 0)] [(Ref.up (Ref.up q0), [(A.d (D.lit (bytesV x5))), (A.d (D.lit (.int .i64 x6))), (A.d (D.lit (.bool x7)))])] R' ∧
    (∀ v H', R' (.ret v) H' → ∃ x8 : Bool, ∃ x9 : List UInt8, ∃ x10 : Int, ∃ x11 : Bool, v = (A.d (D.lit (.bool x8))) ∧ H' = [(Ref.up (Ref.up q0), [(A.d (D.lit (bytesV x9))), (A.d (D.lit (.int .i64 x10))), (A.d (D.lit (.bool x11)))])] ∧
     ((!x8) = true →
      R (.ret (A.d (D.lit (.int .i64 (0 : Int))))) [((Ref.up q0), [(A.d (D.lit (bytesV x9))), (A.d (D.lit (.int .i64 x10))), (A.d (D.lit (.bool true)))])]) ∧
     ((!x8) = false →
      (tB (decide ((0 : Int) ≤ x10))) = true ∧
      (tB (decide (x10 < (x9.length : Int)))) = true ∧
      ((!((tB (decide ((gByte x9 x10) < (32 : Int)))) || (tB (decide ((126 : Int) < (gByte x9 x10)))))) = true →
       ∀ _ : Nat → Nat, ∃ R' : Out → List (Ref × List A) → Prop, Holds Try.prog 87 [(A.d (D.lit (.int .u8 (gByte x9 x10))))] [] R' ∧
       (∀ v H', R' (.ret v) H' → ∃ x12 : Bool, v = (A.d (D.lit (.bool x12))) ∧ H' = [] ∧
        (((x12 || (tB ((gByte x9 x10) == (94 : Int)))) || (tB ((gByte x9 x10) == (45 : Int)))) || (tB (decide ((-9223372036854775808 : Int) ≤ (gByte x9 x10))))) = true ∧
        (((x12 || (tB ((gByte x9 x10) == (94 : Int)))) || (tB ((gByte x9 x10) == (45 : Int)))) || (tB (decide ((gByte x9 x10) ≤ (9223372036854775807 : Int))))) = true ∧
        ((((x12 || (tB ((gByte x9 x10) == (94 : Int)))) || (tB ((gByte x9 x10) == (45 : Int)))) || (tB (decide ((gByte x9 x10) < x3)))) = true →
         R (.ret (A.d (D.lit (.int .i64 (0 : Int))))) [((Ref.up q0), [(A.d (D.lit (bytesV x9))), (A.d (D.lit (.int .i64 x10))), (A.d (D.lit (.bool true)))])]) ∧
        ((((x12 || (tB ((gByte x9 x10) == (94 : Int)))) || (tB ((gByte x9 x10) == (45 : Int)))) || (tB (decide ((gByte x9 x10) < x3)))) = false →
         (tB (decide ((-9223372036854775808 : Int) ≤ (x10 + (1 : Int))))) = true ∧
         (tB (decide ((x10 + (1 : Int)) ≤ (9223372036854775807 : Int)))) = true ∧
         (tB (decide ((-9223372036854775808 : Int) ≤ (gByte x9 x10)))) = true ∧
         (tB (decide ((gByte x9 x10) ≤ (9223372036854775807 : Int)))) = true ∧
         R (.ret (A.d (D.lit (.int .i64 (gByte x9 x10))))) [((Ref.up q0), [(A.d (D.lit (bytesV x9))), (A.d (D.lit (.int .i64 (x10 + (1 : Int))))), (A.d (D.lit (.bool x11)))])])) ∧
       (∀ x12v H', R' (.pan x12v) H' → H' = [] ∧
        R (.pan x12v) [((Ref.up q0), [(A.d (D.lit (bytesV x9))), (A.d (D.lit (.int .i64 x10))), (A.d (D.lit (.bool x11)))])])) ∧
      ((!((tB (decide ((gByte x9 x10) < (32 : Int)))) || (tB (decide ((126 : Int) < (gByte x9 x10)))))) = false →
       R (.ret (A.d (D.lit (.int .i64 (0 : Int))))) [((Ref.up q0), [(A.d (D.lit (bytesV x9))), (A.d (D.lit (.int .i64 x10))), (A.d (D.lit (.bool true)))])]))) ∧
    (∀ x8v H', R' (.pan x8v) H' → ∃ x9 : List UInt8, ∃ x10 : Int, ∃ x11 : Bool, H' = [(Ref.up (Ref.up q0), [(A.d (D.lit (bytesV x9))), (A.d (D.lit (.int .i64 x10))), (A.d (D.lit (.bool x11)))])] ∧
     R (.pan x8v) [((Ref.up q0), [(A.d (D.lit (bytesV x9))), (A.d (D.lit (.int .i64 x10))), (A.d (D.lit (.bool x11)))])]))) ∧
  (∀ x4v H', R' (.pan x4v) H' → ∃ x5 : List UInt8, ∃ x6 : Int, ∃ x7 : Bool, H' = [(Ref.up (Ref.up q0), [(A.d (D.lit (bytesV x5))), (A.d (D.lit (.int .i64 x6))), (A.d (D.lit (.bool x7)))])] ∧
   R (.pan x4v) [((Ref.up q0), [(A.d (D.lit (bytesV x5))), (A.d (D.lit (.int .i64 x6))), (A.d (D.lit (.bool x7)))])])) :
    Holds Try.prog 98 [(A.ptr (Ref.up q0) 0), (A.d (D.lit (.int .i64 x3)))] [((Ref.up q0), [(A.d (D.lit (bytesV x0))), (A.d (D.lit (.int .i64 x1))), (A.d (D.lit (.bool x2)))])] R :=
  walk (c := ⟨Try.prog, 107, true, [0, 1, 4, 5, 6, 7, 9, 11, 16, 37, 42, 57, 93]⟩) (op := {  }) (fn := Try.f98) (args := [.ptr (.up 0) 0, .c (.o1 (.ci .i64) (.var 3))]) (K := [(.up 0, [.c (.o1 .cs (.var 0)), .c (.o1 (.ci .i64) (.var 1)), .c (.o1 .cb (.o1 .tb (.var 2)))])]) (nv := 4) (depth := 7) (up := upOf [q0]) (ρ := envOf [.s x0, .i x1, .b x2, .i x3])
    rfl rfl rfl rfl rfl (by decide) (by decide) (by decide) (by decide) rfl (by simp [bxDen, RRef.den, upOf]) (T_of (by kernel_rfl) h)
theorem w20 {R : Out → List (Ref × List A) → Prop} (x0 : List UInt8) (h : ((tB (decide ((1000 : Int) < (x0.length : Int)))) = true →
   R (.ret (A.tup [(true, ((D.lit (.int .i64 (0 : Int))) :: ((D.lit (.int .u64 (0 : Int))) :: ((D.lit (.int .u64 (0 : Int))) :: ((D.lit (.int .u64 (0 : Int))) :: ((D.lit (.int .u64 (0 : Int))) :: ((D.slc ([] : List (List D))) :: ([] : List D)))))))), (true, ((D.lit (.int .i64 (2 : Int))) :: ((D.lit (.int .i64 (0 : Int))) :: ([] : List D))))])) []) ∧
  ((tB (decide ((1000 : Int) < (x0.length : Int)))) = false →
   ∀ ν : Nat → Nat, ∃ R' : Out → List (Ref × List A) → Prop, Holds Try.prog 39 [(A.ptr (.up (Ref.own 13 (ν 13))) 0)] [(Ref.up (Ref.own 13 (ν 13)), [(A.d (D.lit (bytesV x0))), (A.d (D.lit (.int .i64 (0 : Int)))), (A.d (D.lit (.bool false)))])] R' ∧
   (∀ v H', R' (.ret v) H' → ∃ x1 : List D, ∃ x2 : List UInt8, ∃ x3 : Int, ∃ x4 : Bool, v = (A.agg x1) ∧ H' = [(Ref.up (Ref.own 13 (ν 13)), [(A.d (D.lit (bytesV x2))), (A.d (D.lit (.int .i64 x3))), (A.d (D.lit (.bool x4)))])] ∧
    (tB ((x1.length : Int) == (6 : Int))) = true ∧
    ((x4 || (tB (decide (x3 < (x0.length : Int))))) = true →
     R (.ret (A.tup [(true, ((D.lit (.int .i64 (0 : Int))) :: ((D.lit (.int .u64 (0 : Int))) :: ((D.lit (.int .u64 (0 : Int))) :: ((D.lit (.int .u64 (0 : Int))) :: ((D.lit (.int .u64 (0 : Int))) :: ((D.slc ([] : List (List D))) :: ([] : List D)))))))), (true, ((D.lit (.int .i64 (8 : Int))) :: ((D.lit (.int .i64 x3)) :: ([] : List D))))])) []) ∧
    ((x4 || (tB (decide (x3 < (x0.length : Int))))) = false →
     ∀ _ : Nat → Nat, ∃ R' : Out → List (Ref × List A) → Prop, Holds Try.prog 16 [(A.agg x1)] [] R' ∧
     (∀ v H', R' (.ret v) H' → ∃ x5 : Int, v = (A.d (D.lit (.int .i64 x5))) ∧ H' = [] ∧
      ((tB (x5 == (9 : Int))) = true →
       R (.ret (A.tup [(true, ((D.lit (.int .i64 (0 : Int))) :: ((D.lit (.int .u64 (0 : Int))) :: ((D.lit (.int .u64 (0 : Int))) :: ((D.lit (.int .u64 (0 : Int))) :: ((D.lit (.int .u64 (0 : Int))) :: ((D.slc ([] : List (List D))) :: ([] : List D)))))))), (true, ((D.lit (.int .i64 (9 : Int))) :: ((D.lit (.int .i64 (0 : Int))) :: ([] : List D))))])) []) ∧
      ((tB (x5 == (9 : Int))) = false →
       R (.ret (A.tup [(true, x1), (true, ((D.lit (.int .i64 (0 : Int))) :: ((D.lit (.int .i64 (0 : Int))) :: ([] : List D))))])) [])) ∧
     (∀ x5v H', R' (.pan x5v) H' → H' = [] ∧
      R (.pan x5v) []))) ∧
   (∀ x1v H', R' (.pan x1v) H' → ∃ x2 : List UInt8, ∃ x3 : Int, ∃ x4 : Bool, H' = [(Ref.up (Ref.own 13 (ν 13)), [(A.d (D.lit (bytesV x2))), (A.d (D.lit (.int .i64 x3))), (A.d (D.lit (.bool x4)))])] ∧
    R (.pan x1v) []))) :
    Holds Try.prog 20 [(A.d (D.lit (bytesV x0)))] [] R :=
  walk (c := ⟨Try.prog, 42, true, [0, 2, 3, 4, 5, 8, 28, 37]⟩) (op := { lat := [6] }) (fn := Try.f20) (args := [.c (.o1 .cs (.var 0))]) (K := []) (nv := 1) (depth := 6) (up := upOf []) (ρ := envOf [.s x0])
    rfl rfl rfl rfl rfl (by decide) (by decide) (by decide) (by decide) rfl (by simp [bxDen, RRef.den, upOf]) (T_of (by kernel_rfl) h)
end Go.Rx
end
section
open Go Go.Proofs Go.Ab Go.Rf
set_option maxRecDepth 100000
namespace Go.Rx
def RB (q : Ref) (s : List UInt8) (i : Int) (b : Bool) : List (Ref × List A) := [(.up q, [A.d (.lit (bytesV s)), A.d (.lit (.int .i64 i)), A.d (.lit (.bool b))])]
def RAft (q : Ref) (s : List UInt8) (good : A → Prop) (res : Res A) : Out → List (Ref × List A) → Prop := fun o H => match res with
  | .ok v t => o = .ret v ∧ ∃ i, At s t i ∧ H = RB q s i false
  | .bad t => ∃ v i, good v ∧ At s t i ∧ o = .ret v ∧ H = RB q s i true
theorem callR {P : Program} {f : Nat} {args : List A} {B : List (Ref × List A)} {q : Ref} {s : List UInt8} {good : A → Prop} {res : Res A} (hc : Holds P f args B (RAft q s good res)) {Q1 : A → List (Ref × List A) → Prop} {Q2 : Value → List (Ref × List A) → Prop}
    (h1 : ∀ v t i, res = .ok v t → At s t i → Q1 v (RB q s i false)) (h2 : ∀ v t i, res = .bad t → good v → At s t i → Q1 v (RB q s i true)) :
    ∀ _ : Nat → Nat, ∃ R' : Out → List (Ref × List A) → Prop, Holds P f args B R' ∧ (∀ v H', R' (.ret v) H' → Q1 v H') ∧ (∀ u H', R' (.pan u) H' → Q2 u H') := by
  refine fun _ => ⟨_, hc, fun v' H' e => ?_, fun u H' e => ?_⟩
  · cases res with
    | ok v t => obtain ⟨e1, i, hi, rfl⟩ := e; cases e1; exact h1 _ t i rfl hi
    | bad t => obtain ⟨v, i, hg, hi, e1, rfl⟩ := e; cases e1; exact h2 _ t i rfl hg hi
  · cases res with
    | ok v t => cases e.1
    | bad t => obtain ⟨v, i, hg, hi, e1, rfl⟩ := e; cases e1
theorem raft_ok {q : Ref} {s t : List UInt8} {good : A → Prop} {v : A} {res : Res A} {i : Int} (h : res = .ok v t) (hi : At s t i) : RAft q s good res (.ret v) (RB q s i false) := by subst h; exact ⟨rfl, i, hi, rfl⟩
theorem raft_bad {q : Ref} {s t : List UInt8} {good : A → Prop} {v : A} {res : Res A} {i : Int} (h : res = .bad t) (hg : good v) (hi : At s t i) : RAft q s good res (.ret v) (RB q s i true) := by subst h; exact ⟨v, i, hg, hi, rfl, rfl⟩
def boolA (b : Bool) : A := .d (.lit (.bool b))
def i64A (n : Nat) : A := .d (.lit (.int .i64 n))
theorem c52t {q : Ref} {s t : List UInt8} {i : Int} {c : Nat} (h : At s t i) (hc : hd t = c) (h0 : c ≠ 0) : Holds Try.prog 52 [A.ptr (.up q) 0, A.d (.lit (.int .u8 c))] (RB q s i false) (RetB (boolA true) (RB q s (i + 1) false)) := by
  have hn : t ≠ [] := hd_nil (by omega)
  have h1 := h.lo
  have h2 := h.lt.2 hn
  refine w52 s i false c q ⟨?_, ?_, fun hf => ?_, fun _ => ⟨tle (by omega), tle (by omega), rfl, rfl⟩⟩
  · simp only [tB_eq, Bool.false_or, Bool.or_eq_true, decide_eq_true_eq]; omega
  · simp only [tB_eq, Bool.false_or, Bool.or_eq_true, decide_eq_true_eq]; omega
  · rw [h.byte hn] at hf
    simp only [tB_eq, Bool.false_or, Bool.or_eq_true, decide_eq_true_eq, Bool.not_eq_true', beq_eq_false_iff_ne] at hf
    omega
theorem c52f {q : Ref} {s t : List UInt8} {i : Int} {c : Nat} (h : At s t i) (hc : hd t ≠ c) : Holds Try.prog 52 [A.ptr (.up q) 0, A.d (.lit (.int .u8 c))] (RB q s i false) (RetB (boolA false) (RB q s i false)) := by
  have h1 := h.lo
  refine w52 s i false c q ⟨?_, ?_, fun _ => ⟨rfl, rfl⟩, fun hf => ?_⟩
  · simp only [tB_eq, Bool.false_or, Bool.or_eq_true, decide_eq_true_eq]; omega
  · simp only [tB_eq, Bool.false_or, Bool.or_eq_true, decide_eq_true_eq]; omega
  · simp only [tB_eq, Bool.false_or, Bool.or_eq_false_iff, decide_eq_false_iff_not, Bool.not_eq_false', beq_iff_eq] at hf
    have hn : t ≠ [] := h.lt.1 (by omega)
    rw [h.byte hn] at hf
    omega
theorem c52x {q : Ref} {s : List UInt8} {i : Int} {c : Nat} : Holds Try.prog 52 [A.ptr (.up q) 0, A.d (.lit (.int .u8 c))] (RB q s i true) (RetB (boolA false) (RB q s i true)) := by
  refine w52 s i true c q ⟨rfl, rfl, fun _ => ⟨rfl, rfl⟩, fun hf => ?_⟩
  rw [Bool.true_or, Bool.true_or] at hf
  cases hf
theorem c67 {q : Ref} {s t : List UInt8} {i : Int} (h : At s t i) : Holds Try.prog 67 [A.ptr (.up q) 0] (RB q s i false) (RetB (boolA (decide (t ≠ []))) (RB q s i false)) := by
  refine w67 s i false q ⟨?_, rfl⟩
  have e : (decide (i < (s.length : Int))) = decide (t ≠ []) := decide_eq_decide.2 h.lt
  simp only [tB_eq, Bool.not_false, Bool.true_and, e]
  rfl
theorem c67x {q : Ref} {s : List UInt8} {i : Int} : Holds Try.prog 67 [A.ptr (.up q) 0] (RB q s i true) (RetB (boolA false) (RB q s i true)) := w67 s i true q ⟨rfl, rfl⟩
theorem c67r {q : Ref} {s t : List UInt8} {i : Int} (h : At s t i) : ∀ _ : Nat → Nat, Holds Try.prog 67 [A.ptr (.up q) 0] (RB q s i false) (Reads (RB q s i false) (boolA (decide (t ≠ [])))) := fun _ => c67 h
theorem c103r (x : Nat) (h : x < 256) : ∀ _ : Nat → Nat, Holds Try.prog 103 [A.d (.lit (.int .u8 x))] [] (Reads [] (.d (.lit (.int .i64 (optI (hexV x)))))) := fun _ => c103 x h
theorem c53 (k : Int) (l : List Rx) : Holds Try.prog 53 [A.d (.lit (.int .i64 k)), A.d (.slc (encs l))] [] (Ret (encA (joinX k l))) := by
  refine w53 k (encs l) ⟨fun h => ?_, fun h => ?_⟩
  · have h := of_teq h
    simp only [encs_length] at h
    match l, h with
    | [r], _ =>
      have e : gAt (encs [r]) 0 = enc r := rfl
      rw [e]
      exact ⟨tlt (by simp), teq (by simp), rfl, rfl⟩
  · have h := of_feq h
    simp only [encs_length] at h
    match l, h with
    | [], _ => exact ⟨rfl, rfl⟩
    | [r], h => exact absurd rfl h
    | _ :: _ :: _, _ => exact ⟨rfl, rfl⟩
def zeroA (v : A) : Prop := v = i64A 0
theorem c95 {q : Ref} {s t : List UInt8} {i : Int} (lo : Nat) (h : At s t i) : Holds Try.prog 95 [A.ptr (.up q) 0, A.d (.lit (.int .i64 lo))] (RB q s i false) (RAft q s zeroA ((hexR lo t).map i64A)) := by
  have hlo := h.lo
  have hx := hd_lt t
  have hy := hd_lt t.tail
  refine w95 s i false lo q ⟨_, c67r h, ?_, ?_, fun hm => ?_, fun hm => ?_⟩
  · simp only [tB_eq, Bool.or_eq_true, decide_eq_true_eq]; exact .inr hlo.1
  · cases hd : decide (t ≠ []) with
    | false => rfl
    | true => exact tlt (h.lt.2 (of_decide_eq_true hd))
  · have hn : t ≠ [] := of_decide_eq_true hm
    have hlt := h.lt.2 hn
    have h' := h.next hn
    have hlo' := h'.lo
    rw [h.byte hn]
    refine ⟨_, c103r _ hx, ?_, ?_, fun hp => ?_, fun hp => ?_⟩
    · simp only [tB_eq, Bool.or_eq_true, decide_eq_true_eq]; exact .inr hlo.1
    · simp only [tB_eq, Bool.or_eq_true, decide_eq_true_eq]; exact .inr hlt
    · cases hv : hexV (hd t) with
      | none => rw [hv] at hp; cases hp
      | some d =>
        have h1 := hexV_lt hv
        have e1 : optI (some d) = (d : Nat) := rfl
        refine ⟨(d : Nat), fun ν => by have := c103r _ hx ν; rw [hv] at this; exact this, tle (by omega), tle (by omega), tle (by omega), tle (by omega), fun hl => ?_, fun hl => ⟨tle (by omega), tlt (by omega), call1 (c103 _ hx) ⟨(d : Nat), by rw [hv]; rfl, rfl, tle (by omega), tle (by omega), tle (by omega), tle (by omega), _, c67r h', ?_, ?_, fun hm2 => ?_, fun hm2 => ?_⟩⟩⟩
        · have hl := of_tlt hl
          refine raft_bad (t := t) ?_ rfl h
          unfold hexR
          rw [hv]
          dsimp only
          rw [if_pos (by omega)]
          rfl
        · simp only [tB_eq, Bool.or_eq_true, decide_eq_true_eq]; exact .inr hlo'.1
        · cases hd : decide (t.tail ≠ []) with
          | false => rfl
          | true => exact tlt (h'.lt.2 (of_decide_eq_true hd))
        · have hl := of_flt hl
          have hn2 : t.tail ≠ [] := of_decide_eq_true hm2
          have hlt2 := h'.lt.2 hn2
          have h'' := h'.next hn2
          have hlo'' := h''.lo
          rw [h'.byte hn2]
          refine ⟨_, c103r _ hy, ?_, ?_, fun hp2 => ?_, fun hp2 => ?_⟩
          · simp only [tB_eq, Bool.or_eq_true, decide_eq_true_eq]; exact .inr hlo'.1
          · simp only [tB_eq, Bool.or_eq_true, decide_eq_true_eq]; exact .inr hlt2
          · cases hv2 : hexV (hd t.tail) with
            | none => rw [hv2] at hp2; cases hp2
            | some e =>
              have h3 := hexV_lt hv2
              have ei : i + 1 + 1 - 1 = i + 1 := by omega
              rw [ei, h'.byte hn2]
              refine ⟨(e : Nat), fun ν => by have := c103r _ hy ν; rw [hv2] at this; exact this, tle (by omega), tle (by omega), fun hl2 => ?_, fun hl2 => ⟨tle (by omega), tle (by omega), tle (by omega), tle (by omega), tle (by omega), tlt (by omega), (e : Nat), fun ν => by have := c103r _ hy ν; rw [hv2] at this; exact this, tle (by omega), tle (by omega), ?_⟩⟩
              · have hl2 := of_tlt hl2
                refine raft_bad (t := t.tail) ?_ rfl h'
                unfold hexR
                rw [hv]
                dsimp only
                rw [if_neg (by omega), hv2]
                dsimp only
                rw [if_pos (by omega)]
                rfl
              · have hl2 := of_flt hl2
                refine raft_ok (t := t.tail.tail) ?_ h''
                unfold hexR
                rw [hv]
                dsimp only
                rw [if_neg (by omega), hv2]
                dsimp only
                rw [if_neg (by omega)]
                show Res.ok _ _ = _
                unfold i64A
                congr 4
          · cases hv2 : hexV (hd t.tail) with
            | some e => rw [hv2] at hp2; have hp2 : (!(tB (decide (((e : Nat) : Int) < 0)))) = false := hp2; simp at hp2; omega
            | none =>
              refine raft_bad (t := t.tail) ?_ rfl h'
              unfold hexR
              rw [hv]
              dsimp only
              rw [if_neg (by omega), hv2]
              rfl
        · have hl := of_flt hl
          have hn2 : t.tail = [] := by simpa using hm2
          refine raft_bad (t := t.tail) ?_ rfl h'
          unfold hexR
          rw [hv]
          dsimp only
          rw [if_neg (by omega), hn2]
          rfl
    · cases hv : hexV (hd t) with
      | some d => rw [hv] at hp; have hp : (!(tB (decide (((d : Nat) : Int) < 0)))) = false := hp; simp at hp; omega
      | none =>
        refine raft_bad (t := t) ?_ rfl h
        unfold hexR
        rw [hv]
        rfl
  · have hn : t = [] := by simpa using hm
    subst hn
    exact raft_bad (t := []) rfl rfl h
theorem gb_hi {x : Nat} (h : x < 256) : (tB (decide ((-9223372036854775808 : Int) ≤ (x : Int)))) = true ∧ (tB (decide ((x : Int) ≤ (9223372036854775807 : Int)))) = true := ⟨tle (by omega), tle (by omega)⟩
def escM (lo : Nat) (t : List UInt8) : Option Nat → Res Nat | none => .bad t | some n => if n < lo then .bad t else .ok n t.tail
theorem escR_in {t : List UInt8} (h : hd t ≠ 120) (lo : Nat) : escR lo t = escM lo t (escV (hd t)) := by
  unfold escR; rw [if_neg h]; cases escV (hd t) <;> rfl
theorem spc3 {x : Nat} : ((spcV x || (tB ((x : Int) == 94))) || (tB ((x : Int) == 45))) = (spcV x || x == 94 || x == 45) := by
  have e1 : (tB ((x : Int) == 94)) = (x == 94) := by rw [tB_eq]; exact Bool.eq_iff_iff.2 (by simp; omega)
  have e2 : (tB ((x : Int) == 45)) = (x == 45) := by rw [tB_eq]; exact Bool.eq_iff_iff.2 (by simp; omega)
  rw [e1, e2]
theorem escV_spc {x : Nat} (h : (spcV x || x == 94 || x == 45) = true) : escV x = some x := by
  have hc : ctlV x = none := by
    refine ctlV_none ?_ ?_ ?_
    all_goals
      rintro rfl
      revert h
      decide
  unfold escV; rw [hc]; dsimp only; rw [if_pos h]
theorem escV_ctl {x : Nat} (h : (spcV x || x == 94 || x == 45) = false) : escV x = ctlV x := by
  unfold escV
  cases ctlV x with
  | some n => rfl
  | none => dsimp only; rw [if_neg (by simp [h])]
theorem c98 {q : Ref} {s t : List UInt8} {i : Int} (lo : Nat) (h : At s t i) : Holds Try.prog 98 [A.ptr (.up q) 0, A.d (.lit (.int .i64 lo))] (RB q s i false) (RAft q s zeroA ((byteR lo t).map i64A)) := by
  have hlo := h.lo
  have hx := hd_lt t
  by_cases hb : hd t = 92
  · have hn : t ≠ [] := hd_nil (by omega)
    have h' := h.next hn
    have hlo' := h'.lo
    have hy := hd_lt t.tail
    have e : byteR lo t = escR lo t.tail := by unfold byteR; rw [if_pos hb]
    rw [e]
    refine w98 s i false lo q (callB (c52t h hb (by decide)) ⟨_, _, _, _, rfl, rfl, fun _ => ?_, fun hf => by cases hf⟩)
    by_cases hc : hd t.tail = 120
    · have hn' : t.tail ≠ [] := hd_nil (by omega)
      have e : escR lo t.tail = hexR lo t.tail.tail := by unfold escR; rw [if_pos hc]
      rw [e]
      refine callB (c52t h' hc (by decide)) ⟨_, _, _, _, rfl, rfl, fun _ => ?_, fun hf => by cases hf⟩
      exact callR (c95 lo (h'.next hn')) (fun v t1 i1 e1 hi1 => by obtain ⟨n, f1, rfl⟩ := map_ok e1; exact ⟨_, _, _, _, rfl, rfl, raft_ok e1 hi1⟩) (fun v t1 i1 e1 hg hi1 => by cases hg; exact ⟨_, _, _, _, rfl, rfl, raft_bad e1 rfl hi1⟩)
    · rw [escR_in hc]
      refine callB (c52f h' hc) ⟨_, _, _, _, rfl, rfl, fun hf => (by cases hf), fun _ => callB (c67 h') ⟨_, _, _, _, rfl, rfl, fun hm => ?_, fun hm => ?_⟩⟩
      · have hn' : t.tail ≠ [] := of_decide_eq_true hm
        have h'' := h'.next hn'
        have hlo'' := h''.lo
        have hlt := h'.lt.2 hn'
        rw [h'.byte hn']
        refine ⟨tle hlo'.1, tlt hlt, call1 (c97 _ hy) ⟨_, rfl, rfl, call1 (c87 _ hy) ⟨_, rfl, rfl, fun hs => ?_, fun hs => ?_⟩⟩⟩
        · have hs' : (spcV (hd t.tail) || hd t.tail == 94 || hd t.tail == 45) = true := by rw [← spc3]; exact hs
          refine ⟨(gb_hi hy).1, (gb_hi hy).2, fun hl => ⟨tle (by omega), tle (by omega), raft_ok (t := t.tail.tail) ?_ h''⟩, fun hl => raft_bad (t := t.tail) ?_ rfl h'⟩
          · have hl := of_tle hl
            rw [escV_spc hs']
            unfold escM
            dsimp only
            rw [if_neg (by omega)]
            rfl
          · have hl := of_fle hl
            rw [escV_spc hs']
            unfold escM
            dsimp only
            rw [if_pos (by omega)]
            rfl
        · have hs' : (spcV (hd t.tail) || hd t.tail == 94 || hd t.tail == 45) = false := by rw [← spc3]; exact hs
          rw [escV_ctl hs']
          refine ⟨fun hl => ⟨tle (by omega), tle (by omega), ?_⟩, fun hl => raft_bad (t := t.tail) ?_ rfl h'⟩
          · have hl := of_tle hl
            cases hv : ctlV (hd t.tail) with
            | none => rw [hv] at hl; have : (lo : Int) ≤ -1 := hl; omega
            | some n =>
              rw [hv] at hl
              have hl : (lo : Int) ≤ n := hl
              refine raft_ok (t := t.tail.tail) ?_ h''
              unfold escM
              dsimp only
              rw [if_neg (by omega)]
              rfl
          · have hl := of_fle hl
            cases hv : ctlV (hd t.tail) with
            | none => rfl
            | some n =>
              rw [hv] at hl
              have hl : (n : Int) < lo := hl
              unfold escM
              dsimp only
              rw [if_pos (by omega)]
              rfl
      · have hn' : t.tail = [] := by simpa using hm
        refine raft_bad (t := t.tail) ?_ rfl h'
        rw [hn']; rfl
  · have e : byteR lo t = if hd t < 32 ∨ 126 < hd t ∨ hd t < lo ∨ (spcV (hd t) || hd t == 94 || hd t == 45) = true then .bad t else .ok (hd t) t.tail := by unfold byteR; rw [if_neg hb]
    rw [e]
    refine w98 s i false lo q (callB (c52f h hb) ⟨_, _, _, _, rfl, rfl, fun hf => (by cases hf), fun _ => callB (c67 h) ⟨_, _, _, _, rfl, rfl, fun hm => ?_, fun hm => ?_⟩⟩)
    · have hn : t = [] := by simpa using hm
      subst hn
      exact raft_bad (t := []) (by rw [if_pos (.inl (by decide))]; rfl) rfl h
    · have hn : t ≠ [] := by simpa using hm
      have hlt := h.lt.2 hn
      have h' := h.next hn
      have hlo' := h'.lo
      rw [h.byte hn]
      refine ⟨tle hlo.1, tlt hlt, fun hr => ?_, fun hr => ?_⟩
      · simp only [tB_eq, Bool.not_eq_true', Bool.or_eq_false_iff, decide_eq_false_iff_not] at hr
        refine call1 (c87 _ hx) ⟨_, rfl, rfl, ?_, ?_, fun hs => ?_, fun hs => ?_⟩
        · simp only [Bool.or_eq_true]; exact .inr (gb_hi hx).1
        · simp only [Bool.or_eq_true]; exact .inr (gb_hi hx).2
        · refine raft_bad (t := t) ?_ rfl h
          rw [spc3, Bool.or_eq_true] at hs
          rw [if_pos]
          · rfl
          · rcases hs with hs | hs
            · exact .inr (.inr (.inr hs))
            · have := of_tlt hs; omega
        · rw [spc3, Bool.or_eq_false_iff] at hs
          have hs2 := of_flt hs.2
          refine ⟨tle (by omega), tle (by omega), (gb_hi hx).1, (gb_hi hx).2, raft_ok (t := t.tail) ?_ h'⟩
          rw [if_neg]
          · rfl
          · rintro (h1 | h1 | h1 | h1)
            · omega
            · omega
            · omega
            · rw [hs.1] at h1; cases h1
      · simp only [tB_eq, Bool.not_eq_false', Bool.or_eq_true, decide_eq_true_eq] at hr
        refine raft_bad (t := t) ?_ rfl h
        rw [if_pos (by omega)]
        rfl
def goodX (v : A) : Prop := ∃ r, v = encA r
theorem c85r (lo hi : Nat) (h : hi < 256) (hl : lo < 256) : ∀ _ : Nat → Nat, Holds Try.prog 85 [A.d (.lit (.int .i64 lo)), A.d (.lit (.int .i64 hi))] [] (Reads [] (.agg (row4 (rng lo hi)))) := fun _ => c85' lo hi h hl
theorem setX_row (p : Nat → Bool) : encA (setX p) = .agg [.lit (.int .i64 2), (row4 p).getD 0 D0, (row4 p).getD 1 D0, (row4 p).getD 2 D0, (row4 p).getD 3 D0, .slc []] := rfl
theorem c86 {q : Ref} {s t : List UInt8} {i : Int} (n : Nat) (res : Res Rx) (hr : setR n t = some res) (h : At s t i) : Holds Try.prog 86 [A.ptr (.up q) 0] (RB q s i false) (RAft q s goodX (res.map encA)) := by
  have hlo := h.lo
  by_cases h93 : hd t = 93
  · have hn : t ≠ [] := hd_nil (by omega)
    unfold setR at hr
    rw [if_neg (by omega), if_pos h93] at hr
    cases hr
    exact w86 s i false q (callB (c52t h h93 (by decide)) ⟨_, _, _, _, rfl, rfl, fun _ => raft_ok rfl (h.next hn), fun hf => by cases hf⟩)
  · refine w86 s i false q (callB (c52f h h93) ⟨_, _, _, _, rfl, rfl, fun hf => (by cases hf), fun _ => ?_⟩)
    obtain ⟨neg, t0, i0, hat0, hr0, hcall⟩ : ∃ neg t0 i0, At s t0 i0 ∧ setL n neg no t0 = some res ∧ Holds Try.prog 52 [A.ptr (.up (.up q)) 0, A.d (.lit (.int .u8 (94 : Int)))] (RB (.up q) s i false) (RetB (boolA neg) (RB (.up q) s i0 false)) := by
      by_cases h94 : hd t = 94
      · have hn : t ≠ [] := hd_nil (by omega)
        refine ⟨true, t.tail, i + 1, h.next hn, ?_, c52t h h94 (by decide)⟩
        unfold setR at hr; rw [if_pos h94] at hr; exact hr
      · refine ⟨false, t, i, h, ?_, c52f h h94⟩
        unfold setR at hr; rw [if_neg h94, if_neg h93] at hr; exact hr
    refine callB hcall ⟨_, _, _, _, rfl, rfl, ?_⟩
    refine ⟨fun a0 a1 a2 a3 s' i' b => ∃ p t', s' = s ∧ a0 = .lit (.int .u64 (wd p 0)) ∧ a1 = .lit (.int .u64 (wd p 1)) ∧ a2 = .lit (.int .u64 (wd p 2)) ∧ a3 = .lit (.int .u64 (wd p 3)) ∧ At s t' i' ∧ (if b then res = .bad t' else ∃ n, setL n neg p t' = some res), fun _ _ _ _ s' i' b => if b then 0 else ((s'.length : Int) - i').toNat + 1, ⟨no, t0, rfl, by simp [wd_no], by simp [wd_no], by simp [wd_no], by simp [wd_no], hat0, ⟨n, hr0⟩⟩, ?_, trivial⟩
    rintro a0 a1 a2 a3 s' i' b ⟨p, t', rfl, rfl, rfl, rfl, rfl, hat, hrun⟩
    cases b with
    | true =>
      have hrun : res = .bad t' := hrun
      refine ⟨fun hf => (by cases hf), fun _ => ⟨fun hneg => call1 (c100 p) ⟨_, rfl, rfl, rfl, raft_bad (t := t') (by rw [hrun]; rfl) ⟨setX fun i => !p i, rfl⟩ hat⟩, fun hneg => raft_bad (t := t') (by rw [hrun]; rfl) ⟨setX p, rfl⟩ hat⟩⟩
    | false =>
      obtain ⟨m, hrun⟩ := hrun
      have go : ∀ lo t1 i1, byteR 0 t' = .ok lo t1 → At s' t1 i1 → ∀ hi t3 i3, hiR lo t1 = .ok hi t3 → At s' t3 i3 →
          (∃ neg', negP neg (orP p (rng lo hi)) = negP neg' (orP p (rng lo hi)) ∧ neg' = neg) ∧ (hd t3 = 93 → res = .ok (setX (negP neg (orP p (rng lo hi)))) t3.tail) ∧ (hd t3 ≠ 93 → ∃ n, setL n neg (orP p (rng lo hi)) t3 = some res) ∧ ((s'.length : Int) - i3).toNat < ((s'.length : Int) - i').toNat := fun lo t1 i1 e1 h1 hi t3 i3 e2 h2 => by
        obtain ⟨m, hm⟩ := setL_step hrun e1 e2
        refine ⟨⟨neg, rfl, rfl⟩, fun h9 => ?_, fun h9 => ⟨m, ?_⟩, SetI.lt hat h2 ?_⟩
        · unfold setC at hm; rw [if_pos h9] at hm; cases hm; rfl
        · unfold setC at hm; rw [if_neg h9] at hm; exact hm
        · have hl1 := byteR_lt 0 t'
          rw [e1] at hl1
          have hl2 := hiR_le lo t1
          rw [e2] at hl2
          have := hl1.1
          have := List.IsSuffix.length_le hl2
          omega
      refine ⟨fun _ => ?_, fun hf => by cases hf⟩
      refine callR (c98 0 hat) (fun v t1 i1 e1 hi1 => ?_) (fun v t1 i1 e1 hg hi1 => ?_)
      · obtain ⟨lo, f1, rfl⟩ := map_ok e1
        have hlo8 := byteR_u8 0 f1
        refine ⟨_, _, _, _, rfl, rfl, ?_⟩
        by_cases h45 : hd t1 = 45
        · have hn1 : t1 ≠ [] := hd_nil (by omega)
          have eh : hiR lo t1 = byteR lo t1.tail := by unfold hiR; rw [if_pos h45]
          refine callB (c52t hi1 h45 (by decide)) ⟨_, _, _, _, rfl, rfl, fun _ => ?_, fun hf => by cases hf⟩
          refine callR (c98 lo (hi1.next hn1)) (fun v t3 i3 e3 hi3 => ?_) (fun v t3 i3 e3 hg hi3 => ?_)
          · obtain ⟨hi, f3, rfl⟩ := map_ok e3
            obtain ⟨_, g1, g2, g3⟩ := go lo t1 i1 f1 hi1 hi t3 i3 (by rw [eh, f3]) hi3
            refine ⟨_, _, _, _, rfl, rfl, fun _ => ⟨_, c85r lo hi (byteR_u8 _ f3) hlo8, call1 (c99' p (rng lo hi)) ⟨_, rfl, rfl, rfl, ?_⟩⟩, fun hf => by cases hf⟩
            by_cases h9 : hd t3 = 93
            · have hn3 : t3 ≠ [] := hd_nil (by omega)
              refine callB (c52t hi3 h9 (by decide)) ⟨_, _, _, _, rfl, rfl, fun _ => ⟨fun hneg => call1 (c100 _) ⟨_, rfl, rfl, rfl, ?_⟩, fun hneg => ?_⟩, fun hf => by cases hf⟩
              · exact raft_ok (by rw [g1 h9, hneg]; rfl) (hi3.next hn3)
              · exact raft_ok (by rw [g1 h9, hneg]; rfl) (hi3.next hn3)
            · exact callB (c52f hi3 h9) ⟨_, _, _, _, rfl, rfl, fun hf => (by cases hf), fun _ => ⟨⟨orP p (rng lo hi), t3, rfl, rfl, rfl, rfl, rfl, hi3, g2 h9⟩, Nat.succ_lt_succ g3⟩⟩
          · have f3 := map_bad e3
            cases hg
            have := setL_bad2 hrun f1 (by rw [eh, f3])
            refine ⟨_, _, _, _, rfl, rfl, fun hf => (by cases hf), fun _ => callB c52x ⟨_, _, _, _, rfl, rfl, fun hf => (by cases hf), fun _ => ⟨⟨p, t3, rfl, rfl, rfl, rfl, rfl, hi3, this⟩, Nat.succ_pos _⟩⟩⟩
        · have eh : hiR lo t1 = .ok lo t1 := by unfold hiR; rw [if_neg h45]
          obtain ⟨_, g1, g2, g3⟩ := go lo t1 i1 f1 hi1 lo t1 i1 eh hi1
          refine callB (c52f hi1 h45) ⟨_, _, _, _, rfl, rfl, fun hf => (by cases hf), fun _ => ⟨fun _ => ⟨_, c85r lo lo hlo8 hlo8, call1 (c99' p (rng lo lo)) ⟨_, rfl, rfl, rfl, ?_⟩⟩, fun hf => by cases hf⟩⟩
          by_cases h9 : hd t1 = 93
          · have hn3 : t1 ≠ [] := hd_nil (by omega)
            refine callB (c52t hi1 h9 (by decide)) ⟨_, _, _, _, rfl, rfl, fun _ => ⟨fun hneg => call1 (c100 _) ⟨_, rfl, rfl, rfl, ?_⟩, fun hneg => ?_⟩, fun hf => by cases hf⟩
            · exact raft_ok (by rw [g1 h9, hneg]; rfl) (hi1.next hn3)
            · exact raft_ok (by rw [g1 h9, hneg]; rfl) (hi1.next hn3)
          · exact callB (c52f hi1 h9) ⟨_, _, _, _, rfl, rfl, fun hf => (by cases hf), fun _ => ⟨⟨orP p (rng lo lo), t1, rfl, rfl, rfl, rfl, rfl, hi1, g2 h9⟩, Nat.succ_lt_succ g3⟩⟩
      · have f1 := map_bad e1
        cases hg
        have := setL_bad1 hrun f1
        refine ⟨_, _, _, _, rfl, rfl, callB c52x ⟨_, _, _, _, rfl, rfl, fun hf => (by cases hf), fun _ => ⟨fun hf => (by cases hf), fun _ => callB c52x ⟨_, _, _, _, rfl, rfl, fun hf => (by cases hf), fun _ => ⟨⟨p, t1, rfl, rfl, rfl, rfl, rfl, hi1, this⟩, Nat.succ_pos _⟩⟩⟩⟩⟩
end Go.Rx
end
section
open Go Go.Proofs Go.Ab Go.Rf
set_option maxRecDepth 100000
namespace Go.Rx
def escX (t : List UInt8) : Res Rx := match clsV (hd t) with
  | some p => .ok (setX p) t.tail
  | none => match escR 0 t with
    | .bad q => .bad q
    | .ok c t1 => .ok (oneX c) t1
theorem clsV_spc {x : Nat} (h : (spcV x || x == 94 || x == 45) = true) : clsV x = none := by
  have h1 : x ≠ 100 := by rintro rfl; revert h; decide
  have h2 : x ≠ 119 := by rintro rfl; revert h; decide
  have h3 : x ≠ 115 := by rintro rfl; revert h; decide
  unfold clsV; rw [if_neg h1, if_neg h2, if_neg h3]
theorem clsV_ctl {x n : Nat} (h : ctlV x = some n) : clsV x = none := by
  unfold ctlV at h
  unfold clsV
  split at h
  · rename_i e; subst e; rfl
  · split at h
    · rename_i e; subst e; rfl
    · split at h
      · rename_i e; subst e; rfl
      · cases h
theorem ctlV_lt {x n : Nat} (h : ctlV x = some n) : n < 256 := by
  unfold ctlV at h
  repeat' split at h
  all_goals first | cases h; decide | cases h
theorem hexR_u8 (lo : Nat) {t t' : List UInt8} {n : Nat} (h : hexR lo t = .ok n t') : n < 256 := by
  have : byteR lo (92 :: 120 :: t) = .ok n t' := by
    unfold byteR; rw [if_pos (by rfl)]; unfold escR; rw [if_pos (by rfl)]; exact h
  exact byteR_u8 lo this
theorem ctl_spc {x n : Nat} (h : ctlV x = some n) : (spcV x || x == 94 || x == 45) = false := by
  unfold ctlV at h
  split at h
  · rename_i e; subst e; decide
  · split at h
    · rename_i e; subst e; decide
    · split at h
      · rename_i e; subst e; decide
      · cases h
theorem escM_0 (t : List UInt8) (n : Nat) : escM 0 t (some n) = .ok n t.tail := by unfold escM; dsimp only; rw [if_neg (by omega)]
theorem c84 {q : Ref} {s t : List UInt8} {i : Int} (h : At s t i) : Holds Try.prog 84 [A.ptr (.up q) 0] (RB q s i false) (RAft q s goodX ((escX t).map encA)) := by
  have hlo := h.lo
  have hx := hd_lt t
  by_cases h120 : hd t = 120
  · have hn : t ≠ [] := hd_nil (by omega)
    have ex : escX t = match hexR 0 t.tail with | .bad q => .bad q | .ok c t1 => .ok (oneX c) t1 := by
      unfold escX
      rw [show clsV (hd t) = none by rw [h120]; rfl]
      unfold escR
      rw [if_pos h120]
    rw [ex]
    refine w84 s i false q (callB (c52t h h120 (by decide)) ⟨_, _, _, _, rfl, rfl, fun _ => ?_, fun hf => by cases hf⟩)
    refine callR (c95 0 (h.next hn)) (fun v t1 i1 e1 hi1 => ?_) (fun v t1 i1 e1 hg hi1 => ?_)
    · obtain ⟨n, f1, rfl⟩ := map_ok e1
      have hu := hexR_u8 0 f1
      exact ⟨_, _, _, _, rfl, rfl, call1 (c85' n n hu hu) ⟨_, rfl, rfl, rfl, raft_ok (by rw [f1]; rfl) hi1⟩⟩
    · have f1 := map_bad e1
      cases hg
      exact ⟨_, _, _, _, rfl, rfl, call1 (c85' 0 0 (by decide) (by decide)) ⟨_, rfl, rfl, rfl, raft_bad (by rw [f1]; rfl) ⟨setX (rng 0 0), rfl⟩ hi1⟩⟩
  · refine w84 s i false q (callB (c52f h h120) ⟨_, _, _, _, rfl, rfl, fun hf => (by cases hf), fun _ => callB (c67 h) ⟨_, _, _, _, rfl, rfl, fun hm => ?_, fun hm => ?_⟩⟩)
    · have hn : t ≠ [] := of_decide_eq_true hm
      have hlt := h.lt.2 hn
      have h' := h.next hn
      have hlo' := h'.lo
      rw [h.byte hn]
      refine ⟨tle hlo.1, tlt hlt, call1 (c96 _ hx) ⟨_, _, rfl, rfl, rfl, call1 (c97 _ hx) ⟨_, rfl, rfl, fun hc => ?_, fun hc => ?_⟩⟩⟩
      · cases hv : ctlV (hd t) with
        | none => rw [hv] at hc; cases hc
        | some n =>
          have hu := ctlV_lt hv
          have ex : escX t = .ok (oneX n) t.tail := by
            unfold escX
            rw [clsV_ctl hv, escR_in h120, escV_ctl (ctl_spc hv), hv, escM_0]
          rw [ex]
          refine call1 (c85' n n hu hu) ⟨_, rfl, rfl, rfl, call1 (c87 _ hx) ⟨_, rfl, rfl, fun hs => ?_, fun hs => ?_⟩⟩
          · rw [spc3, ctl_spc hv] at hs; cases hs
          · exact ⟨tle (by omega), tle (by omega), raft_ok rfl h'⟩
      · have hv : ctlV (hd t) = none := by
          cases hv : ctlV (hd t) with
          | none => rfl
          | some n => rw [hv] at hc; have := of_fle hc; have e : optI (some n) = (n : Int) := rfl; rw [e] at this; omega
        refine call1 (c87 _ hx) ⟨_, rfl, rfl, fun hs => ?_, fun hs => ?_⟩
        · rw [spc3] at hs
          have ex : escX t = .ok (oneX (hd t)) t.tail := by
            unfold escX
            rw [clsV_spc hs, escR_in h120, escV_spc hs, escM_0]
          rw [ex]
          exact ⟨(gb_hi hx).1, (gb_hi hx).2, call1 (c85' _ _ hx hx) ⟨_, rfl, rfl, rfl, tle (by omega), tle (by omega), raft_ok rfl h'⟩⟩
        · rw [spc3] at hs
          refine ⟨fun hcl => ?_, fun hcl => ?_⟩
          · cases hcv : clsV (hd t) with
            | none => rw [hcv] at hcl; cases hcl
            | some p =>
              have ex : escX t = .ok (setX p) t.tail := by unfold escX; rw [hcv]
              rw [ex]
              exact ⟨tle (by omega), tle (by omega), raft_ok rfl h'⟩
          · cases hcv : clsV (hd t) with
            | some p => rw [hcv] at hcl; cases hcl
            | none =>
              have ex : escX t = .bad t := by
                unfold escX
                rw [hcv, escR_in h120, escV_ctl hs, hv]; rfl
              rw [ex]
              exact raft_bad rfl ⟨mk0 0 [], rfl⟩ h
    · have hn : t = [] := by simpa using hm
      subst hn
      exact raft_bad (t := []) rfl ⟨mk0 0 [], rfl⟩ h
def L39 (n : Nat) : Prop := ∀ (q : Ref) (s t : List UInt8) (i : Int) (res : Res Rx), alts n t = some res → At s t i → Holds Try.prog 39 [A.ptr (.up q) 0] (RB q s i false) (RAft q s goodX (res.map encA))
def L51 (n : Nat) : Prop := ∀ (q : Ref) (s t : List UInt8) (i : Int) (res : Res Rx), seqs n t = some res → At s t i → Holds Try.prog 51 [A.ptr (.up q) 0] (RB q s i false) (RAft q s goodX (res.map encA))
def L66 (n : Nat) : Prop := ∀ (q : Ref) (s t : List UInt8) (i : Int) (res : Res Rx), piece n t = some res → At s t i → Holds Try.prog 66 [A.ptr (.up q) 0] (RB q s i false) (RAft q s goodX (res.map encA))
def L74 (n : Nat) : Prop := ∀ (q : Ref) (s t : List UInt8) (i : Int) (res : Res Rx), atom n t = some res → At s t i → Holds Try.prog 74 [A.ptr (.up q) 0] (RB q s i false) (RAft q s goodX (res.map encA))
theorem c74 {n : Nat} (K : L39 n) : L74 (n + 1) := by
  intro q s t i res hr h
  have hlo := h.lo
  have hx := hd_lt t
  unfold atom at hr
  by_cases h92 : hd t = 92
  · have hn : t ≠ [] := hd_nil (by omega)
    rw [if_neg (by omega), if_neg (by omega), if_neg (by omega), if_pos h92] at hr
    have e : res = escX t.tail := by
      unfold escX
      cases hcl : clsV (hd t.tail) with
      | some p => rw [hcl] at hr; cases hr; rfl
      | none =>
        rw [hcl] at hr
        dsimp only at hr ⊢
        cases hes : escR 0 t.tail with
        | ok c t1 => rw [hes] at hr; cases hr; rfl
        | bad q => rw [hes] at hr; cases hr; rfl
    subst e
    refine w74 s i false q (callB (c52t h h92 (by decide)) ⟨_, _, _, _, rfl, rfl, fun _ => ?_, fun hf => by cases hf⟩)
    exact callR (c84 (h.next hn)) (fun v t1 i1 e1 hi1 => by obtain ⟨r, f1, rfl⟩ := map_ok e1; exact ⟨_, _, _, _, rfl, rfl, teq6 r, raft_ok e1 hi1⟩) (fun v t1 i1 e1 hg hi1 => by obtain ⟨r, rfl⟩ := hg; exact ⟨_, _, _, _, rfl, rfl, teq6 r, raft_bad e1 ⟨r, rfl⟩ hi1⟩)
  refine w74 s i false q (callB (c52f h h92) ⟨_, _, _, _, rfl, rfl, fun hf => (by cases hf), fun _ => ?_⟩)
  by_cases h46 : hd t = 46
  · have hn : t ≠ [] := hd_nil (by omega)
    rw [if_neg (by omega), if_neg (by omega), if_pos h46] at hr
    cases hr
    exact callB (c52t h h46 (by decide)) ⟨_, _, _, _, rfl, rfl, fun _ => call1 (c85' 0 255 (by decide) (by decide)) ⟨_, rfl, rfl, rfl, raft_ok rfl (h.next hn)⟩, fun hf => by cases hf⟩
  refine callB (c52f h h46) ⟨_, _, _, _, rfl, rfl, fun hf => (by cases hf), fun _ => ?_⟩
  by_cases h91 : hd t = 91
  · have hn : t ≠ [] := hd_nil (by omega)
    rw [if_neg (by omega), if_pos h91] at hr
    refine callB (c52t h h91 (by decide)) ⟨_, _, _, _, rfl, rfl, fun _ => ?_, fun hf => by cases hf⟩
    exact callR (c86 n res hr (h.next hn)) (fun v t1 i1 e1 hi1 => by obtain ⟨r, f1, rfl⟩ := map_ok e1; exact ⟨_, _, _, _, rfl, rfl, teq6 r, raft_ok e1 hi1⟩) (fun v t1 i1 e1 hg hi1 => by obtain ⟨r, rfl⟩ := hg; exact ⟨_, _, _, _, rfl, rfl, teq6 r, raft_bad e1 ⟨r, rfl⟩ hi1⟩)
  refine callB (c52f h h91) ⟨_, _, _, _, rfl, rfl, fun hf => (by cases hf), fun _ => ?_⟩
  by_cases h40 : hd t = 40
  · have hn : t ≠ [] := hd_nil (by omega)
    have h' := h.next hn
    rw [if_pos h40] at hr
    refine callB (c52t h h40 (by decide)) ⟨_, _, _, _, rfl, rfl, fun _ => ?_, fun hf => by cases hf⟩
    by_cases h41 : hd t.tail = 41
    · have hn' : t.tail ≠ [] := hd_nil (by omega)
      rw [if_pos h41] at hr
      cases hr
      exact callB (c52t h' h41 (by decide)) ⟨_, _, _, _, rfl, rfl, fun _ => raft_ok rfl (h'.next hn'), fun hf => by cases hf⟩
    · rw [if_neg h41] at hr
      refine callB (c52f h' h41) ⟨_, _, _, _, rfl, rfl, fun hf => (by cases hf), fun _ => ?_⟩
      cases ha : alts n t.tail with
      | none => rw [ha] at hr; cases hr
      | some ra =>
        rw [ha] at hr
        refine callR (K (.up q) s t.tail (i + 1) ra ha h') (fun v t1 i1 e1 hi1 => ?_) (fun v t1 i1 e1 hg hi1 => ?_)
        · obtain ⟨r, f1, rfl⟩ := map_ok e1
          subst f1
          cases hr
          refine ⟨_, _, _, _, rfl, rfl, teq6 r, ?_⟩
          by_cases hc : hd t1 = 41
          · have hn1 : t1 ≠ [] := hd_nil (by omega)
            exact callB (c52t hi1 hc (by decide)) ⟨_, _, _, _, rfl, rfl, fun hf => (by cases hf), fun _ => raft_ok (by unfold closeR; rw [if_pos hc]; rfl) (hi1.next hn1)⟩
          · exact callB (c52f hi1 hc) ⟨_, _, _, _, rfl, rfl, fun _ => raft_bad (by unfold closeR; rw [if_neg hc]; rfl) ⟨r, rfl⟩ hi1, fun hf => by cases hf⟩
        · have f1 := map_bad e1
          subst f1
          cases hr
          obtain ⟨r, rfl⟩ := hg
          exact ⟨_, _, _, _, rfl, rfl, teq6 r, callB c52x ⟨_, _, _, _, rfl, rfl, fun _ => raft_bad rfl ⟨r, rfl⟩ hi1, fun hf => by cases hf⟩⟩
  rw [if_neg h40, if_neg h91, if_neg h46, if_neg h92] at hr
  refine callB (c52f h h40) ⟨_, _, _, _, rfl, rfl, fun hf => (by cases hf), fun _ => ⟨_, c67r h, ?_⟩⟩
  by_cases hn : t = []
  · subst hn
    rw [if_pos (.inl (by decide))] at hr
    cases hr
    exact ⟨rfl, rfl, rfl, rfl, rfl, rfl, fun hf => (by cases hf), fun _ => raft_bad rfl ⟨mk0 0 [], rfl⟩ h⟩
  · have hlt := h.lt.2 hn
    have h' := h.next hn
    have hlo' := h'.lo
    have e1 : tB (decide (0 ≤ i)) = true := tle hlo.1
    have e2 : tB (decide (i < (s.length : Int))) = true := tlt hlt
    have ei : i + 1 - 1 = i := by omega
    have ed : (decide (t ≠ [])) = true := decide_eq_true hn
    rw [e1, e2, ei, h.byte hn, ed]
    refine ⟨rfl, rfl, Bool.or_true _, Bool.or_true _, Bool.or_true _, Bool.or_true _, fun hr2 => ?_, fun hr2 => ?_⟩
    · simp only [tB_eq, Bool.not_eq_true', Bool.or_eq_false_iff, decide_eq_false_iff_not] at hr2
      refine call1 (c87 _ hx) ⟨_, rfl, rfl, fun hs => ?_, fun hs => ?_⟩
      · rw [if_pos (.inr (.inr hs))] at hr
        cases hr
        exact raft_bad rfl ⟨mk0 0 [], rfl⟩ h
      · rw [if_neg (by rintro (h6 | h6 | h6) <;> first | omega | (rw [hs] at h6; cases h6))] at hr
        cases hr
        exact ⟨tle (by omega), tle (by omega), tle (by omega), tle (by omega), tle hlo.1, tlt hlt, (gb_hi hx).1, (gb_hi hx).2, call1 (c85' _ _ hx hx) ⟨_, rfl, rfl, rfl, raft_ok rfl h'⟩⟩
    · simp only [tB_eq, Bool.not_eq_false', Bool.or_eq_true, decide_eq_true_eq] at hr2
      rw [if_pos (by rcases hr2 with (h6 | h6) | h6 <;> first | (cases h6; done) | omega)] at hr
      cases hr
      exact raft_bad rfl ⟨mk0 0 [], rfl⟩ h
theorem raft_x {q : Ref} {s t : List UInt8} {r : Rx} {res : Res Rx} {i : Int} (h : res = .bad t) (hi : At s t i) : RAft q s goodX (res.map encA) (.ret (encA r)) (RB q s i true) := by
  subst h; exact ⟨_, i, ⟨r, rfl⟩, hi, rfl, rfl⟩
theorem c66 {n : Nat} (K : L74 n) : L66 (n + 1) := by
  intro q s t i res hr h
  unfold piece at hr
  cases ha : atom n t with
  | none => rw [ha] at hr; cases hr
  | some ra =>
    rw [ha] at hr
    have inv : ∃ I : D → D → D → D → D → D → List UInt8 → Int → Bool → Prop, I = fun a b c d e f s' i' fl => ∃ r t, s' = s ∧ [a, b, c, d, e, f] = enc r ∧ At s t i' ∧ if fl then res = .bad t else ∃ m, opsL m r t = some res := ⟨_, rfl⟩
    refine w66 s i false q (callR (K (.up q) s t i ra ha h) (fun v t1 i1 e1 hi1 => ?_) (fun v t1 i1 e1 hg hi1 => ?_))
    rotate_left
    · have f1 := map_bad e1
      subst f1
      cases hr
      obtain ⟨r, rfl⟩ := hg
      refine ⟨_, _, _, _, rfl, rfl, teq6 r, fun a b c d e f s' i' fl => s' = s ∧ i' = i1 ∧ fl = true ∧ [a, b, c, d, e, f] = enc r, fun _ _ _ _ _ _ _ _ _ => 0, ⟨rfl, rfl, rfl, enc_cells r⟩, ?_, trivial⟩
      rintro a b c d e f s' i' fl ⟨rfl, rfl, rfl, he⟩
      refine ⟨fun hf => (by cases hf), fun _ => ?_⟩
      rw [he]
      exact raft_x rfl hi1
    · obtain ⟨r, f1, rfl⟩ := map_ok e1
      subst f1
      refine ⟨_, _, _, _, rfl, rfl, teq6 r, fun a b c d e f s' i' fl => ∃ m r t, s' = s ∧ fl = false ∧ [a, b, c, d, e, f] = enc r ∧ At s t i' ∧ opsL m r t = some res, fun _ _ _ _ _ _ s' i' _ => ((s'.length : Int) - i').toNat, ⟨n, r, t1, rfl, rfl, enc_cells r, hi1, hr⟩, ?_, trivial⟩
      rintro a b c d e f s' i' fl ⟨m, r', t', rfl, rfl, he, hat, hrun⟩
      have hlo' := hat.lo
      have lt : t' ≠ [] → ((s'.length : Int) - (i' + 1)).toNat < ((s'.length : Int) - i').toNat := fun hn => by have := hat.lt.2 hn; omega
      refine ⟨fun _ => ?_, fun hf => by cases hf⟩
      by_cases h0 : hd t' = 42
      · have hn := hd_nil (t := t') (by omega)
        obtain ⟨m', hm⟩ := opsL_some hrun (r' := starX r') (by unfold opX; rw [if_pos h0])
        refine callB (c52t hat h0 (by decide)) ⟨_, _, _, _, rfl, rfl, fun _ => ⟨⟨m', _, _, rfl, rfl, ?_, hat.next hn, hm⟩, lt hn⟩, fun hf => by cases hf⟩
        rw [he]; rfl
      refine callB (c52f hat h0) ⟨_, _, _, _, rfl, rfl, fun hf => (by cases hf), fun _ => ?_⟩
      by_cases h1 : hd t' = 43
      · have hn := hd_nil (t := t') (by omega)
        obtain ⟨m', hm⟩ := opsL_some hrun (r' := mk0 3 [r', starX r']) (by unfold opX; rw [if_neg h0, if_pos h1])
        refine callB (c52t hat h1 (by decide)) ⟨_, _, _, _, rfl, rfl, fun _ => ⟨⟨m', _, _, rfl, rfl, ?_, hat.next hn, hm⟩, lt hn⟩, fun hf => by cases hf⟩
        rw [he]; rfl
      refine callB (c52f hat h1) ⟨_, _, _, _, rfl, rfl, fun hf => (by cases hf), fun _ => ?_⟩
      by_cases h2 : hd t' = 63
      · have hn := hd_nil (t := t') (by omega)
        obtain ⟨m', hm⟩ := opsL_some hrun (r' := mk0 4 [r', mk0 1 []]) (by unfold opX; rw [if_neg h0, if_neg h1, if_pos h2])
        refine callB (c52t hat h2 (by decide)) ⟨_, _, _, _, rfl, rfl, fun _ => ⟨⟨m', _, _, rfl, rfl, ?_, hat.next hn, hm⟩, lt hn⟩, fun hf => by cases hf⟩
        rw [he]; rfl
      refine callB (c52f hat h2) ⟨_, _, _, _, rfl, rfl, fun hf => (by cases hf), fun _ => ?_⟩
      have := opsL_none hrun (by unfold opX; rw [if_neg h0, if_neg h1, if_neg h2])
      subst this
      rw [he]
      exact raft_ok rfl hat
theorem c51 {n : Nat} (K : ∀ m, m ≤ n → L66 m) : L51 (n + 1) := by
  intro q s t i res hr h
  unfold seqs at hr
  cases ha : piece n t with
  | none => rw [ha] at hr; cases hr
  | some ra =>
    rw [ha] at hr
    refine w51 s i false q (callR (K n (Nat.le_refl _) (.up q) s t i ra ha h) (fun v t1 i1 e1 hi1 => ?_) (fun v t1 i1 e1 hg hi1 => ?_))
    rotate_left
    · have f1 := map_bad e1
      subst f1
      cases hr
      obtain ⟨r, rfl⟩ := hg
      refine ⟨_, _, _, _, rfl, rfl, teq6 r, fun x s' i' fl => s' = s ∧ i' = i1 ∧ fl = true ∧ x = encs [r], fun _ _ _ _ => 0, ⟨rfl, rfl, rfl, rfl⟩, ?_, trivial⟩
      rintro x s' i' fl ⟨rfl, rfl, rfl, rfl⟩
      refine ⟨_, fun _ => c67x, rfl, rfl, ?_, ?_, fun hf => (by cases hf), fun _ => call1 (c53 3 [r]) ⟨_, rfl, rfl, teq6 _, raft_x rfl hi1⟩⟩
      · exact Bool.or_eq_true_iff.2 (.inr (tle hi1.lo.1))
      · rfl
    · obtain ⟨r, f1, rfl⟩ := map_ok e1
      subst f1
      have hlt := (par_lt n).2.2.2.2.1 _ _ ha
      refine ⟨_, _, _, _, rfl, rfl, teq6 r, fun x s' i' fl => ∃ l t', s' = s ∧ x = encs l ∧ At s t' i' ∧ (if fl then res = .bad t' else l.length + t'.length ≤ s.length ∧ ∃ m, seqL m l t' = some res ∧ m ≤ n), fun _ s' i' fl => if fl then 0 else ((s'.length : Int) - i').toNat + 1, ⟨[r], t1, rfl, rfl, hi1, ?_, n, hr, Nat.le_refl _⟩, ?_, trivial⟩
      · have := hlt.1
        have := h.suf.length_le
        simp; omega
      · rintro x s' i' fl ⟨l, t', rfl, rfl, hat, hrun⟩
        have hsm := hat.sm
        have hlo' := hat.lo
        cases fl with
        | true =>
          have hrun : res = .bad t' := hrun
          refine ⟨_, fun _ => c67x, rfl, rfl, ?_, ?_, fun hf => (by cases hf), fun _ => call1 (c53 3 l) ⟨_, rfl, rfl, teq6 _, raft_x hrun hat⟩⟩
          · exact Bool.or_eq_true_iff.2 (.inr (tle hlo'.1))
          · rfl
        | false =>
          obtain ⟨hl, m, hrun, hm⟩ := hrun
          have done : ¬ (t' ≠ [] ∧ hd t' ≠ 124 ∧ hd t' ≠ 41) → RAft q s' goodX (res.map encA) (.ret (encA (joinX 3 l))) (RB q s' i' false) := fun hn => by
            cases m with
            | zero => simp [seqL] at hrun
            | succ m =>
              unfold seqL at hrun
              rw [if_neg hn] at hrun
              cases hrun
              exact raft_ok rfl hat
          by_cases hn : t' = []
          · refine ⟨_, c67r hat, ?_, ?_, ?_, ?_, fun hf => ?_, fun _ => call1 (c53 3 l) ⟨_, rfl, rfl, teq6 _, done fun h => h.1 hn⟩⟩
            · rw [decide_eq_false (by simpa using hn)]; rfl
            · rw [decide_eq_false (by simpa using hn)]; rfl
            · rw [decide_eq_false (by simpa using hn)]; rfl
            · rw [decide_eq_false (by simpa using hn)]; rfl
            · rw [decide_eq_false (by simpa using hn)] at hf; cases hf
          · have hlt := hat.lt.2 hn
            rw [hat.byte hn]
            have e1 : tB (decide (0 ≤ i')) = true := tle hlo'.1
            have e2 : tB (decide (i' < (s'.length : Int))) = true := tlt hlt
            refine ⟨_, c67r hat, ?_, ?_, ?_, ?_, fun hf => ?_, fun hf => call1 (c53 3 l) ⟨_, rfl, rfl, teq6 _, done ?_⟩⟩
            · rw [e1]; exact Bool.or_true _
            · rw [e2]; exact Bool.or_true _
            · rw [e1]; exact Bool.or_true _
            · rw [e2]; exact Bool.or_true _
            · have hn3 : t' ≠ [] ∧ hd t' ≠ 124 ∧ hd t' ≠ 41 := by
                simp only [tB_eq, Bool.and_eq_true, Bool.not_eq_true', beq_eq_false_iff_ne] at hf
                exact ⟨hn, by omega, by omega⟩
              cases m with
              | zero => simp [seqL] at hrun
              | succ m =>
                unfold seqL at hrun
                rw [if_pos hn3] at hrun
                cases hb : piece m t' with
                | none => rw [hb] at hrun; cases hrun
                | some rb =>
                  rw [hb] at hrun
                  refine callR (K m (by omega) (.up q) s' t' i' rb hb hat) (fun v t2 i2 e2 hi2 => ?_) (fun v t2 i2 e2 hg hi2 => ?_)
                  · obtain ⟨r', f2, rfl⟩ := map_ok e2
                    subst f2
                    have hlt2 := ((par_lt m).2.2.2.2.1 _ _ hb).1
                    refine ⟨_, _, _, _, rfl, rfl, teq6 r', flat1 r', tle (by simp; omega), tle (by simp; omega), ⟨l ++ [r'], t2, rfl, ?_, hi2, by simp; omega, m, hrun, by omega⟩, Nat.succ_lt_succ (SetI.lt hat hi2 hlt2)⟩
                    show encs l ++ encs [r'] = _
                    rw [encs_append]
                  · have f2 := map_bad e2
                    subst f2
                    cases hrun
                    obtain ⟨r', rfl⟩ := hg
                    have htl : 1 ≤ t'.length := List.length_pos_iff.2 hn
                    refine ⟨_, _, _, _, rfl, rfl, teq6 r', flat1 r', tle (by simp; omega), tle (by simp; omega), ⟨l ++ [r'], t2, rfl, ?_, hi2, rfl⟩, Nat.succ_pos _⟩
                    show encs l ++ encs [r'] = _
                    rw [encs_append]
            · rintro ⟨_, h1, h2⟩
              have : (decide (t' ≠ []) && (!tB (((hd t' : Nat) : Int) == 124)) && !tB (((hd t' : Nat) : Int) == 41)) = true := by
                simp only [tB_eq, Bool.and_eq_true, Bool.not_eq_true', beq_eq_false_iff_ne, decide_eq_true_eq]
                exact ⟨⟨hn, by omega⟩, by omega⟩
              rw [this] at hf
              cases hf
theorem c39 {n : Nat} (K : ∀ m, m ≤ n → L51 m) : L39 (n + 1) := by
  intro q s t i res hr h
  unfold alts at hr
  cases ha : seqs n t with
  | none => rw [ha] at hr; cases hr
  | some ra =>
    rw [ha] at hr
    refine w39 s i false q (callR (K n (Nat.le_refl _) (.up q) s t i ra ha h) (fun v t1 i1 e1 hi1 => ?_) (fun v t1 i1 e1 hg hi1 => ?_))
    rotate_left
    · have f1 := map_bad e1
      subst f1
      cases hr
      obtain ⟨r, rfl⟩ := hg
      refine ⟨_, _, _, _, rfl, rfl, teq6 r, fun x s' i' fl => s' = s ∧ i' = i1 ∧ fl = true ∧ x = encs [r], fun _ _ _ _ => 0, ⟨rfl, rfl, rfl, rfl⟩, ?_, trivial⟩
      rintro x s' i' fl ⟨rfl, rfl, rfl, rfl⟩
      exact callB c52x ⟨_, _, _, _, rfl, rfl, fun hf => (by cases hf), fun _ => call1 (c53 4 [r]) ⟨_, rfl, rfl, teq6 _, raft_x rfl hi1⟩⟩
    · obtain ⟨r, f1, rfl⟩ := map_ok e1
      subst f1
      have hlt := (par_lt n).2.2.1 _ _ ha
      refine ⟨_, _, _, _, rfl, rfl, teq6 r, fun x s' i' fl => ∃ l t', s' = s ∧ x = encs l ∧ At s t' i' ∧ (if fl then res = .bad t' else l.length + t'.length ≤ s.length ∧ ∃ m, altL m l t' = some res ∧ m ≤ n), fun _ s' i' fl => if fl then 0 else ((s'.length : Int) - i').toNat + 1, ⟨[r], t1, rfl, rfl, hi1, ?_, n, hr, Nat.le_refl _⟩, ?_, trivial⟩
      · have := hlt.1
        have := h.suf.length_le
        simp; omega
      · rintro x s' i' fl ⟨l, t', rfl, rfl, hat, hrun⟩
        have hsm := hat.sm
        have hlo' := hat.lo
        cases fl with
        | true =>
          have hrun : res = .bad t' := hrun
          exact callB c52x ⟨_, _, _, _, rfl, rfl, fun hf => (by cases hf), fun _ => call1 (c53 4 l) ⟨_, rfl, rfl, teq6 _, raft_x hrun hat⟩⟩
        | false =>
          obtain ⟨hl, m, hrun, hm⟩ := hrun
          cases m with
          | zero => simp [altL] at hrun
          | succ m =>
            unfold altL at hrun
            by_cases h1 : hd t' = 124
            · have hn : t' ≠ [] := hd_nil (by omega)
              have hnl : t'.tail.length + 1 = t'.length := by cases t' with
                | nil => exact absurd rfl hn
                | cons c t => simp
              rw [if_pos h1] at hrun
              refine callB (c52t hat h1 (by decide)) ⟨_, _, _, _, rfl, rfl, fun _ => ?_, fun hf => by cases hf⟩
              cases hb : seqs m t'.tail with
              | none => rw [hb] at hrun; cases hrun
              | some rb =>
                rw [hb] at hrun
                refine callR (K m (by omega) (.up q) s' t'.tail (i' + 1) rb hb (hat.next hn)) (fun v t2 i2 e2 hi2 => ?_) (fun v t2 i2 e2 hg hi2 => ?_)
                · obtain ⟨r', f2, rfl⟩ := map_ok e2
                  subst f2
                  have hlt2 := ((par_lt m).2.2.1 _ _ hb).1
                  refine ⟨_, _, _, _, rfl, rfl, teq6 r', flat1 r', tle (by simp; omega), tle (by simp; omega), ⟨l ++ [r'], t2, rfl, ?_, hi2, by simp; omega, m, hrun, by omega⟩, Nat.succ_lt_succ (SetI.lt hat hi2 (by omega))⟩
                  show encs l ++ encs [r'] = _
                  rw [encs_append]
                · have f2 := map_bad e2
                  subst f2
                  cases hrun
                  obtain ⟨r', rfl⟩ := hg
                  refine ⟨_, _, _, _, rfl, rfl, teq6 r', flat1 r', tle (by simp; omega), tle (by simp; omega), ⟨l ++ [r'], t2, rfl, ?_, hi2, rfl⟩, Nat.succ_pos _⟩
                  show encs l ++ encs [r'] = _
                  rw [encs_append]
            · rw [if_neg h1] at hrun
              cases hrun
              exact callB (c52f hat h1) ⟨_, _, _, _, rfl, rfl, fun hf => (by cases hf), fun _ => call1 (c53 4 l) ⟨_, rfl, rfl, teq6 _, raft_ok rfl hat⟩⟩
theorem l_all : ∀ n, (∀ m, m ≤ n → L39 m ∧ L51 m ∧ L66 m ∧ L74 m) := by
  intro n
  induction n with
  | zero =>
    intro m hm
    have : m = 0 := by omega
    subst this
    exact ⟨fun q s t i res hr => by simp [alts] at hr, fun q s t i res hr => by simp [seqs] at hr, fun q s t i res hr => by simp [piece] at hr, fun q s t i res hr => by simp [atom] at hr⟩
  | succ n ih =>
    intro m hm
    by_cases h : m ≤ n
    · exact ih m h
    · have : m = n + 1 := by omega
      subst this
      exact ⟨c39 fun m h => (ih m h).2.1, c51 fun m h => (ih m h).2.2.1, c66 (ih n (Nat.le_refl _)).2.2.2, c74 (ih n (Nat.le_refl _)).1⟩
theorem l39 (n : Nat) : L39 n := (l_all n n (Nat.le_refl _)).1
end Go.Rx
end
section
open Go Go.Proofs Go.Ab Go.Rf
set_option maxRecDepth 100000
namespace Go.Rx
theorem setL_some : ∀ (n : Nat) (neg : Bool) (p : Nat → Bool) (t : List UInt8), t.length < n → setL n neg p t ≠ none
  | 0, _, _, _, h => by omega
  | n + 1, neg, p, t, h => by
    unfold setL
    have h1 := byteR_lt 0 t
    cases e1 : byteR 0 t with
    | bad q => simp
    | ok lo t1 =>
      rw [e1] at h1
      dsimp only
      have h2 := hiR_le lo t1
      cases e2 : hiR lo t1 with
      | bad q => simp
      | ok hi t3 =>
        rw [e2] at h2
        dsimp only
        split
        · simp
        · refine setL_some n neg _ t3 ?_
          have := h1.1
          have := List.IsSuffix.length_le h2
          omega
theorem setR_some (n : Nat) (t : List UInt8) (h : t.length < n) : setR n t ≠ none := by
  unfold setR
  split
  · exact setL_some _ _ _ _ (by simp; omega)
  · split
    · simp
    · exact setL_some _ _ _ _ h
theorem opsL_fuel : ∀ (n : Nat) (r : Rx) (t : List UInt8), t.length < n → opsL n r t ≠ none
  | 0, _, _, h => by omega
  | n + 1, r, t, h => by
    unfold opsL
    cases e : opX (hd t) r with
    | none => simp
    | some r' =>
      have := hd_ne (opX_ne e)
      exact opsL_fuel n r' t.tail (by omega)
theorem fuel_all : ∀ n, (∀ t, 5 * t.length + 4 ≤ n → alts n t ≠ none) ∧ (∀ l t, 5 * t.length + 4 ≤ n → altL n l t ≠ none) ∧ (∀ t, 5 * t.length + 3 ≤ n → seqs n t ≠ none) ∧ (∀ l t, 5 * t.length + 3 ≤ n → seqL n l t ≠ none) ∧
    (∀ t, 5 * t.length + 2 ≤ n → piece n t ≠ none) ∧ (∀ t, 5 * t.length + 1 ≤ n → atom n t ≠ none) := by
  intro n
  induction n with
  | zero => exact ⟨fun t h => by omega, fun l t h => by omega, fun t h => by omega, fun l t h => by omega, fun t h => by omega, fun t h => by omega⟩
  | succ n ih =>
    obtain ⟨ih1, ih2, ih3, ih4, ih5, ih6⟩ := ih
    refine ⟨fun t h => ?_, fun l t h => ?_, fun t h => ?_, fun l t h => ?_, fun t h => ?_, fun t h => ?_⟩
    · unfold alts
      cases e : seqs n t with
      | none => exact absurd e (ih3 t (by omega))
      | some res => cases res with
        | bad q => simp
        | ok r t1 => have := ((par_lt n).2.2.1 _ _ e).1; exact ih2 _ _ (by omega)
    · unfold altL
      split
      · rename_i hc
        have ht := hd_ne (show hd t ≠ 0 by omega)
        cases e : seqs n t.tail with
        | none => exact absurd e (ih3 t.tail (by omega))
        | some res => cases res with
          | bad q => simp
          | ok r t1 => have := ((par_lt n).2.2.1 _ _ e).1; exact ih2 _ _ (by omega)
      · simp
    · unfold seqs
      cases e : piece n t with
      | none => exact absurd e (ih5 t (by omega))
      | some res => cases res with
        | bad q => simp
        | ok r t1 => have := ((par_lt n).2.2.2.2.1 _ _ e).1; exact ih4 _ _ (by omega)
    · unfold seqL
      split
      · cases e : piece n t with
        | none => exact absurd e (ih5 t (by omega))
        | some res => cases res with
          | bad q => simp
          | ok r t1 => have := ((par_lt n).2.2.2.2.1 _ _ e).1; exact ih4 _ _ (by omega)
      · simp
    · unfold piece
      cases e : atom n t with
      | none => exact absurd e (ih6 t (by omega))
      | some res => cases res with
        | bad q => simp
        | ok r t1 => have := ((par_lt n).2.2.2.2.2 _ _ e).1; exact opsL_fuel _ _ _ (by omega)
    · unfold atom
      have ht : hd t ≠ 0 → t.tail.length < t.length := hd_ne
      split
      · rename_i hc
        have ht := ht (by omega)
        split
        · simp
        · cases e : alts n t.tail with
          | none => exact absurd e (ih1 t.tail (by omega))
          | some res => cases res <;> simp
      · split
        · rename_i hc
          have ht := ht (by omega)
          exact setR_some _ _ (by omega)
        · split
          · simp
          · split
            · cases clsV (hd t.tail) with
              | some p => simp
              | none => dsimp only; cases escR 0 t.tail <;> simp
            · split <;> simp
def fuelOf (t : List UInt8) : Nat := 5 * t.length + 4
theorem alts_some (t : List UInt8) : ∃ res, alts (fuelOf t) t = some res := by
  have := (fuel_all (fuelOf t)).1 t (Nat.le_refl _)
  cases h : alts (fuelOf t) t with
  | none => exact absurd h this
  | some r => exact ⟨r, rfl⟩
def parseV (s : List UInt8) : Rx × Int × Int :=
  if 1000 < s.length then (mk0 0 [], 2, 0) else match alts (fuelOf s) s with
    | some (.ok r t) => if t = [] then (if chk 1 r = 9 then (mk0 0 [], 9, 0) else (r, 0, 0)) else (mk0 0 [], 8, (s.length : Int) - t.length)
    | some (.bad t) => (mk0 0 [], 8, (s.length : Int) - t.length)
    | none => (mk0 0 [], 0, 0)
def pairA (x : Rx × Int × Int) : A := .tup [(true, enc x.1), (true, [.lit (.int .i64 x.2.1), .lit (.int .i64 x.2.2)])]
theorem lens_mk0 {B : Nat} {k : Int} {l : List Rx} : lens B (mk0 k l) ↔ l.length ≤ B ∧ ∀ x ∈ l, lens B x := lens_iff
theorem lens_setX {B : Nat} (p : Nat → Bool) : lens B (setX p) := lens_iff.2 ⟨Nat.zero_le _, fun _ h => by cases h⟩
theorem lens_joinX {B : Nat} {k : Int} {l : List Rx} (h : l.length ≤ B) (hl : ∀ x ∈ l, lens B x) : lens B (joinX k l) := by
  unfold joinX
  split
  · exact hl _ (by simp)
  · exact lens_mk0.2 ⟨h, hl⟩
def Res.All {α : Type} (P : α → Prop) : Res α → Prop | .ok a _ => P a | .bad _ => True
theorem setL_lens {B : Nat} : ∀ (n : Nat) (neg : Bool) (p : Nat → Bool) (t : List UInt8) (r : Res Rx), setL n neg p t = some r → r.All (lens B)
  | 0, _, _, _, _, h => by simp [setL] at h
  | n + 1, neg, p, t, r, h => by
    unfold setL at h
    split at h
    · cases h; trivial
    · split at h
      · cases h; trivial
      · split at h
        · cases h; show lens B _; exact lens_setX _
        · exact setL_lens n _ _ _ _ h
theorem lens_star {B : Nat} {r : Rx} (hB : 2 ≤ B) (h : lens B r) : lens B (starX r) := lens_mk0.2 ⟨by simp; omega, by simpa using h⟩
theorem opX_lens {B c : Nat} {r r' : Rx} (hB : 2 ≤ B) (h : lens B r) (e : opX c r = some r') : lens B r' := by
  unfold opX at e
  have he : lens B (mk0 1 []) := lens_mk0.2 ⟨Nat.zero_le _, by simp⟩
  repeat' split at e
  all_goals first
    | (cases e; exact lens_star hB h)
    | (cases e; exact lens_mk0.2 ⟨by simpa using hB, by simp; exact ⟨h, lens_star hB h⟩⟩)
    | (cases e; exact lens_mk0.2 ⟨by simpa using hB, by simp; exact ⟨h, he⟩⟩)
    | cases e
theorem opsL_lens {B : Nat} (hB : 2 ≤ B) : ∀ (n : Nat) (r : Rx) (t : List UInt8) (o : Res Rx), opsL n r t = some o → lens B r → o.All (lens B)
  | 0, _, _, _, h, _ => by simp [opsL] at h
  | n + 1, r, t, o, h, hr => by
    unfold opsL at h
    split at h
    · rename_i r' e; exact opsL_lens hB n r' _ _ h (opX_lens hB hr e)
    · cases h; exact hr
theorem par_lens (B : Nat) (hB : 2 ≤ B) : ∀ (n : Nat), (∀ t r, alts n t = some r → t.length ≤ B → r.All (lens B)) ∧ (∀ l t r, altL n l t = some r → l.length + t.length ≤ B → (∀ x ∈ l, lens B x) → r.All (lens B)) ∧ (∀ t r, seqs n t = some r → t.length ≤ B → r.All (lens B)) ∧
    (∀ l t r, seqL n l t = some r → l.length + t.length ≤ B → (∀ x ∈ l, lens B x) → r.All (lens B)) ∧
    (∀ t r, piece n t = some r → t.length ≤ B → r.All (lens B)) ∧ (∀ t r, atom n t = some r → t.length ≤ B → r.All (lens B)) := by
  intro n
  induction n with
  | zero => exact ⟨fun t r h => by simp [alts] at h, fun l t r h => by simp [altL] at h, fun t r h => by simp [seqs] at h, fun l t r h => by simp [seqL] at h, fun t r h => by simp [piece] at h, fun t r h => by simp [atom] at h⟩
  | succ n ih =>
    obtain ⟨ih1, ih2, ih3, ih4, ih5, ih6⟩ := ih
    refine ⟨fun t r h hl => ?_, fun l t r h hl hx => ?_, fun t r h hl => ?_, fun l t r h hl hx => ?_, fun t r h hl => ?_, fun t r h hl => ?_⟩
    · unfold alts at h
      split at h
      · cases h
      · cases h; trivial
      · rename_i hq
        have h1 := ih3 _ _ hq hl
        have h2 := ((par_lt n).2.2.1 _ _ hq).1
        exact ih2 _ _ _ h (by simp; omega) (fun x hx => by rw [List.mem_singleton.1 hx]; exact h1)
    · unfold altL at h
      split at h
      · rename_i hc
        have h0 := hd_ne (show hd t ≠ 0 by omega)
        split at h
        · cases h
        · cases h; trivial
        · rename_i hq
          have h1 := ih3 _ _ hq (by omega)
          have h2 := ((par_lt n).2.2.1 _ _ hq).1
          refine ih2 _ _ _ h (by simp; omega) fun x hx' => ?_
          rcases List.mem_append.1 hx' with hx' | hx'
          · exact hx x hx'
          · rw [List.mem_singleton.1 hx']; exact h1
      · cases h; exact lens_joinX (by omega) hx
    · unfold seqs at h
      split at h
      · cases h
      · cases h; trivial
      · rename_i hq
        have h1 := ih5 _ _ hq hl
        have h2 := ((par_lt n).2.2.2.2.1 _ _ hq).1
        exact ih4 _ _ _ h (by simp; omega) (fun x hx => by rw [List.mem_singleton.1 hx]; exact h1)
    · unfold seqL at h
      split at h
      · split at h
        · cases h
        · cases h; trivial
        · rename_i hq
          have h1 := ih5 _ _ hq (by omega)
          have h2 := ((par_lt n).2.2.2.2.1 _ _ hq).1
          refine ih4 _ _ _ h (by simp; omega) fun x hx' => ?_
          rcases List.mem_append.1 hx' with hx' | hx'
          · exact hx x hx'
          · rw [List.mem_singleton.1 hx']; exact h1
      · cases h; exact lens_joinX (by omega) hx
    · unfold piece at h
      split at h
      · cases h
      · cases h; trivial
      · rename_i hq
        exact opsL_lens hB _ _ _ _ h (ih6 _ _ hq hl)
    · have hT : t.tail.length ≤ B := by simp; omega
      unfold atom at h
      split at h
      · split at h
        · cases h; show lens B (mk0 1 []); exact lens_mk0.2 ⟨Nat.zero_le _, by simp⟩
        · split at h
          · cases h
          · cases h; trivial
          · rename_i hq
            cases h
            have h1 := ih1 _ _ hq hT
            unfold closeR
            split
            · exact h1
            · trivial
      · split at h
        · unfold setR at h
          split at h
          · exact setL_lens _ _ _ _ _ h
          · split at h
            · cases h; show lens B (mk0 1 []); exact lens_mk0.2 ⟨Nat.zero_le _, by simp⟩
            · exact setL_lens _ _ _ _ _ h
        · split at h
          · cases h; show lens B _; exact lens_setX _
          · split at h
            · split at h
              · cases h; show lens B _; exact lens_setX _
              · split at h
                · cases h; trivial
                · cases h; show lens B _; exact lens_setX _
            · split at h
              · cases h; trivial
              · cases h; show lens B _; exact lens_setX _
theorem alts_lens {n : Nat} {t t' : List UInt8} {r : Rx} (h : alts n t = some (.ok r t')) : lens (t.length + 2) r := (par_lens (t.length + 2) (by omega) n).1 t _ h (by omega)
end Go.Rx
end
section
open Go Go.Proofs Go.Ab Go.Rf
set_option maxRecDepth 100000
namespace Go.Rx
def nilR : Rx := mk0 0 []
theorem at0 {s : List UInt8} (h : s.length ≤ 1048576) : At s s 0 := ⟨List.suffix_refl _, by omega, h⟩
theorem parse_long {s : List UInt8} (h : 1000 < s.length) : parseV s = (mk0 0 [], 2, 0) := by unfold parseV; rw [if_pos h]
theorem parse_bad {s t : List UInt8} {i : Int} (h : ¬ 1000 < s.length) (hr : alts (fuelOf s) s = some (.bad t)) (hi : At s t i) : parseV s = (mk0 0 [], 8, i) := by
  unfold parseV; rw [if_neg h, hr]
  have := hi.pos
  have : (s.length : Int) - t.length = i := by omega
  simp [this]
theorem parse_more {s t : List UInt8} {r : Rx} {i : Int} (h : ¬ 1000 < s.length) (hr : alts (fuelOf s) s = some (.ok r t)) (hi : At s t i) (ht : t ≠ []) : parseV s = (mk0 0 [], 8, i) := by
  unfold parseV; rw [if_neg h, hr]
  have := hi.pos
  have : (s.length : Int) - t.length = i := by omega
  simp [this, ht]
theorem parse_ok {s : List UInt8} {r : Rx} (h : ¬ 1000 < s.length) (hr : alts (fuelOf s) s = some (.ok r [])) : parseV s = if chk 1 r = 9 then (mk0 0 [], 9, 0) else (r, 0, 0) := by
  unfold parseV; rw [if_neg h, hr]; simp
theorem c20 (s : List UInt8) : Holds Try.prog 20 [A.d (.lit (bytesV s))] [] (Ret (pairA (parseV s))) := by
  refine w20 s ⟨fun hl => ?_, fun hl ν => ?_⟩
  · have hl := of_tlt hl
    rw [parse_long (by omega)]
    exact ⟨rfl, rfl⟩
  · have hl := of_flt hl
    have hs : ¬ 1000 < s.length := by omega
    have h0 : At s s 0 := at0 (by omega)
    obtain ⟨res, hr⟩ := alts_some s
    refine callR (l39 _ (Ref.own 13 (ν 13)) s s 0 res hr h0) (fun v t i e hi => ?_) (fun v t i e hg hi => ?_) ν
    · obtain ⟨r, f1, rfl⟩ := map_ok e
      subst f1
      refine ⟨_, _, _, _, rfl, rfl, teq6 r, fun hf => ?_, fun hf => ?_⟩
      · have ht : t ≠ [] := hi.more (of_tlt hf)
        rw [parse_more hs hr hi ht]
        exact ⟨rfl, rfl⟩
      · have ht : t = [] := hi.end_ (of_flt hf)
        subst ht
        rw [parse_ok hs hr]
        have hb : lens (2 ^ 40) r := lens_mono (by omega) _ r (Nat.le_refl _) (alts_lens hr)
        refine call1 (c16 r hb) ⟨_, rfl, rfl, fun h9 => ?_, fun h9 => ?_⟩
        · rw [if_pos (of_teq h9)]; exact ⟨rfl, rfl⟩
        · rw [if_neg (of_feq h9)]; exact ⟨rfl, rfl⟩
    · have f1 := map_bad e
      subst f1
      obtain ⟨r, rfl⟩ := hg
      refine ⟨_, _, _, _, rfl, rfl, teq6 r, fun _ => ?_, fun hf => by cases hf⟩
      rw [parse_bad hs hr hi]
      exact ⟨rfl, rfl⟩
end Go.Rx
end
