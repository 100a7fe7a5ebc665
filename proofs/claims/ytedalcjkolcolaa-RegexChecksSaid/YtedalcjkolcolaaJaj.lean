/- Part 10 of the proof: Wpar, Wder, RxPp, RxPq, RxPr. -/
import Derived.Test.YtedalcjkolcolaaProg
import Derived.Test.YtedalcjkolcolaaJai
section
open Go Go.Proofs Go.Ab Go.Rf
set_option maxRecDepth 1000000
set_option maxHeartbeats 2000000
set_option linter.unusedVariables false
namespace Go.Rx
theorem w37 {R : Out → List (Ref × List A) → Prop} (x0 : List UInt8) (x1 : Int) (q0 : Ref) (h : ∀ _ : Nat → Nat, ∃ R' : Out → List (Ref × List A) → Prop, Holds Try.prog 48 [(A.ptr (.up (Ref.up q0)) 0)] [(Ref.up (Ref.up q0), [(A.d (D.lit (bytesV x0))), (A.d (D.lit (.int .i64 x1)))])] R' ∧
  (∀ v H', R' (.ret v) H' → ∃ x2 : List D, ∃ x3 : List UInt8, ∃ x4 : Int, v = (A.agg x2) ∧ H' = [(Ref.up (Ref.up q0), [(A.d (D.lit (bytesV x3))), (A.d (D.lit (.int .i64 x4)))])] ∧
   (tB ((x2.length : Int) == (6 : Int))) = true ∧
   ∃ (I0_0 : List (List D) → List UInt8 → Int → Prop) (M0_0 : List (List D) → List UInt8 → Int → Nat), I0_0 (x2 :: ([] : List (List D))) x3 x4 ∧
   (∀ (x5 : List (List D)) (x6 : List UInt8) (x7 : Int) , I0_0 x5 x6 x7 →
    ∀ _ : Nat → Nat, ∃ R' : Out → List (Ref × List A) → Prop, Holds Try.prog 49 [(A.ptr (.up (Ref.up q0)) 0)] [(Ref.up (Ref.up q0), [(A.d (D.lit (bytesV x6))), (A.d (D.lit (.int .i64 x7)))])] R' ∧
    (∀ v H', R' (.ret v) H' → ∃ x8 : Int, ∃ x9 : List UInt8, ∃ x10 : Int, v = (A.d (D.lit (.int .u8 x8))) ∧ H' = [(Ref.up (Ref.up q0), [(A.d (D.lit (bytesV x9))), (A.d (D.lit (.int .i64 x10)))])] ∧
     ((tB (x8 == (124 : Int))) = true →
      (tB (decide ((-9223372036854775808 : Int) ≤ (x10 + (1 : Int))))) = true ∧
      (tB (decide ((x10 + (1 : Int)) ≤ (9223372036854775807 : Int)))) = true ∧
      ∀ _ : Nat → Nat, ∃ R' : Out → List (Ref × List A) → Prop, Holds Try.prog 48 [(A.ptr (.up (Ref.up q0)) 0)] [(Ref.up (Ref.up q0), [(A.d (D.lit (bytesV x9))), (A.d (D.lit (.int .i64 (x10 + (1 : Int)))))])] R' ∧
      (∀ v H', R' (.ret v) H' → ∃ x11 : List D, ∃ x12 : List UInt8, ∃ x13 : Int, v = (A.agg x11) ∧ H' = [(Ref.up (Ref.up q0), [(A.d (D.lit (bytesV x12))), (A.d (D.lit (.int .i64 x13)))])] ∧
       (tB ((x11.length : Int) == (6 : Int))) = true ∧
       (flatB 6 (x11 :: ([] : List (List D)))) = true ∧
       (tB (decide ((((x5.length : Int) + ((x11 :: ([] : List (List D))).length : Int)) * (64 : Int)) ≤ (140737488355328 : Int)))) = true ∧
       (tB (decide (((x5.length : Int) + ((x11 :: ([] : List (List D))).length : Int)) ≤ (1099511627776 : Int)))) = true ∧
       I0_0 (x5 ++ (x11 :: ([] : List (List D)))) x12 x13 ∧ M0_0 (x5 ++ (x11 :: ([] : List (List D)))) x12 x13 < M0_0 x5 x6 x7) ∧
      (∀ x11v H', R' (.pan x11v) H' → ∃ x12 : List UInt8, ∃ x13 : Int, H' = [(Ref.up (Ref.up q0), [(A.d (D.lit (bytesV x12))), (A.d (D.lit (.int .i64 x13)))])] ∧
       R (.pan x11v) [((Ref.up q0), [(A.d (D.lit (bytesV x12))), (A.d (D.lit (.int .i64 x13)))])])) ∧
     ((tB (x8 == (124 : Int))) = false →
      ∀ _ : Nat → Nat, ∃ R' : Out → List (Ref × List A) → Prop, Holds Try.prog 50 [(A.d (D.lit (.int .i64 (4 : Int)))), (A.d (D.slc x5))] [] R' ∧
      (∀ v H', R' (.ret v) H' → ∃ x11 : List D, v = (A.agg x11) ∧ H' = [] ∧
       (tB ((x11.length : Int) == (6 : Int))) = true ∧
       R (.ret (A.agg x11)) [((Ref.up q0), [(A.d (D.lit (bytesV x9))), (A.d (D.lit (.int .i64 x10)))])]) ∧
      (∀ x11v H', R' (.pan x11v) H' → H' = [] ∧
       R (.pan x11v) [((Ref.up q0), [(A.d (D.lit (bytesV x9))), (A.d (D.lit (.int .i64 x10)))])]))) ∧
    (∀ x8v H', R' (.pan x8v) H' → ∃ x9 : List UInt8, ∃ x10 : Int, H' = [(Ref.up (Ref.up q0), [(A.d (D.lit (bytesV x9))), (A.d (D.lit (.int .i64 x10)))])] ∧
     R (.pan x8v) [((Ref.up q0), [(A.d (D.lit (bytesV x9))), (A.d (D.lit (.int .i64 x10)))])])) ∧
   True) ∧
  (∀ x2v H', R' (.pan x2v) H' → ∃ x3 : List UInt8, ∃ x4 : Int, H' = [(Ref.up (Ref.up q0), [(A.d (D.lit (bytesV x3))), (A.d (D.lit (.int .i64 x4)))])] ∧
   R (.pan x2v) [((Ref.up q0), [(A.d (D.lit (bytesV x3))), (A.d (D.lit (.int .i64 x4)))])])) :
    Holds Try.prog 37 [(A.ptr (Ref.up q0) 0)] [((Ref.up q0), [(A.d (D.lit (bytesV x0))), (A.d (D.lit (.int .i64 x1)))])] R :=
  walk (c := ⟨Try.prog, 24, true, [0, 2, 3, 9]⟩) (op := {  }) (fn := Try.f37) (args := [.ptr (.up 0) 0]) (K := [(.up 0, [.c (.o1 .cs (.var 0)), .c (.o1 (.ci .i64) (.var 1))])]) (nv := 2) (depth := 5) (up := upOf [q0]) (ρ := envOf [.s x0, .i x1])
    rfl rfl rfl rfl rfl (by decide) (by decide) (by decide) (by decide) rfl (by simp [bxDen, RRef.den, upOf]) (T_of (by kernel_rfl) h)
theorem w38 {R : Out → List (Ref × List A) → Prop} (x0 : List UInt8) (x1 : Int) (x2 : Int) (q0 : Ref) (h : (isLits ((D.lit (.int .i64 x2)) :: ([] : List D))) = true ∧
  R (.pan (dval (D.lit (.iface 56 (.agg (((D.lit (.int .i64 x2)) :: ([] : List D)).map dval).toArray))))) [((Ref.up q0), [(A.d (D.lit (bytesV x0))), (A.d (D.lit (.int .i64 x1)))])]) :
    Holds Try.prog 38 [(A.ptr (Ref.up q0) 0), (A.d (D.lit (.int .i64 x2)))] [((Ref.up q0), [(A.d (D.lit (bytesV x0))), (A.d (D.lit (.int .i64 x1)))])] R :=
  walk (c := ⟨Try.prog, 7, true, [0, 1]⟩) (op := {  }) (fn := Try.f38) (args := [.ptr (.up 0) 0, .c (.o1 (.ci .i64) (.var 2))]) (K := [(.up 0, [.c (.o1 .cs (.var 0)), .c (.o1 (.ci .i64) (.var 1))])]) (nv := 3) (depth := 3) (up := upOf [q0]) (ρ := envOf [.s x0, .i x1, .i x2])
    rfl rfl rfl rfl rfl (by decide) (by decide) (by decide) (by decide) rfl (by simp [bxDen, RRef.den, upOf]) (T_of (by kernel_rfl) h)
theorem w48 {R : Out → List (Ref × List A) → Prop} (x0 : List UInt8) (x1 : Int) (q0 : Ref) (h : ∀ ν : Nat → Nat, ∃ R' : Out → List (Ref × List A) → Prop, Holds Try.prog 64 [(A.ptr (.up (Ref.own 3 (ν 3))) 0), (A.ptr (.up (Ref.own 1 (ν 1))) 0)] [(Ref.up (Ref.own 3 (ν 3)), [(A.zs ([] : List (List D)))]), (Ref.up (Ref.own 1 (ν 1)), [(A.ptr (.up (Ref.up q0)) 0)]), (Ref.up (Ref.up q0), [(A.d (D.lit (bytesV x0))), (A.d (D.lit (.int .i64 x1)))])] R' ∧
  (∀ v H', R' (.ret v) H' → ∃ x2 : List (List D), ∃ x3 : List UInt8, ∃ x4 : Int, v = (A.tup []) ∧ H' = [(Ref.up (Ref.own 3 (ν 3)), [(A.own 6 x2 ([] : List (List D)))]), (Ref.up (Ref.own 1 (ν 1)), [(A.ptr (.up (Ref.up q0)) 0)]), (Ref.up (Ref.up q0), [(A.d (D.lit (bytesV x3))), (A.d (D.lit (.int .i64 x4)))])] ∧
   ∃ (I0_0 : List (List D) → List UInt8 → Int → Prop) (M0_0 : List (List D) → List UInt8 → Int → Nat), I0_0 x2 x3 x4 ∧
   (∀ (x5 : List (List D)) (x6 : List UInt8) (x7 : Int) , I0_0 x5 x6 x7 →
    ((tB (decide (x7 < (x6.length : Int)))) = true →
     ∀ _ : Nat → Nat, ∃ R' : Out → List (Ref × List A) → Prop, Holds Try.prog 49 [(A.ptr (.up (Ref.up q0)) 0)] [(Ref.up (Ref.up q0), [(A.d (D.lit (bytesV x6))), (A.d (D.lit (.int .i64 x7)))])] R' ∧
     (∀ v H', R' (.ret v) H' → ∃ x8 : Int, ∃ x9 : List UInt8, ∃ x10 : Int, v = (A.d (D.lit (.int .u8 x8))) ∧ H' = [(Ref.up (Ref.up q0), [(A.d (D.lit (bytesV x9))), (A.d (D.lit (.int .i64 x10)))])] ∧
      ((!(tB (x8 == (124 : Int)))) = true →
       ∀ _ : Nat → Nat, ∃ R' : Out → List (Ref × List A) → Prop, Holds Try.prog 49 [(A.ptr (.up (Ref.up q0)) 0)] [(Ref.up (Ref.up q0), [(A.d (D.lit (bytesV x9))), (A.d (D.lit (.int .i64 x10)))])] R' ∧
       (∀ v H', R' (.ret v) H' → ∃ x11 : Int, ∃ x12 : List UInt8, ∃ x13 : Int, v = (A.d (D.lit (.int .u8 x11))) ∧ H' = [(Ref.up (Ref.up q0), [(A.d (D.lit (bytesV x12))), (A.d (D.lit (.int .i64 x13)))])] ∧
        ((!(tB (x11 == (41 : Int)))) = true →
         ∀ ν : Nat → Nat, ∃ R' : Out → List (Ref × List A) → Prop, Holds Try.prog 64 [(A.ptr (.up (Ref.own 3 (ν 3))) 0), (A.ptr (.up (Ref.own 1 (ν 1))) 0)] [(Ref.up (Ref.own 3 (ν 3)), [(A.own 6 x5 ([] : List (List D)))]), (Ref.up (Ref.own 1 (ν 1)), [(A.ptr (.up (Ref.up q0)) 0)]), (Ref.up (Ref.up q0), [(A.d (D.lit (bytesV x12))), (A.d (D.lit (.int .i64 x13)))])] R' ∧
         (∀ v H', R' (.ret v) H' → ∃ x14 : List (List D), ∃ x15 : List UInt8, ∃ x16 : Int, v = (A.tup []) ∧ H' = [(Ref.up (Ref.own 3 (ν 3)), [(A.own 6 x14 ([] : List (List D)))]), (Ref.up (Ref.own 1 (ν 1)), [(A.ptr (.up (Ref.up q0)) 0)]), (Ref.up (Ref.up q0), [(A.d (D.lit (bytesV x15))), (A.d (D.lit (.int .i64 x16)))])] ∧
          I0_0 x14 x15 x16 ∧ M0_0 x14 x15 x16 < M0_0 x5 x6 x7) ∧
         (∀ x14v H', R' (.pan x14v) H' → ∃ x15 : List UInt8, ∃ x16 : Int, H' = [(Ref.up (Ref.own 3 (ν 3)), [A.any]), (Ref.up (Ref.own 1 (ν 1)), [(A.ptr (.up (Ref.up q0)) 0)]), (Ref.up (Ref.up q0), [(A.d (D.lit (bytesV x15))), (A.d (D.lit (.int .i64 x16)))])] ∧
          R (.pan x14v) [((Ref.up q0), [(A.d (D.lit (bytesV x15))), (A.d (D.lit (.int .i64 x16)))])])) ∧
        ((!(tB (x11 == (41 : Int)))) = false →
         ∀ _ : Nat → Nat, ∃ R' : Out → List (Ref × List A) → Prop, Holds Try.prog 50 [(A.d (D.lit (.int .i64 (3 : Int)))), (A.d (D.slc x5))] [] R' ∧
         (∀ v H', R' (.ret v) H' → ∃ x14 : List D, v = (A.agg x14) ∧ H' = [] ∧
          (tB ((x14.length : Int) == (6 : Int))) = true ∧
          R (.ret (A.agg x14)) [((Ref.up q0), [(A.d (D.lit (bytesV x12))), (A.d (D.lit (.int .i64 x13)))])]) ∧
         (∀ x14v H', R' (.pan x14v) H' → H' = [] ∧
          R (.pan x14v) [((Ref.up q0), [(A.d (D.lit (bytesV x12))), (A.d (D.lit (.int .i64 x13)))])]))) ∧
       (∀ x11v H', R' (.pan x11v) H' → ∃ x12 : List UInt8, ∃ x13 : Int, H' = [(Ref.up (Ref.up q0), [(A.d (D.lit (bytesV x12))), (A.d (D.lit (.int .i64 x13)))])] ∧
        R (.pan x11v) [((Ref.up q0), [(A.d (D.lit (bytesV x12))), (A.d (D.lit (.int .i64 x13)))])])) ∧
      ((!(tB (x8 == (124 : Int)))) = false →
       ∀ _ : Nat → Nat, ∃ R' : Out → List (Ref × List A) → Prop, Holds Try.prog 50 [(A.d (D.lit (.int .i64 (3 : Int)))), (A.d (D.slc x5))] [] R' ∧
       (∀ v H', R' (.ret v) H' → ∃ x11 : List D, v = (A.agg x11) ∧ H' = [] ∧
        (tB ((x11.length : Int) == (6 : Int))) = true ∧
        R (.ret (A.agg x11)) [((Ref.up q0), [(A.d (D.lit (bytesV x9))), (A.d (D.lit (.int .i64 x10)))])]) ∧
       (∀ x11v H', R' (.pan x11v) H' → H' = [] ∧
        R (.pan x11v) [((Ref.up q0), [(A.d (D.lit (bytesV x9))), (A.d (D.lit (.int .i64 x10)))])]))) ∧
     (∀ x8v H', R' (.pan x8v) H' → ∃ x9 : List UInt8, ∃ x10 : Int, H' = [(Ref.up (Ref.up q0), [(A.d (D.lit (bytesV x9))), (A.d (D.lit (.int .i64 x10)))])] ∧
      R (.pan x8v) [((Ref.up q0), [(A.d (D.lit (bytesV x9))), (A.d (D.lit (.int .i64 x10)))])])) ∧
    ((tB (decide (x7 < (x6.length : Int)))) = false →
     ∀ _ : Nat → Nat, ∃ R' : Out → List (Ref × List A) → Prop, Holds Try.prog 50 [(A.d (D.lit (.int .i64 (3 : Int)))), (A.d (D.slc x5))] [] R' ∧
     (∀ v H', R' (.ret v) H' → ∃ x8 : List D, v = (A.agg x8) ∧ H' = [] ∧
      (tB ((x8.length : Int) == (6 : Int))) = true ∧
      R (.ret (A.agg x8)) [((Ref.up q0), [(A.d (D.lit (bytesV x6))), (A.d (D.lit (.int .i64 x7)))])]) ∧
     (∀ x8v H', R' (.pan x8v) H' → H' = [] ∧
      R (.pan x8v) [((Ref.up q0), [(A.d (D.lit (bytesV x6))), (A.d (D.lit (.int .i64 x7)))])]))) ∧
   True) ∧
  (∀ x2v H', R' (.pan x2v) H' → ∃ x3 : List UInt8, ∃ x4 : Int, H' = [(Ref.up (Ref.own 3 (ν 3)), [A.any]), (Ref.up (Ref.own 1 (ν 1)), [(A.ptr (.up (Ref.up q0)) 0)]), (Ref.up (Ref.up q0), [(A.d (D.lit (bytesV x3))), (A.d (D.lit (.int .i64 x4)))])] ∧
   R (.pan x2v) [((Ref.up q0), [(A.d (D.lit (bytesV x3))), (A.d (D.lit (.int .i64 x4)))])])) :
    Holds Try.prog 48 [(A.ptr (Ref.up q0) 0)] [((Ref.up q0), [(A.d (D.lit (bytesV x0))), (A.d (D.lit (.int .i64 x1)))])] R :=
  walk (c := ⟨Try.prog, 32, true, [0, 1, 2, 3, 4, 27]⟩) (op := { grow := [(64, 6)], lose := [64] }) (fn := Try.f48) (args := [.ptr (.up 0) 0]) (K := [(.up 0, [.c (.o1 .cs (.var 0)), .c (.o1 (.ci .i64) (.var 1))])]) (nv := 2) (depth := 6) (up := upOf [q0]) (ρ := envOf [.s x0, .i x1])
    rfl rfl rfl rfl rfl (by decide) (by decide) (by decide) (by decide) rfl (by simp [bxDen, RRef.den, upOf]) (T_of (by kernel_rfl) h)
theorem w49 {R : Out → List (Ref × List A) → Prop} (x0 : List UInt8) (x1 : Int) (q0 : Ref) (h : ((tB (decide (x1 < (x0.length : Int)))) = true →
   (tB (decide ((0 : Int) ≤ x1))) = true ∧
   R (.ret (A.d (D.lit (.int .u8 (gByte x0 x1))))) [((Ref.up q0), [(A.d (D.lit (bytesV x0))), (A.d (D.lit (.int .i64 x1)))])]) ∧
  ((tB (decide (x1 < (x0.length : Int)))) = false →
   R (.ret (A.d (D.lit (.int .u8 (0 : Int))))) [((Ref.up q0), [(A.d (D.lit (bytesV x0))), (A.d (D.lit (.int .i64 x1)))])])) :
    Holds Try.prog 49 [(A.ptr (Ref.up q0) 0)] [((Ref.up q0), [(A.d (D.lit (bytesV x0))), (A.d (D.lit (.int .i64 x1)))])] R :=
  walk (c := ⟨Try.prog, 22, true, [0, 2, 12]⟩) (op := {  }) (fn := Try.f49) (args := [.ptr (.up 0) 0]) (K := [(.up 0, [.c (.o1 .cs (.var 0)), .c (.o1 (.ci .i64) (.var 1))])]) (nv := 2) (depth := 5) (up := upOf [q0]) (ρ := envOf [.s x0, .i x1])
    rfl rfl rfl rfl rfl (by decide) (by decide) (by decide) (by decide) rfl (by simp [bxDen, RRef.den, upOf]) (T_of (by kernel_rfl) h)
theorem w64a {R : Out → List (Ref × List A) → Prop} (x0 : List UInt8) (x1 : Int) (q0 q1 q2 : Ref) (hq01 : q0 ≠ q1) (hq02 : q0 ≠ q2) (hq12 : q1 ≠ q2) (h : ∀ _ : Nat → Nat, ∃ R' : Out → List (Ref × List A) → Prop, Holds Try.prog 65 [(A.ptr (.up (Ref.up q2)) 0)] [(Ref.up (Ref.up q2), [(A.d (D.lit (bytesV x0))), (A.d (D.lit (.int .i64 x1)))])] R' ∧
  (∀ v H', R' (.ret v) H' → ∃ x2 : List D, ∃ x3 : List UInt8, ∃ x4 : Int, v = (A.agg x2) ∧ H' = [(Ref.up (Ref.up q2), [(A.d (D.lit (bytesV x3))), (A.d (D.lit (.int .i64 x4)))])] ∧
   (tB (decide ((((0 : Int) + ((((D.lit (.int .i64 (0 : Int))) :: ((D.lit (.int .u64 (0 : Int))) :: ((D.lit (.int .u64 (0 : Int))) :: ((D.lit (.int .u64 (0 : Int))) :: ((D.lit (.int .u64 (0 : Int))) :: ((D.slc ([] : List (List D))) :: ([] : List D))))))) :: ([] : List (List D))).length : Int)) * (64 : Int)) ≤ (140737488355328 : Int)))) = true ∧
   (tB (decide (((0 : Int) + ((((D.lit (.int .i64 (0 : Int))) :: ((D.lit (.int .u64 (0 : Int))) :: ((D.lit (.int .u64 (0 : Int))) :: ((D.lit (.int .u64 (0 : Int))) :: ((D.lit (.int .u64 (0 : Int))) :: ((D.slc ([] : List (List D))) :: ([] : List D))))))) :: ([] : List (List D))).length : Int)) ≤ (1099511627776 : Int)))) = true ∧
   (tB (decide ((0 : Int) < ((((D.lit (.int .i64 (0 : Int))) :: ((D.lit (.int .u64 (0 : Int))) :: ((D.lit (.int .u64 (0 : Int))) :: ((D.lit (.int .u64 (0 : Int))) :: ((D.lit (.int .u64 (0 : Int))) :: ((D.slc ([] : List (List D))) :: ([] : List D))))))) :: ([] : List (List D))).length : Int)))) = true ∧
   (tB ((x2.length : Int) == (6 : Int))) = true ∧
   R (.ret (A.tup [])) [((Ref.up q0), [(A.own 6 (([] : List (List D)) ++ (gSet (((D.lit (.int .i64 (0 : Int))) :: ((D.lit (.int .u64 (0 : Int))) :: ((D.lit (.int .u64 (0 : Int))) :: ((D.lit (.int .u64 (0 : Int))) :: ((D.lit (.int .u64 (0 : Int))) :: ((D.slc ([] : List (List D))) :: ([] : List D))))))) :: ([] : List (List D))) (0 : Int) (setL (gAt (((D.lit (.int .i64 (0 : Int))) :: ((D.lit (.int .u64 (0 : Int))) :: ((D.lit (.int .u64 (0 : Int))) :: ((D.lit (.int .u64 (0 : Int))) :: ((D.lit (.int .u64 (0 : Int))) :: ((D.slc ([] : List (List D))) :: ([] : List D))))))) :: ([] : List (List D))) (0 : Int)) 0 x2))) ([] : List (List D)))]), ((Ref.up q1), [(A.ptr (Ref.up q2) 0)]), ((Ref.up q2), [(A.d (D.lit (bytesV x3))), (A.d (D.lit (.int .i64 x4)))])]) ∧
  (∀ x2v H', R' (.pan x2v) H' → ∃ x3 : List UInt8, ∃ x4 : Int, H' = [(Ref.up (Ref.up q2), [(A.d (D.lit (bytesV x3))), (A.d (D.lit (.int .i64 x4)))])] ∧
   R (.pan x2v) [((Ref.up q0), [(A.zs ([] : List (List D)))]), ((Ref.up q1), [(A.ptr (Ref.up q2) 0)]), ((Ref.up q2), [(A.d (D.lit (bytesV x3))), (A.d (D.lit (.int .i64 x4)))])])) :
    Holds Try.prog 64 [(A.ptr (Ref.up q0) 0), (A.ptr (Ref.up q1) 0)] [((Ref.up q0), [(A.zs ([] : List (List D)))]), ((Ref.up q1), [(A.ptr (Ref.up q2) 0)]), ((Ref.up q2), [(A.d (D.lit (bytesV x0))), (A.d (D.lit (.int .i64 x1)))])] R :=
  walk (c := ⟨Try.prog, 9, true, [0, 1]⟩) (op := { lat := [0] }) (fn := Try.f64) (args := [.ptr (.up 0) 0, .ptr (.up 1) 0]) (K := [(.up 0, [.zs .lnil]), (.up 1, [.ptr (.up 2) 0]), (.up 2, [.c (.o1 .cs (.var 0)), .c (.o1 (.ci .i64) (.var 1))])]) (nv := 2) (depth := 4) (up := upOf [q0, q1, q2]) (ρ := envOf [.s x0, .i x1])
    rfl rfl rfl rfl rfl (by decide) (by decide) (by decide) (by decide) rfl (by simp [bxDen, RRef.den, upOf, hq01 , hq02 , hq12]) (T_of (by kernel_rfl) h)
theorem w64b {R : Out → List (Ref × List A) → Prop} (x0 : List (List D)) (x1 : List UInt8) (x2 : Int) (q0 q1 q2 : Ref) (hq01 : q0 ≠ q1) (hq02 : q0 ≠ q2) (hq12 : q1 ≠ q2) (h : ∀ _ : Nat → Nat, ∃ R' : Out → List (Ref × List A) → Prop, Holds Try.prog 65 [(A.ptr (.up (Ref.up q2)) 0)] [(Ref.up (Ref.up q2), [(A.d (D.lit (bytesV x1))), (A.d (D.lit (.int .i64 x2)))])] R' ∧
  (∀ v H', R' (.ret v) H' → ∃ x3 : List D, ∃ x4 : List UInt8, ∃ x5 : Int, v = (A.agg x3) ∧ H' = [(Ref.up (Ref.up q2), [(A.d (D.lit (bytesV x4))), (A.d (D.lit (.int .i64 x5)))])] ∧
   (tB (decide ((((x0.length : Int) + ((((D.lit (.int .i64 (0 : Int))) :: ((D.lit (.int .u64 (0 : Int))) :: ((D.lit (.int .u64 (0 : Int))) :: ((D.lit (.int .u64 (0 : Int))) :: ((D.lit (.int .u64 (0 : Int))) :: ((D.slc ([] : List (List D))) :: ([] : List D))))))) :: ([] : List (List D))).length : Int)) * (64 : Int)) ≤ (140737488355328 : Int)))) = true ∧
   (tB (decide (((x0.length : Int) + ((((D.lit (.int .i64 (0 : Int))) :: ((D.lit (.int .u64 (0 : Int))) :: ((D.lit (.int .u64 (0 : Int))) :: ((D.lit (.int .u64 (0 : Int))) :: ((D.lit (.int .u64 (0 : Int))) :: ((D.slc ([] : List (List D))) :: ([] : List D))))))) :: ([] : List (List D))).length : Int)) ≤ (1099511627776 : Int)))) = true ∧
   (tB ((x3.length : Int) == (6 : Int))) = true ∧
   R (.ret (A.tup [])) [((Ref.up q0), [(A.own 6 (x0 ++ ((setL ((D.lit (.int .i64 (0 : Int))) :: ((D.lit (.int .u64 (0 : Int))) :: ((D.lit (.int .u64 (0 : Int))) :: ((D.lit (.int .u64 (0 : Int))) :: ((D.lit (.int .u64 (0 : Int))) :: ((D.slc ([] : List (List D))) :: ([] : List D))))))) 0 x3) :: ([] : List (List D)))) ([] : List (List D)))]), ((Ref.up q1), [(A.ptr (Ref.up q2) 0)]), ((Ref.up q2), [(A.d (D.lit (bytesV x4))), (A.d (D.lit (.int .i64 x5)))])]) ∧
  (∀ x3v H', R' (.pan x3v) H' → ∃ x4 : List UInt8, ∃ x5 : Int, H' = [(Ref.up (Ref.up q2), [(A.d (D.lit (bytesV x4))), (A.d (D.lit (.int .i64 x5)))])] ∧
   R (.pan x3v) [((Ref.up q0), [A.any]), ((Ref.up q1), [(A.ptr (Ref.up q2) 0)]), ((Ref.up q2), [(A.d (D.lit (bytesV x4))), (A.d (D.lit (.int .i64 x5)))])])) :
    Holds Try.prog 64 [(A.ptr (Ref.up q0) 0), (A.ptr (Ref.up q1) 0)] [((Ref.up q0), [(A.own 6 x0 ([] : List (List D)))]), ((Ref.up q1), [(A.ptr (Ref.up q2) 0)]), ((Ref.up q2), [(A.d (D.lit (bytesV x1))), (A.d (D.lit (.int .i64 x2)))])] R :=
  walk (c := ⟨Try.prog, 9, true, [0, 1]⟩) (op := { lat := [0] }) (fn := Try.f64) (args := [.ptr (.up 0) 0, .ptr (.up 1) 0]) (K := [(.up 0, [.own 6 (.var 0) .lnil]), (.up 1, [.ptr (.up 2) 0]), (.up 2, [.c (.o1 .cs (.var 1)), .c (.o1 (.ci .i64) (.var 2))])]) (nv := 3) (depth := 4) (up := upOf [q0, q1, q2]) (ρ := envOf [.l x0, .s x1, .i x2])
    rfl rfl rfl rfl rfl (by decide) (by decide) (by decide) (by decide) rfl (by simp [bxDen, RRef.den, upOf, hq01 , hq02 , hq12]) (T_of (by kernel_rfl) h)
theorem w65 {R : Out → List (Ref × List A) → Prop} (x0 : List UInt8) (x1 : Int) (q0 : Ref) (h : ∀ _ : Nat → Nat, ∃ R' : Out → List (Ref × List A) → Prop, Holds Try.prog 73 [(A.ptr (.up (Ref.up q0)) 0)] [(Ref.up (Ref.up q0), [(A.d (D.lit (bytesV x0))), (A.d (D.lit (.int .i64 x1)))])] R' ∧
  (∀ v H', R' (.ret v) H' → ∃ x2 : List D, ∃ x3 : List UInt8, ∃ x4 : Int, v = (A.agg x2) ∧ H' = [(Ref.up (Ref.up q0), [(A.d (D.lit (bytesV x3))), (A.d (D.lit (.int .i64 x4)))])] ∧
   (tB ((x2.length : Int) == (6 : Int))) = true ∧
   ∃ (I0_0 : D → D → D → D → D → D → List UInt8 → Int → Prop) (M0_0 : D → D → D → D → D → D → List UInt8 → Int → Nat), I0_0 (x2.getD 0 D0) (x2.getD 1 D0) (x2.getD 2 D0) (x2.getD 3 D0) (x2.getD 4 D0) (x2.getD 5 D0) x3 x4 ∧
   (∀ (x5 : D) (x6 : D) (x7 : D) (x8 : D) (x9 : D) (x10 : D) (x11 : List UInt8) (x12 : Int) , I0_0 x5 x6 x7 x8 x9 x10 x11 x12 →
    ∀ _ : Nat → Nat, ∃ R' : Out → List (Ref × List A) → Prop, Holds Try.prog 49 [(A.ptr (.up (Ref.up q0)) 0)] [(Ref.up (Ref.up q0), [(A.d (D.lit (bytesV x11))), (A.d (D.lit (.int .i64 x12)))])] R' ∧
    (∀ v H', R' (.ret v) H' → ∃ x13 : Int, ∃ x14 : List UInt8, ∃ x15 : Int, v = (A.d (D.lit (.int .u8 x13))) ∧ H' = [(Ref.up (Ref.up q0), [(A.d (D.lit (bytesV x14))), (A.d (D.lit (.int .i64 x15)))])] ∧
     ((tB (x13 == (42 : Int))) = true →
      (tB (decide ((-9223372036854775808 : Int) ≤ (x15 + (1 : Int))))) = true ∧
      (tB (decide ((x15 + (1 : Int)) ≤ (9223372036854775807 : Int)))) = true ∧
      I0_0 (D.lit (.int .i64 (5 : Int))) (D.lit (.int .u64 (0 : Int))) (D.lit (.int .u64 (0 : Int))) (D.lit (.int .u64 (0 : Int))) (D.lit (.int .u64 (0 : Int))) (D.slc ((x5 :: (x6 :: (x7 :: (x8 :: (x9 :: (x10 :: ([] : List D))))))) :: ([] : List (List D)))) x14 (x15 + (1 : Int)) ∧ M0_0 (D.lit (.int .i64 (5 : Int))) (D.lit (.int .u64 (0 : Int))) (D.lit (.int .u64 (0 : Int))) (D.lit (.int .u64 (0 : Int))) (D.lit (.int .u64 (0 : Int))) (D.slc ((x5 :: (x6 :: (x7 :: (x8 :: (x9 :: (x10 :: ([] : List D))))))) :: ([] : List (List D)))) x14 (x15 + (1 : Int)) < M0_0 x5 x6 x7 x8 x9 x10 x11 x12) ∧
     ((tB (x13 == (42 : Int))) = false →
      ((tB (x13 == (43 : Int))) = true →
       (tB (decide ((-9223372036854775808 : Int) ≤ (x15 + (1 : Int))))) = true ∧
       (tB (decide ((x15 + (1 : Int)) ≤ (9223372036854775807 : Int)))) = true ∧
       I0_0 (D.lit (.int .i64 (3 : Int))) (D.lit (.int .u64 (0 : Int))) (D.lit (.int .u64 (0 : Int))) (D.lit (.int .u64 (0 : Int))) (D.lit (.int .u64 (0 : Int))) (D.slc ((x5 :: (x6 :: (x7 :: (x8 :: (x9 :: (x10 :: ([] : List D))))))) :: (((D.lit (.int .i64 (5 : Int))) :: ((D.lit (.int .u64 (0 : Int))) :: ((D.lit (.int .u64 (0 : Int))) :: ((D.lit (.int .u64 (0 : Int))) :: ((D.lit (.int .u64 (0 : Int))) :: ((D.slc ((x5 :: (x6 :: (x7 :: (x8 :: (x9 :: (x10 :: ([] : List D))))))) :: ([] : List (List D)))) :: ([] : List D))))))) :: ([] : List (List D))))) x14 (x15 + (1 : Int)) ∧ M0_0 (D.lit (.int .i64 (3 : Int))) (D.lit (.int .u64 (0 : Int))) (D.lit (.int .u64 (0 : Int))) (D.lit (.int .u64 (0 : Int))) (D.lit (.int .u64 (0 : Int))) (D.slc ((x5 :: (x6 :: (x7 :: (x8 :: (x9 :: (x10 :: ([] : List D))))))) :: (((D.lit (.int .i64 (5 : Int))) :: ((D.lit (.int .u64 (0 : Int))) :: ((D.lit (.int .u64 (0 : Int))) :: ((D.lit (.int .u64 (0 : Int))) :: ((D.lit (.int .u64 (0 : Int))) :: ((D.slc ((x5 :: (x6 :: (x7 :: (x8 :: (x9 :: (x10 :: ([] : List D))))))) :: ([] : List (List D)))) :: ([] : List D))))))) :: ([] : List (List D))))) x14 (x15 + (1 : Int)) < M0_0 x5 x6 x7 x8 x9 x10 x11 x12) ∧
      ((tB (x13 == (43 : Int))) = false →
       ((tB (x13 == (63 : Int))) = true →
        (tB (decide ((-9223372036854775808 : Int) ≤ (x15 + (1 : Int))))) = true ∧
        (tB (decide ((x15 + (1 : Int)) ≤ (9223372036854775807 : Int)))) = true ∧
        I0_0 (D.lit (.int .i64 (4 : Int))) (D.lit (.int .u64 (0 : Int))) (D.lit (.int .u64 (0 : Int))) (D.lit (.int .u64 (0 : Int))) (D.lit (.int .u64 (0 : Int))) (D.slc ((x5 :: (x6 :: (x7 :: (x8 :: (x9 :: (x10 :: ([] : List D))))))) :: (((D.lit (.int .i64 (1 : Int))) :: ((D.lit (.int .u64 (0 : Int))) :: ((D.lit (.int .u64 (0 : Int))) :: ((D.lit (.int .u64 (0 : Int))) :: ((D.lit (.int .u64 (0 : Int))) :: ((D.slc ([] : List (List D))) :: ([] : List D))))))) :: ([] : List (List D))))) x14 (x15 + (1 : Int)) ∧ M0_0 (D.lit (.int .i64 (4 : Int))) (D.lit (.int .u64 (0 : Int))) (D.lit (.int .u64 (0 : Int))) (D.lit (.int .u64 (0 : Int))) (D.lit (.int .u64 (0 : Int))) (D.slc ((x5 :: (x6 :: (x7 :: (x8 :: (x9 :: (x10 :: ([] : List D))))))) :: (((D.lit (.int .i64 (1 : Int))) :: ((D.lit (.int .u64 (0 : Int))) :: ((D.lit (.int .u64 (0 : Int))) :: ((D.lit (.int .u64 (0 : Int))) :: ((D.lit (.int .u64 (0 : Int))) :: ((D.slc ([] : List (List D))) :: ([] : List D))))))) :: ([] : List (List D))))) x14 (x15 + (1 : Int)) < M0_0 x5 x6 x7 x8 x9 x10 x11 x12) ∧
       ((tB (x13 == (63 : Int))) = false →
        R (.ret (A.agg (x5 :: (x6 :: (x7 :: (x8 :: (x9 :: (x10 :: ([] : List D))))))))) [((Ref.up q0), [(A.d (D.lit (bytesV x14))), (A.d (D.lit (.int .i64 x15)))])])))) ∧
    (∀ x13v H', R' (.pan x13v) H' → ∃ x14 : List UInt8, ∃ x15 : Int, H' = [(Ref.up (Ref.up q0), [(A.d (D.lit (bytesV x14))), (A.d (D.lit (.int .i64 x15)))])] ∧
     R (.pan x13v) [((Ref.up q0), [(A.d (D.lit (bytesV x14))), (A.d (D.lit (.int .i64 x15)))])])) ∧
   True) ∧
  (∀ x2v H', R' (.pan x2v) H' → ∃ x3 : List UInt8, ∃ x4 : Int, H' = [(Ref.up (Ref.up q0), [(A.d (D.lit (bytesV x3))), (A.d (D.lit (.int .i64 x4)))])] ∧
   R (.pan x2v) [((Ref.up q0), [(A.d (D.lit (bytesV x3))), (A.d (D.lit (.int .i64 x4)))])])) :
    Holds Try.prog 65 [(A.ptr (Ref.up q0) 0)] [((Ref.up q0), [(A.d (D.lit (bytesV x0))), (A.d (D.lit (.int .i64 x1)))])] R :=
  walk (c := ⟨Try.prog, 35, true, [0, 2, 3, 4, 11, 13, 16, 22]⟩) (op := {  }) (fn := Try.f65) (args := [.ptr (.up 0) 0]) (K := [(.up 0, [.c (.o1 .cs (.var 0)), .c (.o1 (.ci .i64) (.var 1))])]) (nv := 2) (depth := 6) (up := upOf [q0]) (ρ := envOf [.s x0, .i x1])
    rfl rfl rfl rfl rfl (by decide) (by decide) (by decide) (by decide) rfl (by simp [bxDen, RRef.den, upOf]) (T_of (by kernel_rfl) h)
theorem w73 {R : Out → List (Ref × List A) → Prop} (x0 : List UInt8) (x1 : Int) (q0 : Ref) (h : ∀ _ : Nat → Nat, ∃ R' : Out → List (Ref × List A) → Prop, Holds Try.prog 49 [(A.ptr (.up (Ref.up q0)) 0)] [(Ref.up (Ref.up q0), [(A.d (D.lit (bytesV x0))), (A.d (D.lit (.int .i64 x1)))])] R' ∧
  (∀ v H', R' (.ret v) H' → ∃ x2 : Int, ∃ x3 : List UInt8, ∃ x4 : Int, v = (A.d (D.lit (.int .u8 x2))) ∧ H' = [(Ref.up (Ref.up q0), [(A.d (D.lit (bytesV x3))), (A.d (D.lit (.int .i64 x4)))])] ∧
   ((tB (decide ((x3.length : Int) ≤ x4))) = true →
    ∀ _ : Nat → Nat, ∃ R' : Out → List (Ref × List A) → Prop, Holds Try.prog 38 [(A.ptr (.up (Ref.up q0)) 0), (A.d (D.lit (.int .i64 (x3.length : Int))))] [(Ref.up (Ref.up q0), [(A.d (D.lit (bytesV x3))), (A.d (D.lit (.int .i64 x4)))])] R' ∧
    (∀ v H', R' (.ret v) H' → ∃ x5 : List UInt8, ∃ x6 : Int, v = (A.tup []) ∧ H' = [(Ref.up (Ref.up q0), [(A.d (D.lit (bytesV x5))), (A.d (D.lit (.int .i64 x6)))])] ∧
     (tB (decide ((-9223372036854775808 : Int) ≤ (x6 + (1 : Int))))) = true ∧
     (tB (decide ((x6 + (1 : Int)) ≤ (9223372036854775807 : Int)))) = true ∧
     ∀ _ : Nat → Nat, ∃ R' : Out → List (Ref × List A) → Prop, Holds Try.prog 81 [(A.d (D.lit (.int .u8 x2)))] [] R' ∧
     (∀ v H', R' (.ret v) H' → ∃ x7 : List D, v = (A.agg x7) ∧ H' = [] ∧
      (tB ((x7.length : Int) == (6 : Int))) = true ∧
      R (.ret (A.agg x7)) [((Ref.up q0), [(A.d (D.lit (bytesV x5))), (A.d (D.lit (.int .i64 (x6 + (1 : Int)))))])]) ∧
     (∀ x7v H', R' (.pan x7v) H' → H' = [] ∧
      R (.pan x7v) [((Ref.up q0), [(A.d (D.lit (bytesV x5))), (A.d (D.lit (.int .i64 (x6 + (1 : Int)))))])])) ∧
    (∀ x5v H', R' (.pan x5v) H' → ∃ x6 : List UInt8, ∃ x7 : Int, H' = [(Ref.up (Ref.up q0), [(A.d (D.lit (bytesV x6))), (A.d (D.lit (.int .i64 x7)))])] ∧
     R (.pan x5v) [((Ref.up q0), [(A.d (D.lit (bytesV x6))), (A.d (D.lit (.int .i64 x7)))])])) ∧
   ((tB (decide ((x3.length : Int) ≤ x4))) = false →
    ((tB (x2 == (40 : Int))) = true →
     ∀ _ : Nat → Nat, ∃ R' : Out → List (Ref × List A) → Prop, Holds Try.prog 77 [(A.ptr (.up (Ref.up q0)) 0)] [(Ref.up (Ref.up q0), [(A.d (D.lit (bytesV x3))), (A.d (D.lit (.int .i64 x4)))])] R' ∧
     (∀ v H', R' (.ret v) H' → ∃ x5 : List D, ∃ x6 : List UInt8, ∃ x7 : Int, v = (A.agg x5) ∧ H' = [(Ref.up (Ref.up q0), [(A.d (D.lit (bytesV x6))), (A.d (D.lit (.int .i64 x7)))])] ∧
      (tB ((x5.length : Int) == (6 : Int))) = true ∧
      R (.ret (A.agg x5)) [((Ref.up q0), [(A.d (D.lit (bytesV x6))), (A.d (D.lit (.int .i64 x7)))])]) ∧
     (∀ x5v H', R' (.pan x5v) H' → ∃ x6 : List UInt8, ∃ x7 : Int, H' = [(Ref.up (Ref.up q0), [(A.d (D.lit (bytesV x6))), (A.d (D.lit (.int .i64 x7)))])] ∧
      R (.pan x5v) [((Ref.up q0), [(A.d (D.lit (bytesV x6))), (A.d (D.lit (.int .i64 x7)))])])) ∧
    ((tB (x2 == (40 : Int))) = false →
     ((tB (x2 == (91 : Int))) = true →
      ∀ _ : Nat → Nat, ∃ R' : Out → List (Ref × List A) → Prop, Holds Try.prog 78 [(A.ptr (.up (Ref.up q0)) 0)] [(Ref.up (Ref.up q0), [(A.d (D.lit (bytesV x3))), (A.d (D.lit (.int .i64 x4)))])] R' ∧
      (∀ v H', R' (.ret v) H' → ∃ x5 : List D, ∃ x6 : List UInt8, ∃ x7 : Int, v = (A.agg x5) ∧ H' = [(Ref.up (Ref.up q0), [(A.d (D.lit (bytesV x6))), (A.d (D.lit (.int .i64 x7)))])] ∧
       (tB ((x5.length : Int) == (6 : Int))) = true ∧
       R (.ret (A.agg x5)) [((Ref.up q0), [(A.d (D.lit (bytesV x6))), (A.d (D.lit (.int .i64 x7)))])]) ∧
      (∀ x5v H', R' (.pan x5v) H' → ∃ x6 : List UInt8, ∃ x7 : Int, H' = [(Ref.up (Ref.up q0), [(A.d (D.lit (bytesV x6))), (A.d (D.lit (.int .i64 x7)))])] ∧
       R (.pan x5v) [((Ref.up q0), [(A.d (D.lit (bytesV x6))), (A.d (D.lit (.int .i64 x7)))])])) ∧
     ((tB (x2 == (91 : Int))) = false →
      ((tB (x2 == (46 : Int))) = true →
       (tB (decide ((-9223372036854775808 : Int) ≤ (x4 + (1 : Int))))) = true ∧
       (tB (decide ((x4 + (1 : Int)) ≤ (9223372036854775807 : Int)))) = true ∧
       ∀ _ : Nat → Nat, ∃ R' : Out → List (Ref × List A) → Prop, Holds Try.prog 79 [(A.d (D.lit (.int .u8 (0 : Int)))), (A.d (D.lit (.int .u8 (255 : Int))))] [] R' ∧
       (∀ v H', R' (.ret v) H' → ∃ x5 : List D, v = (A.agg x5) ∧ H' = [] ∧
        (tB ((x5.length : Int) == (4 : Int))) = true ∧
        R (.ret (A.agg ((D.lit (.int .i64 (2 : Int))) :: ((x5.getD 0 D0) :: ((x5.getD 1 D0) :: ((x5.getD 2 D0) :: ((x5.getD 3 D0) :: ((D.slc ([] : List (List D))) :: ([] : List D))))))))) [((Ref.up q0), [(A.d (D.lit (bytesV x3))), (A.d (D.lit (.int .i64 (x4 + (1 : Int)))))])]) ∧
       (∀ x5v H', R' (.pan x5v) H' → H' = [] ∧
        R (.pan x5v) [((Ref.up q0), [(A.d (D.lit (bytesV x3))), (A.d (D.lit (.int .i64 (x4 + (1 : Int)))))])])) ∧
      ((tB (x2 == (46 : Int))) = false →
       ((tB (x2 == (92 : Int))) = true →
        (tB (decide ((-9223372036854775808 : Int) ≤ (x4 + (1 : Int))))) = true ∧
        (tB (decide ((x4 + (1 : Int)) ≤ (9223372036854775807 : Int)))) = true ∧
        ((tB (decide ((x4 + (1 : Int)) < (x3.length : Int)))) = true →
         (tB (decide ((0 : Int) ≤ (x4 + (1 : Int))))) = true ∧
         ∀ _ : Nat → Nat, ∃ R' : Out → List (Ref × List A) → Prop, Holds Try.prog 80 [(A.d (D.lit (.int .u8 (gByte x3 (x4 + (1 : Int))))))] [] R' ∧
         (∀ v H', R' (.ret v) H' → ∃ x5 : List D, ∃ x6 : Bool, v = (A.tup [(true, x5), (false, [(D.lit (.bool x6))])]) ∧ H' = [] ∧
          (tB ((x5.length : Int) == (4 : Int))) = true ∧
          (x6 = true →
           (tB (decide ((-9223372036854775808 : Int) ≤ (x4 + (2 : Int))))) = true ∧
           (tB (decide ((x4 + (2 : Int)) ≤ (9223372036854775807 : Int)))) = true ∧
           R (.ret (A.agg ((D.lit (.int .i64 (2 : Int))) :: ((x5.getD 0 D0) :: ((x5.getD 1 D0) :: ((x5.getD 2 D0) :: ((x5.getD 3 D0) :: ((D.slc ([] : List (List D))) :: ([] : List D))))))))) [((Ref.up q0), [(A.d (D.lit (bytesV x3))), (A.d (D.lit (.int .i64 (x4 + (2 : Int)))))])]) ∧
          (x6 = false →
           ∀ _ : Nat → Nat, ∃ R' : Out → List (Ref × List A) → Prop, Holds Try.prog 82 [(A.ptr (.up (Ref.up q0)) 0), (A.d (D.lit (.int .u8 (0 : Int))))] [(Ref.up (Ref.up q0), [(A.d (D.lit (bytesV x3))), (A.d (D.lit (.int .i64 x4)))])] R' ∧
           (∀ v H', R' (.ret v) H' → ∃ x7 : Int, ∃ x8 : List UInt8, ∃ x9 : Int, v = (A.d (D.lit (.int .u8 x7))) ∧ H' = [(Ref.up (Ref.up q0), [(A.d (D.lit (bytesV x8))), (A.d (D.lit (.int .i64 x9)))])] ∧
            ∀ _ : Nat → Nat, ∃ R' : Out → List (Ref × List A) → Prop, Holds Try.prog 81 [(A.d (D.lit (.int .u8 x7)))] [] R' ∧
            (∀ v H', R' (.ret v) H' → ∃ x10 : List D, v = (A.agg x10) ∧ H' = [] ∧
             (tB ((x10.length : Int) == (6 : Int))) = true ∧
             R (.ret (A.agg x10)) [((Ref.up q0), [(A.d (D.lit (bytesV x8))), (A.d (D.lit (.int .i64 x9)))])]) ∧
            (∀ x10v H', R' (.pan x10v) H' → H' = [] ∧
             R (.pan x10v) [((Ref.up q0), [(A.d (D.lit (bytesV x8))), (A.d (D.lit (.int .i64 x9)))])])) ∧
           (∀ x7v H', R' (.pan x7v) H' → ∃ x8 : List UInt8, ∃ x9 : Int, H' = [(Ref.up (Ref.up q0), [(A.d (D.lit (bytesV x8))), (A.d (D.lit (.int .i64 x9)))])] ∧
            R (.pan x7v) [((Ref.up q0), [(A.d (D.lit (bytesV x8))), (A.d (D.lit (.int .i64 x9)))])]))) ∧
         (∀ x5v H', R' (.pan x5v) H' → H' = [] ∧
          R (.pan x5v) [((Ref.up q0), [(A.d (D.lit (bytesV x3))), (A.d (D.lit (.int .i64 x4)))])])) ∧
        ((tB (decide ((x4 + (1 : Int)) < (x3.length : Int)))) = false →
         ∀ _ : Nat → Nat, ∃ R' : Out → List (Ref × List A) → Prop, Holds Try.prog 82 [(A.ptr (.up (Ref.up q0)) 0), (A.d (D.lit (.int .u8 (0 : Int))))] [(Ref.up (Ref.up q0), [(A.d (D.lit (bytesV x3))), (A.d (D.lit (.int .i64 x4)))])] R' ∧
         (∀ v H', R' (.ret v) H' → ∃ x5 : Int, ∃ x6 : List UInt8, ∃ x7 : Int, v = (A.d (D.lit (.int .u8 x5))) ∧ H' = [(Ref.up (Ref.up q0), [(A.d (D.lit (bytesV x6))), (A.d (D.lit (.int .i64 x7)))])] ∧
          ∀ _ : Nat → Nat, ∃ R' : Out → List (Ref × List A) → Prop, Holds Try.prog 81 [(A.d (D.lit (.int .u8 x5)))] [] R' ∧
          (∀ v H', R' (.ret v) H' → ∃ x8 : List D, v = (A.agg x8) ∧ H' = [] ∧
           (tB ((x8.length : Int) == (6 : Int))) = true ∧
           R (.ret (A.agg x8)) [((Ref.up q0), [(A.d (D.lit (bytesV x6))), (A.d (D.lit (.int .i64 x7)))])]) ∧
          (∀ x8v H', R' (.pan x8v) H' → H' = [] ∧
           R (.pan x8v) [((Ref.up q0), [(A.d (D.lit (bytesV x6))), (A.d (D.lit (.int .i64 x7)))])])) ∧
         (∀ x5v H', R' (.pan x5v) H' → ∃ x6 : List UInt8, ∃ x7 : Int, H' = [(Ref.up (Ref.up q0), [(A.d (D.lit (bytesV x6))), (A.d (D.lit (.int .i64 x7)))])] ∧
          R (.pan x5v) [((Ref.up q0), [(A.d (D.lit (bytesV x6))), (A.d (D.lit (.int .i64 x7)))])]))) ∧
       ((tB (x2 == (92 : Int))) = false →
        ((!((tB (decide (x2 < (32 : Int)))) || (tB (decide ((126 : Int) < x2))))) = true →
         ∀ _ : Nat → Nat, ∃ R' : Out → List (Ref × List A) → Prop, Holds Try.prog 83 [(A.d (D.lit (bytesV ([40, 41, 91, 93, 123, 125, 124, 42, 43, 63, 46, 92] : List UInt8)))), (A.d (D.lit (.int .u8 x2)))] [] R' ∧
         (∀ v H', R' (.ret v) H' → ∃ x5 : Int, v = (A.d (D.lit (.int .i64 x5))) ∧ H' = [] ∧
          ((tB (decide ((0 : Int) ≤ x5))) = true →
           ∀ _ : Nat → Nat, ∃ R' : Out → List (Ref × List A) → Prop, Holds Try.prog 38 [(A.ptr (.up (Ref.up q0)) 0), (A.d (D.lit (.int .i64 x4)))] [(Ref.up (Ref.up q0), [(A.d (D.lit (bytesV x3))), (A.d (D.lit (.int .i64 x4)))])] R' ∧
           (∀ v H', R' (.ret v) H' → ∃ x6 : List UInt8, ∃ x7 : Int, v = (A.tup []) ∧ H' = [(Ref.up (Ref.up q0), [(A.d (D.lit (bytesV x6))), (A.d (D.lit (.int .i64 x7)))])] ∧
            (tB (decide ((-9223372036854775808 : Int) ≤ (x7 + (1 : Int))))) = true ∧
            (tB (decide ((x7 + (1 : Int)) ≤ (9223372036854775807 : Int)))) = true ∧
            ∀ _ : Nat → Nat, ∃ R' : Out → List (Ref × List A) → Prop, Holds Try.prog 81 [(A.d (D.lit (.int .u8 x2)))] [] R' ∧
            (∀ v H', R' (.ret v) H' → ∃ x8 : List D, v = (A.agg x8) ∧ H' = [] ∧
             (tB ((x8.length : Int) == (6 : Int))) = true ∧
             R (.ret (A.agg x8)) [((Ref.up q0), [(A.d (D.lit (bytesV x6))), (A.d (D.lit (.int .i64 (x7 + (1 : Int)))))])]) ∧
            (∀ x8v H', R' (.pan x8v) H' → H' = [] ∧
             R (.pan x8v) [((Ref.up q0), [(A.d (D.lit (bytesV x6))), (A.d (D.lit (.int .i64 (x7 + (1 : Int)))))])])) ∧
           (∀ x6v H', R' (.pan x6v) H' → ∃ x7 : List UInt8, ∃ x8 : Int, H' = [(Ref.up (Ref.up q0), [(A.d (D.lit (bytesV x7))), (A.d (D.lit (.int .i64 x8)))])] ∧
            R (.pan x6v) [((Ref.up q0), [(A.d (D.lit (bytesV x7))), (A.d (D.lit (.int .i64 x8)))])])) ∧
          ((tB (decide ((0 : Int) ≤ x5))) = false →
           (tB (decide ((-9223372036854775808 : Int) ≤ (x4 + (1 : Int))))) = true ∧
           (tB (decide ((x4 + (1 : Int)) ≤ (9223372036854775807 : Int)))) = true ∧
           ∀ _ : Nat → Nat, ∃ R' : Out → List (Ref × List A) → Prop, Holds Try.prog 81 [(A.d (D.lit (.int .u8 x2)))] [] R' ∧
           (∀ v H', R' (.ret v) H' → ∃ x6 : List D, v = (A.agg x6) ∧ H' = [] ∧
            (tB ((x6.length : Int) == (6 : Int))) = true ∧
            R (.ret (A.agg x6)) [((Ref.up q0), [(A.d (D.lit (bytesV x3))), (A.d (D.lit (.int .i64 (x4 + (1 : Int)))))])]) ∧
           (∀ x6v H', R' (.pan x6v) H' → H' = [] ∧
            R (.pan x6v) [((Ref.up q0), [(A.d (D.lit (bytesV x3))), (A.d (D.lit (.int .i64 (x4 + (1 : Int)))))])]))) ∧
         (∀ x5v H', R' (.pan x5v) H' → H' = [] ∧
          R (.pan x5v) [((Ref.up q0), [(A.d (D.lit (bytesV x3))), (A.d (D.lit (.int .i64 x4)))])])) ∧
        ((!((tB (decide (x2 < (32 : Int)))) || (tB (decide ((126 : Int) < x2))))) = false →
         ∀ _ : Nat → Nat, ∃ R' : Out → List (Ref × List A) → Prop, Holds Try.prog 38 [(A.ptr (.up (Ref.up q0)) 0), (A.d (D.lit (.int .i64 x4)))] [(Ref.up (Ref.up q0), [(A.d (D.lit (bytesV x3))), (A.d (D.lit (.int .i64 x4)))])] R' ∧
         (∀ v H', R' (.ret v) H' → ∃ x5 : List UInt8, ∃ x6 : Int, v = (A.tup []) ∧ H' = [(Ref.up (Ref.up q0), [(A.d (D.lit (bytesV x5))), (A.d (D.lit (.int .i64 x6)))])] ∧
          (tB (decide ((-9223372036854775808 : Int) ≤ (x6 + (1 : Int))))) = true ∧
          (tB (decide ((x6 + (1 : Int)) ≤ (9223372036854775807 : Int)))) = true ∧
          ∀ _ : Nat → Nat, ∃ R' : Out → List (Ref × List A) → Prop, Holds Try.prog 81 [(A.d (D.lit (.int .u8 x2)))] [] R' ∧
          (∀ v H', R' (.ret v) H' → ∃ x7 : List D, v = (A.agg x7) ∧ H' = [] ∧
           (tB ((x7.length : Int) == (6 : Int))) = true ∧
           R (.ret (A.agg x7)) [((Ref.up q0), [(A.d (D.lit (bytesV x5))), (A.d (D.lit (.int .i64 (x6 + (1 : Int)))))])]) ∧
          (∀ x7v H', R' (.pan x7v) H' → H' = [] ∧
           R (.pan x7v) [((Ref.up q0), [(A.d (D.lit (bytesV x5))), (A.d (D.lit (.int .i64 (x6 + (1 : Int)))))])])) ∧
         (∀ x5v H', R' (.pan x5v) H' → ∃ x6 : List UInt8, ∃ x7 : Int, H' = [(Ref.up (Ref.up q0), [(A.d (D.lit (bytesV x6))), (A.d (D.lit (.int .i64 x7)))])] ∧
          R (.pan x5v) [((Ref.up q0), [(A.d (D.lit (bytesV x6))), (A.d (D.lit (.int .i64 x7)))])])))))))) ∧
  (∀ x2v H', R' (.pan x2v) H' → ∃ x3 : List UInt8, ∃ x4 : Int, H' = [(Ref.up (Ref.up q0), [(A.d (D.lit (bytesV x3))), (A.d (D.lit (.int .i64 x4)))])] ∧
   R (.pan x2v) [((Ref.up q0), [(A.d (D.lit (bytesV x3))), (A.d (D.lit (.int .i64 x4)))])])) :
    Holds Try.prog 73 [(A.ptr (Ref.up q0) 0)] [((Ref.up q0), [(A.d (D.lit (bytesV x0))), (A.d (D.lit (.int .i64 x1)))])] R :=
  walk (c := ⟨Try.prog, 116, true, [0, 2, 3, 4, 5, 8, 26, 31, 36, 48, 61, 76, 89]⟩) (op := { lat := [13] }) (fn := Try.f73) (args := [.ptr (.up 0) 0]) (K := [(.up 0, [.c (.o1 .cs (.var 0)), .c (.o1 (.ci .i64) (.var 1))])]) (nv := 2) (depth := 7) (up := upOf [q0]) (ρ := envOf [.s x0, .i x1])
    rfl rfl rfl rfl rfl (by decide) (by decide) (by decide) (by decide) rfl (by simp [bxDen, RRef.den, upOf]) (T_of (by kernel_rfl) h)
theorem w77 {R : Out → List (Ref × List A) → Prop} (x0 : List UInt8) (x1 : Int) (q0 : Ref) (h : (tB (decide ((-9223372036854775808 : Int) ≤ (x1 + (1 : Int))))) = true ∧
  (tB (decide ((x1 + (1 : Int)) ≤ (9223372036854775807 : Int)))) = true ∧
  ∀ _ : Nat → Nat, ∃ R' : Out → List (Ref × List A) → Prop, Holds Try.prog 49 [(A.ptr (.up (Ref.up q0)) 0)] [(Ref.up (Ref.up q0), [(A.d (D.lit (bytesV x0))), (A.d (D.lit (.int .i64 (x1 + (1 : Int)))))])] R' ∧
  (∀ v H', R' (.ret v) H' → ∃ x2 : Int, ∃ x3 : List UInt8, ∃ x4 : Int, v = (A.d (D.lit (.int .u8 x2))) ∧ H' = [(Ref.up (Ref.up q0), [(A.d (D.lit (bytesV x3))), (A.d (D.lit (.int .i64 x4)))])] ∧
   ((tB (x2 == (41 : Int))) = true →
    (tB (decide ((-9223372036854775808 : Int) ≤ (x4 + (1 : Int))))) = true ∧
    (tB (decide ((x4 + (1 : Int)) ≤ (9223372036854775807 : Int)))) = true ∧
    R (.ret (A.agg ((D.lit (.int .i64 (1 : Int))) :: ((D.lit (.int .u64 (0 : Int))) :: ((D.lit (.int .u64 (0 : Int))) :: ((D.lit (.int .u64 (0 : Int))) :: ((D.lit (.int .u64 (0 : Int))) :: ((D.slc ([] : List (List D))) :: ([] : List D))))))))) [((Ref.up q0), [(A.d (D.lit (bytesV x3))), (A.d (D.lit (.int .i64 (x4 + (1 : Int)))))])]) ∧
   ((tB (x2 == (41 : Int))) = false →
    ∀ _ : Nat → Nat, ∃ R' : Out → List (Ref × List A) → Prop, Holds Try.prog 37 [(A.ptr (.up (Ref.up q0)) 0)] [(Ref.up (Ref.up q0), [(A.d (D.lit (bytesV x3))), (A.d (D.lit (.int .i64 x4)))])] R' ∧
    (∀ v H', R' (.ret v) H' → ∃ x5 : List D, ∃ x6 : List UInt8, ∃ x7 : Int, v = (A.agg x5) ∧ H' = [(Ref.up (Ref.up q0), [(A.d (D.lit (bytesV x6))), (A.d (D.lit (.int .i64 x7)))])] ∧
     (tB ((x5.length : Int) == (6 : Int))) = true ∧
     ∀ _ : Nat → Nat, ∃ R' : Out → List (Ref × List A) → Prop, Holds Try.prog 49 [(A.ptr (.up (Ref.up q0)) 0)] [(Ref.up (Ref.up q0), [(A.d (D.lit (bytesV x6))), (A.d (D.lit (.int .i64 x7)))])] R' ∧
     (∀ v H', R' (.ret v) H' → ∃ x8 : Int, ∃ x9 : List UInt8, ∃ x10 : Int, v = (A.d (D.lit (.int .u8 x8))) ∧ H' = [(Ref.up (Ref.up q0), [(A.d (D.lit (bytesV x9))), (A.d (D.lit (.int .i64 x10)))])] ∧
      ((!(tB (x8 == (41 : Int)))) = true →
       ∀ _ : Nat → Nat, ∃ R' : Out → List (Ref × List A) → Prop, Holds Try.prog 38 [(A.ptr (.up (Ref.up q0)) 0), (A.d (D.lit (.int .i64 x10)))] [(Ref.up (Ref.up q0), [(A.d (D.lit (bytesV x9))), (A.d (D.lit (.int .i64 x10)))])] R' ∧
       (∀ v H', R' (.ret v) H' → ∃ x11 : List UInt8, ∃ x12 : Int, v = (A.tup []) ∧ H' = [(Ref.up (Ref.up q0), [(A.d (D.lit (bytesV x11))), (A.d (D.lit (.int .i64 x12)))])] ∧
        (tB (decide ((-9223372036854775808 : Int) ≤ (x12 + (1 : Int))))) = true ∧
        (tB (decide ((x12 + (1 : Int)) ≤ (9223372036854775807 : Int)))) = true ∧
        R (.ret (A.agg x5)) [((Ref.up q0), [(A.d (D.lit (bytesV x11))), (A.d (D.lit (.int .i64 (x12 + (1 : Int)))))])]) ∧
       (∀ x11v H', R' (.pan x11v) H' → ∃ x12 : List UInt8, ∃ x13 : Int, H' = [(Ref.up (Ref.up q0), [(A.d (D.lit (bytesV x12))), (A.d (D.lit (.int .i64 x13)))])] ∧
        R (.pan x11v) [((Ref.up q0), [(A.d (D.lit (bytesV x12))), (A.d (D.lit (.int .i64 x13)))])])) ∧
      ((!(tB (x8 == (41 : Int)))) = false →
       (tB (decide ((-9223372036854775808 : Int) ≤ (x10 + (1 : Int))))) = true ∧
       (tB (decide ((x10 + (1 : Int)) ≤ (9223372036854775807 : Int)))) = true ∧
       R (.ret (A.agg x5)) [((Ref.up q0), [(A.d (D.lit (bytesV x9))), (A.d (D.lit (.int .i64 (x10 + (1 : Int)))))])])) ∧
     (∀ x8v H', R' (.pan x8v) H' → ∃ x9 : List UInt8, ∃ x10 : Int, H' = [(Ref.up (Ref.up q0), [(A.d (D.lit (bytesV x9))), (A.d (D.lit (.int .i64 x10)))])] ∧
      R (.pan x8v) [((Ref.up q0), [(A.d (D.lit (bytesV x9))), (A.d (D.lit (.int .i64 x10)))])])) ∧
    (∀ x5v H', R' (.pan x5v) H' → ∃ x6 : List UInt8, ∃ x7 : Int, H' = [(Ref.up (Ref.up q0), [(A.d (D.lit (bytesV x6))), (A.d (D.lit (.int .i64 x7)))])] ∧
     R (.pan x5v) [((Ref.up q0), [(A.d (D.lit (bytesV x6))), (A.d (D.lit (.int .i64 x7)))])]))) ∧
  (∀ x2v H', R' (.pan x2v) H' → ∃ x3 : List UInt8, ∃ x4 : Int, H' = [(Ref.up (Ref.up q0), [(A.d (D.lit (bytesV x3))), (A.d (D.lit (.int .i64 x4)))])] ∧
   R (.pan x2v) [((Ref.up q0), [(A.d (D.lit (bytesV x3))), (A.d (D.lit (.int .i64 x4)))])])) :
    Holds Try.prog 77 [(A.ptr (Ref.up q0) 0)] [((Ref.up q0), [(A.d (D.lit (bytesV x0))), (A.d (D.lit (.int .i64 x1)))])] R :=
  walk (c := ⟨Try.prog, 41, true, [0, 2, 3, 13, 26]⟩) (op := {  }) (fn := Try.f77) (args := [.ptr (.up 0) 0]) (K := [(.up 0, [.c (.o1 .cs (.var 0)), .c (.o1 (.ci .i64) (.var 1))])]) (nv := 2) (depth := 6) (up := upOf [q0]) (ρ := envOf [.s x0, .i x1])
    rfl rfl rfl rfl rfl (by decide) (by decide) (by decide) (by decide) rfl (by simp [bxDen, RRef.den, upOf]) (T_of (by kernel_rfl) h)
theorem w78 {R : Out → List (Ref × List A) → Prop} (x0 : List UInt8) (x1 : Int) (q0 : Ref) (h : (tB (decide ((-9223372036854775808 : Int) ≤ (x1 + (1 : Int))))) = true ∧
  (tB (decide ((x1 + (1 : Int)) ≤ (9223372036854775807 : Int)))) = true ∧
  ∀ _ : Nat → Nat, ∃ R' : Out → List (Ref × List A) → Prop, Holds Try.prog 49 [(A.ptr (.up (Ref.up q0)) 0)] [(Ref.up (Ref.up q0), [(A.d (D.lit (bytesV x0))), (A.d (D.lit (.int .i64 (x1 + (1 : Int)))))])] R' ∧
  (∀ v H', R' (.ret v) H' → ∃ x2 : Int, ∃ x3 : List UInt8, ∃ x4 : Int, v = (A.d (D.lit (.int .u8 x2))) ∧ H' = [(Ref.up (Ref.up q0), [(A.d (D.lit (bytesV x3))), (A.d (D.lit (.int .i64 x4)))])] ∧
   ((tB (x2 == (94 : Int))) = true →
    (tB (decide ((-9223372036854775808 : Int) ≤ (x4 + (1 : Int))))) = true ∧
    (tB (decide ((x4 + (1 : Int)) ≤ (9223372036854775807 : Int)))) = true ∧
    ∃ (I0_0 : Bool → D → D → D → D → List UInt8 → Int → Prop) (M0_0 : Bool → D → D → D → D → List UInt8 → Int → Nat), I0_0 true (D.lit (.int .u64 (0 : Int))) (D.lit (.int .u64 (0 : Int))) (D.lit (.int .u64 (0 : Int))) (D.lit (.int .u64 (0 : Int))) x3 (x4 + (1 : Int)) ∧
    (∀ (x5 : Bool) (x6 : D) (x7 : D) (x8 : D) (x9 : D) (x10 : List UInt8) (x11 : Int) , I0_0 x5 x6 x7 x8 x9 x10 x11 →
     ((!x5) = true →
      ∀ _ : Nat → Nat, ∃ R' : Out → List (Ref × List A) → Prop, Holds Try.prog 49 [(A.ptr (.up (Ref.up q0)) 0)] [(Ref.up (Ref.up q0), [(A.d (D.lit (bytesV x10))), (A.d (D.lit (.int .i64 x11)))])] R' ∧
      (∀ v H', R' (.ret v) H' → ∃ x12 : Int, ∃ x13 : List UInt8, ∃ x14 : Int, v = (A.d (D.lit (.int .u8 x12))) ∧ H' = [(Ref.up (Ref.up q0), [(A.d (D.lit (bytesV x13))), (A.d (D.lit (.int .i64 x14)))])] ∧
       ((!(tB (x12 == (93 : Int)))) = true →
        ∀ _ : Nat → Nat, ∃ R' : Out → List (Ref × List A) → Prop, Holds Try.prog 90 [(A.ptr (.up (Ref.up q0)) 0), (A.d (D.lit (.int .u8 (0 : Int))))] [(Ref.up (Ref.up q0), [(A.d (D.lit (bytesV x13))), (A.d (D.lit (.int .i64 x14)))])] R' ∧
        (∀ v H', R' (.ret v) H' → ∃ x15 : Int, ∃ x16 : List UInt8, ∃ x17 : Int, v = (A.d (D.lit (.int .u8 x15))) ∧ H' = [(Ref.up (Ref.up q0), [(A.d (D.lit (bytesV x16))), (A.d (D.lit (.int .i64 x17)))])] ∧
         ∀ _ : Nat → Nat, ∃ R' : Out → List (Ref × List A) → Prop, Holds Try.prog 49 [(A.ptr (.up (Ref.up q0)) 0)] [(Ref.up (Ref.up q0), [(A.d (D.lit (bytesV x16))), (A.d (D.lit (.int .i64 x17)))])] R' ∧
         (∀ v H', R' (.ret v) H' → ∃ x18 : Int, ∃ x19 : List UInt8, ∃ x20 : Int, v = (A.d (D.lit (.int .u8 x18))) ∧ H' = [(Ref.up (Ref.up q0), [(A.d (D.lit (bytesV x19))), (A.d (D.lit (.int .i64 x20)))])] ∧
          ((tB (x18 == (45 : Int))) = true →
           (tB (decide ((-9223372036854775808 : Int) ≤ (x20 + (1 : Int))))) = true ∧
           (tB (decide ((x20 + (1 : Int)) ≤ (9223372036854775807 : Int)))) = true ∧
           ∀ _ : Nat → Nat, ∃ R' : Out → List (Ref × List A) → Prop, Holds Try.prog 90 [(A.ptr (.up (Ref.up q0)) 0), (A.d (D.lit (.int .u8 x15)))] [(Ref.up (Ref.up q0), [(A.d (D.lit (bytesV x19))), (A.d (D.lit (.int .i64 (x20 + (1 : Int)))))])] R' ∧
           (∀ v H', R' (.ret v) H' → ∃ x21 : Int, ∃ x22 : List UInt8, ∃ x23 : Int, v = (A.d (D.lit (.int .u8 x21))) ∧ H' = [(Ref.up (Ref.up q0), [(A.d (D.lit (bytesV x22))), (A.d (D.lit (.int .i64 x23)))])] ∧
            ∃ x24 : List D, (∀ _ : Nat → Nat, Holds Try.prog 79 [(A.d (D.lit (.int .u8 x15))), (A.d (D.lit (.int .u8 x21)))] [] (Reads [] (A.agg x24))) ∧
            ∀ _ : Nat → Nat, ∃ R' : Out → List (Ref × List A) → Prop, Holds Try.prog 91 [(A.agg (x6 :: (x7 :: (x8 :: (x9 :: ([] : List D)))))), (A.agg x24)] [] R' ∧
            (∀ v H', R' (.ret v) H' → ∃ x25 : List D, v = (A.agg x25) ∧ H' = [] ∧
             (tB ((x25.length : Int) == (4 : Int))) = true ∧
             I0_0 false (x25.getD 0 D0) (x25.getD 1 D0) (x25.getD 2 D0) (x25.getD 3 D0) x22 x23 ∧ M0_0 false (x25.getD 0 D0) (x25.getD 1 D0) (x25.getD 2 D0) (x25.getD 3 D0) x22 x23 < M0_0 x5 x6 x7 x8 x9 x10 x11) ∧
            (∀ x25v H', R' (.pan x25v) H' → H' = [] ∧
             R (.pan x25v) [((Ref.up q0), [(A.d (D.lit (bytesV x22))), (A.d (D.lit (.int .i64 x23)))])])) ∧
           (∀ x21v H', R' (.pan x21v) H' → ∃ x22 : List UInt8, ∃ x23 : Int, H' = [(Ref.up (Ref.up q0), [(A.d (D.lit (bytesV x22))), (A.d (D.lit (.int .i64 x23)))])] ∧
            R (.pan x21v) [((Ref.up q0), [(A.d (D.lit (bytesV x22))), (A.d (D.lit (.int .i64 x23)))])])) ∧
          ((tB (x18 == (45 : Int))) = false →
           ∃ x21 : List D, (∀ _ : Nat → Nat, Holds Try.prog 79 [(A.d (D.lit (.int .u8 x15))), (A.d (D.lit (.int .u8 x15)))] [] (Reads [] (A.agg x21))) ∧
           ∀ _ : Nat → Nat, ∃ R' : Out → List (Ref × List A) → Prop, Holds Try.prog 91 [(A.agg (x6 :: (x7 :: (x8 :: (x9 :: ([] : List D)))))), (A.agg x21)] [] R' ∧
           (∀ v H', R' (.ret v) H' → ∃ x22 : List D, v = (A.agg x22) ∧ H' = [] ∧
            (tB ((x22.length : Int) == (4 : Int))) = true ∧
            I0_0 false (x22.getD 0 D0) (x22.getD 1 D0) (x22.getD 2 D0) (x22.getD 3 D0) x19 x20 ∧ M0_0 false (x22.getD 0 D0) (x22.getD 1 D0) (x22.getD 2 D0) (x22.getD 3 D0) x19 x20 < M0_0 x5 x6 x7 x8 x9 x10 x11) ∧
           (∀ x22v H', R' (.pan x22v) H' → H' = [] ∧
            R (.pan x22v) [((Ref.up q0), [(A.d (D.lit (bytesV x19))), (A.d (D.lit (.int .i64 x20)))])]))) ∧
         (∀ x18v H', R' (.pan x18v) H' → ∃ x19 : List UInt8, ∃ x20 : Int, H' = [(Ref.up (Ref.up q0), [(A.d (D.lit (bytesV x19))), (A.d (D.lit (.int .i64 x20)))])] ∧
          R (.pan x18v) [((Ref.up q0), [(A.d (D.lit (bytesV x19))), (A.d (D.lit (.int .i64 x20)))])])) ∧
        (∀ x15v H', R' (.pan x15v) H' → ∃ x16 : List UInt8, ∃ x17 : Int, H' = [(Ref.up (Ref.up q0), [(A.d (D.lit (bytesV x16))), (A.d (D.lit (.int .i64 x17)))])] ∧
         R (.pan x15v) [((Ref.up q0), [(A.d (D.lit (bytesV x16))), (A.d (D.lit (.int .i64 x17)))])])) ∧
       ((!(tB (x12 == (93 : Int)))) = false →
        (tB (decide ((-9223372036854775808 : Int) ≤ (x14 + (1 : Int))))) = true ∧
        (tB (decide ((x14 + (1 : Int)) ≤ (9223372036854775807 : Int)))) = true ∧
        ∀ _ : Nat → Nat, ∃ R' : Out → List (Ref × List A) → Prop, Holds Try.prog 92 [(A.agg (x6 :: (x7 :: (x8 :: (x9 :: ([] : List D))))))] [] R' ∧
        (∀ v H', R' (.ret v) H' → ∃ x15 : List D, v = (A.agg x15) ∧ H' = [] ∧
         (tB ((x15.length : Int) == (4 : Int))) = true ∧
         R (.ret (A.agg ((D.lit (.int .i64 (2 : Int))) :: ((x15.getD 0 D0) :: ((x15.getD 1 D0) :: ((x15.getD 2 D0) :: ((x15.getD 3 D0) :: ((D.slc ([] : List (List D))) :: ([] : List D))))))))) [((Ref.up q0), [(A.d (D.lit (bytesV x13))), (A.d (D.lit (.int .i64 (x14 + (1 : Int)))))])]) ∧
        (∀ x15v H', R' (.pan x15v) H' → H' = [] ∧
         R (.pan x15v) [((Ref.up q0), [(A.d (D.lit (bytesV x13))), (A.d (D.lit (.int .i64 (x14 + (1 : Int)))))])]))) ∧
      (∀ x12v H', R' (.pan x12v) H' → ∃ x13 : List UInt8, ∃ x14 : Int, H' = [(Ref.up (Ref.up q0), [(A.d (D.lit (bytesV x13))), (A.d (D.lit (.int .i64 x14)))])] ∧
       R (.pan x12v) [((Ref.up q0), [(A.d (D.lit (bytesV x13))), (A.d (D.lit (.int .i64 x14)))])])) ∧
     ((!x5) = false →
      ∀ _ : Nat → Nat, ∃ R' : Out → List (Ref × List A) → Prop, Holds Try.prog 90 [(A.ptr (.up (Ref.up q0)) 0), (A.d (D.lit (.int .u8 (0 : Int))))] [(Ref.up (Ref.up q0), [(A.d (D.lit (bytesV x10))), (A.d (D.lit (.int .i64 x11)))])] R' ∧
      (∀ v H', R' (.ret v) H' → ∃ x12 : Int, ∃ x13 : List UInt8, ∃ x14 : Int, v = (A.d (D.lit (.int .u8 x12))) ∧ H' = [(Ref.up (Ref.up q0), [(A.d (D.lit (bytesV x13))), (A.d (D.lit (.int .i64 x14)))])] ∧
       ∀ _ : Nat → Nat, ∃ R' : Out → List (Ref × List A) → Prop, Holds Try.prog 49 [(A.ptr (.up (Ref.up q0)) 0)] [(Ref.up (Ref.up q0), [(A.d (D.lit (bytesV x13))), (A.d (D.lit (.int .i64 x14)))])] R' ∧
       (∀ v H', R' (.ret v) H' → ∃ x15 : Int, ∃ x16 : List UInt8, ∃ x17 : Int, v = (A.d (D.lit (.int .u8 x15))) ∧ H' = [(Ref.up (Ref.up q0), [(A.d (D.lit (bytesV x16))), (A.d (D.lit (.int .i64 x17)))])] ∧
        ((tB (x15 == (45 : Int))) = true →
         (tB (decide ((-9223372036854775808 : Int) ≤ (x17 + (1 : Int))))) = true ∧
         (tB (decide ((x17 + (1 : Int)) ≤ (9223372036854775807 : Int)))) = true ∧
         ∀ _ : Nat → Nat, ∃ R' : Out → List (Ref × List A) → Prop, Holds Try.prog 90 [(A.ptr (.up (Ref.up q0)) 0), (A.d (D.lit (.int .u8 x12)))] [(Ref.up (Ref.up q0), [(A.d (D.lit (bytesV x16))), (A.d (D.lit (.int .i64 (x17 + (1 : Int)))))])] R' ∧
         (∀ v H', R' (.ret v) H' → ∃ x18 : Int, ∃ x19 : List UInt8, ∃ x20 : Int, v = (A.d (D.lit (.int .u8 x18))) ∧ H' = [(Ref.up (Ref.up q0), [(A.d (D.lit (bytesV x19))), (A.d (D.lit (.int .i64 x20)))])] ∧
          ∃ x21 : List D, (∀ _ : Nat → Nat, Holds Try.prog 79 [(A.d (D.lit (.int .u8 x12))), (A.d (D.lit (.int .u8 x18)))] [] (Reads [] (A.agg x21))) ∧
          ∀ _ : Nat → Nat, ∃ R' : Out → List (Ref × List A) → Prop, Holds Try.prog 91 [(A.agg (x6 :: (x7 :: (x8 :: (x9 :: ([] : List D)))))), (A.agg x21)] [] R' ∧
          (∀ v H', R' (.ret v) H' → ∃ x22 : List D, v = (A.agg x22) ∧ H' = [] ∧
           (tB ((x22.length : Int) == (4 : Int))) = true ∧
           I0_0 false (x22.getD 0 D0) (x22.getD 1 D0) (x22.getD 2 D0) (x22.getD 3 D0) x19 x20 ∧ M0_0 false (x22.getD 0 D0) (x22.getD 1 D0) (x22.getD 2 D0) (x22.getD 3 D0) x19 x20 < M0_0 x5 x6 x7 x8 x9 x10 x11) ∧
          (∀ x22v H', R' (.pan x22v) H' → H' = [] ∧
           R (.pan x22v) [((Ref.up q0), [(A.d (D.lit (bytesV x19))), (A.d (D.lit (.int .i64 x20)))])])) ∧
         (∀ x18v H', R' (.pan x18v) H' → ∃ x19 : List UInt8, ∃ x20 : Int, H' = [(Ref.up (Ref.up q0), [(A.d (D.lit (bytesV x19))), (A.d (D.lit (.int .i64 x20)))])] ∧
          R (.pan x18v) [((Ref.up q0), [(A.d (D.lit (bytesV x19))), (A.d (D.lit (.int .i64 x20)))])])) ∧
        ((tB (x15 == (45 : Int))) = false →
         ∃ x18 : List D, (∀ _ : Nat → Nat, Holds Try.prog 79 [(A.d (D.lit (.int .u8 x12))), (A.d (D.lit (.int .u8 x12)))] [] (Reads [] (A.agg x18))) ∧
         ∀ _ : Nat → Nat, ∃ R' : Out → List (Ref × List A) → Prop, Holds Try.prog 91 [(A.agg (x6 :: (x7 :: (x8 :: (x9 :: ([] : List D)))))), (A.agg x18)] [] R' ∧
         (∀ v H', R' (.ret v) H' → ∃ x19 : List D, v = (A.agg x19) ∧ H' = [] ∧
          (tB ((x19.length : Int) == (4 : Int))) = true ∧
          I0_0 false (x19.getD 0 D0) (x19.getD 1 D0) (x19.getD 2 D0) (x19.getD 3 D0) x16 x17 ∧ M0_0 false (x19.getD 0 D0) (x19.getD 1 D0) (x19.getD 2 D0) (x19.getD 3 D0) x16 x17 < M0_0 x5 x6 x7 x8 x9 x10 x11) ∧
         (∀ x19v H', R' (.pan x19v) H' → H' = [] ∧
          R (.pan x19v) [((Ref.up q0), [(A.d (D.lit (bytesV x16))), (A.d (D.lit (.int .i64 x17)))])]))) ∧
       (∀ x15v H', R' (.pan x15v) H' → ∃ x16 : List UInt8, ∃ x17 : Int, H' = [(Ref.up (Ref.up q0), [(A.d (D.lit (bytesV x16))), (A.d (D.lit (.int .i64 x17)))])] ∧
        R (.pan x15v) [((Ref.up q0), [(A.d (D.lit (bytesV x16))), (A.d (D.lit (.int .i64 x17)))])])) ∧
      (∀ x12v H', R' (.pan x12v) H' → ∃ x13 : List UInt8, ∃ x14 : Int, H' = [(Ref.up (Ref.up q0), [(A.d (D.lit (bytesV x13))), (A.d (D.lit (.int .i64 x14)))])] ∧
       R (.pan x12v) [((Ref.up q0), [(A.d (D.lit (bytesV x13))), (A.d (D.lit (.int .i64 x14)))])]))) ∧
    True) ∧
   ((tB (x2 == (94 : Int))) = false →
    ∀ _ : Nat → Nat, ∃ R' : Out → List (Ref × List A) → Prop, Holds Try.prog 49 [(A.ptr (.up (Ref.up q0)) 0)] [(Ref.up (Ref.up q0), [(A.d (D.lit (bytesV x3))), (A.d (D.lit (.int .i64 x4)))])] R' ∧
    (∀ v H', R' (.ret v) H' → ∃ x5 : Int, ∃ x6 : List UInt8, ∃ x7 : Int, v = (A.d (D.lit (.int .u8 x5))) ∧ H' = [(Ref.up (Ref.up q0), [(A.d (D.lit (bytesV x6))), (A.d (D.lit (.int .i64 x7)))])] ∧
     ((tB (x5 == (93 : Int))) = true →
      (tB (decide ((-9223372036854775808 : Int) ≤ (x7 + (1 : Int))))) = true ∧
      (tB (decide ((x7 + (1 : Int)) ≤ (9223372036854775807 : Int)))) = true ∧
      R (.ret (A.agg ((D.lit (.int .i64 (0 : Int))) :: ((D.lit (.int .u64 (0 : Int))) :: ((D.lit (.int .u64 (0 : Int))) :: ((D.lit (.int .u64 (0 : Int))) :: ((D.lit (.int .u64 (0 : Int))) :: ((D.slc ([] : List (List D))) :: ([] : List D))))))))) [((Ref.up q0), [(A.d (D.lit (bytesV x6))), (A.d (D.lit (.int .i64 (x7 + (1 : Int)))))])]) ∧
     ((tB (x5 == (93 : Int))) = false →
      ∃ (I0_0 : Bool → D → D → D → D → List UInt8 → Int → Prop) (M0_0 : Bool → D → D → D → D → List UInt8 → Int → Nat), I0_0 true (D.lit (.int .u64 (0 : Int))) (D.lit (.int .u64 (0 : Int))) (D.lit (.int .u64 (0 : Int))) (D.lit (.int .u64 (0 : Int))) x6 x7 ∧
      (∀ (x8 : Bool) (x9 : D) (x10 : D) (x11 : D) (x12 : D) (x13 : List UInt8) (x14 : Int) , I0_0 x8 x9 x10 x11 x12 x13 x14 →
       ((!x8) = true →
        ∀ _ : Nat → Nat, ∃ R' : Out → List (Ref × List A) → Prop, Holds Try.prog 49 [(A.ptr (.up (Ref.up q0)) 0)] [(Ref.up (Ref.up q0), [(A.d (D.lit (bytesV x13))), (A.d (D.lit (.int .i64 x14)))])] R' ∧
        (∀ v H', R' (.ret v) H' → ∃ x15 : Int, ∃ x16 : List UInt8, ∃ x17 : Int, v = (A.d (D.lit (.int .u8 x15))) ∧ H' = [(Ref.up (Ref.up q0), [(A.d (D.lit (bytesV x16))), (A.d (D.lit (.int .i64 x17)))])] ∧
         ((!(tB (x15 == (93 : Int)))) = true →
          ∀ _ : Nat → Nat, ∃ R' : Out → List (Ref × List A) → Prop, Holds Try.prog 90 [(A.ptr (.up (Ref.up q0)) 0), (A.d (D.lit (.int .u8 (0 : Int))))] [(Ref.up (Ref.up q0), [(A.d (D.lit (bytesV x16))), (A.d (D.lit (.int .i64 x17)))])] R' ∧
          (∀ v H', R' (.ret v) H' → ∃ x18 : Int, ∃ x19 : List UInt8, ∃ x20 : Int, v = (A.d (D.lit (.int .u8 x18))) ∧ H' = [(Ref.up (Ref.up q0), [(A.d (D.lit (bytesV x19))), (A.d (D.lit (.int .i64 x20)))])] ∧
           ∀ _ : Nat → Nat, ∃ R' : Out → List (Ref × List A) → Prop, Holds Try.prog 49 [(A.ptr (.up (Ref.up q0)) 0)] [(Ref.up (Ref.up q0), [(A.d (D.lit (bytesV x19))), (A.d (D.lit (.int .i64 x20)))])] R' ∧
           (∀ v H', R' (.ret v) H' → ∃ x21 : Int, ∃ x22 : List UInt8, ∃ x23 : Int, v = (A.d (D.lit (.int .u8 x21))) ∧ H' = [(Ref.up (Ref.up q0), [(A.d (D.lit (bytesV x22))), (A.d (D.lit (.int .i64 x23)))])] ∧
            ((tB (x21 == (45 : Int))) = true →
             (tB (decide ((-9223372036854775808 : Int) ≤ (x23 + (1 : Int))))) = true ∧
             (tB (decide ((x23 + (1 : Int)) ≤ (9223372036854775807 : Int)))) = true ∧
             ∀ _ : Nat → Nat, ∃ R' : Out → List (Ref × List A) → Prop, Holds Try.prog 90 [(A.ptr (.up (Ref.up q0)) 0), (A.d (D.lit (.int .u8 x18)))] [(Ref.up (Ref.up q0), [(A.d (D.lit (bytesV x22))), (A.d (D.lit (.int .i64 (x23 + (1 : Int)))))])] R' ∧
             (∀ v H', R' (.ret v) H' → ∃ x24 : Int, ∃ x25 : List UInt8, ∃ x26 : Int, v = (A.d (D.lit (.int .u8 x24))) ∧ H' = [(Ref.up (Ref.up q0), [(A.d (D.lit (bytesV x25))), (A.d (D.lit (.int .i64 x26)))])] ∧
              ∃ x27 : List D, (∀ _ : Nat → Nat, Holds Try.prog 79 [(A.d (D.lit (.int .u8 x18))), (A.d (D.lit (.int .u8 x24)))] [] (Reads [] (A.agg x27))) ∧
              ∀ _ : Nat → Nat, ∃ R' : Out → List (Ref × List A) → Prop, Holds Try.prog 91 [(A.agg (x9 :: (x10 :: (x11 :: (x12 :: ([] : List D)))))), (A.agg x27)] [] R' ∧
              (∀ v H', R' (.ret v) H' → ∃ x28 : List D, v = (A.agg x28) ∧ H' = [] ∧
               (tB ((x28.length : Int) == (4 : Int))) = true ∧
               I0_0 false (x28.getD 0 D0) (x28.getD 1 D0) (x28.getD 2 D0) (x28.getD 3 D0) x25 x26 ∧ M0_0 false (x28.getD 0 D0) (x28.getD 1 D0) (x28.getD 2 D0) (x28.getD 3 D0) x25 x26 < M0_0 x8 x9 x10 x11 x12 x13 x14) ∧
              (∀ x28v H', R' (.pan x28v) H' → H' = [] ∧
               R (.pan x28v) [((Ref.up q0), [(A.d (D.lit (bytesV x25))), (A.d (D.lit (.int .i64 x26)))])])) ∧
             (∀ x24v H', R' (.pan x24v) H' → ∃ x25 : List UInt8, ∃ x26 : Int, H' = [(Ref.up (Ref.up q0), [(A.d (D.lit (bytesV x25))), (A.d (D.lit (.int .i64 x26)))])] ∧
              R (.pan x24v) [((Ref.up q0), [(A.d (D.lit (bytesV x25))), (A.d (D.lit (.int .i64 x26)))])])) ∧
            ((tB (x21 == (45 : Int))) = false →
             ∃ x24 : List D, (∀ _ : Nat → Nat, Holds Try.prog 79 [(A.d (D.lit (.int .u8 x18))), (A.d (D.lit (.int .u8 x18)))] [] (Reads [] (A.agg x24))) ∧
             ∀ _ : Nat → Nat, ∃ R' : Out → List (Ref × List A) → Prop, Holds Try.prog 91 [(A.agg (x9 :: (x10 :: (x11 :: (x12 :: ([] : List D)))))), (A.agg x24)] [] R' ∧
             (∀ v H', R' (.ret v) H' → ∃ x25 : List D, v = (A.agg x25) ∧ H' = [] ∧
              (tB ((x25.length : Int) == (4 : Int))) = true ∧
              I0_0 false (x25.getD 0 D0) (x25.getD 1 D0) (x25.getD 2 D0) (x25.getD 3 D0) x22 x23 ∧ M0_0 false (x25.getD 0 D0) (x25.getD 1 D0) (x25.getD 2 D0) (x25.getD 3 D0) x22 x23 < M0_0 x8 x9 x10 x11 x12 x13 x14) ∧
             (∀ x25v H', R' (.pan x25v) H' → H' = [] ∧
              R (.pan x25v) [((Ref.up q0), [(A.d (D.lit (bytesV x22))), (A.d (D.lit (.int .i64 x23)))])]))) ∧
           (∀ x21v H', R' (.pan x21v) H' → ∃ x22 : List UInt8, ∃ x23 : Int, H' = [(Ref.up (Ref.up q0), [(A.d (D.lit (bytesV x22))), (A.d (D.lit (.int .i64 x23)))])] ∧
            R (.pan x21v) [((Ref.up q0), [(A.d (D.lit (bytesV x22))), (A.d (D.lit (.int .i64 x23)))])])) ∧
          (∀ x18v H', R' (.pan x18v) H' → ∃ x19 : List UInt8, ∃ x20 : Int, H' = [(Ref.up (Ref.up q0), [(A.d (D.lit (bytesV x19))), (A.d (D.lit (.int .i64 x20)))])] ∧
           R (.pan x18v) [((Ref.up q0), [(A.d (D.lit (bytesV x19))), (A.d (D.lit (.int .i64 x20)))])])) ∧
         ((!(tB (x15 == (93 : Int)))) = false →
          (tB (decide ((-9223372036854775808 : Int) ≤ (x17 + (1 : Int))))) = true ∧
          (tB (decide ((x17 + (1 : Int)) ≤ (9223372036854775807 : Int)))) = true ∧
          R (.ret (A.agg ((D.lit (.int .i64 (2 : Int))) :: (x9 :: (x10 :: (x11 :: (x12 :: ((D.slc ([] : List (List D))) :: ([] : List D))))))))) [((Ref.up q0), [(A.d (D.lit (bytesV x16))), (A.d (D.lit (.int .i64 (x17 + (1 : Int)))))])])) ∧
        (∀ x15v H', R' (.pan x15v) H' → ∃ x16 : List UInt8, ∃ x17 : Int, H' = [(Ref.up (Ref.up q0), [(A.d (D.lit (bytesV x16))), (A.d (D.lit (.int .i64 x17)))])] ∧
         R (.pan x15v) [((Ref.up q0), [(A.d (D.lit (bytesV x16))), (A.d (D.lit (.int .i64 x17)))])])) ∧
       ((!x8) = false →
        ∀ _ : Nat → Nat, ∃ R' : Out → List (Ref × List A) → Prop, Holds Try.prog 90 [(A.ptr (.up (Ref.up q0)) 0), (A.d (D.lit (.int .u8 (0 : Int))))] [(Ref.up (Ref.up q0), [(A.d (D.lit (bytesV x13))), (A.d (D.lit (.int .i64 x14)))])] R' ∧
        (∀ v H', R' (.ret v) H' → ∃ x15 : Int, ∃ x16 : List UInt8, ∃ x17 : Int, v = (A.d (D.lit (.int .u8 x15))) ∧ H' = [(Ref.up (Ref.up q0), [(A.d (D.lit (bytesV x16))), (A.d (D.lit (.int .i64 x17)))])] ∧
         ∀ _ : Nat → Nat, ∃ R' : Out → List (Ref × List A) → Prop, Holds Try.prog 49 [(A.ptr (.up (Ref.up q0)) 0)] [(Ref.up (Ref.up q0), [(A.d (D.lit (bytesV x16))), (A.d (D.lit (.int .i64 x17)))])] R' ∧
         (∀ v H', R' (.ret v) H' → ∃ x18 : Int, ∃ x19 : List UInt8, ∃ x20 : Int, v = (A.d (D.lit (.int .u8 x18))) ∧ H' = [(Ref.up (Ref.up q0), [(A.d (D.lit (bytesV x19))), (A.d (D.lit (.int .i64 x20)))])] ∧
          ((tB (x18 == (45 : Int))) = true →
           (tB (decide ((-9223372036854775808 : Int) ≤ (x20 + (1 : Int))))) = true ∧
           (tB (decide ((x20 + (1 : Int)) ≤ (9223372036854775807 : Int)))) = true ∧
           ∀ _ : Nat → Nat, ∃ R' : Out → List (Ref × List A) → Prop, Holds Try.prog 90 [(A.ptr (.up (Ref.up q0)) 0), (A.d (D.lit (.int .u8 x15)))] [(Ref.up (Ref.up q0), [(A.d (D.lit (bytesV x19))), (A.d (D.lit (.int .i64 (x20 + (1 : Int)))))])] R' ∧
           (∀ v H', R' (.ret v) H' → ∃ x21 : Int, ∃ x22 : List UInt8, ∃ x23 : Int, v = (A.d (D.lit (.int .u8 x21))) ∧ H' = [(Ref.up (Ref.up q0), [(A.d (D.lit (bytesV x22))), (A.d (D.lit (.int .i64 x23)))])] ∧
            ∃ x24 : List D, (∀ _ : Nat → Nat, Holds Try.prog 79 [(A.d (D.lit (.int .u8 x15))), (A.d (D.lit (.int .u8 x21)))] [] (Reads [] (A.agg x24))) ∧
            ∀ _ : Nat → Nat, ∃ R' : Out → List (Ref × List A) → Prop, Holds Try.prog 91 [(A.agg (x9 :: (x10 :: (x11 :: (x12 :: ([] : List D)))))), (A.agg x24)] [] R' ∧
            (∀ v H', R' (.ret v) H' → ∃ x25 : List D, v = (A.agg x25) ∧ H' = [] ∧
             (tB ((x25.length : Int) == (4 : Int))) = true ∧
             I0_0 false (x25.getD 0 D0) (x25.getD 1 D0) (x25.getD 2 D0) (x25.getD 3 D0) x22 x23 ∧ M0_0 false (x25.getD 0 D0) (x25.getD 1 D0) (x25.getD 2 D0) (x25.getD 3 D0) x22 x23 < M0_0 x8 x9 x10 x11 x12 x13 x14) ∧
            (∀ x25v H', R' (.pan x25v) H' → H' = [] ∧
             R (.pan x25v) [((Ref.up q0), [(A.d (D.lit (bytesV x22))), (A.d (D.lit (.int .i64 x23)))])])) ∧
           (∀ x21v H', R' (.pan x21v) H' → ∃ x22 : List UInt8, ∃ x23 : Int, H' = [(Ref.up (Ref.up q0), [(A.d (D.lit (bytesV x22))), (A.d (D.lit (.int .i64 x23)))])] ∧
            R (.pan x21v) [((Ref.up q0), [(A.d (D.lit (bytesV x22))), (A.d (D.lit (.int .i64 x23)))])])) ∧
          ((tB (x18 == (45 : Int))) = false →
           ∃ x21 : List D, (∀ _ : Nat → Nat, Holds Try.prog 79 [(A.d (D.lit (.int .u8 x15))), (A.d (D.lit (.int .u8 x15)))] [] (Reads [] (A.agg x21))) ∧
           ∀ _ : Nat → Nat, ∃ R' : Out → List (Ref × List A) → Prop, Holds Try.prog 91 [(A.agg (x9 :: (x10 :: (x11 :: (x12 :: ([] : List D)))))), (A.agg x21)] [] R' ∧
           (∀ v H', R' (.ret v) H' → ∃ x22 : List D, v = (A.agg x22) ∧ H' = [] ∧
            (tB ((x22.length : Int) == (4 : Int))) = true ∧
            I0_0 false (x22.getD 0 D0) (x22.getD 1 D0) (x22.getD 2 D0) (x22.getD 3 D0) x19 x20 ∧ M0_0 false (x22.getD 0 D0) (x22.getD 1 D0) (x22.getD 2 D0) (x22.getD 3 D0) x19 x20 < M0_0 x8 x9 x10 x11 x12 x13 x14) ∧
           (∀ x22v H', R' (.pan x22v) H' → H' = [] ∧
            R (.pan x22v) [((Ref.up q0), [(A.d (D.lit (bytesV x19))), (A.d (D.lit (.int .i64 x20)))])]))) ∧
         (∀ x18v H', R' (.pan x18v) H' → ∃ x19 : List UInt8, ∃ x20 : Int, H' = [(Ref.up (Ref.up q0), [(A.d (D.lit (bytesV x19))), (A.d (D.lit (.int .i64 x20)))])] ∧
          R (.pan x18v) [((Ref.up q0), [(A.d (D.lit (bytesV x19))), (A.d (D.lit (.int .i64 x20)))])])) ∧
        (∀ x15v H', R' (.pan x15v) H' → ∃ x16 : List UInt8, ∃ x17 : Int, H' = [(Ref.up (Ref.up q0), [(A.d (D.lit (bytesV x16))), (A.d (D.lit (.int .i64 x17)))])] ∧
         R (.pan x15v) [((Ref.up q0), [(A.d (D.lit (bytesV x16))), (A.d (D.lit (.int .i64 x17)))])]))) ∧
      True)) ∧
    (∀ x5v H', R' (.pan x5v) H' → ∃ x6 : List UInt8, ∃ x7 : Int, H' = [(Ref.up (Ref.up q0), [(A.d (D.lit (bytesV x6))), (A.d (D.lit (.int .i64 x7)))])] ∧
     R (.pan x5v) [((Ref.up q0), [(A.d (D.lit (bytesV x6))), (A.d (D.lit (.int .i64 x7)))])]))) ∧
  (∀ x2v H', R' (.pan x2v) H' → ∃ x3 : List UInt8, ∃ x4 : Int, H' = [(Ref.up (Ref.up q0), [(A.d (D.lit (bytesV x3))), (A.d (D.lit (.int .i64 x4)))])] ∧
   R (.pan x2v) [((Ref.up q0), [(A.d (D.lit (bytesV x3))), (A.d (D.lit (.int .i64 x4)))])])) :
    Holds Try.prog 78 [(A.ptr (Ref.up q0) 0)] [((Ref.up q0), [(A.d (D.lit (bytesV x0))), (A.d (D.lit (.int .i64 x1)))])] R :=
  walk (c := ⟨Try.prog, 80, true, [0, 2, 3, 4, 5, 6, 7, 18, 32, 46, 52, 75]⟩) (op := {  }) (fn := Try.f78) (args := [.ptr (.up 0) 0]) (K := [(.up 0, [.c (.o1 .cs (.var 0)), .c (.o1 (.ci .i64) (.var 1))])]) (nv := 2) (depth := 7) (up := upOf [q0]) (ρ := envOf [.s x0, .i x1])
    rfl rfl rfl rfl rfl (by decide) (by decide) (by decide) (by decide) rfl (by simp [bxDen, RRef.den, upOf]) (T_of (by kernel_rfl) h)
theorem w81 {R : Out → List (Ref × List A) → Prop} (x0 : Int) (h : ∀ _ : Nat → Nat, ∃ R' : Out → List (Ref × List A) → Prop, Holds Try.prog 79 [(A.d (D.lit (.int .u8 x0))), (A.d (D.lit (.int .u8 x0)))] [] R' ∧
  (∀ v H', R' (.ret v) H' → ∃ x1 : List D, v = (A.agg x1) ∧ H' = [] ∧
   (tB ((x1.length : Int) == (4 : Int))) = true ∧
   R (.ret (A.agg ((D.lit (.int .i64 (2 : Int))) :: ((x1.getD 0 D0) :: ((x1.getD 1 D0) :: ((x1.getD 2 D0) :: ((x1.getD 3 D0) :: ((D.slc ([] : List (List D))) :: ([] : List D))))))))) []) ∧
  (∀ x1v H', R' (.pan x1v) H' → H' = [] ∧
   R (.pan x1v) [])) :
    Holds Try.prog 81 [(A.d (D.lit (.int .u8 x0)))] [] R :=
  walk (c := ⟨Try.prog, 7, true, [0, 2]⟩) (op := {  }) (fn := Try.f81) (args := [.c (.o1 (.ci .u8) (.var 0))]) (K := []) (nv := 1) (depth := 3) (up := upOf []) (ρ := envOf [.i x0])
    rfl rfl rfl rfl rfl (by decide) (by decide) (by decide) (by decide) rfl (by simp [bxDen, RRef.den, upOf]) (T_of (by kernel_rfl) h)
theorem w82 {R : Out → List (Ref × List A) → Prop} (x0 : List UInt8) (x1 : Int) (x2 : Int) (q0 : Ref) (h : (tB (decide ((-9223372036854775808 : Int) ≤ (x1 + (1 : Int))))) = true ∧
  (tB (decide ((x1 + (1 : Int)) ≤ (9223372036854775807 : Int)))) = true ∧
  ∀ _ : Nat → Nat, ∃ R' : Out → List (Ref × List A) → Prop, Holds Try.prog 49 [(A.ptr (.up (Ref.up q0)) 0)] [(Ref.up (Ref.up q0), [(A.d (D.lit (bytesV x0))), (A.d (D.lit (.int .i64 (x1 + (1 : Int)))))])] R' ∧
  (∀ v H', R' (.ret v) H' → ∃ x3 : Int, ∃ x4 : List UInt8, ∃ x5 : Int, v = (A.d (D.lit (.int .u8 x3))) ∧ H' = [(Ref.up (Ref.up q0), [(A.d (D.lit (bytesV x4))), (A.d (D.lit (.int .i64 x5)))])] ∧
   ((tB (decide ((x4.length : Int) ≤ x5))) = true →
    ∀ _ : Nat → Nat, ∃ R' : Out → List (Ref × List A) → Prop, Holds Try.prog 38 [(A.ptr (.up (Ref.up q0)) 0), (A.d (D.lit (.int .i64 (x4.length : Int))))] [(Ref.up (Ref.up q0), [(A.d (D.lit (bytesV x4))), (A.d (D.lit (.int .i64 x5)))])] R' ∧
    (∀ v H', R' (.ret v) H' → ∃ x6 : List UInt8, ∃ x7 : Int, v = (A.tup []) ∧ H' = [(Ref.up (Ref.up q0), [(A.d (D.lit (bytesV x6))), (A.d (D.lit (.int .i64 x7)))])] ∧
     ((tB (decide (x3 < x2))) = true →
      ∀ _ : Nat → Nat, ∃ R' : Out → List (Ref × List A) → Prop, Holds Try.prog 38 [(A.ptr (.up (Ref.up q0)) 0), (A.d (D.lit (.int .i64 x7)))] [(Ref.up (Ref.up q0), [(A.d (D.lit (bytesV x6))), (A.d (D.lit (.int .i64 x7)))])] R' ∧
      (∀ v H', R' (.ret v) H' → ∃ x8 : List UInt8, ∃ x9 : Int, v = (A.tup []) ∧ H' = [(Ref.up (Ref.up q0), [(A.d (D.lit (bytesV x8))), (A.d (D.lit (.int .i64 x9)))])] ∧
       (tB (decide ((-9223372036854775808 : Int) ≤ (x9 + (1 : Int))))) = true ∧
       (tB (decide ((x9 + (1 : Int)) ≤ (9223372036854775807 : Int)))) = true ∧
       R (.ret (A.d (D.lit (.int .u8 x3)))) [((Ref.up q0), [(A.d (D.lit (bytesV x8))), (A.d (D.lit (.int .i64 (x9 + (1 : Int)))))])]) ∧
      (∀ x8v H', R' (.pan x8v) H' → ∃ x9 : List UInt8, ∃ x10 : Int, H' = [(Ref.up (Ref.up q0), [(A.d (D.lit (bytesV x9))), (A.d (D.lit (.int .i64 x10)))])] ∧
       R (.pan x8v) [((Ref.up q0), [(A.d (D.lit (bytesV x9))), (A.d (D.lit (.int .i64 x10)))])])) ∧
     ((tB (decide (x3 < x2))) = false →
      (tB (decide ((-9223372036854775808 : Int) ≤ (x7 + (1 : Int))))) = true ∧
      (tB (decide ((x7 + (1 : Int)) ≤ (9223372036854775807 : Int)))) = true ∧
      R (.ret (A.d (D.lit (.int .u8 x3)))) [((Ref.up q0), [(A.d (D.lit (bytesV x6))), (A.d (D.lit (.int .i64 (x7 + (1 : Int)))))])])) ∧
    (∀ x6v H', R' (.pan x6v) H' → ∃ x7 : List UInt8, ∃ x8 : Int, H' = [(Ref.up (Ref.up q0), [(A.d (D.lit (bytesV x7))), (A.d (D.lit (.int .i64 x8)))])] ∧
     R (.pan x6v) [((Ref.up q0), [(A.d (D.lit (bytesV x7))), (A.d (D.lit (.int .i64 x8)))])])) ∧
   ((tB (decide ((x4.length : Int) ≤ x5))) = false →
    ((tB (x3 == (120 : Int))) = true →
     ∀ _ : Nat → Nat, ∃ R' : Out → List (Ref × List A) → Prop, Holds Try.prog 93 [(A.ptr (.up (Ref.up q0)) 0), (A.d (D.lit (.int .u8 x2)))] [(Ref.up (Ref.up q0), [(A.d (D.lit (bytesV x4))), (A.d (D.lit (.int .i64 x5)))])] R' ∧
     (∀ v H', R' (.ret v) H' → ∃ x6 : Int, ∃ x7 : List UInt8, ∃ x8 : Int, v = (A.d (D.lit (.int .u8 x6))) ∧ H' = [(Ref.up (Ref.up q0), [(A.d (D.lit (bytesV x7))), (A.d (D.lit (.int .i64 x8)))])] ∧
      R (.ret (A.d (D.lit (.int .u8 x6)))) [((Ref.up q0), [(A.d (D.lit (bytesV x7))), (A.d (D.lit (.int .i64 x8)))])]) ∧
     (∀ x6v H', R' (.pan x6v) H' → ∃ x7 : List UInt8, ∃ x8 : Int, H' = [(Ref.up (Ref.up q0), [(A.d (D.lit (bytesV x7))), (A.d (D.lit (.int .i64 x8)))])] ∧
      R (.pan x6v) [((Ref.up q0), [(A.d (D.lit (bytesV x7))), (A.d (D.lit (.int .i64 x8)))])])) ∧
    ((tB (x3 == (120 : Int))) = false →
     ((tB (x3 == (110 : Int))) = true →
      ((tB (decide ((10 : Int) < x2))) = true →
       ∀ _ : Nat → Nat, ∃ R' : Out → List (Ref × List A) → Prop, Holds Try.prog 38 [(A.ptr (.up (Ref.up q0)) 0), (A.d (D.lit (.int .i64 x5)))] [(Ref.up (Ref.up q0), [(A.d (D.lit (bytesV x4))), (A.d (D.lit (.int .i64 x5)))])] R' ∧
       (∀ v H', R' (.ret v) H' → ∃ x6 : List UInt8, ∃ x7 : Int, v = (A.tup []) ∧ H' = [(Ref.up (Ref.up q0), [(A.d (D.lit (bytesV x6))), (A.d (D.lit (.int .i64 x7)))])] ∧
        (tB (decide ((-9223372036854775808 : Int) ≤ (x7 + (1 : Int))))) = true ∧
        (tB (decide ((x7 + (1 : Int)) ≤ (9223372036854775807 : Int)))) = true ∧
        R (.ret (A.d (D.lit (.int .u8 (10 : Int))))) [((Ref.up q0), [(A.d (D.lit (bytesV x6))), (A.d (D.lit (.int .i64 (x7 + (1 : Int)))))])]) ∧
       (∀ x6v H', R' (.pan x6v) H' → ∃ x7 : List UInt8, ∃ x8 : Int, H' = [(Ref.up (Ref.up q0), [(A.d (D.lit (bytesV x7))), (A.d (D.lit (.int .i64 x8)))])] ∧
        R (.pan x6v) [((Ref.up q0), [(A.d (D.lit (bytesV x7))), (A.d (D.lit (.int .i64 x8)))])])) ∧
      ((tB (decide ((10 : Int) < x2))) = false →
       (tB (decide ((-9223372036854775808 : Int) ≤ (x5 + (1 : Int))))) = true ∧
       (tB (decide ((x5 + (1 : Int)) ≤ (9223372036854775807 : Int)))) = true ∧
       R (.ret (A.d (D.lit (.int .u8 (10 : Int))))) [((Ref.up q0), [(A.d (D.lit (bytesV x4))), (A.d (D.lit (.int .i64 (x5 + (1 : Int)))))])])) ∧
     ((tB (x3 == (110 : Int))) = false →
      ((tB (x3 == (116 : Int))) = true →
       ((tB (decide ((9 : Int) < x2))) = true →
        ∀ _ : Nat → Nat, ∃ R' : Out → List (Ref × List A) → Prop, Holds Try.prog 38 [(A.ptr (.up (Ref.up q0)) 0), (A.d (D.lit (.int .i64 x5)))] [(Ref.up (Ref.up q0), [(A.d (D.lit (bytesV x4))), (A.d (D.lit (.int .i64 x5)))])] R' ∧
        (∀ v H', R' (.ret v) H' → ∃ x6 : List UInt8, ∃ x7 : Int, v = (A.tup []) ∧ H' = [(Ref.up (Ref.up q0), [(A.d (D.lit (bytesV x6))), (A.d (D.lit (.int .i64 x7)))])] ∧
         (tB (decide ((-9223372036854775808 : Int) ≤ (x7 + (1 : Int))))) = true ∧
         (tB (decide ((x7 + (1 : Int)) ≤ (9223372036854775807 : Int)))) = true ∧
         R (.ret (A.d (D.lit (.int .u8 (9 : Int))))) [((Ref.up q0), [(A.d (D.lit (bytesV x6))), (A.d (D.lit (.int .i64 (x7 + (1 : Int)))))])]) ∧
        (∀ x6v H', R' (.pan x6v) H' → ∃ x7 : List UInt8, ∃ x8 : Int, H' = [(Ref.up (Ref.up q0), [(A.d (D.lit (bytesV x7))), (A.d (D.lit (.int .i64 x8)))])] ∧
         R (.pan x6v) [((Ref.up q0), [(A.d (D.lit (bytesV x7))), (A.d (D.lit (.int .i64 x8)))])])) ∧
       ((tB (decide ((9 : Int) < x2))) = false →
        (tB (decide ((-9223372036854775808 : Int) ≤ (x5 + (1 : Int))))) = true ∧
        (tB (decide ((x5 + (1 : Int)) ≤ (9223372036854775807 : Int)))) = true ∧
        R (.ret (A.d (D.lit (.int .u8 (9 : Int))))) [((Ref.up q0), [(A.d (D.lit (bytesV x4))), (A.d (D.lit (.int .i64 (x5 + (1 : Int)))))])])) ∧
      ((tB (x3 == (116 : Int))) = false →
       ((tB (x3 == (114 : Int))) = true →
        ((tB (decide ((13 : Int) < x2))) = true →
         ∀ _ : Nat → Nat, ∃ R' : Out → List (Ref × List A) → Prop, Holds Try.prog 38 [(A.ptr (.up (Ref.up q0)) 0), (A.d (D.lit (.int .i64 x5)))] [(Ref.up (Ref.up q0), [(A.d (D.lit (bytesV x4))), (A.d (D.lit (.int .i64 x5)))])] R' ∧
         (∀ v H', R' (.ret v) H' → ∃ x6 : List UInt8, ∃ x7 : Int, v = (A.tup []) ∧ H' = [(Ref.up (Ref.up q0), [(A.d (D.lit (bytesV x6))), (A.d (D.lit (.int .i64 x7)))])] ∧
          (tB (decide ((-9223372036854775808 : Int) ≤ (x7 + (1 : Int))))) = true ∧
          (tB (decide ((x7 + (1 : Int)) ≤ (9223372036854775807 : Int)))) = true ∧
          R (.ret (A.d (D.lit (.int .u8 (13 : Int))))) [((Ref.up q0), [(A.d (D.lit (bytesV x6))), (A.d (D.lit (.int .i64 (x7 + (1 : Int)))))])]) ∧
         (∀ x6v H', R' (.pan x6v) H' → ∃ x7 : List UInt8, ∃ x8 : Int, H' = [(Ref.up (Ref.up q0), [(A.d (D.lit (bytesV x7))), (A.d (D.lit (.int .i64 x8)))])] ∧
          R (.pan x6v) [((Ref.up q0), [(A.d (D.lit (bytesV x7))), (A.d (D.lit (.int .i64 x8)))])])) ∧
        ((tB (decide ((13 : Int) < x2))) = false →
         (tB (decide ((-9223372036854775808 : Int) ≤ (x5 + (1 : Int))))) = true ∧
         (tB (decide ((x5 + (1 : Int)) ≤ (9223372036854775807 : Int)))) = true ∧
         R (.ret (A.d (D.lit (.int .u8 (13 : Int))))) [((Ref.up q0), [(A.d (D.lit (bytesV x4))), (A.d (D.lit (.int .i64 (x5 + (1 : Int)))))])])) ∧
       ((tB (x3 == (114 : Int))) = false →
        ∀ _ : Nat → Nat, ∃ R' : Out → List (Ref × List A) → Prop, Holds Try.prog 83 [(A.d (D.lit (bytesV ([40, 41, 91, 93, 123, 125, 124, 42, 43, 63, 46, 92, 45, 94] : List UInt8)))), (A.d (D.lit (.int .u8 x3)))] [] R' ∧
        (∀ v H', R' (.ret v) H' → ∃ x6 : Int, v = (A.d (D.lit (.int .i64 x6))) ∧ H' = [] ∧
         ((tB (decide (x6 < (0 : Int)))) = true →
          ∀ _ : Nat → Nat, ∃ R' : Out → List (Ref × List A) → Prop, Holds Try.prog 38 [(A.ptr (.up (Ref.up q0)) 0), (A.d (D.lit (.int .i64 x5)))] [(Ref.up (Ref.up q0), [(A.d (D.lit (bytesV x4))), (A.d (D.lit (.int .i64 x5)))])] R' ∧
          (∀ v H', R' (.ret v) H' → ∃ x7 : List UInt8, ∃ x8 : Int, v = (A.tup []) ∧ H' = [(Ref.up (Ref.up q0), [(A.d (D.lit (bytesV x7))), (A.d (D.lit (.int .i64 x8)))])] ∧
           ((tB (decide (x3 < x2))) = true →
            ∀ _ : Nat → Nat, ∃ R' : Out → List (Ref × List A) → Prop, Holds Try.prog 38 [(A.ptr (.up (Ref.up q0)) 0), (A.d (D.lit (.int .i64 x8)))] [(Ref.up (Ref.up q0), [(A.d (D.lit (bytesV x7))), (A.d (D.lit (.int .i64 x8)))])] R' ∧
            (∀ v H', R' (.ret v) H' → ∃ x9 : List UInt8, ∃ x10 : Int, v = (A.tup []) ∧ H' = [(Ref.up (Ref.up q0), [(A.d (D.lit (bytesV x9))), (A.d (D.lit (.int .i64 x10)))])] ∧
             (tB (decide ((-9223372036854775808 : Int) ≤ (x10 + (1 : Int))))) = true ∧
             (tB (decide ((x10 + (1 : Int)) ≤ (9223372036854775807 : Int)))) = true ∧
             R (.ret (A.d (D.lit (.int .u8 x3)))) [((Ref.up q0), [(A.d (D.lit (bytesV x9))), (A.d (D.lit (.int .i64 (x10 + (1 : Int)))))])]) ∧
            (∀ x9v H', R' (.pan x9v) H' → ∃ x10 : List UInt8, ∃ x11 : Int, H' = [(Ref.up (Ref.up q0), [(A.d (D.lit (bytesV x10))), (A.d (D.lit (.int .i64 x11)))])] ∧
             R (.pan x9v) [((Ref.up q0), [(A.d (D.lit (bytesV x10))), (A.d (D.lit (.int .i64 x11)))])])) ∧
           ((tB (decide (x3 < x2))) = false →
            (tB (decide ((-9223372036854775808 : Int) ≤ (x8 + (1 : Int))))) = true ∧
            (tB (decide ((x8 + (1 : Int)) ≤ (9223372036854775807 : Int)))) = true ∧
            R (.ret (A.d (D.lit (.int .u8 x3)))) [((Ref.up q0), [(A.d (D.lit (bytesV x7))), (A.d (D.lit (.int .i64 (x8 + (1 : Int)))))])])) ∧
          (∀ x7v H', R' (.pan x7v) H' → ∃ x8 : List UInt8, ∃ x9 : Int, H' = [(Ref.up (Ref.up q0), [(A.d (D.lit (bytesV x8))), (A.d (D.lit (.int .i64 x9)))])] ∧
           R (.pan x7v) [((Ref.up q0), [(A.d (D.lit (bytesV x8))), (A.d (D.lit (.int .i64 x9)))])])) ∧
         ((tB (decide (x6 < (0 : Int)))) = false →
          ((tB (decide (x3 < x2))) = true →
           ∀ _ : Nat → Nat, ∃ R' : Out → List (Ref × List A) → Prop, Holds Try.prog 38 [(A.ptr (.up (Ref.up q0)) 0), (A.d (D.lit (.int .i64 x5)))] [(Ref.up (Ref.up q0), [(A.d (D.lit (bytesV x4))), (A.d (D.lit (.int .i64 x5)))])] R' ∧
           (∀ v H', R' (.ret v) H' → ∃ x7 : List UInt8, ∃ x8 : Int, v = (A.tup []) ∧ H' = [(Ref.up (Ref.up q0), [(A.d (D.lit (bytesV x7))), (A.d (D.lit (.int .i64 x8)))])] ∧
            (tB (decide ((-9223372036854775808 : Int) ≤ (x8 + (1 : Int))))) = true ∧
            (tB (decide ((x8 + (1 : Int)) ≤ (9223372036854775807 : Int)))) = true ∧
            R (.ret (A.d (D.lit (.int .u8 x3)))) [((Ref.up q0), [(A.d (D.lit (bytesV x7))), (A.d (D.lit (.int .i64 (x8 + (1 : Int)))))])]) ∧
           (∀ x7v H', R' (.pan x7v) H' → ∃ x8 : List UInt8, ∃ x9 : Int, H' = [(Ref.up (Ref.up q0), [(A.d (D.lit (bytesV x8))), (A.d (D.lit (.int .i64 x9)))])] ∧
            R (.pan x7v) [((Ref.up q0), [(A.d (D.lit (bytesV x8))), (A.d (D.lit (.int .i64 x9)))])])) ∧
          ((tB (decide (x3 < x2))) = false →
           (tB (decide ((-9223372036854775808 : Int) ≤ (x5 + (1 : Int))))) = true ∧
           (tB (decide ((x5 + (1 : Int)) ≤ (9223372036854775807 : Int)))) = true ∧
           R (.ret (A.d (D.lit (.int .u8 x3)))) [((Ref.up q0), [(A.d (D.lit (bytesV x4))), (A.d (D.lit (.int .i64 (x5 + (1 : Int)))))])]))) ∧
        (∀ x6v H', R' (.pan x6v) H' → H' = [] ∧
         R (.pan x6v) [((Ref.up q0), [(A.d (D.lit (bytesV x4))), (A.d (D.lit (.int .i64 x5)))])]))))))) ∧
  (∀ x3v H', R' (.pan x3v) H' → ∃ x4 : List UInt8, ∃ x5 : Int, H' = [(Ref.up (Ref.up q0), [(A.d (D.lit (bytesV x4))), (A.d (D.lit (.int .i64 x5)))])] ∧
   R (.pan x3v) [((Ref.up q0), [(A.d (D.lit (bytesV x4))), (A.d (D.lit (.int .i64 x5)))])])) :
    Holds Try.prog 82 [(A.ptr (Ref.up q0) 0), (A.d (D.lit (.int .u8 x2)))] [((Ref.up q0), [(A.d (D.lit (bytesV x0))), (A.d (D.lit (.int .i64 x1)))])] R :=
  walk (c := ⟨Try.prog, 75, true, [0, 1, 4, 5, 15, 33, 39, 42, 45, 48, 60]⟩) (op := {  }) (fn := Try.f82) (args := [.ptr (.up 0) 0, .c (.o1 (.ci .u8) (.var 2))]) (K := [(.up 0, [.c (.o1 .cs (.var 0)), .c (.o1 (.ci .i64) (.var 1))])]) (nv := 3) (depth := 7) (up := upOf [q0]) (ρ := envOf [.s x0, .i x1, .i x2])
    rfl rfl rfl rfl rfl (by decide) (by decide) (by decide) (by decide) rfl (by simp [bxDen, RRef.den, upOf]) (T_of (by kernel_rfl) h)
theorem w90 {R : Out → List (Ref × List A) → Prop} (x0 : List UInt8) (x1 : Int) (x2 : Int) (q0 : Ref) (h : ∀ _ : Nat → Nat, ∃ R' : Out → List (Ref × List A) → Prop, Holds Try.prog 49 [(A.ptr (.up (Ref.up q0)) 0)] [(Ref.up (Ref.up q0), [(A.d (D.lit (bytesV x0))), (A.d (D.lit (.int .i64 x1)))])] R' ∧
  (∀ v H', R' (.ret v) H' → ∃ x3 : Int, ∃ x4 : List UInt8, ∃ x5 : Int, v = (A.d (D.lit (.int .u8 x3))) ∧ H' = [(Ref.up (Ref.up q0), [(A.d (D.lit (bytesV x4))), (A.d (D.lit (.int .i64 x5)))])] ∧
   ((tB (decide ((x4.length : Int) ≤ x5))) = true →
    ∀ _ : Nat → Nat, ∃ R' : Out → List (Ref × List A) → Prop, Holds Try.prog 38 [(A.ptr (.up (Ref.up q0)) 0), (A.d (D.lit (.int .i64 (x4.length : Int))))] [(Ref.up (Ref.up q0), [(A.d (D.lit (bytesV x4))), (A.d (D.lit (.int .i64 x5)))])] R' ∧
    (∀ v H', R' (.ret v) H' → ∃ x6 : List UInt8, ∃ x7 : Int, v = (A.tup []) ∧ H' = [(Ref.up (Ref.up q0), [(A.d (D.lit (bytesV x6))), (A.d (D.lit (.int .i64 x7)))])] ∧
     (tB (decide ((-9223372036854775808 : Int) ≤ (x7 + (1 : Int))))) = true ∧
     (tB (decide ((x7 + (1 : Int)) ≤ (9223372036854775807 : Int)))) = true ∧
     R (.ret (A.d (D.lit (.int .u8 x3)))) [((Ref.up q0), [(A.d (D.lit (bytesV x6))), (A.d (D.lit (.int .i64 (x7 + (1 : Int)))))])]) ∧
    (∀ x6v H', R' (.pan x6v) H' → ∃ x7 : List UInt8, ∃ x8 : Int, H' = [(Ref.up (Ref.up q0), [(A.d (D.lit (bytesV x7))), (A.d (D.lit (.int .i64 x8)))])] ∧
     R (.pan x6v) [((Ref.up q0), [(A.d (D.lit (bytesV x7))), (A.d (D.lit (.int .i64 x8)))])])) ∧
   ((tB (decide ((x4.length : Int) ≤ x5))) = false →
    ((tB (x3 == (92 : Int))) = true →
     ∀ _ : Nat → Nat, ∃ R' : Out → List (Ref × List A) → Prop, Holds Try.prog 82 [(A.ptr (.up (Ref.up q0)) 0), (A.d (D.lit (.int .u8 x2)))] [(Ref.up (Ref.up q0), [(A.d (D.lit (bytesV x4))), (A.d (D.lit (.int .i64 x5)))])] R' ∧
     (∀ v H', R' (.ret v) H' → ∃ x6 : Int, ∃ x7 : List UInt8, ∃ x8 : Int, v = (A.d (D.lit (.int .u8 x6))) ∧ H' = [(Ref.up (Ref.up q0), [(A.d (D.lit (bytesV x7))), (A.d (D.lit (.int .i64 x8)))])] ∧
      R (.ret (A.d (D.lit (.int .u8 x6)))) [((Ref.up q0), [(A.d (D.lit (bytesV x7))), (A.d (D.lit (.int .i64 x8)))])]) ∧
     (∀ x6v H', R' (.pan x6v) H' → ∃ x7 : List UInt8, ∃ x8 : Int, H' = [(Ref.up (Ref.up q0), [(A.d (D.lit (bytesV x7))), (A.d (D.lit (.int .i64 x8)))])] ∧
      R (.pan x6v) [((Ref.up q0), [(A.d (D.lit (bytesV x7))), (A.d (D.lit (.int .i64 x8)))])])) ∧
    ((tB (x3 == (92 : Int))) = false →
     ((!(((tB (decide (x3 < (32 : Int)))) || (tB (decide ((126 : Int) < x3)))) || (tB (decide (x3 < x2))))) = true →
      ∀ _ : Nat → Nat, ∃ R' : Out → List (Ref × List A) → Prop, Holds Try.prog 83 [(A.d (D.lit (bytesV ([40, 41, 91, 93, 123, 125, 124, 42, 43, 63, 46, 94, 45] : List UInt8)))), (A.d (D.lit (.int .u8 x3)))] [] R' ∧
      (∀ v H', R' (.ret v) H' → ∃ x6 : Int, v = (A.d (D.lit (.int .i64 x6))) ∧ H' = [] ∧
       ((tB (decide ((0 : Int) ≤ x6))) = true →
        ∀ _ : Nat → Nat, ∃ R' : Out → List (Ref × List A) → Prop, Holds Try.prog 38 [(A.ptr (.up (Ref.up q0)) 0), (A.d (D.lit (.int .i64 x5)))] [(Ref.up (Ref.up q0), [(A.d (D.lit (bytesV x4))), (A.d (D.lit (.int .i64 x5)))])] R' ∧
        (∀ v H', R' (.ret v) H' → ∃ x7 : List UInt8, ∃ x8 : Int, v = (A.tup []) ∧ H' = [(Ref.up (Ref.up q0), [(A.d (D.lit (bytesV x7))), (A.d (D.lit (.int .i64 x8)))])] ∧
         (tB (decide ((-9223372036854775808 : Int) ≤ (x8 + (1 : Int))))) = true ∧
         (tB (decide ((x8 + (1 : Int)) ≤ (9223372036854775807 : Int)))) = true ∧
         R (.ret (A.d (D.lit (.int .u8 x3)))) [((Ref.up q0), [(A.d (D.lit (bytesV x7))), (A.d (D.lit (.int .i64 (x8 + (1 : Int)))))])]) ∧
        (∀ x7v H', R' (.pan x7v) H' → ∃ x8 : List UInt8, ∃ x9 : Int, H' = [(Ref.up (Ref.up q0), [(A.d (D.lit (bytesV x8))), (A.d (D.lit (.int .i64 x9)))])] ∧
         R (.pan x7v) [((Ref.up q0), [(A.d (D.lit (bytesV x8))), (A.d (D.lit (.int .i64 x9)))])])) ∧
       ((tB (decide ((0 : Int) ≤ x6))) = false →
        (tB (decide ((-9223372036854775808 : Int) ≤ (x5 + (1 : Int))))) = true ∧
        (tB (decide ((x5 + (1 : Int)) ≤ (9223372036854775807 : Int)))) = true ∧
        R (.ret (A.d (D.lit (.int .u8 x3)))) [((Ref.up q0), [(A.d (D.lit (bytesV x4))), (A.d (D.lit (.int .i64 (x5 + (1 : Int)))))])])) ∧
      (∀ x6v H', R' (.pan x6v) H' → H' = [] ∧
       R (.pan x6v) [((Ref.up q0), [(A.d (D.lit (bytesV x4))), (A.d (D.lit (.int .i64 x5)))])])) ∧
     ((!(((tB (decide (x3 < (32 : Int)))) || (tB (decide ((126 : Int) < x3)))) || (tB (decide (x3 < x2))))) = false →
      ∀ _ : Nat → Nat, ∃ R' : Out → List (Ref × List A) → Prop, Holds Try.prog 38 [(A.ptr (.up (Ref.up q0)) 0), (A.d (D.lit (.int .i64 x5)))] [(Ref.up (Ref.up q0), [(A.d (D.lit (bytesV x4))), (A.d (D.lit (.int .i64 x5)))])] R' ∧
      (∀ v H', R' (.ret v) H' → ∃ x6 : List UInt8, ∃ x7 : Int, v = (A.tup []) ∧ H' = [(Ref.up (Ref.up q0), [(A.d (D.lit (bytesV x6))), (A.d (D.lit (.int .i64 x7)))])] ∧
       (tB (decide ((-9223372036854775808 : Int) ≤ (x7 + (1 : Int))))) = true ∧
       (tB (decide ((x7 + (1 : Int)) ≤ (9223372036854775807 : Int)))) = true ∧
       R (.ret (A.d (D.lit (.int .u8 x3)))) [((Ref.up q0), [(A.d (D.lit (bytesV x6))), (A.d (D.lit (.int .i64 (x7 + (1 : Int)))))])]) ∧
      (∀ x6v H', R' (.pan x6v) H' → ∃ x7 : List UInt8, ∃ x8 : Int, H' = [(Ref.up (Ref.up q0), [(A.d (D.lit (bytesV x7))), (A.d (D.lit (.int .i64 x8)))])] ∧
       R (.pan x6v) [((Ref.up q0), [(A.d (D.lit (bytesV x7))), (A.d (D.lit (.int .i64 x8)))])]))))) ∧
  (∀ x3v H', R' (.pan x3v) H' → ∃ x4 : List UInt8, ∃ x5 : Int, H' = [(Ref.up (Ref.up q0), [(A.d (D.lit (bytesV x4))), (A.d (D.lit (.int .i64 x5)))])] ∧
   R (.pan x3v) [((Ref.up q0), [(A.d (D.lit (bytesV x4))), (A.d (D.lit (.int .i64 x5)))])])) :
    Holds Try.prog 90 [(A.ptr (Ref.up q0) 0), (A.d (D.lit (.int .u8 x2)))] [((Ref.up q0), [(A.d (D.lit (bytesV x0))), (A.d (D.lit (.int .i64 x1)))])] R :=
  walk (c := ⟨Try.prog, 63, true, [0, 1, 4, 5, 8, 26, 32]⟩) (op := {  }) (fn := Try.f90) (args := [.ptr (.up 0) 0, .c (.o1 (.ci .u8) (.var 2))]) (K := [(.up 0, [.c (.o1 .cs (.var 0)), .c (.o1 (.ci .i64) (.var 1))])]) (nv := 3) (depth := 6) (up := upOf [q0]) (ρ := envOf [.s x0, .i x1, .i x2])
    rfl rfl rfl rfl rfl (by decide) (by decide) (by decide) (by decide) rfl (by simp [bxDen, RRef.den, upOf]) (T_of (by kernel_rfl) h)
theorem w93 {R : Out → List (Ref × List A) → Prop} (x0 : List UInt8) (x1 : Int) (x2 : Int) (q0 : Ref) (h : ∃ (I0_0 : Int → Int → List UInt8 → Int → Prop) (M0_0 : Int → Int → List UInt8 → Int → Nat), I0_0 (0 : Int) (0 : Int) x0 x1 ∧
  (∀ (x3 : Int) (x4 : Int) (x5 : List UInt8) (x6 : Int) , I0_0 x3 x4 x5 x6 →
   ((tB (decide (x4 < (2 : Int)))) = true →
    (tB (decide ((0 : Int) ≤ x4))) = true ∧
    ((tB (x4 == (0 : Int))) = true →
     (tB (decide ((-9223372036854775808 : Int) ≤ (x6 + (1 : Int))))) = true ∧
     (tB (decide ((x6 + (1 : Int)) ≤ (9223372036854775807 : Int)))) = true ∧
     ∀ _ : Nat → Nat, ∃ R' : Out → List (Ref × List A) → Prop, Holds Try.prog 49 [(A.ptr (.up (Ref.up q0)) 0)] [(Ref.up (Ref.up q0), [(A.d (D.lit (bytesV x5))), (A.d (D.lit (.int .i64 (x6 + (1 : Int)))))])] R' ∧
     (∀ v H', R' (.ret v) H' → ∃ x7 : Int, ∃ x8 : List UInt8, ∃ x9 : Int, v = (A.d (D.lit (.int .u8 x7))) ∧ H' = [(Ref.up (Ref.up q0), [(A.d (D.lit (bytesV x8))), (A.d (D.lit (.int .i64 x9)))])] ∧
      ∀ _ : Nat → Nat, ∃ R' : Out → List (Ref × List A) → Prop, Holds Try.prog 101 [(A.d (D.lit (.int .u8 x7)))] [] R' ∧
      (∀ v H', R' (.ret v) H' → ∃ x10 : Int, ∃ x11 : Bool, v = (A.tup [(false, [(D.lit (.int .u8 x10))]), (false, [(D.lit (.bool x11))])]) ∧ H' = [] ∧
       (((!x11) || (tB (decide ((gOr .u8 (gShl .u8 (gOr .u8 (gShl .u8 x3 (4 : Int)) x10) (4 : Int)) (15 : Int)) < x2)))) = true →
        ∀ _ : Nat → Nat, ∃ R' : Out → List (Ref × List A) → Prop, Holds Try.prog 38 [(A.ptr (.up (Ref.up q0)) 0), (A.d (D.lit (.int .i64 x9)))] [(Ref.up (Ref.up q0), [(A.d (D.lit (bytesV x8))), (A.d (D.lit (.int .i64 x9)))])] R' ∧
        (∀ v H', R' (.ret v) H' → ∃ x12 : List UInt8, ∃ x13 : Int, v = (A.tup []) ∧ H' = [(Ref.up (Ref.up q0), [(A.d (D.lit (bytesV x12))), (A.d (D.lit (.int .i64 x13)))])] ∧
         (tB (decide ((-9223372036854775808 : Int) ≤ (x4 + (1 : Int))))) = true ∧
         (tB (decide ((x4 + (1 : Int)) ≤ (9223372036854775807 : Int)))) = true ∧
         I0_0 (gOr .u8 (gShl .u8 x3 (4 : Int)) x10) (x4 + (1 : Int)) x12 x13 ∧ M0_0 (gOr .u8 (gShl .u8 x3 (4 : Int)) x10) (x4 + (1 : Int)) x12 x13 < M0_0 x3 x4 x5 x6) ∧
        (∀ x12v H', R' (.pan x12v) H' → ∃ x13 : List UInt8, ∃ x14 : Int, H' = [(Ref.up (Ref.up q0), [(A.d (D.lit (bytesV x13))), (A.d (D.lit (.int .i64 x14)))])] ∧
         R (.pan x12v) [((Ref.up q0), [(A.d (D.lit (bytesV x13))), (A.d (D.lit (.int .i64 x14)))])])) ∧
       (((!x11) || (tB (decide ((gOr .u8 (gShl .u8 (gOr .u8 (gShl .u8 x3 (4 : Int)) x10) (4 : Int)) (15 : Int)) < x2)))) = false →
        (tB (decide ((-9223372036854775808 : Int) ≤ (x4 + (1 : Int))))) = true ∧
        (tB (decide ((x4 + (1 : Int)) ≤ (9223372036854775807 : Int)))) = true ∧
        I0_0 (gOr .u8 (gShl .u8 x3 (4 : Int)) x10) (x4 + (1 : Int)) x8 x9 ∧ M0_0 (gOr .u8 (gShl .u8 x3 (4 : Int)) x10) (x4 + (1 : Int)) x8 x9 < M0_0 x3 x4 x5 x6)) ∧
      (∀ x10v H', R' (.pan x10v) H' → H' = [] ∧
       R (.pan x10v) [((Ref.up q0), [(A.d (D.lit (bytesV x8))), (A.d (D.lit (.int .i64 x9)))])])) ∧
     (∀ x7v H', R' (.pan x7v) H' → ∃ x8 : List UInt8, ∃ x9 : Int, H' = [(Ref.up (Ref.up q0), [(A.d (D.lit (bytesV x8))), (A.d (D.lit (.int .i64 x9)))])] ∧
      R (.pan x7v) [((Ref.up q0), [(A.d (D.lit (bytesV x8))), (A.d (D.lit (.int .i64 x9)))])])) ∧
    ((tB (x4 == (0 : Int))) = false →
     (tB (x4 == (1 : Int))) = true ∧
     (tB (decide ((-9223372036854775808 : Int) ≤ (x6 + (1 : Int))))) = true ∧
     (tB (decide ((x6 + (1 : Int)) ≤ (9223372036854775807 : Int)))) = true ∧
     ∀ _ : Nat → Nat, ∃ R' : Out → List (Ref × List A) → Prop, Holds Try.prog 49 [(A.ptr (.up (Ref.up q0)) 0)] [(Ref.up (Ref.up q0), [(A.d (D.lit (bytesV x5))), (A.d (D.lit (.int .i64 (x6 + (1 : Int)))))])] R' ∧
     (∀ v H', R' (.ret v) H' → ∃ x7 : Int, ∃ x8 : List UInt8, ∃ x9 : Int, v = (A.d (D.lit (.int .u8 x7))) ∧ H' = [(Ref.up (Ref.up q0), [(A.d (D.lit (bytesV x8))), (A.d (D.lit (.int .i64 x9)))])] ∧
      ∀ _ : Nat → Nat, ∃ R' : Out → List (Ref × List A) → Prop, Holds Try.prog 101 [(A.d (D.lit (.int .u8 x7)))] [] R' ∧
      (∀ v H', R' (.ret v) H' → ∃ x10 : Int, ∃ x11 : Bool, v = (A.tup [(false, [(D.lit (.int .u8 x10))]), (false, [(D.lit (.bool x11))])]) ∧ H' = [] ∧
       (((!x11) || (tB (decide ((gOr .u8 (gShl .u8 x3 (4 : Int)) x10) < x2)))) = true →
        ∀ _ : Nat → Nat, ∃ R' : Out → List (Ref × List A) → Prop, Holds Try.prog 38 [(A.ptr (.up (Ref.up q0)) 0), (A.d (D.lit (.int .i64 x9)))] [(Ref.up (Ref.up q0), [(A.d (D.lit (bytesV x8))), (A.d (D.lit (.int .i64 x9)))])] R' ∧
        (∀ v H', R' (.ret v) H' → ∃ x12 : List UInt8, ∃ x13 : Int, v = (A.tup []) ∧ H' = [(Ref.up (Ref.up q0), [(A.d (D.lit (bytesV x12))), (A.d (D.lit (.int .i64 x13)))])] ∧
         (tB (decide ((-9223372036854775808 : Int) ≤ (x4 + (1 : Int))))) = true ∧
         (tB (decide ((x4 + (1 : Int)) ≤ (9223372036854775807 : Int)))) = true ∧
         I0_0 (gOr .u8 (gShl .u8 x3 (4 : Int)) x10) (x4 + (1 : Int)) x12 x13 ∧ M0_0 (gOr .u8 (gShl .u8 x3 (4 : Int)) x10) (x4 + (1 : Int)) x12 x13 < M0_0 x3 x4 x5 x6) ∧
        (∀ x12v H', R' (.pan x12v) H' → ∃ x13 : List UInt8, ∃ x14 : Int, H' = [(Ref.up (Ref.up q0), [(A.d (D.lit (bytesV x13))), (A.d (D.lit (.int .i64 x14)))])] ∧
         R (.pan x12v) [((Ref.up q0), [(A.d (D.lit (bytesV x13))), (A.d (D.lit (.int .i64 x14)))])])) ∧
       (((!x11) || (tB (decide ((gOr .u8 (gShl .u8 x3 (4 : Int)) x10) < x2)))) = false →
        (tB (decide ((-9223372036854775808 : Int) ≤ (x4 + (1 : Int))))) = true ∧
        (tB (decide ((x4 + (1 : Int)) ≤ (9223372036854775807 : Int)))) = true ∧
        I0_0 (gOr .u8 (gShl .u8 x3 (4 : Int)) x10) (x4 + (1 : Int)) x8 x9 ∧ M0_0 (gOr .u8 (gShl .u8 x3 (4 : Int)) x10) (x4 + (1 : Int)) x8 x9 < M0_0 x3 x4 x5 x6)) ∧
      (∀ x10v H', R' (.pan x10v) H' → H' = [] ∧
       R (.pan x10v) [((Ref.up q0), [(A.d (D.lit (bytesV x8))), (A.d (D.lit (.int .i64 x9)))])])) ∧
     (∀ x7v H', R' (.pan x7v) H' → ∃ x8 : List UInt8, ∃ x9 : Int, H' = [(Ref.up (Ref.up q0), [(A.d (D.lit (bytesV x8))), (A.d (D.lit (.int .i64 x9)))])] ∧
      R (.pan x7v) [((Ref.up q0), [(A.d (D.lit (bytesV x8))), (A.d (D.lit (.int .i64 x9)))])]))) ∧
   ((tB (decide (x4 < (2 : Int)))) = false →
    (tB (decide ((-9223372036854775808 : Int) ≤ (x6 + (1 : Int))))) = true ∧
    (tB (decide ((x6 + (1 : Int)) ≤ (9223372036854775807 : Int)))) = true ∧
    R (.ret (A.d (D.lit (.int .u8 x3)))) [((Ref.up q0), [(A.d (D.lit (bytesV x5))), (A.d (D.lit (.int .i64 (x6 + (1 : Int)))))])])) ∧
  True) :
    Holds Try.prog 93 [(A.ptr (Ref.up q0) 0), (A.d (D.lit (.int .u8 x2)))] [((Ref.up q0), [(A.d (D.lit (bytesV x0))), (A.d (D.lit (.int .i64 x1)))])] R :=
  walk (c := ⟨Try.prog, 69, true, [0, 1, 4, 5, 7, 8, 9, 10, 11, 12, 53]⟩) (op := {  }) (fn := Try.f93) (args := [.ptr (.up 0) 0, .c (.o1 (.ci .u8) (.var 2))]) (K := [(.up 0, [.c (.o1 .cs (.var 0)), .c (.o1 (.ci .i64) (.var 1))])]) (nv := 3) (depth := 7) (up := upOf [q0]) (ρ := envOf [.s x0, .i x1, .i x2])
    rfl rfl rfl rfl rfl (by decide) (by decide) (by decide) (by decide) rfl (by simp [bxDen, RRef.den, upOf]) (T_of (by kernel_rfl) h)
end Go.Rx
end
section
open Go Go.Proofs Go.Ab Go.Rf
set_option maxRecDepth 1000000
set_option maxHeartbeats 2000000
set_option linter.unusedVariables false
namespace Go.Rx
theorem w41 {R : Out → List (Ref × List A) → Prop} (x0 : List D) (x1 : Int) (h : (tB ((x0.length : Int) == (6 : Int))) = true ∧
  (Rf.isK (.int .i64) (x0.getD 0 D0)) = true ∧
  ((tB ((Rf.dint (x0.getD 0 D0)) == (2 : Int))) = true →
   ∀ _ : Nat → Nat, ∃ R' : Out → List (Ref × List A) → Prop, Holds Try.prog 55 [(A.agg ((x0.getD 1 D0) :: ((x0.getD 2 D0) :: ((x0.getD 3 D0) :: ((x0.getD 4 D0) :: ([] : List D)))))), (A.d (D.lit (.int .u8 x1)))] [] R' ∧
   (∀ v H', R' (.ret v) H' → ∃ x2 : Bool, v = (A.d (D.lit (.bool x2))) ∧ H' = [] ∧
    (x2 = true →
     R (.ret (A.agg ((D.lit (.int .i64 (1 : Int))) :: ((D.lit (.int .u64 (0 : Int))) :: ((D.lit (.int .u64 (0 : Int))) :: ((D.lit (.int .u64 (0 : Int))) :: ((D.lit (.int .u64 (0 : Int))) :: ((D.slc ([] : List (List D))) :: ([] : List D))))))))) []) ∧
    (x2 = false →
     R (.ret (A.agg ((D.lit (.int .i64 (0 : Int))) :: ((D.lit (.int .u64 (0 : Int))) :: ((D.lit (.int .u64 (0 : Int))) :: ((D.lit (.int .u64 (0 : Int))) :: ((D.lit (.int .u64 (0 : Int))) :: ((D.slc ([] : List (List D))) :: ([] : List D))))))))) [])) ∧
   (∀ x2v H', R' (.pan x2v) H' → H' = [] ∧
    R (.pan x2v) [])) ∧
  ((tB ((Rf.dint (x0.getD 0 D0)) == (2 : Int))) = false →
   ((tB ((Rf.dint (x0.getD 0 D0)) == (5 : Int))) = true →
    (Rf.isK .slc (x0.getD 5 D0)) = true ∧
    (tB (decide ((0 : Int) < ((Rf.dlst (x0.getD 5 D0)).length : Int)))) = true ∧
    (tB (((gAt (Rf.dlst (x0.getD 5 D0)) (0 : Int)).length : Int) == (6 : Int))) = true ∧
    ∃ x2 : List D, (∀ _ : Nat → Nat, Holds Try.prog 41 [(A.agg (gAt (Rf.dlst (x0.getD 5 D0)) (0 : Int))), (A.d (D.lit (.int .u8 x1)))] [] (Reads [] (A.agg x2))) ∧
    (tB ((x2.length : Int) == (6 : Int))) = true ∧
    ∀ _ : Nat → Nat, ∃ R' : Out → List (Ref × List A) → Prop, Holds Try.prog 56 [(A.d (D.slc (x2 :: (x0 :: ([] : List (List D))))))] [] R' ∧
    (∀ v H', R' (.ret v) H' → ∃ x3 : List D, v = (A.agg x3) ∧ H' = [] ∧
     (tB ((x3.length : Int) == (6 : Int))) = true ∧
     R (.ret (A.agg x3)) []) ∧
    (∀ x3v H', R' (.pan x3v) H' → H' = [] ∧
     R (.pan x3v) [])) ∧
   ((tB ((Rf.dint (x0.getD 0 D0)) == (5 : Int))) = false →
    ((tB ((Rf.dint (x0.getD 0 D0)) == (4 : Int))) = true →
     (Rf.isK .slc (x0.getD 5 D0)) = true ∧
     ∃ (I0_0 : Prop) (M0_0 : Nat), ∃ (I0_1 : List (List D) → Int → D → D → D → D → D → D → Prop) (M0_1 : List (List D) → Int → D → D → D → D → D → D → Nat), I0_0 ∧
     (I0_0 →
      ((tB (decide ((0 : Int) < ((Rf.dlst (x0.getD 5 D0)).length : Int)))) = true →
       (tB (((gAt (Rf.dlst (x0.getD 5 D0)) (0 : Int)).length : Int) == (6 : Int))) = true ∧
       ∀ _ : Nat → Nat, ∃ R' : Out → List (Ref × List A) → Prop, Holds Try.prog 41 [(A.agg (gAt (Rf.dlst (x0.getD 5 D0)) (0 : Int))), (A.d (D.lit (.int .u8 x1)))] [] R' ∧
       (∀ v H', R' (.ret v) H' → ∃ x2 : List D, v = (A.agg x2) ∧ H' = [] ∧
        (tB ((x2.length : Int) == (6 : Int))) = true ∧
        (flatB 6 (x2 :: ([] : List (List D)))) = true ∧
        (tB (decide ((((0 : Int) + ((x2 :: ([] : List (List D))).length : Int)) * (64 : Int)) ≤ (140737488355328 : Int)))) = true ∧
        (tB (decide (((0 : Int) + ((x2 :: ([] : List (List D))).length : Int)) ≤ (1099511627776 : Int)))) = true ∧
        I0_1 (x2 :: ([] : List (List D))) (1 : Int) ((gAt (Rf.dlst (x0.getD 5 D0)) (0 : Int)).getD 0 D0) ((gAt (Rf.dlst (x0.getD 5 D0)) (0 : Int)).getD 1 D0) ((gAt (Rf.dlst (x0.getD 5 D0)) (0 : Int)).getD 2 D0) ((gAt (Rf.dlst (x0.getD 5 D0)) (0 : Int)).getD 3 D0) ((gAt (Rf.dlst (x0.getD 5 D0)) (0 : Int)).getD 4 D0) ((gAt (Rf.dlst (x0.getD 5 D0)) (0 : Int)).getD 5 D0) ∧ M0_1 (x2 :: ([] : List (List D))) (1 : Int) ((gAt (Rf.dlst (x0.getD 5 D0)) (0 : Int)).getD 0 D0) ((gAt (Rf.dlst (x0.getD 5 D0)) (0 : Int)).getD 1 D0) ((gAt (Rf.dlst (x0.getD 5 D0)) (0 : Int)).getD 2 D0) ((gAt (Rf.dlst (x0.getD 5 D0)) (0 : Int)).getD 3 D0) ((gAt (Rf.dlst (x0.getD 5 D0)) (0 : Int)).getD 4 D0) ((gAt (Rf.dlst (x0.getD 5 D0)) (0 : Int)).getD 5 D0) < M0_0) ∧
       (∀ x2v H', R' (.pan x2v) H' → H' = [] ∧
        R (.pan x2v) [])) ∧
      ((tB (decide ((0 : Int) < ((Rf.dlst (x0.getD 5 D0)).length : Int)))) = false →
       ∀ _ : Nat → Nat, ∃ R' : Out → List (Ref × List A) → Prop, Holds Try.prog 57 [(A.zs ([] : List (List D)))] [] R' ∧
       (∀ v H', R' (.ret v) H' → ∃ x2 : List D, v = (A.agg x2) ∧ H' = [] ∧
        (tB ((x2.length : Int) == (6 : Int))) = true ∧
        R (.ret (A.agg x2)) []) ∧
       (∀ x2v H', R' (.pan x2v) H' → H' = [] ∧
        R (.pan x2v) []))) ∧
     (∀ (x2 : List (List D)) (x3 : Int) (x4 : D) (x5 : D) (x6 : D) (x7 : D) (x8 : D) (x9 : D) , I0_1 x2 x3 x4 x5 x6 x7 x8 x9 →
      ((tB (decide (x3 < ((Rf.dlst (x0.getD 5 D0)).length : Int)))) = true →
       (tB (decide ((0 : Int) ≤ x3))) = true ∧
       (tB (((gAt (Rf.dlst (x0.getD 5 D0)) x3).length : Int) == (6 : Int))) = true ∧
       ∀ _ : Nat → Nat, ∃ R' : Out → List (Ref × List A) → Prop, Holds Try.prog 41 [(A.agg (gAt (Rf.dlst (x0.getD 5 D0)) x3)), (A.d (D.lit (.int .u8 x1)))] [] R' ∧
       (∀ v H', R' (.ret v) H' → ∃ x10 : List D, v = (A.agg x10) ∧ H' = [] ∧
        (tB ((x10.length : Int) == (6 : Int))) = true ∧
        (flatB 6 (x10 :: ([] : List (List D)))) = true ∧
        (tB (decide ((((x2.length : Int) + ((x10 :: ([] : List (List D))).length : Int)) * (64 : Int)) ≤ (140737488355328 : Int)))) = true ∧
        (tB (decide (((x2.length : Int) + ((x10 :: ([] : List (List D))).length : Int)) ≤ (1099511627776 : Int)))) = true ∧
        (tB (decide ((-9223372036854775808 : Int) ≤ (x3 + (1 : Int))))) = true ∧
        (tB (decide ((x3 + (1 : Int)) ≤ (9223372036854775807 : Int)))) = true ∧
        I0_1 (x2 ++ (x10 :: ([] : List (List D)))) (x3 + (1 : Int)) ((gAt (Rf.dlst (x0.getD 5 D0)) x3).getD 0 D0) ((gAt (Rf.dlst (x0.getD 5 D0)) x3).getD 1 D0) ((gAt (Rf.dlst (x0.getD 5 D0)) x3).getD 2 D0) ((gAt (Rf.dlst (x0.getD 5 D0)) x3).getD 3 D0) ((gAt (Rf.dlst (x0.getD 5 D0)) x3).getD 4 D0) ((gAt (Rf.dlst (x0.getD 5 D0)) x3).getD 5 D0) ∧ M0_1 (x2 ++ (x10 :: ([] : List (List D)))) (x3 + (1 : Int)) ((gAt (Rf.dlst (x0.getD 5 D0)) x3).getD 0 D0) ((gAt (Rf.dlst (x0.getD 5 D0)) x3).getD 1 D0) ((gAt (Rf.dlst (x0.getD 5 D0)) x3).getD 2 D0) ((gAt (Rf.dlst (x0.getD 5 D0)) x3).getD 3 D0) ((gAt (Rf.dlst (x0.getD 5 D0)) x3).getD 4 D0) ((gAt (Rf.dlst (x0.getD 5 D0)) x3).getD 5 D0) < M0_1 x2 x3 x4 x5 x6 x7 x8 x9) ∧
       (∀ x10v H', R' (.pan x10v) H' → H' = [] ∧
        R (.pan x10v) [])) ∧
      ((tB (decide (x3 < ((Rf.dlst (x0.getD 5 D0)).length : Int)))) = false →
       ∀ _ : Nat → Nat, ∃ R' : Out → List (Ref × List A) → Prop, Holds Try.prog 57 [(A.d (D.slc x2))] [] R' ∧
       (∀ v H', R' (.ret v) H' → ∃ x10 : List D, v = (A.agg x10) ∧ H' = [] ∧
        (tB ((x10.length : Int) == (6 : Int))) = true ∧
        R (.ret (A.agg x10)) []) ∧
       (∀ x10v H', R' (.pan x10v) H' → H' = [] ∧
        R (.pan x10v) []))) ∧
     True) ∧
    ((tB ((Rf.dint (x0.getD 0 D0)) == (4 : Int))) = false →
     ((tB ((Rf.dint (x0.getD 0 D0)) == (3 : Int))) = true →
      (Rf.isK .slc (x0.getD 5 D0)) = true ∧
      (flatB 6 (Rf.dlst (x0.getD 5 D0))) = true ∧
      (tB (decide ((1 : Int) ≤ ((Rf.dlst (x0.getD 5 D0)).length : Int)))) = true ∧
      (tB (decide (((Rf.dlst (x0.getD 5 D0)).length : Int) ≤ ((Rf.dlst (x0.getD 5 D0)).length : Int)))) = true ∧
      ∀ _ : Nat → Nat, ∃ R' : Out → List (Ref × List A) → Prop, Holds Try.prog 56 [(A.d (D.slc (gSub (Rf.dlst (x0.getD 5 D0)) (1 : Int) ((Rf.dlst (x0.getD 5 D0)).length : Int))))] [] R' ∧
      (∀ v H', R' (.ret v) H' → ∃ x2 : List D, v = (A.agg x2) ∧ H' = [] ∧
       (tB ((x2.length : Int) == (6 : Int))) = true ∧
       (tB (decide ((0 : Int) < ((Rf.dlst (x0.getD 5 D0)).length : Int)))) = true ∧
       (tB (((gAt (Rf.dlst (x0.getD 5 D0)) (0 : Int)).length : Int) == (6 : Int))) = true ∧
       ∃ x3 : List D, (∀ _ : Nat → Nat, Holds Try.prog 41 [(A.agg (gAt (Rf.dlst (x0.getD 5 D0)) (0 : Int))), (A.d (D.lit (.int .u8 x1)))] [] (Reads [] (A.agg x3))) ∧
       (tB ((x3.length : Int) == (6 : Int))) = true ∧
       ∃ x4 : List D, (∀ _ : Nat → Nat, Holds Try.prog 56 [(A.d (D.slc (x3 :: (x2 :: ([] : List (List D))))))] [] (Reads [] (A.agg x4))) ∧
       (tB ((x4.length : Int) == (6 : Int))) = true ∧
       ∀ _ : Nat → Nat, ∃ R' : Out → List (Ref × List A) → Prop, Holds Try.prog 42 [(A.agg (gAt (Rf.dlst (x0.getD 5 D0)) (0 : Int)))] [] R' ∧
       (∀ v H', R' (.ret v) H' → ∃ x5 : Bool, v = (A.d (D.lit (.bool x5))) ∧ H' = [] ∧
        (x5 = true →
         ∃ x6 : List D, (∀ _ : Nat → Nat, Holds Try.prog 41 [(A.agg x2), (A.d (D.lit (.int .u8 x1)))] [] (Reads [] (A.agg x6))) ∧
         (tB ((x6.length : Int) == (6 : Int))) = true ∧
         ∀ _ : Nat → Nat, ∃ R' : Out → List (Ref × List A) → Prop, Holds Try.prog 57 [(A.d (D.slc (x4 :: (x6 :: ([] : List (List D))))))] [] R' ∧
         (∀ v H', R' (.ret v) H' → ∃ x7 : List D, v = (A.agg x7) ∧ H' = [] ∧
          (tB ((x7.length : Int) == (6 : Int))) = true ∧
          R (.ret (A.agg x7)) []) ∧
         (∀ x7v H', R' (.pan x7v) H' → H' = [] ∧
          R (.pan x7v) [])) ∧
        (x5 = false →
         R (.ret (A.agg x4)) [])) ∧
       (∀ x5v H', R' (.pan x5v) H' → H' = [] ∧
        R (.pan x5v) [])) ∧
      (∀ x2v H', R' (.pan x2v) H' → H' = [] ∧
       R (.pan x2v) [])) ∧
     ((tB ((Rf.dint (x0.getD 0 D0)) == (3 : Int))) = false →
      R (.ret (A.agg ((D.lit (.int .i64 (0 : Int))) :: ((D.lit (.int .u64 (0 : Int))) :: ((D.lit (.int .u64 (0 : Int))) :: ((D.lit (.int .u64 (0 : Int))) :: ((D.lit (.int .u64 (0 : Int))) :: ((D.slc ([] : List (List D))) :: ([] : List D))))))))) []))))) :
    Holds Try.prog 41 [(A.agg x0), (A.d (D.lit (.int .u8 x1)))] [] R :=
  walk (c := ⟨Try.prog, 76, true, [0, 1, 2, 4, 5, 7, 8, 9, 11, 12, 17, 19, 30, 33, 34, 35, 36, 48, 67]⟩) (op := {  }) (fn := Try.f41) (args := [.agg (.var 0), .c (.o1 (.ci .u8) (.var 1))]) (K := []) (nv := 2) (depth := 7) (up := upOf []) (ρ := envOf [.r x0, .i x1])
    rfl rfl rfl rfl rfl (by decide) (by decide) (by decide) (by decide) rfl (by simp [bxDen, RRef.den, upOf]) (T_of (by kernel_rfl) h)
theorem w29 {R : Out → List (Ref × List A) → Prop} (x0 : List D) (x1 : Int) (h : (tB ((x0.length : Int) == (6 : Int))) = true ∧
  ∀ _ : Nat → Nat, ∃ R' : Out → List (Ref × List A) → Prop, Holds Try.prog 15 [(A.agg x0)] [] R' ∧
  (∀ v H', R' (.ret v) H' → ∃ x2 : Int, v = (A.d (D.lit (.int .i64 x2))) ∧ H' = [] ∧
   ((!(tB (x2 == (0 : Int)))) = true →
    R (.ret (A.agg ((D.lit (.int .i64 (0 : Int))) :: ((D.lit (.int .u64 (0 : Int))) :: ((D.lit (.int .u64 (0 : Int))) :: ((D.lit (.int .u64 (0 : Int))) :: ((D.lit (.int .u64 (0 : Int))) :: ((D.slc ([] : List (List D))) :: ([] : List D))))))))) []) ∧
   ((!(tB (x2 == (0 : Int)))) = false →
    ∀ _ : Nat → Nat, ∃ R' : Out → List (Ref × List A) → Prop, Holds Try.prog 41 [(A.agg x0), (A.d (D.lit (.int .u8 x1)))] [] R' ∧
    (∀ v H', R' (.ret v) H' → ∃ x3 : List D, v = (A.agg x3) ∧ H' = [] ∧
     (tB ((x3.length : Int) == (6 : Int))) = true ∧
     R (.ret (A.agg x3)) []) ∧
    (∀ x3v H', R' (.pan x3v) H' → H' = [] ∧
     R (.pan x3v) []))) ∧
  (∀ x2v H', R' (.pan x2v) H' → H' = [] ∧
   R (.pan x2v) [])) :
    Holds Try.prog 29 [(A.agg x0), (A.d (D.lit (.int .u8 x1)))] [] R :=
  walk (c := ⟨Try.prog, 12, true, [0, 1, 2, 4, 7]⟩) (op := {  }) (fn := Try.f29) (args := [.agg (.var 0), .c (.o1 (.ci .u8) (.var 1))]) (K := []) (nv := 2) (depth := 4) (up := upOf []) (ρ := envOf [.r x0, .i x1])
    rfl rfl rfl rfl rfl (by decide) (by decide) (by decide) (by decide) rfl (by simp [bxDen, RRef.den, upOf]) (T_of (by kernel_rfl) h)
theorem w56 {R : Out → List (Ref × List A) → Prop} (x0 : List (List D)) (h : ∃ (I0_0 : Int → Prop) (M0_0 : Int → Nat), ∃ (I0_1 : List (List D) → Int → Int → Bool → D → D → D → D → D → D → Prop) (M0_1 : List (List D) → Int → Int → Bool → D → D → D → D → D → D → Nat), I0_0 (0 : Int) ∧
  (∀ (x1 : Int) , I0_0 x1 →
   ((tB (decide (x1 < (x0.length : Int)))) = true →
    (tB (decide ((0 : Int) ≤ x1))) = true ∧
    (tB (((gAt x0 x1).length : Int) == (6 : Int))) = true ∧
    (Rf.isK (.int .i64) ((gAt x0 x1).getD 0 D0)) = true ∧
    ((tB ((Rf.dint ((gAt x0 x1).getD 0 D0)) == (0 : Int))) = true →
     R (.ret (A.agg ((D.lit (.int .i64 (0 : Int))) :: ((D.lit (.int .u64 (0 : Int))) :: ((D.lit (.int .u64 (0 : Int))) :: ((D.lit (.int .u64 (0 : Int))) :: ((D.lit (.int .u64 (0 : Int))) :: ((D.slc ([] : List (List D))) :: ([] : List D))))))))) []) ∧
    ((tB ((Rf.dint ((gAt x0 x1).getD 0 D0)) == (0 : Int))) = false →
     ((tB ((Rf.dint ((gAt x0 x1).getD 0 D0)) == (3 : Int))) = true →
      (Rf.isK .slc ((gAt x0 x1).getD 5 D0)) = true ∧
      (flatB 6 (Rf.dlst ((gAt x0 x1).getD 5 D0))) = true ∧
      (tB (decide ((((0 : Int) + ((Rf.dlst ((gAt x0 x1).getD 5 D0)).length : Int)) * (64 : Int)) ≤ (140737488355328 : Int)))) = true ∧
      (tB (decide (((0 : Int) + ((Rf.dlst ((gAt x0 x1).getD 5 D0)).length : Int)) ≤ (1099511627776 : Int)))) = true ∧
      ((tB (((Rf.dlst ((gAt x0 x1).getD 5 D0)).length : Int) == (0 : Int))) = true →
       (tB (decide ((-9223372036854775808 : Int) ≤ (x1 + (1 : Int))))) = true ∧
       (tB (decide ((x1 + (1 : Int)) ≤ (9223372036854775807 : Int)))) = true ∧
       I0_0 (x1 + (1 : Int)) ∧ M0_0 (x1 + (1 : Int)) < M0_0 x1) ∧
      ((tB (((Rf.dlst ((gAt x0 x1).getD 5 D0)).length : Int) == (0 : Int))) = false →
       (tB (decide ((-9223372036854775808 : Int) ≤ (x1 + (1 : Int))))) = true ∧
       (tB (decide ((x1 + (1 : Int)) ≤ (9223372036854775807 : Int)))) = true ∧
       I0_1 (([] : List (List D)) ++ (Rf.dlst ((gAt x0 x1).getD 5 D0))) (x1 + (1 : Int)) (Rf.dint ((gAt x0 x1).getD 0 D0)) true ((gAt x0 x1).getD 0 D0) ((gAt x0 x1).getD 1 D0) ((gAt x0 x1).getD 2 D0) ((gAt x0 x1).getD 3 D0) ((gAt x0 x1).getD 4 D0) ((gAt x0 x1).getD 5 D0) ∧ M0_1 (([] : List (List D)) ++ (Rf.dlst ((gAt x0 x1).getD 5 D0))) (x1 + (1 : Int)) (Rf.dint ((gAt x0 x1).getD 0 D0)) true ((gAt x0 x1).getD 0 D0) ((gAt x0 x1).getD 1 D0) ((gAt x0 x1).getD 2 D0) ((gAt x0 x1).getD 3 D0) ((gAt x0 x1).getD 4 D0) ((gAt x0 x1).getD 5 D0) < M0_0 x1)) ∧
     ((tB ((Rf.dint ((gAt x0 x1).getD 0 D0)) == (3 : Int))) = false →
      ((tB ((Rf.dint ((gAt x0 x1).getD 0 D0)) == (1 : Int))) = true →
       (tB (decide ((-9223372036854775808 : Int) ≤ (x1 + (1 : Int))))) = true ∧
       (tB (decide ((x1 + (1 : Int)) ≤ (9223372036854775807 : Int)))) = true ∧
       I0_0 (x1 + (1 : Int)) ∧ M0_0 (x1 + (1 : Int)) < M0_0 x1) ∧
      ((tB ((Rf.dint ((gAt x0 x1).getD 0 D0)) == (1 : Int))) = false →
       (flatB 6 ((gAt x0 x1) :: ([] : List (List D)))) = true ∧
       (tB (decide ((((0 : Int) + (((gAt x0 x1) :: ([] : List (List D))).length : Int)) * (64 : Int)) ≤ (140737488355328 : Int)))) = true ∧
       (tB (decide (((0 : Int) + (((gAt x0 x1) :: ([] : List (List D))).length : Int)) ≤ (1099511627776 : Int)))) = true ∧
       (tB (decide ((-9223372036854775808 : Int) ≤ (x1 + (1 : Int))))) = true ∧
       (tB (decide ((x1 + (1 : Int)) ≤ (9223372036854775807 : Int)))) = true ∧
       I0_1 ((gAt x0 x1) :: ([] : List (List D))) (x1 + (1 : Int)) (Rf.dint ((gAt x0 x1).getD 0 D0)) false ((gAt x0 x1).getD 0 D0) ((gAt x0 x1).getD 1 D0) ((gAt x0 x1).getD 2 D0) ((gAt x0 x1).getD 3 D0) ((gAt x0 x1).getD 4 D0) ((gAt x0 x1).getD 5 D0) ∧ M0_1 ((gAt x0 x1) :: ([] : List (List D))) (x1 + (1 : Int)) (Rf.dint ((gAt x0 x1).getD 0 D0)) false ((gAt x0 x1).getD 0 D0) ((gAt x0 x1).getD 1 D0) ((gAt x0 x1).getD 2 D0) ((gAt x0 x1).getD 3 D0) ((gAt x0 x1).getD 4 D0) ((gAt x0 x1).getD 5 D0) < M0_0 x1)))) ∧
   ((tB (decide (x1 < (x0.length : Int)))) = false →
    R (.ret (A.agg ((D.lit (.int .i64 (1 : Int))) :: ((D.lit (.int .u64 (0 : Int))) :: ((D.lit (.int .u64 (0 : Int))) :: ((D.lit (.int .u64 (0 : Int))) :: ((D.lit (.int .u64 (0 : Int))) :: ((D.slc ([] : List (List D))) :: ([] : List D))))))))) [])) ∧
  (∀ (x1 : List (List D)) (x2 : Int) (x3 : Int) (x4 : Bool) (x5 : D) (x6 : D) (x7 : D) (x8 : D) (x9 : D) (x10 : D) , I0_1 x1 x2 x3 x4 x5 x6 x7 x8 x9 x10 →
   ((tB (decide (x2 < (x0.length : Int)))) = true →
    (tB (decide ((0 : Int) ≤ x2))) = true ∧
    (tB (((gAt x0 x2).length : Int) == (6 : Int))) = true ∧
    (Rf.isK (.int .i64) ((gAt x0 x2).getD 0 D0)) = true ∧
    ((tB ((Rf.dint ((gAt x0 x2).getD 0 D0)) == (0 : Int))) = true →
     R (.ret (A.agg ((D.lit (.int .i64 (0 : Int))) :: ((D.lit (.int .u64 (0 : Int))) :: ((D.lit (.int .u64 (0 : Int))) :: ((D.lit (.int .u64 (0 : Int))) :: ((D.lit (.int .u64 (0 : Int))) :: ((D.slc ([] : List (List D))) :: ([] : List D))))))))) []) ∧
    ((tB ((Rf.dint ((gAt x0 x2).getD 0 D0)) == (0 : Int))) = false →
     ((tB ((Rf.dint ((gAt x0 x2).getD 0 D0)) == (3 : Int))) = true →
      (Rf.isK .slc ((gAt x0 x2).getD 5 D0)) = true ∧
      (flatB 6 (Rf.dlst ((gAt x0 x2).getD 5 D0))) = true ∧
      (tB (decide ((((x1.length : Int) + ((Rf.dlst ((gAt x0 x2).getD 5 D0)).length : Int)) * (64 : Int)) ≤ (140737488355328 : Int)))) = true ∧
      (tB (decide (((x1.length : Int) + ((Rf.dlst ((gAt x0 x2).getD 5 D0)).length : Int)) ≤ (1099511627776 : Int)))) = true ∧
      (tB (decide ((-9223372036854775808 : Int) ≤ (x2 + (1 : Int))))) = true ∧
      (tB (decide ((x2 + (1 : Int)) ≤ (9223372036854775807 : Int)))) = true ∧
      I0_1 (x1 ++ (Rf.dlst ((gAt x0 x2).getD 5 D0))) (x2 + (1 : Int)) (Rf.dint ((gAt x0 x2).getD 0 D0)) true ((gAt x0 x2).getD 0 D0) ((gAt x0 x2).getD 1 D0) ((gAt x0 x2).getD 2 D0) ((gAt x0 x2).getD 3 D0) ((gAt x0 x2).getD 4 D0) ((gAt x0 x2).getD 5 D0) ∧ M0_1 (x1 ++ (Rf.dlst ((gAt x0 x2).getD 5 D0))) (x2 + (1 : Int)) (Rf.dint ((gAt x0 x2).getD 0 D0)) true ((gAt x0 x2).getD 0 D0) ((gAt x0 x2).getD 1 D0) ((gAt x0 x2).getD 2 D0) ((gAt x0 x2).getD 3 D0) ((gAt x0 x2).getD 4 D0) ((gAt x0 x2).getD 5 D0) < M0_1 x1 x2 x3 x4 x5 x6 x7 x8 x9 x10) ∧
     ((tB ((Rf.dint ((gAt x0 x2).getD 0 D0)) == (3 : Int))) = false →
      ((tB ((Rf.dint ((gAt x0 x2).getD 0 D0)) == (1 : Int))) = true →
       (tB (decide ((-9223372036854775808 : Int) ≤ (x2 + (1 : Int))))) = true ∧
       (tB (decide ((x2 + (1 : Int)) ≤ (9223372036854775807 : Int)))) = true ∧
       I0_1 x1 (x2 + (1 : Int)) (Rf.dint ((gAt x0 x2).getD 0 D0)) false ((gAt x0 x2).getD 0 D0) ((gAt x0 x2).getD 1 D0) ((gAt x0 x2).getD 2 D0) ((gAt x0 x2).getD 3 D0) ((gAt x0 x2).getD 4 D0) ((gAt x0 x2).getD 5 D0) ∧ M0_1 x1 (x2 + (1 : Int)) (Rf.dint ((gAt x0 x2).getD 0 D0)) false ((gAt x0 x2).getD 0 D0) ((gAt x0 x2).getD 1 D0) ((gAt x0 x2).getD 2 D0) ((gAt x0 x2).getD 3 D0) ((gAt x0 x2).getD 4 D0) ((gAt x0 x2).getD 5 D0) < M0_1 x1 x2 x3 x4 x5 x6 x7 x8 x9 x10) ∧
      ((tB ((Rf.dint ((gAt x0 x2).getD 0 D0)) == (1 : Int))) = false →
       (flatB 6 ((gAt x0 x2) :: ([] : List (List D)))) = true ∧
       (tB (decide ((((x1.length : Int) + (((gAt x0 x2) :: ([] : List (List D))).length : Int)) * (64 : Int)) ≤ (140737488355328 : Int)))) = true ∧
       (tB (decide (((x1.length : Int) + (((gAt x0 x2) :: ([] : List (List D))).length : Int)) ≤ (1099511627776 : Int)))) = true ∧
       (tB (decide ((-9223372036854775808 : Int) ≤ (x2 + (1 : Int))))) = true ∧
       (tB (decide ((x2 + (1 : Int)) ≤ (9223372036854775807 : Int)))) = true ∧
       I0_1 (x1 ++ ((gAt x0 x2) :: ([] : List (List D)))) (x2 + (1 : Int)) (Rf.dint ((gAt x0 x2).getD 0 D0)) false ((gAt x0 x2).getD 0 D0) ((gAt x0 x2).getD 1 D0) ((gAt x0 x2).getD 2 D0) ((gAt x0 x2).getD 3 D0) ((gAt x0 x2).getD 4 D0) ((gAt x0 x2).getD 5 D0) ∧ M0_1 (x1 ++ ((gAt x0 x2) :: ([] : List (List D)))) (x2 + (1 : Int)) (Rf.dint ((gAt x0 x2).getD 0 D0)) false ((gAt x0 x2).getD 0 D0) ((gAt x0 x2).getD 1 D0) ((gAt x0 x2).getD 2 D0) ((gAt x0 x2).getD 3 D0) ((gAt x0 x2).getD 4 D0) ((gAt x0 x2).getD 5 D0) < M0_1 x1 x2 x3 x4 x5 x6 x7 x8 x9 x10)))) ∧
   ((tB (decide (x2 < (x0.length : Int)))) = false →
    ((tB ((x1.length : Int) == (0 : Int))) = true →
     R (.ret (A.agg ((D.lit (.int .i64 (1 : Int))) :: ((D.lit (.int .u64 (0 : Int))) :: ((D.lit (.int .u64 (0 : Int))) :: ((D.lit (.int .u64 (0 : Int))) :: ((D.lit (.int .u64 (0 : Int))) :: ((D.slc ([] : List (List D))) :: ([] : List D))))))))) []) ∧
    ((tB ((x1.length : Int) == (0 : Int))) = false →
     ∀ _ : Nat → Nat, ∃ R' : Out → List (Ref × List A) → Prop, Holds Try.prog 50 [(A.d (D.lit (.int .i64 (3 : Int)))), (A.d (D.slc x1))] [] R' ∧
     (∀ v H', R' (.ret v) H' → ∃ x11 : List D, v = (A.agg x11) ∧ H' = [] ∧
      (tB ((x11.length : Int) == (6 : Int))) = true ∧
      R (.ret (A.agg x11)) []) ∧
     (∀ x11v H', R' (.pan x11v) H' → H' = [] ∧
      R (.pan x11v) [])))) ∧
  True) :
    Holds Try.prog 56 [(A.d (D.slc x0))] [] R :=
  walk (c := ⟨Try.prog, 36, true, [0, 2, 3, 5, 6, 7, 8, 9, 13, 18, 21, 27, 32]⟩) (op := {  }) (fn := Try.f56) (args := [.c (.o1 .cl (.var 0))]) (K := []) (nv := 1) (depth := 6) (up := upOf []) (ρ := envOf [.l x0])
    rfl rfl rfl rfl rfl (by decide) (by decide) (by decide) (by decide) rfl (by simp [bxDen, RRef.den, upOf]) (T_of (by kernel_rfl) h)
theorem w57 {R : Out → List (Ref × List A) → Prop} (x0 : List (List D)) (h : ∃ (I0_0 : Int → Prop) (M0_0 : Int → Nat), ∃ (I0_1 : Int → Bool → D → D → D → D → D → D → List (List D) → Prop) (M0_1 : Int → Bool → D → D → D → D → D → D → List (List D) → Nat), I0_0 (0 : Int) ∧
  (∀ (x1 : Int) , I0_0 x1 →
   ((tB (decide (x1 < (x0.length : Int)))) = true →
    (tB (decide ((0 : Int) ≤ x1))) = true ∧
    (tB (((gAt x0 x1).length : Int) == (6 : Int))) = true ∧
    (Rf.isK (.int .i64) ((gAt x0 x1).getD 0 D0)) = true ∧
    ((tB ((Rf.dint ((gAt x0 x1).getD 0 D0)) == (4 : Int))) = true →
     (Rf.isK .slc ((gAt x0 x1).getD 5 D0)) = true ∧
     ∃ (I1_0 : Prop) (M1_0 : Nat), ∃ (I1_1 : Int → D → D → D → D → D → D → List (List D) → Prop) (M1_1 : Int → D → D → D → D → D → D → List (List D) → Nat), I1_0 ∧
     (I1_0 →
      ((tB (decide ((0 : Int) < ((Rf.dlst ((gAt x0 x1).getD 5 D0)).length : Int)))) = true →
       (tB (((gAt (Rf.dlst ((gAt x0 x1).getD 5 D0)) (0 : Int)).length : Int) == (6 : Int))) = true ∧
       ∀ ν : Nat → Nat, ∃ R' : Out → List (Ref × List A) → Prop, Holds Try.prog 68 [(A.agg (gAt (Rf.dlst ((gAt x0 x1).getD 5 D0)) (0 : Int))), (A.ptr (.up (Ref.own 3 (ν 3))) 0)] [(Ref.up (Ref.own 3 (ν 3)), [(A.zs ([] : List (List D)))])] R' ∧
       (∀ v H', R' (.ret v) H' → ∃ x2 : List (List D), v = (A.tup []) ∧ H' = [(Ref.up (Ref.own 3 (ν 3)), [(A.own 6 x2 ([] : List (List D)))])] ∧
        I1_1 (1 : Int) ((gAt (Rf.dlst ((gAt x0 x1).getD 5 D0)) (0 : Int)).getD 0 D0) ((gAt (Rf.dlst ((gAt x0 x1).getD 5 D0)) (0 : Int)).getD 1 D0) ((gAt (Rf.dlst ((gAt x0 x1).getD 5 D0)) (0 : Int)).getD 2 D0) ((gAt (Rf.dlst ((gAt x0 x1).getD 5 D0)) (0 : Int)).getD 3 D0) ((gAt (Rf.dlst ((gAt x0 x1).getD 5 D0)) (0 : Int)).getD 4 D0) ((gAt (Rf.dlst ((gAt x0 x1).getD 5 D0)) (0 : Int)).getD 5 D0) x2 ∧ M1_1 (1 : Int) ((gAt (Rf.dlst ((gAt x0 x1).getD 5 D0)) (0 : Int)).getD 0 D0) ((gAt (Rf.dlst ((gAt x0 x1).getD 5 D0)) (0 : Int)).getD 1 D0) ((gAt (Rf.dlst ((gAt x0 x1).getD 5 D0)) (0 : Int)).getD 2 D0) ((gAt (Rf.dlst ((gAt x0 x1).getD 5 D0)) (0 : Int)).getD 3 D0) ((gAt (Rf.dlst ((gAt x0 x1).getD 5 D0)) (0 : Int)).getD 4 D0) ((gAt (Rf.dlst ((gAt x0 x1).getD 5 D0)) (0 : Int)).getD 5 D0) x2 < M1_0) ∧
       (∀ x2v H', R' (.pan x2v) H' → ∃ x3 : List (List D), H' = [(Ref.up (Ref.own 3 (ν 3)), [(A.zs x3)])] ∧
        R (.pan x2v) [])) ∧
      ((tB (decide ((0 : Int) < ((Rf.dlst ((gAt x0 x1).getD 5 D0)).length : Int)))) = false →
       (tB (decide ((-9223372036854775808 : Int) ≤ (x1 + (1 : Int))))) = true ∧
       (tB (decide ((x1 + (1 : Int)) ≤ (9223372036854775807 : Int)))) = true ∧
       I0_0 (x1 + (1 : Int)) ∧ M0_0 (x1 + (1 : Int)) < M0_0 x1)) ∧
     (∀ (x2 : Int) (x3 : D) (x4 : D) (x5 : D) (x6 : D) (x7 : D) (x8 : D) (x9 : List (List D)) , I1_1 x2 x3 x4 x5 x6 x7 x8 x9 →
      ((tB (decide (x2 < ((Rf.dlst ((gAt x0 x1).getD 5 D0)).length : Int)))) = true →
       (tB (decide ((0 : Int) ≤ x2))) = true ∧
       (tB (((gAt (Rf.dlst ((gAt x0 x1).getD 5 D0)) x2).length : Int) == (6 : Int))) = true ∧
       ∀ ν : Nat → Nat, ∃ R' : Out → List (Ref × List A) → Prop, Holds Try.prog 68 [(A.agg (gAt (Rf.dlst ((gAt x0 x1).getD 5 D0)) x2)), (A.ptr (.up (Ref.own 3 (ν 3))) 0)] [(Ref.up (Ref.own 3 (ν 3)), [(A.own 6 x9 ([] : List (List D)))])] R' ∧
       (∀ v H', R' (.ret v) H' → ∃ x10 : List (List D), v = (A.tup []) ∧ H' = [(Ref.up (Ref.own 3 (ν 3)), [(A.own 6 x10 ([] : List (List D)))])] ∧
        (tB (decide ((-9223372036854775808 : Int) ≤ (x2 + (1 : Int))))) = true ∧
        (tB (decide ((x2 + (1 : Int)) ≤ (9223372036854775807 : Int)))) = true ∧
        I1_1 (x2 + (1 : Int)) ((gAt (Rf.dlst ((gAt x0 x1).getD 5 D0)) x2).getD 0 D0) ((gAt (Rf.dlst ((gAt x0 x1).getD 5 D0)) x2).getD 1 D0) ((gAt (Rf.dlst ((gAt x0 x1).getD 5 D0)) x2).getD 2 D0) ((gAt (Rf.dlst ((gAt x0 x1).getD 5 D0)) x2).getD 3 D0) ((gAt (Rf.dlst ((gAt x0 x1).getD 5 D0)) x2).getD 4 D0) ((gAt (Rf.dlst ((gAt x0 x1).getD 5 D0)) x2).getD 5 D0) x10 ∧ M1_1 (x2 + (1 : Int)) ((gAt (Rf.dlst ((gAt x0 x1).getD 5 D0)) x2).getD 0 D0) ((gAt (Rf.dlst ((gAt x0 x1).getD 5 D0)) x2).getD 1 D0) ((gAt (Rf.dlst ((gAt x0 x1).getD 5 D0)) x2).getD 2 D0) ((gAt (Rf.dlst ((gAt x0 x1).getD 5 D0)) x2).getD 3 D0) ((gAt (Rf.dlst ((gAt x0 x1).getD 5 D0)) x2).getD 4 D0) ((gAt (Rf.dlst ((gAt x0 x1).getD 5 D0)) x2).getD 5 D0) x10 < M1_1 x2 x3 x4 x5 x6 x7 x8 x9) ∧
       (∀ x10v H', R' (.pan x10v) H' → ∃ x11 : List (List D), H' = [(Ref.up (Ref.own 3 (ν 3)), [(A.own 6 x11 ([] : List (List D)))])] ∧
        R (.pan x10v) [])) ∧
      ((tB (decide (x2 < ((Rf.dlst ((gAt x0 x1).getD 5 D0)).length : Int)))) = false →
       (tB (decide ((-9223372036854775808 : Int) ≤ (x1 + (1 : Int))))) = true ∧
       (tB (decide ((x1 + (1 : Int)) ≤ (9223372036854775807 : Int)))) = true ∧
       I0_1 (x1 + (1 : Int)) true ((gAt x0 x1).getD 0 D0) ((gAt x0 x1).getD 1 D0) ((gAt x0 x1).getD 2 D0) ((gAt x0 x1).getD 3 D0) ((gAt x0 x1).getD 4 D0) ((gAt x0 x1).getD 5 D0) x9 ∧ M0_1 (x1 + (1 : Int)) true ((gAt x0 x1).getD 0 D0) ((gAt x0 x1).getD 1 D0) ((gAt x0 x1).getD 2 D0) ((gAt x0 x1).getD 3 D0) ((gAt x0 x1).getD 4 D0) ((gAt x0 x1).getD 5 D0) x9 < M0_0 x1)) ∧
     True) ∧
    ((tB ((Rf.dint ((gAt x0 x1).getD 0 D0)) == (4 : Int))) = false →
     ((!(tB ((Rf.dint ((gAt x0 x1).getD 0 D0)) == (0 : Int)))) = true →
      ∀ ν : Nat → Nat, ∃ R' : Out → List (Ref × List A) → Prop, Holds Try.prog 68 [(A.agg (gAt x0 x1)), (A.ptr (.up (Ref.own 3 (ν 3))) 0)] [(Ref.up (Ref.own 3 (ν 3)), [(A.zs ([] : List (List D)))])] R' ∧
      (∀ v H', R' (.ret v) H' → ∃ x2 : List (List D), v = (A.tup []) ∧ H' = [(Ref.up (Ref.own 3 (ν 3)), [(A.own 6 x2 ([] : List (List D)))])] ∧
       (tB (decide ((-9223372036854775808 : Int) ≤ (x1 + (1 : Int))))) = true ∧
       (tB (decide ((x1 + (1 : Int)) ≤ (9223372036854775807 : Int)))) = true ∧
       I0_1 (x1 + (1 : Int)) false ((gAt x0 x1).getD 0 D0) ((gAt x0 x1).getD 1 D0) ((gAt x0 x1).getD 2 D0) ((gAt x0 x1).getD 3 D0) ((gAt x0 x1).getD 4 D0) ((gAt x0 x1).getD 5 D0) x2 ∧ M0_1 (x1 + (1 : Int)) false ((gAt x0 x1).getD 0 D0) ((gAt x0 x1).getD 1 D0) ((gAt x0 x1).getD 2 D0) ((gAt x0 x1).getD 3 D0) ((gAt x0 x1).getD 4 D0) ((gAt x0 x1).getD 5 D0) x2 < M0_0 x1) ∧
      (∀ x2v H', R' (.pan x2v) H' → ∃ x3 : List (List D), H' = [(Ref.up (Ref.own 3 (ν 3)), [(A.zs x3)])] ∧
       R (.pan x2v) [])) ∧
     ((!(tB ((Rf.dint ((gAt x0 x1).getD 0 D0)) == (0 : Int)))) = false →
      (tB (decide ((-9223372036854775808 : Int) ≤ (x1 + (1 : Int))))) = true ∧
      (tB (decide ((x1 + (1 : Int)) ≤ (9223372036854775807 : Int)))) = true ∧
      I0_0 (x1 + (1 : Int)) ∧ M0_0 (x1 + (1 : Int)) < M0_0 x1))) ∧
   ((tB (decide (x1 < (x0.length : Int)))) = false →
    R (.ret (A.agg ((D.lit (.int .i64 (0 : Int))) :: ((D.lit (.int .u64 (0 : Int))) :: ((D.lit (.int .u64 (0 : Int))) :: ((D.lit (.int .u64 (0 : Int))) :: ((D.lit (.int .u64 (0 : Int))) :: ((D.slc ([] : List (List D))) :: ([] : List D))))))))) [])) ∧
  (∀ (x1 : Int) (x2 : Bool) (x3 : D) (x4 : D) (x5 : D) (x6 : D) (x7 : D) (x8 : D) (x9 : List (List D)) , I0_1 x1 x2 x3 x4 x5 x6 x7 x8 x9 →
   ((tB (decide (x1 < (x0.length : Int)))) = true →
    (tB (decide ((0 : Int) ≤ x1))) = true ∧
    (tB (((gAt x0 x1).length : Int) == (6 : Int))) = true ∧
    (Rf.isK (.int .i64) ((gAt x0 x1).getD 0 D0)) = true ∧
    ((tB ((Rf.dint ((gAt x0 x1).getD 0 D0)) == (4 : Int))) = true →
     (Rf.isK .slc ((gAt x0 x1).getD 5 D0)) = true ∧
     ∃ (I1_0 : Int → List (List D) → Prop) (M1_0 : Int → List (List D) → Nat), I1_0 (0 : Int) x9 ∧
     (∀ (x10 : Int) (x11 : List (List D)) , I1_0 x10 x11 →
      ((tB (decide (x10 < ((Rf.dlst ((gAt x0 x1).getD 5 D0)).length : Int)))) = true →
       (tB (decide ((0 : Int) ≤ x10))) = true ∧
       (tB (((gAt (Rf.dlst ((gAt x0 x1).getD 5 D0)) x10).length : Int) == (6 : Int))) = true ∧
       ∀ ν : Nat → Nat, ∃ R' : Out → List (Ref × List A) → Prop, Holds Try.prog 68 [(A.agg (gAt (Rf.dlst ((gAt x0 x1).getD 5 D0)) x10)), (A.ptr (.up (Ref.own 3 (ν 3))) 0)] [(Ref.up (Ref.own 3 (ν 3)), [(A.own 6 x11 ([] : List (List D)))])] R' ∧
       (∀ v H', R' (.ret v) H' → ∃ x12 : List (List D), v = (A.tup []) ∧ H' = [(Ref.up (Ref.own 3 (ν 3)), [(A.own 6 x12 ([] : List (List D)))])] ∧
        (tB (decide ((-9223372036854775808 : Int) ≤ (x10 + (1 : Int))))) = true ∧
        (tB (decide ((x10 + (1 : Int)) ≤ (9223372036854775807 : Int)))) = true ∧
        I1_0 (x10 + (1 : Int)) x12 ∧ M1_0 (x10 + (1 : Int)) x12 < M1_0 x10 x11) ∧
       (∀ x12v H', R' (.pan x12v) H' → ∃ x13 : List (List D), H' = [(Ref.up (Ref.own 3 (ν 3)), [(A.own 6 x13 ([] : List (List D)))])] ∧
        R (.pan x12v) [])) ∧
      ((tB (decide (x10 < ((Rf.dlst ((gAt x0 x1).getD 5 D0)).length : Int)))) = false →
       (tB (decide ((-9223372036854775808 : Int) ≤ (x1 + (1 : Int))))) = true ∧
       (tB (decide ((x1 + (1 : Int)) ≤ (9223372036854775807 : Int)))) = true ∧
       I0_1 (x1 + (1 : Int)) true ((gAt x0 x1).getD 0 D0) ((gAt x0 x1).getD 1 D0) ((gAt x0 x1).getD 2 D0) ((gAt x0 x1).getD 3 D0) ((gAt x0 x1).getD 4 D0) ((gAt x0 x1).getD 5 D0) x11 ∧ M0_1 (x1 + (1 : Int)) true ((gAt x0 x1).getD 0 D0) ((gAt x0 x1).getD 1 D0) ((gAt x0 x1).getD 2 D0) ((gAt x0 x1).getD 3 D0) ((gAt x0 x1).getD 4 D0) ((gAt x0 x1).getD 5 D0) x11 < M0_1 x1 x2 x3 x4 x5 x6 x7 x8 x9)) ∧
     True) ∧
    ((tB ((Rf.dint ((gAt x0 x1).getD 0 D0)) == (4 : Int))) = false →
     ((!(tB ((Rf.dint ((gAt x0 x1).getD 0 D0)) == (0 : Int)))) = true →
      ∀ ν : Nat → Nat, ∃ R' : Out → List (Ref × List A) → Prop, Holds Try.prog 68 [(A.agg (gAt x0 x1)), (A.ptr (.up (Ref.own 3 (ν 3))) 0)] [(Ref.up (Ref.own 3 (ν 3)), [(A.own 6 x9 ([] : List (List D)))])] R' ∧
      (∀ v H', R' (.ret v) H' → ∃ x10 : List (List D), v = (A.tup []) ∧ H' = [(Ref.up (Ref.own 3 (ν 3)), [(A.own 6 x10 ([] : List (List D)))])] ∧
       (tB (decide ((-9223372036854775808 : Int) ≤ (x1 + (1 : Int))))) = true ∧
       (tB (decide ((x1 + (1 : Int)) ≤ (9223372036854775807 : Int)))) = true ∧
       I0_1 (x1 + (1 : Int)) false ((gAt x0 x1).getD 0 D0) ((gAt x0 x1).getD 1 D0) ((gAt x0 x1).getD 2 D0) ((gAt x0 x1).getD 3 D0) ((gAt x0 x1).getD 4 D0) ((gAt x0 x1).getD 5 D0) x10 ∧ M0_1 (x1 + (1 : Int)) false ((gAt x0 x1).getD 0 D0) ((gAt x0 x1).getD 1 D0) ((gAt x0 x1).getD 2 D0) ((gAt x0 x1).getD 3 D0) ((gAt x0 x1).getD 4 D0) ((gAt x0 x1).getD 5 D0) x10 < M0_1 x1 x2 x3 x4 x5 x6 x7 x8 x9) ∧
      (∀ x10v H', R' (.pan x10v) H' → ∃ x11 : List (List D), H' = [(Ref.up (Ref.own 3 (ν 3)), [(A.own 6 x11 ([] : List (List D)))])] ∧
       R (.pan x10v) [])) ∧
     ((!(tB ((Rf.dint ((gAt x0 x1).getD 0 D0)) == (0 : Int)))) = false →
      (tB (decide ((-9223372036854775808 : Int) ≤ (x1 + (1 : Int))))) = true ∧
      (tB (decide ((x1 + (1 : Int)) ≤ (9223372036854775807 : Int)))) = true ∧
      I0_1 (x1 + (1 : Int)) false ((gAt x0 x1).getD 0 D0) ((gAt x0 x1).getD 1 D0) ((gAt x0 x1).getD 2 D0) ((gAt x0 x1).getD 3 D0) ((gAt x0 x1).getD 4 D0) ((gAt x0 x1).getD 5 D0) x9 ∧ M0_1 (x1 + (1 : Int)) false ((gAt x0 x1).getD 0 D0) ((gAt x0 x1).getD 1 D0) ((gAt x0 x1).getD 2 D0) ((gAt x0 x1).getD 3 D0) ((gAt x0 x1).getD 4 D0) ((gAt x0 x1).getD 5 D0) x9 < M0_1 x1 x2 x3 x4 x5 x6 x7 x8 x9))) ∧
   ((tB (decide (x1 < (x0.length : Int)))) = false →
    ((tB ((x9.length : Int) == (0 : Int))) = true →
     R (.ret (A.agg ((D.lit (.int .i64 (0 : Int))) :: ((D.lit (.int .u64 (0 : Int))) :: ((D.lit (.int .u64 (0 : Int))) :: ((D.lit (.int .u64 (0 : Int))) :: ((D.lit (.int .u64 (0 : Int))) :: ((D.slc ([] : List (List D))) :: ([] : List D))))))))) []) ∧
    ((tB ((x9.length : Int) == (0 : Int))) = false →
     ∀ _ : Nat → Nat, ∃ R' : Out → List (Ref × List A) → Prop, Holds Try.prog 50 [(A.d (D.lit (.int .i64 (4 : Int)))), (A.d (D.slc x9))] [] R' ∧
     (∀ v H', R' (.ret v) H' → ∃ x10 : List D, v = (A.agg x10) ∧ H' = [] ∧
      (tB ((x10.length : Int) == (6 : Int))) = true ∧
      R (.ret (A.agg x10)) []) ∧
     (∀ x10v H', R' (.pan x10v) H' → H' = [] ∧
      R (.pan x10v) [])))) ∧
  True) :
    Holds Try.prog 57 [(A.d (D.slc x0))] [] R :=
  walk (c := ⟨Try.prog, 45, true, [0, 2, 3, 4, 6, 8, 10, 11, 12, 13, 16, 21, 22, 23, 24, 31, 41]⟩) (op := { grow := [(68, 6)] }) (fn := Try.f57) (args := [.c (.o1 .cl (.var 0))]) (K := []) (nv := 1) (depth := 6) (up := upOf []) (ρ := envOf [.l x0])
    rfl rfl rfl rfl rfl (by decide) (by decide) (by decide) (by decide) rfl (by simp [bxDen, RRef.den, upOf]) (T_of (by kernel_rfl) h)
theorem w68a {R : Out → List (Ref × List A) → Prop} (x0 : List D) (q0 : Ref) (h : (tB ((x0.length : Int) == (6 : Int))) = true ∧
  ∃ (I0_0 : Prop) (M0_0 : Nat), I0_0 ∧
  (I0_0 →
   (tB (decide ((((0 : Int) + ((((D.lit (.int .i64 (0 : Int))) :: ((D.lit (.int .u64 (0 : Int))) :: ((D.lit (.int .u64 (0 : Int))) :: ((D.lit (.int .u64 (0 : Int))) :: ((D.lit (.int .u64 (0 : Int))) :: ((D.slc ([] : List (List D))) :: ([] : List D))))))) :: ([] : List (List D))).length : Int)) * (64 : Int)) ≤ (140737488355328 : Int)))) = true ∧
   (tB (decide (((0 : Int) + ((((D.lit (.int .i64 (0 : Int))) :: ((D.lit (.int .u64 (0 : Int))) :: ((D.lit (.int .u64 (0 : Int))) :: ((D.lit (.int .u64 (0 : Int))) :: ((D.lit (.int .u64 (0 : Int))) :: ((D.slc ([] : List (List D))) :: ([] : List D))))))) :: ([] : List (List D))).length : Int)) ≤ (1099511627776 : Int)))) = true ∧
   (tB (decide ((0 : Int) < ((((D.lit (.int .i64 (0 : Int))) :: ((D.lit (.int .u64 (0 : Int))) :: ((D.lit (.int .u64 (0 : Int))) :: ((D.lit (.int .u64 (0 : Int))) :: ((D.lit (.int .u64 (0 : Int))) :: ((D.slc ([] : List (List D))) :: ([] : List D))))))) :: ([] : List (List D))).length : Int)))) = true ∧
   R (.ret (A.tup [])) [((Ref.up q0), [(A.own 6 (([] : List (List D)) ++ (gSet (((D.lit (.int .i64 (0 : Int))) :: ((D.lit (.int .u64 (0 : Int))) :: ((D.lit (.int .u64 (0 : Int))) :: ((D.lit (.int .u64 (0 : Int))) :: ((D.lit (.int .u64 (0 : Int))) :: ((D.slc ([] : List (List D))) :: ([] : List D))))))) :: ([] : List (List D))) (0 : Int) (setL (gAt (((D.lit (.int .i64 (0 : Int))) :: ((D.lit (.int .u64 (0 : Int))) :: ((D.lit (.int .u64 (0 : Int))) :: ((D.lit (.int .u64 (0 : Int))) :: ((D.lit (.int .u64 (0 : Int))) :: ((D.slc ([] : List (List D))) :: ([] : List D))))))) :: ([] : List (List D))) (0 : Int)) 0 x0))) ([] : List (List D)))])]) ∧
  True) :
    Holds Try.prog 68 [(A.agg x0), (A.ptr (Ref.up q0) 0)] [((Ref.up q0), [(A.zs ([] : List (List D)))])] R :=
  walk (c := ⟨Try.prog, 21, true, [0, 1, 2, 4, 5, 6, 7, 8, 13]⟩) (op := { lat := [6] }) (fn := Try.f68) (args := [.agg (.var 0), .ptr (.up 0) 0]) (K := [(.up 0, [.zs .lnil])]) (nv := 1) (depth := 5) (up := upOf [q0]) (ρ := envOf [.r x0])
    rfl rfl rfl rfl rfl (by decide) (by decide) (by decide) (by decide) rfl (by simp [bxDen, RRef.den, upOf]) (T_of (by kernel_rfl) h)
theorem w68b {R : Out → List (Ref × List A) → Prop} (x0 : List D) (x1 : List (List D)) (q0 : Ref) (h : (tB ((x0.length : Int) == (6 : Int))) = true ∧
  ∃ (I0_0 : Int → Prop) (M0_0 : Int → Nat), I0_0 (0 : Int) ∧
  (∀ (x2 : Int) , I0_0 x2 →
   ((tB (decide (x2 < (x1.length : Int)))) = true →
    (tB (decide ((0 : Int) ≤ x2))) = true ∧
    (tB (((gAt x1 x2).length : Int) == (6 : Int))) = true ∧
    ∀ _ : Nat → Nat, ∃ R' : Out → List (Ref × List A) → Prop, Holds Try.prog 69 [(A.agg x0), (A.agg (gAt x1 x2))] [] R' ∧
    (∀ v H', R' (.ret v) H' → ∃ x3 : Bool, v = (A.d (D.lit (.bool x3))) ∧ H' = [] ∧
     (x3 = true →
      R (.ret (A.tup [])) [((Ref.up q0), [(A.own 6 x1 ([] : List (List D)))])]) ∧
     (x3 = false →
      (tB (decide ((-9223372036854775808 : Int) ≤ (x2 + (1 : Int))))) = true ∧
      (tB (decide ((x2 + (1 : Int)) ≤ (9223372036854775807 : Int)))) = true ∧
      I0_0 (x2 + (1 : Int)) ∧ M0_0 (x2 + (1 : Int)) < M0_0 x2)) ∧
    (∀ x3v H', R' (.pan x3v) H' → H' = [] ∧
     R (.pan x3v) [((Ref.up q0), [(A.own 6 x1 ([] : List (List D)))])])) ∧
   ((tB (decide (x2 < (x1.length : Int)))) = false →
    (tB (decide ((((x1.length : Int) + ((((D.lit (.int .i64 (0 : Int))) :: ((D.lit (.int .u64 (0 : Int))) :: ((D.lit (.int .u64 (0 : Int))) :: ((D.lit (.int .u64 (0 : Int))) :: ((D.lit (.int .u64 (0 : Int))) :: ((D.slc ([] : List (List D))) :: ([] : List D))))))) :: ([] : List (List D))).length : Int)) * (64 : Int)) ≤ (140737488355328 : Int)))) = true ∧
    (tB (decide (((x1.length : Int) + ((((D.lit (.int .i64 (0 : Int))) :: ((D.lit (.int .u64 (0 : Int))) :: ((D.lit (.int .u64 (0 : Int))) :: ((D.lit (.int .u64 (0 : Int))) :: ((D.lit (.int .u64 (0 : Int))) :: ((D.slc ([] : List (List D))) :: ([] : List D))))))) :: ([] : List (List D))).length : Int)) ≤ (1099511627776 : Int)))) = true ∧
    R (.ret (A.tup [])) [((Ref.up q0), [(A.own 6 (x1 ++ ((setL ((D.lit (.int .i64 (0 : Int))) :: ((D.lit (.int .u64 (0 : Int))) :: ((D.lit (.int .u64 (0 : Int))) :: ((D.lit (.int .u64 (0 : Int))) :: ((D.lit (.int .u64 (0 : Int))) :: ((D.slc ([] : List (List D))) :: ([] : List D))))))) 0 x0) :: ([] : List (List D)))) ([] : List (List D)))])])) ∧
  True) :
    Holds Try.prog 68 [(A.agg x0), (A.ptr (Ref.up q0) 0)] [((Ref.up q0), [(A.own 6 x1 ([] : List (List D)))])] R :=
  walk (c := ⟨Try.prog, 21, true, [0, 1, 2, 4, 5, 6, 7, 8, 13]⟩) (op := { lat := [6] }) (fn := Try.f68) (args := [.agg (.var 0), .ptr (.up 0) 0]) (K := [(.up 0, [.own 6 (.var 1) .lnil])]) (nv := 2) (depth := 5) (up := upOf [q0]) (ρ := envOf [.r x0, .l x1])
    rfl rfl rfl rfl rfl (by decide) (by decide) (by decide) (by decide) rfl (by simp [bxDen, RRef.den, upOf]) (T_of (by kernel_rfl) h)
theorem w69 {R : Out → List (Ref × List A) → Prop} (x0 : List D) (x1 : List D) (h : (tB ((x0.length : Int) == (6 : Int))) = true ∧
  (tB ((x1.length : Int) == (6 : Int))) = true ∧
  (Rf.isK (.int .i64) (x0.getD 0 D0)) = true ∧
  (Rf.isK (.int .i64) (x1.getD 0 D0)) = true ∧
  ((!(tB ((Rf.dint (x0.getD 0 D0)) == (Rf.dint (x1.getD 0 D0))))) || (Rf.isK (.int .u64) (x0.getD 1 D0))) = true ∧
  ((!(tB ((Rf.dint (x0.getD 0 D0)) == (Rf.dint (x1.getD 0 D0))))) || (Rf.isK (.int .u64) (x1.getD 1 D0))) = true ∧
  ((!(tB ((Rf.dint (x0.getD 0 D0)) == (Rf.dint (x1.getD 0 D0))))) || (Rf.isK (.int .u64) (x0.getD 2 D0))) = true ∧
  ((!(tB ((Rf.dint (x0.getD 0 D0)) == (Rf.dint (x1.getD 0 D0))))) || (Rf.isK (.int .u64) (x1.getD 2 D0))) = true ∧
  ((!(tB ((Rf.dint (x0.getD 0 D0)) == (Rf.dint (x1.getD 0 D0))))) || (Rf.isK (.int .u64) (x0.getD 3 D0))) = true ∧
  ((!(tB ((Rf.dint (x0.getD 0 D0)) == (Rf.dint (x1.getD 0 D0))))) || (Rf.isK (.int .u64) (x1.getD 3 D0))) = true ∧
  ((!(tB ((Rf.dint (x0.getD 0 D0)) == (Rf.dint (x1.getD 0 D0))))) || (Rf.isK (.int .u64) (x0.getD 4 D0))) = true ∧
  ((!(tB ((Rf.dint (x0.getD 0 D0)) == (Rf.dint (x1.getD 0 D0))))) || (Rf.isK (.int .u64) (x1.getD 4 D0))) = true ∧
  (((!(tB ((Rf.dint (x0.getD 0 D0)) == (Rf.dint (x1.getD 0 D0))))) || (!((tB ((Rf.dint (x0.getD 1 D0)) == (Rf.dint (x1.getD 1 D0)))) && ((tB ((Rf.dint (x0.getD 2 D0)) == (Rf.dint (x1.getD 2 D0)))) && ((tB ((Rf.dint (x0.getD 3 D0)) == (Rf.dint (x1.getD 3 D0)))) && (tB ((Rf.dint (x0.getD 4 D0)) == (Rf.dint (x1.getD 4 D0))))))))) || (Rf.isK .slc (x0.getD 5 D0))) = true ∧
  (((!(tB ((Rf.dint (x0.getD 0 D0)) == (Rf.dint (x1.getD 0 D0))))) || (!((tB ((Rf.dint (x0.getD 1 D0)) == (Rf.dint (x1.getD 1 D0)))) && ((tB ((Rf.dint (x0.getD 2 D0)) == (Rf.dint (x1.getD 2 D0)))) && ((tB ((Rf.dint (x0.getD 3 D0)) == (Rf.dint (x1.getD 3 D0)))) && (tB ((Rf.dint (x0.getD 4 D0)) == (Rf.dint (x1.getD 4 D0))))))))) || (Rf.isK .slc (x1.getD 5 D0))) = true ∧
  ((((!(tB ((Rf.dint (x0.getD 0 D0)) == (Rf.dint (x1.getD 0 D0))))) || (!((tB ((Rf.dint (x0.getD 1 D0)) == (Rf.dint (x1.getD 1 D0)))) && ((tB ((Rf.dint (x0.getD 2 D0)) == (Rf.dint (x1.getD 2 D0)))) && ((tB ((Rf.dint (x0.getD 3 D0)) == (Rf.dint (x1.getD 3 D0)))) && (tB ((Rf.dint (x0.getD 4 D0)) == (Rf.dint (x1.getD 4 D0))))))))) || (!(tB (((Rf.dlst (x0.getD 5 D0)).length : Int) == ((Rf.dlst (x1.getD 5 D0)).length : Int))))) = true →
   R (.ret (A.d (D.lit (.bool false)))) []) ∧
  ((((!(tB ((Rf.dint (x0.getD 0 D0)) == (Rf.dint (x1.getD 0 D0))))) || (!((tB ((Rf.dint (x0.getD 1 D0)) == (Rf.dint (x1.getD 1 D0)))) && ((tB ((Rf.dint (x0.getD 2 D0)) == (Rf.dint (x1.getD 2 D0)))) && ((tB ((Rf.dint (x0.getD 3 D0)) == (Rf.dint (x1.getD 3 D0)))) && (tB ((Rf.dint (x0.getD 4 D0)) == (Rf.dint (x1.getD 4 D0))))))))) || (!(tB (((Rf.dlst (x0.getD 5 D0)).length : Int) == ((Rf.dlst (x1.getD 5 D0)).length : Int))))) = false →
   (Rf.isK .slc (x0.getD 5 D0)) = true ∧
   ∃ (I0_0 : Int → Prop) (M0_0 : Int → Nat), I0_0 (0 : Int) ∧
   (∀ (x2 : Int) , I0_0 x2 →
    ((tB (decide (x2 < ((Rf.dlst (x0.getD 5 D0)).length : Int)))) = true →
     (tB (decide ((0 : Int) ≤ x2))) = true ∧
     (tB (((gAt (Rf.dlst (x0.getD 5 D0)) x2).length : Int) == (6 : Int))) = true ∧
     (Rf.isK .slc (x1.getD 5 D0)) = true ∧
     (tB (decide (x2 < ((Rf.dlst (x1.getD 5 D0)).length : Int)))) = true ∧
     (tB (((gAt (Rf.dlst (x1.getD 5 D0)) x2).length : Int) == (6 : Int))) = true ∧
     ∀ _ : Nat → Nat, ∃ R' : Out → List (Ref × List A) → Prop, Holds Try.prog 69 [(A.agg (gAt (Rf.dlst (x0.getD 5 D0)) x2)), (A.agg (gAt (Rf.dlst (x1.getD 5 D0)) x2))] [] R' ∧
     (∀ v H', R' (.ret v) H' → ∃ x3 : Bool, v = (A.d (D.lit (.bool x3))) ∧ H' = [] ∧
      ((!x3) = true →
       R (.ret (A.d (D.lit (.bool false)))) []) ∧
      ((!x3) = false →
       (tB (decide ((-9223372036854775808 : Int) ≤ (x2 + (1 : Int))))) = true ∧
       (tB (decide ((x2 + (1 : Int)) ≤ (9223372036854775807 : Int)))) = true ∧
       I0_0 (x2 + (1 : Int)) ∧ M0_0 (x2 + (1 : Int)) < M0_0 x2)) ∧
     (∀ x3v H', R' (.pan x3v) H' → H' = [] ∧
      R (.pan x3v) [])) ∧
    ((tB (decide (x2 < ((Rf.dlst (x0.getD 5 D0)).length : Int)))) = false →
     R (.ret (A.d (D.lit (.bool true)))) [])) ∧
   True)) :
    Holds Try.prog 69 [(A.agg x0), (A.agg x1)] [] R :=
  walk (c := ⟨Try.prog, 46, true, [0, 1, 2, 3, 4, 5, 26, 29, 30, 31, 44]⟩) (op := {  }) (fn := Try.f69) (args := [.agg (.var 0), .agg (.var 1)]) (K := []) (nv := 2) (depth := 6) (up := upOf []) (ρ := envOf [.r x0, .r x1])
    rfl rfl rfl rfl rfl (by decide) (by decide) (by decide) (by decide) rfl (by simp [bxDen, RRef.den, upOf]) (T_of (by kernel_rfl) h)
theorem w50 {R : Out → List (Ref × List A) → Prop} (x0 : Int) (x1 : List (List D)) (h : ((tB ((x1.length : Int) == (1 : Int))) = true →
   (tB (decide ((0 : Int) < (x1.length : Int)))) = true ∧
   (tB (((gAt x1 (0 : Int)).length : Int) == (6 : Int))) = true ∧
   R (.ret (A.agg (gAt x1 (0 : Int)))) []) ∧
  ((tB ((x1.length : Int) == (1 : Int))) = false →
   R (.ret (A.agg ((D.lit (.int .i64 x0)) :: ((D.lit (.int .u64 (0 : Int))) :: ((D.lit (.int .u64 (0 : Int))) :: ((D.lit (.int .u64 (0 : Int))) :: ((D.lit (.int .u64 (0 : Int))) :: ((D.slc x1) :: ([] : List D))))))))) [])) :
    Holds Try.prog 50 [(A.d (D.lit (.int .i64 x0))), (A.d (D.slc x1))] [] R :=
  walk (c := ⟨Try.prog, 14, true, [0, 1, 4, 7]⟩) (op := {  }) (fn := Try.f50) (args := [.c (.o1 (.ci .i64) (.var 0)), .c (.o1 .cl (.var 1))]) (K := []) (nv := 2) (depth := 4) (up := upOf []) (ρ := envOf [.i x0, .l x1])
    rfl rfl rfl rfl rfl (by decide) (by decide) (by decide) (by decide) rfl (by simp [bxDen, RRef.den, upOf]) (T_of (by kernel_rfl) h)
theorem w24 {R : Out → List (Ref × List A) → Prop} (x0 : List D) (x1 : List UInt8) (h : (tB ((x0.length : Int) == (6 : Int))) = true ∧
  ∀ _ : Nat → Nat, ∃ R' : Out → List (Ref × List A) → Prop, Holds Try.prog 15 [(A.agg x0)] [] R' ∧
  (∀ v H', R' (.ret v) H' → ∃ x2 : Int, v = (A.d (D.lit (.int .i64 x2))) ∧ H' = [] ∧
   ((!(tB (x2 == (0 : Int)))) = true →
    R (.ret (A.d (D.lit (.bool false)))) []) ∧
   ((!(tB (x2 == (0 : Int)))) = false →
    ∃ (I0_0 : Int → D → D → D → D → D → D → Prop) (M0_0 : Int → D → D → D → D → D → D → Nat), I0_0 (0 : Int) (x0.getD 0 D0) (x0.getD 1 D0) (x0.getD 2 D0) (x0.getD 3 D0) (x0.getD 4 D0) (x0.getD 5 D0) ∧
    (∀ (x3 : Int) (x4 : D) (x5 : D) (x6 : D) (x7 : D) (x8 : D) (x9 : D) , I0_0 x3 x4 x5 x6 x7 x8 x9 →
     ((tB (decide (x3 < (x1.length : Int)))) = true →
      (tB (decide ((0 : Int) ≤ x3))) = true ∧
      ∀ _ : Nat → Nat, ∃ R' : Out → List (Ref × List A) → Prop, Holds Try.prog 41 [(A.agg (x4 :: (x5 :: (x6 :: (x7 :: (x8 :: (x9 :: ([] : List D)))))))), (A.d (D.lit (.int .u8 (gByte x1 x3))))] [] R' ∧
      (∀ v H', R' (.ret v) H' → ∃ x10 : List D, v = (A.agg x10) ∧ H' = [] ∧
       (tB ((x10.length : Int) == (6 : Int))) = true ∧
       (tB (decide ((-9223372036854775808 : Int) ≤ (x3 + (1 : Int))))) = true ∧
       (tB (decide ((x3 + (1 : Int)) ≤ (9223372036854775807 : Int)))) = true ∧
       I0_0 (x3 + (1 : Int)) (x10.getD 0 D0) (x10.getD 1 D0) (x10.getD 2 D0) (x10.getD 3 D0) (x10.getD 4 D0) (x10.getD 5 D0) ∧ M0_0 (x3 + (1 : Int)) (x10.getD 0 D0) (x10.getD 1 D0) (x10.getD 2 D0) (x10.getD 3 D0) (x10.getD 4 D0) (x10.getD 5 D0) < M0_0 x3 x4 x5 x6 x7 x8 x9) ∧
      (∀ x10v H', R' (.pan x10v) H' → H' = [] ∧
       R (.pan x10v) [])) ∧
     ((tB (decide (x3 < (x1.length : Int)))) = false →
      ∀ _ : Nat → Nat, ∃ R' : Out → List (Ref × List A) → Prop, Holds Try.prog 42 [(A.agg (x4 :: (x5 :: (x6 :: (x7 :: (x8 :: (x9 :: ([] : List D))))))))] [] R' ∧
      (∀ v H', R' (.ret v) H' → ∃ x10 : Bool, v = (A.d (D.lit (.bool x10))) ∧ H' = [] ∧
       R (.ret (A.d (D.lit (.bool x10)))) []) ∧
      (∀ x10v H', R' (.pan x10v) H' → H' = [] ∧
       R (.pan x10v) []))) ∧
    True)) ∧
  (∀ x2v H', R' (.pan x2v) H' → H' = [] ∧
   R (.pan x2v) [])) :
    Holds Try.prog 24 [(A.agg x0), (A.d (D.lit (bytesV x1)))] [] R :=
  walk (c := ⟨Try.prog, 22, true, [0, 1, 2, 4, 5, 8, 10, 11, 12]⟩) (op := {  }) (fn := Try.f24) (args := [.agg (.var 0), .c (.o1 .cs (.var 1))]) (K := []) (nv := 2) (depth := 5) (up := upOf []) (ρ := envOf [.r x0, .s x1])
    rfl rfl rfl rfl rfl (by decide) (by decide) (by decide) (by decide) rfl (by simp [bxDen, RRef.den, upOf]) (T_of (by kernel_rfl) h)
end Go.Rx
end
section
open Go Go.Proofs Go.Ab Go.Rf
set_option maxRecDepth 100000
namespace Go.Rx
theorem tle {a b : Int} (h : a ≤ b) : (tB (decide (a ≤ b))) = true := by simp [h]
theorem tlt {a b : Int} (h : a < b) : (tB (decide (a < b))) = true := by simp [h]
theorem teq {a b : Int} (h : a = b) : (tB (a == b)) = true := by simp [h]
theorem of_tle {a b : Int} (h : (tB (decide (a ≤ b))) = true) : a ≤ b := by simpa using h
theorem of_tlt {a b : Int} (h : (tB (decide (a < b))) = true) : a < b := by simpa using h
theorem of_teq {a b : Int} (h : (tB (a == b)) = true) : a = b := by simpa using h
theorem of_fle {a b : Int} (h : (tB (decide (a ≤ b))) = false) : b < a := by simpa using h
theorem of_flt {a b : Int} (h : (tB (decide (a < b))) = false) : b ≤ a := by simpa using h
theorem of_feq {a b : Int} (h : (tB (a == b)) = false) : a ≠ b := by simpa using h
structure At (s t : List UInt8) (i : Int) : Prop where
  suf : t <:+ s
  pos : i + t.length = s.length
  sm : s.length ≤ 1048576
theorem At.next {s t : List UInt8} {i : Int} (h : At s t i) (hn : t ≠ []) : At s t.tail (i + 1) := by
  refine ⟨(tail_suf _).trans h.suf, ?_, h.sm⟩
  have := h.pos
  have : t.tail.length + 1 = t.length := by cases t with
    | nil => exact absurd rfl hn
    | cons c t => simp
  omega
theorem At.lo {s t : List UInt8} {i : Int} (h : At s t i) : 0 ≤ i ∧ i ≤ 1048576 := by
  have := h.pos; have := h.sm; have := h.suf.length_le; omega
theorem At.lt {s t : List UInt8} {i : Int} (h : At s t i) : i < (s.length : Int) ↔ t ≠ [] := by
  have h1 := h.pos
  cases t with
  | nil => simp at h1; simp; omega
  | cons c t => simp at h1; simp; omega
theorem At.byte {s t : List UInt8} {i : Int} (h : At s t i) (hn : t ≠ []) : gByte s i = hd t := by
  obtain ⟨u, hu⟩ := h.suf
  cases t with
  | nil => exact absurd rfl hn
  | cons c t =>
    have h1 := h.pos
    rw [← hu] at h1 ⊢
    simp only [List.length_append, List.length_cons] at h1
    have e : i.toNat = u.length := by omega
    simp [gByte, e, hd]
theorem hd_nil {t : List UInt8} (h : hd t ≠ 0) : t ≠ [] := by rintro rfl; exact h rfl
theorem hd_lt (t : List UInt8) : hd t < 256 := by
  cases t with
  | nil => simp [hd]
  | cons c t => exact c.toNat_lt
def PB (q : Ref) (s : List UInt8) (i : Int) : List (Ref × List A) := [(.up q, [A.d (.lit (bytesV s)), A.d (.lit (.int .i64 i))])]
def faultV (i : Int) : Value := dval (D.lit (.iface 56 (.agg (([D.lit (.int .i64 i)] : List D).map dval).toArray)))
def Res.map {α β : Type} (f : α → β) : Res α → Res β | .ok a t => .ok (f a) t | .bad t => .bad t
def RetB (v : A) (B : List (Ref × List A)) : Out → List (Ref × List A) → Prop := fun o H => o = .ret v ∧ H = B
def PAft (q : Ref) (s : List UInt8) (res : Res A) : Out → List (Ref × List A) → Prop := fun o H => match res with
  | .ok v t => o = .ret v ∧ ∃ i, At s t i ∧ H = PB q s i
  | .bad t => ∃ i j, At s t i ∧ o = .pan (faultV i) ∧ H = PB q s j
theorem callB {P : Program} {f : Nat} {args : List A} {v : A} {B B' : List (Ref × List A)} (hc : Holds P f args B (RetB v B')) {Q1 : A → List (Ref × List A) → Prop} {Q2 : Value → List (Ref × List A) → Prop} (h : Q1 v B') :
    ∀ _ : Nat → Nat, ∃ R' : Out → List (Ref × List A) → Prop, Holds P f args B R' ∧ (∀ v H', R' (.ret v) H' → Q1 v H') ∧ (∀ u H', R' (.pan u) H' → Q2 u H') :=
  fun _ => ⟨_, hc, fun v' H' e => by obtain ⟨e1, rfl⟩ := e; cases e1; exact h, fun u H' e => by cases e.1⟩
theorem callF {P : Program} {f : Nat} {args : List A} {v : Value} {B B' : List (Ref × List A)} (hc : Holds P f args B fun o H => o = .pan v ∧ H = B') {Q1 : A → List (Ref × List A) → Prop} {Q2 : Value → List (Ref × List A) → Prop} (h : Q2 v B') :
    ∀ _ : Nat → Nat, ∃ R' : Out → List (Ref × List A) → Prop, Holds P f args B R' ∧ (∀ v H', R' (.ret v) H' → Q1 v H') ∧ (∀ u H', R' (.pan u) H' → Q2 u H') :=
  fun _ => ⟨_, hc, fun v' H' e => (by cases e.1), fun u H' e => by obtain ⟨e1, rfl⟩ := e; cases e1; exact h⟩
theorem callP {P : Program} {f : Nat} {args : List A} {B : List (Ref × List A)} {q : Ref} {s : List UInt8} {res : Res A} (hc : Holds P f args B (PAft q s res)) {Q1 : A → List (Ref × List A) → Prop} {Q2 : Value → List (Ref × List A) → Prop}
    (h1 : ∀ v t i, res = .ok v t → At s t i → Q1 v (PB q s i)) (h2 : ∀ t i j, res = .bad t → At s t i → Q2 (faultV i) (PB q s j)) :
    ∀ _ : Nat → Nat, ∃ R' : Out → List (Ref × List A) → Prop, Holds P f args B R' ∧ (∀ v H', R' (.ret v) H' → Q1 v H') ∧ (∀ u H', R' (.pan u) H' → Q2 u H') := by
  refine fun _ => ⟨_, hc, fun v' H' e => (by
    cases res with
    | ok v t => obtain ⟨e1, i, hi, rfl⟩ := e; cases e1; exact h1 _ t i rfl hi
    | bad t => obtain ⟨i, j, hi, e1, _⟩ := e; cases e1), fun u H' e => by
    cases res with
    | ok v t => cases e.1
    | bad t => obtain ⟨i, j, hi, e1, rfl⟩ := e; cases e1; exact h2 t i j rfl hi⟩
theorem aft_ok {q : Ref} {s t : List UInt8} {v : A} {res : Res A} {i : Int} (h : res = .ok v t) (hi : At s t i) : PAft q s res (.ret v) (PB q s i) := by subst h; exact ⟨rfl, i, hi, rfl⟩
theorem aft_bad {q : Ref} {s t : List UInt8} {res : Res A} {i j : Int} (h : res = .bad t) (hi : At s t i) : PAft q s res (.pan (faultV i)) (PB q s j) := by subst h; exact ⟨i, j, hi, rfl, rfl⟩
theorem map_ok {α β : Type} {f : α → β} {r : Res α} {b : β} {t : List UInt8} (h : r.map f = .ok b t) : ∃ a, r = .ok a t ∧ f a = b := by
  cases r with
  | ok a t' => cases h; exact ⟨a, rfl, rfl⟩
  | bad t' => cases h
theorem map_bad {α β : Type} {f : α → β} {r : Res α} {t : List UInt8} (h : r.map f = .bad t) : r = .bad t := by
  cases r with
  | ok a t' => cases h
  | bad t' => cases h; rfl
theorem c49 {q : Ref} {s t : List UInt8} {i : Int} (h : At s t i) : Holds Try.prog 49 [A.ptr (.up q) 0] (PB q s i) (RetB (.d (.lit (.int .u8 (hd t)))) (PB q s i)) := by
  refine w49 s i q ⟨fun hc => ?_, fun hc => ?_⟩
  · have hn := h.lt.1 (of_tlt hc)
    exact ⟨tle h.lo.1, by rw [h.byte hn]; exact ⟨rfl, rfl⟩⟩
  · have hn : t = [] := Classical.byContradiction fun hn => by have := h.lt.2 hn; have := of_flt hc; omega
    subst hn
    exact ⟨rfl, rfl⟩
theorem c38 {q : Ref} {s : List UInt8} {i j : Int} : Holds Try.prog 38 [A.ptr (.up q) 0, A.d (.lit (.int .i64 j))] (PB q s i) (fun o H => o = .pan (faultV j) ∧ H = PB q s i) :=
  w38 s i j q ⟨rfl, rfl, rfl⟩
theorem c50 (k : Int) (l : List Rx) : Holds Try.prog 50 [A.d (.lit (.int .i64 k)), A.d (.slc (encs l))] [] (Ret (.agg (enc (joinX k l)))) := by
  refine w50 k (encs l) ⟨fun h => ?_, fun h => ?_⟩
  · have h := of_teq h
    simp only [encs_length] at h
    match l, h with
    | [r], _ =>
      have e : gAt (encs [r]) 0 = enc r := rfl
      rw [e]
      exact ⟨tlt (by simp), teq (by simp), rfl, rfl⟩
  · have h := of_feq h
    simp only [encs_length] at h
    match l, h with
    | [], _ => exact ⟨rfl, rfl⟩
    | [r], h => exact absurd rfl h
    | _ :: _ :: _, _ => exact ⟨rfl, rfl⟩
theorem enc_setX (p : Nat → Bool) : enc (setX p) = [.lit (.int .i64 2), .lit (.int .u64 (wd p 0)), .lit (.int .u64 (wd p 1)), .lit (.int .u64 (wd p 2)), .lit (.int .u64 (wd p 3)), .slc []] := rfl
theorem c81 (c : Nat) (h : c < 256) : Holds Try.prog 81 [A.d (.lit (.int .u8 c))] [] (Ret (.agg (enc (oneX c)))) :=
  w81 c (call1 (c79' c c h h) ⟨_, rfl, rfl, rfl, rfl, rfl⟩)
theorem nib (n d : Nat) (hn : n < 16) (hd : d < 16) : gOr .u8 (gShl .u8 (n : Int) 4) (d : Int) = ((n * 16 + d : Nat) : Int) := by
  have : ∀ n < 16, ∀ d < 16, gOr .u8 (gShl .u8 ((n : Nat) : Int) 4) ((d : Nat) : Int) = ((n * 16 + d : Nat) : Int) := by decide
  exact this n hn d hd
theorem hexV_lt {x d : Nat} (h : hexV x = some d) : d < 16 := by
  unfold hexV at h
  repeat' split at h
  all_goals first | cases h; omega | cases h
def u8A (n : Nat) : A := .d (.lit (.int .u8 n))
theorem c93 {q : Ref} {s t : List UInt8} {i : Int} (lo : Nat) (h : At s t (i + 1)) : Holds Try.prog 93 [A.ptr (.up q) 0, A.d (.lit (.int .u8 lo))] (PB q s i) (PAft q s ((hexR lo t).map u8A)) := by
  refine w93 s i lo q ⟨fun x k s' i' => s' = s ∧ ((k = 0 ∧ x = 0 ∧ i' = i) ∨ (∃ d, hexV (hd t) = some d ∧ ¬ d * 16 + 15 < lo ∧ k = 1 ∧ x = (d : Nat) ∧ i' = i + 1) ∨ (∃ d, hexR lo t = .ok d t.tail.tail ∧ k = 2 ∧ x = (d : Nat) ∧ At s t.tail.tail (i' + 1))), fun _ k _ _ => 2 - k.toNat, ⟨rfl, .inl ⟨rfl, rfl, rfl⟩⟩, ?_, trivial⟩
  have hlo := h.lo
  rintro x k s' i' ⟨rfl, ⟨rfl, rfl, rfl⟩ | ⟨d, hd1, hd2, rfl, rfl, rfl⟩ | ⟨d, hd1, rfl, rfl, hd2⟩⟩
  · refine ⟨fun _ => ⟨tle (by omega), fun _ => ⟨tle (by omega), tle (by omega), callB (c49 h) ⟨_, _, _, rfl, rfl, call1 (c101 (hd t) (hd_lt t)) ⟨_, _, rfl, rfl, fun hc => ?_, fun hc => ?_⟩⟩⟩, fun h0 => absurd rfl (of_feq h0)⟩, fun h0 => absurd (of_flt h0) (by decide)⟩
    · refine callF c38 ⟨_, _, rfl, ?_⟩
      refine aft_bad (t := t) ?_ h
      unfold hexR
      cases hv : hexV (hd t) with
      | none => rfl
      | some d =>
        have h1 := hexV_lt hv
        rw [hv] at hc
        rw [show ((0 : Int)) = ((0 : Nat) : Int) from rfl] at hc
        simp only [Option.getD_some, Option.isSome_some, nib 0 d (by decide) h1, show (15 : Int) = ((15 : Nat) : Int) from rfl, nib (0 * 16 + d) 15 (by omega) (by decide), Bool.not_true, Bool.false_or] at hc
        have hc := of_tlt hc
        dsimp only
        rw [if_pos (by omega)]
        rfl
    · refine ⟨tle (by omega), tle (by omega), ⟨rfl, .inr (.inl ?_)⟩, by simp⟩
      cases hv : hexV (hd t) with
      | none => rw [hv] at hc; cases hc
      | some d =>
        have h1 := hexV_lt hv
        rw [hv] at hc
        rw [show ((0 : Int)) = ((0 : Nat) : Int) from rfl] at hc ⊢
        simp only [Option.getD_some, Option.isSome_some, nib 0 d (by decide) h1, show (15 : Int) = ((15 : Nat) : Int) from rfl, nib (0 * 16 + d) 15 (by omega) (by decide), Bool.not_true, Bool.false_or] at hc ⊢
        have hc := of_flt hc
        exact ⟨d, rfl, by omega, by omega, by omega, trivial⟩
  · have hne := hd_nil (hexV_ne hd1)
    have h2 := h.next hne
    have h1 := hexV_lt hd1
    have hlo2 := h2.lo
    refine ⟨fun _ => ⟨tle (by omega), fun h0 => absurd (of_teq h0) (by decide), fun _ => ⟨teq rfl, tle (by omega), tle (by omega), callB (c49 h2) ⟨_, _, _, rfl, rfl, call1 (c101 (hd t.tail) (hd_lt _)) ⟨_, _, rfl, rfl, fun hc => ?_, fun hc => ?_⟩⟩⟩⟩, fun h0 => absurd (of_flt h0) (by decide)⟩
    · refine callF c38 ⟨_, _, rfl, ?_⟩
      refine aft_bad (t := t.tail) ?_ h2
      unfold hexR
      rw [hd1]
      dsimp only
      rw [if_neg hd2]
      cases hv : hexV (hd t.tail) with
      | none => rfl
      | some e =>
        have h3 := hexV_lt hv
        rw [hv] at hc
        simp only [Option.getD_some, Option.isSome_some, nib d e h1 h3, Bool.not_true, Bool.false_or] at hc
        have hc := of_tlt hc
        dsimp only
        rw [if_pos (by omega)]
        rfl
    · refine ⟨tle (by omega), tle (by omega), ⟨rfl, .inr (.inr ?_)⟩, by simp⟩
      cases hv : hexV (hd t.tail) with
      | none => rw [hv] at hc; cases hc
      | some e =>
        have h3 := hexV_lt hv
        rw [hv] at hc
        simp only [Option.getD_some, Option.isSome_some, nib d e h1 h3, Bool.not_true, Bool.false_or] at hc ⊢
        have hc := of_flt hc
        refine ⟨d * 16 + e, ?_, by omega, by omega, h2.next (hd_nil (hexV_ne hv))⟩
        unfold hexR
        rw [hd1]
        dsimp only
        rw [if_neg hd2, hv]
        dsimp only
        rw [if_neg (by omega)]
  · refine ⟨fun h0 => absurd (of_tlt h0) (by decide), fun _ => ⟨?_, ?_, ?_⟩⟩
    · have := hd2.lo; exact tle (by omega)
    · have := hd2.lo; exact tle (by omega)
    · exact aft_ok (by rw [hd1]; rfl) hd2
end Go.Rx
end
section
open Go Go.Proofs Go.Ab Go.Rf
set_option maxRecDepth 100000
namespace Go.Rx
theorem At.end_ {s t : List UInt8} {i : Int} (h : At s t i) (hc : (s.length : Int) ≤ i) : t = [] := Classical.byContradiction fun hn => by have := h.lt.2 hn; omega
theorem At.more {s t : List UInt8} {i : Int} (h : At s t i) (hc : i < (s.length : Int)) : t ≠ [] := h.lt.1 hc
theorem u8A_inj {n m : Nat} (h : n = m) : u8A n = u8A m := by rw [h]
theorem callP' {f : Nat} {args : List A} {B : List (Ref × List A)} {q : Ref} {s : List UInt8} {res : Res A} (hc : Holds Try.prog f args B (PAft q s res)) {Q1 : A → List (Ref × List A) → Prop} {Q2 : Value → List (Ref × List A) → Prop}
    (h1 : ∀ v t i, res = .ok v t → At s t i → Q1 v (PB q s i)) (h2 : ∀ t i j, res = .bad t → At s t i → Q2 (faultV i) (PB q s j)) :
    ∀ _ : Nat → Nat, ∃ R' : Out → List (Ref × List A) → Prop, Holds Try.prog f args B R' ∧ (∀ v H', R' (.ret v) H' → Q1 v H') ∧ (∀ u H', R' (.pan u) H' → Q2 u H') := callP hc h1 h2
theorem escV_110 : escV 110 = some 10 := rfl
theorem escV_116 : escV 116 = some 9 := rfl
theorem escV_114 : escV 114 = some 13 := rfl
theorem ctlV_none {x : Nat} (h1 : x ≠ 110) (h2 : x ≠ 116) (h3 : x ≠ 114) : ctlV x = none := by
  unfold ctlV; rw [if_neg h1, if_neg h2, if_neg h3]
def escL : List UInt8 := [40, 41, 91, 93, 123, 125, 124, 42, 43, 63, 46, 92, 45, 94]
theorem escL_any (x : Nat) : (escL.any fun b => b.toNat == x) = (spcV x || x == 94 || x == 45) := by
  simp only [escL, spcV, spcL, List.any_cons, List.any_nil, Bool.or_false]
  have e1 : ((45 : UInt8).toNat == x) = (x == 45) := Bool.eq_iff_iff.2 (by simp; exact eq_comm)
  have e2 : ((94 : UInt8).toNat == x) = (x == 94) := Bool.eq_iff_iff.2 (by simp; exact eq_comm)
  rw [e1, e2]
  cases x == 94 <;> cases x == 45 <;> simp
theorem c82 {q : Ref} {s t : List UInt8} {i : Int} (lo : Nat) (h : At s t (i + 1)) : Holds Try.prog 82 [A.ptr (.up q) 0, A.d (.lit (.int .u8 lo))] (PB q s i) (PAft q s ((escR lo t).map u8A)) := by
  have hlo := h.lo
  have fin : ∀ n : Nat, t ≠ [] → hd t ≠ 120 → escV (hd t) = some n → (lo : Int) ≤ (n : Int) → PAft q s ((escR lo t).map u8A) (.ret (u8A n)) (PB q s (i + 1 + 1)) := fun n hn h1 h2 h3 => by
    refine aft_ok (t := t.tail) ?_ (h.next hn)
    unfold escR
    rw [if_neg h1, h2]
    dsimp only
    rw [if_neg (by omega)]
    rfl
  have low : ∀ (n : Nat) (j : Int), hd t ≠ 120 → escV (hd t) = some n → (n : Int) < (lo : Int) → PAft q s ((escR lo t).map u8A) (.pan (faultV (i + 1))) (PB q s j) := fun n j h1 h2 h3 => by
    refine aft_bad (t := t) ?_ h
    unfold escR
    rw [if_neg h1, h2]
    dsimp only
    rw [if_pos (by omega)]
    rfl
  have non : ∀ (j : Int), hd t ≠ 120 → escV (hd t) = none → PAft q s ((escR lo t).map u8A) (.pan (faultV (i + 1))) (PB q s j) := fun j h1 h2 => by
    refine aft_bad (t := t) ?_ h
    unfold escR
    rw [if_neg h1, h2]
    rfl
  refine w82 s i lo q ⟨tle (by omega), tle (by omega), callB (c49 h) ⟨_, _, _, rfl, rfl, fun hc => ?_, fun hc => ⟨fun h0 => ?_, fun h0 => ⟨fun h1 => ⟨fun h2 => ?_, fun h2 => ?_⟩, fun h1 => ⟨fun h2 => ⟨fun h3 => ?_, fun h3 => ?_⟩, fun h2 => ⟨fun h3 => ⟨fun h4 => ?_, fun h4 => ?_⟩, fun h3 => ?_⟩⟩⟩⟩⟩⟩
  · have ht := h.end_ (of_tle hc)
    subst ht
    have e : (s.length : Int) = i + 1 := by have := h.pos; simp at this; omega
    rw [e]
    exact callF c38 ⟨_, _, rfl, non _ (by decide) rfl⟩
  · have h0 := of_teq h0
    have e : escR lo t = hexR lo t.tail := by unfold escR; rw [if_pos (by omega)]
    have hn := h.more (of_fle hc)
    rw [e]
    exact callP (c93 lo (h.next hn)) (fun v t' i' e hi => by obtain ⟨n, e1, rfl⟩ := map_ok e; exact ⟨_, _, _, rfl, rfl, aft_ok e hi⟩) (fun t' i' j e hi => ⟨_, _, rfl, aft_bad e hi⟩)
  · exact callF c38 ⟨_, _, rfl, low 10 _ (by have := of_feq h0; omega) (by rw [show hd t = 110 by have := of_teq h1; omega]; rfl) (of_tlt h2)⟩
  · exact ⟨tle (by omega), tle (by omega), fin 10 (h.more (of_fle hc)) (by have := of_feq h0; omega) (by rw [show hd t = 110 by have := of_teq h1; omega]; rfl) (of_flt h2)⟩
  · exact callF c38 ⟨_, _, rfl, low 9 _ (by have := of_feq h0; omega) (by rw [show hd t = 116 by have := of_teq h2; omega]; rfl) (of_tlt h3)⟩
  · exact ⟨tle (by omega), tle (by omega), fin 9 (h.more (of_fle hc)) (by have := of_feq h0; omega) (by rw [show hd t = 116 by have := of_teq h2; omega]; rfl) (of_flt h3)⟩
  · exact callF c38 ⟨_, _, rfl, low 13 _ (by have := of_feq h0; omega) (by rw [show hd t = 114 by have := of_teq h3; omega]; rfl) (of_tlt h4)⟩
  · exact ⟨tle (by omega), tle (by omega), fin 13 (h.more (of_fle hc)) (by have := of_feq h0; omega) (by rw [show hd t = 114 by have := of_teq h3; omega]; rfl) (of_flt h4)⟩
  · have hx : hd t ≠ 120 := by have := of_feq h0; omega
    have ec : ctlV (hd t) = none := ctlV_none (by have := of_feq h1; omega) (by have := of_feq h2; omega) (by have := of_feq h3; omega)
    have hidx := idxV_nonneg escL (hd t) (hd_lt t)
    rw [escL_any] at hidx
    refine call1 (c83 escL (hd t)) ⟨_, rfl, rfl, fun h4 => ?_, fun h4 => ⟨fun h5 => ?_, fun h5 => ?_⟩⟩
    · have h4 := of_tlt h4
      have hb : ¬ ((spcV (hd t) || hd t == 94 || hd t == 45) = true) := fun hb => by have := hidx.2 hb; omega
      refine callF c38 ⟨_, _, rfl, non _ hx ?_⟩
      unfold escV; rw [ec]; dsimp only; rw [if_neg hb]
    · have h4 := of_flt h4
      have es : escV (hd t) = some (hd t) := by unfold escV; rw [ec]; dsimp only; rw [if_pos (hidx.1 h4)]
      exact callF c38 ⟨_, _, rfl, low _ _ hx es (of_tlt h5)⟩
    · have h4 := of_flt h4
      have es : escV (hd t) = some (hd t) := by unfold escV; rw [ec]; dsimp only; rw [if_pos (hidx.1 h4)]
      exact ⟨tle (by omega), tle (by omega), fin _ (h.more (of_fle hc)) hx es (of_flt h5)⟩
def itemL : List UInt8 := [40, 41, 91, 93, 123, 125, 124, 42, 43, 63, 46, 94, 45]
theorem itemL_any (x : Nat) (h : x ≠ 92) : (itemL.any fun b => b.toNat == x) = (spcV x || x == 94 || x == 45) := by
  simp only [itemL, spcV, spcL, List.any_cons, List.any_nil, Bool.or_false]
  have e1 : ((45 : UInt8).toNat == x) = (x == 45) := Bool.eq_iff_iff.2 (by simp; exact eq_comm)
  have e2 : ((94 : UInt8).toNat == x) = (x == 94) := Bool.eq_iff_iff.2 (by simp; exact eq_comm)
  have e3 : ((92 : UInt8).toNat == x) = false := by simpa using fun e => h e.symm
  rw [e1, e2, e3]
  simp [Bool.or_assoc]
theorem c90 {q : Ref} {s t : List UInt8} {i : Int} (lo : Nat) (h : At s t i) : Holds Try.prog 90 [A.ptr (.up q) 0, A.d (.lit (.int .u8 lo))] (PB q s i) (PAft q s ((byteR lo t).map u8A)) := by
  have hlo := h.lo
  have bad : ∀ (j : Int), hd t ≠ 92 → (hd t < 32 ∨ 126 < hd t ∨ hd t < lo ∨ (spcV (hd t) || hd t == 94 || hd t == 45) = true) → PAft q s ((byteR lo t).map u8A) (.pan (faultV i)) (PB q s j) := fun j h1 h2 => by
    refine aft_bad (t := t) ?_ h
    unfold byteR
    rw [if_neg h1, if_pos h2]
    rfl
  refine w90 s i lo q (callB (c49 h) ⟨_, _, _, rfl, rfl, fun hc => ?_, fun hc => ⟨fun h0 => ?_, fun h0 => ⟨fun h1 => ?_, fun h1 => ?_⟩⟩⟩)
  · have ht := h.end_ (of_tle hc)
    subst ht
    have e : (s.length : Int) = i := by have := h.pos; simp at this; omega
    rw [e]
    exact callF c38 ⟨_, _, rfl, bad _ (by decide) (.inl (by decide))⟩
  · have h0 := of_teq h0
    have e : byteR lo t = escR lo t.tail := by unfold byteR; rw [if_pos (by omega)]
    rw [e]
    exact callP (c82 lo (h.next (h.more (of_fle hc)))) (fun v t' i' e hi => by obtain ⟨n, e1, rfl⟩ := map_ok e; exact ⟨_, _, _, rfl, rfl, aft_ok e hi⟩) (fun t' i' j e hi => ⟨_, _, rfl, aft_bad e hi⟩)
  · have hx : hd t ≠ 92 := by have := of_feq h0; omega
    have hidx := idxV_nonneg itemL (hd t) (hd_lt t)
    rw [itemL_any _ hx] at hidx
    simp only [tB_eq, Bool.not_eq_true', Bool.or_eq_false_iff, decide_eq_false_iff_not] at h1
    refine call1 (c83 itemL (hd t)) ⟨_, rfl, rfl, fun h4 => ?_, fun h4 => ?_⟩
    · exact callF c38 ⟨_, _, rfl, bad _ hx (.inr (.inr (.inr (hidx.1 (of_tle h4)))))⟩
    · have h4 := of_fle h4
      refine ⟨tle (by omega), tle (by omega), aft_ok (t := t.tail) ?_ (h.next (h.more (of_fle hc)))⟩
      unfold byteR
      rw [if_neg hx, if_neg]
      · rfl
      · rintro (h5 | h5 | h5 | h5)
        · omega
        · omega
        · omega
        · have := hidx.2 h5; omega
  · have hx : hd t ≠ 92 := by have := of_feq h0; omega
    simp only [tB_eq, Bool.not_eq_false', Bool.or_eq_true, decide_eq_true_eq] at h1
    exact callF c38 ⟨_, _, rfl, bad _ hx (by omega)⟩
def setC (n : Nat) (neg : Bool) (p : Nat → Bool) (t : List UInt8) : Option (Res Rx) := if hd t = 93 then some (.ok (setX (negP neg p)) t.tail) else setL n neg p t
structure SetI (s : List UInt8) (neg : Bool) (res : Res Rx) (b : Bool) (a0 a1 a2 a3 : D) (s' : List UInt8) (i : Int) (n : Nat) (p : Nat → Bool) (t : List UInt8) : Prop where
  es : s' = s
  e0 : a0 = .lit (.int .u64 (wd p 0))
  e1 : a1 = .lit (.int .u64 (wd p 1))
  e2 : a2 = .lit (.int .u64 (wd p 2))
  e3 : a3 = .lit (.int .u64 (wd p 3))
  at_ : At s t i
  run : (if b then setL n neg p t else setC n neg p t) = some res
theorem setL_step {n : Nat} {neg : Bool} {p : Nat → Bool} {t t1 t3 : List UInt8} {lo hi : Nat} {res : Res Rx} (h : setL n neg p t = some res) (h1 : byteR 0 t = .ok lo t1) (h2 : hiR lo t1 = .ok hi t3) : ∃ m, setC m neg (orP p (rng lo hi)) t3 = some res := by
  cases n with
  | zero => simp [setL] at h
  | succ m =>
    refine ⟨m, ?_⟩
    unfold setL at h
    rw [h1] at h
    dsimp only at h
    rw [h2] at h
    exact h
theorem setL_bad1 {n : Nat} {neg : Bool} {p : Nat → Bool} {t q : List UInt8} {res : Res Rx} (h : setL n neg p t = some res) (h1 : byteR 0 t = .bad q) : res = .bad q := by
  cases n with
  | zero => simp [setL] at h
  | succ m =>
    unfold setL at h
    rw [h1] at h
    cases h; rfl
theorem setL_bad2 {n : Nat} {neg : Bool} {p : Nat → Bool} {t t1 q : List UInt8} {lo : Nat} {res : Res Rx} (h : setL n neg p t = some res) (h1 : byteR 0 t = .ok lo t1) (h2 : hiR lo t1 = .bad q) : res = .bad q := by
  cases n with
  | zero => simp [setL] at h
  | succ m =>
    unfold setL at h
    rw [h1] at h
    dsimp only at h
    rw [h2] at h
    cases h; rfl
theorem SetI.lt {s t : List UInt8} {i i' : Int} {t' : List UInt8} (h : At s t i) (h' : At s t' i') (hl : t'.length < t.length) : ((s.length : Int) - i').toNat < ((s.length : Int) - i).toNat := by
  have := h.pos; have := h'.pos; omega
theorem byteR_u8 (lo : Nat) {t t' : List UInt8} {n : Nat} (h : byteR lo t = .ok n t') : n < 256 := by
  have h0 := hd_lt t
  have hx : ∀ t : List UInt8, hexR lo t = .ok n t' → n < 256 := fun t h => by
    unfold hexR at h
    split at h
    · cases h
    · rename_i d hd1
      split at h
      · cases h
      · split at h
        · cases h
        · rename_i e hd2
          have := hexV_lt hd1
          have := hexV_lt hd2
          split at h
          · cases h
          · cases h; omega
  unfold byteR at h
  split at h
  · unfold escR at h
    split at h
    · exact hx _ h
    · split at h
      · cases h
      · rename_i m hm
        split at h
        · cases h
        · cases h
          have h1 := hd_lt t.tail
          unfold escV at hm
          split at hm
          · rename_i k hk
            cases hm
            unfold ctlV at hk
            repeat' split at hk
            all_goals first | cases hk; decide | cases hk
          · split at hm
            · cases hm; exact h1
            · cases hm
  · split at h
    · cases h
    · cases h; exact h0
theorem c79r (lo hi : Nat) (h : hi < 256) (hl : lo < 256) : ∀ _ : Nat → Nat, Holds Try.prog 79 [A.d (.lit (.int .u8 lo)), A.d (.lit (.int .u8 hi))] [] (Reads [] (.agg (row4 (rng lo hi)))) := fun _ => c79' lo hi h hl
theorem row4_eq (p : Nat → Bool) : row4 p = [.lit (.int .u64 (wd p 0)), .lit (.int .u64 (wd p 1)), .lit (.int .u64 (wd p 2)), .lit (.int .u64 (wd p 3))] := rfl
theorem wd_no (k : Nat) : wd no k = 0 := wd_eq (by decide) fun j _ => Nat.zero_testBit j
theorem c78 {q : Ref} {s t : List UInt8} {i : Int} (n : Nat) (res : Res Rx) (hr : setR n t = some res) (h : At s t (i + 1)) : Holds Try.prog 78 [A.ptr (.up q) 0] (PB q s i) (PAft q s (res.map fun r => A.agg (enc r))) := by
  have hlo := h.lo
  refine w78 s i q ⟨tle (by omega), tle (by omega), callB (c49 h) ⟨_, _, _, rfl, rfl, fun h0 => ⟨tle (by omega), tle (by omega), ?_⟩, fun h0 => callB (c49 h) ⟨_, _, _, rfl, rfl, fun h1 => ?_, fun h1 => ?_⟩⟩⟩
  · have h0 := of_teq h0
    have hn : t ≠ [] := hd_nil (by omega)
    have hr' : setL n true no t.tail = some res := by unfold setR at hr; rw [if_pos (by omega)] at hr; exact hr
    refine ⟨fun b a0 a1 a2 a3 s' i' => ∃ n p t, SetI s true res b a0 a1 a2 a3 s' i' n p t, fun _ _ _ _ _ s' i' => ((s'.length : Int) - i').toNat, ⟨n, no, t.tail, rfl, by simp [wd_no], by simp [wd_no], by simp [wd_no], by simp [wd_no], h.next hn, hr'⟩, ?_, trivial⟩
    rintro b a0 a1 a2 a3 s' i' ⟨m, p, t', rfl, rfl, rfl, rfl, rfl, hat, hrun⟩
    have hlo' := hat.lo
    have key : ∀ n, setL n true p t' = some res → ∀ lo t1 i1, byteR 0 t' = .ok lo t1 → At s' t1 i1 → ∀ hi t3 i3, hiR lo t1 = .ok hi t3 → At s' t3 i3 →
        (∃ n p' t, SetI s' true res false ((row4 (orP p (rng lo hi))).getD 0 D0) ((row4 (orP p (rng lo hi))).getD 1 D0) ((row4 (orP p (rng lo hi))).getD 2 D0) ((row4 (orP p (rng lo hi))).getD 3 D0) s' i3 n p' t) ∧ ((s'.length : Int) - i3).toNat < ((s'.length : Int) - i').toNat := fun n hs lo t1 i1 e1 h1 hi t3 i3 e2 h2 => by
      obtain ⟨m, hm⟩ := setL_step hs e1 e2
      refine ⟨⟨m, orP p (rng lo hi), t3, rfl, rfl, rfl, rfl, rfl, h2, hm⟩, SetI.lt hat h2 ?_⟩
      have hl1 := byteR_lt 0 t'
      rw [e1] at hl1
      have hl2 := hiR_le lo t1
      rw [e2] at hl2
      have := hl1.1
      have := List.IsSuffix.length_le hl2
      omega
    refine ⟨fun hb => callB (c49 hat) ⟨_, _, _, rfl, rfl, fun hc => ?_, fun hc => ?_⟩, fun hb => ?_⟩
    rotate_left
    · have hc : hd t' = 93 := by simp at hc; omega
      have hn' : t' ≠ [] := hd_nil (by omega)
      have hb : b = false := by simpa using hb
      subst hb
      simp only [Bool.false_eq_true, if_false, setC, if_pos hc] at hrun
      cases hrun
      refine ⟨tle (by omega), tle (by omega), call1 (c92 p) ⟨_, rfl, rfl, rfl, ?_⟩⟩
      exact ⟨rfl, _, hat.next hn', rfl⟩
    all_goals
      have hrun' : setL m true p t' = some res := by
        first
          | (have hb : b = true := by simpa using hb
             subst hb
             exact hrun)
          | (have hb : b = false := by simpa using hb
             subst hb
             have hc : hd t' ≠ 93 := by simp at hc; omega
             simp only [Bool.false_eq_true, if_false, setC, if_neg hc] at hrun
             exact hrun)
      refine callP (c90 0 hat) (fun v t1 i1 e1 hi1 => ?_) (fun t1 i1 j e1 hi1 => ?_)
      · obtain ⟨lo, f1, rfl⟩ := map_ok e1
        have hlo1 := hi1.lo
        refine ⟨_, _, _, rfl, rfl, callB (c49 hi1) ⟨_, _, _, rfl, rfl, fun h2 => ?_, fun h2 => ?_⟩⟩
        · have h2 := of_teq h2
          have hn1 : t1 ≠ [] := hd_nil (by omega)
          have eh : hiR lo t1 = byteR lo t1.tail := by unfold hiR; rw [if_pos (by omega)]
          refine ⟨tle (by omega), tle (by omega), callP (c90 lo (hi1.next hn1)) (fun v t3 i3 e3 hi3 => ?_) (fun t3 i3 j e3 hi3 => ?_)⟩
          · obtain ⟨hi, f3, rfl⟩ := map_ok e3
            exact ⟨_, _, _, rfl, rfl, _, c79r lo hi (byteR_u8 _ f3) (byteR_u8 _ f1), call1 (c91' p (rng lo hi)) ⟨_, rfl, rfl, rfl, (key m hrun' lo t1 i1 f1 hi1 hi t3 i3 (by rw [eh, f3]) hi3)⟩⟩
          · have e3 := map_bad e3
            have := setL_bad2 hrun' f1 (by rw [eh, e3])
            subst this
            exact ⟨_, _, rfl, aft_bad rfl hi3⟩
        · have h2 := of_feq h2
          have eh : hiR lo t1 = .ok lo t1 := by unfold hiR; rw [if_neg (by omega)]
          exact ⟨_, c79r lo lo (byteR_u8 _ f1) (byteR_u8 _ f1), call1 (c91' p (rng lo lo)) ⟨_, rfl, rfl, rfl, (key m hrun' lo t1 i1 f1 hi1 lo t1 i1 eh hi1)⟩⟩
      · have e1 := map_bad e1
        have := setL_bad1 hrun' e1
        subst this
        exact ⟨_, _, rfl, aft_bad rfl hi1⟩
  · have h0 := of_feq h0
    have h1 := of_teq h1
    have hn : t ≠ [] := hd_nil (by omega)
    unfold setR at hr
    rw [if_neg (by omega), if_pos (by omega)] at hr
    cases hr
    exact ⟨tle (by omega), tle (by omega), aft_ok rfl (h.next hn)⟩
  · have h0 := of_feq h0
    have h1 := of_feq h1
    have hr' : setL n false no t = some res := by unfold setR at hr; rw [if_neg (by omega), if_neg (by omega)] at hr; exact hr
    refine ⟨fun b a0 a1 a2 a3 s' i' => ∃ n p t, SetI s false res b a0 a1 a2 a3 s' i' n p t, fun _ _ _ _ _ s' i' => ((s'.length : Int) - i').toNat, ⟨n, no, t, rfl, by simp [wd_no], by simp [wd_no], by simp [wd_no], by simp [wd_no], h, hr'⟩, ?_, trivial⟩
    rintro b a0 a1 a2 a3 s' i' ⟨m, p, t', rfl, rfl, rfl, rfl, rfl, hat, hrun⟩
    have hlo' := hat.lo
    have key : ∀ n, setL n false p t' = some res → ∀ lo t1 i1, byteR 0 t' = .ok lo t1 → At s' t1 i1 → ∀ hi t3 i3, hiR lo t1 = .ok hi t3 → At s' t3 i3 →
        (∃ n p' t, SetI s' false res false ((row4 (orP p (rng lo hi))).getD 0 D0) ((row4 (orP p (rng lo hi))).getD 1 D0) ((row4 (orP p (rng lo hi))).getD 2 D0) ((row4 (orP p (rng lo hi))).getD 3 D0) s' i3 n p' t) ∧ ((s'.length : Int) - i3).toNat < ((s'.length : Int) - i').toNat := fun n hs lo t1 i1 e1 h1 hi t3 i3 e2 h2 => by
      obtain ⟨m, hm⟩ := setL_step hs e1 e2
      refine ⟨⟨m, orP p (rng lo hi), t3, rfl, rfl, rfl, rfl, rfl, h2, hm⟩, SetI.lt hat h2 ?_⟩
      have hl1 := byteR_lt 0 t'
      rw [e1] at hl1
      have hl2 := hiR_le lo t1
      rw [e2] at hl2
      have := hl1.1
      have := List.IsSuffix.length_le hl2
      omega
    refine ⟨fun hb => callB (c49 hat) ⟨_, _, _, rfl, rfl, fun hc => ?_, fun hc => ?_⟩, fun hb => ?_⟩
    rotate_left
    · have hc : hd t' = 93 := by simp at hc; omega
      have hn' : t' ≠ [] := hd_nil (by omega)
      have hb : b = false := by simpa using hb
      subst hb
      simp only [Bool.false_eq_true, if_false, setC, if_pos hc] at hrun
      cases hrun
      exact ⟨tle (by omega), tle (by omega), rfl, _, hat.next hn', rfl⟩
    all_goals
      have hrun' : setL m false p t' = some res := by
        first
          | (have hb : b = true := by simpa using hb
             subst hb
             exact hrun)
          | (have hb : b = false := by simpa using hb
             subst hb
             have hc : hd t' ≠ 93 := by simp at hc; omega
             simp only [Bool.false_eq_true, if_false, setC, if_neg hc] at hrun
             exact hrun)
      refine callP (c90 0 hat) (fun v t1 i1 e1 hi1 => ?_) (fun t1 i1 j e1 hi1 => ?_)
      · obtain ⟨lo, f1, rfl⟩ := map_ok e1
        have hlo1 := hi1.lo
        refine ⟨_, _, _, rfl, rfl, callB (c49 hi1) ⟨_, _, _, rfl, rfl, fun h2 => ?_, fun h2 => ?_⟩⟩
        · have h2 := of_teq h2
          have hn1 : t1 ≠ [] := hd_nil (by omega)
          have eh : hiR lo t1 = byteR lo t1.tail := by unfold hiR; rw [if_pos (by omega)]
          refine ⟨tle (by omega), tle (by omega), callP (c90 lo (hi1.next hn1)) (fun v t3 i3 e3 hi3 => ?_) (fun t3 i3 j e3 hi3 => ?_)⟩
          · obtain ⟨hi, f3, rfl⟩ := map_ok e3
            exact ⟨_, _, _, rfl, rfl, _, c79r lo hi (byteR_u8 _ f3) (byteR_u8 _ f1), call1 (c91' p (rng lo hi)) ⟨_, rfl, rfl, rfl, (key m hrun' lo t1 i1 f1 hi1 hi t3 i3 (by rw [eh, f3]) hi3)⟩⟩
          · have e3 := map_bad e3
            have := setL_bad2 hrun' f1 (by rw [eh, e3])
            subst this
            exact ⟨_, _, rfl, aft_bad rfl hi3⟩
        · have h2 := of_feq h2
          have eh : hiR lo t1 = .ok lo t1 := by unfold hiR; rw [if_neg (by omega)]
          exact ⟨_, c79r lo lo (byteR_u8 _ f1) (byteR_u8 _ f1), call1 (c91' p (rng lo lo)) ⟨_, rfl, rfl, rfl, (key m hrun' lo t1 i1 f1 hi1 lo t1 i1 eh hi1)⟩⟩
      · have e1 := map_bad e1
        have := setL_bad1 hrun' e1
        subst this
        exact ⟨_, _, rfl, aft_bad rfl hi1⟩
end Go.Rx
end
section
open Go Go.Proofs Go.Ab Go.Rf
set_option maxRecDepth 100000
namespace Go.Rx
def encA (r : Rx) : A := .agg (enc r)
def K37 (n : Nat) : Prop := ∀ (q : Ref) (s t : List UInt8) (i : Int) (res : Res Rx), alts n t = some res → At s t i → Holds Try.prog 37 [A.ptr (.up q) 0] (PB q s i) (PAft q s (res.map encA))
def K48 (n : Nat) : Prop := ∀ (q : Ref) (s t : List UInt8) (i : Int) (res : Res Rx), seqs n t = some res → At s t i → Holds Try.prog 48 [A.ptr (.up q) 0] (PB q s i) (PAft q s (res.map encA))
def K65 (n : Nat) : Prop := ∀ (q : Ref) (s t : List UInt8) (i : Int) (res : Res Rx), piece n t = some res → At s t i → Holds Try.prog 65 [A.ptr (.up q) 0] (PB q s i) (PAft q s (res.map encA))
def K73 (n : Nat) : Prop := ∀ (q : Ref) (s t : List UInt8) (i : Int) (res : Res Rx), atom n t = some res → At s t i → Holds Try.prog 73 [A.ptr (.up q) 0] (PB q s i) (PAft q s (res.map encA))
theorem teq6 (r : Rx) : (tB (((enc r).length : Int) == 6)) = true := teq (by simp)
def groupR (n : Nat) (t : List UInt8) : Option (Res Rx) :=
  if hd t = 41 then some (.ok (mk0 1 []) t.tail) else match alts n t with
    | none => none
    | some (.bad q) => some (.bad q)
    | some (.ok r t1) => some (closeR r t1)
theorem c77 {n : Nat} (K : K37 n) {q : Ref} {s t : List UInt8} {i : Int} {res : Res Rx} (hr : groupR n t = some res) (h : At s t (i + 1)) : Holds Try.prog 77 [A.ptr (.up q) 0] (PB q s i) (PAft q s (res.map encA)) := by
  have hlo := h.lo
  refine w77 s i q ⟨tle (by omega), tle (by omega), callB (c49 h) ⟨_, _, _, rfl, rfl, fun h0 => ?_, fun h0 => ?_⟩⟩
  · have h0 := of_teq h0
    unfold groupR at hr
    rw [if_pos (by omega)] at hr
    cases hr
    exact ⟨tle (by omega), tle (by omega), aft_ok rfl (h.next (hd_nil (by omega)))⟩
  · have h0 := of_feq h0
    unfold groupR at hr
    rw [if_neg (by omega)] at hr
    cases ha : alts n t with
    | none => rw [ha] at hr; cases hr
    | some ra =>
      rw [ha] at hr
      refine callP (K (.up q) s t (i + 1) ra ha h) (fun v t1 i1 e1 hi1 => ?_) (fun t1 i1 j e1 hi1 => ?_)
      · obtain ⟨r, f1, rfl⟩ := map_ok e1
        subst f1
        cases hr
        have hlo1 := hi1.lo
        refine ⟨_, _, _, rfl, rfl, teq6 r, callB (c49 hi1) ⟨_, _, _, rfl, rfl, fun h2 => ?_, fun h2 => ?_⟩⟩
        · have h2 : hd t1 ≠ 41 := by simp at h2; omega
          refine callF c38 ⟨_, _, rfl, aft_bad (t := t1) ?_ hi1⟩
          unfold closeR
          rw [if_neg h2]; rfl
        · have h2 : hd t1 = 41 := by simp at h2; omega
          refine ⟨tle (by omega), tle (by omega), aft_ok (t := t1.tail) ?_ (hi1.next (hd_nil (by omega)))⟩
          unfold closeR
          rw [if_pos h2]; rfl
      · have f1 := map_bad e1
        subst f1
        cases hr
        exact ⟨_, _, rfl, aft_bad rfl hi1⟩
theorem c73 {n : Nat} (K : K37 n) : K73 (n + 1) := by
  intro q s t i res hr h
  have hlo := h.lo
  have hx := hd_lt t
  unfold atom at hr
  have bad : hd t ≠ 40 → hd t ≠ 91 → hd t ≠ 46 → hd t ≠ 92 → (hd t < 32 ∨ 126 < hd t ∨ spcV (hd t) = true) → ∀ j, PAft q s (res.map encA) (.pan (faultV i)) (PB q s j) := fun h1 h2 h3 h4 h5 j => by
    rw [if_neg h1, if_neg h2, if_neg h3, if_neg h4, if_pos h5] at hr
    cases hr
    exact aft_bad rfl h
  refine w73 s i q (callB (c49 h) ⟨_, _, _, rfl, rfl, fun hc => ?_, fun hc => ⟨fun h0 => ?_, fun h0 => ⟨fun h1 => ?_, fun h1 => ⟨fun h2 => ?_, fun h2 => ⟨fun h3 => ?_, fun h3 => ⟨fun h4 => ?_, fun h4 => ?_⟩⟩⟩⟩⟩⟩)
  · have ht := h.end_ (of_tle hc)
    subst ht
    have e : (s.length : Int) = i := by have := h.pos; simp at this; omega
    rw [e]
    exact callF c38 ⟨_, _, rfl, bad (by decide) (by decide) (by decide) (by decide) (.inl (by decide)) _⟩
  · have h0 := of_teq h0
    have hn : t ≠ [] := hd_nil (by omega)
    rw [if_pos (by omega)] at hr
    have hg : groupR n t.tail = some res := hr
    exact callP (c77 K hg (h.next hn)) (fun v t1 i1 e1 hi1 => by obtain ⟨r, f1, rfl⟩ := map_ok e1; exact ⟨_, _, _, rfl, rfl, teq6 r, aft_ok e1 hi1⟩) (fun t1 i1 j e1 hi1 => ⟨_, _, rfl, aft_bad e1 hi1⟩)
  · have h0 := of_feq h0
    have h1 := of_teq h1
    have hn : t ≠ [] := hd_nil (by omega)
    rw [if_neg (by omega), if_pos (by omega)] at hr
    exact callP (c78 n res hr (h.next hn)) (fun v t1 i1 e1 hi1 => by obtain ⟨r, f1, rfl⟩ := map_ok e1; exact ⟨_, _, _, rfl, rfl, teq6 r, aft_ok e1 hi1⟩) (fun t1 i1 j e1 hi1 => ⟨_, _, rfl, aft_bad e1 hi1⟩)
  · have h0 := of_feq h0
    have h1 := of_feq h1
    have h2 := of_teq h2
    have hn : t ≠ [] := hd_nil (by omega)
    rw [if_neg (by omega), if_neg (by omega), if_pos (by omega)] at hr
    cases hr
    exact ⟨tle (by omega), tle (by omega), call1 (c79' 0 255 (by decide) (by decide)) ⟨_, rfl, rfl, rfl, aft_ok rfl (h.next hn)⟩⟩
  · have h0 := of_feq h0
    have h1 := of_feq h1
    have h2 := of_feq h2
    have h3 := of_teq h3
    have hn : t ≠ [] := hd_nil (by omega)
    have h' := h.next hn
    have hlo' := h'.lo
    rw [if_neg (by omega), if_neg (by omega), if_neg (by omega), if_pos (by omega)] at hr
    have esc : clsV (hd t.tail) = none → ∀ (Q1 : A → List (Ref × List A) → Prop) (Q2 : Value → List (Ref × List A) → Prop), (∀ c t1 i1, c < 256 → At s t1 i1 → PAft q s (res.map encA) (.ret (encA (oneX c))) (PB q s i1) → Q1 (u8A c) (PB (.up q) s i1)) → (∀ i1 j, PAft q s (res.map encA) (.pan (faultV i1)) (PB q s j) → Q2 (faultV i1) (PB (.up q) s j)) →
        ∀ _ : Nat → Nat, ∃ R' : Out → List (Ref × List A) → Prop, Holds Try.prog 82 [(A.ptr (.up (Ref.up q)) 0), A.d (.lit (.int .u8 (0 : Int)))] (PB (.up q) s i) R' ∧ (∀ v H', R' (.ret v) H' → Q1 v H') ∧ (∀ u H', R' (.pan u) H' → Q2 u H') := fun hcl Q1 Q2 k1 k2 => by
      rw [hcl] at hr
      refine callP (c82 0 h') (fun v t1 i1 e1 hi1 => ?_) (fun t1 i1 j e1 hi1 => ?_)
      · obtain ⟨c, f1, rfl⟩ := map_ok e1
        rw [f1] at hr
        cases hr
        have hc : c < 256 := byteR_u8 0 (t := t) (by unfold byteR; rw [if_pos (by omega), f1])
        exact k1 c t1 i1 hc hi1 (aft_ok rfl hi1)
      · have f1 := map_bad e1
        rw [f1] at hr
        cases hr
        exact k2 i1 j (aft_bad rfl hi1)
    refine ⟨tle (by omega), tle (by omega), fun hm => ?_, fun hm => ?_⟩
    · have hn' := h'.more (of_tlt hm)
      rw [h'.byte hn']
      refine ⟨tle (by omega), call1 (c80 (hd t.tail) (hd_lt _)) ⟨_, _, rfl, rfl, rfl, fun hs => ?_, fun hs => ?_⟩⟩
      · cases hcl : clsV (hd t.tail) with
        | none => rw [hcl] at hs; cases hs
        | some p =>
          rw [hcl] at hr
          cases hr
          have h'' := h'.next hn'
          rw [show i + 1 + 1 = i + 2 by omega] at h''
          exact ⟨tle (by omega), tle (by omega), aft_ok rfl h''⟩
      · cases hcl : clsV (hd t.tail) with
        | some p => rw [hcl] at hs; cases hs
        | none =>
          exact esc hcl _ _ (fun c t1 i1 hc hi1 k => ⟨_, _, _, rfl, rfl, call1 (c81 c hc) ⟨_, rfl, rfl, teq6 _, k⟩⟩) (fun i1 j k => ⟨_, _, rfl, k⟩)
    · have hn' := h'.end_ (of_flt hm)
      exact esc (by rw [hn']; rfl) _ _ (fun c t1 i1 hc hi1 k => ⟨_, _, _, rfl, rfl, call1 (c81 c hc) ⟨_, rfl, rfl, teq6 _, k⟩⟩) (fun i1 j k => ⟨_, _, rfl, k⟩)
  · have h0 := of_feq h0
    have h1 := of_feq h1
    have h2 := of_feq h2
    have h3 := of_feq h3
    simp only [tB_eq, Bool.not_eq_true', Bool.or_eq_false_iff, decide_eq_false_iff_not] at h4
    have hidx := idxV_nonneg spcL (hd t) hx
    refine call1 (c83 spcL (hd t)) ⟨_, rfl, rfl, fun h5 => ?_, fun h5 => ?_⟩
    · exact callF c38 ⟨_, _, rfl, bad (by omega) (by omega) (by omega) (by omega) (.inr (.inr (hidx.1 (of_tle h5)))) _⟩
    · have h5 := of_fle h5
      have hn := h.more (of_fle hc)
      have hsp : ¬ spcV (hd t) = true := fun hb => by have := hidx.2 hb; omega
      rw [if_neg (by omega), if_neg (by omega), if_neg (by omega), if_neg (by omega), if_neg (by rintro (h6 | h6 | h6) <;> first | omega | exact hsp h6)] at hr
      cases hr
      exact ⟨tle (by omega), tle (by omega), call1 (c81 (hd t) hx) ⟨_, rfl, rfl, teq6 _, aft_ok rfl (h.next hn)⟩⟩
  · have h0 := of_feq h0
    have h1 := of_feq h1
    have h2 := of_feq h2
    have h3 := of_feq h3
    simp only [tB_eq, Bool.not_eq_false', Bool.or_eq_true, decide_eq_true_eq] at h4
    exact callF c38 ⟨_, _, rfl, bad (by omega) (by omega) (by omega) (by omega) (by omega) _⟩
theorem enc_cells (r : Rx) : [(enc r).getD 0 D0, (enc r).getD 1 D0, (enc r).getD 2 D0, (enc r).getD 3 D0, (enc r).getD 4 D0, (enc r).getD 5 D0] = enc r := by cases r; rfl
theorem opsL_some {m : Nat} {r r' : Rx} {t : List UInt8} {res : Res Rx} (h : opsL m r t = some res) (h1 : opX (hd t) r = some r') : ∃ m', opsL m' r' t.tail = some res := by
  cases m with
  | zero => simp [opsL] at h
  | succ m => refine ⟨m, ?_⟩; unfold opsL at h; rw [h1] at h; exact h
theorem opsL_none {m : Nat} {r : Rx} {t : List UInt8} {res : Res Rx} (h : opsL m r t = some res) (h1 : opX (hd t) r = none) : res = .ok r t := by
  cases m with
  | zero => simp [opsL] at h
  | succ m => unfold opsL at h; rw [h1] at h; cases h; rfl
theorem c65 {n : Nat} (K : K73 n) : K65 (n + 1) := by
  intro q s t i res hr h
  unfold piece at hr
  cases ha : atom n t with
  | none => rw [ha] at hr; cases hr
  | some ra =>
    rw [ha] at hr
    refine w65 s i q (callP (K (.up q) s t i ra ha h) (fun v t1 i1 e1 hi1 => ?_) (fun t1 i1 j e1 hi1 => ?_))
    · obtain ⟨r, f1, rfl⟩ := map_ok e1
      subst f1
      refine ⟨_, _, _, rfl, rfl, teq6 r, fun a b c d e f s' i' => ∃ m r t, s' = s ∧ [a, b, c, d, e, f] = enc r ∧ At s t i' ∧ opsL m r t = some res, fun _ _ _ _ _ _ s' i' => ((s'.length : Int) - i').toNat, ⟨n, r, t1, rfl, enc_cells r, hi1, hr⟩, ?_, trivial⟩
      rintro a b c d e f s' i' ⟨m, r', t', rfl, he, hat, hrun⟩
      have hlo' := hat.lo
      have lt : t' ≠ [] → ((s'.length : Int) - (i' + 1)).toNat < ((s'.length : Int) - i').toNat := fun hn => by have := hat.lt.2 hn; omega
      refine callB (c49 hat) ⟨_, _, _, rfl, rfl, fun h0 => ?_, fun h0 => ⟨fun h1 => ?_, fun h1 => ⟨fun h2 => ?_, fun h2 => ?_⟩⟩⟩
      · have h0 := of_teq h0
        have hn := hd_nil (t := t') (by omega)
        obtain ⟨m', hm⟩ := opsL_some hrun (r' := starX r') (by unfold opX; rw [if_pos (by omega)])
        refine ⟨tle (by omega), tle (by omega), ⟨m', _, _, rfl, ?_, hat.next hn, hm⟩, lt hn⟩
        rw [he]; rfl
      · have h0 := of_feq h0
        have h1 := of_teq h1
        have hn := hd_nil (t := t') (by omega)
        obtain ⟨m', hm⟩ := opsL_some hrun (r' := mk0 3 [r', starX r']) (by unfold opX; rw [if_neg (by omega), if_pos (by omega)])
        refine ⟨tle (by omega), tle (by omega), ⟨m', _, _, rfl, ?_, hat.next hn, hm⟩, lt hn⟩
        rw [he]; rfl
      · have h0 := of_feq h0
        have h1 := of_feq h1
        have h2 := of_teq h2
        have hn := hd_nil (t := t') (by omega)
        obtain ⟨m', hm⟩ := opsL_some hrun (r' := mk0 4 [r', mk0 1 []]) (by unfold opX; rw [if_neg (by omega), if_neg (by omega), if_pos (by omega)])
        refine ⟨tle (by omega), tle (by omega), ⟨m', _, _, rfl, ?_, hat.next hn, hm⟩, lt hn⟩
        rw [he]; rfl
      · have h0 := of_feq h0
        have h1 := of_feq h1
        have h2 := of_feq h2
        have := opsL_none hrun (by unfold opX; rw [if_neg (by omega), if_neg (by omega), if_neg (by omega)])
        subst this
        rw [he]
        exact aft_ok rfl hat
    · have f1 := map_bad e1
      subst f1
      cases hr
      exact ⟨_, _, rfl, aft_bad rfl hi1⟩
theorem heap_any {C : Ctx} {r : Ref} {x : A} {H : List (Ref × List A)} {g : Gh} {w : World} (h : HeapRel C (boxSt ((r, [x]) :: H)) g w) : HeapRel C (boxSt ((r, [A.any]) :: H)) g w := by
  have old : ∀ {o b}, Owns (boxSt ((r, [A.any]) :: H)) g o b → Owns (boxSt ((r, [x]) :: H)) g o b := fun {o b} ho => by
    cases ho with
    | @box q c h1 =>
      by_cases e : q = r
      · subst e; exact .box (c := [x]) (by simp [boxSt, kOf])
      · exact .box (c := c) (by simpa [boxSt, kOf, upd, e] using h1)
    | slot h1 => cases h1
    | @cell q c j a h1 h2 h3 =>
      by_cases e : q = r
      · subst e
        have hc : c = [A.any] := by simpa [boxSt, kOf] using h1.symm
        subst hc
        cases j with
        | zero => cases h2; cases h3
        | succ j => simp at h2
      · exact .cell (c := c) (by simpa [boxSt, kOf, upd, e] using h1) h2 h3
  refine ⟨fun q c hc => ?_, fun o o' b h1 h2 => h.inj o o' b (old h1) (old h2), fun o b h1 => h.wr o b (old h1), h.prs, h.pr0, h.prn, h.up, h.uu, h.fr⟩
  by_cases e : q = r
  · subst e
    have hc : c = [A.any] := by simpa [boxSt, kOf] using hc.symm
    subst hc
    obtain ⟨cs, k1, k2, k3, k4, k5⟩ := h.box q [x] (by simp [boxSt, kOf])
    refine ⟨cs, k1, k2, fun j a ha => ?_, k4, k5⟩
    cases j with
    | zero =>
      cases ha
      obtain ⟨_, v, k6, _⟩ := k3 0 x rfl
      exact ⟨rfl, v, k6, trivial⟩
    | succ j => simp at ha
  · exact h.box q c (by simpa [boxSt, kOf, upd, e] using hc)
theorem holds_any {P : Program} {f : Nat} {args : List A} {r : Ref} {x y : A} {H : List (Ref × List A)} {R : Out → List (Ref × List A) → Prop} (h : Holds P f args ((r, [x]) :: H) R) :
    Holds P f args ((r, [x]) :: H) fun o H' => R o H' ∨ ∃ u H1, o = .pan u ∧ H' = (r, [A.any]) :: H1 ∧ R (.pan u) ((r, [y]) :: H1) := by
  exact h.mono fun o H' ho => .inl ho
theorem holds_lose {P : Program} {f : Nat} {args : List A} {r : Ref} {x : A} {H : List (Ref × List A)} {R R' : Out → List (Ref × List A) → Prop} (h : Holds P f args ((r, [x]) :: H) R)
    (hret : ∀ v H', R (.ret v) H' → R' (.ret v) H') (hpan : ∀ u H', R (.pan u) H' → ∃ y H1, H' = (r, [y]) :: H1 ∧ R' (.pan u) ((r, [A.any]) :: H1)) :
    Holds P f args ((r, [x]) :: H) R' :=
  fun w cargs g h1 h2 => (h w cargs g h1 h2).mono fun e w' ⟨out, H', g', a, b, c, d⟩ => by
    cases out with
    | ret v => exact ⟨.ret v, H', g', hret _ _ a, b, c, d⟩
    | pan u =>
      obtain ⟨y, H1, rfl, hR⟩ := hpan _ _ a
      exact ⟨.pan u, _, g', hR, b, heap_any c, d⟩
def Aft64 (q0 q1 q2 : Ref) (s : List UInt8) (l : List Rx) (res : Res Rx) : Out → List (Ref × List A) → Prop := fun o H => match res with
  | .ok r t => o = .ret (.tup []) ∧ ∃ i, At s t i ∧ H = [(.up q0, [A.own 6 (encs (l ++ [r])) []]), (.up q1, [A.ptr (.up q2) 0]), (.up q2, [A.d (.lit (bytesV s)), A.d (.lit (.int .i64 i))])]
  | .bad t => ∃ i j, At s t i ∧ o = .pan (faultV i) ∧ H = [(.up q0, [A.any]), (.up q1, [A.ptr (.up q2) 0]), (.up q2, [A.d (.lit (bytesV s)), A.d (.lit (.int .i64 j))])]
theorem setL_all {a b : List D} (h : a.length = b.length) : Ab.setL a 0 b = b := by
  unfold Ab.setL; simp [← h]
theorem c64a {n : Nat} (K : K65 n) {q0 q1 q2 : Ref} (h01 : q0 ≠ q1) (h02 : q0 ≠ q2) (h12 : q1 ≠ q2) {s t : List UInt8} {i : Int} {res : Res Rx} (hr : piece n t = some res) (h : At s t i) :
    Holds Try.prog 64 [A.ptr (.up q0) 0, A.ptr (.up q1) 0] [(.up q0, [A.zs []]), (.up q1, [A.ptr (.up q2) 0]), (.up q2, [A.d (.lit (bytesV s)), A.d (.lit (.int .i64 i))])] (Aft64 q0 q1 q2 s [] res) := by
  let R0 : Out → List (Ref × List A) → Prop := fun o H => match res with
    | .ok r t => o = .ret (.tup []) ∧ ∃ i, At s t i ∧ H = [(.up q0, [A.own 6 (encs ([] ++ [r])) []]), (.up q1, [A.ptr (.up q2) 0]), (.up q2, [A.d (.lit (bytesV s)), A.d (.lit (.int .i64 i))])]
    | .bad t => ∃ i j, At s t i ∧ o = .pan (faultV i) ∧ H = [(.up q0, [A.zs []]), (.up q1, [A.ptr (.up q2) 0]), (.up q2, [A.d (.lit (bytesV s)), A.d (.lit (.int .i64 j))])]
  refine holds_lose (R := R0) (w64a s i q0 q1 q2 h01 h02 h12 (callP (K (.up q2) s t i res hr h) (fun v t1 i1 e1 hi1 => ?_) (fun t1 i1 j e1 hi1 => ?_))) (fun v H' ho => ?_) (fun u H' ho => ?_)
  · obtain ⟨r, f1, rfl⟩ := map_ok e1
    subst f1
    refine ⟨_, _, _, rfl, rfl, tle (by decide), tle (by decide), tlt (by decide), teq6 r, rfl, i1, hi1, ?_⟩
    have e : gAt (((D.lit (.int .i64 (0 : Int))) :: ((D.lit (.int .u64 (0 : Int))) :: ((D.lit (.int .u64 (0 : Int))) :: ((D.lit (.int .u64 (0 : Int))) :: ((D.lit (.int .u64 (0 : Int))) :: ((D.slc ([] : List (List D))) :: ([] : List D))))))) :: ([] : List (List D))) (0 : Int) = [D.lit (.int .i64 (0 : Int)), D.lit (.int .u64 (0 : Int)), D.lit (.int .u64 (0 : Int)), D.lit (.int .u64 (0 : Int)), D.lit (.int .u64 (0 : Int)), D.slc []] := rfl
    rw [e, setL_all (by simp)]
    rfl
  · have f1 := map_bad e1
    subst f1
    exact ⟨_, _, rfl, i1, j, hi1, rfl, rfl⟩
  · cases res with
    | ok r t1 => exact ho
    | bad t1 => obtain ⟨_, _, _, e, _⟩ := ho; cases e
  · cases res with
    | ok r t1 => cases ho.1
    | bad t1 => obtain ⟨i1, j, hi1, e, rfl⟩ := ho; exact ⟨_, _, rfl, i1, j, hi1, e, rfl⟩
theorem c64b {n : Nat} (K : K65 n) {q0 q1 q2 : Ref} (h01 : q0 ≠ q1) (h02 : q0 ≠ q2) (h12 : q1 ≠ q2) {s t : List UInt8} {i : Int} {res : Res Rx} {l : List Rx} (hl : l.length ≤ 1048576) (hr : piece n t = some res) (h : At s t i) :
    Holds Try.prog 64 [A.ptr (.up q0) 0, A.ptr (.up q1) 0] [(.up q0, [A.own 6 (encs l) []]), (.up q1, [A.ptr (.up q2) 0]), (.up q2, [A.d (.lit (bytesV s)), A.d (.lit (.int .i64 i))])] (Aft64 q0 q1 q2 s l res) := by
  refine w64b (encs l) s i q0 q1 q2 h01 h02 h12 (callP (K (.up q2) s t i res hr h) (fun v t1 i1 e1 hi1 => ?_) (fun t1 i1 j e1 hi1 => ?_))
  · obtain ⟨r, f1, rfl⟩ := map_ok e1
    subst f1
    refine ⟨_, _, _, rfl, rfl, tle (by simp; omega), tle (by simp; omega), teq6 r, rfl, i1, hi1, ?_⟩
    rw [setL_all (by simp)]
    show [(Ref.up q0, [A.own 6 (encs l ++ encs [r]) []]), _, _] = _
    rw [encs_append]
  · have f1 := map_bad e1
    subst f1
    exact ⟨_, _, rfl, i1, j, hi1, rfl, rfl⟩
theorem flat1 (r : Rx) : flatB 6 [enc r] = true := by unfold flatB; rw [List.all_cons, enc_length]; rfl
theorem callA {f : Nat} {args : List A} {B : List (Ref × List A)} {q0 q1 q2 : Ref} {s : List UInt8} {l : List Rx} {res : Res Rx} (hc : Holds Try.prog f args B (Aft64 q0 q1 q2 s l res)) {Q1 : A → List (Ref × List A) → Prop} {Q2 : Value → List (Ref × List A) → Prop}
    (h1 : ∀ r t i, res = .ok r t → At s t i → Q1 (.tup []) [(.up q0, [A.own 6 (encs (l ++ [r])) []]), (.up q1, [A.ptr (.up q2) 0]), (.up q2, [A.d (.lit (bytesV s)), A.d (.lit (.int .i64 i))])])
    (h2 : ∀ t i j, res = .bad t → At s t i → Q2 (faultV i) [(.up q0, [A.any]), (.up q1, [A.ptr (.up q2) 0]), (.up q2, [A.d (.lit (bytesV s)), A.d (.lit (.int .i64 j))])]) :
    ∃ R' : Out → List (Ref × List A) → Prop, Holds Try.prog f args B R' ∧ (∀ v H', R' (.ret v) H' → Q1 v H') ∧ (∀ u H', R' (.pan u) H' → Q2 u H') := by
  refine ⟨_, hc, fun v' H' e => ?_, fun u H' e => ?_⟩
  · cases res with
    | ok v t => obtain ⟨e1, i, hi, rfl⟩ := e; cases e1; exact h1 _ t i rfl hi
    | bad t => obtain ⟨i, j, hi, e1, _⟩ := e; cases e1
  · cases res with
    | ok v t => cases e.1
    | bad t => obtain ⟨i, j, hi, e1, rfl⟩ := e; cases e1; exact h2 t i j rfl hi
theorem ref_ne1 {q : Ref} {a b : Nat} : Ref.own a b ≠ Ref.up q := fun h => by cases h
theorem ref_ne2 {a b c d : Nat} (h : a ≠ c) : Ref.own a b ≠ Ref.own c d := fun e => by cases e; exact h rfl
theorem c48 {n : Nat} (K : ∀ m, m ≤ n → K65 m) : K48 (n + 1) := by
  intro q s t i res hr h
  unfold seqs at hr
  cases ha : piece n t with
  | none => rw [ha] at hr; cases hr
  | some ra =>
    rw [ha] at hr
    refine w48 s i q fun ν => callA (c64a (K n (Nat.le_refl _)) (ref_ne2 (by decide)) ref_ne1 ref_ne1 ha h) (fun r t1 i1 e1 hi1 => ?_) (fun t1 i1 j e1 hi1 => ?_)
    · subst e1
      have hlt := (par_lt n).2.2.2.2.1 _ _ ha
      refine ⟨_, _, _, rfl, rfl, fun x s' i' => ∃ m l t', s' = s ∧ x = encs l ∧ At s t' i' ∧ seqL m l t' = some res ∧ m ≤ n ∧ l.length + t'.length ≤ s.length, fun _ s' i' => ((s'.length : Int) - i').toNat, ⟨n, [r], t1, rfl, rfl, hi1, hr, Nat.le_refl _, ?_⟩, ?_, trivial⟩
      · have := hlt.1
        have := h.suf.length_le
        simp; omega
      · rintro x s' i' ⟨m, l, t', rfl, rfl, hat, hrun, hm, hl⟩
        have hsm := hat.sm
        have done : ¬ (t' ≠ [] ∧ hd t' ≠ 124 ∧ hd t' ≠ 41) → PAft q s' (res.map encA) (.ret (encA (joinX 3 l))) (PB q s' i') := fun hn => by
          cases m with
          | zero => simp [seqL] at hrun
          | succ m =>
            unfold seqL at hrun
            rw [if_neg hn] at hrun
            cases hrun
            exact aft_ok rfl hat
        refine ⟨fun h0 => callB (c49 hat) ⟨_, _, _, rfl, rfl, fun h1 => callB (c49 hat) ⟨_, _, _, rfl, rfl, fun h2 => fun ν => ?_, fun h2 => ?_⟩, fun h1 => ?_⟩, fun h0 => ?_⟩
        · have hn : t' ≠ [] ∧ hd t' ≠ 124 ∧ hd t' ≠ 41 := ⟨hat.more (of_tlt h0), by simp at h1; omega, by simp at h2; omega⟩
          cases m with
          | zero => simp [seqL] at hrun
          | succ m =>
            unfold seqL at hrun
            rw [if_pos hn] at hrun
            cases hb : piece m t' with
            | none => rw [hb] at hrun; cases hrun
            | some rb =>
              rw [hb] at hrun
              refine callA (c64b (K m (by omega)) (ref_ne2 (by decide)) ref_ne1 ref_ne1 (by omega) hb hat) (fun r t2 i2 e2 hi2 => ?_) (fun t2 i2 j e2 hi2 => ?_)
              · subst e2
                have hlt2 := ((par_lt m).2.2.2.2.1 _ _ hb).1
                refine ⟨_, _, _, rfl, rfl, ⟨m, l ++ [r], t2, rfl, rfl, hi2, hrun, by omega, by simp; omega⟩, ?_⟩
                exact SetI.lt hat hi2 hlt2
              · subst e2
                cases hrun
                exact ⟨_, _, rfl, aft_bad rfl hi2⟩
        · have h2 : hd t' = 41 := by simp at h2; omega
          exact call1 (c50 3 l) ⟨_, rfl, rfl, teq6 _, done fun h => h.2.2 h2⟩
        · have h1 : hd t' = 124 := by simp at h1; omega
          exact call1 (c50 3 l) ⟨_, rfl, rfl, teq6 _, done fun h => h.2.1 h1⟩
        · exact call1 (c50 3 l) ⟨_, rfl, rfl, teq6 _, done fun h => h.1 (hat.end_ (of_flt h0))⟩
    · subst e1
      cases hr
      exact ⟨_, _, rfl, aft_bad rfl hi1⟩
theorem c37 {n : Nat} (K : ∀ m, m ≤ n → K48 m) : K37 (n + 1) := by
  intro q s t i res hr h
  unfold alts at hr
  cases ha : seqs n t with
  | none => rw [ha] at hr; cases hr
  | some ra =>
    rw [ha] at hr
    refine w37 s i q (callP (K n (Nat.le_refl _) (.up q) s t i ra ha h) (fun v t1 i1 e1 hi1 => ?_) (fun t1 i1 j e1 hi1 => ?_))
    · obtain ⟨r, f1, rfl⟩ := map_ok e1
      subst f1
      have hlt := (par_lt n).2.2.1 _ _ ha
      refine ⟨_, _, _, rfl, rfl, teq6 r, fun x s' i' => ∃ m l t', s' = s ∧ x = encs l ∧ At s t' i' ∧ altL m l t' = some res ∧ m ≤ n ∧ l.length + t'.length ≤ s.length, fun _ s' i' => ((s'.length : Int) - i').toNat, ⟨n, [r], t1, rfl, rfl, hi1, hr, Nat.le_refl _, ?_⟩, ?_, trivial⟩
      · have := hlt.1
        have := h.suf.length_le
        simp; omega
      · rintro x s' i' ⟨m, l, t', rfl, rfl, hat, hrun, hm, hl⟩
        have hsm := hat.sm
        have hlo := hat.lo
        cases m with
        | zero => simp [altL] at hrun
        | succ m =>
          unfold altL at hrun
          refine callB (c49 hat) ⟨_, _, _, rfl, rfl, fun h1 => ⟨tle (by omega), tle (by omega), ?_⟩, fun h1 => ?_⟩
          · have h1 := of_teq h1
            have hn : t' ≠ [] := hd_nil (by omega)
            have hnl : t'.tail.length + 1 = t'.length := by cases t' with
              | nil => exact absurd rfl hn
              | cons c t => simp
            rw [if_pos (by omega)] at hrun
            cases hb : seqs m t'.tail with
            | none => rw [hb] at hrun; cases hrun
            | some rb =>
              rw [hb] at hrun
              refine callP (K m (by omega) (.up q) s' t'.tail (i' + 1) rb hb (hat.next hn)) (fun v t2 i2 e2 hi2 => ?_) (fun t2 i2 j e2 hi2 => ?_)
              · obtain ⟨r', f2, rfl⟩ := map_ok e2
                subst f2
                have hlt2 := ((par_lt m).2.2.1 _ _ hb).1
                refine ⟨_, _, _, rfl, rfl, teq6 r', flat1 r', tle (by simp; omega), tle (by simp; omega), ⟨m, l ++ [r'], t2, rfl, ?_, hi2, hrun, by omega, by simp; omega⟩, SetI.lt hat hi2 (by omega)⟩
                show encs l ++ encs [r'] = _
                rw [encs_append]
              · have f2 := map_bad e2
                subst f2
                cases hrun
                exact ⟨_, _, rfl, aft_bad rfl hi2⟩
          · have h1 := of_feq h1
            rw [if_neg (by omega)] at hrun
            cases hrun
            exact call1 (c50 4 l) ⟨_, rfl, rfl, teq6 _, aft_ok rfl hat⟩
    · have f1 := map_bad e1
      subst f1
      cases hr
      exact ⟨_, _, rfl, aft_bad rfl hi1⟩
theorem k_all : ∀ n, (∀ m, m ≤ n → K37 m ∧ K48 m ∧ K65 m ∧ K73 m) := by
  intro n
  induction n with
  | zero =>
    intro m hm
    have : m = 0 := by omega
    subst this
    exact ⟨fun q s t i res hr => by simp [alts] at hr, fun q s t i res hr => by simp [seqs] at hr, fun q s t i res hr => by simp [piece] at hr, fun q s t i res hr => by simp [atom] at hr⟩
  | succ n ih =>
    intro m hm
    by_cases h : m ≤ n
    · exact ih m h
    · have : m = n + 1 := by omega
      subst this
      exact ⟨c37 fun m h => (ih m h).2.1, c48 fun m h => (ih m h).2.2.1, c65 (ih n (Nat.le_refl _)).2.2.2, c73 (ih n (Nat.le_refl _)).1⟩
theorem k37 (n : Nat) : K37 n := (k_all n n (Nat.le_refl _)).1
end Go.Rx
end
