/- Part 7 of the proof: Wmat, Wtop. -/
import Derived.Test.YtedalcjkolcolaaProg
import Derived.Test.YtedalcjkolcolaaJaf
set_option linter.unusedVariables false
set_option linter.unusedSimpArgs false
section
open Go Go.Proofs Go.Ab Go.Rf
set_option maxRecDepth 1000000
set_option maxHeartbeats 2000000
set_option linter.unusedVariables false
namespace Go.Rx
theorem w58 {R : Out → List (Ref × List A) → Prop} (x0 : List D) (x1 : List UInt8) (x2 : List (List D)) (h : (tB ((x0.length : Int) == (4 : Int))) = true ∧
 (tB (decide ((-9223372036854775808 : Int) ≤ ((x1.length : Int) + (1 : Int))))) = true ∧
 (tB (decide (((x1.length : Int) + (1 : Int)) ≤ (9223372036854775807 : Int)))) = true ∧
 (tB (decide ((0 : Int) ≤ ((x1.length : Int) + (1 : Int))))) = true ∧
 (tB (decide (((x1.length : Int) + (1 : Int)) ≤ ((x1.length : Int) + (1 : Int))))) = true ∧
 (tB (decide (((1 : Int) * ((x1.length : Int) + (1 : Int))) ≤ (281474976710656 : Int)))) = true ∧
 ∃ (I0_0 : List (List D) → Int → Prop) (M0_0 : List (List D) → Int → Nat), I0_0 (gRpt ((x1.length : Int) + (1 : Int)) ((D.lit (.bool false)) :: ([] : List D))) (0 : Int) ∧
 (∀ (x3 : List (List D)) (x4 : Int) , I0_0 x3 x4 →
  ((tB (decide (x4 < (x1.length : Int)))) = true →
  (tB (decide ((-9223372036854775808 : Int) ≤ (x4 + (1 : Int))))) = true ∧
  (tB (decide ((x4 + (1 : Int)) ≤ (9223372036854775807 : Int)))) = true ∧
  (tB (decide ((0 : Int) ≤ x4))) = true ∧
  (tB (decide (x4 < (x2.length : Int)))) = true ∧
  (tB (((gAt x2 x4).length : Int) == (1 : Int))) = true ∧
  (Rf.isK .bool ((gAt x2 x4).getD 0 D0)) = true ∧
  ((Rf.dbool ((gAt x2 x4).getD 0 D0)) = true →
  ∃ x5 : Bool, (∀ _ : Nat → Nat, Holds Try.prog 63 [(A.agg x0), (A.d (D.lit (.int .u8 (gByte x1 x4))))] [] (Reads [] (A.d (D.lit (.bool x5))))) ∧
  (tB (decide ((0 : Int) ≤ (x4 + (1 : Int))))) = true ∧
  (tB (decide ((x4 + (1 : Int)) < (x3.length : Int)))) = true ∧
  I0_0 (gSet x3 (x4 + (1 : Int)) (setL (gAt x3 (x4 + (1 : Int))) 0 ((D.lit (.bool x5)) :: ([] : List D)))) (x4 + (1 : Int)) ∧ M0_0 (gSet x3 (x4 + (1 : Int)) (setL (gAt x3 (x4 + (1 : Int))) 0 ((D.lit (.bool x5)) :: ([] : List D)))) (x4 + (1 : Int)) < M0_0 x3 x4) ∧
  ((Rf.dbool ((gAt x2 x4).getD 0 D0)) = false →
  (tB (decide ((0 : Int) ≤ (x4 + (1 : Int))))) = true ∧
  (tB (decide ((x4 + (1 : Int)) < (x3.length : Int)))) = true ∧
  I0_0 (gSet x3 (x4 + (1 : Int)) (setL (gAt x3 (x4 + (1 : Int))) 0 ((D.lit (.bool false)) :: ([] : List D)))) (x4 + (1 : Int)) ∧ M0_0 (gSet x3 (x4 + (1 : Int)) (setL (gAt x3 (x4 + (1 : Int))) 0 ((D.lit (.bool false)) :: ([] : List D)))) (x4 + (1 : Int)) < M0_0 x3 x4)) ∧
  ((tB (decide (x4 < (x1.length : Int)))) = false →
  R (.ret (A.d (D.slc (([] : List (List D)) ++ x3)))) [])) ∧
 True) :
  Holds Try.prog 58 [(A.agg x0), (A.d (D.lit (bytesV x1))), (A.d (D.slc x2))] [] R :=
 walk (c := ⟨Try.prog, 35, true, [0, 1, 2, 3, 6, 7, 8, 16]⟩) (op := {  }) (fn := Try.f58) (args := [.agg (.var 0), .c (.o1 .cs (.var 1)), .c (.o1 .cl (.var 2))]) (K := []) (nv := 3) (depth := 6) (up := upOf []) (ρ := envOf [.r x0, .s x1, .l x2])
  rfl rfl rfl rfl rfl (by decide) (by decide) (by decide) (by decide) rfl (by simp [bxDen, RRef.den, upOf]) (T_of (by kernel_rfl) h)
theorem w59 {R : Out → List (Ref × List A) → Prop} (x0 : List (List D)) (x1 : List (List D)) (h : (flatB 1 x0) = true ∧
 (tB (decide ((((0 : Int) + (x0.length : Int)) * (1 : Int)) ≤ (140737488355328 : Int)))) = true ∧
 (tB (decide (((0 : Int) + (x0.length : Int)) ≤ (1099511627776 : Int)))) = true ∧
 ∃ (I0_0 : List (List D) → Bool → Int → Prop) (M0_0 : List (List D) → Bool → Int → Nat), I0_0 x0 false (0 : Int) ∧
 (∀ (x2 : List (List D)) (x3 : Bool) (x4 : Int) , I0_0 x2 x3 x4 →
  ((tB (decide (x4 < (x1.length : Int)))) = true →
  (tB (decide ((0 : Int) ≤ x4))) = true ∧
  (tB (((gAt x1 x4).length : Int) == (1 : Int))) = true ∧
  (Rf.isK .bool ((gAt x1 x4).getD 0 D0)) = true ∧
  ((!(Rf.dbool ((gAt x1 x4).getD 0 D0))) || (tB (decide (x4 < (x2.length : Int))))) = true ∧
  ((!(Rf.dbool ((gAt x1 x4).getD 0 D0))) || (Rf.isK .bool ((gAt x2 x4).getD 0 D0))) = true ∧
  (((Rf.dbool ((gAt x1 x4).getD 0 D0)) && (!(Rf.dbool ((gAt x2 x4).getD 0 D0)))) = true →
  (tB (decide (x4 < (x2.length : Int)))) = true ∧
  (tB (decide ((-9223372036854775808 : Int) ≤ (x4 + (1 : Int))))) = true ∧
  (tB (decide ((x4 + (1 : Int)) ≤ (9223372036854775807 : Int)))) = true ∧
  I0_0 (gSet x2 x4 (setL (gAt x2 x4) 0 ((D.lit (.bool true)) :: ([] : List D)))) true (x4 + (1 : Int)) ∧ M0_0 (gSet x2 x4 (setL (gAt x2 x4) 0 ((D.lit (.bool true)) :: ([] : List D)))) true (x4 + (1 : Int)) < M0_0 x2 x3 x4) ∧
  (((Rf.dbool ((gAt x1 x4).getD 0 D0)) && (!(Rf.dbool ((gAt x2 x4).getD 0 D0)))) = false →
  (tB (decide ((-9223372036854775808 : Int) ≤ (x4 + (1 : Int))))) = true ∧
  (tB (decide ((x4 + (1 : Int)) ≤ (9223372036854775807 : Int)))) = true ∧
  I0_0 x2 x3 (x4 + (1 : Int)) ∧ M0_0 x2 x3 (x4 + (1 : Int)) < M0_0 x2 x3 x4)) ∧
  ((tB (decide (x4 < (x1.length : Int)))) = false →
  R (.ret (A.tup [(false, [(D.slc (([] : List (List D)) ++ x2))]), (false, [(D.lit (.bool x3))])])) [])) ∧
 True) :
  Holds Try.prog 59 [(A.d (D.slc x0)), (A.d (D.slc x1))] [] R :=
 walk (c := ⟨Try.prog, 34, true, [0, 1, 4, 5, 6, 7, 8, 15, 28]⟩) (op := {  }) (fn := Try.f59) (args := [.c (.o1 .cl (.var 0)), .c (.o1 .cl (.var 1))]) (K := []) (nv := 2) (depth := 6) (up := upOf []) (ρ := envOf [.l x0, .l x1])
  rfl rfl rfl rfl rfl (by decide) (by decide) (by decide) (by decide) rfl (by simp [bxDen, RRef.den, upOf]) (T_of (by kernel_rfl) h)
theorem w44 {R : Out → List (Ref × List A) → Prop} (x0 : List D) (x1 : List UInt8) (x2 : List (List D)) (h : (tB ((x0.length : Int) == (6 : Int))) = true ∧
 (Rf.isK (.int .i64) (x0.getD 0 D0)) = true ∧
 ((tB ((Rf.dint (x0.getD 0 D0)) == (1 : Int))) = true →
  R (.ret (A.d (D.slc x2))) []) ∧
 ((tB ((Rf.dint (x0.getD 0 D0)) == (1 : Int))) = false →
  ((tB ((Rf.dint (x0.getD 0 D0)) == (2 : Int))) = true →
  ∀ _ : Nat → Nat, ∃ R' : Out → List (Ref × List A) → Prop, Holds Try.prog 58 [(A.agg ((x0.getD 1 D0) :: ((x0.getD 2 D0) :: ((x0.getD 3 D0) :: ((x0.getD 4 D0) :: ([] : List D)))))), (A.d (D.lit (bytesV x1))), (A.d (D.slc x2))] [] R' ∧
  (∀ v H', R' (.ret v) H' → ∃ x3 : List (List D), v = (A.d (D.slc x3)) ∧ H' = [] ∧
  R (.ret (A.d (D.slc x3))) []) ∧
  (∀ x3v H', R' (.pan x3v) H' → H' = [] ∧
  R (.pan x3v) [])) ∧
  ((tB ((Rf.dint (x0.getD 0 D0)) == (2 : Int))) = false →
  ((tB ((Rf.dint (x0.getD 0 D0)) == (3 : Int))) = true →
  ∃ (I0_0 : List (List D) → Int → Prop) (M0_0 : List (List D) → Int → Nat), I0_0 x2 (0 : Int) ∧
  (∀ (x3 : List (List D)) (x4 : Int) , I0_0 x3 x4 →
  (Rf.isK .slc (x0.getD 5 D0)) = true ∧
  ((tB (decide (x4 < ((Rf.dlst (x0.getD 5 D0)).length : Int)))) = true →
  (tB (decide ((0 : Int) ≤ x4))) = true ∧
  (tB (((gAt (Rf.dlst (x0.getD 5 D0)) x4).length : Int) == (6 : Int))) = true ∧
  ∀ _ : Nat → Nat, ∃ R' : Out → List (Ref × List A) → Prop, Holds Try.prog 44 [(A.agg (gAt (Rf.dlst (x0.getD 5 D0)) x4)), (A.d (D.lit (bytesV x1))), (A.d (D.slc x3))] [] R' ∧
  (∀ v H', R' (.ret v) H' → ∃ x5 : List (List D), v = (A.d (D.slc x5)) ∧ H' = [] ∧
  (tB (decide ((-9223372036854775808 : Int) ≤ (x4 + (1 : Int))))) = true ∧
  (tB (decide ((x4 + (1 : Int)) ≤ (9223372036854775807 : Int)))) = true ∧
  I0_0 x5 (x4 + (1 : Int)) ∧ M0_0 x5 (x4 + (1 : Int)) < M0_0 x3 x4) ∧
  (∀ x5v H', R' (.pan x5v) H' → H' = [] ∧
  R (.pan x5v) [])) ∧
  ((tB (decide (x4 < ((Rf.dlst (x0.getD 5 D0)).length : Int)))) = false →
  R (.ret (A.d (D.slc x3))) [])) ∧
  True) ∧
  ((tB ((Rf.dint (x0.getD 0 D0)) == (3 : Int))) = false →
  ((tB ((Rf.dint (x0.getD 0 D0)) == (4 : Int))) = true →
  (tB (decide ((-9223372036854775808 : Int) ≤ ((x1.length : Int) + (1 : Int))))) = true ∧
  (tB (decide (((x1.length : Int) + (1 : Int)) ≤ (9223372036854775807 : Int)))) = true ∧
  (tB (decide ((0 : Int) ≤ ((x1.length : Int) + (1 : Int))))) = true ∧
  (tB (decide (((x1.length : Int) + (1 : Int)) ≤ ((x1.length : Int) + (1 : Int))))) = true ∧
  (tB (decide (((1 : Int) * ((x1.length : Int) + (1 : Int))) ≤ (281474976710656 : Int)))) = true ∧
  ∃ (I0_0 : Prop) (M0_0 : Nat), ∃ (I0_1 : List (List D) → Int → Prop) (M0_1 : List (List D) → Int → Nat), I0_0 ∧
  (I0_0 →
  (Rf.isK .slc (x0.getD 5 D0)) = true ∧
  ((tB (decide ((0 : Int) < ((Rf.dlst (x0.getD 5 D0)).length : Int)))) = true →
  (tB (((gAt (Rf.dlst (x0.getD 5 D0)) (0 : Int)).length : Int) == (6 : Int))) = true ∧
  ∀ _ : Nat → Nat, ∃ R' : Out → List (Ref × List A) → Prop, Holds Try.prog 44 [(A.agg (gAt (Rf.dlst (x0.getD 5 D0)) (0 : Int))), (A.d (D.lit (bytesV x1))), (A.d (D.slc x2))] [] R' ∧
  (∀ v H', R' (.ret v) H' → ∃ x3 : List (List D), v = (A.d (D.slc x3)) ∧ H' = [] ∧
  ∀ _ : Nat → Nat, ∃ R' : Out → List (Ref × List A) → Prop, Holds Try.prog 59 [(A.d (D.slc (([] : List (List D)) ++ (gRpt ((x1.length : Int) + (1 : Int)) ((D.lit (.bool false)) :: ([] : List D)))))), (A.d (D.slc x3))] [] R' ∧
  (∀ v H', R' (.ret v) H' → ∃ x4 : List (List D), ∃ x5 : Bool, v = (A.tup [(false, [(D.slc x4)]), (false, [(D.lit (.bool x5))])]) ∧ H' = [] ∧
  I0_1 x4 (1 : Int) ∧ M0_1 x4 (1 : Int) < M0_0) ∧
  (∀ x4v H', R' (.pan x4v) H' → H' = [] ∧
  R (.pan x4v) [])) ∧
  (∀ x3v H', R' (.pan x3v) H' → H' = [] ∧
  R (.pan x3v) [])) ∧
  ((tB (decide ((0 : Int) < ((Rf.dlst (x0.getD 5 D0)).length : Int)))) = false →
  R (.ret (A.d (D.slc (([] : List (List D)) ++ (gRpt ((x1.length : Int) + (1 : Int)) ((D.lit (.bool false)) :: ([] : List D))))))) [])) ∧
  (∀ (x3 : List (List D)) (x4 : Int) , I0_1 x3 x4 →
  (Rf.isK .slc (x0.getD 5 D0)) = true ∧
  ((tB (decide (x4 < ((Rf.dlst (x0.getD 5 D0)).length : Int)))) = true →
  (tB (decide ((0 : Int) ≤ x4))) = true ∧
  (tB (((gAt (Rf.dlst (x0.getD 5 D0)) x4).length : Int) == (6 : Int))) = true ∧
  ∀ _ : Nat → Nat, ∃ R' : Out → List (Ref × List A) → Prop, Holds Try.prog 44 [(A.agg (gAt (Rf.dlst (x0.getD 5 D0)) x4)), (A.d (D.lit (bytesV x1))), (A.d (D.slc x2))] [] R' ∧
  (∀ v H', R' (.ret v) H' → ∃ x5 : List (List D), v = (A.d (D.slc x5)) ∧ H' = [] ∧
  ∀ _ : Nat → Nat, ∃ R' : Out → List (Ref × List A) → Prop, Holds Try.prog 59 [(A.d (D.slc x3)), (A.d (D.slc x5))] [] R' ∧
  (∀ v H', R' (.ret v) H' → ∃ x6 : List (List D), ∃ x7 : Bool, v = (A.tup [(false, [(D.slc x6)]), (false, [(D.lit (.bool x7))])]) ∧ H' = [] ∧
  (tB (decide ((-9223372036854775808 : Int) ≤ (x4 + (1 : Int))))) = true ∧
  (tB (decide ((x4 + (1 : Int)) ≤ (9223372036854775807 : Int)))) = true ∧
  I0_1 x6 (x4 + (1 : Int)) ∧ M0_1 x6 (x4 + (1 : Int)) < M0_1 x3 x4) ∧
  (∀ x6v H', R' (.pan x6v) H' → H' = [] ∧
  R (.pan x6v) [])) ∧
  (∀ x5v H', R' (.pan x5v) H' → H' = [] ∧
  R (.pan x5v) [])) ∧
  ((tB (decide (x4 < ((Rf.dlst (x0.getD 5 D0)).length : Int)))) = false →
  R (.ret (A.d (D.slc x3))) [])) ∧
  True) ∧
  ((tB ((Rf.dint (x0.getD 0 D0)) == (4 : Int))) = false →
  ((tB ((Rf.dint (x0.getD 0 D0)) == (5 : Int))) = true →
  (Rf.isK .slc (x0.getD 5 D0)) = true ∧
  (tB (decide ((0 : Int) < ((Rf.dlst (x0.getD 5 D0)).length : Int)))) = true ∧
  (tB (((gAt (Rf.dlst (x0.getD 5 D0)) (0 : Int)).length : Int) == (6 : Int))) = true ∧
  ∃ (I0_0 : D → D → D → D → D → D → Prop) (M0_0 : D → D → D → D → D → D → Nat), I0_0 ((gAt (Rf.dlst (x0.getD 5 D0)) (0 : Int)).getD 0 D0) ((gAt (Rf.dlst (x0.getD 5 D0)) (0 : Int)).getD 1 D0) ((gAt (Rf.dlst (x0.getD 5 D0)) (0 : Int)).getD 2 D0) ((gAt (Rf.dlst (x0.getD 5 D0)) (0 : Int)).getD 3 D0) ((gAt (Rf.dlst (x0.getD 5 D0)) (0 : Int)).getD 4 D0) ((gAt (Rf.dlst (x0.getD 5 D0)) (0 : Int)).getD 5 D0) ∧
  (∀ (x3 : D) (x4 : D) (x5 : D) (x6 : D) (x7 : D) (x8 : D) , I0_0 x3 x4 x5 x6 x7 x8 →
  (Rf.isK (.int .i64) x3) = true ∧
  ((!(tB ((Rf.dint x3) == (5 : Int)))) || (Rf.isK .slc x8)) = true ∧
  (((tB ((Rf.dint x3) == (5 : Int))) && (tB (((Rf.dlst x8).length : Int) == (1 : Int)))) = true →
  (Rf.isK .slc x8) = true ∧
  (tB (decide ((0 : Int) < ((Rf.dlst x8).length : Int)))) = true ∧
  (tB (((gAt (Rf.dlst x8) (0 : Int)).length : Int) == (6 : Int))) = true ∧
  I0_0 ((gAt (Rf.dlst x8) (0 : Int)).getD 0 D0) ((gAt (Rf.dlst x8) (0 : Int)).getD 1 D0) ((gAt (Rf.dlst x8) (0 : Int)).getD 2 D0) ((gAt (Rf.dlst x8) (0 : Int)).getD 3 D0) ((gAt (Rf.dlst x8) (0 : Int)).getD 4 D0) ((gAt (Rf.dlst x8) (0 : Int)).getD 5 D0) ∧ M0_0 ((gAt (Rf.dlst x8) (0 : Int)).getD 0 D0) ((gAt (Rf.dlst x8) (0 : Int)).getD 1 D0) ((gAt (Rf.dlst x8) (0 : Int)).getD 2 D0) ((gAt (Rf.dlst x8) (0 : Int)).getD 3 D0) ((gAt (Rf.dlst x8) (0 : Int)).getD 4 D0) ((gAt (Rf.dlst x8) (0 : Int)).getD 5 D0) < M0_0 x3 x4 x5 x6 x7 x8) ∧
  (((tB ((Rf.dint x3) == (5 : Int))) && (tB (((Rf.dlst x8).length : Int) == (1 : Int)))) = false →
  ∃ (I1_0 : List (List D) → Bool → Prop) (M1_0 : List (List D) → Bool → Nat), I1_0 x2 true ∧
  (∀ (x9 : List (List D)) (x10 : Bool) , I1_0 x9 x10 →
  (x10 = true →
  ∀ _ : Nat → Nat, ∃ R' : Out → List (Ref × List A) → Prop, Holds Try.prog 44 [(A.agg (x3 :: (x4 :: (x5 :: (x6 :: (x7 :: (x8 :: ([] : List D)))))))), (A.d (D.lit (bytesV x1))), (A.d (D.slc x9))] [] R' ∧
  (∀ v H', R' (.ret v) H' → ∃ x11 : List (List D), v = (A.d (D.slc x11)) ∧ H' = [] ∧
  ∀ _ : Nat → Nat, ∃ R' : Out → List (Ref × List A) → Prop, Holds Try.prog 59 [(A.d (D.slc x9)), (A.d (D.slc x11))] [] R' ∧
  (∀ v H', R' (.ret v) H' → ∃ x12 : List (List D), ∃ x13 : Bool, v = (A.tup [(false, [(D.slc x12)]), (false, [(D.lit (.bool x13))])]) ∧ H' = [] ∧
  I1_0 x12 x13 ∧ M1_0 x12 x13 < M1_0 x9 x10) ∧
  (∀ x12v H', R' (.pan x12v) H' → H' = [] ∧
  R (.pan x12v) [])) ∧
  (∀ x11v H', R' (.pan x11v) H' → H' = [] ∧
  R (.pan x11v) [])) ∧
  (x10 = false →
  R (.ret (A.d (D.slc x9))) [])) ∧
  True)) ∧
  True) ∧
  ((tB ((Rf.dint (x0.getD 0 D0)) == (5 : Int))) = false →
  (tB (decide ((-9223372036854775808 : Int) ≤ ((x1.length : Int) + (1 : Int))))) = true ∧
  (tB (decide (((x1.length : Int) + (1 : Int)) ≤ (9223372036854775807 : Int)))) = true ∧
  (tB (decide ((0 : Int) ≤ ((x1.length : Int) + (1 : Int))))) = true ∧
  (tB (decide (((x1.length : Int) + (1 : Int)) ≤ ((x1.length : Int) + (1 : Int))))) = true ∧
  (tB (decide (((1 : Int) * ((x1.length : Int) + (1 : Int))) ≤ (281474976710656 : Int)))) = true ∧
  R (.ret (A.own 1 (([] : List (List D)) ++ (gRpt ((x1.length : Int) + (1 : Int)) ((D.lit (.bool false)) :: ([] : List D)))) ([] : List (List D)))) [])))))) :
  Holds Try.prog 44 [(A.agg x0), (A.d (D.lit (bytesV x1))), (A.d (D.slc x2))] [] R :=
 walk (c := ⟨Try.prog, 105, true, [0, 1, 2, 3, 6, 7, 8, 9, 10, 11, 12, 14, 15, 18, 25, 31, 43, 53, 70, 84, 90]⟩) (op := {  }) (fn := Try.f44) (args := [.agg (.var 0), .c (.o1 .cs (.var 1)), .c (.o1 .cl (.var 2))]) (K := []) (nv := 3) (depth := 7) (up := upOf []) (ρ := envOf [.r x0, .s x1, .l x2])
  rfl rfl rfl rfl rfl (by decide) (by decide) (by decide) (by decide) rfl (by simp [bxDen, RRef.den, upOf]) (T_of (by kernel_rfl) h)
theorem w30 {R : Out → List (Ref × List A) → Prop} (x0 : List D) (x1 : List UInt8) (h : (tB ((x0.length : Int) == (6 : Int))) = true ∧
 (tB (decide ((-9223372036854775808 : Int) ≤ ((x1.length : Int) + (1 : Int))))) = true ∧
 (tB (decide (((x1.length : Int) + (1 : Int)) ≤ (9223372036854775807 : Int)))) = true ∧
 (tB (decide ((0 : Int) ≤ ((x1.length : Int) + (1 : Int))))) = true ∧
 (tB (decide (((x1.length : Int) + (1 : Int)) ≤ ((x1.length : Int) + (1 : Int))))) = true ∧
 (tB (decide (((1 : Int) * ((x1.length : Int) + (1 : Int))) ≤ (281474976710656 : Int)))) = true ∧
 (tB (decide ((0 : Int) < ((gRpt ((x1.length : Int) + (1 : Int)) ((D.lit (.bool false)) :: ([] : List D))).length : Int)))) = true ∧
 ∀ _ : Nat → Nat, ∃ R' : Out → List (Ref × List A) → Prop, Holds Try.prog 44 [(A.agg x0), (A.d (D.lit (bytesV x1))), (A.d (D.slc (([] : List (List D)) ++ (gSet (gRpt ((x1.length : Int) + (1 : Int)) ((D.lit (.bool false)) :: ([] : List D))) (0 : Int) (setL (gAt (gRpt ((x1.length : Int) + (1 : Int)) ((D.lit (.bool false)) :: ([] : List D))) (0 : Int)) 0 ((D.lit (.bool true)) :: ([] : List D)))))))] [] R' ∧
 (∀ v H', R' (.ret v) H' → ∃ x2 : List (List D), v = (A.d (D.slc x2)) ∧ H' = [] ∧
  (tB (decide ((0 : Int) ≤ (x1.length : Int)))) = true ∧
  (tB (decide ((x1.length : Int) < (x2.length : Int)))) = true ∧
  (tB (((gAt x2 (x1.length : Int)).length : Int) == (1 : Int))) = true ∧
  (Rf.isK .bool ((gAt x2 (x1.length : Int)).getD 0 D0)) = true ∧
  R (.ret (A.d (D.lit (.bool (Rf.dbool ((gAt x2 (x1.length : Int)).getD 0 D0)))))) []) ∧
 (∀ x2v H', R' (.pan x2v) H' → H' = [] ∧
  R (.pan x2v) [])) :
  Holds Try.prog 30 [(A.agg x0), (A.d (D.lit (bytesV x1)))] [] R :=
 walk (c := ⟨Try.prog, 20, true, [0, 1, 2, 4, 5]⟩) (op := {  }) (fn := Try.f30) (args := [.agg (.var 0), .c (.o1 .cs (.var 1))]) (K := []) (nv := 2) (depth := 5) (up := upOf []) (ρ := envOf [.r x0, .s x1])
  rfl rfl rfl rfl rfl (by decide) (by decide) (by decide) (by decide) rfl (by simp [bxDen, RRef.den, upOf]) (T_of (by kernel_rfl) h)
theorem w28 {R : Out → List (Ref × List A) → Prop} (x0 : List D) (x1 : List UInt8) (h : (tB ((x0.length : Int) == (6 : Int))) = true ∧
 ∀ _ : Nat → Nat, ∃ R' : Out → List (Ref × List A) → Prop, Holds Try.prog 16 [(A.agg x0)] [] R' ∧
 (∀ v H', R' (.ret v) H' → ∃ x2 : Int, v = (A.d (D.lit (.int .i64 x2))) ∧ H' = [] ∧
  ((tB (x2 == (0 : Int))) = true →
  ∀ _ : Nat → Nat, ∃ R' : Out → List (Ref × List A) → Prop, Holds Try.prog 30 [(A.agg x0), (A.d (D.lit (bytesV x1)))] [] R' ∧
  (∀ v H', R' (.ret v) H' → ∃ x3 : Bool, v = (A.d (D.lit (.bool x3))) ∧ H' = [] ∧
  R (.ret (A.d (D.lit (.bool x3)))) []) ∧
  (∀ x3v H', R' (.pan x3v) H' → H' = [] ∧
  R (.pan x3v) [])) ∧
  ((tB (x2 == (0 : Int))) = false →
  R (.ret (A.d (D.lit (.bool false)))) [])) ∧
 (∀ x2v H', R' (.pan x2v) H' → H' = [] ∧
  R (.pan x2v) [])) :
  Holds Try.prog 28 [(A.agg x0), (A.d (D.lit (bytesV x1)))] [] R :=
 walk (c := ⟨Try.prog, 13, true, [0, 1, 2, 4]⟩) (op := {  }) (fn := Try.f28) (args := [.agg (.var 0), .c (.o1 .cs (.var 1))]) (K := []) (nv := 2) (depth := 4) (up := upOf []) (ρ := envOf [.r x0, .s x1])
  rfl rfl rfl rfl rfl (by decide) (by decide) (by decide) (by decide) rfl (by simp [bxDen, RRef.den, upOf]) (T_of (by kernel_rfl) h)
theorem w21 {R : Out → List (Ref × List A) → Prop} (x0 : List D) (x1 : List D) (h : (tB ((x0.length : Int) == (6 : Int))) = true ∧
 (tB ((x1.length : Int) == (6 : Int))) = true ∧
 ∀ _ : Nat → Nat, ∃ R' : Out → List (Ref × List A) → Prop, Holds Try.prog 40 [(A.agg x0), (A.agg x1)] [] R' ∧
 (∀ v H', R' (.ret v) H' → ∃ x2 : Int, v = (A.d (D.lit (.int .i64 x2))) ∧ H' = [] ∧
  R (.ret (A.d (D.lit (.bool (tB (x2 == (0 : Int))))))) []) ∧
 (∀ x2v H', R' (.pan x2v) H' → H' = [] ∧
  R (.pan x2v) [])) :
  Holds Try.prog 21 [(A.agg x0), (A.agg x1)] [] R :=
 walk (c := ⟨Try.prog, 9, true, [0, 1, 2, 3, 4]⟩) (op := {  }) (fn := Try.f21) (args := [.agg (.var 0), .agg (.var 1)]) (K := []) (nv := 2) (depth := 4) (up := upOf []) (ρ := envOf [.r x0, .r x1])
  rfl rfl rfl rfl rfl (by decide) (by decide) (by decide) (by decide) rfl (by simp [bxDen, RRef.den, upOf]) (T_of (by kernel_rfl) h)
theorem w40 {R : Out → List (Ref × List A) → Prop} (x0 : List D) (x1 : List D) (h : (tB ((x0.length : Int) == (6 : Int))) = true ∧
 (tB ((x1.length : Int) == (6 : Int))) = true ∧
 (Rf.isK (.int .i64) (x0.getD 0 D0)) = true ∧
 (Rf.isK (.int .i64) (x1.getD 0 D0)) = true ∧
 ((!(tB ((Rf.dint (x0.getD 0 D0)) == (Rf.dint (x1.getD 0 D0))))) = true →
  ∀ _ : Nat → Nat, ∃ R' : Out → List (Ref × List A) → Prop, Holds Try.prog 54 [(A.d (D.lit (.bool (tB (decide ((Rf.dint (x0.getD 0 D0)) < (Rf.dint (x1.getD 0 D0))))))))] [] R' ∧
  (∀ v H', R' (.ret v) H' → ∃ x2 : Int, v = (A.d (D.lit (.int .i64 x2))) ∧ H' = [] ∧
  R (.ret (A.d (D.lit (.int .i64 x2)))) []) ∧
  (∀ x2v H', R' (.pan x2v) H' → H' = [] ∧
  R (.pan x2v) [])) ∧
 ((!(tB ((Rf.dint (x0.getD 0 D0)) == (Rf.dint (x1.getD 0 D0))))) = false →
  ∃ (I0_0 : Int → Prop) (M0_0 : Int → Nat), I0_0 (0 : Int) ∧
  (∀ (x2 : Int) , I0_0 x2 →
  ((tB (decide (x2 < (4 : Int)))) = true →
  (tB (decide ((0 : Int) ≤ x2))) = true ∧
  ((tB (x2 == (0 : Int))) = true →
  (Rf.isK (.int .u64) (x0.getD 1 D0)) = true ∧
  (Rf.isK (.int .u64) (x1.getD 1 D0)) = true ∧
  ((!(tB ((Rf.dint (x0.getD 1 D0)) == (Rf.dint (x1.getD 1 D0))))) = true →
  ∀ _ : Nat → Nat, ∃ R' : Out → List (Ref × List A) → Prop, Holds Try.prog 54 [(A.d (D.lit (.bool (tB (decide ((Rf.dint (x0.getD 1 D0)) < (Rf.dint (x1.getD 1 D0))))))))] [] R' ∧
  (∀ v H', R' (.ret v) H' → ∃ x3 : Int, v = (A.d (D.lit (.int .i64 x3))) ∧ H' = [] ∧
  R (.ret (A.d (D.lit (.int .i64 x3)))) []) ∧
  (∀ x3v H', R' (.pan x3v) H' → H' = [] ∧
  R (.pan x3v) [])) ∧
  ((!(tB ((Rf.dint (x0.getD 1 D0)) == (Rf.dint (x1.getD 1 D0))))) = false →
  (tB (decide ((-9223372036854775808 : Int) ≤ (x2 + (1 : Int))))) = true ∧
  (tB (decide ((x2 + (1 : Int)) ≤ (9223372036854775807 : Int)))) = true ∧
  I0_0 (x2 + (1 : Int)) ∧ M0_0 (x2 + (1 : Int)) < M0_0 x2)) ∧
  ((tB (x2 == (0 : Int))) = false →
  ((tB (x2 == (1 : Int))) = true →
  (Rf.isK (.int .u64) (x0.getD 2 D0)) = true ∧
  (Rf.isK (.int .u64) (x1.getD 2 D0)) = true ∧
  ((!(tB ((Rf.dint (x0.getD 2 D0)) == (Rf.dint (x1.getD 2 D0))))) = true →
  ∀ _ : Nat → Nat, ∃ R' : Out → List (Ref × List A) → Prop, Holds Try.prog 54 [(A.d (D.lit (.bool (tB (decide ((Rf.dint (x0.getD 2 D0)) < (Rf.dint (x1.getD 2 D0))))))))] [] R' ∧
  (∀ v H', R' (.ret v) H' → ∃ x3 : Int, v = (A.d (D.lit (.int .i64 x3))) ∧ H' = [] ∧
  R (.ret (A.d (D.lit (.int .i64 x3)))) []) ∧
  (∀ x3v H', R' (.pan x3v) H' → H' = [] ∧
  R (.pan x3v) [])) ∧
  ((!(tB ((Rf.dint (x0.getD 2 D0)) == (Rf.dint (x1.getD 2 D0))))) = false →
  (tB (decide ((-9223372036854775808 : Int) ≤ (x2 + (1 : Int))))) = true ∧
  (tB (decide ((x2 + (1 : Int)) ≤ (9223372036854775807 : Int)))) = true ∧
  I0_0 (x2 + (1 : Int)) ∧ M0_0 (x2 + (1 : Int)) < M0_0 x2)) ∧
  ((tB (x2 == (1 : Int))) = false →
  ((tB (x2 == (2 : Int))) = true →
  (Rf.isK (.int .u64) (x0.getD 3 D0)) = true ∧
  (Rf.isK (.int .u64) (x1.getD 3 D0)) = true ∧
  ((!(tB ((Rf.dint (x0.getD 3 D0)) == (Rf.dint (x1.getD 3 D0))))) = true →
  ∀ _ : Nat → Nat, ∃ R' : Out → List (Ref × List A) → Prop, Holds Try.prog 54 [(A.d (D.lit (.bool (tB (decide ((Rf.dint (x0.getD 3 D0)) < (Rf.dint (x1.getD 3 D0))))))))] [] R' ∧
  (∀ v H', R' (.ret v) H' → ∃ x3 : Int, v = (A.d (D.lit (.int .i64 x3))) ∧ H' = [] ∧
  R (.ret (A.d (D.lit (.int .i64 x3)))) []) ∧
  (∀ x3v H', R' (.pan x3v) H' → H' = [] ∧
  R (.pan x3v) [])) ∧
  ((!(tB ((Rf.dint (x0.getD 3 D0)) == (Rf.dint (x1.getD 3 D0))))) = false →
  (tB (decide ((-9223372036854775808 : Int) ≤ (x2 + (1 : Int))))) = true ∧
  (tB (decide ((x2 + (1 : Int)) ≤ (9223372036854775807 : Int)))) = true ∧
  I0_0 (x2 + (1 : Int)) ∧ M0_0 (x2 + (1 : Int)) < M0_0 x2)) ∧
  ((tB (x2 == (2 : Int))) = false →
  (tB (x2 == (3 : Int))) = true ∧
  (Rf.isK (.int .u64) (x0.getD 4 D0)) = true ∧
  (Rf.isK (.int .u64) (x1.getD 4 D0)) = true ∧
  ((!(tB ((Rf.dint (x0.getD 4 D0)) == (Rf.dint (x1.getD 4 D0))))) = true →
  ∀ _ : Nat → Nat, ∃ R' : Out → List (Ref × List A) → Prop, Holds Try.prog 54 [(A.d (D.lit (.bool (tB (decide ((Rf.dint (x0.getD 4 D0)) < (Rf.dint (x1.getD 4 D0))))))))] [] R' ∧
  (∀ v H', R' (.ret v) H' → ∃ x3 : Int, v = (A.d (D.lit (.int .i64 x3))) ∧ H' = [] ∧
  R (.ret (A.d (D.lit (.int .i64 x3)))) []) ∧
  (∀ x3v H', R' (.pan x3v) H' → H' = [] ∧
  R (.pan x3v) [])) ∧
  ((!(tB ((Rf.dint (x0.getD 4 D0)) == (Rf.dint (x1.getD 4 D0))))) = false →
  (tB (decide ((-9223372036854775808 : Int) ≤ (x2 + (1 : Int))))) = true ∧
  (tB (decide ((x2 + (1 : Int)) ≤ (9223372036854775807 : Int)))) = true ∧
  I0_0 (x2 + (1 : Int)) ∧ M0_0 (x2 + (1 : Int)) < M0_0 x2))))) ∧
  ((tB (decide (x2 < (4 : Int)))) = false →
  (Rf.isK .slc (x0.getD 5 D0)) = true ∧
  (Rf.isK .slc (x1.getD 5 D0)) = true ∧
  ((!(tB (((Rf.dlst (x0.getD 5 D0)).length : Int) == ((Rf.dlst (x1.getD 5 D0)).length : Int)))) = true →
  ∀ _ : Nat → Nat, ∃ R' : Out → List (Ref × List A) → Prop, Holds Try.prog 54 [(A.d (D.lit (.bool (tB (decide (((Rf.dlst (x0.getD 5 D0)).length : Int) < ((Rf.dlst (x1.getD 5 D0)).length : Int)))))))] [] R' ∧
  (∀ v H', R' (.ret v) H' → ∃ x3 : Int, v = (A.d (D.lit (.int .i64 x3))) ∧ H' = [] ∧
  R (.ret (A.d (D.lit (.int .i64 x3)))) []) ∧
  (∀ x3v H', R' (.pan x3v) H' → H' = [] ∧
  R (.pan x3v) [])) ∧
  ((!(tB (((Rf.dlst (x0.getD 5 D0)).length : Int) == ((Rf.dlst (x1.getD 5 D0)).length : Int)))) = false →
  ∃ (I1_0 : Int → Prop) (M1_0 : Int → Nat), I1_0 (0 : Int) ∧
  (∀ (x3 : Int) , I1_0 x3 →
  ((tB (decide (x3 < ((Rf.dlst (x0.getD 5 D0)).length : Int)))) = true →
  (tB (decide ((0 : Int) ≤ x3))) = true ∧
  (tB (((gAt (Rf.dlst (x0.getD 5 D0)) x3).length : Int) == (6 : Int))) = true ∧
  (tB (decide (x3 < ((Rf.dlst (x1.getD 5 D0)).length : Int)))) = true ∧
  (tB (((gAt (Rf.dlst (x1.getD 5 D0)) x3).length : Int) == (6 : Int))) = true ∧
  ∀ _ : Nat → Nat, ∃ R' : Out → List (Ref × List A) → Prop, Holds Try.prog 40 [(A.agg (gAt (Rf.dlst (x0.getD 5 D0)) x3)), (A.agg (gAt (Rf.dlst (x1.getD 5 D0)) x3))] [] R' ∧
  (∀ v H', R' (.ret v) H' → ∃ x4 : Int, v = (A.d (D.lit (.int .i64 x4))) ∧ H' = [] ∧
  ((!(tB (x4 == (0 : Int)))) = true →
  R (.ret (A.d (D.lit (.int .i64 x4)))) []) ∧
  ((!(tB (x4 == (0 : Int)))) = false →
  (tB (decide ((-9223372036854775808 : Int) ≤ (x3 + (1 : Int))))) = true ∧
  (tB (decide ((x3 + (1 : Int)) ≤ (9223372036854775807 : Int)))) = true ∧
  I1_0 (x3 + (1 : Int)) ∧ M1_0 (x3 + (1 : Int)) < M1_0 x3)) ∧
  (∀ x4v H', R' (.pan x4v) H' → H' = [] ∧
  R (.pan x4v) [])) ∧
  ((tB (decide (x3 < ((Rf.dlst (x0.getD 5 D0)).length : Int)))) = false →
  R (.ret (A.d (D.lit (.int .i64 (0 : Int))))) [])) ∧
  True))) ∧
  True)) :
  Holds Try.prog 40 [(A.agg x0), (A.agg x1)] [] R :=
 walk (c := ⟨Try.prog, 78, true, [0, 1, 2, 3, 4, 5, 6, 7, 12, 20, 31, 48, 61, 76]⟩) (op := {  }) (fn := Try.f40) (args := [.agg (.var 0), .agg (.var 1)]) (K := []) (nv := 2) (depth := 7) (up := upOf []) (ρ := envOf [.r x0, .r x1])
  rfl rfl rfl rfl rfl (by decide) (by decide) (by decide) (by decide) rfl (by simp [bxDen, RRef.den, upOf]) (T_of (by kernel_rfl) h)
end Go.Rx
end
section
open Go Go.Proofs Go.Ab Go.Rf
set_option maxRecDepth 1000000
set_option maxHeartbeats 2000000
set_option linter.unusedVariables false
namespace Go.Rx
theorem w3 {R : Out → List (Ref × List A) → Prop} (x0 : List D) (h : (tB ((x0.length : Int) == (6 : Int))) = true ∧
 ∀ _ : Nat → Nat, ∃ R' : Out → List (Ref × List A) → Prop, Holds Try.prog 13 [(A.agg x0), (A.d (D.lit (.int .i64 (60 : Int))))] [] R' ∧
 (∀ v H', R' (.ret v) H' → ∃ x1 : Int, v = (A.d (D.lit (.int .i64 x1))) ∧ H' = [] ∧
  ((tB (decide ((60 : Int) < x1))) = true →
  ∀ _ : Nat → Nat, ∃ R' : Out → List (Ref × List A) → Prop, Holds Try.prog 14 [] [] R' ∧
  (∀ v H', R' (.ret v) H' → ∃ x2 : Bool, v = (A.d (D.lit (.bool x2))) ∧ H' = [] ∧
  R (.ret (A.d (D.lit (.bool x2)))) []) ∧
  (∀ x2v H', R' (.pan x2v) H' → H' = [] ∧
  R (.pan x2v) [])) ∧
  ((tB (decide ((60 : Int) < x1))) = false →
  ∃ x2 : Int, (∀ _ : Nat → Nat, Holds Try.prog 15 [(A.agg x0)] [] (Reads [] (A.d (D.lit (.int .i64 x2))))) ∧
  ∃ x3 : Int, (∀ _ : Nat → Nat, Holds Try.prog 16 [(A.agg x0)] [] (Reads [] (A.d (D.lit (.int .i64 x3))))) ∧
  ((tB (x2 == x3)) = true →
  ∃ x4 : Int, (∀ _ : Nat → Nat, Holds Try.prog 17 [(A.agg x0)] [] (Reads [] (A.d (D.lit (.int .i64 x4))))) ∧
  ∀ _ : Nat → Nat, ∃ R' : Out → List (Ref × List A) → Prop, Holds Try.prog 18 [(A.agg x0)] [] R' ∧
  (∀ v H', R' (.ret v) H' → ∃ x5 : Int, v = (A.d (D.lit (.int .i64 x5))) ∧ H' = [] ∧
  ((tB (x4 == x5)) = true →
  ∀ _ : Nat → Nat, ∃ R' : Out → List (Ref × List A) → Prop, Holds Try.prog 14 [] [] R' ∧
  (∀ v H', R' (.ret v) H' → ∃ x6 : Bool, v = (A.d (D.lit (.bool x6))) ∧ H' = [] ∧
  R (.ret (A.d (D.lit (.bool x6)))) []) ∧
  (∀ x6v H', R' (.pan x6v) H' → H' = [] ∧
  R (.pan x6v) [])) ∧
  ((tB (x4 == x5)) = false →
  R (.ret (A.d (D.lit (.bool false)))) [])) ∧
  (∀ x5v H', R' (.pan x5v) H' → H' = [] ∧
  R (.pan x5v) [])) ∧
  ((tB (x2 == x3)) = false →
  R (.ret (A.d (D.lit (.bool false)))) []))) ∧
 (∀ x1v H', R' (.pan x1v) H' → H' = [] ∧
  R (.pan x1v) [])) :
  Holds Try.prog 3 [(A.agg x0)] [] R :=
 walk (c := ⟨Try.prog, 22, true, [0, 1, 2, 5]⟩) (op := {  }) (fn := Try.f3) (args := [.agg (.var 0)]) (K := []) (nv := 1) (depth := 5) (up := upOf []) (ρ := envOf [.r x0])
  rfl rfl rfl rfl rfl (by decide) (by decide) (by decide) (by decide) rfl (by simp [bxDen, RRef.den, upOf]) (T_of (by kernel_rfl) h)
theorem w10 {R : Out → List (Ref × List A) → Prop} (x0 : List D) (x1 : Int) (x2 : List UInt8) (h : (tB ((x0.length : Int) == (6 : Int))) = true ∧
 ∀ _ : Nat → Nat, ∃ R' : Out → List (Ref × List A) → Prop, Holds Try.prog 13 [(A.agg x0), (A.d (D.lit (.int .i64 (24 : Int))))] [] R' ∧
 (∀ v H', R' (.ret v) H' → ∃ x3 : Int, v = (A.d (D.lit (.int .i64 x3))) ∧ H' = [] ∧
  (((tB (decide ((24 : Int) < x3))) || (tB (decide ((8 : Int) < (x2.length : Int))))) = true →
  ∀ _ : Nat → Nat, ∃ R' : Out → List (Ref × List A) → Prop, Holds Try.prog 14 [] [] R' ∧
  (∀ v H', R' (.ret v) H' → ∃ x4 : Bool, v = (A.d (D.lit (.bool x4))) ∧ H' = [] ∧
  R (.ret (A.d (D.lit (.bool x4)))) []) ∧
  (∀ x4v H', R' (.pan x4v) H' → H' = [] ∧
  R (.pan x4v) [])) ∧
  (((tB (decide ((24 : Int) < x3))) || (tB (decide ((8 : Int) < (x2.length : Int))))) = false →
  ∀ _ : Nat → Nat, ∃ R' : Out → List (Ref × List A) → Prop, Holds Try.prog 29 [(A.agg x0), (A.d (D.lit (.int .u8 x1)))] [] R' ∧
  (∀ v H', R' (.ret v) H' → ∃ x4 : List D, v = (A.agg x4) ∧ H' = [] ∧
  (tB ((x4.length : Int) == (6 : Int))) = true ∧
  ∀ _ : Nat → Nat, ∃ R' : Out → List (Ref × List A) → Prop, Holds Try.prog 16 [(A.agg x0)] [] R' ∧
  (∀ v H', R' (.ret v) H' → ∃ x5 : Int, v = (A.d (D.lit (.int .i64 x5))) ∧ H' = [] ∧
  ((!(tB (x5 == (0 : Int)))) = true →
  ∀ _ : Nat → Nat, ∃ R' : Out → List (Ref × List A) → Prop, Holds Try.prog 21 [(A.agg x4), (A.agg ((D.lit (.int .i64 (0 : Int))) :: ((D.lit (.int .u64 (0 : Int))) :: ((D.lit (.int .u64 (0 : Int))) :: ((D.lit (.int .u64 (0 : Int))) :: ((D.lit (.int .u64 (0 : Int))) :: ((D.slc ([] : List (List D))) :: ([] : List D))))))))] [] R' ∧
  (∀ v H', R' (.ret v) H' → ∃ x6 : Bool, v = (A.d (D.lit (.bool x6))) ∧ H' = [] ∧
  (x6 = true →
  ∀ _ : Nat → Nat, ∃ R' : Out → List (Ref × List A) → Prop, Holds Try.prog 14 [] [] R' ∧
  (∀ v H', R' (.ret v) H' → ∃ x7 : Bool, v = (A.d (D.lit (.bool x7))) ∧ H' = [] ∧
  R (.ret (A.d (D.lit (.bool x7)))) []) ∧
  (∀ x7v H', R' (.pan x7v) H' → H' = [] ∧
  R (.pan x7v) [])) ∧
  (x6 = false →
  R (.ret (A.d (D.lit (.bool false)))) [])) ∧
  (∀ x6v H', R' (.pan x6v) H' → H' = [] ∧
  R (.pan x6v) [])) ∧
  ((!(tB (x5 == (0 : Int)))) = false →
  ∀ _ : Nat → Nat, ∃ R' : Out → List (Ref × List A) → Prop, Holds Try.prog 23 [(A.agg x0)] [] R' ∧
  (∀ v H', R' (.ret v) H' → ∃ x6 : Int, v = (A.d (D.lit (.int .i64 x6))) ∧ H' = [] ∧
  ((tB (decide (x6 ≤ (8 : Int)))) = true →
  ∀ _ : Nat → Nat, ∃ R' : Out → List (Ref × List A) → Prop, Holds Try.prog 16 [(A.agg x4)] [] R' ∧
  (∀ v H', R' (.ret v) H' → ∃ x7 : Int, v = (A.d (D.lit (.int .i64 x7))) ∧ H' = [] ∧
  ((!(tB (x7 == (0 : Int)))) = true →
  R (.ret (A.d (D.lit (.bool false)))) []) ∧
  ((!(tB (x7 == (0 : Int)))) = false →
  ∃ x8 : Bool, (∀ _ : Nat → Nat, Holds Try.prog 30 [(A.agg x4), (A.d (D.lit (bytesV x2)))] [] (Reads [] (A.d (D.lit (.bool x8))))) ∧
  (tB (decide ((((gBytes (((D.lit (.int .u8 x1)) :: ([] : List D)) :: ([] : List (List D)))).length : Int) + (x2.length : Int)) ≤ (9223372036854775807 : Int)))) = true ∧
  ∀ _ : Nat → Nat, ∃ R' : Out → List (Ref × List A) → Prop, Holds Try.prog 30 [(A.agg x0), (A.d (D.lit (bytesV ((gBytes (((D.lit (.int .u8 x1)) :: ([] : List D)) :: ([] : List (List D)))) ++ x2))))] [] R' ∧
  (∀ v H', R' (.ret v) H' → ∃ x9 : Bool, v = (A.d (D.lit (.bool x9))) ∧ H' = [] ∧
  ((x8 == x9) = true →
  ∀ _ : Nat → Nat, ∃ R' : Out → List (Ref × List A) → Prop, Holds Try.prog 14 [] [] R' ∧
  (∀ v H', R' (.ret v) H' → ∃ x10 : Bool, v = (A.d (D.lit (.bool x10))) ∧ H' = [] ∧
  R (.ret (A.d (D.lit (.bool x10)))) []) ∧
  (∀ x10v H', R' (.pan x10v) H' → H' = [] ∧
  R (.pan x10v) [])) ∧
  ((x8 == x9) = false →
  R (.ret (A.d (D.lit (.bool false)))) [])) ∧
  (∀ x9v H', R' (.pan x9v) H' → H' = [] ∧
  R (.pan x9v) []))) ∧
  (∀ x7v H', R' (.pan x7v) H' → H' = [] ∧
  R (.pan x7v) [])) ∧
  ((tB (decide (x6 ≤ (8 : Int)))) = false →
  ∃ x7 : Bool, (∀ _ : Nat → Nat, Holds Try.prog 30 [(A.agg x4), (A.d (D.lit (bytesV x2)))] [] (Reads [] (A.d (D.lit (.bool x7))))) ∧
  (tB (decide ((((gBytes (((D.lit (.int .u8 x1)) :: ([] : List D)) :: ([] : List (List D)))).length : Int) + (x2.length : Int)) ≤ (9223372036854775807 : Int)))) = true ∧
  ∀ _ : Nat → Nat, ∃ R' : Out → List (Ref × List A) → Prop, Holds Try.prog 30 [(A.agg x0), (A.d (D.lit (bytesV ((gBytes (((D.lit (.int .u8 x1)) :: ([] : List D)) :: ([] : List (List D)))) ++ x2))))] [] R' ∧
  (∀ v H', R' (.ret v) H' → ∃ x8 : Bool, v = (A.d (D.lit (.bool x8))) ∧ H' = [] ∧
  ((x7 == x8) = true →
  ∀ _ : Nat → Nat, ∃ R' : Out → List (Ref × List A) → Prop, Holds Try.prog 14 [] [] R' ∧
  (∀ v H', R' (.ret v) H' → ∃ x9 : Bool, v = (A.d (D.lit (.bool x9))) ∧ H' = [] ∧
  R (.ret (A.d (D.lit (.bool x9)))) []) ∧
  (∀ x9v H', R' (.pan x9v) H' → H' = [] ∧
  R (.pan x9v) [])) ∧
  ((x7 == x8) = false →
  R (.ret (A.d (D.lit (.bool false)))) [])) ∧
  (∀ x8v H', R' (.pan x8v) H' → H' = [] ∧
  R (.pan x8v) []))) ∧
  (∀ x6v H', R' (.pan x6v) H' → H' = [] ∧
  R (.pan x6v) []))) ∧
  (∀ x5v H', R' (.pan x5v) H' → H' = [] ∧
  R (.pan x5v) [])) ∧
  (∀ x4v H', R' (.pan x4v) H' → H' = [] ∧
  R (.pan x4v) []))) ∧
 (∀ x3v H', R' (.pan x3v) H' → H' = [] ∧
  R (.pan x3v) [])) :
  Holds Try.prog 10 [(A.agg x0), (A.d (D.lit (.int .u8 x1))), (A.d (D.lit (bytesV x2)))] [] R :=
 walk (c := ⟨Try.prog, 51, true, [0, 1, 2, 3, 6, 7, 15, 22, 36]⟩) (op := {  }) (fn := Try.f10) (args := [.agg (.var 0), .c (.o1 (.ci .u8) (.var 1)), .c (.o1 .cs (.var 2))]) (K := []) (nv := 3) (depth := 6) (up := upOf []) (ρ := envOf [.r x0, .i x1, .s x2])
  rfl rfl rfl rfl rfl (by decide) (by decide) (by decide) (by decide) rfl (by simp [bxDen, RRef.den, upOf]) (T_of (by kernel_rfl) h)
theorem w14 {R : Out → List (Ref × List A) → Prop} (h : ∀ _ : Nat → Nat, ∃ R' : Out → List (Ref × List A) → Prop, Holds Try.prog 19 [(A.d (D.lit (bytesV ([97, 43, 98, 63] : List UInt8))))] [] R' ∧
 (∀ v H', R' (.ret v) H' → ∃ x0 : List D, ∃ x1 : List D, v = (A.tup [(true, x0), (true, x1)]) ∧ H' = [] ∧
  (tB ((x0.length : Int) == (6 : Int))) = true ∧
  (tB ((x1.length : Int) == (2 : Int))) = true ∧
  ∀ _ : Nat → Nat, ∃ R' : Out → List (Ref × List A) → Prop, Holds Try.prog 19 [(A.d (D.lit (bytesV ([91, 97, 45, 99, 93] : List UInt8))))] [] R' ∧
  (∀ v H', R' (.ret v) H' → ∃ x2 : List D, ∃ x3 : List D, v = (A.tup [(true, x2), (true, x3)]) ∧ H' = [] ∧
  (tB ((x2.length : Int) == (6 : Int))) = true ∧
  (tB ((x3.length : Int) == (2 : Int))) = true ∧
  ∀ _ : Nat → Nat, ∃ R' : Out → List (Ref × List A) → Prop, Holds Try.prog 19 [(A.d (D.lit (bytesV ([97, 124] : List UInt8))))] [] R' ∧
  (∀ v H', R' (.ret v) H' → ∃ x4 : List D, ∃ x5 : List D, v = (A.tup [(true, x4), (true, x5)]) ∧ H' = [] ∧
  (tB ((x4.length : Int) == (6 : Int))) = true ∧
  (tB ((x5.length : Int) == (2 : Int))) = true ∧
  ∀ _ : Nat → Nat, ∃ R' : Out → List (Ref × List A) → Prop, Holds Try.prog 19 [(A.d (D.lit (bytesV ([91, 98, 45, 97, 93] : List UInt8))))] [] R' ∧
  (∀ v H', R' (.ret v) H' → ∃ x6 : List D, ∃ x7 : List D, v = (A.tup [(true, x6), (true, x7)]) ∧ H' = [] ∧
  (tB ((x6.length : Int) == (6 : Int))) = true ∧
  (tB ((x7.length : Int) == (2 : Int))) = true ∧
  (Rf.isK (.int .i64) (x1.getD 0 D0)) = true ∧
  (Rf.isK (.int .i64) (x1.getD 1 D0)) = true ∧
  ((!((tB ((Rf.dint (x1.getD 0 D0)) == (0 : Int))) && (tB ((Rf.dint (x1.getD 1 D0)) == (0 : Int))))) || (Rf.isK (.int .i64) (x3.getD 0 D0))) = true ∧
  ((!((tB ((Rf.dint (x1.getD 0 D0)) == (0 : Int))) && (tB ((Rf.dint (x1.getD 1 D0)) == (0 : Int))))) || (Rf.isK (.int .i64) (x3.getD 1 D0))) = true ∧
  ((!(((tB ((Rf.dint (x1.getD 0 D0)) == (0 : Int))) && (tB ((Rf.dint (x1.getD 1 D0)) == (0 : Int)))) && ((tB ((Rf.dint (x3.getD 0 D0)) == (0 : Int))) && (tB ((Rf.dint (x3.getD 1 D0)) == (0 : Int)))))) || (Rf.isK (.int .i64) (x5.getD 0 D0))) = true ∧
  ((!(((tB ((Rf.dint (x1.getD 0 D0)) == (0 : Int))) && (tB ((Rf.dint (x1.getD 1 D0)) == (0 : Int)))) && ((tB ((Rf.dint (x3.getD 0 D0)) == (0 : Int))) && (tB ((Rf.dint (x3.getD 1 D0)) == (0 : Int)))))) || (Rf.isK (.int .i64) (x5.getD 1 D0))) = true ∧
  ((!((((tB ((Rf.dint (x1.getD 0 D0)) == (0 : Int))) && (tB ((Rf.dint (x1.getD 1 D0)) == (0 : Int)))) && ((tB ((Rf.dint (x3.getD 0 D0)) == (0 : Int))) && (tB ((Rf.dint (x3.getD 1 D0)) == (0 : Int))))) && ((tB ((Rf.dint (x5.getD 0 D0)) == (8 : Int))) && (tB ((Rf.dint (x5.getD 1 D0)) == (2 : Int)))))) || (Rf.isK (.int .i64) (x7.getD 0 D0))) = true ∧
  ((!((((tB ((Rf.dint (x1.getD 0 D0)) == (0 : Int))) && (tB ((Rf.dint (x1.getD 1 D0)) == (0 : Int)))) && ((tB ((Rf.dint (x3.getD 0 D0)) == (0 : Int))) && (tB ((Rf.dint (x3.getD 1 D0)) == (0 : Int))))) && ((tB ((Rf.dint (x5.getD 0 D0)) == (8 : Int))) && (tB ((Rf.dint (x5.getD 1 D0)) == (2 : Int)))))) || (Rf.isK (.int .i64) (x7.getD 1 D0))) = true ∧
  (((((tB ((Rf.dint (x1.getD 0 D0)) == (0 : Int))) && (tB ((Rf.dint (x1.getD 1 D0)) == (0 : Int)))) && ((tB ((Rf.dint (x3.getD 0 D0)) == (0 : Int))) && (tB ((Rf.dint (x3.getD 1 D0)) == (0 : Int))))) && ((tB ((Rf.dint (x5.getD 0 D0)) == (8 : Int))) && (tB ((Rf.dint (x5.getD 1 D0)) == (2 : Int))))) = true →
  ((tB ((Rf.dint (x7.getD 0 D0)) == (8 : Int))) = true →
  ((tB ((Rf.dint (x7.getD 1 D0)) == (3 : Int))) = true →
  ∀ _ : Nat → Nat, ∃ R' : Out → List (Ref × List A) → Prop, Holds Try.prog 24 [(A.agg x0), (A.d (D.lit (bytesV ([97] : List UInt8))))] [] R' ∧
  (∀ v H', R' (.ret v) H' → ∃ x8 : Bool, v = (A.d (D.lit (.bool x8))) ∧ H' = [] ∧
  (x8 = true →
  ∀ _ : Nat → Nat, ∃ R' : Out → List (Ref × List A) → Prop, Holds Try.prog 24 [(A.agg x0), (A.d (D.lit (bytesV ([97, 98] : List UInt8))))] [] R' ∧
  (∀ v H', R' (.ret v) H' → ∃ x9 : Bool, v = (A.d (D.lit (.bool x9))) ∧ H' = [] ∧
  (x9 = true →
  ∀ _ : Nat → Nat, ∃ R' : Out → List (Ref × List A) → Prop, Holds Try.prog 24 [(A.agg x0), (A.d (D.lit (bytesV ([97, 97, 98] : List UInt8))))] [] R' ∧
  (∀ v H', R' (.ret v) H' → ∃ x10 : Bool, v = (A.d (D.lit (.bool x10))) ∧ H' = [] ∧
  (x10 = true →
  ∀ _ : Nat → Nat, ∃ R' : Out → List (Ref × List A) → Prop, Holds Try.prog 24 [(A.agg x0), (A.d (D.lit (bytesV ([98] : List UInt8))))] [] R' ∧
  (∀ v H', R' (.ret v) H' → ∃ x11 : Bool, v = (A.d (D.lit (.bool x11))) ∧ H' = [] ∧
  ((!x11) = true →
  ∀ _ : Nat → Nat, ∃ R' : Out → List (Ref × List A) → Prop, Holds Try.prog 17 [(A.agg x2)] [] R' ∧
  (∀ v H', R' (.ret v) H' → ∃ x12 : Int, v = (A.d (D.lit (.int .i64 x12))) ∧ H' = [] ∧
  R (.ret (A.d (D.lit (.bool (tB (x12 == (1 : Int))))))) []) ∧
  (∀ x12v H', R' (.pan x12v) H' → H' = [] ∧
  R (.pan x12v) [])) ∧
  ((!x11) = false →
  R (.ret (A.d (D.lit (.bool false)))) [])) ∧
  (∀ x11v H', R' (.pan x11v) H' → H' = [] ∧
  R (.pan x11v) [])) ∧
  (x10 = false →
  R (.ret (A.d (D.lit (.bool false)))) [])) ∧
  (∀ x10v H', R' (.pan x10v) H' → H' = [] ∧
  R (.pan x10v) [])) ∧
  (x9 = false →
  R (.ret (A.d (D.lit (.bool false)))) [])) ∧
  (∀ x9v H', R' (.pan x9v) H' → H' = [] ∧
  R (.pan x9v) [])) ∧
  (x8 = false →
  R (.ret (A.d (D.lit (.bool false)))) [])) ∧
  (∀ x8v H', R' (.pan x8v) H' → H' = [] ∧
  R (.pan x8v) [])) ∧
  ((tB ((Rf.dint (x7.getD 1 D0)) == (3 : Int))) = false →
  R (.ret (A.d (D.lit (.bool false)))) [])) ∧
  ((tB ((Rf.dint (x7.getD 0 D0)) == (8 : Int))) = false →
  R (.ret (A.d (D.lit (.bool false)))) [])) ∧
  (((((tB ((Rf.dint (x1.getD 0 D0)) == (0 : Int))) && (tB ((Rf.dint (x1.getD 1 D0)) == (0 : Int)))) && ((tB ((Rf.dint (x3.getD 0 D0)) == (0 : Int))) && (tB ((Rf.dint (x3.getD 1 D0)) == (0 : Int))))) && ((tB ((Rf.dint (x5.getD 0 D0)) == (8 : Int))) && (tB ((Rf.dint (x5.getD 1 D0)) == (2 : Int))))) = false →
  R (.ret (A.d (D.lit (.bool false)))) [])) ∧
  (∀ x6v H', R' (.pan x6v) H' → H' = [] ∧
  R (.pan x6v) [])) ∧
  (∀ x4v H', R' (.pan x4v) H' → H' = [] ∧
  R (.pan x4v) [])) ∧
  (∀ x2v H', R' (.pan x2v) H' → H' = [] ∧
  R (.pan x2v) [])) ∧
 (∀ x0v H', R' (.pan x0v) H' → H' = [] ∧
  R (.pan x0v) [])) :
  Holds Try.prog 14 [] [] R :=
 walk (c := ⟨Try.prog, 67, true, [0, 1, 2, 3, 4, 6, 8, 9]⟩) (op := {  }) (fn := Try.f14) (args := []) (K := []) (nv := 0) (depth := 7) (up := upOf []) (ρ := envOf [])
  rfl rfl rfl rfl rfl (by decide) (by decide) (by decide) (by decide) rfl (by simp [bxDen, RRef.den, upOf]) (T_of (by kernel_rfl) h)
theorem w25 {R : Out → List (Ref × List A) → Prop} (x0 : Int) (x1 : List D) (x2 : List D) (h : (tB ((x1.length : Int) == (6 : Int))) = true ∧
 (tB ((x2.length : Int) == (6 : Int))) = true ∧
 R (.ret (A.agg ((D.lit (.int .i64 x0)) :: ((D.lit (.int .u64 (0 : Int))) :: ((D.lit (.int .u64 (0 : Int))) :: ((D.lit (.int .u64 (0 : Int))) :: ((D.lit (.int .u64 (0 : Int))) :: ((D.slc (x1 :: (x2 :: ([] : List (List D))))) :: ([] : List D))))))))) []) :
  Holds Try.prog 25 [(A.d (D.lit (.int .i64 x0))), (A.agg x1), (A.agg x2)] [] R :=
 walk (c := ⟨Try.prog, 12, true, [0, 1, 2, 4, 5, 6]⟩) (op := {  }) (fn := Try.f25) (args := [.c (.o1 (.ci .i64) (.var 0)), .agg (.var 1), .agg (.var 2)]) (K := []) (nv := 3) (depth := 4) (up := upOf []) (ρ := envOf [.i x0, .r x1, .r x2])
  rfl rfl rfl rfl rfl (by decide) (by decide) (by decide) (by decide) rfl (by simp [bxDen, RRef.den, upOf]) (T_of (by kernel_rfl) h)
end Go.Rx
end
