/- Part 6 of the proof: Wref. -/
import Derived.Test.YtedalcjkolcolaaProg
import Derived.Test.YtedalcjkolcolaaJae
set_option linter.unusedVariables false
set_option linter.unusedSimpArgs false
section
open Go Go.Proofs Go.Ab Go.Rf
set_option maxRecDepth 1000000
set_option maxHeartbeats 2000000
set_option linter.unusedVariables false
namespace Go.Rx
theorem w39 {R : RT} (x0 : List UInt8) (x1 : Int) (x2 : Bool) (q0 : Ref) (h : ∀ _ : Nat -> Nat, ∃ R', Holds Try.prog 51 [A.ptr (.up (Ref.up q0)) 0] [(Ref.up (Ref.up q0), [A.d (D.lit (Zaa x0)), A.d (D.lit (.int .i64 x1)), A.d (D.lit (.bool x2))])] R' /\
 (∀ v H', R' (.ret v) H' -> ∃ x3 : List D, ∃ x4 : List UInt8, ∃ x5 : Int, ∃ x6 : Bool, v = A.agg x3 /\ H' = [(Ref.up (Ref.up q0), [A.d (D.lit (Zaa x4)), A.d (D.lit (.int .i64 x5)), A.d (D.lit (.bool x6))])] /\
 tB ((x3.length : Int) == 6) = true /\
 ∃ (I0_0 : List (List D) -> List UInt8 -> Int -> Bool -> Prop) (M0_0 : List (List D) -> List UInt8 -> Int -> Bool -> Nat), I0_0 [x3] x4 x5 x6 /\
 (∀ (x7 : List (List D)) (x8 : List UInt8) (x9 : Int) (x10 : Bool) , I0_0 x7 x8 x9 x10 ->
 ∀ _ : Nat -> Nat, ∃ R', Holds Try.prog 52 [A.ptr (.up (Ref.up q0)) 0, A.d (D.lit (.int .u8 124))] [(Ref.up (Ref.up q0), [A.d (D.lit (Zaa x8)), A.d (D.lit (.int .i64 x9)), A.d (D.lit (.bool x10))])] R' /\
 (∀ v H', R' (.ret v) H' -> ∃ x11 : Bool, ∃ x12 : List UInt8, ∃ x13 : Int, ∃ x14 : Bool, v = A.d (D.lit (.bool x11)) /\ H' = [(Ref.up (Ref.up q0), [A.d (D.lit (Zaa x12)), A.d (D.lit (.int .i64 x13)), A.d (D.lit (.bool x14))])] /\
 (x11 = true ->
 ∀ _ : Nat -> Nat, ∃ R', Holds Try.prog 51 [A.ptr (.up (Ref.up q0)) 0] [(Ref.up (Ref.up q0), [A.d (D.lit (Zaa x12)), A.d (D.lit (.int .i64 x13)), A.d (D.lit (.bool x14))])] R' /\
 (∀ v H', R' (.ret v) H' -> ∃ x15 : List D, ∃ x16 : List UInt8, ∃ x17 : Int, ∃ x18 : Bool, v = A.agg x15 /\ H' = [(Ref.up (Ref.up q0), [A.d (D.lit (Zaa x16)), A.d (D.lit (.int .i64 x17)), A.d (D.lit (.bool x18))])] /\
 tB ((x15.length : Int) == 6) = true /\
 (Zga 6 [x15]) = true /\
 tB (decide ((((x7.length : Int) + ([x15].length : Int)) * 64) <= 140737488355328)) = true /\
 tB (decide (((x7.length : Int) + ([x15].length : Int)) <= 1099511627776)) = true /\
 I0_0 (x7 ++ [x15]) x16 x17 x18 /\ M0_0 (x7 ++ [x15]) x16 x17 x18 < M0_0 x7 x8 x9 x10) /\
 (∀ x15v H', R' (.pan x15v) H' -> ∃ x16 : List UInt8, ∃ x17 : Int, ∃ x18 : Bool, H' = [(Ref.up (Ref.up q0), [A.d (D.lit (Zaa x16)), A.d (D.lit (.int .i64 x17)), A.d (D.lit (.bool x18))])] /\
 R (.pan x15v) [((Ref.up q0), [A.d (D.lit (Zaa x16)), A.d (D.lit (.int .i64 x17)), A.d (D.lit (.bool x18))])])) /\
 (x11 = false ->
 ∀ _ : Nat -> Nat, ∃ R', Holds Try.prog 53 [A.d (D.lit (.int .i64 4)), A.d (D.slc x7)] [] R' /\
 (∀ v H', R' (.ret v) H' -> ∃ x15 : List D, v = A.agg x15 /\ H' = [] /\
 tB ((x15.length : Int) == 6) = true /\
 R (.ret (A.agg x15)) [((Ref.up q0), [A.d (D.lit (Zaa x12)), A.d (D.lit (.int .i64 x13)), A.d (D.lit (.bool x14))])]) /\
 (∀ x15v H', R' (.pan x15v) H' -> H' = [] /\
 R (.pan x15v) [((Ref.up q0), [A.d (D.lit (Zaa x12)), A.d (D.lit (.int .i64 x13)), A.d (D.lit (.bool x14))])]))) /\
 (∀ x11v H', R' (.pan x11v) H' -> ∃ x12 : List UInt8, ∃ x13 : Int, ∃ x14 : Bool, H' = [(Ref.up (Ref.up q0), [A.d (D.lit (Zaa x12)), A.d (D.lit (.int .i64 x13)), A.d (D.lit (.bool x14))])] /\
 R (.pan x11v) [((Ref.up q0), [A.d (D.lit (Zaa x12)), A.d (D.lit (.int .i64 x13)), A.d (D.lit (.bool x14))])])) /\
 True) /\
 (∀ x3v H', R' (.pan x3v) H' -> ∃ x4 : List UInt8, ∃ x5 : Int, ∃ x6 : Bool, H' = [(Ref.up (Ref.up q0), [A.d (D.lit (Zaa x4)), A.d (D.lit (.int .i64 x5)), A.d (D.lit (.bool x6))])] /\
 R (.pan x3v) [((Ref.up q0), [A.d (D.lit (Zaa x4)), A.d (D.lit (.int .i64 x5)), A.d (D.lit (.bool x6))])])) :
 Holds Try.prog 39 [A.ptr (Ref.up q0) 0] [((Ref.up q0), [A.d (D.lit (Zaa x0)), A.d (D.lit (.int .i64 x1)), A.d (D.lit (.bool x2))])] R :=
 walk (c := ⟨Try.prog, 16, true, [0, 2, 3, 8]⟩) (op := {}) (fn := Try.f39) (args := [.ptr (.up 0) 0]) (K := [(.up 0, [.c (.o1 .cs (.var 0)), .c (.o1 (.ci .i64) (.var 1)), .c (.o1 .cb (.o1 .tb (.var 2)))])]) (nv := 3) (depth := 5) (up := upOf [q0]) (ρ := Zat [.s x0, .i x1, .b x2])
  rfl rfl rfl rfl rfl (by decide) (by decide) (by decide) (by decide) rfl (by simp [Zad, RRef.den, upOf]) (T_of (by kernel_rfl) h)
theorem w51 {R : RT} (x0 : List UInt8) (x1 : Int) (x2 : Bool) (q0 : Ref) (h : ∀ _ : Nat -> Nat, ∃ R', Holds Try.prog 66 [A.ptr (.up (Ref.up q0)) 0] [(Ref.up (Ref.up q0), [A.d (D.lit (Zaa x0)), A.d (D.lit (.int .i64 x1)), A.d (D.lit (.bool x2))])] R' /\
 (∀ v H', R' (.ret v) H' -> ∃ x3 : List D, ∃ x4 : List UInt8, ∃ x5 : Int, ∃ x6 : Bool, v = A.agg x3 /\ H' = [(Ref.up (Ref.up q0), [A.d (D.lit (Zaa x4)), A.d (D.lit (.int .i64 x5)), A.d (D.lit (.bool x6))])] /\
 tB ((x3.length : Int) == 6) = true /\
 ∃ (I0_0 : List (List D) -> List UInt8 -> Int -> Bool -> Prop) (M0_0 : List (List D) -> List UInt8 -> Int -> Bool -> Nat), I0_0 [x3] x4 x5 x6 /\
 (∀ (x7 : List (List D)) (x8 : List UInt8) (x9 : Int) (x10 : Bool) , I0_0 x7 x8 x9 x10 ->
 ∃ x11 : Bool, (∀ _ : Nat -> Nat, Holds Try.prog 67 [A.ptr (.up (Ref.up q0)) 0] [(Ref.up (Ref.up q0), [A.d (D.lit (Zaa x8)), A.d (D.lit (.int .i64 x9)), A.d (D.lit (.bool x10))])] (Zce [(Ref.up (Ref.up q0), [A.d (D.lit (Zaa x8)), A.d (D.lit (.int .i64 x9)), A.d (D.lit (.bool x10))])] (A.d (D.lit (.bool x11))))) /\
 ((!x11) || (tB (decide (0 <= x9)))) = true /\
 ((!x11) || (tB (decide (x9 < (x8.length : Int))))) = true /\
 ((!(x11 && (!(tB ((Zak x8 x9) == 124))))) || (tB (decide (0 <= x9)))) = true /\
 ((!(x11 && (!(tB ((Zak x8 x9) == 124))))) || (tB (decide (x9 < (x8.length : Int))))) = true /\
 (((x11 && (!(tB ((Zak x8 x9) == 124)))) && (!(tB ((Zak x8 x9) == 41)))) = true ->
 ∀ _ : Nat -> Nat, ∃ R', Holds Try.prog 66 [A.ptr (.up (Ref.up q0)) 0] [(Ref.up (Ref.up q0), [A.d (D.lit (Zaa x8)), A.d (D.lit (.int .i64 x9)), A.d (D.lit (.bool x10))])] R' /\
 (∀ v H', R' (.ret v) H' -> ∃ x12 : List D, ∃ x13 : List UInt8, ∃ x14 : Int, ∃ x15 : Bool, v = A.agg x12 /\ H' = [(Ref.up (Ref.up q0), [A.d (D.lit (Zaa x13)), A.d (D.lit (.int .i64 x14)), A.d (D.lit (.bool x15))])] /\
 tB ((x12.length : Int) == 6) = true /\
 (Zga 6 [x12]) = true /\
 tB (decide ((((x7.length : Int) + ([x12].length : Int)) * 64) <= 140737488355328)) = true /\
 tB (decide (((x7.length : Int) + ([x12].length : Int)) <= 1099511627776)) = true /\
 I0_0 (x7 ++ [x12]) x13 x14 x15 /\ M0_0 (x7 ++ [x12]) x13 x14 x15 < M0_0 x7 x8 x9 x10) /\
 (∀ x12v H', R' (.pan x12v) H' -> ∃ x13 : List UInt8, ∃ x14 : Int, ∃ x15 : Bool, H' = [(Ref.up (Ref.up q0), [A.d (D.lit (Zaa x13)), A.d (D.lit (.int .i64 x14)), A.d (D.lit (.bool x15))])] /\
 R (.pan x12v) [((Ref.up q0), [A.d (D.lit (Zaa x13)), A.d (D.lit (.int .i64 x14)), A.d (D.lit (.bool x15))])])) /\
 (((x11 && (!(tB ((Zak x8 x9) == 124)))) && (!(tB ((Zak x8 x9) == 41)))) = false ->
 ∀ _ : Nat -> Nat, ∃ R', Holds Try.prog 53 [A.d (D.lit (.int .i64 3)), A.d (D.slc x7)] [] R' /\
 (∀ v H', R' (.ret v) H' -> ∃ x12 : List D, v = A.agg x12 /\ H' = [] /\
 tB ((x12.length : Int) == 6) = true /\
 R (.ret (A.agg x12)) [((Ref.up q0), [A.d (D.lit (Zaa x8)), A.d (D.lit (.int .i64 x9)), A.d (D.lit (.bool x10))])]) /\
 (∀ x12v H', R' (.pan x12v) H' -> H' = [] /\
 R (.pan x12v) [((Ref.up q0), [A.d (D.lit (Zaa x8)), A.d (D.lit (.int .i64 x9)), A.d (D.lit (.bool x10))])]))) /\
 True) /\
 (∀ x3v H', R' (.pan x3v) H' -> ∃ x4 : List UInt8, ∃ x5 : Int, ∃ x6 : Bool, H' = [(Ref.up (Ref.up q0), [A.d (D.lit (Zaa x4)), A.d (D.lit (.int .i64 x5)), A.d (D.lit (.bool x6))])] /\
 R (.pan x3v) [((Ref.up q0), [A.d (D.lit (Zaa x4)), A.d (D.lit (.int .i64 x5)), A.d (D.lit (.bool x6))])])) :
 Holds Try.prog 51 [A.ptr (Ref.up q0) 0] [((Ref.up q0), [A.d (D.lit (Zaa x0)), A.d (D.lit (.int .i64 x1)), A.d (D.lit (.bool x2))])] R :=
 walk (c := ⟨Try.prog, 40, true, [0, 2, 3, 32]⟩) (op := {}) (fn := Try.f51) (args := [.ptr (.up 0) 0]) (K := [(.up 0, [.c (.o1 .cs (.var 0)), .c (.o1 (.ci .i64) (.var 1)), .c (.o1 .cb (.o1 .tb (.var 2)))])]) (nv := 3) (depth := 6) (up := upOf [q0]) (ρ := Zat [.s x0, .i x1, .b x2])
  rfl rfl rfl rfl rfl (by decide) (by decide) (by decide) (by decide) rfl (by simp [Zad, RRef.den, upOf]) (T_of (by kernel_rfl) h)
theorem w52 {R : RT} (x0 : List UInt8) (x1 : Int) (x2 : Bool) (x3 : Int) (q0 : Ref) (h : ((x2 || (tB (decide ((x0.length : Int) <= x1)))) || (tB (decide (0 <= x1)))) = true /\
 ((x2 || (tB (decide ((x0.length : Int) <= x1)))) || (tB (decide (x1 < (x0.length : Int))))) = true /\
 (((x2 || (tB (decide ((x0.length : Int) <= x1)))) || (!(tB ((Zak x0 x1) == x3)))) = true ->
 R (.ret (A.d (D.lit (.bool false)))) [((Ref.up q0), [A.d (D.lit (Zaa x0)), A.d (D.lit (.int .i64 x1)), A.d (D.lit (.bool x2))])]) /\
 (((x2 || (tB (decide ((x0.length : Int) <= x1)))) || (!(tB ((Zak x0 x1) == x3)))) = false ->
 tB (decide ((-9223372036854775808) <= (x1 + 1))) = true /\
 tB (decide ((x1 + 1) <= 9223372036854775807)) = true /\
 R (.ret (A.d (D.lit (.bool true)))) [((Ref.up q0), [A.d (D.lit (Zaa x0)), A.d (D.lit (.int .i64 (x1 + 1))), A.d (D.lit (.bool x2))])])) :
 Holds Try.prog 52 [A.ptr (Ref.up q0) 0, A.d (D.lit (.int .u8 x3))] [((Ref.up q0), [A.d (D.lit (Zaa x0)), A.d (D.lit (.int .i64 x1)), A.d (D.lit (.bool x2))])] R :=
 walk (c := ⟨Try.prog, 42, true, [0, 1, 4, 33]⟩) (op := {}) (fn := Try.f52) (args := [.ptr (.up 0) 0, .c (.o1 (.ci .u8) (.var 3))]) (K := [(.up 0, [.c (.o1 .cs (.var 0)), .c (.o1 (.ci .i64) (.var 1)), .c (.o1 .cb (.o1 .tb (.var 2)))])]) (nv := 4) (depth := 6) (up := upOf [q0]) (ρ := Zat [.s x0, .i x1, .b x2, .i x3])
  rfl rfl rfl rfl rfl (by decide) (by decide) (by decide) (by decide) rfl (by simp [Zad, RRef.den, upOf]) (T_of (by kernel_rfl) h)
theorem w53 {R : RT} (x0 : Int) (x1 : List (List D)) (h : (tB ((x1.length : Int) == 1) = true ->
 tB (decide (0 < (x1.length : Int))) = true /\
 tB (((gAt x1 0).length : Int) == 6) = true /\
 R (.ret (A.agg (gAt x1 0))) []) /\
 (tB ((x1.length : Int) == 1) = false ->
 R (.ret (A.agg [D.lit (.int .i64 x0), D.lit (.int .u64 0), D.lit (.int .u64 0), D.lit (.int .u64 0), D.lit (.int .u64 0), D.slc x1])) [])) :
 Holds Try.prog 53 [A.d (D.lit (.int .i64 x0)), A.d (D.slc x1)] [] R :=
 walk (c := ⟨Try.prog, 14, true, [0, 1, 4, 7]⟩) (op := {}) (fn := Try.f53) (args := [.c (.o1 (.ci .i64) (.var 0)), .c (.o1 .cl (.var 1))]) (K := []) (nv := 2) (depth := 4) (up := upOf []) (ρ := Zat [.i x0, .l x1])
  rfl rfl rfl rfl rfl (by decide) (by decide) (by decide) (by decide) rfl (by simp [Zad, RRef.den, upOf]) (T_of (by kernel_rfl) h)
theorem w66 {R : RT} (x0 : List UInt8) (x1 : Int) (x2 : Bool) (q0 : Ref) (h : ∀ _ : Nat -> Nat, ∃ R', Holds Try.prog 74 [A.ptr (.up (Ref.up q0)) 0] [(Ref.up (Ref.up q0), [A.d (D.lit (Zaa x0)), A.d (D.lit (.int .i64 x1)), A.d (D.lit (.bool x2))])] R' /\
 (∀ v H', R' (.ret v) H' -> ∃ x3 : List D, ∃ x4 : List UInt8, ∃ x5 : Int, ∃ x6 : Bool, v = A.agg x3 /\ H' = [(Ref.up (Ref.up q0), [A.d (D.lit (Zaa x4)), A.d (D.lit (.int .i64 x5)), A.d (D.lit (.bool x6))])] /\
 tB ((x3.length : Int) == 6) = true /\
 ∃ (I0_0 : D -> D -> D -> D -> D -> D -> List UInt8 -> Int -> Bool -> Prop) (M0_0 : D -> D -> D -> D -> D -> D -> List UInt8 -> Int -> Bool -> Nat), I0_0 (x3.getD 0 D0) (x3.getD 1 D0) (x3.getD 2 D0) (x3.getD 3 D0) (x3.getD 4 D0) (x3.getD 5 D0) x4 x5 x6 /\
 (∀ (x7 : D) (x8 : D) (x9 : D) (x10 : D) (x11 : D) (x12 : D) (x13 : List UInt8) (x14 : Int) (x15 : Bool) , I0_0 x7 x8 x9 x10 x11 x12 x13 x14 x15 ->
 ((!x15) = true ->
 ∀ _ : Nat -> Nat, ∃ R', Holds Try.prog 52 [A.ptr (.up (Ref.up q0)) 0, A.d (D.lit (.int .u8 42))] [(Ref.up (Ref.up q0), [A.d (D.lit (Zaa x13)), A.d (D.lit (.int .i64 x14)), A.d (D.lit (.bool x15))])] R' /\
 (∀ v H', R' (.ret v) H' -> ∃ x16 : Bool, ∃ x17 : List UInt8, ∃ x18 : Int, ∃ x19 : Bool, v = A.d (D.lit (.bool x16)) /\ H' = [(Ref.up (Ref.up q0), [A.d (D.lit (Zaa x17)), A.d (D.lit (.int .i64 x18)), A.d (D.lit (.bool x19))])] /\
 (x16 = true ->
 I0_0 (D.lit (.int .i64 5)) (D.lit (.int .u64 0)) (D.lit (.int .u64 0)) (D.lit (.int .u64 0)) (D.lit (.int .u64 0)) (D.slc [[x7, x8, x9, x10, x11, x12]]) x17 x18 x19 /\ M0_0 (D.lit (.int .i64 5)) (D.lit (.int .u64 0)) (D.lit (.int .u64 0)) (D.lit (.int .u64 0)) (D.lit (.int .u64 0)) (D.slc [[x7, x8, x9, x10, x11, x12]]) x17 x18 x19 < M0_0 x7 x8 x9 x10 x11 x12 x13 x14 x15) /\
 (x16 = false ->
 ∀ _ : Nat -> Nat, ∃ R', Holds Try.prog 52 [A.ptr (.up (Ref.up q0)) 0, A.d (D.lit (.int .u8 43))] [(Ref.up (Ref.up q0), [A.d (D.lit (Zaa x17)), A.d (D.lit (.int .i64 x18)), A.d (D.lit (.bool x19))])] R' /\
 (∀ v H', R' (.ret v) H' -> ∃ x20 : Bool, ∃ x21 : List UInt8, ∃ x22 : Int, ∃ x23 : Bool, v = A.d (D.lit (.bool x20)) /\ H' = [(Ref.up (Ref.up q0), [A.d (D.lit (Zaa x21)), A.d (D.lit (.int .i64 x22)), A.d (D.lit (.bool x23))])] /\
 (x20 = true ->
 I0_0 (D.lit (.int .i64 3)) (D.lit (.int .u64 0)) (D.lit (.int .u64 0)) (D.lit (.int .u64 0)) (D.lit (.int .u64 0)) (D.slc [[x7, x8, x9, x10, x11, x12], [D.lit (.int .i64 5), D.lit (.int .u64 0), D.lit (.int .u64 0), D.lit (.int .u64 0), D.lit (.int .u64 0), D.slc [[x7, x8, x9, x10, x11, x12]]]]) x21 x22 x23 /\ M0_0 (D.lit (.int .i64 3)) (D.lit (.int .u64 0)) (D.lit (.int .u64 0)) (D.lit (.int .u64 0)) (D.lit (.int .u64 0)) (D.slc [[x7, x8, x9, x10, x11, x12], [D.lit (.int .i64 5), D.lit (.int .u64 0), D.lit (.int .u64 0), D.lit (.int .u64 0), D.lit (.int .u64 0), D.slc [[x7, x8, x9, x10, x11, x12]]]]) x21 x22 x23 < M0_0 x7 x8 x9 x10 x11 x12 x13 x14 x15) /\
 (x20 = false ->
 ∀ _ : Nat -> Nat, ∃ R', Holds Try.prog 52 [A.ptr (.up (Ref.up q0)) 0, A.d (D.lit (.int .u8 63))] [(Ref.up (Ref.up q0), [A.d (D.lit (Zaa x21)), A.d (D.lit (.int .i64 x22)), A.d (D.lit (.bool x23))])] R' /\
 (∀ v H', R' (.ret v) H' -> ∃ x24 : Bool, ∃ x25 : List UInt8, ∃ x26 : Int, ∃ x27 : Bool, v = A.d (D.lit (.bool x24)) /\ H' = [(Ref.up (Ref.up q0), [A.d (D.lit (Zaa x25)), A.d (D.lit (.int .i64 x26)), A.d (D.lit (.bool x27))])] /\
 (x24 = true ->
 I0_0 (D.lit (.int .i64 4)) (D.lit (.int .u64 0)) (D.lit (.int .u64 0)) (D.lit (.int .u64 0)) (D.lit (.int .u64 0)) (D.slc [[x7, x8, x9, x10, x11, x12], [D.lit (.int .i64 1), D.lit (.int .u64 0), D.lit (.int .u64 0), D.lit (.int .u64 0), D.lit (.int .u64 0), (D.slc ([] : List (List D)))]]) x25 x26 x27 /\ M0_0 (D.lit (.int .i64 4)) (D.lit (.int .u64 0)) (D.lit (.int .u64 0)) (D.lit (.int .u64 0)) (D.lit (.int .u64 0)) (D.slc [[x7, x8, x9, x10, x11, x12], [D.lit (.int .i64 1), D.lit (.int .u64 0), D.lit (.int .u64 0), D.lit (.int .u64 0), D.lit (.int .u64 0), (D.slc ([] : List (List D)))]]) x25 x26 x27 < M0_0 x7 x8 x9 x10 x11 x12 x13 x14 x15) /\
 (x24 = false ->
 R (.ret (A.agg [x7, x8, x9, x10, x11, x12])) [((Ref.up q0), [A.d (D.lit (Zaa x25)), A.d (D.lit (.int .i64 x26)), A.d (D.lit (.bool x27))])])) /\
 (∀ x24v H', R' (.pan x24v) H' -> ∃ x25 : List UInt8, ∃ x26 : Int, ∃ x27 : Bool, H' = [(Ref.up (Ref.up q0), [A.d (D.lit (Zaa x25)), A.d (D.lit (.int .i64 x26)), A.d (D.lit (.bool x27))])] /\
 R (.pan x24v) [((Ref.up q0), [A.d (D.lit (Zaa x25)), A.d (D.lit (.int .i64 x26)), A.d (D.lit (.bool x27))])]))) /\
 (∀ x20v H', R' (.pan x20v) H' -> ∃ x21 : List UInt8, ∃ x22 : Int, ∃ x23 : Bool, H' = [(Ref.up (Ref.up q0), [A.d (D.lit (Zaa x21)), A.d (D.lit (.int .i64 x22)), A.d (D.lit (.bool x23))])] /\
 R (.pan x20v) [((Ref.up q0), [A.d (D.lit (Zaa x21)), A.d (D.lit (.int .i64 x22)), A.d (D.lit (.bool x23))])]))) /\
 (∀ x16v H', R' (.pan x16v) H' -> ∃ x17 : List UInt8, ∃ x18 : Int, ∃ x19 : Bool, H' = [(Ref.up (Ref.up q0), [A.d (D.lit (Zaa x17)), A.d (D.lit (.int .i64 x18)), A.d (D.lit (.bool x19))])] /\
 R (.pan x16v) [((Ref.up q0), [A.d (D.lit (Zaa x17)), A.d (D.lit (.int .i64 x18)), A.d (D.lit (.bool x19))])])) /\
 ((!x15) = false ->
 R (.ret (A.agg [x7, x8, x9, x10, x11, x12])) [((Ref.up q0), [A.d (D.lit (Zaa x13)), A.d (D.lit (.int .i64 x14)), A.d (D.lit (.bool x15))])])) /\
 True) /\
 (∀ x3v H', R' (.pan x3v) H' -> ∃ x4 : List UInt8, ∃ x5 : Int, ∃ x6 : Bool, H' = [(Ref.up (Ref.up q0), [A.d (D.lit (Zaa x4)), A.d (D.lit (.int .i64 x5)), A.d (D.lit (.bool x6))])] /\
 R (.pan x3v) [((Ref.up q0), [A.d (D.lit (Zaa x4)), A.d (D.lit (.int .i64 x5)), A.d (D.lit (.bool x6))])])) :
 Holds Try.prog 66 [A.ptr (Ref.up q0) 0] [((Ref.up q0), [A.d (D.lit (Zaa x0)), A.d (D.lit (.int .i64 x1)), A.d (D.lit (.bool x2))])] R :=
 walk (c := ⟨Try.prog, 35, true, [0, 2, 3, 10, 12, 18, 27]⟩) (op := {}) (fn := Try.f66) (args := [.ptr (.up 0) 0]) (K := [(.up 0, [.c (.o1 .cs (.var 0)), .c (.o1 (.ci .i64) (.var 1)), .c (.o1 .cb (.o1 .tb (.var 2)))])]) (nv := 3) (depth := 6) (up := upOf [q0]) (ρ := Zat [.s x0, .i x1, .b x2])
  rfl rfl rfl rfl rfl (by decide) (by decide) (by decide) (by decide) rfl (by simp [Zad, RRef.den, upOf]) (T_of (by kernel_rfl) h)
theorem w67 {R : RT} (x0 : List UInt8) (x1 : Int) (x2 : Bool) (q0 : Ref) (h : R (.ret (A.d (D.lit (.bool ((!x2) && (tB (decide (x1 < (x0.length : Int))))))))) [((Ref.up q0), [A.d (D.lit (Zaa x0)), A.d (D.lit (.int .i64 x1)), A.d (D.lit (.bool x2))])]) :
 Holds Try.prog 67 [A.ptr (Ref.up q0) 0] [((Ref.up q0), [A.d (D.lit (Zaa x0)), A.d (D.lit (.int .i64 x1)), A.d (D.lit (.bool x2))])] R :=
 walk (c := ⟨Try.prog, 20, true, [0, 2]⟩) (op := {}) (fn := Try.f67) (args := [.ptr (.up 0) 0]) (K := [(.up 0, [.c (.o1 .cs (.var 0)), .c (.o1 (.ci .i64) (.var 1)), .c (.o1 .cb (.o1 .tb (.var 2)))])]) (nv := 3) (depth := 5) (up := upOf [q0]) (ρ := Zat [.s x0, .i x1, .b x2])
  rfl rfl rfl rfl rfl (by decide) (by decide) (by decide) (by decide) rfl (by simp [Zad, RRef.den, upOf]) (T_of (by kernel_rfl) h)
theorem w74 {R : RT} (x0 : List UInt8) (x1 : Int) (x2 : Bool) (q0 : Ref) (h : ∀ _ : Nat -> Nat, ∃ R', Holds Try.prog 52 [A.ptr (.up (Ref.up q0)) 0, A.d (D.lit (.int .u8 92))] [(Ref.up (Ref.up q0), [A.d (D.lit (Zaa x0)), A.d (D.lit (.int .i64 x1)), A.d (D.lit (.bool x2))])] R' /\
 (∀ v H', R' (.ret v) H' -> ∃ x3 : Bool, ∃ x4 : List UInt8, ∃ x5 : Int, ∃ x6 : Bool, v = A.d (D.lit (.bool x3)) /\ H' = [(Ref.up (Ref.up q0), [A.d (D.lit (Zaa x4)), A.d (D.lit (.int .i64 x5)), A.d (D.lit (.bool x6))])] /\
 (x3 = true ->
 ∀ _ : Nat -> Nat, ∃ R', Holds Try.prog 84 [A.ptr (.up (Ref.up q0)) 0] [(Ref.up (Ref.up q0), [A.d (D.lit (Zaa x4)), A.d (D.lit (.int .i64 x5)), A.d (D.lit (.bool x6))])] R' /\
 (∀ v H', R' (.ret v) H' -> ∃ x7 : List D, ∃ x8 : List UInt8, ∃ x9 : Int, ∃ x10 : Bool, v = A.agg x7 /\ H' = [(Ref.up (Ref.up q0), [A.d (D.lit (Zaa x8)), A.d (D.lit (.int .i64 x9)), A.d (D.lit (.bool x10))])] /\
 tB ((x7.length : Int) == 6) = true /\
 R (.ret (A.agg x7)) [((Ref.up q0), [A.d (D.lit (Zaa x8)), A.d (D.lit (.int .i64 x9)), A.d (D.lit (.bool x10))])]) /\
 (∀ x7v H', R' (.pan x7v) H' -> ∃ x8 : List UInt8, ∃ x9 : Int, ∃ x10 : Bool, H' = [(Ref.up (Ref.up q0), [A.d (D.lit (Zaa x8)), A.d (D.lit (.int .i64 x9)), A.d (D.lit (.bool x10))])] /\
 R (.pan x7v) [((Ref.up q0), [A.d (D.lit (Zaa x8)), A.d (D.lit (.int .i64 x9)), A.d (D.lit (.bool x10))])])) /\
 (x3 = false ->
 ∀ _ : Nat -> Nat, ∃ R', Holds Try.prog 52 [A.ptr (.up (Ref.up q0)) 0, A.d (D.lit (.int .u8 46))] [(Ref.up (Ref.up q0), [A.d (D.lit (Zaa x4)), A.d (D.lit (.int .i64 x5)), A.d (D.lit (.bool x6))])] R' /\
 (∀ v H', R' (.ret v) H' -> ∃ x7 : Bool, ∃ x8 : List UInt8, ∃ x9 : Int, ∃ x10 : Bool, v = A.d (D.lit (.bool x7)) /\ H' = [(Ref.up (Ref.up q0), [A.d (D.lit (Zaa x8)), A.d (D.lit (.int .i64 x9)), A.d (D.lit (.bool x10))])] /\
 (x7 = true ->
 ∀ _ : Nat -> Nat, ∃ R', Holds Try.prog 85 [A.d (D.lit (.int .i64 0)), A.d (D.lit (.int .i64 255))] [] R' /\
 (∀ v H', R' (.ret v) H' -> ∃ x11 : List D, v = A.agg x11 /\ H' = [] /\
 tB ((x11.length : Int) == 4) = true /\
 R (.ret (A.agg [D.lit (.int .i64 2), x11.getD 0 D0, x11.getD 1 D0, x11.getD 2 D0, x11.getD 3 D0, (D.slc ([] : List (List D)))])) [((Ref.up q0), [A.d (D.lit (Zaa x8)), A.d (D.lit (.int .i64 x9)), A.d (D.lit (.bool x10))])]) /\
 (∀ x11v H', R' (.pan x11v) H' -> H' = [] /\
 R (.pan x11v) [((Ref.up q0), [A.d (D.lit (Zaa x8)), A.d (D.lit (.int .i64 x9)), A.d (D.lit (.bool x10))])])) /\
 (x7 = false ->
 ∀ _ : Nat -> Nat, ∃ R', Holds Try.prog 52 [A.ptr (.up (Ref.up q0)) 0, A.d (D.lit (.int .u8 91))] [(Ref.up (Ref.up q0), [A.d (D.lit (Zaa x8)), A.d (D.lit (.int .i64 x9)), A.d (D.lit (.bool x10))])] R' /\
 (∀ v H', R' (.ret v) H' -> ∃ x11 : Bool, ∃ x12 : List UInt8, ∃ x13 : Int, ∃ x14 : Bool, v = A.d (D.lit (.bool x11)) /\ H' = [(Ref.up (Ref.up q0), [A.d (D.lit (Zaa x12)), A.d (D.lit (.int .i64 x13)), A.d (D.lit (.bool x14))])] /\
 (x11 = true ->
 ∀ _ : Nat -> Nat, ∃ R', Holds Try.prog 86 [A.ptr (.up (Ref.up q0)) 0] [(Ref.up (Ref.up q0), [A.d (D.lit (Zaa x12)), A.d (D.lit (.int .i64 x13)), A.d (D.lit (.bool x14))])] R' /\
 (∀ v H', R' (.ret v) H' -> ∃ x15 : List D, ∃ x16 : List UInt8, ∃ x17 : Int, ∃ x18 : Bool, v = A.agg x15 /\ H' = [(Ref.up (Ref.up q0), [A.d (D.lit (Zaa x16)), A.d (D.lit (.int .i64 x17)), A.d (D.lit (.bool x18))])] /\
 tB ((x15.length : Int) == 6) = true /\
 R (.ret (A.agg x15)) [((Ref.up q0), [A.d (D.lit (Zaa x16)), A.d (D.lit (.int .i64 x17)), A.d (D.lit (.bool x18))])]) /\
 (∀ x15v H', R' (.pan x15v) H' -> ∃ x16 : List UInt8, ∃ x17 : Int, ∃ x18 : Bool, H' = [(Ref.up (Ref.up q0), [A.d (D.lit (Zaa x16)), A.d (D.lit (.int .i64 x17)), A.d (D.lit (.bool x18))])] /\
 R (.pan x15v) [((Ref.up q0), [A.d (D.lit (Zaa x16)), A.d (D.lit (.int .i64 x17)), A.d (D.lit (.bool x18))])])) /\
 (x11 = false ->
 ∀ _ : Nat -> Nat, ∃ R', Holds Try.prog 52 [A.ptr (.up (Ref.up q0)) 0, A.d (D.lit (.int .u8 40))] [(Ref.up (Ref.up q0), [A.d (D.lit (Zaa x12)), A.d (D.lit (.int .i64 x13)), A.d (D.lit (.bool x14))])] R' /\
 (∀ v H', R' (.ret v) H' -> ∃ x15 : Bool, ∃ x16 : List UInt8, ∃ x17 : Int, ∃ x18 : Bool, v = A.d (D.lit (.bool x15)) /\ H' = [(Ref.up (Ref.up q0), [A.d (D.lit (Zaa x16)), A.d (D.lit (.int .i64 x17)), A.d (D.lit (.bool x18))])] /\
 (x15 = true ->
 ∀ _ : Nat -> Nat, ∃ R', Holds Try.prog 52 [A.ptr (.up (Ref.up q0)) 0, A.d (D.lit (.int .u8 41))] [(Ref.up (Ref.up q0), [A.d (D.lit (Zaa x16)), A.d (D.lit (.int .i64 x17)), A.d (D.lit (.bool x18))])] R' /\
 (∀ v H', R' (.ret v) H' -> ∃ x19 : Bool, ∃ x20 : List UInt8, ∃ x21 : Int, ∃ x22 : Bool, v = A.d (D.lit (.bool x19)) /\ H' = [(Ref.up (Ref.up q0), [A.d (D.lit (Zaa x20)), A.d (D.lit (.int .i64 x21)), A.d (D.lit (.bool x22))])] /\
 (x19 = true ->
 R (.ret (A.agg [D.lit (.int .i64 1), D.lit (.int .u64 0), D.lit (.int .u64 0), D.lit (.int .u64 0), D.lit (.int .u64 0), (D.slc ([] : List (List D)))])) [((Ref.up q0), [A.d (D.lit (Zaa x20)), A.d (D.lit (.int .i64 x21)), A.d (D.lit (.bool x22))])]) /\
 (x19 = false ->
 ∀ _ : Nat -> Nat, ∃ R', Holds Try.prog 39 [A.ptr (.up (Ref.up q0)) 0] [(Ref.up (Ref.up q0), [A.d (D.lit (Zaa x20)), A.d (D.lit (.int .i64 x21)), A.d (D.lit (.bool x22))])] R' /\
 (∀ v H', R' (.ret v) H' -> ∃ x23 : List D, ∃ x24 : List UInt8, ∃ x25 : Int, ∃ x26 : Bool, v = A.agg x23 /\ H' = [(Ref.up (Ref.up q0), [A.d (D.lit (Zaa x24)), A.d (D.lit (.int .i64 x25)), A.d (D.lit (.bool x26))])] /\
 tB ((x23.length : Int) == 6) = true /\
 ∀ _ : Nat -> Nat, ∃ R', Holds Try.prog 52 [A.ptr (.up (Ref.up q0)) 0, A.d (D.lit (.int .u8 41))] [(Ref.up (Ref.up q0), [A.d (D.lit (Zaa x24)), A.d (D.lit (.int .i64 x25)), A.d (D.lit (.bool x26))])] R' /\
 (∀ v H', R' (.ret v) H' -> ∃ x27 : Bool, ∃ x28 : List UInt8, ∃ x29 : Int, ∃ x30 : Bool, v = A.d (D.lit (.bool x27)) /\ H' = [(Ref.up (Ref.up q0), [A.d (D.lit (Zaa x28)), A.d (D.lit (.int .i64 x29)), A.d (D.lit (.bool x30))])] /\
 ((!x27) = true ->
 R (.ret (A.agg x23)) [((Ref.up q0), [A.d (D.lit (Zaa x28)), A.d (D.lit (.int .i64 x29)), A.d (D.lit (.bool true))])]) /\
 ((!x27) = false ->
 R (.ret (A.agg x23)) [((Ref.up q0), [A.d (D.lit (Zaa x28)), A.d (D.lit (.int .i64 x29)), A.d (D.lit (.bool x30))])])) /\
 (∀ x27v H', R' (.pan x27v) H' -> ∃ x28 : List UInt8, ∃ x29 : Int, ∃ x30 : Bool, H' = [(Ref.up (Ref.up q0), [A.d (D.lit (Zaa x28)), A.d (D.lit (.int .i64 x29)), A.d (D.lit (.bool x30))])] /\
 R (.pan x27v) [((Ref.up q0), [A.d (D.lit (Zaa x28)), A.d (D.lit (.int .i64 x29)), A.d (D.lit (.bool x30))])])) /\
 (∀ x23v H', R' (.pan x23v) H' -> ∃ x24 : List UInt8, ∃ x25 : Int, ∃ x26 : Bool, H' = [(Ref.up (Ref.up q0), [A.d (D.lit (Zaa x24)), A.d (D.lit (.int .i64 x25)), A.d (D.lit (.bool x26))])] /\
 R (.pan x23v) [((Ref.up q0), [A.d (D.lit (Zaa x24)), A.d (D.lit (.int .i64 x25)), A.d (D.lit (.bool x26))])]))) /\
 (∀ x19v H', R' (.pan x19v) H' -> ∃ x20 : List UInt8, ∃ x21 : Int, ∃ x22 : Bool, H' = [(Ref.up (Ref.up q0), [A.d (D.lit (Zaa x20)), A.d (D.lit (.int .i64 x21)), A.d (D.lit (.bool x22))])] /\
 R (.pan x19v) [((Ref.up q0), [A.d (D.lit (Zaa x20)), A.d (D.lit (.int .i64 x21)), A.d (D.lit (.bool x22))])])) /\
 (x15 = false ->
 ∃ x19 : Bool, (∀ _ : Nat -> Nat, Holds Try.prog 67 [A.ptr (.up (Ref.up q0)) 0] [(Ref.up (Ref.up q0), [A.d (D.lit (Zaa x16)), A.d (D.lit (.int .i64 x17)), A.d (D.lit (.bool x18))])] (Zce [(Ref.up (Ref.up q0), [A.d (D.lit (Zaa x16)), A.d (D.lit (.int .i64 x17)), A.d (D.lit (.bool x18))])] (A.d (D.lit (.bool x19))))) /\
 ((!x19) || (tB (decide (0 <= x17)))) = true /\
 ((!x19) || (tB (decide (x17 < (x16.length : Int))))) = true /\
 (((!x19) || (tB (decide ((Zak x16 x17) < 32)))) || (tB (decide (0 <= x17)))) = true /\
 (((!x19) || (tB (decide ((Zak x16 x17) < 32)))) || (tB (decide (x17 < (x16.length : Int))))) = true /\
 ((((!x19) || (tB (decide ((Zak x16 x17) < 32)))) || (tB (decide (126 < (Zak x16 x17))))) || (tB (decide (0 <= x17)))) = true /\
 ((((!x19) || (tB (decide ((Zak x16 x17) < 32)))) || (tB (decide (126 < (Zak x16 x17))))) || (tB (decide (x17 < (x16.length : Int))))) = true /\
 ((!(((!x19) || (tB (decide ((Zak x16 x17) < 32)))) || (tB (decide (126 < (Zak x16 x17)))))) = true ->
 ∀ _ : Nat -> Nat, ∃ R', Holds Try.prog 87 [A.d (D.lit (.int .u8 (Zak x16 x17)))] [] R' /\
 (∀ v H', R' (.ret v) H' -> ∃ x20 : Bool, v = A.d (D.lit (.bool x20)) /\ H' = [] /\
 (x20 = true ->
 R (.ret (A.agg [D.lit (.int .i64 0), D.lit (.int .u64 0), D.lit (.int .u64 0), D.lit (.int .u64 0), D.lit (.int .u64 0), (D.slc ([] : List (List D)))])) [((Ref.up q0), [A.d (D.lit (Zaa x16)), A.d (D.lit (.int .i64 x17)), A.d (D.lit (.bool true))])]) /\
 (x20 = false ->
 tB (decide ((-9223372036854775808) <= (x17 + 1))) = true /\
 tB (decide ((x17 + 1) <= 9223372036854775807)) = true /\
 tB (decide ((-9223372036854775808) <= ((x17 + 1) - 1))) = true /\
 tB (decide (((x17 + 1) - 1) <= 9223372036854775807)) = true /\
 tB (decide (0 <= ((x17 + 1) - 1))) = true /\
 tB (decide (((x17 + 1) - 1) < (x16.length : Int))) = true /\
 tB (decide ((-9223372036854775808) <= (Zak x16 ((x17 + 1) - 1)))) = true /\
 tB (decide ((Zak x16 ((x17 + 1) - 1)) <= 9223372036854775807)) = true /\
 ∀ _ : Nat -> Nat, ∃ R', Holds Try.prog 85 [A.d (D.lit (.int .i64 (Zak x16 ((x17 + 1) - 1)))), A.d (D.lit (.int .i64 (Zak x16 ((x17 + 1) - 1))))] [] R' /\
 (∀ v H', R' (.ret v) H' -> ∃ x21 : List D, v = A.agg x21 /\ H' = [] /\
 tB ((x21.length : Int) == 4) = true /\
 R (.ret (A.agg [D.lit (.int .i64 2), x21.getD 0 D0, x21.getD 1 D0, x21.getD 2 D0, x21.getD 3 D0, (D.slc ([] : List (List D)))])) [((Ref.up q0), [A.d (D.lit (Zaa x16)), A.d (D.lit (.int .i64 (x17 + 1))), A.d (D.lit (.bool x18))])]) /\
 (∀ x21v H', R' (.pan x21v) H' -> H' = [] /\
 R (.pan x21v) [((Ref.up q0), [A.d (D.lit (Zaa x16)), A.d (D.lit (.int .i64 (x17 + 1))), A.d (D.lit (.bool x18))])]))) /\
 (∀ x20v H', R' (.pan x20v) H' -> H' = [] /\
 R (.pan x20v) [((Ref.up q0), [A.d (D.lit (Zaa x16)), A.d (D.lit (.int .i64 x17)), A.d (D.lit (.bool x18))])])) /\
 ((!(((!x19) || (tB (decide ((Zak x16 x17) < 32)))) || (tB (decide (126 < (Zak x16 x17)))))) = false ->
 R (.ret (A.agg [D.lit (.int .i64 0), D.lit (.int .u64 0), D.lit (.int .u64 0), D.lit (.int .u64 0), D.lit (.int .u64 0), (D.slc ([] : List (List D)))])) [((Ref.up q0), [A.d (D.lit (Zaa x16)), A.d (D.lit (.int .i64 x17)), A.d (D.lit (.bool true))])]))) /\
 (∀ x15v H', R' (.pan x15v) H' -> ∃ x16 : List UInt8, ∃ x17 : Int, ∃ x18 : Bool, H' = [(Ref.up (Ref.up q0), [A.d (D.lit (Zaa x16)), A.d (D.lit (.int .i64 x17)), A.d (D.lit (.bool x18))])] /\
 R (.pan x15v) [((Ref.up q0), [A.d (D.lit (Zaa x16)), A.d (D.lit (.int .i64 x17)), A.d (D.lit (.bool x18))])]))) /\
 (∀ x11v H', R' (.pan x11v) H' -> ∃ x12 : List UInt8, ∃ x13 : Int, ∃ x14 : Bool, H' = [(Ref.up (Ref.up q0), [A.d (D.lit (Zaa x12)), A.d (D.lit (.int .i64 x13)), A.d (D.lit (.bool x14))])] /\
 R (.pan x11v) [((Ref.up q0), [A.d (D.lit (Zaa x12)), A.d (D.lit (.int .i64 x13)), A.d (D.lit (.bool x14))])]))) /\
 (∀ x7v H', R' (.pan x7v) H' -> ∃ x8 : List UInt8, ∃ x9 : Int, ∃ x10 : Bool, H' = [(Ref.up (Ref.up q0), [A.d (D.lit (Zaa x8)), A.d (D.lit (.int .i64 x9)), A.d (D.lit (.bool x10))])] /\
 R (.pan x7v) [((Ref.up q0), [A.d (D.lit (Zaa x8)), A.d (D.lit (.int .i64 x9)), A.d (D.lit (.bool x10))])]))) /\
 (∀ x3v H', R' (.pan x3v) H' -> ∃ x4 : List UInt8, ∃ x5 : Int, ∃ x6 : Bool, H' = [(Ref.up (Ref.up q0), [A.d (D.lit (Zaa x4)), A.d (D.lit (.int .i64 x5)), A.d (D.lit (.bool x6))])] /\
 R (.pan x3v) [((Ref.up q0), [A.d (D.lit (Zaa x4)), A.d (D.lit (.int .i64 x5)), A.d (D.lit (.bool x6))])])) :
 Holds Try.prog 74 [A.ptr (Ref.up q0) 0] [((Ref.up q0), [A.d (D.lit (Zaa x0)), A.d (D.lit (.int .i64 x1)), A.d (D.lit (.bool x2))])] R :=
 walk (c := ⟨Try.prog, 101, true, [0, 2, 3, 4, 5, 10, 15, 20, 24, 30, 73]⟩) (op := {}) (fn := Try.f74) (args := [.ptr (.up 0) 0]) (K := [(.up 0, [.c (.o1 .cs (.var 0)), .c (.o1 (.ci .i64) (.var 1)), .c (.o1 .cb (.o1 .tb (.var 2)))])]) (nv := 3) (depth := 7) (up := upOf [q0]) (ρ := Zat [.s x0, .i x1, .b x2])
  rfl rfl rfl rfl rfl (by decide) (by decide) (by decide) (by decide) rfl (by simp [Zad, RRef.den, upOf]) (T_of (by kernel_rfl) h)
theorem w84 {R : RT} (x0 : List UInt8) (x1 : Int) (x2 : Bool) (q0 : Ref) (h : ∀ _ : Nat -> Nat, ∃ R', Holds Try.prog 52 [A.ptr (.up (Ref.up q0)) 0, A.d (D.lit (.int .u8 120))] [(Ref.up (Ref.up q0), [A.d (D.lit (Zaa x0)), A.d (D.lit (.int .i64 x1)), A.d (D.lit (.bool x2))])] R' /\
 (∀ v H', R' (.ret v) H' -> ∃ x3 : Bool, ∃ x4 : List UInt8, ∃ x5 : Int, ∃ x6 : Bool, v = A.d (D.lit (.bool x3)) /\ H' = [(Ref.up (Ref.up q0), [A.d (D.lit (Zaa x4)), A.d (D.lit (.int .i64 x5)), A.d (D.lit (.bool x6))])] /\
 (x3 = true ->
 ∀ _ : Nat -> Nat, ∃ R', Holds Try.prog 95 [A.ptr (.up (Ref.up q0)) 0, A.d (D.lit (.int .i64 0))] [(Ref.up (Ref.up q0), [A.d (D.lit (Zaa x4)), A.d (D.lit (.int .i64 x5)), A.d (D.lit (.bool x6))])] R' /\
 (∀ v H', R' (.ret v) H' -> ∃ x7 : Int, ∃ x8 : List UInt8, ∃ x9 : Int, ∃ x10 : Bool, v = A.d (D.lit (.int .i64 x7)) /\ H' = [(Ref.up (Ref.up q0), [A.d (D.lit (Zaa x8)), A.d (D.lit (.int .i64 x9)), A.d (D.lit (.bool x10))])] /\
 ∀ _ : Nat -> Nat, ∃ R', Holds Try.prog 85 [A.d (D.lit (.int .i64 x7)), A.d (D.lit (.int .i64 x7))] [] R' /\
 (∀ v H', R' (.ret v) H' -> ∃ x11 : List D, v = A.agg x11 /\ H' = [] /\
 tB ((x11.length : Int) == 4) = true /\
 R (.ret (A.agg [D.lit (.int .i64 2), x11.getD 0 D0, x11.getD 1 D0, x11.getD 2 D0, x11.getD 3 D0, (D.slc ([] : List (List D)))])) [((Ref.up q0), [A.d (D.lit (Zaa x8)), A.d (D.lit (.int .i64 x9)), A.d (D.lit (.bool x10))])]) /\
 (∀ x11v H', R' (.pan x11v) H' -> H' = [] /\
 R (.pan x11v) [((Ref.up q0), [A.d (D.lit (Zaa x8)), A.d (D.lit (.int .i64 x9)), A.d (D.lit (.bool x10))])])) /\
 (∀ x7v H', R' (.pan x7v) H' -> ∃ x8 : List UInt8, ∃ x9 : Int, ∃ x10 : Bool, H' = [(Ref.up (Ref.up q0), [A.d (D.lit (Zaa x8)), A.d (D.lit (.int .i64 x9)), A.d (D.lit (.bool x10))])] /\
 R (.pan x7v) [((Ref.up q0), [A.d (D.lit (Zaa x8)), A.d (D.lit (.int .i64 x9)), A.d (D.lit (.bool x10))])])) /\
 (x3 = false ->
 ∀ _ : Nat -> Nat, ∃ R', Holds Try.prog 67 [A.ptr (.up (Ref.up q0)) 0] [(Ref.up (Ref.up q0), [A.d (D.lit (Zaa x4)), A.d (D.lit (.int .i64 x5)), A.d (D.lit (.bool x6))])] R' /\
 (∀ v H', R' (.ret v) H' -> ∃ x7 : Bool, ∃ x8 : List UInt8, ∃ x9 : Int, ∃ x10 : Bool, v = A.d (D.lit (.bool x7)) /\ H' = [(Ref.up (Ref.up q0), [A.d (D.lit (Zaa x8)), A.d (D.lit (.int .i64 x9)), A.d (D.lit (.bool x10))])] /\
 (x7 = true ->
 tB (decide (0 <= x9)) = true /\
 tB (decide (x9 < (x8.length : Int))) = true /\
 ∀ _ : Nat -> Nat, ∃ R', Holds Try.prog 96 [A.d (D.lit (.int .u8 (Zak x8 x9)))] [] R' /\
 (∀ v H', R' (.ret v) H' -> ∃ x11 : List D, ∃ x12 : Bool, v = A.tup [(true, x11), (false, [D.lit (.bool x12)])] /\ H' = [] /\
 tB ((x11.length : Int) == 4) = true /\
 ∀ _ : Nat -> Nat, ∃ R', Holds Try.prog 97 [A.d (D.lit (.int .u8 (Zak x8 x9)))] [] R' /\
 (∀ v H', R' (.ret v) H' -> ∃ x13 : Int, v = A.d (D.lit (.int .i64 x13)) /\ H' = [] /\
 (tB (decide (0 <= x13)) = true ->
 ∀ _ : Nat -> Nat, ∃ R', Holds Try.prog 85 [A.d (D.lit (.int .i64 x13)), A.d (D.lit (.int .i64 x13))] [] R' /\
 (∀ v H', R' (.ret v) H' -> ∃ x14 : List D, v = A.agg x14 /\ H' = [] /\
 tB ((x14.length : Int) == 4) = true /\
 ∀ _ : Nat -> Nat, ∃ R', Holds Try.prog 87 [A.d (D.lit (.int .u8 (Zak x8 x9)))] [] R' /\
 (∀ v H', R' (.ret v) H' -> ∃ x15 : Bool, v = A.d (D.lit (.bool x15)) /\ H' = [] /\
 (((x15 || (tB ((Zak x8 x9) == 94))) || (tB ((Zak x8 x9) == 45))) = true ->
 tB (decide ((-9223372036854775808) <= (Zak x8 x9))) = true /\
 tB (decide ((Zak x8 x9) <= 9223372036854775807)) = true /\
 ∀ _ : Nat -> Nat, ∃ R', Holds Try.prog 85 [A.d (D.lit (.int .i64 (Zak x8 x9))), A.d (D.lit (.int .i64 (Zak x8 x9)))] [] R' /\
 (∀ v H', R' (.ret v) H' -> ∃ x16 : List D, v = A.agg x16 /\ H' = [] /\
 tB ((x16.length : Int) == 4) = true /\
 tB (decide ((-9223372036854775808) <= (x9 + 1))) = true /\
 tB (decide ((x9 + 1) <= 9223372036854775807)) = true /\
 R (.ret (A.agg [D.lit (.int .i64 2), x16.getD 0 D0, x16.getD 1 D0, x16.getD 2 D0, x16.getD 3 D0, (D.slc ([] : List (List D)))])) [((Ref.up q0), [A.d (D.lit (Zaa x8)), A.d (D.lit (.int .i64 (x9 + 1))), A.d (D.lit (.bool x10))])]) /\
 (∀ x16v H', R' (.pan x16v) H' -> H' = [] /\
 R (.pan x16v) [((Ref.up q0), [A.d (D.lit (Zaa x8)), A.d (D.lit (.int .i64 x9)), A.d (D.lit (.bool x10))])])) /\
 (((x15 || (tB ((Zak x8 x9) == 94))) || (tB ((Zak x8 x9) == 45))) = false ->
 tB (decide ((-9223372036854775808) <= (x9 + 1))) = true /\
 tB (decide ((x9 + 1) <= 9223372036854775807)) = true /\
 R (.ret (A.agg [D.lit (.int .i64 2), x14.getD 0 D0, x14.getD 1 D0, x14.getD 2 D0, x14.getD 3 D0, (D.slc ([] : List (List D)))])) [((Ref.up q0), [A.d (D.lit (Zaa x8)), A.d (D.lit (.int .i64 (x9 + 1))), A.d (D.lit (.bool x10))])])) /\
 (∀ x15v H', R' (.pan x15v) H' -> H' = [] /\
 R (.pan x15v) [((Ref.up q0), [A.d (D.lit (Zaa x8)), A.d (D.lit (.int .i64 x9)), A.d (D.lit (.bool x10))])])) /\
 (∀ x14v H', R' (.pan x14v) H' -> H' = [] /\
 R (.pan x14v) [((Ref.up q0), [A.d (D.lit (Zaa x8)), A.d (D.lit (.int .i64 x9)), A.d (D.lit (.bool x10))])])) /\
 (tB (decide (0 <= x13)) = false ->
 ∀ _ : Nat -> Nat, ∃ R', Holds Try.prog 87 [A.d (D.lit (.int .u8 (Zak x8 x9)))] [] R' /\
 (∀ v H', R' (.ret v) H' -> ∃ x14 : Bool, v = A.d (D.lit (.bool x14)) /\ H' = [] /\
 (((x14 || (tB ((Zak x8 x9) == 94))) || (tB ((Zak x8 x9) == 45))) = true ->
 tB (decide ((-9223372036854775808) <= (Zak x8 x9))) = true /\
 tB (decide ((Zak x8 x9) <= 9223372036854775807)) = true /\
 ∀ _ : Nat -> Nat, ∃ R', Holds Try.prog 85 [A.d (D.lit (.int .i64 (Zak x8 x9))), A.d (D.lit (.int .i64 (Zak x8 x9)))] [] R' /\
 (∀ v H', R' (.ret v) H' -> ∃ x15 : List D, v = A.agg x15 /\ H' = [] /\
 tB ((x15.length : Int) == 4) = true /\
 tB (decide ((-9223372036854775808) <= (x9 + 1))) = true /\
 tB (decide ((x9 + 1) <= 9223372036854775807)) = true /\
 R (.ret (A.agg [D.lit (.int .i64 2), x15.getD 0 D0, x15.getD 1 D0, x15.getD 2 D0, x15.getD 3 D0, (D.slc ([] : List (List D)))])) [((Ref.up q0), [A.d (D.lit (Zaa x8)), A.d (D.lit (.int .i64 (x9 + 1))), A.d (D.lit (.bool x10))])]) /\
 (∀ x15v H', R' (.pan x15v) H' -> H' = [] /\
 R (.pan x15v) [((Ref.up q0), [A.d (D.lit (Zaa x8)), A.d (D.lit (.int .i64 x9)), A.d (D.lit (.bool x10))])])) /\
 (((x14 || (tB ((Zak x8 x9) == 94))) || (tB ((Zak x8 x9) == 45))) = false ->
 (x12 = true ->
 tB (decide ((-9223372036854775808) <= (x9 + 1))) = true /\
 tB (decide ((x9 + 1) <= 9223372036854775807)) = true /\
 R (.ret (A.agg [D.lit (.int .i64 2), x11.getD 0 D0, x11.getD 1 D0, x11.getD 2 D0, x11.getD 3 D0, (D.slc ([] : List (List D)))])) [((Ref.up q0), [A.d (D.lit (Zaa x8)), A.d (D.lit (.int .i64 (x9 + 1))), A.d (D.lit (.bool x10))])]) /\
 (x12 = false ->
 R (.ret (A.agg [D.lit (.int .i64 0), D.lit (.int .u64 0), D.lit (.int .u64 0), D.lit (.int .u64 0), D.lit (.int .u64 0), (D.slc ([] : List (List D)))])) [((Ref.up q0), [A.d (D.lit (Zaa x8)), A.d (D.lit (.int .i64 x9)), A.d (D.lit (.bool true))])]))) /\
 (∀ x14v H', R' (.pan x14v) H' -> H' = [] /\
 R (.pan x14v) [((Ref.up q0), [A.d (D.lit (Zaa x8)), A.d (D.lit (.int .i64 x9)), A.d (D.lit (.bool x10))])]))) /\
 (∀ x13v H', R' (.pan x13v) H' -> H' = [] /\
 R (.pan x13v) [((Ref.up q0), [A.d (D.lit (Zaa x8)), A.d (D.lit (.int .i64 x9)), A.d (D.lit (.bool x10))])])) /\
 (∀ x11v H', R' (.pan x11v) H' -> H' = [] /\
 R (.pan x11v) [((Ref.up q0), [A.d (D.lit (Zaa x8)), A.d (D.lit (.int .i64 x9)), A.d (D.lit (.bool x10))])])) /\
 (x7 = false ->
 R (.ret (A.agg [D.lit (.int .i64 0), D.lit (.int .u64 0), D.lit (.int .u64 0), D.lit (.int .u64 0), D.lit (.int .u64 0), (D.slc ([] : List (List D)))])) [((Ref.up q0), [A.d (D.lit (Zaa x8)), A.d (D.lit (.int .i64 x9)), A.d (D.lit (.bool true))])])) /\
 (∀ x7v H', R' (.pan x7v) H' -> ∃ x8 : List UInt8, ∃ x9 : Int, ∃ x10 : Bool, H' = [(Ref.up (Ref.up q0), [A.d (D.lit (Zaa x8)), A.d (D.lit (.int .i64 x9)), A.d (D.lit (.bool x10))])] /\
 R (.pan x7v) [((Ref.up q0), [A.d (D.lit (Zaa x8)), A.d (D.lit (.int .i64 x9)), A.d (D.lit (.bool x10))])]))) /\
 (∀ x3v H', R' (.pan x3v) H' -> ∃ x4 : List UInt8, ∃ x5 : Int, ∃ x6 : Bool, H' = [(Ref.up (Ref.up q0), [A.d (D.lit (Zaa x4)), A.d (D.lit (.int .i64 x5)), A.d (D.lit (.bool x6))])] /\
 R (.pan x3v) [((Ref.up q0), [A.d (D.lit (Zaa x4)), A.d (D.lit (.int .i64 x5)), A.d (D.lit (.bool x6))])])) :
 Holds Try.prog 84 [A.ptr (Ref.up q0) 0] [((Ref.up q0), [A.d (D.lit (Zaa x0)), A.d (D.lit (.int .i64 x1)), A.d (D.lit (.bool x2))])] R :=
 walk (c := ⟨Try.prog, 69, true, [0, 2, 3, 4, 5, 6, 7, 9, 17, 35, 48, 54]⟩) (op := {}) (fn := Try.f84) (args := [.ptr (.up 0) 0]) (K := [(.up 0, [.c (.o1 .cs (.var 0)), .c (.o1 (.ci .i64) (.var 1)), .c (.o1 .cb (.o1 .tb (.var 2)))])]) (nv := 3) (depth := 7) (up := upOf [q0]) (ρ := Zat [.s x0, .i x1, .b x2])
  rfl rfl rfl rfl rfl (by decide) (by decide) (by decide) (by decide) rfl (by simp [Zad, RRef.den, upOf]) (T_of (by kernel_rfl) h)
theorem w86 {R : RT} (x0 : List UInt8) (x1 : Int) (x2 : Bool) (q0 : Ref) (h : ∀ _ : Nat -> Nat, ∃ R', Holds Try.prog 52 [A.ptr (.up (Ref.up q0)) 0, A.d (D.lit (.int .u8 93))] [(Ref.up (Ref.up q0), [A.d (D.lit (Zaa x0)), A.d (D.lit (.int .i64 x1)), A.d (D.lit (.bool x2))])] R' /\
 (∀ v H', R' (.ret v) H' -> ∃ x3 : Bool, ∃ x4 : List UInt8, ∃ x5 : Int, ∃ x6 : Bool, v = A.d (D.lit (.bool x3)) /\ H' = [(Ref.up (Ref.up q0), [A.d (D.lit (Zaa x4)), A.d (D.lit (.int .i64 x5)), A.d (D.lit (.bool x6))])] /\
 (x3 = true ->
 R (.ret (A.agg [D.lit (.int .i64 0), D.lit (.int .u64 0), D.lit (.int .u64 0), D.lit (.int .u64 0), D.lit (.int .u64 0), (D.slc ([] : List (List D)))])) [((Ref.up q0), [A.d (D.lit (Zaa x4)), A.d (D.lit (.int .i64 x5)), A.d (D.lit (.bool x6))])]) /\
 (x3 = false ->
 ∀ _ : Nat -> Nat, ∃ R', Holds Try.prog 52 [A.ptr (.up (Ref.up q0)) 0, A.d (D.lit (.int .u8 94))] [(Ref.up (Ref.up q0), [A.d (D.lit (Zaa x4)), A.d (D.lit (.int .i64 x5)), A.d (D.lit (.bool x6))])] R' /\
 (∀ v H', R' (.ret v) H' -> ∃ x7 : Bool, ∃ x8 : List UInt8, ∃ x9 : Int, ∃ x10 : Bool, v = A.d (D.lit (.bool x7)) /\ H' = [(Ref.up (Ref.up q0), [A.d (D.lit (Zaa x8)), A.d (D.lit (.int .i64 x9)), A.d (D.lit (.bool x10))])] /\
 ∃ (I0_0 : D -> D -> D -> D -> List UInt8 -> Int -> Bool -> Prop) (M0_0 : D -> D -> D -> D -> List UInt8 -> Int -> Bool -> Nat), I0_0 (D.lit (.int .u64 0)) (D.lit (.int .u64 0)) (D.lit (.int .u64 0)) (D.lit (.int .u64 0)) x8 x9 x10 /\
 (∀ (x11 : D) (x12 : D) (x13 : D) (x14 : D) (x15 : List UInt8) (x16 : Int) (x17 : Bool) , I0_0 x11 x12 x13 x14 x15 x16 x17 ->
 ((!x17) = true ->
 ∀ _ : Nat -> Nat, ∃ R', Holds Try.prog 98 [A.ptr (.up (Ref.up q0)) 0, A.d (D.lit (.int .i64 0))] [(Ref.up (Ref.up q0), [A.d (D.lit (Zaa x15)), A.d (D.lit (.int .i64 x16)), A.d (D.lit (.bool x17))])] R' /\
 (∀ v H', R' (.ret v) H' -> ∃ x18 : Int, ∃ x19 : List UInt8, ∃ x20 : Int, ∃ x21 : Bool, v = A.d (D.lit (.int .i64 x18)) /\ H' = [(Ref.up (Ref.up q0), [A.d (D.lit (Zaa x19)), A.d (D.lit (.int .i64 x20)), A.d (D.lit (.bool x21))])] /\
 ∀ _ : Nat -> Nat, ∃ R', Holds Try.prog 52 [A.ptr (.up (Ref.up q0)) 0, A.d (D.lit (.int .u8 45))] [(Ref.up (Ref.up q0), [A.d (D.lit (Zaa x19)), A.d (D.lit (.int .i64 x20)), A.d (D.lit (.bool x21))])] R' /\
 (∀ v H', R' (.ret v) H' -> ∃ x22 : Bool, ∃ x23 : List UInt8, ∃ x24 : Int, ∃ x25 : Bool, v = A.d (D.lit (.bool x22)) /\ H' = [(Ref.up (Ref.up q0), [A.d (D.lit (Zaa x23)), A.d (D.lit (.int .i64 x24)), A.d (D.lit (.bool x25))])] /\
 (x22 = true ->
 ∀ _ : Nat -> Nat, ∃ R', Holds Try.prog 98 [A.ptr (.up (Ref.up q0)) 0, A.d (D.lit (.int .i64 x18))] [(Ref.up (Ref.up q0), [A.d (D.lit (Zaa x23)), A.d (D.lit (.int .i64 x24)), A.d (D.lit (.bool x25))])] R' /\
 (∀ v H', R' (.ret v) H' -> ∃ x26 : Int, ∃ x27 : List UInt8, ∃ x28 : Int, ∃ x29 : Bool, v = A.d (D.lit (.int .i64 x26)) /\ H' = [(Ref.up (Ref.up q0), [A.d (D.lit (Zaa x27)), A.d (D.lit (.int .i64 x28)), A.d (D.lit (.bool x29))])] /\
 ((!x29) = true ->
 ∃ x30 : List D, (∀ _ : Nat -> Nat, Holds Try.prog 85 [A.d (D.lit (.int .i64 x18)), A.d (D.lit (.int .i64 x26))] [] (Zce [] (A.agg x30))) /\
 ∀ _ : Nat -> Nat, ∃ R', Holds Try.prog 99 [A.agg [x11, x12, x13, x14], A.agg x30] [] R' /\
 (∀ v H', R' (.ret v) H' -> ∃ x31 : List D, v = A.agg x31 /\ H' = [] /\
 tB ((x31.length : Int) == 4) = true /\
 ∀ _ : Nat -> Nat, ∃ R', Holds Try.prog 52 [A.ptr (.up (Ref.up q0)) 0, A.d (D.lit (.int .u8 93))] [(Ref.up (Ref.up q0), [A.d (D.lit (Zaa x27)), A.d (D.lit (.int .i64 x28)), A.d (D.lit (.bool x29))])] R' /\
 (∀ v H', R' (.ret v) H' -> ∃ x32 : Bool, ∃ x33 : List UInt8, ∃ x34 : Int, ∃ x35 : Bool, v = A.d (D.lit (.bool x32)) /\ H' = [(Ref.up (Ref.up q0), [A.d (D.lit (Zaa x33)), A.d (D.lit (.int .i64 x34)), A.d (D.lit (.bool x35))])] /\
 (x32 = true ->
 (x7 = true ->
 ∀ _ : Nat -> Nat, ∃ R', Holds Try.prog 100 [A.agg x31] [] R' /\
 (∀ v H', R' (.ret v) H' -> ∃ x36 : List D, v = A.agg x36 /\ H' = [] /\
 tB ((x36.length : Int) == 4) = true /\
 R (.ret (A.agg [D.lit (.int .i64 2), x36.getD 0 D0, x36.getD 1 D0, x36.getD 2 D0, x36.getD 3 D0, (D.slc ([] : List (List D)))])) [((Ref.up q0), [A.d (D.lit (Zaa x33)), A.d (D.lit (.int .i64 x34)), A.d (D.lit (.bool x35))])]) /\
 (∀ x36v H', R' (.pan x36v) H' -> H' = [] /\
 R (.pan x36v) [((Ref.up q0), [A.d (D.lit (Zaa x33)), A.d (D.lit (.int .i64 x34)), A.d (D.lit (.bool x35))])])) /\
 (x7 = false ->
 R (.ret (A.agg [D.lit (.int .i64 2), x31.getD 0 D0, x31.getD 1 D0, x31.getD 2 D0, x31.getD 3 D0, (D.slc ([] : List (List D)))])) [((Ref.up q0), [A.d (D.lit (Zaa x33)), A.d (D.lit (.int .i64 x34)), A.d (D.lit (.bool x35))])])) /\
 (x32 = false ->
 I0_0 (x31.getD 0 D0) (x31.getD 1 D0) (x31.getD 2 D0) (x31.getD 3 D0) x33 x34 x35 /\ M0_0 (x31.getD 0 D0) (x31.getD 1 D0) (x31.getD 2 D0) (x31.getD 3 D0) x33 x34 x35 < M0_0 x11 x12 x13 x14 x15 x16 x17)) /\
 (∀ x32v H', R' (.pan x32v) H' -> ∃ x33 : List UInt8, ∃ x34 : Int, ∃ x35 : Bool, H' = [(Ref.up (Ref.up q0), [A.d (D.lit (Zaa x33)), A.d (D.lit (.int .i64 x34)), A.d (D.lit (.bool x35))])] /\
 R (.pan x32v) [((Ref.up q0), [A.d (D.lit (Zaa x33)), A.d (D.lit (.int .i64 x34)), A.d (D.lit (.bool x35))])])) /\
 (∀ x31v H', R' (.pan x31v) H' -> H' = [] /\
 R (.pan x31v) [((Ref.up q0), [A.d (D.lit (Zaa x27)), A.d (D.lit (.int .i64 x28)), A.d (D.lit (.bool x29))])])) /\
 ((!x29) = false ->
 ∀ _ : Nat -> Nat, ∃ R', Holds Try.prog 52 [A.ptr (.up (Ref.up q0)) 0, A.d (D.lit (.int .u8 93))] [(Ref.up (Ref.up q0), [A.d (D.lit (Zaa x27)), A.d (D.lit (.int .i64 x28)), A.d (D.lit (.bool x29))])] R' /\
 (∀ v H', R' (.ret v) H' -> ∃ x30 : Bool, ∃ x31 : List UInt8, ∃ x32 : Int, ∃ x33 : Bool, v = A.d (D.lit (.bool x30)) /\ H' = [(Ref.up (Ref.up q0), [A.d (D.lit (Zaa x31)), A.d (D.lit (.int .i64 x32)), A.d (D.lit (.bool x33))])] /\
 (x30 = true ->
 (x7 = true ->
 ∀ _ : Nat -> Nat, ∃ R', Holds Try.prog 100 [A.agg [x11, x12, x13, x14]] [] R' /\
 (∀ v H', R' (.ret v) H' -> ∃ x34 : List D, v = A.agg x34 /\ H' = [] /\
 tB ((x34.length : Int) == 4) = true /\
 R (.ret (A.agg [D.lit (.int .i64 2), x34.getD 0 D0, x34.getD 1 D0, x34.getD 2 D0, x34.getD 3 D0, (D.slc ([] : List (List D)))])) [((Ref.up q0), [A.d (D.lit (Zaa x31)), A.d (D.lit (.int .i64 x32)), A.d (D.lit (.bool x33))])]) /\
 (∀ x34v H', R' (.pan x34v) H' -> H' = [] /\
 R (.pan x34v) [((Ref.up q0), [A.d (D.lit (Zaa x31)), A.d (D.lit (.int .i64 x32)), A.d (D.lit (.bool x33))])])) /\
 (x7 = false ->
 R (.ret (A.agg [D.lit (.int .i64 2), x11, x12, x13, x14, (D.slc ([] : List (List D)))])) [((Ref.up q0), [A.d (D.lit (Zaa x31)), A.d (D.lit (.int .i64 x32)), A.d (D.lit (.bool x33))])])) /\
 (x30 = false ->
 I0_0 x11 x12 x13 x14 x31 x32 x33 /\ M0_0 x11 x12 x13 x14 x31 x32 x33 < M0_0 x11 x12 x13 x14 x15 x16 x17)) /\
 (∀ x30v H', R' (.pan x30v) H' -> ∃ x31 : List UInt8, ∃ x32 : Int, ∃ x33 : Bool, H' = [(Ref.up (Ref.up q0), [A.d (D.lit (Zaa x31)), A.d (D.lit (.int .i64 x32)), A.d (D.lit (.bool x33))])] /\
 R (.pan x30v) [((Ref.up q0), [A.d (D.lit (Zaa x31)), A.d (D.lit (.int .i64 x32)), A.d (D.lit (.bool x33))])]))) /\
 (∀ x26v H', R' (.pan x26v) H' -> ∃ x27 : List UInt8, ∃ x28 : Int, ∃ x29 : Bool, H' = [(Ref.up (Ref.up q0), [A.d (D.lit (Zaa x27)), A.d (D.lit (.int .i64 x28)), A.d (D.lit (.bool x29))])] /\
 R (.pan x26v) [((Ref.up q0), [A.d (D.lit (Zaa x27)), A.d (D.lit (.int .i64 x28)), A.d (D.lit (.bool x29))])])) /\
 (x22 = false ->
 ((!x25) = true ->
 ∃ x26 : List D, (∀ _ : Nat -> Nat, Holds Try.prog 85 [A.d (D.lit (.int .i64 x18)), A.d (D.lit (.int .i64 x18))] [] (Zce [] (A.agg x26))) /\
 ∀ _ : Nat -> Nat, ∃ R', Holds Try.prog 99 [A.agg [x11, x12, x13, x14], A.agg x26] [] R' /\
 (∀ v H', R' (.ret v) H' -> ∃ x27 : List D, v = A.agg x27 /\ H' = [] /\
 tB ((x27.length : Int) == 4) = true /\
 ∀ _ : Nat -> Nat, ∃ R', Holds Try.prog 52 [A.ptr (.up (Ref.up q0)) 0, A.d (D.lit (.int .u8 93))] [(Ref.up (Ref.up q0), [A.d (D.lit (Zaa x23)), A.d (D.lit (.int .i64 x24)), A.d (D.lit (.bool x25))])] R' /\
 (∀ v H', R' (.ret v) H' -> ∃ x28 : Bool, ∃ x29 : List UInt8, ∃ x30 : Int, ∃ x31 : Bool, v = A.d (D.lit (.bool x28)) /\ H' = [(Ref.up (Ref.up q0), [A.d (D.lit (Zaa x29)), A.d (D.lit (.int .i64 x30)), A.d (D.lit (.bool x31))])] /\
 (x28 = true ->
 (x7 = true ->
 ∀ _ : Nat -> Nat, ∃ R', Holds Try.prog 100 [A.agg x27] [] R' /\
 (∀ v H', R' (.ret v) H' -> ∃ x32 : List D, v = A.agg x32 /\ H' = [] /\
 tB ((x32.length : Int) == 4) = true /\
 R (.ret (A.agg [D.lit (.int .i64 2), x32.getD 0 D0, x32.getD 1 D0, x32.getD 2 D0, x32.getD 3 D0, (D.slc ([] : List (List D)))])) [((Ref.up q0), [A.d (D.lit (Zaa x29)), A.d (D.lit (.int .i64 x30)), A.d (D.lit (.bool x31))])]) /\
 (∀ x32v H', R' (.pan x32v) H' -> H' = [] /\
 R (.pan x32v) [((Ref.up q0), [A.d (D.lit (Zaa x29)), A.d (D.lit (.int .i64 x30)), A.d (D.lit (.bool x31))])])) /\
 (x7 = false ->
 R (.ret (A.agg [D.lit (.int .i64 2), x27.getD 0 D0, x27.getD 1 D0, x27.getD 2 D0, x27.getD 3 D0, (D.slc ([] : List (List D)))])) [((Ref.up q0), [A.d (D.lit (Zaa x29)), A.d (D.lit (.int .i64 x30)), A.d (D.lit (.bool x31))])])) /\
 (x28 = false ->
 I0_0 (x27.getD 0 D0) (x27.getD 1 D0) (x27.getD 2 D0) (x27.getD 3 D0) x29 x30 x31 /\ M0_0 (x27.getD 0 D0) (x27.getD 1 D0) (x27.getD 2 D0) (x27.getD 3 D0) x29 x30 x31 < M0_0 x11 x12 x13 x14 x15 x16 x17)) /\
 (∀ x28v H', R' (.pan x28v) H' -> ∃ x29 : List UInt8, ∃ x30 : Int, ∃ x31 : Bool, H' = [(Ref.up (Ref.up q0), [A.d (D.lit (Zaa x29)), A.d (D.lit (.int .i64 x30)), A.d (D.lit (.bool x31))])] /\
 R (.pan x28v) [((Ref.up q0), [A.d (D.lit (Zaa x29)), A.d (D.lit (.int .i64 x30)), A.d (D.lit (.bool x31))])])) /\
 (∀ x27v H', R' (.pan x27v) H' -> H' = [] /\
 R (.pan x27v) [((Ref.up q0), [A.d (D.lit (Zaa x23)), A.d (D.lit (.int .i64 x24)), A.d (D.lit (.bool x25))])])) /\
 ((!x25) = false ->
 ∀ _ : Nat -> Nat, ∃ R', Holds Try.prog 52 [A.ptr (.up (Ref.up q0)) 0, A.d (D.lit (.int .u8 93))] [(Ref.up (Ref.up q0), [A.d (D.lit (Zaa x23)), A.d (D.lit (.int .i64 x24)), A.d (D.lit (.bool x25))])] R' /\
 (∀ v H', R' (.ret v) H' -> ∃ x26 : Bool, ∃ x27 : List UInt8, ∃ x28 : Int, ∃ x29 : Bool, v = A.d (D.lit (.bool x26)) /\ H' = [(Ref.up (Ref.up q0), [A.d (D.lit (Zaa x27)), A.d (D.lit (.int .i64 x28)), A.d (D.lit (.bool x29))])] /\
 (x26 = true ->
 (x7 = true ->
 ∀ _ : Nat -> Nat, ∃ R', Holds Try.prog 100 [A.agg [x11, x12, x13, x14]] [] R' /\
 (∀ v H', R' (.ret v) H' -> ∃ x30 : List D, v = A.agg x30 /\ H' = [] /\
 tB ((x30.length : Int) == 4) = true /\
 R (.ret (A.agg [D.lit (.int .i64 2), x30.getD 0 D0, x30.getD 1 D0, x30.getD 2 D0, x30.getD 3 D0, (D.slc ([] : List (List D)))])) [((Ref.up q0), [A.d (D.lit (Zaa x27)), A.d (D.lit (.int .i64 x28)), A.d (D.lit (.bool x29))])]) /\
 (∀ x30v H', R' (.pan x30v) H' -> H' = [] /\
 R (.pan x30v) [((Ref.up q0), [A.d (D.lit (Zaa x27)), A.d (D.lit (.int .i64 x28)), A.d (D.lit (.bool x29))])])) /\
 (x7 = false ->
 R (.ret (A.agg [D.lit (.int .i64 2), x11, x12, x13, x14, (D.slc ([] : List (List D)))])) [((Ref.up q0), [A.d (D.lit (Zaa x27)), A.d (D.lit (.int .i64 x28)), A.d (D.lit (.bool x29))])])) /\
 (x26 = false ->
 I0_0 x11 x12 x13 x14 x27 x28 x29 /\ M0_0 x11 x12 x13 x14 x27 x28 x29 < M0_0 x11 x12 x13 x14 x15 x16 x17)) /\
 (∀ x26v H', R' (.pan x26v) H' -> ∃ x27 : List UInt8, ∃ x28 : Int, ∃ x29 : Bool, H' = [(Ref.up (Ref.up q0), [A.d (D.lit (Zaa x27)), A.d (D.lit (.int .i64 x28)), A.d (D.lit (.bool x29))])] /\
 R (.pan x26v) [((Ref.up q0), [A.d (D.lit (Zaa x27)), A.d (D.lit (.int .i64 x28)), A.d (D.lit (.bool x29))])])))) /\
 (∀ x22v H', R' (.pan x22v) H' -> ∃ x23 : List UInt8, ∃ x24 : Int, ∃ x25 : Bool, H' = [(Ref.up (Ref.up q0), [A.d (D.lit (Zaa x23)), A.d (D.lit (.int .i64 x24)), A.d (D.lit (.bool x25))])] /\
 R (.pan x22v) [((Ref.up q0), [A.d (D.lit (Zaa x23)), A.d (D.lit (.int .i64 x24)), A.d (D.lit (.bool x25))])])) /\
 (∀ x18v H', R' (.pan x18v) H' -> ∃ x19 : List UInt8, ∃ x20 : Int, ∃ x21 : Bool, H' = [(Ref.up (Ref.up q0), [A.d (D.lit (Zaa x19)), A.d (D.lit (.int .i64 x20)), A.d (D.lit (.bool x21))])] /\
 R (.pan x18v) [((Ref.up q0), [A.d (D.lit (Zaa x19)), A.d (D.lit (.int .i64 x20)), A.d (D.lit (.bool x21))])])) /\
 ((!x17) = false ->
 (x7 = true ->
 ∀ _ : Nat -> Nat, ∃ R', Holds Try.prog 100 [A.agg [x11, x12, x13, x14]] [] R' /\
 (∀ v H', R' (.ret v) H' -> ∃ x18 : List D, v = A.agg x18 /\ H' = [] /\
 tB ((x18.length : Int) == 4) = true /\
 R (.ret (A.agg [D.lit (.int .i64 2), x18.getD 0 D0, x18.getD 1 D0, x18.getD 2 D0, x18.getD 3 D0, (D.slc ([] : List (List D)))])) [((Ref.up q0), [A.d (D.lit (Zaa x15)), A.d (D.lit (.int .i64 x16)), A.d (D.lit (.bool x17))])]) /\
 (∀ x18v H', R' (.pan x18v) H' -> H' = [] /\
 R (.pan x18v) [((Ref.up q0), [A.d (D.lit (Zaa x15)), A.d (D.lit (.int .i64 x16)), A.d (D.lit (.bool x17))])])) /\
 (x7 = false ->
 R (.ret (A.agg [D.lit (.int .i64 2), x11, x12, x13, x14, (D.slc ([] : List (List D)))])) [((Ref.up q0), [A.d (D.lit (Zaa x15)), A.d (D.lit (.int .i64 x16)), A.d (D.lit (.bool x17))])]))) /\
 True) /\
 (∀ x7v H', R' (.pan x7v) H' -> ∃ x8 : List UInt8, ∃ x9 : Int, ∃ x10 : Bool, H' = [(Ref.up (Ref.up q0), [A.d (D.lit (Zaa x8)), A.d (D.lit (.int .i64 x9)), A.d (D.lit (.bool x10))])] /\
 R (.pan x7v) [((Ref.up q0), [A.d (D.lit (Zaa x8)), A.d (D.lit (.int .i64 x9)), A.d (D.lit (.bool x10))])]))) /\
 (∀ x3v H', R' (.pan x3v) H' -> ∃ x4 : List UInt8, ∃ x5 : Int, ∃ x6 : Bool, H' = [(Ref.up (Ref.up q0), [A.d (D.lit (Zaa x4)), A.d (D.lit (.int .i64 x5)), A.d (D.lit (.bool x6))])] /\
 R (.pan x3v) [((Ref.up q0), [A.d (D.lit (Zaa x4)), A.d (D.lit (.int .i64 x5)), A.d (D.lit (.bool x6))])])) :
 Holds Try.prog 86 [A.ptr (Ref.up q0) 0] [((Ref.up q0), [A.d (D.lit (Zaa x0)), A.d (D.lit (.int .i64 x1)), A.d (D.lit (.bool x2))])] R :=
 walk (c := ⟨Try.prog, 42, true, [0, 2, 3, 4, 5, 6, 8, 16, 21, 29, 36, 37]⟩) (op := {}) (fn := Try.f86) (args := [.ptr (.up 0) 0]) (K := [(.up 0, [.c (.o1 .cs (.var 0)), .c (.o1 (.ci .i64) (.var 1)), .c (.o1 .cb (.o1 .tb (.var 2)))])]) (nv := 3) (depth := 6) (up := upOf [q0]) (ρ := Zat [.s x0, .i x1, .b x2])
  rfl rfl rfl rfl rfl (by decide) (by decide) (by decide) (by decide) rfl (by simp [Zad, RRef.den, upOf]) (T_of (by kernel_rfl) h)
theorem w95 {R : RT} (x0 : List UInt8) (x1 : Int) (x2 : Bool) (x3 : Int) (q0 : Ref) (h : ∃ x4 : Bool, (∀ _ : Nat -> Nat, Holds Try.prog 67 [A.ptr (.up (Ref.up q0)) 0] [(Ref.up (Ref.up q0), [A.d (D.lit (Zaa x0)), A.d (D.lit (.int .i64 x1)), A.d (D.lit (.bool x2))])] (Zce [(Ref.up (Ref.up q0), [A.d (D.lit (Zaa x0)), A.d (D.lit (.int .i64 x1)), A.d (D.lit (.bool x2))])] (A.d (D.lit (.bool x4))))) /\
 ((!x4) || (tB (decide (0 <= x1)))) = true /\
 ((!x4) || (tB (decide (x1 < (x0.length : Int))))) = true /\
 (x4 = true ->
 ∃ x5 : Int, (∀ _ : Nat -> Nat, Holds Try.prog 103 [A.d (D.lit (.int .u8 (Zak x0 x1)))] [] (Zce [] (A.d (D.lit (.int .i64 x5))))) /\
 ((tB (decide (x5 < 0))) || (tB (decide (0 <= x1)))) = true /\
 ((tB (decide (x5 < 0))) || (tB (decide (x1 < (x0.length : Int))))) = true /\
 ((!(tB (decide (x5 < 0)))) = true ->
 ∃ x6 : Int, (∀ _ : Nat -> Nat, Holds Try.prog 103 [A.d (D.lit (.int .u8 (Zak x0 x1)))] [] (Zce [] (A.d (D.lit (.int .i64 x6))))) /\
 tB (decide ((-9223372036854775808) <= (x6 * 16))) = true /\
 tB (decide ((x6 * 16) <= 9223372036854775807)) = true /\
 tB (decide ((-9223372036854775808) <= ((x6 * 16) + 15))) = true /\
 tB (decide (((x6 * 16) + 15) <= 9223372036854775807)) = true /\
 (tB (decide (((x6 * 16) + 15) < x3)) = true ->
 R (.ret (A.d (D.lit (.int .i64 0)))) [((Ref.up q0), [A.d (D.lit (Zaa x0)), A.d (D.lit (.int .i64 x1)), A.d (D.lit (.bool true))])]) /\
 (tB (decide (((x6 * 16) + 15) < x3)) = false ->
 tB (decide (0 <= x1)) = true /\
 tB (decide (x1 < (x0.length : Int))) = true /\
 ∀ _ : Nat -> Nat, ∃ R', Holds Try.prog 103 [A.d (D.lit (.int .u8 (Zak x0 x1)))] [] R' /\
 (∀ v H', R' (.ret v) H' -> ∃ x7 : Int, v = A.d (D.lit (.int .i64 x7)) /\ H' = [] /\
 tB (decide ((-9223372036854775808) <= (x7 * 16))) = true /\
 tB (decide ((x7 * 16) <= 9223372036854775807)) = true /\
 tB (decide ((-9223372036854775808) <= (x1 + 1))) = true /\
 tB (decide ((x1 + 1) <= 9223372036854775807)) = true /\
 ∃ x8 : Bool, (∀ _ : Nat -> Nat, Holds Try.prog 67 [A.ptr (.up (Ref.up q0)) 0] [(Ref.up (Ref.up q0), [A.d (D.lit (Zaa x0)), A.d (D.lit (.int .i64 (x1 + 1))), A.d (D.lit (.bool x2))])] (Zce [(Ref.up (Ref.up q0), [A.d (D.lit (Zaa x0)), A.d (D.lit (.int .i64 (x1 + 1))), A.d (D.lit (.bool x2))])] (A.d (D.lit (.bool x8))))) /\
 ((!x8) || (tB (decide (0 <= (x1 + 1))))) = true /\
 ((!x8) || (tB (decide ((x1 + 1) < (x0.length : Int))))) = true /\
 (x8 = true ->
 ∃ x9 : Int, (∀ _ : Nat -> Nat, Holds Try.prog 103 [A.d (D.lit (.int .u8 (Zak x0 (x1 + 1))))] [] (Zce [] (A.d (D.lit (.int .i64 x9))))) /\
 ((tB (decide (x9 < 0))) || (tB (decide (0 <= (x1 + 1))))) = true /\
 ((tB (decide (x9 < 0))) || (tB (decide ((x1 + 1) < (x0.length : Int))))) = true /\
 ((!(tB (decide (x9 < 0)))) = true ->
 ∃ x10 : Int, (∀ _ : Nat -> Nat, Holds Try.prog 103 [A.d (D.lit (.int .u8 (Zak x0 (x1 + 1))))] [] (Zce [] (A.d (D.lit (.int .i64 x10))))) /\
 tB (decide ((-9223372036854775808) <= ((x7 * 16) + x10))) = true /\
 tB (decide (((x7 * 16) + x10) <= 9223372036854775807)) = true /\
 (tB (decide (((x7 * 16) + x10) < x3)) = true ->
 R (.ret (A.d (D.lit (.int .i64 0)))) [((Ref.up q0), [A.d (D.lit (Zaa x0)), A.d (D.lit (.int .i64 (x1 + 1))), A.d (D.lit (.bool true))])]) /\
 (tB (decide (((x7 * 16) + x10) < x3)) = false ->
 tB (decide ((-9223372036854775808) <= ((x1 + 1) + 1))) = true /\
 tB (decide (((x1 + 1) + 1) <= 9223372036854775807)) = true /\
 tB (decide ((-9223372036854775808) <= (((x1 + 1) + 1) - 1))) = true /\
 tB (decide ((((x1 + 1) + 1) - 1) <= 9223372036854775807)) = true /\
 tB (decide (0 <= (((x1 + 1) + 1) - 1))) = true /\
 tB (decide ((((x1 + 1) + 1) - 1) < (x0.length : Int))) = true /\
 ∃ x11 : Int, (∀ _ : Nat -> Nat, Holds Try.prog 103 [A.d (D.lit (.int .u8 (Zak x0 (((x1 + 1) + 1) - 1))))] [] (Zce [] (A.d (D.lit (.int .i64 x11))))) /\
 tB (decide ((-9223372036854775808) <= ((x7 * 16) + x11))) = true /\
 tB (decide (((x7 * 16) + x11) <= 9223372036854775807)) = true /\
 R (.ret (A.d (D.lit (.int .i64 ((x7 * 16) + x11))))) [((Ref.up q0), [A.d (D.lit (Zaa x0)), A.d (D.lit (.int .i64 ((x1 + 1) + 1))), A.d (D.lit (.bool x2))])])) /\
 ((!(tB (decide (x9 < 0)))) = false ->
 R (.ret (A.d (D.lit (.int .i64 0)))) [((Ref.up q0), [A.d (D.lit (Zaa x0)), A.d (D.lit (.int .i64 (x1 + 1))), A.d (D.lit (.bool true))])])) /\
 (x8 = false ->
 R (.ret (A.d (D.lit (.int .i64 0)))) [((Ref.up q0), [A.d (D.lit (Zaa x0)), A.d (D.lit (.int .i64 (x1 + 1))), A.d (D.lit (.bool true))])])) /\
 (∀ x7v H', R' (.pan x7v) H' -> H' = [] /\
 R (.pan x7v) [((Ref.up q0), [A.d (D.lit (Zaa x0)), A.d (D.lit (.int .i64 x1)), A.d (D.lit (.bool x2))])]))) /\
 ((!(tB (decide (x5 < 0)))) = false ->
 R (.ret (A.d (D.lit (.int .i64 0)))) [((Ref.up q0), [A.d (D.lit (Zaa x0)), A.d (D.lit (.int .i64 x1)), A.d (D.lit (.bool true))])])) /\
 (x4 = false ->
 R (.ret (A.d (D.lit (.int .i64 0)))) [((Ref.up q0), [A.d (D.lit (Zaa x0)), A.d (D.lit (.int .i64 x1)), A.d (D.lit (.bool true))])])) :
 Holds Try.prog 95 [A.ptr (Ref.up q0) 0, A.d (D.lit (.int .i64 x3))] [((Ref.up q0), [A.d (D.lit (Zaa x0)), A.d (D.lit (.int .i64 x1)), A.d (D.lit (.bool x2))])] R :=
 walk (c := ⟨Try.prog, 116, true, [0, 1, 4, 5, 37, 91]⟩) (op := {}) (fn := Try.f95) (args := [.ptr (.up 0) 0, .c (.o1 (.ci .i64) (.var 3))]) (K := [(.up 0, [.c (.o1 .cs (.var 0)), .c (.o1 (.ci .i64) (.var 1)), .c (.o1 .cb (.o1 .tb (.var 2)))])]) (nv := 4) (depth := 7) (up := upOf [q0]) (ρ := Zat [.s x0, .i x1, .b x2, .i x3])
  rfl rfl rfl rfl rfl (by decide) (by decide) (by decide) (by decide) rfl (by simp [Zad, RRef.den, upOf]) (T_of (by kernel_rfl) h)
theorem w98 {R : RT} (x0 : List UInt8) (x1 : Int) (x2 : Bool) (x3 : Int) (q0 : Ref) (h : ∀ _ : Nat -> Nat, ∃ R', Holds Try.prog 52 [A.ptr (.up (Ref.up q0)) 0, A.d (D.lit (.int .u8 92))] [(Ref.up (Ref.up q0), [A.d (D.lit (Zaa x0)), A.d (D.lit (.int .i64 x1)), A.d (D.lit (.bool x2))])] R' /\
 (∀ v H', R' (.ret v) H' -> ∃ x4 : Bool, ∃ x5 : List UInt8, ∃ x6 : Int, ∃ x7 : Bool, v = A.d (D.lit (.bool x4)) /\ H' = [(Ref.up (Ref.up q0), [A.d (D.lit (Zaa x5)), A.d (D.lit (.int .i64 x6)), A.d (D.lit (.bool x7))])] /\
 (x4 = true ->
 ∀ _ : Nat -> Nat, ∃ R', Holds Try.prog 52 [A.ptr (.up (Ref.up q0)) 0, A.d (D.lit (.int .u8 120))] [(Ref.up (Ref.up q0), [A.d (D.lit (Zaa x5)), A.d (D.lit (.int .i64 x6)), A.d (D.lit (.bool x7))])] R' /\
 (∀ v H', R' (.ret v) H' -> ∃ x8 : Bool, ∃ x9 : List UInt8, ∃ x10 : Int, ∃ x11 : Bool, v = A.d (D.lit (.bool x8)) /\ H' = [(Ref.up (Ref.up q0), [A.d (D.lit (Zaa x9)), A.d (D.lit (.int .i64 x10)), A.d (D.lit (.bool x11))])] /\
 (x8 = true ->
 ∀ _ : Nat -> Nat, ∃ R', Holds Try.prog 95 [A.ptr (.up (Ref.up q0)) 0, A.d (D.lit (.int .i64 x3))] [(Ref.up (Ref.up q0), [A.d (D.lit (Zaa x9)), A.d (D.lit (.int .i64 x10)), A.d (D.lit (.bool x11))])] R' /\
 (∀ v H', R' (.ret v) H' -> ∃ x12 : Int, ∃ x13 : List UInt8, ∃ x14 : Int, ∃ x15 : Bool, v = A.d (D.lit (.int .i64 x12)) /\ H' = [(Ref.up (Ref.up q0), [A.d (D.lit (Zaa x13)), A.d (D.lit (.int .i64 x14)), A.d (D.lit (.bool x15))])] /\
 R (.ret (A.d (D.lit (.int .i64 x12)))) [((Ref.up q0), [A.d (D.lit (Zaa x13)), A.d (D.lit (.int .i64 x14)), A.d (D.lit (.bool x15))])]) /\
 (∀ x12v H', R' (.pan x12v) H' -> ∃ x13 : List UInt8, ∃ x14 : Int, ∃ x15 : Bool, H' = [(Ref.up (Ref.up q0), [A.d (D.lit (Zaa x13)), A.d (D.lit (.int .i64 x14)), A.d (D.lit (.bool x15))])] /\
 R (.pan x12v) [((Ref.up q0), [A.d (D.lit (Zaa x13)), A.d (D.lit (.int .i64 x14)), A.d (D.lit (.bool x15))])])) /\
 (x8 = false ->
 ∀ _ : Nat -> Nat, ∃ R', Holds Try.prog 67 [A.ptr (.up (Ref.up q0)) 0] [(Ref.up (Ref.up q0), [A.d (D.lit (Zaa x9)), A.d (D.lit (.int .i64 x10)), A.d (D.lit (.bool x11))])] R' /\
 (∀ v H', R' (.ret v) H' -> ∃ x12 : Bool, ∃ x13 : List UInt8, ∃ x14 : Int, ∃ x15 : Bool, v = A.d (D.lit (.bool x12)) /\ H' = [(Ref.up (Ref.up q0), [A.d (D.lit (Zaa x13)), A.d (D.lit (.int .i64 x14)), A.d (D.lit (.bool x15))])] /\
 (x12 = true ->
 tB (decide (0 <= x14)) = true /\
 tB (decide (x14 < (x13.length : Int))) = true /\
 ∀ _ : Nat -> Nat, ∃ R', Holds Try.prog 97 [A.d (D.lit (.int .u8 (Zak x13 x14)))] [] R' /\
 (∀ v H', R' (.ret v) H' -> ∃ x16 : Int, v = A.d (D.lit (.int .i64 x16)) /\ H' = [] /\
 ∀ _ : Nat -> Nat, ∃ R', Holds Try.prog 87 [A.d (D.lit (.int .u8 (Zak x13 x14)))] [] R' /\
 (∀ v H', R' (.ret v) H' -> ∃ x17 : Bool, v = A.d (D.lit (.bool x17)) /\ H' = [] /\
 (((x17 || (tB ((Zak x13 x14) == 94))) || (tB ((Zak x13 x14) == 45))) = true ->
 tB (decide ((-9223372036854775808) <= (Zak x13 x14))) = true /\
 tB (decide ((Zak x13 x14) <= 9223372036854775807)) = true /\
 (tB (decide (x3 <= (Zak x13 x14))) = true ->
 tB (decide ((-9223372036854775808) <= (x14 + 1))) = true /\
 tB (decide ((x14 + 1) <= 9223372036854775807)) = true /\
 R (.ret (A.d (D.lit (.int .i64 (Zak x13 x14))))) [((Ref.up q0), [A.d (D.lit (Zaa x13)), A.d (D.lit (.int .i64 (x14 + 1))), A.d (D.lit (.bool x15))])]) /\
 (tB (decide (x3 <= (Zak x13 x14))) = false ->
 R (.ret (A.d (D.lit (.int .i64 0)))) [((Ref.up q0), [A.d (D.lit (Zaa x13)), A.d (D.lit (.int .i64 x14)), A.d (D.lit (.bool true))])])) /\
 (((x17 || (tB ((Zak x13 x14) == 94))) || (tB ((Zak x13 x14) == 45))) = false ->
 (tB (decide (x3 <= x16)) = true ->
 tB (decide ((-9223372036854775808) <= (x14 + 1))) = true /\
 tB (decide ((x14 + 1) <= 9223372036854775807)) = true /\
 R (.ret (A.d (D.lit (.int .i64 x16)))) [((Ref.up q0), [A.d (D.lit (Zaa x13)), A.d (D.lit (.int .i64 (x14 + 1))), A.d (D.lit (.bool x15))])]) /\
 (tB (decide (x3 <= x16)) = false ->
 R (.ret (A.d (D.lit (.int .i64 0)))) [((Ref.up q0), [A.d (D.lit (Zaa x13)), A.d (D.lit (.int .i64 x14)), A.d (D.lit (.bool true))])]))) /\
 (∀ x17v H', R' (.pan x17v) H' -> H' = [] /\
 R (.pan x17v) [((Ref.up q0), [A.d (D.lit (Zaa x13)), A.d (D.lit (.int .i64 x14)), A.d (D.lit (.bool x15))])])) /\
 (∀ x16v H', R' (.pan x16v) H' -> H' = [] /\
 R (.pan x16v) [((Ref.up q0), [A.d (D.lit (Zaa x13)), A.d (D.lit (.int .i64 x14)), A.d (D.lit (.bool x15))])])) /\
 (x12 = false ->
 R (.ret (A.d (D.lit (.int .i64 0)))) [((Ref.up q0), [A.d (D.lit (Zaa x13)), A.d (D.lit (.int .i64 x14)), A.d (D.lit (.bool true))])])) /\
 (∀ x12v H', R' (.pan x12v) H' -> ∃ x13 : List UInt8, ∃ x14 : Int, ∃ x15 : Bool, H' = [(Ref.up (Ref.up q0), [A.d (D.lit (Zaa x13)), A.d (D.lit (.int .i64 x14)), A.d (D.lit (.bool x15))])] /\
 R (.pan x12v) [((Ref.up q0), [A.d (D.lit (Zaa x13)), A.d (D.lit (.int .i64 x14)), A.d (D.lit (.bool x15))])]))) /\
 (∀ x8v H', R' (.pan x8v) H' -> ∃ x9 : List UInt8, ∃ x10 : Int, ∃ x11 : Bool, H' = [(Ref.up (Ref.up q0), [A.d (D.lit (Zaa x9)), A.d (D.lit (.int .i64 x10)), A.d (D.lit (.bool x11))])] /\
 R (.pan x8v) [((Ref.up q0), [A.d (D.lit (Zaa x9)), A.d (D.lit (.int .i64 x10)), A.d (D.lit (.bool x11))])])) /\
 (x4 = false ->
 ∀ _ : Nat -> Nat, ∃ R', Holds Try.prog 67 [A.ptr (.up (Ref.up q0)) 0] [(Ref.up (Ref.up q0), [A.d (D.lit (Zaa x5)), A.d (D.lit (.int .i64 x6)), A.d (D.lit (.bool x7))])] R' /\
 (∀ v H', R' (.ret v) H' -> ∃ x8 : Bool, ∃ x9 : List UInt8, ∃ x10 : Int, ∃ x11 : Bool, v = A.d (D.lit (.bool x8)) /\ H' = [(Ref.up (Ref.up q0), [A.d (D.lit (Zaa x9)), A.d (D.lit (.int .i64 x10)), A.d (D.lit (.bool x11))])] /\
 ((!x8) = true ->
 R (.ret (A.d (D.lit (.int .i64 0)))) [((Ref.up q0), [A.d (D.lit (Zaa x9)), A.d (D.lit (.int .i64 x10)), A.d (D.lit (.bool true))])]) /\
 ((!x8) = false ->
 tB (decide (0 <= x10)) = true /\
 tB (decide (x10 < (x9.length : Int))) = true /\
 ((!((tB (decide ((Zak x9 x10) < 32))) || (tB (decide (126 < (Zak x9 x10)))))) = true ->
 ∀ _ : Nat -> Nat, ∃ R', Holds Try.prog 87 [A.d (D.lit (.int .u8 (Zak x9 x10)))] [] R' /\
 (∀ v H', R' (.ret v) H' -> ∃ x12 : Bool, v = A.d (D.lit (.bool x12)) /\ H' = [] /\
 (((x12 || (tB ((Zak x9 x10) == 94))) || (tB ((Zak x9 x10) == 45))) || (tB (decide ((-9223372036854775808) <= (Zak x9 x10))))) = true /\
 (((x12 || (tB ((Zak x9 x10) == 94))) || (tB ((Zak x9 x10) == 45))) || (tB (decide ((Zak x9 x10) <= 9223372036854775807)))) = true /\
 ((((x12 || (tB ((Zak x9 x10) == 94))) || (tB ((Zak x9 x10) == 45))) || (tB (decide ((Zak x9 x10) < x3)))) = true ->
 R (.ret (A.d (D.lit (.int .i64 0)))) [((Ref.up q0), [A.d (D.lit (Zaa x9)), A.d (D.lit (.int .i64 x10)), A.d (D.lit (.bool true))])]) /\
 ((((x12 || (tB ((Zak x9 x10) == 94))) || (tB ((Zak x9 x10) == 45))) || (tB (decide ((Zak x9 x10) < x3)))) = false ->
 tB (decide ((-9223372036854775808) <= (x10 + 1))) = true /\
 tB (decide ((x10 + 1) <= 9223372036854775807)) = true /\
 tB (decide ((-9223372036854775808) <= (Zak x9 x10))) = true /\
 tB (decide ((Zak x9 x10) <= 9223372036854775807)) = true /\
 R (.ret (A.d (D.lit (.int .i64 (Zak x9 x10))))) [((Ref.up q0), [A.d (D.lit (Zaa x9)), A.d (D.lit (.int .i64 (x10 + 1))), A.d (D.lit (.bool x11))])])) /\
 (∀ x12v H', R' (.pan x12v) H' -> H' = [] /\
 R (.pan x12v) [((Ref.up q0), [A.d (D.lit (Zaa x9)), A.d (D.lit (.int .i64 x10)), A.d (D.lit (.bool x11))])])) /\
 ((!((tB (decide ((Zak x9 x10) < 32))) || (tB (decide (126 < (Zak x9 x10)))))) = false ->
 R (.ret (A.d (D.lit (.int .i64 0)))) [((Ref.up q0), [A.d (D.lit (Zaa x9)), A.d (D.lit (.int .i64 x10)), A.d (D.lit (.bool true))])]))) /\
 (∀ x8v H', R' (.pan x8v) H' -> ∃ x9 : List UInt8, ∃ x10 : Int, ∃ x11 : Bool, H' = [(Ref.up (Ref.up q0), [A.d (D.lit (Zaa x9)), A.d (D.lit (.int .i64 x10)), A.d (D.lit (.bool x11))])] /\
 R (.pan x8v) [((Ref.up q0), [A.d (D.lit (Zaa x9)), A.d (D.lit (.int .i64 x10)), A.d (D.lit (.bool x11))])]))) /\
 (∀ x4v H', R' (.pan x4v) H' -> ∃ x5 : List UInt8, ∃ x6 : Int, ∃ x7 : Bool, H' = [(Ref.up (Ref.up q0), [A.d (D.lit (Zaa x5)), A.d (D.lit (.int .i64 x6)), A.d (D.lit (.bool x7))])] /\
 R (.pan x4v) [((Ref.up q0), [A.d (D.lit (Zaa x5)), A.d (D.lit (.int .i64 x6)), A.d (D.lit (.bool x7))])])) :
 Holds Try.prog 98 [A.ptr (Ref.up q0) 0, A.d (D.lit (.int .i64 x3))] [((Ref.up q0), [A.d (D.lit (Zaa x0)), A.d (D.lit (.int .i64 x1)), A.d (D.lit (.bool x2))])] R :=
 walk (c := ⟨Try.prog, 107, true, [0, 1, 4, 5, 6, 7, 9, 11, 16, 37, 42, 57, 93]⟩) (op := {}) (fn := Try.f98) (args := [.ptr (.up 0) 0, .c (.o1 (.ci .i64) (.var 3))]) (K := [(.up 0, [.c (.o1 .cs (.var 0)), .c (.o1 (.ci .i64) (.var 1)), .c (.o1 .cb (.o1 .tb (.var 2)))])]) (nv := 4) (depth := 7) (up := upOf [q0]) (ρ := Zat [.s x0, .i x1, .b x2, .i x3])
  rfl rfl rfl rfl rfl (by decide) (by decide) (by decide) (by decide) rfl (by simp [Zad, RRef.den, upOf]) (T_of (by kernel_rfl) h)
theorem w20 {R : RT} (x0 : List UInt8) (h : (tB (decide (1000 < (x0.length : Int))) = true ->
 R (.ret (A.tup [(true, [D.lit (.int .i64 0), D.lit (.int .u64 0), D.lit (.int .u64 0), D.lit (.int .u64 0), D.lit (.int .u64 0), (D.slc ([] : List (List D)))]), (true, [D.lit (.int .i64 2), D.lit (.int .i64 0)])])) []) /\
 (tB (decide (1000 < (x0.length : Int))) = false ->
 ∀ ν : Nat -> Nat, ∃ R', Holds Try.prog 39 [A.ptr (.up (Ref.own 13 (ν 13))) 0] [(Ref.up (Ref.own 13 (ν 13)), [A.d (D.lit (Zaa x0)), A.d (D.lit (.int .i64 0)), A.d (D.lit (.bool false))])] R' /\
 (∀ v H', R' (.ret v) H' -> ∃ x1 : List D, ∃ x2 : List UInt8, ∃ x3 : Int, ∃ x4 : Bool, v = A.agg x1 /\ H' = [(Ref.up (Ref.own 13 (ν 13)), [A.d (D.lit (Zaa x2)), A.d (D.lit (.int .i64 x3)), A.d (D.lit (.bool x4))])] /\
 tB ((x1.length : Int) == 6) = true /\
 ((x4 || (tB (decide (x3 < (x0.length : Int))))) = true ->
 R (.ret (A.tup [(true, [D.lit (.int .i64 0), D.lit (.int .u64 0), D.lit (.int .u64 0), D.lit (.int .u64 0), D.lit (.int .u64 0), (D.slc ([] : List (List D)))]), (true, [D.lit (.int .i64 8), D.lit (.int .i64 x3)])])) []) /\
 ((x4 || (tB (decide (x3 < (x0.length : Int))))) = false ->
 ∀ _ : Nat -> Nat, ∃ R', Holds Try.prog 16 [A.agg x1] [] R' /\
 (∀ v H', R' (.ret v) H' -> ∃ x5 : Int, v = A.d (D.lit (.int .i64 x5)) /\ H' = [] /\
 (tB (x5 == 9) = true ->
 R (.ret (A.tup [(true, [D.lit (.int .i64 0), D.lit (.int .u64 0), D.lit (.int .u64 0), D.lit (.int .u64 0), D.lit (.int .u64 0), (D.slc ([] : List (List D)))]), (true, [D.lit (.int .i64 9), D.lit (.int .i64 0)])])) []) /\
 (tB (x5 == 9) = false ->
 R (.ret (A.tup [(true, x1), (true, [D.lit (.int .i64 0), D.lit (.int .i64 0)])])) [])) /\
 PN R R')) /\
 (∀ x1v H', R' (.pan x1v) H' -> ∃ x2 : List UInt8, ∃ x3 : Int, ∃ x4 : Bool, H' = [(Ref.up (Ref.own 13 (ν 13)), [A.d (D.lit (Zaa x2)), A.d (D.lit (.int .i64 x3)), A.d (D.lit (.bool x4))])] /\
 R (.pan x1v) []))) :
 Holds Try.prog 20 [A.d (D.lit (Zaa x0))] [] R :=
 walk (c := ⟨Try.prog, 42, true, [0, 2, 3, 4, 5, 8, 28, 37]⟩) (op := { lat := [6] }) (fn := Try.f20) (args := [.c (.o1 .cs (.var 0))]) (K := []) (nv := 1) (depth := 6) (up := upOf []) (ρ := Zat [.s x0])
  rfl rfl rfl rfl rfl (by decide) (by decide) (by decide) (by decide) rfl (by simp [Zad, RRef.den, upOf]) (T_of (by kernel_rfl) h)
end Go.Rx
end
