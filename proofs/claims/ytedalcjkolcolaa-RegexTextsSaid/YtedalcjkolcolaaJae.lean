/- Part 5 of the proof: Wsets, Wchk, Wpar, Wder, Wprs, Wmat, Wtxt, Wtop. -/
import Derived.Test.YtedalcjkolcolaaProg
import Derived.Test.YtedalcjkolcolaaJad
set_option linter.unusedVariables false
set_option linter.unusedSimpArgs false
section
open Go Go.Proofs Go.Ab Go.Rf
set_option maxRecDepth 1000000
set_option maxHeartbeats 2000000
set_option linter.unusedVariables false
namespace Go.Rx
abbrev RT := Out -> List (Ref × List A) -> Prop
abbrev PN (R R' : RT) : Prop := ∀ v H', R' (.pan v) H' -> H' = [] /\ R (.pan v) []
theorem w83 {R : RT} (x0 : List UInt8) (x1 : Int) (h : ∀ _ : Nat -> Nat, ∃ R', Holds Try.prog 94 [A.d (D.lit (Zaa x0)), A.d (D.lit (.int .u8 x1))] [] R' /\
 (∀ v H', R' (.ret v) H' -> ∃ x2 : Int, v = A.d (D.lit (.int .i64 x2)) /\ H' = [] /\
 R (.ret (A.d (D.lit (.int .i64 x2)))) []) /\
 PN R R') :
 Holds Try.prog 83 [A.d (D.lit (Zaa x0)), A.d (D.lit (.int .u8 x1))] [] R :=
 walk (c := ⟨Try.prog, 8, true, [0, 1, 4]⟩) (op := {}) (fn := Try.f83) (args := [.c (.o1 .cs (.var 0)), .c (.o1 (.ci .u8) (.var 1))]) (K := []) (nv := 2) (depth := 4) (up := upOf []) (ρ := Zat [.s x0, .i x1])
  rfl rfl rfl rfl rfl (by decide) (by decide) (by decide) (by decide) rfl (by simp [Zad, RRef.den, upOf]) (T_of (by kernel_rfl) h)
theorem w94 {R : RT} (x0 : List UInt8) (x1 : Int) (h : ∀ _ : Nat -> Nat, ∃ R', Holds Try.prog 102 [A.d (D.lit (Zaa x0)), A.d (D.lit (.int .u8 x1))] [] R' /\
 (∀ v H', R' (.ret v) H' -> ∃ x2 : Int, v = A.d (D.lit (.int .i64 x2)) /\ H' = [] /\
 R (.ret (A.d (D.lit (.int .i64 x2)))) []) /\
 PN R R') :
 Holds Try.prog 94 [A.d (D.lit (Zaa x0)), A.d (D.lit (.int .u8 x1))] [] R :=
 walk (c := ⟨Try.prog, 8, true, [0, 1, 4]⟩) (op := {}) (fn := Try.f94) (args := [.c (.o1 .cs (.var 0)), .c (.o1 (.ci .u8) (.var 1))]) (K := []) (nv := 2) (depth := 4) (up := upOf []) (ρ := Zat [.s x0, .i x1])
  rfl rfl rfl rfl rfl (by decide) (by decide) (by decide) (by decide) rfl (by simp [Zad, RRef.den, upOf]) (T_of (by kernel_rfl) h)
theorem w55 {R : RT} (x0 : List D) (x1 : Int) (h : tB ((x0.length : Int) == 4) = true /\
 tB (decide (0 <= (IntKind.wrap .u8 (x1.tdiv 64)))) = true /\
 tB (decide ((IntKind.wrap .u8 (x1.tdiv 64)) < 4)) = true /\
 (tB ((IntKind.wrap .u8 (x1.tdiv 64)) == 0) = true ->
 Rf.isK (.int .u64) (x0.getD 0 D0) = true /\
 tB (decide (0 <= (x1.tmod 64))) = true /\
 R (.ret (A.d (D.lit (.bool (tB ((gAnd .u64 (gShr .u64 (Rf.dint (x0.getD 0 D0)) (x1.tmod 64)) 1) == 1)))))) []) /\
 (tB ((IntKind.wrap .u8 (x1.tdiv 64)) == 0) = false ->
 (tB ((IntKind.wrap .u8 (x1.tdiv 64)) == 1) = true ->
 Rf.isK (.int .u64) (x0.getD 1 D0) = true /\
 tB (decide (0 <= (x1.tmod 64))) = true /\
 R (.ret (A.d (D.lit (.bool (tB ((gAnd .u64 (gShr .u64 (Rf.dint (x0.getD 1 D0)) (x1.tmod 64)) 1) == 1)))))) []) /\
 (tB ((IntKind.wrap .u8 (x1.tdiv 64)) == 1) = false ->
 (tB ((IntKind.wrap .u8 (x1.tdiv 64)) == 2) = true ->
 Rf.isK (.int .u64) (x0.getD 2 D0) = true /\
 tB (decide (0 <= (x1.tmod 64))) = true /\
 R (.ret (A.d (D.lit (.bool (tB ((gAnd .u64 (gShr .u64 (Rf.dint (x0.getD 2 D0)) (x1.tmod 64)) 1) == 1)))))) []) /\
 (tB ((IntKind.wrap .u8 (x1.tdiv 64)) == 2) = false ->
 tB ((IntKind.wrap .u8 (x1.tdiv 64)) == 3) = true /\
 Rf.isK (.int .u64) (x0.getD 3 D0) = true /\
 tB (decide (0 <= (x1.tmod 64))) = true /\
 R (.ret (A.d (D.lit (.bool (tB ((gAnd .u64 (gShr .u64 (Rf.dint (x0.getD 3 D0)) (x1.tmod 64)) 1) == 1)))))) [])))) :
 Holds Try.prog 55 [A.agg x0, A.d (D.lit (.int .u8 x1))] [] R :=
 walk (c := ⟨Try.prog, 14, true, [0, 1, 2, 4]⟩) (op := {}) (fn := Try.f55) (args := [.agg (.var 0), .c (.o1 (.ci .u8) (.var 1))]) (K := []) (nv := 2) (depth := 4) (up := upOf []) (ρ := Zat [.r x0, .i x1])
  rfl rfl rfl rfl rfl (by decide) (by decide) (by decide) (by decide) rfl (by simp [Zad, RRef.den, upOf]) (T_of (by kernel_rfl) h)
theorem w63 {R : RT} (x0 : List D) (x1 : Int) (h : tB ((x0.length : Int) == 4) = true /\
 tB (decide (0 <= (IntKind.wrap .u8 (x1.tdiv 64)))) = true /\
 tB (decide ((IntKind.wrap .u8 (x1.tdiv 64)) < 4)) = true /\
 (tB ((IntKind.wrap .u8 (x1.tdiv 64)) == 0) = true ->
 Rf.isK (.int .u64) (x0.getD 0 D0) = true /\
 tB (decide (0 <= (x1.tmod 64))) = true /\
 R (.ret (A.d (D.lit (.bool (tB ((gAnd .u64 (gShr .u64 (Rf.dint (x0.getD 0 D0)) (x1.tmod 64)) 1) == 1)))))) []) /\
 (tB ((IntKind.wrap .u8 (x1.tdiv 64)) == 0) = false ->
 (tB ((IntKind.wrap .u8 (x1.tdiv 64)) == 1) = true ->
 Rf.isK (.int .u64) (x0.getD 1 D0) = true /\
 tB (decide (0 <= (x1.tmod 64))) = true /\
 R (.ret (A.d (D.lit (.bool (tB ((gAnd .u64 (gShr .u64 (Rf.dint (x0.getD 1 D0)) (x1.tmod 64)) 1) == 1)))))) []) /\
 (tB ((IntKind.wrap .u8 (x1.tdiv 64)) == 1) = false ->
 (tB ((IntKind.wrap .u8 (x1.tdiv 64)) == 2) = true ->
 Rf.isK (.int .u64) (x0.getD 2 D0) = true /\
 tB (decide (0 <= (x1.tmod 64))) = true /\
 R (.ret (A.d (D.lit (.bool (tB ((gAnd .u64 (gShr .u64 (Rf.dint (x0.getD 2 D0)) (x1.tmod 64)) 1) == 1)))))) []) /\
 (tB ((IntKind.wrap .u8 (x1.tdiv 64)) == 2) = false ->
 tB ((IntKind.wrap .u8 (x1.tdiv 64)) == 3) = true /\
 Rf.isK (.int .u64) (x0.getD 3 D0) = true /\
 tB (decide (0 <= (x1.tmod 64))) = true /\
 R (.ret (A.d (D.lit (.bool (tB ((gAnd .u64 (gShr .u64 (Rf.dint (x0.getD 3 D0)) (x1.tmod 64)) 1) == 1)))))) [])))) :
 Holds Try.prog 63 [A.agg x0, A.d (D.lit (.int .u8 x1))] [] R :=
 walk (c := ⟨Try.prog, 14, true, [0, 1, 2, 4]⟩) (op := {}) (fn := Try.f63) (args := [.agg (.var 0), .c (.o1 (.ci .u8) (.var 1))]) (K := []) (nv := 2) (depth := 4) (up := upOf []) (ρ := Zat [.r x0, .i x1])
  rfl rfl rfl rfl rfl (by decide) (by decide) (by decide) (by decide) rfl (by simp [Zad, RRef.den, upOf]) (T_of (by kernel_rfl) h)
theorem w79 {R : RT} (x0 : Int) (x1 : Int) (h : ∃ (I0_0 : Int -> Int -> Int -> Int -> Int -> Prop) (M0_0 : Int -> Int -> Int -> Int -> Int -> Nat), I0_0 0 0 0 0 0 /\
 (∀ (x2 : Int) (x3 : Int) (x4 : Int) (x5 : Int) (x6 : Int) , I0_0 x2 x3 x4 x5 x6 ->
 (tB (decide (x2 < 256)) = true ->
 tB (decide ((-9223372036854775808) <= x0)) = true /\
 tB (decide (x0 <= 9223372036854775807)) = true /\
 ((!(tB (decide (x0 <= x2)))) || (tB (decide ((-9223372036854775808) <= x1)))) = true /\
 ((!(tB (decide (x0 <= x2)))) || (tB (decide (x1 <= 9223372036854775807)))) = true /\
 (((tB (decide (x0 <= x2))) && (tB (decide (x2 <= x1)))) = true ->
 tB (decide ((-9223372036854775808) <= (x2.tdiv 64))) = true /\
 tB (decide ((x2.tdiv 64) <= 9223372036854775807)) = true /\
 tB (decide (0 <= (x2.tdiv 64))) = true /\
 tB (decide ((x2.tdiv 64) < 4)) = true /\
 (tB ((x2.tdiv 64) == 0) = true ->
 tB (decide (0 <= (x2.tmod 64))) = true /\
 tB (decide ((-9223372036854775808) <= (x2 + 1))) = true /\
 tB (decide ((x2 + 1) <= 9223372036854775807)) = true /\
 I0_0 (x2 + 1) (gOr .u64 x3 (gShl .u64 1 (x2.tmod 64))) x4 x5 x6 /\ M0_0 (x2 + 1) (gOr .u64 x3 (gShl .u64 1 (x2.tmod 64))) x4 x5 x6 < M0_0 x2 x3 x4 x5 x6) /\
 (tB ((x2.tdiv 64) == 0) = false ->
 (tB ((x2.tdiv 64) == 1) = true ->
 tB (decide (0 <= (x2.tmod 64))) = true /\
 tB (decide ((-9223372036854775808) <= (x2 + 1))) = true /\
 tB (decide ((x2 + 1) <= 9223372036854775807)) = true /\
 I0_0 (x2 + 1) x3 (gOr .u64 x4 (gShl .u64 1 (x2.tmod 64))) x5 x6 /\ M0_0 (x2 + 1) x3 (gOr .u64 x4 (gShl .u64 1 (x2.tmod 64))) x5 x6 < M0_0 x2 x3 x4 x5 x6) /\
 (tB ((x2.tdiv 64) == 1) = false ->
 (tB ((x2.tdiv 64) == 2) = true ->
 tB (decide (0 <= (x2.tmod 64))) = true /\
 tB (decide ((-9223372036854775808) <= (x2 + 1))) = true /\
 tB (decide ((x2 + 1) <= 9223372036854775807)) = true /\
 I0_0 (x2 + 1) x3 x4 (gOr .u64 x5 (gShl .u64 1 (x2.tmod 64))) x6 /\ M0_0 (x2 + 1) x3 x4 (gOr .u64 x5 (gShl .u64 1 (x2.tmod 64))) x6 < M0_0 x2 x3 x4 x5 x6) /\
 (tB ((x2.tdiv 64) == 2) = false ->
 tB ((x2.tdiv 64) == 3) = true /\
 tB (decide (0 <= (x2.tmod 64))) = true /\
 tB (decide ((-9223372036854775808) <= (x2 + 1))) = true /\
 tB (decide ((x2 + 1) <= 9223372036854775807)) = true /\
 I0_0 (x2 + 1) x3 x4 x5 (gOr .u64 x6 (gShl .u64 1 (x2.tmod 64))) /\ M0_0 (x2 + 1) x3 x4 x5 (gOr .u64 x6 (gShl .u64 1 (x2.tmod 64))) < M0_0 x2 x3 x4 x5 x6)))) /\
 (((tB (decide (x0 <= x2))) && (tB (decide (x2 <= x1)))) = false ->
 tB (decide ((-9223372036854775808) <= (x2 + 1))) = true /\
 tB (decide ((x2 + 1) <= 9223372036854775807)) = true /\
 I0_0 (x2 + 1) x3 x4 x5 x6 /\ M0_0 (x2 + 1) x3 x4 x5 x6 < M0_0 x2 x3 x4 x5 x6)) /\
 (tB (decide (x2 < 256)) = false ->
 R (.ret (A.agg [D.lit (.int .u64 x3), D.lit (.int .u64 x4), D.lit (.int .u64 x5), D.lit (.int .u64 x6)])) [])) /\
 True) :
 Holds Try.prog 79 [A.d (D.lit (.int .u8 x0)), A.d (D.lit (.int .u8 x1))] [] R :=
 walk (c := ⟨Try.prog, 31, true, [0, 1, 4, 5, 6, 7, 8, 19]⟩) (op := {}) (fn := Try.f79) (args := [.c (.o1 (.ci .u8) (.var 0)), .c (.o1 (.ci .u8) (.var 1))]) (K := []) (nv := 2) (depth := 5) (up := upOf []) (ρ := Zat [.i x0, .i x1])
  rfl rfl rfl rfl rfl (by decide) (by decide) (by decide) (by decide) rfl (by simp [Zad, RRef.den, upOf]) (T_of (by kernel_rfl) h)
theorem w85 {R : RT} (x0 : Int) (x1 : Int) (h : ∃ (I0_0 : Int -> Int -> Int -> Int -> Int -> Prop) (M0_0 : Int -> Int -> Int -> Int -> Int -> Nat), I0_0 x0 0 0 0 0 /\
 (∀ (x2 : Int) (x3 : Int) (x4 : Int) (x5 : Int) (x6 : Int) , I0_0 x2 x3 x4 x5 x6 ->
 (tB (decide (x2 <= x1)) = true ->
 tB (decide ((-9223372036854775808) <= (x2.tdiv 64))) = true /\
 tB (decide ((x2.tdiv 64) <= 9223372036854775807)) = true /\
 tB (decide (0 <= (x2.tdiv 64))) = true /\
 tB (decide ((x2.tdiv 64) < 4)) = true /\
 (tB ((x2.tdiv 64) == 0) = true ->
 tB (decide (0 <= (x2.tmod 64))) = true /\
 tB (decide ((-9223372036854775808) <= (x2 + 1))) = true /\
 tB (decide ((x2 + 1) <= 9223372036854775807)) = true /\
 I0_0 (x2 + 1) (gOr .u64 x3 (gShl .u64 1 (x2.tmod 64))) x4 x5 x6 /\ M0_0 (x2 + 1) (gOr .u64 x3 (gShl .u64 1 (x2.tmod 64))) x4 x5 x6 < M0_0 x2 x3 x4 x5 x6) /\
 (tB ((x2.tdiv 64) == 0) = false ->
 (tB ((x2.tdiv 64) == 1) = true ->
 tB (decide (0 <= (x2.tmod 64))) = true /\
 tB (decide ((-9223372036854775808) <= (x2 + 1))) = true /\
 tB (decide ((x2 + 1) <= 9223372036854775807)) = true /\
 I0_0 (x2 + 1) x3 (gOr .u64 x4 (gShl .u64 1 (x2.tmod 64))) x5 x6 /\ M0_0 (x2 + 1) x3 (gOr .u64 x4 (gShl .u64 1 (x2.tmod 64))) x5 x6 < M0_0 x2 x3 x4 x5 x6) /\
 (tB ((x2.tdiv 64) == 1) = false ->
 (tB ((x2.tdiv 64) == 2) = true ->
 tB (decide (0 <= (x2.tmod 64))) = true /\
 tB (decide ((-9223372036854775808) <= (x2 + 1))) = true /\
 tB (decide ((x2 + 1) <= 9223372036854775807)) = true /\
 I0_0 (x2 + 1) x3 x4 (gOr .u64 x5 (gShl .u64 1 (x2.tmod 64))) x6 /\ M0_0 (x2 + 1) x3 x4 (gOr .u64 x5 (gShl .u64 1 (x2.tmod 64))) x6 < M0_0 x2 x3 x4 x5 x6) /\
 (tB ((x2.tdiv 64) == 2) = false ->
 tB ((x2.tdiv 64) == 3) = true /\
 tB (decide (0 <= (x2.tmod 64))) = true /\
 tB (decide ((-9223372036854775808) <= (x2 + 1))) = true /\
 tB (decide ((x2 + 1) <= 9223372036854775807)) = true /\
 I0_0 (x2 + 1) x3 x4 x5 (gOr .u64 x6 (gShl .u64 1 (x2.tmod 64))) /\ M0_0 (x2 + 1) x3 x4 x5 (gOr .u64 x6 (gShl .u64 1 (x2.tmod 64))) < M0_0 x2 x3 x4 x5 x6)))) /\
 (tB (decide (x2 <= x1)) = false ->
 R (.ret (A.agg [D.lit (.int .u64 x3), D.lit (.int .u64 x4), D.lit (.int .u64 x5), D.lit (.int .u64 x6)])) [])) /\
 True) :
 Holds Try.prog 85 [A.d (D.lit (.int .i64 x0)), A.d (D.lit (.int .i64 x1))] [] R :=
 walk (c := ⟨Try.prog, 25, true, [0, 1, 4, 5, 6, 10]⟩) (op := {}) (fn := Try.f85) (args := [.c (.o1 (.ci .i64) (.var 0)), .c (.o1 (.ci .i64) (.var 1))]) (K := []) (nv := 2) (depth := 5) (up := upOf []) (ρ := Zat [.i x0, .i x1])
  rfl rfl rfl rfl rfl (by decide) (by decide) (by decide) (by decide) rfl (by simp [Zad, RRef.den, upOf]) (T_of (by kernel_rfl) h)
theorem w91 {R : RT} (x0 : List D) (x1 : List D) (h : tB ((x0.length : Int) == 4) = true /\
 tB ((x1.length : Int) == 4) = true /\
 ∃ (I0_0 : Int -> D -> D -> D -> D -> Prop) (M0_0 : Int -> D -> D -> D -> D -> Nat), I0_0 0 (x0.getD 0 D0) (x0.getD 1 D0) (x0.getD 2 D0) (x0.getD 3 D0) /\
 (∀ (x2 : Int) (x3 : D) (x4 : D) (x5 : D) (x6 : D) , I0_0 x2 x3 x4 x5 x6 ->
 (tB (decide (x2 < 4)) = true ->
 tB (decide (0 <= x2)) = true /\
 (tB (x2 == 0) = true ->
 Rf.isK (.int .u64) x3 = true /\
 Rf.isK (.int .u64) (x1.getD 0 D0) = true /\
 tB (decide ((-9223372036854775808) <= (x2 + 1))) = true /\
 tB (decide ((x2 + 1) <= 9223372036854775807)) = true /\
 I0_0 (x2 + 1) (D.lit (.int .u64 (gOr .u64 (Rf.dint x3) (Rf.dint (x1.getD 0 D0))))) x4 x5 x6 /\ M0_0 (x2 + 1) (D.lit (.int .u64 (gOr .u64 (Rf.dint x3) (Rf.dint (x1.getD 0 D0))))) x4 x5 x6 < M0_0 x2 x3 x4 x5 x6) /\
 (tB (x2 == 0) = false ->
 (tB (x2 == 1) = true ->
 Rf.isK (.int .u64) x4 = true /\
 Rf.isK (.int .u64) (x1.getD 1 D0) = true /\
 tB (decide ((-9223372036854775808) <= (x2 + 1))) = true /\
 tB (decide ((x2 + 1) <= 9223372036854775807)) = true /\
 I0_0 (x2 + 1) x3 (D.lit (.int .u64 (gOr .u64 (Rf.dint x4) (Rf.dint (x1.getD 1 D0))))) x5 x6 /\ M0_0 (x2 + 1) x3 (D.lit (.int .u64 (gOr .u64 (Rf.dint x4) (Rf.dint (x1.getD 1 D0))))) x5 x6 < M0_0 x2 x3 x4 x5 x6) /\
 (tB (x2 == 1) = false ->
 (tB (x2 == 2) = true ->
 Rf.isK (.int .u64) x5 = true /\
 Rf.isK (.int .u64) (x1.getD 2 D0) = true /\
 tB (decide ((-9223372036854775808) <= (x2 + 1))) = true /\
 tB (decide ((x2 + 1) <= 9223372036854775807)) = true /\
 I0_0 (x2 + 1) x3 x4 (D.lit (.int .u64 (gOr .u64 (Rf.dint x5) (Rf.dint (x1.getD 2 D0))))) x6 /\ M0_0 (x2 + 1) x3 x4 (D.lit (.int .u64 (gOr .u64 (Rf.dint x5) (Rf.dint (x1.getD 2 D0))))) x6 < M0_0 x2 x3 x4 x5 x6) /\
 (tB (x2 == 2) = false ->
 tB (x2 == 3) = true /\
 Rf.isK (.int .u64) x6 = true /\
 Rf.isK (.int .u64) (x1.getD 3 D0) = true /\
 tB (decide ((-9223372036854775808) <= (x2 + 1))) = true /\
 tB (decide ((x2 + 1) <= 9223372036854775807)) = true /\
 I0_0 (x2 + 1) x3 x4 x5 (D.lit (.int .u64 (gOr .u64 (Rf.dint x6) (Rf.dint (x1.getD 3 D0))))) /\ M0_0 (x2 + 1) x3 x4 x5 (D.lit (.int .u64 (gOr .u64 (Rf.dint x6) (Rf.dint (x1.getD 3 D0))))) < M0_0 x2 x3 x4 x5 x6)))) /\
 (tB (decide (x2 < 4)) = false ->
 R (.ret (A.agg [x3, x4, x5, x6])) [])) /\
 True) :
 Holds Try.prog 91 [A.agg x0, A.agg x1] [] R :=
 walk (c := ⟨Try.prog, 19, true, [0, 1, 2, 3, 4, 5, 6, 7]⟩) (op := {}) (fn := Try.f91) (args := [.agg (.var 0), .agg (.var 1)]) (K := []) (nv := 2) (depth := 5) (up := upOf []) (ρ := Zat [.r x0, .r x1])
  rfl rfl rfl rfl rfl (by decide) (by decide) (by decide) (by decide) rfl (by simp [Zad, RRef.den, upOf]) (T_of (by kernel_rfl) h)
theorem w92 {R : RT} (x0 : List D) (h : tB ((x0.length : Int) == 4) = true /\
 ∃ (I0_0 : Int -> D -> D -> D -> D -> Prop) (M0_0 : Int -> D -> D -> D -> D -> Nat), I0_0 0 (x0.getD 0 D0) (x0.getD 1 D0) (x0.getD 2 D0) (x0.getD 3 D0) /\
 (∀ (x1 : Int) (x2 : D) (x3 : D) (x4 : D) (x5 : D) , I0_0 x1 x2 x3 x4 x5 ->
 (tB (decide (x1 < 4)) = true ->
 tB (decide (0 <= x1)) = true /\
 (tB (x1 == 0) = true ->
 Rf.isK (.int .u64) x2 = true /\
 tB (decide ((-9223372036854775808) <= (x1 + 1))) = true /\
 tB (decide ((x1 + 1) <= 9223372036854775807)) = true /\
 I0_0 (x1 + 1) (D.lit (.int .u64 (gNot .u64 (Rf.dint x2)))) x3 x4 x5 /\ M0_0 (x1 + 1) (D.lit (.int .u64 (gNot .u64 (Rf.dint x2)))) x3 x4 x5 < M0_0 x1 x2 x3 x4 x5) /\
 (tB (x1 == 0) = false ->
 (tB (x1 == 1) = true ->
 Rf.isK (.int .u64) x3 = true /\
 tB (decide ((-9223372036854775808) <= (x1 + 1))) = true /\
 tB (decide ((x1 + 1) <= 9223372036854775807)) = true /\
 I0_0 (x1 + 1) x2 (D.lit (.int .u64 (gNot .u64 (Rf.dint x3)))) x4 x5 /\ M0_0 (x1 + 1) x2 (D.lit (.int .u64 (gNot .u64 (Rf.dint x3)))) x4 x5 < M0_0 x1 x2 x3 x4 x5) /\
 (tB (x1 == 1) = false ->
 (tB (x1 == 2) = true ->
 Rf.isK (.int .u64) x4 = true /\
 tB (decide ((-9223372036854775808) <= (x1 + 1))) = true /\
 tB (decide ((x1 + 1) <= 9223372036854775807)) = true /\
 I0_0 (x1 + 1) x2 x3 (D.lit (.int .u64 (gNot .u64 (Rf.dint x4)))) x5 /\ M0_0 (x1 + 1) x2 x3 (D.lit (.int .u64 (gNot .u64 (Rf.dint x4)))) x5 < M0_0 x1 x2 x3 x4 x5) /\
 (tB (x1 == 2) = false ->
 tB (x1 == 3) = true /\
 Rf.isK (.int .u64) x5 = true /\
 tB (decide ((-9223372036854775808) <= (x1 + 1))) = true /\
 tB (decide ((x1 + 1) <= 9223372036854775807)) = true /\
 I0_0 (x1 + 1) x2 x3 x4 (D.lit (.int .u64 (gNot .u64 (Rf.dint x5)))) /\ M0_0 (x1 + 1) x2 x3 x4 (D.lit (.int .u64 (gNot .u64 (Rf.dint x5)))) < M0_0 x1 x2 x3 x4 x5)))) /\
 (tB (decide (x1 < 4)) = false ->
 R (.ret (A.agg [x2, x3, x4, x5])) [])) /\
 True) :
 Holds Try.prog 92 [A.agg x0] [] R :=
 walk (c := ⟨Try.prog, 15, true, [0, 1, 2, 3, 4, 5]⟩) (op := {}) (fn := Try.f92) (args := [.agg (.var 0)]) (K := []) (nv := 1) (depth := 4) (up := upOf []) (ρ := Zat [.r x0])
  rfl rfl rfl rfl rfl (by decide) (by decide) (by decide) (by decide) rfl (by simp [Zad, RRef.den, upOf]) (T_of (by kernel_rfl) h)
theorem w99 {R : RT} (x0 : List D) (x1 : List D) (h : tB ((x0.length : Int) == 4) = true /\
 tB ((x1.length : Int) == 4) = true /\
 ∃ (I0_0 : Int -> D -> D -> D -> D -> Prop) (M0_0 : Int -> D -> D -> D -> D -> Nat), I0_0 0 (x0.getD 0 D0) (x0.getD 1 D0) (x0.getD 2 D0) (x0.getD 3 D0) /\
 (∀ (x2 : Int) (x3 : D) (x4 : D) (x5 : D) (x6 : D) , I0_0 x2 x3 x4 x5 x6 ->
 (tB (decide (x2 < 4)) = true ->
 tB (decide (0 <= x2)) = true /\
 (tB (x2 == 0) = true ->
 Rf.isK (.int .u64) x3 = true /\
 Rf.isK (.int .u64) (x1.getD 0 D0) = true /\
 tB (decide ((-9223372036854775808) <= (x2 + 1))) = true /\
 tB (decide ((x2 + 1) <= 9223372036854775807)) = true /\
 I0_0 (x2 + 1) (D.lit (.int .u64 (gOr .u64 (Rf.dint x3) (Rf.dint (x1.getD 0 D0))))) x4 x5 x6 /\ M0_0 (x2 + 1) (D.lit (.int .u64 (gOr .u64 (Rf.dint x3) (Rf.dint (x1.getD 0 D0))))) x4 x5 x6 < M0_0 x2 x3 x4 x5 x6) /\
 (tB (x2 == 0) = false ->
 (tB (x2 == 1) = true ->
 Rf.isK (.int .u64) x4 = true /\
 Rf.isK (.int .u64) (x1.getD 1 D0) = true /\
 tB (decide ((-9223372036854775808) <= (x2 + 1))) = true /\
 tB (decide ((x2 + 1) <= 9223372036854775807)) = true /\
 I0_0 (x2 + 1) x3 (D.lit (.int .u64 (gOr .u64 (Rf.dint x4) (Rf.dint (x1.getD 1 D0))))) x5 x6 /\ M0_0 (x2 + 1) x3 (D.lit (.int .u64 (gOr .u64 (Rf.dint x4) (Rf.dint (x1.getD 1 D0))))) x5 x6 < M0_0 x2 x3 x4 x5 x6) /\
 (tB (x2 == 1) = false ->
 (tB (x2 == 2) = true ->
 Rf.isK (.int .u64) x5 = true /\
 Rf.isK (.int .u64) (x1.getD 2 D0) = true /\
 tB (decide ((-9223372036854775808) <= (x2 + 1))) = true /\
 tB (decide ((x2 + 1) <= 9223372036854775807)) = true /\
 I0_0 (x2 + 1) x3 x4 (D.lit (.int .u64 (gOr .u64 (Rf.dint x5) (Rf.dint (x1.getD 2 D0))))) x6 /\ M0_0 (x2 + 1) x3 x4 (D.lit (.int .u64 (gOr .u64 (Rf.dint x5) (Rf.dint (x1.getD 2 D0))))) x6 < M0_0 x2 x3 x4 x5 x6) /\
 (tB (x2 == 2) = false ->
 tB (x2 == 3) = true /\
 Rf.isK (.int .u64) x6 = true /\
 Rf.isK (.int .u64) (x1.getD 3 D0) = true /\
 tB (decide ((-9223372036854775808) <= (x2 + 1))) = true /\
 tB (decide ((x2 + 1) <= 9223372036854775807)) = true /\
 I0_0 (x2 + 1) x3 x4 x5 (D.lit (.int .u64 (gOr .u64 (Rf.dint x6) (Rf.dint (x1.getD 3 D0))))) /\ M0_0 (x2 + 1) x3 x4 x5 (D.lit (.int .u64 (gOr .u64 (Rf.dint x6) (Rf.dint (x1.getD 3 D0))))) < M0_0 x2 x3 x4 x5 x6)))) /\
 (tB (decide (x2 < 4)) = false ->
 R (.ret (A.agg [x3, x4, x5, x6])) [])) /\
 True) :
 Holds Try.prog 99 [A.agg x0, A.agg x1] [] R :=
 walk (c := ⟨Try.prog, 20, true, [0, 1, 2, 3, 4, 5, 7]⟩) (op := {}) (fn := Try.f99) (args := [.agg (.var 0), .agg (.var 1)]) (K := []) (nv := 2) (depth := 5) (up := upOf []) (ρ := Zat [.r x0, .r x1])
  rfl rfl rfl rfl rfl (by decide) (by decide) (by decide) (by decide) rfl (by simp [Zad, RRef.den, upOf]) (T_of (by kernel_rfl) h)
theorem w100 {R : RT} (x0 : List D) (h : tB ((x0.length : Int) == 4) = true /\
 ∃ (I0_0 : Int -> D -> D -> D -> D -> Prop) (M0_0 : Int -> D -> D -> D -> D -> Nat), I0_0 0 (x0.getD 0 D0) (x0.getD 1 D0) (x0.getD 2 D0) (x0.getD 3 D0) /\
 (∀ (x1 : Int) (x2 : D) (x3 : D) (x4 : D) (x5 : D) , I0_0 x1 x2 x3 x4 x5 ->
 (tB (decide (x1 < 4)) = true ->
 tB (decide (0 <= x1)) = true /\
 (tB (x1 == 0) = true ->
 Rf.isK (.int .u64) x2 = true /\
 tB (decide ((-9223372036854775808) <= (x1 + 1))) = true /\
 tB (decide ((x1 + 1) <= 9223372036854775807)) = true /\
 I0_0 (x1 + 1) (D.lit (.int .u64 (gNot .u64 (Rf.dint x2)))) x3 x4 x5 /\ M0_0 (x1 + 1) (D.lit (.int .u64 (gNot .u64 (Rf.dint x2)))) x3 x4 x5 < M0_0 x1 x2 x3 x4 x5) /\
 (tB (x1 == 0) = false ->
 (tB (x1 == 1) = true ->
 Rf.isK (.int .u64) x3 = true /\
 tB (decide ((-9223372036854775808) <= (x1 + 1))) = true /\
 tB (decide ((x1 + 1) <= 9223372036854775807)) = true /\
 I0_0 (x1 + 1) x2 (D.lit (.int .u64 (gNot .u64 (Rf.dint x3)))) x4 x5 /\ M0_0 (x1 + 1) x2 (D.lit (.int .u64 (gNot .u64 (Rf.dint x3)))) x4 x5 < M0_0 x1 x2 x3 x4 x5) /\
 (tB (x1 == 1) = false ->
 (tB (x1 == 2) = true ->
 Rf.isK (.int .u64) x4 = true /\
 tB (decide ((-9223372036854775808) <= (x1 + 1))) = true /\
 tB (decide ((x1 + 1) <= 9223372036854775807)) = true /\
 I0_0 (x1 + 1) x2 x3 (D.lit (.int .u64 (gNot .u64 (Rf.dint x4)))) x5 /\ M0_0 (x1 + 1) x2 x3 (D.lit (.int .u64 (gNot .u64 (Rf.dint x4)))) x5 < M0_0 x1 x2 x3 x4 x5) /\
 (tB (x1 == 2) = false ->
 tB (x1 == 3) = true /\
 Rf.isK (.int .u64) x5 = true /\
 tB (decide ((-9223372036854775808) <= (x1 + 1))) = true /\
 tB (decide ((x1 + 1) <= 9223372036854775807)) = true /\
 I0_0 (x1 + 1) x2 x3 x4 (D.lit (.int .u64 (gNot .u64 (Rf.dint x5)))) /\ M0_0 (x1 + 1) x2 x3 x4 (D.lit (.int .u64 (gNot .u64 (Rf.dint x5)))) < M0_0 x1 x2 x3 x4 x5)))) /\
 (tB (decide (x1 < 4)) = false ->
 R (.ret (A.agg [x2, x3, x4, x5])) [])) /\
 True) :
 Holds Try.prog 100 [A.agg x0] [] R :=
 walk (c := ⟨Try.prog, 15, true, [0, 1, 2, 3, 5]⟩) (op := {}) (fn := Try.f100) (args := [.agg (.var 0)]) (K := []) (nv := 1) (depth := 4) (up := upOf []) (ρ := Zat [.r x0])
  rfl rfl rfl rfl rfl (by decide) (by decide) (by decide) (by decide) rfl (by simp [Zad, RRef.den, upOf]) (T_of (by kernel_rfl) h)
theorem w103 {R : RT} (x0 : Int) (h : (((tB (decide (48 <= x0))) && (tB (decide (x0 <= 57)))) = true ->
 tB (decide ((-9223372036854775808) <= (IntKind.wrap .u8 (x0 - 48)))) = true /\
 tB (decide ((IntKind.wrap .u8 (x0 - 48)) <= 9223372036854775807)) = true /\
 R (.ret (A.d (D.lit (.int .i64 (IntKind.wrap .u8 (x0 - 48)))))) []) /\
 (((tB (decide (48 <= x0))) && (tB (decide (x0 <= 57)))) = false ->
 (((tB (decide (97 <= x0))) && (tB (decide (x0 <= 102)))) = true ->
 tB (decide ((-9223372036854775808) <= (IntKind.wrap .u8 (x0 - 97)))) = true /\
 tB (decide ((IntKind.wrap .u8 (x0 - 97)) <= 9223372036854775807)) = true /\
 tB (decide ((-9223372036854775808) <= ((IntKind.wrap .u8 (x0 - 97)) + 10))) = true /\
 tB (decide (((IntKind.wrap .u8 (x0 - 97)) + 10) <= 9223372036854775807)) = true /\
 R (.ret (A.d (D.lit (.int .i64 ((IntKind.wrap .u8 (x0 - 97)) + 10))))) []) /\
 (((tB (decide (97 <= x0))) && (tB (decide (x0 <= 102)))) = false ->
 (((tB (decide (65 <= x0))) && (tB (decide (x0 <= 70)))) = true ->
 tB (decide ((-9223372036854775808) <= (IntKind.wrap .u8 (x0 - 65)))) = true /\
 tB (decide ((IntKind.wrap .u8 (x0 - 65)) <= 9223372036854775807)) = true /\
 tB (decide ((-9223372036854775808) <= ((IntKind.wrap .u8 (x0 - 65)) + 10))) = true /\
 tB (decide (((IntKind.wrap .u8 (x0 - 65)) + 10) <= 9223372036854775807)) = true /\
 R (.ret (A.d (D.lit (.int .i64 ((IntKind.wrap .u8 (x0 - 65)) + 10))))) []) /\
 (((tB (decide (65 <= x0))) && (tB (decide (x0 <= 70)))) = false ->
 R (.ret (A.d (D.lit (.int .i64 (-1))))) [])))) :
 Holds Try.prog 103 [A.d (D.lit (.int .u8 x0))] [] R :=
 walk (c := ⟨Try.prog, 35, true, [0, 2, 3, 13, 24]⟩) (op := {}) (fn := Try.f103) (args := [.c (.o1 (.ci .u8) (.var 0))]) (K := []) (nv := 1) (depth := 6) (up := upOf []) (ρ := Zat [.i x0])
  rfl rfl rfl rfl rfl (by decide) (by decide) (by decide) (by decide) rfl (by simp [Zad, RRef.den, upOf]) (T_of (by kernel_rfl) h)
theorem w101 {R : RT} (x0 : Int) (h : (((tB (decide (48 <= x0))) && (tB (decide (x0 <= 57)))) = true ->
 R (.ret (A.tup [(false, [D.lit (.int .u8 (IntKind.wrap .u8 (x0 - 48)))]), (false, [D.lit (.bool true)])])) []) /\
 (((tB (decide (48 <= x0))) && (tB (decide (x0 <= 57)))) = false ->
 (((tB (decide (97 <= x0))) && (tB (decide (x0 <= 102)))) = true ->
 R (.ret (A.tup [(false, [D.lit (.int .u8 (IntKind.wrap .u8 ((IntKind.wrap .u8 (x0 - 97)) + 10)))]), (false, [D.lit (.bool true)])])) []) /\
 (((tB (decide (97 <= x0))) && (tB (decide (x0 <= 102)))) = false ->
 (((tB (decide (65 <= x0))) && (tB (decide (x0 <= 70)))) = true ->
 R (.ret (A.tup [(false, [D.lit (.int .u8 (IntKind.wrap .u8 ((IntKind.wrap .u8 (x0 - 65)) + 10)))]), (false, [D.lit (.bool true)])])) []) /\
 (((tB (decide (65 <= x0))) && (tB (decide (x0 <= 70)))) = false ->
 R (.ret (A.tup [(false, [D.lit (.int .u8 0)]), (false, [D.lit (.bool false)])])) [])))) :
 Holds Try.prog 101 [A.d (D.lit (.int .u8 x0))] [] R :=
 walk (c := ⟨Try.prog, 33, true, [0, 2, 3, 4, 13, 23]⟩) (op := {}) (fn := Try.f101) (args := [.c (.o1 (.ci .u8) (.var 0))]) (K := []) (nv := 1) (depth := 6) (up := upOf []) (ρ := Zat [.i x0])
  rfl rfl rfl rfl rfl (by decide) (by decide) (by decide) (by decide) rfl (by simp [Zad, RRef.den, upOf]) (T_of (by kernel_rfl) h)
theorem w87 {R : RT} (x0 : Int) (h : ∃ (I0_0 : Int -> Prop) (M0_0 : Int -> Nat), I0_0 0 /\
 (∀ (x1 : Int) , I0_0 x1 ->
 (tB (decide (x1 < 12)) = true ->
 tB (decide (0 <= x1)) = true /\
 (tB ((Zak ([40, 41, 91, 93, 123, 125, 124, 42, 43, 63, 46, 92] : List UInt8) x1) == x0) = true ->
 R (.ret (A.d (D.lit (.bool true)))) []) /\
 (tB ((Zak ([40, 41, 91, 93, 123, 125, 124, 42, 43, 63, 46, 92] : List UInt8) x1) == x0) = false ->
 tB (decide ((-9223372036854775808) <= (x1 + 1))) = true /\
 tB (decide ((x1 + 1) <= 9223372036854775807)) = true /\
 I0_0 (x1 + 1) /\ M0_0 (x1 + 1) < M0_0 x1)) /\
 (tB (decide (x1 < 12)) = false ->
 R (.ret (A.d (D.lit (.bool false)))) [])) /\
 True) :
 Holds Try.prog 87 [A.d (D.lit (.int .u8 x0))] [] R :=
 walk (c := ⟨Try.prog, 16, true, [0, 2, 3, 4, 8, 15]⟩) (op := {}) (fn := Try.f87) (args := [.c (.o1 (.ci .u8) (.var 0))]) (K := []) (nv := 1) (depth := 5) (up := upOf []) (ρ := Zat [.i x0])
  rfl rfl rfl rfl rfl (by decide) (by decide) (by decide) (by decide) rfl (by simp [Zad, RRef.den, upOf]) (T_of (by kernel_rfl) h)
theorem w97 {R : RT} (x0 : Int) (h : (tB (x0 == 110) = true ->
 R (.ret (A.d (D.lit (.int .i64 10)))) []) /\
 (tB (x0 == 110) = false ->
 (tB (x0 == 116) = true ->
 R (.ret (A.d (D.lit (.int .i64 9)))) []) /\
 (tB (x0 == 116) = false ->
 (tB (x0 == 114) = true ->
 R (.ret (A.d (D.lit (.int .i64 13)))) []) /\
 (tB (x0 == 114) = false ->
 R (.ret (A.d (D.lit (.int .i64 (-1))))) [])))) :
 Holds Try.prog 97 [A.d (D.lit (.int .u8 x0))] [] R :=
 walk (c := ⟨Try.prog, 10, true, [0, 2, 3, 4, 6, 8]⟩) (op := {}) (fn := Try.f97) (args := [.c (.o1 (.ci .u8) (.var 0))]) (K := []) (nv := 1) (depth := 4) (up := upOf []) (ρ := Zat [.i x0])
  rfl rfl rfl rfl rfl (by decide) (by decide) (by decide) (by decide) rfl (by simp [Zad, RRef.den, upOf]) (T_of (by kernel_rfl) h)
theorem w80 {R : RT} (x0 : Int) (h : ∀ _ : Nat -> Nat, ∃ R', Holds Try.prog 79 [A.d (D.lit (.int .u8 48)), A.d (D.lit (.int .u8 57))] [] R' /\
 (∀ v H', R' (.ret v) H' -> ∃ x1 : List D, v = A.agg x1 /\ H' = [] /\
 tB ((x1.length : Int) == 4) = true /\
 (tB (x0 == 100) = true ->
 R (.ret (A.tup [(true, x1), (false, [D.lit (.bool true)])])) []) /\
 (tB (x0 == 100) = false ->
 (tB (x0 == 119) = true ->
 ∀ _ : Nat -> Nat, ∃ R', Holds Try.prog 79 [A.d (D.lit (.int .u8 97)), A.d (D.lit (.int .u8 122))] [] R' /\
 (∀ v H', R' (.ret v) H' -> ∃ x2 : List D, v = A.agg x2 /\ H' = [] /\
 ∀ _ : Nat -> Nat, ∃ R', Holds Try.prog 79 [A.d (D.lit (.int .u8 65)), A.d (D.lit (.int .u8 90))] [] R' /\
 (∀ v H', R' (.ret v) H' -> ∃ x3 : List D, v = A.agg x3 /\ H' = [] /\
 ∀ _ : Nat -> Nat, ∃ R', Holds Try.prog 91 [A.agg x2, A.agg x3] [] R' /\
 (∀ v H', R' (.ret v) H' -> ∃ x4 : List D, v = A.agg x4 /\ H' = [] /\
 tB ((x4.length : Int) == 4) = true /\
 ∀ _ : Nat -> Nat, ∃ R', Holds Try.prog 91 [A.agg x1, A.agg x4] [] R' /\
 (∀ v H', R' (.ret v) H' -> ∃ x5 : List D, v = A.agg x5 /\ H' = [] /\
 ∀ _ : Nat -> Nat, ∃ R', Holds Try.prog 79 [A.d (D.lit (.int .u8 95)), A.d (D.lit (.int .u8 95))] [] R' /\
 (∀ v H', R' (.ret v) H' -> ∃ x6 : List D, v = A.agg x6 /\ H' = [] /\
 ∀ _ : Nat -> Nat, ∃ R', Holds Try.prog 91 [A.agg x5, A.agg x6] [] R' /\
 (∀ v H', R' (.ret v) H' -> ∃ x7 : List D, v = A.agg x7 /\ H' = [] /\
 tB ((x7.length : Int) == 4) = true /\
 R (.ret (A.tup [(true, x7), (false, [D.lit (.bool true)])])) []) /\
 PN R R') /\
 PN R R') /\
 PN R R') /\
 PN R R') /\
 PN R R') /\
 PN R R') /\
 (tB (x0 == 119) = false ->
 (tB (x0 == 115) = true ->
 ∀ _ : Nat -> Nat, ∃ R', Holds Try.prog 79 [A.d (D.lit (.int .u8 9)), A.d (D.lit (.int .u8 10))] [] R' /\
 (∀ v H', R' (.ret v) H' -> ∃ x2 : List D, v = A.agg x2 /\ H' = [] /\
 ∀ _ : Nat -> Nat, ∃ R', Holds Try.prog 79 [A.d (D.lit (.int .u8 13)), A.d (D.lit (.int .u8 13))] [] R' /\
 (∀ v H', R' (.ret v) H' -> ∃ x3 : List D, v = A.agg x3 /\ H' = [] /\
 ∀ _ : Nat -> Nat, ∃ R', Holds Try.prog 91 [A.agg x2, A.agg x3] [] R' /\
 (∀ v H', R' (.ret v) H' -> ∃ x4 : List D, v = A.agg x4 /\ H' = [] /\
 ∀ _ : Nat -> Nat, ∃ R', Holds Try.prog 79 [A.d (D.lit (.int .u8 32)), A.d (D.lit (.int .u8 32))] [] R' /\
 (∀ v H', R' (.ret v) H' -> ∃ x5 : List D, v = A.agg x5 /\ H' = [] /\
 ∀ _ : Nat -> Nat, ∃ R', Holds Try.prog 91 [A.agg x4, A.agg x5] [] R' /\
 (∀ v H', R' (.ret v) H' -> ∃ x6 : List D, v = A.agg x6 /\ H' = [] /\
 tB ((x6.length : Int) == 4) = true /\
 R (.ret (A.tup [(true, x6), (false, [D.lit (.bool true)])])) []) /\
 PN R R') /\
 PN R R') /\
 PN R R') /\
 PN R R') /\
 PN R R') /\
 (tB (x0 == 115) = false ->
 R (.ret (A.tup [(true, [D.lit (.int .u64 0), D.lit (.int .u64 0), D.lit (.int .u64 0), D.lit (.int .u64 0)]), (false, [D.lit (.bool false)])])) [])))) /\
 PN R R') :
 Holds Try.prog 80 [A.d (D.lit (.int .u8 x0))] [] R :=
 walk (c := ⟨Try.prog, 29, true, [0, 2, 3, 4, 5, 7, 8, 11, 21]⟩) (op := {}) (fn := Try.f80) (args := [.c (.o1 (.ci .u8) (.var 0))]) (K := []) (nv := 1) (depth := 5) (up := upOf []) (ρ := Zat [.i x0])
  rfl rfl rfl rfl rfl (by decide) (by decide) (by decide) (by decide) rfl (by simp [Zad, RRef.den, upOf]) (T_of (by kernel_rfl) h)
theorem w96 {R : RT} (x0 : Int) (h : (tB (x0 == 100) = true ->
 ∀ _ : Nat -> Nat, ∃ R', Holds Try.prog 85 [A.d (D.lit (.int .i64 48)), A.d (D.lit (.int .i64 57))] [] R' /\
 (∀ v H', R' (.ret v) H' -> ∃ x1 : List D, v = A.agg x1 /\ H' = [] /\
 tB ((x1.length : Int) == 4) = true /\
 R (.ret (A.tup [(true, x1), (false, [D.lit (.bool true)])])) []) /\
 PN R R') /\
 (tB (x0 == 100) = false ->
 (tB (x0 == 119) = true ->
 ∀ _ : Nat -> Nat, ∃ R', Holds Try.prog 85 [A.d (D.lit (.int .i64 48)), A.d (D.lit (.int .i64 57))] [] R' /\
 (∀ v H', R' (.ret v) H' -> ∃ x1 : List D, v = A.agg x1 /\ H' = [] /\
 ∀ _ : Nat -> Nat, ∃ R', Holds Try.prog 85 [A.d (D.lit (.int .i64 97)), A.d (D.lit (.int .i64 122))] [] R' /\
 (∀ v H', R' (.ret v) H' -> ∃ x2 : List D, v = A.agg x2 /\ H' = [] /\
 ∀ _ : Nat -> Nat, ∃ R', Holds Try.prog 99 [A.agg x1, A.agg x2] [] R' /\
 (∀ v H', R' (.ret v) H' -> ∃ x3 : List D, v = A.agg x3 /\ H' = [] /\
 ∀ _ : Nat -> Nat, ∃ R', Holds Try.prog 85 [A.d (D.lit (.int .i64 65)), A.d (D.lit (.int .i64 90))] [] R' /\
 (∀ v H', R' (.ret v) H' -> ∃ x4 : List D, v = A.agg x4 /\ H' = [] /\
 ∀ _ : Nat -> Nat, ∃ R', Holds Try.prog 85 [A.d (D.lit (.int .i64 95)), A.d (D.lit (.int .i64 95))] [] R' /\
 (∀ v H', R' (.ret v) H' -> ∃ x5 : List D, v = A.agg x5 /\ H' = [] /\
 ∀ _ : Nat -> Nat, ∃ R', Holds Try.prog 99 [A.agg x4, A.agg x5] [] R' /\
 (∀ v H', R' (.ret v) H' -> ∃ x6 : List D, v = A.agg x6 /\ H' = [] /\
 ∀ _ : Nat -> Nat, ∃ R', Holds Try.prog 99 [A.agg x3, A.agg x6] [] R' /\
 (∀ v H', R' (.ret v) H' -> ∃ x7 : List D, v = A.agg x7 /\ H' = [] /\
 tB ((x7.length : Int) == 4) = true /\
 R (.ret (A.tup [(true, x7), (false, [D.lit (.bool true)])])) []) /\
 PN R R') /\
 PN R R') /\
 PN R R') /\
 PN R R') /\
 PN R R') /\
 PN R R') /\
 PN R R') /\
 (tB (x0 == 119) = false ->
 (tB (x0 == 115) = true ->
 ∀ _ : Nat -> Nat, ∃ R', Holds Try.prog 85 [A.d (D.lit (.int .i64 32)), A.d (D.lit (.int .i64 32))] [] R' /\
 (∀ v H', R' (.ret v) H' -> ∃ x1 : List D, v = A.agg x1 /\ H' = [] /\
 ∀ _ : Nat -> Nat, ∃ R', Holds Try.prog 85 [A.d (D.lit (.int .i64 9)), A.d (D.lit (.int .i64 10))] [] R' /\
 (∀ v H', R' (.ret v) H' -> ∃ x2 : List D, v = A.agg x2 /\ H' = [] /\
 ∀ _ : Nat -> Nat, ∃ R', Holds Try.prog 99 [A.agg x1, A.agg x2] [] R' /\
 (∀ v H', R' (.ret v) H' -> ∃ x3 : List D, v = A.agg x3 /\ H' = [] /\
 ∀ _ : Nat -> Nat, ∃ R', Holds Try.prog 85 [A.d (D.lit (.int .i64 13)), A.d (D.lit (.int .i64 13))] [] R' /\
 (∀ v H', R' (.ret v) H' -> ∃ x4 : List D, v = A.agg x4 /\ H' = [] /\
 ∀ _ : Nat -> Nat, ∃ R', Holds Try.prog 99 [A.agg x3, A.agg x4] [] R' /\
 (∀ v H', R' (.ret v) H' -> ∃ x5 : List D, v = A.agg x5 /\ H' = [] /\
 tB ((x5.length : Int) == 4) = true /\
 R (.ret (A.tup [(true, x5), (false, [D.lit (.bool true)])])) []) /\
 PN R R') /\
 PN R R') /\
 PN R R') /\
 PN R R') /\
 PN R R') /\
 (tB (x0 == 115) = false ->
 R (.ret (A.tup [(true, [D.lit (.int .u64 0), D.lit (.int .u64 0), D.lit (.int .u64 0), D.lit (.int .u64 0)]), (false, [D.lit (.bool false)])])) [])))) :
 Holds Try.prog 96 [A.d (D.lit (.int .u8 x0))] [] R :=
 walk (c := ⟨Try.prog, 25, true, [0, 2, 3, 4, 5, 8, 17]⟩) (op := {}) (fn := Try.f96) (args := [.c (.o1 (.ci .u8) (.var 0))]) (K := []) (nv := 1) (depth := 5) (up := upOf []) (ρ := Zat [.i x0])
  rfl rfl rfl rfl rfl (by decide) (by decide) (by decide) (by decide) rfl (by simp [Zad, RRef.den, upOf]) (T_of (by kernel_rfl) h)
end Go.Rx
end
section
open Go Go.Proofs Go.Ab Go.Rf
set_option maxRecDepth 1000000
set_option maxHeartbeats 2000000
set_option linter.unusedVariables false
namespace Go.Rx
theorem w47 {R : RT} (x0 : List D) (h : tB ((x0.length : Int) == 6) = true /\
 Rf.isK (.int .i64) (x0.getD 0 D0) = true /\
 ((!((!((tB (decide ((Rf.dint (x0.getD 0 D0)) < 0))) || (tB (decide (5 < (Rf.dint (x0.getD 0 D0))))))) && (!(tB ((Rf.dint (x0.getD 0 D0)) == 2))))) || (Rf.isK (.int .u64) (x0.getD 1 D0))) = true /\
 ((!((!((tB (decide ((Rf.dint (x0.getD 0 D0)) < 0))) || (tB (decide (5 < (Rf.dint (x0.getD 0 D0))))))) && (!(tB ((Rf.dint (x0.getD 0 D0)) == 2))))) || (Rf.isK (.int .u64) (x0.getD 2 D0))) = true /\
 ((!((!((tB (decide ((Rf.dint (x0.getD 0 D0)) < 0))) || (tB (decide (5 < (Rf.dint (x0.getD 0 D0))))))) && (!(tB ((Rf.dint (x0.getD 0 D0)) == 2))))) || (Rf.isK (.int .u64) (x0.getD 3 D0))) = true /\
 ((!((!((tB (decide ((Rf.dint (x0.getD 0 D0)) < 0))) || (tB (decide (5 < (Rf.dint (x0.getD 0 D0))))))) && (!(tB ((Rf.dint (x0.getD 0 D0)) == 2))))) || (Rf.isK (.int .u64) (x0.getD 4 D0))) = true /\
 ((((tB (decide ((Rf.dint (x0.getD 0 D0)) < 0))) || (tB (decide (5 < (Rf.dint (x0.getD 0 D0)))))) || ((!(tB ((Rf.dint (x0.getD 0 D0)) == 2))) && (!((tB ((Rf.dint (x0.getD 1 D0)) == 0)) && ((tB ((Rf.dint (x0.getD 2 D0)) == 0)) && ((tB ((Rf.dint (x0.getD 3 D0)) == 0)) && (tB ((Rf.dint (x0.getD 4 D0)) == 0)))))))) = true ->
 R (.ret (A.d (D.lit (.int .i64 11)))) []) /\
 ((((tB (decide ((Rf.dint (x0.getD 0 D0)) < 0))) || (tB (decide (5 < (Rf.dint (x0.getD 0 D0)))))) || ((!(tB ((Rf.dint (x0.getD 0 D0)) == 2))) && (!((tB ((Rf.dint (x0.getD 1 D0)) == 0)) && ((tB ((Rf.dint (x0.getD 2 D0)) == 0)) && ((tB ((Rf.dint (x0.getD 3 D0)) == 0)) && (tB ((Rf.dint (x0.getD 4 D0)) == 0)))))))) = false ->
 Rf.isK .slc (x0.getD 5 D0) = true /\
 (((((tB (decide ((Rf.dint (x0.getD 0 D0)) < 3))) && (tB (decide (0 < ((Rf.dlst (x0.getD 5 D0)).length : Int))))) || (((tB ((Rf.dint (x0.getD 0 D0)) == 3)) || (tB ((Rf.dint (x0.getD 0 D0)) == 4))) && (tB (decide (((Rf.dlst (x0.getD 5 D0)).length : Int) < 2))))) || ((tB ((Rf.dint (x0.getD 0 D0)) == 5)) && (!(tB (((Rf.dlst (x0.getD 5 D0)).length : Int) == 1))))) = true ->
 R (.ret (A.d (D.lit (.int .i64 2)))) []) /\
 (((((tB (decide ((Rf.dint (x0.getD 0 D0)) < 3))) && (tB (decide (0 < ((Rf.dlst (x0.getD 5 D0)).length : Int))))) || (((tB ((Rf.dint (x0.getD 0 D0)) == 3)) || (tB ((Rf.dint (x0.getD 0 D0)) == 4))) && (tB (decide (((Rf.dlst (x0.getD 5 D0)).length : Int) < 2))))) || ((tB ((Rf.dint (x0.getD 0 D0)) == 5)) && (!(tB (((Rf.dlst (x0.getD 5 D0)).length : Int) == 1))))) = false ->
 R (.ret (A.d (D.lit (.int .i64 0)))) []))) :
 Holds Try.prog 47 [A.agg x0] [] R :=
 walk (c := ⟨Try.prog, 56, true, [0, 1, 2, 3, 22, 55]⟩) (op := {}) (fn := Try.f47) (args := [.agg (.var 0)]) (K := []) (nv := 1) (depth := 6) (up := upOf []) (ρ := Zat [.r x0])
  rfl rfl rfl rfl rfl (by decide) (by decide) (by decide) (by decide) rfl (by simp [Zad, RRef.den, upOf]) (T_of (by kernel_rfl) h)
theorem w34 {R : RT} (x0 : List D) (x1 : Int) (h : tB ((x0.length : Int) == 6) = true /\
 (tB (decide (16 < x1)) = true ->
 R (.ret (A.d (D.lit (.int .i64 9)))) []) /\
 (tB (decide (16 < x1)) = false ->
 ∀ _ : Nat -> Nat, ∃ R', Holds Try.prog 47 [A.agg x0] [] R' /\
 (∀ v H', R' (.ret v) H' -> ∃ x2 : Int, v = A.d (D.lit (.int .i64 x2)) /\ H' = [] /\
 ((!(tB (x2 == 0))) = true ->
 R (.ret (A.d (D.lit (.int .i64 x2)))) []) /\
 ((!(tB (x2 == 0))) = false ->
 ∃ (I0_0 : Int -> Prop) (M0_0 : Int -> Nat), I0_0 0 /\
 (∀ (x3 : Int) , I0_0 x3 ->
 Rf.isK .slc (x0.getD 5 D0) = true /\
 (tB (decide (x3 < ((Rf.dlst (x0.getD 5 D0)).length : Int))) = true ->
 tB (decide (0 <= x3)) = true /\
 tB (((gAt (Rf.dlst (x0.getD 5 D0)) x3).length : Int) == 6) = true /\
 tB (decide ((-9223372036854775808) <= (x1 + 1))) = true /\
 tB (decide ((x1 + 1) <= 9223372036854775807)) = true /\
 ∀ _ : Nat -> Nat, ∃ R', Holds Try.prog 34 [A.agg (gAt (Rf.dlst (x0.getD 5 D0)) x3), A.d (D.lit (.int .i64 (x1 + 1)))] [] R' /\
 (∀ v H', R' (.ret v) H' -> ∃ x4 : Int, v = A.d (D.lit (.int .i64 x4)) /\ H' = [] /\
 ((!(tB (x4 == 0))) = true ->
 R (.ret (A.d (D.lit (.int .i64 x4)))) []) /\
 ((!(tB (x4 == 0))) = false ->
 tB (decide ((-9223372036854775808) <= (x3 + 1))) = true /\
 tB (decide ((x3 + 1) <= 9223372036854775807)) = true /\
 I0_0 (x3 + 1) /\ M0_0 (x3 + 1) < M0_0 x3)) /\
 PN R R') /\
 (tB (decide (x3 < ((Rf.dlst (x0.getD 5 D0)).length : Int))) = false ->
 R (.ret (A.d (D.lit (.int .i64 0)))) [])) /\
 True)) /\
 PN R R')) :
 Holds Try.prog 34 [A.agg x0, A.d (D.lit (.int .i64 x1))] [] R :=
 walk (c := ⟨Try.prog, 33, true, [0, 1, 2, 4, 5, 6, 7, 9, 13, 19, 31]⟩) (op := {}) (fn := Try.f34) (args := [.agg (.var 0), .c (.o1 (.ci .i64) (.var 1))]) (K := []) (nv := 2) (depth := 6) (up := upOf []) (ρ := Zat [.r x0, .i x1])
  rfl rfl rfl rfl rfl (by decide) (by decide) (by decide) (by decide) rfl (by simp [Zad, RRef.den, upOf]) (T_of (by kernel_rfl) h)
theorem w33 {R : RT} (x0 : List D) (x1 : Int) (h : tB ((x0.length : Int) == 6) = true /\
 (tB (decide (16 < x1)) = true ->
 R (.ret (A.d (D.lit (.int .i64 9)))) []) /\
 (tB (decide (16 < x1)) = false ->
 Rf.isK (.int .i64) (x0.getD 0 D0) = true /\
 ((!((!((tB (decide ((Rf.dint (x0.getD 0 D0)) < 0))) || (tB (decide (5 < (Rf.dint (x0.getD 0 D0))))))) && (!(tB ((Rf.dint (x0.getD 0 D0)) == 2))))) || (Rf.isK (.int .u64) (x0.getD 1 D0))) = true /\
 ((!((!((tB (decide ((Rf.dint (x0.getD 0 D0)) < 0))) || (tB (decide (5 < (Rf.dint (x0.getD 0 D0))))))) && (!(tB ((Rf.dint (x0.getD 0 D0)) == 2))))) || (Rf.isK (.int .u64) (x0.getD 2 D0))) = true /\
 ((!((!((tB (decide ((Rf.dint (x0.getD 0 D0)) < 0))) || (tB (decide (5 < (Rf.dint (x0.getD 0 D0))))))) && (!(tB ((Rf.dint (x0.getD 0 D0)) == 2))))) || (Rf.isK (.int .u64) (x0.getD 3 D0))) = true /\
 ((!((!((tB (decide ((Rf.dint (x0.getD 0 D0)) < 0))) || (tB (decide (5 < (Rf.dint (x0.getD 0 D0))))))) && (!(tB ((Rf.dint (x0.getD 0 D0)) == 2))))) || (Rf.isK (.int .u64) (x0.getD 4 D0))) = true /\
 ((((tB (decide ((Rf.dint (x0.getD 0 D0)) < 0))) || (tB (decide (5 < (Rf.dint (x0.getD 0 D0)))))) || ((!(tB ((Rf.dint (x0.getD 0 D0)) == 2))) && (!((tB ((Rf.dint (x0.getD 1 D0)) == 0)) && ((tB ((Rf.dint (x0.getD 2 D0)) == 0)) && ((tB ((Rf.dint (x0.getD 3 D0)) == 0)) && (tB ((Rf.dint (x0.getD 4 D0)) == 0)))))))) = true ->
 R (.ret (A.d (D.lit (.int .i64 11)))) []) /\
 ((((tB (decide ((Rf.dint (x0.getD 0 D0)) < 0))) || (tB (decide (5 < (Rf.dint (x0.getD 0 D0)))))) || ((!(tB ((Rf.dint (x0.getD 0 D0)) == 2))) && (!((tB ((Rf.dint (x0.getD 1 D0)) == 0)) && ((tB ((Rf.dint (x0.getD 2 D0)) == 0)) && ((tB ((Rf.dint (x0.getD 3 D0)) == 0)) && (tB ((Rf.dint (x0.getD 4 D0)) == 0)))))))) = false ->
 Rf.isK .slc (x0.getD 5 D0) = true /\
 ∃ J2_0 : Bool -> Prop, ((tB ((Rf.dint (x0.getD 0 D0)) == 3) = true ->
 (tB (decide (((Rf.dlst (x0.getD 5 D0)).length : Int) < 2)) = true ->
 R (.ret (A.d (D.lit (.int .i64 2)))) []) /\
 (tB (decide (((Rf.dlst (x0.getD 5 D0)).length : Int) < 2)) = false ->
 J2_0 true)) /\
 (tB ((Rf.dint (x0.getD 0 D0)) == 3) = false ->
 (tB ((Rf.dint (x0.getD 0 D0)) == 4) = true ->
 (tB (decide (((Rf.dlst (x0.getD 5 D0)).length : Int) < 2)) = true ->
 R (.ret (A.d (D.lit (.int .i64 2)))) []) /\
 (tB (decide (((Rf.dlst (x0.getD 5 D0)).length : Int) < 2)) = false ->
 J2_0 true)) /\
 (tB ((Rf.dint (x0.getD 0 D0)) == 4) = false ->
 (tB ((Rf.dint (x0.getD 0 D0)) == 5) = true ->
 ((!(tB (((Rf.dlst (x0.getD 5 D0)).length : Int) == 1))) = true ->
 R (.ret (A.d (D.lit (.int .i64 2)))) []) /\
 ((!(tB (((Rf.dlst (x0.getD 5 D0)).length : Int) == 1))) = false ->
 J2_0 false)) /\
 (tB ((Rf.dint (x0.getD 0 D0)) == 5) = false ->
 ((!(tB (((Rf.dlst (x0.getD 5 D0)).length : Int) == 0))) = true ->
 R (.ret (A.d (D.lit (.int .i64 2)))) []) /\
 ((!(tB (((Rf.dlst (x0.getD 5 D0)).length : Int) == 0))) = false ->
 J2_0 false))))) /\
 (∀ (x2 : Bool) , J2_0 x2 ->
 ∃ (I0_0 : Int -> Prop) (M0_0 : Int -> Nat), I0_0 0 /\
 (∀ (x3 : Int) , I0_0 x3 ->
 (tB (decide (x3 < ((Rf.dlst (x0.getD 5 D0)).length : Int))) = true ->
 tB (decide (0 <= x3)) = true /\
 tB (((gAt (Rf.dlst (x0.getD 5 D0)) x3).length : Int) == 6) = true /\
 tB (decide ((-9223372036854775808) <= (x1 + 1))) = true /\
 tB (decide ((x1 + 1) <= 9223372036854775807)) = true /\
 ∀ _ : Nat -> Nat, ∃ R', Holds Try.prog 33 [A.agg (gAt (Rf.dlst (x0.getD 5 D0)) x3), A.d (D.lit (.int .i64 (x1 + 1)))] [] R' /\
 (∀ v H', R' (.ret v) H' -> ∃ x4 : Int, v = A.d (D.lit (.int .i64 x4)) /\ H' = [] /\
 ((!(tB (x4 == 0))) = true ->
 R (.ret (A.d (D.lit (.int .i64 x4)))) []) /\
 ((!(tB (x4 == 0))) = false ->
 tB (decide ((-9223372036854775808) <= (x3 + 1))) = true /\
 tB (decide ((x3 + 1) <= 9223372036854775807)) = true /\
 I0_0 (x3 + 1) /\ M0_0 (x3 + 1) < M0_0 x3)) /\
 PN R R') /\
 (tB (decide (x3 < ((Rf.dlst (x0.getD 5 D0)).length : Int))) = false ->
 R (.ret (A.d (D.lit (.int .i64 0)))) [])) /\
 True) /\
 True))) :
 Holds Try.prog 33 [A.agg x0, A.d (D.lit (.int .i64 x1))] [] R :=
 walk (c := ⟨Try.prog, 61, true, [0, 1, 2, 4, 5, 7, 8, 10, 29, 34, 36, 37, 41, 42, 45, 47, 48, 49, 50, 58]⟩) (op := { cuts := [16] }) (fn := Try.f33) (args := [.agg (.var 0), .c (.o1 (.ci .i64) (.var 1))]) (K := []) (nv := 2) (depth := 6) (up := upOf []) (ρ := Zat [.r x0, .i x1])
  rfl rfl rfl rfl rfl (by decide) (by decide) (by decide) (by decide) rfl (by simp [Zad, RRef.den, upOf]) (T_of (by kernel_rfl) h)
theorem w35 {R : RT} (x0 : List D) (h : tB ((x0.length : Int) == 6) = true /\
 Rf.isK .slc (x0.getD 5 D0) = true /\
 ∃ (I0_0 : Int -> Int -> Prop) (M0_0 : Int -> Int -> Nat), I0_0 1 0 /\
 (∀ (x1 : Int) (x2 : Int) , I0_0 x1 x2 ->
 (tB (decide (x2 < ((Rf.dlst (x0.getD 5 D0)).length : Int))) = true ->
 tB (decide (0 <= x2)) = true /\
 tB (((gAt (Rf.dlst (x0.getD 5 D0)) x2).length : Int) == 6) = true /\
 ∀ _ : Nat -> Nat, ∃ R', Holds Try.prog 35 [A.agg (gAt (Rf.dlst (x0.getD 5 D0)) x2)] [] R' /\
 (∀ v H', R' (.ret v) H' -> ∃ x3 : Int, v = A.d (D.lit (.int .i64 x3)) /\ H' = [] /\
 tB (decide ((-9223372036854775808) <= (x1 + x3))) = true /\
 tB (decide ((x1 + x3) <= 9223372036854775807)) = true /\
 tB (decide ((-9223372036854775808) <= (x2 + 1))) = true /\
 tB (decide ((x2 + 1) <= 9223372036854775807)) = true /\
 I0_0 (x1 + x3) (x2 + 1) /\ M0_0 (x1 + x3) (x2 + 1) < M0_0 x1 x2) /\
 PN R R') /\
 (tB (decide (x2 < ((Rf.dlst (x0.getD 5 D0)).length : Int))) = false ->
 R (.ret (A.d (D.lit (.int .i64 x1)))) [])) /\
 True) :
 Holds Try.prog 35 [A.agg x0] [] R :=
 walk (c := ⟨Try.prog, 19, true, [0, 1, 2, 3, 5, 7, 8, 9, 10]⟩) (op := {}) (fn := Try.f35) (args := [.agg (.var 0)]) (K := []) (nv := 1) (depth := 5) (up := upOf []) (ρ := Zat [.r x0])
  rfl rfl rfl rfl rfl (by decide) (by decide) (by decide) (by decide) rfl (by simp [Zad, RRef.den, upOf]) (T_of (by kernel_rfl) h)
theorem w13 {R : RT} (x0 : List D) (x1 : Int) (h : tB ((x0.length : Int) == 6) = true /\
 ∃ (I0_0 : Int -> Int -> Prop) (M0_0 : Int -> Int -> Nat), I0_0 1 0 /\
 (∀ (x2 : Int) (x3 : Int) , I0_0 x2 x3 ->
 Rf.isK .slc (x0.getD 5 D0) = true /\
 (((tB (decide (x3 < ((Rf.dlst (x0.getD 5 D0)).length : Int)))) && (tB (decide (x2 <= x1)))) = true ->
 tB (decide (0 <= x3)) = true /\
 tB (((gAt (Rf.dlst (x0.getD 5 D0)) x3).length : Int) == 6) = true /\
 tB (decide ((-9223372036854775808) <= (x1 - x2))) = true /\
 tB (decide ((x1 - x2) <= 9223372036854775807)) = true /\
 ∀ _ : Nat -> Nat, ∃ R', Holds Try.prog 13 [A.agg (gAt (Rf.dlst (x0.getD 5 D0)) x3), A.d (D.lit (.int .i64 (x1 - x2)))] [] R' /\
 (∀ v H', R' (.ret v) H' -> ∃ x4 : Int, v = A.d (D.lit (.int .i64 x4)) /\ H' = [] /\
 tB (decide ((-9223372036854775808) <= (x2 + x4))) = true /\
 tB (decide ((x2 + x4) <= 9223372036854775807)) = true /\
 tB (decide ((-9223372036854775808) <= (x3 + 1))) = true /\
 tB (decide ((x3 + 1) <= 9223372036854775807)) = true /\
 I0_0 (x2 + x4) (x3 + 1) /\ M0_0 (x2 + x4) (x3 + 1) < M0_0 x2 x3) /\
 PN R R') /\
 (((tB (decide (x3 < ((Rf.dlst (x0.getD 5 D0)).length : Int)))) && (tB (decide (x2 <= x1)))) = false ->
 R (.ret (A.d (D.lit (.int .i64 x2)))) [])) /\
 True) :
 Holds Try.prog 13 [A.agg x0, A.d (D.lit (.int .i64 x1))] [] R :=
 walk (c := ⟨Try.prog, 31, true, [0, 1, 2, 4, 5, 6, 16]⟩) (op := {}) (fn := Try.f13) (args := [.agg (.var 0), .c (.o1 (.ci .i64) (.var 1))]) (K := []) (nv := 2) (depth := 5) (up := upOf []) (ρ := Zat [.r x0, .i x1])
  rfl rfl rfl rfl rfl (by decide) (by decide) (by decide) (by decide) rfl (by simp [Zad, RRef.den, upOf]) (T_of (by kernel_rfl) h)
theorem w15 {R : RT} (x0 : List D) (h : tB ((x0.length : Int) == 6) = true /\
 ∀ _ : Nat -> Nat, ∃ R', Holds Try.prog 33 [A.agg x0, A.d (D.lit (.int .i64 1))] [] R' /\
 (∀ v H', R' (.ret v) H' -> ∃ x1 : Int, v = A.d (D.lit (.int .i64 x1)) /\ H' = [] /\
 R (.ret (A.d (D.lit (.int .i64 x1)))) []) /\
 PN R R') :
 Holds Try.prog 15 [A.agg x0] [] R :=
 walk (c := ⟨Try.prog, 5, true, [0, 1, 2]⟩) (op := {}) (fn := Try.f15) (args := [.agg (.var 0)]) (K := []) (nv := 1) (depth := 3) (up := upOf []) (ρ := Zat [.r x0])
  rfl rfl rfl rfl rfl (by decide) (by decide) (by decide) (by decide) rfl (by simp [Zad, RRef.den, upOf]) (T_of (by kernel_rfl) h)
theorem w16 {R : RT} (x0 : List D) (h : tB ((x0.length : Int) == 6) = true /\
 ∀ _ : Nat -> Nat, ∃ R', Holds Try.prog 34 [A.agg x0, A.d (D.lit (.int .i64 1))] [] R' /\
 (∀ v H', R' (.ret v) H' -> ∃ x1 : Int, v = A.d (D.lit (.int .i64 x1)) /\ H' = [] /\
 R (.ret (A.d (D.lit (.int .i64 x1)))) []) /\
 PN R R') :
 Holds Try.prog 16 [A.agg x0] [] R :=
 walk (c := ⟨Try.prog, 5, true, [0, 1, 2]⟩) (op := {}) (fn := Try.f16) (args := [.agg (.var 0)]) (K := []) (nv := 1) (depth := 3) (up := upOf []) (ρ := Zat [.r x0])
  rfl rfl rfl rfl rfl (by decide) (by decide) (by decide) (by decide) rfl (by simp [Zad, RRef.den, upOf]) (T_of (by kernel_rfl) h)
theorem w17 {R : RT} (x0 : List D) (h : tB ((x0.length : Int) == 6) = true /\
 ∀ _ : Nat -> Nat, ∃ R', Holds Try.prog 15 [A.agg x0] [] R' /\
 (∀ v H', R' (.ret v) H' -> ∃ x1 : Int, v = A.d (D.lit (.int .i64 x1)) /\ H' = [] /\
 ((!(tB (x1 == 0))) = true ->
 R (.ret (A.d (D.lit (.int .i64 0)))) []) /\
 ((!(tB (x1 == 0))) = false ->
 ∀ _ : Nat -> Nat, ∃ R', Holds Try.prog 35 [A.agg x0] [] R' /\
 (∀ v H', R' (.ret v) H' -> ∃ x2 : Int, v = A.d (D.lit (.int .i64 x2)) /\ H' = [] /\
 R (.ret (A.d (D.lit (.int .i64 x2)))) []) /\
 PN R R')) /\
 PN R R') :
 Holds Try.prog 17 [A.agg x0] [] R :=
 walk (c := ⟨Try.prog, 8, true, [0, 1, 2, 5]⟩) (op := {}) (fn := Try.f17) (args := [.agg (.var 0)]) (K := []) (nv := 1) (depth := 4) (up := upOf []) (ρ := Zat [.r x0])
  rfl rfl rfl rfl rfl (by decide) (by decide) (by decide) (by decide) rfl (by simp [Zad, RRef.den, upOf]) (T_of (by kernel_rfl) h)
theorem w42 {R : RT} (x0 : List D) (h : tB ((x0.length : Int) == 6) = true /\
 Rf.isK (.int .i64) (x0.getD 0 D0) = true /\
 (tB ((Rf.dint (x0.getD 0 D0)) == 1) = true ->
 R (.ret (A.d (D.lit (.bool true)))) []) /\
 (tB ((Rf.dint (x0.getD 0 D0)) == 1) = false ->
 (tB ((Rf.dint (x0.getD 0 D0)) == 5) = true ->
 R (.ret (A.d (D.lit (.bool true)))) []) /\
 (tB ((Rf.dint (x0.getD 0 D0)) == 5) = false ->
 (tB ((Rf.dint (x0.getD 0 D0)) == 3) = true ->
 Rf.isK .slc (x0.getD 5 D0) = true /\
 ∃ (I0_0 : Int -> Prop) (M0_0 : Int -> Nat), I0_0 0 /\
 (∀ (x1 : Int) , I0_0 x1 ->
 (tB (decide (x1 < ((Rf.dlst (x0.getD 5 D0)).length : Int))) = true ->
 tB (decide (0 <= x1)) = true /\
 tB (((gAt (Rf.dlst (x0.getD 5 D0)) x1).length : Int) == 6) = true /\
 ∀ _ : Nat -> Nat, ∃ R', Holds Try.prog 42 [A.agg (gAt (Rf.dlst (x0.getD 5 D0)) x1)] [] R' /\
 (∀ v H', R' (.ret v) H' -> ∃ x2 : Bool, v = A.d (D.lit (.bool x2)) /\ H' = [] /\
 ((!x2) = true ->
 R (.ret (A.d (D.lit (.bool false)))) []) /\
 ((!x2) = false ->
 tB (decide ((-9223372036854775808) <= (x1 + 1))) = true /\
 tB (decide ((x1 + 1) <= 9223372036854775807)) = true /\
 I0_0 (x1 + 1) /\ M0_0 (x1 + 1) < M0_0 x1)) /\
 PN R R') /\
 (tB (decide (x1 < ((Rf.dlst (x0.getD 5 D0)).length : Int))) = false ->
 R (.ret (A.d (D.lit (.bool true)))) [])) /\
 True) /\
 (tB ((Rf.dint (x0.getD 0 D0)) == 3) = false ->
 (tB ((Rf.dint (x0.getD 0 D0)) == 4) = true ->
 Rf.isK .slc (x0.getD 5 D0) = true /\
 ∃ (I0_0 : Int -> Prop) (M0_0 : Int -> Nat), I0_0 0 /\
 (∀ (x1 : Int) , I0_0 x1 ->
 (tB (decide (x1 < ((Rf.dlst (x0.getD 5 D0)).length : Int))) = true ->
 tB (decide (0 <= x1)) = true /\
 tB (((gAt (Rf.dlst (x0.getD 5 D0)) x1).length : Int) == 6) = true /\
 ∀ _ : Nat -> Nat, ∃ R', Holds Try.prog 42 [A.agg (gAt (Rf.dlst (x0.getD 5 D0)) x1)] [] R' /\
 (∀ v H', R' (.ret v) H' -> ∃ x2 : Bool, v = A.d (D.lit (.bool x2)) /\ H' = [] /\
 (x2 = true ->
 R (.ret (A.d (D.lit (.bool true)))) []) /\
 (x2 = false ->
 tB (decide ((-9223372036854775808) <= (x1 + 1))) = true /\
 tB (decide ((x1 + 1) <= 9223372036854775807)) = true /\
 I0_0 (x1 + 1) /\ M0_0 (x1 + 1) < M0_0 x1)) /\
 PN R R') /\
 (tB (decide (x1 < ((Rf.dlst (x0.getD 5 D0)).length : Int))) = false ->
 R (.ret (A.d (D.lit (.bool false)))) [])) /\
 True) /\
 (tB ((Rf.dint (x0.getD 0 D0)) == 4) = false ->
 R (.ret (A.d (D.lit (.bool false)))) []))))) :
 Holds Try.prog 42 [A.agg x0] [] R :=
 walk (c := ⟨Try.prog, 37, true, [0, 1, 2, 4, 6, 8, 9, 12, 15, 16, 17, 18, 23, 25, 28, 29, 30, 31, 35]⟩) (op := {}) (fn := Try.f42) (args := [.agg (.var 0)]) (K := []) (nv := 1) (depth := 6) (up := upOf []) (ρ := Zat [.r x0])
  rfl rfl rfl rfl rfl (by decide) (by decide) (by decide) (by decide) rfl (by simp [Zad, RRef.den, upOf]) (T_of (by kernel_rfl) h)
end Go.Rx
end
section
open Go Go.Proofs Go.Ab Go.Rf
set_option maxRecDepth 1000000
set_option maxHeartbeats 2000000
set_option linter.unusedVariables false
namespace Go.Rx
theorem w37 {R : RT} (x0 : List UInt8) (x1 : Int) (q0 : Ref) (h : ∀ _ : Nat -> Nat, ∃ R', Holds Try.prog 48 [A.ptr (.up (Ref.up q0)) 0] [(Ref.up (Ref.up q0), [A.d (D.lit (Zaa x0)), A.d (D.lit (.int .i64 x1))])] R' /\
 (∀ v H', R' (.ret v) H' -> ∃ x2 : List D, ∃ x3 : List UInt8, ∃ x4 : Int, v = A.agg x2 /\ H' = [(Ref.up (Ref.up q0), [A.d (D.lit (Zaa x3)), A.d (D.lit (.int .i64 x4))])] /\
 tB ((x2.length : Int) == 6) = true /\
 ∃ (I0_0 : List (List D) -> List UInt8 -> Int -> Prop) (M0_0 : List (List D) -> List UInt8 -> Int -> Nat), I0_0 [x2] x3 x4 /\
 (∀ (x5 : List (List D)) (x6 : List UInt8) (x7 : Int) , I0_0 x5 x6 x7 ->
 ∀ _ : Nat -> Nat, ∃ R', Holds Try.prog 49 [A.ptr (.up (Ref.up q0)) 0] [(Ref.up (Ref.up q0), [A.d (D.lit (Zaa x6)), A.d (D.lit (.int .i64 x7))])] R' /\
 (∀ v H', R' (.ret v) H' -> ∃ x8 : Int, ∃ x9 : List UInt8, ∃ x10 : Int, v = A.d (D.lit (.int .u8 x8)) /\ H' = [(Ref.up (Ref.up q0), [A.d (D.lit (Zaa x9)), A.d (D.lit (.int .i64 x10))])] /\
 (tB (x8 == 124) = true ->
 tB (decide ((-9223372036854775808) <= (x10 + 1))) = true /\
 tB (decide ((x10 + 1) <= 9223372036854775807)) = true /\
 ∀ _ : Nat -> Nat, ∃ R', Holds Try.prog 48 [A.ptr (.up (Ref.up q0)) 0] [(Ref.up (Ref.up q0), [A.d (D.lit (Zaa x9)), A.d (D.lit (.int .i64 (x10 + 1)))])] R' /\
 (∀ v H', R' (.ret v) H' -> ∃ x11 : List D, ∃ x12 : List UInt8, ∃ x13 : Int, v = A.agg x11 /\ H' = [(Ref.up (Ref.up q0), [A.d (D.lit (Zaa x12)), A.d (D.lit (.int .i64 x13))])] /\
 tB ((x11.length : Int) == 6) = true /\
 (Zga 6 [x11]) = true /\
 tB (decide ((((x5.length : Int) + ([x11].length : Int)) * 64) <= 140737488355328)) = true /\
 tB (decide (((x5.length : Int) + ([x11].length : Int)) <= 1099511627776)) = true /\
 I0_0 (x5 ++ [x11]) x12 x13 /\ M0_0 (x5 ++ [x11]) x12 x13 < M0_0 x5 x6 x7) /\
 (∀ x11v H', R' (.pan x11v) H' -> ∃ x12 : List UInt8, ∃ x13 : Int, H' = [(Ref.up (Ref.up q0), [A.d (D.lit (Zaa x12)), A.d (D.lit (.int .i64 x13))])] /\
 R (.pan x11v) [((Ref.up q0), [A.d (D.lit (Zaa x12)), A.d (D.lit (.int .i64 x13))])])) /\
 (tB (x8 == 124) = false ->
 ∀ _ : Nat -> Nat, ∃ R', Holds Try.prog 50 [A.d (D.lit (.int .i64 4)), A.d (D.slc x5)] [] R' /\
 (∀ v H', R' (.ret v) H' -> ∃ x11 : List D, v = A.agg x11 /\ H' = [] /\
 tB ((x11.length : Int) == 6) = true /\
 R (.ret (A.agg x11)) [((Ref.up q0), [A.d (D.lit (Zaa x9)), A.d (D.lit (.int .i64 x10))])]) /\
 (∀ x11v H', R' (.pan x11v) H' -> H' = [] /\
 R (.pan x11v) [((Ref.up q0), [A.d (D.lit (Zaa x9)), A.d (D.lit (.int .i64 x10))])]))) /\
 (∀ x8v H', R' (.pan x8v) H' -> ∃ x9 : List UInt8, ∃ x10 : Int, H' = [(Ref.up (Ref.up q0), [A.d (D.lit (Zaa x9)), A.d (D.lit (.int .i64 x10))])] /\
 R (.pan x8v) [((Ref.up q0), [A.d (D.lit (Zaa x9)), A.d (D.lit (.int .i64 x10))])])) /\
 True) /\
 (∀ x2v H', R' (.pan x2v) H' -> ∃ x3 : List UInt8, ∃ x4 : Int, H' = [(Ref.up (Ref.up q0), [A.d (D.lit (Zaa x3)), A.d (D.lit (.int .i64 x4))])] /\
 R (.pan x2v) [((Ref.up q0), [A.d (D.lit (Zaa x3)), A.d (D.lit (.int .i64 x4))])])) :
 Holds Try.prog 37 [A.ptr (Ref.up q0) 0] [((Ref.up q0), [A.d (D.lit (Zaa x0)), A.d (D.lit (.int .i64 x1))])] R :=
 walk (c := ⟨Try.prog, 24, true, [0, 2, 3, 9]⟩) (op := {}) (fn := Try.f37) (args := [.ptr (.up 0) 0]) (K := [(.up 0, [.c (.o1 .cs (.var 0)), .c (.o1 (.ci .i64) (.var 1))])]) (nv := 2) (depth := 5) (up := upOf [q0]) (ρ := Zat [.s x0, .i x1])
  rfl rfl rfl rfl rfl (by decide) (by decide) (by decide) (by decide) rfl (by simp [Zad, RRef.den, upOf]) (T_of (by kernel_rfl) h)
theorem w38 {R : RT} (x0 : List UInt8) (x1 : Int) (x2 : Int) (q0 : Ref) (h : (Ztm [D.lit (.int .i64 x2)]) = true /\
 R (.pan (dval (D.lit (.iface 56 (.agg ([D.lit (.int .i64 x2)].map dval).toArray))))) [((Ref.up q0), [A.d (D.lit (Zaa x0)), A.d (D.lit (.int .i64 x1))])]) :
 Holds Try.prog 38 [A.ptr (Ref.up q0) 0, A.d (D.lit (.int .i64 x2))] [((Ref.up q0), [A.d (D.lit (Zaa x0)), A.d (D.lit (.int .i64 x1))])] R :=
 walk (c := ⟨Try.prog, 7, true, [0, 1]⟩) (op := {}) (fn := Try.f38) (args := [.ptr (.up 0) 0, .c (.o1 (.ci .i64) (.var 2))]) (K := [(.up 0, [.c (.o1 .cs (.var 0)), .c (.o1 (.ci .i64) (.var 1))])]) (nv := 3) (depth := 3) (up := upOf [q0]) (ρ := Zat [.s x0, .i x1, .i x2])
  rfl rfl rfl rfl rfl (by decide) (by decide) (by decide) (by decide) rfl (by simp [Zad, RRef.den, upOf]) (T_of (by kernel_rfl) h)
theorem w48 {R : RT} (x0 : List UInt8) (x1 : Int) (q0 : Ref) (h : ∀ ν : Nat -> Nat, ∃ R', Holds Try.prog 64 [A.ptr (.up (Ref.own 3 (ν 3))) 0, A.ptr (.up (Ref.own 1 (ν 1))) 0] [(Ref.up (Ref.own 3 (ν 3)), [(A.zs ([] : List (List D)))]), (Ref.up (Ref.own 1 (ν 1)), [A.ptr (.up (Ref.up q0)) 0]), (Ref.up (Ref.up q0), [A.d (D.lit (Zaa x0)), A.d (D.lit (.int .i64 x1))])] R' /\
 (∀ v H', R' (.ret v) H' -> ∃ x2 : List (List D), ∃ x3 : List UInt8, ∃ x4 : Int, v = A.tup [] /\ H' = [(Ref.up (Ref.own 3 (ν 3)), [(A.own 6 x2 ([] : List (List D)))]), (Ref.up (Ref.own 1 (ν 1)), [A.ptr (.up (Ref.up q0)) 0]), (Ref.up (Ref.up q0), [A.d (D.lit (Zaa x3)), A.d (D.lit (.int .i64 x4))])] /\
 ∃ (I0_0 : List (List D) -> List UInt8 -> Int -> Prop) (M0_0 : List (List D) -> List UInt8 -> Int -> Nat), I0_0 x2 x3 x4 /\
 (∀ (x5 : List (List D)) (x6 : List UInt8) (x7 : Int) , I0_0 x5 x6 x7 ->
 (tB (decide (x7 < (x6.length : Int))) = true ->
 ∀ _ : Nat -> Nat, ∃ R', Holds Try.prog 49 [A.ptr (.up (Ref.up q0)) 0] [(Ref.up (Ref.up q0), [A.d (D.lit (Zaa x6)), A.d (D.lit (.int .i64 x7))])] R' /\
 (∀ v H', R' (.ret v) H' -> ∃ x8 : Int, ∃ x9 : List UInt8, ∃ x10 : Int, v = A.d (D.lit (.int .u8 x8)) /\ H' = [(Ref.up (Ref.up q0), [A.d (D.lit (Zaa x9)), A.d (D.lit (.int .i64 x10))])] /\
 ((!(tB (x8 == 124))) = true ->
 ∀ _ : Nat -> Nat, ∃ R', Holds Try.prog 49 [A.ptr (.up (Ref.up q0)) 0] [(Ref.up (Ref.up q0), [A.d (D.lit (Zaa x9)), A.d (D.lit (.int .i64 x10))])] R' /\
 (∀ v H', R' (.ret v) H' -> ∃ x11 : Int, ∃ x12 : List UInt8, ∃ x13 : Int, v = A.d (D.lit (.int .u8 x11)) /\ H' = [(Ref.up (Ref.up q0), [A.d (D.lit (Zaa x12)), A.d (D.lit (.int .i64 x13))])] /\
 ((!(tB (x11 == 41))) = true ->
 ∀ ν : Nat -> Nat, ∃ R', Holds Try.prog 64 [A.ptr (.up (Ref.own 3 (ν 3))) 0, A.ptr (.up (Ref.own 1 (ν 1))) 0] [(Ref.up (Ref.own 3 (ν 3)), [(A.own 6 x5 ([] : List (List D)))]), (Ref.up (Ref.own 1 (ν 1)), [A.ptr (.up (Ref.up q0)) 0]), (Ref.up (Ref.up q0), [A.d (D.lit (Zaa x12)), A.d (D.lit (.int .i64 x13))])] R' /\
 (∀ v H', R' (.ret v) H' -> ∃ x14 : List (List D), ∃ x15 : List UInt8, ∃ x16 : Int, v = A.tup [] /\ H' = [(Ref.up (Ref.own 3 (ν 3)), [(A.own 6 x14 ([] : List (List D)))]), (Ref.up (Ref.own 1 (ν 1)), [A.ptr (.up (Ref.up q0)) 0]), (Ref.up (Ref.up q0), [A.d (D.lit (Zaa x15)), A.d (D.lit (.int .i64 x16))])] /\
 I0_0 x14 x15 x16 /\ M0_0 x14 x15 x16 < M0_0 x5 x6 x7) /\
 (∀ x14v H', R' (.pan x14v) H' -> ∃ x15 : List UInt8, ∃ x16 : Int, H' = [(Ref.up (Ref.own 3 (ν 3)), [A.any]), (Ref.up (Ref.own 1 (ν 1)), [A.ptr (.up (Ref.up q0)) 0]), (Ref.up (Ref.up q0), [A.d (D.lit (Zaa x15)), A.d (D.lit (.int .i64 x16))])] /\
 R (.pan x14v) [((Ref.up q0), [A.d (D.lit (Zaa x15)), A.d (D.lit (.int .i64 x16))])])) /\
 ((!(tB (x11 == 41))) = false ->
 ∀ _ : Nat -> Nat, ∃ R', Holds Try.prog 50 [A.d (D.lit (.int .i64 3)), A.d (D.slc x5)] [] R' /\
 (∀ v H', R' (.ret v) H' -> ∃ x14 : List D, v = A.agg x14 /\ H' = [] /\
 tB ((x14.length : Int) == 6) = true /\
 R (.ret (A.agg x14)) [((Ref.up q0), [A.d (D.lit (Zaa x12)), A.d (D.lit (.int .i64 x13))])]) /\
 (∀ x14v H', R' (.pan x14v) H' -> H' = [] /\
 R (.pan x14v) [((Ref.up q0), [A.d (D.lit (Zaa x12)), A.d (D.lit (.int .i64 x13))])]))) /\
 (∀ x11v H', R' (.pan x11v) H' -> ∃ x12 : List UInt8, ∃ x13 : Int, H' = [(Ref.up (Ref.up q0), [A.d (D.lit (Zaa x12)), A.d (D.lit (.int .i64 x13))])] /\
 R (.pan x11v) [((Ref.up q0), [A.d (D.lit (Zaa x12)), A.d (D.lit (.int .i64 x13))])])) /\
 ((!(tB (x8 == 124))) = false ->
 ∀ _ : Nat -> Nat, ∃ R', Holds Try.prog 50 [A.d (D.lit (.int .i64 3)), A.d (D.slc x5)] [] R' /\
 (∀ v H', R' (.ret v) H' -> ∃ x11 : List D, v = A.agg x11 /\ H' = [] /\
 tB ((x11.length : Int) == 6) = true /\
 R (.ret (A.agg x11)) [((Ref.up q0), [A.d (D.lit (Zaa x9)), A.d (D.lit (.int .i64 x10))])]) /\
 (∀ x11v H', R' (.pan x11v) H' -> H' = [] /\
 R (.pan x11v) [((Ref.up q0), [A.d (D.lit (Zaa x9)), A.d (D.lit (.int .i64 x10))])]))) /\
 (∀ x8v H', R' (.pan x8v) H' -> ∃ x9 : List UInt8, ∃ x10 : Int, H' = [(Ref.up (Ref.up q0), [A.d (D.lit (Zaa x9)), A.d (D.lit (.int .i64 x10))])] /\
 R (.pan x8v) [((Ref.up q0), [A.d (D.lit (Zaa x9)), A.d (D.lit (.int .i64 x10))])])) /\
 (tB (decide (x7 < (x6.length : Int))) = false ->
 ∀ _ : Nat -> Nat, ∃ R', Holds Try.prog 50 [A.d (D.lit (.int .i64 3)), A.d (D.slc x5)] [] R' /\
 (∀ v H', R' (.ret v) H' -> ∃ x8 : List D, v = A.agg x8 /\ H' = [] /\
 tB ((x8.length : Int) == 6) = true /\
 R (.ret (A.agg x8)) [((Ref.up q0), [A.d (D.lit (Zaa x6)), A.d (D.lit (.int .i64 x7))])]) /\
 (∀ x8v H', R' (.pan x8v) H' -> H' = [] /\
 R (.pan x8v) [((Ref.up q0), [A.d (D.lit (Zaa x6)), A.d (D.lit (.int .i64 x7))])]))) /\
 True) /\
 (∀ x2v H', R' (.pan x2v) H' -> ∃ x3 : List UInt8, ∃ x4 : Int, H' = [(Ref.up (Ref.own 3 (ν 3)), [A.any]), (Ref.up (Ref.own 1 (ν 1)), [A.ptr (.up (Ref.up q0)) 0]), (Ref.up (Ref.up q0), [A.d (D.lit (Zaa x3)), A.d (D.lit (.int .i64 x4))])] /\
 R (.pan x2v) [((Ref.up q0), [A.d (D.lit (Zaa x3)), A.d (D.lit (.int .i64 x4))])])) :
 Holds Try.prog 48 [A.ptr (Ref.up q0) 0] [((Ref.up q0), [A.d (D.lit (Zaa x0)), A.d (D.lit (.int .i64 x1))])] R :=
 walk (c := ⟨Try.prog, 32, true, [0, 1, 2, 3, 4, 27]⟩) (op := { grow := [(64, 6)], lose := [64] }) (fn := Try.f48) (args := [.ptr (.up 0) 0]) (K := [(.up 0, [.c (.o1 .cs (.var 0)), .c (.o1 (.ci .i64) (.var 1))])]) (nv := 2) (depth := 6) (up := upOf [q0]) (ρ := Zat [.s x0, .i x1])
  rfl rfl rfl rfl rfl (by decide) (by decide) (by decide) (by decide) rfl (by simp [Zad, RRef.den, upOf]) (T_of (by kernel_rfl) h)
theorem w49 {R : RT} (x0 : List UInt8) (x1 : Int) (q0 : Ref) (h : (tB (decide (x1 < (x0.length : Int))) = true ->
 tB (decide (0 <= x1)) = true /\
 R (.ret (A.d (D.lit (.int .u8 (Zak x0 x1))))) [((Ref.up q0), [A.d (D.lit (Zaa x0)), A.d (D.lit (.int .i64 x1))])]) /\
 (tB (decide (x1 < (x0.length : Int))) = false ->
 R (.ret (A.d (D.lit (.int .u8 0)))) [((Ref.up q0), [A.d (D.lit (Zaa x0)), A.d (D.lit (.int .i64 x1))])])) :
 Holds Try.prog 49 [A.ptr (Ref.up q0) 0] [((Ref.up q0), [A.d (D.lit (Zaa x0)), A.d (D.lit (.int .i64 x1))])] R :=
 walk (c := ⟨Try.prog, 22, true, [0, 2, 12]⟩) (op := {}) (fn := Try.f49) (args := [.ptr (.up 0) 0]) (K := [(.up 0, [.c (.o1 .cs (.var 0)), .c (.o1 (.ci .i64) (.var 1))])]) (nv := 2) (depth := 5) (up := upOf [q0]) (ρ := Zat [.s x0, .i x1])
  rfl rfl rfl rfl rfl (by decide) (by decide) (by decide) (by decide) rfl (by simp [Zad, RRef.den, upOf]) (T_of (by kernel_rfl) h)
theorem w64a {R : RT} (x0 : List UInt8) (x1 : Int) (q0 q1 q2 : Ref) (hq01 : q0 ≠ q1) (hq02 : q0 ≠ q2) (hq12 : q1 ≠ q2) (h : ∀ _ : Nat -> Nat, ∃ R', Holds Try.prog 65 [A.ptr (.up (Ref.up q2)) 0] [(Ref.up (Ref.up q2), [A.d (D.lit (Zaa x0)), A.d (D.lit (.int .i64 x1))])] R' /\
 (∀ v H', R' (.ret v) H' -> ∃ x2 : List D, ∃ x3 : List UInt8, ∃ x4 : Int, v = A.agg x2 /\ H' = [(Ref.up (Ref.up q2), [A.d (D.lit (Zaa x3)), A.d (D.lit (.int .i64 x4))])] /\
 tB (decide (((0 + ([[D.lit (.int .i64 0), D.lit (.int .u64 0), D.lit (.int .u64 0), D.lit (.int .u64 0), D.lit (.int .u64 0), (D.slc ([] : List (List D)))]].length : Int)) * 64) <= 140737488355328)) = true /\
 tB (decide ((0 + ([[D.lit (.int .i64 0), D.lit (.int .u64 0), D.lit (.int .u64 0), D.lit (.int .u64 0), D.lit (.int .u64 0), (D.slc ([] : List (List D)))]].length : Int)) <= 1099511627776)) = true /\
 tB (decide (0 < ([[D.lit (.int .i64 0), D.lit (.int .u64 0), D.lit (.int .u64 0), D.lit (.int .u64 0), D.lit (.int .u64 0), (D.slc ([] : List (List D)))]].length : Int))) = true /\
 tB ((x2.length : Int) == 6) = true /\
 R (.ret (A.tup [])) [((Ref.up q0), [(A.own 6 (([] : List (List D)) ++ (gSet [[D.lit (.int .i64 0), D.lit (.int .u64 0), D.lit (.int .u64 0), D.lit (.int .u64 0), D.lit (.int .u64 0), (D.slc ([] : List (List D)))]] 0 (setL (gAt [[D.lit (.int .i64 0), D.lit (.int .u64 0), D.lit (.int .u64 0), D.lit (.int .u64 0), D.lit (.int .u64 0), (D.slc ([] : List (List D)))]] 0) 0 x2))) ([] : List (List D)))]), ((Ref.up q1), [A.ptr (Ref.up q2) 0]), ((Ref.up q2), [A.d (D.lit (Zaa x3)), A.d (D.lit (.int .i64 x4))])]) /\
 (∀ x2v H', R' (.pan x2v) H' -> ∃ x3 : List UInt8, ∃ x4 : Int, H' = [(Ref.up (Ref.up q2), [A.d (D.lit (Zaa x3)), A.d (D.lit (.int .i64 x4))])] /\
 R (.pan x2v) [((Ref.up q0), [(A.zs ([] : List (List D)))]), ((Ref.up q1), [A.ptr (Ref.up q2) 0]), ((Ref.up q2), [A.d (D.lit (Zaa x3)), A.d (D.lit (.int .i64 x4))])])) :
 Holds Try.prog 64 [A.ptr (Ref.up q0) 0, A.ptr (Ref.up q1) 0] [((Ref.up q0), [(A.zs ([] : List (List D)))]), ((Ref.up q1), [A.ptr (Ref.up q2) 0]), ((Ref.up q2), [A.d (D.lit (Zaa x0)), A.d (D.lit (.int .i64 x1))])] R :=
 walk (c := ⟨Try.prog, 9, true, [0, 1]⟩) (op := { lat := [0] }) (fn := Try.f64) (args := [.ptr (.up 0) 0, .ptr (.up 1) 0]) (K := [(.up 0, [.zs .lnil]), (.up 1, [.ptr (.up 2) 0]), (.up 2, [.c (.o1 .cs (.var 0)), .c (.o1 (.ci .i64) (.var 1))])]) (nv := 2) (depth := 4) (up := upOf [q0, q1, q2]) (ρ := Zat [.s x0, .i x1])
  rfl rfl rfl rfl rfl (by decide) (by decide) (by decide) (by decide) rfl (by simp [Zad, RRef.den, upOf, hq01, hq02, hq12]) (T_of (by kernel_rfl) h)
theorem w64b {R : RT} (x0 : List (List D)) (x1 : List UInt8) (x2 : Int) (q0 q1 q2 : Ref) (hq01 : q0 ≠ q1) (hq02 : q0 ≠ q2) (hq12 : q1 ≠ q2) (h : ∀ _ : Nat -> Nat, ∃ R', Holds Try.prog 65 [A.ptr (.up (Ref.up q2)) 0] [(Ref.up (Ref.up q2), [A.d (D.lit (Zaa x1)), A.d (D.lit (.int .i64 x2))])] R' /\
 (∀ v H', R' (.ret v) H' -> ∃ x3 : List D, ∃ x4 : List UInt8, ∃ x5 : Int, v = A.agg x3 /\ H' = [(Ref.up (Ref.up q2), [A.d (D.lit (Zaa x4)), A.d (D.lit (.int .i64 x5))])] /\
 tB (decide ((((x0.length : Int) + ([[D.lit (.int .i64 0), D.lit (.int .u64 0), D.lit (.int .u64 0), D.lit (.int .u64 0), D.lit (.int .u64 0), (D.slc ([] : List (List D)))]].length : Int)) * 64) <= 140737488355328)) = true /\
 tB (decide (((x0.length : Int) + ([[D.lit (.int .i64 0), D.lit (.int .u64 0), D.lit (.int .u64 0), D.lit (.int .u64 0), D.lit (.int .u64 0), (D.slc ([] : List (List D)))]].length : Int)) <= 1099511627776)) = true /\
 tB ((x3.length : Int) == 6) = true /\
 R (.ret (A.tup [])) [((Ref.up q0), [(A.own 6 (x0 ++ [(setL [D.lit (.int .i64 0), D.lit (.int .u64 0), D.lit (.int .u64 0), D.lit (.int .u64 0), D.lit (.int .u64 0), (D.slc ([] : List (List D)))] 0 x3)]) ([] : List (List D)))]), ((Ref.up q1), [A.ptr (Ref.up q2) 0]), ((Ref.up q2), [A.d (D.lit (Zaa x4)), A.d (D.lit (.int .i64 x5))])]) /\
 (∀ x3v H', R' (.pan x3v) H' -> ∃ x4 : List UInt8, ∃ x5 : Int, H' = [(Ref.up (Ref.up q2), [A.d (D.lit (Zaa x4)), A.d (D.lit (.int .i64 x5))])] /\
 R (.pan x3v) [((Ref.up q0), [A.any]), ((Ref.up q1), [A.ptr (Ref.up q2) 0]), ((Ref.up q2), [A.d (D.lit (Zaa x4)), A.d (D.lit (.int .i64 x5))])])) :
 Holds Try.prog 64 [A.ptr (Ref.up q0) 0, A.ptr (Ref.up q1) 0] [((Ref.up q0), [(A.own 6 x0 ([] : List (List D)))]), ((Ref.up q1), [A.ptr (Ref.up q2) 0]), ((Ref.up q2), [A.d (D.lit (Zaa x1)), A.d (D.lit (.int .i64 x2))])] R :=
 walk (c := ⟨Try.prog, 9, true, [0, 1]⟩) (op := { lat := [0] }) (fn := Try.f64) (args := [.ptr (.up 0) 0, .ptr (.up 1) 0]) (K := [(.up 0, [.own 6 (.var 0) .lnil]), (.up 1, [.ptr (.up 2) 0]), (.up 2, [.c (.o1 .cs (.var 1)), .c (.o1 (.ci .i64) (.var 2))])]) (nv := 3) (depth := 4) (up := upOf [q0, q1, q2]) (ρ := Zat [.l x0, .s x1, .i x2])
  rfl rfl rfl rfl rfl (by decide) (by decide) (by decide) (by decide) rfl (by simp [Zad, RRef.den, upOf, hq01, hq02, hq12]) (T_of (by kernel_rfl) h)
theorem w65 {R : RT} (x0 : List UInt8) (x1 : Int) (q0 : Ref) (h : ∀ _ : Nat -> Nat, ∃ R', Holds Try.prog 73 [A.ptr (.up (Ref.up q0)) 0] [(Ref.up (Ref.up q0), [A.d (D.lit (Zaa x0)), A.d (D.lit (.int .i64 x1))])] R' /\
 (∀ v H', R' (.ret v) H' -> ∃ x2 : List D, ∃ x3 : List UInt8, ∃ x4 : Int, v = A.agg x2 /\ H' = [(Ref.up (Ref.up q0), [A.d (D.lit (Zaa x3)), A.d (D.lit (.int .i64 x4))])] /\
 tB ((x2.length : Int) == 6) = true /\
 ∃ (I0_0 : D -> D -> D -> D -> D -> D -> List UInt8 -> Int -> Prop) (M0_0 : D -> D -> D -> D -> D -> D -> List UInt8 -> Int -> Nat), I0_0 (x2.getD 0 D0) (x2.getD 1 D0) (x2.getD 2 D0) (x2.getD 3 D0) (x2.getD 4 D0) (x2.getD 5 D0) x3 x4 /\
 (∀ (x5 : D) (x6 : D) (x7 : D) (x8 : D) (x9 : D) (x10 : D) (x11 : List UInt8) (x12 : Int) , I0_0 x5 x6 x7 x8 x9 x10 x11 x12 ->
 ∀ _ : Nat -> Nat, ∃ R', Holds Try.prog 49 [A.ptr (.up (Ref.up q0)) 0] [(Ref.up (Ref.up q0), [A.d (D.lit (Zaa x11)), A.d (D.lit (.int .i64 x12))])] R' /\
 (∀ v H', R' (.ret v) H' -> ∃ x13 : Int, ∃ x14 : List UInt8, ∃ x15 : Int, v = A.d (D.lit (.int .u8 x13)) /\ H' = [(Ref.up (Ref.up q0), [A.d (D.lit (Zaa x14)), A.d (D.lit (.int .i64 x15))])] /\
 (tB (x13 == 42) = true ->
 tB (decide ((-9223372036854775808) <= (x15 + 1))) = true /\
 tB (decide ((x15 + 1) <= 9223372036854775807)) = true /\
 I0_0 (D.lit (.int .i64 5)) (D.lit (.int .u64 0)) (D.lit (.int .u64 0)) (D.lit (.int .u64 0)) (D.lit (.int .u64 0)) (D.slc [[x5, x6, x7, x8, x9, x10]]) x14 (x15 + 1) /\ M0_0 (D.lit (.int .i64 5)) (D.lit (.int .u64 0)) (D.lit (.int .u64 0)) (D.lit (.int .u64 0)) (D.lit (.int .u64 0)) (D.slc [[x5, x6, x7, x8, x9, x10]]) x14 (x15 + 1) < M0_0 x5 x6 x7 x8 x9 x10 x11 x12) /\
 (tB (x13 == 42) = false ->
 (tB (x13 == 43) = true ->
 tB (decide ((-9223372036854775808) <= (x15 + 1))) = true /\
 tB (decide ((x15 + 1) <= 9223372036854775807)) = true /\
 I0_0 (D.lit (.int .i64 3)) (D.lit (.int .u64 0)) (D.lit (.int .u64 0)) (D.lit (.int .u64 0)) (D.lit (.int .u64 0)) (D.slc [[x5, x6, x7, x8, x9, x10], [D.lit (.int .i64 5), D.lit (.int .u64 0), D.lit (.int .u64 0), D.lit (.int .u64 0), D.lit (.int .u64 0), D.slc [[x5, x6, x7, x8, x9, x10]]]]) x14 (x15 + 1) /\ M0_0 (D.lit (.int .i64 3)) (D.lit (.int .u64 0)) (D.lit (.int .u64 0)) (D.lit (.int .u64 0)) (D.lit (.int .u64 0)) (D.slc [[x5, x6, x7, x8, x9, x10], [D.lit (.int .i64 5), D.lit (.int .u64 0), D.lit (.int .u64 0), D.lit (.int .u64 0), D.lit (.int .u64 0), D.slc [[x5, x6, x7, x8, x9, x10]]]]) x14 (x15 + 1) < M0_0 x5 x6 x7 x8 x9 x10 x11 x12) /\
 (tB (x13 == 43) = false ->
 (tB (x13 == 63) = true ->
 tB (decide ((-9223372036854775808) <= (x15 + 1))) = true /\
 tB (decide ((x15 + 1) <= 9223372036854775807)) = true /\
 I0_0 (D.lit (.int .i64 4)) (D.lit (.int .u64 0)) (D.lit (.int .u64 0)) (D.lit (.int .u64 0)) (D.lit (.int .u64 0)) (D.slc [[x5, x6, x7, x8, x9, x10], [D.lit (.int .i64 1), D.lit (.int .u64 0), D.lit (.int .u64 0), D.lit (.int .u64 0), D.lit (.int .u64 0), (D.slc ([] : List (List D)))]]) x14 (x15 + 1) /\ M0_0 (D.lit (.int .i64 4)) (D.lit (.int .u64 0)) (D.lit (.int .u64 0)) (D.lit (.int .u64 0)) (D.lit (.int .u64 0)) (D.slc [[x5, x6, x7, x8, x9, x10], [D.lit (.int .i64 1), D.lit (.int .u64 0), D.lit (.int .u64 0), D.lit (.int .u64 0), D.lit (.int .u64 0), (D.slc ([] : List (List D)))]]) x14 (x15 + 1) < M0_0 x5 x6 x7 x8 x9 x10 x11 x12) /\
 (tB (x13 == 63) = false ->
 R (.ret (A.agg [x5, x6, x7, x8, x9, x10])) [((Ref.up q0), [A.d (D.lit (Zaa x14)), A.d (D.lit (.int .i64 x15))])])))) /\
 (∀ x13v H', R' (.pan x13v) H' -> ∃ x14 : List UInt8, ∃ x15 : Int, H' = [(Ref.up (Ref.up q0), [A.d (D.lit (Zaa x14)), A.d (D.lit (.int .i64 x15))])] /\
 R (.pan x13v) [((Ref.up q0), [A.d (D.lit (Zaa x14)), A.d (D.lit (.int .i64 x15))])])) /\
 True) /\
 (∀ x2v H', R' (.pan x2v) H' -> ∃ x3 : List UInt8, ∃ x4 : Int, H' = [(Ref.up (Ref.up q0), [A.d (D.lit (Zaa x3)), A.d (D.lit (.int .i64 x4))])] /\
 R (.pan x2v) [((Ref.up q0), [A.d (D.lit (Zaa x3)), A.d (D.lit (.int .i64 x4))])])) :
 Holds Try.prog 65 [A.ptr (Ref.up q0) 0] [((Ref.up q0), [A.d (D.lit (Zaa x0)), A.d (D.lit (.int .i64 x1))])] R :=
 walk (c := ⟨Try.prog, 35, true, [0, 2, 3, 4, 11, 13, 16, 22]⟩) (op := {}) (fn := Try.f65) (args := [.ptr (.up 0) 0]) (K := [(.up 0, [.c (.o1 .cs (.var 0)), .c (.o1 (.ci .i64) (.var 1))])]) (nv := 2) (depth := 6) (up := upOf [q0]) (ρ := Zat [.s x0, .i x1])
  rfl rfl rfl rfl rfl (by decide) (by decide) (by decide) (by decide) rfl (by simp [Zad, RRef.den, upOf]) (T_of (by kernel_rfl) h)
theorem w73 {R : RT} (x0 : List UInt8) (x1 : Int) (q0 : Ref) (h : ∀ _ : Nat -> Nat, ∃ R', Holds Try.prog 49 [A.ptr (.up (Ref.up q0)) 0] [(Ref.up (Ref.up q0), [A.d (D.lit (Zaa x0)), A.d (D.lit (.int .i64 x1))])] R' /\
 (∀ v H', R' (.ret v) H' -> ∃ x2 : Int, ∃ x3 : List UInt8, ∃ x4 : Int, v = A.d (D.lit (.int .u8 x2)) /\ H' = [(Ref.up (Ref.up q0), [A.d (D.lit (Zaa x3)), A.d (D.lit (.int .i64 x4))])] /\
 (tB (decide ((x3.length : Int) <= x4)) = true ->
 ∀ _ : Nat -> Nat, ∃ R', Holds Try.prog 38 [A.ptr (.up (Ref.up q0)) 0, (A.d (D.lit (.int .i64 (x3.length : Int))))] [(Ref.up (Ref.up q0), [A.d (D.lit (Zaa x3)), A.d (D.lit (.int .i64 x4))])] R' /\
 (∀ v H', R' (.ret v) H' -> ∃ x5 : List UInt8, ∃ x6 : Int, v = A.tup [] /\ H' = [(Ref.up (Ref.up q0), [A.d (D.lit (Zaa x5)), A.d (D.lit (.int .i64 x6))])] /\
 tB (decide ((-9223372036854775808) <= (x6 + 1))) = true /\
 tB (decide ((x6 + 1) <= 9223372036854775807)) = true /\
 ∀ _ : Nat -> Nat, ∃ R', Holds Try.prog 81 [A.d (D.lit (.int .u8 x2))] [] R' /\
 (∀ v H', R' (.ret v) H' -> ∃ x7 : List D, v = A.agg x7 /\ H' = [] /\
 tB ((x7.length : Int) == 6) = true /\
 R (.ret (A.agg x7)) [((Ref.up q0), [A.d (D.lit (Zaa x5)), A.d (D.lit (.int .i64 (x6 + 1)))])]) /\
 (∀ x7v H', R' (.pan x7v) H' -> H' = [] /\
 R (.pan x7v) [((Ref.up q0), [A.d (D.lit (Zaa x5)), A.d (D.lit (.int .i64 (x6 + 1)))])])) /\
 (∀ x5v H', R' (.pan x5v) H' -> ∃ x6 : List UInt8, ∃ x7 : Int, H' = [(Ref.up (Ref.up q0), [A.d (D.lit (Zaa x6)), A.d (D.lit (.int .i64 x7))])] /\
 R (.pan x5v) [((Ref.up q0), [A.d (D.lit (Zaa x6)), A.d (D.lit (.int .i64 x7))])])) /\
 (tB (decide ((x3.length : Int) <= x4)) = false ->
 (tB (x2 == 40) = true ->
 ∀ _ : Nat -> Nat, ∃ R', Holds Try.prog 77 [A.ptr (.up (Ref.up q0)) 0] [(Ref.up (Ref.up q0), [A.d (D.lit (Zaa x3)), A.d (D.lit (.int .i64 x4))])] R' /\
 (∀ v H', R' (.ret v) H' -> ∃ x5 : List D, ∃ x6 : List UInt8, ∃ x7 : Int, v = A.agg x5 /\ H' = [(Ref.up (Ref.up q0), [A.d (D.lit (Zaa x6)), A.d (D.lit (.int .i64 x7))])] /\
 tB ((x5.length : Int) == 6) = true /\
 R (.ret (A.agg x5)) [((Ref.up q0), [A.d (D.lit (Zaa x6)), A.d (D.lit (.int .i64 x7))])]) /\
 (∀ x5v H', R' (.pan x5v) H' -> ∃ x6 : List UInt8, ∃ x7 : Int, H' = [(Ref.up (Ref.up q0), [A.d (D.lit (Zaa x6)), A.d (D.lit (.int .i64 x7))])] /\
 R (.pan x5v) [((Ref.up q0), [A.d (D.lit (Zaa x6)), A.d (D.lit (.int .i64 x7))])])) /\
 (tB (x2 == 40) = false ->
 (tB (x2 == 91) = true ->
 ∀ _ : Nat -> Nat, ∃ R', Holds Try.prog 78 [A.ptr (.up (Ref.up q0)) 0] [(Ref.up (Ref.up q0), [A.d (D.lit (Zaa x3)), A.d (D.lit (.int .i64 x4))])] R' /\
 (∀ v H', R' (.ret v) H' -> ∃ x5 : List D, ∃ x6 : List UInt8, ∃ x7 : Int, v = A.agg x5 /\ H' = [(Ref.up (Ref.up q0), [A.d (D.lit (Zaa x6)), A.d (D.lit (.int .i64 x7))])] /\
 tB ((x5.length : Int) == 6) = true /\
 R (.ret (A.agg x5)) [((Ref.up q0), [A.d (D.lit (Zaa x6)), A.d (D.lit (.int .i64 x7))])]) /\
 (∀ x5v H', R' (.pan x5v) H' -> ∃ x6 : List UInt8, ∃ x7 : Int, H' = [(Ref.up (Ref.up q0), [A.d (D.lit (Zaa x6)), A.d (D.lit (.int .i64 x7))])] /\
 R (.pan x5v) [((Ref.up q0), [A.d (D.lit (Zaa x6)), A.d (D.lit (.int .i64 x7))])])) /\
 (tB (x2 == 91) = false ->
 (tB (x2 == 46) = true ->
 tB (decide ((-9223372036854775808) <= (x4 + 1))) = true /\
 tB (decide ((x4 + 1) <= 9223372036854775807)) = true /\
 ∀ _ : Nat -> Nat, ∃ R', Holds Try.prog 79 [A.d (D.lit (.int .u8 0)), A.d (D.lit (.int .u8 255))] [] R' /\
 (∀ v H', R' (.ret v) H' -> ∃ x5 : List D, v = A.agg x5 /\ H' = [] /\
 tB ((x5.length : Int) == 4) = true /\
 R (.ret (A.agg [D.lit (.int .i64 2), x5.getD 0 D0, x5.getD 1 D0, x5.getD 2 D0, x5.getD 3 D0, (D.slc ([] : List (List D)))])) [((Ref.up q0), [A.d (D.lit (Zaa x3)), A.d (D.lit (.int .i64 (x4 + 1)))])]) /\
 (∀ x5v H', R' (.pan x5v) H' -> H' = [] /\
 R (.pan x5v) [((Ref.up q0), [A.d (D.lit (Zaa x3)), A.d (D.lit (.int .i64 (x4 + 1)))])])) /\
 (tB (x2 == 46) = false ->
 (tB (x2 == 92) = true ->
 tB (decide ((-9223372036854775808) <= (x4 + 1))) = true /\
 tB (decide ((x4 + 1) <= 9223372036854775807)) = true /\
 (tB (decide ((x4 + 1) < (x3.length : Int))) = true ->
 tB (decide (0 <= (x4 + 1))) = true /\
 ∀ _ : Nat -> Nat, ∃ R', Holds Try.prog 80 [A.d (D.lit (.int .u8 (Zak x3 (x4 + 1))))] [] R' /\
 (∀ v H', R' (.ret v) H' -> ∃ x5 : List D, ∃ x6 : Bool, v = A.tup [(true, x5), (false, [D.lit (.bool x6)])] /\ H' = [] /\
 tB ((x5.length : Int) == 4) = true /\
 (x6 = true ->
 tB (decide ((-9223372036854775808) <= (x4 + 2))) = true /\
 tB (decide ((x4 + 2) <= 9223372036854775807)) = true /\
 R (.ret (A.agg [D.lit (.int .i64 2), x5.getD 0 D0, x5.getD 1 D0, x5.getD 2 D0, x5.getD 3 D0, (D.slc ([] : List (List D)))])) [((Ref.up q0), [A.d (D.lit (Zaa x3)), A.d (D.lit (.int .i64 (x4 + 2)))])]) /\
 (x6 = false ->
 ∀ _ : Nat -> Nat, ∃ R', Holds Try.prog 82 [A.ptr (.up (Ref.up q0)) 0, A.d (D.lit (.int .u8 0))] [(Ref.up (Ref.up q0), [A.d (D.lit (Zaa x3)), A.d (D.lit (.int .i64 x4))])] R' /\
 (∀ v H', R' (.ret v) H' -> ∃ x7 : Int, ∃ x8 : List UInt8, ∃ x9 : Int, v = A.d (D.lit (.int .u8 x7)) /\ H' = [(Ref.up (Ref.up q0), [A.d (D.lit (Zaa x8)), A.d (D.lit (.int .i64 x9))])] /\
 ∀ _ : Nat -> Nat, ∃ R', Holds Try.prog 81 [A.d (D.lit (.int .u8 x7))] [] R' /\
 (∀ v H', R' (.ret v) H' -> ∃ x10 : List D, v = A.agg x10 /\ H' = [] /\
 tB ((x10.length : Int) == 6) = true /\
 R (.ret (A.agg x10)) [((Ref.up q0), [A.d (D.lit (Zaa x8)), A.d (D.lit (.int .i64 x9))])]) /\
 (∀ x10v H', R' (.pan x10v) H' -> H' = [] /\
 R (.pan x10v) [((Ref.up q0), [A.d (D.lit (Zaa x8)), A.d (D.lit (.int .i64 x9))])])) /\
 (∀ x7v H', R' (.pan x7v) H' -> ∃ x8 : List UInt8, ∃ x9 : Int, H' = [(Ref.up (Ref.up q0), [A.d (D.lit (Zaa x8)), A.d (D.lit (.int .i64 x9))])] /\
 R (.pan x7v) [((Ref.up q0), [A.d (D.lit (Zaa x8)), A.d (D.lit (.int .i64 x9))])]))) /\
 (∀ x5v H', R' (.pan x5v) H' -> H' = [] /\
 R (.pan x5v) [((Ref.up q0), [A.d (D.lit (Zaa x3)), A.d (D.lit (.int .i64 x4))])])) /\
 (tB (decide ((x4 + 1) < (x3.length : Int))) = false ->
 ∀ _ : Nat -> Nat, ∃ R', Holds Try.prog 82 [A.ptr (.up (Ref.up q0)) 0, A.d (D.lit (.int .u8 0))] [(Ref.up (Ref.up q0), [A.d (D.lit (Zaa x3)), A.d (D.lit (.int .i64 x4))])] R' /\
 (∀ v H', R' (.ret v) H' -> ∃ x5 : Int, ∃ x6 : List UInt8, ∃ x7 : Int, v = A.d (D.lit (.int .u8 x5)) /\ H' = [(Ref.up (Ref.up q0), [A.d (D.lit (Zaa x6)), A.d (D.lit (.int .i64 x7))])] /\
 ∀ _ : Nat -> Nat, ∃ R', Holds Try.prog 81 [A.d (D.lit (.int .u8 x5))] [] R' /\
 (∀ v H', R' (.ret v) H' -> ∃ x8 : List D, v = A.agg x8 /\ H' = [] /\
 tB ((x8.length : Int) == 6) = true /\
 R (.ret (A.agg x8)) [((Ref.up q0), [A.d (D.lit (Zaa x6)), A.d (D.lit (.int .i64 x7))])]) /\
 (∀ x8v H', R' (.pan x8v) H' -> H' = [] /\
 R (.pan x8v) [((Ref.up q0), [A.d (D.lit (Zaa x6)), A.d (D.lit (.int .i64 x7))])])) /\
 (∀ x5v H', R' (.pan x5v) H' -> ∃ x6 : List UInt8, ∃ x7 : Int, H' = [(Ref.up (Ref.up q0), [A.d (D.lit (Zaa x6)), A.d (D.lit (.int .i64 x7))])] /\
 R (.pan x5v) [((Ref.up q0), [A.d (D.lit (Zaa x6)), A.d (D.lit (.int .i64 x7))])]))) /\
 (tB (x2 == 92) = false ->
 ((!((tB (decide (x2 < 32))) || (tB (decide (126 < x2))))) = true ->
 ∀ _ : Nat -> Nat, ∃ R', Holds Try.prog 83 [(A.d (D.lit (Zaa ([40, 41, 91, 93, 123, 125, 124, 42, 43, 63, 46, 92] : List UInt8)))), A.d (D.lit (.int .u8 x2))] [] R' /\
 (∀ v H', R' (.ret v) H' -> ∃ x5 : Int, v = A.d (D.lit (.int .i64 x5)) /\ H' = [] /\
 (tB (decide (0 <= x5)) = true ->
 ∀ _ : Nat -> Nat, ∃ R', Holds Try.prog 38 [A.ptr (.up (Ref.up q0)) 0, A.d (D.lit (.int .i64 x4))] [(Ref.up (Ref.up q0), [A.d (D.lit (Zaa x3)), A.d (D.lit (.int .i64 x4))])] R' /\
 (∀ v H', R' (.ret v) H' -> ∃ x6 : List UInt8, ∃ x7 : Int, v = A.tup [] /\ H' = [(Ref.up (Ref.up q0), [A.d (D.lit (Zaa x6)), A.d (D.lit (.int .i64 x7))])] /\
 tB (decide ((-9223372036854775808) <= (x7 + 1))) = true /\
 tB (decide ((x7 + 1) <= 9223372036854775807)) = true /\
 ∀ _ : Nat -> Nat, ∃ R', Holds Try.prog 81 [A.d (D.lit (.int .u8 x2))] [] R' /\
 (∀ v H', R' (.ret v) H' -> ∃ x8 : List D, v = A.agg x8 /\ H' = [] /\
 tB ((x8.length : Int) == 6) = true /\
 R (.ret (A.agg x8)) [((Ref.up q0), [A.d (D.lit (Zaa x6)), A.d (D.lit (.int .i64 (x7 + 1)))])]) /\
 (∀ x8v H', R' (.pan x8v) H' -> H' = [] /\
 R (.pan x8v) [((Ref.up q0), [A.d (D.lit (Zaa x6)), A.d (D.lit (.int .i64 (x7 + 1)))])])) /\
 (∀ x6v H', R' (.pan x6v) H' -> ∃ x7 : List UInt8, ∃ x8 : Int, H' = [(Ref.up (Ref.up q0), [A.d (D.lit (Zaa x7)), A.d (D.lit (.int .i64 x8))])] /\
 R (.pan x6v) [((Ref.up q0), [A.d (D.lit (Zaa x7)), A.d (D.lit (.int .i64 x8))])])) /\
 (tB (decide (0 <= x5)) = false ->
 tB (decide ((-9223372036854775808) <= (x4 + 1))) = true /\
 tB (decide ((x4 + 1) <= 9223372036854775807)) = true /\
 ∀ _ : Nat -> Nat, ∃ R', Holds Try.prog 81 [A.d (D.lit (.int .u8 x2))] [] R' /\
 (∀ v H', R' (.ret v) H' -> ∃ x6 : List D, v = A.agg x6 /\ H' = [] /\
 tB ((x6.length : Int) == 6) = true /\
 R (.ret (A.agg x6)) [((Ref.up q0), [A.d (D.lit (Zaa x3)), A.d (D.lit (.int .i64 (x4 + 1)))])]) /\
 (∀ x6v H', R' (.pan x6v) H' -> H' = [] /\
 R (.pan x6v) [((Ref.up q0), [A.d (D.lit (Zaa x3)), A.d (D.lit (.int .i64 (x4 + 1)))])]))) /\
 (∀ x5v H', R' (.pan x5v) H' -> H' = [] /\
 R (.pan x5v) [((Ref.up q0), [A.d (D.lit (Zaa x3)), A.d (D.lit (.int .i64 x4))])])) /\
 ((!((tB (decide (x2 < 32))) || (tB (decide (126 < x2))))) = false ->
 ∀ _ : Nat -> Nat, ∃ R', Holds Try.prog 38 [A.ptr (.up (Ref.up q0)) 0, A.d (D.lit (.int .i64 x4))] [(Ref.up (Ref.up q0), [A.d (D.lit (Zaa x3)), A.d (D.lit (.int .i64 x4))])] R' /\
 (∀ v H', R' (.ret v) H' -> ∃ x5 : List UInt8, ∃ x6 : Int, v = A.tup [] /\ H' = [(Ref.up (Ref.up q0), [A.d (D.lit (Zaa x5)), A.d (D.lit (.int .i64 x6))])] /\
 tB (decide ((-9223372036854775808) <= (x6 + 1))) = true /\
 tB (decide ((x6 + 1) <= 9223372036854775807)) = true /\
 ∀ _ : Nat -> Nat, ∃ R', Holds Try.prog 81 [A.d (D.lit (.int .u8 x2))] [] R' /\
 (∀ v H', R' (.ret v) H' -> ∃ x7 : List D, v = A.agg x7 /\ H' = [] /\
 tB ((x7.length : Int) == 6) = true /\
 R (.ret (A.agg x7)) [((Ref.up q0), [A.d (D.lit (Zaa x5)), A.d (D.lit (.int .i64 (x6 + 1)))])]) /\
 (∀ x7v H', R' (.pan x7v) H' -> H' = [] /\
 R (.pan x7v) [((Ref.up q0), [A.d (D.lit (Zaa x5)), A.d (D.lit (.int .i64 (x6 + 1)))])])) /\
 (∀ x5v H', R' (.pan x5v) H' -> ∃ x6 : List UInt8, ∃ x7 : Int, H' = [(Ref.up (Ref.up q0), [A.d (D.lit (Zaa x6)), A.d (D.lit (.int .i64 x7))])] /\
 R (.pan x5v) [((Ref.up q0), [A.d (D.lit (Zaa x6)), A.d (D.lit (.int .i64 x7))])])))))))) /\
 (∀ x2v H', R' (.pan x2v) H' -> ∃ x3 : List UInt8, ∃ x4 : Int, H' = [(Ref.up (Ref.up q0), [A.d (D.lit (Zaa x3)), A.d (D.lit (.int .i64 x4))])] /\
 R (.pan x2v) [((Ref.up q0), [A.d (D.lit (Zaa x3)), A.d (D.lit (.int .i64 x4))])])) :
 Holds Try.prog 73 [A.ptr (Ref.up q0) 0] [((Ref.up q0), [A.d (D.lit (Zaa x0)), A.d (D.lit (.int .i64 x1))])] R :=
 walk (c := ⟨Try.prog, 116, true, [0, 2, 3, 4, 5, 8, 26, 31, 36, 48, 61, 76, 89]⟩) (op := { lat := [13] }) (fn := Try.f73) (args := [.ptr (.up 0) 0]) (K := [(.up 0, [.c (.o1 .cs (.var 0)), .c (.o1 (.ci .i64) (.var 1))])]) (nv := 2) (depth := 7) (up := upOf [q0]) (ρ := Zat [.s x0, .i x1])
  rfl rfl rfl rfl rfl (by decide) (by decide) (by decide) (by decide) rfl (by simp [Zad, RRef.den, upOf]) (T_of (by kernel_rfl) h)
theorem w77 {R : RT} (x0 : List UInt8) (x1 : Int) (q0 : Ref) (h : tB (decide ((-9223372036854775808) <= (x1 + 1))) = true /\
 tB (decide ((x1 + 1) <= 9223372036854775807)) = true /\
 ∀ _ : Nat -> Nat, ∃ R', Holds Try.prog 49 [A.ptr (.up (Ref.up q0)) 0] [(Ref.up (Ref.up q0), [A.d (D.lit (Zaa x0)), A.d (D.lit (.int .i64 (x1 + 1)))])] R' /\
 (∀ v H', R' (.ret v) H' -> ∃ x2 : Int, ∃ x3 : List UInt8, ∃ x4 : Int, v = A.d (D.lit (.int .u8 x2)) /\ H' = [(Ref.up (Ref.up q0), [A.d (D.lit (Zaa x3)), A.d (D.lit (.int .i64 x4))])] /\
 (tB (x2 == 41) = true ->
 tB (decide ((-9223372036854775808) <= (x4 + 1))) = true /\
 tB (decide ((x4 + 1) <= 9223372036854775807)) = true /\
 R (.ret (A.agg [D.lit (.int .i64 1), D.lit (.int .u64 0), D.lit (.int .u64 0), D.lit (.int .u64 0), D.lit (.int .u64 0), (D.slc ([] : List (List D)))])) [((Ref.up q0), [A.d (D.lit (Zaa x3)), A.d (D.lit (.int .i64 (x4 + 1)))])]) /\
 (tB (x2 == 41) = false ->
 ∀ _ : Nat -> Nat, ∃ R', Holds Try.prog 37 [A.ptr (.up (Ref.up q0)) 0] [(Ref.up (Ref.up q0), [A.d (D.lit (Zaa x3)), A.d (D.lit (.int .i64 x4))])] R' /\
 (∀ v H', R' (.ret v) H' -> ∃ x5 : List D, ∃ x6 : List UInt8, ∃ x7 : Int, v = A.agg x5 /\ H' = [(Ref.up (Ref.up q0), [A.d (D.lit (Zaa x6)), A.d (D.lit (.int .i64 x7))])] /\
 tB ((x5.length : Int) == 6) = true /\
 ∀ _ : Nat -> Nat, ∃ R', Holds Try.prog 49 [A.ptr (.up (Ref.up q0)) 0] [(Ref.up (Ref.up q0), [A.d (D.lit (Zaa x6)), A.d (D.lit (.int .i64 x7))])] R' /\
 (∀ v H', R' (.ret v) H' -> ∃ x8 : Int, ∃ x9 : List UInt8, ∃ x10 : Int, v = A.d (D.lit (.int .u8 x8)) /\ H' = [(Ref.up (Ref.up q0), [A.d (D.lit (Zaa x9)), A.d (D.lit (.int .i64 x10))])] /\
 ((!(tB (x8 == 41))) = true ->
 ∀ _ : Nat -> Nat, ∃ R', Holds Try.prog 38 [A.ptr (.up (Ref.up q0)) 0, A.d (D.lit (.int .i64 x10))] [(Ref.up (Ref.up q0), [A.d (D.lit (Zaa x9)), A.d (D.lit (.int .i64 x10))])] R' /\
 (∀ v H', R' (.ret v) H' -> ∃ x11 : List UInt8, ∃ x12 : Int, v = A.tup [] /\ H' = [(Ref.up (Ref.up q0), [A.d (D.lit (Zaa x11)), A.d (D.lit (.int .i64 x12))])] /\
 tB (decide ((-9223372036854775808) <= (x12 + 1))) = true /\
 tB (decide ((x12 + 1) <= 9223372036854775807)) = true /\
 R (.ret (A.agg x5)) [((Ref.up q0), [A.d (D.lit (Zaa x11)), A.d (D.lit (.int .i64 (x12 + 1)))])]) /\
 (∀ x11v H', R' (.pan x11v) H' -> ∃ x12 : List UInt8, ∃ x13 : Int, H' = [(Ref.up (Ref.up q0), [A.d (D.lit (Zaa x12)), A.d (D.lit (.int .i64 x13))])] /\
 R (.pan x11v) [((Ref.up q0), [A.d (D.lit (Zaa x12)), A.d (D.lit (.int .i64 x13))])])) /\
 ((!(tB (x8 == 41))) = false ->
 tB (decide ((-9223372036854775808) <= (x10 + 1))) = true /\
 tB (decide ((x10 + 1) <= 9223372036854775807)) = true /\
 R (.ret (A.agg x5)) [((Ref.up q0), [A.d (D.lit (Zaa x9)), A.d (D.lit (.int .i64 (x10 + 1)))])])) /\
 (∀ x8v H', R' (.pan x8v) H' -> ∃ x9 : List UInt8, ∃ x10 : Int, H' = [(Ref.up (Ref.up q0), [A.d (D.lit (Zaa x9)), A.d (D.lit (.int .i64 x10))])] /\
 R (.pan x8v) [((Ref.up q0), [A.d (D.lit (Zaa x9)), A.d (D.lit (.int .i64 x10))])])) /\
 (∀ x5v H', R' (.pan x5v) H' -> ∃ x6 : List UInt8, ∃ x7 : Int, H' = [(Ref.up (Ref.up q0), [A.d (D.lit (Zaa x6)), A.d (D.lit (.int .i64 x7))])] /\
 R (.pan x5v) [((Ref.up q0), [A.d (D.lit (Zaa x6)), A.d (D.lit (.int .i64 x7))])]))) /\
 (∀ x2v H', R' (.pan x2v) H' -> ∃ x3 : List UInt8, ∃ x4 : Int, H' = [(Ref.up (Ref.up q0), [A.d (D.lit (Zaa x3)), A.d (D.lit (.int .i64 x4))])] /\
 R (.pan x2v) [((Ref.up q0), [A.d (D.lit (Zaa x3)), A.d (D.lit (.int .i64 x4))])])) :
 Holds Try.prog 77 [A.ptr (Ref.up q0) 0] [((Ref.up q0), [A.d (D.lit (Zaa x0)), A.d (D.lit (.int .i64 x1))])] R :=
 walk (c := ⟨Try.prog, 41, true, [0, 2, 3, 13, 26]⟩) (op := {}) (fn := Try.f77) (args := [.ptr (.up 0) 0]) (K := [(.up 0, [.c (.o1 .cs (.var 0)), .c (.o1 (.ci .i64) (.var 1))])]) (nv := 2) (depth := 6) (up := upOf [q0]) (ρ := Zat [.s x0, .i x1])
  rfl rfl rfl rfl rfl (by decide) (by decide) (by decide) (by decide) rfl (by simp [Zad, RRef.den, upOf]) (T_of (by kernel_rfl) h)
theorem w78 {R : RT} (x0 : List UInt8) (x1 : Int) (q0 : Ref) (h : tB (decide ((-9223372036854775808) <= (x1 + 1))) = true /\
 tB (decide ((x1 + 1) <= 9223372036854775807)) = true /\
 ∀ _ : Nat -> Nat, ∃ R', Holds Try.prog 49 [A.ptr (.up (Ref.up q0)) 0] [(Ref.up (Ref.up q0), [A.d (D.lit (Zaa x0)), A.d (D.lit (.int .i64 (x1 + 1)))])] R' /\
 (∀ v H', R' (.ret v) H' -> ∃ x2 : Int, ∃ x3 : List UInt8, ∃ x4 : Int, v = A.d (D.lit (.int .u8 x2)) /\ H' = [(Ref.up (Ref.up q0), [A.d (D.lit (Zaa x3)), A.d (D.lit (.int .i64 x4))])] /\
 (tB (x2 == 94) = true ->
 tB (decide ((-9223372036854775808) <= (x4 + 1))) = true /\
 tB (decide ((x4 + 1) <= 9223372036854775807)) = true /\
 ∃ (I0_0 : Bool -> D -> D -> D -> D -> List UInt8 -> Int -> Prop) (M0_0 : Bool -> D -> D -> D -> D -> List UInt8 -> Int -> Nat), I0_0 true (D.lit (.int .u64 0)) (D.lit (.int .u64 0)) (D.lit (.int .u64 0)) (D.lit (.int .u64 0)) x3 (x4 + 1) /\
 (∀ (x5 : Bool) (x6 : D) (x7 : D) (x8 : D) (x9 : D) (x10 : List UInt8) (x11 : Int) , I0_0 x5 x6 x7 x8 x9 x10 x11 ->
 ((!x5) = true ->
 ∀ _ : Nat -> Nat, ∃ R', Holds Try.prog 49 [A.ptr (.up (Ref.up q0)) 0] [(Ref.up (Ref.up q0), [A.d (D.lit (Zaa x10)), A.d (D.lit (.int .i64 x11))])] R' /\
 (∀ v H', R' (.ret v) H' -> ∃ x12 : Int, ∃ x13 : List UInt8, ∃ x14 : Int, v = A.d (D.lit (.int .u8 x12)) /\ H' = [(Ref.up (Ref.up q0), [A.d (D.lit (Zaa x13)), A.d (D.lit (.int .i64 x14))])] /\
 ((!(tB (x12 == 93))) = true ->
 ∀ _ : Nat -> Nat, ∃ R', Holds Try.prog 90 [A.ptr (.up (Ref.up q0)) 0, A.d (D.lit (.int .u8 0))] [(Ref.up (Ref.up q0), [A.d (D.lit (Zaa x13)), A.d (D.lit (.int .i64 x14))])] R' /\
 (∀ v H', R' (.ret v) H' -> ∃ x15 : Int, ∃ x16 : List UInt8, ∃ x17 : Int, v = A.d (D.lit (.int .u8 x15)) /\ H' = [(Ref.up (Ref.up q0), [A.d (D.lit (Zaa x16)), A.d (D.lit (.int .i64 x17))])] /\
 ∀ _ : Nat -> Nat, ∃ R', Holds Try.prog 49 [A.ptr (.up (Ref.up q0)) 0] [(Ref.up (Ref.up q0), [A.d (D.lit (Zaa x16)), A.d (D.lit (.int .i64 x17))])] R' /\
 (∀ v H', R' (.ret v) H' -> ∃ x18 : Int, ∃ x19 : List UInt8, ∃ x20 : Int, v = A.d (D.lit (.int .u8 x18)) /\ H' = [(Ref.up (Ref.up q0), [A.d (D.lit (Zaa x19)), A.d (D.lit (.int .i64 x20))])] /\
 (tB (x18 == 45) = true ->
 tB (decide ((-9223372036854775808) <= (x20 + 1))) = true /\
 tB (decide ((x20 + 1) <= 9223372036854775807)) = true /\
 ∀ _ : Nat -> Nat, ∃ R', Holds Try.prog 90 [A.ptr (.up (Ref.up q0)) 0, A.d (D.lit (.int .u8 x15))] [(Ref.up (Ref.up q0), [A.d (D.lit (Zaa x19)), A.d (D.lit (.int .i64 (x20 + 1)))])] R' /\
 (∀ v H', R' (.ret v) H' -> ∃ x21 : Int, ∃ x22 : List UInt8, ∃ x23 : Int, v = A.d (D.lit (.int .u8 x21)) /\ H' = [(Ref.up (Ref.up q0), [A.d (D.lit (Zaa x22)), A.d (D.lit (.int .i64 x23))])] /\
 ∃ x24 : List D, (∀ _ : Nat -> Nat, Holds Try.prog 79 [A.d (D.lit (.int .u8 x15)), A.d (D.lit (.int .u8 x21))] [] (Zce [] (A.agg x24))) /\
 ∀ _ : Nat -> Nat, ∃ R', Holds Try.prog 91 [A.agg [x6, x7, x8, x9], A.agg x24] [] R' /\
 (∀ v H', R' (.ret v) H' -> ∃ x25 : List D, v = A.agg x25 /\ H' = [] /\
 tB ((x25.length : Int) == 4) = true /\
 I0_0 false (x25.getD 0 D0) (x25.getD 1 D0) (x25.getD 2 D0) (x25.getD 3 D0) x22 x23 /\ M0_0 false (x25.getD 0 D0) (x25.getD 1 D0) (x25.getD 2 D0) (x25.getD 3 D0) x22 x23 < M0_0 x5 x6 x7 x8 x9 x10 x11) /\
 (∀ x25v H', R' (.pan x25v) H' -> H' = [] /\
 R (.pan x25v) [((Ref.up q0), [A.d (D.lit (Zaa x22)), A.d (D.lit (.int .i64 x23))])])) /\
 (∀ x21v H', R' (.pan x21v) H' -> ∃ x22 : List UInt8, ∃ x23 : Int, H' = [(Ref.up (Ref.up q0), [A.d (D.lit (Zaa x22)), A.d (D.lit (.int .i64 x23))])] /\
 R (.pan x21v) [((Ref.up q0), [A.d (D.lit (Zaa x22)), A.d (D.lit (.int .i64 x23))])])) /\
 (tB (x18 == 45) = false ->
 ∃ x21 : List D, (∀ _ : Nat -> Nat, Holds Try.prog 79 [A.d (D.lit (.int .u8 x15)), A.d (D.lit (.int .u8 x15))] [] (Zce [] (A.agg x21))) /\
 ∀ _ : Nat -> Nat, ∃ R', Holds Try.prog 91 [A.agg [x6, x7, x8, x9], A.agg x21] [] R' /\
 (∀ v H', R' (.ret v) H' -> ∃ x22 : List D, v = A.agg x22 /\ H' = [] /\
 tB ((x22.length : Int) == 4) = true /\
 I0_0 false (x22.getD 0 D0) (x22.getD 1 D0) (x22.getD 2 D0) (x22.getD 3 D0) x19 x20 /\ M0_0 false (x22.getD 0 D0) (x22.getD 1 D0) (x22.getD 2 D0) (x22.getD 3 D0) x19 x20 < M0_0 x5 x6 x7 x8 x9 x10 x11) /\
 (∀ x22v H', R' (.pan x22v) H' -> H' = [] /\
 R (.pan x22v) [((Ref.up q0), [A.d (D.lit (Zaa x19)), A.d (D.lit (.int .i64 x20))])]))) /\
 (∀ x18v H', R' (.pan x18v) H' -> ∃ x19 : List UInt8, ∃ x20 : Int, H' = [(Ref.up (Ref.up q0), [A.d (D.lit (Zaa x19)), A.d (D.lit (.int .i64 x20))])] /\
 R (.pan x18v) [((Ref.up q0), [A.d (D.lit (Zaa x19)), A.d (D.lit (.int .i64 x20))])])) /\
 (∀ x15v H', R' (.pan x15v) H' -> ∃ x16 : List UInt8, ∃ x17 : Int, H' = [(Ref.up (Ref.up q0), [A.d (D.lit (Zaa x16)), A.d (D.lit (.int .i64 x17))])] /\
 R (.pan x15v) [((Ref.up q0), [A.d (D.lit (Zaa x16)), A.d (D.lit (.int .i64 x17))])])) /\
 ((!(tB (x12 == 93))) = false ->
 tB (decide ((-9223372036854775808) <= (x14 + 1))) = true /\
 tB (decide ((x14 + 1) <= 9223372036854775807)) = true /\
 ∀ _ : Nat -> Nat, ∃ R', Holds Try.prog 92 [A.agg [x6, x7, x8, x9]] [] R' /\
 (∀ v H', R' (.ret v) H' -> ∃ x15 : List D, v = A.agg x15 /\ H' = [] /\
 tB ((x15.length : Int) == 4) = true /\
 R (.ret (A.agg [D.lit (.int .i64 2), x15.getD 0 D0, x15.getD 1 D0, x15.getD 2 D0, x15.getD 3 D0, (D.slc ([] : List (List D)))])) [((Ref.up q0), [A.d (D.lit (Zaa x13)), A.d (D.lit (.int .i64 (x14 + 1)))])]) /\
 (∀ x15v H', R' (.pan x15v) H' -> H' = [] /\
 R (.pan x15v) [((Ref.up q0), [A.d (D.lit (Zaa x13)), A.d (D.lit (.int .i64 (x14 + 1)))])]))) /\
 (∀ x12v H', R' (.pan x12v) H' -> ∃ x13 : List UInt8, ∃ x14 : Int, H' = [(Ref.up (Ref.up q0), [A.d (D.lit (Zaa x13)), A.d (D.lit (.int .i64 x14))])] /\
 R (.pan x12v) [((Ref.up q0), [A.d (D.lit (Zaa x13)), A.d (D.lit (.int .i64 x14))])])) /\
 ((!x5) = false ->
 ∀ _ : Nat -> Nat, ∃ R', Holds Try.prog 90 [A.ptr (.up (Ref.up q0)) 0, A.d (D.lit (.int .u8 0))] [(Ref.up (Ref.up q0), [A.d (D.lit (Zaa x10)), A.d (D.lit (.int .i64 x11))])] R' /\
 (∀ v H', R' (.ret v) H' -> ∃ x12 : Int, ∃ x13 : List UInt8, ∃ x14 : Int, v = A.d (D.lit (.int .u8 x12)) /\ H' = [(Ref.up (Ref.up q0), [A.d (D.lit (Zaa x13)), A.d (D.lit (.int .i64 x14))])] /\
 ∀ _ : Nat -> Nat, ∃ R', Holds Try.prog 49 [A.ptr (.up (Ref.up q0)) 0] [(Ref.up (Ref.up q0), [A.d (D.lit (Zaa x13)), A.d (D.lit (.int .i64 x14))])] R' /\
 (∀ v H', R' (.ret v) H' -> ∃ x15 : Int, ∃ x16 : List UInt8, ∃ x17 : Int, v = A.d (D.lit (.int .u8 x15)) /\ H' = [(Ref.up (Ref.up q0), [A.d (D.lit (Zaa x16)), A.d (D.lit (.int .i64 x17))])] /\
 (tB (x15 == 45) = true ->
 tB (decide ((-9223372036854775808) <= (x17 + 1))) = true /\
 tB (decide ((x17 + 1) <= 9223372036854775807)) = true /\
 ∀ _ : Nat -> Nat, ∃ R', Holds Try.prog 90 [A.ptr (.up (Ref.up q0)) 0, A.d (D.lit (.int .u8 x12))] [(Ref.up (Ref.up q0), [A.d (D.lit (Zaa x16)), A.d (D.lit (.int .i64 (x17 + 1)))])] R' /\
 (∀ v H', R' (.ret v) H' -> ∃ x18 : Int, ∃ x19 : List UInt8, ∃ x20 : Int, v = A.d (D.lit (.int .u8 x18)) /\ H' = [(Ref.up (Ref.up q0), [A.d (D.lit (Zaa x19)), A.d (D.lit (.int .i64 x20))])] /\
 ∃ x21 : List D, (∀ _ : Nat -> Nat, Holds Try.prog 79 [A.d (D.lit (.int .u8 x12)), A.d (D.lit (.int .u8 x18))] [] (Zce [] (A.agg x21))) /\
 ∀ _ : Nat -> Nat, ∃ R', Holds Try.prog 91 [A.agg [x6, x7, x8, x9], A.agg x21] [] R' /\
 (∀ v H', R' (.ret v) H' -> ∃ x22 : List D, v = A.agg x22 /\ H' = [] /\
 tB ((x22.length : Int) == 4) = true /\
 I0_0 false (x22.getD 0 D0) (x22.getD 1 D0) (x22.getD 2 D0) (x22.getD 3 D0) x19 x20 /\ M0_0 false (x22.getD 0 D0) (x22.getD 1 D0) (x22.getD 2 D0) (x22.getD 3 D0) x19 x20 < M0_0 x5 x6 x7 x8 x9 x10 x11) /\
 (∀ x22v H', R' (.pan x22v) H' -> H' = [] /\
 R (.pan x22v) [((Ref.up q0), [A.d (D.lit (Zaa x19)), A.d (D.lit (.int .i64 x20))])])) /\
 (∀ x18v H', R' (.pan x18v) H' -> ∃ x19 : List UInt8, ∃ x20 : Int, H' = [(Ref.up (Ref.up q0), [A.d (D.lit (Zaa x19)), A.d (D.lit (.int .i64 x20))])] /\
 R (.pan x18v) [((Ref.up q0), [A.d (D.lit (Zaa x19)), A.d (D.lit (.int .i64 x20))])])) /\
 (tB (x15 == 45) = false ->
 ∃ x18 : List D, (∀ _ : Nat -> Nat, Holds Try.prog 79 [A.d (D.lit (.int .u8 x12)), A.d (D.lit (.int .u8 x12))] [] (Zce [] (A.agg x18))) /\
 ∀ _ : Nat -> Nat, ∃ R', Holds Try.prog 91 [A.agg [x6, x7, x8, x9], A.agg x18] [] R' /\
 (∀ v H', R' (.ret v) H' -> ∃ x19 : List D, v = A.agg x19 /\ H' = [] /\
 tB ((x19.length : Int) == 4) = true /\
 I0_0 false (x19.getD 0 D0) (x19.getD 1 D0) (x19.getD 2 D0) (x19.getD 3 D0) x16 x17 /\ M0_0 false (x19.getD 0 D0) (x19.getD 1 D0) (x19.getD 2 D0) (x19.getD 3 D0) x16 x17 < M0_0 x5 x6 x7 x8 x9 x10 x11) /\
 (∀ x19v H', R' (.pan x19v) H' -> H' = [] /\
 R (.pan x19v) [((Ref.up q0), [A.d (D.lit (Zaa x16)), A.d (D.lit (.int .i64 x17))])]))) /\
 (∀ x15v H', R' (.pan x15v) H' -> ∃ x16 : List UInt8, ∃ x17 : Int, H' = [(Ref.up (Ref.up q0), [A.d (D.lit (Zaa x16)), A.d (D.lit (.int .i64 x17))])] /\
 R (.pan x15v) [((Ref.up q0), [A.d (D.lit (Zaa x16)), A.d (D.lit (.int .i64 x17))])])) /\
 (∀ x12v H', R' (.pan x12v) H' -> ∃ x13 : List UInt8, ∃ x14 : Int, H' = [(Ref.up (Ref.up q0), [A.d (D.lit (Zaa x13)), A.d (D.lit (.int .i64 x14))])] /\
 R (.pan x12v) [((Ref.up q0), [A.d (D.lit (Zaa x13)), A.d (D.lit (.int .i64 x14))])]))) /\
 True) /\
 (tB (x2 == 94) = false ->
 ∀ _ : Nat -> Nat, ∃ R', Holds Try.prog 49 [A.ptr (.up (Ref.up q0)) 0] [(Ref.up (Ref.up q0), [A.d (D.lit (Zaa x3)), A.d (D.lit (.int .i64 x4))])] R' /\
 (∀ v H', R' (.ret v) H' -> ∃ x5 : Int, ∃ x6 : List UInt8, ∃ x7 : Int, v = A.d (D.lit (.int .u8 x5)) /\ H' = [(Ref.up (Ref.up q0), [A.d (D.lit (Zaa x6)), A.d (D.lit (.int .i64 x7))])] /\
 (tB (x5 == 93) = true ->
 tB (decide ((-9223372036854775808) <= (x7 + 1))) = true /\
 tB (decide ((x7 + 1) <= 9223372036854775807)) = true /\
 R (.ret (A.agg [D.lit (.int .i64 0), D.lit (.int .u64 0), D.lit (.int .u64 0), D.lit (.int .u64 0), D.lit (.int .u64 0), (D.slc ([] : List (List D)))])) [((Ref.up q0), [A.d (D.lit (Zaa x6)), A.d (D.lit (.int .i64 (x7 + 1)))])]) /\
 (tB (x5 == 93) = false ->
 ∃ (I0_0 : Bool -> D -> D -> D -> D -> List UInt8 -> Int -> Prop) (M0_0 : Bool -> D -> D -> D -> D -> List UInt8 -> Int -> Nat), I0_0 true (D.lit (.int .u64 0)) (D.lit (.int .u64 0)) (D.lit (.int .u64 0)) (D.lit (.int .u64 0)) x6 x7 /\
 (∀ (x8 : Bool) (x9 : D) (x10 : D) (x11 : D) (x12 : D) (x13 : List UInt8) (x14 : Int) , I0_0 x8 x9 x10 x11 x12 x13 x14 ->
 ((!x8) = true ->
 ∀ _ : Nat -> Nat, ∃ R', Holds Try.prog 49 [A.ptr (.up (Ref.up q0)) 0] [(Ref.up (Ref.up q0), [A.d (D.lit (Zaa x13)), A.d (D.lit (.int .i64 x14))])] R' /\
 (∀ v H', R' (.ret v) H' -> ∃ x15 : Int, ∃ x16 : List UInt8, ∃ x17 : Int, v = A.d (D.lit (.int .u8 x15)) /\ H' = [(Ref.up (Ref.up q0), [A.d (D.lit (Zaa x16)), A.d (D.lit (.int .i64 x17))])] /\
 ((!(tB (x15 == 93))) = true ->
 ∀ _ : Nat -> Nat, ∃ R', Holds Try.prog 90 [A.ptr (.up (Ref.up q0)) 0, A.d (D.lit (.int .u8 0))] [(Ref.up (Ref.up q0), [A.d (D.lit (Zaa x16)), A.d (D.lit (.int .i64 x17))])] R' /\
 (∀ v H', R' (.ret v) H' -> ∃ x18 : Int, ∃ x19 : List UInt8, ∃ x20 : Int, v = A.d (D.lit (.int .u8 x18)) /\ H' = [(Ref.up (Ref.up q0), [A.d (D.lit (Zaa x19)), A.d (D.lit (.int .i64 x20))])] /\
 ∀ _ : Nat -> Nat, ∃ R', Holds Try.prog 49 [A.ptr (.up (Ref.up q0)) 0] [(Ref.up (Ref.up q0), [A.d (D.lit (Zaa x19)), A.d (D.lit (.int .i64 x20))])] R' /\
 (∀ v H', R' (.ret v) H' -> ∃ x21 : Int, ∃ x22 : List UInt8, ∃ x23 : Int, v = A.d (D.lit (.int .u8 x21)) /\ H' = [(Ref.up (Ref.up q0), [A.d (D.lit (Zaa x22)), A.d (D.lit (.int .i64 x23))])] /\
 (tB (x21 == 45) = true ->
 tB (decide ((-9223372036854775808) <= (x23 + 1))) = true /\
 tB (decide ((x23 + 1) <= 9223372036854775807)) = true /\
 ∀ _ : Nat -> Nat, ∃ R', Holds Try.prog 90 [A.ptr (.up (Ref.up q0)) 0, A.d (D.lit (.int .u8 x18))] [(Ref.up (Ref.up q0), [A.d (D.lit (Zaa x22)), A.d (D.lit (.int .i64 (x23 + 1)))])] R' /\
 (∀ v H', R' (.ret v) H' -> ∃ x24 : Int, ∃ x25 : List UInt8, ∃ x26 : Int, v = A.d (D.lit (.int .u8 x24)) /\ H' = [(Ref.up (Ref.up q0), [A.d (D.lit (Zaa x25)), A.d (D.lit (.int .i64 x26))])] /\
 ∃ x27 : List D, (∀ _ : Nat -> Nat, Holds Try.prog 79 [A.d (D.lit (.int .u8 x18)), A.d (D.lit (.int .u8 x24))] [] (Zce [] (A.agg x27))) /\
 ∀ _ : Nat -> Nat, ∃ R', Holds Try.prog 91 [A.agg [x9, x10, x11, x12], A.agg x27] [] R' /\
 (∀ v H', R' (.ret v) H' -> ∃ x28 : List D, v = A.agg x28 /\ H' = [] /\
 tB ((x28.length : Int) == 4) = true /\
 I0_0 false (x28.getD 0 D0) (x28.getD 1 D0) (x28.getD 2 D0) (x28.getD 3 D0) x25 x26 /\ M0_0 false (x28.getD 0 D0) (x28.getD 1 D0) (x28.getD 2 D0) (x28.getD 3 D0) x25 x26 < M0_0 x8 x9 x10 x11 x12 x13 x14) /\
 (∀ x28v H', R' (.pan x28v) H' -> H' = [] /\
 R (.pan x28v) [((Ref.up q0), [A.d (D.lit (Zaa x25)), A.d (D.lit (.int .i64 x26))])])) /\
 (∀ x24v H', R' (.pan x24v) H' -> ∃ x25 : List UInt8, ∃ x26 : Int, H' = [(Ref.up (Ref.up q0), [A.d (D.lit (Zaa x25)), A.d (D.lit (.int .i64 x26))])] /\
 R (.pan x24v) [((Ref.up q0), [A.d (D.lit (Zaa x25)), A.d (D.lit (.int .i64 x26))])])) /\
 (tB (x21 == 45) = false ->
 ∃ x24 : List D, (∀ _ : Nat -> Nat, Holds Try.prog 79 [A.d (D.lit (.int .u8 x18)), A.d (D.lit (.int .u8 x18))] [] (Zce [] (A.agg x24))) /\
 ∀ _ : Nat -> Nat, ∃ R', Holds Try.prog 91 [A.agg [x9, x10, x11, x12], A.agg x24] [] R' /\
 (∀ v H', R' (.ret v) H' -> ∃ x25 : List D, v = A.agg x25 /\ H' = [] /\
 tB ((x25.length : Int) == 4) = true /\
 I0_0 false (x25.getD 0 D0) (x25.getD 1 D0) (x25.getD 2 D0) (x25.getD 3 D0) x22 x23 /\ M0_0 false (x25.getD 0 D0) (x25.getD 1 D0) (x25.getD 2 D0) (x25.getD 3 D0) x22 x23 < M0_0 x8 x9 x10 x11 x12 x13 x14) /\
 (∀ x25v H', R' (.pan x25v) H' -> H' = [] /\
 R (.pan x25v) [((Ref.up q0), [A.d (D.lit (Zaa x22)), A.d (D.lit (.int .i64 x23))])]))) /\
 (∀ x21v H', R' (.pan x21v) H' -> ∃ x22 : List UInt8, ∃ x23 : Int, H' = [(Ref.up (Ref.up q0), [A.d (D.lit (Zaa x22)), A.d (D.lit (.int .i64 x23))])] /\
 R (.pan x21v) [((Ref.up q0), [A.d (D.lit (Zaa x22)), A.d (D.lit (.int .i64 x23))])])) /\
 (∀ x18v H', R' (.pan x18v) H' -> ∃ x19 : List UInt8, ∃ x20 : Int, H' = [(Ref.up (Ref.up q0), [A.d (D.lit (Zaa x19)), A.d (D.lit (.int .i64 x20))])] /\
 R (.pan x18v) [((Ref.up q0), [A.d (D.lit (Zaa x19)), A.d (D.lit (.int .i64 x20))])])) /\
 ((!(tB (x15 == 93))) = false ->
 tB (decide ((-9223372036854775808) <= (x17 + 1))) = true /\
 tB (decide ((x17 + 1) <= 9223372036854775807)) = true /\
 R (.ret (A.agg [D.lit (.int .i64 2), x9, x10, x11, x12, (D.slc ([] : List (List D)))])) [((Ref.up q0), [A.d (D.lit (Zaa x16)), A.d (D.lit (.int .i64 (x17 + 1)))])])) /\
 (∀ x15v H', R' (.pan x15v) H' -> ∃ x16 : List UInt8, ∃ x17 : Int, H' = [(Ref.up (Ref.up q0), [A.d (D.lit (Zaa x16)), A.d (D.lit (.int .i64 x17))])] /\
 R (.pan x15v) [((Ref.up q0), [A.d (D.lit (Zaa x16)), A.d (D.lit (.int .i64 x17))])])) /\
 ((!x8) = false ->
 ∀ _ : Nat -> Nat, ∃ R', Holds Try.prog 90 [A.ptr (.up (Ref.up q0)) 0, A.d (D.lit (.int .u8 0))] [(Ref.up (Ref.up q0), [A.d (D.lit (Zaa x13)), A.d (D.lit (.int .i64 x14))])] R' /\
 (∀ v H', R' (.ret v) H' -> ∃ x15 : Int, ∃ x16 : List UInt8, ∃ x17 : Int, v = A.d (D.lit (.int .u8 x15)) /\ H' = [(Ref.up (Ref.up q0), [A.d (D.lit (Zaa x16)), A.d (D.lit (.int .i64 x17))])] /\
 ∀ _ : Nat -> Nat, ∃ R', Holds Try.prog 49 [A.ptr (.up (Ref.up q0)) 0] [(Ref.up (Ref.up q0), [A.d (D.lit (Zaa x16)), A.d (D.lit (.int .i64 x17))])] R' /\
 (∀ v H', R' (.ret v) H' -> ∃ x18 : Int, ∃ x19 : List UInt8, ∃ x20 : Int, v = A.d (D.lit (.int .u8 x18)) /\ H' = [(Ref.up (Ref.up q0), [A.d (D.lit (Zaa x19)), A.d (D.lit (.int .i64 x20))])] /\
 (tB (x18 == 45) = true ->
 tB (decide ((-9223372036854775808) <= (x20 + 1))) = true /\
 tB (decide ((x20 + 1) <= 9223372036854775807)) = true /\
 ∀ _ : Nat -> Nat, ∃ R', Holds Try.prog 90 [A.ptr (.up (Ref.up q0)) 0, A.d (D.lit (.int .u8 x15))] [(Ref.up (Ref.up q0), [A.d (D.lit (Zaa x19)), A.d (D.lit (.int .i64 (x20 + 1)))])] R' /\
 (∀ v H', R' (.ret v) H' -> ∃ x21 : Int, ∃ x22 : List UInt8, ∃ x23 : Int, v = A.d (D.lit (.int .u8 x21)) /\ H' = [(Ref.up (Ref.up q0), [A.d (D.lit (Zaa x22)), A.d (D.lit (.int .i64 x23))])] /\
 ∃ x24 : List D, (∀ _ : Nat -> Nat, Holds Try.prog 79 [A.d (D.lit (.int .u8 x15)), A.d (D.lit (.int .u8 x21))] [] (Zce [] (A.agg x24))) /\
 ∀ _ : Nat -> Nat, ∃ R', Holds Try.prog 91 [A.agg [x9, x10, x11, x12], A.agg x24] [] R' /\
 (∀ v H', R' (.ret v) H' -> ∃ x25 : List D, v = A.agg x25 /\ H' = [] /\
 tB ((x25.length : Int) == 4) = true /\
 I0_0 false (x25.getD 0 D0) (x25.getD 1 D0) (x25.getD 2 D0) (x25.getD 3 D0) x22 x23 /\ M0_0 false (x25.getD 0 D0) (x25.getD 1 D0) (x25.getD 2 D0) (x25.getD 3 D0) x22 x23 < M0_0 x8 x9 x10 x11 x12 x13 x14) /\
 (∀ x25v H', R' (.pan x25v) H' -> H' = [] /\
 R (.pan x25v) [((Ref.up q0), [A.d (D.lit (Zaa x22)), A.d (D.lit (.int .i64 x23))])])) /\
 (∀ x21v H', R' (.pan x21v) H' -> ∃ x22 : List UInt8, ∃ x23 : Int, H' = [(Ref.up (Ref.up q0), [A.d (D.lit (Zaa x22)), A.d (D.lit (.int .i64 x23))])] /\
 R (.pan x21v) [((Ref.up q0), [A.d (D.lit (Zaa x22)), A.d (D.lit (.int .i64 x23))])])) /\
 (tB (x18 == 45) = false ->
 ∃ x21 : List D, (∀ _ : Nat -> Nat, Holds Try.prog 79 [A.d (D.lit (.int .u8 x15)), A.d (D.lit (.int .u8 x15))] [] (Zce [] (A.agg x21))) /\
 ∀ _ : Nat -> Nat, ∃ R', Holds Try.prog 91 [A.agg [x9, x10, x11, x12], A.agg x21] [] R' /\
 (∀ v H', R' (.ret v) H' -> ∃ x22 : List D, v = A.agg x22 /\ H' = [] /\
 tB ((x22.length : Int) == 4) = true /\
 I0_0 false (x22.getD 0 D0) (x22.getD 1 D0) (x22.getD 2 D0) (x22.getD 3 D0) x19 x20 /\ M0_0 false (x22.getD 0 D0) (x22.getD 1 D0) (x22.getD 2 D0) (x22.getD 3 D0) x19 x20 < M0_0 x8 x9 x10 x11 x12 x13 x14) /\
 (∀ x22v H', R' (.pan x22v) H' -> H' = [] /\
 R (.pan x22v) [((Ref.up q0), [A.d (D.lit (Zaa x19)), A.d (D.lit (.int .i64 x20))])]))) /\
 (∀ x18v H', R' (.pan x18v) H' -> ∃ x19 : List UInt8, ∃ x20 : Int, H' = [(Ref.up (Ref.up q0), [A.d (D.lit (Zaa x19)), A.d (D.lit (.int .i64 x20))])] /\
 R (.pan x18v) [((Ref.up q0), [A.d (D.lit (Zaa x19)), A.d (D.lit (.int .i64 x20))])])) /\
 (∀ x15v H', R' (.pan x15v) H' -> ∃ x16 : List UInt8, ∃ x17 : Int, H' = [(Ref.up (Ref.up q0), [A.d (D.lit (Zaa x16)), A.d (D.lit (.int .i64 x17))])] /\
 R (.pan x15v) [((Ref.up q0), [A.d (D.lit (Zaa x16)), A.d (D.lit (.int .i64 x17))])]))) /\
 True)) /\
 (∀ x5v H', R' (.pan x5v) H' -> ∃ x6 : List UInt8, ∃ x7 : Int, H' = [(Ref.up (Ref.up q0), [A.d (D.lit (Zaa x6)), A.d (D.lit (.int .i64 x7))])] /\
 R (.pan x5v) [((Ref.up q0), [A.d (D.lit (Zaa x6)), A.d (D.lit (.int .i64 x7))])]))) /\
 (∀ x2v H', R' (.pan x2v) H' -> ∃ x3 : List UInt8, ∃ x4 : Int, H' = [(Ref.up (Ref.up q0), [A.d (D.lit (Zaa x3)), A.d (D.lit (.int .i64 x4))])] /\
 R (.pan x2v) [((Ref.up q0), [A.d (D.lit (Zaa x3)), A.d (D.lit (.int .i64 x4))])])) :
 Holds Try.prog 78 [A.ptr (Ref.up q0) 0] [((Ref.up q0), [A.d (D.lit (Zaa x0)), A.d (D.lit (.int .i64 x1))])] R :=
 walk (c := ⟨Try.prog, 80, true, [0, 2, 3, 4, 5, 6, 7, 18, 32, 46, 52, 75]⟩) (op := {}) (fn := Try.f78) (args := [.ptr (.up 0) 0]) (K := [(.up 0, [.c (.o1 .cs (.var 0)), .c (.o1 (.ci .i64) (.var 1))])]) (nv := 2) (depth := 7) (up := upOf [q0]) (ρ := Zat [.s x0, .i x1])
  rfl rfl rfl rfl rfl (by decide) (by decide) (by decide) (by decide) rfl (by simp [Zad, RRef.den, upOf]) (T_of (by kernel_rfl) h)
theorem w81 {R : RT} (x0 : Int) (h : ∀ _ : Nat -> Nat, ∃ R', Holds Try.prog 79 [A.d (D.lit (.int .u8 x0)), A.d (D.lit (.int .u8 x0))] [] R' /\
 (∀ v H', R' (.ret v) H' -> ∃ x1 : List D, v = A.agg x1 /\ H' = [] /\
 tB ((x1.length : Int) == 4) = true /\
 R (.ret (A.agg [D.lit (.int .i64 2), x1.getD 0 D0, x1.getD 1 D0, x1.getD 2 D0, x1.getD 3 D0, (D.slc ([] : List (List D)))])) []) /\
 PN R R') :
 Holds Try.prog 81 [A.d (D.lit (.int .u8 x0))] [] R :=
 walk (c := ⟨Try.prog, 7, true, [0, 2]⟩) (op := {}) (fn := Try.f81) (args := [.c (.o1 (.ci .u8) (.var 0))]) (K := []) (nv := 1) (depth := 3) (up := upOf []) (ρ := Zat [.i x0])
  rfl rfl rfl rfl rfl (by decide) (by decide) (by decide) (by decide) rfl (by simp [Zad, RRef.den, upOf]) (T_of (by kernel_rfl) h)
theorem w82 {R : RT} (x0 : List UInt8) (x1 : Int) (x2 : Int) (q0 : Ref) (h : tB (decide ((-9223372036854775808) <= (x1 + 1))) = true /\
 tB (decide ((x1 + 1) <= 9223372036854775807)) = true /\
 ∀ _ : Nat -> Nat, ∃ R', Holds Try.prog 49 [A.ptr (.up (Ref.up q0)) 0] [(Ref.up (Ref.up q0), [A.d (D.lit (Zaa x0)), A.d (D.lit (.int .i64 (x1 + 1)))])] R' /\
 (∀ v H', R' (.ret v) H' -> ∃ x3 : Int, ∃ x4 : List UInt8, ∃ x5 : Int, v = A.d (D.lit (.int .u8 x3)) /\ H' = [(Ref.up (Ref.up q0), [A.d (D.lit (Zaa x4)), A.d (D.lit (.int .i64 x5))])] /\
 (tB (decide ((x4.length : Int) <= x5)) = true ->
 ∀ _ : Nat -> Nat, ∃ R', Holds Try.prog 38 [A.ptr (.up (Ref.up q0)) 0, (A.d (D.lit (.int .i64 (x4.length : Int))))] [(Ref.up (Ref.up q0), [A.d (D.lit (Zaa x4)), A.d (D.lit (.int .i64 x5))])] R' /\
 (∀ v H', R' (.ret v) H' -> ∃ x6 : List UInt8, ∃ x7 : Int, v = A.tup [] /\ H' = [(Ref.up (Ref.up q0), [A.d (D.lit (Zaa x6)), A.d (D.lit (.int .i64 x7))])] /\
 (tB (decide (x3 < x2)) = true ->
 ∀ _ : Nat -> Nat, ∃ R', Holds Try.prog 38 [A.ptr (.up (Ref.up q0)) 0, A.d (D.lit (.int .i64 x7))] [(Ref.up (Ref.up q0), [A.d (D.lit (Zaa x6)), A.d (D.lit (.int .i64 x7))])] R' /\
 (∀ v H', R' (.ret v) H' -> ∃ x8 : List UInt8, ∃ x9 : Int, v = A.tup [] /\ H' = [(Ref.up (Ref.up q0), [A.d (D.lit (Zaa x8)), A.d (D.lit (.int .i64 x9))])] /\
 tB (decide ((-9223372036854775808) <= (x9 + 1))) = true /\
 tB (decide ((x9 + 1) <= 9223372036854775807)) = true /\
 R (.ret (A.d (D.lit (.int .u8 x3)))) [((Ref.up q0), [A.d (D.lit (Zaa x8)), A.d (D.lit (.int .i64 (x9 + 1)))])]) /\
 (∀ x8v H', R' (.pan x8v) H' -> ∃ x9 : List UInt8, ∃ x10 : Int, H' = [(Ref.up (Ref.up q0), [A.d (D.lit (Zaa x9)), A.d (D.lit (.int .i64 x10))])] /\
 R (.pan x8v) [((Ref.up q0), [A.d (D.lit (Zaa x9)), A.d (D.lit (.int .i64 x10))])])) /\
 (tB (decide (x3 < x2)) = false ->
 tB (decide ((-9223372036854775808) <= (x7 + 1))) = true /\
 tB (decide ((x7 + 1) <= 9223372036854775807)) = true /\
 R (.ret (A.d (D.lit (.int .u8 x3)))) [((Ref.up q0), [A.d (D.lit (Zaa x6)), A.d (D.lit (.int .i64 (x7 + 1)))])])) /\
 (∀ x6v H', R' (.pan x6v) H' -> ∃ x7 : List UInt8, ∃ x8 : Int, H' = [(Ref.up (Ref.up q0), [A.d (D.lit (Zaa x7)), A.d (D.lit (.int .i64 x8))])] /\
 R (.pan x6v) [((Ref.up q0), [A.d (D.lit (Zaa x7)), A.d (D.lit (.int .i64 x8))])])) /\
 (tB (decide ((x4.length : Int) <= x5)) = false ->
 (tB (x3 == 120) = true ->
 ∀ _ : Nat -> Nat, ∃ R', Holds Try.prog 93 [A.ptr (.up (Ref.up q0)) 0, A.d (D.lit (.int .u8 x2))] [(Ref.up (Ref.up q0), [A.d (D.lit (Zaa x4)), A.d (D.lit (.int .i64 x5))])] R' /\
 (∀ v H', R' (.ret v) H' -> ∃ x6 : Int, ∃ x7 : List UInt8, ∃ x8 : Int, v = A.d (D.lit (.int .u8 x6)) /\ H' = [(Ref.up (Ref.up q0), [A.d (D.lit (Zaa x7)), A.d (D.lit (.int .i64 x8))])] /\
 R (.ret (A.d (D.lit (.int .u8 x6)))) [((Ref.up q0), [A.d (D.lit (Zaa x7)), A.d (D.lit (.int .i64 x8))])]) /\
 (∀ x6v H', R' (.pan x6v) H' -> ∃ x7 : List UInt8, ∃ x8 : Int, H' = [(Ref.up (Ref.up q0), [A.d (D.lit (Zaa x7)), A.d (D.lit (.int .i64 x8))])] /\
 R (.pan x6v) [((Ref.up q0), [A.d (D.lit (Zaa x7)), A.d (D.lit (.int .i64 x8))])])) /\
 (tB (x3 == 120) = false ->
 (tB (x3 == 110) = true ->
 (tB (decide (10 < x2)) = true ->
 ∀ _ : Nat -> Nat, ∃ R', Holds Try.prog 38 [A.ptr (.up (Ref.up q0)) 0, A.d (D.lit (.int .i64 x5))] [(Ref.up (Ref.up q0), [A.d (D.lit (Zaa x4)), A.d (D.lit (.int .i64 x5))])] R' /\
 (∀ v H', R' (.ret v) H' -> ∃ x6 : List UInt8, ∃ x7 : Int, v = A.tup [] /\ H' = [(Ref.up (Ref.up q0), [A.d (D.lit (Zaa x6)), A.d (D.lit (.int .i64 x7))])] /\
 tB (decide ((-9223372036854775808) <= (x7 + 1))) = true /\
 tB (decide ((x7 + 1) <= 9223372036854775807)) = true /\
 R (.ret (A.d (D.lit (.int .u8 10)))) [((Ref.up q0), [A.d (D.lit (Zaa x6)), A.d (D.lit (.int .i64 (x7 + 1)))])]) /\
 (∀ x6v H', R' (.pan x6v) H' -> ∃ x7 : List UInt8, ∃ x8 : Int, H' = [(Ref.up (Ref.up q0), [A.d (D.lit (Zaa x7)), A.d (D.lit (.int .i64 x8))])] /\
 R (.pan x6v) [((Ref.up q0), [A.d (D.lit (Zaa x7)), A.d (D.lit (.int .i64 x8))])])) /\
 (tB (decide (10 < x2)) = false ->
 tB (decide ((-9223372036854775808) <= (x5 + 1))) = true /\
 tB (decide ((x5 + 1) <= 9223372036854775807)) = true /\
 R (.ret (A.d (D.lit (.int .u8 10)))) [((Ref.up q0), [A.d (D.lit (Zaa x4)), A.d (D.lit (.int .i64 (x5 + 1)))])])) /\
 (tB (x3 == 110) = false ->
 (tB (x3 == 116) = true ->
 (tB (decide (9 < x2)) = true ->
 ∀ _ : Nat -> Nat, ∃ R', Holds Try.prog 38 [A.ptr (.up (Ref.up q0)) 0, A.d (D.lit (.int .i64 x5))] [(Ref.up (Ref.up q0), [A.d (D.lit (Zaa x4)), A.d (D.lit (.int .i64 x5))])] R' /\
 (∀ v H', R' (.ret v) H' -> ∃ x6 : List UInt8, ∃ x7 : Int, v = A.tup [] /\ H' = [(Ref.up (Ref.up q0), [A.d (D.lit (Zaa x6)), A.d (D.lit (.int .i64 x7))])] /\
 tB (decide ((-9223372036854775808) <= (x7 + 1))) = true /\
 tB (decide ((x7 + 1) <= 9223372036854775807)) = true /\
 R (.ret (A.d (D.lit (.int .u8 9)))) [((Ref.up q0), [A.d (D.lit (Zaa x6)), A.d (D.lit (.int .i64 (x7 + 1)))])]) /\
 (∀ x6v H', R' (.pan x6v) H' -> ∃ x7 : List UInt8, ∃ x8 : Int, H' = [(Ref.up (Ref.up q0), [A.d (D.lit (Zaa x7)), A.d (D.lit (.int .i64 x8))])] /\
 R (.pan x6v) [((Ref.up q0), [A.d (D.lit (Zaa x7)), A.d (D.lit (.int .i64 x8))])])) /\
 (tB (decide (9 < x2)) = false ->
 tB (decide ((-9223372036854775808) <= (x5 + 1))) = true /\
 tB (decide ((x5 + 1) <= 9223372036854775807)) = true /\
 R (.ret (A.d (D.lit (.int .u8 9)))) [((Ref.up q0), [A.d (D.lit (Zaa x4)), A.d (D.lit (.int .i64 (x5 + 1)))])])) /\
 (tB (x3 == 116) = false ->
 (tB (x3 == 114) = true ->
 (tB (decide (13 < x2)) = true ->
 ∀ _ : Nat -> Nat, ∃ R', Holds Try.prog 38 [A.ptr (.up (Ref.up q0)) 0, A.d (D.lit (.int .i64 x5))] [(Ref.up (Ref.up q0), [A.d (D.lit (Zaa x4)), A.d (D.lit (.int .i64 x5))])] R' /\
 (∀ v H', R' (.ret v) H' -> ∃ x6 : List UInt8, ∃ x7 : Int, v = A.tup [] /\ H' = [(Ref.up (Ref.up q0), [A.d (D.lit (Zaa x6)), A.d (D.lit (.int .i64 x7))])] /\
 tB (decide ((-9223372036854775808) <= (x7 + 1))) = true /\
 tB (decide ((x7 + 1) <= 9223372036854775807)) = true /\
 R (.ret (A.d (D.lit (.int .u8 13)))) [((Ref.up q0), [A.d (D.lit (Zaa x6)), A.d (D.lit (.int .i64 (x7 + 1)))])]) /\
 (∀ x6v H', R' (.pan x6v) H' -> ∃ x7 : List UInt8, ∃ x8 : Int, H' = [(Ref.up (Ref.up q0), [A.d (D.lit (Zaa x7)), A.d (D.lit (.int .i64 x8))])] /\
 R (.pan x6v) [((Ref.up q0), [A.d (D.lit (Zaa x7)), A.d (D.lit (.int .i64 x8))])])) /\
 (tB (decide (13 < x2)) = false ->
 tB (decide ((-9223372036854775808) <= (x5 + 1))) = true /\
 tB (decide ((x5 + 1) <= 9223372036854775807)) = true /\
 R (.ret (A.d (D.lit (.int .u8 13)))) [((Ref.up q0), [A.d (D.lit (Zaa x4)), A.d (D.lit (.int .i64 (x5 + 1)))])])) /\
 (tB (x3 == 114) = false ->
 ∀ _ : Nat -> Nat, ∃ R', Holds Try.prog 83 [(A.d (D.lit (Zaa ([40, 41, 91, 93, 123, 125, 124, 42, 43, 63, 46, 92, 45, 94] : List UInt8)))), A.d (D.lit (.int .u8 x3))] [] R' /\
 (∀ v H', R' (.ret v) H' -> ∃ x6 : Int, v = A.d (D.lit (.int .i64 x6)) /\ H' = [] /\
 (tB (decide (x6 < 0)) = true ->
 ∀ _ : Nat -> Nat, ∃ R', Holds Try.prog 38 [A.ptr (.up (Ref.up q0)) 0, A.d (D.lit (.int .i64 x5))] [(Ref.up (Ref.up q0), [A.d (D.lit (Zaa x4)), A.d (D.lit (.int .i64 x5))])] R' /\
 (∀ v H', R' (.ret v) H' -> ∃ x7 : List UInt8, ∃ x8 : Int, v = A.tup [] /\ H' = [(Ref.up (Ref.up q0), [A.d (D.lit (Zaa x7)), A.d (D.lit (.int .i64 x8))])] /\
 (tB (decide (x3 < x2)) = true ->
 ∀ _ : Nat -> Nat, ∃ R', Holds Try.prog 38 [A.ptr (.up (Ref.up q0)) 0, A.d (D.lit (.int .i64 x8))] [(Ref.up (Ref.up q0), [A.d (D.lit (Zaa x7)), A.d (D.lit (.int .i64 x8))])] R' /\
 (∀ v H', R' (.ret v) H' -> ∃ x9 : List UInt8, ∃ x10 : Int, v = A.tup [] /\ H' = [(Ref.up (Ref.up q0), [A.d (D.lit (Zaa x9)), A.d (D.lit (.int .i64 x10))])] /\
 tB (decide ((-9223372036854775808) <= (x10 + 1))) = true /\
 tB (decide ((x10 + 1) <= 9223372036854775807)) = true /\
 R (.ret (A.d (D.lit (.int .u8 x3)))) [((Ref.up q0), [A.d (D.lit (Zaa x9)), A.d (D.lit (.int .i64 (x10 + 1)))])]) /\
 (∀ x9v H', R' (.pan x9v) H' -> ∃ x10 : List UInt8, ∃ x11 : Int, H' = [(Ref.up (Ref.up q0), [A.d (D.lit (Zaa x10)), A.d (D.lit (.int .i64 x11))])] /\
 R (.pan x9v) [((Ref.up q0), [A.d (D.lit (Zaa x10)), A.d (D.lit (.int .i64 x11))])])) /\
 (tB (decide (x3 < x2)) = false ->
 tB (decide ((-9223372036854775808) <= (x8 + 1))) = true /\
 tB (decide ((x8 + 1) <= 9223372036854775807)) = true /\
 R (.ret (A.d (D.lit (.int .u8 x3)))) [((Ref.up q0), [A.d (D.lit (Zaa x7)), A.d (D.lit (.int .i64 (x8 + 1)))])])) /\
 (∀ x7v H', R' (.pan x7v) H' -> ∃ x8 : List UInt8, ∃ x9 : Int, H' = [(Ref.up (Ref.up q0), [A.d (D.lit (Zaa x8)), A.d (D.lit (.int .i64 x9))])] /\
 R (.pan x7v) [((Ref.up q0), [A.d (D.lit (Zaa x8)), A.d (D.lit (.int .i64 x9))])])) /\
 (tB (decide (x6 < 0)) = false ->
 (tB (decide (x3 < x2)) = true ->
 ∀ _ : Nat -> Nat, ∃ R', Holds Try.prog 38 [A.ptr (.up (Ref.up q0)) 0, A.d (D.lit (.int .i64 x5))] [(Ref.up (Ref.up q0), [A.d (D.lit (Zaa x4)), A.d (D.lit (.int .i64 x5))])] R' /\
 (∀ v H', R' (.ret v) H' -> ∃ x7 : List UInt8, ∃ x8 : Int, v = A.tup [] /\ H' = [(Ref.up (Ref.up q0), [A.d (D.lit (Zaa x7)), A.d (D.lit (.int .i64 x8))])] /\
 tB (decide ((-9223372036854775808) <= (x8 + 1))) = true /\
 tB (decide ((x8 + 1) <= 9223372036854775807)) = true /\
 R (.ret (A.d (D.lit (.int .u8 x3)))) [((Ref.up q0), [A.d (D.lit (Zaa x7)), A.d (D.lit (.int .i64 (x8 + 1)))])]) /\
 (∀ x7v H', R' (.pan x7v) H' -> ∃ x8 : List UInt8, ∃ x9 : Int, H' = [(Ref.up (Ref.up q0), [A.d (D.lit (Zaa x8)), A.d (D.lit (.int .i64 x9))])] /\
 R (.pan x7v) [((Ref.up q0), [A.d (D.lit (Zaa x8)), A.d (D.lit (.int .i64 x9))])])) /\
 (tB (decide (x3 < x2)) = false ->
 tB (decide ((-9223372036854775808) <= (x5 + 1))) = true /\
 tB (decide ((x5 + 1) <= 9223372036854775807)) = true /\
 R (.ret (A.d (D.lit (.int .u8 x3)))) [((Ref.up q0), [A.d (D.lit (Zaa x4)), A.d (D.lit (.int .i64 (x5 + 1)))])]))) /\
 (∀ x6v H', R' (.pan x6v) H' -> H' = [] /\
 R (.pan x6v) [((Ref.up q0), [A.d (D.lit (Zaa x4)), A.d (D.lit (.int .i64 x5))])]))))))) /\
 (∀ x3v H', R' (.pan x3v) H' -> ∃ x4 : List UInt8, ∃ x5 : Int, H' = [(Ref.up (Ref.up q0), [A.d (D.lit (Zaa x4)), A.d (D.lit (.int .i64 x5))])] /\
 R (.pan x3v) [((Ref.up q0), [A.d (D.lit (Zaa x4)), A.d (D.lit (.int .i64 x5))])])) :
 Holds Try.prog 82 [A.ptr (Ref.up q0) 0, A.d (D.lit (.int .u8 x2))] [((Ref.up q0), [A.d (D.lit (Zaa x0)), A.d (D.lit (.int .i64 x1))])] R :=
 walk (c := ⟨Try.prog, 75, true, [0, 1, 4, 5, 15, 33, 39, 42, 45, 48, 60]⟩) (op := {}) (fn := Try.f82) (args := [.ptr (.up 0) 0, .c (.o1 (.ci .u8) (.var 2))]) (K := [(.up 0, [.c (.o1 .cs (.var 0)), .c (.o1 (.ci .i64) (.var 1))])]) (nv := 3) (depth := 7) (up := upOf [q0]) (ρ := Zat [.s x0, .i x1, .i x2])
  rfl rfl rfl rfl rfl (by decide) (by decide) (by decide) (by decide) rfl (by simp [Zad, RRef.den, upOf]) (T_of (by kernel_rfl) h)
theorem w90 {R : RT} (x0 : List UInt8) (x1 : Int) (x2 : Int) (q0 : Ref) (h : ∀ _ : Nat -> Nat, ∃ R', Holds Try.prog 49 [A.ptr (.up (Ref.up q0)) 0] [(Ref.up (Ref.up q0), [A.d (D.lit (Zaa x0)), A.d (D.lit (.int .i64 x1))])] R' /\
 (∀ v H', R' (.ret v) H' -> ∃ x3 : Int, ∃ x4 : List UInt8, ∃ x5 : Int, v = A.d (D.lit (.int .u8 x3)) /\ H' = [(Ref.up (Ref.up q0), [A.d (D.lit (Zaa x4)), A.d (D.lit (.int .i64 x5))])] /\
 (tB (decide ((x4.length : Int) <= x5)) = true ->
 ∀ _ : Nat -> Nat, ∃ R', Holds Try.prog 38 [A.ptr (.up (Ref.up q0)) 0, (A.d (D.lit (.int .i64 (x4.length : Int))))] [(Ref.up (Ref.up q0), [A.d (D.lit (Zaa x4)), A.d (D.lit (.int .i64 x5))])] R' /\
 (∀ v H', R' (.ret v) H' -> ∃ x6 : List UInt8, ∃ x7 : Int, v = A.tup [] /\ H' = [(Ref.up (Ref.up q0), [A.d (D.lit (Zaa x6)), A.d (D.lit (.int .i64 x7))])] /\
 tB (decide ((-9223372036854775808) <= (x7 + 1))) = true /\
 tB (decide ((x7 + 1) <= 9223372036854775807)) = true /\
 R (.ret (A.d (D.lit (.int .u8 x3)))) [((Ref.up q0), [A.d (D.lit (Zaa x6)), A.d (D.lit (.int .i64 (x7 + 1)))])]) /\
 (∀ x6v H', R' (.pan x6v) H' -> ∃ x7 : List UInt8, ∃ x8 : Int, H' = [(Ref.up (Ref.up q0), [A.d (D.lit (Zaa x7)), A.d (D.lit (.int .i64 x8))])] /\
 R (.pan x6v) [((Ref.up q0), [A.d (D.lit (Zaa x7)), A.d (D.lit (.int .i64 x8))])])) /\
 (tB (decide ((x4.length : Int) <= x5)) = false ->
 (tB (x3 == 92) = true ->
 ∀ _ : Nat -> Nat, ∃ R', Holds Try.prog 82 [A.ptr (.up (Ref.up q0)) 0, A.d (D.lit (.int .u8 x2))] [(Ref.up (Ref.up q0), [A.d (D.lit (Zaa x4)), A.d (D.lit (.int .i64 x5))])] R' /\
 (∀ v H', R' (.ret v) H' -> ∃ x6 : Int, ∃ x7 : List UInt8, ∃ x8 : Int, v = A.d (D.lit (.int .u8 x6)) /\ H' = [(Ref.up (Ref.up q0), [A.d (D.lit (Zaa x7)), A.d (D.lit (.int .i64 x8))])] /\
 R (.ret (A.d (D.lit (.int .u8 x6)))) [((Ref.up q0), [A.d (D.lit (Zaa x7)), A.d (D.lit (.int .i64 x8))])]) /\
 (∀ x6v H', R' (.pan x6v) H' -> ∃ x7 : List UInt8, ∃ x8 : Int, H' = [(Ref.up (Ref.up q0), [A.d (D.lit (Zaa x7)), A.d (D.lit (.int .i64 x8))])] /\
 R (.pan x6v) [((Ref.up q0), [A.d (D.lit (Zaa x7)), A.d (D.lit (.int .i64 x8))])])) /\
 (tB (x3 == 92) = false ->
 ((!(((tB (decide (x3 < 32))) || (tB (decide (126 < x3)))) || (tB (decide (x3 < x2))))) = true ->
 ∀ _ : Nat -> Nat, ∃ R', Holds Try.prog 83 [(A.d (D.lit (Zaa ([40, 41, 91, 93, 123, 125, 124, 42, 43, 63, 46, 94, 45] : List UInt8)))), A.d (D.lit (.int .u8 x3))] [] R' /\
 (∀ v H', R' (.ret v) H' -> ∃ x6 : Int, v = A.d (D.lit (.int .i64 x6)) /\ H' = [] /\
 (tB (decide (0 <= x6)) = true ->
 ∀ _ : Nat -> Nat, ∃ R', Holds Try.prog 38 [A.ptr (.up (Ref.up q0)) 0, A.d (D.lit (.int .i64 x5))] [(Ref.up (Ref.up q0), [A.d (D.lit (Zaa x4)), A.d (D.lit (.int .i64 x5))])] R' /\
 (∀ v H', R' (.ret v) H' -> ∃ x7 : List UInt8, ∃ x8 : Int, v = A.tup [] /\ H' = [(Ref.up (Ref.up q0), [A.d (D.lit (Zaa x7)), A.d (D.lit (.int .i64 x8))])] /\
 tB (decide ((-9223372036854775808) <= (x8 + 1))) = true /\
 tB (decide ((x8 + 1) <= 9223372036854775807)) = true /\
 R (.ret (A.d (D.lit (.int .u8 x3)))) [((Ref.up q0), [A.d (D.lit (Zaa x7)), A.d (D.lit (.int .i64 (x8 + 1)))])]) /\
 (∀ x7v H', R' (.pan x7v) H' -> ∃ x8 : List UInt8, ∃ x9 : Int, H' = [(Ref.up (Ref.up q0), [A.d (D.lit (Zaa x8)), A.d (D.lit (.int .i64 x9))])] /\
 R (.pan x7v) [((Ref.up q0), [A.d (D.lit (Zaa x8)), A.d (D.lit (.int .i64 x9))])])) /\
 (tB (decide (0 <= x6)) = false ->
 tB (decide ((-9223372036854775808) <= (x5 + 1))) = true /\
 tB (decide ((x5 + 1) <= 9223372036854775807)) = true /\
 R (.ret (A.d (D.lit (.int .u8 x3)))) [((Ref.up q0), [A.d (D.lit (Zaa x4)), A.d (D.lit (.int .i64 (x5 + 1)))])])) /\
 (∀ x6v H', R' (.pan x6v) H' -> H' = [] /\
 R (.pan x6v) [((Ref.up q0), [A.d (D.lit (Zaa x4)), A.d (D.lit (.int .i64 x5))])])) /\
 ((!(((tB (decide (x3 < 32))) || (tB (decide (126 < x3)))) || (tB (decide (x3 < x2))))) = false ->
 ∀ _ : Nat -> Nat, ∃ R', Holds Try.prog 38 [A.ptr (.up (Ref.up q0)) 0, A.d (D.lit (.int .i64 x5))] [(Ref.up (Ref.up q0), [A.d (D.lit (Zaa x4)), A.d (D.lit (.int .i64 x5))])] R' /\
 (∀ v H', R' (.ret v) H' -> ∃ x6 : List UInt8, ∃ x7 : Int, v = A.tup [] /\ H' = [(Ref.up (Ref.up q0), [A.d (D.lit (Zaa x6)), A.d (D.lit (.int .i64 x7))])] /\
 tB (decide ((-9223372036854775808) <= (x7 + 1))) = true /\
 tB (decide ((x7 + 1) <= 9223372036854775807)) = true /\
 R (.ret (A.d (D.lit (.int .u8 x3)))) [((Ref.up q0), [A.d (D.lit (Zaa x6)), A.d (D.lit (.int .i64 (x7 + 1)))])]) /\
 (∀ x6v H', R' (.pan x6v) H' -> ∃ x7 : List UInt8, ∃ x8 : Int, H' = [(Ref.up (Ref.up q0), [A.d (D.lit (Zaa x7)), A.d (D.lit (.int .i64 x8))])] /\
 R (.pan x6v) [((Ref.up q0), [A.d (D.lit (Zaa x7)), A.d (D.lit (.int .i64 x8))])]))))) /\
 (∀ x3v H', R' (.pan x3v) H' -> ∃ x4 : List UInt8, ∃ x5 : Int, H' = [(Ref.up (Ref.up q0), [A.d (D.lit (Zaa x4)), A.d (D.lit (.int .i64 x5))])] /\
 R (.pan x3v) [((Ref.up q0), [A.d (D.lit (Zaa x4)), A.d (D.lit (.int .i64 x5))])])) :
 Holds Try.prog 90 [A.ptr (Ref.up q0) 0, A.d (D.lit (.int .u8 x2))] [((Ref.up q0), [A.d (D.lit (Zaa x0)), A.d (D.lit (.int .i64 x1))])] R :=
 walk (c := ⟨Try.prog, 63, true, [0, 1, 4, 5, 8, 26, 32]⟩) (op := {}) (fn := Try.f90) (args := [.ptr (.up 0) 0, .c (.o1 (.ci .u8) (.var 2))]) (K := [(.up 0, [.c (.o1 .cs (.var 0)), .c (.o1 (.ci .i64) (.var 1))])]) (nv := 3) (depth := 6) (up := upOf [q0]) (ρ := Zat [.s x0, .i x1, .i x2])
  rfl rfl rfl rfl rfl (by decide) (by decide) (by decide) (by decide) rfl (by simp [Zad, RRef.den, upOf]) (T_of (by kernel_rfl) h)
theorem w93 {R : RT} (x0 : List UInt8) (x1 : Int) (x2 : Int) (q0 : Ref) (h : ∃ (I0_0 : Int -> Int -> List UInt8 -> Int -> Prop) (M0_0 : Int -> Int -> List UInt8 -> Int -> Nat), I0_0 0 0 x0 x1 /\
 (∀ (x3 : Int) (x4 : Int) (x5 : List UInt8) (x6 : Int) , I0_0 x3 x4 x5 x6 ->
 (tB (decide (x4 < 2)) = true ->
 tB (decide (0 <= x4)) = true /\
 (tB (x4 == 0) = true ->
 tB (decide ((-9223372036854775808) <= (x6 + 1))) = true /\
 tB (decide ((x6 + 1) <= 9223372036854775807)) = true /\
 ∀ _ : Nat -> Nat, ∃ R', Holds Try.prog 49 [A.ptr (.up (Ref.up q0)) 0] [(Ref.up (Ref.up q0), [A.d (D.lit (Zaa x5)), A.d (D.lit (.int .i64 (x6 + 1)))])] R' /\
 (∀ v H', R' (.ret v) H' -> ∃ x7 : Int, ∃ x8 : List UInt8, ∃ x9 : Int, v = A.d (D.lit (.int .u8 x7)) /\ H' = [(Ref.up (Ref.up q0), [A.d (D.lit (Zaa x8)), A.d (D.lit (.int .i64 x9))])] /\
 ∀ _ : Nat -> Nat, ∃ R', Holds Try.prog 101 [A.d (D.lit (.int .u8 x7))] [] R' /\
 (∀ v H', R' (.ret v) H' -> ∃ x10 : Int, ∃ x11 : Bool, v = A.tup [(false, [D.lit (.int .u8 x10)]), (false, [D.lit (.bool x11)])] /\ H' = [] /\
 (((!x11) || (tB (decide ((gOr .u8 (gShl .u8 (gOr .u8 (gShl .u8 x3 4) x10) 4) 15) < x2)))) = true ->
 ∀ _ : Nat -> Nat, ∃ R', Holds Try.prog 38 [A.ptr (.up (Ref.up q0)) 0, A.d (D.lit (.int .i64 x9))] [(Ref.up (Ref.up q0), [A.d (D.lit (Zaa x8)), A.d (D.lit (.int .i64 x9))])] R' /\
 (∀ v H', R' (.ret v) H' -> ∃ x12 : List UInt8, ∃ x13 : Int, v = A.tup [] /\ H' = [(Ref.up (Ref.up q0), [A.d (D.lit (Zaa x12)), A.d (D.lit (.int .i64 x13))])] /\
 tB (decide ((-9223372036854775808) <= (x4 + 1))) = true /\
 tB (decide ((x4 + 1) <= 9223372036854775807)) = true /\
 I0_0 (gOr .u8 (gShl .u8 x3 4) x10) (x4 + 1) x12 x13 /\ M0_0 (gOr .u8 (gShl .u8 x3 4) x10) (x4 + 1) x12 x13 < M0_0 x3 x4 x5 x6) /\
 (∀ x12v H', R' (.pan x12v) H' -> ∃ x13 : List UInt8, ∃ x14 : Int, H' = [(Ref.up (Ref.up q0), [A.d (D.lit (Zaa x13)), A.d (D.lit (.int .i64 x14))])] /\
 R (.pan x12v) [((Ref.up q0), [A.d (D.lit (Zaa x13)), A.d (D.lit (.int .i64 x14))])])) /\
 (((!x11) || (tB (decide ((gOr .u8 (gShl .u8 (gOr .u8 (gShl .u8 x3 4) x10) 4) 15) < x2)))) = false ->
 tB (decide ((-9223372036854775808) <= (x4 + 1))) = true /\
 tB (decide ((x4 + 1) <= 9223372036854775807)) = true /\
 I0_0 (gOr .u8 (gShl .u8 x3 4) x10) (x4 + 1) x8 x9 /\ M0_0 (gOr .u8 (gShl .u8 x3 4) x10) (x4 + 1) x8 x9 < M0_0 x3 x4 x5 x6)) /\
 (∀ x10v H', R' (.pan x10v) H' -> H' = [] /\
 R (.pan x10v) [((Ref.up q0), [A.d (D.lit (Zaa x8)), A.d (D.lit (.int .i64 x9))])])) /\
 (∀ x7v H', R' (.pan x7v) H' -> ∃ x8 : List UInt8, ∃ x9 : Int, H' = [(Ref.up (Ref.up q0), [A.d (D.lit (Zaa x8)), A.d (D.lit (.int .i64 x9))])] /\
 R (.pan x7v) [((Ref.up q0), [A.d (D.lit (Zaa x8)), A.d (D.lit (.int .i64 x9))])])) /\
 (tB (x4 == 0) = false ->
 tB (x4 == 1) = true /\
 tB (decide ((-9223372036854775808) <= (x6 + 1))) = true /\
 tB (decide ((x6 + 1) <= 9223372036854775807)) = true /\
 ∀ _ : Nat -> Nat, ∃ R', Holds Try.prog 49 [A.ptr (.up (Ref.up q0)) 0] [(Ref.up (Ref.up q0), [A.d (D.lit (Zaa x5)), A.d (D.lit (.int .i64 (x6 + 1)))])] R' /\
 (∀ v H', R' (.ret v) H' -> ∃ x7 : Int, ∃ x8 : List UInt8, ∃ x9 : Int, v = A.d (D.lit (.int .u8 x7)) /\ H' = [(Ref.up (Ref.up q0), [A.d (D.lit (Zaa x8)), A.d (D.lit (.int .i64 x9))])] /\
 ∀ _ : Nat -> Nat, ∃ R', Holds Try.prog 101 [A.d (D.lit (.int .u8 x7))] [] R' /\
 (∀ v H', R' (.ret v) H' -> ∃ x10 : Int, ∃ x11 : Bool, v = A.tup [(false, [D.lit (.int .u8 x10)]), (false, [D.lit (.bool x11)])] /\ H' = [] /\
 (((!x11) || (tB (decide ((gOr .u8 (gShl .u8 x3 4) x10) < x2)))) = true ->
 ∀ _ : Nat -> Nat, ∃ R', Holds Try.prog 38 [A.ptr (.up (Ref.up q0)) 0, A.d (D.lit (.int .i64 x9))] [(Ref.up (Ref.up q0), [A.d (D.lit (Zaa x8)), A.d (D.lit (.int .i64 x9))])] R' /\
 (∀ v H', R' (.ret v) H' -> ∃ x12 : List UInt8, ∃ x13 : Int, v = A.tup [] /\ H' = [(Ref.up (Ref.up q0), [A.d (D.lit (Zaa x12)), A.d (D.lit (.int .i64 x13))])] /\
 tB (decide ((-9223372036854775808) <= (x4 + 1))) = true /\
 tB (decide ((x4 + 1) <= 9223372036854775807)) = true /\
 I0_0 (gOr .u8 (gShl .u8 x3 4) x10) (x4 + 1) x12 x13 /\ M0_0 (gOr .u8 (gShl .u8 x3 4) x10) (x4 + 1) x12 x13 < M0_0 x3 x4 x5 x6) /\
 (∀ x12v H', R' (.pan x12v) H' -> ∃ x13 : List UInt8, ∃ x14 : Int, H' = [(Ref.up (Ref.up q0), [A.d (D.lit (Zaa x13)), A.d (D.lit (.int .i64 x14))])] /\
 R (.pan x12v) [((Ref.up q0), [A.d (D.lit (Zaa x13)), A.d (D.lit (.int .i64 x14))])])) /\
 (((!x11) || (tB (decide ((gOr .u8 (gShl .u8 x3 4) x10) < x2)))) = false ->
 tB (decide ((-9223372036854775808) <= (x4 + 1))) = true /\
 tB (decide ((x4 + 1) <= 9223372036854775807)) = true /\
 I0_0 (gOr .u8 (gShl .u8 x3 4) x10) (x4 + 1) x8 x9 /\ M0_0 (gOr .u8 (gShl .u8 x3 4) x10) (x4 + 1) x8 x9 < M0_0 x3 x4 x5 x6)) /\
 (∀ x10v H', R' (.pan x10v) H' -> H' = [] /\
 R (.pan x10v) [((Ref.up q0), [A.d (D.lit (Zaa x8)), A.d (D.lit (.int .i64 x9))])])) /\
 (∀ x7v H', R' (.pan x7v) H' -> ∃ x8 : List UInt8, ∃ x9 : Int, H' = [(Ref.up (Ref.up q0), [A.d (D.lit (Zaa x8)), A.d (D.lit (.int .i64 x9))])] /\
 R (.pan x7v) [((Ref.up q0), [A.d (D.lit (Zaa x8)), A.d (D.lit (.int .i64 x9))])]))) /\
 (tB (decide (x4 < 2)) = false ->
 tB (decide ((-9223372036854775808) <= (x6 + 1))) = true /\
 tB (decide ((x6 + 1) <= 9223372036854775807)) = true /\
 R (.ret (A.d (D.lit (.int .u8 x3)))) [((Ref.up q0), [A.d (D.lit (Zaa x5)), A.d (D.lit (.int .i64 (x6 + 1)))])])) /\
 True) :
 Holds Try.prog 93 [A.ptr (Ref.up q0) 0, A.d (D.lit (.int .u8 x2))] [((Ref.up q0), [A.d (D.lit (Zaa x0)), A.d (D.lit (.int .i64 x1))])] R :=
 walk (c := ⟨Try.prog, 69, true, [0, 1, 4, 5, 7, 8, 9, 10, 11, 12, 53]⟩) (op := {}) (fn := Try.f93) (args := [.ptr (.up 0) 0, .c (.o1 (.ci .u8) (.var 2))]) (K := [(.up 0, [.c (.o1 .cs (.var 0)), .c (.o1 (.ci .i64) (.var 1))])]) (nv := 3) (depth := 7) (up := upOf [q0]) (ρ := Zat [.s x0, .i x1, .i x2])
  rfl rfl rfl rfl rfl (by decide) (by decide) (by decide) (by decide) rfl (by simp [Zad, RRef.den, upOf]) (T_of (by kernel_rfl) h)
end Go.Rx
end
section
open Go Go.Proofs Go.Ab Go.Rf
set_option maxRecDepth 1000000
set_option maxHeartbeats 2000000
set_option linter.unusedVariables false
namespace Go.Rx
theorem w41 {R : RT} (x0 : List D) (x1 : Int) (h : tB ((x0.length : Int) == 6) = true /\
 Rf.isK (.int .i64) (x0.getD 0 D0) = true /\
 (tB ((Rf.dint (x0.getD 0 D0)) == 2) = true ->
 ∀ _ : Nat -> Nat, ∃ R', Holds Try.prog 55 [A.agg [x0.getD 1 D0, x0.getD 2 D0, x0.getD 3 D0, x0.getD 4 D0], A.d (D.lit (.int .u8 x1))] [] R' /\
 (∀ v H', R' (.ret v) H' -> ∃ x2 : Bool, v = A.d (D.lit (.bool x2)) /\ H' = [] /\
 (x2 = true ->
 R (.ret (A.agg [D.lit (.int .i64 1), D.lit (.int .u64 0), D.lit (.int .u64 0), D.lit (.int .u64 0), D.lit (.int .u64 0), (D.slc ([] : List (List D)))])) []) /\
 (x2 = false ->
 R (.ret (A.agg [D.lit (.int .i64 0), D.lit (.int .u64 0), D.lit (.int .u64 0), D.lit (.int .u64 0), D.lit (.int .u64 0), (D.slc ([] : List (List D)))])) [])) /\
 PN R R') /\
 (tB ((Rf.dint (x0.getD 0 D0)) == 2) = false ->
 (tB ((Rf.dint (x0.getD 0 D0)) == 5) = true ->
 Rf.isK .slc (x0.getD 5 D0) = true /\
 tB (decide (0 < ((Rf.dlst (x0.getD 5 D0)).length : Int))) = true /\
 tB (((gAt (Rf.dlst (x0.getD 5 D0)) 0).length : Int) == 6) = true /\
 ∃ x2 : List D, (∀ _ : Nat -> Nat, Holds Try.prog 41 [A.agg (gAt (Rf.dlst (x0.getD 5 D0)) 0), A.d (D.lit (.int .u8 x1))] [] (Zce [] (A.agg x2))) /\
 tB ((x2.length : Int) == 6) = true /\
 ∀ _ : Nat -> Nat, ∃ R', Holds Try.prog 56 [A.d (D.slc [x2, x0])] [] R' /\
 (∀ v H', R' (.ret v) H' -> ∃ x3 : List D, v = A.agg x3 /\ H' = [] /\
 tB ((x3.length : Int) == 6) = true /\
 R (.ret (A.agg x3)) []) /\
 PN R R') /\
 (tB ((Rf.dint (x0.getD 0 D0)) == 5) = false ->
 (tB ((Rf.dint (x0.getD 0 D0)) == 4) = true ->
 Rf.isK .slc (x0.getD 5 D0) = true /\
 ∃ (I0_0 : Prop) (M0_0 : Nat), ∃ (I0_1 : List (List D) -> Int -> D -> D -> D -> D -> D -> D -> Prop) (M0_1 : List (List D) -> Int -> D -> D -> D -> D -> D -> D -> Nat), I0_0 /\
 (I0_0 ->
 (tB (decide (0 < ((Rf.dlst (x0.getD 5 D0)).length : Int))) = true ->
 tB (((gAt (Rf.dlst (x0.getD 5 D0)) 0).length : Int) == 6) = true /\
 ∀ _ : Nat -> Nat, ∃ R', Holds Try.prog 41 [A.agg (gAt (Rf.dlst (x0.getD 5 D0)) 0), A.d (D.lit (.int .u8 x1))] [] R' /\
 (∀ v H', R' (.ret v) H' -> ∃ x2 : List D, v = A.agg x2 /\ H' = [] /\
 tB ((x2.length : Int) == 6) = true /\
 (Zga 6 [x2]) = true /\
 tB (decide (((0 + ([x2].length : Int)) * 64) <= 140737488355328)) = true /\
 tB (decide ((0 + ([x2].length : Int)) <= 1099511627776)) = true /\
 I0_1 [x2] 1 ((gAt (Rf.dlst (x0.getD 5 D0)) 0).getD 0 D0) ((gAt (Rf.dlst (x0.getD 5 D0)) 0).getD 1 D0) ((gAt (Rf.dlst (x0.getD 5 D0)) 0).getD 2 D0) ((gAt (Rf.dlst (x0.getD 5 D0)) 0).getD 3 D0) ((gAt (Rf.dlst (x0.getD 5 D0)) 0).getD 4 D0) ((gAt (Rf.dlst (x0.getD 5 D0)) 0).getD 5 D0) /\ M0_1 [x2] 1 ((gAt (Rf.dlst (x0.getD 5 D0)) 0).getD 0 D0) ((gAt (Rf.dlst (x0.getD 5 D0)) 0).getD 1 D0) ((gAt (Rf.dlst (x0.getD 5 D0)) 0).getD 2 D0) ((gAt (Rf.dlst (x0.getD 5 D0)) 0).getD 3 D0) ((gAt (Rf.dlst (x0.getD 5 D0)) 0).getD 4 D0) ((gAt (Rf.dlst (x0.getD 5 D0)) 0).getD 5 D0) < M0_0) /\
 PN R R') /\
 (tB (decide (0 < ((Rf.dlst (x0.getD 5 D0)).length : Int))) = false ->
 ∀ _ : Nat -> Nat, ∃ R', Holds Try.prog 57 [(A.zs ([] : List (List D)))] [] R' /\
 (∀ v H', R' (.ret v) H' -> ∃ x2 : List D, v = A.agg x2 /\ H' = [] /\
 tB ((x2.length : Int) == 6) = true /\
 R (.ret (A.agg x2)) []) /\
 PN R R')) /\
 (∀ (x2 : List (List D)) (x3 : Int) (x4 : D) (x5 : D) (x6 : D) (x7 : D) (x8 : D) (x9 : D) , I0_1 x2 x3 x4 x5 x6 x7 x8 x9 ->
 (tB (decide (x3 < ((Rf.dlst (x0.getD 5 D0)).length : Int))) = true ->
 tB (decide (0 <= x3)) = true /\
 tB (((gAt (Rf.dlst (x0.getD 5 D0)) x3).length : Int) == 6) = true /\
 ∀ _ : Nat -> Nat, ∃ R', Holds Try.prog 41 [A.agg (gAt (Rf.dlst (x0.getD 5 D0)) x3), A.d (D.lit (.int .u8 x1))] [] R' /\
 (∀ v H', R' (.ret v) H' -> ∃ x10 : List D, v = A.agg x10 /\ H' = [] /\
 tB ((x10.length : Int) == 6) = true /\
 (Zga 6 [x10]) = true /\
 tB (decide ((((x2.length : Int) + ([x10].length : Int)) * 64) <= 140737488355328)) = true /\
 tB (decide (((x2.length : Int) + ([x10].length : Int)) <= 1099511627776)) = true /\
 tB (decide ((-9223372036854775808) <= (x3 + 1))) = true /\
 tB (decide ((x3 + 1) <= 9223372036854775807)) = true /\
 I0_1 (x2 ++ [x10]) (x3 + 1) ((gAt (Rf.dlst (x0.getD 5 D0)) x3).getD 0 D0) ((gAt (Rf.dlst (x0.getD 5 D0)) x3).getD 1 D0) ((gAt (Rf.dlst (x0.getD 5 D0)) x3).getD 2 D0) ((gAt (Rf.dlst (x0.getD 5 D0)) x3).getD 3 D0) ((gAt (Rf.dlst (x0.getD 5 D0)) x3).getD 4 D0) ((gAt (Rf.dlst (x0.getD 5 D0)) x3).getD 5 D0) /\ M0_1 (x2 ++ [x10]) (x3 + 1) ((gAt (Rf.dlst (x0.getD 5 D0)) x3).getD 0 D0) ((gAt (Rf.dlst (x0.getD 5 D0)) x3).getD 1 D0) ((gAt (Rf.dlst (x0.getD 5 D0)) x3).getD 2 D0) ((gAt (Rf.dlst (x0.getD 5 D0)) x3).getD 3 D0) ((gAt (Rf.dlst (x0.getD 5 D0)) x3).getD 4 D0) ((gAt (Rf.dlst (x0.getD 5 D0)) x3).getD 5 D0) < M0_1 x2 x3 x4 x5 x6 x7 x8 x9) /\
 PN R R') /\
 (tB (decide (x3 < ((Rf.dlst (x0.getD 5 D0)).length : Int))) = false ->
 ∀ _ : Nat -> Nat, ∃ R', Holds Try.prog 57 [A.d (D.slc x2)] [] R' /\
 (∀ v H', R' (.ret v) H' -> ∃ x10 : List D, v = A.agg x10 /\ H' = [] /\
 tB ((x10.length : Int) == 6) = true /\
 R (.ret (A.agg x10)) []) /\
 PN R R')) /\
 True) /\
 (tB ((Rf.dint (x0.getD 0 D0)) == 4) = false ->
 (tB ((Rf.dint (x0.getD 0 D0)) == 3) = true ->
 Rf.isK .slc (x0.getD 5 D0) = true /\
 (Zga 6 (Rf.dlst (x0.getD 5 D0))) = true /\
 tB (decide (1 <= ((Rf.dlst (x0.getD 5 D0)).length : Int))) = true /\
 tB (decide (((Rf.dlst (x0.getD 5 D0)).length : Int) <= ((Rf.dlst (x0.getD 5 D0)).length : Int))) = true /\
 ∀ _ : Nat -> Nat, ∃ R', Holds Try.prog 56 [(A.d (D.slc (gSub (Rf.dlst (x0.getD 5 D0)) 1 ((Rf.dlst (x0.getD 5 D0)).length : Int))))] [] R' /\
 (∀ v H', R' (.ret v) H' -> ∃ x2 : List D, v = A.agg x2 /\ H' = [] /\
 tB ((x2.length : Int) == 6) = true /\
 tB (decide (0 < ((Rf.dlst (x0.getD 5 D0)).length : Int))) = true /\
 tB (((gAt (Rf.dlst (x0.getD 5 D0)) 0).length : Int) == 6) = true /\
 ∃ x3 : List D, (∀ _ : Nat -> Nat, Holds Try.prog 41 [A.agg (gAt (Rf.dlst (x0.getD 5 D0)) 0), A.d (D.lit (.int .u8 x1))] [] (Zce [] (A.agg x3))) /\
 tB ((x3.length : Int) == 6) = true /\
 ∃ x4 : List D, (∀ _ : Nat -> Nat, Holds Try.prog 56 [A.d (D.slc [x3, x2])] [] (Zce [] (A.agg x4))) /\
 tB ((x4.length : Int) == 6) = true /\
 ∀ _ : Nat -> Nat, ∃ R', Holds Try.prog 42 [A.agg (gAt (Rf.dlst (x0.getD 5 D0)) 0)] [] R' /\
 (∀ v H', R' (.ret v) H' -> ∃ x5 : Bool, v = A.d (D.lit (.bool x5)) /\ H' = [] /\
 (x5 = true ->
 ∃ x6 : List D, (∀ _ : Nat -> Nat, Holds Try.prog 41 [A.agg x2, A.d (D.lit (.int .u8 x1))] [] (Zce [] (A.agg x6))) /\
 tB ((x6.length : Int) == 6) = true /\
 ∀ _ : Nat -> Nat, ∃ R', Holds Try.prog 57 [A.d (D.slc [x4, x6])] [] R' /\
 (∀ v H', R' (.ret v) H' -> ∃ x7 : List D, v = A.agg x7 /\ H' = [] /\
 tB ((x7.length : Int) == 6) = true /\
 R (.ret (A.agg x7)) []) /\
 PN R R') /\
 (x5 = false ->
 R (.ret (A.agg x4)) [])) /\
 PN R R') /\
 PN R R') /\
 (tB ((Rf.dint (x0.getD 0 D0)) == 3) = false ->
 R (.ret (A.agg [D.lit (.int .i64 0), D.lit (.int .u64 0), D.lit (.int .u64 0), D.lit (.int .u64 0), D.lit (.int .u64 0), (D.slc ([] : List (List D)))])) []))))) :
 Holds Try.prog 41 [A.agg x0, A.d (D.lit (.int .u8 x1))] [] R :=
 walk (c := ⟨Try.prog, 76, true, [0, 1, 2, 4, 5, 7, 8, 9, 11, 12, 17, 19, 30, 33, 34, 35, 36, 48, 67]⟩) (op := {}) (fn := Try.f41) (args := [.agg (.var 0), .c (.o1 (.ci .u8) (.var 1))]) (K := []) (nv := 2) (depth := 7) (up := upOf []) (ρ := Zat [.r x0, .i x1])
  rfl rfl rfl rfl rfl (by decide) (by decide) (by decide) (by decide) rfl (by simp [Zad, RRef.den, upOf]) (T_of (by kernel_rfl) h)
theorem w56 {R : RT} (x0 : List (List D)) (h : ∃ (I0_0 : Int -> Prop) (M0_0 : Int -> Nat), ∃ (I0_1 : List (List D) -> Int -> Int -> Bool -> D -> D -> D -> D -> D -> D -> Prop) (M0_1 : List (List D) -> Int -> Int -> Bool -> D -> D -> D -> D -> D -> D -> Nat), I0_0 0 /\
 (∀ (x1 : Int) , I0_0 x1 ->
 (tB (decide (x1 < (x0.length : Int))) = true ->
 tB (decide (0 <= x1)) = true /\
 tB (((gAt x0 x1).length : Int) == 6) = true /\
 Rf.isK (.int .i64) ((gAt x0 x1).getD 0 D0) = true /\
 (tB ((Rf.dint ((gAt x0 x1).getD 0 D0)) == 0) = true ->
 R (.ret (A.agg [D.lit (.int .i64 0), D.lit (.int .u64 0), D.lit (.int .u64 0), D.lit (.int .u64 0), D.lit (.int .u64 0), (D.slc ([] : List (List D)))])) []) /\
 (tB ((Rf.dint ((gAt x0 x1).getD 0 D0)) == 0) = false ->
 (tB ((Rf.dint ((gAt x0 x1).getD 0 D0)) == 3) = true ->
 Rf.isK .slc ((gAt x0 x1).getD 5 D0) = true /\
 (Zga 6 (Rf.dlst ((gAt x0 x1).getD 5 D0))) = true /\
 tB (decide (((0 + ((Rf.dlst ((gAt x0 x1).getD 5 D0)).length : Int)) * 64) <= 140737488355328)) = true /\
 tB (decide ((0 + ((Rf.dlst ((gAt x0 x1).getD 5 D0)).length : Int)) <= 1099511627776)) = true /\
 (tB (((Rf.dlst ((gAt x0 x1).getD 5 D0)).length : Int) == 0) = true ->
 tB (decide ((-9223372036854775808) <= (x1 + 1))) = true /\
 tB (decide ((x1 + 1) <= 9223372036854775807)) = true /\
 I0_0 (x1 + 1) /\ M0_0 (x1 + 1) < M0_0 x1) /\
 (tB (((Rf.dlst ((gAt x0 x1).getD 5 D0)).length : Int) == 0) = false ->
 tB (decide ((-9223372036854775808) <= (x1 + 1))) = true /\
 tB (decide ((x1 + 1) <= 9223372036854775807)) = true /\
 I0_1 (([] : List (List D)) ++ (Rf.dlst ((gAt x0 x1).getD 5 D0))) (x1 + 1) (Rf.dint ((gAt x0 x1).getD 0 D0)) true ((gAt x0 x1).getD 0 D0) ((gAt x0 x1).getD 1 D0) ((gAt x0 x1).getD 2 D0) ((gAt x0 x1).getD 3 D0) ((gAt x0 x1).getD 4 D0) ((gAt x0 x1).getD 5 D0) /\ M0_1 (([] : List (List D)) ++ (Rf.dlst ((gAt x0 x1).getD 5 D0))) (x1 + 1) (Rf.dint ((gAt x0 x1).getD 0 D0)) true ((gAt x0 x1).getD 0 D0) ((gAt x0 x1).getD 1 D0) ((gAt x0 x1).getD 2 D0) ((gAt x0 x1).getD 3 D0) ((gAt x0 x1).getD 4 D0) ((gAt x0 x1).getD 5 D0) < M0_0 x1)) /\
 (tB ((Rf.dint ((gAt x0 x1).getD 0 D0)) == 3) = false ->
 (tB ((Rf.dint ((gAt x0 x1).getD 0 D0)) == 1) = true ->
 tB (decide ((-9223372036854775808) <= (x1 + 1))) = true /\
 tB (decide ((x1 + 1) <= 9223372036854775807)) = true /\
 I0_0 (x1 + 1) /\ M0_0 (x1 + 1) < M0_0 x1) /\
 (tB ((Rf.dint ((gAt x0 x1).getD 0 D0)) == 1) = false ->
 (Zga 6 [gAt x0 x1]) = true /\
 tB (decide (((0 + ([gAt x0 x1].length : Int)) * 64) <= 140737488355328)) = true /\
 tB (decide ((0 + ([gAt x0 x1].length : Int)) <= 1099511627776)) = true /\
 tB (decide ((-9223372036854775808) <= (x1 + 1))) = true /\
 tB (decide ((x1 + 1) <= 9223372036854775807)) = true /\
 I0_1 [gAt x0 x1] (x1 + 1) (Rf.dint ((gAt x0 x1).getD 0 D0)) false ((gAt x0 x1).getD 0 D0) ((gAt x0 x1).getD 1 D0) ((gAt x0 x1).getD 2 D0) ((gAt x0 x1).getD 3 D0) ((gAt x0 x1).getD 4 D0) ((gAt x0 x1).getD 5 D0) /\ M0_1 [gAt x0 x1] (x1 + 1) (Rf.dint ((gAt x0 x1).getD 0 D0)) false ((gAt x0 x1).getD 0 D0) ((gAt x0 x1).getD 1 D0) ((gAt x0 x1).getD 2 D0) ((gAt x0 x1).getD 3 D0) ((gAt x0 x1).getD 4 D0) ((gAt x0 x1).getD 5 D0) < M0_0 x1)))) /\
 (tB (decide (x1 < (x0.length : Int))) = false ->
 R (.ret (A.agg [D.lit (.int .i64 1), D.lit (.int .u64 0), D.lit (.int .u64 0), D.lit (.int .u64 0), D.lit (.int .u64 0), (D.slc ([] : List (List D)))])) [])) /\
 (∀ (x1 : List (List D)) (x2 : Int) (x3 : Int) (x4 : Bool) (x5 : D) (x6 : D) (x7 : D) (x8 : D) (x9 : D) (x10 : D) , I0_1 x1 x2 x3 x4 x5 x6 x7 x8 x9 x10 ->
 (tB (decide (x2 < (x0.length : Int))) = true ->
 tB (decide (0 <= x2)) = true /\
 tB (((gAt x0 x2).length : Int) == 6) = true /\
 Rf.isK (.int .i64) ((gAt x0 x2).getD 0 D0) = true /\
 (tB ((Rf.dint ((gAt x0 x2).getD 0 D0)) == 0) = true ->
 R (.ret (A.agg [D.lit (.int .i64 0), D.lit (.int .u64 0), D.lit (.int .u64 0), D.lit (.int .u64 0), D.lit (.int .u64 0), (D.slc ([] : List (List D)))])) []) /\
 (tB ((Rf.dint ((gAt x0 x2).getD 0 D0)) == 0) = false ->
 (tB ((Rf.dint ((gAt x0 x2).getD 0 D0)) == 3) = true ->
 Rf.isK .slc ((gAt x0 x2).getD 5 D0) = true /\
 (Zga 6 (Rf.dlst ((gAt x0 x2).getD 5 D0))) = true /\
 tB (decide ((((x1.length : Int) + ((Rf.dlst ((gAt x0 x2).getD 5 D0)).length : Int)) * 64) <= 140737488355328)) = true /\
 tB (decide (((x1.length : Int) + ((Rf.dlst ((gAt x0 x2).getD 5 D0)).length : Int)) <= 1099511627776)) = true /\
 tB (decide ((-9223372036854775808) <= (x2 + 1))) = true /\
 tB (decide ((x2 + 1) <= 9223372036854775807)) = true /\
 I0_1 (x1 ++ (Rf.dlst ((gAt x0 x2).getD 5 D0))) (x2 + 1) (Rf.dint ((gAt x0 x2).getD 0 D0)) true ((gAt x0 x2).getD 0 D0) ((gAt x0 x2).getD 1 D0) ((gAt x0 x2).getD 2 D0) ((gAt x0 x2).getD 3 D0) ((gAt x0 x2).getD 4 D0) ((gAt x0 x2).getD 5 D0) /\ M0_1 (x1 ++ (Rf.dlst ((gAt x0 x2).getD 5 D0))) (x2 + 1) (Rf.dint ((gAt x0 x2).getD 0 D0)) true ((gAt x0 x2).getD 0 D0) ((gAt x0 x2).getD 1 D0) ((gAt x0 x2).getD 2 D0) ((gAt x0 x2).getD 3 D0) ((gAt x0 x2).getD 4 D0) ((gAt x0 x2).getD 5 D0) < M0_1 x1 x2 x3 x4 x5 x6 x7 x8 x9 x10) /\
 (tB ((Rf.dint ((gAt x0 x2).getD 0 D0)) == 3) = false ->
 (tB ((Rf.dint ((gAt x0 x2).getD 0 D0)) == 1) = true ->
 tB (decide ((-9223372036854775808) <= (x2 + 1))) = true /\
 tB (decide ((x2 + 1) <= 9223372036854775807)) = true /\
 I0_1 x1 (x2 + 1) (Rf.dint ((gAt x0 x2).getD 0 D0)) false ((gAt x0 x2).getD 0 D0) ((gAt x0 x2).getD 1 D0) ((gAt x0 x2).getD 2 D0) ((gAt x0 x2).getD 3 D0) ((gAt x0 x2).getD 4 D0) ((gAt x0 x2).getD 5 D0) /\ M0_1 x1 (x2 + 1) (Rf.dint ((gAt x0 x2).getD 0 D0)) false ((gAt x0 x2).getD 0 D0) ((gAt x0 x2).getD 1 D0) ((gAt x0 x2).getD 2 D0) ((gAt x0 x2).getD 3 D0) ((gAt x0 x2).getD 4 D0) ((gAt x0 x2).getD 5 D0) < M0_1 x1 x2 x3 x4 x5 x6 x7 x8 x9 x10) /\
 (tB ((Rf.dint ((gAt x0 x2).getD 0 D0)) == 1) = false ->
 (Zga 6 [gAt x0 x2]) = true /\
 tB (decide ((((x1.length : Int) + ([gAt x0 x2].length : Int)) * 64) <= 140737488355328)) = true /\
 tB (decide (((x1.length : Int) + ([gAt x0 x2].length : Int)) <= 1099511627776)) = true /\
 tB (decide ((-9223372036854775808) <= (x2 + 1))) = true /\
 tB (decide ((x2 + 1) <= 9223372036854775807)) = true /\
 I0_1 (x1 ++ [gAt x0 x2]) (x2 + 1) (Rf.dint ((gAt x0 x2).getD 0 D0)) false ((gAt x0 x2).getD 0 D0) ((gAt x0 x2).getD 1 D0) ((gAt x0 x2).getD 2 D0) ((gAt x0 x2).getD 3 D0) ((gAt x0 x2).getD 4 D0) ((gAt x0 x2).getD 5 D0) /\ M0_1 (x1 ++ [gAt x0 x2]) (x2 + 1) (Rf.dint ((gAt x0 x2).getD 0 D0)) false ((gAt x0 x2).getD 0 D0) ((gAt x0 x2).getD 1 D0) ((gAt x0 x2).getD 2 D0) ((gAt x0 x2).getD 3 D0) ((gAt x0 x2).getD 4 D0) ((gAt x0 x2).getD 5 D0) < M0_1 x1 x2 x3 x4 x5 x6 x7 x8 x9 x10)))) /\
 (tB (decide (x2 < (x0.length : Int))) = false ->
 (tB ((x1.length : Int) == 0) = true ->
 R (.ret (A.agg [D.lit (.int .i64 1), D.lit (.int .u64 0), D.lit (.int .u64 0), D.lit (.int .u64 0), D.lit (.int .u64 0), (D.slc ([] : List (List D)))])) []) /\
 (tB ((x1.length : Int) == 0) = false ->
 ∀ _ : Nat -> Nat, ∃ R', Holds Try.prog 50 [A.d (D.lit (.int .i64 3)), A.d (D.slc x1)] [] R' /\
 (∀ v H', R' (.ret v) H' -> ∃ x11 : List D, v = A.agg x11 /\ H' = [] /\
 tB ((x11.length : Int) == 6) = true /\
 R (.ret (A.agg x11)) []) /\
 PN R R'))) /\
 True) :
 Holds Try.prog 56 [A.d (D.slc x0)] [] R :=
 walk (c := ⟨Try.prog, 36, true, [0, 2, 3, 5, 6, 7, 8, 9, 13, 18, 21, 27, 32]⟩) (op := {}) (fn := Try.f56) (args := [.c (.o1 .cl (.var 0))]) (K := []) (nv := 1) (depth := 6) (up := upOf []) (ρ := Zat [.l x0])
  rfl rfl rfl rfl rfl (by decide) (by decide) (by decide) (by decide) rfl (by simp [Zad, RRef.den, upOf]) (T_of (by kernel_rfl) h)
theorem w57 {R : RT} (x0 : List (List D)) (h : ∃ (I0_0 : Int -> Prop) (M0_0 : Int -> Nat), ∃ (I0_1 : Int -> Bool -> D -> D -> D -> D -> D -> D -> List (List D) -> Prop) (M0_1 : Int -> Bool -> D -> D -> D -> D -> D -> D -> List (List D) -> Nat), I0_0 0 /\
 (∀ (x1 : Int) , I0_0 x1 ->
 (tB (decide (x1 < (x0.length : Int))) = true ->
 tB (decide (0 <= x1)) = true /\
 tB (((gAt x0 x1).length : Int) == 6) = true /\
 Rf.isK (.int .i64) ((gAt x0 x1).getD 0 D0) = true /\
 (tB ((Rf.dint ((gAt x0 x1).getD 0 D0)) == 4) = true ->
 Rf.isK .slc ((gAt x0 x1).getD 5 D0) = true /\
 ∃ (I1_0 : Prop) (M1_0 : Nat), ∃ (I1_1 : Int -> D -> D -> D -> D -> D -> D -> List (List D) -> Prop) (M1_1 : Int -> D -> D -> D -> D -> D -> D -> List (List D) -> Nat), I1_0 /\
 (I1_0 ->
 (tB (decide (0 < ((Rf.dlst ((gAt x0 x1).getD 5 D0)).length : Int))) = true ->
 tB (((gAt (Rf.dlst ((gAt x0 x1).getD 5 D0)) 0).length : Int) == 6) = true /\
 ∀ ν : Nat -> Nat, ∃ R', Holds Try.prog 68 [A.agg (gAt (Rf.dlst ((gAt x0 x1).getD 5 D0)) 0), A.ptr (.up (Ref.own 3 (ν 3))) 0] [(Ref.up (Ref.own 3 (ν 3)), [(A.zs ([] : List (List D)))])] R' /\
 (∀ v H', R' (.ret v) H' -> ∃ x2 : List (List D), v = A.tup [] /\ H' = [(Ref.up (Ref.own 3 (ν 3)), [(A.own 6 x2 ([] : List (List D)))])] /\
 I1_1 1 ((gAt (Rf.dlst ((gAt x0 x1).getD 5 D0)) 0).getD 0 D0) ((gAt (Rf.dlst ((gAt x0 x1).getD 5 D0)) 0).getD 1 D0) ((gAt (Rf.dlst ((gAt x0 x1).getD 5 D0)) 0).getD 2 D0) ((gAt (Rf.dlst ((gAt x0 x1).getD 5 D0)) 0).getD 3 D0) ((gAt (Rf.dlst ((gAt x0 x1).getD 5 D0)) 0).getD 4 D0) ((gAt (Rf.dlst ((gAt x0 x1).getD 5 D0)) 0).getD 5 D0) x2 /\ M1_1 1 ((gAt (Rf.dlst ((gAt x0 x1).getD 5 D0)) 0).getD 0 D0) ((gAt (Rf.dlst ((gAt x0 x1).getD 5 D0)) 0).getD 1 D0) ((gAt (Rf.dlst ((gAt x0 x1).getD 5 D0)) 0).getD 2 D0) ((gAt (Rf.dlst ((gAt x0 x1).getD 5 D0)) 0).getD 3 D0) ((gAt (Rf.dlst ((gAt x0 x1).getD 5 D0)) 0).getD 4 D0) ((gAt (Rf.dlst ((gAt x0 x1).getD 5 D0)) 0).getD 5 D0) x2 < M1_0) /\
 (∀ x2v H', R' (.pan x2v) H' -> ∃ x3 : List (List D), H' = [(Ref.up (Ref.own 3 (ν 3)), [A.zs x3])] /\
 R (.pan x2v) [])) /\
 (tB (decide (0 < ((Rf.dlst ((gAt x0 x1).getD 5 D0)).length : Int))) = false ->
 tB (decide ((-9223372036854775808) <= (x1 + 1))) = true /\
 tB (decide ((x1 + 1) <= 9223372036854775807)) = true /\
 I0_0 (x1 + 1) /\ M0_0 (x1 + 1) < M0_0 x1)) /\
 (∀ (x2 : Int) (x3 : D) (x4 : D) (x5 : D) (x6 : D) (x7 : D) (x8 : D) (x9 : List (List D)) , I1_1 x2 x3 x4 x5 x6 x7 x8 x9 ->
 (tB (decide (x2 < ((Rf.dlst ((gAt x0 x1).getD 5 D0)).length : Int))) = true ->
 tB (decide (0 <= x2)) = true /\
 tB (((gAt (Rf.dlst ((gAt x0 x1).getD 5 D0)) x2).length : Int) == 6) = true /\
 ∀ ν : Nat -> Nat, ∃ R', Holds Try.prog 68 [A.agg (gAt (Rf.dlst ((gAt x0 x1).getD 5 D0)) x2), A.ptr (.up (Ref.own 3 (ν 3))) 0] [(Ref.up (Ref.own 3 (ν 3)), [(A.own 6 x9 ([] : List (List D)))])] R' /\
 (∀ v H', R' (.ret v) H' -> ∃ x10 : List (List D), v = A.tup [] /\ H' = [(Ref.up (Ref.own 3 (ν 3)), [(A.own 6 x10 ([] : List (List D)))])] /\
 tB (decide ((-9223372036854775808) <= (x2 + 1))) = true /\
 tB (decide ((x2 + 1) <= 9223372036854775807)) = true /\
 I1_1 (x2 + 1) ((gAt (Rf.dlst ((gAt x0 x1).getD 5 D0)) x2).getD 0 D0) ((gAt (Rf.dlst ((gAt x0 x1).getD 5 D0)) x2).getD 1 D0) ((gAt (Rf.dlst ((gAt x0 x1).getD 5 D0)) x2).getD 2 D0) ((gAt (Rf.dlst ((gAt x0 x1).getD 5 D0)) x2).getD 3 D0) ((gAt (Rf.dlst ((gAt x0 x1).getD 5 D0)) x2).getD 4 D0) ((gAt (Rf.dlst ((gAt x0 x1).getD 5 D0)) x2).getD 5 D0) x10 /\ M1_1 (x2 + 1) ((gAt (Rf.dlst ((gAt x0 x1).getD 5 D0)) x2).getD 0 D0) ((gAt (Rf.dlst ((gAt x0 x1).getD 5 D0)) x2).getD 1 D0) ((gAt (Rf.dlst ((gAt x0 x1).getD 5 D0)) x2).getD 2 D0) ((gAt (Rf.dlst ((gAt x0 x1).getD 5 D0)) x2).getD 3 D0) ((gAt (Rf.dlst ((gAt x0 x1).getD 5 D0)) x2).getD 4 D0) ((gAt (Rf.dlst ((gAt x0 x1).getD 5 D0)) x2).getD 5 D0) x10 < M1_1 x2 x3 x4 x5 x6 x7 x8 x9) /\
 (∀ x10v H', R' (.pan x10v) H' -> ∃ x11 : List (List D), H' = [(Ref.up (Ref.own 3 (ν 3)), [(A.own 6 x11 ([] : List (List D)))])] /\
 R (.pan x10v) [])) /\
 (tB (decide (x2 < ((Rf.dlst ((gAt x0 x1).getD 5 D0)).length : Int))) = false ->
 tB (decide ((-9223372036854775808) <= (x1 + 1))) = true /\
 tB (decide ((x1 + 1) <= 9223372036854775807)) = true /\
 I0_1 (x1 + 1) true ((gAt x0 x1).getD 0 D0) ((gAt x0 x1).getD 1 D0) ((gAt x0 x1).getD 2 D0) ((gAt x0 x1).getD 3 D0) ((gAt x0 x1).getD 4 D0) ((gAt x0 x1).getD 5 D0) x9 /\ M0_1 (x1 + 1) true ((gAt x0 x1).getD 0 D0) ((gAt x0 x1).getD 1 D0) ((gAt x0 x1).getD 2 D0) ((gAt x0 x1).getD 3 D0) ((gAt x0 x1).getD 4 D0) ((gAt x0 x1).getD 5 D0) x9 < M0_0 x1)) /\
 True) /\
 (tB ((Rf.dint ((gAt x0 x1).getD 0 D0)) == 4) = false ->
 ((!(tB ((Rf.dint ((gAt x0 x1).getD 0 D0)) == 0))) = true ->
 ∀ ν : Nat -> Nat, ∃ R', Holds Try.prog 68 [A.agg (gAt x0 x1), A.ptr (.up (Ref.own 3 (ν 3))) 0] [(Ref.up (Ref.own 3 (ν 3)), [(A.zs ([] : List (List D)))])] R' /\
 (∀ v H', R' (.ret v) H' -> ∃ x2 : List (List D), v = A.tup [] /\ H' = [(Ref.up (Ref.own 3 (ν 3)), [(A.own 6 x2 ([] : List (List D)))])] /\
 tB (decide ((-9223372036854775808) <= (x1 + 1))) = true /\
 tB (decide ((x1 + 1) <= 9223372036854775807)) = true /\
 I0_1 (x1 + 1) false ((gAt x0 x1).getD 0 D0) ((gAt x0 x1).getD 1 D0) ((gAt x0 x1).getD 2 D0) ((gAt x0 x1).getD 3 D0) ((gAt x0 x1).getD 4 D0) ((gAt x0 x1).getD 5 D0) x2 /\ M0_1 (x1 + 1) false ((gAt x0 x1).getD 0 D0) ((gAt x0 x1).getD 1 D0) ((gAt x0 x1).getD 2 D0) ((gAt x0 x1).getD 3 D0) ((gAt x0 x1).getD 4 D0) ((gAt x0 x1).getD 5 D0) x2 < M0_0 x1) /\
 (∀ x2v H', R' (.pan x2v) H' -> ∃ x3 : List (List D), H' = [(Ref.up (Ref.own 3 (ν 3)), [A.zs x3])] /\
 R (.pan x2v) [])) /\
 ((!(tB ((Rf.dint ((gAt x0 x1).getD 0 D0)) == 0))) = false ->
 tB (decide ((-9223372036854775808) <= (x1 + 1))) = true /\
 tB (decide ((x1 + 1) <= 9223372036854775807)) = true /\
 I0_0 (x1 + 1) /\ M0_0 (x1 + 1) < M0_0 x1))) /\
 (tB (decide (x1 < (x0.length : Int))) = false ->
 R (.ret (A.agg [D.lit (.int .i64 0), D.lit (.int .u64 0), D.lit (.int .u64 0), D.lit (.int .u64 0), D.lit (.int .u64 0), (D.slc ([] : List (List D)))])) [])) /\
 (∀ (x1 : Int) (x2 : Bool) (x3 : D) (x4 : D) (x5 : D) (x6 : D) (x7 : D) (x8 : D) (x9 : List (List D)) , I0_1 x1 x2 x3 x4 x5 x6 x7 x8 x9 ->
 (tB (decide (x1 < (x0.length : Int))) = true ->
 tB (decide (0 <= x1)) = true /\
 tB (((gAt x0 x1).length : Int) == 6) = true /\
 Rf.isK (.int .i64) ((gAt x0 x1).getD 0 D0) = true /\
 (tB ((Rf.dint ((gAt x0 x1).getD 0 D0)) == 4) = true ->
 Rf.isK .slc ((gAt x0 x1).getD 5 D0) = true /\
 ∃ (I1_0 : Int -> List (List D) -> Prop) (M1_0 : Int -> List (List D) -> Nat), I1_0 0 x9 /\
 (∀ (x10 : Int) (x11 : List (List D)) , I1_0 x10 x11 ->
 (tB (decide (x10 < ((Rf.dlst ((gAt x0 x1).getD 5 D0)).length : Int))) = true ->
 tB (decide (0 <= x10)) = true /\
 tB (((gAt (Rf.dlst ((gAt x0 x1).getD 5 D0)) x10).length : Int) == 6) = true /\
 ∀ ν : Nat -> Nat, ∃ R', Holds Try.prog 68 [A.agg (gAt (Rf.dlst ((gAt x0 x1).getD 5 D0)) x10), A.ptr (.up (Ref.own 3 (ν 3))) 0] [(Ref.up (Ref.own 3 (ν 3)), [(A.own 6 x11 ([] : List (List D)))])] R' /\
 (∀ v H', R' (.ret v) H' -> ∃ x12 : List (List D), v = A.tup [] /\ H' = [(Ref.up (Ref.own 3 (ν 3)), [(A.own 6 x12 ([] : List (List D)))])] /\
 tB (decide ((-9223372036854775808) <= (x10 + 1))) = true /\
 tB (decide ((x10 + 1) <= 9223372036854775807)) = true /\
 I1_0 (x10 + 1) x12 /\ M1_0 (x10 + 1) x12 < M1_0 x10 x11) /\
 (∀ x12v H', R' (.pan x12v) H' -> ∃ x13 : List (List D), H' = [(Ref.up (Ref.own 3 (ν 3)), [(A.own 6 x13 ([] : List (List D)))])] /\
 R (.pan x12v) [])) /\
 (tB (decide (x10 < ((Rf.dlst ((gAt x0 x1).getD 5 D0)).length : Int))) = false ->
 tB (decide ((-9223372036854775808) <= (x1 + 1))) = true /\
 tB (decide ((x1 + 1) <= 9223372036854775807)) = true /\
 I0_1 (x1 + 1) true ((gAt x0 x1).getD 0 D0) ((gAt x0 x1).getD 1 D0) ((gAt x0 x1).getD 2 D0) ((gAt x0 x1).getD 3 D0) ((gAt x0 x1).getD 4 D0) ((gAt x0 x1).getD 5 D0) x11 /\ M0_1 (x1 + 1) true ((gAt x0 x1).getD 0 D0) ((gAt x0 x1).getD 1 D0) ((gAt x0 x1).getD 2 D0) ((gAt x0 x1).getD 3 D0) ((gAt x0 x1).getD 4 D0) ((gAt x0 x1).getD 5 D0) x11 < M0_1 x1 x2 x3 x4 x5 x6 x7 x8 x9)) /\
 True) /\
 (tB ((Rf.dint ((gAt x0 x1).getD 0 D0)) == 4) = false ->
 ((!(tB ((Rf.dint ((gAt x0 x1).getD 0 D0)) == 0))) = true ->
 ∀ ν : Nat -> Nat, ∃ R', Holds Try.prog 68 [A.agg (gAt x0 x1), A.ptr (.up (Ref.own 3 (ν 3))) 0] [(Ref.up (Ref.own 3 (ν 3)), [(A.own 6 x9 ([] : List (List D)))])] R' /\
 (∀ v H', R' (.ret v) H' -> ∃ x10 : List (List D), v = A.tup [] /\ H' = [(Ref.up (Ref.own 3 (ν 3)), [(A.own 6 x10 ([] : List (List D)))])] /\
 tB (decide ((-9223372036854775808) <= (x1 + 1))) = true /\
 tB (decide ((x1 + 1) <= 9223372036854775807)) = true /\
 I0_1 (x1 + 1) false ((gAt x0 x1).getD 0 D0) ((gAt x0 x1).getD 1 D0) ((gAt x0 x1).getD 2 D0) ((gAt x0 x1).getD 3 D0) ((gAt x0 x1).getD 4 D0) ((gAt x0 x1).getD 5 D0) x10 /\ M0_1 (x1 + 1) false ((gAt x0 x1).getD 0 D0) ((gAt x0 x1).getD 1 D0) ((gAt x0 x1).getD 2 D0) ((gAt x0 x1).getD 3 D0) ((gAt x0 x1).getD 4 D0) ((gAt x0 x1).getD 5 D0) x10 < M0_1 x1 x2 x3 x4 x5 x6 x7 x8 x9) /\
 (∀ x10v H', R' (.pan x10v) H' -> ∃ x11 : List (List D), H' = [(Ref.up (Ref.own 3 (ν 3)), [(A.own 6 x11 ([] : List (List D)))])] /\
 R (.pan x10v) [])) /\
 ((!(tB ((Rf.dint ((gAt x0 x1).getD 0 D0)) == 0))) = false ->
 tB (decide ((-9223372036854775808) <= (x1 + 1))) = true /\
 tB (decide ((x1 + 1) <= 9223372036854775807)) = true /\
 I0_1 (x1 + 1) false ((gAt x0 x1).getD 0 D0) ((gAt x0 x1).getD 1 D0) ((gAt x0 x1).getD 2 D0) ((gAt x0 x1).getD 3 D0) ((gAt x0 x1).getD 4 D0) ((gAt x0 x1).getD 5 D0) x9 /\ M0_1 (x1 + 1) false ((gAt x0 x1).getD 0 D0) ((gAt x0 x1).getD 1 D0) ((gAt x0 x1).getD 2 D0) ((gAt x0 x1).getD 3 D0) ((gAt x0 x1).getD 4 D0) ((gAt x0 x1).getD 5 D0) x9 < M0_1 x1 x2 x3 x4 x5 x6 x7 x8 x9))) /\
 (tB (decide (x1 < (x0.length : Int))) = false ->
 (tB ((x9.length : Int) == 0) = true ->
 R (.ret (A.agg [D.lit (.int .i64 0), D.lit (.int .u64 0), D.lit (.int .u64 0), D.lit (.int .u64 0), D.lit (.int .u64 0), (D.slc ([] : List (List D)))])) []) /\
 (tB ((x9.length : Int) == 0) = false ->
 ∀ _ : Nat -> Nat, ∃ R', Holds Try.prog 50 [A.d (D.lit (.int .i64 4)), A.d (D.slc x9)] [] R' /\
 (∀ v H', R' (.ret v) H' -> ∃ x10 : List D, v = A.agg x10 /\ H' = [] /\
 tB ((x10.length : Int) == 6) = true /\
 R (.ret (A.agg x10)) []) /\
 PN R R'))) /\
 True) :
 Holds Try.prog 57 [A.d (D.slc x0)] [] R :=
 walk (c := ⟨Try.prog, 45, true, [0, 2, 3, 4, 6, 8, 10, 11, 12, 13, 16, 21, 22, 23, 24, 31, 41]⟩) (op := { grow := [(68, 6)] }) (fn := Try.f57) (args := [.c (.o1 .cl (.var 0))]) (K := []) (nv := 1) (depth := 6) (up := upOf []) (ρ := Zat [.l x0])
  rfl rfl rfl rfl rfl (by decide) (by decide) (by decide) (by decide) rfl (by simp [Zad, RRef.den, upOf]) (T_of (by kernel_rfl) h)
theorem w68a {R : RT} (x0 : List D) (q0 : Ref) (h : tB ((x0.length : Int) == 6) = true /\
 ∃ (I0_0 : Prop) (M0_0 : Nat), I0_0 /\
 (I0_0 ->
 tB (decide (((0 + ([[D.lit (.int .i64 0), D.lit (.int .u64 0), D.lit (.int .u64 0), D.lit (.int .u64 0), D.lit (.int .u64 0), (D.slc ([] : List (List D)))]].length : Int)) * 64) <= 140737488355328)) = true /\
 tB (decide ((0 + ([[D.lit (.int .i64 0), D.lit (.int .u64 0), D.lit (.int .u64 0), D.lit (.int .u64 0), D.lit (.int .u64 0), (D.slc ([] : List (List D)))]].length : Int)) <= 1099511627776)) = true /\
 tB (decide (0 < ([[D.lit (.int .i64 0), D.lit (.int .u64 0), D.lit (.int .u64 0), D.lit (.int .u64 0), D.lit (.int .u64 0), (D.slc ([] : List (List D)))]].length : Int))) = true /\
 R (.ret (A.tup [])) [((Ref.up q0), [(A.own 6 (([] : List (List D)) ++ (gSet [[D.lit (.int .i64 0), D.lit (.int .u64 0), D.lit (.int .u64 0), D.lit (.int .u64 0), D.lit (.int .u64 0), (D.slc ([] : List (List D)))]] 0 (setL (gAt [[D.lit (.int .i64 0), D.lit (.int .u64 0), D.lit (.int .u64 0), D.lit (.int .u64 0), D.lit (.int .u64 0), (D.slc ([] : List (List D)))]] 0) 0 x0))) ([] : List (List D)))])]) /\
 True) :
 Holds Try.prog 68 [A.agg x0, A.ptr (Ref.up q0) 0] [((Ref.up q0), [(A.zs ([] : List (List D)))])] R :=
 walk (c := ⟨Try.prog, 21, true, [0, 1, 2, 4, 5, 6, 7, 8, 13]⟩) (op := { lat := [6] }) (fn := Try.f68) (args := [.agg (.var 0), .ptr (.up 0) 0]) (K := [(.up 0, [.zs .lnil])]) (nv := 1) (depth := 5) (up := upOf [q0]) (ρ := Zat [.r x0])
  rfl rfl rfl rfl rfl (by decide) (by decide) (by decide) (by decide) rfl (by simp [Zad, RRef.den, upOf]) (T_of (by kernel_rfl) h)
theorem w68b {R : RT} (x0 : List D) (x1 : List (List D)) (q0 : Ref) (h : tB ((x0.length : Int) == 6) = true /\
 ∃ (I0_0 : Int -> Prop) (M0_0 : Int -> Nat), I0_0 0 /\
 (∀ (x2 : Int) , I0_0 x2 ->
 (tB (decide (x2 < (x1.length : Int))) = true ->
 tB (decide (0 <= x2)) = true /\
 tB (((gAt x1 x2).length : Int) == 6) = true /\
 ∀ _ : Nat -> Nat, ∃ R', Holds Try.prog 69 [A.agg x0, A.agg (gAt x1 x2)] [] R' /\
 (∀ v H', R' (.ret v) H' -> ∃ x3 : Bool, v = A.d (D.lit (.bool x3)) /\ H' = [] /\
 (x3 = true ->
 R (.ret (A.tup [])) [((Ref.up q0), [(A.own 6 x1 ([] : List (List D)))])]) /\
 (x3 = false ->
 tB (decide ((-9223372036854775808) <= (x2 + 1))) = true /\
 tB (decide ((x2 + 1) <= 9223372036854775807)) = true /\
 I0_0 (x2 + 1) /\ M0_0 (x2 + 1) < M0_0 x2)) /\
 (∀ x3v H', R' (.pan x3v) H' -> H' = [] /\
 R (.pan x3v) [((Ref.up q0), [(A.own 6 x1 ([] : List (List D)))])])) /\
 (tB (decide (x2 < (x1.length : Int))) = false ->
 tB (decide ((((x1.length : Int) + ([[D.lit (.int .i64 0), D.lit (.int .u64 0), D.lit (.int .u64 0), D.lit (.int .u64 0), D.lit (.int .u64 0), (D.slc ([] : List (List D)))]].length : Int)) * 64) <= 140737488355328)) = true /\
 tB (decide (((x1.length : Int) + ([[D.lit (.int .i64 0), D.lit (.int .u64 0), D.lit (.int .u64 0), D.lit (.int .u64 0), D.lit (.int .u64 0), (D.slc ([] : List (List D)))]].length : Int)) <= 1099511627776)) = true /\
 R (.ret (A.tup [])) [((Ref.up q0), [(A.own 6 (x1 ++ [(setL [D.lit (.int .i64 0), D.lit (.int .u64 0), D.lit (.int .u64 0), D.lit (.int .u64 0), D.lit (.int .u64 0), (D.slc ([] : List (List D)))] 0 x0)]) ([] : List (List D)))])])) /\
 True) :
 Holds Try.prog 68 [A.agg x0, A.ptr (Ref.up q0) 0] [((Ref.up q0), [(A.own 6 x1 ([] : List (List D)))])] R :=
 walk (c := ⟨Try.prog, 21, true, [0, 1, 2, 4, 5, 6, 7, 8, 13]⟩) (op := { lat := [6] }) (fn := Try.f68) (args := [.agg (.var 0), .ptr (.up 0) 0]) (K := [(.up 0, [.own 6 (.var 1) .lnil])]) (nv := 2) (depth := 5) (up := upOf [q0]) (ρ := Zat [.r x0, .l x1])
  rfl rfl rfl rfl rfl (by decide) (by decide) (by decide) (by decide) rfl (by simp [Zad, RRef.den, upOf]) (T_of (by kernel_rfl) h)
theorem w69 {R : RT} (x0 : List D) (x1 : List D) (h : tB ((x0.length : Int) == 6) = true /\
 tB ((x1.length : Int) == 6) = true /\
 Rf.isK (.int .i64) (x0.getD 0 D0) = true /\
 Rf.isK (.int .i64) (x1.getD 0 D0) = true /\
 ((!(tB ((Rf.dint (x0.getD 0 D0)) == (Rf.dint (x1.getD 0 D0))))) || (Rf.isK (.int .u64) (x0.getD 1 D0))) = true /\
 ((!(tB ((Rf.dint (x0.getD 0 D0)) == (Rf.dint (x1.getD 0 D0))))) || (Rf.isK (.int .u64) (x1.getD 1 D0))) = true /\
 ((!(tB ((Rf.dint (x0.getD 0 D0)) == (Rf.dint (x1.getD 0 D0))))) || (Rf.isK (.int .u64) (x0.getD 2 D0))) = true /\
 ((!(tB ((Rf.dint (x0.getD 0 D0)) == (Rf.dint (x1.getD 0 D0))))) || (Rf.isK (.int .u64) (x1.getD 2 D0))) = true /\
 ((!(tB ((Rf.dint (x0.getD 0 D0)) == (Rf.dint (x1.getD 0 D0))))) || (Rf.isK (.int .u64) (x0.getD 3 D0))) = true /\
 ((!(tB ((Rf.dint (x0.getD 0 D0)) == (Rf.dint (x1.getD 0 D0))))) || (Rf.isK (.int .u64) (x1.getD 3 D0))) = true /\
 ((!(tB ((Rf.dint (x0.getD 0 D0)) == (Rf.dint (x1.getD 0 D0))))) || (Rf.isK (.int .u64) (x0.getD 4 D0))) = true /\
 ((!(tB ((Rf.dint (x0.getD 0 D0)) == (Rf.dint (x1.getD 0 D0))))) || (Rf.isK (.int .u64) (x1.getD 4 D0))) = true /\
 (((!(tB ((Rf.dint (x0.getD 0 D0)) == (Rf.dint (x1.getD 0 D0))))) || (!((tB ((Rf.dint (x0.getD 1 D0)) == (Rf.dint (x1.getD 1 D0)))) && ((tB ((Rf.dint (x0.getD 2 D0)) == (Rf.dint (x1.getD 2 D0)))) && ((tB ((Rf.dint (x0.getD 3 D0)) == (Rf.dint (x1.getD 3 D0)))) && (tB ((Rf.dint (x0.getD 4 D0)) == (Rf.dint (x1.getD 4 D0))))))))) || (Rf.isK .slc (x0.getD 5 D0))) = true /\
 (((!(tB ((Rf.dint (x0.getD 0 D0)) == (Rf.dint (x1.getD 0 D0))))) || (!((tB ((Rf.dint (x0.getD 1 D0)) == (Rf.dint (x1.getD 1 D0)))) && ((tB ((Rf.dint (x0.getD 2 D0)) == (Rf.dint (x1.getD 2 D0)))) && ((tB ((Rf.dint (x0.getD 3 D0)) == (Rf.dint (x1.getD 3 D0)))) && (tB ((Rf.dint (x0.getD 4 D0)) == (Rf.dint (x1.getD 4 D0))))))))) || (Rf.isK .slc (x1.getD 5 D0))) = true /\
 ((((!(tB ((Rf.dint (x0.getD 0 D0)) == (Rf.dint (x1.getD 0 D0))))) || (!((tB ((Rf.dint (x0.getD 1 D0)) == (Rf.dint (x1.getD 1 D0)))) && ((tB ((Rf.dint (x0.getD 2 D0)) == (Rf.dint (x1.getD 2 D0)))) && ((tB ((Rf.dint (x0.getD 3 D0)) == (Rf.dint (x1.getD 3 D0)))) && (tB ((Rf.dint (x0.getD 4 D0)) == (Rf.dint (x1.getD 4 D0))))))))) || (!(tB (((Rf.dlst (x0.getD 5 D0)).length : Int) == ((Rf.dlst (x1.getD 5 D0)).length : Int))))) = true ->
 R (.ret (A.d (D.lit (.bool false)))) []) /\
 ((((!(tB ((Rf.dint (x0.getD 0 D0)) == (Rf.dint (x1.getD 0 D0))))) || (!((tB ((Rf.dint (x0.getD 1 D0)) == (Rf.dint (x1.getD 1 D0)))) && ((tB ((Rf.dint (x0.getD 2 D0)) == (Rf.dint (x1.getD 2 D0)))) && ((tB ((Rf.dint (x0.getD 3 D0)) == (Rf.dint (x1.getD 3 D0)))) && (tB ((Rf.dint (x0.getD 4 D0)) == (Rf.dint (x1.getD 4 D0))))))))) || (!(tB (((Rf.dlst (x0.getD 5 D0)).length : Int) == ((Rf.dlst (x1.getD 5 D0)).length : Int))))) = false ->
 Rf.isK .slc (x0.getD 5 D0) = true /\
 ∃ (I0_0 : Int -> Prop) (M0_0 : Int -> Nat), I0_0 0 /\
 (∀ (x2 : Int) , I0_0 x2 ->
 (tB (decide (x2 < ((Rf.dlst (x0.getD 5 D0)).length : Int))) = true ->
 tB (decide (0 <= x2)) = true /\
 tB (((gAt (Rf.dlst (x0.getD 5 D0)) x2).length : Int) == 6) = true /\
 Rf.isK .slc (x1.getD 5 D0) = true /\
 tB (decide (x2 < ((Rf.dlst (x1.getD 5 D0)).length : Int))) = true /\
 tB (((gAt (Rf.dlst (x1.getD 5 D0)) x2).length : Int) == 6) = true /\
 ∀ _ : Nat -> Nat, ∃ R', Holds Try.prog 69 [A.agg (gAt (Rf.dlst (x0.getD 5 D0)) x2), A.agg (gAt (Rf.dlst (x1.getD 5 D0)) x2)] [] R' /\
 (∀ v H', R' (.ret v) H' -> ∃ x3 : Bool, v = A.d (D.lit (.bool x3)) /\ H' = [] /\
 ((!x3) = true ->
 R (.ret (A.d (D.lit (.bool false)))) []) /\
 ((!x3) = false ->
 tB (decide ((-9223372036854775808) <= (x2 + 1))) = true /\
 tB (decide ((x2 + 1) <= 9223372036854775807)) = true /\
 I0_0 (x2 + 1) /\ M0_0 (x2 + 1) < M0_0 x2)) /\
 PN R R') /\
 (tB (decide (x2 < ((Rf.dlst (x0.getD 5 D0)).length : Int))) = false ->
 R (.ret (A.d (D.lit (.bool true)))) [])) /\
 True)) :
 Holds Try.prog 69 [A.agg x0, A.agg x1] [] R :=
 walk (c := ⟨Try.prog, 46, true, [0, 1, 2, 3, 4, 5, 26, 29, 30, 31, 44]⟩) (op := {}) (fn := Try.f69) (args := [.agg (.var 0), .agg (.var 1)]) (K := []) (nv := 2) (depth := 6) (up := upOf []) (ρ := Zat [.r x0, .r x1])
  rfl rfl rfl rfl rfl (by decide) (by decide) (by decide) (by decide) rfl (by simp [Zad, RRef.den, upOf]) (T_of (by kernel_rfl) h)
theorem w50 {R : RT} (x0 : Int) (x1 : List (List D)) (h : (tB ((x1.length : Int) == 1) = true ->
 tB (decide (0 < (x1.length : Int))) = true /\
 tB (((gAt x1 0).length : Int) == 6) = true /\
 R (.ret (A.agg (gAt x1 0))) []) /\
 (tB ((x1.length : Int) == 1) = false ->
 R (.ret (A.agg [D.lit (.int .i64 x0), D.lit (.int .u64 0), D.lit (.int .u64 0), D.lit (.int .u64 0), D.lit (.int .u64 0), D.slc x1])) [])) :
 Holds Try.prog 50 [A.d (D.lit (.int .i64 x0)), A.d (D.slc x1)] [] R :=
 walk (c := ⟨Try.prog, 14, true, [0, 1, 4, 7]⟩) (op := {}) (fn := Try.f50) (args := [.c (.o1 (.ci .i64) (.var 0)), .c (.o1 .cl (.var 1))]) (K := []) (nv := 2) (depth := 4) (up := upOf []) (ρ := Zat [.i x0, .l x1])
  rfl rfl rfl rfl rfl (by decide) (by decide) (by decide) (by decide) rfl (by simp [Zad, RRef.den, upOf]) (T_of (by kernel_rfl) h)
theorem w24 {R : RT} (x0 : List D) (x1 : List UInt8) (h : tB ((x0.length : Int) == 6) = true /\
 ∀ _ : Nat -> Nat, ∃ R', Holds Try.prog 15 [A.agg x0] [] R' /\
 (∀ v H', R' (.ret v) H' -> ∃ x2 : Int, v = A.d (D.lit (.int .i64 x2)) /\ H' = [] /\
 ((!(tB (x2 == 0))) = true ->
 R (.ret (A.d (D.lit (.bool false)))) []) /\
 ((!(tB (x2 == 0))) = false ->
 ∃ (I0_0 : Int -> D -> D -> D -> D -> D -> D -> Prop) (M0_0 : Int -> D -> D -> D -> D -> D -> D -> Nat), I0_0 0 (x0.getD 0 D0) (x0.getD 1 D0) (x0.getD 2 D0) (x0.getD 3 D0) (x0.getD 4 D0) (x0.getD 5 D0) /\
 (∀ (x3 : Int) (x4 : D) (x5 : D) (x6 : D) (x7 : D) (x8 : D) (x9 : D) , I0_0 x3 x4 x5 x6 x7 x8 x9 ->
 (tB (decide (x3 < (x1.length : Int))) = true ->
 tB (decide (0 <= x3)) = true /\
 ∀ _ : Nat -> Nat, ∃ R', Holds Try.prog 41 [A.agg [x4, x5, x6, x7, x8, x9], A.d (D.lit (.int .u8 (Zak x1 x3)))] [] R' /\
 (∀ v H', R' (.ret v) H' -> ∃ x10 : List D, v = A.agg x10 /\ H' = [] /\
 tB ((x10.length : Int) == 6) = true /\
 tB (decide ((-9223372036854775808) <= (x3 + 1))) = true /\
 tB (decide ((x3 + 1) <= 9223372036854775807)) = true /\
 I0_0 (x3 + 1) (x10.getD 0 D0) (x10.getD 1 D0) (x10.getD 2 D0) (x10.getD 3 D0) (x10.getD 4 D0) (x10.getD 5 D0) /\ M0_0 (x3 + 1) (x10.getD 0 D0) (x10.getD 1 D0) (x10.getD 2 D0) (x10.getD 3 D0) (x10.getD 4 D0) (x10.getD 5 D0) < M0_0 x3 x4 x5 x6 x7 x8 x9) /\
 PN R R') /\
 (tB (decide (x3 < (x1.length : Int))) = false ->
 ∀ _ : Nat -> Nat, ∃ R', Holds Try.prog 42 [A.agg [x4, x5, x6, x7, x8, x9]] [] R' /\
 (∀ v H', R' (.ret v) H' -> ∃ x10 : Bool, v = A.d (D.lit (.bool x10)) /\ H' = [] /\
 R (.ret (A.d (D.lit (.bool x10)))) []) /\
 PN R R')) /\
 True)) /\
 PN R R') :
 Holds Try.prog 24 [A.agg x0, A.d (D.lit (Zaa x1))] [] R :=
 walk (c := ⟨Try.prog, 22, true, [0, 1, 2, 4, 5, 8, 10, 11, 12]⟩) (op := {}) (fn := Try.f24) (args := [.agg (.var 0), .c (.o1 .cs (.var 1))]) (K := []) (nv := 2) (depth := 5) (up := upOf []) (ρ := Zat [.r x0, .s x1])
  rfl rfl rfl rfl rfl (by decide) (by decide) (by decide) (by decide) rfl (by simp [Zad, RRef.den, upOf]) (T_of (by kernel_rfl) h)
end Go.Rx
end
section
open Go Go.Proofs Go.Ab Go.Rf
set_option maxRecDepth 1000000
set_option maxHeartbeats 2000000
set_option linter.unusedVariables false
namespace Go.Rx
theorem w19p {Rfin : Out -> Prop} (R : Out -> List (Ref × List A) -> Prop) (hR : R = preR Try.prog (Zdy 4 (Zdh Try.f19)) 36 36 [4, 2, 3] [0] [(2, 1), (3, 2)] [(1, 6), (2, 2)] Rfin) (x0 : List UInt8) (h : (tB (decide (1000 < (x0.length : Int))) = true ->
 R (.ret (A.tup [(true, [D.lit (.int .i64 0), D.lit (.int .u64 0), D.lit (.int .u64 0), D.lit (.int .u64 0), D.lit (.int .u64 0), (D.slc ([] : List (List D)))]), (true, [D.lit (.int .i64 2), D.lit (.int .i64 0)])])) []) /\
 (tB (decide (1000 < (x0.length : Int))) = false ->
 R (.ret (A.tup [(false, [D.lit (Zaa x0)])])) [((Ref.own 4 0), [A.ptr (Ref.up (Ref.own 3 3)) 0]), ((Ref.own 2 0), [A.d (D.lit (.int .i64 0)), A.d (D.lit (.int .u64 0)), A.d (D.lit (.int .u64 0)), A.d (D.lit (.int .u64 0)), A.d (D.lit (.int .u64 0)), (A.zs ([] : List (List D)))]), ((Ref.own 3 0), [A.d (D.lit (.int .i64 0)), A.d (D.lit (.int .i64 0))]), ((Ref.own 12 0), [A.d (D.lit (Zaa x0)), A.d (D.lit (.int .i64 0))])])) :
 Holds Try.prog 19 [A.d (D.lit (Zaa x0))] [] (fun o H => H = [] /\ Rfin o) := by
 subst hR
 exact Zsq (c := ⟨Try.prog, 36, true, [0, 2, 3, 4, 7, 22, 31]⟩) (op := {}) (f := 19) (F := 36) (fn := Try.f19) (Fn' := Try.f36) (Fcode := Zdh Try.f36) (l := Zn5 4 (Zdh Try.f19)) (id := 4) (o1 := opAt (Zg7 4 (Zdh Try.f19)) 0) (o2 := opAt (Zg7 4 (Zdh Try.f19)) 1) (post := Zdy 4 (Zdh Try.f19)) (tys := #[]) (dt := 13) (caps := [4, 2, 3]) (data := [0]) (extra := [.own 12]) (rl := [.cell 2 27, .cell 3 35]) (keep := [(2, 1), (3, 2)]) (kn := [(1, 6), (2, 2)]) (args := [.c (.o1 .cs (.var 0))]) (nv := 1) (depth := 6) (ρ := Zat [.s x0])
  rfl rfl (by kernel_rfl) rfl rfl (by decide) rfl rfl (by decide) (by kernel_rfl) (by kernel_rfl) (by kernel_rfl) (by kernel_rfl) (by kernel_rfl) (by kernel_rfl) (by decide) (by decide) (by decide) (by decide) (by decide) (by kernel_rfl) (by decide) (by decide) rfl (T_of (by kernel_rfl) h)
theorem w19q {R : RT} (x0 : List UInt8) (x1 : Int) (x2 : Int) (x3 : Int) (x4 : Int) (x5 : Int) (x6 : Int) (x7 : Int) (x8 : List UInt8) (x9 : Int) (q0 q1 q2 q3 : Ref) (hq01 : q0 ≠ q1) (hq02 : q0 ≠ q2) (hq12 : q1 ≠ q2) (hq03 : q0 ≠ q3) (hq13 : q1 ≠ q3) (hq23 : q2 ≠ q3) (h : ∀ _ : Nat -> Nat, ∃ R', Holds Try.prog 37 [A.ptr (.up (Ref.up q3)) 0] [(Ref.up (Ref.up q3), [A.d (D.lit (Zaa x8)), A.d (D.lit (.int .i64 x9))])] R' /\
 (∀ v H', R' (.ret v) H' -> ∃ x10 : List D, ∃ x11 : List UInt8, ∃ x12 : Int, v = A.agg x10 /\ H' = [(Ref.up (Ref.up q3), [A.d (D.lit (Zaa x11)), A.d (D.lit (.int .i64 x12))])] /\
 tB ((x10.length : Int) == 6) = true /\
 (tB (decide (x12 < (x0.length : Int))) = true ->
 ∀ _ : Nat -> Nat, ∃ R', Holds Try.prog 38 [A.ptr (.up (Ref.up q3)) 0, A.d (D.lit (.int .i64 x12))] [(Ref.up (Ref.up q3), [A.d (D.lit (Zaa x11)), A.d (D.lit (.int .i64 x12))])] R' /\
 (∀ v H', R' (.ret v) H' -> ∃ x13 : List UInt8, ∃ x14 : Int, v = A.tup [] /\ H' = [(Ref.up (Ref.up q3), [A.d (D.lit (Zaa x13)), A.d (D.lit (.int .i64 x14))])] /\
 ∀ _ : Nat -> Nat, ∃ R', Holds Try.prog 15 [A.agg x10] [] R' /\
 (∀ v H', R' (.ret v) H' -> ∃ x15 : Int, v = A.d (D.lit (.int .i64 x15)) /\ H' = [] /\
 (tB (x15 == 9) = true ->
 R (.ret (A.tup [])) [((Ref.up q0), [A.ptr (Ref.up q3) 0]), ((Ref.up q1), [A.d (D.lit (.int .i64 0)), A.d (D.lit (.int .u64 0)), A.d (D.lit (.int .u64 0)), A.d (D.lit (.int .u64 0)), A.d (D.lit (.int .u64 0)), (A.d (D.slc ([] : List (List D))))]), ((Ref.up q2), [A.d (D.lit (.int .i64 9)), A.d (D.lit (.int .i64 0))]), ((Ref.up q3), [A.d (D.lit (Zaa x13)), A.d (D.lit (.int .i64 x14))])]) /\
 (tB (x15 == 9) = false ->
 R (.ret (A.tup [])) [((Ref.up q0), [A.ptr (Ref.up q3) 0]), ((Ref.up q1), [A.d (x10.getD 0 D0), A.d (x10.getD 1 D0), A.d (x10.getD 2 D0), A.d (x10.getD 3 D0), A.d (x10.getD 4 D0), A.d (x10.getD 5 D0)]), ((Ref.up q2), [A.d (D.lit (.int .i64 0)), A.d (D.lit (.int .i64 0))]), ((Ref.up q3), [A.d (D.lit (Zaa x13)), A.d (D.lit (.int .i64 x14))])])) /\
 (∀ x15v H', R' (.pan x15v) H' -> H' = [] /\
 R (.pan x15v) [((Ref.up q0), [A.ptr (Ref.up q3) 0]), ((Ref.up q1), [A.d (x10.getD 0 D0), A.d (x10.getD 1 D0), A.d (x10.getD 2 D0), A.d (x10.getD 3 D0), A.d (x10.getD 4 D0), A.d (x10.getD 5 D0)]), ((Ref.up q2), [A.d (D.lit (.int .i64 x6)), A.d (D.lit (.int .i64 x7))]), ((Ref.up q3), [A.d (D.lit (Zaa x13)), A.d (D.lit (.int .i64 x14))])])) /\
 (∀ x13v H', R' (.pan x13v) H' -> ∃ x14 : List UInt8, ∃ x15 : Int, H' = [(Ref.up (Ref.up q3), [A.d (D.lit (Zaa x14)), A.d (D.lit (.int .i64 x15))])] /\
 R (.pan x13v) [((Ref.up q0), [A.ptr (Ref.up q3) 0]), ((Ref.up q1), [A.d (x10.getD 0 D0), A.d (x10.getD 1 D0), A.d (x10.getD 2 D0), A.d (x10.getD 3 D0), A.d (x10.getD 4 D0), A.d (x10.getD 5 D0)]), ((Ref.up q2), [A.d (D.lit (.int .i64 x6)), A.d (D.lit (.int .i64 x7))]), ((Ref.up q3), [A.d (D.lit (Zaa x14)), A.d (D.lit (.int .i64 x15))])])) /\
 (tB (decide (x12 < (x0.length : Int))) = false ->
 ∀ _ : Nat -> Nat, ∃ R', Holds Try.prog 15 [A.agg x10] [] R' /\
 (∀ v H', R' (.ret v) H' -> ∃ x13 : Int, v = A.d (D.lit (.int .i64 x13)) /\ H' = [] /\
 (tB (x13 == 9) = true ->
 R (.ret (A.tup [])) [((Ref.up q0), [A.ptr (Ref.up q3) 0]), ((Ref.up q1), [A.d (D.lit (.int .i64 0)), A.d (D.lit (.int .u64 0)), A.d (D.lit (.int .u64 0)), A.d (D.lit (.int .u64 0)), A.d (D.lit (.int .u64 0)), (A.d (D.slc ([] : List (List D))))]), ((Ref.up q2), [A.d (D.lit (.int .i64 9)), A.d (D.lit (.int .i64 0))]), ((Ref.up q3), [A.d (D.lit (Zaa x11)), A.d (D.lit (.int .i64 x12))])]) /\
 (tB (x13 == 9) = false ->
 R (.ret (A.tup [])) [((Ref.up q0), [A.ptr (Ref.up q3) 0]), ((Ref.up q1), [A.d (x10.getD 0 D0), A.d (x10.getD 1 D0), A.d (x10.getD 2 D0), A.d (x10.getD 3 D0), A.d (x10.getD 4 D0), A.d (x10.getD 5 D0)]), ((Ref.up q2), [A.d (D.lit (.int .i64 0)), A.d (D.lit (.int .i64 0))]), ((Ref.up q3), [A.d (D.lit (Zaa x11)), A.d (D.lit (.int .i64 x12))])])) /\
 (∀ x13v H', R' (.pan x13v) H' -> H' = [] /\
 R (.pan x13v) [((Ref.up q0), [A.ptr (Ref.up q3) 0]), ((Ref.up q1), [A.d (x10.getD 0 D0), A.d (x10.getD 1 D0), A.d (x10.getD 2 D0), A.d (x10.getD 3 D0), A.d (x10.getD 4 D0), A.d (x10.getD 5 D0)]), ((Ref.up q2), [A.d (D.lit (.int .i64 x6)), A.d (D.lit (.int .i64 x7))]), ((Ref.up q3), [A.d (D.lit (Zaa x11)), A.d (D.lit (.int .i64 x12))])]))) /\
 (∀ x10v H', R' (.pan x10v) H' -> ∃ x11 : List UInt8, ∃ x12 : Int, H' = [(Ref.up (Ref.up q3), [A.d (D.lit (Zaa x11)), A.d (D.lit (.int .i64 x12))])] /\
 R (.pan x10v) [((Ref.up q0), [A.ptr (Ref.up q3) 0]), ((Ref.up q1), [A.d (D.lit (.int .i64 x1)), A.d (D.lit (.int .u64 x2)), A.d (D.lit (.int .u64 x3)), A.d (D.lit (.int .u64 x4)), A.d (D.lit (.int .u64 x5)), (A.zs ([] : List (List D)))]), ((Ref.up q2), [A.d (D.lit (.int .i64 x6)), A.d (D.lit (.int .i64 x7))]), ((Ref.up q3), [A.d (D.lit (Zaa x11)), A.d (D.lit (.int .i64 x12))])])) :
 Zlc Try.prog (Zdy 4 (Zdh Try.f19)) 36 [(0, (A.d (D.lit (Zaa x0)))), (4, (A.ptr (Ref.up q0) 0)), (2, (A.ptr (Ref.up q1) 0)), (3, (A.ptr (Ref.up q2) 0))] [((Ref.up q0), [A.ptr (Ref.up q3) 0]), ((Ref.up q1), [A.d (D.lit (.int .i64 x1)), A.d (D.lit (.int .u64 x2)), A.d (D.lit (.int .u64 x3)), A.d (D.lit (.int .u64 x4)), A.d (D.lit (.int .u64 x5)), (A.zs ([] : List (List D)))]), ((Ref.up q2), [A.d (D.lit (.int .i64 x6)), A.d (D.lit (.int .i64 x7))]), ((Ref.up q3), [A.d (D.lit (Zaa x8)), A.d (D.lit (.int .i64 x9))])] [(2, Ref.up q1), (3, Ref.up q2)] R :=
 Z00 (c := ⟨Try.prog, 36, true, [0, 2, 3, 4, 7, 22, 31]⟩) (op := {}) (post := Zdy 4 (Zdh Try.f19)) (slots := [(0, .c (.o1 .cs (.var 0))), (4, .ptr (.up 0) 0), (2, .ptr (.up 1) 0), (3, .ptr (.up 2) 0)]) (K := [(.up 0, [.ptr (.up 3) 0]), (.up 1, [.c (.o1 (.ci .i64) (.var 1)), .c (.o1 (.ci .u64) (.var 2)), .c (.o1 (.ci .u64) (.var 3)), .c (.o1 (.ci .u64) (.var 4)), .c (.o1 (.ci .u64) (.var 5)), .zs .lnil]), (.up 2, [.c (.o1 (.ci .i64) (.var 6)), .c (.o1 (.ci .i64) (.var 7))]), (.up 3, [.c (.o1 .cs (.var 8)), .c (.o1 (.ci .i64) (.var 9))])]) (keep := [(2, 1), (3, 2)]) (nv := 10) (depth := 6) (up := upOf [q0, q1, q2, q3]) (ρ := Zat [.s x0, .i x1, .i x2, .i x3, .i x4, .i x5, .i x6, .i x7, .s x8, .i x9])
  rfl (by decide) (by decide) rfl (by simp [Zad, RRef.den, upOf, hq01, hq02, hq12, hq03, hq13, hq23]) (T_of (by kernel_rfl) h)
theorem w36n {R0 : List (Ref × List A) -> Prop} (R : Out -> List (Ref × List A) -> Prop) (hR : R = fun o H => match o with | .ret _ => R0 H | .pan _ => False) (x0 : D) (x1 : D) (x2 : D) (x3 : D) (x4 : D) (x5 : D) (x6 : D) (x7 : D) (x8 : List UInt8) (x9 : Int) (x10 : Int) (q0 q1 q2 q3 : Ref) (hq01 : q0 ≠ q1) (hq02 : q0 ≠ q2) (hq12 : q1 ≠ q2) (hq03 : q0 ≠ q3) (hq13 : q1 ≠ q3) (hq23 : q2 ≠ q3) (h : R (.ret (A.tup [])) [((Ref.up q0), [A.ptr (Ref.up q3) 0]), ((Ref.up q1), [A.d x0, A.d x1, A.d x2, A.d x3, A.d x4, A.d x5]), ((Ref.up q2), [A.d x6, A.d x7]), ((Ref.up q3), [A.d (D.lit (Zaa x8)), A.d (D.lit (.int .i64 x9))])]) :
 Zqf Try.prog 36 [A.ptr (Ref.up q0) 0, A.ptr (Ref.up q1) 0, A.ptr (Ref.up q2) 0] [((Ref.up q0), [A.ptr (Ref.up q3) 0]), ((Ref.up q1), [A.d x0, A.d x1, A.d x2, A.d x3, A.d x4, A.d x5]), ((Ref.up q2), [A.d x6, A.d x7]), ((Ref.up q3), [A.d (D.lit (Zaa x8)), A.d (D.lit (.int .i64 x9))])] (FrameMode.returning) (Zeb (FrameMode.returning)).2 R0 := by
 subst hR
 exact Z4m (c := ⟨Try.prog, 24, true, [0, 1, 2, 3, 4, 5, 8, 20]⟩) (op := {}) (f := 36) (fn := Try.f36) (id := 0) (o1 := opAt (Zg7 0 (Zdh Try.f36)) 0) (o2 := opAt (Zg7 0 (Zdh Try.f36)) 1) (rest := Zdy 0 (Zdh Try.f36)) (tys := #[]) (d6 := 6) (d3 := 3) (args := [.ptr (.up 0) 0, .ptr (.up 1) 0, .ptr (.up 2) 0]) (K := [(.up 0, [.ptr (.up 3) 0]), (.up 1, [.c (.var 0), .c (.var 1), .c (.var 2), .c (.var 3), .c (.var 4), .c (.var 5)]), (.up 2, [.c (.var 6), .c (.var 7)]), (.up 3, [.c (.o1 .cs (.var 8)), .c (.o1 (.ci .i64) (.var 9))])]) (nv := 11) (depth := 5) (up := upOf [q0, q1, q2, q3]) (ρ := Zat [.d x0, .d x1, .d x2, .d x3, .d x4, .d x5, .d x6, .d x7, .s x8, .i x9, .i x10]) (e := .val .nilIface)
  rfl rfl (by kernel_rfl) rfl rfl (by kernel_rfl) (by kernel_rfl) (by kernel_rfl) (by kernel_rfl) (by kernel_rfl) (by kernel_rfl) (by decide) (by decide) (by decide) (by decide) (by decide) rfl rfl rfl (by simp [Zad, RRef.den, upOf, hq01, hq02, hq12, hq03, hq13, hq23]) (T_of (by kernel_rfl) h)
theorem w36f {R0 : List (Ref × List A) -> Prop} (R : Out -> List (Ref × List A) -> Prop) (hR : R = fun o H => match o with | .ret _ => R0 H | .pan _ => False) (x0 : D) (x1 : D) (x2 : D) (x3 : D) (x4 : D) (x5 : D) (x6 : D) (x7 : D) (x8 : List UInt8) (x9 : Int) (x10 : Int) (q0 q1 q2 q3 : Ref) (hq01 : q0 ≠ q1) (hq02 : q0 ≠ q2) (hq12 : q1 ≠ q2) (hq03 : q0 ≠ q3) (hq13 : q1 ≠ q3) (hq23 : q2 ≠ q3) (h : R (.ret (A.tup [])) [((Ref.up q0), [A.ptr (Ref.up q3) 0]), ((Ref.up q1), [A.d (D.lit (.int .i64 0)), A.d (D.lit (.int .u64 0)), A.d (D.lit (.int .u64 0)), A.d (D.lit (.int .u64 0)), A.d (D.lit (.int .u64 0)), (A.d (D.slc ([] : List (List D))))]), ((Ref.up q2), [A.d (D.lit (.int .i64 8)), A.d (D.lit (.int .i64 x10))]), ((Ref.up q3), [A.d (D.lit (Zaa x8)), A.d (D.lit (.int .i64 x9))])]) :
 Zqf Try.prog 36 [A.ptr (Ref.up q0) 0, A.ptr (Ref.up q1) 0, A.ptr (Ref.up q2) 0] [((Ref.up q0), [A.ptr (Ref.up q3) 0]), ((Ref.up q1), [A.d x0, A.d x1, A.d x2, A.d x3, A.d x4, A.d x5]), ((Ref.up q2), [A.d x6, A.d x7]), ((Ref.up q3), [A.d (D.lit (Zaa x8)), A.d (D.lit (.int .i64 x9))])] (FrameMode.panicking [{ v := dval (D.lit (.iface 56 (.agg (([D.lit (.int .i64 x10)] : List D).map dval).toArray))), recovered := false }]) (Zeb (FrameMode.panicking [{ v := dval (D.lit (.iface 56 (.agg (([D.lit (.int .i64 x10)] : List D).map dval).toArray))), recovered := false }])).2 R0 := by
 subst hR
 exact Z4m (c := ⟨Try.prog, 24, true, [0, 1, 2, 3, 4, 5, 8, 20]⟩) (op := {}) (f := 36) (fn := Try.f36) (id := 0) (o1 := opAt (Zg7 0 (Zdh Try.f36)) 0) (o2 := opAt (Zg7 0 (Zdh Try.f36)) 1) (rest := Zdy 0 (Zdh Try.f36)) (tys := #[]) (d6 := 6) (d3 := 3) (args := [.ptr (.up 0) 0, .ptr (.up 1) 0, .ptr (.up 2) 0]) (K := [(.up 0, [.ptr (.up 3) 0]), (.up 1, [.c (.var 0), .c (.var 1), .c (.var 2), .c (.var 3), .c (.var 4), .c (.var 5)]), (.up 2, [.c (.var 6), .c (.var 7)]), (.up 3, [.c (.o1 .cs (.var 8)), .c (.o1 (.ci .i64) (.var 9))])]) (nv := 11) (depth := 5) (up := upOf [q0, q1, q2, q3]) (ρ := Zat [.d x0, .d x1, .d x2, .d x3, .d x4, .d x5, .d x6, .d x7, .s x8, .i x9, .i x10]) (e := E.o1 (.mkA 56) (.o2 .rcons (.o1 (.ci .i64) (.var 10)) .rnil))
  rfl rfl (by kernel_rfl) rfl rfl (by kernel_rfl) (by kernel_rfl) (by kernel_rfl) (by kernel_rfl) (by kernel_rfl) (by kernel_rfl) (by decide) (by decide) (by decide) (by decide) (by decide) rfl rfl rfl (by simp [Zad, RRef.den, upOf, hq01, hq02, hq12, hq03, hq13, hq23]) (T_of (by kernel_rfl) h)
theorem w36z {R0 : List (Ref × List A) -> Prop} (R : Out -> List (Ref × List A) -> Prop) (hR : R = fun o H => match o with | .ret _ => R0 H | .pan _ => False) (x0 : D) (x1 : D) (x2 : D) (x3 : D) (x4 : D) (x5 : D) (x6 : D) (x7 : D) (x8 : List UInt8) (x9 : Int) (x10 : Int) (q0 q1 q2 q3 : Ref) (hq01 : q0 ≠ q1) (hq02 : q0 ≠ q2) (hq12 : q1 ≠ q2) (hq03 : q0 ≠ q3) (hq13 : q1 ≠ q3) (hq23 : q2 ≠ q3) (h : R (.ret (A.tup [])) [((Ref.up q0), [A.ptr (Ref.up q3) 0]), ((Ref.up q1), [A.d (D.lit (.int .i64 0)), A.d (D.lit (.int .u64 0)), A.d (D.lit (.int .u64 0)), A.d (D.lit (.int .u64 0)), A.d (D.lit (.int .u64 0)), (A.d (D.slc ([] : List (List D))))]), ((Ref.up q2), [A.d (D.lit (.int .i64 8)), A.d (D.lit (.int .i64 x10))]), ((Ref.up q3), [A.d (D.lit (Zaa x8)), A.d (D.lit (.int .i64 x9))])]) :
 Zqf Try.prog 36 [A.ptr (Ref.up q0) 0, A.ptr (Ref.up q1) 0, A.ptr (Ref.up q2) 0] [((Ref.up q0), [A.ptr (Ref.up q3) 0]), ((Ref.up q1), [A.d x0, A.d x1, A.d x2, A.d x3, A.d x4, (A.zs ([] : List (List D)))]), ((Ref.up q2), [A.d x6, A.d x7]), ((Ref.up q3), [A.d (D.lit (Zaa x8)), A.d (D.lit (.int .i64 x9))])] (FrameMode.panicking [{ v := dval (D.lit (.iface 56 (.agg (([D.lit (.int .i64 x10)] : List D).map dval).toArray))), recovered := false }]) (Zeb (FrameMode.panicking [{ v := dval (D.lit (.iface 56 (.agg (([D.lit (.int .i64 x10)] : List D).map dval).toArray))), recovered := false }])).2 R0 := by
 subst hR
 exact Z4m (c := ⟨Try.prog, 24, true, [0, 1, 2, 3, 4, 5, 8, 20]⟩) (op := {}) (f := 36) (fn := Try.f36) (id := 0) (o1 := opAt (Zg7 0 (Zdh Try.f36)) 0) (o2 := opAt (Zg7 0 (Zdh Try.f36)) 1) (rest := Zdy 0 (Zdh Try.f36)) (tys := #[]) (d6 := 6) (d3 := 3) (args := [.ptr (.up 0) 0, .ptr (.up 1) 0, .ptr (.up 2) 0]) (K := [(.up 0, [.ptr (.up 3) 0]), (.up 1, [.c (.var 0), .c (.var 1), .c (.var 2), .c (.var 3), .c (.var 4), .zs .lnil]), (.up 2, [.c (.var 6), .c (.var 7)]), (.up 3, [.c (.o1 .cs (.var 8)), .c (.o1 (.ci .i64) (.var 9))])]) (nv := 11) (depth := 5) (up := upOf [q0, q1, q2, q3]) (ρ := Zat [.d x0, .d x1, .d x2, .d x3, .d x4, .d x5, .d x6, .d x7, .s x8, .i x9, .i x10]) (e := E.o1 (.mkA 56) (.o2 .rcons (.o1 (.ci .i64) (.var 10)) .rnil))
  rfl rfl (by kernel_rfl) rfl rfl (by kernel_rfl) (by kernel_rfl) (by kernel_rfl) (by kernel_rfl) (by kernel_rfl) (by kernel_rfl) (by decide) (by decide) (by decide) (by decide) (by decide) rfl rfl rfl (by simp [Zad, RRef.den, upOf, hq01, hq02, hq12, hq03, hq13, hq23]) (T_of (by kernel_rfl) h)
end Go.Rx
end
section
open Go Go.Proofs Go.Ab Go.Rf
set_option maxRecDepth 1000000
set_option maxHeartbeats 2000000
set_option linter.unusedVariables false
namespace Go.Rx
theorem w58 {R : RT} (x0 : List D) (x1 : List UInt8) (x2 : List (List D)) (h : tB ((x0.length : Int) == 4) = true /\
 tB (decide ((-9223372036854775808) <= ((x1.length : Int) + 1))) = true /\
 tB (decide (((x1.length : Int) + 1) <= 9223372036854775807)) = true /\
 tB (decide (0 <= ((x1.length : Int) + 1))) = true /\
 tB (decide (((x1.length : Int) + 1) <= ((x1.length : Int) + 1))) = true /\
 tB (decide ((1 * ((x1.length : Int) + 1)) <= 281474976710656)) = true /\
 ∃ (I0_0 : List (List D) -> Int -> Prop) (M0_0 : List (List D) -> Int -> Nat), I0_0 (gRpt ((x1.length : Int) + 1) [D.lit (.bool false)]) 0 /\
 (∀ (x3 : List (List D)) (x4 : Int) , I0_0 x3 x4 ->
 (tB (decide (x4 < (x1.length : Int))) = true ->
 tB (decide ((-9223372036854775808) <= (x4 + 1))) = true /\
 tB (decide ((x4 + 1) <= 9223372036854775807)) = true /\
 tB (decide (0 <= x4)) = true /\
 tB (decide (x4 < (x2.length : Int))) = true /\
 tB (((gAt x2 x4).length : Int) == 1) = true /\
 Rf.isK .bool ((gAt x2 x4).getD 0 D0) = true /\
 ((Rf.dbool ((gAt x2 x4).getD 0 D0)) = true ->
 ∃ x5 : Bool, (∀ _ : Nat -> Nat, Holds Try.prog 63 [A.agg x0, A.d (D.lit (.int .u8 (Zak x1 x4)))] [] (Zce [] (A.d (D.lit (.bool x5))))) /\
 tB (decide (0 <= (x4 + 1))) = true /\
 tB (decide ((x4 + 1) < (x3.length : Int))) = true /\
 I0_0 (gSet x3 (x4 + 1) (setL (gAt x3 (x4 + 1)) 0 [D.lit (.bool x5)])) (x4 + 1) /\ M0_0 (gSet x3 (x4 + 1) (setL (gAt x3 (x4 + 1)) 0 [D.lit (.bool x5)])) (x4 + 1) < M0_0 x3 x4) /\
 ((Rf.dbool ((gAt x2 x4).getD 0 D0)) = false ->
 tB (decide (0 <= (x4 + 1))) = true /\
 tB (decide ((x4 + 1) < (x3.length : Int))) = true /\
 I0_0 (gSet x3 (x4 + 1) (setL (gAt x3 (x4 + 1)) 0 [D.lit (.bool false)])) (x4 + 1) /\ M0_0 (gSet x3 (x4 + 1) (setL (gAt x3 (x4 + 1)) 0 [D.lit (.bool false)])) (x4 + 1) < M0_0 x3 x4)) /\
 (tB (decide (x4 < (x1.length : Int))) = false ->
 R (.ret (A.d (D.slc (([] : List (List D)) ++ x3)))) [])) /\
 True) :
 Holds Try.prog 58 [A.agg x0, A.d (D.lit (Zaa x1)), A.d (D.slc x2)] [] R :=
 walk (c := ⟨Try.prog, 35, true, [0, 1, 2, 3, 6, 7, 8, 16]⟩) (op := {}) (fn := Try.f58) (args := [.agg (.var 0), .c (.o1 .cs (.var 1)), .c (.o1 .cl (.var 2))]) (K := []) (nv := 3) (depth := 6) (up := upOf []) (ρ := Zat [.r x0, .s x1, .l x2])
  rfl rfl rfl rfl rfl (by decide) (by decide) (by decide) (by decide) rfl (by simp [Zad, RRef.den, upOf]) (T_of (by kernel_rfl) h)
theorem w59 {R : RT} (x0 : List (List D)) (x1 : List (List D)) (h : (Zga 1 x0) = true /\
 tB (decide (((0 + (x0.length : Int)) * 1) <= 140737488355328)) = true /\
 tB (decide ((0 + (x0.length : Int)) <= 1099511627776)) = true /\
 ∃ (I0_0 : List (List D) -> Bool -> Int -> Prop) (M0_0 : List (List D) -> Bool -> Int -> Nat), I0_0 x0 false 0 /\
 (∀ (x2 : List (List D)) (x3 : Bool) (x4 : Int) , I0_0 x2 x3 x4 ->
 (tB (decide (x4 < (x1.length : Int))) = true ->
 tB (decide (0 <= x4)) = true /\
 tB (((gAt x1 x4).length : Int) == 1) = true /\
 Rf.isK .bool ((gAt x1 x4).getD 0 D0) = true /\
 ((!(Rf.dbool ((gAt x1 x4).getD 0 D0))) || (tB (decide (x4 < (x2.length : Int))))) = true /\
 ((!(Rf.dbool ((gAt x1 x4).getD 0 D0))) || (Rf.isK .bool ((gAt x2 x4).getD 0 D0))) = true /\
 (((Rf.dbool ((gAt x1 x4).getD 0 D0)) && (!(Rf.dbool ((gAt x2 x4).getD 0 D0)))) = true ->
 tB (decide (x4 < (x2.length : Int))) = true /\
 tB (decide ((-9223372036854775808) <= (x4 + 1))) = true /\
 tB (decide ((x4 + 1) <= 9223372036854775807)) = true /\
 I0_0 (gSet x2 x4 (setL (gAt x2 x4) 0 [D.lit (.bool true)])) true (x4 + 1) /\ M0_0 (gSet x2 x4 (setL (gAt x2 x4) 0 [D.lit (.bool true)])) true (x4 + 1) < M0_0 x2 x3 x4) /\
 (((Rf.dbool ((gAt x1 x4).getD 0 D0)) && (!(Rf.dbool ((gAt x2 x4).getD 0 D0)))) = false ->
 tB (decide ((-9223372036854775808) <= (x4 + 1))) = true /\
 tB (decide ((x4 + 1) <= 9223372036854775807)) = true /\
 I0_0 x2 x3 (x4 + 1) /\ M0_0 x2 x3 (x4 + 1) < M0_0 x2 x3 x4)) /\
 (tB (decide (x4 < (x1.length : Int))) = false ->
 R (.ret (A.tup [(false, [(D.slc (([] : List (List D)) ++ x2))]), (false, [D.lit (.bool x3)])])) [])) /\
 True) :
 Holds Try.prog 59 [A.d (D.slc x0), A.d (D.slc x1)] [] R :=
 walk (c := ⟨Try.prog, 34, true, [0, 1, 4, 5, 6, 7, 8, 15, 28]⟩) (op := {}) (fn := Try.f59) (args := [.c (.o1 .cl (.var 0)), .c (.o1 .cl (.var 1))]) (K := []) (nv := 2) (depth := 6) (up := upOf []) (ρ := Zat [.l x0, .l x1])
  rfl rfl rfl rfl rfl (by decide) (by decide) (by decide) (by decide) rfl (by simp [Zad, RRef.den, upOf]) (T_of (by kernel_rfl) h)
theorem w44 {R : RT} (x0 : List D) (x1 : List UInt8) (x2 : List (List D)) (h : tB ((x0.length : Int) == 6) = true /\
 Rf.isK (.int .i64) (x0.getD 0 D0) = true /\
 (tB ((Rf.dint (x0.getD 0 D0)) == 1) = true ->
 R (.ret (A.d (D.slc x2))) []) /\
 (tB ((Rf.dint (x0.getD 0 D0)) == 1) = false ->
 (tB ((Rf.dint (x0.getD 0 D0)) == 2) = true ->
 ∀ _ : Nat -> Nat, ∃ R', Holds Try.prog 58 [A.agg [x0.getD 1 D0, x0.getD 2 D0, x0.getD 3 D0, x0.getD 4 D0], A.d (D.lit (Zaa x1)), A.d (D.slc x2)] [] R' /\
 (∀ v H', R' (.ret v) H' -> ∃ x3 : List (List D), v = A.d (D.slc x3) /\ H' = [] /\
 R (.ret (A.d (D.slc x3))) []) /\
 PN R R') /\
 (tB ((Rf.dint (x0.getD 0 D0)) == 2) = false ->
 (tB ((Rf.dint (x0.getD 0 D0)) == 3) = true ->
 ∃ (I0_0 : List (List D) -> Int -> Prop) (M0_0 : List (List D) -> Int -> Nat), I0_0 x2 0 /\
 (∀ (x3 : List (List D)) (x4 : Int) , I0_0 x3 x4 ->
 Rf.isK .slc (x0.getD 5 D0) = true /\
 (tB (decide (x4 < ((Rf.dlst (x0.getD 5 D0)).length : Int))) = true ->
 tB (decide (0 <= x4)) = true /\
 tB (((gAt (Rf.dlst (x0.getD 5 D0)) x4).length : Int) == 6) = true /\
 ∀ _ : Nat -> Nat, ∃ R', Holds Try.prog 44 [A.agg (gAt (Rf.dlst (x0.getD 5 D0)) x4), A.d (D.lit (Zaa x1)), A.d (D.slc x3)] [] R' /\
 (∀ v H', R' (.ret v) H' -> ∃ x5 : List (List D), v = A.d (D.slc x5) /\ H' = [] /\
 tB (decide ((-9223372036854775808) <= (x4 + 1))) = true /\
 tB (decide ((x4 + 1) <= 9223372036854775807)) = true /\
 I0_0 x5 (x4 + 1) /\ M0_0 x5 (x4 + 1) < M0_0 x3 x4) /\
 PN R R') /\
 (tB (decide (x4 < ((Rf.dlst (x0.getD 5 D0)).length : Int))) = false ->
 R (.ret (A.d (D.slc x3))) [])) /\
 True) /\
 (tB ((Rf.dint (x0.getD 0 D0)) == 3) = false ->
 (tB ((Rf.dint (x0.getD 0 D0)) == 4) = true ->
 tB (decide ((-9223372036854775808) <= ((x1.length : Int) + 1))) = true /\
 tB (decide (((x1.length : Int) + 1) <= 9223372036854775807)) = true /\
 tB (decide (0 <= ((x1.length : Int) + 1))) = true /\
 tB (decide (((x1.length : Int) + 1) <= ((x1.length : Int) + 1))) = true /\
 tB (decide ((1 * ((x1.length : Int) + 1)) <= 281474976710656)) = true /\
 ∃ (I0_0 : Prop) (M0_0 : Nat), ∃ (I0_1 : List (List D) -> Int -> Prop) (M0_1 : List (List D) -> Int -> Nat), I0_0 /\
 (I0_0 ->
 Rf.isK .slc (x0.getD 5 D0) = true /\
 (tB (decide (0 < ((Rf.dlst (x0.getD 5 D0)).length : Int))) = true ->
 tB (((gAt (Rf.dlst (x0.getD 5 D0)) 0).length : Int) == 6) = true /\
 ∀ _ : Nat -> Nat, ∃ R', Holds Try.prog 44 [A.agg (gAt (Rf.dlst (x0.getD 5 D0)) 0), A.d (D.lit (Zaa x1)), A.d (D.slc x2)] [] R' /\
 (∀ v H', R' (.ret v) H' -> ∃ x3 : List (List D), v = A.d (D.slc x3) /\ H' = [] /\
 ∀ _ : Nat -> Nat, ∃ R', Holds Try.prog 59 [(A.d (D.slc (([] : List (List D)) ++ (gRpt ((x1.length : Int) + 1) [D.lit (.bool false)])))), A.d (D.slc x3)] [] R' /\
 (∀ v H', R' (.ret v) H' -> ∃ x4 : List (List D), ∃ x5 : Bool, v = A.tup [(false, [D.slc x4]), (false, [D.lit (.bool x5)])] /\ H' = [] /\
 I0_1 x4 1 /\ M0_1 x4 1 < M0_0) /\
 PN R R') /\
 PN R R') /\
 (tB (decide (0 < ((Rf.dlst (x0.getD 5 D0)).length : Int))) = false ->
 R (.ret (A.d (D.slc (([] : List (List D)) ++ (gRpt ((x1.length : Int) + 1) [D.lit (.bool false)]))))) [])) /\
 (∀ (x3 : List (List D)) (x4 : Int) , I0_1 x3 x4 ->
 Rf.isK .slc (x0.getD 5 D0) = true /\
 (tB (decide (x4 < ((Rf.dlst (x0.getD 5 D0)).length : Int))) = true ->
 tB (decide (0 <= x4)) = true /\
 tB (((gAt (Rf.dlst (x0.getD 5 D0)) x4).length : Int) == 6) = true /\
 ∀ _ : Nat -> Nat, ∃ R', Holds Try.prog 44 [A.agg (gAt (Rf.dlst (x0.getD 5 D0)) x4), A.d (D.lit (Zaa x1)), A.d (D.slc x2)] [] R' /\
 (∀ v H', R' (.ret v) H' -> ∃ x5 : List (List D), v = A.d (D.slc x5) /\ H' = [] /\
 ∀ _ : Nat -> Nat, ∃ R', Holds Try.prog 59 [A.d (D.slc x3), A.d (D.slc x5)] [] R' /\
 (∀ v H', R' (.ret v) H' -> ∃ x6 : List (List D), ∃ x7 : Bool, v = A.tup [(false, [D.slc x6]), (false, [D.lit (.bool x7)])] /\ H' = [] /\
 tB (decide ((-9223372036854775808) <= (x4 + 1))) = true /\
 tB (decide ((x4 + 1) <= 9223372036854775807)) = true /\
 I0_1 x6 (x4 + 1) /\ M0_1 x6 (x4 + 1) < M0_1 x3 x4) /\
 PN R R') /\
 PN R R') /\
 (tB (decide (x4 < ((Rf.dlst (x0.getD 5 D0)).length : Int))) = false ->
 R (.ret (A.d (D.slc x3))) [])) /\
 True) /\
 (tB ((Rf.dint (x0.getD 0 D0)) == 4) = false ->
 (tB ((Rf.dint (x0.getD 0 D0)) == 5) = true ->
 Rf.isK .slc (x0.getD 5 D0) = true /\
 tB (decide (0 < ((Rf.dlst (x0.getD 5 D0)).length : Int))) = true /\
 tB (((gAt (Rf.dlst (x0.getD 5 D0)) 0).length : Int) == 6) = true /\
 ∃ (I0_0 : D -> D -> D -> D -> D -> D -> Prop) (M0_0 : D -> D -> D -> D -> D -> D -> Nat), I0_0 ((gAt (Rf.dlst (x0.getD 5 D0)) 0).getD 0 D0) ((gAt (Rf.dlst (x0.getD 5 D0)) 0).getD 1 D0) ((gAt (Rf.dlst (x0.getD 5 D0)) 0).getD 2 D0) ((gAt (Rf.dlst (x0.getD 5 D0)) 0).getD 3 D0) ((gAt (Rf.dlst (x0.getD 5 D0)) 0).getD 4 D0) ((gAt (Rf.dlst (x0.getD 5 D0)) 0).getD 5 D0) /\
 (∀ (x3 : D) (x4 : D) (x5 : D) (x6 : D) (x7 : D) (x8 : D) , I0_0 x3 x4 x5 x6 x7 x8 ->
 Rf.isK (.int .i64) x3 = true /\
 ((!(tB ((Rf.dint x3) == 5))) || (Rf.isK .slc x8)) = true /\
 (((tB ((Rf.dint x3) == 5)) && (tB (((Rf.dlst x8).length : Int) == 1))) = true ->
 Rf.isK .slc x8 = true /\
 tB (decide (0 < ((Rf.dlst x8).length : Int))) = true /\
 tB (((gAt (Rf.dlst x8) 0).length : Int) == 6) = true /\
 I0_0 ((gAt (Rf.dlst x8) 0).getD 0 D0) ((gAt (Rf.dlst x8) 0).getD 1 D0) ((gAt (Rf.dlst x8) 0).getD 2 D0) ((gAt (Rf.dlst x8) 0).getD 3 D0) ((gAt (Rf.dlst x8) 0).getD 4 D0) ((gAt (Rf.dlst x8) 0).getD 5 D0) /\ M0_0 ((gAt (Rf.dlst x8) 0).getD 0 D0) ((gAt (Rf.dlst x8) 0).getD 1 D0) ((gAt (Rf.dlst x8) 0).getD 2 D0) ((gAt (Rf.dlst x8) 0).getD 3 D0) ((gAt (Rf.dlst x8) 0).getD 4 D0) ((gAt (Rf.dlst x8) 0).getD 5 D0) < M0_0 x3 x4 x5 x6 x7 x8) /\
 (((tB ((Rf.dint x3) == 5)) && (tB (((Rf.dlst x8).length : Int) == 1))) = false ->
 ∃ (I1_0 : List (List D) -> Bool -> Prop) (M1_0 : List (List D) -> Bool -> Nat), I1_0 x2 true /\
 (∀ (x9 : List (List D)) (x10 : Bool) , I1_0 x9 x10 ->
 (x10 = true ->
 ∀ _ : Nat -> Nat, ∃ R', Holds Try.prog 44 [A.agg [x3, x4, x5, x6, x7, x8], A.d (D.lit (Zaa x1)), A.d (D.slc x9)] [] R' /\
 (∀ v H', R' (.ret v) H' -> ∃ x11 : List (List D), v = A.d (D.slc x11) /\ H' = [] /\
 ∀ _ : Nat -> Nat, ∃ R', Holds Try.prog 59 [A.d (D.slc x9), A.d (D.slc x11)] [] R' /\
 (∀ v H', R' (.ret v) H' -> ∃ x12 : List (List D), ∃ x13 : Bool, v = A.tup [(false, [D.slc x12]), (false, [D.lit (.bool x13)])] /\ H' = [] /\
 I1_0 x12 x13 /\ M1_0 x12 x13 < M1_0 x9 x10) /\
 PN R R') /\
 PN R R') /\
 (x10 = false ->
 R (.ret (A.d (D.slc x9))) [])) /\
 True)) /\
 True) /\
 (tB ((Rf.dint (x0.getD 0 D0)) == 5) = false ->
 tB (decide ((-9223372036854775808) <= ((x1.length : Int) + 1))) = true /\
 tB (decide (((x1.length : Int) + 1) <= 9223372036854775807)) = true /\
 tB (decide (0 <= ((x1.length : Int) + 1))) = true /\
 tB (decide (((x1.length : Int) + 1) <= ((x1.length : Int) + 1))) = true /\
 tB (decide ((1 * ((x1.length : Int) + 1)) <= 281474976710656)) = true /\
 R (.ret (A.own 1 (([] : List (List D)) ++ (gRpt ((x1.length : Int) + 1) [D.lit (.bool false)])) ([] : List (List D)))) [])))))) :
 Holds Try.prog 44 [A.agg x0, A.d (D.lit (Zaa x1)), A.d (D.slc x2)] [] R :=
 walk (c := ⟨Try.prog, 105, true, [0, 1, 2, 3, 6, 7, 8, 9, 10, 11, 12, 14, 15, 18, 25, 31, 43, 53, 70, 84, 90]⟩) (op := {}) (fn := Try.f44) (args := [.agg (.var 0), .c (.o1 .cs (.var 1)), .c (.o1 .cl (.var 2))]) (K := []) (nv := 3) (depth := 7) (up := upOf []) (ρ := Zat [.r x0, .s x1, .l x2])
  rfl rfl rfl rfl rfl (by decide) (by decide) (by decide) (by decide) rfl (by simp [Zad, RRef.den, upOf]) (T_of (by kernel_rfl) h)
theorem w30 {R : RT} (x0 : List D) (x1 : List UInt8) (h : tB ((x0.length : Int) == 6) = true /\
 tB (decide ((-9223372036854775808) <= ((x1.length : Int) + 1))) = true /\
 tB (decide (((x1.length : Int) + 1) <= 9223372036854775807)) = true /\
 tB (decide (0 <= ((x1.length : Int) + 1))) = true /\
 tB (decide (((x1.length : Int) + 1) <= ((x1.length : Int) + 1))) = true /\
 tB (decide ((1 * ((x1.length : Int) + 1)) <= 281474976710656)) = true /\
 tB (decide (0 < ((gRpt ((x1.length : Int) + 1) [D.lit (.bool false)]).length : Int))) = true /\
 ∀ _ : Nat -> Nat, ∃ R', Holds Try.prog 44 [A.agg x0, A.d (D.lit (Zaa x1)), (A.d (D.slc (([] : List (List D)) ++ (gSet (gRpt ((x1.length : Int) + 1) [D.lit (.bool false)]) 0 (setL (gAt (gRpt ((x1.length : Int) + 1) [D.lit (.bool false)]) 0) 0 [D.lit (.bool true)])))))] [] R' /\
 (∀ v H', R' (.ret v) H' -> ∃ x2 : List (List D), v = A.d (D.slc x2) /\ H' = [] /\
 tB (decide (0 <= (x1.length : Int))) = true /\
 tB (decide ((x1.length : Int) < (x2.length : Int))) = true /\
 tB (((gAt x2 (x1.length : Int)).length : Int) == 1) = true /\
 Rf.isK .bool ((gAt x2 (x1.length : Int)).getD 0 D0) = true /\
 R (.ret (A.d (D.lit (.bool (Rf.dbool ((gAt x2 (x1.length : Int)).getD 0 D0)))))) []) /\
 PN R R') :
 Holds Try.prog 30 [A.agg x0, A.d (D.lit (Zaa x1))] [] R :=
 walk (c := ⟨Try.prog, 20, true, [0, 1, 2, 4, 5]⟩) (op := {}) (fn := Try.f30) (args := [.agg (.var 0), .c (.o1 .cs (.var 1))]) (K := []) (nv := 2) (depth := 5) (up := upOf []) (ρ := Zat [.r x0, .s x1])
  rfl rfl rfl rfl rfl (by decide) (by decide) (by decide) (by decide) rfl (by simp [Zad, RRef.den, upOf]) (T_of (by kernel_rfl) h)
end Go.Rx
end
section
open Go Go.Proofs Go.Ab Go.Rf
set_option maxRecDepth 1000000
set_option maxHeartbeats 2000000
set_option linter.unusedVariables false
namespace Go.Rx
theorem w12 {R : RT} (x0 : List D) (x1 : List UInt8) (h : tB ((x0.length : Int) == 6) = true /\
 ∀ _ : Nat -> Nat, ∃ R', Holds Try.prog 13 [A.agg x0, A.d (D.lit (.int .i64 60))] [] R' /\
 (∀ v H', R' (.ret v) H' -> ∃ x2 : Int, v = A.d (D.lit (.int .i64 x2)) /\ H' = [] /\
 (((tB (decide (60 < x2))) || (tB (decide (10 < (x1.length : Int))))) = true ->
 ∀ _ : Nat -> Nat, ∃ R', Holds Try.prog 14 [] [] R' /\
 (∀ v H', R' (.ret v) H' -> ∃ x3 : Bool, v = A.d (D.lit (.bool x3)) /\ H' = [] /\
 R (.ret (A.d (D.lit (.bool x3)))) []) /\
 PN R R') /\
 (((tB (decide (60 < x2))) || (tB (decide (10 < (x1.length : Int))))) = false ->
 ∀ _ : Nat -> Nat, ∃ R', Holds Try.prog 31 [A.agg x0] [] R' /\
 (∀ v H', R' (.ret v) H' -> ∃ x3 : List UInt8, ∃ x4 : Int, v = A.tup [(false, [D.lit (Zaa x3)]), (false, [D.lit (.int .i64 x4)])] /\ H' = [] /\
 ∀ _ : Nat -> Nat, ∃ R', Holds Try.prog 16 [A.agg x0] [] R' /\
 (∀ v H', R' (.ret v) H' -> ∃ x5 : Int, v = A.d (D.lit (.int .i64 x5)) /\ H' = [] /\
 ((!(tB (x5 == 0))) = true ->
 (tB (x4 == x5) = true ->
 (tB (x3 == ([] : List UInt8)) = true ->
 ∀ _ : Nat -> Nat, ∃ R', Holds Try.prog 14 [] [] R' /\
 (∀ v H', R' (.ret v) H' -> ∃ x6 : Bool, v = A.d (D.lit (.bool x6)) /\ H' = [] /\
 R (.ret (A.d (D.lit (.bool x6)))) []) /\
 PN R R') /\
 (tB (x3 == ([] : List UInt8)) = false ->
 R (.ret (A.d (D.lit (.bool false)))) [])) /\
 (tB (x4 == x5) = false ->
 R (.ret (A.d (D.lit (.bool false)))) [])) /\
 ((!(tB (x5 == 0))) = false ->
 ((!(tB (x4 == 0))) = true ->
 (tB (x4 == 2) = true ->
 (tB (x3 == ([] : List UInt8)) = true ->
 ∀ _ : Nat -> Nat, ∃ R', Holds Try.prog 13 [A.agg x0, A.d (D.lit (.int .i64 24))] [] R' /\
 (∀ v H', R' (.ret v) H' -> ∃ x6 : Int, v = A.d (D.lit (.int .i64 x6)) /\ H' = [] /\
 ((!(tB (decide (24 < x6)))) = true ->
 ∀ _ : Nat -> Nat, ∃ R', Holds Try.prog 32 [A.agg x0] [] R' /\
 (∀ v H', R' (.ret v) H' -> ∃ x7 : Int, v = A.d (D.lit (.int .i64 x7)) /\ H' = [] /\
 (tB (decide (40 < x7)) = true ->
 ∀ _ : Nat -> Nat, ∃ R', Holds Try.prog 14 [] [] R' /\
 (∀ v H', R' (.ret v) H' -> ∃ x8 : Bool, v = A.d (D.lit (.bool x8)) /\ H' = [] /\
 R (.ret (A.d (D.lit (.bool x8)))) []) /\
 PN R R') /\
 (tB (decide (40 < x7)) = false ->
 R (.ret (A.d (D.lit (.bool false)))) [])) /\
 PN R R') /\
 ((!(tB (decide (24 < x6)))) = false ->
 ∀ _ : Nat -> Nat, ∃ R', Holds Try.prog 14 [] [] R' /\
 (∀ v H', R' (.ret v) H' -> ∃ x7 : Bool, v = A.d (D.lit (.bool x7)) /\ H' = [] /\
 R (.ret (A.d (D.lit (.bool x7)))) []) /\
 PN R R')) /\
 PN R R') /\
 (tB (x3 == ([] : List UInt8)) = false ->
 R (.ret (A.d (D.lit (.bool false)))) [])) /\
 (tB (x4 == 2) = false ->
 R (.ret (A.d (D.lit (.bool false)))) [])) /\
 ((!(tB (x4 == 0))) = false ->
 ∀ _ : Nat -> Nat, ∃ R', Holds Try.prog 20 [A.d (D.lit (Zaa x3))] [] R' /\
 (∀ v H', R' (.ret v) H' -> ∃ x6 : List D, ∃ x7 : List D, v = A.tup [(true, x6), (true, x7)] /\ H' = [] /\
 tB ((x6.length : Int) == 6) = true /\
 tB ((x7.length : Int) == 2) = true /\
 Rf.isK (.int .i64) (x7.getD 0 D0) = true /\
 Rf.isK (.int .i64) (x7.getD 1 D0) = true /\
 (((tB ((Rf.dint (x7.getD 0 D0)) == 0)) && (tB ((Rf.dint (x7.getD 1 D0)) == 0))) = true ->
 ∃ x8 : Bool, (∀ _ : Nat -> Nat, Holds Try.prog 30 [A.agg x6, A.d (D.lit (Zaa x1))] [] (Zce [] (A.d (D.lit (.bool x8))))) /\
 ∀ _ : Nat -> Nat, ∃ R', Holds Try.prog 30 [A.agg x0, A.d (D.lit (Zaa x1))] [] R' /\
 (∀ v H', R' (.ret v) H' -> ∃ x9 : Bool, v = A.d (D.lit (.bool x9)) /\ H' = [] /\
 ((x8 == x9) = true ->
 ∀ _ : Nat -> Nat, ∃ R', Holds Try.prog 14 [] [] R' /\
 (∀ v H', R' (.ret v) H' -> ∃ x10 : Bool, v = A.d (D.lit (.bool x10)) /\ H' = [] /\
 R (.ret (A.d (D.lit (.bool x10)))) []) /\
 PN R R') /\
 ((x8 == x9) = false ->
 R (.ret (A.d (D.lit (.bool false)))) [])) /\
 PN R R') /\
 (((tB ((Rf.dint (x7.getD 0 D0)) == 0)) && (tB ((Rf.dint (x7.getD 1 D0)) == 0))) = false ->
 R (.ret (A.d (D.lit (.bool false)))) [])) /\
 PN R R'))) /\
 PN R R') /\
 PN R R')) /\
 PN R R') :
 Holds Try.prog 12 [A.agg x0, A.d (D.lit (Zaa x1))] [] R :=
 walk (c := ⟨Try.prog, 79, true, [0, 1, 2, 4, 5, 6, 7, 8, 9, 17, 27, 39]⟩) (op := {}) (fn := Try.f12) (args := [.agg (.var 0), .c (.o1 .cs (.var 1))]) (K := []) (nv := 2) (depth := 7) (up := upOf []) (ρ := Zat [.r x0, .s x1])
  rfl rfl rfl rfl rfl (by decide) (by decide) (by decide) (by decide) rfl (by simp [Zad, RRef.den, upOf]) (T_of (by kernel_rfl) h)
theorem w31 {R : RT} (x0 : List D) (h : tB ((x0.length : Int) == 6) = true /\
 ∀ _ : Nat -> Nat, ∃ R', Holds Try.prog 15 [A.agg x0] [] R' /\
 (∀ v H', R' (.ret v) H' -> ∃ x1 : Int, v = A.d (D.lit (.int .i64 x1)) /\ H' = [] /\
 ((!(tB (x1 == 0))) = true ->
 R (.ret (A.tup [(false, [(D.lit (Zaa ([] : List UInt8)))]), (false, [D.lit (.int .i64 x1)])])) []) /\
 ((!(tB (x1 == 0))) = false ->
 ∀ _ : Nat -> Nat, ∃ R', Holds Try.prog 45 [A.agg x0, A.d (D.lit (.int .i64 0))] [] R' /\
 (∀ v H', R' (.ret v) H' -> ∃ x2 : List UInt8, v = A.d (D.lit (Zaa x2)) /\ H' = [] /\
 (tB (decide (1000 < (x2.length : Int))) = true ->
 R (.ret (A.tup [(false, [(D.lit (Zaa ([] : List UInt8)))]), (false, [D.lit (.int .i64 2)])])) []) /\
 (tB (decide (1000 < (x2.length : Int))) = false ->
 R (.ret (A.tup [(false, [D.lit (Zaa x2)]), (false, [D.lit (.int .i64 0)])])) [])) /\
 PN R R')) /\
 PN R R') :
 Holds Try.prog 31 [A.agg x0] [] R :=
 walk (c := ⟨Try.prog, 17, true, [0, 1, 2, 3, 4, 5, 9, 15]⟩) (op := {}) (fn := Try.f31) (args := [.agg (.var 0)]) (K := []) (nv := 1) (depth := 5) (up := upOf []) (ρ := Zat [.r x0])
  rfl rfl rfl rfl rfl (by decide) (by decide) (by decide) (by decide) rfl (by simp [Zad, RRef.den, upOf]) (T_of (by kernel_rfl) h)
theorem w32 {R : RT} (x0 : List D) (h : tB ((x0.length : Int) == 6) = true /\
 ∀ _ : Nat -> Nat, ∃ R', Holds Try.prog 46 [A.agg [x0.getD 1 D0, x0.getD 2 D0, x0.getD 3 D0, x0.getD 4 D0]] [] R' /\
 (∀ v H', R' (.ret v) H' -> ∃ x1 : Int, v = A.d (D.lit (.int .i64 x1)) /\ H' = [] /\
 ∃ (I0_0 : Int -> Int -> Prop) (M0_0 : Int -> Int -> Nat), I0_0 x1 0 /\
 (∀ (x2 : Int) (x3 : Int) , I0_0 x2 x3 ->
 Rf.isK .slc (x0.getD 5 D0) = true /\
 (tB (decide (x3 < ((Rf.dlst (x0.getD 5 D0)).length : Int))) = true ->
 tB (decide (0 <= x3)) = true /\
 tB (((gAt (Rf.dlst (x0.getD 5 D0)) x3).length : Int) == 6) = true /\
 ∀ _ : Nat -> Nat, ∃ R', Holds Try.prog 32 [A.agg (gAt (Rf.dlst (x0.getD 5 D0)) x3)] [] R' /\
 (∀ v H', R' (.ret v) H' -> ∃ x4 : Int, v = A.d (D.lit (.int .i64 x4)) /\ H' = [] /\
 tB (decide ((-9223372036854775808) <= (x2 + x4))) = true /\
 tB (decide ((x2 + x4) <= 9223372036854775807)) = true /\
 tB (decide ((-9223372036854775808) <= (x3 + 1))) = true /\
 tB (decide ((x3 + 1) <= 9223372036854775807)) = true /\
 I0_0 (x2 + x4) (x3 + 1) /\ M0_0 (x2 + x4) (x3 + 1) < M0_0 x2 x3) /\
 PN R R') /\
 (tB (decide (x3 < ((Rf.dlst (x0.getD 5 D0)).length : Int))) = false ->
 R (.ret (A.d (D.lit (.int .i64 x2)))) [])) /\
 True) /\
 PN R R') :
 Holds Try.prog 32 [A.agg x0] [] R :=
 walk (c := ⟨Try.prog, 24, true, [0, 1, 2, 3, 4, 12]⟩) (op := {}) (fn := Try.f32) (args := [.agg (.var 0)]) (K := []) (nv := 1) (depth := 5) (up := upOf []) (ρ := Zat [.r x0])
  rfl rfl rfl rfl rfl (by decide) (by decide) (by decide) (by decide) rfl (by simp [Zad, RRef.den, upOf]) (T_of (by kernel_rfl) h)
theorem w45 {R : RT} (x0 : List D) (x1 : Int) (h : tB ((x0.length : Int) == 6) = true /\
 Rf.isK (.int .i64) (x0.getD 0 D0) = true /\
 (tB ((Rf.dint (x0.getD 0 D0)) == 0) = true ->
 R (.ret (A.d (D.lit (Zaa ([91, 93] : List UInt8))))) []) /\
 (tB ((Rf.dint (x0.getD 0 D0)) == 0) = false ->
 (tB ((Rf.dint (x0.getD 0 D0)) == 1) = true ->
 R (.ret (A.d (D.lit (Zaa ([40, 41] : List UInt8))))) []) /\
 (tB ((Rf.dint (x0.getD 0 D0)) == 1) = false ->
 (tB ((Rf.dint (x0.getD 0 D0)) == 5) = true ->
 Rf.isK .slc (x0.getD 5 D0) = true /\
 tB (decide (0 < ((Rf.dlst (x0.getD 5 D0)).length : Int))) = true /\
 tB (((gAt (Rf.dlst (x0.getD 5 D0)) 0).length : Int) == 6) = true /\
 ∀ _ : Nat -> Nat, ∃ R', Holds Try.prog 45 [A.agg (gAt (Rf.dlst (x0.getD 5 D0)) 0), A.d (D.lit (.int .i64 2))] [] R' /\
 (∀ v H', R' (.ret v) H' -> ∃ x2 : List UInt8, v = A.d (D.lit (Zaa x2)) /\ H' = [] /\
 tB (decide (((x2.length : Int) + 1) <= 9223372036854775807)) = true /\
 R (.ret (A.d (D.lit (Zaa (x2 ++ ([42] : List UInt8)))))) []) /\
 PN R R') /\
 (tB ((Rf.dint (x0.getD 0 D0)) == 5) = false ->
 (tB ((Rf.dint (x0.getD 0 D0)) == 2) = true ->
 ∀ _ : Nat -> Nat, ∃ R', Holds Try.prog 60 [A.agg [x0.getD 1 D0, x0.getD 2 D0, x0.getD 3 D0, x0.getD 4 D0]] [] R' /\
 (∀ v H', R' (.ret v) H' -> ∃ x2 : List (List D), v = A.d (D.slc x2) /\ H' = [] /\
 ∃ (I0_0 : List UInt8 -> Int -> Prop) (M0_0 : List UInt8 -> Int -> Nat), I0_0 ([] : List UInt8) 0 /\
 (∀ (x3 : List UInt8) (x4 : Int) , I0_0 x3 x4 ->
 (tB (decide (x4 < (x2.length : Int))) = true ->
 tB (decide (0 <= x4)) = true /\
 tB (((gAt x2 x4).length : Int) == 2) = true /\
 Rf.isK (.int .u8) ((gAt x2 x4).getD 0 D0) = true /\
 ∀ _ : Nat -> Nat, ∃ R', Holds Try.prog 61 [A.d (D.lit (.int .u8 (Rf.dint ((gAt x2 x4).getD 0 D0))))] [] R' /\
 (∀ v H', R' (.ret v) H' -> ∃ x5 : List UInt8, v = A.d (D.lit (Zaa x5)) /\ H' = [] /\
 tB (decide (((x3.length : Int) + (x5.length : Int)) <= 9223372036854775807)) = true /\
 Rf.isK (.int .u8) ((gAt x2 x4).getD 1 D0) = true /\
 (tB (decide ((Rf.dint ((gAt x2 x4).getD 0 D0)) < (Rf.dint ((gAt x2 x4).getD 1 D0)))) = true ->
 ∀ _ : Nat -> Nat, ∃ R', Holds Try.prog 61 [A.d (D.lit (.int .u8 (Rf.dint ((gAt x2 x4).getD 1 D0))))] [] R' /\
 (∀ v H', R' (.ret v) H' -> ∃ x6 : List UInt8, v = A.d (D.lit (Zaa x6)) /\ H' = [] /\
 tB (decide ((1 + (x6.length : Int)) <= 9223372036854775807)) = true /\
 tB (decide ((((x3 ++ x5).length : Int) + ((([45] : List UInt8) ++ x6).length : Int)) <= 9223372036854775807)) = true /\
 tB (decide ((-9223372036854775808) <= (x4 + 1))) = true /\
 tB (decide ((x4 + 1) <= 9223372036854775807)) = true /\
 I0_0 ((x3 ++ x5) ++ (([45] : List UInt8) ++ x6)) (x4 + 1) /\ M0_0 ((x3 ++ x5) ++ (([45] : List UInt8) ++ x6)) (x4 + 1) < M0_0 x3 x4) /\
 PN R R') /\
 (tB (decide ((Rf.dint ((gAt x2 x4).getD 0 D0)) < (Rf.dint ((gAt x2 x4).getD 1 D0)))) = false ->
 tB (decide ((-9223372036854775808) <= (x4 + 1))) = true /\
 tB (decide ((x4 + 1) <= 9223372036854775807)) = true /\
 I0_0 (x3 ++ x5) (x4 + 1) /\ M0_0 (x3 ++ x5) (x4 + 1) < M0_0 x3 x4)) /\
 PN R R') /\
 (tB (decide (x4 < (x2.length : Int))) = false ->
 tB (decide ((1 + (x3.length : Int)) <= 9223372036854775807)) = true /\
 tB (decide ((((([91] : List UInt8) ++ x3).length : Int) + 1) <= 9223372036854775807)) = true /\
 R (.ret (A.d (D.lit (Zaa ((([91] : List UInt8) ++ x3) ++ ([93] : List UInt8)))))) [])) /\
 True) /\
 PN R R') /\
 (tB ((Rf.dint (x0.getD 0 D0)) == 2) = false ->
 (tB ((Rf.dint (x0.getD 0 D0)) == 4) = true ->
 Rf.isK .slc (x0.getD 5 D0) = true /\
 ∃ (I0_0 : Prop) (M0_0 : Nat), ∃ (I0_1 : List (List D) -> Int -> D -> D -> D -> D -> D -> D -> Prop) (M0_1 : List (List D) -> Int -> D -> D -> D -> D -> D -> D -> Nat), I0_0 /\
 (I0_0 ->
 (tB (decide (0 < ((Rf.dlst (x0.getD 5 D0)).length : Int))) = true ->
 tB (((gAt (Rf.dlst (x0.getD 5 D0)) 0).length : Int) == 6) = true /\
 ∀ _ : Nat -> Nat, ∃ R', Holds Try.prog 45 [A.agg (gAt (Rf.dlst (x0.getD 5 D0)) 0), A.d (D.lit (.int .i64 1))] [] R' /\
 (∀ v H', R' (.ret v) H' -> ∃ x2 : List UInt8, v = A.d (D.lit (Zaa x2)) /\ H' = [] /\
 tB (decide (((0 + ([[D.lit (Zaa x2)]].length : Int)) * 16) <= 140737488355328)) = true /\
 tB (decide ((0 + ([[D.lit (Zaa x2)]].length : Int)) <= 1099511627776)) = true /\
 I0_1 [[D.lit (Zaa x2)]] 1 ((gAt (Rf.dlst (x0.getD 5 D0)) 0).getD 0 D0) ((gAt (Rf.dlst (x0.getD 5 D0)) 0).getD 1 D0) ((gAt (Rf.dlst (x0.getD 5 D0)) 0).getD 2 D0) ((gAt (Rf.dlst (x0.getD 5 D0)) 0).getD 3 D0) ((gAt (Rf.dlst (x0.getD 5 D0)) 0).getD 4 D0) ((gAt (Rf.dlst (x0.getD 5 D0)) 0).getD 5 D0) /\ M0_1 [[D.lit (Zaa x2)]] 1 ((gAt (Rf.dlst (x0.getD 5 D0)) 0).getD 0 D0) ((gAt (Rf.dlst (x0.getD 5 D0)) 0).getD 1 D0) ((gAt (Rf.dlst (x0.getD 5 D0)) 0).getD 2 D0) ((gAt (Rf.dlst (x0.getD 5 D0)) 0).getD 3 D0) ((gAt (Rf.dlst (x0.getD 5 D0)) 0).getD 4 D0) ((gAt (Rf.dlst (x0.getD 5 D0)) 0).getD 5 D0) < M0_0) /\
 PN R R') /\
 (tB (decide (0 < ((Rf.dlst (x0.getD 5 D0)).length : Int))) = false ->
 ∀ _ : Nat -> Nat, ∃ R', Holds Try.prog 62 [(A.zs ([] : List (List D))), (A.d (D.lit (Zaa ([124] : List UInt8))))] [] R' /\
 (∀ v H', R' (.ret v) H' -> ∃ x2 : List UInt8, v = A.d (D.lit (Zaa x2)) /\ H' = [] /\
 (tB (decide (0 < x1)) = true ->
 tB (decide ((1 + (x2.length : Int)) <= 9223372036854775807)) = true /\
 tB (decide ((((([40] : List UInt8) ++ x2).length : Int) + 1) <= 9223372036854775807)) = true /\
 R (.ret (A.d (D.lit (Zaa ((([40] : List UInt8) ++ x2) ++ ([41] : List UInt8)))))) []) /\
 (tB (decide (0 < x1)) = false ->
 R (.ret (A.d (D.lit (Zaa x2)))) [])) /\
 PN R R')) /\
 (∀ (x2 : List (List D)) (x3 : Int) (x4 : D) (x5 : D) (x6 : D) (x7 : D) (x8 : D) (x9 : D) , I0_1 x2 x3 x4 x5 x6 x7 x8 x9 ->
 (tB (decide (x3 < ((Rf.dlst (x0.getD 5 D0)).length : Int))) = true ->
 tB (decide (0 <= x3)) = true /\
 tB (((gAt (Rf.dlst (x0.getD 5 D0)) x3).length : Int) == 6) = true /\
 ∀ _ : Nat -> Nat, ∃ R', Holds Try.prog 45 [A.agg (gAt (Rf.dlst (x0.getD 5 D0)) x3), A.d (D.lit (.int .i64 1))] [] R' /\
 (∀ v H', R' (.ret v) H' -> ∃ x10 : List UInt8, v = A.d (D.lit (Zaa x10)) /\ H' = [] /\
 tB (decide ((((x2.length : Int) + ([[D.lit (Zaa x10)]].length : Int)) * 16) <= 140737488355328)) = true /\
 tB (decide (((x2.length : Int) + ([[D.lit (Zaa x10)]].length : Int)) <= 1099511627776)) = true /\
 tB (decide ((-9223372036854775808) <= (x3 + 1))) = true /\
 tB (decide ((x3 + 1) <= 9223372036854775807)) = true /\
 I0_1 (x2 ++ [[D.lit (Zaa x10)]]) (x3 + 1) ((gAt (Rf.dlst (x0.getD 5 D0)) x3).getD 0 D0) ((gAt (Rf.dlst (x0.getD 5 D0)) x3).getD 1 D0) ((gAt (Rf.dlst (x0.getD 5 D0)) x3).getD 2 D0) ((gAt (Rf.dlst (x0.getD 5 D0)) x3).getD 3 D0) ((gAt (Rf.dlst (x0.getD 5 D0)) x3).getD 4 D0) ((gAt (Rf.dlst (x0.getD 5 D0)) x3).getD 5 D0) /\ M0_1 (x2 ++ [[D.lit (Zaa x10)]]) (x3 + 1) ((gAt (Rf.dlst (x0.getD 5 D0)) x3).getD 0 D0) ((gAt (Rf.dlst (x0.getD 5 D0)) x3).getD 1 D0) ((gAt (Rf.dlst (x0.getD 5 D0)) x3).getD 2 D0) ((gAt (Rf.dlst (x0.getD 5 D0)) x3).getD 3 D0) ((gAt (Rf.dlst (x0.getD 5 D0)) x3).getD 4 D0) ((gAt (Rf.dlst (x0.getD 5 D0)) x3).getD 5 D0) < M0_1 x2 x3 x4 x5 x6 x7 x8 x9) /\
 PN R R') /\
 (tB (decide (x3 < ((Rf.dlst (x0.getD 5 D0)).length : Int))) = false ->
 ∀ _ : Nat -> Nat, ∃ R', Holds Try.prog 62 [A.d (D.slc x2), (A.d (D.lit (Zaa ([124] : List UInt8))))] [] R' /\
 (∀ v H', R' (.ret v) H' -> ∃ x10 : List UInt8, v = A.d (D.lit (Zaa x10)) /\ H' = [] /\
 (tB (decide (0 < x1)) = true ->
 tB (decide ((1 + (x10.length : Int)) <= 9223372036854775807)) = true /\
 tB (decide ((((([40] : List UInt8) ++ x10).length : Int) + 1) <= 9223372036854775807)) = true /\
 R (.ret (A.d (D.lit (Zaa ((([40] : List UInt8) ++ x10) ++ ([41] : List UInt8)))))) []) /\
 (tB (decide (0 < x1)) = false ->
 R (.ret (A.d (D.lit (Zaa x10)))) [])) /\
 PN R R')) /\
 True) /\
 (tB ((Rf.dint (x0.getD 0 D0)) == 4) = false ->
 Rf.isK .slc (x0.getD 5 D0) = true /\
 ∃ (I0_0 : Prop) (M0_0 : Nat), ∃ (I0_1 : List (List D) -> Int -> D -> D -> D -> D -> D -> D -> Prop) (M0_1 : List (List D) -> Int -> D -> D -> D -> D -> D -> D -> Nat), I0_0 /\
 (I0_0 ->
 (tB (decide (0 < ((Rf.dlst (x0.getD 5 D0)).length : Int))) = true ->
 tB (((gAt (Rf.dlst (x0.getD 5 D0)) 0).length : Int) == 6) = true /\
 ∀ _ : Nat -> Nat, ∃ R', Holds Try.prog 45 [A.agg (gAt (Rf.dlst (x0.getD 5 D0)) 0), A.d (D.lit (.int .i64 2))] [] R' /\
 (∀ v H', R' (.ret v) H' -> ∃ x2 : List UInt8, v = A.d (D.lit (Zaa x2)) /\ H' = [] /\
 tB (decide (((0 + ([[D.lit (Zaa x2)]].length : Int)) * 16) <= 140737488355328)) = true /\
 tB (decide ((0 + ([[D.lit (Zaa x2)]].length : Int)) <= 1099511627776)) = true /\
 I0_1 [[D.lit (Zaa x2)]] 1 ((gAt (Rf.dlst (x0.getD 5 D0)) 0).getD 0 D0) ((gAt (Rf.dlst (x0.getD 5 D0)) 0).getD 1 D0) ((gAt (Rf.dlst (x0.getD 5 D0)) 0).getD 2 D0) ((gAt (Rf.dlst (x0.getD 5 D0)) 0).getD 3 D0) ((gAt (Rf.dlst (x0.getD 5 D0)) 0).getD 4 D0) ((gAt (Rf.dlst (x0.getD 5 D0)) 0).getD 5 D0) /\ M0_1 [[D.lit (Zaa x2)]] 1 ((gAt (Rf.dlst (x0.getD 5 D0)) 0).getD 0 D0) ((gAt (Rf.dlst (x0.getD 5 D0)) 0).getD 1 D0) ((gAt (Rf.dlst (x0.getD 5 D0)) 0).getD 2 D0) ((gAt (Rf.dlst (x0.getD 5 D0)) 0).getD 3 D0) ((gAt (Rf.dlst (x0.getD 5 D0)) 0).getD 4 D0) ((gAt (Rf.dlst (x0.getD 5 D0)) 0).getD 5 D0) < M0_0) /\
 PN R R') /\
 (tB (decide (0 < ((Rf.dlst (x0.getD 5 D0)).length : Int))) = false ->
 ∀ _ : Nat -> Nat, ∃ R', Holds Try.prog 62 [(A.zs ([] : List (List D))), (A.d (D.lit (Zaa ([] : List UInt8))))] [] R' /\
 (∀ v H', R' (.ret v) H' -> ∃ x2 : List UInt8, v = A.d (D.lit (Zaa x2)) /\ H' = [] /\
 (tB (decide (1 < x1)) = true ->
 tB (decide ((1 + (x2.length : Int)) <= 9223372036854775807)) = true /\
 tB (decide ((((([40] : List UInt8) ++ x2).length : Int) + 1) <= 9223372036854775807)) = true /\
 R (.ret (A.d (D.lit (Zaa ((([40] : List UInt8) ++ x2) ++ ([41] : List UInt8)))))) []) /\
 (tB (decide (1 < x1)) = false ->
 R (.ret (A.d (D.lit (Zaa x2)))) [])) /\
 PN R R')) /\
 (∀ (x2 : List (List D)) (x3 : Int) (x4 : D) (x5 : D) (x6 : D) (x7 : D) (x8 : D) (x9 : D) , I0_1 x2 x3 x4 x5 x6 x7 x8 x9 ->
 (tB (decide (x3 < ((Rf.dlst (x0.getD 5 D0)).length : Int))) = true ->
 tB (decide (0 <= x3)) = true /\
 tB (((gAt (Rf.dlst (x0.getD 5 D0)) x3).length : Int) == 6) = true /\
 ∀ _ : Nat -> Nat, ∃ R', Holds Try.prog 45 [A.agg (gAt (Rf.dlst (x0.getD 5 D0)) x3), A.d (D.lit (.int .i64 2))] [] R' /\
 (∀ v H', R' (.ret v) H' -> ∃ x10 : List UInt8, v = A.d (D.lit (Zaa x10)) /\ H' = [] /\
 tB (decide ((((x2.length : Int) + ([[D.lit (Zaa x10)]].length : Int)) * 16) <= 140737488355328)) = true /\
 tB (decide (((x2.length : Int) + ([[D.lit (Zaa x10)]].length : Int)) <= 1099511627776)) = true /\
 tB (decide ((-9223372036854775808) <= (x3 + 1))) = true /\
 tB (decide ((x3 + 1) <= 9223372036854775807)) = true /\
 I0_1 (x2 ++ [[D.lit (Zaa x10)]]) (x3 + 1) ((gAt (Rf.dlst (x0.getD 5 D0)) x3).getD 0 D0) ((gAt (Rf.dlst (x0.getD 5 D0)) x3).getD 1 D0) ((gAt (Rf.dlst (x0.getD 5 D0)) x3).getD 2 D0) ((gAt (Rf.dlst (x0.getD 5 D0)) x3).getD 3 D0) ((gAt (Rf.dlst (x0.getD 5 D0)) x3).getD 4 D0) ((gAt (Rf.dlst (x0.getD 5 D0)) x3).getD 5 D0) /\ M0_1 (x2 ++ [[D.lit (Zaa x10)]]) (x3 + 1) ((gAt (Rf.dlst (x0.getD 5 D0)) x3).getD 0 D0) ((gAt (Rf.dlst (x0.getD 5 D0)) x3).getD 1 D0) ((gAt (Rf.dlst (x0.getD 5 D0)) x3).getD 2 D0) ((gAt (Rf.dlst (x0.getD 5 D0)) x3).getD 3 D0) ((gAt (Rf.dlst (x0.getD 5 D0)) x3).getD 4 D0) ((gAt (Rf.dlst (x0.getD 5 D0)) x3).getD 5 D0) < M0_1 x2 x3 x4 x5 x6 x7 x8 x9) /\
 PN R R') /\
 (tB (decide (x3 < ((Rf.dlst (x0.getD 5 D0)).length : Int))) = false ->
 ∀ _ : Nat -> Nat, ∃ R', Holds Try.prog 62 [A.d (D.slc x2), (A.d (D.lit (Zaa ([] : List UInt8))))] [] R' /\
 (∀ v H', R' (.ret v) H' -> ∃ x10 : List UInt8, v = A.d (D.lit (Zaa x10)) /\ H' = [] /\
 (tB (decide (1 < x1)) = true ->
 tB (decide ((1 + (x10.length : Int)) <= 9223372036854775807)) = true /\
 tB (decide ((((([40] : List UInt8) ++ x10).length : Int) + 1) <= 9223372036854775807)) = true /\
 R (.ret (A.d (D.lit (Zaa ((([40] : List UInt8) ++ x10) ++ ([41] : List UInt8)))))) []) /\
 (tB (decide (1 < x1)) = false ->
 R (.ret (A.d (D.lit (Zaa x10)))) [])) /\
 PN R R')) /\
 True)))))) :
 Holds Try.prog 45 [A.agg x0, A.d (D.lit (.int .i64 x1))] [] R :=
 walk (c := ⟨Try.prog, 86, true, [0, 1, 2, 4, 5, 7, 8, 9, 10, 12, 13, 15, 16, 18, 20, 28, 32, 33, 34, 35, 47, 60, 62, 63, 64, 65, 81]⟩) (op := {}) (fn := Try.f45) (args := [.agg (.var 0), .c (.o1 (.ci .i64) (.var 1))]) (K := []) (nv := 2) (depth := 7) (up := upOf []) (ρ := Zat [.r x0, .i x1])
  rfl rfl rfl rfl rfl (by decide) (by decide) (by decide) (by decide) rfl (by simp [Zad, RRef.den, upOf]) (T_of (by kernel_rfl) h)
theorem w46 {R : RT} (x0 : List D) (h : tB ((x0.length : Int) == 4) = true /\
 ∃ (I0_0 : Int -> Int -> Prop) (M0_0 : Int -> Int -> Nat), I0_0 0 0 /\
 (∀ (x1 : Int) (x2 : Int) , I0_0 x1 x2 ->
 (tB (decide (x2 < 256)) = true ->
 ∀ _ : Nat -> Nat, ∃ R', Holds Try.prog 63 [A.agg x0, A.d (D.lit (.int .u8 (IntKind.wrap .u8 x2)))] [] R' /\
 (∀ v H', R' (.ret v) H' -> ∃ x3 : Bool, v = A.d (D.lit (.bool x3)) /\ H' = [] /\
 ((!(x3 && (!(tB (x2 == 0))))) || (tB (decide ((-9223372036854775808) <= (x2 - 1))))) = true /\
 ((!(x3 && (!(tB (x2 == 0))))) || (tB (decide ((x2 - 1) <= 9223372036854775807)))) = true /\
 (x3 = true ->
 ((!(tB (x2 == 0))) = true ->
 ∀ _ : Nat -> Nat, ∃ R', Holds Try.prog 63 [A.agg x0, A.d (D.lit (.int .u8 (IntKind.wrap .u8 (x2 - 1))))] [] R' /\
 (∀ v H', R' (.ret v) H' -> ∃ x4 : Bool, v = A.d (D.lit (.bool x4)) /\ H' = [] /\
 ((!x4) = true ->
 tB (decide ((-9223372036854775808) <= (x1 + 1))) = true /\
 tB (decide ((x1 + 1) <= 9223372036854775807)) = true /\
 tB (decide ((-9223372036854775808) <= (x2 + 1))) = true /\
 tB (decide ((x2 + 1) <= 9223372036854775807)) = true /\
 I0_0 (x1 + 1) (x2 + 1) /\ M0_0 (x1 + 1) (x2 + 1) < M0_0 x1 x2) /\
 ((!x4) = false ->
 tB (decide ((-9223372036854775808) <= (x2 + 1))) = true /\
 tB (decide ((x2 + 1) <= 9223372036854775807)) = true /\
 I0_0 x1 (x2 + 1) /\ M0_0 x1 (x2 + 1) < M0_0 x1 x2)) /\
 PN R R') /\
 ((!(tB (x2 == 0))) = false ->
 tB (decide ((-9223372036854775808) <= (x1 + 1))) = true /\
 tB (decide ((x1 + 1) <= 9223372036854775807)) = true /\
 tB (decide ((-9223372036854775808) <= (x2 + 1))) = true /\
 tB (decide ((x2 + 1) <= 9223372036854775807)) = true /\
 I0_0 (x1 + 1) (x2 + 1) /\ M0_0 (x1 + 1) (x2 + 1) < M0_0 x1 x2)) /\
 (x3 = false ->
 tB (decide ((-9223372036854775808) <= (x2 + 1))) = true /\
 tB (decide ((x2 + 1) <= 9223372036854775807)) = true /\
 I0_0 x1 (x2 + 1) /\ M0_0 x1 (x2 + 1) < M0_0 x1 x2)) /\
 PN R R') /\
 (tB (decide (x2 < 256)) = false ->
 R (.ret (A.d (D.lit (.int .i64 x1)))) [])) /\
 True) :
 Holds Try.prog 46 [A.agg x0] [] R :=
 walk (c := ⟨Try.prog, 28, true, [0, 1, 2, 3, 4, 6, 24]⟩) (op := {}) (fn := Try.f46) (args := [.agg (.var 0)]) (K := []) (nv := 1) (depth := 5) (up := upOf []) (ρ := Zat [.r x0])
  rfl rfl rfl rfl rfl (by decide) (by decide) (by decide) (by decide) rfl (by simp [Zad, RRef.den, upOf]) (T_of (by kernel_rfl) h)
theorem w60 {R : RT} (x0 : List D) (h : tB ((x0.length : Int) == 4) = true /\
 ∃ (I0_0 : Int -> Prop) (M0_0 : Int -> Nat), ∃ (I0_1 : List (List D) -> Int -> Int -> Bool -> Bool -> Prop) (M0_1 : List (List D) -> Int -> Int -> Bool -> Bool -> Nat), I0_0 0 /\
 (∀ (x1 : Int) , I0_0 x1 ->
 (tB (decide (x1 < 256)) = true ->
 ∀ _ : Nat -> Nat, ∃ R', Holds Try.prog 55 [A.agg x0, A.d (D.lit (.int .u8 (IntKind.wrap .u8 x1)))] [] R' /\
 (∀ v H', R' (.ret v) H' -> ∃ x2 : Bool, v = A.d (D.lit (.bool x2)) /\ H' = [] /\
 ((!x2) = true ->
 tB (decide ((-9223372036854775808) <= (x1 + 1))) = true /\
 tB (decide ((x1 + 1) <= 9223372036854775807)) = true /\
 I0_0 (x1 + 1) /\ M0_0 (x1 + 1) < M0_0 x1) /\
 ((!x2) = false ->
 ((!(tB (decide (0 < x1)))) || (tB (decide ((-9223372036854775808) <= (x1 - 1))))) = true /\
 ((!(tB (decide (0 < x1)))) || (tB (decide ((x1 - 1) <= 9223372036854775807)))) = true /\
 (tB (decide (0 < x1)) = true ->
 ∀ _ : Nat -> Nat, ∃ R', Holds Try.prog 55 [A.agg x0, A.d (D.lit (.int .u8 (IntKind.wrap .u8 (x1 - 1))))] [] R' /\
 (∀ v H', R' (.ret v) H' -> ∃ x3 : Bool, v = A.d (D.lit (.bool x3)) /\ H' = [] /\
 (x3 = true ->
 false = true /\
 tB (((gAt ([] : List (List D)) (-1)).length : Int) == 2) = true /\
 tB (decide (1 <= ((gAt ([] : List (List D)) (-1)).length : Int))) = true /\
 False ) /\
 (x3 = false ->
 tB (decide (((0 + ([[D.lit (.int .u8 (IntKind.wrap .u8 x1)), D.lit (.int .u8 (IntKind.wrap .u8 x1))]].length : Int)) * 2) <= 140737488355328)) = true /\
 tB (decide ((0 + ([[D.lit (.int .u8 (IntKind.wrap .u8 x1)), D.lit (.int .u8 (IntKind.wrap .u8 x1))]].length : Int)) <= 1099511627776)) = true /\
 tB (decide ((-9223372036854775808) <= (x1 + 1))) = true /\
 tB (decide ((x1 + 1) <= 9223372036854775807)) = true /\
 I0_1 [[D.lit (.int .u8 (IntKind.wrap .u8 x1)), D.lit (.int .u8 (IntKind.wrap .u8 x1))]] x1 (x1 + 1) false false /\ M0_1 [[D.lit (.int .u8 (IntKind.wrap .u8 x1)), D.lit (.int .u8 (IntKind.wrap .u8 x1))]] x1 (x1 + 1) false false < M0_0 x1)) /\
 PN R R') /\
 (tB (decide (0 < x1)) = false ->
 tB (decide (((0 + ([[D.lit (.int .u8 (IntKind.wrap .u8 x1)), D.lit (.int .u8 (IntKind.wrap .u8 x1))]].length : Int)) * 2) <= 140737488355328)) = true /\
 tB (decide ((0 + ([[D.lit (.int .u8 (IntKind.wrap .u8 x1)), D.lit (.int .u8 (IntKind.wrap .u8 x1))]].length : Int)) <= 1099511627776)) = true /\
 tB (decide ((-9223372036854775808) <= (x1 + 1))) = true /\
 tB (decide ((x1 + 1) <= 9223372036854775807)) = true /\
 I0_1 [[D.lit (.int .u8 (IntKind.wrap .u8 x1)), D.lit (.int .u8 (IntKind.wrap .u8 x1))]] x1 (x1 + 1) false false /\ M0_1 [[D.lit (.int .u8 (IntKind.wrap .u8 x1)), D.lit (.int .u8 (IntKind.wrap .u8 x1))]] x1 (x1 + 1) false false < M0_0 x1))) /\
 PN R R') /\
 (tB (decide (x1 < 256)) = false ->
 R (.ret (A.zs ([] : List (List D)))) [])) /\
 (∀ (x1 : List (List D)) (x2 : Int) (x3 : Int) (x4 : Bool) (x5 : Bool) , I0_1 x1 x2 x3 x4 x5 ->
 (tB (decide (x3 < 256)) = true ->
 ∀ _ : Nat -> Nat, ∃ R', Holds Try.prog 55 [A.agg x0, A.d (D.lit (.int .u8 (IntKind.wrap .u8 x3)))] [] R' /\
 (∀ v H', R' (.ret v) H' -> ∃ x6 : Bool, v = A.d (D.lit (.bool x6)) /\ H' = [] /\
 ((!x6) = true ->
 tB (decide ((-9223372036854775808) <= (x3 + 1))) = true /\
 tB (decide ((x3 + 1) <= 9223372036854775807)) = true /\
 I0_1 x1 x3 (x3 + 1) true x5 /\ M0_1 x1 x3 (x3 + 1) true x5 < M0_1 x1 x2 x3 x4 x5) /\
 ((!x6) = false ->
 ((!(tB (decide (0 < x3)))) || (tB (decide ((-9223372036854775808) <= (x3 - 1))))) = true /\
 ((!(tB (decide (0 < x3)))) || (tB (decide ((x3 - 1) <= 9223372036854775807)))) = true /\
 (tB (decide (0 < x3)) = true ->
 ∀ _ : Nat -> Nat, ∃ R', Holds Try.prog 55 [A.agg x0, A.d (D.lit (.int .u8 (IntKind.wrap .u8 (x3 - 1))))] [] R' /\
 (∀ v H', R' (.ret v) H' -> ∃ x7 : Bool, v = A.d (D.lit (.bool x7)) /\ H' = [] /\
 (x7 = true ->
 tB (decide ((-9223372036854775808) <= ((x1.length : Int) - 1))) = true /\
 tB (decide (((x1.length : Int) - 1) <= 9223372036854775807)) = true /\
 tB (decide (0 <= ((x1.length : Int) - 1))) = true /\
 tB (decide (((x1.length : Int) - 1) < (x1.length : Int))) = true /\
 tB (decide ((-9223372036854775808) <= (x3 + 1))) = true /\
 tB (decide ((x3 + 1) <= 9223372036854775807)) = true /\
 I0_1 (gSet x1 ((x1.length : Int) - 1) (setL (gAt x1 ((x1.length : Int) - 1)) 1 [D.lit (.int .u8 (IntKind.wrap .u8 x3))])) x3 (x3 + 1) false true /\ M0_1 (gSet x1 ((x1.length : Int) - 1) (setL (gAt x1 ((x1.length : Int) - 1)) 1 [D.lit (.int .u8 (IntKind.wrap .u8 x3))])) x3 (x3 + 1) false true < M0_1 x1 x2 x3 x4 x5) /\
 (x7 = false ->
 tB (decide (((((([] : List (List D)) ++ x1).length : Int) + ([[D.lit (.int .u8 (IntKind.wrap .u8 x3)), D.lit (.int .u8 (IntKind.wrap .u8 x3))]].length : Int)) * 2) <= 140737488355328)) = true /\
 tB (decide ((((([] : List (List D)) ++ x1).length : Int) + ([[D.lit (.int .u8 (IntKind.wrap .u8 x3)), D.lit (.int .u8 (IntKind.wrap .u8 x3))]].length : Int)) <= 1099511627776)) = true /\
 tB (decide ((-9223372036854775808) <= (x3 + 1))) = true /\
 tB (decide ((x3 + 1) <= 9223372036854775807)) = true /\
 I0_1 (x1 ++ [[D.lit (.int .u8 (IntKind.wrap .u8 x3)), D.lit (.int .u8 (IntKind.wrap .u8 x3))]]) x3 (x3 + 1) false false /\ M0_1 (x1 ++ [[D.lit (.int .u8 (IntKind.wrap .u8 x3)), D.lit (.int .u8 (IntKind.wrap .u8 x3))]]) x3 (x3 + 1) false false < M0_1 x1 x2 x3 x4 x5)) /\
 PN R R') /\
 (tB (decide (0 < x3)) = false ->
 tB (decide (((((([] : List (List D)) ++ x1).length : Int) + ([[D.lit (.int .u8 (IntKind.wrap .u8 x3)), D.lit (.int .u8 (IntKind.wrap .u8 x3))]].length : Int)) * 2) <= 140737488355328)) = true /\
 tB (decide ((((([] : List (List D)) ++ x1).length : Int) + ([[D.lit (.int .u8 (IntKind.wrap .u8 x3)), D.lit (.int .u8 (IntKind.wrap .u8 x3))]].length : Int)) <= 1099511627776)) = true /\
 tB (decide ((-9223372036854775808) <= (x3 + 1))) = true /\
 tB (decide ((x3 + 1) <= 9223372036854775807)) = true /\
 I0_1 (x1 ++ [[D.lit (.int .u8 (IntKind.wrap .u8 x3)), D.lit (.int .u8 (IntKind.wrap .u8 x3))]]) x3 (x3 + 1) false false /\ M0_1 (x1 ++ [[D.lit (.int .u8 (IntKind.wrap .u8 x3)), D.lit (.int .u8 (IntKind.wrap .u8 x3))]]) x3 (x3 + 1) false false < M0_1 x1 x2 x3 x4 x5))) /\
 PN R R') /\
 (tB (decide (x3 < 256)) = false ->
 R (.ret (A.d (D.slc (([] : List (List D)) ++ x1)))) [])) /\
 True) :
 Holds Try.prog 60 [A.agg x0] [] R :=
 walk (c := ⟨Try.prog, 42, true, [0, 1, 2, 3, 4, 5, 6, 16, 22]⟩) (op := {}) (fn := Try.f60) (args := [.agg (.var 0)]) (K := []) (nv := 1) (depth := 6) (up := upOf []) (ρ := Zat [.r x0])
  rfl rfl rfl rfl rfl (by decide) (by decide) (by decide) (by decide) rfl (by simp [Zad, RRef.den, upOf]) (T_of (by kernel_rfl) h)
theorem w61 {R : RT} (x0 : Int) (h : (((((tB (decide (97 <= x0))) && (tB (decide (x0 <= 122)))) || ((tB (decide (65 <= x0))) && (tB (decide (x0 <= 90))))) || ((tB (decide (48 <= x0))) && (tB (decide (x0 <= 57))))) = true ->
 R (.ret (A.d (D.lit (Zaa (Z6n (IntKind.wrap .i32 x0)))))) []) /\
 (((((tB (decide (97 <= x0))) && (tB (decide (x0 <= 122)))) || ((tB (decide (65 <= x0))) && (tB (decide (x0 <= 90))))) || ((tB (decide (48 <= x0))) && (tB (decide (x0 <= 57))))) = false ->
 tB (decide (0 <= (gShr .u8 x0 4))) = true /\
 tB (decide ((gShr .u8 x0 4) <= (IntKind.wrap .u8 ((gShr .u8 x0 4) + 1)))) = true /\
 tB (decide ((IntKind.wrap .u8 ((gShr .u8 x0 4) + 1)) <= 16)) = true /\
 tB (decide ((2 + ((gSub ([48, 49, 50, 51, 52, 53, 54, 55, 56, 57, 97, 98, 99, 100, 101, 102] : List UInt8) (gShr .u8 x0 4) (IntKind.wrap .u8 ((gShr .u8 x0 4) + 1))).length : Int)) <= 9223372036854775807)) = true /\
 tB (decide (0 <= (gAnd .u8 x0 15))) = true /\
 tB (decide ((gAnd .u8 x0 15) <= (IntKind.wrap .u8 ((gAnd .u8 x0 15) + 1)))) = true /\
 tB (decide ((IntKind.wrap .u8 ((gAnd .u8 x0 15) + 1)) <= 16)) = true /\
 tB (decide ((((([92, 120] : List UInt8) ++ (gSub ([48, 49, 50, 51, 52, 53, 54, 55, 56, 57, 97, 98, 99, 100, 101, 102] : List UInt8) (gShr .u8 x0 4) (IntKind.wrap .u8 ((gShr .u8 x0 4) + 1)))).length : Int) + ((gSub ([48, 49, 50, 51, 52, 53, 54, 55, 56, 57, 97, 98, 99, 100, 101, 102] : List UInt8) (gAnd .u8 x0 15) (IntKind.wrap .u8 ((gAnd .u8 x0 15) + 1))).length : Int)) <= 9223372036854775807)) = true /\
 R (.ret (A.d (D.lit (Zaa ((([92, 120] : List UInt8) ++ (gSub ([48, 49, 50, 51, 52, 53, 54, 55, 56, 57, 97, 98, 99, 100, 101, 102] : List UInt8) (gShr .u8 x0 4) (IntKind.wrap .u8 ((gShr .u8 x0 4) + 1)))) ++ (gSub ([48, 49, 50, 51, 52, 53, 54, 55, 56, 57, 97, 98, 99, 100, 101, 102] : List UInt8) (gAnd .u8 x0 15) (IntKind.wrap .u8 ((gAnd .u8 x0 15) + 1)))))))) [])) :
 Holds Try.prog 61 [A.d (D.lit (.int .u8 x0))] [] R :=
 walk (c := ⟨Try.prog, 42, true, [0, 2, 24]⟩) (op := {}) (fn := Try.f61) (args := [.c (.o1 (.ci .u8) (.var 0))]) (K := []) (nv := 1) (depth := 6) (up := upOf []) (ρ := Zat [.i x0])
  rfl rfl rfl rfl rfl (by decide) (by decide) (by decide) (by decide) rfl (by simp [Zad, RRef.den, upOf]) (T_of (by kernel_rfl) h)
end Go.Rx
end
section
open Go Go.Proofs Go.Ab Go.Rf
set_option maxRecDepth 1000000
set_option maxHeartbeats 2000000
set_option linter.unusedVariables false
namespace Go.Rx
theorem w3 {R : RT} (x0 : List D) (h : tB ((x0.length : Int) == 6) = true /\
 ∀ _ : Nat -> Nat, ∃ R', Holds Try.prog 13 [A.agg x0, A.d (D.lit (.int .i64 60))] [] R' /\
 (∀ v H', R' (.ret v) H' -> ∃ x1 : Int, v = A.d (D.lit (.int .i64 x1)) /\ H' = [] /\
 (tB (decide (60 < x1)) = true ->
 ∀ _ : Nat -> Nat, ∃ R', Holds Try.prog 14 [] [] R' /\
 (∀ v H', R' (.ret v) H' -> ∃ x2 : Bool, v = A.d (D.lit (.bool x2)) /\ H' = [] /\
 R (.ret (A.d (D.lit (.bool x2)))) []) /\
 PN R R') /\
 (tB (decide (60 < x1)) = false ->
 ∃ x2 : Int, (∀ _ : Nat -> Nat, Holds Try.prog 15 [A.agg x0] [] (Zce [] (A.d (D.lit (.int .i64 x2))))) /\
 ∃ x3 : Int, (∀ _ : Nat -> Nat, Holds Try.prog 16 [A.agg x0] [] (Zce [] (A.d (D.lit (.int .i64 x3))))) /\
 (tB (x2 == x3) = true ->
 ∃ x4 : Int, (∀ _ : Nat -> Nat, Holds Try.prog 17 [A.agg x0] [] (Zce [] (A.d (D.lit (.int .i64 x4))))) /\
 ∀ _ : Nat -> Nat, ∃ R', Holds Try.prog 18 [A.agg x0] [] R' /\
 (∀ v H', R' (.ret v) H' -> ∃ x5 : Int, v = A.d (D.lit (.int .i64 x5)) /\ H' = [] /\
 (tB (x4 == x5) = true ->
 ∀ _ : Nat -> Nat, ∃ R', Holds Try.prog 14 [] [] R' /\
 (∀ v H', R' (.ret v) H' -> ∃ x6 : Bool, v = A.d (D.lit (.bool x6)) /\ H' = [] /\
 R (.ret (A.d (D.lit (.bool x6)))) []) /\
 PN R R') /\
 (tB (x4 == x5) = false ->
 R (.ret (A.d (D.lit (.bool false)))) [])) /\
 PN R R') /\
 (tB (x2 == x3) = false ->
 R (.ret (A.d (D.lit (.bool false)))) []))) /\
 PN R R') :
 Holds Try.prog 3 [A.agg x0] [] R :=
 walk (c := ⟨Try.prog, 22, true, [0, 1, 2, 5]⟩) (op := {}) (fn := Try.f3) (args := [.agg (.var 0)]) (K := []) (nv := 1) (depth := 5) (up := upOf []) (ρ := Zat [.r x0])
  rfl rfl rfl rfl rfl (by decide) (by decide) (by decide) (by decide) rfl (by simp [Zad, RRef.den, upOf]) (T_of (by kernel_rfl) h)
theorem w14 {R : RT} (h : ∀ _ : Nat -> Nat, ∃ R', Holds Try.prog 19 [(A.d (D.lit (Zaa ([97, 43, 98, 63] : List UInt8))))] [] R' /\
 (∀ v H', R' (.ret v) H' -> ∃ x0 : List D, ∃ x1 : List D, v = A.tup [(true, x0), (true, x1)] /\ H' = [] /\
 tB ((x0.length : Int) == 6) = true /\
 tB ((x1.length : Int) == 2) = true /\
 ∀ _ : Nat -> Nat, ∃ R', Holds Try.prog 19 [(A.d (D.lit (Zaa ([91, 97, 45, 99, 93] : List UInt8))))] [] R' /\
 (∀ v H', R' (.ret v) H' -> ∃ x2 : List D, ∃ x3 : List D, v = A.tup [(true, x2), (true, x3)] /\ H' = [] /\
 tB ((x2.length : Int) == 6) = true /\
 tB ((x3.length : Int) == 2) = true /\
 ∀ _ : Nat -> Nat, ∃ R', Holds Try.prog 19 [(A.d (D.lit (Zaa ([97, 124] : List UInt8))))] [] R' /\
 (∀ v H', R' (.ret v) H' -> ∃ x4 : List D, ∃ x5 : List D, v = A.tup [(true, x4), (true, x5)] /\ H' = [] /\
 tB ((x4.length : Int) == 6) = true /\
 tB ((x5.length : Int) == 2) = true /\
 ∀ _ : Nat -> Nat, ∃ R', Holds Try.prog 19 [(A.d (D.lit (Zaa ([91, 98, 45, 97, 93] : List UInt8))))] [] R' /\
 (∀ v H', R' (.ret v) H' -> ∃ x6 : List D, ∃ x7 : List D, v = A.tup [(true, x6), (true, x7)] /\ H' = [] /\
 tB ((x6.length : Int) == 6) = true /\
 tB ((x7.length : Int) == 2) = true /\
 Rf.isK (.int .i64) (x1.getD 0 D0) = true /\
 Rf.isK (.int .i64) (x1.getD 1 D0) = true /\
 ((!((tB ((Rf.dint (x1.getD 0 D0)) == 0)) && (tB ((Rf.dint (x1.getD 1 D0)) == 0)))) || (Rf.isK (.int .i64) (x3.getD 0 D0))) = true /\
 ((!((tB ((Rf.dint (x1.getD 0 D0)) == 0)) && (tB ((Rf.dint (x1.getD 1 D0)) == 0)))) || (Rf.isK (.int .i64) (x3.getD 1 D0))) = true /\
 ((!(((tB ((Rf.dint (x1.getD 0 D0)) == 0)) && (tB ((Rf.dint (x1.getD 1 D0)) == 0))) && ((tB ((Rf.dint (x3.getD 0 D0)) == 0)) && (tB ((Rf.dint (x3.getD 1 D0)) == 0))))) || (Rf.isK (.int .i64) (x5.getD 0 D0))) = true /\
 ((!(((tB ((Rf.dint (x1.getD 0 D0)) == 0)) && (tB ((Rf.dint (x1.getD 1 D0)) == 0))) && ((tB ((Rf.dint (x3.getD 0 D0)) == 0)) && (tB ((Rf.dint (x3.getD 1 D0)) == 0))))) || (Rf.isK (.int .i64) (x5.getD 1 D0))) = true /\
 ((!((((tB ((Rf.dint (x1.getD 0 D0)) == 0)) && (tB ((Rf.dint (x1.getD 1 D0)) == 0))) && ((tB ((Rf.dint (x3.getD 0 D0)) == 0)) && (tB ((Rf.dint (x3.getD 1 D0)) == 0)))) && ((tB ((Rf.dint (x5.getD 0 D0)) == 8)) && (tB ((Rf.dint (x5.getD 1 D0)) == 2))))) || (Rf.isK (.int .i64) (x7.getD 0 D0))) = true /\
 ((!((((tB ((Rf.dint (x1.getD 0 D0)) == 0)) && (tB ((Rf.dint (x1.getD 1 D0)) == 0))) && ((tB ((Rf.dint (x3.getD 0 D0)) == 0)) && (tB ((Rf.dint (x3.getD 1 D0)) == 0)))) && ((tB ((Rf.dint (x5.getD 0 D0)) == 8)) && (tB ((Rf.dint (x5.getD 1 D0)) == 2))))) || (Rf.isK (.int .i64) (x7.getD 1 D0))) = true /\
 (((((tB ((Rf.dint (x1.getD 0 D0)) == 0)) && (tB ((Rf.dint (x1.getD 1 D0)) == 0))) && ((tB ((Rf.dint (x3.getD 0 D0)) == 0)) && (tB ((Rf.dint (x3.getD 1 D0)) == 0)))) && ((tB ((Rf.dint (x5.getD 0 D0)) == 8)) && (tB ((Rf.dint (x5.getD 1 D0)) == 2)))) = true ->
 (tB ((Rf.dint (x7.getD 0 D0)) == 8) = true ->
 (tB ((Rf.dint (x7.getD 1 D0)) == 3) = true ->
 ∀ _ : Nat -> Nat, ∃ R', Holds Try.prog 24 [A.agg x0, (A.d (D.lit (Zaa ([97] : List UInt8))))] [] R' /\
 (∀ v H', R' (.ret v) H' -> ∃ x8 : Bool, v = A.d (D.lit (.bool x8)) /\ H' = [] /\
 (x8 = true ->
 ∀ _ : Nat -> Nat, ∃ R', Holds Try.prog 24 [A.agg x0, (A.d (D.lit (Zaa ([97, 98] : List UInt8))))] [] R' /\
 (∀ v H', R' (.ret v) H' -> ∃ x9 : Bool, v = A.d (D.lit (.bool x9)) /\ H' = [] /\
 (x9 = true ->
 ∀ _ : Nat -> Nat, ∃ R', Holds Try.prog 24 [A.agg x0, (A.d (D.lit (Zaa ([97, 97, 98] : List UInt8))))] [] R' /\
 (∀ v H', R' (.ret v) H' -> ∃ x10 : Bool, v = A.d (D.lit (.bool x10)) /\ H' = [] /\
 (x10 = true ->
 ∀ _ : Nat -> Nat, ∃ R', Holds Try.prog 24 [A.agg x0, (A.d (D.lit (Zaa ([98] : List UInt8))))] [] R' /\
 (∀ v H', R' (.ret v) H' -> ∃ x11 : Bool, v = A.d (D.lit (.bool x11)) /\ H' = [] /\
 ((!x11) = true ->
 ∀ _ : Nat -> Nat, ∃ R', Holds Try.prog 17 [A.agg x2] [] R' /\
 (∀ v H', R' (.ret v) H' -> ∃ x12 : Int, v = A.d (D.lit (.int .i64 x12)) /\ H' = [] /\
 R (.ret (A.d (D.lit (.bool (tB (x12 == 1)))))) []) /\
 PN R R') /\
 ((!x11) = false ->
 R (.ret (A.d (D.lit (.bool false)))) [])) /\
 PN R R') /\
 (x10 = false ->
 R (.ret (A.d (D.lit (.bool false)))) [])) /\
 PN R R') /\
 (x9 = false ->
 R (.ret (A.d (D.lit (.bool false)))) [])) /\
 PN R R') /\
 (x8 = false ->
 R (.ret (A.d (D.lit (.bool false)))) [])) /\
 PN R R') /\
 (tB ((Rf.dint (x7.getD 1 D0)) == 3) = false ->
 R (.ret (A.d (D.lit (.bool false)))) [])) /\
 (tB ((Rf.dint (x7.getD 0 D0)) == 8) = false ->
 R (.ret (A.d (D.lit (.bool false)))) [])) /\
 (((((tB ((Rf.dint (x1.getD 0 D0)) == 0)) && (tB ((Rf.dint (x1.getD 1 D0)) == 0))) && ((tB ((Rf.dint (x3.getD 0 D0)) == 0)) && (tB ((Rf.dint (x3.getD 1 D0)) == 0)))) && ((tB ((Rf.dint (x5.getD 0 D0)) == 8)) && (tB ((Rf.dint (x5.getD 1 D0)) == 2)))) = false ->
 R (.ret (A.d (D.lit (.bool false)))) [])) /\
 PN R R') /\
 PN R R') /\
 PN R R') /\
 PN R R') :
 Holds Try.prog 14 [] [] R :=
 walk (c := ⟨Try.prog, 67, true, [0, 1, 2, 3, 4, 6, 8, 9]⟩) (op := {}) (fn := Try.f14) (args := []) (K := []) (nv := 0) (depth := 7) (up := upOf []) (ρ := Zat [])
  rfl rfl rfl rfl rfl (by decide) (by decide) (by decide) (by decide) rfl (by simp [Zad, RRef.den, upOf]) (T_of (by kernel_rfl) h)
end Go.Rx
end
