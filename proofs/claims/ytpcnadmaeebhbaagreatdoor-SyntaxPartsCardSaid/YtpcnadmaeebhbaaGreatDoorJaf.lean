/- Part 6 of the proof: Vmk, Veq, Vsml, Vmap, Vrc, Vsiz, Vrs, Vrr, Vcom, Vref, Vreq, Vpla, Vtop, Vpar. -/
import Derived.Test.YtpcnadmaeebhbaaGreatDoorProg
import Derived.Test.YtpcnadmaeebhbaaGreatDoorJae
set_option linter.unusedVariables false
set_option linter.unusedSimpArgs false
section
open Go Go.Proofs Go.Ab Go.Rf
set_option maxRecDepth 1000000
set_option maxHeartbeats 2000000
set_option linter.unusedVariables false
namespace Go.Sy
abbrev RT := Out -> List (Ref × List A) -> Prop
abbrev PN (R R' : RT) : Prop := ∀ v H', R' (.pan v) H' -> H' = [] /\ R (.pan v) []
theorem w23 {R : RT} (x0 : List (List D)) (x1 : List (List D)) (h : ((!(tB ((x0.length : Int) == (x1.length : Int)))) = true ->
 R (.ret (A.d (D.lit (.bool false)))) []) /\
 ((!(tB ((x0.length : Int) == (x1.length : Int)))) = false ->
 ∃ (I0_0 : Int -> Prop) (M0_0 : Int -> Nat), I0_0 0 /\
 (∀ (x2 : Int) , I0_0 x2 ->
 (tB (decide (x2 < (x0.length : Int))) = true ->
 tB (decide (0 <= x2)) = true /\
 tB (((gAt x0 x2).length : Int) == 1) = true /\
 Rf.isK .str ((gAt x0 x2).getD 0 D0) = true /\
 tB (decide (x2 < (x1.length : Int))) = true /\
 tB (((gAt x1 x2).length : Int) == 1) = true /\
 Rf.isK .str ((gAt x1 x2).getD 0 D0) = true /\
 ((!(tB ((Rf.dstr ((gAt x0 x2).getD 0 D0)) == (Rf.dstr ((gAt x1 x2).getD 0 D0))))) = true ->
 R (.ret (A.d (D.lit (.bool false)))) []) /\
 ((!(tB ((Rf.dstr ((gAt x0 x2).getD 0 D0)) == (Rf.dstr ((gAt x1 x2).getD 0 D0))))) = false ->
 tB (decide ((-9223372036854775808) <= (x2 + 1))) = true /\
 tB (decide ((x2 + 1) <= 9223372036854775807)) = true /\
 I0_0 (x2 + 1) /\ M0_0 (x2 + 1) < M0_0 x2)) /\
 (tB (decide (x2 < (x0.length : Int))) = false ->
 R (.ret (A.d (D.lit (.bool true)))) [])) /\
 True)) :
 Holds Tryz.prog 23 [A.d (D.slc x0), A.d (D.slc x1)] [] R :=
 walk (c := ⟨Tryz.prog, 26, true, [0, 1, 4, 5, 10, 12, 13, 14, 24]⟩) (op := { com := [(8, (14, 5000)), (8, (5, 5000)), (8, (24, 5000)), (8, (4, 5000))] }) (fn := Tryz.f23) (args := [.c (.o1 .cl (.var 0)), .c (.o1 .cl (.var 1))]) (K := []) (nv := 2) (depth := 5) (up := upOf []) (ρ := Zc4 [.l x0, .l x1])
  rfl rfl rfl rfl rfl (by decide) (by decide) (by decide) (by decide) rfl (by simp [Zac, RRef.den, upOf]) (T_of (by kernel_rfl) h)
theorem w34 {R : RT} (x0 : List UInt8) (x1 : List (List D)) (h : ∃ (I0_0 : Int -> Prop) (M0_0 : Int -> Nat), I0_0 0 /\
 (∀ (x2 : Int) , I0_0 x2 ->
 (tB (decide (x2 < (x1.length : Int))) = true ->
 tB (decide (0 <= x2)) = true /\
 tB (((gAt x1 x2).length : Int) == 1) = true /\
 Rf.isK .str ((gAt x1 x2).getD 0 D0) = true /\
 (tB (x0 == (Rf.dstr ((gAt x1 x2).getD 0 D0))) = true ->
 R (.ret (A.d (D.lit (.bool true)))) []) /\
 (tB (x0 == (Rf.dstr ((gAt x1 x2).getD 0 D0))) = false ->
 tB (decide ((-9223372036854775808) <= (x2 + 1))) = true /\
 tB (decide ((x2 + 1) <= 9223372036854775807)) = true /\
 I0_0 (x2 + 1) /\ M0_0 (x2 + 1) < M0_0 x2)) /\
 (tB (decide (x2 < (x1.length : Int))) = false ->
 R (.ret (A.d (D.lit (.bool false)))) [])) /\
 True) :
 Holds Tryz.prog 34 [A.d (D.lit (Zaa x0)), A.d (D.slc x1)] [] R :=
 walk (c := ⟨Tryz.prog, 17, true, [0, 1, 4, 6, 7, 8, 9, 10, 15]⟩) (op := { com := [(6, (10, 5000)), (6, (6, 5000)), (6, (15, 5000)), (6, (4, 5000))] }) (fn := Tryz.f34) (args := [.c (.o1 .cs (.var 0)), .c (.o1 .cl (.var 1))]) (K := []) (nv := 2) (depth := 5) (up := upOf []) (ρ := Zc4 [.s x0, .l x1])
  rfl rfl rfl rfl rfl (by decide) (by decide) (by decide) (by decide) rfl (by simp [Zac, RRef.den, upOf]) (T_of (by kernel_rfl) h)
end Go.Sy
end
section
open Go Go.Proofs Go.Ab Go.Rf
set_option maxRecDepth 1000000
set_option maxHeartbeats 2000000
set_option linter.unusedVariables false
namespace Go.Sy
end Go.Sy
end
section
open Go Go.Proofs Go.Ab Go.Rf
set_option maxRecDepth 1000000
set_option maxHeartbeats 2000000
set_option linter.unusedVariables false
namespace Go.Sy
theorem w16 {R : RT} (x0 : List D) (h : tB ((x0.length : Int) == 9) = true /\
 ∀ _ : Nat -> Nat, ∃ R', Holds Tryz.prog 57 [A.agg x0, A.d (D.lit (.int .i64 100))] [] R' /\
 (∀ v H', R' (.ret v) H' -> ∃ x1 : Int, v = A.d (D.lit (.int .i64 x1)) /\ H' = [] /\
 R (.ret (A.d (D.lit (.bool (tB (decide (0 <= x1))))))) []) /\
 PN R R') :
 Holds Tryz.prog 16 [A.agg x0] [] R :=
 walk (c := ⟨Tryz.prog, 6, true, [0, 1, 2]⟩) (op := {}) (fn := Tryz.f16) (args := [.agg (.var 0)]) (K := []) (nv := 1) (depth := 3) (up := upOf []) (ρ := Zc4 [.r x0])
  rfl rfl rfl rfl rfl (by decide) (by decide) (by decide) (by decide) rfl (by simp [Zac, RRef.den, upOf]) (T_of (by kernel_rfl) h)
theorem w41 {R : RT} (x0 : List (List D)) (h : ∃ (I0_0 : Int -> Int -> Prop) (M0_0 : Int -> Int -> Nat), I0_0 0 0 /\
 (∀ (x1 : Int) (x2 : Int) , I0_0 x1 x2 ->
 (tB (decide (x2 < (x0.length : Int))) = true ->
 tB (decide (0 <= x2)) = true /\
 tB (((gAt x0 x2).length : Int) == 1) = true /\
 Rf.isK .str ((gAt x0 x2).getD 0 D0) = true /\
 tB (decide ((-9223372036854775808) <= (x1 + ((Rf.dstr ((gAt x0 x2).getD 0 D0)).length : Int)))) = true /\
 tB (decide ((x1 + ((Rf.dstr ((gAt x0 x2).getD 0 D0)).length : Int)) <= 9223372036854775807)) = true /\
 tB (decide ((-9223372036854775808) <= (x2 + 1))) = true /\
 tB (decide ((x2 + 1) <= 9223372036854775807)) = true /\
 I0_0 (((x1 + ((Rf.dstr ((gAt x0 x2).getD 0 D0)).length : Int)) + 10000) - (gMax (x1 + ((Rf.dstr ((gAt x0 x2).getD 0 D0)).length : Int)) 10000)) (x2 + 1) /\ M0_0 (((x1 + ((Rf.dstr ((gAt x0 x2).getD 0 D0)).length : Int)) + 10000) - (gMax (x1 + ((Rf.dstr ((gAt x0 x2).getD 0 D0)).length : Int)) 10000)) (x2 + 1) < M0_0 x1 x2) /\
 (tB (decide (x2 < (x0.length : Int))) = false ->
 R (.ret (A.d (D.lit (.int .i64 x1)))) [])) /\
 True) :
 Holds Tryz.prog 41 [A.d (D.slc x0)] [] R :=
 walk (c := ⟨Tryz.prog, 19, true, [0, 2, 3, 5, 6, 7, 8, 9]⟩) (op := { com := [(6, (9, 5000)), (6, (5, 5000))] }) (fn := Tryz.f41) (args := [.c (.o1 .cl (.var 0))]) (K := []) (nv := 1) (depth := 5) (up := upOf []) (ρ := Zc4 [.l x0])
  rfl rfl rfl rfl rfl (by decide) (by decide) (by decide) (by decide) rfl (by simp [Zac, RRef.den, upOf]) (T_of (by kernel_rfl) h)
theorem w42 {R : RT} (x0 : List (List D)) (x1 : Int) (h : ∃ (I0_0 : Int -> Int -> Prop) (M0_0 : Int -> Int -> Nat), I0_0 x1 0 /\
 (∀ (x2 : Int) (x3 : Int) , I0_0 x2 x3 ->
 (tB (decide (x3 < (x0.length : Int))) = true ->
 tB (decide (0 <= x3)) = true /\
 tB (((gAt x0 x3).length : Int) == 11) = true /\
 (tB (decide (x2 < 0)) = true ->
 R (.ret (A.d (D.lit (.int .i64 x2)))) []) /\
 (tB (decide (x2 < 0)) = false ->
 tB (decide ((-9223372036854775808) <= (x2 - 1))) = true /\
 tB (decide ((x2 - 1) <= 9223372036854775807)) = true /\
 Rf.isK .slc ((gAt x0 x3).getD 8 D0) = true /\
 tB (decide ((-9223372036854775808) <= ((x2 - 1) - ((Rf.dlst ((gAt x0 x3).getD 8 D0)).length : Int)))) = true /\
 tB (decide (((x2 - 1) - ((Rf.dlst ((gAt x0 x3).getD 8 D0)).length : Int)) <= 9223372036854775807)) = true /\
 Rf.isK .slc ((gAt x0 x3).getD 7 D0) = true /\
 tB (decide ((-9223372036854775808) <= (((x2 - 1) - ((Rf.dlst ((gAt x0 x3).getD 8 D0)).length : Int)) - ((Rf.dlst ((gAt x0 x3).getD 7 D0)).length : Int)))) = true /\
 tB (decide ((((x2 - 1) - ((Rf.dlst ((gAt x0 x3).getD 8 D0)).length : Int)) - ((Rf.dlst ((gAt x0 x3).getD 7 D0)).length : Int)) <= 9223372036854775807)) = true /\
 Rf.isK .str ((gAt x0 x3).getD 2 D0) = true /\
 Rf.isK .str ((gAt x0 x3).getD 3 D0) = true /\
 Rf.isK .str ((gAt x0 x3).getD 4 D0) = true /\
 Rf.isK .str ((gAt x0 x3).getD 9 D0) = true /\
 ∃ x4 : Int, (∀ _ : Nat -> Nat, Holds Tryz.prog 41 [A.d (D.slc [[D.lit (Zaa (Rf.dstr ((gAt x0 x3).getD 2 D0)))], [D.lit (Zaa (Rf.dstr ((gAt x0 x3).getD 3 D0)))], [D.lit (Zaa (Rf.dstr ((gAt x0 x3).getD 4 D0)))], [D.lit (Zaa (Rf.dstr ((gAt x0 x3).getD 9 D0)))]])] [] (Zay [] (A.d (D.lit (.int .i64 x4))))) /\
 tB (decide ((-9223372036854775808) <= (x4.tdiv 20))) = true /\
 tB (decide ((x4.tdiv 20) <= 9223372036854775807)) = true /\
 tB (decide ((-9223372036854775808) <= ((((x2 - 1) - ((Rf.dlst ((gAt x0 x3).getD 8 D0)).length : Int)) - ((Rf.dlst ((gAt x0 x3).getD 7 D0)).length : Int)) - (x4.tdiv 20)))) = true /\
 tB (decide (((((x2 - 1) - ((Rf.dlst ((gAt x0 x3).getD 8 D0)).length : Int)) - ((Rf.dlst ((gAt x0 x3).getD 7 D0)).length : Int)) - (x4.tdiv 20)) <= 9223372036854775807)) = true /\
 ∃ x5 : Int, (∀ _ : Nat -> Nat, Holds Tryz.prog 41 [A.d (D.slc (Rf.dlst ((gAt x0 x3).getD 8 D0)))] [] (Zay [] (A.d (D.lit (.int .i64 x5))))) /\
 tB (decide ((-9223372036854775808) <= (x5.tdiv 20))) = true /\
 tB (decide ((x5.tdiv 20) <= 9223372036854775807)) = true /\
 tB (decide ((-9223372036854775808) <= (((((x2 - 1) - ((Rf.dlst ((gAt x0 x3).getD 8 D0)).length : Int)) - ((Rf.dlst ((gAt x0 x3).getD 7 D0)).length : Int)) - (x4.tdiv 20)) - (x5.tdiv 20)))) = true /\
 tB (decide ((((((x2 - 1) - ((Rf.dlst ((gAt x0 x3).getD 8 D0)).length : Int)) - ((Rf.dlst ((gAt x0 x3).getD 7 D0)).length : Int)) - (x4.tdiv 20)) - (x5.tdiv 20)) <= 9223372036854775807)) = true /\
 ∃ x6 : Int, (∀ _ : Nat -> Nat, Holds Tryz.prog 41 [A.d (D.slc (Rf.dlst ((gAt x0 x3).getD 7 D0)))] [] (Zay [] (A.d (D.lit (.int .i64 x6))))) /\
 tB (decide ((-9223372036854775808) <= (x6.tdiv 20))) = true /\
 tB (decide ((x6.tdiv 20) <= 9223372036854775807)) = true /\
 tB (decide ((-9223372036854775808) <= ((((((x2 - 1) - ((Rf.dlst ((gAt x0 x3).getD 8 D0)).length : Int)) - ((Rf.dlst ((gAt x0 x3).getD 7 D0)).length : Int)) - (x4.tdiv 20)) - (x5.tdiv 20)) - (x6.tdiv 20)))) = true /\
 tB (decide (((((((x2 - 1) - ((Rf.dlst ((gAt x0 x3).getD 8 D0)).length : Int)) - ((Rf.dlst ((gAt x0 x3).getD 7 D0)).length : Int)) - (x4.tdiv 20)) - (x5.tdiv 20)) - (x6.tdiv 20)) <= 9223372036854775807)) = true /\
 Rf.isK .slc ((gAt x0 x3).getD 5 D0) = true /\
 ∃ (I1_0 : Int -> Int -> Prop) (M1_0 : Int -> Int -> Nat), I1_0 ((((((x2 - 1) - ((Rf.dlst ((gAt x0 x3).getD 8 D0)).length : Int)) - ((Rf.dlst ((gAt x0 x3).getD 7 D0)).length : Int)) - (x4.tdiv 20)) - (x5.tdiv 20)) - (x6.tdiv 20)) 0 /\
 (∀ (x7 : Int) (x8 : Int) , I1_0 x7 x8 ->
 (tB (decide (x8 < ((Rf.dlst ((gAt x0 x3).getD 5 D0)).length : Int))) = true ->
 tB (decide (0 <= x8)) = true /\
 tB (((gAt (Rf.dlst ((gAt x0 x3).getD 5 D0)) x8).length : Int) == 9) = true /\
 (tB (decide (0 <= x7)) = true ->
 ∀ _ : Nat -> Nat, ∃ R', Holds Tryz.prog 57 [A.agg (gAt (Rf.dlst ((gAt x0 x3).getD 5 D0)) x8), A.d (D.lit (.int .i64 x7))] [] R' /\
 (∀ v H', R' (.ret v) H' -> ∃ x9 : Int, v = A.d (D.lit (.int .i64 x9)) /\ H' = [] /\
 tB (decide ((-9223372036854775808) <= (x8 + 1))) = true /\
 tB (decide ((x8 + 1) <= 9223372036854775807)) = true /\
 I1_0 x9 (x8 + 1) /\ M1_0 x9 (x8 + 1) < M1_0 x7 x8) /\
 PN R R') /\
 (tB (decide (0 <= x7)) = false ->
 tB (decide ((-9223372036854775808) <= (x8 + 1))) = true /\
 tB (decide ((x8 + 1) <= 9223372036854775807)) = true /\
 I1_0 x7 (x8 + 1) /\ M1_0 x7 (x8 + 1) < M1_0 x7 x8)) /\
 (tB (decide (x8 < ((Rf.dlst ((gAt x0 x3).getD 5 D0)).length : Int))) = false ->
 Rf.isK .slc ((gAt x0 x3).getD 6 D0) = true /\
 ∀ _ : Nat -> Nat, ∃ R', Holds Tryz.prog 42 [A.d (D.slc (Rf.dlst ((gAt x0 x3).getD 6 D0))), A.d (D.lit (.int .i64 x7))] [] R' /\
 (∀ v H', R' (.ret v) H' -> ∃ x9 : Int, v = A.d (D.lit (.int .i64 x9)) /\ H' = [] /\
 tB (decide ((-9223372036854775808) <= (x3 + 1))) = true /\
 tB (decide ((x3 + 1) <= 9223372036854775807)) = true /\
 I0_0 x9 (x3 + 1) /\ M0_0 x9 (x3 + 1) < M0_0 x2 x3) /\
 PN R R')) /\
 True)) /\
 (tB (decide (x3 < (x0.length : Int))) = false ->
 R (.ret (A.d (D.lit (.int .i64 x2)))) [])) /\
 True) :
 Holds Tryz.prog 42 [A.d (D.slc x0), A.d (D.lit (.int .i64 x1))] [] R :=
 walk (c := ⟨Tryz.prog, 71, true, [0, 1, 4, 6, 8, 9, 10, 11, 12, 16, 53, 54, 55, 56, 60]⟩) (op := { com := [(14, (12, 5000)), (14, (6, 5000)), (14, (16, 5000)), (14, (4, 5000)), (14, (53, 5000)), (14, (54, 5000)), (14, (55, 5000)), (14, (56, 5000)), (14, (8, 5000)), (14, (60, 5000)), (12, (56, 5000)), (12, (8, 5000)), (12, (60, 5000))] }) (fn := Tryz.f42) (args := [.c (.o1 .cl (.var 0)), .c (.o1 (.ci .i64) (.var 1))]) (K := []) (nv := 2) (depth := 7) (up := upOf []) (ρ := Zc4 [.l x0, .i x1])
  rfl rfl rfl rfl rfl (by decide) (by decide) (by decide) (by decide) rfl (by simp [Zac, RRef.den, upOf]) (T_of (by kernel_rfl) h)
theorem w57 {R : RT} (x0 : List D) (x1 : Int) (h : tB ((x0.length : Int) == 9) = true /\
 tB (decide ((-9223372036854775808) <= (x1 - 1))) = true /\
 tB (decide ((x1 - 1) <= 9223372036854775807)) = true /\
 Rf.isK .slc (x0.getD 7 D0) = true /\
 tB (decide ((-9223372036854775808) <= ((x1 - 1) - ((Rf.dlst (x0.getD 7 D0)).length : Int)))) = true /\
 tB (decide (((x1 - 1) - ((Rf.dlst (x0.getD 7 D0)).length : Int)) <= 9223372036854775807)) = true /\
 Rf.isK .str (x0.getD 1 D0) = true /\
 Rf.isK .str (x0.getD 3 D0) = true /\
 Rf.isK .str (x0.getD 4 D0) = true /\
 ∃ x2 : Int, (∀ _ : Nat -> Nat, Holds Tryz.prog 41 [A.d (D.slc [[D.lit (Zaa (Rf.dstr (x0.getD 1 D0)))], [D.lit (Zaa (Rf.dstr (x0.getD 3 D0)))], [D.lit (Zaa (Rf.dstr (x0.getD 4 D0)))]])] [] (Zay [] (A.d (D.lit (.int .i64 x2))))) /\
 tB (decide ((-9223372036854775808) <= (x2.tdiv 20))) = true /\
 tB (decide ((x2.tdiv 20) <= 9223372036854775807)) = true /\
 tB (decide ((-9223372036854775808) <= (((x1 - 1) - ((Rf.dlst (x0.getD 7 D0)).length : Int)) - (x2.tdiv 20)))) = true /\
 tB (decide ((((x1 - 1) - ((Rf.dlst (x0.getD 7 D0)).length : Int)) - (x2.tdiv 20)) <= 9223372036854775807)) = true /\
 ∃ x3 : Int, (∀ _ : Nat -> Nat, Holds Tryz.prog 41 [A.d (D.slc (Rf.dlst (x0.getD 7 D0)))] [] (Zay [] (A.d (D.lit (.int .i64 x3))))) /\
 tB (decide ((-9223372036854775808) <= (x3.tdiv 20))) = true /\
 tB (decide ((x3.tdiv 20) <= 9223372036854775807)) = true /\
 tB (decide ((-9223372036854775808) <= ((((x1 - 1) - ((Rf.dlst (x0.getD 7 D0)).length : Int)) - (x2.tdiv 20)) - (x3.tdiv 20)))) = true /\
 tB (decide (((((x1 - 1) - ((Rf.dlst (x0.getD 7 D0)).length : Int)) - (x2.tdiv 20)) - (x3.tdiv 20)) <= 9223372036854775807)) = true /\
 Rf.isK .slc (x0.getD 5 D0) = true /\
 ∃ (I0_0 : Int -> Int -> Prop) (M0_0 : Int -> Int -> Nat), I0_0 ((((x1 - 1) - ((Rf.dlst (x0.getD 7 D0)).length : Int)) - (x2.tdiv 20)) - (x3.tdiv 20)) 0 /\
 (∀ (x4 : Int) (x5 : Int) , I0_0 x4 x5 ->
 (tB (decide (x5 < ((Rf.dlst (x0.getD 5 D0)).length : Int))) = true ->
 tB (decide (0 <= x5)) = true /\
 tB (((gAt (Rf.dlst (x0.getD 5 D0)) x5).length : Int) == 9) = true /\
 (tB (decide (0 <= x4)) = true ->
 ∀ _ : Nat -> Nat, ∃ R', Holds Tryz.prog 57 [A.agg (gAt (Rf.dlst (x0.getD 5 D0)) x5), A.d (D.lit (.int .i64 x4))] [] R' /\
 (∀ v H', R' (.ret v) H' -> ∃ x6 : Int, v = A.d (D.lit (.int .i64 x6)) /\ H' = [] /\
 tB (decide ((-9223372036854775808) <= (x5 + 1))) = true /\
 tB (decide ((x5 + 1) <= 9223372036854775807)) = true /\
 I0_0 x6 (x5 + 1) /\ M0_0 x6 (x5 + 1) < M0_0 x4 x5) /\
 PN R R') /\
 (tB (decide (0 <= x4)) = false ->
 tB (decide ((-9223372036854775808) <= (x5 + 1))) = true /\
 tB (decide ((x5 + 1) <= 9223372036854775807)) = true /\
 I0_0 x4 (x5 + 1) /\ M0_0 x4 (x5 + 1) < M0_0 x4 x5)) /\
 (tB (decide (x5 < ((Rf.dlst (x0.getD 5 D0)).length : Int))) = false ->
 Rf.isK .slc (x0.getD 6 D0) = true /\
 ∀ _ : Nat -> Nat, ∃ R', Holds Tryz.prog 42 [A.d (D.slc (Rf.dlst (x0.getD 6 D0))), A.d (D.lit (.int .i64 x4))] [] R' /\
 (∀ v H', R' (.ret v) H' -> ∃ x6 : Int, v = A.d (D.lit (.int .i64 x6)) /\ H' = [] /\
 R (.ret (A.d (D.lit (.int .i64 x6)))) []) /\
 PN R R')) /\
 True) :
 Holds Tryz.prog 57 [A.agg x0, A.d (D.lit (.int .i64 x1))] [] R :=
 walk (c := ⟨Tryz.prog, 47, true, [0, 1, 2, 4, 6, 31, 32, 33, 34, 38]⟩) (op := { com := [(7, (34, 5000)), (7, (6, 5000)), (7, (38, 5000))] }) (fn := Tryz.f57) (args := [.agg (.var 0), .c (.o1 (.ci .i64) (.var 1))]) (K := []) (nv := 2) (depth := 6) (up := upOf []) (ρ := Zc4 [.r x0, .i x1])
  rfl rfl rfl rfl rfl (by decide) (by decide) (by decide) (by decide) rfl (by simp [Zac, RRef.den, upOf]) (T_of (by kernel_rfl) h)
end Go.Sy
end
section
open Go Go.Proofs Go.Ab Go.Rf
set_option maxRecDepth 1000000
set_option maxHeartbeats 2000000
set_option linter.unusedVariables false
namespace Go.Sy
theorem w69 {R : RT} (x0 : List (List D)) (h : ∀ x1 : Bool, (x1 = true -> tB ((x0.length : Int) == 0) = true) ->
 (x1 = true ->
 R (.ret (A.zs ([] : List (List D)))) []) /\
 (x1 = false ->
 (Zjm 1 x0) = true /\
 tB (decide (((0 + (x0.length : Int)) * 16) <= 140737488355328)) = true /\
 tB (decide ((0 + (x0.length : Int)) <= 1099511627776)) = true /\
 (tB ((x0.length : Int) == 0) = true ->
 R (.ret (A.zs ([] : List (List D)))) []) /\
 (tB ((x0.length : Int) == 0) = false ->
 R (.ret (A.own 1 (([] : List (List D)) ++ x0) ([] : List (List D)))) []))) :
 Holds Tryz.prog 69 [A.d (D.slc x0)] [] R :=
 walk (c := ⟨Tryz.prog, 8, true, [0, 2, 4]⟩) (op := { fresh := [5] }) (fn := Tryz.f69) (args := [.c (.o1 .cl (.var 0))]) (K := []) (nv := 1) (depth := 4) (up := upOf []) (ρ := Zc4 [.l x0])
  rfl rfl rfl rfl rfl (by decide) (by decide) (by decide) (by decide) rfl (by simp [Zac, RRef.den, upOf]) (T_of (by kernel_rfl) h)
end Go.Sy
end
section
open Go Go.Proofs Go.Ab Go.Rf
set_option maxRecDepth 1000000
set_option maxHeartbeats 2000000
set_option linter.unusedVariables false
namespace Go.Sy
end Go.Sy
end
section
open Go Go.Proofs Go.Ab Go.Rf
set_option maxRecDepth 1000000
set_option maxHeartbeats 2000000
set_option linter.unusedVariables false
namespace Go.Sy
theorem w74z {R : RT} (x0 : List D) (x1 : Int) (q0 : Ref) (h : tB ((x0.length : Int) == 9) = true /\
 ∀ _ : Nat -> Nat, ∃ R', Holds Tryz.prog 75 [A.agg x0, A.ptr (.up (Ref.up q0)) 0] [(Ref.up (Ref.up q0), [A.d (D.lit (.int .i64 x1))])] R' /\
 (∀ v H', R' (.ret v) H' -> ∃ x2 : List D, ∃ x3 : Int, v = A.agg x2 /\ H' = [(Ref.up (Ref.up q0), [A.d (D.lit (.int .i64 x3))])] /\
 tB ((x2.length : Int) == 9) = true /\
 Rf.isK .slc (x0.getD 5 D0) = true /\
 ∀ _ : Nat -> Nat, ∃ R', Holds Tryz.prog 107 [A.d (D.slc (Rf.dlst (x0.getD 5 D0))), A.fn 75 [.up (Ref.up q0)], A.fn 76 [.up (Ref.up q0)]] [(Ref.up (Ref.up q0), [A.d (D.lit (.int .i64 x3))])] R' /\
 (∀ v H', R' (.ret v) H' -> ∃ x4 : List (List D), ∃ x5 : Int, v = A.d (D.slc x4) /\ H' = [(Ref.up (Ref.up q0), [A.d (D.lit (.int .i64 x5))])] /\
 Rf.isK .slc (x0.getD 6 D0) = true /\
 ∀ _ : Nat -> Nat, ∃ R', Holds Tryz.prog 78 [A.d (D.slc (Rf.dlst (x0.getD 6 D0))), A.fn 75 [.up (Ref.up q0)], A.fn 76 [.up (Ref.up q0)]] [(Ref.up (Ref.up q0), [A.d (D.lit (.int .i64 x5))])] R' /\
 (∀ v H', R' (.ret v) H' -> ∃ x6 : List (List D), ∃ x7 : Int, v = A.d (D.slc x6) /\ H' = [(Ref.up (Ref.up q0), [A.d (D.lit (.int .i64 x7))])] /\
 Rf.isK .slc (x2.getD 7 D0) = true /\
 ∀ _ : Nat -> Nat, ∃ R', Holds Tryz.prog 69 [A.d (D.slc (Rf.dlst (x2.getD 7 D0)))] [] R' /\
 (∀ v H', R' (.ret v) H' -> ∃ x8 : List (List D), v = A.d (D.slc x8) /\ H' = [] /\
 R (.ret (A.agg [x2.getD 0 D0, x2.getD 1 D0, x2.getD 2 D0, x2.getD 3 D0, x2.getD 4 D0, D.slc x4, D.slc x6, D.slc x8, x2.getD 8 D0])) [((Ref.up q0), [A.d (D.lit (.int .i64 x7))])]) /\
 (∀ x8v H', R' (.pan x8v) H' -> H' = [] /\
 R (.pan x8v) [((Ref.up q0), [A.d (D.lit (.int .i64 x7))])])) /\
 (∀ x6v H', R' (.pan x6v) H' -> ∃ x7 : Int, H' = [(Ref.up (Ref.up q0), [A.d (D.lit (.int .i64 x7))])] /\
 R (.pan x6v) [((Ref.up q0), [A.d (D.lit (.int .i64 x7))])])) /\
 (∀ x4v H', R' (.pan x4v) H' -> ∃ x5 : Int, H' = [(Ref.up (Ref.up q0), [A.d (D.lit (.int .i64 x5))])] /\
 R (.pan x4v) [((Ref.up q0), [A.d (D.lit (.int .i64 x5))])])) /\
 (∀ x2v H', R' (.pan x2v) H' -> ∃ x3 : Int, H' = [(Ref.up (Ref.up q0), [A.d (D.lit (.int .i64 x3))])] /\
 R (.pan x2v) [((Ref.up q0), [A.d (D.lit (.int .i64 x3))])])) :
 Holds Tryz.prog 74 [A.agg x0, A.fn 75 [Ref.up q0], A.fn 76 [Ref.up q0]] [((Ref.up q0), [A.d (D.lit (.int .i64 x1))])] R :=
 walk (c := ⟨Tryz.prog, 28, true, [0, 1, 2, 3, 6, 7]⟩) (op := {}) (fn := Tryz.f74) (args := [.agg (.var 0), .fn 75 [.up 0], .fn 76 [.up 0]]) (K := [(.up 0, [.c (.o1 (.ci .i64) (.var 1))])]) (nv := 2) (depth := 5) (up := upOf [q0]) (ρ := Zc4 [.r x0, .i x1])
  rfl rfl rfl rfl rfl (by decide) (by decide) (by decide) (by decide) rfl (by simp [Zac, RRef.den, upOf]) (T_of (by kernel_rfl) h)
theorem w78z {R : RT} (x0 : List (List D)) (x1 : Int) (q0 : Ref) (h : ∃ (I0_0 : Prop) (M0_0 : Nat), ∃ (I0_1 : List (List D) -> Int -> Int -> Prop) (M0_1 : List (List D) -> Int -> Int -> Nat), I0_0 /\
 (I0_0 ->
 (tB (decide (0 < (x0.length : Int))) = true ->
 tB (((gAt x0 0).length : Int) == 11) = true /\
 ∀ _ : Nat -> Nat, ∃ R', Holds Tryz.prog 76 [A.agg (gAt x0 0), A.ptr (.up (Ref.up q0)) 0] [(Ref.up (Ref.up q0), [A.d (D.lit (.int .i64 x1))])] R' /\
 (∀ v H', R' (.ret v) H' -> ∃ x2 : List D, ∃ x3 : Int, v = A.agg x2 /\ H' = [(Ref.up (Ref.up q0), [A.d (D.lit (.int .i64 x3))])] /\
 tB ((x2.length : Int) == 11) = true /\
 Rf.isK .slc ((gAt x0 0).getD 5 D0) = true /\
 ∀ _ : Nat -> Nat, ∃ R', Holds Tryz.prog 107 [A.d (D.slc (Rf.dlst ((gAt x0 0).getD 5 D0))), A.fn 75 [.up (Ref.up q0)], A.fn 76 [.up (Ref.up q0)]] [(Ref.up (Ref.up q0), [A.d (D.lit (.int .i64 x3))])] R' /\
 (∀ v H', R' (.ret v) H' -> ∃ x4 : List (List D), ∃ x5 : Int, v = A.d (D.slc x4) /\ H' = [(Ref.up (Ref.up q0), [A.d (D.lit (.int .i64 x5))])] /\
 Rf.isK .slc ((gAt x0 0).getD 6 D0) = true /\
 ∀ _ : Nat -> Nat, ∃ R', Holds Tryz.prog 78 [A.d (D.slc (Rf.dlst ((gAt x0 0).getD 6 D0))), A.fn 75 [.up (Ref.up q0)], A.fn 76 [.up (Ref.up q0)]] [(Ref.up (Ref.up q0), [A.d (D.lit (.int .i64 x5))])] R' /\
 (∀ v H', R' (.ret v) H' -> ∃ x6 : List (List D), ∃ x7 : Int, v = A.d (D.slc x6) /\ H' = [(Ref.up (Ref.up q0), [A.d (D.lit (.int .i64 x7))])] /\
 Rf.isK .slc (x2.getD 8 D0) = true /\
 ∃ x8 : List (List D), (∀ _ : Nat -> Nat, Holds Tryz.prog 69 [A.d (D.slc (Rf.dlst (x2.getD 8 D0)))] [] (Zay [] (A.d (D.slc x8)))) /\
 Rf.isK .slc (x2.getD 7 D0) = true /\
 ∃ x9 : List (List D), (∀ _ : Nat -> Nat, Holds Tryz.prog 69 [A.d (D.slc (Rf.dlst (x2.getD 7 D0)))] [] (Zay [] (A.d (D.slc x9)))) /\
 tB (decide (((0 + ([[x2.getD 0 D0, x2.getD 1 D0, x2.getD 2 D0, x2.getD 3 D0, x2.getD 4 D0, D.slc x4, D.slc x6, D.slc x9, D.slc x8, x2.getD 9 D0, x2.getD 10 D0]].length : Int)) * 184) <= 140737488355328)) = true /\
 tB (decide ((0 + ([[x2.getD 0 D0, x2.getD 1 D0, x2.getD 2 D0, x2.getD 3 D0, x2.getD 4 D0, D.slc x4, D.slc x6, D.slc x9, D.slc x8, x2.getD 9 D0, x2.getD 10 D0]].length : Int)) <= 1099511627776)) = true /\
 I0_1 [[x2.getD 0 D0, x2.getD 1 D0, x2.getD 2 D0, x2.getD 3 D0, x2.getD 4 D0, D.slc x4, D.slc x6, D.slc x9, D.slc x8, x2.getD 9 D0, x2.getD 10 D0]] 1 x7 /\ M0_1 [[x2.getD 0 D0, x2.getD 1 D0, x2.getD 2 D0, x2.getD 3 D0, x2.getD 4 D0, D.slc x4, D.slc x6, D.slc x9, D.slc x8, x2.getD 9 D0, x2.getD 10 D0]] 1 x7 < M0_0) /\
 (∀ x6v H', R' (.pan x6v) H' -> ∃ x7 : Int, H' = [(Ref.up (Ref.up q0), [A.d (D.lit (.int .i64 x7))])] /\
 R (.pan x6v) [((Ref.up q0), [A.d (D.lit (.int .i64 x7))])])) /\
 (∀ x4v H', R' (.pan x4v) H' -> ∃ x5 : Int, H' = [(Ref.up (Ref.up q0), [A.d (D.lit (.int .i64 x5))])] /\
 R (.pan x4v) [((Ref.up q0), [A.d (D.lit (.int .i64 x5))])])) /\
 (∀ x2v H', R' (.pan x2v) H' -> ∃ x3 : Int, H' = [(Ref.up (Ref.up q0), [A.d (D.lit (.int .i64 x3))])] /\
 R (.pan x2v) [((Ref.up q0), [A.d (D.lit (.int .i64 x3))])])) /\
 (tB (decide (0 < (x0.length : Int))) = false ->
 R (.ret (A.zs ([] : List (List D)))) [((Ref.up q0), [A.d (D.lit (.int .i64 x1))])])) /\
 (∀ (x2 : List (List D)) (x3 : Int) (x4 : Int) , I0_1 x2 x3 x4 ->
 (tB (decide (x3 < (x0.length : Int))) = true ->
 tB (decide (0 <= x3)) = true /\
 tB (((gAt x0 x3).length : Int) == 11) = true /\
 ∀ _ : Nat -> Nat, ∃ R', Holds Tryz.prog 76 [A.agg (gAt x0 x3), A.ptr (.up (Ref.up q0)) 0] [(Ref.up (Ref.up q0), [A.d (D.lit (.int .i64 x4))])] R' /\
 (∀ v H', R' (.ret v) H' -> ∃ x5 : List D, ∃ x6 : Int, v = A.agg x5 /\ H' = [(Ref.up (Ref.up q0), [A.d (D.lit (.int .i64 x6))])] /\
 tB ((x5.length : Int) == 11) = true /\
 Rf.isK .slc ((gAt x0 x3).getD 5 D0) = true /\
 ∀ _ : Nat -> Nat, ∃ R', Holds Tryz.prog 107 [A.d (D.slc (Rf.dlst ((gAt x0 x3).getD 5 D0))), A.fn 75 [.up (Ref.up q0)], A.fn 76 [.up (Ref.up q0)]] [(Ref.up (Ref.up q0), [A.d (D.lit (.int .i64 x6))])] R' /\
 (∀ v H', R' (.ret v) H' -> ∃ x7 : List (List D), ∃ x8 : Int, v = A.d (D.slc x7) /\ H' = [(Ref.up (Ref.up q0), [A.d (D.lit (.int .i64 x8))])] /\
 Rf.isK .slc ((gAt x0 x3).getD 6 D0) = true /\
 ∀ _ : Nat -> Nat, ∃ R', Holds Tryz.prog 78 [A.d (D.slc (Rf.dlst ((gAt x0 x3).getD 6 D0))), A.fn 75 [.up (Ref.up q0)], A.fn 76 [.up (Ref.up q0)]] [(Ref.up (Ref.up q0), [A.d (D.lit (.int .i64 x8))])] R' /\
 (∀ v H', R' (.ret v) H' -> ∃ x9 : List (List D), ∃ x10 : Int, v = A.d (D.slc x9) /\ H' = [(Ref.up (Ref.up q0), [A.d (D.lit (.int .i64 x10))])] /\
 Rf.isK .slc (x5.getD 8 D0) = true /\
 ∃ x11 : List (List D), (∀ _ : Nat -> Nat, Holds Tryz.prog 69 [A.d (D.slc (Rf.dlst (x5.getD 8 D0)))] [] (Zay [] (A.d (D.slc x11)))) /\
 Rf.isK .slc (x5.getD 7 D0) = true /\
 ∃ x12 : List (List D), (∀ _ : Nat -> Nat, Holds Tryz.prog 69 [A.d (D.slc (Rf.dlst (x5.getD 7 D0)))] [] (Zay [] (A.d (D.slc x12)))) /\
 tB (decide ((((x2.length : Int) + ([[x5.getD 0 D0, x5.getD 1 D0, x5.getD 2 D0, x5.getD 3 D0, x5.getD 4 D0, D.slc x7, D.slc x9, D.slc x12, D.slc x11, x5.getD 9 D0, x5.getD 10 D0]].length : Int)) * 184) <= 140737488355328)) = true /\
 tB (decide (((x2.length : Int) + ([[x5.getD 0 D0, x5.getD 1 D0, x5.getD 2 D0, x5.getD 3 D0, x5.getD 4 D0, D.slc x7, D.slc x9, D.slc x12, D.slc x11, x5.getD 9 D0, x5.getD 10 D0]].length : Int)) <= 1099511627776)) = true /\
 tB (decide ((-9223372036854775808) <= (x3 + 1))) = true /\
 tB (decide ((x3 + 1) <= 9223372036854775807)) = true /\
 I0_1 (x2 ++ [[x5.getD 0 D0, x5.getD 1 D0, x5.getD 2 D0, x5.getD 3 D0, x5.getD 4 D0, D.slc x7, D.slc x9, D.slc x12, D.slc x11, x5.getD 9 D0, x5.getD 10 D0]]) (x3 + 1) x10 /\ M0_1 (x2 ++ [[x5.getD 0 D0, x5.getD 1 D0, x5.getD 2 D0, x5.getD 3 D0, x5.getD 4 D0, D.slc x7, D.slc x9, D.slc x12, D.slc x11, x5.getD 9 D0, x5.getD 10 D0]]) (x3 + 1) x10 < M0_1 x2 x3 x4) /\
 (∀ x9v H', R' (.pan x9v) H' -> ∃ x10 : Int, H' = [(Ref.up (Ref.up q0), [A.d (D.lit (.int .i64 x10))])] /\
 R (.pan x9v) [((Ref.up q0), [A.d (D.lit (.int .i64 x10))])])) /\
 (∀ x7v H', R' (.pan x7v) H' -> ∃ x8 : Int, H' = [(Ref.up (Ref.up q0), [A.d (D.lit (.int .i64 x8))])] /\
 R (.pan x7v) [((Ref.up q0), [A.d (D.lit (.int .i64 x8))])])) /\
 (∀ x5v H', R' (.pan x5v) H' -> ∃ x6 : Int, H' = [(Ref.up (Ref.up q0), [A.d (D.lit (.int .i64 x6))])] /\
 R (.pan x5v) [((Ref.up q0), [A.d (D.lit (.int .i64 x6))])])) /\
 (tB (decide (x3 < (x0.length : Int))) = false ->
 R (.ret (A.d (D.slc x2))) [((Ref.up q0), [A.d (D.lit (.int .i64 x4))])])) /\
 True) :
 Holds Tryz.prog 78 [A.d (D.slc x0), A.fn 75 [Ref.up q0], A.fn 76 [Ref.up q0]] [((Ref.up q0), [A.d (D.lit (.int .i64 x1))])] R :=
 walk (c := ⟨Tryz.prog, 46, true, [0, 1, 2, 6, 7, 9, 10, 11, 12, 13, 14]⟩) (op := { com := [(10, (14, 5000)), (10, (9, 5000)), (10, (10, 5000))] }) (fn := Tryz.f78) (args := [.c (.o1 .cl (.var 0)), .fn 75 [.up 0], .fn 76 [.up 0]]) (K := [(.up 0, [.c (.o1 (.ci .i64) (.var 1))])]) (nv := 2) (depth := 6) (up := upOf [q0]) (ρ := Zc4 [.l x0, .i x1])
  rfl rfl rfl rfl rfl (by decide) (by decide) (by decide) (by decide) rfl (by simp [Zac, RRef.den, upOf]) (T_of (by kernel_rfl) h)
theorem Z18 {R : RT} (x0 : List (List D)) (x1 : Int) (q0 : Ref) (h : ∃ (I0_0 : Prop) (M0_0 : Nat), ∃ (I0_1 : List (List D) -> Int -> Int -> Prop) (M0_1 : List (List D) -> Int -> Int -> Nat), I0_0 /\
 (I0_0 ->
 (tB (decide (0 < (x0.length : Int))) = true ->
 tB (((gAt x0 0).length : Int) == 9) = true /\
 ∀ _ : Nat -> Nat, ∃ R', Holds Tryz.prog 74 [A.agg (gAt x0 0), A.fn 75 [.up (Ref.up q0)], A.fn 76 [.up (Ref.up q0)]] [(Ref.up (Ref.up q0), [A.d (D.lit (.int .i64 x1))])] R' /\
 (∀ v H', R' (.ret v) H' -> ∃ x2 : List D, ∃ x3 : Int, v = A.agg x2 /\ H' = [(Ref.up (Ref.up q0), [A.d (D.lit (.int .i64 x3))])] /\
 tB ((x2.length : Int) == 9) = true /\
 (Zjm 9 [x2]) = true /\
 tB (decide (((0 + ([x2].length : Int)) * 144) <= 140737488355328)) = true /\
 tB (decide ((0 + ([x2].length : Int)) <= 1099511627776)) = true /\
 I0_1 [x2] 1 x3 /\ M0_1 [x2] 1 x3 < M0_0) /\
 (∀ x2v H', R' (.pan x2v) H' -> ∃ x3 : Int, H' = [(Ref.up (Ref.up q0), [A.d (D.lit (.int .i64 x3))])] /\
 R (.pan x2v) [((Ref.up q0), [A.d (D.lit (.int .i64 x3))])])) /\
 (tB (decide (0 < (x0.length : Int))) = false ->
 R (.ret (A.zs ([] : List (List D)))) [((Ref.up q0), [A.d (D.lit (.int .i64 x1))])])) /\
 (∀ (x2 : List (List D)) (x3 : Int) (x4 : Int) , I0_1 x2 x3 x4 ->
 (tB (decide (x3 < (x0.length : Int))) = true ->
 tB (decide (0 <= x3)) = true /\
 tB (((gAt x0 x3).length : Int) == 9) = true /\
 ∀ _ : Nat -> Nat, ∃ R', Holds Tryz.prog 74 [A.agg (gAt x0 x3), A.fn 75 [.up (Ref.up q0)], A.fn 76 [.up (Ref.up q0)]] [(Ref.up (Ref.up q0), [A.d (D.lit (.int .i64 x4))])] R' /\
 (∀ v H', R' (.ret v) H' -> ∃ x5 : List D, ∃ x6 : Int, v = A.agg x5 /\ H' = [(Ref.up (Ref.up q0), [A.d (D.lit (.int .i64 x6))])] /\
 tB ((x5.length : Int) == 9) = true /\
 (Zjm 9 [x5]) = true /\
 tB (decide ((((x2.length : Int) + ([x5].length : Int)) * 144) <= 140737488355328)) = true /\
 tB (decide (((x2.length : Int) + ([x5].length : Int)) <= 1099511627776)) = true /\
 tB (decide ((-9223372036854775808) <= (x3 + 1))) = true /\
 tB (decide ((x3 + 1) <= 9223372036854775807)) = true /\
 I0_1 (x2 ++ [x5]) (x3 + 1) x6 /\ M0_1 (x2 ++ [x5]) (x3 + 1) x6 < M0_1 x2 x3 x4) /\
 (∀ x5v H', R' (.pan x5v) H' -> ∃ x6 : Int, H' = [(Ref.up (Ref.up q0), [A.d (D.lit (.int .i64 x6))])] /\
 R (.pan x5v) [((Ref.up q0), [A.d (D.lit (.int .i64 x6))])])) /\
 (tB (decide (x3 < (x0.length : Int))) = false ->
 R (.ret (A.d (D.slc x2))) [((Ref.up q0), [A.d (D.lit (.int .i64 x4))])])) /\
 True) :
 Holds Tryz.prog 107 [A.d (D.slc x0), A.fn 75 [Ref.up q0], A.fn 76 [Ref.up q0]] [((Ref.up q0), [A.d (D.lit (.int .i64 x1))])] R :=
 walk (c := ⟨Tryz.prog, 25, true, [0, 1, 2, 6, 7, 9, 10, 11, 12, 13]⟩) (op := { com := [(6, (13, 5000)), (6, (9, 5000))] }) (fn := Tryz.f107) (args := [.c (.o1 .cl (.var 0)), .fn 75 [.up 0], .fn 76 [.up 0]]) (K := [(.up 0, [.c (.o1 (.ci .i64) (.var 1))])]) (nv := 2) (depth := 5) (up := upOf [q0]) (ρ := Zc4 [.l x0, .i x1])
  rfl rfl rfl rfl rfl (by decide) (by decide) (by decide) (by decide) rfl (by simp [Zac, RRef.den, upOf]) (T_of (by kernel_rfl) h)
theorem w75 {R : RT} (x0 : List D) (x1 : Int) (q0 : Ref) (h : tB ((x0.length : Int) == 9) = true /\
 tB (decide ((-9223372036854775808) <= (x1 + 1))) = true /\
 tB (decide ((x1 + 1) <= 9223372036854775807)) = true /\
 R (.ret (A.agg x0)) [((Ref.up q0), [A.d (D.lit (.int .i64 (x1 + 1)))])]) :
 Holds Tryz.prog 75 [A.agg x0, A.ptr (Ref.up q0) 0] [((Ref.up q0), [A.d (D.lit (.int .i64 x1))])] R :=
 walk (c := ⟨Tryz.prog, 7, true, [0, 1, 2, 3]⟩) (op := {}) (fn := Tryz.f75) (args := [.agg (.var 0), .ptr (.up 0) 0]) (K := [(.up 0, [.c (.o1 (.ci .i64) (.var 1))])]) (nv := 2) (depth := 3) (up := upOf [q0]) (ρ := Zc4 [.r x0, .i x1])
  rfl rfl rfl rfl rfl (by decide) (by decide) (by decide) (by decide) rfl (by simp [Zac, RRef.den, upOf]) (T_of (by kernel_rfl) h)
theorem w76 {R : RT} (x0 : List D) (x1 : Int) (q0 : Ref) (h : tB ((x0.length : Int) == 11) = true /\
 tB (decide ((-9223372036854775808) <= (x1 + 1))) = true /\
 tB (decide ((x1 + 1) <= 9223372036854775807)) = true /\
 R (.ret (A.agg x0)) [((Ref.up q0), [A.d (D.lit (.int .i64 (x1 + 1)))])]) :
 Holds Tryz.prog 76 [A.agg x0, A.ptr (Ref.up q0) 0] [((Ref.up q0), [A.d (D.lit (.int .i64 x1))])] R :=
 walk (c := ⟨Tryz.prog, 7, true, [0, 1, 2, 3]⟩) (op := {}) (fn := Tryz.f76) (args := [.agg (.var 0), .ptr (.up 0) 0]) (K := [(.up 0, [.c (.o1 (.ci .i64) (.var 1))])]) (nv := 2) (depth := 3) (up := upOf [q0]) (ρ := Zc4 [.r x0, .i x1])
  rfl rfl rfl rfl rfl (by decide) (by decide) (by decide) (by decide) rfl (by simp [Zac, RRef.den, upOf]) (T_of (by kernel_rfl) h)
theorem w26 {R : RT} (x0 : List D) (h : tB ((x0.length : Int) == 9) = true /\
 ∀ ν : Nat -> Nat, ∃ R', Holds Tryz.prog 74 [A.agg x0, A.fn 75 [.up (Ref.own 3 (ν 3))], A.fn 76 [.up (Ref.own 3 (ν 3))]] [(Ref.up (Ref.own 3 (ν 3)), [A.d (D.lit (.int .i64 0))])] R' /\
 (∀ v H', R' (.ret v) H' -> ∃ x1 : List D, ∃ x2 : Int, v = A.agg x1 /\ H' = [(Ref.up (Ref.own 3 (ν 3)), [A.d (D.lit (.int .i64 x2))])] /\
 R (.ret (A.d (D.lit (.int .i64 x2)))) []) /\
 (∀ x1v H', R' (.pan x1v) H' -> ∃ x2 : Int, H' = [(Ref.up (Ref.own 3 (ν 3)), [A.d (D.lit (.int .i64 x2))])] /\
 R (.pan x1v) [])) :
 Holds Tryz.prog 26 [A.agg x0] [] R :=
 walk (c := ⟨Tryz.prog, 9, true, [0, 1, 2, 3]⟩) (op := {}) (fn := Tryz.f26) (args := [.agg (.var 0)]) (K := []) (nv := 1) (depth := 4) (up := upOf []) (ρ := Zc4 [.r x0])
  rfl rfl rfl rfl rfl (by decide) (by decide) (by decide) (by decide) rfl (by simp [Zac, RRef.den, upOf]) (T_of (by kernel_rfl) h)
end Go.Sy
end
section
open Go Go.Proofs Go.Ab Go.Rf
set_option maxRecDepth 1000000
set_option maxHeartbeats 2000000
set_option linter.unusedVariables false
namespace Go.Sy
end Go.Sy
end
section
open Go Go.Proofs Go.Ab Go.Rf
set_option maxRecDepth 1000000
set_option maxHeartbeats 2000000
set_option linter.unusedVariables false
namespace Go.Sy
end Go.Sy
end
section
open Go Go.Proofs Go.Ab Go.Rf
set_option maxRecDepth 1000000
set_option maxHeartbeats 2000000
set_option linter.unusedVariables false
namespace Go.Sy
end Go.Sy
end
section
open Go Go.Proofs Go.Ab Go.Rf
set_option maxRecDepth 1000000
set_option maxHeartbeats 2000000
set_option linter.unusedVariables false
namespace Go.Sy
theorem w24 {R : RT} (x0 : List D) (h : tB ((x0.length : Int) == 9) = true /\
 ∀ ν : Nat -> Nat, ∃ R', Holds Tryz.prog 70 [A.agg x0, (A.zs ([] : List (List D))), A.ptr (.up (Ref.own 3 (ν 3))) 0, A.ptr (.up (Ref.own 6 (ν 6))) 0, A.ptr (.up (Ref.own 4 (ν 4))) 0, A.ptr (.up (Ref.own 5 (ν 5))) 0] [(Ref.up (Ref.own 3 (ν 3)), [(A.zs ([] : List (List D)))]), (Ref.up (Ref.own 6 (ν 6)), [A.fn 68 []]), (Ref.up (Ref.own 4 (ν 4)), [A.fn 70 [.up (Ref.own 3 (ν 3)), .up (Ref.own 6 (ν 6)), .up (Ref.own 4 (ν 4)), .up (Ref.own 5 (ν 5))]]), (Ref.up (Ref.own 5 (ν 5)), [A.fn 72 [.up (Ref.own 4 (ν 4)), .up (Ref.own 6 (ν 6)), .up (Ref.own 5 (ν 5))]])] R' /\
 (∀ v H', R' (.ret v) H' -> (v = (A.tup []) /\ H' = [(Ref.up (Ref.own 3 (ν 3)), [(A.zs ([] : List (List D)))]), (Ref.up (Ref.own 6 (ν 6)), [A.fn 68 []]), (Ref.up (Ref.own 4 (ν 4)), [A.fn 70 [.up (Ref.own 3 (ν 3)), .up (Ref.own 6 (ν 6)), .up (Ref.own 4 (ν 4)), .up (Ref.own 5 (ν 5))]]), (Ref.up (Ref.own 5 (ν 5)), [A.fn 72 [.up (Ref.own 4 (ν 4)), .up (Ref.own 6 (ν 6)), .up (Ref.own 5 (ν 5))]])] /\
 R (.ret (A.zs ([] : List (List D)))) []) \/
 (∃ x1 : List (List D), v = A.tup [] /\ H' = [(Ref.up (Ref.own 3 (ν 3)), [(A.own 1 x1 ([] : List (List D)))]), (Ref.up (Ref.own 6 (ν 6)), [A.fn 68 []]), (Ref.up (Ref.own 4 (ν 4)), [A.fn 70 [.up (Ref.own 3 (ν 3)), .up (Ref.own 6 (ν 6)), .up (Ref.own 4 (ν 4)), .up (Ref.own 5 (ν 5))]]), (Ref.up (Ref.own 5 (ν 5)), [A.fn 72 [.up (Ref.own 4 (ν 4)), .up (Ref.own 6 (ν 6)), .up (Ref.own 5 (ν 5))]])] /\
 R (.ret (A.own 1 x1 ([] : List (List D)))) [])) /\
 (∀ x1v H', R' (.pan x1v) H' -> ∃ x2 : List (List D), H' = [(Ref.up (Ref.own 3 (ν 3)), [A.zs x2]), (Ref.up (Ref.own 6 (ν 6)), [A.fn 68 []]), (Ref.up (Ref.own 4 (ν 4)), [A.fn 70 [.up (Ref.own 3 (ν 3)), .up (Ref.own 6 (ν 6)), .up (Ref.own 4 (ν 4)), .up (Ref.own 5 (ν 5))]]), (Ref.up (Ref.own 5 (ν 5)), [A.fn 72 [.up (Ref.own 4 (ν 4)), .up (Ref.own 6 (ν 6)), .up (Ref.own 5 (ν 5))]])] /\
 R (.pan x1v) [])) :
 Holds Tryz.prog 24 [A.agg x0] [] R :=
 walk (c := ⟨Tryz.prog, 13, true, [0, 1, 2, 3, 4, 5, 6]⟩) (op := { fresh := [12], two := [(70, 1), (72, 1), (85, 1), (86, 1), (87, 1)] }) (fn := Tryz.f24) (args := [.agg (.var 0)]) (K := []) (nv := 1) (depth := 4) (up := upOf []) (ρ := Zc4 [.r x0])
  rfl rfl rfl rfl rfl (by decide) (by decide) (by decide) (by decide) rfl (by simp [Zac, RRef.den, upOf]) (T_of (by kernel_rfl) h)
theorem w68a {R : RT} (x0 : List (List D)) (x1 : List D) (h : tB ((x1.length : Int) == 2) = true /\
 ∀ _ : Nat -> Nat, ∃ R', Holds Tryz.prog 69 [A.d (D.slc x0)] [] R' /\
 (∀ v H', R' (.ret v) H' -> ∃ x2 : List (List D), v = A.own 1 x2 ([] : List (List D)) /\ H' = [] /\
 (Zjm 1 [[x1.getD 0 D0], [x1.getD 1 D0]]) = true /\
 tB (decide ((((x2.length : Int) + ([[x1.getD 0 D0], [x1.getD 1 D0]].length : Int)) * 16) <= 140737488355328)) = true /\
 tB (decide (((x2.length : Int) + ([[x1.getD 0 D0], [x1.getD 1 D0]].length : Int)) <= 1099511627776)) = true /\
 R (.ret (A.own 1 (x2 ++ [[x1.getD 0 D0], [x1.getD 1 D0]]) ([] : List (List D)))) []) /\
 PN R R') :
 Holds Tryz.prog 68 [A.d (D.slc x0), A.agg x1] [] R :=
 walk (c := ⟨Tryz.prog, 9, true, [0, 1, 3, 4]⟩) (op := { own := [(69, 1)], lat := [1] }) (fn := Tryz.f68) (args := [.c (.o1 .cl (.var 0)), .agg (.var 1)]) (K := []) (nv := 2) (depth := 4) (up := upOf []) (ρ := Zc4 [.l x0, .r x1])
  rfl rfl rfl rfl rfl (by decide) (by decide) (by decide) (by decide) rfl (by simp [Zac, RRef.den, upOf]) (T_of (by kernel_rfl) h)
theorem w68b {R : RT} (x0 : List (List D)) (x1 : List D) (h : tB ((x1.length : Int) == 2) = true /\
 ∀ _ : Nat -> Nat, ∃ R', Holds Tryz.prog 69 [A.d (D.slc x0)] [] R' /\
 (∀ v H', R' (.ret v) H' -> v = (A.zs ([] : List (List D))) /\ H' = [] /\
 (Zjm 1 [[x1.getD 0 D0], [x1.getD 1 D0]]) = true /\
 tB (decide (((0 + ([[x1.getD 0 D0], [x1.getD 1 D0]].length : Int)) * 16) <= 140737488355328)) = true /\
 tB (decide ((0 + ([[x1.getD 0 D0], [x1.getD 1 D0]].length : Int)) <= 1099511627776)) = true /\
 R (.ret (A.own 1 [[x1.getD 0 D0], [x1.getD 1 D0]] ([] : List (List D)))) []) /\
 PN R R') :
 Holds Tryz.prog 68 [A.d (D.slc x0), A.agg x1] [] R :=
 walk (c := ⟨Tryz.prog, 9, true, [0, 1, 3, 4]⟩) (op := { lat := [1], zres := [69] }) (fn := Tryz.f68) (args := [.c (.o1 .cl (.var 0)), .agg (.var 1)]) (K := []) (nv := 2) (depth := 4) (up := upOf []) (ρ := Zc4 [.l x0, .r x1])
  rfl rfl rfl rfl rfl (by decide) (by decide) (by decide) (by decide) rfl (by simp [Zac, RRef.den, upOf]) (T_of (by kernel_rfl) h)
theorem w70a {R : RT} (x0 : List D) (x1 : List (List D)) (q0 q1 q2 q3 : Ref) (hq01 : q0 ≠ q1) (hq02 : q0 ≠ q2) (hq12 : q1 ≠ q2) (hq03 : q0 ≠ q3) (hq13 : q1 ≠ q3) (hq23 : q2 ≠ q3) (h : tB ((x0.length : Int) == 9) = true /\
 ∃ J0_0 : Prop, ∃ J0_1 : Prop, ∃ J0_2 : Prop, (Rf.isK (.int .i64) (x0.getD 0 D0) = true /\
 ((!(tB ((Rf.dint (x0.getD 0 D0)) == 10))) || (Rf.isK .str (x0.getD 3 D0))) = true /\
 (((tB ((Rf.dint (x0.getD 0 D0)) == 10)) && (tB ((Rf.dstr (x0.getD 3 D0)) == ([108, 101, 116] : List UInt8)))) = true ->
 J0_0) /\
 (((tB ((Rf.dint (x0.getD 0 D0)) == 10)) && (tB ((Rf.dstr (x0.getD 3 D0)) == ([108, 101, 116] : List UInt8)))) = false ->
 ((!(tB ((Rf.dint (x0.getD 0 D0)) == 10))) || (Rf.isK .str (x0.getD 1 D0))) = true /\
 (tB ((Rf.dint (x0.getD 0 D0)) == 10) = true ->
 ∀ _ : Nat -> Nat, ∃ R', Holds Tryz.prog 71 [A.d (D.slc x1), A.d (D.lit (Zaa (Rf.dstr (x0.getD 1 D0))))] [] R' /\
 (∀ v H', R' (.ret v) H' -> ∃ x2 : Bool, v = A.d (D.lit (.bool x2)) /\ H' = [] /\
 (x2 || (Rf.isK .str (x0.getD 1 D0))) = true /\
 ((!x2) = true ->
 ∀ _ : Nat -> Nat, ∃ R', Holds Tryz.prog 71 [(A.zs ([] : List (List D))), A.d (D.lit (Zaa (Rf.dstr (x0.getD 1 D0))))] [] R' /\
 (∀ v H', R' (.ret v) H' -> ∃ x3 : Bool, v = A.d (D.lit (.bool x3)) /\ H' = [] /\
 ((!x3) = true ->
 Rf.isK .str (x0.getD 1 D0) = true /\
 tB (decide (((0 + ([[D.lit (Zaa (Rf.dstr (x0.getD 1 D0)))]].length : Int)) * 16) <= 140737488355328)) = true /\
 tB (decide ((0 + ([[D.lit (Zaa (Rf.dstr (x0.getD 1 D0)))]].length : Int)) <= 1099511627776)) = true /\
 J0_1) /\
 ((!x3) = false ->
 J0_2)) /\
 (∀ x3v H', R' (.pan x3v) H' -> H' = [] /\
 R (.pan x3v) [((Ref.up q0), [(A.zs ([] : List (List D)))]), ((Ref.up q1), [A.fn 68 []]), ((Ref.up q2), [A.fn 70 [Ref.up q0, Ref.up q1, Ref.up q2, Ref.up q3]]), ((Ref.up q3), [A.fn 72 [Ref.up q2, Ref.up q1, Ref.up q3]])])) /\
 ((!x2) = false ->
 J0_2)) /\
 (∀ x2v H', R' (.pan x2v) H' -> H' = [] /\
 R (.pan x2v) [((Ref.up q0), [(A.zs ([] : List (List D)))]), ((Ref.up q1), [A.fn 68 []]), ((Ref.up q2), [A.fn 70 [Ref.up q0, Ref.up q1, Ref.up q2, Ref.up q3]]), ((Ref.up q3), [A.fn 72 [Ref.up q2, Ref.up q1, Ref.up q3]])])) /\
 (tB ((Rf.dint (x0.getD 0 D0)) == 10) = false ->
 J0_2))) /\
 (J0_0 ->
 Rf.isK .slc (x0.getD 5 D0) = true /\
 ∃ (I0_0 : Int -> Prop) (M0_0 : Int -> Nat), ∃ (I0_1 : Int -> List (List D) -> Prop) (M0_1 : Int -> List (List D) -> Nat), I0_0 0 /\
 (∀ (x2 : Int) , I0_0 x2 ->
 (tB (decide (x2 < ((Rf.dlst (x0.getD 5 D0)).length : Int))) = true ->
 tB (decide (0 <= x2)) = true /\
 tB (((gAt (Rf.dlst (x0.getD 5 D0)) x2).length : Int) == 9) = true /\
 ∃ J1_0 : List (List D) -> Prop, ∃ J1_1 : Prop, (Rf.isK (.int .i64) (x0.getD 0 D0) = true /\
 (((tB ((Rf.dint (x0.getD 0 D0)) == 15)) && (tB (decide (0 < x2)))) = true ->
 ∀ _ : Nat -> Nat, ∃ R', Holds Tryz.prog 68 [(A.d (D.slc ([] : List (List D)))), A.agg [x0.getD 3 D0, x0.getD 4 D0]] [] R' /\
 (∀ v H', R' (.ret v) H' -> ∃ x3 : List (List D), v = A.own 1 x3 ([] : List (List D)) /\ H' = [] /\
 J1_0 x3) /\
 (∀ x3v H', R' (.pan x3v) H' -> H' = [] /\
 R (.pan x3v) [((Ref.up q0), [(A.zs ([] : List (List D)))]), ((Ref.up q1), [A.fn 68 []]), ((Ref.up q2), [A.fn 70 [Ref.up q0, Ref.up q1, Ref.up q2, Ref.up q3]]), ((Ref.up q3), [A.fn 72 [Ref.up q2, Ref.up q1, Ref.up q3]])])) /\
 (((tB ((Rf.dint (x0.getD 0 D0)) == 15)) && (tB (decide (0 < x2)))) = false ->
 J1_1)) /\
 (∀ (x3 : List (List D)) , J1_0 x3 ->
 ∀ _ : Nat -> Nat, ∃ R', Holds Tryz.prog 70 [A.agg (gAt (Rf.dlst (x0.getD 5 D0)) x2), A.d (D.slc x3), A.ptr (.up (Ref.up q0)) 0, A.ptr (.up (Ref.up q1)) 0, A.ptr (.up (Ref.up q2)) 0, A.ptr (.up (Ref.up q3)) 0] [(Ref.up (Ref.up q0), [(A.zs ([] : List (List D)))]), (Ref.up (Ref.up q1), [A.fn 68 []]), (Ref.up (Ref.up q2), [A.fn 70 [.up (Ref.up q0), .up (Ref.up q1), .up (Ref.up q2), .up (Ref.up q3)]]), (Ref.up (Ref.up q3), [A.fn 72 [.up (Ref.up q2), .up (Ref.up q1), .up (Ref.up q3)]])] R' /\
 (∀ v H', R' (.ret v) H' -> (v = (A.tup []) /\ H' = [(Ref.up (Ref.up q0), [(A.zs ([] : List (List D)))]), (Ref.up (Ref.up q1), [A.fn 68 []]), (Ref.up (Ref.up q2), [A.fn 70 [.up (Ref.up q0), .up (Ref.up q1), .up (Ref.up q2), .up (Ref.up q3)]]), (Ref.up (Ref.up q3), [A.fn 72 [.up (Ref.up q2), .up (Ref.up q1), .up (Ref.up q3)]])] /\
 tB (decide ((-9223372036854775808) <= (x2 + 1))) = true /\
 tB (decide ((x2 + 1) <= 9223372036854775807)) = true /\
 I0_0 (x2 + 1) /\ M0_0 (x2 + 1) < M0_0 x2) \/
 (∃ x4 : List (List D), v = A.tup [] /\ H' = [(Ref.up (Ref.up q0), [(A.own 1 x4 ([] : List (List D)))]), (Ref.up (Ref.up q1), [A.fn 68 []]), (Ref.up (Ref.up q2), [A.fn 70 [.up (Ref.up q0), .up (Ref.up q1), .up (Ref.up q2), .up (Ref.up q3)]]), (Ref.up (Ref.up q3), [A.fn 72 [.up (Ref.up q2), .up (Ref.up q1), .up (Ref.up q3)]])] /\
 tB (decide ((-9223372036854775808) <= (x2 + 1))) = true /\
 tB (decide ((x2 + 1) <= 9223372036854775807)) = true /\
 I0_1 (x2 + 1) x4 /\ M0_1 (x2 + 1) x4 < M0_0 x2)) /\
 (∀ x4v H', R' (.pan x4v) H' -> ∃ x5 : List (List D), H' = [(Ref.up (Ref.up q0), [A.zs x5]), (Ref.up (Ref.up q1), [A.fn 68 []]), (Ref.up (Ref.up q2), [A.fn 70 [.up (Ref.up q0), .up (Ref.up q1), .up (Ref.up q2), .up (Ref.up q3)]]), (Ref.up (Ref.up q3), [A.fn 72 [.up (Ref.up q2), .up (Ref.up q1), .up (Ref.up q3)]])] /\
 R (.pan x4v) [((Ref.up q0), [A.zs x5]), ((Ref.up q1), [A.fn 68 []]), ((Ref.up q2), [A.fn 70 [Ref.up q0, Ref.up q1, Ref.up q2, Ref.up q3]]), ((Ref.up q3), [A.fn 72 [Ref.up q2, Ref.up q1, Ref.up q3]])])) /\
 (J1_1 ->
 ∀ _ : Nat -> Nat, ∃ R', Holds Tryz.prog 70 [A.agg (gAt (Rf.dlst (x0.getD 5 D0)) x2), (A.d (D.slc ([] : List (List D)))), A.ptr (.up (Ref.up q0)) 0, A.ptr (.up (Ref.up q1)) 0, A.ptr (.up (Ref.up q2)) 0, A.ptr (.up (Ref.up q3)) 0] [(Ref.up (Ref.up q0), [(A.zs ([] : List (List D)))]), (Ref.up (Ref.up q1), [A.fn 68 []]), (Ref.up (Ref.up q2), [A.fn 70 [.up (Ref.up q0), .up (Ref.up q1), .up (Ref.up q2), .up (Ref.up q3)]]), (Ref.up (Ref.up q3), [A.fn 72 [.up (Ref.up q2), .up (Ref.up q1), .up (Ref.up q3)]])] R' /\
 (∀ v H', R' (.ret v) H' -> (v = (A.tup []) /\ H' = [(Ref.up (Ref.up q0), [(A.zs ([] : List (List D)))]), (Ref.up (Ref.up q1), [A.fn 68 []]), (Ref.up (Ref.up q2), [A.fn 70 [.up (Ref.up q0), .up (Ref.up q1), .up (Ref.up q2), .up (Ref.up q3)]]), (Ref.up (Ref.up q3), [A.fn 72 [.up (Ref.up q2), .up (Ref.up q1), .up (Ref.up q3)]])] /\
 tB (decide ((-9223372036854775808) <= (x2 + 1))) = true /\
 tB (decide ((x2 + 1) <= 9223372036854775807)) = true /\
 I0_0 (x2 + 1) /\ M0_0 (x2 + 1) < M0_0 x2) \/
 (∃ x3 : List (List D), v = A.tup [] /\ H' = [(Ref.up (Ref.up q0), [(A.own 1 x3 ([] : List (List D)))]), (Ref.up (Ref.up q1), [A.fn 68 []]), (Ref.up (Ref.up q2), [A.fn 70 [.up (Ref.up q0), .up (Ref.up q1), .up (Ref.up q2), .up (Ref.up q3)]]), (Ref.up (Ref.up q3), [A.fn 72 [.up (Ref.up q2), .up (Ref.up q1), .up (Ref.up q3)]])] /\
 tB (decide ((-9223372036854775808) <= (x2 + 1))) = true /\
 tB (decide ((x2 + 1) <= 9223372036854775807)) = true /\
 I0_1 (x2 + 1) x3 /\ M0_1 (x2 + 1) x3 < M0_0 x2)) /\
 (∀ x3v H', R' (.pan x3v) H' -> ∃ x4 : List (List D), H' = [(Ref.up (Ref.up q0), [A.zs x4]), (Ref.up (Ref.up q1), [A.fn 68 []]), (Ref.up (Ref.up q2), [A.fn 70 [.up (Ref.up q0), .up (Ref.up q1), .up (Ref.up q2), .up (Ref.up q3)]]), (Ref.up (Ref.up q3), [A.fn 72 [.up (Ref.up q2), .up (Ref.up q1), .up (Ref.up q3)]])] /\
 R (.pan x3v) [((Ref.up q0), [A.zs x4]), ((Ref.up q1), [A.fn 68 []]), ((Ref.up q2), [A.fn 70 [Ref.up q0, Ref.up q1, Ref.up q2, Ref.up q3]]), ((Ref.up q3), [A.fn 72 [Ref.up q2, Ref.up q1, Ref.up q3]])])) /\
 True) /\
 (tB (decide (x2 < ((Rf.dlst (x0.getD 5 D0)).length : Int))) = false ->
 Rf.isK .slc (x0.getD 6 D0) = true /\
 ∀ _ : Nat -> Nat, ∃ R', Holds Tryz.prog 72 [A.d (D.slc (Rf.dlst (x0.getD 6 D0))), (A.d (D.slc ([] : List (List D)))), A.ptr (.up (Ref.up q2)) 0, A.ptr (.up (Ref.up q1)) 0, A.ptr (.up (Ref.up q3)) 0] [(Ref.up (Ref.up q2), [A.fn 70 [.up (Ref.up q0), .up (Ref.up q1), .up (Ref.up q2), .up (Ref.up q3)]]), (Ref.up (Ref.up q0), [(A.zs ([] : List (List D)))]), (Ref.up (Ref.up q1), [A.fn 68 []]), (Ref.up (Ref.up q3), [A.fn 72 [.up (Ref.up q2), .up (Ref.up q1), .up (Ref.up q3)]])] R' /\
 (∀ v H', R' (.ret v) H' -> (v = (A.tup []) /\ H' = [(Ref.up (Ref.up q2), [A.fn 70 [.up (Ref.up q0), .up (Ref.up q1), .up (Ref.up q2), .up (Ref.up q3)]]), (Ref.up (Ref.up q0), [(A.zs ([] : List (List D)))]), (Ref.up (Ref.up q1), [A.fn 68 []]), (Ref.up (Ref.up q3), [A.fn 72 [.up (Ref.up q2), .up (Ref.up q1), .up (Ref.up q3)]])] /\
 R (.ret (A.tup [])) [((Ref.up q0), [(A.zs ([] : List (List D)))]), ((Ref.up q1), [A.fn 68 []]), ((Ref.up q2), [A.fn 70 [Ref.up q0, Ref.up q1, Ref.up q2, Ref.up q3]]), ((Ref.up q3), [A.fn 72 [Ref.up q2, Ref.up q1, Ref.up q3]])]) \/
 (∃ x3 : List (List D), v = A.tup [] /\ H' = [(Ref.up (Ref.up q2), [A.fn 70 [.up (Ref.up q0), .up (Ref.up q1), .up (Ref.up q2), .up (Ref.up q3)]]), (Ref.up (Ref.up q0), [(A.own 1 x3 ([] : List (List D)))]), (Ref.up (Ref.up q1), [A.fn 68 []]), (Ref.up (Ref.up q3), [A.fn 72 [.up (Ref.up q2), .up (Ref.up q1), .up (Ref.up q3)]])] /\
 R (.ret (A.tup [])) [((Ref.up q0), [(A.own 1 x3 ([] : List (List D)))]), ((Ref.up q1), [A.fn 68 []]), ((Ref.up q2), [A.fn 70 [Ref.up q0, Ref.up q1, Ref.up q2, Ref.up q3]]), ((Ref.up q3), [A.fn 72 [Ref.up q2, Ref.up q1, Ref.up q3]])])) /\
 (∀ x3v H', R' (.pan x3v) H' -> ∃ x4 : List (List D), H' = [(Ref.up (Ref.up q2), [A.fn 70 [.up (Ref.up q0), .up (Ref.up q1), .up (Ref.up q2), .up (Ref.up q3)]]), (Ref.up (Ref.up q0), [A.zs x4]), (Ref.up (Ref.up q1), [A.fn 68 []]), (Ref.up (Ref.up q3), [A.fn 72 [.up (Ref.up q2), .up (Ref.up q1), .up (Ref.up q3)]])] /\
 R (.pan x3v) [((Ref.up q0), [A.zs x4]), ((Ref.up q1), [A.fn 68 []]), ((Ref.up q2), [A.fn 70 [Ref.up q0, Ref.up q1, Ref.up q2, Ref.up q3]]), ((Ref.up q3), [A.fn 72 [Ref.up q2, Ref.up q1, Ref.up q3]])]))) /\
 (∀ (x2 : Int) (x3 : List (List D)) , I0_1 x2 x3 ->
 (tB (decide (x2 < ((Rf.dlst (x0.getD 5 D0)).length : Int))) = true ->
 tB (decide (0 <= x2)) = true /\
 tB (((gAt (Rf.dlst (x0.getD 5 D0)) x2).length : Int) == 9) = true /\
 ∃ J1_0 : List (List D) -> Prop, ∃ J1_1 : Prop, (Rf.isK (.int .i64) (x0.getD 0 D0) = true /\
 (((tB ((Rf.dint (x0.getD 0 D0)) == 15)) && (tB (decide (0 < x2)))) = true ->
 ∀ _ : Nat -> Nat, ∃ R', Holds Tryz.prog 68 [(A.d (D.slc ([] : List (List D)))), A.agg [x0.getD 3 D0, x0.getD 4 D0]] [] R' /\
 (∀ v H', R' (.ret v) H' -> ∃ x4 : List (List D), v = A.own 1 x4 ([] : List (List D)) /\ H' = [] /\
 J1_0 x4) /\
 (∀ x4v H', R' (.pan x4v) H' -> H' = [] /\
 R (.pan x4v) [((Ref.up q0), [(A.own 1 x3 ([] : List (List D)))]), ((Ref.up q1), [A.fn 68 []]), ((Ref.up q2), [A.fn 70 [Ref.up q0, Ref.up q1, Ref.up q2, Ref.up q3]]), ((Ref.up q3), [A.fn 72 [Ref.up q2, Ref.up q1, Ref.up q3]])])) /\
 (((tB ((Rf.dint (x0.getD 0 D0)) == 15)) && (tB (decide (0 < x2)))) = false ->
 J1_1)) /\
 (∀ (x4 : List (List D)) , J1_0 x4 ->
 ∀ _ : Nat -> Nat, ∃ R', Holds Tryz.prog 70 [A.agg (gAt (Rf.dlst (x0.getD 5 D0)) x2), A.d (D.slc x4), A.ptr (.up (Ref.up q0)) 0, A.ptr (.up (Ref.up q1)) 0, A.ptr (.up (Ref.up q2)) 0, A.ptr (.up (Ref.up q3)) 0] [(Ref.up (Ref.up q0), [(A.own 1 x3 ([] : List (List D)))]), (Ref.up (Ref.up q1), [A.fn 68 []]), (Ref.up (Ref.up q2), [A.fn 70 [.up (Ref.up q0), .up (Ref.up q1), .up (Ref.up q2), .up (Ref.up q3)]]), (Ref.up (Ref.up q3), [A.fn 72 [.up (Ref.up q2), .up (Ref.up q1), .up (Ref.up q3)]])] R' /\
 (∀ v H', R' (.ret v) H' -> ∃ x5 : List (List D), v = A.tup [] /\ H' = [(Ref.up (Ref.up q0), [(A.own 1 x5 ([] : List (List D)))]), (Ref.up (Ref.up q1), [A.fn 68 []]), (Ref.up (Ref.up q2), [A.fn 70 [.up (Ref.up q0), .up (Ref.up q1), .up (Ref.up q2), .up (Ref.up q3)]]), (Ref.up (Ref.up q3), [A.fn 72 [.up (Ref.up q2), .up (Ref.up q1), .up (Ref.up q3)]])] /\
 tB (decide ((-9223372036854775808) <= (x2 + 1))) = true /\
 tB (decide ((x2 + 1) <= 9223372036854775807)) = true /\
 I0_1 (x2 + 1) x5 /\ M0_1 (x2 + 1) x5 < M0_1 x2 x3) /\
 (∀ x5v H', R' (.pan x5v) H' -> ∃ x6 : List (List D), H' = [(Ref.up (Ref.up q0), [(A.own 1 x6 ([] : List (List D)))]), (Ref.up (Ref.up q1), [A.fn 68 []]), (Ref.up (Ref.up q2), [A.fn 70 [.up (Ref.up q0), .up (Ref.up q1), .up (Ref.up q2), .up (Ref.up q3)]]), (Ref.up (Ref.up q3), [A.fn 72 [.up (Ref.up q2), .up (Ref.up q1), .up (Ref.up q3)]])] /\
 R (.pan x5v) [((Ref.up q0), [(A.own 1 x6 ([] : List (List D)))]), ((Ref.up q1), [A.fn 68 []]), ((Ref.up q2), [A.fn 70 [Ref.up q0, Ref.up q1, Ref.up q2, Ref.up q3]]), ((Ref.up q3), [A.fn 72 [Ref.up q2, Ref.up q1, Ref.up q3]])])) /\
 (J1_1 ->
 ∀ _ : Nat -> Nat, ∃ R', Holds Tryz.prog 70 [A.agg (gAt (Rf.dlst (x0.getD 5 D0)) x2), (A.d (D.slc ([] : List (List D)))), A.ptr (.up (Ref.up q0)) 0, A.ptr (.up (Ref.up q1)) 0, A.ptr (.up (Ref.up q2)) 0, A.ptr (.up (Ref.up q3)) 0] [(Ref.up (Ref.up q0), [(A.own 1 x3 ([] : List (List D)))]), (Ref.up (Ref.up q1), [A.fn 68 []]), (Ref.up (Ref.up q2), [A.fn 70 [.up (Ref.up q0), .up (Ref.up q1), .up (Ref.up q2), .up (Ref.up q3)]]), (Ref.up (Ref.up q3), [A.fn 72 [.up (Ref.up q2), .up (Ref.up q1), .up (Ref.up q3)]])] R' /\
 (∀ v H', R' (.ret v) H' -> ∃ x4 : List (List D), v = A.tup [] /\ H' = [(Ref.up (Ref.up q0), [(A.own 1 x4 ([] : List (List D)))]), (Ref.up (Ref.up q1), [A.fn 68 []]), (Ref.up (Ref.up q2), [A.fn 70 [.up (Ref.up q0), .up (Ref.up q1), .up (Ref.up q2), .up (Ref.up q3)]]), (Ref.up (Ref.up q3), [A.fn 72 [.up (Ref.up q2), .up (Ref.up q1), .up (Ref.up q3)]])] /\
 tB (decide ((-9223372036854775808) <= (x2 + 1))) = true /\
 tB (decide ((x2 + 1) <= 9223372036854775807)) = true /\
 I0_1 (x2 + 1) x4 /\ M0_1 (x2 + 1) x4 < M0_1 x2 x3) /\
 (∀ x4v H', R' (.pan x4v) H' -> ∃ x5 : List (List D), H' = [(Ref.up (Ref.up q0), [(A.own 1 x5 ([] : List (List D)))]), (Ref.up (Ref.up q1), [A.fn 68 []]), (Ref.up (Ref.up q2), [A.fn 70 [.up (Ref.up q0), .up (Ref.up q1), .up (Ref.up q2), .up (Ref.up q3)]]), (Ref.up (Ref.up q3), [A.fn 72 [.up (Ref.up q2), .up (Ref.up q1), .up (Ref.up q3)]])] /\
 R (.pan x4v) [((Ref.up q0), [(A.own 1 x5 ([] : List (List D)))]), ((Ref.up q1), [A.fn 68 []]), ((Ref.up q2), [A.fn 70 [Ref.up q0, Ref.up q1, Ref.up q2, Ref.up q3]]), ((Ref.up q3), [A.fn 72 [Ref.up q2, Ref.up q1, Ref.up q3]])])) /\
 True) /\
 (tB (decide (x2 < ((Rf.dlst (x0.getD 5 D0)).length : Int))) = false ->
 Rf.isK .slc (x0.getD 6 D0) = true /\
 ∀ _ : Nat -> Nat, ∃ R', Holds Tryz.prog 72 [A.d (D.slc (Rf.dlst (x0.getD 6 D0))), (A.d (D.slc ([] : List (List D)))), A.ptr (.up (Ref.up q2)) 0, A.ptr (.up (Ref.up q1)) 0, A.ptr (.up (Ref.up q3)) 0] [(Ref.up (Ref.up q2), [A.fn 70 [.up (Ref.up q0), .up (Ref.up q1), .up (Ref.up q2), .up (Ref.up q3)]]), (Ref.up (Ref.up q0), [(A.own 1 x3 ([] : List (List D)))]), (Ref.up (Ref.up q1), [A.fn 68 []]), (Ref.up (Ref.up q3), [A.fn 72 [.up (Ref.up q2), .up (Ref.up q1), .up (Ref.up q3)]])] R' /\
 (∀ v H', R' (.ret v) H' -> ∃ x4 : List (List D), v = A.tup [] /\ H' = [(Ref.up (Ref.up q2), [A.fn 70 [.up (Ref.up q0), .up (Ref.up q1), .up (Ref.up q2), .up (Ref.up q3)]]), (Ref.up (Ref.up q0), [(A.own 1 x4 ([] : List (List D)))]), (Ref.up (Ref.up q1), [A.fn 68 []]), (Ref.up (Ref.up q3), [A.fn 72 [.up (Ref.up q2), .up (Ref.up q1), .up (Ref.up q3)]])] /\
 R (.ret (A.tup [])) [((Ref.up q0), [(A.own 1 x4 ([] : List (List D)))]), ((Ref.up q1), [A.fn 68 []]), ((Ref.up q2), [A.fn 70 [Ref.up q0, Ref.up q1, Ref.up q2, Ref.up q3]]), ((Ref.up q3), [A.fn 72 [Ref.up q2, Ref.up q1, Ref.up q3]])]) /\
 (∀ x4v H', R' (.pan x4v) H' -> ∃ x5 : List (List D), H' = [(Ref.up (Ref.up q2), [A.fn 70 [.up (Ref.up q0), .up (Ref.up q1), .up (Ref.up q2), .up (Ref.up q3)]]), (Ref.up (Ref.up q0), [(A.own 1 x5 ([] : List (List D)))]), (Ref.up (Ref.up q1), [A.fn 68 []]), (Ref.up (Ref.up q3), [A.fn 72 [.up (Ref.up q2), .up (Ref.up q1), .up (Ref.up q3)]])] /\
 R (.pan x4v) [((Ref.up q0), [(A.own 1 x5 ([] : List (List D)))]), ((Ref.up q1), [A.fn 68 []]), ((Ref.up q2), [A.fn 70 [Ref.up q0, Ref.up q1, Ref.up q2, Ref.up q3]]), ((Ref.up q3), [A.fn 72 [Ref.up q2, Ref.up q1, Ref.up q3]])]))) /\
 True) /\
 (J0_1 ->
 Rf.isK .slc (x0.getD 5 D0) = true /\
 ∃ (I0_0 : Int -> List (List D) -> Prop) (M0_0 : Int -> List (List D) -> Nat), I0_0 0 [[D.lit (Zaa (Rf.dstr (x0.getD 1 D0)))]] /\
 (∀ (x2 : Int) (x3 : List (List D)) , I0_0 x2 x3 ->
 (tB (decide (x2 < ((Rf.dlst (x0.getD 5 D0)).length : Int))) = true ->
 tB (decide (0 <= x2)) = true /\
 tB (((gAt (Rf.dlst (x0.getD 5 D0)) x2).length : Int) == 9) = true /\
 ∃ J1_0 : List (List D) -> Prop, ∃ J1_1 : Prop, (Rf.isK (.int .i64) (x0.getD 0 D0) = true /\
 (((tB ((Rf.dint (x0.getD 0 D0)) == 15)) && (tB (decide (0 < x2)))) = true ->
 ∀ _ : Nat -> Nat, ∃ R', Holds Tryz.prog 68 [A.d (D.slc x1), A.agg [x0.getD 3 D0, x0.getD 4 D0]] [] R' /\
 (∀ v H', R' (.ret v) H' -> ∃ x4 : List (List D), v = A.own 1 x4 ([] : List (List D)) /\ H' = [] /\
 J1_0 x4) /\
 (∀ x4v H', R' (.pan x4v) H' -> H' = [] /\
 R (.pan x4v) [((Ref.up q0), [(A.own 1 x3 ([] : List (List D)))]), ((Ref.up q1), [A.fn 68 []]), ((Ref.up q2), [A.fn 70 [Ref.up q0, Ref.up q1, Ref.up q2, Ref.up q3]]), ((Ref.up q3), [A.fn 72 [Ref.up q2, Ref.up q1, Ref.up q3]])])) /\
 (((tB ((Rf.dint (x0.getD 0 D0)) == 15)) && (tB (decide (0 < x2)))) = false ->
 J1_1)) /\
 (∀ (x4 : List (List D)) , J1_0 x4 ->
 ∀ _ : Nat -> Nat, ∃ R', Holds Tryz.prog 70 [A.agg (gAt (Rf.dlst (x0.getD 5 D0)) x2), A.d (D.slc x4), A.ptr (.up (Ref.up q0)) 0, A.ptr (.up (Ref.up q1)) 0, A.ptr (.up (Ref.up q2)) 0, A.ptr (.up (Ref.up q3)) 0] [(Ref.up (Ref.up q0), [(A.own 1 x3 ([] : List (List D)))]), (Ref.up (Ref.up q1), [A.fn 68 []]), (Ref.up (Ref.up q2), [A.fn 70 [.up (Ref.up q0), .up (Ref.up q1), .up (Ref.up q2), .up (Ref.up q3)]]), (Ref.up (Ref.up q3), [A.fn 72 [.up (Ref.up q2), .up (Ref.up q1), .up (Ref.up q3)]])] R' /\
 (∀ v H', R' (.ret v) H' -> ∃ x5 : List (List D), v = A.tup [] /\ H' = [(Ref.up (Ref.up q0), [(A.own 1 x5 ([] : List (List D)))]), (Ref.up (Ref.up q1), [A.fn 68 []]), (Ref.up (Ref.up q2), [A.fn 70 [.up (Ref.up q0), .up (Ref.up q1), .up (Ref.up q2), .up (Ref.up q3)]]), (Ref.up (Ref.up q3), [A.fn 72 [.up (Ref.up q2), .up (Ref.up q1), .up (Ref.up q3)]])] /\
 tB (decide ((-9223372036854775808) <= (x2 + 1))) = true /\
 tB (decide ((x2 + 1) <= 9223372036854775807)) = true /\
 I0_0 (x2 + 1) x5 /\ M0_0 (x2 + 1) x5 < M0_0 x2 x3) /\
 (∀ x5v H', R' (.pan x5v) H' -> ∃ x6 : List (List D), H' = [(Ref.up (Ref.up q0), [(A.own 1 x6 ([] : List (List D)))]), (Ref.up (Ref.up q1), [A.fn 68 []]), (Ref.up (Ref.up q2), [A.fn 70 [.up (Ref.up q0), .up (Ref.up q1), .up (Ref.up q2), .up (Ref.up q3)]]), (Ref.up (Ref.up q3), [A.fn 72 [.up (Ref.up q2), .up (Ref.up q1), .up (Ref.up q3)]])] /\
 R (.pan x5v) [((Ref.up q0), [(A.own 1 x6 ([] : List (List D)))]), ((Ref.up q1), [A.fn 68 []]), ((Ref.up q2), [A.fn 70 [Ref.up q0, Ref.up q1, Ref.up q2, Ref.up q3]]), ((Ref.up q3), [A.fn 72 [Ref.up q2, Ref.up q1, Ref.up q3]])])) /\
 (J1_1 ->
 ∀ _ : Nat -> Nat, ∃ R', Holds Tryz.prog 70 [A.agg (gAt (Rf.dlst (x0.getD 5 D0)) x2), A.d (D.slc x1), A.ptr (.up (Ref.up q0)) 0, A.ptr (.up (Ref.up q1)) 0, A.ptr (.up (Ref.up q2)) 0, A.ptr (.up (Ref.up q3)) 0] [(Ref.up (Ref.up q0), [(A.own 1 x3 ([] : List (List D)))]), (Ref.up (Ref.up q1), [A.fn 68 []]), (Ref.up (Ref.up q2), [A.fn 70 [.up (Ref.up q0), .up (Ref.up q1), .up (Ref.up q2), .up (Ref.up q3)]]), (Ref.up (Ref.up q3), [A.fn 72 [.up (Ref.up q2), .up (Ref.up q1), .up (Ref.up q3)]])] R' /\
 (∀ v H', R' (.ret v) H' -> ∃ x4 : List (List D), v = A.tup [] /\ H' = [(Ref.up (Ref.up q0), [(A.own 1 x4 ([] : List (List D)))]), (Ref.up (Ref.up q1), [A.fn 68 []]), (Ref.up (Ref.up q2), [A.fn 70 [.up (Ref.up q0), .up (Ref.up q1), .up (Ref.up q2), .up (Ref.up q3)]]), (Ref.up (Ref.up q3), [A.fn 72 [.up (Ref.up q2), .up (Ref.up q1), .up (Ref.up q3)]])] /\
 tB (decide ((-9223372036854775808) <= (x2 + 1))) = true /\
 tB (decide ((x2 + 1) <= 9223372036854775807)) = true /\
 I0_0 (x2 + 1) x4 /\ M0_0 (x2 + 1) x4 < M0_0 x2 x3) /\
 (∀ x4v H', R' (.pan x4v) H' -> ∃ x5 : List (List D), H' = [(Ref.up (Ref.up q0), [(A.own 1 x5 ([] : List (List D)))]), (Ref.up (Ref.up q1), [A.fn 68 []]), (Ref.up (Ref.up q2), [A.fn 70 [.up (Ref.up q0), .up (Ref.up q1), .up (Ref.up q2), .up (Ref.up q3)]]), (Ref.up (Ref.up q3), [A.fn 72 [.up (Ref.up q2), .up (Ref.up q1), .up (Ref.up q3)]])] /\
 R (.pan x4v) [((Ref.up q0), [(A.own 1 x5 ([] : List (List D)))]), ((Ref.up q1), [A.fn 68 []]), ((Ref.up q2), [A.fn 70 [Ref.up q0, Ref.up q1, Ref.up q2, Ref.up q3]]), ((Ref.up q3), [A.fn 72 [Ref.up q2, Ref.up q1, Ref.up q3]])])) /\
 True) /\
 (tB (decide (x2 < ((Rf.dlst (x0.getD 5 D0)).length : Int))) = false ->
 Rf.isK .slc (x0.getD 6 D0) = true /\
 ∀ _ : Nat -> Nat, ∃ R', Holds Tryz.prog 72 [A.d (D.slc (Rf.dlst (x0.getD 6 D0))), A.d (D.slc x1), A.ptr (.up (Ref.up q2)) 0, A.ptr (.up (Ref.up q1)) 0, A.ptr (.up (Ref.up q3)) 0] [(Ref.up (Ref.up q2), [A.fn 70 [.up (Ref.up q0), .up (Ref.up q1), .up (Ref.up q2), .up (Ref.up q3)]]), (Ref.up (Ref.up q0), [(A.own 1 x3 ([] : List (List D)))]), (Ref.up (Ref.up q1), [A.fn 68 []]), (Ref.up (Ref.up q3), [A.fn 72 [.up (Ref.up q2), .up (Ref.up q1), .up (Ref.up q3)]])] R' /\
 (∀ v H', R' (.ret v) H' -> ∃ x4 : List (List D), v = A.tup [] /\ H' = [(Ref.up (Ref.up q2), [A.fn 70 [.up (Ref.up q0), .up (Ref.up q1), .up (Ref.up q2), .up (Ref.up q3)]]), (Ref.up (Ref.up q0), [(A.own 1 x4 ([] : List (List D)))]), (Ref.up (Ref.up q1), [A.fn 68 []]), (Ref.up (Ref.up q3), [A.fn 72 [.up (Ref.up q2), .up (Ref.up q1), .up (Ref.up q3)]])] /\
 R (.ret (A.tup [])) [((Ref.up q0), [(A.own 1 x4 ([] : List (List D)))]), ((Ref.up q1), [A.fn 68 []]), ((Ref.up q2), [A.fn 70 [Ref.up q0, Ref.up q1, Ref.up q2, Ref.up q3]]), ((Ref.up q3), [A.fn 72 [Ref.up q2, Ref.up q1, Ref.up q3]])]) /\
 (∀ x4v H', R' (.pan x4v) H' -> ∃ x5 : List (List D), H' = [(Ref.up (Ref.up q2), [A.fn 70 [.up (Ref.up q0), .up (Ref.up q1), .up (Ref.up q2), .up (Ref.up q3)]]), (Ref.up (Ref.up q0), [(A.own 1 x5 ([] : List (List D)))]), (Ref.up (Ref.up q1), [A.fn 68 []]), (Ref.up (Ref.up q3), [A.fn 72 [.up (Ref.up q2), .up (Ref.up q1), .up (Ref.up q3)]])] /\
 R (.pan x4v) [((Ref.up q0), [(A.own 1 x5 ([] : List (List D)))]), ((Ref.up q1), [A.fn 68 []]), ((Ref.up q2), [A.fn 70 [Ref.up q0, Ref.up q1, Ref.up q2, Ref.up q3]]), ((Ref.up q3), [A.fn 72 [Ref.up q2, Ref.up q1, Ref.up q3]])]))) /\
 True) /\
 (J0_2 ->
 Rf.isK .slc (x0.getD 5 D0) = true /\
 ∃ (I0_0 : Int -> Prop) (M0_0 : Int -> Nat), ∃ (I0_1 : Int -> List (List D) -> Prop) (M0_1 : Int -> List (List D) -> Nat), I0_0 0 /\
 (∀ (x2 : Int) , I0_0 x2 ->
 (tB (decide (x2 < ((Rf.dlst (x0.getD 5 D0)).length : Int))) = true ->
 tB (decide (0 <= x2)) = true /\
 tB (((gAt (Rf.dlst (x0.getD 5 D0)) x2).length : Int) == 9) = true /\
 ∃ J1_0 : List (List D) -> Prop, ∃ J1_1 : Prop, (Rf.isK (.int .i64) (x0.getD 0 D0) = true /\
 (((tB ((Rf.dint (x0.getD 0 D0)) == 15)) && (tB (decide (0 < x2)))) = true ->
 ∀ _ : Nat -> Nat, ∃ R', Holds Tryz.prog 68 [A.d (D.slc x1), A.agg [x0.getD 3 D0, x0.getD 4 D0]] [] R' /\
 (∀ v H', R' (.ret v) H' -> ∃ x3 : List (List D), v = A.own 1 x3 ([] : List (List D)) /\ H' = [] /\
 J1_0 x3) /\
 (∀ x3v H', R' (.pan x3v) H' -> H' = [] /\
 R (.pan x3v) [((Ref.up q0), [(A.zs ([] : List (List D)))]), ((Ref.up q1), [A.fn 68 []]), ((Ref.up q2), [A.fn 70 [Ref.up q0, Ref.up q1, Ref.up q2, Ref.up q3]]), ((Ref.up q3), [A.fn 72 [Ref.up q2, Ref.up q1, Ref.up q3]])])) /\
 (((tB ((Rf.dint (x0.getD 0 D0)) == 15)) && (tB (decide (0 < x2)))) = false ->
 J1_1)) /\
 (∀ (x3 : List (List D)) , J1_0 x3 ->
 ∀ _ : Nat -> Nat, ∃ R', Holds Tryz.prog 70 [A.agg (gAt (Rf.dlst (x0.getD 5 D0)) x2), A.d (D.slc x3), A.ptr (.up (Ref.up q0)) 0, A.ptr (.up (Ref.up q1)) 0, A.ptr (.up (Ref.up q2)) 0, A.ptr (.up (Ref.up q3)) 0] [(Ref.up (Ref.up q0), [(A.zs ([] : List (List D)))]), (Ref.up (Ref.up q1), [A.fn 68 []]), (Ref.up (Ref.up q2), [A.fn 70 [.up (Ref.up q0), .up (Ref.up q1), .up (Ref.up q2), .up (Ref.up q3)]]), (Ref.up (Ref.up q3), [A.fn 72 [.up (Ref.up q2), .up (Ref.up q1), .up (Ref.up q3)]])] R' /\
 (∀ v H', R' (.ret v) H' -> (v = (A.tup []) /\ H' = [(Ref.up (Ref.up q0), [(A.zs ([] : List (List D)))]), (Ref.up (Ref.up q1), [A.fn 68 []]), (Ref.up (Ref.up q2), [A.fn 70 [.up (Ref.up q0), .up (Ref.up q1), .up (Ref.up q2), .up (Ref.up q3)]]), (Ref.up (Ref.up q3), [A.fn 72 [.up (Ref.up q2), .up (Ref.up q1), .up (Ref.up q3)]])] /\
 tB (decide ((-9223372036854775808) <= (x2 + 1))) = true /\
 tB (decide ((x2 + 1) <= 9223372036854775807)) = true /\
 I0_0 (x2 + 1) /\ M0_0 (x2 + 1) < M0_0 x2) \/
 (∃ x4 : List (List D), v = A.tup [] /\ H' = [(Ref.up (Ref.up q0), [(A.own 1 x4 ([] : List (List D)))]), (Ref.up (Ref.up q1), [A.fn 68 []]), (Ref.up (Ref.up q2), [A.fn 70 [.up (Ref.up q0), .up (Ref.up q1), .up (Ref.up q2), .up (Ref.up q3)]]), (Ref.up (Ref.up q3), [A.fn 72 [.up (Ref.up q2), .up (Ref.up q1), .up (Ref.up q3)]])] /\
 tB (decide ((-9223372036854775808) <= (x2 + 1))) = true /\
 tB (decide ((x2 + 1) <= 9223372036854775807)) = true /\
 I0_1 (x2 + 1) x4 /\ M0_1 (x2 + 1) x4 < M0_0 x2)) /\
 (∀ x4v H', R' (.pan x4v) H' -> ∃ x5 : List (List D), H' = [(Ref.up (Ref.up q0), [A.zs x5]), (Ref.up (Ref.up q1), [A.fn 68 []]), (Ref.up (Ref.up q2), [A.fn 70 [.up (Ref.up q0), .up (Ref.up q1), .up (Ref.up q2), .up (Ref.up q3)]]), (Ref.up (Ref.up q3), [A.fn 72 [.up (Ref.up q2), .up (Ref.up q1), .up (Ref.up q3)]])] /\
 R (.pan x4v) [((Ref.up q0), [A.zs x5]), ((Ref.up q1), [A.fn 68 []]), ((Ref.up q2), [A.fn 70 [Ref.up q0, Ref.up q1, Ref.up q2, Ref.up q3]]), ((Ref.up q3), [A.fn 72 [Ref.up q2, Ref.up q1, Ref.up q3]])])) /\
 (J1_1 ->
 ∀ _ : Nat -> Nat, ∃ R', Holds Tryz.prog 70 [A.agg (gAt (Rf.dlst (x0.getD 5 D0)) x2), A.d (D.slc x1), A.ptr (.up (Ref.up q0)) 0, A.ptr (.up (Ref.up q1)) 0, A.ptr (.up (Ref.up q2)) 0, A.ptr (.up (Ref.up q3)) 0] [(Ref.up (Ref.up q0), [(A.zs ([] : List (List D)))]), (Ref.up (Ref.up q1), [A.fn 68 []]), (Ref.up (Ref.up q2), [A.fn 70 [.up (Ref.up q0), .up (Ref.up q1), .up (Ref.up q2), .up (Ref.up q3)]]), (Ref.up (Ref.up q3), [A.fn 72 [.up (Ref.up q2), .up (Ref.up q1), .up (Ref.up q3)]])] R' /\
 (∀ v H', R' (.ret v) H' -> (v = (A.tup []) /\ H' = [(Ref.up (Ref.up q0), [(A.zs ([] : List (List D)))]), (Ref.up (Ref.up q1), [A.fn 68 []]), (Ref.up (Ref.up q2), [A.fn 70 [.up (Ref.up q0), .up (Ref.up q1), .up (Ref.up q2), .up (Ref.up q3)]]), (Ref.up (Ref.up q3), [A.fn 72 [.up (Ref.up q2), .up (Ref.up q1), .up (Ref.up q3)]])] /\
 tB (decide ((-9223372036854775808) <= (x2 + 1))) = true /\
 tB (decide ((x2 + 1) <= 9223372036854775807)) = true /\
 I0_0 (x2 + 1) /\ M0_0 (x2 + 1) < M0_0 x2) \/
 (∃ x3 : List (List D), v = A.tup [] /\ H' = [(Ref.up (Ref.up q0), [(A.own 1 x3 ([] : List (List D)))]), (Ref.up (Ref.up q1), [A.fn 68 []]), (Ref.up (Ref.up q2), [A.fn 70 [.up (Ref.up q0), .up (Ref.up q1), .up (Ref.up q2), .up (Ref.up q3)]]), (Ref.up (Ref.up q3), [A.fn 72 [.up (Ref.up q2), .up (Ref.up q1), .up (Ref.up q3)]])] /\
 tB (decide ((-9223372036854775808) <= (x2 + 1))) = true /\
 tB (decide ((x2 + 1) <= 9223372036854775807)) = true /\
 I0_1 (x2 + 1) x3 /\ M0_1 (x2 + 1) x3 < M0_0 x2)) /\
 (∀ x3v H', R' (.pan x3v) H' -> ∃ x4 : List (List D), H' = [(Ref.up (Ref.up q0), [A.zs x4]), (Ref.up (Ref.up q1), [A.fn 68 []]), (Ref.up (Ref.up q2), [A.fn 70 [.up (Ref.up q0), .up (Ref.up q1), .up (Ref.up q2), .up (Ref.up q3)]]), (Ref.up (Ref.up q3), [A.fn 72 [.up (Ref.up q2), .up (Ref.up q1), .up (Ref.up q3)]])] /\
 R (.pan x3v) [((Ref.up q0), [A.zs x4]), ((Ref.up q1), [A.fn 68 []]), ((Ref.up q2), [A.fn 70 [Ref.up q0, Ref.up q1, Ref.up q2, Ref.up q3]]), ((Ref.up q3), [A.fn 72 [Ref.up q2, Ref.up q1, Ref.up q3]])])) /\
 True) /\
 (tB (decide (x2 < ((Rf.dlst (x0.getD 5 D0)).length : Int))) = false ->
 Rf.isK .slc (x0.getD 6 D0) = true /\
 ∀ _ : Nat -> Nat, ∃ R', Holds Tryz.prog 72 [A.d (D.slc (Rf.dlst (x0.getD 6 D0))), A.d (D.slc x1), A.ptr (.up (Ref.up q2)) 0, A.ptr (.up (Ref.up q1)) 0, A.ptr (.up (Ref.up q3)) 0] [(Ref.up (Ref.up q2), [A.fn 70 [.up (Ref.up q0), .up (Ref.up q1), .up (Ref.up q2), .up (Ref.up q3)]]), (Ref.up (Ref.up q0), [(A.zs ([] : List (List D)))]), (Ref.up (Ref.up q1), [A.fn 68 []]), (Ref.up (Ref.up q3), [A.fn 72 [.up (Ref.up q2), .up (Ref.up q1), .up (Ref.up q3)]])] R' /\
 (∀ v H', R' (.ret v) H' -> (v = (A.tup []) /\ H' = [(Ref.up (Ref.up q2), [A.fn 70 [.up (Ref.up q0), .up (Ref.up q1), .up (Ref.up q2), .up (Ref.up q3)]]), (Ref.up (Ref.up q0), [(A.zs ([] : List (List D)))]), (Ref.up (Ref.up q1), [A.fn 68 []]), (Ref.up (Ref.up q3), [A.fn 72 [.up (Ref.up q2), .up (Ref.up q1), .up (Ref.up q3)]])] /\
 R (.ret (A.tup [])) [((Ref.up q0), [(A.zs ([] : List (List D)))]), ((Ref.up q1), [A.fn 68 []]), ((Ref.up q2), [A.fn 70 [Ref.up q0, Ref.up q1, Ref.up q2, Ref.up q3]]), ((Ref.up q3), [A.fn 72 [Ref.up q2, Ref.up q1, Ref.up q3]])]) \/
 (∃ x3 : List (List D), v = A.tup [] /\ H' = [(Ref.up (Ref.up q2), [A.fn 70 [.up (Ref.up q0), .up (Ref.up q1), .up (Ref.up q2), .up (Ref.up q3)]]), (Ref.up (Ref.up q0), [(A.own 1 x3 ([] : List (List D)))]), (Ref.up (Ref.up q1), [A.fn 68 []]), (Ref.up (Ref.up q3), [A.fn 72 [.up (Ref.up q2), .up (Ref.up q1), .up (Ref.up q3)]])] /\
 R (.ret (A.tup [])) [((Ref.up q0), [(A.own 1 x3 ([] : List (List D)))]), ((Ref.up q1), [A.fn 68 []]), ((Ref.up q2), [A.fn 70 [Ref.up q0, Ref.up q1, Ref.up q2, Ref.up q3]]), ((Ref.up q3), [A.fn 72 [Ref.up q2, Ref.up q1, Ref.up q3]])])) /\
 (∀ x3v H', R' (.pan x3v) H' -> ∃ x4 : List (List D), H' = [(Ref.up (Ref.up q2), [A.fn 70 [.up (Ref.up q0), .up (Ref.up q1), .up (Ref.up q2), .up (Ref.up q3)]]), (Ref.up (Ref.up q0), [A.zs x4]), (Ref.up (Ref.up q1), [A.fn 68 []]), (Ref.up (Ref.up q3), [A.fn 72 [.up (Ref.up q2), .up (Ref.up q1), .up (Ref.up q3)]])] /\
 R (.pan x3v) [((Ref.up q0), [A.zs x4]), ((Ref.up q1), [A.fn 68 []]), ((Ref.up q2), [A.fn 70 [Ref.up q0, Ref.up q1, Ref.up q2, Ref.up q3]]), ((Ref.up q3), [A.fn 72 [Ref.up q2, Ref.up q1, Ref.up q3]])]))) /\
 (∀ (x2 : Int) (x3 : List (List D)) , I0_1 x2 x3 ->
 (tB (decide (x2 < ((Rf.dlst (x0.getD 5 D0)).length : Int))) = true ->
 tB (decide (0 <= x2)) = true /\
 tB (((gAt (Rf.dlst (x0.getD 5 D0)) x2).length : Int) == 9) = true /\
 ∃ J1_0 : List (List D) -> Prop, ∃ J1_1 : Prop, (Rf.isK (.int .i64) (x0.getD 0 D0) = true /\
 (((tB ((Rf.dint (x0.getD 0 D0)) == 15)) && (tB (decide (0 < x2)))) = true ->
 ∀ _ : Nat -> Nat, ∃ R', Holds Tryz.prog 68 [A.d (D.slc x1), A.agg [x0.getD 3 D0, x0.getD 4 D0]] [] R' /\
 (∀ v H', R' (.ret v) H' -> ∃ x4 : List (List D), v = A.own 1 x4 ([] : List (List D)) /\ H' = [] /\
 J1_0 x4) /\
 (∀ x4v H', R' (.pan x4v) H' -> H' = [] /\
 R (.pan x4v) [((Ref.up q0), [(A.own 1 x3 ([] : List (List D)))]), ((Ref.up q1), [A.fn 68 []]), ((Ref.up q2), [A.fn 70 [Ref.up q0, Ref.up q1, Ref.up q2, Ref.up q3]]), ((Ref.up q3), [A.fn 72 [Ref.up q2, Ref.up q1, Ref.up q3]])])) /\
 (((tB ((Rf.dint (x0.getD 0 D0)) == 15)) && (tB (decide (0 < x2)))) = false ->
 J1_1)) /\
 (∀ (x4 : List (List D)) , J1_0 x4 ->
 ∀ _ : Nat -> Nat, ∃ R', Holds Tryz.prog 70 [A.agg (gAt (Rf.dlst (x0.getD 5 D0)) x2), A.d (D.slc x4), A.ptr (.up (Ref.up q0)) 0, A.ptr (.up (Ref.up q1)) 0, A.ptr (.up (Ref.up q2)) 0, A.ptr (.up (Ref.up q3)) 0] [(Ref.up (Ref.up q0), [(A.own 1 x3 ([] : List (List D)))]), (Ref.up (Ref.up q1), [A.fn 68 []]), (Ref.up (Ref.up q2), [A.fn 70 [.up (Ref.up q0), .up (Ref.up q1), .up (Ref.up q2), .up (Ref.up q3)]]), (Ref.up (Ref.up q3), [A.fn 72 [.up (Ref.up q2), .up (Ref.up q1), .up (Ref.up q3)]])] R' /\
 (∀ v H', R' (.ret v) H' -> ∃ x5 : List (List D), v = A.tup [] /\ H' = [(Ref.up (Ref.up q0), [(A.own 1 x5 ([] : List (List D)))]), (Ref.up (Ref.up q1), [A.fn 68 []]), (Ref.up (Ref.up q2), [A.fn 70 [.up (Ref.up q0), .up (Ref.up q1), .up (Ref.up q2), .up (Ref.up q3)]]), (Ref.up (Ref.up q3), [A.fn 72 [.up (Ref.up q2), .up (Ref.up q1), .up (Ref.up q3)]])] /\
 tB (decide ((-9223372036854775808) <= (x2 + 1))) = true /\
 tB (decide ((x2 + 1) <= 9223372036854775807)) = true /\
 I0_1 (x2 + 1) x5 /\ M0_1 (x2 + 1) x5 < M0_1 x2 x3) /\
 (∀ x5v H', R' (.pan x5v) H' -> ∃ x6 : List (List D), H' = [(Ref.up (Ref.up q0), [(A.own 1 x6 ([] : List (List D)))]), (Ref.up (Ref.up q1), [A.fn 68 []]), (Ref.up (Ref.up q2), [A.fn 70 [.up (Ref.up q0), .up (Ref.up q1), .up (Ref.up q2), .up (Ref.up q3)]]), (Ref.up (Ref.up q3), [A.fn 72 [.up (Ref.up q2), .up (Ref.up q1), .up (Ref.up q3)]])] /\
 R (.pan x5v) [((Ref.up q0), [(A.own 1 x6 ([] : List (List D)))]), ((Ref.up q1), [A.fn 68 []]), ((Ref.up q2), [A.fn 70 [Ref.up q0, Ref.up q1, Ref.up q2, Ref.up q3]]), ((Ref.up q3), [A.fn 72 [Ref.up q2, Ref.up q1, Ref.up q3]])])) /\
 (J1_1 ->
 ∀ _ : Nat -> Nat, ∃ R', Holds Tryz.prog 70 [A.agg (gAt (Rf.dlst (x0.getD 5 D0)) x2), A.d (D.slc x1), A.ptr (.up (Ref.up q0)) 0, A.ptr (.up (Ref.up q1)) 0, A.ptr (.up (Ref.up q2)) 0, A.ptr (.up (Ref.up q3)) 0] [(Ref.up (Ref.up q0), [(A.own 1 x3 ([] : List (List D)))]), (Ref.up (Ref.up q1), [A.fn 68 []]), (Ref.up (Ref.up q2), [A.fn 70 [.up (Ref.up q0), .up (Ref.up q1), .up (Ref.up q2), .up (Ref.up q3)]]), (Ref.up (Ref.up q3), [A.fn 72 [.up (Ref.up q2), .up (Ref.up q1), .up (Ref.up q3)]])] R' /\
 (∀ v H', R' (.ret v) H' -> ∃ x4 : List (List D), v = A.tup [] /\ H' = [(Ref.up (Ref.up q0), [(A.own 1 x4 ([] : List (List D)))]), (Ref.up (Ref.up q1), [A.fn 68 []]), (Ref.up (Ref.up q2), [A.fn 70 [.up (Ref.up q0), .up (Ref.up q1), .up (Ref.up q2), .up (Ref.up q3)]]), (Ref.up (Ref.up q3), [A.fn 72 [.up (Ref.up q2), .up (Ref.up q1), .up (Ref.up q3)]])] /\
 tB (decide ((-9223372036854775808) <= (x2 + 1))) = true /\
 tB (decide ((x2 + 1) <= 9223372036854775807)) = true /\
 I0_1 (x2 + 1) x4 /\ M0_1 (x2 + 1) x4 < M0_1 x2 x3) /\
 (∀ x4v H', R' (.pan x4v) H' -> ∃ x5 : List (List D), H' = [(Ref.up (Ref.up q0), [(A.own 1 x5 ([] : List (List D)))]), (Ref.up (Ref.up q1), [A.fn 68 []]), (Ref.up (Ref.up q2), [A.fn 70 [.up (Ref.up q0), .up (Ref.up q1), .up (Ref.up q2), .up (Ref.up q3)]]), (Ref.up (Ref.up q3), [A.fn 72 [.up (Ref.up q2), .up (Ref.up q1), .up (Ref.up q3)]])] /\
 R (.pan x4v) [((Ref.up q0), [(A.own 1 x5 ([] : List (List D)))]), ((Ref.up q1), [A.fn 68 []]), ((Ref.up q2), [A.fn 70 [Ref.up q0, Ref.up q1, Ref.up q2, Ref.up q3]]), ((Ref.up q3), [A.fn 72 [Ref.up q2, Ref.up q1, Ref.up q3]])])) /\
 True) /\
 (tB (decide (x2 < ((Rf.dlst (x0.getD 5 D0)).length : Int))) = false ->
 Rf.isK .slc (x0.getD 6 D0) = true /\
 ∀ _ : Nat -> Nat, ∃ R', Holds Tryz.prog 72 [A.d (D.slc (Rf.dlst (x0.getD 6 D0))), A.d (D.slc x1), A.ptr (.up (Ref.up q2)) 0, A.ptr (.up (Ref.up q1)) 0, A.ptr (.up (Ref.up q3)) 0] [(Ref.up (Ref.up q2), [A.fn 70 [.up (Ref.up q0), .up (Ref.up q1), .up (Ref.up q2), .up (Ref.up q3)]]), (Ref.up (Ref.up q0), [(A.own 1 x3 ([] : List (List D)))]), (Ref.up (Ref.up q1), [A.fn 68 []]), (Ref.up (Ref.up q3), [A.fn 72 [.up (Ref.up q2), .up (Ref.up q1), .up (Ref.up q3)]])] R' /\
 (∀ v H', R' (.ret v) H' -> ∃ x4 : List (List D), v = A.tup [] /\ H' = [(Ref.up (Ref.up q2), [A.fn 70 [.up (Ref.up q0), .up (Ref.up q1), .up (Ref.up q2), .up (Ref.up q3)]]), (Ref.up (Ref.up q0), [(A.own 1 x4 ([] : List (List D)))]), (Ref.up (Ref.up q1), [A.fn 68 []]), (Ref.up (Ref.up q3), [A.fn 72 [.up (Ref.up q2), .up (Ref.up q1), .up (Ref.up q3)]])] /\
 R (.ret (A.tup [])) [((Ref.up q0), [(A.own 1 x4 ([] : List (List D)))]), ((Ref.up q1), [A.fn 68 []]), ((Ref.up q2), [A.fn 70 [Ref.up q0, Ref.up q1, Ref.up q2, Ref.up q3]]), ((Ref.up q3), [A.fn 72 [Ref.up q2, Ref.up q1, Ref.up q3]])]) /\
 (∀ x4v H', R' (.pan x4v) H' -> ∃ x5 : List (List D), H' = [(Ref.up (Ref.up q2), [A.fn 70 [.up (Ref.up q0), .up (Ref.up q1), .up (Ref.up q2), .up (Ref.up q3)]]), (Ref.up (Ref.up q0), [(A.own 1 x5 ([] : List (List D)))]), (Ref.up (Ref.up q1), [A.fn 68 []]), (Ref.up (Ref.up q3), [A.fn 72 [.up (Ref.up q2), .up (Ref.up q1), .up (Ref.up q3)]])] /\
 R (.pan x4v) [((Ref.up q0), [(A.own 1 x5 ([] : List (List D)))]), ((Ref.up q1), [A.fn 68 []]), ((Ref.up q2), [A.fn 70 [Ref.up q0, Ref.up q1, Ref.up q2, Ref.up q3]]), ((Ref.up q3), [A.fn 72 [Ref.up q2, Ref.up q1, Ref.up q3]])]))) /\
 True) /\
 True) :
 Holds Tryz.prog 70 [A.agg x0, A.d (D.slc x1), A.ptr (Ref.up q0) 0, A.ptr (Ref.up q1) 0, A.ptr (Ref.up q2) 0, A.ptr (Ref.up q3) 0] [((Ref.up q0), [(A.zs ([] : List (List D)))]), ((Ref.up q1), [A.fn 68 []]), ((Ref.up q2), [A.fn 70 [Ref.up q0, Ref.up q1, Ref.up q2, Ref.up q3]]), ((Ref.up q3), [A.fn 72 [Ref.up q2, Ref.up q1, Ref.up q3]])] R :=
 walk (c := ⟨Tryz.prog, 75, true, [0, 1, 2, 3, 4, 5, 6, 8, 9, 10, 11, 21, 45, 46, 47, 48, 59]⟩) (op := { own := [(68, 1)], cuts := [5, 11], dat := [1, 10], two := [(70, 1), (72, 1), (85, 1), (86, 1), (87, 1)], com := [(12, (48, 5000)), (12, (9, 5000)), (12, (8, 5000)), (12, (10, 5000)), (12, (59, 5000))] }) (fn := Tryz.f70) (args := [.agg (.var 0), .c (.o1 .cl (.var 1)), .ptr (.up 0) 0, .ptr (.up 1) 0, .ptr (.up 2) 0, .ptr (.up 3) 0]) (K := [(.up 0, [.zs .lnil]), (.up 1, [.fn 68 []]), (.up 2, [.fn 70 [.up 0, .up 1, .up 2, .up 3]]), (.up 3, [.fn 72 [.up 2, .up 1, .up 3]])]) (nv := 2) (depth := 7) (up := upOf [q0, q1, q2, q3]) (ρ := Zc4 [.r x0, .l x1])
  rfl rfl rfl rfl rfl (by decide) (by decide) (by decide) (by decide) rfl (by simp [Zac, RRef.den, upOf, hq01, hq02, hq12, hq03, hq13, hq23]) (T_of (by kernel_rfl) h)
theorem w70b {R : RT} (x0 : List D) (x1 : List (List D)) (x2 : List (List D)) (q0 q1 q2 q3 : Ref) (hq01 : q0 ≠ q1) (hq02 : q0 ≠ q2) (hq12 : q1 ≠ q2) (hq03 : q0 ≠ q3) (hq13 : q1 ≠ q3) (hq23 : q2 ≠ q3) (h : tB ((x0.length : Int) == 9) = true /\
 ∃ J0_0 : Prop, ∃ J0_1 : Bool -> List (List D) -> Prop, (Rf.isK (.int .i64) (x0.getD 0 D0) = true /\
 ((!(tB ((Rf.dint (x0.getD 0 D0)) == 10))) || (Rf.isK .str (x0.getD 3 D0))) = true /\
 (((tB ((Rf.dint (x0.getD 0 D0)) == 10)) && (tB ((Rf.dstr (x0.getD 3 D0)) == ([108, 101, 116] : List UInt8)))) = true ->
 J0_0) /\
 (((tB ((Rf.dint (x0.getD 0 D0)) == 10)) && (tB ((Rf.dstr (x0.getD 3 D0)) == ([108, 101, 116] : List UInt8)))) = false ->
 ((!(tB ((Rf.dint (x0.getD 0 D0)) == 10))) || (Rf.isK .str (x0.getD 1 D0))) = true /\
 (tB ((Rf.dint (x0.getD 0 D0)) == 10) = true ->
 ∀ _ : Nat -> Nat, ∃ R', Holds Tryz.prog 71 [A.d (D.slc x1), A.d (D.lit (Zaa (Rf.dstr (x0.getD 1 D0))))] [] R' /\
 (∀ v H', R' (.ret v) H' -> ∃ x3 : Bool, v = A.d (D.lit (.bool x3)) /\ H' = [] /\
 (x3 || (Rf.isK .str (x0.getD 1 D0))) = true /\
 ((!x3) = true ->
 ∀ _ : Nat -> Nat, ∃ R', Holds Tryz.prog 71 [A.d (D.slc x2), A.d (D.lit (Zaa (Rf.dstr (x0.getD 1 D0))))] [] R' /\
 (∀ v H', R' (.ret v) H' -> ∃ x4 : Bool, v = A.d (D.lit (.bool x4)) /\ H' = [] /\
 ((!x4) = true ->
 Rf.isK .str (x0.getD 1 D0) = true /\
 tB (decide ((((x2.length : Int) + ([[D.lit (Zaa (Rf.dstr (x0.getD 1 D0)))]].length : Int)) * 16) <= 140737488355328)) = true /\
 tB (decide (((x2.length : Int) + ([[D.lit (Zaa (Rf.dstr (x0.getD 1 D0)))]].length : Int)) <= 1099511627776)) = true /\
 J0_1 true (x2 ++ [[D.lit (Zaa (Rf.dstr (x0.getD 1 D0)))]])) /\
 ((!x4) = false ->
 J0_1 false x2)) /\
 (∀ x4v H', R' (.pan x4v) H' -> H' = [] /\
 R (.pan x4v) [((Ref.up q0), [(A.own 1 x2 ([] : List (List D)))]), ((Ref.up q1), [A.fn 68 []]), ((Ref.up q2), [A.fn 70 [Ref.up q0, Ref.up q1, Ref.up q2, Ref.up q3]]), ((Ref.up q3), [A.fn 72 [Ref.up q2, Ref.up q1, Ref.up q3]])])) /\
 ((!x3) = false ->
 J0_1 false x2)) /\
 (∀ x3v H', R' (.pan x3v) H' -> H' = [] /\
 R (.pan x3v) [((Ref.up q0), [(A.own 1 x2 ([] : List (List D)))]), ((Ref.up q1), [A.fn 68 []]), ((Ref.up q2), [A.fn 70 [Ref.up q0, Ref.up q1, Ref.up q2, Ref.up q3]]), ((Ref.up q3), [A.fn 72 [Ref.up q2, Ref.up q1, Ref.up q3]])])) /\
 (tB ((Rf.dint (x0.getD 0 D0)) == 10) = false ->
 J0_1 false x2))) /\
 (J0_0 ->
 Rf.isK .slc (x0.getD 5 D0) = true /\
 ∃ (I0_0 : Int -> List (List D) -> Prop) (M0_0 : Int -> List (List D) -> Nat), I0_0 0 x2 /\
 (∀ (x3 : Int) (x4 : List (List D)) , I0_0 x3 x4 ->
 (tB (decide (x3 < ((Rf.dlst (x0.getD 5 D0)).length : Int))) = true ->
 tB (decide (0 <= x3)) = true /\
 tB (((gAt (Rf.dlst (x0.getD 5 D0)) x3).length : Int) == 9) = true /\
 ∃ J1_0 : List (List D) -> Prop, ∃ J1_1 : Prop, (Rf.isK (.int .i64) (x0.getD 0 D0) = true /\
 (((tB ((Rf.dint (x0.getD 0 D0)) == 15)) && (tB (decide (0 < x3)))) = true ->
 ∀ _ : Nat -> Nat, ∃ R', Holds Tryz.prog 68 [(A.d (D.slc ([] : List (List D)))), A.agg [x0.getD 3 D0, x0.getD 4 D0]] [] R' /\
 (∀ v H', R' (.ret v) H' -> ∃ x5 : List (List D), v = A.own 1 x5 ([] : List (List D)) /\ H' = [] /\
 J1_0 x5) /\
 (∀ x5v H', R' (.pan x5v) H' -> H' = [] /\
 R (.pan x5v) [((Ref.up q0), [(A.own 1 x4 ([] : List (List D)))]), ((Ref.up q1), [A.fn 68 []]), ((Ref.up q2), [A.fn 70 [Ref.up q0, Ref.up q1, Ref.up q2, Ref.up q3]]), ((Ref.up q3), [A.fn 72 [Ref.up q2, Ref.up q1, Ref.up q3]])])) /\
 (((tB ((Rf.dint (x0.getD 0 D0)) == 15)) && (tB (decide (0 < x3)))) = false ->
 J1_1)) /\
 (∀ (x5 : List (List D)) , J1_0 x5 ->
 ∀ _ : Nat -> Nat, ∃ R', Holds Tryz.prog 70 [A.agg (gAt (Rf.dlst (x0.getD 5 D0)) x3), A.d (D.slc x5), A.ptr (.up (Ref.up q0)) 0, A.ptr (.up (Ref.up q1)) 0, A.ptr (.up (Ref.up q2)) 0, A.ptr (.up (Ref.up q3)) 0] [(Ref.up (Ref.up q0), [(A.own 1 x4 ([] : List (List D)))]), (Ref.up (Ref.up q1), [A.fn 68 []]), (Ref.up (Ref.up q2), [A.fn 70 [.up (Ref.up q0), .up (Ref.up q1), .up (Ref.up q2), .up (Ref.up q3)]]), (Ref.up (Ref.up q3), [A.fn 72 [.up (Ref.up q2), .up (Ref.up q1), .up (Ref.up q3)]])] R' /\
 (∀ v H', R' (.ret v) H' -> ∃ x6 : List (List D), v = A.tup [] /\ H' = [(Ref.up (Ref.up q0), [(A.own 1 x6 ([] : List (List D)))]), (Ref.up (Ref.up q1), [A.fn 68 []]), (Ref.up (Ref.up q2), [A.fn 70 [.up (Ref.up q0), .up (Ref.up q1), .up (Ref.up q2), .up (Ref.up q3)]]), (Ref.up (Ref.up q3), [A.fn 72 [.up (Ref.up q2), .up (Ref.up q1), .up (Ref.up q3)]])] /\
 tB (decide ((-9223372036854775808) <= (x3 + 1))) = true /\
 tB (decide ((x3 + 1) <= 9223372036854775807)) = true /\
 I0_0 (x3 + 1) x6 /\ M0_0 (x3 + 1) x6 < M0_0 x3 x4) /\
 (∀ x6v H', R' (.pan x6v) H' -> ∃ x7 : List (List D), H' = [(Ref.up (Ref.up q0), [(A.own 1 x7 ([] : List (List D)))]), (Ref.up (Ref.up q1), [A.fn 68 []]), (Ref.up (Ref.up q2), [A.fn 70 [.up (Ref.up q0), .up (Ref.up q1), .up (Ref.up q2), .up (Ref.up q3)]]), (Ref.up (Ref.up q3), [A.fn 72 [.up (Ref.up q2), .up (Ref.up q1), .up (Ref.up q3)]])] /\
 R (.pan x6v) [((Ref.up q0), [(A.own 1 x7 ([] : List (List D)))]), ((Ref.up q1), [A.fn 68 []]), ((Ref.up q2), [A.fn 70 [Ref.up q0, Ref.up q1, Ref.up q2, Ref.up q3]]), ((Ref.up q3), [A.fn 72 [Ref.up q2, Ref.up q1, Ref.up q3]])])) /\
 (J1_1 ->
 ∀ _ : Nat -> Nat, ∃ R', Holds Tryz.prog 70 [A.agg (gAt (Rf.dlst (x0.getD 5 D0)) x3), (A.d (D.slc ([] : List (List D)))), A.ptr (.up (Ref.up q0)) 0, A.ptr (.up (Ref.up q1)) 0, A.ptr (.up (Ref.up q2)) 0, A.ptr (.up (Ref.up q3)) 0] [(Ref.up (Ref.up q0), [(A.own 1 x4 ([] : List (List D)))]), (Ref.up (Ref.up q1), [A.fn 68 []]), (Ref.up (Ref.up q2), [A.fn 70 [.up (Ref.up q0), .up (Ref.up q1), .up (Ref.up q2), .up (Ref.up q3)]]), (Ref.up (Ref.up q3), [A.fn 72 [.up (Ref.up q2), .up (Ref.up q1), .up (Ref.up q3)]])] R' /\
 (∀ v H', R' (.ret v) H' -> ∃ x5 : List (List D), v = A.tup [] /\ H' = [(Ref.up (Ref.up q0), [(A.own 1 x5 ([] : List (List D)))]), (Ref.up (Ref.up q1), [A.fn 68 []]), (Ref.up (Ref.up q2), [A.fn 70 [.up (Ref.up q0), .up (Ref.up q1), .up (Ref.up q2), .up (Ref.up q3)]]), (Ref.up (Ref.up q3), [A.fn 72 [.up (Ref.up q2), .up (Ref.up q1), .up (Ref.up q3)]])] /\
 tB (decide ((-9223372036854775808) <= (x3 + 1))) = true /\
 tB (decide ((x3 + 1) <= 9223372036854775807)) = true /\
 I0_0 (x3 + 1) x5 /\ M0_0 (x3 + 1) x5 < M0_0 x3 x4) /\
 (∀ x5v H', R' (.pan x5v) H' -> ∃ x6 : List (List D), H' = [(Ref.up (Ref.up q0), [(A.own 1 x6 ([] : List (List D)))]), (Ref.up (Ref.up q1), [A.fn 68 []]), (Ref.up (Ref.up q2), [A.fn 70 [.up (Ref.up q0), .up (Ref.up q1), .up (Ref.up q2), .up (Ref.up q3)]]), (Ref.up (Ref.up q3), [A.fn 72 [.up (Ref.up q2), .up (Ref.up q1), .up (Ref.up q3)]])] /\
 R (.pan x5v) [((Ref.up q0), [(A.own 1 x6 ([] : List (List D)))]), ((Ref.up q1), [A.fn 68 []]), ((Ref.up q2), [A.fn 70 [Ref.up q0, Ref.up q1, Ref.up q2, Ref.up q3]]), ((Ref.up q3), [A.fn 72 [Ref.up q2, Ref.up q1, Ref.up q3]])])) /\
 True) /\
 (tB (decide (x3 < ((Rf.dlst (x0.getD 5 D0)).length : Int))) = false ->
 Rf.isK .slc (x0.getD 6 D0) = true /\
 ∀ _ : Nat -> Nat, ∃ R', Holds Tryz.prog 72 [A.d (D.slc (Rf.dlst (x0.getD 6 D0))), (A.d (D.slc ([] : List (List D)))), A.ptr (.up (Ref.up q2)) 0, A.ptr (.up (Ref.up q1)) 0, A.ptr (.up (Ref.up q3)) 0] [(Ref.up (Ref.up q2), [A.fn 70 [.up (Ref.up q0), .up (Ref.up q1), .up (Ref.up q2), .up (Ref.up q3)]]), (Ref.up (Ref.up q0), [(A.own 1 x4 ([] : List (List D)))]), (Ref.up (Ref.up q1), [A.fn 68 []]), (Ref.up (Ref.up q3), [A.fn 72 [.up (Ref.up q2), .up (Ref.up q1), .up (Ref.up q3)]])] R' /\
 (∀ v H', R' (.ret v) H' -> ∃ x5 : List (List D), v = A.tup [] /\ H' = [(Ref.up (Ref.up q2), [A.fn 70 [.up (Ref.up q0), .up (Ref.up q1), .up (Ref.up q2), .up (Ref.up q3)]]), (Ref.up (Ref.up q0), [(A.own 1 x5 ([] : List (List D)))]), (Ref.up (Ref.up q1), [A.fn 68 []]), (Ref.up (Ref.up q3), [A.fn 72 [.up (Ref.up q2), .up (Ref.up q1), .up (Ref.up q3)]])] /\
 R (.ret (A.tup [])) [((Ref.up q0), [(A.own 1 x5 ([] : List (List D)))]), ((Ref.up q1), [A.fn 68 []]), ((Ref.up q2), [A.fn 70 [Ref.up q0, Ref.up q1, Ref.up q2, Ref.up q3]]), ((Ref.up q3), [A.fn 72 [Ref.up q2, Ref.up q1, Ref.up q3]])]) /\
 (∀ x5v H', R' (.pan x5v) H' -> ∃ x6 : List (List D), H' = [(Ref.up (Ref.up q2), [A.fn 70 [.up (Ref.up q0), .up (Ref.up q1), .up (Ref.up q2), .up (Ref.up q3)]]), (Ref.up (Ref.up q0), [(A.own 1 x6 ([] : List (List D)))]), (Ref.up (Ref.up q1), [A.fn 68 []]), (Ref.up (Ref.up q3), [A.fn 72 [.up (Ref.up q2), .up (Ref.up q1), .up (Ref.up q3)]])] /\
 R (.pan x5v) [((Ref.up q0), [(A.own 1 x6 ([] : List (List D)))]), ((Ref.up q1), [A.fn 68 []]), ((Ref.up q2), [A.fn 70 [Ref.up q0, Ref.up q1, Ref.up q2, Ref.up q3]]), ((Ref.up q3), [A.fn 72 [Ref.up q2, Ref.up q1, Ref.up q3]])]))) /\
 True) /\
 (∀ (x3 : Bool) (x4 : List (List D)) , J0_1 x3 x4 ->
 Rf.isK .slc (x0.getD 5 D0) = true /\
 ∃ (I0_0 : Int -> List (List D) -> Prop) (M0_0 : Int -> List (List D) -> Nat), I0_0 0 x4 /\
 (∀ (x5 : Int) (x6 : List (List D)) , I0_0 x5 x6 ->
 (tB (decide (x5 < ((Rf.dlst (x0.getD 5 D0)).length : Int))) = true ->
 tB (decide (0 <= x5)) = true /\
 tB (((gAt (Rf.dlst (x0.getD 5 D0)) x5).length : Int) == 9) = true /\
 ∃ J1_0 : List (List D) -> Prop, ∃ J1_1 : Prop, (Rf.isK (.int .i64) (x0.getD 0 D0) = true /\
 (((tB ((Rf.dint (x0.getD 0 D0)) == 15)) && (tB (decide (0 < x5)))) = true ->
 ∀ _ : Nat -> Nat, ∃ R', Holds Tryz.prog 68 [A.d (D.slc x1), A.agg [x0.getD 3 D0, x0.getD 4 D0]] [] R' /\
 (∀ v H', R' (.ret v) H' -> ∃ x7 : List (List D), v = A.own 1 x7 ([] : List (List D)) /\ H' = [] /\
 J1_0 x7) /\
 (∀ x7v H', R' (.pan x7v) H' -> H' = [] /\
 R (.pan x7v) [((Ref.up q0), [(A.own 1 x6 ([] : List (List D)))]), ((Ref.up q1), [A.fn 68 []]), ((Ref.up q2), [A.fn 70 [Ref.up q0, Ref.up q1, Ref.up q2, Ref.up q3]]), ((Ref.up q3), [A.fn 72 [Ref.up q2, Ref.up q1, Ref.up q3]])])) /\
 (((tB ((Rf.dint (x0.getD 0 D0)) == 15)) && (tB (decide (0 < x5)))) = false ->
 J1_1)) /\
 (∀ (x7 : List (List D)) , J1_0 x7 ->
 ∀ _ : Nat -> Nat, ∃ R', Holds Tryz.prog 70 [A.agg (gAt (Rf.dlst (x0.getD 5 D0)) x5), A.d (D.slc x7), A.ptr (.up (Ref.up q0)) 0, A.ptr (.up (Ref.up q1)) 0, A.ptr (.up (Ref.up q2)) 0, A.ptr (.up (Ref.up q3)) 0] [(Ref.up (Ref.up q0), [(A.own 1 x6 ([] : List (List D)))]), (Ref.up (Ref.up q1), [A.fn 68 []]), (Ref.up (Ref.up q2), [A.fn 70 [.up (Ref.up q0), .up (Ref.up q1), .up (Ref.up q2), .up (Ref.up q3)]]), (Ref.up (Ref.up q3), [A.fn 72 [.up (Ref.up q2), .up (Ref.up q1), .up (Ref.up q3)]])] R' /\
 (∀ v H', R' (.ret v) H' -> ∃ x8 : List (List D), v = A.tup [] /\ H' = [(Ref.up (Ref.up q0), [(A.own 1 x8 ([] : List (List D)))]), (Ref.up (Ref.up q1), [A.fn 68 []]), (Ref.up (Ref.up q2), [A.fn 70 [.up (Ref.up q0), .up (Ref.up q1), .up (Ref.up q2), .up (Ref.up q3)]]), (Ref.up (Ref.up q3), [A.fn 72 [.up (Ref.up q2), .up (Ref.up q1), .up (Ref.up q3)]])] /\
 tB (decide ((-9223372036854775808) <= (x5 + 1))) = true /\
 tB (decide ((x5 + 1) <= 9223372036854775807)) = true /\
 I0_0 (x5 + 1) x8 /\ M0_0 (x5 + 1) x8 < M0_0 x5 x6) /\
 (∀ x8v H', R' (.pan x8v) H' -> ∃ x9 : List (List D), H' = [(Ref.up (Ref.up q0), [(A.own 1 x9 ([] : List (List D)))]), (Ref.up (Ref.up q1), [A.fn 68 []]), (Ref.up (Ref.up q2), [A.fn 70 [.up (Ref.up q0), .up (Ref.up q1), .up (Ref.up q2), .up (Ref.up q3)]]), (Ref.up (Ref.up q3), [A.fn 72 [.up (Ref.up q2), .up (Ref.up q1), .up (Ref.up q3)]])] /\
 R (.pan x8v) [((Ref.up q0), [(A.own 1 x9 ([] : List (List D)))]), ((Ref.up q1), [A.fn 68 []]), ((Ref.up q2), [A.fn 70 [Ref.up q0, Ref.up q1, Ref.up q2, Ref.up q3]]), ((Ref.up q3), [A.fn 72 [Ref.up q2, Ref.up q1, Ref.up q3]])])) /\
 (J1_1 ->
 ∀ _ : Nat -> Nat, ∃ R', Holds Tryz.prog 70 [A.agg (gAt (Rf.dlst (x0.getD 5 D0)) x5), A.d (D.slc x1), A.ptr (.up (Ref.up q0)) 0, A.ptr (.up (Ref.up q1)) 0, A.ptr (.up (Ref.up q2)) 0, A.ptr (.up (Ref.up q3)) 0] [(Ref.up (Ref.up q0), [(A.own 1 x6 ([] : List (List D)))]), (Ref.up (Ref.up q1), [A.fn 68 []]), (Ref.up (Ref.up q2), [A.fn 70 [.up (Ref.up q0), .up (Ref.up q1), .up (Ref.up q2), .up (Ref.up q3)]]), (Ref.up (Ref.up q3), [A.fn 72 [.up (Ref.up q2), .up (Ref.up q1), .up (Ref.up q3)]])] R' /\
 (∀ v H', R' (.ret v) H' -> ∃ x7 : List (List D), v = A.tup [] /\ H' = [(Ref.up (Ref.up q0), [(A.own 1 x7 ([] : List (List D)))]), (Ref.up (Ref.up q1), [A.fn 68 []]), (Ref.up (Ref.up q2), [A.fn 70 [.up (Ref.up q0), .up (Ref.up q1), .up (Ref.up q2), .up (Ref.up q3)]]), (Ref.up (Ref.up q3), [A.fn 72 [.up (Ref.up q2), .up (Ref.up q1), .up (Ref.up q3)]])] /\
 tB (decide ((-9223372036854775808) <= (x5 + 1))) = true /\
 tB (decide ((x5 + 1) <= 9223372036854775807)) = true /\
 I0_0 (x5 + 1) x7 /\ M0_0 (x5 + 1) x7 < M0_0 x5 x6) /\
 (∀ x7v H', R' (.pan x7v) H' -> ∃ x8 : List (List D), H' = [(Ref.up (Ref.up q0), [(A.own 1 x8 ([] : List (List D)))]), (Ref.up (Ref.up q1), [A.fn 68 []]), (Ref.up (Ref.up q2), [A.fn 70 [.up (Ref.up q0), .up (Ref.up q1), .up (Ref.up q2), .up (Ref.up q3)]]), (Ref.up (Ref.up q3), [A.fn 72 [.up (Ref.up q2), .up (Ref.up q1), .up (Ref.up q3)]])] /\
 R (.pan x7v) [((Ref.up q0), [(A.own 1 x8 ([] : List (List D)))]), ((Ref.up q1), [A.fn 68 []]), ((Ref.up q2), [A.fn 70 [Ref.up q0, Ref.up q1, Ref.up q2, Ref.up q3]]), ((Ref.up q3), [A.fn 72 [Ref.up q2, Ref.up q1, Ref.up q3]])])) /\
 True) /\
 (tB (decide (x5 < ((Rf.dlst (x0.getD 5 D0)).length : Int))) = false ->
 Rf.isK .slc (x0.getD 6 D0) = true /\
 ∀ _ : Nat -> Nat, ∃ R', Holds Tryz.prog 72 [A.d (D.slc (Rf.dlst (x0.getD 6 D0))), A.d (D.slc x1), A.ptr (.up (Ref.up q2)) 0, A.ptr (.up (Ref.up q1)) 0, A.ptr (.up (Ref.up q3)) 0] [(Ref.up (Ref.up q2), [A.fn 70 [.up (Ref.up q0), .up (Ref.up q1), .up (Ref.up q2), .up (Ref.up q3)]]), (Ref.up (Ref.up q0), [(A.own 1 x6 ([] : List (List D)))]), (Ref.up (Ref.up q1), [A.fn 68 []]), (Ref.up (Ref.up q3), [A.fn 72 [.up (Ref.up q2), .up (Ref.up q1), .up (Ref.up q3)]])] R' /\
 (∀ v H', R' (.ret v) H' -> ∃ x7 : List (List D), v = A.tup [] /\ H' = [(Ref.up (Ref.up q2), [A.fn 70 [.up (Ref.up q0), .up (Ref.up q1), .up (Ref.up q2), .up (Ref.up q3)]]), (Ref.up (Ref.up q0), [(A.own 1 x7 ([] : List (List D)))]), (Ref.up (Ref.up q1), [A.fn 68 []]), (Ref.up (Ref.up q3), [A.fn 72 [.up (Ref.up q2), .up (Ref.up q1), .up (Ref.up q3)]])] /\
 R (.ret (A.tup [])) [((Ref.up q0), [(A.own 1 x7 ([] : List (List D)))]), ((Ref.up q1), [A.fn 68 []]), ((Ref.up q2), [A.fn 70 [Ref.up q0, Ref.up q1, Ref.up q2, Ref.up q3]]), ((Ref.up q3), [A.fn 72 [Ref.up q2, Ref.up q1, Ref.up q3]])]) /\
 (∀ x7v H', R' (.pan x7v) H' -> ∃ x8 : List (List D), H' = [(Ref.up (Ref.up q2), [A.fn 70 [.up (Ref.up q0), .up (Ref.up q1), .up (Ref.up q2), .up (Ref.up q3)]]), (Ref.up (Ref.up q0), [(A.own 1 x8 ([] : List (List D)))]), (Ref.up (Ref.up q1), [A.fn 68 []]), (Ref.up (Ref.up q3), [A.fn 72 [.up (Ref.up q2), .up (Ref.up q1), .up (Ref.up q3)]])] /\
 R (.pan x7v) [((Ref.up q0), [(A.own 1 x8 ([] : List (List D)))]), ((Ref.up q1), [A.fn 68 []]), ((Ref.up q2), [A.fn 70 [Ref.up q0, Ref.up q1, Ref.up q2, Ref.up q3]]), ((Ref.up q3), [A.fn 72 [Ref.up q2, Ref.up q1, Ref.up q3]])]))) /\
 True) /\
 True) :
 Holds Tryz.prog 70 [A.agg x0, A.d (D.slc x1), A.ptr (Ref.up q0) 0, A.ptr (Ref.up q1) 0, A.ptr (Ref.up q2) 0, A.ptr (Ref.up q3) 0] [((Ref.up q0), [(A.own 1 x2 ([] : List (List D)))]), ((Ref.up q1), [A.fn 68 []]), ((Ref.up q2), [A.fn 70 [Ref.up q0, Ref.up q1, Ref.up q2, Ref.up q3]]), ((Ref.up q3), [A.fn 72 [Ref.up q2, Ref.up q1, Ref.up q3]])] R :=
 walk (c := ⟨Tryz.prog, 75, true, [0, 1, 2, 3, 4, 5, 6, 8, 9, 10, 11, 21, 45, 46, 47, 48, 59]⟩) (op := { own := [(68, 1)], cuts := [5, 11], dat := [1, 10], com := [(12, (48, 5000)), (12, (9, 5000)), (12, (8, 5000)), (12, (10, 5000)), (12, (59, 5000))] }) (fn := Tryz.f70) (args := [.agg (.var 0), .c (.o1 .cl (.var 1)), .ptr (.up 0) 0, .ptr (.up 1) 0, .ptr (.up 2) 0, .ptr (.up 3) 0]) (K := [(.up 0, [.own 1 (.var 2) .lnil]), (.up 1, [.fn 68 []]), (.up 2, [.fn 70 [.up 0, .up 1, .up 2, .up 3]]), (.up 3, [.fn 72 [.up 2, .up 1, .up 3]])]) (nv := 3) (depth := 7) (up := upOf [q0, q1, q2, q3]) (ρ := Zc4 [.r x0, .l x1, .l x2])
  rfl rfl rfl rfl rfl (by decide) (by decide) (by decide) (by decide) rfl (by simp [Zac, RRef.den, upOf, hq01, hq02, hq12, hq03, hq13, hq23]) (T_of (by kernel_rfl) h)
theorem w72a {R : RT} (x0 : List (List D)) (x1 : List (List D)) (q0 q1 q2 q3 : Ref) (hq01 : q0 ≠ q1) (hq02 : q0 ≠ q2) (hq12 : q1 ≠ q2) (hq03 : q0 ≠ q3) (hq13 : q1 ≠ q3) (hq23 : q2 ≠ q3) (h : ∃ (I0_0 : Int -> Prop) (M0_0 : Int -> Nat), ∃ (I0_1 : Int -> List (List D) -> Prop) (M0_1 : Int -> List (List D) -> Nat), I0_0 0 /\
 (∀ (x2 : Int) , I0_0 x2 ->
 (tB (decide (x2 < (x0.length : Int))) = true ->
 tB (decide (0 <= x2)) = true /\
 tB (((gAt x0 x2).length : Int) == 11) = true /\
 ∃ J1_0 : Int -> Prop, ∃ J1_1 : Int -> List (List D) -> Prop, (Rf.isK .slc ((gAt x0 x2).getD 5 D0) = true /\
 ∃ (I2_0 : Int -> Prop) (M2_0 : Int -> Nat), ∃ (I2_1 : Int -> List (List D) -> Prop) (M2_1 : Int -> List (List D) -> Nat), I2_0 0 /\
 (∀ (x3 : Int) , I2_0 x3 ->
 (tB (decide (x3 < ((Rf.dlst ((gAt x0 x2).getD 5 D0)).length : Int))) = true ->
 tB (decide (0 <= x3)) = true /\
 tB (((gAt (Rf.dlst ((gAt x0 x2).getD 5 D0)) x3).length : Int) == 9) = true /\
 ∀ _ : Nat -> Nat, ∃ R', Holds Tryz.prog 70 [A.agg (gAt (Rf.dlst ((gAt x0 x2).getD 5 D0)) x3), A.d (D.slc x1), A.ptr (.up (Ref.up q1)) 0, A.ptr (.up (Ref.up q2)) 0, A.ptr (.up (Ref.up q0)) 0, A.ptr (.up (Ref.up q3)) 0] [(Ref.up (Ref.up q1), [(A.zs ([] : List (List D)))]), (Ref.up (Ref.up q2), [A.fn 68 []]), (Ref.up (Ref.up q0), [A.fn 70 [.up (Ref.up q1), .up (Ref.up q2), .up (Ref.up q0), .up (Ref.up q3)]]), (Ref.up (Ref.up q3), [A.fn 72 [.up (Ref.up q0), .up (Ref.up q2), .up (Ref.up q3)]])] R' /\
 (∀ v H', R' (.ret v) H' -> (v = (A.tup []) /\ H' = [(Ref.up (Ref.up q1), [(A.zs ([] : List (List D)))]), (Ref.up (Ref.up q2), [A.fn 68 []]), (Ref.up (Ref.up q0), [A.fn 70 [.up (Ref.up q1), .up (Ref.up q2), .up (Ref.up q0), .up (Ref.up q3)]]), (Ref.up (Ref.up q3), [A.fn 72 [.up (Ref.up q0), .up (Ref.up q2), .up (Ref.up q3)]])] /\
 tB (decide ((-9223372036854775808) <= (x3 + 1))) = true /\
 tB (decide ((x3 + 1) <= 9223372036854775807)) = true /\
 I2_0 (x3 + 1) /\ M2_0 (x3 + 1) < M2_0 x3) \/
 (∃ x4 : List (List D), v = A.tup [] /\ H' = [(Ref.up (Ref.up q1), [(A.own 1 x4 ([] : List (List D)))]), (Ref.up (Ref.up q2), [A.fn 68 []]), (Ref.up (Ref.up q0), [A.fn 70 [.up (Ref.up q1), .up (Ref.up q2), .up (Ref.up q0), .up (Ref.up q3)]]), (Ref.up (Ref.up q3), [A.fn 72 [.up (Ref.up q0), .up (Ref.up q2), .up (Ref.up q3)]])] /\
 tB (decide ((-9223372036854775808) <= (x3 + 1))) = true /\
 tB (decide ((x3 + 1) <= 9223372036854775807)) = true /\
 I2_1 (x3 + 1) x4 /\ M2_1 (x3 + 1) x4 < M2_0 x3)) /\
 (∀ x4v H', R' (.pan x4v) H' -> ∃ x5 : List (List D), H' = [(Ref.up (Ref.up q1), [A.zs x5]), (Ref.up (Ref.up q2), [A.fn 68 []]), (Ref.up (Ref.up q0), [A.fn 70 [.up (Ref.up q1), .up (Ref.up q2), .up (Ref.up q0), .up (Ref.up q3)]]), (Ref.up (Ref.up q3), [A.fn 72 [.up (Ref.up q0), .up (Ref.up q2), .up (Ref.up q3)]])] /\
 R (.pan x4v) [((Ref.up q0), [A.fn 70 [Ref.up q1, Ref.up q2, Ref.up q0, Ref.up q3]]), ((Ref.up q1), [A.zs x5]), ((Ref.up q2), [A.fn 68 []]), ((Ref.up q3), [A.fn 72 [Ref.up q0, Ref.up q2, Ref.up q3]])])) /\
 (tB (decide (x3 < ((Rf.dlst ((gAt x0 x2).getD 5 D0)).length : Int))) = false ->
 J1_0 x3)) /\
 (∀ (x3 : Int) (x4 : List (List D)) , I2_1 x3 x4 ->
 (tB (decide (x3 < ((Rf.dlst ((gAt x0 x2).getD 5 D0)).length : Int))) = true ->
 tB (decide (0 <= x3)) = true /\
 tB (((gAt (Rf.dlst ((gAt x0 x2).getD 5 D0)) x3).length : Int) == 9) = true /\
 ∀ _ : Nat -> Nat, ∃ R', Holds Tryz.prog 70 [A.agg (gAt (Rf.dlst ((gAt x0 x2).getD 5 D0)) x3), A.d (D.slc x1), A.ptr (.up (Ref.up q1)) 0, A.ptr (.up (Ref.up q2)) 0, A.ptr (.up (Ref.up q0)) 0, A.ptr (.up (Ref.up q3)) 0] [(Ref.up (Ref.up q1), [(A.own 1 x4 ([] : List (List D)))]), (Ref.up (Ref.up q2), [A.fn 68 []]), (Ref.up (Ref.up q0), [A.fn 70 [.up (Ref.up q1), .up (Ref.up q2), .up (Ref.up q0), .up (Ref.up q3)]]), (Ref.up (Ref.up q3), [A.fn 72 [.up (Ref.up q0), .up (Ref.up q2), .up (Ref.up q3)]])] R' /\
 (∀ v H', R' (.ret v) H' -> ∃ x5 : List (List D), v = A.tup [] /\ H' = [(Ref.up (Ref.up q1), [(A.own 1 x5 ([] : List (List D)))]), (Ref.up (Ref.up q2), [A.fn 68 []]), (Ref.up (Ref.up q0), [A.fn 70 [.up (Ref.up q1), .up (Ref.up q2), .up (Ref.up q0), .up (Ref.up q3)]]), (Ref.up (Ref.up q3), [A.fn 72 [.up (Ref.up q0), .up (Ref.up q2), .up (Ref.up q3)]])] /\
 tB (decide ((-9223372036854775808) <= (x3 + 1))) = true /\
 tB (decide ((x3 + 1) <= 9223372036854775807)) = true /\
 I2_1 (x3 + 1) x5 /\ M2_1 (x3 + 1) x5 < M2_1 x3 x4) /\
 (∀ x5v H', R' (.pan x5v) H' -> ∃ x6 : List (List D), H' = [(Ref.up (Ref.up q1), [(A.own 1 x6 ([] : List (List D)))]), (Ref.up (Ref.up q2), [A.fn 68 []]), (Ref.up (Ref.up q0), [A.fn 70 [.up (Ref.up q1), .up (Ref.up q2), .up (Ref.up q0), .up (Ref.up q3)]]), (Ref.up (Ref.up q3), [A.fn 72 [.up (Ref.up q0), .up (Ref.up q2), .up (Ref.up q3)]])] /\
 R (.pan x5v) [((Ref.up q0), [A.fn 70 [Ref.up q1, Ref.up q2, Ref.up q0, Ref.up q3]]), ((Ref.up q1), [(A.own 1 x6 ([] : List (List D)))]), ((Ref.up q2), [A.fn 68 []]), ((Ref.up q3), [A.fn 72 [Ref.up q0, Ref.up q2, Ref.up q3]])])) /\
 (tB (decide (x3 < ((Rf.dlst ((gAt x0 x2).getD 5 D0)).length : Int))) = false ->
 J1_1 x3 x4)) /\
 True) /\
 (∀ (x3 : Int) , J1_0 x3 ->
 ∃ J1_0 : List (List D) -> Prop, ∃ J1_1 : Prop, (Rf.isK (.int .i64) ((gAt x0 x2).getD 0 D0) = true /\
 (tB ((Rf.dint ((gAt x0 x2).getD 0 D0)) == 6) = true ->
 ∀ _ : Nat -> Nat, ∃ R', Holds Tryz.prog 68 [A.d (D.slc x1), A.agg [(gAt x0 x2).getD 3 D0, (gAt x0 x2).getD 4 D0]] [] R' /\
 (∀ v H', R' (.ret v) H' -> ∃ x4 : List (List D), v = A.own 1 x4 ([] : List (List D)) /\ H' = [] /\
 J1_0 x4) /\
 (∀ x4v H', R' (.pan x4v) H' -> H' = [] /\
 R (.pan x4v) [((Ref.up q0), [A.fn 70 [Ref.up q1, Ref.up q2, Ref.up q0, Ref.up q3]]), ((Ref.up q1), [(A.zs ([] : List (List D)))]), ((Ref.up q2), [A.fn 68 []]), ((Ref.up q3), [A.fn 72 [Ref.up q0, Ref.up q2, Ref.up q3]])])) /\
 (tB ((Rf.dint ((gAt x0 x2).getD 0 D0)) == 6) = false ->
 J1_1)) /\
 (∀ (x4 : List (List D)) , J1_0 x4 ->
 Rf.isK .slc ((gAt x0 x2).getD 6 D0) = true /\
 ∀ _ : Nat -> Nat, ∃ R', Holds Tryz.prog 72 [A.d (D.slc (Rf.dlst ((gAt x0 x2).getD 6 D0))), A.d (D.slc x4), A.ptr (.up (Ref.up q0)) 0, A.ptr (.up (Ref.up q2)) 0, A.ptr (.up (Ref.up q3)) 0] [(Ref.up (Ref.up q0), [A.fn 70 [.up (Ref.up q1), .up (Ref.up q2), .up (Ref.up q0), .up (Ref.up q3)]]), (Ref.up (Ref.up q1), [(A.zs ([] : List (List D)))]), (Ref.up (Ref.up q2), [A.fn 68 []]), (Ref.up (Ref.up q3), [A.fn 72 [.up (Ref.up q0), .up (Ref.up q2), .up (Ref.up q3)]])] R' /\
 (∀ v H', R' (.ret v) H' -> (v = (A.tup []) /\ H' = [(Ref.up (Ref.up q0), [A.fn 70 [.up (Ref.up q1), .up (Ref.up q2), .up (Ref.up q0), .up (Ref.up q3)]]), (Ref.up (Ref.up q1), [(A.zs ([] : List (List D)))]), (Ref.up (Ref.up q2), [A.fn 68 []]), (Ref.up (Ref.up q3), [A.fn 72 [.up (Ref.up q0), .up (Ref.up q2), .up (Ref.up q3)]])] /\
 tB (decide ((-9223372036854775808) <= (x2 + 1))) = true /\
 tB (decide ((x2 + 1) <= 9223372036854775807)) = true /\
 I0_0 (x2 + 1) /\ M0_0 (x2 + 1) < M0_0 x2) \/
 (∃ x5 : List (List D), v = A.tup [] /\ H' = [(Ref.up (Ref.up q0), [A.fn 70 [.up (Ref.up q1), .up (Ref.up q2), .up (Ref.up q0), .up (Ref.up q3)]]), (Ref.up (Ref.up q1), [(A.own 1 x5 ([] : List (List D)))]), (Ref.up (Ref.up q2), [A.fn 68 []]), (Ref.up (Ref.up q3), [A.fn 72 [.up (Ref.up q0), .up (Ref.up q2), .up (Ref.up q3)]])] /\
 tB (decide ((-9223372036854775808) <= (x2 + 1))) = true /\
 tB (decide ((x2 + 1) <= 9223372036854775807)) = true /\
 I0_1 (x2 + 1) x5 /\ M0_1 (x2 + 1) x5 < M0_0 x2)) /\
 (∀ x5v H', R' (.pan x5v) H' -> ∃ x6 : List (List D), H' = [(Ref.up (Ref.up q0), [A.fn 70 [.up (Ref.up q1), .up (Ref.up q2), .up (Ref.up q0), .up (Ref.up q3)]]), (Ref.up (Ref.up q1), [A.zs x6]), (Ref.up (Ref.up q2), [A.fn 68 []]), (Ref.up (Ref.up q3), [A.fn 72 [.up (Ref.up q0), .up (Ref.up q2), .up (Ref.up q3)]])] /\
 R (.pan x5v) [((Ref.up q0), [A.fn 70 [Ref.up q1, Ref.up q2, Ref.up q0, Ref.up q3]]), ((Ref.up q1), [A.zs x6]), ((Ref.up q2), [A.fn 68 []]), ((Ref.up q3), [A.fn 72 [Ref.up q0, Ref.up q2, Ref.up q3]])])) /\
 (J1_1 ->
 Rf.isK .slc ((gAt x0 x2).getD 6 D0) = true /\
 ∀ _ : Nat -> Nat, ∃ R', Holds Tryz.prog 72 [A.d (D.slc (Rf.dlst ((gAt x0 x2).getD 6 D0))), A.d (D.slc x1), A.ptr (.up (Ref.up q0)) 0, A.ptr (.up (Ref.up q2)) 0, A.ptr (.up (Ref.up q3)) 0] [(Ref.up (Ref.up q0), [A.fn 70 [.up (Ref.up q1), .up (Ref.up q2), .up (Ref.up q0), .up (Ref.up q3)]]), (Ref.up (Ref.up q1), [(A.zs ([] : List (List D)))]), (Ref.up (Ref.up q2), [A.fn 68 []]), (Ref.up (Ref.up q3), [A.fn 72 [.up (Ref.up q0), .up (Ref.up q2), .up (Ref.up q3)]])] R' /\
 (∀ v H', R' (.ret v) H' -> (v = (A.tup []) /\ H' = [(Ref.up (Ref.up q0), [A.fn 70 [.up (Ref.up q1), .up (Ref.up q2), .up (Ref.up q0), .up (Ref.up q3)]]), (Ref.up (Ref.up q1), [(A.zs ([] : List (List D)))]), (Ref.up (Ref.up q2), [A.fn 68 []]), (Ref.up (Ref.up q3), [A.fn 72 [.up (Ref.up q0), .up (Ref.up q2), .up (Ref.up q3)]])] /\
 tB (decide ((-9223372036854775808) <= (x2 + 1))) = true /\
 tB (decide ((x2 + 1) <= 9223372036854775807)) = true /\
 I0_0 (x2 + 1) /\ M0_0 (x2 + 1) < M0_0 x2) \/
 (∃ x4 : List (List D), v = A.tup [] /\ H' = [(Ref.up (Ref.up q0), [A.fn 70 [.up (Ref.up q1), .up (Ref.up q2), .up (Ref.up q0), .up (Ref.up q3)]]), (Ref.up (Ref.up q1), [(A.own 1 x4 ([] : List (List D)))]), (Ref.up (Ref.up q2), [A.fn 68 []]), (Ref.up (Ref.up q3), [A.fn 72 [.up (Ref.up q0), .up (Ref.up q2), .up (Ref.up q3)]])] /\
 tB (decide ((-9223372036854775808) <= (x2 + 1))) = true /\
 tB (decide ((x2 + 1) <= 9223372036854775807)) = true /\
 I0_1 (x2 + 1) x4 /\ M0_1 (x2 + 1) x4 < M0_0 x2)) /\
 (∀ x4v H', R' (.pan x4v) H' -> ∃ x5 : List (List D), H' = [(Ref.up (Ref.up q0), [A.fn 70 [.up (Ref.up q1), .up (Ref.up q2), .up (Ref.up q0), .up (Ref.up q3)]]), (Ref.up (Ref.up q1), [A.zs x5]), (Ref.up (Ref.up q2), [A.fn 68 []]), (Ref.up (Ref.up q3), [A.fn 72 [.up (Ref.up q0), .up (Ref.up q2), .up (Ref.up q3)]])] /\
 R (.pan x4v) [((Ref.up q0), [A.fn 70 [Ref.up q1, Ref.up q2, Ref.up q0, Ref.up q3]]), ((Ref.up q1), [A.zs x5]), ((Ref.up q2), [A.fn 68 []]), ((Ref.up q3), [A.fn 72 [Ref.up q0, Ref.up q2, Ref.up q3]])])) /\
 True) /\
 (∀ (x3 : Int) (x4 : List (List D)) , J1_1 x3 x4 ->
 ∃ J1_0 : List (List D) -> Prop, ∃ J1_1 : Prop, (Rf.isK (.int .i64) ((gAt x0 x2).getD 0 D0) = true /\
 (tB ((Rf.dint ((gAt x0 x2).getD 0 D0)) == 6) = true ->
 ∀ _ : Nat -> Nat, ∃ R', Holds Tryz.prog 68 [A.d (D.slc x1), A.agg [(gAt x0 x2).getD 3 D0, (gAt x0 x2).getD 4 D0]] [] R' /\
 (∀ v H', R' (.ret v) H' -> ∃ x5 : List (List D), v = A.own 1 x5 ([] : List (List D)) /\ H' = [] /\
 J1_0 x5) /\
 (∀ x5v H', R' (.pan x5v) H' -> H' = [] /\
 R (.pan x5v) [((Ref.up q0), [A.fn 70 [Ref.up q1, Ref.up q2, Ref.up q0, Ref.up q3]]), ((Ref.up q1), [(A.own 1 x4 ([] : List (List D)))]), ((Ref.up q2), [A.fn 68 []]), ((Ref.up q3), [A.fn 72 [Ref.up q0, Ref.up q2, Ref.up q3]])])) /\
 (tB ((Rf.dint ((gAt x0 x2).getD 0 D0)) == 6) = false ->
 J1_1)) /\
 (∀ (x5 : List (List D)) , J1_0 x5 ->
 Rf.isK .slc ((gAt x0 x2).getD 6 D0) = true /\
 ∀ _ : Nat -> Nat, ∃ R', Holds Tryz.prog 72 [A.d (D.slc (Rf.dlst ((gAt x0 x2).getD 6 D0))), A.d (D.slc x5), A.ptr (.up (Ref.up q0)) 0, A.ptr (.up (Ref.up q2)) 0, A.ptr (.up (Ref.up q3)) 0] [(Ref.up (Ref.up q0), [A.fn 70 [.up (Ref.up q1), .up (Ref.up q2), .up (Ref.up q0), .up (Ref.up q3)]]), (Ref.up (Ref.up q1), [(A.own 1 x4 ([] : List (List D)))]), (Ref.up (Ref.up q2), [A.fn 68 []]), (Ref.up (Ref.up q3), [A.fn 72 [.up (Ref.up q0), .up (Ref.up q2), .up (Ref.up q3)]])] R' /\
 (∀ v H', R' (.ret v) H' -> ∃ x6 : List (List D), v = A.tup [] /\ H' = [(Ref.up (Ref.up q0), [A.fn 70 [.up (Ref.up q1), .up (Ref.up q2), .up (Ref.up q0), .up (Ref.up q3)]]), (Ref.up (Ref.up q1), [(A.own 1 x6 ([] : List (List D)))]), (Ref.up (Ref.up q2), [A.fn 68 []]), (Ref.up (Ref.up q3), [A.fn 72 [.up (Ref.up q0), .up (Ref.up q2), .up (Ref.up q3)]])] /\
 tB (decide ((-9223372036854775808) <= (x2 + 1))) = true /\
 tB (decide ((x2 + 1) <= 9223372036854775807)) = true /\
 I0_1 (x2 + 1) x6 /\ M0_1 (x2 + 1) x6 < M0_0 x2) /\
 (∀ x6v H', R' (.pan x6v) H' -> ∃ x7 : List (List D), H' = [(Ref.up (Ref.up q0), [A.fn 70 [.up (Ref.up q1), .up (Ref.up q2), .up (Ref.up q0), .up (Ref.up q3)]]), (Ref.up (Ref.up q1), [(A.own 1 x7 ([] : List (List D)))]), (Ref.up (Ref.up q2), [A.fn 68 []]), (Ref.up (Ref.up q3), [A.fn 72 [.up (Ref.up q0), .up (Ref.up q2), .up (Ref.up q3)]])] /\
 R (.pan x6v) [((Ref.up q0), [A.fn 70 [Ref.up q1, Ref.up q2, Ref.up q0, Ref.up q3]]), ((Ref.up q1), [(A.own 1 x7 ([] : List (List D)))]), ((Ref.up q2), [A.fn 68 []]), ((Ref.up q3), [A.fn 72 [Ref.up q0, Ref.up q2, Ref.up q3]])])) /\
 (J1_1 ->
 Rf.isK .slc ((gAt x0 x2).getD 6 D0) = true /\
 ∀ _ : Nat -> Nat, ∃ R', Holds Tryz.prog 72 [A.d (D.slc (Rf.dlst ((gAt x0 x2).getD 6 D0))), A.d (D.slc x1), A.ptr (.up (Ref.up q0)) 0, A.ptr (.up (Ref.up q2)) 0, A.ptr (.up (Ref.up q3)) 0] [(Ref.up (Ref.up q0), [A.fn 70 [.up (Ref.up q1), .up (Ref.up q2), .up (Ref.up q0), .up (Ref.up q3)]]), (Ref.up (Ref.up q1), [(A.own 1 x4 ([] : List (List D)))]), (Ref.up (Ref.up q2), [A.fn 68 []]), (Ref.up (Ref.up q3), [A.fn 72 [.up (Ref.up q0), .up (Ref.up q2), .up (Ref.up q3)]])] R' /\
 (∀ v H', R' (.ret v) H' -> ∃ x5 : List (List D), v = A.tup [] /\ H' = [(Ref.up (Ref.up q0), [A.fn 70 [.up (Ref.up q1), .up (Ref.up q2), .up (Ref.up q0), .up (Ref.up q3)]]), (Ref.up (Ref.up q1), [(A.own 1 x5 ([] : List (List D)))]), (Ref.up (Ref.up q2), [A.fn 68 []]), (Ref.up (Ref.up q3), [A.fn 72 [.up (Ref.up q0), .up (Ref.up q2), .up (Ref.up q3)]])] /\
 tB (decide ((-9223372036854775808) <= (x2 + 1))) = true /\
 tB (decide ((x2 + 1) <= 9223372036854775807)) = true /\
 I0_1 (x2 + 1) x5 /\ M0_1 (x2 + 1) x5 < M0_0 x2) /\
 (∀ x5v H', R' (.pan x5v) H' -> ∃ x6 : List (List D), H' = [(Ref.up (Ref.up q0), [A.fn 70 [.up (Ref.up q1), .up (Ref.up q2), .up (Ref.up q0), .up (Ref.up q3)]]), (Ref.up (Ref.up q1), [(A.own 1 x6 ([] : List (List D)))]), (Ref.up (Ref.up q2), [A.fn 68 []]), (Ref.up (Ref.up q3), [A.fn 72 [.up (Ref.up q0), .up (Ref.up q2), .up (Ref.up q3)]])] /\
 R (.pan x5v) [((Ref.up q0), [A.fn 70 [Ref.up q1, Ref.up q2, Ref.up q0, Ref.up q3]]), ((Ref.up q1), [(A.own 1 x6 ([] : List (List D)))]), ((Ref.up q2), [A.fn 68 []]), ((Ref.up q3), [A.fn 72 [Ref.up q0, Ref.up q2, Ref.up q3]])])) /\
 True) /\
 True) /\
 (tB (decide (x2 < (x0.length : Int))) = false ->
 R (.ret (A.tup [])) [((Ref.up q0), [A.fn 70 [Ref.up q1, Ref.up q2, Ref.up q0, Ref.up q3]]), ((Ref.up q1), [(A.zs ([] : List (List D)))]), ((Ref.up q2), [A.fn 68 []]), ((Ref.up q3), [A.fn 72 [Ref.up q0, Ref.up q2, Ref.up q3]])])) /\
 (∀ (x2 : Int) (x3 : List (List D)) , I0_1 x2 x3 ->
 (tB (decide (x2 < (x0.length : Int))) = true ->
 tB (decide (0 <= x2)) = true /\
 tB (((gAt x0 x2).length : Int) == 11) = true /\
 ∃ J1_0 : Int -> List (List D) -> Prop, (Rf.isK .slc ((gAt x0 x2).getD 5 D0) = true /\
 ∃ (I2_0 : Int -> List (List D) -> Prop) (M2_0 : Int -> List (List D) -> Nat), I2_0 0 x3 /\
 (∀ (x4 : Int) (x5 : List (List D)) , I2_0 x4 x5 ->
 (tB (decide (x4 < ((Rf.dlst ((gAt x0 x2).getD 5 D0)).length : Int))) = true ->
 tB (decide (0 <= x4)) = true /\
 tB (((gAt (Rf.dlst ((gAt x0 x2).getD 5 D0)) x4).length : Int) == 9) = true /\
 ∀ _ : Nat -> Nat, ∃ R', Holds Tryz.prog 70 [A.agg (gAt (Rf.dlst ((gAt x0 x2).getD 5 D0)) x4), A.d (D.slc x1), A.ptr (.up (Ref.up q1)) 0, A.ptr (.up (Ref.up q2)) 0, A.ptr (.up (Ref.up q0)) 0, A.ptr (.up (Ref.up q3)) 0] [(Ref.up (Ref.up q1), [(A.own 1 x5 ([] : List (List D)))]), (Ref.up (Ref.up q2), [A.fn 68 []]), (Ref.up (Ref.up q0), [A.fn 70 [.up (Ref.up q1), .up (Ref.up q2), .up (Ref.up q0), .up (Ref.up q3)]]), (Ref.up (Ref.up q3), [A.fn 72 [.up (Ref.up q0), .up (Ref.up q2), .up (Ref.up q3)]])] R' /\
 (∀ v H', R' (.ret v) H' -> ∃ x6 : List (List D), v = A.tup [] /\ H' = [(Ref.up (Ref.up q1), [(A.own 1 x6 ([] : List (List D)))]), (Ref.up (Ref.up q2), [A.fn 68 []]), (Ref.up (Ref.up q0), [A.fn 70 [.up (Ref.up q1), .up (Ref.up q2), .up (Ref.up q0), .up (Ref.up q3)]]), (Ref.up (Ref.up q3), [A.fn 72 [.up (Ref.up q0), .up (Ref.up q2), .up (Ref.up q3)]])] /\
 tB (decide ((-9223372036854775808) <= (x4 + 1))) = true /\
 tB (decide ((x4 + 1) <= 9223372036854775807)) = true /\
 I2_0 (x4 + 1) x6 /\ M2_0 (x4 + 1) x6 < M2_0 x4 x5) /\
 (∀ x6v H', R' (.pan x6v) H' -> ∃ x7 : List (List D), H' = [(Ref.up (Ref.up q1), [(A.own 1 x7 ([] : List (List D)))]), (Ref.up (Ref.up q2), [A.fn 68 []]), (Ref.up (Ref.up q0), [A.fn 70 [.up (Ref.up q1), .up (Ref.up q2), .up (Ref.up q0), .up (Ref.up q3)]]), (Ref.up (Ref.up q3), [A.fn 72 [.up (Ref.up q0), .up (Ref.up q2), .up (Ref.up q3)]])] /\
 R (.pan x6v) [((Ref.up q0), [A.fn 70 [Ref.up q1, Ref.up q2, Ref.up q0, Ref.up q3]]), ((Ref.up q1), [(A.own 1 x7 ([] : List (List D)))]), ((Ref.up q2), [A.fn 68 []]), ((Ref.up q3), [A.fn 72 [Ref.up q0, Ref.up q2, Ref.up q3]])])) /\
 (tB (decide (x4 < ((Rf.dlst ((gAt x0 x2).getD 5 D0)).length : Int))) = false ->
 J1_0 x4 x5)) /\
 True) /\
 (∀ (x4 : Int) (x5 : List (List D)) , J1_0 x4 x5 ->
 ∃ J1_0 : List (List D) -> Prop, ∃ J1_1 : Prop, (Rf.isK (.int .i64) ((gAt x0 x2).getD 0 D0) = true /\
 (tB ((Rf.dint ((gAt x0 x2).getD 0 D0)) == 6) = true ->
 ∀ _ : Nat -> Nat, ∃ R', Holds Tryz.prog 68 [A.d (D.slc x1), A.agg [(gAt x0 x2).getD 3 D0, (gAt x0 x2).getD 4 D0]] [] R' /\
 (∀ v H', R' (.ret v) H' -> ∃ x6 : List (List D), v = A.own 1 x6 ([] : List (List D)) /\ H' = [] /\
 J1_0 x6) /\
 (∀ x6v H', R' (.pan x6v) H' -> H' = [] /\
 R (.pan x6v) [((Ref.up q0), [A.fn 70 [Ref.up q1, Ref.up q2, Ref.up q0, Ref.up q3]]), ((Ref.up q1), [(A.own 1 x5 ([] : List (List D)))]), ((Ref.up q2), [A.fn 68 []]), ((Ref.up q3), [A.fn 72 [Ref.up q0, Ref.up q2, Ref.up q3]])])) /\
 (tB ((Rf.dint ((gAt x0 x2).getD 0 D0)) == 6) = false ->
 J1_1)) /\
 (∀ (x6 : List (List D)) , J1_0 x6 ->
 Rf.isK .slc ((gAt x0 x2).getD 6 D0) = true /\
 ∀ _ : Nat -> Nat, ∃ R', Holds Tryz.prog 72 [A.d (D.slc (Rf.dlst ((gAt x0 x2).getD 6 D0))), A.d (D.slc x6), A.ptr (.up (Ref.up q0)) 0, A.ptr (.up (Ref.up q2)) 0, A.ptr (.up (Ref.up q3)) 0] [(Ref.up (Ref.up q0), [A.fn 70 [.up (Ref.up q1), .up (Ref.up q2), .up (Ref.up q0), .up (Ref.up q3)]]), (Ref.up (Ref.up q1), [(A.own 1 x5 ([] : List (List D)))]), (Ref.up (Ref.up q2), [A.fn 68 []]), (Ref.up (Ref.up q3), [A.fn 72 [.up (Ref.up q0), .up (Ref.up q2), .up (Ref.up q3)]])] R' /\
 (∀ v H', R' (.ret v) H' -> ∃ x7 : List (List D), v = A.tup [] /\ H' = [(Ref.up (Ref.up q0), [A.fn 70 [.up (Ref.up q1), .up (Ref.up q2), .up (Ref.up q0), .up (Ref.up q3)]]), (Ref.up (Ref.up q1), [(A.own 1 x7 ([] : List (List D)))]), (Ref.up (Ref.up q2), [A.fn 68 []]), (Ref.up (Ref.up q3), [A.fn 72 [.up (Ref.up q0), .up (Ref.up q2), .up (Ref.up q3)]])] /\
 tB (decide ((-9223372036854775808) <= (x2 + 1))) = true /\
 tB (decide ((x2 + 1) <= 9223372036854775807)) = true /\
 I0_1 (x2 + 1) x7 /\ M0_1 (x2 + 1) x7 < M0_1 x2 x3) /\
 (∀ x7v H', R' (.pan x7v) H' -> ∃ x8 : List (List D), H' = [(Ref.up (Ref.up q0), [A.fn 70 [.up (Ref.up q1), .up (Ref.up q2), .up (Ref.up q0), .up (Ref.up q3)]]), (Ref.up (Ref.up q1), [(A.own 1 x8 ([] : List (List D)))]), (Ref.up (Ref.up q2), [A.fn 68 []]), (Ref.up (Ref.up q3), [A.fn 72 [.up (Ref.up q0), .up (Ref.up q2), .up (Ref.up q3)]])] /\
 R (.pan x7v) [((Ref.up q0), [A.fn 70 [Ref.up q1, Ref.up q2, Ref.up q0, Ref.up q3]]), ((Ref.up q1), [(A.own 1 x8 ([] : List (List D)))]), ((Ref.up q2), [A.fn 68 []]), ((Ref.up q3), [A.fn 72 [Ref.up q0, Ref.up q2, Ref.up q3]])])) /\
 (J1_1 ->
 Rf.isK .slc ((gAt x0 x2).getD 6 D0) = true /\
 ∀ _ : Nat -> Nat, ∃ R', Holds Tryz.prog 72 [A.d (D.slc (Rf.dlst ((gAt x0 x2).getD 6 D0))), A.d (D.slc x1), A.ptr (.up (Ref.up q0)) 0, A.ptr (.up (Ref.up q2)) 0, A.ptr (.up (Ref.up q3)) 0] [(Ref.up (Ref.up q0), [A.fn 70 [.up (Ref.up q1), .up (Ref.up q2), .up (Ref.up q0), .up (Ref.up q3)]]), (Ref.up (Ref.up q1), [(A.own 1 x5 ([] : List (List D)))]), (Ref.up (Ref.up q2), [A.fn 68 []]), (Ref.up (Ref.up q3), [A.fn 72 [.up (Ref.up q0), .up (Ref.up q2), .up (Ref.up q3)]])] R' /\
 (∀ v H', R' (.ret v) H' -> ∃ x6 : List (List D), v = A.tup [] /\ H' = [(Ref.up (Ref.up q0), [A.fn 70 [.up (Ref.up q1), .up (Ref.up q2), .up (Ref.up q0), .up (Ref.up q3)]]), (Ref.up (Ref.up q1), [(A.own 1 x6 ([] : List (List D)))]), (Ref.up (Ref.up q2), [A.fn 68 []]), (Ref.up (Ref.up q3), [A.fn 72 [.up (Ref.up q0), .up (Ref.up q2), .up (Ref.up q3)]])] /\
 tB (decide ((-9223372036854775808) <= (x2 + 1))) = true /\
 tB (decide ((x2 + 1) <= 9223372036854775807)) = true /\
 I0_1 (x2 + 1) x6 /\ M0_1 (x2 + 1) x6 < M0_1 x2 x3) /\
 (∀ x6v H', R' (.pan x6v) H' -> ∃ x7 : List (List D), H' = [(Ref.up (Ref.up q0), [A.fn 70 [.up (Ref.up q1), .up (Ref.up q2), .up (Ref.up q0), .up (Ref.up q3)]]), (Ref.up (Ref.up q1), [(A.own 1 x7 ([] : List (List D)))]), (Ref.up (Ref.up q2), [A.fn 68 []]), (Ref.up (Ref.up q3), [A.fn 72 [.up (Ref.up q0), .up (Ref.up q2), .up (Ref.up q3)]])] /\
 R (.pan x6v) [((Ref.up q0), [A.fn 70 [Ref.up q1, Ref.up q2, Ref.up q0, Ref.up q3]]), ((Ref.up q1), [(A.own 1 x7 ([] : List (List D)))]), ((Ref.up q2), [A.fn 68 []]), ((Ref.up q3), [A.fn 72 [Ref.up q0, Ref.up q2, Ref.up q3]])])) /\
 True) /\
 True) /\
 (tB (decide (x2 < (x0.length : Int))) = false ->
 R (.ret (A.tup [])) [((Ref.up q0), [A.fn 70 [Ref.up q1, Ref.up q2, Ref.up q0, Ref.up q3]]), ((Ref.up q1), [(A.own 1 x3 ([] : List (List D)))]), ((Ref.up q2), [A.fn 68 []]), ((Ref.up q3), [A.fn 72 [Ref.up q0, Ref.up q2, Ref.up q3]])])) /\
 True) :
 Holds Tryz.prog 72 [A.d (D.slc x0), A.d (D.slc x1), A.ptr (Ref.up q0) 0, A.ptr (Ref.up q2) 0, A.ptr (Ref.up q3) 0] [((Ref.up q0), [A.fn 70 [Ref.up q1, Ref.up q2, Ref.up q0, Ref.up q3]]), ((Ref.up q1), [(A.zs ([] : List (List D)))]), ((Ref.up q2), [A.fn 68 []]), ((Ref.up q3), [A.fn 72 [Ref.up q0, Ref.up q2, Ref.up q3]])] R :=
 walk (c := ⟨Tryz.prog, 45, true, [0, 1, 2, 3, 4, 8, 10, 11, 12, 13, 14, 15, 19, 20, 21, 22, 33]⟩) (op := { own := [(68, 1)], cuts := [8, 11], dat := [1, 11], two := [(70, 1), (72, 1), (85, 1), (86, 1), (87, 1)], com := [(12, (15, 5000)), (12, (8, 5000)), (12, (19, 5000)), (12, (20, 5000)), (12, (21, 5000)), (12, (22, 5000)), (12, (10, 5000)), (12, (11, 5000)), (12, (33, 5000)), (7, (22, 5000)), (7, (10, 5000))] }) (fn := Tryz.f72) (args := [.c (.o1 .cl (.var 0)), .c (.o1 .cl (.var 1)), .ptr (.up 0) 0, .ptr (.up 2) 0, .ptr (.up 3) 0]) (K := [(.up 0, [.fn 70 [.up 1, .up 2, .up 0, .up 3]]), (.up 1, [.zs .lnil]), (.up 2, [.fn 68 []]), (.up 3, [.fn 72 [.up 0, .up 2, .up 3]])]) (nv := 2) (depth := 6) (up := upOf [q0, q1, q2, q3]) (ρ := Zc4 [.l x0, .l x1])
  rfl rfl rfl rfl rfl (by decide) (by decide) (by decide) (by decide) rfl (by simp [Zac, RRef.den, upOf, hq01, hq02, hq12, hq03, hq13, hq23]) (T_of (by kernel_rfl) h)
theorem w72b {R : RT} (x0 : List (List D)) (x1 : List (List D)) (x2 : List (List D)) (q0 q1 q2 q3 : Ref) (hq01 : q0 ≠ q1) (hq02 : q0 ≠ q2) (hq12 : q1 ≠ q2) (hq03 : q0 ≠ q3) (hq13 : q1 ≠ q3) (hq23 : q2 ≠ q3) (h : ∃ (I0_0 : Int -> List (List D) -> Prop) (M0_0 : Int -> List (List D) -> Nat), I0_0 0 x2 /\
 (∀ (x3 : Int) (x4 : List (List D)) , I0_0 x3 x4 ->
 (tB (decide (x3 < (x0.length : Int))) = true ->
 tB (decide (0 <= x3)) = true /\
 tB (((gAt x0 x3).length : Int) == 11) = true /\
 Rf.isK .slc ((gAt x0 x3).getD 5 D0) = true /\
 ∃ (I1_0 : Int -> List (List D) -> Prop) (M1_0 : Int -> List (List D) -> Nat), I1_0 0 x4 /\
 (∀ (x5 : Int) (x6 : List (List D)) , I1_0 x5 x6 ->
 (tB (decide (x5 < ((Rf.dlst ((gAt x0 x3).getD 5 D0)).length : Int))) = true ->
 tB (decide (0 <= x5)) = true /\
 tB (((gAt (Rf.dlst ((gAt x0 x3).getD 5 D0)) x5).length : Int) == 9) = true /\
 ∀ _ : Nat -> Nat, ∃ R', Holds Tryz.prog 70 [A.agg (gAt (Rf.dlst ((gAt x0 x3).getD 5 D0)) x5), A.d (D.slc x1), A.ptr (.up (Ref.up q1)) 0, A.ptr (.up (Ref.up q2)) 0, A.ptr (.up (Ref.up q0)) 0, A.ptr (.up (Ref.up q3)) 0] [(Ref.up (Ref.up q1), [(A.own 1 x6 ([] : List (List D)))]), (Ref.up (Ref.up q2), [A.fn 68 []]), (Ref.up (Ref.up q0), [A.fn 70 [.up (Ref.up q1), .up (Ref.up q2), .up (Ref.up q0), .up (Ref.up q3)]]), (Ref.up (Ref.up q3), [A.fn 72 [.up (Ref.up q0), .up (Ref.up q2), .up (Ref.up q3)]])] R' /\
 (∀ v H', R' (.ret v) H' -> ∃ x7 : List (List D), v = A.tup [] /\ H' = [(Ref.up (Ref.up q1), [(A.own 1 x7 ([] : List (List D)))]), (Ref.up (Ref.up q2), [A.fn 68 []]), (Ref.up (Ref.up q0), [A.fn 70 [.up (Ref.up q1), .up (Ref.up q2), .up (Ref.up q0), .up (Ref.up q3)]]), (Ref.up (Ref.up q3), [A.fn 72 [.up (Ref.up q0), .up (Ref.up q2), .up (Ref.up q3)]])] /\
 tB (decide ((-9223372036854775808) <= (x5 + 1))) = true /\
 tB (decide ((x5 + 1) <= 9223372036854775807)) = true /\
 I1_0 (x5 + 1) x7 /\ M1_0 (x5 + 1) x7 < M1_0 x5 x6) /\
 (∀ x7v H', R' (.pan x7v) H' -> ∃ x8 : List (List D), H' = [(Ref.up (Ref.up q1), [(A.own 1 x8 ([] : List (List D)))]), (Ref.up (Ref.up q2), [A.fn 68 []]), (Ref.up (Ref.up q0), [A.fn 70 [.up (Ref.up q1), .up (Ref.up q2), .up (Ref.up q0), .up (Ref.up q3)]]), (Ref.up (Ref.up q3), [A.fn 72 [.up (Ref.up q0), .up (Ref.up q2), .up (Ref.up q3)]])] /\
 R (.pan x7v) [((Ref.up q0), [A.fn 70 [Ref.up q1, Ref.up q2, Ref.up q0, Ref.up q3]]), ((Ref.up q1), [(A.own 1 x8 ([] : List (List D)))]), ((Ref.up q2), [A.fn 68 []]), ((Ref.up q3), [A.fn 72 [Ref.up q0, Ref.up q2, Ref.up q3]])])) /\
 (tB (decide (x5 < ((Rf.dlst ((gAt x0 x3).getD 5 D0)).length : Int))) = false ->
 ∃ J2_0 : List (List D) -> Prop, ∃ J2_1 : Prop, (Rf.isK (.int .i64) ((gAt x0 x3).getD 0 D0) = true /\
 (tB ((Rf.dint ((gAt x0 x3).getD 0 D0)) == 6) = true ->
 ∀ _ : Nat -> Nat, ∃ R', Holds Tryz.prog 68 [A.d (D.slc x1), A.agg [(gAt x0 x3).getD 3 D0, (gAt x0 x3).getD 4 D0]] [] R' /\
 (∀ v H', R' (.ret v) H' -> ∃ x7 : List (List D), v = A.own 1 x7 ([] : List (List D)) /\ H' = [] /\
 J2_0 x7) /\
 (∀ x7v H', R' (.pan x7v) H' -> H' = [] /\
 R (.pan x7v) [((Ref.up q0), [A.fn 70 [Ref.up q1, Ref.up q2, Ref.up q0, Ref.up q3]]), ((Ref.up q1), [(A.own 1 x6 ([] : List (List D)))]), ((Ref.up q2), [A.fn 68 []]), ((Ref.up q3), [A.fn 72 [Ref.up q0, Ref.up q2, Ref.up q3]])])) /\
 (tB ((Rf.dint ((gAt x0 x3).getD 0 D0)) == 6) = false ->
 J2_1)) /\
 (∀ (x7 : List (List D)) , J2_0 x7 ->
 Rf.isK .slc ((gAt x0 x3).getD 6 D0) = true /\
 ∀ _ : Nat -> Nat, ∃ R', Holds Tryz.prog 72 [A.d (D.slc (Rf.dlst ((gAt x0 x3).getD 6 D0))), A.d (D.slc x7), A.ptr (.up (Ref.up q0)) 0, A.ptr (.up (Ref.up q2)) 0, A.ptr (.up (Ref.up q3)) 0] [(Ref.up (Ref.up q0), [A.fn 70 [.up (Ref.up q1), .up (Ref.up q2), .up (Ref.up q0), .up (Ref.up q3)]]), (Ref.up (Ref.up q1), [(A.own 1 x6 ([] : List (List D)))]), (Ref.up (Ref.up q2), [A.fn 68 []]), (Ref.up (Ref.up q3), [A.fn 72 [.up (Ref.up q0), .up (Ref.up q2), .up (Ref.up q3)]])] R' /\
 (∀ v H', R' (.ret v) H' -> ∃ x8 : List (List D), v = A.tup [] /\ H' = [(Ref.up (Ref.up q0), [A.fn 70 [.up (Ref.up q1), .up (Ref.up q2), .up (Ref.up q0), .up (Ref.up q3)]]), (Ref.up (Ref.up q1), [(A.own 1 x8 ([] : List (List D)))]), (Ref.up (Ref.up q2), [A.fn 68 []]), (Ref.up (Ref.up q3), [A.fn 72 [.up (Ref.up q0), .up (Ref.up q2), .up (Ref.up q3)]])] /\
 tB (decide ((-9223372036854775808) <= (x3 + 1))) = true /\
 tB (decide ((x3 + 1) <= 9223372036854775807)) = true /\
 I0_0 (x3 + 1) x8 /\ M0_0 (x3 + 1) x8 < M0_0 x3 x4) /\
 (∀ x8v H', R' (.pan x8v) H' -> ∃ x9 : List (List D), H' = [(Ref.up (Ref.up q0), [A.fn 70 [.up (Ref.up q1), .up (Ref.up q2), .up (Ref.up q0), .up (Ref.up q3)]]), (Ref.up (Ref.up q1), [(A.own 1 x9 ([] : List (List D)))]), (Ref.up (Ref.up q2), [A.fn 68 []]), (Ref.up (Ref.up q3), [A.fn 72 [.up (Ref.up q0), .up (Ref.up q2), .up (Ref.up q3)]])] /\
 R (.pan x8v) [((Ref.up q0), [A.fn 70 [Ref.up q1, Ref.up q2, Ref.up q0, Ref.up q3]]), ((Ref.up q1), [(A.own 1 x9 ([] : List (List D)))]), ((Ref.up q2), [A.fn 68 []]), ((Ref.up q3), [A.fn 72 [Ref.up q0, Ref.up q2, Ref.up q3]])])) /\
 (J2_1 ->
 Rf.isK .slc ((gAt x0 x3).getD 6 D0) = true /\
 ∀ _ : Nat -> Nat, ∃ R', Holds Tryz.prog 72 [A.d (D.slc (Rf.dlst ((gAt x0 x3).getD 6 D0))), A.d (D.slc x1), A.ptr (.up (Ref.up q0)) 0, A.ptr (.up (Ref.up q2)) 0, A.ptr (.up (Ref.up q3)) 0] [(Ref.up (Ref.up q0), [A.fn 70 [.up (Ref.up q1), .up (Ref.up q2), .up (Ref.up q0), .up (Ref.up q3)]]), (Ref.up (Ref.up q1), [(A.own 1 x6 ([] : List (List D)))]), (Ref.up (Ref.up q2), [A.fn 68 []]), (Ref.up (Ref.up q3), [A.fn 72 [.up (Ref.up q0), .up (Ref.up q2), .up (Ref.up q3)]])] R' /\
 (∀ v H', R' (.ret v) H' -> ∃ x7 : List (List D), v = A.tup [] /\ H' = [(Ref.up (Ref.up q0), [A.fn 70 [.up (Ref.up q1), .up (Ref.up q2), .up (Ref.up q0), .up (Ref.up q3)]]), (Ref.up (Ref.up q1), [(A.own 1 x7 ([] : List (List D)))]), (Ref.up (Ref.up q2), [A.fn 68 []]), (Ref.up (Ref.up q3), [A.fn 72 [.up (Ref.up q0), .up (Ref.up q2), .up (Ref.up q3)]])] /\
 tB (decide ((-9223372036854775808) <= (x3 + 1))) = true /\
 tB (decide ((x3 + 1) <= 9223372036854775807)) = true /\
 I0_0 (x3 + 1) x7 /\ M0_0 (x3 + 1) x7 < M0_0 x3 x4) /\
 (∀ x7v H', R' (.pan x7v) H' -> ∃ x8 : List (List D), H' = [(Ref.up (Ref.up q0), [A.fn 70 [.up (Ref.up q1), .up (Ref.up q2), .up (Ref.up q0), .up (Ref.up q3)]]), (Ref.up (Ref.up q1), [(A.own 1 x8 ([] : List (List D)))]), (Ref.up (Ref.up q2), [A.fn 68 []]), (Ref.up (Ref.up q3), [A.fn 72 [.up (Ref.up q0), .up (Ref.up q2), .up (Ref.up q3)]])] /\
 R (.pan x7v) [((Ref.up q0), [A.fn 70 [Ref.up q1, Ref.up q2, Ref.up q0, Ref.up q3]]), ((Ref.up q1), [(A.own 1 x8 ([] : List (List D)))]), ((Ref.up q2), [A.fn 68 []]), ((Ref.up q3), [A.fn 72 [Ref.up q0, Ref.up q2, Ref.up q3]])])) /\
 True)) /\
 True) /\
 (tB (decide (x3 < (x0.length : Int))) = false ->
 R (.ret (A.tup [])) [((Ref.up q0), [A.fn 70 [Ref.up q1, Ref.up q2, Ref.up q0, Ref.up q3]]), ((Ref.up q1), [(A.own 1 x4 ([] : List (List D)))]), ((Ref.up q2), [A.fn 68 []]), ((Ref.up q3), [A.fn 72 [Ref.up q0, Ref.up q2, Ref.up q3]])])) /\
 True) :
 Holds Tryz.prog 72 [A.d (D.slc x0), A.d (D.slc x1), A.ptr (Ref.up q0) 0, A.ptr (Ref.up q2) 0, A.ptr (Ref.up q3) 0] [((Ref.up q0), [A.fn 70 [Ref.up q1, Ref.up q2, Ref.up q0, Ref.up q3]]), ((Ref.up q1), [(A.own 1 x2 ([] : List (List D)))]), ((Ref.up q2), [A.fn 68 []]), ((Ref.up q3), [A.fn 72 [Ref.up q0, Ref.up q2, Ref.up q3]])] R :=
 walk (c := ⟨Tryz.prog, 45, true, [0, 1, 2, 3, 4, 8, 10, 11, 12, 13, 14, 15, 19, 20, 21, 22, 33]⟩) (op := { own := [(68, 1)], cuts := [11], dat := [1, 11], com := [(12, (15, 5000)), (12, (8, 5000)), (12, (19, 5000)), (12, (20, 5000)), (12, (21, 5000)), (12, (22, 5000)), (12, (10, 5000)), (12, (11, 5000)), (12, (33, 5000)), (7, (22, 5000)), (7, (10, 5000))] }) (fn := Tryz.f72) (args := [.c (.o1 .cl (.var 0)), .c (.o1 .cl (.var 1)), .ptr (.up 0) 0, .ptr (.up 2) 0, .ptr (.up 3) 0]) (K := [(.up 0, [.fn 70 [.up 1, .up 2, .up 0, .up 3]]), (.up 1, [.own 1 (.var 2) .lnil]), (.up 2, [.fn 68 []]), (.up 3, [.fn 72 [.up 0, .up 2, .up 3]])]) (nv := 3) (depth := 6) (up := upOf [q0, q1, q2, q3]) (ρ := Zc4 [.l x0, .l x1, .l x2])
  rfl rfl rfl rfl rfl (by decide) (by decide) (by decide) (by decide) rfl (by simp [Zac, RRef.den, upOf, hq01, hq02, hq12, hq03, hq13, hq23]) (T_of (by kernel_rfl) h)
theorem w71 {R : RT} (x0 : List (List D)) (x1 : List UInt8) (h : ∀ _ : Nat -> Nat, ∃ R', Holds Tryz.prog 104 [A.d (D.slc x0), A.d (D.lit (Zaa x1))] [] R' /\
 (∀ v H', R' (.ret v) H' -> ∃ x2 : Int, v = A.d (D.lit (.int .i64 x2)) /\ H' = [] /\
 R (.ret (A.d (D.lit (.bool (tB (decide (0 <= x2))))))) []) /\
 PN R R') :
 Holds Tryz.prog 71 [A.d (D.slc x0), A.d (D.lit (Zaa x1))] [] R :=
 walk (c := ⟨Tryz.prog, 9, true, [0, 1, 4]⟩) (op := {}) (fn := Tryz.f71) (args := [.c (.o1 .cl (.var 0)), .c (.o1 .cs (.var 1))]) (K := []) (nv := 2) (depth := 4) (up := upOf []) (ρ := Zc4 [.l x0, .s x1])
  rfl rfl rfl rfl rfl (by decide) (by decide) (by decide) (by decide) rfl (by simp [Zac, RRef.den, upOf]) (T_of (by kernel_rfl) h)
theorem w104 {R : RT} (x0 : List (List D)) (x1 : List UInt8) (h : ∃ (I0_0 : Int -> Prop) (M0_0 : Int -> Nat), I0_0 0 /\
 (∀ (x2 : Int) , I0_0 x2 ->
 (tB (decide (x2 < (x0.length : Int))) = true ->
 tB (decide (0 <= x2)) = true /\
 tB (((gAt x0 x2).length : Int) == 1) = true /\
 Rf.isK .str ((gAt x0 x2).getD 0 D0) = true /\
 (tB (x1 == (Rf.dstr ((gAt x0 x2).getD 0 D0))) = true ->
 R (.ret (A.d (D.lit (.int .i64 x2)))) []) /\
 (tB (x1 == (Rf.dstr ((gAt x0 x2).getD 0 D0))) = false ->
 tB (decide ((-9223372036854775808) <= (x2 + 1))) = true /\
 tB (decide ((x2 + 1) <= 9223372036854775807)) = true /\
 I0_0 (x2 + 1) /\ M0_0 (x2 + 1) < M0_0 x2)) /\
 (tB (decide (x2 < (x0.length : Int))) = false ->
 R (.ret (A.d (D.lit (.int .i64 (-1))))) [])) /\
 True) :
 Holds Tryz.prog 104 [A.d (D.slc x0), A.d (D.lit (Zaa x1))] [] R :=
 walk (c := ⟨Tryz.prog, 19, true, [0, 1, 4, 5, 7, 8, 9, 16]⟩) (op := { com := [(6, (9, 5000)), (6, (5, 5000)), (6, (16, 5000)), (6, (4, 5000))] }) (fn := Tryz.f104) (args := [.c (.o1 .cl (.var 0)), .c (.o1 .cs (.var 1))]) (K := []) (nv := 2) (depth := 5) (up := upOf []) (ρ := Zc4 [.l x0, .s x1])
  rfl rfl rfl rfl rfl (by decide) (by decide) (by decide) (by decide) rfl (by simp [Zac, RRef.den, upOf]) (T_of (by kernel_rfl) h)
end Go.Sy
end
section
open Go Go.Proofs Go.Ab Go.Rf
set_option maxRecDepth 1000000
set_option maxHeartbeats 2000000
set_option linter.unusedVariables false
namespace Go.Sy
end Go.Sy
end
section
open Go Go.Proofs Go.Ab Go.Rf
set_option maxRecDepth 1000000
set_option maxHeartbeats 2000000
set_option linter.unusedVariables false
namespace Go.Sy
end Go.Sy
end
section
open Go Go.Proofs Go.Ab Go.Rf
set_option maxRecDepth 1000000
set_option maxHeartbeats 2000000
set_option linter.unusedVariables false
namespace Go.Sy
theorem w3 {R : RT} (x0 : List D) (h : tB ((x0.length : Int) == 4) = true /\
 ∀ _ : Nat -> Nat, ∃ R', Holds Tryz.prog 12 [A.agg x0] [] R' /\
 (∀ v H', R' (.ret v) H' -> ∃ x1 : Bool, v = A.d (D.lit (.bool x1)) /\ H' = [] /\
 ((!x1) = true ->
 ∀ _ : Nat -> Nat, ∃ R', Holds Tryz.prog 13 [] [] R' /\
 (∀ v H', R' (.ret v) H' -> ∃ x2 : Bool, v = A.d (D.lit (.bool x2)) /\ H' = [] /\
 R (.ret (A.d (D.lit (.bool x2)))) []) /\
 PN R R') /\
 ((!x1) = false ->
 ∃ x2 : Int, (∀ _ : Nat -> Nat, Holds Tryz.prog 14 [A.agg x0] [] (Zay [] (A.d (D.lit (.int .i64 x2))))) /\
 ∀ _ : Nat -> Nat, ∃ R', Holds Tryz.prog 15 [A.agg x0] [] R' /\
 (∀ v H', R' (.ret v) H' -> ∃ x3 : Int, v = A.d (D.lit (.int .i64 x3)) /\ H' = [] /\
 (tB (x2 == x3) = true ->
 ∀ _ : Nat -> Nat, ∃ R', Holds Tryz.prog 13 [] [] R' /\
 (∀ v H', R' (.ret v) H' -> ∃ x4 : Bool, v = A.d (D.lit (.bool x4)) /\ H' = [] /\
 R (.ret (A.d (D.lit (.bool x4)))) []) /\
 PN R R') /\
 (tB (x2 == x3) = false ->
 R (.ret (A.d (D.lit (.bool false)))) [])) /\
 PN R R')) /\
 PN R R') :
 Holds Tryz.prog 3 [A.agg x0] [] R :=
 walk (c := ⟨Tryz.prog, 15, true, [0, 1, 2, 5]⟩) (op := {}) (fn := Tryz.f3) (args := [.agg (.var 0)]) (K := []) (nv := 1) (depth := 4) (up := upOf []) (ρ := Zc4 [.r x0])
  rfl rfl rfl rfl rfl (by decide) (by decide) (by decide) (by decide) rfl (by simp [Zac, RRef.den, upOf]) (T_of (by kernel_rfl) h)
theorem w4 {R : RT} (x0 : List D) (h : tB ((x0.length : Int) == 9) = true /\
 ∀ _ : Nat -> Nat, ∃ R', Holds Tryz.prog 16 [A.agg x0] [] R' /\
 (∀ v H', R' (.ret v) H' -> ∃ x1 : Bool, v = A.d (D.lit (.bool x1)) /\ H' = [] /\
 ((!x1) = true ->
 ∀ _ : Nat -> Nat, ∃ R', Holds Tryz.prog 13 [] [] R' /\
 (∀ v H', R' (.ret v) H' -> ∃ x2 : Bool, v = A.d (D.lit (.bool x2)) /\ H' = [] /\
 R (.ret (A.d (D.lit (.bool x2)))) []) /\
 PN R R') /\
 ((!x1) = false ->
 ∃ x2 : Int, (∀ _ : Nat -> Nat, Holds Tryz.prog 17 [A.agg x0] [] (Zay [] (A.d (D.lit (.int .i64 x2))))) /\
 ∀ _ : Nat -> Nat, ∃ R', Holds Tryz.prog 18 [A.agg x0] [] R' /\
 (∀ v H', R' (.ret v) H' -> ∃ x3 : Int, v = A.d (D.lit (.int .i64 x3)) /\ H' = [] /\
 (tB (x2 == x3) = true ->
 ∀ _ : Nat -> Nat, ∃ R', Holds Tryz.prog 13 [] [] R' /\
 (∀ v H', R' (.ret v) H' -> ∃ x4 : Bool, v = A.d (D.lit (.bool x4)) /\ H' = [] /\
 R (.ret (A.d (D.lit (.bool x4)))) []) /\
 PN R R') /\
 (tB (x2 == x3) = false ->
 R (.ret (A.d (D.lit (.bool false)))) [])) /\
 PN R R')) /\
 PN R R') :
 Holds Tryz.prog 4 [A.agg x0] [] R :=
 walk (c := ⟨Tryz.prog, 15, true, [0, 1, 2, 5]⟩) (op := {}) (fn := Tryz.f4) (args := [.agg (.var 0)]) (K := []) (nv := 1) (depth := 4) (up := upOf []) (ρ := Zc4 [.r x0])
  rfl rfl rfl rfl rfl (by decide) (by decide) (by decide) (by decide) rfl (by simp [Zac, RRef.den, upOf]) (T_of (by kernel_rfl) h)
end Go.Sy
end
section
open Go Go.Proofs Go.Ab Go.Rf
set_option maxRecDepth 1000000
set_option maxHeartbeats 2000000
set_option linter.unusedVariables false
namespace Go.Sy
theorem w10a {R : RT} (x0 : List D) (x1 : List D) (h : tB ((x0.length : Int) == 9) = true /\
 tB ((x1.length : Int) == 9) = true /\
 ∀ _ : Nat -> Nat, ∃ R', Holds Tryz.prog 16 [A.agg x0] [] R' /\
 (∀ v H', R' (.ret v) H' -> ∃ x2 : Bool, v = A.d (D.lit (.bool x2)) /\ H' = [] /\
 (x2 = true ->
 ∀ _ : Nat -> Nat, ∃ R', Holds Tryz.prog 16 [A.agg x1] [] R' /\
 (∀ v H', R' (.ret v) H' -> ∃ x3 : Bool, v = A.d (D.lit (.bool x3)) /\ H' = [] /\
 ((!x3) || (Rf.isK (.int .i64) (x0.getD 0 D0))) = true /\
 (((!x3) || (tB ((Rf.dint (x0.getD 0 D0)) == 15))) || (Rf.isK (.int .i64) (x1.getD 0 D0))) = true /\
 ((((!x3) || (tB ((Rf.dint (x0.getD 0 D0)) == 15))) || (tB ((Rf.dint (x1.getD 0 D0)) == 15))) = true ->
 ∀ _ : Nat -> Nat, ∃ R', Holds Tryz.prog 13 [] [] R' /\
 (∀ v H', R' (.ret v) H' -> ∃ x4 : Bool, v = A.d (D.lit (.bool x4)) /\ H' = [] /\
 R (.ret (A.d (D.lit (.bool x4)))) []) /\
 PN R R') /\
 ((((!x3) || (tB ((Rf.dint (x0.getD 0 D0)) == 15))) || (tB ((Rf.dint (x1.getD 0 D0)) == 15))) = false ->
 ∃ x4 : List (List D), (∀ _ : Nat -> Nat, Holds Tryz.prog 24 [A.agg x0] [] (Zay [] (A.own 1 x4 ([] : List (List D))))) /\
 ∃ x5 : List (List D), (∀ _ : Nat -> Nat, Holds Tryz.prog 24 [A.agg x1] [] (Zay [] (A.d (D.slc x5)))) /\
 (Zjm 1 x5) = true /\
 tB (decide ((((x4.length : Int) + (x5.length : Int)) * 16) <= 140737488355328)) = true /\
 tB (decide (((x4.length : Int) + (x5.length : Int)) <= 1099511627776)) = true /\
 ∃ (I0_0 : Int -> Prop) (M0_0 : Int -> Nat), ∃ (I0_1 : List (List D) -> Int -> Prop) (M0_1 : List (List D) -> Int -> Nat), I0_0 0 /\
 (∀ (x6 : Int) , I0_0 x6 ->
 (tB (decide (x6 < ((x4 ++ x5).length : Int))) = true ->
 tB (decide (0 <= x6)) = true /\
 tB (((gAt (x4 ++ x5) x6).length : Int) == 1) = true /\
 Rf.isK .str ((gAt (x4 ++ x5) x6).getD 0 D0) = true /\
 ∀ _ : Nat -> Nat, ∃ R', Holds Tryz.prog 34 [A.d (D.lit (Zaa (Rf.dstr ((gAt (x4 ++ x5) x6).getD 0 D0)))), (A.zs ([] : List (List D)))] [] R' /\
 (∀ v H', R' (.ret v) H' -> ∃ x7 : Bool, v = A.d (D.lit (.bool x7)) /\ H' = [] /\
 ((!x7) = true ->
 tB (decide (((0 + ([[D.lit (Zaa (Rf.dstr ((gAt (x4 ++ x5) x6).getD 0 D0)))]].length : Int)) * 16) <= 140737488355328)) = true /\
 tB (decide ((0 + ([[D.lit (Zaa (Rf.dstr ((gAt (x4 ++ x5) x6).getD 0 D0)))]].length : Int)) <= 1099511627776)) = true /\
 tB (decide ((-9223372036854775808) <= (x6 + 1))) = true /\
 tB (decide ((x6 + 1) <= 9223372036854775807)) = true /\
 I0_1 [[D.lit (Zaa (Rf.dstr ((gAt (x4 ++ x5) x6).getD 0 D0)))]] (x6 + 1) /\ M0_1 [[D.lit (Zaa (Rf.dstr ((gAt (x4 ++ x5) x6).getD 0 D0)))]] (x6 + 1) < M0_0 x6) /\
 ((!x7) = false ->
 tB (decide ((-9223372036854775808) <= (x6 + 1))) = true /\
 tB (decide ((x6 + 1) <= 9223372036854775807)) = true /\
 I0_0 (x6 + 1) /\ M0_0 (x6 + 1) < M0_0 x6)) /\
 PN R R') /\
 (tB (decide (x6 < ((x4 ++ x5).length : Int))) = false ->
 ∃ x7 : Int, (∀ _ : Nat -> Nat, Holds Tryz.prog 26 [(A.agg [D.lit (.int .i64 14), (D.lit (Zaa ([] : List UInt8))), D.lit (.int .i64 0), (D.lit (Zaa ([] : List UInt8))), (D.lit (Zaa ([] : List UInt8))), D.slc [x0, x1], (D.slc ([] : List (List D))), (D.slc ([] : List (List D))), D.lit (.int .i64 0)])] [] (Zay [] (A.d (D.lit (.int .i64 x7))))) /\
 ∃ x8 : Int, (∀ _ : Nat -> Nat, Holds Tryz.prog 26 [A.agg x0] [] (Zay [] (A.d (D.lit (.int .i64 x8))))) /\
 tB (decide ((-9223372036854775808) <= (1 + x8))) = true /\
 tB (decide ((1 + x8) <= 9223372036854775807)) = true /\
 ∃ x9 : Int, (∀ _ : Nat -> Nat, Holds Tryz.prog 26 [A.agg x1] [] (Zay [] (A.d (D.lit (.int .i64 x9))))) /\
 tB (decide ((-9223372036854775808) <= ((1 + x8) + x9))) = true /\
 tB (decide (((1 + x8) + x9) <= 9223372036854775807)) = true /\
 (tB (x7 == ((1 + x8) + x9)) = true ->
 ∃ x10 : List (List D), (∀ _ : Nat -> Nat, Holds Tryz.prog 24 [(A.agg [D.lit (.int .i64 14), (D.lit (Zaa ([] : List UInt8))), D.lit (.int .i64 0), (D.lit (Zaa ([] : List UInt8))), (D.lit (Zaa ([] : List UInt8))), D.slc [x0, x1], (D.slc ([] : List (List D))), (D.slc ([] : List (List D))), D.lit (.int .i64 0)])] [] (Zay [] (A.d (D.slc x10)))) /\
 ∀ _ : Nat -> Nat, ∃ R', Holds Tryz.prog 23 [A.d (D.slc x10), (A.zs ([] : List (List D)))] [] R' /\
 (∀ v H', R' (.ret v) H' -> ∃ x11 : Bool, v = A.d (D.lit (.bool x11)) /\ H' = [] /\
 ((!x11) = true ->
 R (.ret (A.d (D.lit (.bool false)))) []) /\
 ((!x11) = false ->
 ∃ x12 : Int, (∀ _ : Nat -> Nat, Holds Tryz.prog 26 [(A.agg [D.lit (.int .i64 13), (D.lit (Zaa ([] : List UInt8))), D.lit (.int .i64 0), (D.lit (Zaa ([] : List UInt8))), (D.lit (Zaa ([] : List UInt8))), (D.slc ([] : List (List D))), (D.slc [[D.lit (.int .i64 7), D.lit (.int .i64 0), (D.lit (Zaa ([] : List UInt8))), (D.lit (Zaa ([] : List UInt8))), (D.lit (Zaa ([] : List UInt8))), D.slc [x0, x1], (D.slc ([] : List (List D))), (D.slc ([] : List (List D))), (D.slc ([] : List (List D))), (D.lit (Zaa ([] : List UInt8))), D.lit (.int .i64 0)]]), (D.slc ([] : List (List D))), D.lit (.int .i64 0)])] [] (Zay [] (A.d (D.lit (.int .i64 x12))))) /\
 ∃ x13 : Int, (∀ _ : Nat -> Nat, Holds Tryz.prog 26 [A.agg x0] [] (Zay [] (A.d (D.lit (.int .i64 x13))))) /\
 tB (decide ((-9223372036854775808) <= (2 + x13))) = true /\
 tB (decide ((2 + x13) <= 9223372036854775807)) = true /\
 ∃ x14 : Int, (∀ _ : Nat -> Nat, Holds Tryz.prog 26 [A.agg x1] [] (Zay [] (A.d (D.lit (.int .i64 x14))))) /\
 tB (decide ((-9223372036854775808) <= ((2 + x13) + x14))) = true /\
 tB (decide (((2 + x13) + x14) <= 9223372036854775807)) = true /\
 (tB (x12 == ((2 + x13) + x14)) = true ->
 ∃ x15 : List (List D), (∀ _ : Nat -> Nat, Holds Tryz.prog 24 [(A.agg [D.lit (.int .i64 13), (D.lit (Zaa ([] : List UInt8))), D.lit (.int .i64 0), (D.lit (Zaa ([] : List UInt8))), (D.lit (Zaa ([] : List UInt8))), (D.slc ([] : List (List D))), (D.slc [[D.lit (.int .i64 7), D.lit (.int .i64 0), (D.lit (Zaa ([] : List UInt8))), (D.lit (Zaa ([] : List UInt8))), (D.lit (Zaa ([] : List UInt8))), D.slc [x0, x1], (D.slc ([] : List (List D))), (D.slc ([] : List (List D))), (D.slc ([] : List (List D))), (D.lit (Zaa ([] : List UInt8))), D.lit (.int .i64 0)]]), (D.slc ([] : List (List D))), D.lit (.int .i64 0)])] [] (Zay [] (A.d (D.slc x15)))) /\
 ∀ _ : Nat -> Nat, ∃ R', Holds Tryz.prog 23 [A.d (D.slc x15), (A.zs ([] : List (List D)))] [] R' /\
 (∀ v H', R' (.ret v) H' -> ∃ x16 : Bool, v = A.d (D.lit (.bool x16)) /\ H' = [] /\
 ((!x16) = true ->
 R (.ret (A.d (D.lit (.bool false)))) []) /\
 ((!x16) = false ->
 ∀ _ : Nat -> Nat, ∃ R', Holds Tryz.prog 24 [A.agg x0] [] R' /\
 (∀ v H', R' (.ret v) H' -> ∃ x17 : List (List D), v = A.own 1 x17 ([] : List (List D)) /\ H' = [] /\
 ∀ _ : Nat -> Nat, ∃ R', Holds Tryz.prog 34 [(A.d (D.lit (Zaa ([99] : List UInt8)))), A.d (D.slc x17)] [] R' /\
 (∀ v H', R' (.ret v) H' -> ∃ x18 : Bool, v = A.d (D.lit (.bool x18)) /\ H' = [] /\
 ((!x18) = true ->
 tB (decide ((((x17.length : Int) + ([[(D.lit (Zaa ([99] : List UInt8)))]].length : Int)) * 16) <= 140737488355328)) = true /\
 tB (decide (((x17.length : Int) + ([[(D.lit (Zaa ([99] : List UInt8)))]].length : Int)) <= 1099511627776)) = true /\
 ∀ _ : Nat -> Nat, ∃ R', Holds Tryz.prog 24 [(A.agg [D.lit (.int .i64 15), (D.lit (Zaa ([] : List UInt8))), D.lit (.int .i64 0), (D.lit (Zaa ([97] : List UInt8))), (D.lit (Zaa ([98] : List UInt8))), (D.slc [x0, [D.lit (.int .i64 10), (D.lit (Zaa ([97] : List UInt8))), D.lit (.int .i64 0), (D.lit (Zaa ([] : List UInt8))), (D.lit (Zaa ([] : List UInt8))), (D.slc ([] : List (List D))), (D.slc ([] : List (List D))), (D.slc ([] : List (List D))), D.lit (.int .i64 0)], [D.lit (.int .i64 10), (D.lit (Zaa ([99] : List UInt8))), D.lit (.int .i64 0), (D.lit (Zaa ([] : List UInt8))), (D.lit (Zaa ([] : List UInt8))), (D.slc ([] : List (List D))), (D.slc ([] : List (List D))), (D.slc ([] : List (List D))), D.lit (.int .i64 0)]]), (D.slc ([] : List (List D))), (D.slc ([] : List (List D))), D.lit (.int .i64 0)])] [] R' /\
 (∀ v H', R' (.ret v) H' -> ∃ x19 : List (List D), v = A.d (D.slc x19) /\ H' = [] /\
 ∀ _ : Nat -> Nat, ∃ R', Holds Tryz.prog 23 [A.d (D.slc x19), (A.d (D.slc (x17 ++ [[(D.lit (Zaa ([99] : List UInt8)))]])))] [] R' /\
 (∀ v H', R' (.ret v) H' -> ∃ x20 : Bool, v = A.d (D.lit (.bool x20)) /\ H' = [] /\
 (x20 = true ->
 ∀ _ : Nat -> Nat, ∃ R', Holds Tryz.prog 13 [] [] R' /\
 (∀ v H', R' (.ret v) H' -> ∃ x21 : Bool, v = A.d (D.lit (.bool x21)) /\ H' = [] /\
 R (.ret (A.d (D.lit (.bool x21)))) []) /\
 PN R R') /\
 (x20 = false ->
 R (.ret (A.d (D.lit (.bool false)))) [])) /\
 PN R R') /\
 PN R R') /\
 ((!x18) = false ->
 ∀ _ : Nat -> Nat, ∃ R', Holds Tryz.prog 24 [(A.agg [D.lit (.int .i64 15), (D.lit (Zaa ([] : List UInt8))), D.lit (.int .i64 0), (D.lit (Zaa ([97] : List UInt8))), (D.lit (Zaa ([98] : List UInt8))), (D.slc [x0, [D.lit (.int .i64 10), (D.lit (Zaa ([97] : List UInt8))), D.lit (.int .i64 0), (D.lit (Zaa ([] : List UInt8))), (D.lit (Zaa ([] : List UInt8))), (D.slc ([] : List (List D))), (D.slc ([] : List (List D))), (D.slc ([] : List (List D))), D.lit (.int .i64 0)], [D.lit (.int .i64 10), (D.lit (Zaa ([99] : List UInt8))), D.lit (.int .i64 0), (D.lit (Zaa ([] : List UInt8))), (D.lit (Zaa ([] : List UInt8))), (D.slc ([] : List (List D))), (D.slc ([] : List (List D))), (D.slc ([] : List (List D))), D.lit (.int .i64 0)]]), (D.slc ([] : List (List D))), (D.slc ([] : List (List D))), D.lit (.int .i64 0)])] [] R' /\
 (∀ v H', R' (.ret v) H' -> ∃ x19 : List (List D), v = A.d (D.slc x19) /\ H' = [] /\
 ∀ _ : Nat -> Nat, ∃ R', Holds Tryz.prog 23 [A.d (D.slc x19), A.d (D.slc x17)] [] R' /\
 (∀ v H', R' (.ret v) H' -> ∃ x20 : Bool, v = A.d (D.lit (.bool x20)) /\ H' = [] /\
 (x20 = true ->
 ∀ _ : Nat -> Nat, ∃ R', Holds Tryz.prog 13 [] [] R' /\
 (∀ v H', R' (.ret v) H' -> ∃ x21 : Bool, v = A.d (D.lit (.bool x21)) /\ H' = [] /\
 R (.ret (A.d (D.lit (.bool x21)))) []) /\
 PN R R') /\
 (x20 = false ->
 R (.ret (A.d (D.lit (.bool false)))) [])) /\
 PN R R') /\
 PN R R')) /\
 PN R R') /\
 PN R R')) /\
 PN R R') /\
 (tB (x12 == ((2 + x13) + x14)) = false ->
 R (.ret (A.d (D.lit (.bool false)))) []))) /\
 PN R R') /\
 (tB (x7 == ((1 + x8) + x9)) = false ->
 R (.ret (A.d (D.lit (.bool false)))) []))) /\
 (∀ (x6 : List (List D)) (x7 : Int) , I0_1 x6 x7 ->
 (tB (decide (x7 < ((x4 ++ x5).length : Int))) = true ->
 tB (decide (0 <= x7)) = true /\
 tB (((gAt (x4 ++ x5) x7).length : Int) == 1) = true /\
 Rf.isK .str ((gAt (x4 ++ x5) x7).getD 0 D0) = true /\
 ∀ _ : Nat -> Nat, ∃ R', Holds Tryz.prog 34 [A.d (D.lit (Zaa (Rf.dstr ((gAt (x4 ++ x5) x7).getD 0 D0)))), A.d (D.slc x6)] [] R' /\
 (∀ v H', R' (.ret v) H' -> ∃ x8 : Bool, v = A.d (D.lit (.bool x8)) /\ H' = [] /\
 ((!x8) = true ->
 tB (decide ((((x6.length : Int) + ([[D.lit (Zaa (Rf.dstr ((gAt (x4 ++ x5) x7).getD 0 D0)))]].length : Int)) * 16) <= 140737488355328)) = true /\
 tB (decide (((x6.length : Int) + ([[D.lit (Zaa (Rf.dstr ((gAt (x4 ++ x5) x7).getD 0 D0)))]].length : Int)) <= 1099511627776)) = true /\
 tB (decide ((-9223372036854775808) <= (x7 + 1))) = true /\
 tB (decide ((x7 + 1) <= 9223372036854775807)) = true /\
 I0_1 (x6 ++ [[D.lit (Zaa (Rf.dstr ((gAt (x4 ++ x5) x7).getD 0 D0)))]]) (x7 + 1) /\ M0_1 (x6 ++ [[D.lit (Zaa (Rf.dstr ((gAt (x4 ++ x5) x7).getD 0 D0)))]]) (x7 + 1) < M0_1 x6 x7) /\
 ((!x8) = false ->
 tB (decide ((-9223372036854775808) <= (x7 + 1))) = true /\
 tB (decide ((x7 + 1) <= 9223372036854775807)) = true /\
 I0_1 x6 (x7 + 1) /\ M0_1 x6 (x7 + 1) < M0_1 x6 x7)) /\
 PN R R') /\
 (tB (decide (x7 < ((x4 ++ x5).length : Int))) = false ->
 ∃ x8 : Int, (∀ _ : Nat -> Nat, Holds Tryz.prog 26 [(A.agg [D.lit (.int .i64 14), (D.lit (Zaa ([] : List UInt8))), D.lit (.int .i64 0), (D.lit (Zaa ([] : List UInt8))), (D.lit (Zaa ([] : List UInt8))), D.slc [x0, x1], (D.slc ([] : List (List D))), (D.slc ([] : List (List D))), D.lit (.int .i64 0)])] [] (Zay [] (A.d (D.lit (.int .i64 x8))))) /\
 ∃ x9 : Int, (∀ _ : Nat -> Nat, Holds Tryz.prog 26 [A.agg x0] [] (Zay [] (A.d (D.lit (.int .i64 x9))))) /\
 tB (decide ((-9223372036854775808) <= (1 + x9))) = true /\
 tB (decide ((1 + x9) <= 9223372036854775807)) = true /\
 ∃ x10 : Int, (∀ _ : Nat -> Nat, Holds Tryz.prog 26 [A.agg x1] [] (Zay [] (A.d (D.lit (.int .i64 x10))))) /\
 tB (decide ((-9223372036854775808) <= ((1 + x9) + x10))) = true /\
 tB (decide (((1 + x9) + x10) <= 9223372036854775807)) = true /\
 (tB (x8 == ((1 + x9) + x10)) = true ->
 ∃ x11 : List (List D), (∀ _ : Nat -> Nat, Holds Tryz.prog 24 [(A.agg [D.lit (.int .i64 14), (D.lit (Zaa ([] : List UInt8))), D.lit (.int .i64 0), (D.lit (Zaa ([] : List UInt8))), (D.lit (Zaa ([] : List UInt8))), D.slc [x0, x1], (D.slc ([] : List (List D))), (D.slc ([] : List (List D))), D.lit (.int .i64 0)])] [] (Zay [] (A.d (D.slc x11)))) /\
 ∀ _ : Nat -> Nat, ∃ R', Holds Tryz.prog 23 [A.d (D.slc x11), A.d (D.slc x6)] [] R' /\
 (∀ v H', R' (.ret v) H' -> ∃ x12 : Bool, v = A.d (D.lit (.bool x12)) /\ H' = [] /\
 ((!x12) = true ->
 R (.ret (A.d (D.lit (.bool false)))) []) /\
 ((!x12) = false ->
 ∃ x13 : Int, (∀ _ : Nat -> Nat, Holds Tryz.prog 26 [(A.agg [D.lit (.int .i64 13), (D.lit (Zaa ([] : List UInt8))), D.lit (.int .i64 0), (D.lit (Zaa ([] : List UInt8))), (D.lit (Zaa ([] : List UInt8))), (D.slc ([] : List (List D))), (D.slc [[D.lit (.int .i64 7), D.lit (.int .i64 0), (D.lit (Zaa ([] : List UInt8))), (D.lit (Zaa ([] : List UInt8))), (D.lit (Zaa ([] : List UInt8))), D.slc [x0, x1], (D.slc ([] : List (List D))), (D.slc ([] : List (List D))), (D.slc ([] : List (List D))), (D.lit (Zaa ([] : List UInt8))), D.lit (.int .i64 0)]]), (D.slc ([] : List (List D))), D.lit (.int .i64 0)])] [] (Zay [] (A.d (D.lit (.int .i64 x13))))) /\
 ∃ x14 : Int, (∀ _ : Nat -> Nat, Holds Tryz.prog 26 [A.agg x0] [] (Zay [] (A.d (D.lit (.int .i64 x14))))) /\
 tB (decide ((-9223372036854775808) <= (2 + x14))) = true /\
 tB (decide ((2 + x14) <= 9223372036854775807)) = true /\
 ∃ x15 : Int, (∀ _ : Nat -> Nat, Holds Tryz.prog 26 [A.agg x1] [] (Zay [] (A.d (D.lit (.int .i64 x15))))) /\
 tB (decide ((-9223372036854775808) <= ((2 + x14) + x15))) = true /\
 tB (decide (((2 + x14) + x15) <= 9223372036854775807)) = true /\
 (tB (x13 == ((2 + x14) + x15)) = true ->
 ∃ x16 : List (List D), (∀ _ : Nat -> Nat, Holds Tryz.prog 24 [(A.agg [D.lit (.int .i64 13), (D.lit (Zaa ([] : List UInt8))), D.lit (.int .i64 0), (D.lit (Zaa ([] : List UInt8))), (D.lit (Zaa ([] : List UInt8))), (D.slc ([] : List (List D))), (D.slc [[D.lit (.int .i64 7), D.lit (.int .i64 0), (D.lit (Zaa ([] : List UInt8))), (D.lit (Zaa ([] : List UInt8))), (D.lit (Zaa ([] : List UInt8))), D.slc [x0, x1], (D.slc ([] : List (List D))), (D.slc ([] : List (List D))), (D.slc ([] : List (List D))), (D.lit (Zaa ([] : List UInt8))), D.lit (.int .i64 0)]]), (D.slc ([] : List (List D))), D.lit (.int .i64 0)])] [] (Zay [] (A.d (D.slc x16)))) /\
 ∀ _ : Nat -> Nat, ∃ R', Holds Tryz.prog 23 [A.d (D.slc x16), A.d (D.slc x6)] [] R' /\
 (∀ v H', R' (.ret v) H' -> ∃ x17 : Bool, v = A.d (D.lit (.bool x17)) /\ H' = [] /\
 ((!x17) = true ->
 R (.ret (A.d (D.lit (.bool false)))) []) /\
 ((!x17) = false ->
 ∀ _ : Nat -> Nat, ∃ R', Holds Tryz.prog 24 [A.agg x0] [] R' /\
 (∀ v H', R' (.ret v) H' -> ∃ x18 : List (List D), v = A.own 1 x18 ([] : List (List D)) /\ H' = [] /\
 ∀ _ : Nat -> Nat, ∃ R', Holds Tryz.prog 34 [(A.d (D.lit (Zaa ([99] : List UInt8)))), A.d (D.slc x18)] [] R' /\
 (∀ v H', R' (.ret v) H' -> ∃ x19 : Bool, v = A.d (D.lit (.bool x19)) /\ H' = [] /\
 ((!x19) = true ->
 tB (decide ((((x18.length : Int) + ([[(D.lit (Zaa ([99] : List UInt8)))]].length : Int)) * 16) <= 140737488355328)) = true /\
 tB (decide (((x18.length : Int) + ([[(D.lit (Zaa ([99] : List UInt8)))]].length : Int)) <= 1099511627776)) = true /\
 ∀ _ : Nat -> Nat, ∃ R', Holds Tryz.prog 24 [(A.agg [D.lit (.int .i64 15), (D.lit (Zaa ([] : List UInt8))), D.lit (.int .i64 0), (D.lit (Zaa ([97] : List UInt8))), (D.lit (Zaa ([98] : List UInt8))), (D.slc [x0, [D.lit (.int .i64 10), (D.lit (Zaa ([97] : List UInt8))), D.lit (.int .i64 0), (D.lit (Zaa ([] : List UInt8))), (D.lit (Zaa ([] : List UInt8))), (D.slc ([] : List (List D))), (D.slc ([] : List (List D))), (D.slc ([] : List (List D))), D.lit (.int .i64 0)], [D.lit (.int .i64 10), (D.lit (Zaa ([99] : List UInt8))), D.lit (.int .i64 0), (D.lit (Zaa ([] : List UInt8))), (D.lit (Zaa ([] : List UInt8))), (D.slc ([] : List (List D))), (D.slc ([] : List (List D))), (D.slc ([] : List (List D))), D.lit (.int .i64 0)]]), (D.slc ([] : List (List D))), (D.slc ([] : List (List D))), D.lit (.int .i64 0)])] [] R' /\
 (∀ v H', R' (.ret v) H' -> ∃ x20 : List (List D), v = A.d (D.slc x20) /\ H' = [] /\
 ∀ _ : Nat -> Nat, ∃ R', Holds Tryz.prog 23 [A.d (D.slc x20), (A.d (D.slc (x18 ++ [[(D.lit (Zaa ([99] : List UInt8)))]])))] [] R' /\
 (∀ v H', R' (.ret v) H' -> ∃ x21 : Bool, v = A.d (D.lit (.bool x21)) /\ H' = [] /\
 (x21 = true ->
 ∀ _ : Nat -> Nat, ∃ R', Holds Tryz.prog 13 [] [] R' /\
 (∀ v H', R' (.ret v) H' -> ∃ x22 : Bool, v = A.d (D.lit (.bool x22)) /\ H' = [] /\
 R (.ret (A.d (D.lit (.bool x22)))) []) /\
 PN R R') /\
 (x21 = false ->
 R (.ret (A.d (D.lit (.bool false)))) [])) /\
 PN R R') /\
 PN R R') /\
 ((!x19) = false ->
 ∀ _ : Nat -> Nat, ∃ R', Holds Tryz.prog 24 [(A.agg [D.lit (.int .i64 15), (D.lit (Zaa ([] : List UInt8))), D.lit (.int .i64 0), (D.lit (Zaa ([97] : List UInt8))), (D.lit (Zaa ([98] : List UInt8))), (D.slc [x0, [D.lit (.int .i64 10), (D.lit (Zaa ([97] : List UInt8))), D.lit (.int .i64 0), (D.lit (Zaa ([] : List UInt8))), (D.lit (Zaa ([] : List UInt8))), (D.slc ([] : List (List D))), (D.slc ([] : List (List D))), (D.slc ([] : List (List D))), D.lit (.int .i64 0)], [D.lit (.int .i64 10), (D.lit (Zaa ([99] : List UInt8))), D.lit (.int .i64 0), (D.lit (Zaa ([] : List UInt8))), (D.lit (Zaa ([] : List UInt8))), (D.slc ([] : List (List D))), (D.slc ([] : List (List D))), (D.slc ([] : List (List D))), D.lit (.int .i64 0)]]), (D.slc ([] : List (List D))), (D.slc ([] : List (List D))), D.lit (.int .i64 0)])] [] R' /\
 (∀ v H', R' (.ret v) H' -> ∃ x20 : List (List D), v = A.d (D.slc x20) /\ H' = [] /\
 ∀ _ : Nat -> Nat, ∃ R', Holds Tryz.prog 23 [A.d (D.slc x20), A.d (D.slc x18)] [] R' /\
 (∀ v H', R' (.ret v) H' -> ∃ x21 : Bool, v = A.d (D.lit (.bool x21)) /\ H' = [] /\
 (x21 = true ->
 ∀ _ : Nat -> Nat, ∃ R', Holds Tryz.prog 13 [] [] R' /\
 (∀ v H', R' (.ret v) H' -> ∃ x22 : Bool, v = A.d (D.lit (.bool x22)) /\ H' = [] /\
 R (.ret (A.d (D.lit (.bool x22)))) []) /\
 PN R R') /\
 (x21 = false ->
 R (.ret (A.d (D.lit (.bool false)))) [])) /\
 PN R R') /\
 PN R R')) /\
 PN R R') /\
 PN R R')) /\
 PN R R') /\
 (tB (x13 == ((2 + x14) + x15)) = false ->
 R (.ret (A.d (D.lit (.bool false)))) []))) /\
 PN R R') /\
 (tB (x8 == ((1 + x9) + x10)) = false ->
 R (.ret (A.d (D.lit (.bool false)))) []))) /\
 True)) /\
 PN R R') /\
 (x2 = false ->
 ∀ _ : Nat -> Nat, ∃ R', Holds Tryz.prog 13 [] [] R' /\
 (∀ v H', R' (.ret v) H' -> ∃ x3 : Bool, v = A.d (D.lit (.bool x3)) /\ H' = [] /\
 R (.ret (A.d (D.lit (.bool x3)))) []) /\
 PN R R')) /\
 PN R R') :
 Holds Tryz.prog 10 [A.agg x0, A.agg x1] [] R :=
 walk (c := ⟨Tryz.prog, 112, true, [0, 1, 2, 3, 4, 5, 6, 8, 9, 10, 28, 38, 39, 40, 41, 47, 68, 90, 101]⟩) (op := { own := [(24, 1)], lat := [5, 1005], dat := [1037, 1106], com := [(10, (41, 5000)), (10, (8, 5000)), (10, (47, 5000))] }) (fn := Tryz.f10) (args := [.agg (.var 0), .agg (.var 1)]) (K := []) (nv := 2) (depth := 7) (up := upOf []) (ρ := Zc4 [.r x0, .r x1])
  rfl rfl rfl rfl rfl (by decide) (by decide) (by decide) (by decide) rfl (by simp [Zac, RRef.den, upOf]) (T_of (by kernel_rfl) h)
theorem w10b {R : RT} (x0 : List D) (x1 : List D) (h : tB ((x0.length : Int) == 9) = true /\
 tB ((x1.length : Int) == 9) = true /\
 ∀ _ : Nat -> Nat, ∃ R', Holds Tryz.prog 16 [A.agg x0] [] R' /\
 (∀ v H', R' (.ret v) H' -> ∃ x2 : Bool, v = A.d (D.lit (.bool x2)) /\ H' = [] /\
 (x2 = true ->
 ∀ _ : Nat -> Nat, ∃ R', Holds Tryz.prog 16 [A.agg x1] [] R' /\
 (∀ v H', R' (.ret v) H' -> ∃ x3 : Bool, v = A.d (D.lit (.bool x3)) /\ H' = [] /\
 ((!x3) || (Rf.isK (.int .i64) (x0.getD 0 D0))) = true /\
 (((!x3) || (tB ((Rf.dint (x0.getD 0 D0)) == 15))) || (Rf.isK (.int .i64) (x1.getD 0 D0))) = true /\
 ((((!x3) || (tB ((Rf.dint (x0.getD 0 D0)) == 15))) || (tB ((Rf.dint (x1.getD 0 D0)) == 15))) = true ->
 ∀ _ : Nat -> Nat, ∃ R', Holds Tryz.prog 13 [] [] R' /\
 (∀ v H', R' (.ret v) H' -> ∃ x4 : Bool, v = A.d (D.lit (.bool x4)) /\ H' = [] /\
 R (.ret (A.d (D.lit (.bool x4)))) []) /\
 PN R R') /\
 ((((!x3) || (tB ((Rf.dint (x0.getD 0 D0)) == 15))) || (tB ((Rf.dint (x1.getD 0 D0)) == 15))) = false ->
 (∀ _ : Nat -> Nat, Holds Tryz.prog 24 [A.agg x0] [] (Zay [] (A.zs ([] : List (List D))))) /\
 ∃ x4 : List (List D), (∀ _ : Nat -> Nat, Holds Tryz.prog 24 [A.agg x1] [] (Zay [] (A.d (D.slc x4)))) /\
 (Zjm 1 x4) = true /\
 tB (decide (((0 + (x4.length : Int)) * 16) <= 140737488355328)) = true /\
 tB (decide ((0 + (x4.length : Int)) <= 1099511627776)) = true /\
 ∃ (I0_0 : Int -> Prop) (M0_0 : Int -> Nat), ∃ (I0_1 : List (List D) -> Int -> Prop) (M0_1 : List (List D) -> Int -> Nat), I0_0 0 /\
 (∀ (x5 : Int) , I0_0 x5 ->
 (tB (decide (x5 < ((([] : List (List D)) ++ x4).length : Int))) = true ->
 tB (decide (0 <= x5)) = true /\
 tB (((gAt (([] : List (List D)) ++ x4) x5).length : Int) == 1) = true /\
 Rf.isK .str ((gAt (([] : List (List D)) ++ x4) x5).getD 0 D0) = true /\
 ∀ _ : Nat -> Nat, ∃ R', Holds Tryz.prog 34 [(A.d (D.lit (Zaa (Rf.dstr ((gAt (([] : List (List D)) ++ x4) x5).getD 0 D0))))), (A.zs ([] : List (List D)))] [] R' /\
 (∀ v H', R' (.ret v) H' -> ∃ x6 : Bool, v = A.d (D.lit (.bool x6)) /\ H' = [] /\
 ((!x6) = true ->
 tB (decide (((0 + ([[(D.lit (Zaa (Rf.dstr ((gAt (([] : List (List D)) ++ x4) x5).getD 0 D0))))]].length : Int)) * 16) <= 140737488355328)) = true /\
 tB (decide ((0 + ([[(D.lit (Zaa (Rf.dstr ((gAt (([] : List (List D)) ++ x4) x5).getD 0 D0))))]].length : Int)) <= 1099511627776)) = true /\
 tB (decide ((-9223372036854775808) <= (x5 + 1))) = true /\
 tB (decide ((x5 + 1) <= 9223372036854775807)) = true /\
 I0_1 [[(D.lit (Zaa (Rf.dstr ((gAt (([] : List (List D)) ++ x4) x5).getD 0 D0))))]] (x5 + 1) /\ M0_1 [[(D.lit (Zaa (Rf.dstr ((gAt (([] : List (List D)) ++ x4) x5).getD 0 D0))))]] (x5 + 1) < M0_0 x5) /\
 ((!x6) = false ->
 tB (decide ((-9223372036854775808) <= (x5 + 1))) = true /\
 tB (decide ((x5 + 1) <= 9223372036854775807)) = true /\
 I0_0 (x5 + 1) /\ M0_0 (x5 + 1) < M0_0 x5)) /\
 PN R R') /\
 (tB (decide (x5 < ((([] : List (List D)) ++ x4).length : Int))) = false ->
 ∃ x6 : Int, (∀ _ : Nat -> Nat, Holds Tryz.prog 26 [(A.agg [D.lit (.int .i64 14), (D.lit (Zaa ([] : List UInt8))), D.lit (.int .i64 0), (D.lit (Zaa ([] : List UInt8))), (D.lit (Zaa ([] : List UInt8))), D.slc [x0, x1], (D.slc ([] : List (List D))), (D.slc ([] : List (List D))), D.lit (.int .i64 0)])] [] (Zay [] (A.d (D.lit (.int .i64 x6))))) /\
 ∃ x7 : Int, (∀ _ : Nat -> Nat, Holds Tryz.prog 26 [A.agg x0] [] (Zay [] (A.d (D.lit (.int .i64 x7))))) /\
 tB (decide ((-9223372036854775808) <= (1 + x7))) = true /\
 tB (decide ((1 + x7) <= 9223372036854775807)) = true /\
 ∃ x8 : Int, (∀ _ : Nat -> Nat, Holds Tryz.prog 26 [A.agg x1] [] (Zay [] (A.d (D.lit (.int .i64 x8))))) /\
 tB (decide ((-9223372036854775808) <= ((1 + x7) + x8))) = true /\
 tB (decide (((1 + x7) + x8) <= 9223372036854775807)) = true /\
 (tB (x6 == ((1 + x7) + x8)) = true ->
 ∃ x9 : List (List D), (∀ _ : Nat -> Nat, Holds Tryz.prog 24 [(A.agg [D.lit (.int .i64 14), (D.lit (Zaa ([] : List UInt8))), D.lit (.int .i64 0), (D.lit (Zaa ([] : List UInt8))), (D.lit (Zaa ([] : List UInt8))), D.slc [x0, x1], (D.slc ([] : List (List D))), (D.slc ([] : List (List D))), D.lit (.int .i64 0)])] [] (Zay [] (A.d (D.slc x9)))) /\
 ∀ _ : Nat -> Nat, ∃ R', Holds Tryz.prog 23 [A.d (D.slc x9), (A.zs ([] : List (List D)))] [] R' /\
 (∀ v H', R' (.ret v) H' -> ∃ x10 : Bool, v = A.d (D.lit (.bool x10)) /\ H' = [] /\
 ((!x10) = true ->
 R (.ret (A.d (D.lit (.bool false)))) []) /\
 ((!x10) = false ->
 ∃ x11 : Int, (∀ _ : Nat -> Nat, Holds Tryz.prog 26 [(A.agg [D.lit (.int .i64 13), (D.lit (Zaa ([] : List UInt8))), D.lit (.int .i64 0), (D.lit (Zaa ([] : List UInt8))), (D.lit (Zaa ([] : List UInt8))), (D.slc ([] : List (List D))), (D.slc [[D.lit (.int .i64 7), D.lit (.int .i64 0), (D.lit (Zaa ([] : List UInt8))), (D.lit (Zaa ([] : List UInt8))), (D.lit (Zaa ([] : List UInt8))), D.slc [x0, x1], (D.slc ([] : List (List D))), (D.slc ([] : List (List D))), (D.slc ([] : List (List D))), (D.lit (Zaa ([] : List UInt8))), D.lit (.int .i64 0)]]), (D.slc ([] : List (List D))), D.lit (.int .i64 0)])] [] (Zay [] (A.d (D.lit (.int .i64 x11))))) /\
 ∃ x12 : Int, (∀ _ : Nat -> Nat, Holds Tryz.prog 26 [A.agg x0] [] (Zay [] (A.d (D.lit (.int .i64 x12))))) /\
 tB (decide ((-9223372036854775808) <= (2 + x12))) = true /\
 tB (decide ((2 + x12) <= 9223372036854775807)) = true /\
 ∃ x13 : Int, (∀ _ : Nat -> Nat, Holds Tryz.prog 26 [A.agg x1] [] (Zay [] (A.d (D.lit (.int .i64 x13))))) /\
 tB (decide ((-9223372036854775808) <= ((2 + x12) + x13))) = true /\
 tB (decide (((2 + x12) + x13) <= 9223372036854775807)) = true /\
 (tB (x11 == ((2 + x12) + x13)) = true ->
 ∃ x14 : List (List D), (∀ _ : Nat -> Nat, Holds Tryz.prog 24 [(A.agg [D.lit (.int .i64 13), (D.lit (Zaa ([] : List UInt8))), D.lit (.int .i64 0), (D.lit (Zaa ([] : List UInt8))), (D.lit (Zaa ([] : List UInt8))), (D.slc ([] : List (List D))), (D.slc [[D.lit (.int .i64 7), D.lit (.int .i64 0), (D.lit (Zaa ([] : List UInt8))), (D.lit (Zaa ([] : List UInt8))), (D.lit (Zaa ([] : List UInt8))), D.slc [x0, x1], (D.slc ([] : List (List D))), (D.slc ([] : List (List D))), (D.slc ([] : List (List D))), (D.lit (Zaa ([] : List UInt8))), D.lit (.int .i64 0)]]), (D.slc ([] : List (List D))), D.lit (.int .i64 0)])] [] (Zay [] (A.d (D.slc x14)))) /\
 ∀ _ : Nat -> Nat, ∃ R', Holds Tryz.prog 23 [A.d (D.slc x14), (A.zs ([] : List (List D)))] [] R' /\
 (∀ v H', R' (.ret v) H' -> ∃ x15 : Bool, v = A.d (D.lit (.bool x15)) /\ H' = [] /\
 ((!x15) = true ->
 R (.ret (A.d (D.lit (.bool false)))) []) /\
 ((!x15) = false ->
 ∀ _ : Nat -> Nat, ∃ R', Holds Tryz.prog 24 [A.agg x0] [] R' /\
 (∀ v H', R' (.ret v) H' -> v = (A.zs ([] : List (List D))) /\ H' = [] /\
 ∀ _ : Nat -> Nat, ∃ R', Holds Tryz.prog 34 [(A.d (D.lit (Zaa ([99] : List UInt8)))), (A.zs ([] : List (List D)))] [] R' /\
 (∀ v H', R' (.ret v) H' -> ∃ x16 : Bool, v = A.d (D.lit (.bool x16)) /\ H' = [] /\
 ((!x16) = true ->
 tB (decide (((0 + ([[(D.lit (Zaa ([99] : List UInt8)))]].length : Int)) * 16) <= 140737488355328)) = true /\
 tB (decide ((0 + ([[(D.lit (Zaa ([99] : List UInt8)))]].length : Int)) <= 1099511627776)) = true /\
 ∀ _ : Nat -> Nat, ∃ R', Holds Tryz.prog 24 [(A.agg [D.lit (.int .i64 15), (D.lit (Zaa ([] : List UInt8))), D.lit (.int .i64 0), (D.lit (Zaa ([97] : List UInt8))), (D.lit (Zaa ([98] : List UInt8))), (D.slc [x0, [D.lit (.int .i64 10), (D.lit (Zaa ([97] : List UInt8))), D.lit (.int .i64 0), (D.lit (Zaa ([] : List UInt8))), (D.lit (Zaa ([] : List UInt8))), (D.slc ([] : List (List D))), (D.slc ([] : List (List D))), (D.slc ([] : List (List D))), D.lit (.int .i64 0)], [D.lit (.int .i64 10), (D.lit (Zaa ([99] : List UInt8))), D.lit (.int .i64 0), (D.lit (Zaa ([] : List UInt8))), (D.lit (Zaa ([] : List UInt8))), (D.slc ([] : List (List D))), (D.slc ([] : List (List D))), (D.slc ([] : List (List D))), D.lit (.int .i64 0)]]), (D.slc ([] : List (List D))), (D.slc ([] : List (List D))), D.lit (.int .i64 0)])] [] R' /\
 (∀ v H', R' (.ret v) H' -> ∃ x17 : List (List D), v = A.d (D.slc x17) /\ H' = [] /\
 ∀ _ : Nat -> Nat, ∃ R', Holds Tryz.prog 23 [A.d (D.slc x17), (A.d (D.slc [[(D.lit (Zaa ([99] : List UInt8)))]]))] [] R' /\
 (∀ v H', R' (.ret v) H' -> ∃ x18 : Bool, v = A.d (D.lit (.bool x18)) /\ H' = [] /\
 (x18 = true ->
 ∀ _ : Nat -> Nat, ∃ R', Holds Tryz.prog 13 [] [] R' /\
 (∀ v H', R' (.ret v) H' -> ∃ x19 : Bool, v = A.d (D.lit (.bool x19)) /\ H' = [] /\
 R (.ret (A.d (D.lit (.bool x19)))) []) /\
 PN R R') /\
 (x18 = false ->
 R (.ret (A.d (D.lit (.bool false)))) [])) /\
 PN R R') /\
 PN R R') /\
 ((!x16) = false ->
 ∀ _ : Nat -> Nat, ∃ R', Holds Tryz.prog 24 [(A.agg [D.lit (.int .i64 15), (D.lit (Zaa ([] : List UInt8))), D.lit (.int .i64 0), (D.lit (Zaa ([97] : List UInt8))), (D.lit (Zaa ([98] : List UInt8))), (D.slc [x0, [D.lit (.int .i64 10), (D.lit (Zaa ([97] : List UInt8))), D.lit (.int .i64 0), (D.lit (Zaa ([] : List UInt8))), (D.lit (Zaa ([] : List UInt8))), (D.slc ([] : List (List D))), (D.slc ([] : List (List D))), (D.slc ([] : List (List D))), D.lit (.int .i64 0)], [D.lit (.int .i64 10), (D.lit (Zaa ([99] : List UInt8))), D.lit (.int .i64 0), (D.lit (Zaa ([] : List UInt8))), (D.lit (Zaa ([] : List UInt8))), (D.slc ([] : List (List D))), (D.slc ([] : List (List D))), (D.slc ([] : List (List D))), D.lit (.int .i64 0)]]), (D.slc ([] : List (List D))), (D.slc ([] : List (List D))), D.lit (.int .i64 0)])] [] R' /\
 (∀ v H', R' (.ret v) H' -> ∃ x17 : List (List D), v = A.d (D.slc x17) /\ H' = [] /\
 ∀ _ : Nat -> Nat, ∃ R', Holds Tryz.prog 23 [A.d (D.slc x17), (A.zs ([] : List (List D)))] [] R' /\
 (∀ v H', R' (.ret v) H' -> ∃ x18 : Bool, v = A.d (D.lit (.bool x18)) /\ H' = [] /\
 (x18 = true ->
 ∀ _ : Nat -> Nat, ∃ R', Holds Tryz.prog 13 [] [] R' /\
 (∀ v H', R' (.ret v) H' -> ∃ x19 : Bool, v = A.d (D.lit (.bool x19)) /\ H' = [] /\
 R (.ret (A.d (D.lit (.bool x19)))) []) /\
 PN R R') /\
 (x18 = false ->
 R (.ret (A.d (D.lit (.bool false)))) [])) /\
 PN R R') /\
 PN R R')) /\
 PN R R') /\
 PN R R')) /\
 PN R R') /\
 (tB (x11 == ((2 + x12) + x13)) = false ->
 R (.ret (A.d (D.lit (.bool false)))) []))) /\
 PN R R') /\
 (tB (x6 == ((1 + x7) + x8)) = false ->
 R (.ret (A.d (D.lit (.bool false)))) []))) /\
 (∀ (x5 : List (List D)) (x6 : Int) , I0_1 x5 x6 ->
 (tB (decide (x6 < ((([] : List (List D)) ++ x4).length : Int))) = true ->
 tB (decide (0 <= x6)) = true /\
 tB (((gAt (([] : List (List D)) ++ x4) x6).length : Int) == 1) = true /\
 Rf.isK .str ((gAt (([] : List (List D)) ++ x4) x6).getD 0 D0) = true /\
 ∀ _ : Nat -> Nat, ∃ R', Holds Tryz.prog 34 [(A.d (D.lit (Zaa (Rf.dstr ((gAt (([] : List (List D)) ++ x4) x6).getD 0 D0))))), A.d (D.slc x5)] [] R' /\
 (∀ v H', R' (.ret v) H' -> ∃ x7 : Bool, v = A.d (D.lit (.bool x7)) /\ H' = [] /\
 ((!x7) = true ->
 tB (decide ((((x5.length : Int) + ([[(D.lit (Zaa (Rf.dstr ((gAt (([] : List (List D)) ++ x4) x6).getD 0 D0))))]].length : Int)) * 16) <= 140737488355328)) = true /\
 tB (decide (((x5.length : Int) + ([[(D.lit (Zaa (Rf.dstr ((gAt (([] : List (List D)) ++ x4) x6).getD 0 D0))))]].length : Int)) <= 1099511627776)) = true /\
 tB (decide ((-9223372036854775808) <= (x6 + 1))) = true /\
 tB (decide ((x6 + 1) <= 9223372036854775807)) = true /\
 I0_1 (x5 ++ [[(D.lit (Zaa (Rf.dstr ((gAt (([] : List (List D)) ++ x4) x6).getD 0 D0))))]]) (x6 + 1) /\ M0_1 (x5 ++ [[(D.lit (Zaa (Rf.dstr ((gAt (([] : List (List D)) ++ x4) x6).getD 0 D0))))]]) (x6 + 1) < M0_1 x5 x6) /\
 ((!x7) = false ->
 tB (decide ((-9223372036854775808) <= (x6 + 1))) = true /\
 tB (decide ((x6 + 1) <= 9223372036854775807)) = true /\
 I0_1 x5 (x6 + 1) /\ M0_1 x5 (x6 + 1) < M0_1 x5 x6)) /\
 PN R R') /\
 (tB (decide (x6 < ((([] : List (List D)) ++ x4).length : Int))) = false ->
 ∃ x7 : Int, (∀ _ : Nat -> Nat, Holds Tryz.prog 26 [(A.agg [D.lit (.int .i64 14), (D.lit (Zaa ([] : List UInt8))), D.lit (.int .i64 0), (D.lit (Zaa ([] : List UInt8))), (D.lit (Zaa ([] : List UInt8))), D.slc [x0, x1], (D.slc ([] : List (List D))), (D.slc ([] : List (List D))), D.lit (.int .i64 0)])] [] (Zay [] (A.d (D.lit (.int .i64 x7))))) /\
 ∃ x8 : Int, (∀ _ : Nat -> Nat, Holds Tryz.prog 26 [A.agg x0] [] (Zay [] (A.d (D.lit (.int .i64 x8))))) /\
 tB (decide ((-9223372036854775808) <= (1 + x8))) = true /\
 tB (decide ((1 + x8) <= 9223372036854775807)) = true /\
 ∃ x9 : Int, (∀ _ : Nat -> Nat, Holds Tryz.prog 26 [A.agg x1] [] (Zay [] (A.d (D.lit (.int .i64 x9))))) /\
 tB (decide ((-9223372036854775808) <= ((1 + x8) + x9))) = true /\
 tB (decide (((1 + x8) + x9) <= 9223372036854775807)) = true /\
 (tB (x7 == ((1 + x8) + x9)) = true ->
 ∃ x10 : List (List D), (∀ _ : Nat -> Nat, Holds Tryz.prog 24 [(A.agg [D.lit (.int .i64 14), (D.lit (Zaa ([] : List UInt8))), D.lit (.int .i64 0), (D.lit (Zaa ([] : List UInt8))), (D.lit (Zaa ([] : List UInt8))), D.slc [x0, x1], (D.slc ([] : List (List D))), (D.slc ([] : List (List D))), D.lit (.int .i64 0)])] [] (Zay [] (A.d (D.slc x10)))) /\
 ∀ _ : Nat -> Nat, ∃ R', Holds Tryz.prog 23 [A.d (D.slc x10), A.d (D.slc x5)] [] R' /\
 (∀ v H', R' (.ret v) H' -> ∃ x11 : Bool, v = A.d (D.lit (.bool x11)) /\ H' = [] /\
 ((!x11) = true ->
 R (.ret (A.d (D.lit (.bool false)))) []) /\
 ((!x11) = false ->
 ∃ x12 : Int, (∀ _ : Nat -> Nat, Holds Tryz.prog 26 [(A.agg [D.lit (.int .i64 13), (D.lit (Zaa ([] : List UInt8))), D.lit (.int .i64 0), (D.lit (Zaa ([] : List UInt8))), (D.lit (Zaa ([] : List UInt8))), (D.slc ([] : List (List D))), (D.slc [[D.lit (.int .i64 7), D.lit (.int .i64 0), (D.lit (Zaa ([] : List UInt8))), (D.lit (Zaa ([] : List UInt8))), (D.lit (Zaa ([] : List UInt8))), D.slc [x0, x1], (D.slc ([] : List (List D))), (D.slc ([] : List (List D))), (D.slc ([] : List (List D))), (D.lit (Zaa ([] : List UInt8))), D.lit (.int .i64 0)]]), (D.slc ([] : List (List D))), D.lit (.int .i64 0)])] [] (Zay [] (A.d (D.lit (.int .i64 x12))))) /\
 ∃ x13 : Int, (∀ _ : Nat -> Nat, Holds Tryz.prog 26 [A.agg x0] [] (Zay [] (A.d (D.lit (.int .i64 x13))))) /\
 tB (decide ((-9223372036854775808) <= (2 + x13))) = true /\
 tB (decide ((2 + x13) <= 9223372036854775807)) = true /\
 ∃ x14 : Int, (∀ _ : Nat -> Nat, Holds Tryz.prog 26 [A.agg x1] [] (Zay [] (A.d (D.lit (.int .i64 x14))))) /\
 tB (decide ((-9223372036854775808) <= ((2 + x13) + x14))) = true /\
 tB (decide (((2 + x13) + x14) <= 9223372036854775807)) = true /\
 (tB (x12 == ((2 + x13) + x14)) = true ->
 ∃ x15 : List (List D), (∀ _ : Nat -> Nat, Holds Tryz.prog 24 [(A.agg [D.lit (.int .i64 13), (D.lit (Zaa ([] : List UInt8))), D.lit (.int .i64 0), (D.lit (Zaa ([] : List UInt8))), (D.lit (Zaa ([] : List UInt8))), (D.slc ([] : List (List D))), (D.slc [[D.lit (.int .i64 7), D.lit (.int .i64 0), (D.lit (Zaa ([] : List UInt8))), (D.lit (Zaa ([] : List UInt8))), (D.lit (Zaa ([] : List UInt8))), D.slc [x0, x1], (D.slc ([] : List (List D))), (D.slc ([] : List (List D))), (D.slc ([] : List (List D))), (D.lit (Zaa ([] : List UInt8))), D.lit (.int .i64 0)]]), (D.slc ([] : List (List D))), D.lit (.int .i64 0)])] [] (Zay [] (A.d (D.slc x15)))) /\
 ∀ _ : Nat -> Nat, ∃ R', Holds Tryz.prog 23 [A.d (D.slc x15), A.d (D.slc x5)] [] R' /\
 (∀ v H', R' (.ret v) H' -> ∃ x16 : Bool, v = A.d (D.lit (.bool x16)) /\ H' = [] /\
 ((!x16) = true ->
 R (.ret (A.d (D.lit (.bool false)))) []) /\
 ((!x16) = false ->
 ∀ _ : Nat -> Nat, ∃ R', Holds Tryz.prog 24 [A.agg x0] [] R' /\
 (∀ v H', R' (.ret v) H' -> v = (A.zs ([] : List (List D))) /\ H' = [] /\
 ∀ _ : Nat -> Nat, ∃ R', Holds Tryz.prog 34 [(A.d (D.lit (Zaa ([99] : List UInt8)))), (A.zs ([] : List (List D)))] [] R' /\
 (∀ v H', R' (.ret v) H' -> ∃ x17 : Bool, v = A.d (D.lit (.bool x17)) /\ H' = [] /\
 ((!x17) = true ->
 tB (decide (((0 + ([[(D.lit (Zaa ([99] : List UInt8)))]].length : Int)) * 16) <= 140737488355328)) = true /\
 tB (decide ((0 + ([[(D.lit (Zaa ([99] : List UInt8)))]].length : Int)) <= 1099511627776)) = true /\
 ∀ _ : Nat -> Nat, ∃ R', Holds Tryz.prog 24 [(A.agg [D.lit (.int .i64 15), (D.lit (Zaa ([] : List UInt8))), D.lit (.int .i64 0), (D.lit (Zaa ([97] : List UInt8))), (D.lit (Zaa ([98] : List UInt8))), (D.slc [x0, [D.lit (.int .i64 10), (D.lit (Zaa ([97] : List UInt8))), D.lit (.int .i64 0), (D.lit (Zaa ([] : List UInt8))), (D.lit (Zaa ([] : List UInt8))), (D.slc ([] : List (List D))), (D.slc ([] : List (List D))), (D.slc ([] : List (List D))), D.lit (.int .i64 0)], [D.lit (.int .i64 10), (D.lit (Zaa ([99] : List UInt8))), D.lit (.int .i64 0), (D.lit (Zaa ([] : List UInt8))), (D.lit (Zaa ([] : List UInt8))), (D.slc ([] : List (List D))), (D.slc ([] : List (List D))), (D.slc ([] : List (List D))), D.lit (.int .i64 0)]]), (D.slc ([] : List (List D))), (D.slc ([] : List (List D))), D.lit (.int .i64 0)])] [] R' /\
 (∀ v H', R' (.ret v) H' -> ∃ x18 : List (List D), v = A.d (D.slc x18) /\ H' = [] /\
 ∀ _ : Nat -> Nat, ∃ R', Holds Tryz.prog 23 [A.d (D.slc x18), (A.d (D.slc [[(D.lit (Zaa ([99] : List UInt8)))]]))] [] R' /\
 (∀ v H', R' (.ret v) H' -> ∃ x19 : Bool, v = A.d (D.lit (.bool x19)) /\ H' = [] /\
 (x19 = true ->
 ∀ _ : Nat -> Nat, ∃ R', Holds Tryz.prog 13 [] [] R' /\
 (∀ v H', R' (.ret v) H' -> ∃ x20 : Bool, v = A.d (D.lit (.bool x20)) /\ H' = [] /\
 R (.ret (A.d (D.lit (.bool x20)))) []) /\
 PN R R') /\
 (x19 = false ->
 R (.ret (A.d (D.lit (.bool false)))) [])) /\
 PN R R') /\
 PN R R') /\
 ((!x17) = false ->
 ∀ _ : Nat -> Nat, ∃ R', Holds Tryz.prog 24 [(A.agg [D.lit (.int .i64 15), (D.lit (Zaa ([] : List UInt8))), D.lit (.int .i64 0), (D.lit (Zaa ([97] : List UInt8))), (D.lit (Zaa ([98] : List UInt8))), (D.slc [x0, [D.lit (.int .i64 10), (D.lit (Zaa ([97] : List UInt8))), D.lit (.int .i64 0), (D.lit (Zaa ([] : List UInt8))), (D.lit (Zaa ([] : List UInt8))), (D.slc ([] : List (List D))), (D.slc ([] : List (List D))), (D.slc ([] : List (List D))), D.lit (.int .i64 0)], [D.lit (.int .i64 10), (D.lit (Zaa ([99] : List UInt8))), D.lit (.int .i64 0), (D.lit (Zaa ([] : List UInt8))), (D.lit (Zaa ([] : List UInt8))), (D.slc ([] : List (List D))), (D.slc ([] : List (List D))), (D.slc ([] : List (List D))), D.lit (.int .i64 0)]]), (D.slc ([] : List (List D))), (D.slc ([] : List (List D))), D.lit (.int .i64 0)])] [] R' /\
 (∀ v H', R' (.ret v) H' -> ∃ x18 : List (List D), v = A.d (D.slc x18) /\ H' = [] /\
 ∀ _ : Nat -> Nat, ∃ R', Holds Tryz.prog 23 [A.d (D.slc x18), (A.zs ([] : List (List D)))] [] R' /\
 (∀ v H', R' (.ret v) H' -> ∃ x19 : Bool, v = A.d (D.lit (.bool x19)) /\ H' = [] /\
 (x19 = true ->
 ∀ _ : Nat -> Nat, ∃ R', Holds Tryz.prog 13 [] [] R' /\
 (∀ v H', R' (.ret v) H' -> ∃ x20 : Bool, v = A.d (D.lit (.bool x20)) /\ H' = [] /\
 R (.ret (A.d (D.lit (.bool x20)))) []) /\
 PN R R') /\
 (x19 = false ->
 R (.ret (A.d (D.lit (.bool false)))) [])) /\
 PN R R') /\
 PN R R')) /\
 PN R R') /\
 PN R R')) /\
 PN R R') /\
 (tB (x12 == ((2 + x13) + x14)) = false ->
 R (.ret (A.d (D.lit (.bool false)))) []))) /\
 PN R R') /\
 (tB (x7 == ((1 + x8) + x9)) = false ->
 R (.ret (A.d (D.lit (.bool false)))) []))) /\
 True)) /\
 PN R R') /\
 (x2 = false ->
 ∀ _ : Nat -> Nat, ∃ R', Holds Tryz.prog 13 [] [] R' /\
 (∀ v H', R' (.ret v) H' -> ∃ x3 : Bool, v = A.d (D.lit (.bool x3)) /\ H' = [] /\
 R (.ret (A.d (D.lit (.bool x3)))) []) /\
 PN R R')) /\
 PN R R') :
 Holds Tryz.prog 10 [A.agg x0, A.agg x1] [] R :=
 walk (c := ⟨Tryz.prog, 112, true, [0, 1, 2, 3, 4, 5, 6, 8, 9, 10, 28, 38, 39, 40, 41, 47, 68, 90, 101]⟩) (op := { lat := [5, 1005], dat := [38, 1037, 1106], zres := [24], com := [(10, (41, 5000)), (10, (8, 5000)), (10, (47, 5000))] }) (fn := Tryz.f10) (args := [.agg (.var 0), .agg (.var 1)]) (K := []) (nv := 2) (depth := 7) (up := upOf []) (ρ := Zc4 [.r x0, .r x1])
  rfl rfl rfl rfl rfl (by decide) (by decide) (by decide) (by decide) rfl (by simp [Zac, RRef.den, upOf]) (T_of (by kernel_rfl) h)
end Go.Sy
end
