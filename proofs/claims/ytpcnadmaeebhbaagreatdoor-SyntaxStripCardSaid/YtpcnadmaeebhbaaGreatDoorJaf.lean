/- Part 6 of the proof: Vmk, Veq, Vsml, Vmap, Vrm, Vrc, Vcom, Vreq, Vpla, Vtop. -/
import Derived.Test.YtpcnadmaeebhbaaGreatDoorProg
import Derived.Test.YtpcnadmaeebhbaaGreatDoorJae
set_option linter.unusedVariables false
set_option linter.unusedSimpArgs false
section
open Go Go.Proofs Go.Ab Go.Rf
set_option maxRecDepth 1000000
set_option maxHeartbeats 2000000
set_option linter.unusedVariables false
namespace Go.Sy
abbrev RT := Out -> List (Ref × List A) -> Prop
abbrev PN (R R' : RT) : Prop := ∀ v H', R' (.pan v) H' -> H' = [] /\ R (.pan v) []
theorem w23 {R : RT} (x0 : List (List D)) (x1 : List (List D)) (h : ((!(tB ((x0.length : Int) == (x1.length : Int)))) = true ->
 R (.ret (A.d (D.lit (.bool false)))) []) /\
 ((!(tB ((x0.length : Int) == (x1.length : Int)))) = false ->
 ∃ (I0_0 : Int -> Prop) (M0_0 : Int -> Nat), I0_0 0 /\
 (∀ (x2 : Int) , I0_0 x2 ->
 (tB (decide (x2 < (x0.length : Int))) = true ->
 tB (decide (0 <= x2)) = true /\
 tB (((gAt x0 x2).length : Int) == 1) = true /\
 Rf.isK .str ((gAt x0 x2).getD 0 D0) = true /\
 tB (decide (x2 < (x1.length : Int))) = true /\
 tB (((gAt x1 x2).length : Int) == 1) = true /\
 Rf.isK .str ((gAt x1 x2).getD 0 D0) = true /\
 ((!(tB ((Rf.dstr ((gAt x0 x2).getD 0 D0)) == (Rf.dstr ((gAt x1 x2).getD 0 D0))))) = true ->
 R (.ret (A.d (D.lit (.bool false)))) []) /\
 ((!(tB ((Rf.dstr ((gAt x0 x2).getD 0 D0)) == (Rf.dstr ((gAt x1 x2).getD 0 D0))))) = false ->
 tB (decide ((-9223372036854775808) <= (x2 + 1))) = true /\
 tB (decide ((x2 + 1) <= 9223372036854775807)) = true /\
 I0_0 (x2 + 1) /\ M0_0 (x2 + 1) < M0_0 x2)) /\
 (tB (decide (x2 < (x0.length : Int))) = false ->
 R (.ret (A.d (D.lit (.bool true)))) [])) /\
 True)) :
 Holds Tryz.prog 23 [A.d (D.slc x0), A.d (D.slc x1)] [] R :=
 walk (c := ⟨Tryz.prog, 26, true, [0, 1, 4, 5, 10, 12, 13, 14, 24]⟩) (op := { com := [(8, (14, 5000)), (8, (5, 5000)), (8, (24, 5000)), (8, (4, 5000))] }) (fn := Tryz.f23) (args := [.c (.o1 .cl (.var 0)), .c (.o1 .cl (.var 1))]) (K := []) (nv := 2) (depth := 5) (up := upOf []) (ρ := Zbi [.l x0, .l x1])
  rfl rfl rfl rfl rfl (by decide) (by decide) (by decide) (by decide) rfl (by simp [Zac, RRef.den, upOf]) (T_of (by kernel_rfl) h)
end Go.Sy
end
section
open Go Go.Proofs Go.Ab Go.Rf
set_option maxRecDepth 1000000
set_option maxHeartbeats 2000000
set_option linter.unusedVariables false
namespace Go.Sy
end Go.Sy
end
section
open Go Go.Proofs Go.Ab Go.Rf
set_option maxRecDepth 1000000
set_option maxHeartbeats 2000000
set_option linter.unusedVariables false
namespace Go.Sy
theorem w12 {R : RT} (x0 : List D) (h : tB ((x0.length : Int) == 4) = true /\
 Rf.isK .slc (x0.getD 1 D0) = true /\
 ((tB (decide (5 < ((Rf.dlst (x0.getD 1 D0)).length : Int)))) || (Rf.isK .slc (x0.getD 3 D0))) = true /\
 (((tB (decide (5 < ((Rf.dlst (x0.getD 1 D0)).length : Int)))) || (tB (decide (20 < ((Rf.dlst (x0.getD 3 D0)).length : Int))))) || (Rf.isK .str (x0.getD 0 D0))) = true /\
 ((!((tB (decide (5 < ((Rf.dlst (x0.getD 1 D0)).length : Int)))) || (tB (decide (20 < ((Rf.dlst (x0.getD 3 D0)).length : Int)))))) = true ->
 ∃ x1 : Int, (∀ _ : Nat -> Nat, Holds Tryz.prog 41 [A.d (D.slc [[D.lit (Zab (Rf.dstr (x0.getD 0 D0)))]])] [] (Zcn [] (A.d (D.lit (.int .i64 x1))))) /\
 Rf.isK .slc (x0.getD 3 D0) = true /\
 ∀ _ : Nat -> Nat, ∃ R', Holds Tryz.prog 41 [A.d (D.slc (Rf.dlst (x0.getD 3 D0)))] [] R' /\
 (∀ v H', R' (.ret v) H' -> ∃ x2 : Int, v = A.d (D.lit (.int .i64 x2)) /\ H' = [] /\
 tB (decide ((-9223372036854775808) <= (x1 + x2))) = true /\
 tB (decide ((x1 + x2) <= 9223372036854775807)) = true /\
 (tB (decide (1000 < (x1 + x2))) = true ->
 R (.ret (A.d (D.lit (.bool false)))) []) /\
 (tB (decide (1000 < (x1 + x2))) = false ->
 ∃ (I0_0 : Int -> Prop) (M0_0 : Int -> Nat), I0_0 0 /\
 (∀ (x3 : Int) , I0_0 x3 ->
 (tB (decide (x3 < ((Rf.dlst (x0.getD 1 D0)).length : Int))) = true ->
 tB (decide (0 <= x3)) = true /\
 tB (((gAt (Rf.dlst (x0.getD 1 D0)) x3).length : Int) == 3) = true /\
 Rf.isK .str ((gAt (Rf.dlst (x0.getD 1 D0)) x3).getD 0 D0) = true /\
 Rf.isK .str ((gAt (Rf.dlst (x0.getD 1 D0)) x3).getD 1 D0) = true /\
 tB (decide ((-9223372036854775808) <= (((Rf.dstr ((gAt (Rf.dlst (x0.getD 1 D0)) x3).getD 0 D0)).length : Int) + ((Rf.dstr ((gAt (Rf.dlst (x0.getD 1 D0)) x3).getD 1 D0)).length : Int)))) = true /\
 tB (decide ((((Rf.dstr ((gAt (Rf.dlst (x0.getD 1 D0)) x3).getD 0 D0)).length : Int) + ((Rf.dstr ((gAt (Rf.dlst (x0.getD 1 D0)) x3).getD 1 D0)).length : Int)) <= 9223372036854775807)) = true /\
 (tB (decide (200 < (((Rf.dstr ((gAt (Rf.dlst (x0.getD 1 D0)) x3).getD 0 D0)).length : Int) + ((Rf.dstr ((gAt (Rf.dlst (x0.getD 1 D0)) x3).getD 1 D0)).length : Int)))) = true ->
 R (.ret (A.d (D.lit (.bool false)))) []) /\
 (tB (decide (200 < (((Rf.dstr ((gAt (Rf.dlst (x0.getD 1 D0)) x3).getD 0 D0)).length : Int) + ((Rf.dstr ((gAt (Rf.dlst (x0.getD 1 D0)) x3).getD 1 D0)).length : Int)))) = false ->
 tB (decide ((-9223372036854775808) <= (x3 + 1))) = true /\
 tB (decide ((x3 + 1) <= 9223372036854775807)) = true /\
 I0_0 (x3 + 1) /\ M0_0 (x3 + 1) < M0_0 x3)) /\
 (tB (decide (x3 < ((Rf.dlst (x0.getD 1 D0)).length : Int))) = false ->
 Rf.isK .slc (x0.getD 2 D0) = true /\
 ∀ _ : Nat -> Nat, ∃ R', Holds Tryz.prog 42 [A.d (D.slc (Rf.dlst (x0.getD 2 D0))), A.d (D.lit (.int .i64 150))] [] R' /\
 (∀ v H', R' (.ret v) H' -> ∃ x4 : Int, v = A.d (D.lit (.int .i64 x4)) /\ H' = [] /\
 R (.ret (A.d (D.lit (.bool (tB (decide (0 <= x4))))))) []) /\
 PN R R')) /\
 True)) /\
 PN R R') /\
 ((!((tB (decide (5 < ((Rf.dlst (x0.getD 1 D0)).length : Int)))) || (tB (decide (20 < ((Rf.dlst (x0.getD 3 D0)).length : Int)))))) = false ->
 R (.ret (A.d (D.lit (.bool false)))) [])) :
 Holds Tryz.prog 12 [A.agg x0] [] R :=
 walk (c := ⟨Tryz.prog, 46, true, [0, 1, 2, 4, 25, 27, 28, 29, 30, 40]⟩) (op := { com := [(8, (30, 5000)), (8, (4, 5000)), (8, (40, 5000)), (8, (2, 5000))] }) (fn := Tryz.f12) (args := [.agg (.var 0)]) (K := []) (nv := 1) (depth := 6) (up := upOf []) (ρ := Zbi [.r x0])
  rfl rfl rfl rfl rfl (by decide) (by decide) (by decide) (by decide) rfl (by simp [Zac, RRef.den, upOf]) (T_of (by kernel_rfl) h)
theorem w16 {R : RT} (x0 : List D) (h : tB ((x0.length : Int) == 9) = true /\
 ∀ _ : Nat -> Nat, ∃ R', Holds Tryz.prog 57 [A.agg x0, A.d (D.lit (.int .i64 100))] [] R' /\
 (∀ v H', R' (.ret v) H' -> ∃ x1 : Int, v = A.d (D.lit (.int .i64 x1)) /\ H' = [] /\
 R (.ret (A.d (D.lit (.bool (tB (decide (0 <= x1))))))) []) /\
 PN R R') :
 Holds Tryz.prog 16 [A.agg x0] [] R :=
 walk (c := ⟨Tryz.prog, 6, true, [0, 1, 2]⟩) (op := {}) (fn := Tryz.f16) (args := [.agg (.var 0)]) (K := []) (nv := 1) (depth := 3) (up := upOf []) (ρ := Zbi [.r x0])
  rfl rfl rfl rfl rfl (by decide) (by decide) (by decide) (by decide) rfl (by simp [Zac, RRef.den, upOf]) (T_of (by kernel_rfl) h)
theorem w41 {R : RT} (x0 : List (List D)) (h : ∃ (I0_0 : Int -> Int -> Prop) (M0_0 : Int -> Int -> Nat), I0_0 0 0 /\
 (∀ (x1 : Int) (x2 : Int) , I0_0 x1 x2 ->
 (tB (decide (x2 < (x0.length : Int))) = true ->
 tB (decide (0 <= x2)) = true /\
 tB (((gAt x0 x2).length : Int) == 1) = true /\
 Rf.isK .str ((gAt x0 x2).getD 0 D0) = true /\
 tB (decide ((-9223372036854775808) <= (x1 + ((Rf.dstr ((gAt x0 x2).getD 0 D0)).length : Int)))) = true /\
 tB (decide ((x1 + ((Rf.dstr ((gAt x0 x2).getD 0 D0)).length : Int)) <= 9223372036854775807)) = true /\
 tB (decide ((-9223372036854775808) <= (x2 + 1))) = true /\
 tB (decide ((x2 + 1) <= 9223372036854775807)) = true /\
 I0_0 (((x1 + ((Rf.dstr ((gAt x0 x2).getD 0 D0)).length : Int)) + 10000) - (gMax (x1 + ((Rf.dstr ((gAt x0 x2).getD 0 D0)).length : Int)) 10000)) (x2 + 1) /\ M0_0 (((x1 + ((Rf.dstr ((gAt x0 x2).getD 0 D0)).length : Int)) + 10000) - (gMax (x1 + ((Rf.dstr ((gAt x0 x2).getD 0 D0)).length : Int)) 10000)) (x2 + 1) < M0_0 x1 x2) /\
 (tB (decide (x2 < (x0.length : Int))) = false ->
 R (.ret (A.d (D.lit (.int .i64 x1)))) [])) /\
 True) :
 Holds Tryz.prog 41 [A.d (D.slc x0)] [] R :=
 walk (c := ⟨Tryz.prog, 19, true, [0, 2, 3, 5, 6, 7, 8, 9]⟩) (op := { com := [(6, (9, 5000)), (6, (5, 5000))] }) (fn := Tryz.f41) (args := [.c (.o1 .cl (.var 0))]) (K := []) (nv := 1) (depth := 5) (up := upOf []) (ρ := Zbi [.l x0])
  rfl rfl rfl rfl rfl (by decide) (by decide) (by decide) (by decide) rfl (by simp [Zac, RRef.den, upOf]) (T_of (by kernel_rfl) h)
theorem w42 {R : RT} (x0 : List (List D)) (x1 : Int) (h : ∃ (I0_0 : Int -> Int -> Prop) (M0_0 : Int -> Int -> Nat), I0_0 x1 0 /\
 (∀ (x2 : Int) (x3 : Int) , I0_0 x2 x3 ->
 (tB (decide (x3 < (x0.length : Int))) = true ->
 tB (decide (0 <= x3)) = true /\
 tB (((gAt x0 x3).length : Int) == 11) = true /\
 (tB (decide (x2 < 0)) = true ->
 R (.ret (A.d (D.lit (.int .i64 x2)))) []) /\
 (tB (decide (x2 < 0)) = false ->
 tB (decide ((-9223372036854775808) <= (x2 - 1))) = true /\
 tB (decide ((x2 - 1) <= 9223372036854775807)) = true /\
 Rf.isK .slc ((gAt x0 x3).getD 8 D0) = true /\
 tB (decide ((-9223372036854775808) <= ((x2 - 1) - ((Rf.dlst ((gAt x0 x3).getD 8 D0)).length : Int)))) = true /\
 tB (decide (((x2 - 1) - ((Rf.dlst ((gAt x0 x3).getD 8 D0)).length : Int)) <= 9223372036854775807)) = true /\
 Rf.isK .slc ((gAt x0 x3).getD 7 D0) = true /\
 tB (decide ((-9223372036854775808) <= (((x2 - 1) - ((Rf.dlst ((gAt x0 x3).getD 8 D0)).length : Int)) - ((Rf.dlst ((gAt x0 x3).getD 7 D0)).length : Int)))) = true /\
 tB (decide ((((x2 - 1) - ((Rf.dlst ((gAt x0 x3).getD 8 D0)).length : Int)) - ((Rf.dlst ((gAt x0 x3).getD 7 D0)).length : Int)) <= 9223372036854775807)) = true /\
 Rf.isK .str ((gAt x0 x3).getD 2 D0) = true /\
 Rf.isK .str ((gAt x0 x3).getD 3 D0) = true /\
 Rf.isK .str ((gAt x0 x3).getD 4 D0) = true /\
 Rf.isK .str ((gAt x0 x3).getD 9 D0) = true /\
 ∃ x4 : Int, (∀ _ : Nat -> Nat, Holds Tryz.prog 41 [A.d (D.slc [[D.lit (Zab (Rf.dstr ((gAt x0 x3).getD 2 D0)))], [D.lit (Zab (Rf.dstr ((gAt x0 x3).getD 3 D0)))], [D.lit (Zab (Rf.dstr ((gAt x0 x3).getD 4 D0)))], [D.lit (Zab (Rf.dstr ((gAt x0 x3).getD 9 D0)))]])] [] (Zcn [] (A.d (D.lit (.int .i64 x4))))) /\
 tB (decide ((-9223372036854775808) <= (x4.tdiv 20))) = true /\
 tB (decide ((x4.tdiv 20) <= 9223372036854775807)) = true /\
 tB (decide ((-9223372036854775808) <= ((((x2 - 1) - ((Rf.dlst ((gAt x0 x3).getD 8 D0)).length : Int)) - ((Rf.dlst ((gAt x0 x3).getD 7 D0)).length : Int)) - (x4.tdiv 20)))) = true /\
 tB (decide (((((x2 - 1) - ((Rf.dlst ((gAt x0 x3).getD 8 D0)).length : Int)) - ((Rf.dlst ((gAt x0 x3).getD 7 D0)).length : Int)) - (x4.tdiv 20)) <= 9223372036854775807)) = true /\
 ∃ x5 : Int, (∀ _ : Nat -> Nat, Holds Tryz.prog 41 [A.d (D.slc (Rf.dlst ((gAt x0 x3).getD 8 D0)))] [] (Zcn [] (A.d (D.lit (.int .i64 x5))))) /\
 tB (decide ((-9223372036854775808) <= (x5.tdiv 20))) = true /\
 tB (decide ((x5.tdiv 20) <= 9223372036854775807)) = true /\
 tB (decide ((-9223372036854775808) <= (((((x2 - 1) - ((Rf.dlst ((gAt x0 x3).getD 8 D0)).length : Int)) - ((Rf.dlst ((gAt x0 x3).getD 7 D0)).length : Int)) - (x4.tdiv 20)) - (x5.tdiv 20)))) = true /\
 tB (decide ((((((x2 - 1) - ((Rf.dlst ((gAt x0 x3).getD 8 D0)).length : Int)) - ((Rf.dlst ((gAt x0 x3).getD 7 D0)).length : Int)) - (x4.tdiv 20)) - (x5.tdiv 20)) <= 9223372036854775807)) = true /\
 ∃ x6 : Int, (∀ _ : Nat -> Nat, Holds Tryz.prog 41 [A.d (D.slc (Rf.dlst ((gAt x0 x3).getD 7 D0)))] [] (Zcn [] (A.d (D.lit (.int .i64 x6))))) /\
 tB (decide ((-9223372036854775808) <= (x6.tdiv 20))) = true /\
 tB (decide ((x6.tdiv 20) <= 9223372036854775807)) = true /\
 tB (decide ((-9223372036854775808) <= ((((((x2 - 1) - ((Rf.dlst ((gAt x0 x3).getD 8 D0)).length : Int)) - ((Rf.dlst ((gAt x0 x3).getD 7 D0)).length : Int)) - (x4.tdiv 20)) - (x5.tdiv 20)) - (x6.tdiv 20)))) = true /\
 tB (decide (((((((x2 - 1) - ((Rf.dlst ((gAt x0 x3).getD 8 D0)).length : Int)) - ((Rf.dlst ((gAt x0 x3).getD 7 D0)).length : Int)) - (x4.tdiv 20)) - (x5.tdiv 20)) - (x6.tdiv 20)) <= 9223372036854775807)) = true /\
 Rf.isK .slc ((gAt x0 x3).getD 5 D0) = true /\
 ∃ (I1_0 : Int -> Int -> Prop) (M1_0 : Int -> Int -> Nat), I1_0 ((((((x2 - 1) - ((Rf.dlst ((gAt x0 x3).getD 8 D0)).length : Int)) - ((Rf.dlst ((gAt x0 x3).getD 7 D0)).length : Int)) - (x4.tdiv 20)) - (x5.tdiv 20)) - (x6.tdiv 20)) 0 /\
 (∀ (x7 : Int) (x8 : Int) , I1_0 x7 x8 ->
 (tB (decide (x8 < ((Rf.dlst ((gAt x0 x3).getD 5 D0)).length : Int))) = true ->
 tB (decide (0 <= x8)) = true /\
 tB (((gAt (Rf.dlst ((gAt x0 x3).getD 5 D0)) x8).length : Int) == 9) = true /\
 (tB (decide (0 <= x7)) = true ->
 ∀ _ : Nat -> Nat, ∃ R', Holds Tryz.prog 57 [A.agg (gAt (Rf.dlst ((gAt x0 x3).getD 5 D0)) x8), A.d (D.lit (.int .i64 x7))] [] R' /\
 (∀ v H', R' (.ret v) H' -> ∃ x9 : Int, v = A.d (D.lit (.int .i64 x9)) /\ H' = [] /\
 tB (decide ((-9223372036854775808) <= (x8 + 1))) = true /\
 tB (decide ((x8 + 1) <= 9223372036854775807)) = true /\
 I1_0 x9 (x8 + 1) /\ M1_0 x9 (x8 + 1) < M1_0 x7 x8) /\
 PN R R') /\
 (tB (decide (0 <= x7)) = false ->
 tB (decide ((-9223372036854775808) <= (x8 + 1))) = true /\
 tB (decide ((x8 + 1) <= 9223372036854775807)) = true /\
 I1_0 x7 (x8 + 1) /\ M1_0 x7 (x8 + 1) < M1_0 x7 x8)) /\
 (tB (decide (x8 < ((Rf.dlst ((gAt x0 x3).getD 5 D0)).length : Int))) = false ->
 Rf.isK .slc ((gAt x0 x3).getD 6 D0) = true /\
 ∀ _ : Nat -> Nat, ∃ R', Holds Tryz.prog 42 [A.d (D.slc (Rf.dlst ((gAt x0 x3).getD 6 D0))), A.d (D.lit (.int .i64 x7))] [] R' /\
 (∀ v H', R' (.ret v) H' -> ∃ x9 : Int, v = A.d (D.lit (.int .i64 x9)) /\ H' = [] /\
 tB (decide ((-9223372036854775808) <= (x3 + 1))) = true /\
 tB (decide ((x3 + 1) <= 9223372036854775807)) = true /\
 I0_0 x9 (x3 + 1) /\ M0_0 x9 (x3 + 1) < M0_0 x2 x3) /\
 PN R R')) /\
 True)) /\
 (tB (decide (x3 < (x0.length : Int))) = false ->
 R (.ret (A.d (D.lit (.int .i64 x2)))) [])) /\
 True) :
 Holds Tryz.prog 42 [A.d (D.slc x0), A.d (D.lit (.int .i64 x1))] [] R :=
 walk (c := ⟨Tryz.prog, 71, true, [0, 1, 4, 6, 8, 9, 10, 11, 12, 16, 53, 54, 55, 56, 60]⟩) (op := { com := [(14, (12, 5000)), (14, (6, 5000)), (14, (16, 5000)), (14, (4, 5000)), (14, (53, 5000)), (14, (54, 5000)), (14, (55, 5000)), (14, (56, 5000)), (14, (8, 5000)), (14, (60, 5000)), (12, (56, 5000)), (12, (8, 5000)), (12, (60, 5000))] }) (fn := Tryz.f42) (args := [.c (.o1 .cl (.var 0)), .c (.o1 (.ci .i64) (.var 1))]) (K := []) (nv := 2) (depth := 7) (up := upOf []) (ρ := Zbi [.l x0, .i x1])
  rfl rfl rfl rfl rfl (by decide) (by decide) (by decide) (by decide) rfl (by simp [Zac, RRef.den, upOf]) (T_of (by kernel_rfl) h)
theorem w57 {R : RT} (x0 : List D) (x1 : Int) (h : tB ((x0.length : Int) == 9) = true /\
 tB (decide ((-9223372036854775808) <= (x1 - 1))) = true /\
 tB (decide ((x1 - 1) <= 9223372036854775807)) = true /\
 Rf.isK .slc (x0.getD 7 D0) = true /\
 tB (decide ((-9223372036854775808) <= ((x1 - 1) - ((Rf.dlst (x0.getD 7 D0)).length : Int)))) = true /\
 tB (decide (((x1 - 1) - ((Rf.dlst (x0.getD 7 D0)).length : Int)) <= 9223372036854775807)) = true /\
 Rf.isK .str (x0.getD 1 D0) = true /\
 Rf.isK .str (x0.getD 3 D0) = true /\
 Rf.isK .str (x0.getD 4 D0) = true /\
 ∃ x2 : Int, (∀ _ : Nat -> Nat, Holds Tryz.prog 41 [A.d (D.slc [[D.lit (Zab (Rf.dstr (x0.getD 1 D0)))], [D.lit (Zab (Rf.dstr (x0.getD 3 D0)))], [D.lit (Zab (Rf.dstr (x0.getD 4 D0)))]])] [] (Zcn [] (A.d (D.lit (.int .i64 x2))))) /\
 tB (decide ((-9223372036854775808) <= (x2.tdiv 20))) = true /\
 tB (decide ((x2.tdiv 20) <= 9223372036854775807)) = true /\
 tB (decide ((-9223372036854775808) <= (((x1 - 1) - ((Rf.dlst (x0.getD 7 D0)).length : Int)) - (x2.tdiv 20)))) = true /\
 tB (decide ((((x1 - 1) - ((Rf.dlst (x0.getD 7 D0)).length : Int)) - (x2.tdiv 20)) <= 9223372036854775807)) = true /\
 ∃ x3 : Int, (∀ _ : Nat -> Nat, Holds Tryz.prog 41 [A.d (D.slc (Rf.dlst (x0.getD 7 D0)))] [] (Zcn [] (A.d (D.lit (.int .i64 x3))))) /\
 tB (decide ((-9223372036854775808) <= (x3.tdiv 20))) = true /\
 tB (decide ((x3.tdiv 20) <= 9223372036854775807)) = true /\
 tB (decide ((-9223372036854775808) <= ((((x1 - 1) - ((Rf.dlst (x0.getD 7 D0)).length : Int)) - (x2.tdiv 20)) - (x3.tdiv 20)))) = true /\
 tB (decide (((((x1 - 1) - ((Rf.dlst (x0.getD 7 D0)).length : Int)) - (x2.tdiv 20)) - (x3.tdiv 20)) <= 9223372036854775807)) = true /\
 Rf.isK .slc (x0.getD 5 D0) = true /\
 ∃ (I0_0 : Int -> Int -> Prop) (M0_0 : Int -> Int -> Nat), I0_0 ((((x1 - 1) - ((Rf.dlst (x0.getD 7 D0)).length : Int)) - (x2.tdiv 20)) - (x3.tdiv 20)) 0 /\
 (∀ (x4 : Int) (x5 : Int) , I0_0 x4 x5 ->
 (tB (decide (x5 < ((Rf.dlst (x0.getD 5 D0)).length : Int))) = true ->
 tB (decide (0 <= x5)) = true /\
 tB (((gAt (Rf.dlst (x0.getD 5 D0)) x5).length : Int) == 9) = true /\
 (tB (decide (0 <= x4)) = true ->
 ∀ _ : Nat -> Nat, ∃ R', Holds Tryz.prog 57 [A.agg (gAt (Rf.dlst (x0.getD 5 D0)) x5), A.d (D.lit (.int .i64 x4))] [] R' /\
 (∀ v H', R' (.ret v) H' -> ∃ x6 : Int, v = A.d (D.lit (.int .i64 x6)) /\ H' = [] /\
 tB (decide ((-9223372036854775808) <= (x5 + 1))) = true /\
 tB (decide ((x5 + 1) <= 9223372036854775807)) = true /\
 I0_0 x6 (x5 + 1) /\ M0_0 x6 (x5 + 1) < M0_0 x4 x5) /\
 PN R R') /\
 (tB (decide (0 <= x4)) = false ->
 tB (decide ((-9223372036854775808) <= (x5 + 1))) = true /\
 tB (decide ((x5 + 1) <= 9223372036854775807)) = true /\
 I0_0 x4 (x5 + 1) /\ M0_0 x4 (x5 + 1) < M0_0 x4 x5)) /\
 (tB (decide (x5 < ((Rf.dlst (x0.getD 5 D0)).length : Int))) = false ->
 Rf.isK .slc (x0.getD 6 D0) = true /\
 ∀ _ : Nat -> Nat, ∃ R', Holds Tryz.prog 42 [A.d (D.slc (Rf.dlst (x0.getD 6 D0))), A.d (D.lit (.int .i64 x4))] [] R' /\
 (∀ v H', R' (.ret v) H' -> ∃ x6 : Int, v = A.d (D.lit (.int .i64 x6)) /\ H' = [] /\
 R (.ret (A.d (D.lit (.int .i64 x6)))) []) /\
 PN R R')) /\
 True) :
 Holds Tryz.prog 57 [A.agg x0, A.d (D.lit (.int .i64 x1))] [] R :=
 walk (c := ⟨Tryz.prog, 47, true, [0, 1, 2, 4, 6, 31, 32, 33, 34, 38]⟩) (op := { com := [(7, (34, 5000)), (7, (6, 5000)), (7, (38, 5000))] }) (fn := Tryz.f57) (args := [.agg (.var 0), .c (.o1 (.ci .i64) (.var 1))]) (K := []) (nv := 2) (depth := 6) (up := upOf []) (ρ := Zbi [.r x0, .i x1])
  rfl rfl rfl rfl rfl (by decide) (by decide) (by decide) (by decide) rfl (by simp [Zac, RRef.den, upOf]) (T_of (by kernel_rfl) h)
end Go.Sy
end
section
open Go Go.Proofs Go.Ab Go.Rf
set_option maxRecDepth 1000000
set_option maxHeartbeats 2000000
set_option linter.unusedVariables false
namespace Go.Sy
theorem w74s {R : RT} (x0 : List D) (h : tB ((x0.length : Int) == 9) = true /\
 ∀ _ : Nat -> Nat, ∃ R', Holds Tryz.prog 79 [A.agg x0] [] R' /\
 (∀ v H', R' (.ret v) H' -> ∃ x1 : List D, v = A.agg x1 /\ H' = [] /\
 tB ((x1.length : Int) == 9) = true /\
 Rf.isK .slc (x0.getD 5 D0) = true /\
 ∀ _ : Nat -> Nat, ∃ R', Holds Tryz.prog 107 [A.d (D.slc (Rf.dlst (x0.getD 5 D0))), A.fn 79 [], A.fn 80 []] [] R' /\
 (∀ v H', R' (.ret v) H' -> ∃ x2 : List (List D), v = A.d (D.slc x2) /\ H' = [] /\
 Rf.isK .slc (x0.getD 6 D0) = true /\
 ∀ _ : Nat -> Nat, ∃ R', Holds Tryz.prog 78 [A.d (D.slc (Rf.dlst (x0.getD 6 D0))), A.fn 79 [], A.fn 80 []] [] R' /\
 (∀ v H', R' (.ret v) H' -> ∃ x3 : List (List D), v = A.d (D.slc x3) /\ H' = [] /\
 Rf.isK .slc (x1.getD 7 D0) = true /\
 ∀ _ : Nat -> Nat, ∃ R', Holds Tryz.prog 69 [A.d (D.slc (Rf.dlst (x1.getD 7 D0)))] [] R' /\
 (∀ v H', R' (.ret v) H' -> ∃ x4 : List (List D), v = A.d (D.slc x4) /\ H' = [] /\
 R (.ret (A.agg [x1.getD 0 D0, x1.getD 1 D0, x1.getD 2 D0, x1.getD 3 D0, x1.getD 4 D0, D.slc x2, D.slc x3, D.slc x4, x1.getD 8 D0])) []) /\
 PN R R') /\
 PN R R') /\
 PN R R') /\
 PN R R') :
 Holds Tryz.prog 74 [A.agg x0, A.fn 79 [], A.fn 80 []] [] R :=
 walk (c := ⟨Tryz.prog, 28, true, [0, 1, 2, 3, 6, 7]⟩) (op := {}) (fn := Tryz.f74) (args := [.agg (.var 0), .fn 79 [], .fn 80 []]) (K := []) (nv := 1) (depth := 5) (up := upOf []) (ρ := Zbi [.r x0])
  rfl rfl rfl rfl rfl (by decide) (by decide) (by decide) (by decide) rfl (by simp [Zac, RRef.den, upOf]) (T_of (by kernel_rfl) h)
theorem w78s {R : RT} (x0 : List (List D)) (h : ∃ (I0_0 : Prop) (M0_0 : Nat), ∃ (I0_1 : List (List D) -> Int -> Prop) (M0_1 : List (List D) -> Int -> Nat), I0_0 /\
 (I0_0 ->
 (tB (decide (0 < (x0.length : Int))) = true ->
 tB (((gAt x0 0).length : Int) == 11) = true /\
 ∀ _ : Nat -> Nat, ∃ R', Holds Tryz.prog 80 [A.agg (gAt x0 0)] [] R' /\
 (∀ v H', R' (.ret v) H' -> ∃ x1 : List D, v = A.agg x1 /\ H' = [] /\
 tB ((x1.length : Int) == 11) = true /\
 Rf.isK .slc ((gAt x0 0).getD 5 D0) = true /\
 ∀ _ : Nat -> Nat, ∃ R', Holds Tryz.prog 107 [A.d (D.slc (Rf.dlst ((gAt x0 0).getD 5 D0))), A.fn 79 [], A.fn 80 []] [] R' /\
 (∀ v H', R' (.ret v) H' -> ∃ x2 : List (List D), v = A.d (D.slc x2) /\ H' = [] /\
 Rf.isK .slc ((gAt x0 0).getD 6 D0) = true /\
 ∀ _ : Nat -> Nat, ∃ R', Holds Tryz.prog 78 [A.d (D.slc (Rf.dlst ((gAt x0 0).getD 6 D0))), A.fn 79 [], A.fn 80 []] [] R' /\
 (∀ v H', R' (.ret v) H' -> ∃ x3 : List (List D), v = A.d (D.slc x3) /\ H' = [] /\
 Rf.isK .slc (x1.getD 8 D0) = true /\
 ∃ x4 : List (List D), (∀ _ : Nat -> Nat, Holds Tryz.prog 69 [A.d (D.slc (Rf.dlst (x1.getD 8 D0)))] [] (Zcn [] (A.d (D.slc x4)))) /\
 Rf.isK .slc (x1.getD 7 D0) = true /\
 ∃ x5 : List (List D), (∀ _ : Nat -> Nat, Holds Tryz.prog 69 [A.d (D.slc (Rf.dlst (x1.getD 7 D0)))] [] (Zcn [] (A.d (D.slc x5)))) /\
 tB (decide (((0 + ([[x1.getD 0 D0, x1.getD 1 D0, x1.getD 2 D0, x1.getD 3 D0, x1.getD 4 D0, D.slc x2, D.slc x3, D.slc x5, D.slc x4, x1.getD 9 D0, x1.getD 10 D0]].length : Int)) * 184) <= 140737488355328)) = true /\
 tB (decide ((0 + ([[x1.getD 0 D0, x1.getD 1 D0, x1.getD 2 D0, x1.getD 3 D0, x1.getD 4 D0, D.slc x2, D.slc x3, D.slc x5, D.slc x4, x1.getD 9 D0, x1.getD 10 D0]].length : Int)) <= 1099511627776)) = true /\
 I0_1 [[x1.getD 0 D0, x1.getD 1 D0, x1.getD 2 D0, x1.getD 3 D0, x1.getD 4 D0, D.slc x2, D.slc x3, D.slc x5, D.slc x4, x1.getD 9 D0, x1.getD 10 D0]] 1 /\ M0_1 [[x1.getD 0 D0, x1.getD 1 D0, x1.getD 2 D0, x1.getD 3 D0, x1.getD 4 D0, D.slc x2, D.slc x3, D.slc x5, D.slc x4, x1.getD 9 D0, x1.getD 10 D0]] 1 < M0_0) /\
 PN R R') /\
 PN R R') /\
 PN R R') /\
 (tB (decide (0 < (x0.length : Int))) = false ->
 R (.ret (A.zs ([] : List (List D)))) [])) /\
 (∀ (x1 : List (List D)) (x2 : Int) , I0_1 x1 x2 ->
 (tB (decide (x2 < (x0.length : Int))) = true ->
 tB (decide (0 <= x2)) = true /\
 tB (((gAt x0 x2).length : Int) == 11) = true /\
 ∀ _ : Nat -> Nat, ∃ R', Holds Tryz.prog 80 [A.agg (gAt x0 x2)] [] R' /\
 (∀ v H', R' (.ret v) H' -> ∃ x3 : List D, v = A.agg x3 /\ H' = [] /\
 tB ((x3.length : Int) == 11) = true /\
 Rf.isK .slc ((gAt x0 x2).getD 5 D0) = true /\
 ∀ _ : Nat -> Nat, ∃ R', Holds Tryz.prog 107 [A.d (D.slc (Rf.dlst ((gAt x0 x2).getD 5 D0))), A.fn 79 [], A.fn 80 []] [] R' /\
 (∀ v H', R' (.ret v) H' -> ∃ x4 : List (List D), v = A.d (D.slc x4) /\ H' = [] /\
 Rf.isK .slc ((gAt x0 x2).getD 6 D0) = true /\
 ∀ _ : Nat -> Nat, ∃ R', Holds Tryz.prog 78 [A.d (D.slc (Rf.dlst ((gAt x0 x2).getD 6 D0))), A.fn 79 [], A.fn 80 []] [] R' /\
 (∀ v H', R' (.ret v) H' -> ∃ x5 : List (List D), v = A.d (D.slc x5) /\ H' = [] /\
 Rf.isK .slc (x3.getD 8 D0) = true /\
 ∃ x6 : List (List D), (∀ _ : Nat -> Nat, Holds Tryz.prog 69 [A.d (D.slc (Rf.dlst (x3.getD 8 D0)))] [] (Zcn [] (A.d (D.slc x6)))) /\
 Rf.isK .slc (x3.getD 7 D0) = true /\
 ∃ x7 : List (List D), (∀ _ : Nat -> Nat, Holds Tryz.prog 69 [A.d (D.slc (Rf.dlst (x3.getD 7 D0)))] [] (Zcn [] (A.d (D.slc x7)))) /\
 tB (decide ((((x1.length : Int) + ([[x3.getD 0 D0, x3.getD 1 D0, x3.getD 2 D0, x3.getD 3 D0, x3.getD 4 D0, D.slc x4, D.slc x5, D.slc x7, D.slc x6, x3.getD 9 D0, x3.getD 10 D0]].length : Int)) * 184) <= 140737488355328)) = true /\
 tB (decide (((x1.length : Int) + ([[x3.getD 0 D0, x3.getD 1 D0, x3.getD 2 D0, x3.getD 3 D0, x3.getD 4 D0, D.slc x4, D.slc x5, D.slc x7, D.slc x6, x3.getD 9 D0, x3.getD 10 D0]].length : Int)) <= 1099511627776)) = true /\
 tB (decide ((-9223372036854775808) <= (x2 + 1))) = true /\
 tB (decide ((x2 + 1) <= 9223372036854775807)) = true /\
 I0_1 (x1 ++ [[x3.getD 0 D0, x3.getD 1 D0, x3.getD 2 D0, x3.getD 3 D0, x3.getD 4 D0, D.slc x4, D.slc x5, D.slc x7, D.slc x6, x3.getD 9 D0, x3.getD 10 D0]]) (x2 + 1) /\ M0_1 (x1 ++ [[x3.getD 0 D0, x3.getD 1 D0, x3.getD 2 D0, x3.getD 3 D0, x3.getD 4 D0, D.slc x4, D.slc x5, D.slc x7, D.slc x6, x3.getD 9 D0, x3.getD 10 D0]]) (x2 + 1) < M0_1 x1 x2) /\
 PN R R') /\
 PN R R') /\
 PN R R') /\
 (tB (decide (x2 < (x0.length : Int))) = false ->
 R (.ret (A.d (D.slc x1))) [])) /\
 True) :
 Holds Tryz.prog 78 [A.d (D.slc x0), A.fn 79 [], A.fn 80 []] [] R :=
 walk (c := ⟨Tryz.prog, 46, true, [0, 1, 2, 6, 7, 9, 10, 11, 12, 13, 14]⟩) (op := { com := [(10, (14, 5000)), (10, (9, 5000)), (10, (10, 5000))] }) (fn := Tryz.f78) (args := [.c (.o1 .cl (.var 0)), .fn 79 [], .fn 80 []]) (K := []) (nv := 1) (depth := 6) (up := upOf []) (ρ := Zbi [.l x0])
  rfl rfl rfl rfl rfl (by decide) (by decide) (by decide) (by decide) rfl (by simp [Zac, RRef.den, upOf]) (T_of (by kernel_rfl) h)
theorem Z2r {R : RT} (x0 : List (List D)) (h : ∃ (I0_0 : Prop) (M0_0 : Nat), ∃ (I0_1 : List (List D) -> Int -> Prop) (M0_1 : List (List D) -> Int -> Nat), I0_0 /\
 (I0_0 ->
 (tB (decide (0 < (x0.length : Int))) = true ->
 tB (((gAt x0 0).length : Int) == 9) = true /\
 ∀ _ : Nat -> Nat, ∃ R', Holds Tryz.prog 74 [A.agg (gAt x0 0), A.fn 79 [], A.fn 80 []] [] R' /\
 (∀ v H', R' (.ret v) H' -> ∃ x1 : List D, v = A.agg x1 /\ H' = [] /\
 tB ((x1.length : Int) == 9) = true /\
 (Za2 9 [x1]) = true /\
 tB (decide (((0 + ([x1].length : Int)) * 144) <= 140737488355328)) = true /\
 tB (decide ((0 + ([x1].length : Int)) <= 1099511627776)) = true /\
 I0_1 [x1] 1 /\ M0_1 [x1] 1 < M0_0) /\
 PN R R') /\
 (tB (decide (0 < (x0.length : Int))) = false ->
 R (.ret (A.zs ([] : List (List D)))) [])) /\
 (∀ (x1 : List (List D)) (x2 : Int) , I0_1 x1 x2 ->
 (tB (decide (x2 < (x0.length : Int))) = true ->
 tB (decide (0 <= x2)) = true /\
 tB (((gAt x0 x2).length : Int) == 9) = true /\
 ∀ _ : Nat -> Nat, ∃ R', Holds Tryz.prog 74 [A.agg (gAt x0 x2), A.fn 79 [], A.fn 80 []] [] R' /\
 (∀ v H', R' (.ret v) H' -> ∃ x3 : List D, v = A.agg x3 /\ H' = [] /\
 tB ((x3.length : Int) == 9) = true /\
 (Za2 9 [x3]) = true /\
 tB (decide ((((x1.length : Int) + ([x3].length : Int)) * 144) <= 140737488355328)) = true /\
 tB (decide (((x1.length : Int) + ([x3].length : Int)) <= 1099511627776)) = true /\
 tB (decide ((-9223372036854775808) <= (x2 + 1))) = true /\
 tB (decide ((x2 + 1) <= 9223372036854775807)) = true /\
 I0_1 (x1 ++ [x3]) (x2 + 1) /\ M0_1 (x1 ++ [x3]) (x2 + 1) < M0_1 x1 x2) /\
 PN R R') /\
 (tB (decide (x2 < (x0.length : Int))) = false ->
 R (.ret (A.d (D.slc x1))) [])) /\
 True) :
 Holds Tryz.prog 107 [A.d (D.slc x0), A.fn 79 [], A.fn 80 []] [] R :=
 walk (c := ⟨Tryz.prog, 25, true, [0, 1, 2, 6, 7, 9, 10, 11, 12, 13]⟩) (op := { com := [(6, (13, 5000)), (6, (9, 5000))] }) (fn := Tryz.f107) (args := [.c (.o1 .cl (.var 0)), .fn 79 [], .fn 80 []]) (K := []) (nv := 1) (depth := 5) (up := upOf []) (ρ := Zbi [.l x0])
  rfl rfl rfl rfl rfl (by decide) (by decide) (by decide) (by decide) rfl (by simp [Zac, RRef.den, upOf]) (T_of (by kernel_rfl) h)
theorem w74p {R : RT} (x0 : List D) (h : tB ((x0.length : Int) == 9) = true /\
 ∀ _ : Nat -> Nat, ∃ R', Holds Tryz.prog 82 [A.agg x0] [] R' /\
 (∀ v H', R' (.ret v) H' -> ∃ x1 : List D, v = A.agg x1 /\ H' = [] /\
 tB ((x1.length : Int) == 9) = true /\
 Rf.isK .slc (x0.getD 5 D0) = true /\
 ∀ _ : Nat -> Nat, ∃ R', Holds Tryz.prog 107 [A.d (D.slc (Rf.dlst (x0.getD 5 D0))), A.fn 82 [], A.fn 83 []] [] R' /\
 (∀ v H', R' (.ret v) H' -> ∃ x2 : List (List D), v = A.d (D.slc x2) /\ H' = [] /\
 Rf.isK .slc (x0.getD 6 D0) = true /\
 ∀ _ : Nat -> Nat, ∃ R', Holds Tryz.prog 78 [A.d (D.slc (Rf.dlst (x0.getD 6 D0))), A.fn 82 [], A.fn 83 []] [] R' /\
 (∀ v H', R' (.ret v) H' -> ∃ x3 : List (List D), v = A.d (D.slc x3) /\ H' = [] /\
 Rf.isK .slc (x1.getD 7 D0) = true /\
 ∀ _ : Nat -> Nat, ∃ R', Holds Tryz.prog 69 [A.d (D.slc (Rf.dlst (x1.getD 7 D0)))] [] R' /\
 (∀ v H', R' (.ret v) H' -> ∃ x4 : List (List D), v = A.d (D.slc x4) /\ H' = [] /\
 R (.ret (A.agg [x1.getD 0 D0, x1.getD 1 D0, x1.getD 2 D0, x1.getD 3 D0, x1.getD 4 D0, D.slc x2, D.slc x3, D.slc x4, x1.getD 8 D0])) []) /\
 PN R R') /\
 PN R R') /\
 PN R R') /\
 PN R R') :
 Holds Tryz.prog 74 [A.agg x0, A.fn 82 [], A.fn 83 []] [] R :=
 walk (c := ⟨Tryz.prog, 28, true, [0, 1, 2, 3, 6, 7]⟩) (op := {}) (fn := Tryz.f74) (args := [.agg (.var 0), .fn 82 [], .fn 83 []]) (K := []) (nv := 1) (depth := 5) (up := upOf []) (ρ := Zbi [.r x0])
  rfl rfl rfl rfl rfl (by decide) (by decide) (by decide) (by decide) rfl (by simp [Zac, RRef.den, upOf]) (T_of (by kernel_rfl) h)
theorem w78p {R : RT} (x0 : List (List D)) (h : ∃ (I0_0 : Prop) (M0_0 : Nat), ∃ (I0_1 : List (List D) -> Int -> Prop) (M0_1 : List (List D) -> Int -> Nat), I0_0 /\
 (I0_0 ->
 (tB (decide (0 < (x0.length : Int))) = true ->
 tB (((gAt x0 0).length : Int) == 11) = true /\
 ∀ _ : Nat -> Nat, ∃ R', Holds Tryz.prog 83 [A.agg (gAt x0 0)] [] R' /\
 (∀ v H', R' (.ret v) H' -> ∃ x1 : List D, v = A.agg x1 /\ H' = [] /\
 tB ((x1.length : Int) == 11) = true /\
 Rf.isK .slc ((gAt x0 0).getD 5 D0) = true /\
 ∀ _ : Nat -> Nat, ∃ R', Holds Tryz.prog 107 [A.d (D.slc (Rf.dlst ((gAt x0 0).getD 5 D0))), A.fn 82 [], A.fn 83 []] [] R' /\
 (∀ v H', R' (.ret v) H' -> ∃ x2 : List (List D), v = A.d (D.slc x2) /\ H' = [] /\
 Rf.isK .slc ((gAt x0 0).getD 6 D0) = true /\
 ∀ _ : Nat -> Nat, ∃ R', Holds Tryz.prog 78 [A.d (D.slc (Rf.dlst ((gAt x0 0).getD 6 D0))), A.fn 82 [], A.fn 83 []] [] R' /\
 (∀ v H', R' (.ret v) H' -> ∃ x3 : List (List D), v = A.d (D.slc x3) /\ H' = [] /\
 Rf.isK .slc (x1.getD 8 D0) = true /\
 ∃ x4 : List (List D), (∀ _ : Nat -> Nat, Holds Tryz.prog 69 [A.d (D.slc (Rf.dlst (x1.getD 8 D0)))] [] (Zcn [] (A.d (D.slc x4)))) /\
 Rf.isK .slc (x1.getD 7 D0) = true /\
 ∃ x5 : List (List D), (∀ _ : Nat -> Nat, Holds Tryz.prog 69 [A.d (D.slc (Rf.dlst (x1.getD 7 D0)))] [] (Zcn [] (A.d (D.slc x5)))) /\
 tB (decide (((0 + ([[x1.getD 0 D0, x1.getD 1 D0, x1.getD 2 D0, x1.getD 3 D0, x1.getD 4 D0, D.slc x2, D.slc x3, D.slc x5, D.slc x4, x1.getD 9 D0, x1.getD 10 D0]].length : Int)) * 184) <= 140737488355328)) = true /\
 tB (decide ((0 + ([[x1.getD 0 D0, x1.getD 1 D0, x1.getD 2 D0, x1.getD 3 D0, x1.getD 4 D0, D.slc x2, D.slc x3, D.slc x5, D.slc x4, x1.getD 9 D0, x1.getD 10 D0]].length : Int)) <= 1099511627776)) = true /\
 I0_1 [[x1.getD 0 D0, x1.getD 1 D0, x1.getD 2 D0, x1.getD 3 D0, x1.getD 4 D0, D.slc x2, D.slc x3, D.slc x5, D.slc x4, x1.getD 9 D0, x1.getD 10 D0]] 1 /\ M0_1 [[x1.getD 0 D0, x1.getD 1 D0, x1.getD 2 D0, x1.getD 3 D0, x1.getD 4 D0, D.slc x2, D.slc x3, D.slc x5, D.slc x4, x1.getD 9 D0, x1.getD 10 D0]] 1 < M0_0) /\
 PN R R') /\
 PN R R') /\
 PN R R') /\
 (tB (decide (0 < (x0.length : Int))) = false ->
 R (.ret (A.zs ([] : List (List D)))) [])) /\
 (∀ (x1 : List (List D)) (x2 : Int) , I0_1 x1 x2 ->
 (tB (decide (x2 < (x0.length : Int))) = true ->
 tB (decide (0 <= x2)) = true /\
 tB (((gAt x0 x2).length : Int) == 11) = true /\
 ∀ _ : Nat -> Nat, ∃ R', Holds Tryz.prog 83 [A.agg (gAt x0 x2)] [] R' /\
 (∀ v H', R' (.ret v) H' -> ∃ x3 : List D, v = A.agg x3 /\ H' = [] /\
 tB ((x3.length : Int) == 11) = true /\
 Rf.isK .slc ((gAt x0 x2).getD 5 D0) = true /\
 ∀ _ : Nat -> Nat, ∃ R', Holds Tryz.prog 107 [A.d (D.slc (Rf.dlst ((gAt x0 x2).getD 5 D0))), A.fn 82 [], A.fn 83 []] [] R' /\
 (∀ v H', R' (.ret v) H' -> ∃ x4 : List (List D), v = A.d (D.slc x4) /\ H' = [] /\
 Rf.isK .slc ((gAt x0 x2).getD 6 D0) = true /\
 ∀ _ : Nat -> Nat, ∃ R', Holds Tryz.prog 78 [A.d (D.slc (Rf.dlst ((gAt x0 x2).getD 6 D0))), A.fn 82 [], A.fn 83 []] [] R' /\
 (∀ v H', R' (.ret v) H' -> ∃ x5 : List (List D), v = A.d (D.slc x5) /\ H' = [] /\
 Rf.isK .slc (x3.getD 8 D0) = true /\
 ∃ x6 : List (List D), (∀ _ : Nat -> Nat, Holds Tryz.prog 69 [A.d (D.slc (Rf.dlst (x3.getD 8 D0)))] [] (Zcn [] (A.d (D.slc x6)))) /\
 Rf.isK .slc (x3.getD 7 D0) = true /\
 ∃ x7 : List (List D), (∀ _ : Nat -> Nat, Holds Tryz.prog 69 [A.d (D.slc (Rf.dlst (x3.getD 7 D0)))] [] (Zcn [] (A.d (D.slc x7)))) /\
 tB (decide ((((x1.length : Int) + ([[x3.getD 0 D0, x3.getD 1 D0, x3.getD 2 D0, x3.getD 3 D0, x3.getD 4 D0, D.slc x4, D.slc x5, D.slc x7, D.slc x6, x3.getD 9 D0, x3.getD 10 D0]].length : Int)) * 184) <= 140737488355328)) = true /\
 tB (decide (((x1.length : Int) + ([[x3.getD 0 D0, x3.getD 1 D0, x3.getD 2 D0, x3.getD 3 D0, x3.getD 4 D0, D.slc x4, D.slc x5, D.slc x7, D.slc x6, x3.getD 9 D0, x3.getD 10 D0]].length : Int)) <= 1099511627776)) = true /\
 tB (decide ((-9223372036854775808) <= (x2 + 1))) = true /\
 tB (decide ((x2 + 1) <= 9223372036854775807)) = true /\
 I0_1 (x1 ++ [[x3.getD 0 D0, x3.getD 1 D0, x3.getD 2 D0, x3.getD 3 D0, x3.getD 4 D0, D.slc x4, D.slc x5, D.slc x7, D.slc x6, x3.getD 9 D0, x3.getD 10 D0]]) (x2 + 1) /\ M0_1 (x1 ++ [[x3.getD 0 D0, x3.getD 1 D0, x3.getD 2 D0, x3.getD 3 D0, x3.getD 4 D0, D.slc x4, D.slc x5, D.slc x7, D.slc x6, x3.getD 9 D0, x3.getD 10 D0]]) (x2 + 1) < M0_1 x1 x2) /\
 PN R R') /\
 PN R R') /\
 PN R R') /\
 (tB (decide (x2 < (x0.length : Int))) = false ->
 R (.ret (A.d (D.slc x1))) [])) /\
 True) :
 Holds Tryz.prog 78 [A.d (D.slc x0), A.fn 82 [], A.fn 83 []] [] R :=
 walk (c := ⟨Tryz.prog, 46, true, [0, 1, 2, 6, 7, 9, 10, 11, 12, 13, 14]⟩) (op := { com := [(10, (14, 5000)), (10, (9, 5000)), (10, (10, 5000))] }) (fn := Tryz.f78) (args := [.c (.o1 .cl (.var 0)), .fn 82 [], .fn 83 []]) (K := []) (nv := 1) (depth := 6) (up := upOf []) (ρ := Zbi [.l x0])
  rfl rfl rfl rfl rfl (by decide) (by decide) (by decide) (by decide) rfl (by simp [Zac, RRef.den, upOf]) (T_of (by kernel_rfl) h)
theorem Z2s {R : RT} (x0 : List (List D)) (h : ∃ (I0_0 : Prop) (M0_0 : Nat), ∃ (I0_1 : List (List D) -> Int -> Prop) (M0_1 : List (List D) -> Int -> Nat), I0_0 /\
 (I0_0 ->
 (tB (decide (0 < (x0.length : Int))) = true ->
 tB (((gAt x0 0).length : Int) == 9) = true /\
 ∀ _ : Nat -> Nat, ∃ R', Holds Tryz.prog 74 [A.agg (gAt x0 0), A.fn 82 [], A.fn 83 []] [] R' /\
 (∀ v H', R' (.ret v) H' -> ∃ x1 : List D, v = A.agg x1 /\ H' = [] /\
 tB ((x1.length : Int) == 9) = true /\
 (Za2 9 [x1]) = true /\
 tB (decide (((0 + ([x1].length : Int)) * 144) <= 140737488355328)) = true /\
 tB (decide ((0 + ([x1].length : Int)) <= 1099511627776)) = true /\
 I0_1 [x1] 1 /\ M0_1 [x1] 1 < M0_0) /\
 PN R R') /\
 (tB (decide (0 < (x0.length : Int))) = false ->
 R (.ret (A.zs ([] : List (List D)))) [])) /\
 (∀ (x1 : List (List D)) (x2 : Int) , I0_1 x1 x2 ->
 (tB (decide (x2 < (x0.length : Int))) = true ->
 tB (decide (0 <= x2)) = true /\
 tB (((gAt x0 x2).length : Int) == 9) = true /\
 ∀ _ : Nat -> Nat, ∃ R', Holds Tryz.prog 74 [A.agg (gAt x0 x2), A.fn 82 [], A.fn 83 []] [] R' /\
 (∀ v H', R' (.ret v) H' -> ∃ x3 : List D, v = A.agg x3 /\ H' = [] /\
 tB ((x3.length : Int) == 9) = true /\
 (Za2 9 [x3]) = true /\
 tB (decide ((((x1.length : Int) + ([x3].length : Int)) * 144) <= 140737488355328)) = true /\
 tB (decide (((x1.length : Int) + ([x3].length : Int)) <= 1099511627776)) = true /\
 tB (decide ((-9223372036854775808) <= (x2 + 1))) = true /\
 tB (decide ((x2 + 1) <= 9223372036854775807)) = true /\
 I0_1 (x1 ++ [x3]) (x2 + 1) /\ M0_1 (x1 ++ [x3]) (x2 + 1) < M0_1 x1 x2) /\
 PN R R') /\
 (tB (decide (x2 < (x0.length : Int))) = false ->
 R (.ret (A.d (D.slc x1))) [])) /\
 True) :
 Holds Tryz.prog 107 [A.d (D.slc x0), A.fn 82 [], A.fn 83 []] [] R :=
 walk (c := ⟨Tryz.prog, 25, true, [0, 1, 2, 6, 7, 9, 10, 11, 12, 13]⟩) (op := { com := [(6, (13, 5000)), (6, (9, 5000))] }) (fn := Tryz.f107) (args := [.c (.o1 .cl (.var 0)), .fn 82 [], .fn 83 []]) (K := []) (nv := 1) (depth := 5) (up := upOf []) (ρ := Zbi [.l x0])
  rfl rfl rfl rfl rfl (by decide) (by decide) (by decide) (by decide) rfl (by simp [Zac, RRef.den, upOf]) (T_of (by kernel_rfl) h)
theorem w79 {R : RT} (x0 : List D) (h : tB ((x0.length : Int) == 9) = true /\
 R (.ret (A.agg [x0.getD 0 D0, x0.getD 1 D0, x0.getD 2 D0, x0.getD 3 D0, x0.getD 4 D0, x0.getD 5 D0, x0.getD 6 D0, x0.getD 7 D0, D.lit (.int .i64 0)])) []) :
 Holds Tryz.prog 79 [A.agg x0] [] R :=
 walk (c := ⟨Tryz.prog, 5, true, [0, 1, 2]⟩) (op := {}) (fn := Tryz.f79) (args := [.agg (.var 0)]) (K := []) (nv := 1) (depth := 3) (up := upOf []) (ρ := Zbi [.r x0])
  rfl rfl rfl rfl rfl (by decide) (by decide) (by decide) (by decide) rfl (by simp [Zac, RRef.den, upOf]) (T_of (by kernel_rfl) h)
theorem w80 {R : RT} (x0 : List D) (h : tB ((x0.length : Int) == 11) = true /\
 R (.ret (A.agg [x0.getD 0 D0, x0.getD 1 D0, x0.getD 2 D0, x0.getD 3 D0, x0.getD 4 D0, x0.getD 5 D0, x0.getD 6 D0, x0.getD 7 D0, x0.getD 8 D0, x0.getD 9 D0, D.lit (.int .i64 0)])) []) :
 Holds Tryz.prog 80 [A.agg x0] [] R :=
 walk (c := ⟨Tryz.prog, 5, true, [0, 1, 2]⟩) (op := {}) (fn := Tryz.f80) (args := [.agg (.var 0)]) (K := []) (nv := 1) (depth := 3) (up := upOf []) (ρ := Zbi [.r x0])
  rfl rfl rfl rfl rfl (by decide) (by decide) (by decide) (by decide) rfl (by simp [Zac, RRef.den, upOf]) (T_of (by kernel_rfl) h)
theorem w82 {R : RT} (x0 : List D) (h : tB ((x0.length : Int) == 9) = true /\
 R (.ret (A.agg [x0.getD 0 D0, x0.getD 1 D0, x0.getD 2 D0, x0.getD 3 D0, x0.getD 4 D0, x0.getD 5 D0, x0.getD 6 D0, (D.slc ([] : List (List D))), x0.getD 8 D0])) []) :
 Holds Tryz.prog 82 [A.agg x0] [] R :=
 walk (c := ⟨Tryz.prog, 5, true, [0, 1, 2]⟩) (op := {}) (fn := Tryz.f82) (args := [.agg (.var 0)]) (K := []) (nv := 1) (depth := 3) (up := upOf []) (ρ := Zbi [.r x0])
  rfl rfl rfl rfl rfl (by decide) (by decide) (by decide) (by decide) rfl (by simp [Zac, RRef.den, upOf]) (T_of (by kernel_rfl) h)
theorem w83 {R : RT} (x0 : List D) (h : tB ((x0.length : Int) == 11) = true /\
 R (.ret (A.agg [x0.getD 0 D0, x0.getD 1 D0, x0.getD 2 D0, x0.getD 3 D0, x0.getD 4 D0, x0.getD 5 D0, x0.getD 6 D0, (D.slc ([] : List (List D))), (D.slc ([] : List (List D))), (D.lit (Zab ([] : List UInt8))), x0.getD 10 D0])) []) :
 Holds Tryz.prog 83 [A.agg x0] [] R :=
 walk (c := ⟨Tryz.prog, 7, true, [0, 1, 2]⟩) (op := {}) (fn := Tryz.f83) (args := [.agg (.var 0)]) (K := []) (nv := 1) (depth := 3) (up := upOf []) (ρ := Zbi [.r x0])
  rfl rfl rfl rfl rfl (by decide) (by decide) (by decide) (by decide) rfl (by simp [Zac, RRef.den, upOf]) (T_of (by kernel_rfl) h)
theorem w69 {R : RT} (x0 : List (List D)) (h : ∀ x1 : Bool, (x1 = true -> tB ((x0.length : Int) == 0) = true) ->
 (x1 = true ->
 R (.ret (A.zs ([] : List (List D)))) []) /\
 (x1 = false ->
 (Za2 1 x0) = true /\
 tB (decide (((0 + (x0.length : Int)) * 16) <= 140737488355328)) = true /\
 tB (decide ((0 + (x0.length : Int)) <= 1099511627776)) = true /\
 (tB ((x0.length : Int) == 0) = true ->
 R (.ret (A.zs ([] : List (List D)))) []) /\
 (tB ((x0.length : Int) == 0) = false ->
 R (.ret (A.own 1 (([] : List (List D)) ++ x0) ([] : List (List D)))) []))) :
 Holds Tryz.prog 69 [A.d (D.slc x0)] [] R :=
 walk (c := ⟨Tryz.prog, 8, true, [0, 2, 4]⟩) (op := { fresh := [5] }) (fn := Tryz.f69) (args := [.c (.o1 .cl (.var 0))]) (K := []) (nv := 1) (depth := 4) (up := upOf []) (ρ := Zbi [.l x0])
  rfl rfl rfl rfl rfl (by decide) (by decide) (by decide) (by decide) rfl (by simp [Zac, RRef.den, upOf]) (T_of (by kernel_rfl) h)
theorem w81 {R : RT} (x0 : List (List D)) (h : ∀ x1 : Bool, (x1 = true -> tB ((x0.length : Int) == 0) = true) ->
 (x1 = true ->
 R (.ret (A.zs ([] : List (List D)))) []) /\
 (x1 = false ->
 (Za2 3 x0) = true /\
 tB (decide (((0 + (x0.length : Int)) * 40) <= 140737488355328)) = true /\
 tB (decide ((0 + (x0.length : Int)) <= 1099511627776)) = true /\
 (tB ((x0.length : Int) == 0) = true ->
 R (.ret (A.zs ([] : List (List D)))) []) /\
 (tB ((x0.length : Int) == 0) = false ->
 R (.ret (A.own 3 (([] : List (List D)) ++ x0) ([] : List (List D)))) []))) :
 Holds Tryz.prog 81 [A.d (D.slc x0)] [] R :=
 walk (c := ⟨Tryz.prog, 8, true, [0, 2, 4]⟩) (op := { fresh := [5] }) (fn := Tryz.f81) (args := [.c (.o1 .cl (.var 0))]) (K := []) (nv := 1) (depth := 4) (up := upOf []) (ρ := Zbi [.l x0])
  rfl rfl rfl rfl rfl (by decide) (by decide) (by decide) (by decide) rfl (by simp [Zac, RRef.den, upOf]) (T_of (by kernel_rfl) h)
theorem w28 {R : RT} (x0 : List D) (h : tB ((x0.length : Int) == 4) = true /\
 Rf.isK .str (x0.getD 0 D0) = true /\
 Rf.isK .slc (x0.getD 2 D0) = true /\
 ∃ x1 : List (List D), (∀ _ : Nat -> Nat, Holds Tryz.prog 78 [A.d (D.slc (Rf.dlst (x0.getD 2 D0))), A.fn 79 [], A.fn 80 []] [] (Zcn [] (A.d (D.slc x1)))) /\
 Rf.isK .slc (x0.getD 3 D0) = true /\
 ∃ x2 : List (List D), (∀ _ : Nat -> Nat, Holds Tryz.prog 69 [A.d (D.slc (Rf.dlst (x0.getD 3 D0)))] [] (Zcn [] (A.d (D.slc x2)))) /\
 Rf.isK .slc (x0.getD 1 D0) = true /\
 ∃ (I0_0 : Prop) (M0_0 : Nat), ∃ (I0_1 : Int -> List (List D) -> Prop) (M0_1 : Int -> List (List D) -> Nat), I0_0 /\
 (I0_0 ->
 (tB (decide (0 < ((Rf.dlst (x0.getD 1 D0)).length : Int))) = true ->
 tB (((gAt (Rf.dlst (x0.getD 1 D0)) 0).length : Int) == 3) = true /\
 tB (decide (((0 + ([[(gAt (Rf.dlst (x0.getD 1 D0)) 0).getD 0 D0, (gAt (Rf.dlst (x0.getD 1 D0)) 0).getD 1 D0, D.lit (.int .i64 0)]].length : Int)) * 40) <= 140737488355328)) = true /\
 tB (decide ((0 + ([[(gAt (Rf.dlst (x0.getD 1 D0)) 0).getD 0 D0, (gAt (Rf.dlst (x0.getD 1 D0)) 0).getD 1 D0, D.lit (.int .i64 0)]].length : Int)) <= 1099511627776)) = true /\
 I0_1 1 [[(gAt (Rf.dlst (x0.getD 1 D0)) 0).getD 0 D0, (gAt (Rf.dlst (x0.getD 1 D0)) 0).getD 1 D0, D.lit (.int .i64 0)]] /\ M0_1 1 [[(gAt (Rf.dlst (x0.getD 1 D0)) 0).getD 0 D0, (gAt (Rf.dlst (x0.getD 1 D0)) 0).getD 1 D0, D.lit (.int .i64 0)]] < M0_0) /\
 (tB (decide (0 < ((Rf.dlst (x0.getD 1 D0)).length : Int))) = false ->
 R (.ret (A.agg [D.lit (Zab (Rf.dstr (x0.getD 0 D0))), (D.slc ([] : List (List D))), D.slc x1, D.slc x2])) [])) /\
 (∀ (x3 : Int) (x4 : List (List D)) , I0_1 x3 x4 ->
 (tB (decide (x3 < ((Rf.dlst (x0.getD 1 D0)).length : Int))) = true ->
 tB (decide (0 <= x3)) = true /\
 tB (((gAt (Rf.dlst (x0.getD 1 D0)) x3).length : Int) == 3) = true /\
 tB (decide ((((x4.length : Int) + ([[(gAt (Rf.dlst (x0.getD 1 D0)) x3).getD 0 D0, (gAt (Rf.dlst (x0.getD 1 D0)) x3).getD 1 D0, D.lit (.int .i64 0)]].length : Int)) * 40) <= 140737488355328)) = true /\
 tB (decide (((x4.length : Int) + ([[(gAt (Rf.dlst (x0.getD 1 D0)) x3).getD 0 D0, (gAt (Rf.dlst (x0.getD 1 D0)) x3).getD 1 D0, D.lit (.int .i64 0)]].length : Int)) <= 1099511627776)) = true /\
 tB (decide ((-9223372036854775808) <= (x3 + 1))) = true /\
 tB (decide ((x3 + 1) <= 9223372036854775807)) = true /\
 I0_1 (x3 + 1) (x4 ++ [[(gAt (Rf.dlst (x0.getD 1 D0)) x3).getD 0 D0, (gAt (Rf.dlst (x0.getD 1 D0)) x3).getD 1 D0, D.lit (.int .i64 0)]]) /\ M0_1 (x3 + 1) (x4 ++ [[(gAt (Rf.dlst (x0.getD 1 D0)) x3).getD 0 D0, (gAt (Rf.dlst (x0.getD 1 D0)) x3).getD 1 D0, D.lit (.int .i64 0)]]) < M0_1 x3 x4) /\
 (tB (decide (x3 < ((Rf.dlst (x0.getD 1 D0)).length : Int))) = false ->
 R (.ret (A.agg [D.lit (Zab (Rf.dstr (x0.getD 0 D0))), D.slc x4, D.slc x1, D.slc x2])) [])) /\
 True) :
 Holds Tryz.prog 28 [A.agg x0] [] R :=
 walk (c := ⟨Tryz.prog, 31, true, [0, 1, 2, 3, 5, 16, 17, 18, 19]⟩) (op := { com := [(7, (19, 5000)), (7, (5, 5000))] }) (fn := Tryz.f28) (args := [.agg (.var 0)]) (K := []) (nv := 1) (depth := 5) (up := upOf []) (ρ := Zbi [.r x0])
  rfl rfl rfl rfl rfl (by decide) (by decide) (by decide) (by decide) rfl (by simp [Zac, RRef.den, upOf]) (T_of (by kernel_rfl) h)
theorem w29 {R : RT} (x0 : List D) (h : tB ((x0.length : Int) == 4) = true /\
 Rf.isK .str (x0.getD 0 D0) = true /\
 Rf.isK .slc (x0.getD 1 D0) = true /\
 ∃ x1 : List (List D), (∀ _ : Nat -> Nat, Holds Tryz.prog 81 [A.d (D.slc (Rf.dlst (x0.getD 1 D0)))] [] (Zcn [] (A.d (D.slc x1)))) /\
 Rf.isK .slc (x0.getD 2 D0) = true /\
 ∀ _ : Nat -> Nat, ∃ R', Holds Tryz.prog 78 [A.d (D.slc (Rf.dlst (x0.getD 2 D0))), A.fn 82 [], A.fn 83 []] [] R' /\
 (∀ v H', R' (.ret v) H' -> ∃ x2 : List (List D), v = A.d (D.slc x2) /\ H' = [] /\
 R (.ret (A.agg [D.lit (Zab (Rf.dstr (x0.getD 0 D0))), D.slc x1, D.slc x2, (D.slc ([] : List (List D)))])) []) /\
 PN R R') :
 Holds Tryz.prog 29 [A.agg x0] [] R :=
 walk (c := ⟨Tryz.prog, 15, true, [0, 1, 2, 3]⟩) (op := {}) (fn := Tryz.f29) (args := [.agg (.var 0)]) (K := []) (nv := 1) (depth := 4) (up := upOf []) (ρ := Zbi [.r x0])
  rfl rfl rfl rfl rfl (by decide) (by decide) (by decide) (by decide) rfl (by simp [Zac, RRef.den, upOf]) (T_of (by kernel_rfl) h)
theorem w37 {R : RT} (x0 : List D) (h : tB ((x0.length : Int) == 9) = true /\
 ∀ _ : Nat -> Nat, ∃ R', Holds Tryz.prog 74 [A.agg x0, A.fn 79 [], A.fn 80 []] [] R' /\
 (∀ v H', R' (.ret v) H' -> ∃ x1 : List D, v = A.agg x1 /\ H' = [] /\
 tB ((x1.length : Int) == 9) = true /\
 R (.ret (A.agg x1)) []) /\
 PN R R') :
 Holds Tryz.prog 37 [A.agg x0] [] R :=
 walk (c := ⟨Tryz.prog, 5, true, [0, 1, 2]⟩) (op := {}) (fn := Tryz.f37) (args := [.agg (.var 0)]) (K := []) (nv := 1) (depth := 3) (up := upOf []) (ρ := Zbi [.r x0])
  rfl rfl rfl rfl rfl (by decide) (by decide) (by decide) (by decide) rfl (by simp [Zac, RRef.den, upOf]) (T_of (by kernel_rfl) h)
end Go.Sy
end
section
open Go Go.Proofs Go.Ab Go.Rf
set_option maxRecDepth 1000000
set_option maxHeartbeats 2000000
set_option linter.unusedVariables false
namespace Go.Sy
theorem w35 {R : RT} (x0 : List D) (h : tB ((x0.length : Int) == 4) = true /\
 Rf.isK .slc (x0.getD 3 D0) = true /\
 Rf.isK .slc (x0.getD 2 D0) = true /\
 Rf.isK .str (x0.getD 0 D0) = true /\
 ∀ _ : Nat -> Nat, ∃ R', Holds Tryz.prog 88 [A.d (D.slc (Rf.dlst (x0.getD 2 D0))), A.d (D.lit (.bool true)), A.d (D.lit (.bool false))] [] R' /\
 (∀ v H', R' (.ret v) H' -> ∃ x1 : List (List D), v = A.d (D.slc x1) /\ H' = [] /\
 (Za2 1 (Rf.dlst (x0.getD 3 D0))) = true /\
 tB (decide (((0 + ((Rf.dlst (x0.getD 3 D0)).length : Int)) * 16) <= 140737488355328)) = true /\
 tB (decide ((0 + ((Rf.dlst (x0.getD 3 D0)).length : Int)) <= 1099511627776)) = true /\
 Rf.isK .slc (x0.getD 1 D0) = true /\
 ∃ (I0_0 : Prop) (M0_0 : Nat), ∃ (I0_1 : Int -> List (List D) -> Prop) (M0_1 : Int -> List (List D) -> Nat), I0_0 /\
 (I0_0 ->
 (tB (decide (0 < ((Rf.dlst (x0.getD 1 D0)).length : Int))) = true ->
 tB (((gAt (Rf.dlst (x0.getD 1 D0)) 0).length : Int) == 3) = true /\
 Rf.isK .str ((gAt (Rf.dlst (x0.getD 1 D0)) 0).getD 0 D0) = true /\
 Rf.isK .str ((gAt (Rf.dlst (x0.getD 1 D0)) 0).getD 1 D0) = true /\
 tB (decide (((0 + ([[D.lit (Zab (Rf.dstr ((gAt (Rf.dlst (x0.getD 1 D0)) 0).getD 0 D0))), D.lit (Zab (Rf.dstr ((gAt (Rf.dlst (x0.getD 1 D0)) 0).getD 1 D0))), D.lit (.int .i64 0)]].length : Int)) * 40) <= 140737488355328)) = true /\
 tB (decide ((0 + ([[D.lit (Zab (Rf.dstr ((gAt (Rf.dlst (x0.getD 1 D0)) 0).getD 0 D0))), D.lit (Zab (Rf.dstr ((gAt (Rf.dlst (x0.getD 1 D0)) 0).getD 1 D0))), D.lit (.int .i64 0)]].length : Int)) <= 1099511627776)) = true /\
 I0_1 1 [[D.lit (Zab (Rf.dstr ((gAt (Rf.dlst (x0.getD 1 D0)) 0).getD 0 D0))), D.lit (Zab (Rf.dstr ((gAt (Rf.dlst (x0.getD 1 D0)) 0).getD 1 D0))), D.lit (.int .i64 0)]] /\ M0_1 1 [[D.lit (Zab (Rf.dstr ((gAt (Rf.dlst (x0.getD 1 D0)) 0).getD 0 D0))), D.lit (Zab (Rf.dstr ((gAt (Rf.dlst (x0.getD 1 D0)) 0).getD 1 D0))), D.lit (.int .i64 0)]] < M0_0) /\
 (tB (decide (0 < ((Rf.dlst (x0.getD 1 D0)).length : Int))) = false ->
 R (.ret (A.agg [D.lit (Zab (Rf.dstr (x0.getD 0 D0))), (D.slc ([] : List (List D))), D.slc x1, (D.slc (([] : List (List D)) ++ (Rf.dlst (x0.getD 3 D0))))])) [])) /\
 (∀ (x2 : Int) (x3 : List (List D)) , I0_1 x2 x3 ->
 (tB (decide (x2 < ((Rf.dlst (x0.getD 1 D0)).length : Int))) = true ->
 tB (decide (0 <= x2)) = true /\
 tB (((gAt (Rf.dlst (x0.getD 1 D0)) x2).length : Int) == 3) = true /\
 Rf.isK .str ((gAt (Rf.dlst (x0.getD 1 D0)) x2).getD 0 D0) = true /\
 Rf.isK .str ((gAt (Rf.dlst (x0.getD 1 D0)) x2).getD 1 D0) = true /\
 tB (decide ((((x3.length : Int) + ([[D.lit (Zab (Rf.dstr ((gAt (Rf.dlst (x0.getD 1 D0)) x2).getD 0 D0))), D.lit (Zab (Rf.dstr ((gAt (Rf.dlst (x0.getD 1 D0)) x2).getD 1 D0))), D.lit (.int .i64 0)]].length : Int)) * 40) <= 140737488355328)) = true /\
 tB (decide (((x3.length : Int) + ([[D.lit (Zab (Rf.dstr ((gAt (Rf.dlst (x0.getD 1 D0)) x2).getD 0 D0))), D.lit (Zab (Rf.dstr ((gAt (Rf.dlst (x0.getD 1 D0)) x2).getD 1 D0))), D.lit (.int .i64 0)]].length : Int)) <= 1099511627776)) = true /\
 tB (decide ((-9223372036854775808) <= (x2 + 1))) = true /\
 tB (decide ((x2 + 1) <= 9223372036854775807)) = true /\
 I0_1 (x2 + 1) (x3 ++ [[D.lit (Zab (Rf.dstr ((gAt (Rf.dlst (x0.getD 1 D0)) x2).getD 0 D0))), D.lit (Zab (Rf.dstr ((gAt (Rf.dlst (x0.getD 1 D0)) x2).getD 1 D0))), D.lit (.int .i64 0)]]) /\ M0_1 (x2 + 1) (x3 ++ [[D.lit (Zab (Rf.dstr ((gAt (Rf.dlst (x0.getD 1 D0)) x2).getD 0 D0))), D.lit (Zab (Rf.dstr ((gAt (Rf.dlst (x0.getD 1 D0)) x2).getD 1 D0))), D.lit (.int .i64 0)]]) < M0_1 x2 x3) /\
 (tB (decide (x2 < ((Rf.dlst (x0.getD 1 D0)).length : Int))) = false ->
 R (.ret (A.agg [D.lit (Zab (Rf.dstr (x0.getD 0 D0))), D.slc x3, D.slc x1, (D.slc (([] : List (List D)) ++ (Rf.dlst (x0.getD 3 D0))))])) [])) /\
 True) /\
 PN R R') :
 Holds Tryz.prog 35 [A.agg x0] [] R :=
 walk (c := ⟨Tryz.prog, 35, true, [0, 1, 2, 3, 5, 17, 18, 19, 20]⟩) (op := { lat := [1], com := [(6, (20, 5000)), (6, (5, 5000))] }) (fn := Tryz.f35) (args := [.agg (.var 0)]) (K := []) (nv := 1) (depth := 6) (up := upOf []) (ρ := Zbi [.r x0])
  rfl rfl rfl rfl rfl (by decide) (by decide) (by decide) (by decide) rfl (by simp [Zac, RRef.den, upOf]) (T_of (by kernel_rfl) h)
theorem w38 {R : RT} (x0 : List D) (h : tB ((x0.length : Int) == 9) = true /\
 ∀ _ : Nat -> Nat, ∃ R', Holds Tryz.prog 90 [A.agg x0, A.d (D.lit (.bool true)), A.d (D.lit (.bool false))] [] R' /\
 (∀ v H', R' (.ret v) H' -> ∃ x1 : List D, v = A.agg x1 /\ H' = [] /\
 tB ((x1.length : Int) == 9) = true /\
 R (.ret (A.agg x1)) []) /\
 PN R R') :
 Holds Tryz.prog 38 [A.agg x0] [] R :=
 walk (c := ⟨Tryz.prog, 5, true, [0, 1, 2]⟩) (op := {}) (fn := Tryz.f38) (args := [.agg (.var 0)]) (K := []) (nv := 1) (depth := 3) (up := upOf []) (ρ := Zbi [.r x0])
  rfl rfl rfl rfl rfl (by decide) (by decide) (by decide) (by decide) rfl (by simp [Zac, RRef.den, upOf]) (T_of (by kernel_rfl) h)
theorem w39 {R : RT} (x0 : List D) (h : tB ((x0.length : Int) == 4) = true /\
 Rf.isK .slc (x0.getD 2 D0) = true /\
 Rf.isK .slc (x0.getD 1 D0) = true /\
 (Za2 3 (Rf.dlst (x0.getD 1 D0))) = true /\
 tB (decide (((0 + ((Rf.dlst (x0.getD 1 D0)).length : Int)) * 40) <= 140737488355328)) = true /\
 tB (decide ((0 + ((Rf.dlst (x0.getD 1 D0)).length : Int)) <= 1099511627776)) = true /\
 Rf.isK .str (x0.getD 0 D0) = true /\
 ∀ _ : Nat -> Nat, ∃ R', Holds Tryz.prog 88 [A.d (D.slc (Rf.dlst (x0.getD 2 D0))), A.d (D.lit (.bool false)), A.d (D.lit (.bool true))] [] R' /\
 (∀ v H', R' (.ret v) H' -> ∃ x1 : List (List D), v = A.d (D.slc x1) /\ H' = [] /\
 R (.ret (A.agg [D.lit (Zab (Rf.dstr (x0.getD 0 D0))), (D.slc (([] : List (List D)) ++ (Rf.dlst (x0.getD 1 D0)))), D.slc x1, (D.slc ([] : List (List D)))])) []) /\
 PN R R') :
 Holds Tryz.prog 39 [A.agg x0] [] R :=
 walk (c := ⟨Tryz.prog, 13, true, [0, 1, 2]⟩) (op := { lat := [1] }) (fn := Tryz.f39) (args := [.agg (.var 0)]) (K := []) (nv := 1) (depth := 4) (up := upOf []) (ρ := Zbi [.r x0])
  rfl rfl rfl rfl rfl (by decide) (by decide) (by decide) (by decide) rfl (by simp [Zac, RRef.den, upOf]) (T_of (by kernel_rfl) h)
theorem w88s {R : RT} (x0 : List (List D)) (h : ∃ (I0_0 : Prop) (M0_0 : Nat), ∃ (I0_1 : List (List D) -> Int -> Prop) (M0_1 : List (List D) -> Int -> Nat), I0_0 /\
 (I0_0 ->
 (tB (decide (0 < (x0.length : Int))) = true ->
 tB (((gAt x0 0).length : Int) == 11) = true /\
 Rf.isK .slc ((gAt x0 0).getD 8 D0) = true /\
 (Za2 1 (Rf.dlst ((gAt x0 0).getD 8 D0))) = true /\
 tB (decide (((0 + ((Rf.dlst ((gAt x0 0).getD 8 D0)).length : Int)) * 16) <= 140737488355328)) = true /\
 tB (decide ((0 + ((Rf.dlst ((gAt x0 0).getD 8 D0)).length : Int)) <= 1099511627776)) = true /\
 Rf.isK .slc ((gAt x0 0).getD 7 D0) = true /\
 (Za2 1 (Rf.dlst ((gAt x0 0).getD 7 D0))) = true /\
 tB (decide (((0 + ((Rf.dlst ((gAt x0 0).getD 7 D0)).length : Int)) * 16) <= 140737488355328)) = true /\
 tB (decide ((0 + ((Rf.dlst ((gAt x0 0).getD 7 D0)).length : Int)) <= 1099511627776)) = true /\
 Rf.isK .slc ((gAt x0 0).getD 5 D0) = true /\
 ∃ (I1_0 : Prop) (M1_0 : Nat), ∃ (I1_1 : Int -> List (List D) -> Prop) (M1_1 : Int -> List (List D) -> Nat), I1_0 /\
 (I1_0 ->
 (tB (decide (0 < ((Rf.dlst ((gAt x0 0).getD 5 D0)).length : Int))) = true ->
 tB (((gAt (Rf.dlst ((gAt x0 0).getD 5 D0)) 0).length : Int) == 9) = true /\
 ∀ _ : Nat -> Nat, ∃ R', Holds Tryz.prog 90 [A.agg (gAt (Rf.dlst ((gAt x0 0).getD 5 D0)) 0), A.d (D.lit (.bool true)), A.d (D.lit (.bool false))] [] R' /\
 (∀ v H', R' (.ret v) H' -> ∃ x1 : List D, v = A.agg x1 /\ H' = [] /\
 tB ((x1.length : Int) == 9) = true /\
 (Za2 9 [x1]) = true /\
 tB (decide (((0 + ([x1].length : Int)) * 144) <= 140737488355328)) = true /\
 tB (decide ((0 + ([x1].length : Int)) <= 1099511627776)) = true /\
 I1_1 1 [x1] /\ M1_1 1 [x1] < M1_0) /\
 PN R R') /\
 (tB (decide (0 < ((Rf.dlst ((gAt x0 0).getD 5 D0)).length : Int))) = false ->
 Rf.isK .slc ((gAt x0 0).getD 6 D0) = true /\
 ∀ _ : Nat -> Nat, ∃ R', Holds Tryz.prog 88 [A.d (D.slc (Rf.dlst ((gAt x0 0).getD 6 D0))), A.d (D.lit (.bool true)), A.d (D.lit (.bool false))] [] R' /\
 (∀ v H', R' (.ret v) H' -> ∃ x1 : List (List D), v = A.d (D.slc x1) /\ H' = [] /\
 tB (decide (((0 + ([[(gAt x0 0).getD 0 D0, (gAt x0 0).getD 1 D0, (gAt x0 0).getD 2 D0, (gAt x0 0).getD 3 D0, (gAt x0 0).getD 4 D0, (D.slc ([] : List (List D))), D.slc x1, (D.slc (([] : List (List D)) ++ (Rf.dlst ((gAt x0 0).getD 7 D0)))), (D.slc (([] : List (List D)) ++ (Rf.dlst ((gAt x0 0).getD 8 D0)))), (gAt x0 0).getD 9 D0, D.lit (.int .i64 0)]].length : Int)) * 184) <= 140737488355328)) = true /\
 tB (decide ((0 + ([[(gAt x0 0).getD 0 D0, (gAt x0 0).getD 1 D0, (gAt x0 0).getD 2 D0, (gAt x0 0).getD 3 D0, (gAt x0 0).getD 4 D0, (D.slc ([] : List (List D))), D.slc x1, (D.slc (([] : List (List D)) ++ (Rf.dlst ((gAt x0 0).getD 7 D0)))), (D.slc (([] : List (List D)) ++ (Rf.dlst ((gAt x0 0).getD 8 D0)))), (gAt x0 0).getD 9 D0, D.lit (.int .i64 0)]].length : Int)) <= 1099511627776)) = true /\
 I0_1 [[(gAt x0 0).getD 0 D0, (gAt x0 0).getD 1 D0, (gAt x0 0).getD 2 D0, (gAt x0 0).getD 3 D0, (gAt x0 0).getD 4 D0, (D.slc ([] : List (List D))), D.slc x1, (D.slc (([] : List (List D)) ++ (Rf.dlst ((gAt x0 0).getD 7 D0)))), (D.slc (([] : List (List D)) ++ (Rf.dlst ((gAt x0 0).getD 8 D0)))), (gAt x0 0).getD 9 D0, D.lit (.int .i64 0)]] 1 /\ M0_1 [[(gAt x0 0).getD 0 D0, (gAt x0 0).getD 1 D0, (gAt x0 0).getD 2 D0, (gAt x0 0).getD 3 D0, (gAt x0 0).getD 4 D0, (D.slc ([] : List (List D))), D.slc x1, (D.slc (([] : List (List D)) ++ (Rf.dlst ((gAt x0 0).getD 7 D0)))), (D.slc (([] : List (List D)) ++ (Rf.dlst ((gAt x0 0).getD 8 D0)))), (gAt x0 0).getD 9 D0, D.lit (.int .i64 0)]] 1 < M0_0) /\
 PN R R')) /\
 (∀ (x1 : Int) (x2 : List (List D)) , I1_1 x1 x2 ->
 (tB (decide (x1 < ((Rf.dlst ((gAt x0 0).getD 5 D0)).length : Int))) = true ->
 tB (decide (0 <= x1)) = true /\
 tB (((gAt (Rf.dlst ((gAt x0 0).getD 5 D0)) x1).length : Int) == 9) = true /\
 ∀ _ : Nat -> Nat, ∃ R', Holds Tryz.prog 90 [A.agg (gAt (Rf.dlst ((gAt x0 0).getD 5 D0)) x1), A.d (D.lit (.bool true)), A.d (D.lit (.bool false))] [] R' /\
 (∀ v H', R' (.ret v) H' -> ∃ x3 : List D, v = A.agg x3 /\ H' = [] /\
 tB ((x3.length : Int) == 9) = true /\
 (Za2 9 [x3]) = true /\
 tB (decide ((((x2.length : Int) + ([x3].length : Int)) * 144) <= 140737488355328)) = true /\
 tB (decide (((x2.length : Int) + ([x3].length : Int)) <= 1099511627776)) = true /\
 tB (decide ((-9223372036854775808) <= (x1 + 1))) = true /\
 tB (decide ((x1 + 1) <= 9223372036854775807)) = true /\
 I1_1 (x1 + 1) (x2 ++ [x3]) /\ M1_1 (x1 + 1) (x2 ++ [x3]) < M1_1 x1 x2) /\
 PN R R') /\
 (tB (decide (x1 < ((Rf.dlst ((gAt x0 0).getD 5 D0)).length : Int))) = false ->
 Rf.isK .slc ((gAt x0 0).getD 6 D0) = true /\
 ∀ _ : Nat -> Nat, ∃ R', Holds Tryz.prog 88 [A.d (D.slc (Rf.dlst ((gAt x0 0).getD 6 D0))), A.d (D.lit (.bool true)), A.d (D.lit (.bool false))] [] R' /\
 (∀ v H', R' (.ret v) H' -> ∃ x3 : List (List D), v = A.d (D.slc x3) /\ H' = [] /\
 tB (decide (((0 + ([[(gAt x0 0).getD 0 D0, (gAt x0 0).getD 1 D0, (gAt x0 0).getD 2 D0, (gAt x0 0).getD 3 D0, (gAt x0 0).getD 4 D0, D.slc x2, D.slc x3, (D.slc (([] : List (List D)) ++ (Rf.dlst ((gAt x0 0).getD 7 D0)))), (D.slc (([] : List (List D)) ++ (Rf.dlst ((gAt x0 0).getD 8 D0)))), (gAt x0 0).getD 9 D0, D.lit (.int .i64 0)]].length : Int)) * 184) <= 140737488355328)) = true /\
 tB (decide ((0 + ([[(gAt x0 0).getD 0 D0, (gAt x0 0).getD 1 D0, (gAt x0 0).getD 2 D0, (gAt x0 0).getD 3 D0, (gAt x0 0).getD 4 D0, D.slc x2, D.slc x3, (D.slc (([] : List (List D)) ++ (Rf.dlst ((gAt x0 0).getD 7 D0)))), (D.slc (([] : List (List D)) ++ (Rf.dlst ((gAt x0 0).getD 8 D0)))), (gAt x0 0).getD 9 D0, D.lit (.int .i64 0)]].length : Int)) <= 1099511627776)) = true /\
 I0_1 [[(gAt x0 0).getD 0 D0, (gAt x0 0).getD 1 D0, (gAt x0 0).getD 2 D0, (gAt x0 0).getD 3 D0, (gAt x0 0).getD 4 D0, D.slc x2, D.slc x3, (D.slc (([] : List (List D)) ++ (Rf.dlst ((gAt x0 0).getD 7 D0)))), (D.slc (([] : List (List D)) ++ (Rf.dlst ((gAt x0 0).getD 8 D0)))), (gAt x0 0).getD 9 D0, D.lit (.int .i64 0)]] 1 /\ M0_1 [[(gAt x0 0).getD 0 D0, (gAt x0 0).getD 1 D0, (gAt x0 0).getD 2 D0, (gAt x0 0).getD 3 D0, (gAt x0 0).getD 4 D0, D.slc x2, D.slc x3, (D.slc (([] : List (List D)) ++ (Rf.dlst ((gAt x0 0).getD 7 D0)))), (D.slc (([] : List (List D)) ++ (Rf.dlst ((gAt x0 0).getD 8 D0)))), (gAt x0 0).getD 9 D0, D.lit (.int .i64 0)]] 1 < M0_0) /\
 PN R R')) /\
 True) /\
 (tB (decide (0 < (x0.length : Int))) = false ->
 R (.ret (A.zs ([] : List (List D)))) [])) /\
 (∀ (x1 : List (List D)) (x2 : Int) , I0_1 x1 x2 ->
 (tB (decide (x2 < (x0.length : Int))) = true ->
 tB (decide (0 <= x2)) = true /\
 tB (((gAt x0 x2).length : Int) == 11) = true /\
 Rf.isK .slc ((gAt x0 x2).getD 8 D0) = true /\
 (Za2 1 (Rf.dlst ((gAt x0 x2).getD 8 D0))) = true /\
 tB (decide (((0 + ((Rf.dlst ((gAt x0 x2).getD 8 D0)).length : Int)) * 16) <= 140737488355328)) = true /\
 tB (decide ((0 + ((Rf.dlst ((gAt x0 x2).getD 8 D0)).length : Int)) <= 1099511627776)) = true /\
 Rf.isK .slc ((gAt x0 x2).getD 7 D0) = true /\
 (Za2 1 (Rf.dlst ((gAt x0 x2).getD 7 D0))) = true /\
 tB (decide (((0 + ((Rf.dlst ((gAt x0 x2).getD 7 D0)).length : Int)) * 16) <= 140737488355328)) = true /\
 tB (decide ((0 + ((Rf.dlst ((gAt x0 x2).getD 7 D0)).length : Int)) <= 1099511627776)) = true /\
 Rf.isK .slc ((gAt x0 x2).getD 5 D0) = true /\
 ∃ (I1_0 : Prop) (M1_0 : Nat), ∃ (I1_1 : Int -> List (List D) -> Prop) (M1_1 : Int -> List (List D) -> Nat), I1_0 /\
 (I1_0 ->
 (tB (decide (0 < ((Rf.dlst ((gAt x0 x2).getD 5 D0)).length : Int))) = true ->
 tB (((gAt (Rf.dlst ((gAt x0 x2).getD 5 D0)) 0).length : Int) == 9) = true /\
 ∀ _ : Nat -> Nat, ∃ R', Holds Tryz.prog 90 [A.agg (gAt (Rf.dlst ((gAt x0 x2).getD 5 D0)) 0), A.d (D.lit (.bool true)), A.d (D.lit (.bool false))] [] R' /\
 (∀ v H', R' (.ret v) H' -> ∃ x3 : List D, v = A.agg x3 /\ H' = [] /\
 tB ((x3.length : Int) == 9) = true /\
 (Za2 9 [x3]) = true /\
 tB (decide (((0 + ([x3].length : Int)) * 144) <= 140737488355328)) = true /\
 tB (decide ((0 + ([x3].length : Int)) <= 1099511627776)) = true /\
 I1_1 1 [x3] /\ M1_1 1 [x3] < M1_0) /\
 PN R R') /\
 (tB (decide (0 < ((Rf.dlst ((gAt x0 x2).getD 5 D0)).length : Int))) = false ->
 Rf.isK .slc ((gAt x0 x2).getD 6 D0) = true /\
 ∀ _ : Nat -> Nat, ∃ R', Holds Tryz.prog 88 [A.d (D.slc (Rf.dlst ((gAt x0 x2).getD 6 D0))), A.d (D.lit (.bool true)), A.d (D.lit (.bool false))] [] R' /\
 (∀ v H', R' (.ret v) H' -> ∃ x3 : List (List D), v = A.d (D.slc x3) /\ H' = [] /\
 tB (decide ((((x1.length : Int) + ([[(gAt x0 x2).getD 0 D0, (gAt x0 x2).getD 1 D0, (gAt x0 x2).getD 2 D0, (gAt x0 x2).getD 3 D0, (gAt x0 x2).getD 4 D0, (D.slc ([] : List (List D))), D.slc x3, (D.slc (([] : List (List D)) ++ (Rf.dlst ((gAt x0 x2).getD 7 D0)))), (D.slc (([] : List (List D)) ++ (Rf.dlst ((gAt x0 x2).getD 8 D0)))), (gAt x0 x2).getD 9 D0, D.lit (.int .i64 0)]].length : Int)) * 184) <= 140737488355328)) = true /\
 tB (decide (((x1.length : Int) + ([[(gAt x0 x2).getD 0 D0, (gAt x0 x2).getD 1 D0, (gAt x0 x2).getD 2 D0, (gAt x0 x2).getD 3 D0, (gAt x0 x2).getD 4 D0, (D.slc ([] : List (List D))), D.slc x3, (D.slc (([] : List (List D)) ++ (Rf.dlst ((gAt x0 x2).getD 7 D0)))), (D.slc (([] : List (List D)) ++ (Rf.dlst ((gAt x0 x2).getD 8 D0)))), (gAt x0 x2).getD 9 D0, D.lit (.int .i64 0)]].length : Int)) <= 1099511627776)) = true /\
 tB (decide ((-9223372036854775808) <= (x2 + 1))) = true /\
 tB (decide ((x2 + 1) <= 9223372036854775807)) = true /\
 I0_1 (x1 ++ [[(gAt x0 x2).getD 0 D0, (gAt x0 x2).getD 1 D0, (gAt x0 x2).getD 2 D0, (gAt x0 x2).getD 3 D0, (gAt x0 x2).getD 4 D0, (D.slc ([] : List (List D))), D.slc x3, (D.slc (([] : List (List D)) ++ (Rf.dlst ((gAt x0 x2).getD 7 D0)))), (D.slc (([] : List (List D)) ++ (Rf.dlst ((gAt x0 x2).getD 8 D0)))), (gAt x0 x2).getD 9 D0, D.lit (.int .i64 0)]]) (x2 + 1) /\ M0_1 (x1 ++ [[(gAt x0 x2).getD 0 D0, (gAt x0 x2).getD 1 D0, (gAt x0 x2).getD 2 D0, (gAt x0 x2).getD 3 D0, (gAt x0 x2).getD 4 D0, (D.slc ([] : List (List D))), D.slc x3, (D.slc (([] : List (List D)) ++ (Rf.dlst ((gAt x0 x2).getD 7 D0)))), (D.slc (([] : List (List D)) ++ (Rf.dlst ((gAt x0 x2).getD 8 D0)))), (gAt x0 x2).getD 9 D0, D.lit (.int .i64 0)]]) (x2 + 1) < M0_1 x1 x2) /\
 PN R R')) /\
 (∀ (x3 : Int) (x4 : List (List D)) , I1_1 x3 x4 ->
 (tB (decide (x3 < ((Rf.dlst ((gAt x0 x2).getD 5 D0)).length : Int))) = true ->
 tB (decide (0 <= x3)) = true /\
 tB (((gAt (Rf.dlst ((gAt x0 x2).getD 5 D0)) x3).length : Int) == 9) = true /\
 ∀ _ : Nat -> Nat, ∃ R', Holds Tryz.prog 90 [A.agg (gAt (Rf.dlst ((gAt x0 x2).getD 5 D0)) x3), A.d (D.lit (.bool true)), A.d (D.lit (.bool false))] [] R' /\
 (∀ v H', R' (.ret v) H' -> ∃ x5 : List D, v = A.agg x5 /\ H' = [] /\
 tB ((x5.length : Int) == 9) = true /\
 (Za2 9 [x5]) = true /\
 tB (decide ((((x4.length : Int) + ([x5].length : Int)) * 144) <= 140737488355328)) = true /\
 tB (decide (((x4.length : Int) + ([x5].length : Int)) <= 1099511627776)) = true /\
 tB (decide ((-9223372036854775808) <= (x3 + 1))) = true /\
 tB (decide ((x3 + 1) <= 9223372036854775807)) = true /\
 I1_1 (x3 + 1) (x4 ++ [x5]) /\ M1_1 (x3 + 1) (x4 ++ [x5]) < M1_1 x3 x4) /\
 PN R R') /\
 (tB (decide (x3 < ((Rf.dlst ((gAt x0 x2).getD 5 D0)).length : Int))) = false ->
 Rf.isK .slc ((gAt x0 x2).getD 6 D0) = true /\
 ∀ _ : Nat -> Nat, ∃ R', Holds Tryz.prog 88 [A.d (D.slc (Rf.dlst ((gAt x0 x2).getD 6 D0))), A.d (D.lit (.bool true)), A.d (D.lit (.bool false))] [] R' /\
 (∀ v H', R' (.ret v) H' -> ∃ x5 : List (List D), v = A.d (D.slc x5) /\ H' = [] /\
 tB (decide ((((x1.length : Int) + ([[(gAt x0 x2).getD 0 D0, (gAt x0 x2).getD 1 D0, (gAt x0 x2).getD 2 D0, (gAt x0 x2).getD 3 D0, (gAt x0 x2).getD 4 D0, D.slc x4, D.slc x5, (D.slc (([] : List (List D)) ++ (Rf.dlst ((gAt x0 x2).getD 7 D0)))), (D.slc (([] : List (List D)) ++ (Rf.dlst ((gAt x0 x2).getD 8 D0)))), (gAt x0 x2).getD 9 D0, D.lit (.int .i64 0)]].length : Int)) * 184) <= 140737488355328)) = true /\
 tB (decide (((x1.length : Int) + ([[(gAt x0 x2).getD 0 D0, (gAt x0 x2).getD 1 D0, (gAt x0 x2).getD 2 D0, (gAt x0 x2).getD 3 D0, (gAt x0 x2).getD 4 D0, D.slc x4, D.slc x5, (D.slc (([] : List (List D)) ++ (Rf.dlst ((gAt x0 x2).getD 7 D0)))), (D.slc (([] : List (List D)) ++ (Rf.dlst ((gAt x0 x2).getD 8 D0)))), (gAt x0 x2).getD 9 D0, D.lit (.int .i64 0)]].length : Int)) <= 1099511627776)) = true /\
 tB (decide ((-9223372036854775808) <= (x2 + 1))) = true /\
 tB (decide ((x2 + 1) <= 9223372036854775807)) = true /\
 I0_1 (x1 ++ [[(gAt x0 x2).getD 0 D0, (gAt x0 x2).getD 1 D0, (gAt x0 x2).getD 2 D0, (gAt x0 x2).getD 3 D0, (gAt x0 x2).getD 4 D0, D.slc x4, D.slc x5, (D.slc (([] : List (List D)) ++ (Rf.dlst ((gAt x0 x2).getD 7 D0)))), (D.slc (([] : List (List D)) ++ (Rf.dlst ((gAt x0 x2).getD 8 D0)))), (gAt x0 x2).getD 9 D0, D.lit (.int .i64 0)]]) (x2 + 1) /\ M0_1 (x1 ++ [[(gAt x0 x2).getD 0 D0, (gAt x0 x2).getD 1 D0, (gAt x0 x2).getD 2 D0, (gAt x0 x2).getD 3 D0, (gAt x0 x2).getD 4 D0, D.slc x4, D.slc x5, (D.slc (([] : List (List D)) ++ (Rf.dlst ((gAt x0 x2).getD 7 D0)))), (D.slc (([] : List (List D)) ++ (Rf.dlst ((gAt x0 x2).getD 8 D0)))), (gAt x0 x2).getD 9 D0, D.lit (.int .i64 0)]]) (x2 + 1) < M0_1 x1 x2) /\
 PN R R')) /\
 True) /\
 (tB (decide (x2 < (x0.length : Int))) = false ->
 R (.ret (A.d (D.slc x1))) [])) /\
 True) :
 Holds Tryz.prog 88 [A.d (D.slc x0), A.d (D.lit (.bool true)), A.d (D.lit (.bool false))] [] R :=
 walk (c := ⟨Tryz.prog, 66, true, [0, 1, 2, 6, 7, 9, 10, 12, 13, 14, 15, 16, 31, 33, 38, 39, 40, 41]⟩) (op := { lat := [18], com := [(9, (10, 1007)), (9, (10, 1006)), (15, (10, 1007)), (15, (10, 1006)), (22, (16, 5000)), (22, (9, 5000)), (22, (10, 5000)), (22, (31, 5000)), (22, (33, 5000)), (22, (38, 5000)), (22, (39, 5000)), (22, (40, 5000)), (22, (41, 5000)), (22, (12, 5000)), (19, (41, 5000)), (19, (12, 5000))] }) (fn := Tryz.f88) (args := [.c (.o1 .cl (.var 0)), .c (.o1 .cb (.bool true)), .c (.o1 .cb (.bool false))]) (K := []) (nv := 1) (depth := 7) (up := upOf []) (ρ := Zbi [.l x0])
  rfl rfl rfl rfl rfl (by decide) (by decide) (by decide) (by decide) rfl (by simp [Zac, RRef.den, upOf]) (T_of (by kernel_rfl) h)
theorem w90s {R : RT} (x0 : List D) (h : tB ((x0.length : Int) == 9) = true /\
 Rf.isK .slc (x0.getD 7 D0) = true /\
 (Za2 1 (Rf.dlst (x0.getD 7 D0))) = true /\
 tB (decide (((0 + ((Rf.dlst (x0.getD 7 D0)).length : Int)) * 16) <= 140737488355328)) = true /\
 tB (decide ((0 + ((Rf.dlst (x0.getD 7 D0)).length : Int)) <= 1099511627776)) = true /\
 Rf.isK .slc (x0.getD 5 D0) = true /\
 ∃ (I0_0 : Prop) (M0_0 : Nat), ∃ (I0_1 : Int -> List (List D) -> Prop) (M0_1 : Int -> List (List D) -> Nat), I0_0 /\
 (I0_0 ->
 (tB (decide (0 < ((Rf.dlst (x0.getD 5 D0)).length : Int))) = true ->
 tB (((gAt (Rf.dlst (x0.getD 5 D0)) 0).length : Int) == 9) = true /\
 ∀ _ : Nat -> Nat, ∃ R', Holds Tryz.prog 90 [A.agg (gAt (Rf.dlst (x0.getD 5 D0)) 0), A.d (D.lit (.bool true)), A.d (D.lit (.bool false))] [] R' /\
 (∀ v H', R' (.ret v) H' -> ∃ x1 : List D, v = A.agg x1 /\ H' = [] /\
 tB ((x1.length : Int) == 9) = true /\
 (Za2 9 [x1]) = true /\
 tB (decide (((0 + ([x1].length : Int)) * 144) <= 140737488355328)) = true /\
 tB (decide ((0 + ([x1].length : Int)) <= 1099511627776)) = true /\
 I0_1 1 [x1] /\ M0_1 1 [x1] < M0_0) /\
 PN R R') /\
 (tB (decide (0 < ((Rf.dlst (x0.getD 5 D0)).length : Int))) = false ->
 Rf.isK .slc (x0.getD 6 D0) = true /\
 ∀ _ : Nat -> Nat, ∃ R', Holds Tryz.prog 88 [A.d (D.slc (Rf.dlst (x0.getD 6 D0))), A.d (D.lit (.bool true)), A.d (D.lit (.bool false))] [] R' /\
 (∀ v H', R' (.ret v) H' -> ∃ x1 : List (List D), v = A.d (D.slc x1) /\ H' = [] /\
 R (.ret (A.agg [x0.getD 0 D0, x0.getD 1 D0, x0.getD 2 D0, x0.getD 3 D0, x0.getD 4 D0, (D.slc ([] : List (List D))), D.slc x1, (D.slc (([] : List (List D)) ++ (Rf.dlst (x0.getD 7 D0)))), D.lit (.int .i64 0)])) []) /\
 PN R R')) /\
 (∀ (x1 : Int) (x2 : List (List D)) , I0_1 x1 x2 ->
 (tB (decide (x1 < ((Rf.dlst (x0.getD 5 D0)).length : Int))) = true ->
 tB (decide (0 <= x1)) = true /\
 tB (((gAt (Rf.dlst (x0.getD 5 D0)) x1).length : Int) == 9) = true /\
 ∀ _ : Nat -> Nat, ∃ R', Holds Tryz.prog 90 [A.agg (gAt (Rf.dlst (x0.getD 5 D0)) x1), A.d (D.lit (.bool true)), A.d (D.lit (.bool false))] [] R' /\
 (∀ v H', R' (.ret v) H' -> ∃ x3 : List D, v = A.agg x3 /\ H' = [] /\
 tB ((x3.length : Int) == 9) = true /\
 (Za2 9 [x3]) = true /\
 tB (decide ((((x2.length : Int) + ([x3].length : Int)) * 144) <= 140737488355328)) = true /\
 tB (decide (((x2.length : Int) + ([x3].length : Int)) <= 1099511627776)) = true /\
 tB (decide ((-9223372036854775808) <= (x1 + 1))) = true /\
 tB (decide ((x1 + 1) <= 9223372036854775807)) = true /\
 I0_1 (x1 + 1) (x2 ++ [x3]) /\ M0_1 (x1 + 1) (x2 ++ [x3]) < M0_1 x1 x2) /\
 PN R R') /\
 (tB (decide (x1 < ((Rf.dlst (x0.getD 5 D0)).length : Int))) = false ->
 Rf.isK .slc (x0.getD 6 D0) = true /\
 ∀ _ : Nat -> Nat, ∃ R', Holds Tryz.prog 88 [A.d (D.slc (Rf.dlst (x0.getD 6 D0))), A.d (D.lit (.bool true)), A.d (D.lit (.bool false))] [] R' /\
 (∀ v H', R' (.ret v) H' -> ∃ x3 : List (List D), v = A.d (D.slc x3) /\ H' = [] /\
 R (.ret (A.agg [x0.getD 0 D0, x0.getD 1 D0, x0.getD 2 D0, x0.getD 3 D0, x0.getD 4 D0, D.slc x2, D.slc x3, (D.slc (([] : List (List D)) ++ (Rf.dlst (x0.getD 7 D0)))), D.lit (.int .i64 0)])) []) /\
 PN R R')) /\
 True) :
 Holds Tryz.prog 90 [A.agg x0, A.d (D.lit (.bool true)), A.d (D.lit (.bool false))] [] R :=
 walk (c := ⟨Tryz.prog, 45, true, [0, 1, 2, 3, 6, 7, 9, 17, 19, 22, 23, 24, 25]⟩) (op := { lat := [11], com := [(4, (7, 1006)), (8, (7, 1006)), (12, (25, 5000)), (12, (9, 5000))] }) (fn := Tryz.f90) (args := [.agg (.var 0), .c (.o1 .cb (.bool true)), .c (.o1 .cb (.bool false))]) (K := []) (nv := 1) (depth := 6) (up := upOf []) (ρ := Zbi [.r x0])
  rfl rfl rfl rfl rfl (by decide) (by decide) (by decide) (by decide) rfl (by simp [Zac, RRef.den, upOf]) (T_of (by kernel_rfl) h)
theorem w88p {R : RT} (x0 : List (List D)) (h : ∃ (I0_0 : Prop) (M0_0 : Nat), ∃ (I0_1 : List (List D) -> Int -> Prop) (M0_1 : List (List D) -> Int -> Nat), I0_0 /\
 (I0_0 ->
 (tB (decide (0 < (x0.length : Int))) = true ->
 tB (((gAt x0 0).length : Int) == 11) = true /\
 Rf.isK .slc ((gAt x0 0).getD 8 D0) = true /\
 (Za2 1 (Rf.dlst ((gAt x0 0).getD 8 D0))) = true /\
 tB (decide (((0 + ((Rf.dlst ((gAt x0 0).getD 8 D0)).length : Int)) * 16) <= 140737488355328)) = true /\
 tB (decide ((0 + ((Rf.dlst ((gAt x0 0).getD 8 D0)).length : Int)) <= 1099511627776)) = true /\
 Rf.isK .slc ((gAt x0 0).getD 7 D0) = true /\
 (Za2 1 (Rf.dlst ((gAt x0 0).getD 7 D0))) = true /\
 tB (decide (((0 + ((Rf.dlst ((gAt x0 0).getD 7 D0)).length : Int)) * 16) <= 140737488355328)) = true /\
 tB (decide ((0 + ((Rf.dlst ((gAt x0 0).getD 7 D0)).length : Int)) <= 1099511627776)) = true /\
 Rf.isK .slc ((gAt x0 0).getD 5 D0) = true /\
 ∃ (I1_0 : Prop) (M1_0 : Nat), ∃ (I1_1 : Int -> List (List D) -> Prop) (M1_1 : Int -> List (List D) -> Nat), I1_0 /\
 (I1_0 ->
 (tB (decide (0 < ((Rf.dlst ((gAt x0 0).getD 5 D0)).length : Int))) = true ->
 tB (((gAt (Rf.dlst ((gAt x0 0).getD 5 D0)) 0).length : Int) == 9) = true /\
 ∀ _ : Nat -> Nat, ∃ R', Holds Tryz.prog 90 [A.agg (gAt (Rf.dlst ((gAt x0 0).getD 5 D0)) 0), A.d (D.lit (.bool false)), A.d (D.lit (.bool true))] [] R' /\
 (∀ v H', R' (.ret v) H' -> ∃ x1 : List D, v = A.agg x1 /\ H' = [] /\
 tB ((x1.length : Int) == 9) = true /\
 (Za2 9 [x1]) = true /\
 tB (decide (((0 + ([x1].length : Int)) * 144) <= 140737488355328)) = true /\
 tB (decide ((0 + ([x1].length : Int)) <= 1099511627776)) = true /\
 I1_1 1 [x1] /\ M1_1 1 [x1] < M1_0) /\
 PN R R') /\
 (tB (decide (0 < ((Rf.dlst ((gAt x0 0).getD 5 D0)).length : Int))) = false ->
 Rf.isK .slc ((gAt x0 0).getD 6 D0) = true /\
 ∀ _ : Nat -> Nat, ∃ R', Holds Tryz.prog 88 [A.d (D.slc (Rf.dlst ((gAt x0 0).getD 6 D0))), A.d (D.lit (.bool false)), A.d (D.lit (.bool true))] [] R' /\
 (∀ v H', R' (.ret v) H' -> ∃ x1 : List (List D), v = A.d (D.slc x1) /\ H' = [] /\
 tB (decide (((0 + ([[(gAt x0 0).getD 0 D0, (gAt x0 0).getD 1 D0, (gAt x0 0).getD 2 D0, (gAt x0 0).getD 3 D0, (gAt x0 0).getD 4 D0, (D.slc ([] : List (List D))), D.slc x1, (D.slc ([] : List (List D))), (D.slc ([] : List (List D))), (D.lit (Zab ([] : List UInt8))), (gAt x0 0).getD 10 D0]].length : Int)) * 184) <= 140737488355328)) = true /\
 tB (decide ((0 + ([[(gAt x0 0).getD 0 D0, (gAt x0 0).getD 1 D0, (gAt x0 0).getD 2 D0, (gAt x0 0).getD 3 D0, (gAt x0 0).getD 4 D0, (D.slc ([] : List (List D))), D.slc x1, (D.slc ([] : List (List D))), (D.slc ([] : List (List D))), (D.lit (Zab ([] : List UInt8))), (gAt x0 0).getD 10 D0]].length : Int)) <= 1099511627776)) = true /\
 I0_1 [[(gAt x0 0).getD 0 D0, (gAt x0 0).getD 1 D0, (gAt x0 0).getD 2 D0, (gAt x0 0).getD 3 D0, (gAt x0 0).getD 4 D0, (D.slc ([] : List (List D))), D.slc x1, (D.slc ([] : List (List D))), (D.slc ([] : List (List D))), (D.lit (Zab ([] : List UInt8))), (gAt x0 0).getD 10 D0]] 1 /\ M0_1 [[(gAt x0 0).getD 0 D0, (gAt x0 0).getD 1 D0, (gAt x0 0).getD 2 D0, (gAt x0 0).getD 3 D0, (gAt x0 0).getD 4 D0, (D.slc ([] : List (List D))), D.slc x1, (D.slc ([] : List (List D))), (D.slc ([] : List (List D))), (D.lit (Zab ([] : List UInt8))), (gAt x0 0).getD 10 D0]] 1 < M0_0) /\
 PN R R')) /\
 (∀ (x1 : Int) (x2 : List (List D)) , I1_1 x1 x2 ->
 (tB (decide (x1 < ((Rf.dlst ((gAt x0 0).getD 5 D0)).length : Int))) = true ->
 tB (decide (0 <= x1)) = true /\
 tB (((gAt (Rf.dlst ((gAt x0 0).getD 5 D0)) x1).length : Int) == 9) = true /\
 ∀ _ : Nat -> Nat, ∃ R', Holds Tryz.prog 90 [A.agg (gAt (Rf.dlst ((gAt x0 0).getD 5 D0)) x1), A.d (D.lit (.bool false)), A.d (D.lit (.bool true))] [] R' /\
 (∀ v H', R' (.ret v) H' -> ∃ x3 : List D, v = A.agg x3 /\ H' = [] /\
 tB ((x3.length : Int) == 9) = true /\
 (Za2 9 [x3]) = true /\
 tB (decide ((((x2.length : Int) + ([x3].length : Int)) * 144) <= 140737488355328)) = true /\
 tB (decide (((x2.length : Int) + ([x3].length : Int)) <= 1099511627776)) = true /\
 tB (decide ((-9223372036854775808) <= (x1 + 1))) = true /\
 tB (decide ((x1 + 1) <= 9223372036854775807)) = true /\
 I1_1 (x1 + 1) (x2 ++ [x3]) /\ M1_1 (x1 + 1) (x2 ++ [x3]) < M1_1 x1 x2) /\
 PN R R') /\
 (tB (decide (x1 < ((Rf.dlst ((gAt x0 0).getD 5 D0)).length : Int))) = false ->
 Rf.isK .slc ((gAt x0 0).getD 6 D0) = true /\
 ∀ _ : Nat -> Nat, ∃ R', Holds Tryz.prog 88 [A.d (D.slc (Rf.dlst ((gAt x0 0).getD 6 D0))), A.d (D.lit (.bool false)), A.d (D.lit (.bool true))] [] R' /\
 (∀ v H', R' (.ret v) H' -> ∃ x3 : List (List D), v = A.d (D.slc x3) /\ H' = [] /\
 tB (decide (((0 + ([[(gAt x0 0).getD 0 D0, (gAt x0 0).getD 1 D0, (gAt x0 0).getD 2 D0, (gAt x0 0).getD 3 D0, (gAt x0 0).getD 4 D0, D.slc x2, D.slc x3, (D.slc ([] : List (List D))), (D.slc ([] : List (List D))), (D.lit (Zab ([] : List UInt8))), (gAt x0 0).getD 10 D0]].length : Int)) * 184) <= 140737488355328)) = true /\
 tB (decide ((0 + ([[(gAt x0 0).getD 0 D0, (gAt x0 0).getD 1 D0, (gAt x0 0).getD 2 D0, (gAt x0 0).getD 3 D0, (gAt x0 0).getD 4 D0, D.slc x2, D.slc x3, (D.slc ([] : List (List D))), (D.slc ([] : List (List D))), (D.lit (Zab ([] : List UInt8))), (gAt x0 0).getD 10 D0]].length : Int)) <= 1099511627776)) = true /\
 I0_1 [[(gAt x0 0).getD 0 D0, (gAt x0 0).getD 1 D0, (gAt x0 0).getD 2 D0, (gAt x0 0).getD 3 D0, (gAt x0 0).getD 4 D0, D.slc x2, D.slc x3, (D.slc ([] : List (List D))), (D.slc ([] : List (List D))), (D.lit (Zab ([] : List UInt8))), (gAt x0 0).getD 10 D0]] 1 /\ M0_1 [[(gAt x0 0).getD 0 D0, (gAt x0 0).getD 1 D0, (gAt x0 0).getD 2 D0, (gAt x0 0).getD 3 D0, (gAt x0 0).getD 4 D0, D.slc x2, D.slc x3, (D.slc ([] : List (List D))), (D.slc ([] : List (List D))), (D.lit (Zab ([] : List UInt8))), (gAt x0 0).getD 10 D0]] 1 < M0_0) /\
 PN R R')) /\
 True) /\
 (tB (decide (0 < (x0.length : Int))) = false ->
 R (.ret (A.zs ([] : List (List D)))) [])) /\
 (∀ (x1 : List (List D)) (x2 : Int) , I0_1 x1 x2 ->
 (tB (decide (x2 < (x0.length : Int))) = true ->
 tB (decide (0 <= x2)) = true /\
 tB (((gAt x0 x2).length : Int) == 11) = true /\
 Rf.isK .slc ((gAt x0 x2).getD 8 D0) = true /\
 (Za2 1 (Rf.dlst ((gAt x0 x2).getD 8 D0))) = true /\
 tB (decide (((0 + ((Rf.dlst ((gAt x0 x2).getD 8 D0)).length : Int)) * 16) <= 140737488355328)) = true /\
 tB (decide ((0 + ((Rf.dlst ((gAt x0 x2).getD 8 D0)).length : Int)) <= 1099511627776)) = true /\
 Rf.isK .slc ((gAt x0 x2).getD 7 D0) = true /\
 (Za2 1 (Rf.dlst ((gAt x0 x2).getD 7 D0))) = true /\
 tB (decide (((0 + ((Rf.dlst ((gAt x0 x2).getD 7 D0)).length : Int)) * 16) <= 140737488355328)) = true /\
 tB (decide ((0 + ((Rf.dlst ((gAt x0 x2).getD 7 D0)).length : Int)) <= 1099511627776)) = true /\
 Rf.isK .slc ((gAt x0 x2).getD 5 D0) = true /\
 ∃ (I1_0 : Prop) (M1_0 : Nat), ∃ (I1_1 : Int -> List (List D) -> Prop) (M1_1 : Int -> List (List D) -> Nat), I1_0 /\
 (I1_0 ->
 (tB (decide (0 < ((Rf.dlst ((gAt x0 x2).getD 5 D0)).length : Int))) = true ->
 tB (((gAt (Rf.dlst ((gAt x0 x2).getD 5 D0)) 0).length : Int) == 9) = true /\
 ∀ _ : Nat -> Nat, ∃ R', Holds Tryz.prog 90 [A.agg (gAt (Rf.dlst ((gAt x0 x2).getD 5 D0)) 0), A.d (D.lit (.bool false)), A.d (D.lit (.bool true))] [] R' /\
 (∀ v H', R' (.ret v) H' -> ∃ x3 : List D, v = A.agg x3 /\ H' = [] /\
 tB ((x3.length : Int) == 9) = true /\
 (Za2 9 [x3]) = true /\
 tB (decide (((0 + ([x3].length : Int)) * 144) <= 140737488355328)) = true /\
 tB (decide ((0 + ([x3].length : Int)) <= 1099511627776)) = true /\
 I1_1 1 [x3] /\ M1_1 1 [x3] < M1_0) /\
 PN R R') /\
 (tB (decide (0 < ((Rf.dlst ((gAt x0 x2).getD 5 D0)).length : Int))) = false ->
 Rf.isK .slc ((gAt x0 x2).getD 6 D0) = true /\
 ∀ _ : Nat -> Nat, ∃ R', Holds Tryz.prog 88 [A.d (D.slc (Rf.dlst ((gAt x0 x2).getD 6 D0))), A.d (D.lit (.bool false)), A.d (D.lit (.bool true))] [] R' /\
 (∀ v H', R' (.ret v) H' -> ∃ x3 : List (List D), v = A.d (D.slc x3) /\ H' = [] /\
 tB (decide ((((x1.length : Int) + ([[(gAt x0 x2).getD 0 D0, (gAt x0 x2).getD 1 D0, (gAt x0 x2).getD 2 D0, (gAt x0 x2).getD 3 D0, (gAt x0 x2).getD 4 D0, (D.slc ([] : List (List D))), D.slc x3, (D.slc ([] : List (List D))), (D.slc ([] : List (List D))), (D.lit (Zab ([] : List UInt8))), (gAt x0 x2).getD 10 D0]].length : Int)) * 184) <= 140737488355328)) = true /\
 tB (decide (((x1.length : Int) + ([[(gAt x0 x2).getD 0 D0, (gAt x0 x2).getD 1 D0, (gAt x0 x2).getD 2 D0, (gAt x0 x2).getD 3 D0, (gAt x0 x2).getD 4 D0, (D.slc ([] : List (List D))), D.slc x3, (D.slc ([] : List (List D))), (D.slc ([] : List (List D))), (D.lit (Zab ([] : List UInt8))), (gAt x0 x2).getD 10 D0]].length : Int)) <= 1099511627776)) = true /\
 tB (decide ((-9223372036854775808) <= (x2 + 1))) = true /\
 tB (decide ((x2 + 1) <= 9223372036854775807)) = true /\
 I0_1 (x1 ++ [[(gAt x0 x2).getD 0 D0, (gAt x0 x2).getD 1 D0, (gAt x0 x2).getD 2 D0, (gAt x0 x2).getD 3 D0, (gAt x0 x2).getD 4 D0, (D.slc ([] : List (List D))), D.slc x3, (D.slc ([] : List (List D))), (D.slc ([] : List (List D))), (D.lit (Zab ([] : List UInt8))), (gAt x0 x2).getD 10 D0]]) (x2 + 1) /\ M0_1 (x1 ++ [[(gAt x0 x2).getD 0 D0, (gAt x0 x2).getD 1 D0, (gAt x0 x2).getD 2 D0, (gAt x0 x2).getD 3 D0, (gAt x0 x2).getD 4 D0, (D.slc ([] : List (List D))), D.slc x3, (D.slc ([] : List (List D))), (D.slc ([] : List (List D))), (D.lit (Zab ([] : List UInt8))), (gAt x0 x2).getD 10 D0]]) (x2 + 1) < M0_1 x1 x2) /\
 PN R R')) /\
 (∀ (x3 : Int) (x4 : List (List D)) , I1_1 x3 x4 ->
 (tB (decide (x3 < ((Rf.dlst ((gAt x0 x2).getD 5 D0)).length : Int))) = true ->
 tB (decide (0 <= x3)) = true /\
 tB (((gAt (Rf.dlst ((gAt x0 x2).getD 5 D0)) x3).length : Int) == 9) = true /\
 ∀ _ : Nat -> Nat, ∃ R', Holds Tryz.prog 90 [A.agg (gAt (Rf.dlst ((gAt x0 x2).getD 5 D0)) x3), A.d (D.lit (.bool false)), A.d (D.lit (.bool true))] [] R' /\
 (∀ v H', R' (.ret v) H' -> ∃ x5 : List D, v = A.agg x5 /\ H' = [] /\
 tB ((x5.length : Int) == 9) = true /\
 (Za2 9 [x5]) = true /\
 tB (decide ((((x4.length : Int) + ([x5].length : Int)) * 144) <= 140737488355328)) = true /\
 tB (decide (((x4.length : Int) + ([x5].length : Int)) <= 1099511627776)) = true /\
 tB (decide ((-9223372036854775808) <= (x3 + 1))) = true /\
 tB (decide ((x3 + 1) <= 9223372036854775807)) = true /\
 I1_1 (x3 + 1) (x4 ++ [x5]) /\ M1_1 (x3 + 1) (x4 ++ [x5]) < M1_1 x3 x4) /\
 PN R R') /\
 (tB (decide (x3 < ((Rf.dlst ((gAt x0 x2).getD 5 D0)).length : Int))) = false ->
 Rf.isK .slc ((gAt x0 x2).getD 6 D0) = true /\
 ∀ _ : Nat -> Nat, ∃ R', Holds Tryz.prog 88 [A.d (D.slc (Rf.dlst ((gAt x0 x2).getD 6 D0))), A.d (D.lit (.bool false)), A.d (D.lit (.bool true))] [] R' /\
 (∀ v H', R' (.ret v) H' -> ∃ x5 : List (List D), v = A.d (D.slc x5) /\ H' = [] /\
 tB (decide ((((x1.length : Int) + ([[(gAt x0 x2).getD 0 D0, (gAt x0 x2).getD 1 D0, (gAt x0 x2).getD 2 D0, (gAt x0 x2).getD 3 D0, (gAt x0 x2).getD 4 D0, D.slc x4, D.slc x5, (D.slc ([] : List (List D))), (D.slc ([] : List (List D))), (D.lit (Zab ([] : List UInt8))), (gAt x0 x2).getD 10 D0]].length : Int)) * 184) <= 140737488355328)) = true /\
 tB (decide (((x1.length : Int) + ([[(gAt x0 x2).getD 0 D0, (gAt x0 x2).getD 1 D0, (gAt x0 x2).getD 2 D0, (gAt x0 x2).getD 3 D0, (gAt x0 x2).getD 4 D0, D.slc x4, D.slc x5, (D.slc ([] : List (List D))), (D.slc ([] : List (List D))), (D.lit (Zab ([] : List UInt8))), (gAt x0 x2).getD 10 D0]].length : Int)) <= 1099511627776)) = true /\
 tB (decide ((-9223372036854775808) <= (x2 + 1))) = true /\
 tB (decide ((x2 + 1) <= 9223372036854775807)) = true /\
 I0_1 (x1 ++ [[(gAt x0 x2).getD 0 D0, (gAt x0 x2).getD 1 D0, (gAt x0 x2).getD 2 D0, (gAt x0 x2).getD 3 D0, (gAt x0 x2).getD 4 D0, D.slc x4, D.slc x5, (D.slc ([] : List (List D))), (D.slc ([] : List (List D))), (D.lit (Zab ([] : List UInt8))), (gAt x0 x2).getD 10 D0]]) (x2 + 1) /\ M0_1 (x1 ++ [[(gAt x0 x2).getD 0 D0, (gAt x0 x2).getD 1 D0, (gAt x0 x2).getD 2 D0, (gAt x0 x2).getD 3 D0, (gAt x0 x2).getD 4 D0, D.slc x4, D.slc x5, (D.slc ([] : List (List D))), (D.slc ([] : List (List D))), (D.lit (Zab ([] : List UInt8))), (gAt x0 x2).getD 10 D0]]) (x2 + 1) < M0_1 x1 x2) /\
 PN R R')) /\
 True) /\
 (tB (decide (x2 < (x0.length : Int))) = false ->
 R (.ret (A.d (D.slc x1))) [])) /\
 True) :
 Holds Tryz.prog 88 [A.d (D.slc x0), A.d (D.lit (.bool false)), A.d (D.lit (.bool true))] [] R :=
 walk (c := ⟨Tryz.prog, 66, true, [0, 1, 2, 6, 7, 9, 10, 12, 13, 14, 15, 16, 31, 33, 38, 39, 40, 41]⟩) (op := { lat := [18], com := [(9, (10, 1007)), (9, (10, 1006)), (15, (10, 1007)), (15, (10, 1006)), (22, (16, 5000)), (22, (9, 5000)), (22, (10, 5000)), (22, (31, 5000)), (22, (33, 5000)), (22, (38, 5000)), (22, (39, 5000)), (22, (40, 5000)), (22, (41, 5000)), (22, (12, 5000)), (19, (41, 5000)), (19, (12, 5000))] }) (fn := Tryz.f88) (args := [.c (.o1 .cl (.var 0)), .c (.o1 .cb (.bool false)), .c (.o1 .cb (.bool true))]) (K := []) (nv := 1) (depth := 7) (up := upOf []) (ρ := Zbi [.l x0])
  rfl rfl rfl rfl rfl (by decide) (by decide) (by decide) (by decide) rfl (by simp [Zac, RRef.den, upOf]) (T_of (by kernel_rfl) h)
theorem w90p {R : RT} (x0 : List D) (h : tB ((x0.length : Int) == 9) = true /\
 Rf.isK .slc (x0.getD 7 D0) = true /\
 (Za2 1 (Rf.dlst (x0.getD 7 D0))) = true /\
 tB (decide (((0 + ((Rf.dlst (x0.getD 7 D0)).length : Int)) * 16) <= 140737488355328)) = true /\
 tB (decide ((0 + ((Rf.dlst (x0.getD 7 D0)).length : Int)) <= 1099511627776)) = true /\
 Rf.isK .slc (x0.getD 5 D0) = true /\
 ∃ (I0_0 : Prop) (M0_0 : Nat), ∃ (I0_1 : Int -> List (List D) -> Prop) (M0_1 : Int -> List (List D) -> Nat), I0_0 /\
 (I0_0 ->
 (tB (decide (0 < ((Rf.dlst (x0.getD 5 D0)).length : Int))) = true ->
 tB (((gAt (Rf.dlst (x0.getD 5 D0)) 0).length : Int) == 9) = true /\
 ∀ _ : Nat -> Nat, ∃ R', Holds Tryz.prog 90 [A.agg (gAt (Rf.dlst (x0.getD 5 D0)) 0), A.d (D.lit (.bool false)), A.d (D.lit (.bool true))] [] R' /\
 (∀ v H', R' (.ret v) H' -> ∃ x1 : List D, v = A.agg x1 /\ H' = [] /\
 tB ((x1.length : Int) == 9) = true /\
 (Za2 9 [x1]) = true /\
 tB (decide (((0 + ([x1].length : Int)) * 144) <= 140737488355328)) = true /\
 tB (decide ((0 + ([x1].length : Int)) <= 1099511627776)) = true /\
 I0_1 1 [x1] /\ M0_1 1 [x1] < M0_0) /\
 PN R R') /\
 (tB (decide (0 < ((Rf.dlst (x0.getD 5 D0)).length : Int))) = false ->
 Rf.isK .slc (x0.getD 6 D0) = true /\
 ∀ _ : Nat -> Nat, ∃ R', Holds Tryz.prog 88 [A.d (D.slc (Rf.dlst (x0.getD 6 D0))), A.d (D.lit (.bool false)), A.d (D.lit (.bool true))] [] R' /\
 (∀ v H', R' (.ret v) H' -> ∃ x1 : List (List D), v = A.d (D.slc x1) /\ H' = [] /\
 R (.ret (A.agg [x0.getD 0 D0, x0.getD 1 D0, x0.getD 2 D0, x0.getD 3 D0, x0.getD 4 D0, (D.slc ([] : List (List D))), D.slc x1, (D.slc ([] : List (List D))), x0.getD 8 D0])) []) /\
 PN R R')) /\
 (∀ (x1 : Int) (x2 : List (List D)) , I0_1 x1 x2 ->
 (tB (decide (x1 < ((Rf.dlst (x0.getD 5 D0)).length : Int))) = true ->
 tB (decide (0 <= x1)) = true /\
 tB (((gAt (Rf.dlst (x0.getD 5 D0)) x1).length : Int) == 9) = true /\
 ∀ _ : Nat -> Nat, ∃ R', Holds Tryz.prog 90 [A.agg (gAt (Rf.dlst (x0.getD 5 D0)) x1), A.d (D.lit (.bool false)), A.d (D.lit (.bool true))] [] R' /\
 (∀ v H', R' (.ret v) H' -> ∃ x3 : List D, v = A.agg x3 /\ H' = [] /\
 tB ((x3.length : Int) == 9) = true /\
 (Za2 9 [x3]) = true /\
 tB (decide ((((x2.length : Int) + ([x3].length : Int)) * 144) <= 140737488355328)) = true /\
 tB (decide (((x2.length : Int) + ([x3].length : Int)) <= 1099511627776)) = true /\
 tB (decide ((-9223372036854775808) <= (x1 + 1))) = true /\
 tB (decide ((x1 + 1) <= 9223372036854775807)) = true /\
 I0_1 (x1 + 1) (x2 ++ [x3]) /\ M0_1 (x1 + 1) (x2 ++ [x3]) < M0_1 x1 x2) /\
 PN R R') /\
 (tB (decide (x1 < ((Rf.dlst (x0.getD 5 D0)).length : Int))) = false ->
 Rf.isK .slc (x0.getD 6 D0) = true /\
 ∀ _ : Nat -> Nat, ∃ R', Holds Tryz.prog 88 [A.d (D.slc (Rf.dlst (x0.getD 6 D0))), A.d (D.lit (.bool false)), A.d (D.lit (.bool true))] [] R' /\
 (∀ v H', R' (.ret v) H' -> ∃ x3 : List (List D), v = A.d (D.slc x3) /\ H' = [] /\
 R (.ret (A.agg [x0.getD 0 D0, x0.getD 1 D0, x0.getD 2 D0, x0.getD 3 D0, x0.getD 4 D0, D.slc x2, D.slc x3, (D.slc ([] : List (List D))), x0.getD 8 D0])) []) /\
 PN R R')) /\
 True) :
 Holds Tryz.prog 90 [A.agg x0, A.d (D.lit (.bool false)), A.d (D.lit (.bool true))] [] R :=
 walk (c := ⟨Tryz.prog, 45, true, [0, 1, 2, 3, 6, 7, 9, 17, 19, 22, 23, 24, 25]⟩) (op := { lat := [11], com := [(4, (7, 1006)), (8, (7, 1006)), (12, (25, 5000)), (12, (9, 5000))] }) (fn := Tryz.f90) (args := [.agg (.var 0), .c (.o1 .cb (.bool false)), .c (.o1 .cb (.bool true))]) (K := []) (nv := 1) (depth := 6) (up := upOf []) (ρ := Zbi [.r x0])
  rfl rfl rfl rfl rfl (by decide) (by decide) (by decide) (by decide) rfl (by simp [Zac, RRef.den, upOf]) (T_of (by kernel_rfl) h)
end Go.Sy
end
section
open Go Go.Proofs Go.Ab Go.Rf
set_option maxRecDepth 1000000
set_option maxHeartbeats 2000000
set_option linter.unusedVariables false
namespace Go.Sy
theorem w40a {R : RT} (x0 : List D) (h : tB ((x0.length : Int) == 4) = true /\
 Rf.isK .slc (x0.getD 3 D0) = true /\
 Rf.isK .slc (x0.getD 2 D0) = true /\
 ∀ _ : Nat -> Nat, ∃ R', Holds Tryz.prog 91 [A.d (D.slc (Rf.dlst (x0.getD 2 D0)))] [] R' /\
 (∀ v H', R' (.ret v) H' -> ∃ x1 : List (List D), v = A.own 1 x1 ([] : List (List D)) /\ H' = [] /\
 (Za2 1 (Rf.dlst (x0.getD 3 D0))) = true /\
 tB (decide ((((x1.length : Int) + ((Rf.dlst (x0.getD 3 D0)).length : Int)) * 16) <= 140737488355328)) = true /\
 tB (decide (((x1.length : Int) + ((Rf.dlst (x0.getD 3 D0)).length : Int)) <= 1099511627776)) = true /\
 R (.ret (A.own 1 (x1 ++ (Rf.dlst (x0.getD 3 D0))) ([] : List (List D)))) []) /\
 PN R R') :
 Holds Tryz.prog 40 [A.agg x0] [] R :=
 walk (c := ⟨Tryz.prog, 9, true, [0, 1, 2]⟩) (op := { own := [(91, 1)], lat := [1] }) (fn := Tryz.f40) (args := [.agg (.var 0)]) (K := []) (nv := 1) (depth := 4) (up := upOf []) (ρ := Zbi [.r x0])
  rfl rfl rfl rfl rfl (by decide) (by decide) (by decide) (by decide) rfl (by simp [Zac, RRef.den, upOf]) (T_of (by kernel_rfl) h)
theorem w40b {R : RT} (x0 : List D) (h : tB ((x0.length : Int) == 4) = true /\
 Rf.isK .slc (x0.getD 3 D0) = true /\
 Rf.isK .slc (x0.getD 2 D0) = true /\
 ∀ _ : Nat -> Nat, ∃ R', Holds Tryz.prog 91 [A.d (D.slc (Rf.dlst (x0.getD 2 D0)))] [] R' /\
 (∀ v H', R' (.ret v) H' -> v = (A.zs ([] : List (List D))) /\ H' = [] /\
 (Za2 1 (Rf.dlst (x0.getD 3 D0))) = true /\
 tB (decide (((0 + ((Rf.dlst (x0.getD 3 D0)).length : Int)) * 16) <= 140737488355328)) = true /\
 tB (decide ((0 + ((Rf.dlst (x0.getD 3 D0)).length : Int)) <= 1099511627776)) = true /\
 (tB (((Rf.dlst (x0.getD 3 D0)).length : Int) == 0) = true ->
 R (.ret (A.zs ([] : List (List D)))) []) /\
 (tB (((Rf.dlst (x0.getD 3 D0)).length : Int) == 0) = false ->
 R (.ret (A.own 1 (([] : List (List D)) ++ (Rf.dlst (x0.getD 3 D0))) ([] : List (List D)))) [])) /\
 PN R R') :
 Holds Tryz.prog 40 [A.agg x0] [] R :=
 walk (c := ⟨Tryz.prog, 9, true, [0, 1, 2]⟩) (op := { lat := [1], zres := [91] }) (fn := Tryz.f40) (args := [.agg (.var 0)]) (K := []) (nv := 1) (depth := 4) (up := upOf []) (ρ := Zbi [.r x0])
  rfl rfl rfl rfl rfl (by decide) (by decide) (by decide) (by decide) rfl (by simp [Zac, RRef.den, upOf]) (T_of (by kernel_rfl) h)
theorem w91 {R : RT} (x0 : List (List D)) (h : ∃ (I0_0 : Int -> Prop) (M0_0 : Int -> Nat), ∃ (I0_1 : List (List D) -> Int -> Prop) (M0_1 : List (List D) -> Int -> Nat), I0_0 0 /\
 (∀ (x1 : Int) , I0_0 x1 ->
 (tB (decide (x1 < (x0.length : Int))) = true ->
 ∃ J1_0 : List (List D) -> Int -> Bool -> Prop, ∃ J1_1 : Int -> Prop, (tB (decide (0 <= x1)) = true /\
 tB (((gAt x0 x1).length : Int) == 11) = true /\
 Rf.isK .slc ((gAt x0 x1).getD 8 D0) = true /\
 (Za2 1 (Rf.dlst ((gAt x0 x1).getD 8 D0))) = true /\
 tB (decide (((0 + ((Rf.dlst ((gAt x0 x1).getD 8 D0)).length : Int)) * 16) <= 140737488355328)) = true /\
 tB (decide ((0 + ((Rf.dlst ((gAt x0 x1).getD 8 D0)).length : Int)) <= 1099511627776)) = true /\
 (tB (((Rf.dlst ((gAt x0 x1).getD 8 D0)).length : Int) == 0) = true ->
 ∃ J2_0 : Int -> Prop, ∃ J2_1 : List (List D) -> Int -> Prop, (Rf.isK .slc ((gAt x0 x1).getD 5 D0) = true /\
 ∃ (I3_0 : Int -> Prop) (M3_0 : Int -> Nat), ∃ (I3_1 : List (List D) -> Int -> Prop) (M3_1 : List (List D) -> Int -> Nat), I3_0 0 /\
 (∀ (x2 : Int) , I3_0 x2 ->
 (tB (decide (x2 < ((Rf.dlst ((gAt x0 x1).getD 5 D0)).length : Int))) = true ->
 tB (decide (0 <= x2)) = true /\
 tB (((gAt (Rf.dlst ((gAt x0 x1).getD 5 D0)) x2).length : Int) == 9) = true /\
 ∀ _ : Nat -> Nat, ∃ R', Holds Tryz.prog 108 [A.agg (gAt (Rf.dlst ((gAt x0 x1).getD 5 D0)) x2)] [] R' /\
 (∀ v H', R' (.ret v) H' -> ∃ x3 : List (List D), v = A.d (D.slc x3) /\ H' = [] /\
 (Za2 1 x3) = true /\
 tB (decide (((0 + (x3.length : Int)) * 16) <= 140737488355328)) = true /\
 tB (decide ((0 + (x3.length : Int)) <= 1099511627776)) = true /\
 (tB ((x3.length : Int) == 0) = true ->
 tB (decide ((-9223372036854775808) <= (x2 + 1))) = true /\
 tB (decide ((x2 + 1) <= 9223372036854775807)) = true /\
 I3_0 (x2 + 1) /\ M3_0 (x2 + 1) < M3_0 x2) /\
 (tB ((x3.length : Int) == 0) = false ->
 tB (decide ((-9223372036854775808) <= (x2 + 1))) = true /\
 tB (decide ((x2 + 1) <= 9223372036854775807)) = true /\
 I3_1 (([] : List (List D)) ++ x3) (x2 + 1) /\ M3_1 (([] : List (List D)) ++ x3) (x2 + 1) < M3_0 x2)) /\
 PN R R') /\
 (tB (decide (x2 < ((Rf.dlst ((gAt x0 x1).getD 5 D0)).length : Int))) = false ->
 J2_0 x2)) /\
 (∀ (x2 : List (List D)) (x3 : Int) , I3_1 x2 x3 ->
 (tB (decide (x3 < ((Rf.dlst ((gAt x0 x1).getD 5 D0)).length : Int))) = true ->
 tB (decide (0 <= x3)) = true /\
 tB (((gAt (Rf.dlst ((gAt x0 x1).getD 5 D0)) x3).length : Int) == 9) = true /\
 ∀ _ : Nat -> Nat, ∃ R', Holds Tryz.prog 108 [A.agg (gAt (Rf.dlst ((gAt x0 x1).getD 5 D0)) x3)] [] R' /\
 (∀ v H', R' (.ret v) H' -> ∃ x4 : List (List D), v = A.d (D.slc x4) /\ H' = [] /\
 (Za2 1 x4) = true /\
 tB (decide ((((x2.length : Int) + (x4.length : Int)) * 16) <= 140737488355328)) = true /\
 tB (decide (((x2.length : Int) + (x4.length : Int)) <= 1099511627776)) = true /\
 tB (decide ((-9223372036854775808) <= (x3 + 1))) = true /\
 tB (decide ((x3 + 1) <= 9223372036854775807)) = true /\
 I3_1 (x2 ++ x4) (x3 + 1) /\ M3_1 (x2 ++ x4) (x3 + 1) < M3_1 x2 x3) /\
 PN R R') /\
 (tB (decide (x3 < ((Rf.dlst ((gAt x0 x1).getD 5 D0)).length : Int))) = false ->
 J2_1 x2 x3)) /\
 True) /\
 (∀ (x2 : Int) , J2_0 x2 ->
 Rf.isK .slc ((gAt x0 x1).getD 6 D0) = true /\
 ∀ _ : Nat -> Nat, ∃ R', Holds Tryz.prog 91 [A.d (D.slc (Rf.dlst ((gAt x0 x1).getD 6 D0)))] [] R' /\
 (∀ v H', R' (.ret v) H' -> ∃ x3 : List (List D), v = A.d (D.slc x3) /\ H' = [] /\
 (Za2 1 x3) = true /\
 tB (decide (((0 + (x3.length : Int)) * 16) <= 140737488355328)) = true /\
 tB (decide ((0 + (x3.length : Int)) <= 1099511627776)) = true /\
 (tB ((x3.length : Int) == 0) = true ->
 Rf.isK .slc ((gAt x0 x1).getD 7 D0) = true /\
 (Za2 1 (Rf.dlst ((gAt x0 x1).getD 7 D0))) = true /\
 tB (decide (((0 + ((Rf.dlst ((gAt x0 x1).getD 7 D0)).length : Int)) * 16) <= 140737488355328)) = true /\
 tB (decide ((0 + ((Rf.dlst ((gAt x0 x1).getD 7 D0)).length : Int)) <= 1099511627776)) = true /\
 (tB (((Rf.dlst ((gAt x0 x1).getD 7 D0)).length : Int) == 0) = true ->
 Rf.isK .str ((gAt x0 x1).getD 9 D0) = true /\
 ((!(tB ((Rf.dstr ((gAt x0 x1).getD 9 D0)) == ([] : List UInt8)))) = true ->
 tB (decide (((0 + ([[D.lit (Zab (Rf.dstr ((gAt x0 x1).getD 9 D0)))]].length : Int)) * 16) <= 140737488355328)) = true /\
 tB (decide ((0 + ([[D.lit (Zab (Rf.dstr ((gAt x0 x1).getD 9 D0)))]].length : Int)) <= 1099511627776)) = true /\
 J1_0 [[D.lit (Zab (Rf.dstr ((gAt x0 x1).getD 9 D0)))]] x2 true) /\
 ((!(tB ((Rf.dstr ((gAt x0 x1).getD 9 D0)) == ([] : List UInt8)))) = false ->
 J1_1 x2)) /\
 (tB (((Rf.dlst ((gAt x0 x1).getD 7 D0)).length : Int) == 0) = false ->
 Rf.isK .str ((gAt x0 x1).getD 9 D0) = true /\
 ((!(tB ((Rf.dstr ((gAt x0 x1).getD 9 D0)) == ([] : List UInt8)))) = true ->
 tB (decide (((((([] : List (List D)) ++ (Rf.dlst ((gAt x0 x1).getD 7 D0))).length : Int) + ([[D.lit (Zab (Rf.dstr ((gAt x0 x1).getD 9 D0)))]].length : Int)) * 16) <= 140737488355328)) = true /\
 tB (decide ((((([] : List (List D)) ++ (Rf.dlst ((gAt x0 x1).getD 7 D0))).length : Int) + ([[D.lit (Zab (Rf.dstr ((gAt x0 x1).getD 9 D0)))]].length : Int)) <= 1099511627776)) = true /\
 J1_0 ((([] : List (List D)) ++ (Rf.dlst ((gAt x0 x1).getD 7 D0))) ++ [[D.lit (Zab (Rf.dstr ((gAt x0 x1).getD 9 D0)))]]) x2 true) /\
 ((!(tB ((Rf.dstr ((gAt x0 x1).getD 9 D0)) == ([] : List UInt8)))) = false ->
 J1_0 (([] : List (List D)) ++ (Rf.dlst ((gAt x0 x1).getD 7 D0))) x2 false))) /\
 (tB ((x3.length : Int) == 0) = false ->
 Rf.isK .slc ((gAt x0 x1).getD 7 D0) = true /\
 (Za2 1 (Rf.dlst ((gAt x0 x1).getD 7 D0))) = true /\
 tB (decide (((((([] : List (List D)) ++ x3).length : Int) + ((Rf.dlst ((gAt x0 x1).getD 7 D0)).length : Int)) * 16) <= 140737488355328)) = true /\
 tB (decide ((((([] : List (List D)) ++ x3).length : Int) + ((Rf.dlst ((gAt x0 x1).getD 7 D0)).length : Int)) <= 1099511627776)) = true /\
 Rf.isK .str ((gAt x0 x1).getD 9 D0) = true /\
 ((!(tB ((Rf.dstr ((gAt x0 x1).getD 9 D0)) == ([] : List UInt8)))) = true ->
 tB (decide ((((((([] : List (List D)) ++ x3) ++ (Rf.dlst ((gAt x0 x1).getD 7 D0))).length : Int) + ([[D.lit (Zab (Rf.dstr ((gAt x0 x1).getD 9 D0)))]].length : Int)) * 16) <= 140737488355328)) = true /\
 tB (decide (((((([] : List (List D)) ++ x3) ++ (Rf.dlst ((gAt x0 x1).getD 7 D0))).length : Int) + ([[D.lit (Zab (Rf.dstr ((gAt x0 x1).getD 9 D0)))]].length : Int)) <= 1099511627776)) = true /\
 J1_0 (((([] : List (List D)) ++ x3) ++ (Rf.dlst ((gAt x0 x1).getD 7 D0))) ++ [[D.lit (Zab (Rf.dstr ((gAt x0 x1).getD 9 D0)))]]) x2 true) /\
 ((!(tB ((Rf.dstr ((gAt x0 x1).getD 9 D0)) == ([] : List UInt8)))) = false ->
 J1_0 ((([] : List (List D)) ++ x3) ++ (Rf.dlst ((gAt x0 x1).getD 7 D0))) x2 false))) /\
 PN R R') /\
 (∀ (x2 : List (List D)) (x3 : Int) , J2_1 x2 x3 ->
 Rf.isK .slc ((gAt x0 x1).getD 6 D0) = true /\
 ∀ _ : Nat -> Nat, ∃ R', Holds Tryz.prog 91 [A.d (D.slc (Rf.dlst ((gAt x0 x1).getD 6 D0)))] [] R' /\
 (∀ v H', R' (.ret v) H' -> ∃ x4 : List (List D), v = A.d (D.slc x4) /\ H' = [] /\
 (Za2 1 x4) = true /\
 tB (decide ((((x2.length : Int) + (x4.length : Int)) * 16) <= 140737488355328)) = true /\
 tB (decide (((x2.length : Int) + (x4.length : Int)) <= 1099511627776)) = true /\
 Rf.isK .slc ((gAt x0 x1).getD 7 D0) = true /\
 (Za2 1 (Rf.dlst ((gAt x0 x1).getD 7 D0))) = true /\
 tB (decide (((((x2 ++ x4).length : Int) + ((Rf.dlst ((gAt x0 x1).getD 7 D0)).length : Int)) * 16) <= 140737488355328)) = true /\
 tB (decide ((((x2 ++ x4).length : Int) + ((Rf.dlst ((gAt x0 x1).getD 7 D0)).length : Int)) <= 1099511627776)) = true /\
 Rf.isK .str ((gAt x0 x1).getD 9 D0) = true /\
 ((!(tB ((Rf.dstr ((gAt x0 x1).getD 9 D0)) == ([] : List UInt8)))) = true ->
 tB (decide ((((((x2 ++ x4) ++ (Rf.dlst ((gAt x0 x1).getD 7 D0))).length : Int) + ([[D.lit (Zab (Rf.dstr ((gAt x0 x1).getD 9 D0)))]].length : Int)) * 16) <= 140737488355328)) = true /\
 tB (decide (((((x2 ++ x4) ++ (Rf.dlst ((gAt x0 x1).getD 7 D0))).length : Int) + ([[D.lit (Zab (Rf.dstr ((gAt x0 x1).getD 9 D0)))]].length : Int)) <= 1099511627776)) = true /\
 J1_0 (((x2 ++ x4) ++ (Rf.dlst ((gAt x0 x1).getD 7 D0))) ++ [[D.lit (Zab (Rf.dstr ((gAt x0 x1).getD 9 D0)))]]) x3 true) /\
 ((!(tB ((Rf.dstr ((gAt x0 x1).getD 9 D0)) == ([] : List UInt8)))) = false ->
 J1_0 ((x2 ++ x4) ++ (Rf.dlst ((gAt x0 x1).getD 7 D0))) x3 false)) /\
 PN R R') /\
 True) /\
 (tB (((Rf.dlst ((gAt x0 x1).getD 8 D0)).length : Int) == 0) = false ->
 ∃ J2_0 : List (List D) -> Int -> Prop, (Rf.isK .slc ((gAt x0 x1).getD 5 D0) = true /\
 ∃ (I3_0 : List (List D) -> Int -> Prop) (M3_0 : List (List D) -> Int -> Nat), I3_0 (([] : List (List D)) ++ (Rf.dlst ((gAt x0 x1).getD 8 D0))) 0 /\
 (∀ (x2 : List (List D)) (x3 : Int) , I3_0 x2 x3 ->
 (tB (decide (x3 < ((Rf.dlst ((gAt x0 x1).getD 5 D0)).length : Int))) = true ->
 tB (decide (0 <= x3)) = true /\
 tB (((gAt (Rf.dlst ((gAt x0 x1).getD 5 D0)) x3).length : Int) == 9) = true /\
 ∀ _ : Nat -> Nat, ∃ R', Holds Tryz.prog 108 [A.agg (gAt (Rf.dlst ((gAt x0 x1).getD 5 D0)) x3)] [] R' /\
 (∀ v H', R' (.ret v) H' -> ∃ x4 : List (List D), v = A.d (D.slc x4) /\ H' = [] /\
 (Za2 1 x4) = true /\
 tB (decide ((((x2.length : Int) + (x4.length : Int)) * 16) <= 140737488355328)) = true /\
 tB (decide (((x2.length : Int) + (x4.length : Int)) <= 1099511627776)) = true /\
 tB (decide ((-9223372036854775808) <= (x3 + 1))) = true /\
 tB (decide ((x3 + 1) <= 9223372036854775807)) = true /\
 I3_0 (x2 ++ x4) (x3 + 1) /\ M3_0 (x2 ++ x4) (x3 + 1) < M3_0 x2 x3) /\
 PN R R') /\
 (tB (decide (x3 < ((Rf.dlst ((gAt x0 x1).getD 5 D0)).length : Int))) = false ->
 J2_0 x2 x3)) /\
 True) /\
 (∀ (x2 : List (List D)) (x3 : Int) , J2_0 x2 x3 ->
 Rf.isK .slc ((gAt x0 x1).getD 6 D0) = true /\
 ∀ _ : Nat -> Nat, ∃ R', Holds Tryz.prog 91 [A.d (D.slc (Rf.dlst ((gAt x0 x1).getD 6 D0)))] [] R' /\
 (∀ v H', R' (.ret v) H' -> ∃ x4 : List (List D), v = A.d (D.slc x4) /\ H' = [] /\
 (Za2 1 x4) = true /\
 tB (decide ((((x2.length : Int) + (x4.length : Int)) * 16) <= 140737488355328)) = true /\
 tB (decide (((x2.length : Int) + (x4.length : Int)) <= 1099511627776)) = true /\
 Rf.isK .slc ((gAt x0 x1).getD 7 D0) = true /\
 (Za2 1 (Rf.dlst ((gAt x0 x1).getD 7 D0))) = true /\
 tB (decide (((((x2 ++ x4).length : Int) + ((Rf.dlst ((gAt x0 x1).getD 7 D0)).length : Int)) * 16) <= 140737488355328)) = true /\
 tB (decide ((((x2 ++ x4).length : Int) + ((Rf.dlst ((gAt x0 x1).getD 7 D0)).length : Int)) <= 1099511627776)) = true /\
 Rf.isK .str ((gAt x0 x1).getD 9 D0) = true /\
 ((!(tB ((Rf.dstr ((gAt x0 x1).getD 9 D0)) == ([] : List UInt8)))) = true ->
 tB (decide ((((((x2 ++ x4) ++ (Rf.dlst ((gAt x0 x1).getD 7 D0))).length : Int) + ([[D.lit (Zab (Rf.dstr ((gAt x0 x1).getD 9 D0)))]].length : Int)) * 16) <= 140737488355328)) = true /\
 tB (decide (((((x2 ++ x4) ++ (Rf.dlst ((gAt x0 x1).getD 7 D0))).length : Int) + ([[D.lit (Zab (Rf.dstr ((gAt x0 x1).getD 9 D0)))]].length : Int)) <= 1099511627776)) = true /\
 J1_0 (((x2 ++ x4) ++ (Rf.dlst ((gAt x0 x1).getD 7 D0))) ++ [[D.lit (Zab (Rf.dstr ((gAt x0 x1).getD 9 D0)))]]) x3 true) /\
 ((!(tB ((Rf.dstr ((gAt x0 x1).getD 9 D0)) == ([] : List UInt8)))) = false ->
 J1_0 ((x2 ++ x4) ++ (Rf.dlst ((gAt x0 x1).getD 7 D0))) x3 false)) /\
 PN R R') /\
 True)) /\
 (∀ (x2 : List (List D)) (x3 : Int) (x4 : Bool) , J1_0 x2 x3 x4 ->
 tB (decide ((-9223372036854775808) <= (x1 + 1))) = true /\
 tB (decide ((x1 + 1) <= 9223372036854775807)) = true /\
 I0_1 x2 (x1 + 1) /\ M0_1 x2 (x1 + 1) < M0_0 x1) /\
 (∀ (x2 : Int) , J1_1 x2 ->
 tB (decide ((-9223372036854775808) <= (x1 + 1))) = true /\
 tB (decide ((x1 + 1) <= 9223372036854775807)) = true /\
 I0_0 (x1 + 1) /\ M0_0 (x1 + 1) < M0_0 x1) /\
 True) /\
 (tB (decide (x1 < (x0.length : Int))) = false ->
 R (.ret (A.zs ([] : List (List D)))) [])) /\
 (∀ (x1 : List (List D)) (x2 : Int) , I0_1 x1 x2 ->
 (tB (decide (x2 < (x0.length : Int))) = true ->
 ∃ J1_0 : List (List D) -> Int -> Bool -> Prop, (tB (decide (0 <= x2)) = true /\
 tB (((gAt x0 x2).length : Int) == 11) = true /\
 Rf.isK .slc ((gAt x0 x2).getD 8 D0) = true /\
 (Za2 1 (Rf.dlst ((gAt x0 x2).getD 8 D0))) = true /\
 tB (decide ((((x1.length : Int) + ((Rf.dlst ((gAt x0 x2).getD 8 D0)).length : Int)) * 16) <= 140737488355328)) = true /\
 tB (decide (((x1.length : Int) + ((Rf.dlst ((gAt x0 x2).getD 8 D0)).length : Int)) <= 1099511627776)) = true /\
 ∃ J2_0 : List (List D) -> Int -> Prop, (Rf.isK .slc ((gAt x0 x2).getD 5 D0) = true /\
 ∃ (I3_0 : List (List D) -> Int -> Prop) (M3_0 : List (List D) -> Int -> Nat), I3_0 (x1 ++ (Rf.dlst ((gAt x0 x2).getD 8 D0))) 0 /\
 (∀ (x3 : List (List D)) (x4 : Int) , I3_0 x3 x4 ->
 (tB (decide (x4 < ((Rf.dlst ((gAt x0 x2).getD 5 D0)).length : Int))) = true ->
 tB (decide (0 <= x4)) = true /\
 tB (((gAt (Rf.dlst ((gAt x0 x2).getD 5 D0)) x4).length : Int) == 9) = true /\
 ∀ _ : Nat -> Nat, ∃ R', Holds Tryz.prog 108 [A.agg (gAt (Rf.dlst ((gAt x0 x2).getD 5 D0)) x4)] [] R' /\
 (∀ v H', R' (.ret v) H' -> ∃ x5 : List (List D), v = A.d (D.slc x5) /\ H' = [] /\
 (Za2 1 x5) = true /\
 tB (decide ((((x3.length : Int) + (x5.length : Int)) * 16) <= 140737488355328)) = true /\
 tB (decide (((x3.length : Int) + (x5.length : Int)) <= 1099511627776)) = true /\
 tB (decide ((-9223372036854775808) <= (x4 + 1))) = true /\
 tB (decide ((x4 + 1) <= 9223372036854775807)) = true /\
 I3_0 (x3 ++ x5) (x4 + 1) /\ M3_0 (x3 ++ x5) (x4 + 1) < M3_0 x3 x4) /\
 PN R R') /\
 (tB (decide (x4 < ((Rf.dlst ((gAt x0 x2).getD 5 D0)).length : Int))) = false ->
 J2_0 x3 x4)) /\
 True) /\
 (∀ (x3 : List (List D)) (x4 : Int) , J2_0 x3 x4 ->
 Rf.isK .slc ((gAt x0 x2).getD 6 D0) = true /\
 ∀ _ : Nat -> Nat, ∃ R', Holds Tryz.prog 91 [A.d (D.slc (Rf.dlst ((gAt x0 x2).getD 6 D0)))] [] R' /\
 (∀ v H', R' (.ret v) H' -> ∃ x5 : List (List D), v = A.d (D.slc x5) /\ H' = [] /\
 (Za2 1 x5) = true /\
 tB (decide ((((x3.length : Int) + (x5.length : Int)) * 16) <= 140737488355328)) = true /\
 tB (decide (((x3.length : Int) + (x5.length : Int)) <= 1099511627776)) = true /\
 Rf.isK .slc ((gAt x0 x2).getD 7 D0) = true /\
 (Za2 1 (Rf.dlst ((gAt x0 x2).getD 7 D0))) = true /\
 tB (decide (((((x3 ++ x5).length : Int) + ((Rf.dlst ((gAt x0 x2).getD 7 D0)).length : Int)) * 16) <= 140737488355328)) = true /\
 tB (decide ((((x3 ++ x5).length : Int) + ((Rf.dlst ((gAt x0 x2).getD 7 D0)).length : Int)) <= 1099511627776)) = true /\
 Rf.isK .str ((gAt x0 x2).getD 9 D0) = true /\
 ((!(tB ((Rf.dstr ((gAt x0 x2).getD 9 D0)) == ([] : List UInt8)))) = true ->
 tB (decide ((((((x3 ++ x5) ++ (Rf.dlst ((gAt x0 x2).getD 7 D0))).length : Int) + ([[D.lit (Zab (Rf.dstr ((gAt x0 x2).getD 9 D0)))]].length : Int)) * 16) <= 140737488355328)) = true /\
 tB (decide (((((x3 ++ x5) ++ (Rf.dlst ((gAt x0 x2).getD 7 D0))).length : Int) + ([[D.lit (Zab (Rf.dstr ((gAt x0 x2).getD 9 D0)))]].length : Int)) <= 1099511627776)) = true /\
 J1_0 (((x3 ++ x5) ++ (Rf.dlst ((gAt x0 x2).getD 7 D0))) ++ [[D.lit (Zab (Rf.dstr ((gAt x0 x2).getD 9 D0)))]]) x4 true) /\
 ((!(tB ((Rf.dstr ((gAt x0 x2).getD 9 D0)) == ([] : List UInt8)))) = false ->
 J1_0 ((x3 ++ x5) ++ (Rf.dlst ((gAt x0 x2).getD 7 D0))) x4 false)) /\
 PN R R') /\
 True) /\
 (∀ (x3 : List (List D)) (x4 : Int) (x5 : Bool) , J1_0 x3 x4 x5 ->
 tB (decide ((-9223372036854775808) <= (x2 + 1))) = true /\
 tB (decide ((x2 + 1) <= 9223372036854775807)) = true /\
 I0_1 x3 (x2 + 1) /\ M0_1 x3 (x2 + 1) < M0_1 x1 x2) /\
 True) /\
 (tB (decide (x2 < (x0.length : Int))) = false ->
 R (.ret (A.own 1 x1 ([] : List (List D)))) [])) /\
 True) :
 Holds Tryz.prog 91 [A.d (D.slc x0)] [] R :=
 walk (c := ⟨Tryz.prog, 49, true, [0, 2, 3, 5, 7, 8, 9, 10, 11, 19, 20, 21, 22, 41]⟩) (op := { cuts := [11, 15], fresh := [48], com := [(15, (11, 5000)), (15, (5, 5000)), (15, (19, 5000)), (15, (20, 5000)), (15, (21, 5000)), (15, (22, 5000)), (15, (7, 5000)), (15, (41, 5000)), (10, (22, 5000)), (10, (7, 5000))] }) (fn := Tryz.f91) (args := [.c (.o1 .cl (.var 0))]) (K := []) (nv := 1) (depth := 6) (up := upOf []) (ρ := Zbi [.l x0])
  rfl rfl rfl rfl rfl (by decide) (by decide) (by decide) (by decide) rfl (by simp [Zac, RRef.den, upOf]) (T_of (by kernel_rfl) h)
theorem w108 {R : RT} (x0 : List D) (h : tB ((x0.length : Int) == 9) = true /\
 Rf.isK .slc (x0.getD 5 D0) = true /\
 ∃ (I0_0 : Int -> Prop) (M0_0 : Int -> Nat), ∃ (I0_1 : List (List D) -> Int -> Prop) (M0_1 : List (List D) -> Int -> Nat), I0_0 0 /\
 (∀ (x1 : Int) , I0_0 x1 ->
 (tB (decide (x1 < ((Rf.dlst (x0.getD 5 D0)).length : Int))) = true ->
 tB (decide (0 <= x1)) = true /\
 tB (((gAt (Rf.dlst (x0.getD 5 D0)) x1).length : Int) == 9) = true /\
 ∀ _ : Nat -> Nat, ∃ R', Holds Tryz.prog 108 [A.agg (gAt (Rf.dlst (x0.getD 5 D0)) x1)] [] R' /\
 (∀ v H', R' (.ret v) H' -> ∃ x2 : List (List D), v = A.d (D.slc x2) /\ H' = [] /\
 (Za2 1 x2) = true /\
 tB (decide (((0 + (x2.length : Int)) * 16) <= 140737488355328)) = true /\
 tB (decide ((0 + (x2.length : Int)) <= 1099511627776)) = true /\
 (tB ((x2.length : Int) == 0) = true ->
 tB (decide ((-9223372036854775808) <= (x1 + 1))) = true /\
 tB (decide ((x1 + 1) <= 9223372036854775807)) = true /\
 I0_0 (x1 + 1) /\ M0_0 (x1 + 1) < M0_0 x1) /\
 (tB ((x2.length : Int) == 0) = false ->
 tB (decide ((-9223372036854775808) <= (x1 + 1))) = true /\
 tB (decide ((x1 + 1) <= 9223372036854775807)) = true /\
 I0_1 (([] : List (List D)) ++ x2) (x1 + 1) /\ M0_1 (([] : List (List D)) ++ x2) (x1 + 1) < M0_0 x1)) /\
 PN R R') /\
 (tB (decide (x1 < ((Rf.dlst (x0.getD 5 D0)).length : Int))) = false ->
 Rf.isK .slc (x0.getD 6 D0) = true /\
 ∀ _ : Nat -> Nat, ∃ R', Holds Tryz.prog 91 [A.d (D.slc (Rf.dlst (x0.getD 6 D0)))] [] R' /\
 (∀ v H', R' (.ret v) H' -> ∃ x2 : List (List D), v = A.d (D.slc x2) /\ H' = [] /\
 (Za2 1 x2) = true /\
 tB (decide (((0 + (x2.length : Int)) * 16) <= 140737488355328)) = true /\
 tB (decide ((0 + (x2.length : Int)) <= 1099511627776)) = true /\
 (tB ((x2.length : Int) == 0) = true ->
 Rf.isK .slc (x0.getD 7 D0) = true /\
 (Za2 1 (Rf.dlst (x0.getD 7 D0))) = true /\
 tB (decide (((0 + ((Rf.dlst (x0.getD 7 D0)).length : Int)) * 16) <= 140737488355328)) = true /\
 tB (decide ((0 + ((Rf.dlst (x0.getD 7 D0)).length : Int)) <= 1099511627776)) = true /\
 (tB (((Rf.dlst (x0.getD 7 D0)).length : Int) == 0) = true ->
 R (.ret (A.zs ([] : List (List D)))) []) /\
 (tB (((Rf.dlst (x0.getD 7 D0)).length : Int) == 0) = false ->
 R (.ret (A.own 1 (([] : List (List D)) ++ (Rf.dlst (x0.getD 7 D0))) ([] : List (List D)))) [])) /\
 (tB ((x2.length : Int) == 0) = false ->
 Rf.isK .slc (x0.getD 7 D0) = true /\
 (Za2 1 (Rf.dlst (x0.getD 7 D0))) = true /\
 tB (decide (((((([] : List (List D)) ++ x2).length : Int) + ((Rf.dlst (x0.getD 7 D0)).length : Int)) * 16) <= 140737488355328)) = true /\
 tB (decide ((((([] : List (List D)) ++ x2).length : Int) + ((Rf.dlst (x0.getD 7 D0)).length : Int)) <= 1099511627776)) = true /\
 R (.ret (A.own 1 ((([] : List (List D)) ++ x2) ++ (Rf.dlst (x0.getD 7 D0))) ([] : List (List D)))) [])) /\
 PN R R')) /\
 (∀ (x1 : List (List D)) (x2 : Int) , I0_1 x1 x2 ->
 (tB (decide (x2 < ((Rf.dlst (x0.getD 5 D0)).length : Int))) = true ->
 tB (decide (0 <= x2)) = true /\
 tB (((gAt (Rf.dlst (x0.getD 5 D0)) x2).length : Int) == 9) = true /\
 ∀ _ : Nat -> Nat, ∃ R', Holds Tryz.prog 108 [A.agg (gAt (Rf.dlst (x0.getD 5 D0)) x2)] [] R' /\
 (∀ v H', R' (.ret v) H' -> ∃ x3 : List (List D), v = A.d (D.slc x3) /\ H' = [] /\
 (Za2 1 x3) = true /\
 tB (decide ((((x1.length : Int) + (x3.length : Int)) * 16) <= 140737488355328)) = true /\
 tB (decide (((x1.length : Int) + (x3.length : Int)) <= 1099511627776)) = true /\
 tB (decide ((-9223372036854775808) <= (x2 + 1))) = true /\
 tB (decide ((x2 + 1) <= 9223372036854775807)) = true /\
 I0_1 (x1 ++ x3) (x2 + 1) /\ M0_1 (x1 ++ x3) (x2 + 1) < M0_1 x1 x2) /\
 PN R R') /\
 (tB (decide (x2 < ((Rf.dlst (x0.getD 5 D0)).length : Int))) = false ->
 Rf.isK .slc (x0.getD 6 D0) = true /\
 ∀ _ : Nat -> Nat, ∃ R', Holds Tryz.prog 91 [A.d (D.slc (Rf.dlst (x0.getD 6 D0)))] [] R' /\
 (∀ v H', R' (.ret v) H' -> ∃ x3 : List (List D), v = A.d (D.slc x3) /\ H' = [] /\
 (Za2 1 x3) = true /\
 tB (decide ((((x1.length : Int) + (x3.length : Int)) * 16) <= 140737488355328)) = true /\
 tB (decide (((x1.length : Int) + (x3.length : Int)) <= 1099511627776)) = true /\
 Rf.isK .slc (x0.getD 7 D0) = true /\
 (Za2 1 (Rf.dlst (x0.getD 7 D0))) = true /\
 tB (decide (((((x1 ++ x3).length : Int) + ((Rf.dlst (x0.getD 7 D0)).length : Int)) * 16) <= 140737488355328)) = true /\
 tB (decide ((((x1 ++ x3).length : Int) + ((Rf.dlst (x0.getD 7 D0)).length : Int)) <= 1099511627776)) = true /\
 R (.ret (A.own 1 ((x1 ++ x3) ++ (Rf.dlst (x0.getD 7 D0))) ([] : List (List D)))) []) /\
 PN R R')) /\
 True) :
 Holds Tryz.prog 108 [A.agg x0] [] R :=
 walk (c := ⟨Tryz.prog, 27, true, [0, 1, 2, 3, 5, 7, 8, 9, 10]⟩) (op := { com := [(6, (10, 5000)), (6, (5, 5000))] }) (fn := Tryz.f108) (args := [.agg (.var 0)]) (K := []) (nv := 1) (depth := 5) (up := upOf []) (ρ := Zbi [.r x0])
  rfl rfl rfl rfl rfl (by decide) (by decide) (by decide) (by decide) rfl (by simp [Zac, RRef.den, upOf]) (T_of (by kernel_rfl) h)
end Go.Sy
end
section
open Go Go.Proofs Go.Ab Go.Rf
set_option maxRecDepth 1000000
set_option maxHeartbeats 2000000
set_option linter.unusedVariables false
namespace Go.Sy
theorem w31 {R : RT} (x0 : List D) (h : tB ((x0.length : Int) == 4) = true /\
 Rf.isK .slc (x0.getD 2 D0) = true /\
 ∀ ν : Nat -> Nat, ∃ R', Holds Tryz.prog 87 [A.d (D.slc (Rf.dlst (x0.getD 2 D0))), A.ptr (.up (Ref.own 4 (ν 4))) 0, A.ptr (.up (Ref.own 5 (ν 5))) 0, A.ptr (.up (Ref.own 6 (ν 6))) 0] [(Ref.up (Ref.own 4 (ν 4)), [A.fn 85 [.up (Ref.own 3 (ν 3))]]), (Ref.up (Ref.own 3 (ν 3)), [(A.zs ([] : List (List D)))]), (Ref.up (Ref.own 5 (ν 5)), [A.fn 86 [.up (Ref.own 5 (ν 5)), .up (Ref.own 6 (ν 6)), .up (Ref.own 4 (ν 4))]]), (Ref.up (Ref.own 6 (ν 6)), [A.fn 87 [.up (Ref.own 4 (ν 4)), .up (Ref.own 5 (ν 5)), .up (Ref.own 6 (ν 6))]])] R' /\
 (∀ v H', R' (.ret v) H' -> (v = (A.tup []) /\ H' = [(Ref.up (Ref.own 4 (ν 4)), [A.fn 85 [.up (Ref.own 3 (ν 3))]]), (Ref.up (Ref.own 3 (ν 3)), [(A.zs ([] : List (List D)))]), (Ref.up (Ref.own 5 (ν 5)), [A.fn 86 [.up (Ref.own 5 (ν 5)), .up (Ref.own 6 (ν 6)), .up (Ref.own 4 (ν 4))]]), (Ref.up (Ref.own 6 (ν 6)), [A.fn 87 [.up (Ref.own 4 (ν 4)), .up (Ref.own 5 (ν 5)), .up (Ref.own 6 (ν 6))]])] /\
 Rf.isK .slc (x0.getD 3 D0) = true /\
 ∀ ν : Nat -> Nat, ∃ R', Holds Tryz.prog 85 [A.d (D.slc (Rf.dlst (x0.getD 3 D0))), A.ptr (.up (Ref.own 3 (ν 3))) 0] [(Ref.up (Ref.own 3 (ν 3)), [(A.zs ([] : List (List D)))])] R' /\
 (∀ v H', R' (.ret v) H' -> (v = (A.tup []) /\ H' = [(Ref.up (Ref.own 3 (ν 3)), [(A.zs ([] : List (List D)))])] /\
 R (.ret (A.zs ([] : List (List D)))) []) \/
 (∃ x1 : List (List D), v = A.tup [] /\ H' = [(Ref.up (Ref.own 3 (ν 3)), [(A.own 1 x1 ([] : List (List D)))])] /\
 R (.ret (A.d (D.slc x1))) [])) /\
 (∀ x1v H', R' (.pan x1v) H' -> ∃ x2 : List (List D), H' = [(Ref.up (Ref.own 3 (ν 3)), [A.zs x2])] /\
 R (.pan x1v) [])) \/
 (∃ x1 : List (List D), v = A.tup [] /\ H' = [(Ref.up (Ref.own 4 (ν 4)), [A.fn 85 [.up (Ref.own 3 (ν 3))]]), (Ref.up (Ref.own 3 (ν 3)), [(A.own 1 x1 ([] : List (List D)))]), (Ref.up (Ref.own 5 (ν 5)), [A.fn 86 [.up (Ref.own 5 (ν 5)), .up (Ref.own 6 (ν 6)), .up (Ref.own 4 (ν 4))]]), (Ref.up (Ref.own 6 (ν 6)), [A.fn 87 [.up (Ref.own 4 (ν 4)), .up (Ref.own 5 (ν 5)), .up (Ref.own 6 (ν 6))]])] /\
 Rf.isK .slc (x0.getD 3 D0) = true /\
 ∀ ν : Nat -> Nat, ∃ R', Holds Tryz.prog 85 [A.d (D.slc (Rf.dlst (x0.getD 3 D0))), A.ptr (.up (Ref.own 3 (ν 3))) 0] [(Ref.up (Ref.own 3 (ν 3)), [(A.own 1 x1 ([] : List (List D)))])] R' /\
 (∀ v H', R' (.ret v) H' -> ∃ x2 : List (List D), v = A.tup [] /\ H' = [(Ref.up (Ref.own 3 (ν 3)), [(A.own 1 x2 ([] : List (List D)))])] /\
 R (.ret (A.d (D.slc x2))) []) /\
 (∀ x2v H', R' (.pan x2v) H' -> ∃ x3 : List (List D), H' = [(Ref.up (Ref.own 3 (ν 3)), [(A.own 1 x3 ([] : List (List D)))])] /\
 R (.pan x2v) []))) /\
 (∀ x1v H', R' (.pan x1v) H' -> ∃ x2 : List (List D), H' = [(Ref.up (Ref.own 4 (ν 4)), [A.fn 85 [.up (Ref.own 3 (ν 3))]]), (Ref.up (Ref.own 3 (ν 3)), [A.zs x2]), (Ref.up (Ref.own 5 (ν 5)), [A.fn 86 [.up (Ref.own 5 (ν 5)), .up (Ref.own 6 (ν 6)), .up (Ref.own 4 (ν 4))]]), (Ref.up (Ref.own 6 (ν 6)), [A.fn 87 [.up (Ref.own 4 (ν 4)), .up (Ref.own 5 (ν 5)), .up (Ref.own 6 (ν 6))]])] /\
 R (.pan x1v) [])) :
 Holds Tryz.prog 31 [A.agg x0] [] R :=
 walk (c := ⟨Tryz.prog, 19, true, [0, 1, 2, 3, 4, 5, 6]⟩) (op := { two := [(70, 1), (72, 1), (85, 1), (86, 1), (87, 1)] }) (fn := Tryz.f31) (args := [.agg (.var 0)]) (K := []) (nv := 1) (depth := 5) (up := upOf []) (ρ := Zbi [.r x0])
  rfl rfl rfl rfl rfl (by decide) (by decide) (by decide) (by decide) rfl (by simp [Zac, RRef.den, upOf]) (T_of (by kernel_rfl) h)
theorem w85a {R : RT} (x0 : List (List D)) (q0 : Ref) (h : (Za2 1 x0) = true /\
 tB (decide (((0 + (x0.length : Int)) * 16) <= 140737488355328)) = true /\
 tB (decide ((0 + (x0.length : Int)) <= 1099511627776)) = true /\
 (tB ((x0.length : Int) == 0) = true ->
 R (.ret (A.tup [])) [((Ref.up q0), [(A.zs ([] : List (List D)))])]) /\
 (tB ((x0.length : Int) == 0) = false ->
 R (.ret (A.tup [])) [((Ref.up q0), [(A.own 1 (([] : List (List D)) ++ x0) ([] : List (List D)))])])) :
 Holds Tryz.prog 85 [A.d (D.slc x0), A.ptr (Ref.up q0) 0] [((Ref.up q0), [(A.zs ([] : List (List D)))])] R :=
 walk (c := ⟨Tryz.prog, 6, true, [0, 1]⟩) (op := {}) (fn := Tryz.f85) (args := [.c (.o1 .cl (.var 0)), .ptr (.up 0) 0]) (K := [(.up 0, [.zs .lnil])]) (nv := 1) (depth := 3) (up := upOf [q0]) (ρ := Zbi [.l x0])
  rfl rfl rfl rfl rfl (by decide) (by decide) (by decide) (by decide) rfl (by simp [Zac, RRef.den, upOf]) (T_of (by kernel_rfl) h)
theorem w85b {R : RT} (x0 : List (List D)) (x1 : List (List D)) (q0 : Ref) (h : (Za2 1 x0) = true /\
 tB (decide ((((x1.length : Int) + (x0.length : Int)) * 16) <= 140737488355328)) = true /\
 tB (decide (((x1.length : Int) + (x0.length : Int)) <= 1099511627776)) = true /\
 R (.ret (A.tup [])) [((Ref.up q0), [(A.own 1 (x1 ++ x0) ([] : List (List D)))])]) :
 Holds Tryz.prog 85 [A.d (D.slc x0), A.ptr (Ref.up q0) 0] [((Ref.up q0), [(A.own 1 x1 ([] : List (List D)))])] R :=
 walk (c := ⟨Tryz.prog, 6, true, [0, 1]⟩) (op := {}) (fn := Tryz.f85) (args := [.c (.o1 .cl (.var 0)), .ptr (.up 0) 0]) (K := [(.up 0, [.own 1 (.var 1) .lnil])]) (nv := 2) (depth := 3) (up := upOf [q0]) (ρ := Zbi [.l x0, .l x1])
  rfl rfl rfl rfl rfl (by decide) (by decide) (by decide) (by decide) rfl (by simp [Zac, RRef.den, upOf]) (T_of (by kernel_rfl) h)
theorem w86a {R : RT} (x0 : List D) (q0 q1 q2 q3 : Ref) (hq01 : q0 ≠ q1) (hq02 : q0 ≠ q2) (hq12 : q1 ≠ q2) (hq03 : q0 ≠ q3) (hq13 : q1 ≠ q3) (hq23 : q2 ≠ q3) (h : tB ((x0.length : Int) == 9) = true /\
 Rf.isK .slc (x0.getD 5 D0) = true /\
 ∃ (I0_0 : Int -> Prop) (M0_0 : Int -> Nat), ∃ (I0_1 : Int -> List (List D) -> Prop) (M0_1 : Int -> List (List D) -> Nat), I0_0 0 /\
 (∀ (x1 : Int) , I0_0 x1 ->
 (tB (decide (x1 < ((Rf.dlst (x0.getD 5 D0)).length : Int))) = true ->
 tB (decide (0 <= x1)) = true /\
 tB (((gAt (Rf.dlst (x0.getD 5 D0)) x1).length : Int) == 9) = true /\
 ∀ _ : Nat -> Nat, ∃ R', Holds Tryz.prog 86 [A.agg (gAt (Rf.dlst (x0.getD 5 D0)) x1), A.ptr (.up (Ref.up q0)) 0, A.ptr (.up (Ref.up q1)) 0, A.ptr (.up (Ref.up q2)) 0] [(Ref.up (Ref.up q0), [A.fn 86 [.up (Ref.up q0), .up (Ref.up q1), .up (Ref.up q2)]]), (Ref.up (Ref.up q1), [A.fn 87 [.up (Ref.up q2), .up (Ref.up q0), .up (Ref.up q1)]]), (Ref.up (Ref.up q2), [A.fn 85 [.up (Ref.up q3)]]), (Ref.up (Ref.up q3), [(A.zs ([] : List (List D)))])] R' /\
 (∀ v H', R' (.ret v) H' -> (v = (A.tup []) /\ H' = [(Ref.up (Ref.up q0), [A.fn 86 [.up (Ref.up q0), .up (Ref.up q1), .up (Ref.up q2)]]), (Ref.up (Ref.up q1), [A.fn 87 [.up (Ref.up q2), .up (Ref.up q0), .up (Ref.up q1)]]), (Ref.up (Ref.up q2), [A.fn 85 [.up (Ref.up q3)]]), (Ref.up (Ref.up q3), [(A.zs ([] : List (List D)))])] /\
 tB (decide ((-9223372036854775808) <= (x1 + 1))) = true /\
 tB (decide ((x1 + 1) <= 9223372036854775807)) = true /\
 I0_0 (x1 + 1) /\ M0_0 (x1 + 1) < M0_0 x1) \/
 (∃ x2 : List (List D), v = A.tup [] /\ H' = [(Ref.up (Ref.up q0), [A.fn 86 [.up (Ref.up q0), .up (Ref.up q1), .up (Ref.up q2)]]), (Ref.up (Ref.up q1), [A.fn 87 [.up (Ref.up q2), .up (Ref.up q0), .up (Ref.up q1)]]), (Ref.up (Ref.up q2), [A.fn 85 [.up (Ref.up q3)]]), (Ref.up (Ref.up q3), [(A.own 1 x2 ([] : List (List D)))])] /\
 tB (decide ((-9223372036854775808) <= (x1 + 1))) = true /\
 tB (decide ((x1 + 1) <= 9223372036854775807)) = true /\
 I0_1 (x1 + 1) x2 /\ M0_1 (x1 + 1) x2 < M0_0 x1)) /\
 (∀ x2v H', R' (.pan x2v) H' -> ∃ x3 : List (List D), H' = [(Ref.up (Ref.up q0), [A.fn 86 [.up (Ref.up q0), .up (Ref.up q1), .up (Ref.up q2)]]), (Ref.up (Ref.up q1), [A.fn 87 [.up (Ref.up q2), .up (Ref.up q0), .up (Ref.up q1)]]), (Ref.up (Ref.up q2), [A.fn 85 [.up (Ref.up q3)]]), (Ref.up (Ref.up q3), [A.zs x3])] /\
 R (.pan x2v) [((Ref.up q0), [A.fn 86 [Ref.up q0, Ref.up q1, Ref.up q2]]), ((Ref.up q1), [A.fn 87 [Ref.up q2, Ref.up q0, Ref.up q1]]), ((Ref.up q2), [A.fn 85 [Ref.up q3]]), ((Ref.up q3), [A.zs x3])])) /\
 (tB (decide (x1 < ((Rf.dlst (x0.getD 5 D0)).length : Int))) = false ->
 Rf.isK .slc (x0.getD 6 D0) = true /\
 ∀ _ : Nat -> Nat, ∃ R', Holds Tryz.prog 87 [A.d (D.slc (Rf.dlst (x0.getD 6 D0))), A.ptr (.up (Ref.up q2)) 0, A.ptr (.up (Ref.up q0)) 0, A.ptr (.up (Ref.up q1)) 0] [(Ref.up (Ref.up q2), [A.fn 85 [.up (Ref.up q3)]]), (Ref.up (Ref.up q3), [(A.zs ([] : List (List D)))]), (Ref.up (Ref.up q0), [A.fn 86 [.up (Ref.up q0), .up (Ref.up q1), .up (Ref.up q2)]]), (Ref.up (Ref.up q1), [A.fn 87 [.up (Ref.up q2), .up (Ref.up q0), .up (Ref.up q1)]])] R' /\
 (∀ v H', R' (.ret v) H' -> (v = (A.tup []) /\ H' = [(Ref.up (Ref.up q2), [A.fn 85 [.up (Ref.up q3)]]), (Ref.up (Ref.up q3), [(A.zs ([] : List (List D)))]), (Ref.up (Ref.up q0), [A.fn 86 [.up (Ref.up q0), .up (Ref.up q1), .up (Ref.up q2)]]), (Ref.up (Ref.up q1), [A.fn 87 [.up (Ref.up q2), .up (Ref.up q0), .up (Ref.up q1)]])] /\
 Rf.isK .slc (x0.getD 7 D0) = true /\
 ∀ _ : Nat -> Nat, ∃ R', Holds Tryz.prog 85 [A.d (D.slc (Rf.dlst (x0.getD 7 D0))), A.ptr (.up (Ref.up q3)) 0] [(Ref.up (Ref.up q3), [(A.zs ([] : List (List D)))])] R' /\
 (∀ v H', R' (.ret v) H' -> (v = (A.tup []) /\ H' = [(Ref.up (Ref.up q3), [(A.zs ([] : List (List D)))])] /\
 R (.ret (A.tup [])) [((Ref.up q0), [A.fn 86 [Ref.up q0, Ref.up q1, Ref.up q2]]), ((Ref.up q1), [A.fn 87 [Ref.up q2, Ref.up q0, Ref.up q1]]), ((Ref.up q2), [A.fn 85 [Ref.up q3]]), ((Ref.up q3), [(A.zs ([] : List (List D)))])]) \/
 (∃ x2 : List (List D), v = A.tup [] /\ H' = [(Ref.up (Ref.up q3), [(A.own 1 x2 ([] : List (List D)))])] /\
 R (.ret (A.tup [])) [((Ref.up q0), [A.fn 86 [Ref.up q0, Ref.up q1, Ref.up q2]]), ((Ref.up q1), [A.fn 87 [Ref.up q2, Ref.up q0, Ref.up q1]]), ((Ref.up q2), [A.fn 85 [Ref.up q3]]), ((Ref.up q3), [(A.own 1 x2 ([] : List (List D)))])])) /\
 (∀ x2v H', R' (.pan x2v) H' -> ∃ x3 : List (List D), H' = [(Ref.up (Ref.up q3), [A.zs x3])] /\
 R (.pan x2v) [((Ref.up q0), [A.fn 86 [Ref.up q0, Ref.up q1, Ref.up q2]]), ((Ref.up q1), [A.fn 87 [Ref.up q2, Ref.up q0, Ref.up q1]]), ((Ref.up q2), [A.fn 85 [Ref.up q3]]), ((Ref.up q3), [A.zs x3])])) \/
 (∃ x2 : List (List D), v = A.tup [] /\ H' = [(Ref.up (Ref.up q2), [A.fn 85 [.up (Ref.up q3)]]), (Ref.up (Ref.up q3), [(A.own 1 x2 ([] : List (List D)))]), (Ref.up (Ref.up q0), [A.fn 86 [.up (Ref.up q0), .up (Ref.up q1), .up (Ref.up q2)]]), (Ref.up (Ref.up q1), [A.fn 87 [.up (Ref.up q2), .up (Ref.up q0), .up (Ref.up q1)]])] /\
 Rf.isK .slc (x0.getD 7 D0) = true /\
 ∀ _ : Nat -> Nat, ∃ R', Holds Tryz.prog 85 [A.d (D.slc (Rf.dlst (x0.getD 7 D0))), A.ptr (.up (Ref.up q3)) 0] [(Ref.up (Ref.up q3), [(A.own 1 x2 ([] : List (List D)))])] R' /\
 (∀ v H', R' (.ret v) H' -> ∃ x3 : List (List D), v = A.tup [] /\ H' = [(Ref.up (Ref.up q3), [(A.own 1 x3 ([] : List (List D)))])] /\
 R (.ret (A.tup [])) [((Ref.up q0), [A.fn 86 [Ref.up q0, Ref.up q1, Ref.up q2]]), ((Ref.up q1), [A.fn 87 [Ref.up q2, Ref.up q0, Ref.up q1]]), ((Ref.up q2), [A.fn 85 [Ref.up q3]]), ((Ref.up q3), [(A.own 1 x3 ([] : List (List D)))])]) /\
 (∀ x3v H', R' (.pan x3v) H' -> ∃ x4 : List (List D), H' = [(Ref.up (Ref.up q3), [(A.own 1 x4 ([] : List (List D)))])] /\
 R (.pan x3v) [((Ref.up q0), [A.fn 86 [Ref.up q0, Ref.up q1, Ref.up q2]]), ((Ref.up q1), [A.fn 87 [Ref.up q2, Ref.up q0, Ref.up q1]]), ((Ref.up q2), [A.fn 85 [Ref.up q3]]), ((Ref.up q3), [(A.own 1 x4 ([] : List (List D)))])]))) /\
 (∀ x2v H', R' (.pan x2v) H' -> ∃ x3 : List (List D), H' = [(Ref.up (Ref.up q2), [A.fn 85 [.up (Ref.up q3)]]), (Ref.up (Ref.up q3), [A.zs x3]), (Ref.up (Ref.up q0), [A.fn 86 [.up (Ref.up q0), .up (Ref.up q1), .up (Ref.up q2)]]), (Ref.up (Ref.up q1), [A.fn 87 [.up (Ref.up q2), .up (Ref.up q0), .up (Ref.up q1)]])] /\
 R (.pan x2v) [((Ref.up q0), [A.fn 86 [Ref.up q0, Ref.up q1, Ref.up q2]]), ((Ref.up q1), [A.fn 87 [Ref.up q2, Ref.up q0, Ref.up q1]]), ((Ref.up q2), [A.fn 85 [Ref.up q3]]), ((Ref.up q3), [A.zs x3])]))) /\
 (∀ (x1 : Int) (x2 : List (List D)) , I0_1 x1 x2 ->
 (tB (decide (x1 < ((Rf.dlst (x0.getD 5 D0)).length : Int))) = true ->
 tB (decide (0 <= x1)) = true /\
 tB (((gAt (Rf.dlst (x0.getD 5 D0)) x1).length : Int) == 9) = true /\
 ∀ _ : Nat -> Nat, ∃ R', Holds Tryz.prog 86 [A.agg (gAt (Rf.dlst (x0.getD 5 D0)) x1), A.ptr (.up (Ref.up q0)) 0, A.ptr (.up (Ref.up q1)) 0, A.ptr (.up (Ref.up q2)) 0] [(Ref.up (Ref.up q0), [A.fn 86 [.up (Ref.up q0), .up (Ref.up q1), .up (Ref.up q2)]]), (Ref.up (Ref.up q1), [A.fn 87 [.up (Ref.up q2), .up (Ref.up q0), .up (Ref.up q1)]]), (Ref.up (Ref.up q2), [A.fn 85 [.up (Ref.up q3)]]), (Ref.up (Ref.up q3), [(A.own 1 x2 ([] : List (List D)))])] R' /\
 (∀ v H', R' (.ret v) H' -> ∃ x3 : List (List D), v = A.tup [] /\ H' = [(Ref.up (Ref.up q0), [A.fn 86 [.up (Ref.up q0), .up (Ref.up q1), .up (Ref.up q2)]]), (Ref.up (Ref.up q1), [A.fn 87 [.up (Ref.up q2), .up (Ref.up q0), .up (Ref.up q1)]]), (Ref.up (Ref.up q2), [A.fn 85 [.up (Ref.up q3)]]), (Ref.up (Ref.up q3), [(A.own 1 x3 ([] : List (List D)))])] /\
 tB (decide ((-9223372036854775808) <= (x1 + 1))) = true /\
 tB (decide ((x1 + 1) <= 9223372036854775807)) = true /\
 I0_1 (x1 + 1) x3 /\ M0_1 (x1 + 1) x3 < M0_1 x1 x2) /\
 (∀ x3v H', R' (.pan x3v) H' -> ∃ x4 : List (List D), H' = [(Ref.up (Ref.up q0), [A.fn 86 [.up (Ref.up q0), .up (Ref.up q1), .up (Ref.up q2)]]), (Ref.up (Ref.up q1), [A.fn 87 [.up (Ref.up q2), .up (Ref.up q0), .up (Ref.up q1)]]), (Ref.up (Ref.up q2), [A.fn 85 [.up (Ref.up q3)]]), (Ref.up (Ref.up q3), [(A.own 1 x4 ([] : List (List D)))])] /\
 R (.pan x3v) [((Ref.up q0), [A.fn 86 [Ref.up q0, Ref.up q1, Ref.up q2]]), ((Ref.up q1), [A.fn 87 [Ref.up q2, Ref.up q0, Ref.up q1]]), ((Ref.up q2), [A.fn 85 [Ref.up q3]]), ((Ref.up q3), [(A.own 1 x4 ([] : List (List D)))])])) /\
 (tB (decide (x1 < ((Rf.dlst (x0.getD 5 D0)).length : Int))) = false ->
 Rf.isK .slc (x0.getD 6 D0) = true /\
 ∀ _ : Nat -> Nat, ∃ R', Holds Tryz.prog 87 [A.d (D.slc (Rf.dlst (x0.getD 6 D0))), A.ptr (.up (Ref.up q2)) 0, A.ptr (.up (Ref.up q0)) 0, A.ptr (.up (Ref.up q1)) 0] [(Ref.up (Ref.up q2), [A.fn 85 [.up (Ref.up q3)]]), (Ref.up (Ref.up q3), [(A.own 1 x2 ([] : List (List D)))]), (Ref.up (Ref.up q0), [A.fn 86 [.up (Ref.up q0), .up (Ref.up q1), .up (Ref.up q2)]]), (Ref.up (Ref.up q1), [A.fn 87 [.up (Ref.up q2), .up (Ref.up q0), .up (Ref.up q1)]])] R' /\
 (∀ v H', R' (.ret v) H' -> ∃ x3 : List (List D), v = A.tup [] /\ H' = [(Ref.up (Ref.up q2), [A.fn 85 [.up (Ref.up q3)]]), (Ref.up (Ref.up q3), [(A.own 1 x3 ([] : List (List D)))]), (Ref.up (Ref.up q0), [A.fn 86 [.up (Ref.up q0), .up (Ref.up q1), .up (Ref.up q2)]]), (Ref.up (Ref.up q1), [A.fn 87 [.up (Ref.up q2), .up (Ref.up q0), .up (Ref.up q1)]])] /\
 Rf.isK .slc (x0.getD 7 D0) = true /\
 ∀ _ : Nat -> Nat, ∃ R', Holds Tryz.prog 85 [A.d (D.slc (Rf.dlst (x0.getD 7 D0))), A.ptr (.up (Ref.up q3)) 0] [(Ref.up (Ref.up q3), [(A.own 1 x3 ([] : List (List D)))])] R' /\
 (∀ v H', R' (.ret v) H' -> ∃ x4 : List (List D), v = A.tup [] /\ H' = [(Ref.up (Ref.up q3), [(A.own 1 x4 ([] : List (List D)))])] /\
 R (.ret (A.tup [])) [((Ref.up q0), [A.fn 86 [Ref.up q0, Ref.up q1, Ref.up q2]]), ((Ref.up q1), [A.fn 87 [Ref.up q2, Ref.up q0, Ref.up q1]]), ((Ref.up q2), [A.fn 85 [Ref.up q3]]), ((Ref.up q3), [(A.own 1 x4 ([] : List (List D)))])]) /\
 (∀ x4v H', R' (.pan x4v) H' -> ∃ x5 : List (List D), H' = [(Ref.up (Ref.up q3), [(A.own 1 x5 ([] : List (List D)))])] /\
 R (.pan x4v) [((Ref.up q0), [A.fn 86 [Ref.up q0, Ref.up q1, Ref.up q2]]), ((Ref.up q1), [A.fn 87 [Ref.up q2, Ref.up q0, Ref.up q1]]), ((Ref.up q2), [A.fn 85 [Ref.up q3]]), ((Ref.up q3), [(A.own 1 x5 ([] : List (List D)))])])) /\
 (∀ x3v H', R' (.pan x3v) H' -> ∃ x4 : List (List D), H' = [(Ref.up (Ref.up q2), [A.fn 85 [.up (Ref.up q3)]]), (Ref.up (Ref.up q3), [(A.own 1 x4 ([] : List (List D)))]), (Ref.up (Ref.up q0), [A.fn 86 [.up (Ref.up q0), .up (Ref.up q1), .up (Ref.up q2)]]), (Ref.up (Ref.up q1), [A.fn 87 [.up (Ref.up q2), .up (Ref.up q0), .up (Ref.up q1)]])] /\
 R (.pan x3v) [((Ref.up q0), [A.fn 86 [Ref.up q0, Ref.up q1, Ref.up q2]]), ((Ref.up q1), [A.fn 87 [Ref.up q2, Ref.up q0, Ref.up q1]]), ((Ref.up q2), [A.fn 85 [Ref.up q3]]), ((Ref.up q3), [(A.own 1 x4 ([] : List (List D)))])]))) /\
 True) :
 Holds Tryz.prog 86 [A.agg x0, A.ptr (Ref.up q0) 0, A.ptr (Ref.up q1) 0, A.ptr (Ref.up q2) 0] [((Ref.up q0), [A.fn 86 [Ref.up q0, Ref.up q1, Ref.up q2]]), ((Ref.up q1), [A.fn 87 [Ref.up q2, Ref.up q0, Ref.up q1]]), ((Ref.up q2), [A.fn 85 [Ref.up q3]]), ((Ref.up q3), [(A.zs ([] : List (List D)))])] R :=
 walk (c := ⟨Tryz.prog, 26, true, [0, 1, 2, 3, 4, 6, 8, 9, 10, 11]⟩) (op := { two := [(70, 1), (72, 1), (85, 1), (86, 1), (87, 1)], com := [(5, (11, 5000)), (5, (6, 5000))] }) (fn := Tryz.f86) (args := [.agg (.var 0), .ptr (.up 0) 0, .ptr (.up 1) 0, .ptr (.up 2) 0]) (K := [(.up 0, [.fn 86 [.up 0, .up 1, .up 2]]), (.up 1, [.fn 87 [.up 2, .up 0, .up 1]]), (.up 2, [.fn 85 [.up 3]]), (.up 3, [.zs .lnil])]) (nv := 1) (depth := 5) (up := upOf [q0, q1, q2, q3]) (ρ := Zbi [.r x0])
  rfl rfl rfl rfl rfl (by decide) (by decide) (by decide) (by decide) rfl (by simp [Zac, RRef.den, upOf, hq01, hq02, hq12, hq03, hq13, hq23]) (T_of (by kernel_rfl) h)
theorem w86b {R : RT} (x0 : List D) (x1 : List (List D)) (q0 q1 q2 q3 : Ref) (hq01 : q0 ≠ q1) (hq02 : q0 ≠ q2) (hq12 : q1 ≠ q2) (hq03 : q0 ≠ q3) (hq13 : q1 ≠ q3) (hq23 : q2 ≠ q3) (h : tB ((x0.length : Int) == 9) = true /\
 Rf.isK .slc (x0.getD 5 D0) = true /\
 ∃ (I0_0 : Int -> List (List D) -> Prop) (M0_0 : Int -> List (List D) -> Nat), I0_0 0 x1 /\
 (∀ (x2 : Int) (x3 : List (List D)) , I0_0 x2 x3 ->
 (tB (decide (x2 < ((Rf.dlst (x0.getD 5 D0)).length : Int))) = true ->
 tB (decide (0 <= x2)) = true /\
 tB (((gAt (Rf.dlst (x0.getD 5 D0)) x2).length : Int) == 9) = true /\
 ∀ _ : Nat -> Nat, ∃ R', Holds Tryz.prog 86 [A.agg (gAt (Rf.dlst (x0.getD 5 D0)) x2), A.ptr (.up (Ref.up q0)) 0, A.ptr (.up (Ref.up q1)) 0, A.ptr (.up (Ref.up q2)) 0] [(Ref.up (Ref.up q0), [A.fn 86 [.up (Ref.up q0), .up (Ref.up q1), .up (Ref.up q2)]]), (Ref.up (Ref.up q1), [A.fn 87 [.up (Ref.up q2), .up (Ref.up q0), .up (Ref.up q1)]]), (Ref.up (Ref.up q2), [A.fn 85 [.up (Ref.up q3)]]), (Ref.up (Ref.up q3), [(A.own 1 x3 ([] : List (List D)))])] R' /\
 (∀ v H', R' (.ret v) H' -> ∃ x4 : List (List D), v = A.tup [] /\ H' = [(Ref.up (Ref.up q0), [A.fn 86 [.up (Ref.up q0), .up (Ref.up q1), .up (Ref.up q2)]]), (Ref.up (Ref.up q1), [A.fn 87 [.up (Ref.up q2), .up (Ref.up q0), .up (Ref.up q1)]]), (Ref.up (Ref.up q2), [A.fn 85 [.up (Ref.up q3)]]), (Ref.up (Ref.up q3), [(A.own 1 x4 ([] : List (List D)))])] /\
 tB (decide ((-9223372036854775808) <= (x2 + 1))) = true /\
 tB (decide ((x2 + 1) <= 9223372036854775807)) = true /\
 I0_0 (x2 + 1) x4 /\ M0_0 (x2 + 1) x4 < M0_0 x2 x3) /\
 (∀ x4v H', R' (.pan x4v) H' -> ∃ x5 : List (List D), H' = [(Ref.up (Ref.up q0), [A.fn 86 [.up (Ref.up q0), .up (Ref.up q1), .up (Ref.up q2)]]), (Ref.up (Ref.up q1), [A.fn 87 [.up (Ref.up q2), .up (Ref.up q0), .up (Ref.up q1)]]), (Ref.up (Ref.up q2), [A.fn 85 [.up (Ref.up q3)]]), (Ref.up (Ref.up q3), [(A.own 1 x5 ([] : List (List D)))])] /\
 R (.pan x4v) [((Ref.up q0), [A.fn 86 [Ref.up q0, Ref.up q1, Ref.up q2]]), ((Ref.up q1), [A.fn 87 [Ref.up q2, Ref.up q0, Ref.up q1]]), ((Ref.up q2), [A.fn 85 [Ref.up q3]]), ((Ref.up q3), [(A.own 1 x5 ([] : List (List D)))])])) /\
 (tB (decide (x2 < ((Rf.dlst (x0.getD 5 D0)).length : Int))) = false ->
 Rf.isK .slc (x0.getD 6 D0) = true /\
 ∀ _ : Nat -> Nat, ∃ R', Holds Tryz.prog 87 [A.d (D.slc (Rf.dlst (x0.getD 6 D0))), A.ptr (.up (Ref.up q2)) 0, A.ptr (.up (Ref.up q0)) 0, A.ptr (.up (Ref.up q1)) 0] [(Ref.up (Ref.up q2), [A.fn 85 [.up (Ref.up q3)]]), (Ref.up (Ref.up q3), [(A.own 1 x3 ([] : List (List D)))]), (Ref.up (Ref.up q0), [A.fn 86 [.up (Ref.up q0), .up (Ref.up q1), .up (Ref.up q2)]]), (Ref.up (Ref.up q1), [A.fn 87 [.up (Ref.up q2), .up (Ref.up q0), .up (Ref.up q1)]])] R' /\
 (∀ v H', R' (.ret v) H' -> ∃ x4 : List (List D), v = A.tup [] /\ H' = [(Ref.up (Ref.up q2), [A.fn 85 [.up (Ref.up q3)]]), (Ref.up (Ref.up q3), [(A.own 1 x4 ([] : List (List D)))]), (Ref.up (Ref.up q0), [A.fn 86 [.up (Ref.up q0), .up (Ref.up q1), .up (Ref.up q2)]]), (Ref.up (Ref.up q1), [A.fn 87 [.up (Ref.up q2), .up (Ref.up q0), .up (Ref.up q1)]])] /\
 Rf.isK .slc (x0.getD 7 D0) = true /\
 ∀ _ : Nat -> Nat, ∃ R', Holds Tryz.prog 85 [A.d (D.slc (Rf.dlst (x0.getD 7 D0))), A.ptr (.up (Ref.up q3)) 0] [(Ref.up (Ref.up q3), [(A.own 1 x4 ([] : List (List D)))])] R' /\
 (∀ v H', R' (.ret v) H' -> ∃ x5 : List (List D), v = A.tup [] /\ H' = [(Ref.up (Ref.up q3), [(A.own 1 x5 ([] : List (List D)))])] /\
 R (.ret (A.tup [])) [((Ref.up q0), [A.fn 86 [Ref.up q0, Ref.up q1, Ref.up q2]]), ((Ref.up q1), [A.fn 87 [Ref.up q2, Ref.up q0, Ref.up q1]]), ((Ref.up q2), [A.fn 85 [Ref.up q3]]), ((Ref.up q3), [(A.own 1 x5 ([] : List (List D)))])]) /\
 (∀ x5v H', R' (.pan x5v) H' -> ∃ x6 : List (List D), H' = [(Ref.up (Ref.up q3), [(A.own 1 x6 ([] : List (List D)))])] /\
 R (.pan x5v) [((Ref.up q0), [A.fn 86 [Ref.up q0, Ref.up q1, Ref.up q2]]), ((Ref.up q1), [A.fn 87 [Ref.up q2, Ref.up q0, Ref.up q1]]), ((Ref.up q2), [A.fn 85 [Ref.up q3]]), ((Ref.up q3), [(A.own 1 x6 ([] : List (List D)))])])) /\
 (∀ x4v H', R' (.pan x4v) H' -> ∃ x5 : List (List D), H' = [(Ref.up (Ref.up q2), [A.fn 85 [.up (Ref.up q3)]]), (Ref.up (Ref.up q3), [(A.own 1 x5 ([] : List (List D)))]), (Ref.up (Ref.up q0), [A.fn 86 [.up (Ref.up q0), .up (Ref.up q1), .up (Ref.up q2)]]), (Ref.up (Ref.up q1), [A.fn 87 [.up (Ref.up q2), .up (Ref.up q0), .up (Ref.up q1)]])] /\
 R (.pan x4v) [((Ref.up q0), [A.fn 86 [Ref.up q0, Ref.up q1, Ref.up q2]]), ((Ref.up q1), [A.fn 87 [Ref.up q2, Ref.up q0, Ref.up q1]]), ((Ref.up q2), [A.fn 85 [Ref.up q3]]), ((Ref.up q3), [(A.own 1 x5 ([] : List (List D)))])]))) /\
 True) :
 Holds Tryz.prog 86 [A.agg x0, A.ptr (Ref.up q0) 0, A.ptr (Ref.up q1) 0, A.ptr (Ref.up q2) 0] [((Ref.up q0), [A.fn 86 [Ref.up q0, Ref.up q1, Ref.up q2]]), ((Ref.up q1), [A.fn 87 [Ref.up q2, Ref.up q0, Ref.up q1]]), ((Ref.up q2), [A.fn 85 [Ref.up q3]]), ((Ref.up q3), [(A.own 1 x1 ([] : List (List D)))])] R :=
 walk (c := ⟨Tryz.prog, 26, true, [0, 1, 2, 3, 4, 6, 8, 9, 10, 11]⟩) (op := { com := [(5, (11, 5000)), (5, (6, 5000))] }) (fn := Tryz.f86) (args := [.agg (.var 0), .ptr (.up 0) 0, .ptr (.up 1) 0, .ptr (.up 2) 0]) (K := [(.up 0, [.fn 86 [.up 0, .up 1, .up 2]]), (.up 1, [.fn 87 [.up 2, .up 0, .up 1]]), (.up 2, [.fn 85 [.up 3]]), (.up 3, [.own 1 (.var 1) .lnil])]) (nv := 2) (depth := 5) (up := upOf [q0, q1, q2, q3]) (ρ := Zbi [.r x0, .l x1])
  rfl rfl rfl rfl rfl (by decide) (by decide) (by decide) (by decide) rfl (by simp [Zac, RRef.den, upOf, hq01, hq02, hq12, hq03, hq13, hq23]) (T_of (by kernel_rfl) h)
theorem w87a {R : RT} (x0 : List (List D)) (q0 q1 q2 q3 : Ref) (hq01 : q0 ≠ q1) (hq02 : q0 ≠ q2) (hq12 : q1 ≠ q2) (hq03 : q0 ≠ q3) (hq13 : q1 ≠ q3) (hq23 : q2 ≠ q3) (h : ∃ (I0_0 : Int -> Prop) (M0_0 : Int -> Nat), ∃ (I0_1 : Int -> List (List D) -> Prop) (M0_1 : Int -> List (List D) -> Nat), I0_0 0 /\
 (∀ (x1 : Int) , I0_0 x1 ->
 (tB (decide (x1 < (x0.length : Int))) = true ->
 ∃ J1_0 : Int -> Bool -> Prop, ∃ J1_1 : Int -> Bool -> List (List D) -> Prop, (tB (decide (0 <= x1)) = true /\
 tB (((gAt x0 x1).length : Int) == 11) = true /\
 Rf.isK .slc ((gAt x0 x1).getD 8 D0) = true /\
 ∀ _ : Nat -> Nat, ∃ R', Holds Tryz.prog 85 [A.d (D.slc (Rf.dlst ((gAt x0 x1).getD 8 D0))), A.ptr (.up (Ref.up q1)) 0] [(Ref.up (Ref.up q1), [(A.zs ([] : List (List D)))])] R' /\
 (∀ v H', R' (.ret v) H' -> (v = (A.tup []) /\ H' = [(Ref.up (Ref.up q1), [(A.zs ([] : List (List D)))])] /\
 ∃ J2_0 : Int -> Prop, ∃ J2_1 : Int -> List (List D) -> Prop, (Rf.isK .slc ((gAt x0 x1).getD 5 D0) = true /\
 ∃ (I3_0 : Int -> Prop) (M3_0 : Int -> Nat), ∃ (I3_1 : Int -> List (List D) -> Prop) (M3_1 : Int -> List (List D) -> Nat), I3_0 0 /\
 (∀ (x2 : Int) , I3_0 x2 ->
 (tB (decide (x2 < ((Rf.dlst ((gAt x0 x1).getD 5 D0)).length : Int))) = true ->
 tB (decide (0 <= x2)) = true /\
 tB (((gAt (Rf.dlst ((gAt x0 x1).getD 5 D0)) x2).length : Int) == 9) = true /\
 ∀ _ : Nat -> Nat, ∃ R', Holds Tryz.prog 86 [A.agg (gAt (Rf.dlst ((gAt x0 x1).getD 5 D0)) x2), A.ptr (.up (Ref.up q2)) 0, A.ptr (.up (Ref.up q3)) 0, A.ptr (.up (Ref.up q0)) 0] [(Ref.up (Ref.up q2), [A.fn 86 [.up (Ref.up q2), .up (Ref.up q3), .up (Ref.up q0)]]), (Ref.up (Ref.up q3), [A.fn 87 [.up (Ref.up q0), .up (Ref.up q2), .up (Ref.up q3)]]), (Ref.up (Ref.up q0), [A.fn 85 [.up (Ref.up q1)]]), (Ref.up (Ref.up q1), [(A.zs ([] : List (List D)))])] R' /\
 (∀ v H', R' (.ret v) H' -> (v = (A.tup []) /\ H' = [(Ref.up (Ref.up q2), [A.fn 86 [.up (Ref.up q2), .up (Ref.up q3), .up (Ref.up q0)]]), (Ref.up (Ref.up q3), [A.fn 87 [.up (Ref.up q0), .up (Ref.up q2), .up (Ref.up q3)]]), (Ref.up (Ref.up q0), [A.fn 85 [.up (Ref.up q1)]]), (Ref.up (Ref.up q1), [(A.zs ([] : List (List D)))])] /\
 tB (decide ((-9223372036854775808) <= (x2 + 1))) = true /\
 tB (decide ((x2 + 1) <= 9223372036854775807)) = true /\
 I3_0 (x2 + 1) /\ M3_0 (x2 + 1) < M3_0 x2) \/
 (∃ x3 : List (List D), v = A.tup [] /\ H' = [(Ref.up (Ref.up q2), [A.fn 86 [.up (Ref.up q2), .up (Ref.up q3), .up (Ref.up q0)]]), (Ref.up (Ref.up q3), [A.fn 87 [.up (Ref.up q0), .up (Ref.up q2), .up (Ref.up q3)]]), (Ref.up (Ref.up q0), [A.fn 85 [.up (Ref.up q1)]]), (Ref.up (Ref.up q1), [(A.own 1 x3 ([] : List (List D)))])] /\
 tB (decide ((-9223372036854775808) <= (x2 + 1))) = true /\
 tB (decide ((x2 + 1) <= 9223372036854775807)) = true /\
 I3_1 (x2 + 1) x3 /\ M3_1 (x2 + 1) x3 < M3_0 x2)) /\
 (∀ x3v H', R' (.pan x3v) H' -> ∃ x4 : List (List D), H' = [(Ref.up (Ref.up q2), [A.fn 86 [.up (Ref.up q2), .up (Ref.up q3), .up (Ref.up q0)]]), (Ref.up (Ref.up q3), [A.fn 87 [.up (Ref.up q0), .up (Ref.up q2), .up (Ref.up q3)]]), (Ref.up (Ref.up q0), [A.fn 85 [.up (Ref.up q1)]]), (Ref.up (Ref.up q1), [A.zs x4])] /\
 R (.pan x3v) [((Ref.up q0), [A.fn 85 [Ref.up q1]]), ((Ref.up q1), [A.zs x4]), ((Ref.up q2), [A.fn 86 [Ref.up q2, Ref.up q3, Ref.up q0]]), ((Ref.up q3), [A.fn 87 [Ref.up q0, Ref.up q2, Ref.up q3]])])) /\
 (tB (decide (x2 < ((Rf.dlst ((gAt x0 x1).getD 5 D0)).length : Int))) = false ->
 J2_0 x2)) /\
 (∀ (x2 : Int) (x3 : List (List D)) , I3_1 x2 x3 ->
 (tB (decide (x2 < ((Rf.dlst ((gAt x0 x1).getD 5 D0)).length : Int))) = true ->
 tB (decide (0 <= x2)) = true /\
 tB (((gAt (Rf.dlst ((gAt x0 x1).getD 5 D0)) x2).length : Int) == 9) = true /\
 ∀ _ : Nat -> Nat, ∃ R', Holds Tryz.prog 86 [A.agg (gAt (Rf.dlst ((gAt x0 x1).getD 5 D0)) x2), A.ptr (.up (Ref.up q2)) 0, A.ptr (.up (Ref.up q3)) 0, A.ptr (.up (Ref.up q0)) 0] [(Ref.up (Ref.up q2), [A.fn 86 [.up (Ref.up q2), .up (Ref.up q3), .up (Ref.up q0)]]), (Ref.up (Ref.up q3), [A.fn 87 [.up (Ref.up q0), .up (Ref.up q2), .up (Ref.up q3)]]), (Ref.up (Ref.up q0), [A.fn 85 [.up (Ref.up q1)]]), (Ref.up (Ref.up q1), [(A.own 1 x3 ([] : List (List D)))])] R' /\
 (∀ v H', R' (.ret v) H' -> ∃ x4 : List (List D), v = A.tup [] /\ H' = [(Ref.up (Ref.up q2), [A.fn 86 [.up (Ref.up q2), .up (Ref.up q3), .up (Ref.up q0)]]), (Ref.up (Ref.up q3), [A.fn 87 [.up (Ref.up q0), .up (Ref.up q2), .up (Ref.up q3)]]), (Ref.up (Ref.up q0), [A.fn 85 [.up (Ref.up q1)]]), (Ref.up (Ref.up q1), [(A.own 1 x4 ([] : List (List D)))])] /\
 tB (decide ((-9223372036854775808) <= (x2 + 1))) = true /\
 tB (decide ((x2 + 1) <= 9223372036854775807)) = true /\
 I3_1 (x2 + 1) x4 /\ M3_1 (x2 + 1) x4 < M3_1 x2 x3) /\
 (∀ x4v H', R' (.pan x4v) H' -> ∃ x5 : List (List D), H' = [(Ref.up (Ref.up q2), [A.fn 86 [.up (Ref.up q2), .up (Ref.up q3), .up (Ref.up q0)]]), (Ref.up (Ref.up q3), [A.fn 87 [.up (Ref.up q0), .up (Ref.up q2), .up (Ref.up q3)]]), (Ref.up (Ref.up q0), [A.fn 85 [.up (Ref.up q1)]]), (Ref.up (Ref.up q1), [(A.own 1 x5 ([] : List (List D)))])] /\
 R (.pan x4v) [((Ref.up q0), [A.fn 85 [Ref.up q1]]), ((Ref.up q1), [(A.own 1 x5 ([] : List (List D)))]), ((Ref.up q2), [A.fn 86 [Ref.up q2, Ref.up q3, Ref.up q0]]), ((Ref.up q3), [A.fn 87 [Ref.up q0, Ref.up q2, Ref.up q3]])])) /\
 (tB (decide (x2 < ((Rf.dlst ((gAt x0 x1).getD 5 D0)).length : Int))) = false ->
 J2_1 x2 x3)) /\
 True) /\
 (∀ (x2 : Int) , J2_0 x2 ->
 Rf.isK .slc ((gAt x0 x1).getD 6 D0) = true /\
 ∀ _ : Nat -> Nat, ∃ R', Holds Tryz.prog 87 [A.d (D.slc (Rf.dlst ((gAt x0 x1).getD 6 D0))), A.ptr (.up (Ref.up q0)) 0, A.ptr (.up (Ref.up q2)) 0, A.ptr (.up (Ref.up q3)) 0] [(Ref.up (Ref.up q0), [A.fn 85 [.up (Ref.up q1)]]), (Ref.up (Ref.up q1), [(A.zs ([] : List (List D)))]), (Ref.up (Ref.up q2), [A.fn 86 [.up (Ref.up q2), .up (Ref.up q3), .up (Ref.up q0)]]), (Ref.up (Ref.up q3), [A.fn 87 [.up (Ref.up q0), .up (Ref.up q2), .up (Ref.up q3)]])] R' /\
 (∀ v H', R' (.ret v) H' -> (v = (A.tup []) /\ H' = [(Ref.up (Ref.up q0), [A.fn 85 [.up (Ref.up q1)]]), (Ref.up (Ref.up q1), [(A.zs ([] : List (List D)))]), (Ref.up (Ref.up q2), [A.fn 86 [.up (Ref.up q2), .up (Ref.up q3), .up (Ref.up q0)]]), (Ref.up (Ref.up q3), [A.fn 87 [.up (Ref.up q0), .up (Ref.up q2), .up (Ref.up q3)]])] /\
 Rf.isK .slc ((gAt x0 x1).getD 7 D0) = true /\
 ∀ _ : Nat -> Nat, ∃ R', Holds Tryz.prog 85 [A.d (D.slc (Rf.dlst ((gAt x0 x1).getD 7 D0))), A.ptr (.up (Ref.up q1)) 0] [(Ref.up (Ref.up q1), [(A.zs ([] : List (List D)))])] R' /\
 (∀ v H', R' (.ret v) H' -> (v = (A.tup []) /\ H' = [(Ref.up (Ref.up q1), [(A.zs ([] : List (List D)))])] /\
 Rf.isK .str ((gAt x0 x1).getD 9 D0) = true /\
 ((!(tB ((Rf.dstr ((gAt x0 x1).getD 9 D0)) == ([] : List UInt8)))) = true ->
 ∀ _ : Nat -> Nat, ∃ R', Holds Tryz.prog 85 [A.d (D.slc [[D.lit (Zab (Rf.dstr ((gAt x0 x1).getD 9 D0)))]]), A.ptr (.up (Ref.up q1)) 0] [(Ref.up (Ref.up q1), [(A.zs ([] : List (List D)))])] R' /\
 (∀ v H', R' (.ret v) H' -> (v = (A.tup []) /\ H' = [(Ref.up (Ref.up q1), [(A.zs ([] : List (List D)))])] /\
 J1_0 x2 true) \/
 (∃ x3 : List (List D), v = A.tup [] /\ H' = [(Ref.up (Ref.up q1), [(A.own 1 x3 ([] : List (List D)))])] /\
 J1_1 x2 true x3)) /\
 (∀ x3v H', R' (.pan x3v) H' -> ∃ x4 : List (List D), H' = [(Ref.up (Ref.up q1), [A.zs x4])] /\
 R (.pan x3v) [((Ref.up q0), [A.fn 85 [Ref.up q1]]), ((Ref.up q1), [A.zs x4]), ((Ref.up q2), [A.fn 86 [Ref.up q2, Ref.up q3, Ref.up q0]]), ((Ref.up q3), [A.fn 87 [Ref.up q0, Ref.up q2, Ref.up q3]])])) /\
 ((!(tB ((Rf.dstr ((gAt x0 x1).getD 9 D0)) == ([] : List UInt8)))) = false ->
 J1_0 x2 false)) \/
 (∃ x3 : List (List D), v = A.tup [] /\ H' = [(Ref.up (Ref.up q1), [(A.own 1 x3 ([] : List (List D)))])] /\
 Rf.isK .str ((gAt x0 x1).getD 9 D0) = true /\
 ((!(tB ((Rf.dstr ((gAt x0 x1).getD 9 D0)) == ([] : List UInt8)))) = true ->
 ∀ _ : Nat -> Nat, ∃ R', Holds Tryz.prog 85 [A.d (D.slc [[D.lit (Zab (Rf.dstr ((gAt x0 x1).getD 9 D0)))]]), A.ptr (.up (Ref.up q1)) 0] [(Ref.up (Ref.up q1), [(A.own 1 x3 ([] : List (List D)))])] R' /\
 (∀ v H', R' (.ret v) H' -> ∃ x4 : List (List D), v = A.tup [] /\ H' = [(Ref.up (Ref.up q1), [(A.own 1 x4 ([] : List (List D)))])] /\
 J1_1 x2 true x4) /\
 (∀ x4v H', R' (.pan x4v) H' -> ∃ x5 : List (List D), H' = [(Ref.up (Ref.up q1), [(A.own 1 x5 ([] : List (List D)))])] /\
 R (.pan x4v) [((Ref.up q0), [A.fn 85 [Ref.up q1]]), ((Ref.up q1), [(A.own 1 x5 ([] : List (List D)))]), ((Ref.up q2), [A.fn 86 [Ref.up q2, Ref.up q3, Ref.up q0]]), ((Ref.up q3), [A.fn 87 [Ref.up q0, Ref.up q2, Ref.up q3]])])) /\
 ((!(tB ((Rf.dstr ((gAt x0 x1).getD 9 D0)) == ([] : List UInt8)))) = false ->
 J1_1 x2 false x3))) /\
 (∀ x3v H', R' (.pan x3v) H' -> ∃ x4 : List (List D), H' = [(Ref.up (Ref.up q1), [A.zs x4])] /\
 R (.pan x3v) [((Ref.up q0), [A.fn 85 [Ref.up q1]]), ((Ref.up q1), [A.zs x4]), ((Ref.up q2), [A.fn 86 [Ref.up q2, Ref.up q3, Ref.up q0]]), ((Ref.up q3), [A.fn 87 [Ref.up q0, Ref.up q2, Ref.up q3]])])) \/
 (∃ x3 : List (List D), v = A.tup [] /\ H' = [(Ref.up (Ref.up q0), [A.fn 85 [.up (Ref.up q1)]]), (Ref.up (Ref.up q1), [(A.own 1 x3 ([] : List (List D)))]), (Ref.up (Ref.up q2), [A.fn 86 [.up (Ref.up q2), .up (Ref.up q3), .up (Ref.up q0)]]), (Ref.up (Ref.up q3), [A.fn 87 [.up (Ref.up q0), .up (Ref.up q2), .up (Ref.up q3)]])] /\
 Rf.isK .slc ((gAt x0 x1).getD 7 D0) = true /\
 ∀ _ : Nat -> Nat, ∃ R', Holds Tryz.prog 85 [A.d (D.slc (Rf.dlst ((gAt x0 x1).getD 7 D0))), A.ptr (.up (Ref.up q1)) 0] [(Ref.up (Ref.up q1), [(A.own 1 x3 ([] : List (List D)))])] R' /\
 (∀ v H', R' (.ret v) H' -> ∃ x4 : List (List D), v = A.tup [] /\ H' = [(Ref.up (Ref.up q1), [(A.own 1 x4 ([] : List (List D)))])] /\
 Rf.isK .str ((gAt x0 x1).getD 9 D0) = true /\
 ((!(tB ((Rf.dstr ((gAt x0 x1).getD 9 D0)) == ([] : List UInt8)))) = true ->
 ∀ _ : Nat -> Nat, ∃ R', Holds Tryz.prog 85 [A.d (D.slc [[D.lit (Zab (Rf.dstr ((gAt x0 x1).getD 9 D0)))]]), A.ptr (.up (Ref.up q1)) 0] [(Ref.up (Ref.up q1), [(A.own 1 x4 ([] : List (List D)))])] R' /\
 (∀ v H', R' (.ret v) H' -> ∃ x5 : List (List D), v = A.tup [] /\ H' = [(Ref.up (Ref.up q1), [(A.own 1 x5 ([] : List (List D)))])] /\
 J1_1 x2 true x5) /\
 (∀ x5v H', R' (.pan x5v) H' -> ∃ x6 : List (List D), H' = [(Ref.up (Ref.up q1), [(A.own 1 x6 ([] : List (List D)))])] /\
 R (.pan x5v) [((Ref.up q0), [A.fn 85 [Ref.up q1]]), ((Ref.up q1), [(A.own 1 x6 ([] : List (List D)))]), ((Ref.up q2), [A.fn 86 [Ref.up q2, Ref.up q3, Ref.up q0]]), ((Ref.up q3), [A.fn 87 [Ref.up q0, Ref.up q2, Ref.up q3]])])) /\
 ((!(tB ((Rf.dstr ((gAt x0 x1).getD 9 D0)) == ([] : List UInt8)))) = false ->
 J1_1 x2 false x4)) /\
 (∀ x4v H', R' (.pan x4v) H' -> ∃ x5 : List (List D), H' = [(Ref.up (Ref.up q1), [(A.own 1 x5 ([] : List (List D)))])] /\
 R (.pan x4v) [((Ref.up q0), [A.fn 85 [Ref.up q1]]), ((Ref.up q1), [(A.own 1 x5 ([] : List (List D)))]), ((Ref.up q2), [A.fn 86 [Ref.up q2, Ref.up q3, Ref.up q0]]), ((Ref.up q3), [A.fn 87 [Ref.up q0, Ref.up q2, Ref.up q3]])]))) /\
 (∀ x3v H', R' (.pan x3v) H' -> ∃ x4 : List (List D), H' = [(Ref.up (Ref.up q0), [A.fn 85 [.up (Ref.up q1)]]), (Ref.up (Ref.up q1), [A.zs x4]), (Ref.up (Ref.up q2), [A.fn 86 [.up (Ref.up q2), .up (Ref.up q3), .up (Ref.up q0)]]), (Ref.up (Ref.up q3), [A.fn 87 [.up (Ref.up q0), .up (Ref.up q2), .up (Ref.up q3)]])] /\
 R (.pan x3v) [((Ref.up q0), [A.fn 85 [Ref.up q1]]), ((Ref.up q1), [A.zs x4]), ((Ref.up q2), [A.fn 86 [Ref.up q2, Ref.up q3, Ref.up q0]]), ((Ref.up q3), [A.fn 87 [Ref.up q0, Ref.up q2, Ref.up q3]])])) /\
 (∀ (x2 : Int) (x3 : List (List D)) , J2_1 x2 x3 ->
 Rf.isK .slc ((gAt x0 x1).getD 6 D0) = true /\
 ∀ _ : Nat -> Nat, ∃ R', Holds Tryz.prog 87 [A.d (D.slc (Rf.dlst ((gAt x0 x1).getD 6 D0))), A.ptr (.up (Ref.up q0)) 0, A.ptr (.up (Ref.up q2)) 0, A.ptr (.up (Ref.up q3)) 0] [(Ref.up (Ref.up q0), [A.fn 85 [.up (Ref.up q1)]]), (Ref.up (Ref.up q1), [(A.own 1 x3 ([] : List (List D)))]), (Ref.up (Ref.up q2), [A.fn 86 [.up (Ref.up q2), .up (Ref.up q3), .up (Ref.up q0)]]), (Ref.up (Ref.up q3), [A.fn 87 [.up (Ref.up q0), .up (Ref.up q2), .up (Ref.up q3)]])] R' /\
 (∀ v H', R' (.ret v) H' -> ∃ x4 : List (List D), v = A.tup [] /\ H' = [(Ref.up (Ref.up q0), [A.fn 85 [.up (Ref.up q1)]]), (Ref.up (Ref.up q1), [(A.own 1 x4 ([] : List (List D)))]), (Ref.up (Ref.up q2), [A.fn 86 [.up (Ref.up q2), .up (Ref.up q3), .up (Ref.up q0)]]), (Ref.up (Ref.up q3), [A.fn 87 [.up (Ref.up q0), .up (Ref.up q2), .up (Ref.up q3)]])] /\
 Rf.isK .slc ((gAt x0 x1).getD 7 D0) = true /\
 ∀ _ : Nat -> Nat, ∃ R', Holds Tryz.prog 85 [A.d (D.slc (Rf.dlst ((gAt x0 x1).getD 7 D0))), A.ptr (.up (Ref.up q1)) 0] [(Ref.up (Ref.up q1), [(A.own 1 x4 ([] : List (List D)))])] R' /\
 (∀ v H', R' (.ret v) H' -> ∃ x5 : List (List D), v = A.tup [] /\ H' = [(Ref.up (Ref.up q1), [(A.own 1 x5 ([] : List (List D)))])] /\
 Rf.isK .str ((gAt x0 x1).getD 9 D0) = true /\
 ((!(tB ((Rf.dstr ((gAt x0 x1).getD 9 D0)) == ([] : List UInt8)))) = true ->
 ∀ _ : Nat -> Nat, ∃ R', Holds Tryz.prog 85 [A.d (D.slc [[D.lit (Zab (Rf.dstr ((gAt x0 x1).getD 9 D0)))]]), A.ptr (.up (Ref.up q1)) 0] [(Ref.up (Ref.up q1), [(A.own 1 x5 ([] : List (List D)))])] R' /\
 (∀ v H', R' (.ret v) H' -> ∃ x6 : List (List D), v = A.tup [] /\ H' = [(Ref.up (Ref.up q1), [(A.own 1 x6 ([] : List (List D)))])] /\
 J1_1 x2 true x6) /\
 (∀ x6v H', R' (.pan x6v) H' -> ∃ x7 : List (List D), H' = [(Ref.up (Ref.up q1), [(A.own 1 x7 ([] : List (List D)))])] /\
 R (.pan x6v) [((Ref.up q0), [A.fn 85 [Ref.up q1]]), ((Ref.up q1), [(A.own 1 x7 ([] : List (List D)))]), ((Ref.up q2), [A.fn 86 [Ref.up q2, Ref.up q3, Ref.up q0]]), ((Ref.up q3), [A.fn 87 [Ref.up q0, Ref.up q2, Ref.up q3]])])) /\
 ((!(tB ((Rf.dstr ((gAt x0 x1).getD 9 D0)) == ([] : List UInt8)))) = false ->
 J1_1 x2 false x5)) /\
 (∀ x5v H', R' (.pan x5v) H' -> ∃ x6 : List (List D), H' = [(Ref.up (Ref.up q1), [(A.own 1 x6 ([] : List (List D)))])] /\
 R (.pan x5v) [((Ref.up q0), [A.fn 85 [Ref.up q1]]), ((Ref.up q1), [(A.own 1 x6 ([] : List (List D)))]), ((Ref.up q2), [A.fn 86 [Ref.up q2, Ref.up q3, Ref.up q0]]), ((Ref.up q3), [A.fn 87 [Ref.up q0, Ref.up q2, Ref.up q3]])])) /\
 (∀ x4v H', R' (.pan x4v) H' -> ∃ x5 : List (List D), H' = [(Ref.up (Ref.up q0), [A.fn 85 [.up (Ref.up q1)]]), (Ref.up (Ref.up q1), [(A.own 1 x5 ([] : List (List D)))]), (Ref.up (Ref.up q2), [A.fn 86 [.up (Ref.up q2), .up (Ref.up q3), .up (Ref.up q0)]]), (Ref.up (Ref.up q3), [A.fn 87 [.up (Ref.up q0), .up (Ref.up q2), .up (Ref.up q3)]])] /\
 R (.pan x4v) [((Ref.up q0), [A.fn 85 [Ref.up q1]]), ((Ref.up q1), [(A.own 1 x5 ([] : List (List D)))]), ((Ref.up q2), [A.fn 86 [Ref.up q2, Ref.up q3, Ref.up q0]]), ((Ref.up q3), [A.fn 87 [Ref.up q0, Ref.up q2, Ref.up q3]])])) /\
 True) \/
 (∃ x2 : List (List D), v = A.tup [] /\ H' = [(Ref.up (Ref.up q1), [(A.own 1 x2 ([] : List (List D)))])] /\
 ∃ J2_0 : Int -> List (List D) -> Prop, (Rf.isK .slc ((gAt x0 x1).getD 5 D0) = true /\
 ∃ (I3_0 : Int -> List (List D) -> Prop) (M3_0 : Int -> List (List D) -> Nat), I3_0 0 x2 /\
 (∀ (x3 : Int) (x4 : List (List D)) , I3_0 x3 x4 ->
 (tB (decide (x3 < ((Rf.dlst ((gAt x0 x1).getD 5 D0)).length : Int))) = true ->
 tB (decide (0 <= x3)) = true /\
 tB (((gAt (Rf.dlst ((gAt x0 x1).getD 5 D0)) x3).length : Int) == 9) = true /\
 ∀ _ : Nat -> Nat, ∃ R', Holds Tryz.prog 86 [A.agg (gAt (Rf.dlst ((gAt x0 x1).getD 5 D0)) x3), A.ptr (.up (Ref.up q2)) 0, A.ptr (.up (Ref.up q3)) 0, A.ptr (.up (Ref.up q0)) 0] [(Ref.up (Ref.up q2), [A.fn 86 [.up (Ref.up q2), .up (Ref.up q3), .up (Ref.up q0)]]), (Ref.up (Ref.up q3), [A.fn 87 [.up (Ref.up q0), .up (Ref.up q2), .up (Ref.up q3)]]), (Ref.up (Ref.up q0), [A.fn 85 [.up (Ref.up q1)]]), (Ref.up (Ref.up q1), [(A.own 1 x4 ([] : List (List D)))])] R' /\
 (∀ v H', R' (.ret v) H' -> ∃ x5 : List (List D), v = A.tup [] /\ H' = [(Ref.up (Ref.up q2), [A.fn 86 [.up (Ref.up q2), .up (Ref.up q3), .up (Ref.up q0)]]), (Ref.up (Ref.up q3), [A.fn 87 [.up (Ref.up q0), .up (Ref.up q2), .up (Ref.up q3)]]), (Ref.up (Ref.up q0), [A.fn 85 [.up (Ref.up q1)]]), (Ref.up (Ref.up q1), [(A.own 1 x5 ([] : List (List D)))])] /\
 tB (decide ((-9223372036854775808) <= (x3 + 1))) = true /\
 tB (decide ((x3 + 1) <= 9223372036854775807)) = true /\
 I3_0 (x3 + 1) x5 /\ M3_0 (x3 + 1) x5 < M3_0 x3 x4) /\
 (∀ x5v H', R' (.pan x5v) H' -> ∃ x6 : List (List D), H' = [(Ref.up (Ref.up q2), [A.fn 86 [.up (Ref.up q2), .up (Ref.up q3), .up (Ref.up q0)]]), (Ref.up (Ref.up q3), [A.fn 87 [.up (Ref.up q0), .up (Ref.up q2), .up (Ref.up q3)]]), (Ref.up (Ref.up q0), [A.fn 85 [.up (Ref.up q1)]]), (Ref.up (Ref.up q1), [(A.own 1 x6 ([] : List (List D)))])] /\
 R (.pan x5v) [((Ref.up q0), [A.fn 85 [Ref.up q1]]), ((Ref.up q1), [(A.own 1 x6 ([] : List (List D)))]), ((Ref.up q2), [A.fn 86 [Ref.up q2, Ref.up q3, Ref.up q0]]), ((Ref.up q3), [A.fn 87 [Ref.up q0, Ref.up q2, Ref.up q3]])])) /\
 (tB (decide (x3 < ((Rf.dlst ((gAt x0 x1).getD 5 D0)).length : Int))) = false ->
 J2_0 x3 x4)) /\
 True) /\
 (∀ (x3 : Int) (x4 : List (List D)) , J2_0 x3 x4 ->
 Rf.isK .slc ((gAt x0 x1).getD 6 D0) = true /\
 ∀ _ : Nat -> Nat, ∃ R', Holds Tryz.prog 87 [A.d (D.slc (Rf.dlst ((gAt x0 x1).getD 6 D0))), A.ptr (.up (Ref.up q0)) 0, A.ptr (.up (Ref.up q2)) 0, A.ptr (.up (Ref.up q3)) 0] [(Ref.up (Ref.up q0), [A.fn 85 [.up (Ref.up q1)]]), (Ref.up (Ref.up q1), [(A.own 1 x4 ([] : List (List D)))]), (Ref.up (Ref.up q2), [A.fn 86 [.up (Ref.up q2), .up (Ref.up q3), .up (Ref.up q0)]]), (Ref.up (Ref.up q3), [A.fn 87 [.up (Ref.up q0), .up (Ref.up q2), .up (Ref.up q3)]])] R' /\
 (∀ v H', R' (.ret v) H' -> ∃ x5 : List (List D), v = A.tup [] /\ H' = [(Ref.up (Ref.up q0), [A.fn 85 [.up (Ref.up q1)]]), (Ref.up (Ref.up q1), [(A.own 1 x5 ([] : List (List D)))]), (Ref.up (Ref.up q2), [A.fn 86 [.up (Ref.up q2), .up (Ref.up q3), .up (Ref.up q0)]]), (Ref.up (Ref.up q3), [A.fn 87 [.up (Ref.up q0), .up (Ref.up q2), .up (Ref.up q3)]])] /\
 Rf.isK .slc ((gAt x0 x1).getD 7 D0) = true /\
 ∀ _ : Nat -> Nat, ∃ R', Holds Tryz.prog 85 [A.d (D.slc (Rf.dlst ((gAt x0 x1).getD 7 D0))), A.ptr (.up (Ref.up q1)) 0] [(Ref.up (Ref.up q1), [(A.own 1 x5 ([] : List (List D)))])] R' /\
 (∀ v H', R' (.ret v) H' -> ∃ x6 : List (List D), v = A.tup [] /\ H' = [(Ref.up (Ref.up q1), [(A.own 1 x6 ([] : List (List D)))])] /\
 Rf.isK .str ((gAt x0 x1).getD 9 D0) = true /\
 ((!(tB ((Rf.dstr ((gAt x0 x1).getD 9 D0)) == ([] : List UInt8)))) = true ->
 ∀ _ : Nat -> Nat, ∃ R', Holds Tryz.prog 85 [A.d (D.slc [[D.lit (Zab (Rf.dstr ((gAt x0 x1).getD 9 D0)))]]), A.ptr (.up (Ref.up q1)) 0] [(Ref.up (Ref.up q1), [(A.own 1 x6 ([] : List (List D)))])] R' /\
 (∀ v H', R' (.ret v) H' -> ∃ x7 : List (List D), v = A.tup [] /\ H' = [(Ref.up (Ref.up q1), [(A.own 1 x7 ([] : List (List D)))])] /\
 J1_1 x3 true x7) /\
 (∀ x7v H', R' (.pan x7v) H' -> ∃ x8 : List (List D), H' = [(Ref.up (Ref.up q1), [(A.own 1 x8 ([] : List (List D)))])] /\
 R (.pan x7v) [((Ref.up q0), [A.fn 85 [Ref.up q1]]), ((Ref.up q1), [(A.own 1 x8 ([] : List (List D)))]), ((Ref.up q2), [A.fn 86 [Ref.up q2, Ref.up q3, Ref.up q0]]), ((Ref.up q3), [A.fn 87 [Ref.up q0, Ref.up q2, Ref.up q3]])])) /\
 ((!(tB ((Rf.dstr ((gAt x0 x1).getD 9 D0)) == ([] : List UInt8)))) = false ->
 J1_1 x3 false x6)) /\
 (∀ x6v H', R' (.pan x6v) H' -> ∃ x7 : List (List D), H' = [(Ref.up (Ref.up q1), [(A.own 1 x7 ([] : List (List D)))])] /\
 R (.pan x6v) [((Ref.up q0), [A.fn 85 [Ref.up q1]]), ((Ref.up q1), [(A.own 1 x7 ([] : List (List D)))]), ((Ref.up q2), [A.fn 86 [Ref.up q2, Ref.up q3, Ref.up q0]]), ((Ref.up q3), [A.fn 87 [Ref.up q0, Ref.up q2, Ref.up q3]])])) /\
 (∀ x5v H', R' (.pan x5v) H' -> ∃ x6 : List (List D), H' = [(Ref.up (Ref.up q0), [A.fn 85 [.up (Ref.up q1)]]), (Ref.up (Ref.up q1), [(A.own 1 x6 ([] : List (List D)))]), (Ref.up (Ref.up q2), [A.fn 86 [.up (Ref.up q2), .up (Ref.up q3), .up (Ref.up q0)]]), (Ref.up (Ref.up q3), [A.fn 87 [.up (Ref.up q0), .up (Ref.up q2), .up (Ref.up q3)]])] /\
 R (.pan x5v) [((Ref.up q0), [A.fn 85 [Ref.up q1]]), ((Ref.up q1), [(A.own 1 x6 ([] : List (List D)))]), ((Ref.up q2), [A.fn 86 [Ref.up q2, Ref.up q3, Ref.up q0]]), ((Ref.up q3), [A.fn 87 [Ref.up q0, Ref.up q2, Ref.up q3]])])) /\
 True)) /\
 (∀ x2v H', R' (.pan x2v) H' -> ∃ x3 : List (List D), H' = [(Ref.up (Ref.up q1), [A.zs x3])] /\
 R (.pan x2v) [((Ref.up q0), [A.fn 85 [Ref.up q1]]), ((Ref.up q1), [A.zs x3]), ((Ref.up q2), [A.fn 86 [Ref.up q2, Ref.up q3, Ref.up q0]]), ((Ref.up q3), [A.fn 87 [Ref.up q0, Ref.up q2, Ref.up q3]])])) /\
 (∀ (x2 : Int) (x3 : Bool) , J1_0 x2 x3 ->
 tB (decide ((-9223372036854775808) <= (x1 + 1))) = true /\
 tB (decide ((x1 + 1) <= 9223372036854775807)) = true /\
 I0_0 (x1 + 1) /\ M0_0 (x1 + 1) < M0_0 x1) /\
 (∀ (x2 : Int) (x3 : Bool) (x4 : List (List D)) , J1_1 x2 x3 x4 ->
 tB (decide ((-9223372036854775808) <= (x1 + 1))) = true /\
 tB (decide ((x1 + 1) <= 9223372036854775807)) = true /\
 I0_1 (x1 + 1) x4 /\ M0_1 (x1 + 1) x4 < M0_0 x1) /\
 True) /\
 (tB (decide (x1 < (x0.length : Int))) = false ->
 R (.ret (A.tup [])) [((Ref.up q0), [A.fn 85 [Ref.up q1]]), ((Ref.up q1), [(A.zs ([] : List (List D)))]), ((Ref.up q2), [A.fn 86 [Ref.up q2, Ref.up q3, Ref.up q0]]), ((Ref.up q3), [A.fn 87 [Ref.up q0, Ref.up q2, Ref.up q3]])])) /\
 (∀ (x1 : Int) (x2 : List (List D)) , I0_1 x1 x2 ->
 (tB (decide (x1 < (x0.length : Int))) = true ->
 ∃ J1_0 : Int -> Bool -> List (List D) -> Prop, (tB (decide (0 <= x1)) = true /\
 tB (((gAt x0 x1).length : Int) == 11) = true /\
 Rf.isK .slc ((gAt x0 x1).getD 8 D0) = true /\
 ∀ _ : Nat -> Nat, ∃ R', Holds Tryz.prog 85 [A.d (D.slc (Rf.dlst ((gAt x0 x1).getD 8 D0))), A.ptr (.up (Ref.up q1)) 0] [(Ref.up (Ref.up q1), [(A.own 1 x2 ([] : List (List D)))])] R' /\
 (∀ v H', R' (.ret v) H' -> ∃ x3 : List (List D), v = A.tup [] /\ H' = [(Ref.up (Ref.up q1), [(A.own 1 x3 ([] : List (List D)))])] /\
 ∃ J2_0 : Int -> List (List D) -> Prop, (Rf.isK .slc ((gAt x0 x1).getD 5 D0) = true /\
 ∃ (I3_0 : Int -> List (List D) -> Prop) (M3_0 : Int -> List (List D) -> Nat), I3_0 0 x3 /\
 (∀ (x4 : Int) (x5 : List (List D)) , I3_0 x4 x5 ->
 (tB (decide (x4 < ((Rf.dlst ((gAt x0 x1).getD 5 D0)).length : Int))) = true ->
 tB (decide (0 <= x4)) = true /\
 tB (((gAt (Rf.dlst ((gAt x0 x1).getD 5 D0)) x4).length : Int) == 9) = true /\
 ∀ _ : Nat -> Nat, ∃ R', Holds Tryz.prog 86 [A.agg (gAt (Rf.dlst ((gAt x0 x1).getD 5 D0)) x4), A.ptr (.up (Ref.up q2)) 0, A.ptr (.up (Ref.up q3)) 0, A.ptr (.up (Ref.up q0)) 0] [(Ref.up (Ref.up q2), [A.fn 86 [.up (Ref.up q2), .up (Ref.up q3), .up (Ref.up q0)]]), (Ref.up (Ref.up q3), [A.fn 87 [.up (Ref.up q0), .up (Ref.up q2), .up (Ref.up q3)]]), (Ref.up (Ref.up q0), [A.fn 85 [.up (Ref.up q1)]]), (Ref.up (Ref.up q1), [(A.own 1 x5 ([] : List (List D)))])] R' /\
 (∀ v H', R' (.ret v) H' -> ∃ x6 : List (List D), v = A.tup [] /\ H' = [(Ref.up (Ref.up q2), [A.fn 86 [.up (Ref.up q2), .up (Ref.up q3), .up (Ref.up q0)]]), (Ref.up (Ref.up q3), [A.fn 87 [.up (Ref.up q0), .up (Ref.up q2), .up (Ref.up q3)]]), (Ref.up (Ref.up q0), [A.fn 85 [.up (Ref.up q1)]]), (Ref.up (Ref.up q1), [(A.own 1 x6 ([] : List (List D)))])] /\
 tB (decide ((-9223372036854775808) <= (x4 + 1))) = true /\
 tB (decide ((x4 + 1) <= 9223372036854775807)) = true /\
 I3_0 (x4 + 1) x6 /\ M3_0 (x4 + 1) x6 < M3_0 x4 x5) /\
 (∀ x6v H', R' (.pan x6v) H' -> ∃ x7 : List (List D), H' = [(Ref.up (Ref.up q2), [A.fn 86 [.up (Ref.up q2), .up (Ref.up q3), .up (Ref.up q0)]]), (Ref.up (Ref.up q3), [A.fn 87 [.up (Ref.up q0), .up (Ref.up q2), .up (Ref.up q3)]]), (Ref.up (Ref.up q0), [A.fn 85 [.up (Ref.up q1)]]), (Ref.up (Ref.up q1), [(A.own 1 x7 ([] : List (List D)))])] /\
 R (.pan x6v) [((Ref.up q0), [A.fn 85 [Ref.up q1]]), ((Ref.up q1), [(A.own 1 x7 ([] : List (List D)))]), ((Ref.up q2), [A.fn 86 [Ref.up q2, Ref.up q3, Ref.up q0]]), ((Ref.up q3), [A.fn 87 [Ref.up q0, Ref.up q2, Ref.up q3]])])) /\
 (tB (decide (x4 < ((Rf.dlst ((gAt x0 x1).getD 5 D0)).length : Int))) = false ->
 J2_0 x4 x5)) /\
 True) /\
 (∀ (x4 : Int) (x5 : List (List D)) , J2_0 x4 x5 ->
 Rf.isK .slc ((gAt x0 x1).getD 6 D0) = true /\
 ∀ _ : Nat -> Nat, ∃ R', Holds Tryz.prog 87 [A.d (D.slc (Rf.dlst ((gAt x0 x1).getD 6 D0))), A.ptr (.up (Ref.up q0)) 0, A.ptr (.up (Ref.up q2)) 0, A.ptr (.up (Ref.up q3)) 0] [(Ref.up (Ref.up q0), [A.fn 85 [.up (Ref.up q1)]]), (Ref.up (Ref.up q1), [(A.own 1 x5 ([] : List (List D)))]), (Ref.up (Ref.up q2), [A.fn 86 [.up (Ref.up q2), .up (Ref.up q3), .up (Ref.up q0)]]), (Ref.up (Ref.up q3), [A.fn 87 [.up (Ref.up q0), .up (Ref.up q2), .up (Ref.up q3)]])] R' /\
 (∀ v H', R' (.ret v) H' -> ∃ x6 : List (List D), v = A.tup [] /\ H' = [(Ref.up (Ref.up q0), [A.fn 85 [.up (Ref.up q1)]]), (Ref.up (Ref.up q1), [(A.own 1 x6 ([] : List (List D)))]), (Ref.up (Ref.up q2), [A.fn 86 [.up (Ref.up q2), .up (Ref.up q3), .up (Ref.up q0)]]), (Ref.up (Ref.up q3), [A.fn 87 [.up (Ref.up q0), .up (Ref.up q2), .up (Ref.up q3)]])] /\
 Rf.isK .slc ((gAt x0 x1).getD 7 D0) = true /\
 ∀ _ : Nat -> Nat, ∃ R', Holds Tryz.prog 85 [A.d (D.slc (Rf.dlst ((gAt x0 x1).getD 7 D0))), A.ptr (.up (Ref.up q1)) 0] [(Ref.up (Ref.up q1), [(A.own 1 x6 ([] : List (List D)))])] R' /\
 (∀ v H', R' (.ret v) H' -> ∃ x7 : List (List D), v = A.tup [] /\ H' = [(Ref.up (Ref.up q1), [(A.own 1 x7 ([] : List (List D)))])] /\
 Rf.isK .str ((gAt x0 x1).getD 9 D0) = true /\
 ((!(tB ((Rf.dstr ((gAt x0 x1).getD 9 D0)) == ([] : List UInt8)))) = true ->
 ∀ _ : Nat -> Nat, ∃ R', Holds Tryz.prog 85 [A.d (D.slc [[D.lit (Zab (Rf.dstr ((gAt x0 x1).getD 9 D0)))]]), A.ptr (.up (Ref.up q1)) 0] [(Ref.up (Ref.up q1), [(A.own 1 x7 ([] : List (List D)))])] R' /\
 (∀ v H', R' (.ret v) H' -> ∃ x8 : List (List D), v = A.tup [] /\ H' = [(Ref.up (Ref.up q1), [(A.own 1 x8 ([] : List (List D)))])] /\
 J1_0 x4 true x8) /\
 (∀ x8v H', R' (.pan x8v) H' -> ∃ x9 : List (List D), H' = [(Ref.up (Ref.up q1), [(A.own 1 x9 ([] : List (List D)))])] /\
 R (.pan x8v) [((Ref.up q0), [A.fn 85 [Ref.up q1]]), ((Ref.up q1), [(A.own 1 x9 ([] : List (List D)))]), ((Ref.up q2), [A.fn 86 [Ref.up q2, Ref.up q3, Ref.up q0]]), ((Ref.up q3), [A.fn 87 [Ref.up q0, Ref.up q2, Ref.up q3]])])) /\
 ((!(tB ((Rf.dstr ((gAt x0 x1).getD 9 D0)) == ([] : List UInt8)))) = false ->
 J1_0 x4 false x7)) /\
 (∀ x7v H', R' (.pan x7v) H' -> ∃ x8 : List (List D), H' = [(Ref.up (Ref.up q1), [(A.own 1 x8 ([] : List (List D)))])] /\
 R (.pan x7v) [((Ref.up q0), [A.fn 85 [Ref.up q1]]), ((Ref.up q1), [(A.own 1 x8 ([] : List (List D)))]), ((Ref.up q2), [A.fn 86 [Ref.up q2, Ref.up q3, Ref.up q0]]), ((Ref.up q3), [A.fn 87 [Ref.up q0, Ref.up q2, Ref.up q3]])])) /\
 (∀ x6v H', R' (.pan x6v) H' -> ∃ x7 : List (List D), H' = [(Ref.up (Ref.up q0), [A.fn 85 [.up (Ref.up q1)]]), (Ref.up (Ref.up q1), [(A.own 1 x7 ([] : List (List D)))]), (Ref.up (Ref.up q2), [A.fn 86 [.up (Ref.up q2), .up (Ref.up q3), .up (Ref.up q0)]]), (Ref.up (Ref.up q3), [A.fn 87 [.up (Ref.up q0), .up (Ref.up q2), .up (Ref.up q3)]])] /\
 R (.pan x6v) [((Ref.up q0), [A.fn 85 [Ref.up q1]]), ((Ref.up q1), [(A.own 1 x7 ([] : List (List D)))]), ((Ref.up q2), [A.fn 86 [Ref.up q2, Ref.up q3, Ref.up q0]]), ((Ref.up q3), [A.fn 87 [Ref.up q0, Ref.up q2, Ref.up q3]])])) /\
 True) /\
 (∀ x3v H', R' (.pan x3v) H' -> ∃ x4 : List (List D), H' = [(Ref.up (Ref.up q1), [(A.own 1 x4 ([] : List (List D)))])] /\
 R (.pan x3v) [((Ref.up q0), [A.fn 85 [Ref.up q1]]), ((Ref.up q1), [(A.own 1 x4 ([] : List (List D)))]), ((Ref.up q2), [A.fn 86 [Ref.up q2, Ref.up q3, Ref.up q0]]), ((Ref.up q3), [A.fn 87 [Ref.up q0, Ref.up q2, Ref.up q3]])])) /\
 (∀ (x3 : Int) (x4 : Bool) (x5 : List (List D)) , J1_0 x3 x4 x5 ->
 tB (decide ((-9223372036854775808) <= (x1 + 1))) = true /\
 tB (decide ((x1 + 1) <= 9223372036854775807)) = true /\
 I0_1 (x1 + 1) x5 /\ M0_1 (x1 + 1) x5 < M0_1 x1 x2) /\
 True) /\
 (tB (decide (x1 < (x0.length : Int))) = false ->
 R (.ret (A.tup [])) [((Ref.up q0), [A.fn 85 [Ref.up q1]]), ((Ref.up q1), [(A.own 1 x2 ([] : List (List D)))]), ((Ref.up q2), [A.fn 86 [Ref.up q2, Ref.up q3, Ref.up q0]]), ((Ref.up q3), [A.fn 87 [Ref.up q0, Ref.up q2, Ref.up q3]])])) /\
 True) :
 Holds Tryz.prog 87 [A.d (D.slc x0), A.ptr (Ref.up q0) 0, A.ptr (Ref.up q2) 0, A.ptr (Ref.up q3) 0] [((Ref.up q0), [A.fn 85 [Ref.up q1]]), ((Ref.up q1), [(A.zs ([] : List (List D)))]), ((Ref.up q2), [A.fn 86 [Ref.up q2, Ref.up q3, Ref.up q0]]), ((Ref.up q3), [A.fn 87 [Ref.up q0, Ref.up q2, Ref.up q3]])] R :=
 walk (c := ⟨Tryz.prog, 47, true, [0, 1, 2, 3, 6, 8, 9, 10, 11, 12, 20, 21, 22, 23, 40]⟩) (op := { cuts := [9, 13], two := [(70, 1), (72, 1), (85, 1), (86, 1), (87, 1)], com := [(13, (12, 5000)), (13, (6, 5000)), (13, (20, 5000)), (13, (21, 5000)), (13, (22, 5000)), (13, (23, 5000)), (13, (8, 5000)), (13, (40, 5000)), (8, (23, 5000)), (8, (8, 5000))] }) (fn := Tryz.f87) (args := [.c (.o1 .cl (.var 0)), .ptr (.up 0) 0, .ptr (.up 2) 0, .ptr (.up 3) 0]) (K := [(.up 0, [.fn 85 [.up 1]]), (.up 1, [.zs .lnil]), (.up 2, [.fn 86 [.up 2, .up 3, .up 0]]), (.up 3, [.fn 87 [.up 0, .up 2, .up 3]])]) (nv := 1) (depth := 6) (up := upOf [q0, q1, q2, q3]) (ρ := Zbi [.l x0])
  rfl rfl rfl rfl rfl (by decide) (by decide) (by decide) (by decide) rfl (by simp [Zac, RRef.den, upOf, hq01, hq02, hq12, hq03, hq13, hq23]) (T_of (by kernel_rfl) h)
theorem w87b {R : RT} (x0 : List (List D)) (x1 : List (List D)) (q0 q1 q2 q3 : Ref) (hq01 : q0 ≠ q1) (hq02 : q0 ≠ q2) (hq12 : q1 ≠ q2) (hq03 : q0 ≠ q3) (hq13 : q1 ≠ q3) (hq23 : q2 ≠ q3) (h : ∃ (I0_0 : Int -> List (List D) -> Prop) (M0_0 : Int -> List (List D) -> Nat), I0_0 0 x1 /\
 (∀ (x2 : Int) (x3 : List (List D)) , I0_0 x2 x3 ->
 (tB (decide (x2 < (x0.length : Int))) = true ->
 ∃ J1_0 : Int -> Bool -> List (List D) -> Prop, (tB (decide (0 <= x2)) = true /\
 tB (((gAt x0 x2).length : Int) == 11) = true /\
 Rf.isK .slc ((gAt x0 x2).getD 8 D0) = true /\
 ∀ _ : Nat -> Nat, ∃ R', Holds Tryz.prog 85 [A.d (D.slc (Rf.dlst ((gAt x0 x2).getD 8 D0))), A.ptr (.up (Ref.up q1)) 0] [(Ref.up (Ref.up q1), [(A.own 1 x3 ([] : List (List D)))])] R' /\
 (∀ v H', R' (.ret v) H' -> ∃ x4 : List (List D), v = A.tup [] /\ H' = [(Ref.up (Ref.up q1), [(A.own 1 x4 ([] : List (List D)))])] /\
 Rf.isK .slc ((gAt x0 x2).getD 5 D0) = true /\
 ∃ (I2_0 : Int -> List (List D) -> Prop) (M2_0 : Int -> List (List D) -> Nat), I2_0 0 x4 /\
 (∀ (x5 : Int) (x6 : List (List D)) , I2_0 x5 x6 ->
 (tB (decide (x5 < ((Rf.dlst ((gAt x0 x2).getD 5 D0)).length : Int))) = true ->
 tB (decide (0 <= x5)) = true /\
 tB (((gAt (Rf.dlst ((gAt x0 x2).getD 5 D0)) x5).length : Int) == 9) = true /\
 ∀ _ : Nat -> Nat, ∃ R', Holds Tryz.prog 86 [A.agg (gAt (Rf.dlst ((gAt x0 x2).getD 5 D0)) x5), A.ptr (.up (Ref.up q2)) 0, A.ptr (.up (Ref.up q3)) 0, A.ptr (.up (Ref.up q0)) 0] [(Ref.up (Ref.up q2), [A.fn 86 [.up (Ref.up q2), .up (Ref.up q3), .up (Ref.up q0)]]), (Ref.up (Ref.up q3), [A.fn 87 [.up (Ref.up q0), .up (Ref.up q2), .up (Ref.up q3)]]), (Ref.up (Ref.up q0), [A.fn 85 [.up (Ref.up q1)]]), (Ref.up (Ref.up q1), [(A.own 1 x6 ([] : List (List D)))])] R' /\
 (∀ v H', R' (.ret v) H' -> ∃ x7 : List (List D), v = A.tup [] /\ H' = [(Ref.up (Ref.up q2), [A.fn 86 [.up (Ref.up q2), .up (Ref.up q3), .up (Ref.up q0)]]), (Ref.up (Ref.up q3), [A.fn 87 [.up (Ref.up q0), .up (Ref.up q2), .up (Ref.up q3)]]), (Ref.up (Ref.up q0), [A.fn 85 [.up (Ref.up q1)]]), (Ref.up (Ref.up q1), [(A.own 1 x7 ([] : List (List D)))])] /\
 tB (decide ((-9223372036854775808) <= (x5 + 1))) = true /\
 tB (decide ((x5 + 1) <= 9223372036854775807)) = true /\
 I2_0 (x5 + 1) x7 /\ M2_0 (x5 + 1) x7 < M2_0 x5 x6) /\
 (∀ x7v H', R' (.pan x7v) H' -> ∃ x8 : List (List D), H' = [(Ref.up (Ref.up q2), [A.fn 86 [.up (Ref.up q2), .up (Ref.up q3), .up (Ref.up q0)]]), (Ref.up (Ref.up q3), [A.fn 87 [.up (Ref.up q0), .up (Ref.up q2), .up (Ref.up q3)]]), (Ref.up (Ref.up q0), [A.fn 85 [.up (Ref.up q1)]]), (Ref.up (Ref.up q1), [(A.own 1 x8 ([] : List (List D)))])] /\
 R (.pan x7v) [((Ref.up q0), [A.fn 85 [Ref.up q1]]), ((Ref.up q1), [(A.own 1 x8 ([] : List (List D)))]), ((Ref.up q2), [A.fn 86 [Ref.up q2, Ref.up q3, Ref.up q0]]), ((Ref.up q3), [A.fn 87 [Ref.up q0, Ref.up q2, Ref.up q3]])])) /\
 (tB (decide (x5 < ((Rf.dlst ((gAt x0 x2).getD 5 D0)).length : Int))) = false ->
 Rf.isK .slc ((gAt x0 x2).getD 6 D0) = true /\
 ∀ _ : Nat -> Nat, ∃ R', Holds Tryz.prog 87 [A.d (D.slc (Rf.dlst ((gAt x0 x2).getD 6 D0))), A.ptr (.up (Ref.up q0)) 0, A.ptr (.up (Ref.up q2)) 0, A.ptr (.up (Ref.up q3)) 0] [(Ref.up (Ref.up q0), [A.fn 85 [.up (Ref.up q1)]]), (Ref.up (Ref.up q1), [(A.own 1 x6 ([] : List (List D)))]), (Ref.up (Ref.up q2), [A.fn 86 [.up (Ref.up q2), .up (Ref.up q3), .up (Ref.up q0)]]), (Ref.up (Ref.up q3), [A.fn 87 [.up (Ref.up q0), .up (Ref.up q2), .up (Ref.up q3)]])] R' /\
 (∀ v H', R' (.ret v) H' -> ∃ x7 : List (List D), v = A.tup [] /\ H' = [(Ref.up (Ref.up q0), [A.fn 85 [.up (Ref.up q1)]]), (Ref.up (Ref.up q1), [(A.own 1 x7 ([] : List (List D)))]), (Ref.up (Ref.up q2), [A.fn 86 [.up (Ref.up q2), .up (Ref.up q3), .up (Ref.up q0)]]), (Ref.up (Ref.up q3), [A.fn 87 [.up (Ref.up q0), .up (Ref.up q2), .up (Ref.up q3)]])] /\
 Rf.isK .slc ((gAt x0 x2).getD 7 D0) = true /\
 ∀ _ : Nat -> Nat, ∃ R', Holds Tryz.prog 85 [A.d (D.slc (Rf.dlst ((gAt x0 x2).getD 7 D0))), A.ptr (.up (Ref.up q1)) 0] [(Ref.up (Ref.up q1), [(A.own 1 x7 ([] : List (List D)))])] R' /\
 (∀ v H', R' (.ret v) H' -> ∃ x8 : List (List D), v = A.tup [] /\ H' = [(Ref.up (Ref.up q1), [(A.own 1 x8 ([] : List (List D)))])] /\
 Rf.isK .str ((gAt x0 x2).getD 9 D0) = true /\
 ((!(tB ((Rf.dstr ((gAt x0 x2).getD 9 D0)) == ([] : List UInt8)))) = true ->
 ∀ _ : Nat -> Nat, ∃ R', Holds Tryz.prog 85 [A.d (D.slc [[D.lit (Zab (Rf.dstr ((gAt x0 x2).getD 9 D0)))]]), A.ptr (.up (Ref.up q1)) 0] [(Ref.up (Ref.up q1), [(A.own 1 x8 ([] : List (List D)))])] R' /\
 (∀ v H', R' (.ret v) H' -> ∃ x9 : List (List D), v = A.tup [] /\ H' = [(Ref.up (Ref.up q1), [(A.own 1 x9 ([] : List (List D)))])] /\
 J1_0 x5 true x9) /\
 (∀ x9v H', R' (.pan x9v) H' -> ∃ x10 : List (List D), H' = [(Ref.up (Ref.up q1), [(A.own 1 x10 ([] : List (List D)))])] /\
 R (.pan x9v) [((Ref.up q0), [A.fn 85 [Ref.up q1]]), ((Ref.up q1), [(A.own 1 x10 ([] : List (List D)))]), ((Ref.up q2), [A.fn 86 [Ref.up q2, Ref.up q3, Ref.up q0]]), ((Ref.up q3), [A.fn 87 [Ref.up q0, Ref.up q2, Ref.up q3]])])) /\
 ((!(tB ((Rf.dstr ((gAt x0 x2).getD 9 D0)) == ([] : List UInt8)))) = false ->
 J1_0 x5 false x8)) /\
 (∀ x8v H', R' (.pan x8v) H' -> ∃ x9 : List (List D), H' = [(Ref.up (Ref.up q1), [(A.own 1 x9 ([] : List (List D)))])] /\
 R (.pan x8v) [((Ref.up q0), [A.fn 85 [Ref.up q1]]), ((Ref.up q1), [(A.own 1 x9 ([] : List (List D)))]), ((Ref.up q2), [A.fn 86 [Ref.up q2, Ref.up q3, Ref.up q0]]), ((Ref.up q3), [A.fn 87 [Ref.up q0, Ref.up q2, Ref.up q3]])])) /\
 (∀ x7v H', R' (.pan x7v) H' -> ∃ x8 : List (List D), H' = [(Ref.up (Ref.up q0), [A.fn 85 [.up (Ref.up q1)]]), (Ref.up (Ref.up q1), [(A.own 1 x8 ([] : List (List D)))]), (Ref.up (Ref.up q2), [A.fn 86 [.up (Ref.up q2), .up (Ref.up q3), .up (Ref.up q0)]]), (Ref.up (Ref.up q3), [A.fn 87 [.up (Ref.up q0), .up (Ref.up q2), .up (Ref.up q3)]])] /\
 R (.pan x7v) [((Ref.up q0), [A.fn 85 [Ref.up q1]]), ((Ref.up q1), [(A.own 1 x8 ([] : List (List D)))]), ((Ref.up q2), [A.fn 86 [Ref.up q2, Ref.up q3, Ref.up q0]]), ((Ref.up q3), [A.fn 87 [Ref.up q0, Ref.up q2, Ref.up q3]])]))) /\
 True) /\
 (∀ x4v H', R' (.pan x4v) H' -> ∃ x5 : List (List D), H' = [(Ref.up (Ref.up q1), [(A.own 1 x5 ([] : List (List D)))])] /\
 R (.pan x4v) [((Ref.up q0), [A.fn 85 [Ref.up q1]]), ((Ref.up q1), [(A.own 1 x5 ([] : List (List D)))]), ((Ref.up q2), [A.fn 86 [Ref.up q2, Ref.up q3, Ref.up q0]]), ((Ref.up q3), [A.fn 87 [Ref.up q0, Ref.up q2, Ref.up q3]])])) /\
 (∀ (x4 : Int) (x5 : Bool) (x6 : List (List D)) , J1_0 x4 x5 x6 ->
 tB (decide ((-9223372036854775808) <= (x2 + 1))) = true /\
 tB (decide ((x2 + 1) <= 9223372036854775807)) = true /\
 I0_0 (x2 + 1) x6 /\ M0_0 (x2 + 1) x6 < M0_0 x2 x3) /\
 True) /\
 (tB (decide (x2 < (x0.length : Int))) = false ->
 R (.ret (A.tup [])) [((Ref.up q0), [A.fn 85 [Ref.up q1]]), ((Ref.up q1), [(A.own 1 x3 ([] : List (List D)))]), ((Ref.up q2), [A.fn 86 [Ref.up q2, Ref.up q3, Ref.up q0]]), ((Ref.up q3), [A.fn 87 [Ref.up q0, Ref.up q2, Ref.up q3]])])) /\
 True) :
 Holds Tryz.prog 87 [A.d (D.slc x0), A.ptr (Ref.up q0) 0, A.ptr (Ref.up q2) 0, A.ptr (Ref.up q3) 0] [((Ref.up q0), [A.fn 85 [Ref.up q1]]), ((Ref.up q1), [(A.own 1 x1 ([] : List (List D)))]), ((Ref.up q2), [A.fn 86 [Ref.up q2, Ref.up q3, Ref.up q0]]), ((Ref.up q3), [A.fn 87 [Ref.up q0, Ref.up q2, Ref.up q3]])] R :=
 walk (c := ⟨Tryz.prog, 47, true, [0, 1, 2, 3, 6, 8, 9, 10, 11, 12, 20, 21, 22, 23, 40]⟩) (op := { cuts := [13], com := [(13, (12, 5000)), (13, (6, 5000)), (13, (20, 5000)), (13, (21, 5000)), (13, (22, 5000)), (13, (23, 5000)), (13, (8, 5000)), (13, (40, 5000)), (8, (23, 5000)), (8, (8, 5000))] }) (fn := Tryz.f87) (args := [.c (.o1 .cl (.var 0)), .ptr (.up 0) 0, .ptr (.up 2) 0, .ptr (.up 3) 0]) (K := [(.up 0, [.fn 85 [.up 1]]), (.up 1, [.own 1 (.var 1) .lnil]), (.up 2, [.fn 86 [.up 2, .up 3, .up 0]]), (.up 3, [.fn 87 [.up 0, .up 2, .up 3]])]) (nv := 2) (depth := 6) (up := upOf [q0, q1, q2, q3]) (ρ := Zbi [.l x0, .l x1])
  rfl rfl rfl rfl rfl (by decide) (by decide) (by decide) (by decide) rfl (by simp [Zac, RRef.den, upOf, hq01, hq02, hq12, hq03, hq13, hq23]) (T_of (by kernel_rfl) h)
end Go.Sy
end
section
open Go Go.Proofs Go.Ab Go.Rf
set_option maxRecDepth 1000000
set_option maxHeartbeats 2000000
set_option linter.unusedVariables false
namespace Go.Sy
theorem w20 {R : RT} (x0 : List D) (x1 : List D) (h : tB ((x0.length : Int) == 4) = true /\
 tB ((x1.length : Int) == 4) = true /\
 Rf.isK .str (x0.getD 0 D0) = true /\
 Rf.isK .str (x1.getD 0 D0) = true /\
 ((!(tB ((Rf.dstr (x0.getD 0 D0)) == (Rf.dstr (x1.getD 0 D0))))) || (Rf.isK .slc (x0.getD 1 D0))) = true /\
 ((!(tB ((Rf.dstr (x0.getD 0 D0)) == (Rf.dstr (x1.getD 0 D0))))) || (Rf.isK .slc (x1.getD 1 D0))) = true /\
 (((!(tB ((Rf.dstr (x0.getD 0 D0)) == (Rf.dstr (x1.getD 0 D0))))) || (!(tB (((Rf.dlst (x0.getD 1 D0)).length : Int) == ((Rf.dlst (x1.getD 1 D0)).length : Int))))) || (Rf.isK .slc (x0.getD 3 D0))) = true /\
 (((!(tB ((Rf.dstr (x0.getD 0 D0)) == (Rf.dstr (x1.getD 0 D0))))) || (!(tB (((Rf.dlst (x0.getD 1 D0)).length : Int) == ((Rf.dlst (x1.getD 1 D0)).length : Int))))) || (Rf.isK .slc (x1.getD 3 D0))) = true /\
 ((!((!(tB ((Rf.dstr (x0.getD 0 D0)) == (Rf.dstr (x1.getD 0 D0))))) || (!(tB (((Rf.dlst (x0.getD 1 D0)).length : Int) == ((Rf.dlst (x1.getD 1 D0)).length : Int)))))) = true ->
 ∀ _ : Nat -> Nat, ∃ R', Holds Tryz.prog 23 [A.d (D.slc (Rf.dlst (x0.getD 3 D0))), A.d (D.slc (Rf.dlst (x1.getD 3 D0)))] [] R' /\
 (∀ v H', R' (.ret v) H' -> ∃ x2 : Bool, v = A.d (D.lit (.bool x2)) /\ H' = [] /\
 ((!x2) = true ->
 R (.ret (A.d (D.lit (.bool false)))) []) /\
 ((!x2) = false ->
 Rf.isK .slc (x0.getD 1 D0) = true /\
 ∃ (I0_0 : Int -> Prop) (M0_0 : Int -> Nat), I0_0 0 /\
 (∀ (x3 : Int) , I0_0 x3 ->
 (tB (decide (x3 < ((Rf.dlst (x0.getD 1 D0)).length : Int))) = true ->
 tB (decide (0 <= x3)) = true /\
 tB (((gAt (Rf.dlst (x0.getD 1 D0)) x3).length : Int) == 3) = true /\
 tB (decide (0 <= ((gAt (Rf.dlst (x0.getD 1 D0)) x3).length : Int))) = true /\
 Rf.isK .str ((gAt (Rf.dlst (x0.getD 1 D0)) x3).getD 0 D0) = true /\
 Rf.isK .slc (x1.getD 1 D0) = true /\
 tB (decide (x3 < ((Rf.dlst (x1.getD 1 D0)).length : Int))) = true /\
 tB (((gAt (Rf.dlst (x1.getD 1 D0)) x3).length : Int) == 3) = true /\
 tB (decide (0 <= ((gAt (Rf.dlst (x1.getD 1 D0)) x3).length : Int))) = true /\
 Rf.isK .str ((gAt (Rf.dlst (x1.getD 1 D0)) x3).getD 0 D0) = true /\
 ((!(tB ((Rf.dstr ((gAt (Rf.dlst (x0.getD 1 D0)) x3).getD 0 D0)) == (Rf.dstr ((gAt (Rf.dlst (x1.getD 1 D0)) x3).getD 0 D0))))) || (tB (decide (1 <= ((gAt (Rf.dlst (x0.getD 1 D0)) x3).length : Int))))) = true /\
 ((!(tB ((Rf.dstr ((gAt (Rf.dlst (x0.getD 1 D0)) x3).getD 0 D0)) == (Rf.dstr ((gAt (Rf.dlst (x1.getD 1 D0)) x3).getD 0 D0))))) || (Rf.isK .str ((gAt (Rf.dlst (x0.getD 1 D0)) x3).getD 1 D0))) = true /\
 ((!(tB ((Rf.dstr ((gAt (Rf.dlst (x0.getD 1 D0)) x3).getD 0 D0)) == (Rf.dstr ((gAt (Rf.dlst (x1.getD 1 D0)) x3).getD 0 D0))))) || (tB (decide (1 <= ((gAt (Rf.dlst (x1.getD 1 D0)) x3).length : Int))))) = true /\
 ((!(tB ((Rf.dstr ((gAt (Rf.dlst (x0.getD 1 D0)) x3).getD 0 D0)) == (Rf.dstr ((gAt (Rf.dlst (x1.getD 1 D0)) x3).getD 0 D0))))) || (Rf.isK .str ((gAt (Rf.dlst (x1.getD 1 D0)) x3).getD 1 D0))) = true /\
 (((!(tB ((Rf.dstr ((gAt (Rf.dlst (x0.getD 1 D0)) x3).getD 0 D0)) == (Rf.dstr ((gAt (Rf.dlst (x1.getD 1 D0)) x3).getD 0 D0))))) || (!(tB ((Rf.dstr ((gAt (Rf.dlst (x0.getD 1 D0)) x3).getD 1 D0)) == (Rf.dstr ((gAt (Rf.dlst (x1.getD 1 D0)) x3).getD 1 D0)))))) = true ->
 R (.ret (A.d (D.lit (.bool false)))) []) /\
 (((!(tB ((Rf.dstr ((gAt (Rf.dlst (x0.getD 1 D0)) x3).getD 0 D0)) == (Rf.dstr ((gAt (Rf.dlst (x1.getD 1 D0)) x3).getD 0 D0))))) || (!(tB ((Rf.dstr ((gAt (Rf.dlst (x0.getD 1 D0)) x3).getD 1 D0)) == (Rf.dstr ((gAt (Rf.dlst (x1.getD 1 D0)) x3).getD 1 D0)))))) = false ->
 tB (decide ((-9223372036854775808) <= (x3 + 1))) = true /\
 tB (decide ((x3 + 1) <= 9223372036854775807)) = true /\
 I0_0 (x3 + 1) /\ M0_0 (x3 + 1) < M0_0 x3)) /\
 (tB (decide (x3 < ((Rf.dlst (x0.getD 1 D0)).length : Int))) = false ->
 Rf.isK .slc (x0.getD 2 D0) = true /\
 Rf.isK .slc (x1.getD 2 D0) = true /\
 ∀ _ : Nat -> Nat, ∃ R', Holds Tryz.prog 66 [A.d (D.slc (Rf.dlst (x0.getD 2 D0))), A.d (D.slc (Rf.dlst (x1.getD 2 D0)))] [] R' /\
 (∀ v H', R' (.ret v) H' -> ∃ x4 : Bool, v = A.d (D.lit (.bool x4)) /\ H' = [] /\
 R (.ret (A.d (D.lit (.bool x4)))) []) /\
 PN R R')) /\
 True)) /\
 PN R R') /\
 ((!((!(tB ((Rf.dstr (x0.getD 0 D0)) == (Rf.dstr (x1.getD 0 D0))))) || (!(tB (((Rf.dlst (x0.getD 1 D0)).length : Int) == ((Rf.dlst (x1.getD 1 D0)).length : Int)))))) = false ->
 R (.ret (A.d (D.lit (.bool false)))) [])) :
 Holds Tryz.prog 20 [A.agg x0, A.agg x1] [] R :=
 walk (c := ⟨Tryz.prog, 68, true, [0, 1, 2, 3, 4, 5, 27, 30, 31, 32, 61]⟩) (op := { com := [(8, (32, 5000)), (8, (5, 5000)), (8, (61, 5000)), (8, (4, 5000))] }) (fn := Tryz.f20) (args := [.agg (.var 0), .agg (.var 1)]) (K := []) (nv := 2) (depth := 7) (up := upOf []) (ρ := Zbi [.r x0, .r x1])
  rfl rfl rfl rfl rfl (by decide) (by decide) (by decide) (by decide) rfl (by simp [Zac, RRef.den, upOf]) (T_of (by kernel_rfl) h)
theorem w22 {R : RT} (x0 : List D) (x1 : List D) (h : tB ((x0.length : Int) == 9) = true /\
 tB ((x1.length : Int) == 9) = true /\
 Rf.isK (.int .i64) (x0.getD 0 D0) = true /\
 Rf.isK (.int .i64) (x1.getD 0 D0) = true /\
 ((!(tB ((Rf.dint (x0.getD 0 D0)) == (Rf.dint (x1.getD 0 D0))))) || (Rf.isK .str (x0.getD 1 D0))) = true /\
 ((!(tB ((Rf.dint (x0.getD 0 D0)) == (Rf.dint (x1.getD 0 D0))))) || (Rf.isK .str (x1.getD 1 D0))) = true /\
 (((!(tB ((Rf.dint (x0.getD 0 D0)) == (Rf.dint (x1.getD 0 D0))))) || (!(tB ((Rf.dstr (x0.getD 1 D0)) == (Rf.dstr (x1.getD 1 D0)))))) || (Rf.isK (.int .i64) (x0.getD 2 D0))) = true /\
 (((!(tB ((Rf.dint (x0.getD 0 D0)) == (Rf.dint (x1.getD 0 D0))))) || (!(tB ((Rf.dstr (x0.getD 1 D0)) == (Rf.dstr (x1.getD 1 D0)))))) || (Rf.isK (.int .i64) (x1.getD 2 D0))) = true /\
 ((((!(tB ((Rf.dint (x0.getD 0 D0)) == (Rf.dint (x1.getD 0 D0))))) || (!(tB ((Rf.dstr (x0.getD 1 D0)) == (Rf.dstr (x1.getD 1 D0)))))) || (!(tB ((Rf.dint (x0.getD 2 D0)) == (Rf.dint (x1.getD 2 D0)))))) || (Rf.isK .str (x0.getD 3 D0))) = true /\
 ((((!(tB ((Rf.dint (x0.getD 0 D0)) == (Rf.dint (x1.getD 0 D0))))) || (!(tB ((Rf.dstr (x0.getD 1 D0)) == (Rf.dstr (x1.getD 1 D0)))))) || (!(tB ((Rf.dint (x0.getD 2 D0)) == (Rf.dint (x1.getD 2 D0)))))) || (Rf.isK .str (x1.getD 3 D0))) = true /\
 ((((!(tB ((Rf.dint (x0.getD 0 D0)) == (Rf.dint (x1.getD 0 D0))))) || (!(tB ((Rf.dstr (x0.getD 1 D0)) == (Rf.dstr (x1.getD 1 D0)))))) || (!(tB ((Rf.dint (x0.getD 2 D0)) == (Rf.dint (x1.getD 2 D0)))))) || (Rf.isK .str (x0.getD 4 D0))) = true /\
 ((((!(tB ((Rf.dint (x0.getD 0 D0)) == (Rf.dint (x1.getD 0 D0))))) || (!(tB ((Rf.dstr (x0.getD 1 D0)) == (Rf.dstr (x1.getD 1 D0)))))) || (!(tB ((Rf.dint (x0.getD 2 D0)) == (Rf.dint (x1.getD 2 D0)))))) || (Rf.isK .str (x1.getD 4 D0))) = true /\
 (((((!(tB ((Rf.dint (x0.getD 0 D0)) == (Rf.dint (x1.getD 0 D0))))) || (!(tB ((Rf.dstr (x0.getD 1 D0)) == (Rf.dstr (x1.getD 1 D0)))))) || (!(tB ((Rf.dint (x0.getD 2 D0)) == (Rf.dint (x1.getD 2 D0)))))) || (!((tB ((Rf.dstr (x0.getD 3 D0)) == (Rf.dstr (x1.getD 3 D0)))) && (tB ((Rf.dstr (x0.getD 4 D0)) == (Rf.dstr (x1.getD 4 D0))))))) || (Rf.isK .slc (x0.getD 5 D0))) = true /\
 (((((!(tB ((Rf.dint (x0.getD 0 D0)) == (Rf.dint (x1.getD 0 D0))))) || (!(tB ((Rf.dstr (x0.getD 1 D0)) == (Rf.dstr (x1.getD 1 D0)))))) || (!(tB ((Rf.dint (x0.getD 2 D0)) == (Rf.dint (x1.getD 2 D0)))))) || (!((tB ((Rf.dstr (x0.getD 3 D0)) == (Rf.dstr (x1.getD 3 D0)))) && (tB ((Rf.dstr (x0.getD 4 D0)) == (Rf.dstr (x1.getD 4 D0))))))) || (Rf.isK .slc (x1.getD 5 D0))) = true /\
 ((((((!(tB ((Rf.dint (x0.getD 0 D0)) == (Rf.dint (x1.getD 0 D0))))) || (!(tB ((Rf.dstr (x0.getD 1 D0)) == (Rf.dstr (x1.getD 1 D0)))))) || (!(tB ((Rf.dint (x0.getD 2 D0)) == (Rf.dint (x1.getD 2 D0)))))) || (!((tB ((Rf.dstr (x0.getD 3 D0)) == (Rf.dstr (x1.getD 3 D0)))) && (tB ((Rf.dstr (x0.getD 4 D0)) == (Rf.dstr (x1.getD 4 D0))))))) || (!(tB (((Rf.dlst (x0.getD 5 D0)).length : Int) == ((Rf.dlst (x1.getD 5 D0)).length : Int))))) || (Rf.isK .slc (x0.getD 7 D0))) = true /\
 ((((((!(tB ((Rf.dint (x0.getD 0 D0)) == (Rf.dint (x1.getD 0 D0))))) || (!(tB ((Rf.dstr (x0.getD 1 D0)) == (Rf.dstr (x1.getD 1 D0)))))) || (!(tB ((Rf.dint (x0.getD 2 D0)) == (Rf.dint (x1.getD 2 D0)))))) || (!((tB ((Rf.dstr (x0.getD 3 D0)) == (Rf.dstr (x1.getD 3 D0)))) && (tB ((Rf.dstr (x0.getD 4 D0)) == (Rf.dstr (x1.getD 4 D0))))))) || (!(tB (((Rf.dlst (x0.getD 5 D0)).length : Int) == ((Rf.dlst (x1.getD 5 D0)).length : Int))))) || (Rf.isK .slc (x1.getD 7 D0))) = true /\
 ((!(((((!(tB ((Rf.dint (x0.getD 0 D0)) == (Rf.dint (x1.getD 0 D0))))) || (!(tB ((Rf.dstr (x0.getD 1 D0)) == (Rf.dstr (x1.getD 1 D0)))))) || (!(tB ((Rf.dint (x0.getD 2 D0)) == (Rf.dint (x1.getD 2 D0)))))) || (!((tB ((Rf.dstr (x0.getD 3 D0)) == (Rf.dstr (x1.getD 3 D0)))) && (tB ((Rf.dstr (x0.getD 4 D0)) == (Rf.dstr (x1.getD 4 D0))))))) || (!(tB (((Rf.dlst (x0.getD 5 D0)).length : Int) == ((Rf.dlst (x1.getD 5 D0)).length : Int)))))) = true ->
 ∀ _ : Nat -> Nat, ∃ R', Holds Tryz.prog 23 [A.d (D.slc (Rf.dlst (x0.getD 7 D0))), A.d (D.slc (Rf.dlst (x1.getD 7 D0)))] [] R' /\
 (∀ v H', R' (.ret v) H' -> ∃ x2 : Bool, v = A.d (D.lit (.bool x2)) /\ H' = [] /\
 ((!x2) = true ->
 R (.ret (A.d (D.lit (.bool false)))) []) /\
 ((!x2) = false ->
 Rf.isK .slc (x0.getD 5 D0) = true /\
 ∃ (I0_0 : Int -> Prop) (M0_0 : Int -> Nat), I0_0 0 /\
 (∀ (x3 : Int) , I0_0 x3 ->
 (tB (decide (x3 < ((Rf.dlst (x0.getD 5 D0)).length : Int))) = true ->
 tB (decide (0 <= x3)) = true /\
 tB (((gAt (Rf.dlst (x0.getD 5 D0)) x3).length : Int) == 9) = true /\
 Rf.isK .slc (x1.getD 5 D0) = true /\
 tB (decide (x3 < ((Rf.dlst (x1.getD 5 D0)).length : Int))) = true /\
 tB (((gAt (Rf.dlst (x1.getD 5 D0)) x3).length : Int) == 9) = true /\
 ∀ _ : Nat -> Nat, ∃ R', Holds Tryz.prog 22 [A.agg (gAt (Rf.dlst (x0.getD 5 D0)) x3), A.agg (gAt (Rf.dlst (x1.getD 5 D0)) x3)] [] R' /\
 (∀ v H', R' (.ret v) H' -> ∃ x4 : Bool, v = A.d (D.lit (.bool x4)) /\ H' = [] /\
 ((!x4) = true ->
 R (.ret (A.d (D.lit (.bool false)))) []) /\
 ((!x4) = false ->
 tB (decide ((-9223372036854775808) <= (x3 + 1))) = true /\
 tB (decide ((x3 + 1) <= 9223372036854775807)) = true /\
 I0_0 (x3 + 1) /\ M0_0 (x3 + 1) < M0_0 x3)) /\
 PN R R') /\
 (tB (decide (x3 < ((Rf.dlst (x0.getD 5 D0)).length : Int))) = false ->
 Rf.isK .slc (x0.getD 6 D0) = true /\
 Rf.isK .slc (x1.getD 6 D0) = true /\
 ∀ _ : Nat -> Nat, ∃ R', Holds Tryz.prog 66 [A.d (D.slc (Rf.dlst (x0.getD 6 D0))), A.d (D.slc (Rf.dlst (x1.getD 6 D0)))] [] R' /\
 (∀ v H', R' (.ret v) H' -> ∃ x4 : Bool, v = A.d (D.lit (.bool x4)) /\ H' = [] /\
 R (.ret (A.d (D.lit (.bool x4)))) []) /\
 PN R R')) /\
 True)) /\
 PN R R') /\
 ((!(((((!(tB ((Rf.dint (x0.getD 0 D0)) == (Rf.dint (x1.getD 0 D0))))) || (!(tB ((Rf.dstr (x0.getD 1 D0)) == (Rf.dstr (x1.getD 1 D0)))))) || (!(tB ((Rf.dint (x0.getD 2 D0)) == (Rf.dint (x1.getD 2 D0)))))) || (!((tB ((Rf.dstr (x0.getD 3 D0)) == (Rf.dstr (x1.getD 3 D0)))) && (tB ((Rf.dstr (x0.getD 4 D0)) == (Rf.dstr (x1.getD 4 D0))))))) || (!(tB (((Rf.dlst (x0.getD 5 D0)).length : Int) == ((Rf.dlst (x1.getD 5 D0)).length : Int)))))) = false ->
 R (.ret (A.d (D.lit (.bool false)))) [])) :
 Holds Tryz.prog 22 [A.agg x0, A.agg x1] [] R :=
 walk (c := ⟨Tryz.prog, 73, true, [0, 1, 2, 3, 4, 5, 48, 51, 52, 53, 66]⟩) (op := { com := [(8, (53, 5000)), (8, (5, 5000)), (8, (66, 5000)), (8, (4, 5000))] }) (fn := Tryz.f22) (args := [.agg (.var 0), .agg (.var 1)]) (K := []) (nv := 2) (depth := 7) (up := upOf []) (ρ := Zbi [.r x0, .r x1])
  rfl rfl rfl rfl rfl (by decide) (by decide) (by decide) (by decide) rfl (by simp [Zac, RRef.den, upOf]) (T_of (by kernel_rfl) h)
theorem w66 {R : RT} (x0 : List (List D)) (x1 : List (List D)) (h : ((!(tB ((x0.length : Int) == (x1.length : Int)))) = true ->
 R (.ret (A.d (D.lit (.bool false)))) []) /\
 ((!(tB ((x0.length : Int) == (x1.length : Int)))) = false ->
 ∃ (I0_0 : Int -> Prop) (M0_0 : Int -> Nat), I0_0 0 /\
 (∀ (x2 : Int) , I0_0 x2 ->
 (tB (decide (x2 < (x0.length : Int))) = true ->
 tB (decide (0 <= x2)) = true /\
 tB (decide (x2 < (x1.length : Int))) = true /\
 tB (((gAt x1 x2).length : Int) == 11) = true /\
 tB (((gAt x0 x2).length : Int) == 11) = true /\
 Rf.isK (.int .i64) ((gAt x0 x2).getD 0 D0) = true /\
 Rf.isK (.int .i64) ((gAt x1 x2).getD 0 D0) = true /\
 ((!(tB ((Rf.dint ((gAt x0 x2).getD 0 D0)) == (Rf.dint ((gAt x1 x2).getD 0 D0))))) || (Rf.isK (.int .i64) ((gAt x0 x2).getD 1 D0))) = true /\
 ((!(tB ((Rf.dint ((gAt x0 x2).getD 0 D0)) == (Rf.dint ((gAt x1 x2).getD 0 D0))))) || (Rf.isK (.int .i64) ((gAt x1 x2).getD 1 D0))) = true /\
 (((!(tB ((Rf.dint ((gAt x0 x2).getD 0 D0)) == (Rf.dint ((gAt x1 x2).getD 0 D0))))) || (!(tB ((Rf.dint ((gAt x0 x2).getD 1 D0)) == (Rf.dint ((gAt x1 x2).getD 1 D0)))))) || (Rf.isK .str ((gAt x0 x2).getD 2 D0))) = true /\
 (((!(tB ((Rf.dint ((gAt x0 x2).getD 0 D0)) == (Rf.dint ((gAt x1 x2).getD 0 D0))))) || (!(tB ((Rf.dint ((gAt x0 x2).getD 1 D0)) == (Rf.dint ((gAt x1 x2).getD 1 D0)))))) || (Rf.isK .str ((gAt x1 x2).getD 2 D0))) = true /\
 ((((!(tB ((Rf.dint ((gAt x0 x2).getD 0 D0)) == (Rf.dint ((gAt x1 x2).getD 0 D0))))) || (!(tB ((Rf.dint ((gAt x0 x2).getD 1 D0)) == (Rf.dint ((gAt x1 x2).getD 1 D0)))))) || (!(tB ((Rf.dstr ((gAt x0 x2).getD 2 D0)) == (Rf.dstr ((gAt x1 x2).getD 2 D0)))))) || (Rf.isK .str ((gAt x0 x2).getD 3 D0))) = true /\
 ((((!(tB ((Rf.dint ((gAt x0 x2).getD 0 D0)) == (Rf.dint ((gAt x1 x2).getD 0 D0))))) || (!(tB ((Rf.dint ((gAt x0 x2).getD 1 D0)) == (Rf.dint ((gAt x1 x2).getD 1 D0)))))) || (!(tB ((Rf.dstr ((gAt x0 x2).getD 2 D0)) == (Rf.dstr ((gAt x1 x2).getD 2 D0)))))) || (Rf.isK .str ((gAt x1 x2).getD 3 D0))) = true /\
 ((((!(tB ((Rf.dint ((gAt x0 x2).getD 0 D0)) == (Rf.dint ((gAt x1 x2).getD 0 D0))))) || (!(tB ((Rf.dint ((gAt x0 x2).getD 1 D0)) == (Rf.dint ((gAt x1 x2).getD 1 D0)))))) || (!(tB ((Rf.dstr ((gAt x0 x2).getD 2 D0)) == (Rf.dstr ((gAt x1 x2).getD 2 D0)))))) || (Rf.isK .str ((gAt x0 x2).getD 4 D0))) = true /\
 ((((!(tB ((Rf.dint ((gAt x0 x2).getD 0 D0)) == (Rf.dint ((gAt x1 x2).getD 0 D0))))) || (!(tB ((Rf.dint ((gAt x0 x2).getD 1 D0)) == (Rf.dint ((gAt x1 x2).getD 1 D0)))))) || (!(tB ((Rf.dstr ((gAt x0 x2).getD 2 D0)) == (Rf.dstr ((gAt x1 x2).getD 2 D0)))))) || (Rf.isK .str ((gAt x1 x2).getD 4 D0))) = true /\
 (((((!(tB ((Rf.dint ((gAt x0 x2).getD 0 D0)) == (Rf.dint ((gAt x1 x2).getD 0 D0))))) || (!(tB ((Rf.dint ((gAt x0 x2).getD 1 D0)) == (Rf.dint ((gAt x1 x2).getD 1 D0)))))) || (!(tB ((Rf.dstr ((gAt x0 x2).getD 2 D0)) == (Rf.dstr ((gAt x1 x2).getD 2 D0)))))) || (!((tB ((Rf.dstr ((gAt x0 x2).getD 3 D0)) == (Rf.dstr ((gAt x1 x2).getD 3 D0)))) && (tB ((Rf.dstr ((gAt x0 x2).getD 4 D0)) == (Rf.dstr ((gAt x1 x2).getD 4 D0))))))) || (Rf.isK .str ((gAt x0 x2).getD 9 D0))) = true /\
 (((((!(tB ((Rf.dint ((gAt x0 x2).getD 0 D0)) == (Rf.dint ((gAt x1 x2).getD 0 D0))))) || (!(tB ((Rf.dint ((gAt x0 x2).getD 1 D0)) == (Rf.dint ((gAt x1 x2).getD 1 D0)))))) || (!(tB ((Rf.dstr ((gAt x0 x2).getD 2 D0)) == (Rf.dstr ((gAt x1 x2).getD 2 D0)))))) || (!((tB ((Rf.dstr ((gAt x0 x2).getD 3 D0)) == (Rf.dstr ((gAt x1 x2).getD 3 D0)))) && (tB ((Rf.dstr ((gAt x0 x2).getD 4 D0)) == (Rf.dstr ((gAt x1 x2).getD 4 D0))))))) || (Rf.isK .str ((gAt x1 x2).getD 9 D0))) = true /\
 ((((((!(tB ((Rf.dint ((gAt x0 x2).getD 0 D0)) == (Rf.dint ((gAt x1 x2).getD 0 D0))))) || (!(tB ((Rf.dint ((gAt x0 x2).getD 1 D0)) == (Rf.dint ((gAt x1 x2).getD 1 D0)))))) || (!(tB ((Rf.dstr ((gAt x0 x2).getD 2 D0)) == (Rf.dstr ((gAt x1 x2).getD 2 D0)))))) || (!((tB ((Rf.dstr ((gAt x0 x2).getD 3 D0)) == (Rf.dstr ((gAt x1 x2).getD 3 D0)))) && (tB ((Rf.dstr ((gAt x0 x2).getD 4 D0)) == (Rf.dstr ((gAt x1 x2).getD 4 D0))))))) || (!(tB ((Rf.dstr ((gAt x0 x2).getD 9 D0)) == (Rf.dstr ((gAt x1 x2).getD 9 D0)))))) || (Rf.isK .slc ((gAt x0 x2).getD 5 D0))) = true /\
 ((((((!(tB ((Rf.dint ((gAt x0 x2).getD 0 D0)) == (Rf.dint ((gAt x1 x2).getD 0 D0))))) || (!(tB ((Rf.dint ((gAt x0 x2).getD 1 D0)) == (Rf.dint ((gAt x1 x2).getD 1 D0)))))) || (!(tB ((Rf.dstr ((gAt x0 x2).getD 2 D0)) == (Rf.dstr ((gAt x1 x2).getD 2 D0)))))) || (!((tB ((Rf.dstr ((gAt x0 x2).getD 3 D0)) == (Rf.dstr ((gAt x1 x2).getD 3 D0)))) && (tB ((Rf.dstr ((gAt x0 x2).getD 4 D0)) == (Rf.dstr ((gAt x1 x2).getD 4 D0))))))) || (!(tB ((Rf.dstr ((gAt x0 x2).getD 9 D0)) == (Rf.dstr ((gAt x1 x2).getD 9 D0)))))) || (Rf.isK .slc ((gAt x1 x2).getD 5 D0))) = true /\
 (((((((!(tB ((Rf.dint ((gAt x0 x2).getD 0 D0)) == (Rf.dint ((gAt x1 x2).getD 0 D0))))) || (!(tB ((Rf.dint ((gAt x0 x2).getD 1 D0)) == (Rf.dint ((gAt x1 x2).getD 1 D0)))))) || (!(tB ((Rf.dstr ((gAt x0 x2).getD 2 D0)) == (Rf.dstr ((gAt x1 x2).getD 2 D0)))))) || (!((tB ((Rf.dstr ((gAt x0 x2).getD 3 D0)) == (Rf.dstr ((gAt x1 x2).getD 3 D0)))) && (tB ((Rf.dstr ((gAt x0 x2).getD 4 D0)) == (Rf.dstr ((gAt x1 x2).getD 4 D0))))))) || (!(tB ((Rf.dstr ((gAt x0 x2).getD 9 D0)) == (Rf.dstr ((gAt x1 x2).getD 9 D0)))))) || (!(tB (((Rf.dlst ((gAt x0 x2).getD 5 D0)).length : Int) == ((Rf.dlst ((gAt x1 x2).getD 5 D0)).length : Int))))) = true ->
 R (.ret (A.d (D.lit (.bool false)))) []) /\
 (((((((!(tB ((Rf.dint ((gAt x0 x2).getD 0 D0)) == (Rf.dint ((gAt x1 x2).getD 0 D0))))) || (!(tB ((Rf.dint ((gAt x0 x2).getD 1 D0)) == (Rf.dint ((gAt x1 x2).getD 1 D0)))))) || (!(tB ((Rf.dstr ((gAt x0 x2).getD 2 D0)) == (Rf.dstr ((gAt x1 x2).getD 2 D0)))))) || (!((tB ((Rf.dstr ((gAt x0 x2).getD 3 D0)) == (Rf.dstr ((gAt x1 x2).getD 3 D0)))) && (tB ((Rf.dstr ((gAt x0 x2).getD 4 D0)) == (Rf.dstr ((gAt x1 x2).getD 4 D0))))))) || (!(tB ((Rf.dstr ((gAt x0 x2).getD 9 D0)) == (Rf.dstr ((gAt x1 x2).getD 9 D0)))))) || (!(tB (((Rf.dlst ((gAt x0 x2).getD 5 D0)).length : Int) == ((Rf.dlst ((gAt x1 x2).getD 5 D0)).length : Int))))) = false ->
 Rf.isK .slc ((gAt x0 x2).getD 8 D0) = true /\
 Rf.isK .slc ((gAt x1 x2).getD 8 D0) = true /\
 ∀ _ : Nat -> Nat, ∃ R', Holds Tryz.prog 23 [A.d (D.slc (Rf.dlst ((gAt x0 x2).getD 8 D0))), A.d (D.slc (Rf.dlst ((gAt x1 x2).getD 8 D0)))] [] R' /\
 (∀ v H', R' (.ret v) H' -> ∃ x3 : Bool, v = A.d (D.lit (.bool x3)) /\ H' = [] /\
 ((!x3) || (Rf.isK .slc ((gAt x0 x2).getD 7 D0))) = true /\
 ((!x3) || (Rf.isK .slc ((gAt x1 x2).getD 7 D0))) = true /\
 (x3 = true ->
 ∀ _ : Nat -> Nat, ∃ R', Holds Tryz.prog 23 [A.d (D.slc (Rf.dlst ((gAt x0 x2).getD 7 D0))), A.d (D.slc (Rf.dlst ((gAt x1 x2).getD 7 D0)))] [] R' /\
 (∀ v H', R' (.ret v) H' -> ∃ x4 : Bool, v = A.d (D.lit (.bool x4)) /\ H' = [] /\
 ((!x4) || (Rf.isK .slc ((gAt x0 x2).getD 6 D0))) = true /\
 ((!x4) || (Rf.isK .slc ((gAt x1 x2).getD 6 D0))) = true /\
 (x4 = true ->
 ∀ _ : Nat -> Nat, ∃ R', Holds Tryz.prog 66 [A.d (D.slc (Rf.dlst ((gAt x0 x2).getD 6 D0))), A.d (D.slc (Rf.dlst ((gAt x1 x2).getD 6 D0)))] [] R' /\
 (∀ v H', R' (.ret v) H' -> ∃ x5 : Bool, v = A.d (D.lit (.bool x5)) /\ H' = [] /\
 ((!x5) = true ->
 R (.ret (A.d (D.lit (.bool false)))) []) /\
 ((!x5) = false ->
 Rf.isK .slc ((gAt x0 x2).getD 5 D0) = true /\
 ∃ (I1_0 : Int -> Prop) (M1_0 : Int -> Nat), I1_0 0 /\
 (∀ (x6 : Int) , I1_0 x6 ->
 (tB (decide (x6 < ((Rf.dlst ((gAt x0 x2).getD 5 D0)).length : Int))) = true ->
 tB (decide (0 <= x6)) = true /\
 tB (((gAt (Rf.dlst ((gAt x0 x2).getD 5 D0)) x6).length : Int) == 9) = true /\
 Rf.isK .slc ((gAt x1 x2).getD 5 D0) = true /\
 tB (decide (x6 < ((Rf.dlst ((gAt x1 x2).getD 5 D0)).length : Int))) = true /\
 tB (((gAt (Rf.dlst ((gAt x1 x2).getD 5 D0)) x6).length : Int) == 9) = true /\
 ∀ _ : Nat -> Nat, ∃ R', Holds Tryz.prog 22 [A.agg (gAt (Rf.dlst ((gAt x0 x2).getD 5 D0)) x6), A.agg (gAt (Rf.dlst ((gAt x1 x2).getD 5 D0)) x6)] [] R' /\
 (∀ v H', R' (.ret v) H' -> ∃ x7 : Bool, v = A.d (D.lit (.bool x7)) /\ H' = [] /\
 ((!x7) = true ->
 R (.ret (A.d (D.lit (.bool false)))) []) /\
 ((!x7) = false ->
 tB (decide ((-9223372036854775808) <= (x6 + 1))) = true /\
 tB (decide ((x6 + 1) <= 9223372036854775807)) = true /\
 I1_0 (x6 + 1) /\ M1_0 (x6 + 1) < M1_0 x6)) /\
 PN R R') /\
 (tB (decide (x6 < ((Rf.dlst ((gAt x0 x2).getD 5 D0)).length : Int))) = false ->
 tB (decide ((-9223372036854775808) <= (x2 + 1))) = true /\
 tB (decide ((x2 + 1) <= 9223372036854775807)) = true /\
 I0_0 (x2 + 1) /\ M0_0 (x2 + 1) < M0_0 x2)) /\
 True)) /\
 PN R R') /\
 (x4 = false ->
 R (.ret (A.d (D.lit (.bool false)))) [])) /\
 PN R R') /\
 (x3 = false ->
 R (.ret (A.d (D.lit (.bool false)))) [])) /\
 PN R R')) /\
 (tB (decide (x2 < (x0.length : Int))) = false ->
 R (.ret (A.d (D.lit (.bool true)))) [])) /\
 True)) :
 Holds Tryz.prog 66 [A.d (D.slc x0), A.d (D.slc x1)] [] R :=
 walk (c := ⟨Tryz.prog, 111, true, [0, 1, 4, 5, 6, 7, 8, 13, 15, 16, 17, 68, 90, 93, 94, 95, 108]⟩) (op := { lat := [6], com := [(17, (17, 5000)), (17, (5, 5000)), (17, (6, 5000)), (17, (7, 5000)), (17, (68, 5000)), (17, (4, 5000)), (17, (90, 5000)), (17, (93, 5000)), (17, (94, 5000)), (17, (95, 5000)), (17, (8, 5000)), (17, (108, 5000)), (16, (95, 5000)), (16, (8, 5000)), (16, (108, 5000)), (16, (4, 5000))] }) (fn := Tryz.f66) (args := [.c (.o1 .cl (.var 0)), .c (.o1 .cl (.var 1))]) (K := []) (nv := 2) (depth := 7) (up := upOf []) (ρ := Zbi [.l x0, .l x1])
  rfl rfl rfl rfl rfl (by decide) (by decide) (by decide) (by decide) rfl (by simp [Zac, RRef.den, upOf]) (T_of (by kernel_rfl) h)
end Go.Sy
end
section
open Go Go.Proofs Go.Ab Go.Rf
set_option maxRecDepth 1000000
set_option maxHeartbeats 2000000
set_option linter.unusedVariables false
namespace Go.Sy
theorem w30 {R : RT} (x0 : List D) (x1 : List D) (h : tB ((x0.length : Int) == 4) = true /\
 tB ((x1.length : Int) == 4) = true /\
 ∀ _ : Nat -> Nat, ∃ R', Holds Tryz.prog 20 [A.agg x0, A.agg x1] [] R' /\
 (∀ v H', R' (.ret v) H' -> ∃ x2 : Bool, v = A.d (D.lit (.bool x2)) /\ H' = [] /\
 ((!x2) = true ->
 R (.ret (A.d (D.lit (.bool false)))) []) /\
 ((!x2) = false ->
 Rf.isK .slc (x0.getD 1 D0) = true /\
 ∃ (I0_0 : Int -> Prop) (M0_0 : Int -> Nat), I0_0 0 /\
 (∀ (x3 : Int) , I0_0 x3 ->
 (tB (decide (x3 < ((Rf.dlst (x0.getD 1 D0)).length : Int))) = true ->
 tB (decide (0 <= x3)) = true /\
 tB (((gAt (Rf.dlst (x0.getD 1 D0)) x3).length : Int) == 3) = true /\
 Rf.isK .slc (x1.getD 1 D0) = true /\
 tB (decide (x3 < ((Rf.dlst (x1.getD 1 D0)).length : Int))) = true /\
 tB (((gAt (Rf.dlst (x1.getD 1 D0)) x3).length : Int) == 3) = true /\
 Rf.isK .str ((gAt (Rf.dlst (x0.getD 1 D0)) x3).getD 0 D0) = true /\
 Rf.isK .str ((gAt (Rf.dlst (x1.getD 1 D0)) x3).getD 0 D0) = true /\
 Rf.isK .str ((gAt (Rf.dlst (x0.getD 1 D0)) x3).getD 1 D0) = true /\
 Rf.isK .str ((gAt (Rf.dlst (x1.getD 1 D0)) x3).getD 1 D0) = true /\
 Rf.isK (.int .i64) ((gAt (Rf.dlst (x0.getD 1 D0)) x3).getD 2 D0) = true /\
 Rf.isK (.int .i64) ((gAt (Rf.dlst (x1.getD 1 D0)) x3).getD 2 D0) = true /\
 ((!((tB ((Rf.dstr ((gAt (Rf.dlst (x0.getD 1 D0)) x3).getD 0 D0)) == (Rf.dstr ((gAt (Rf.dlst (x1.getD 1 D0)) x3).getD 0 D0)))) && ((tB ((Rf.dstr ((gAt (Rf.dlst (x0.getD 1 D0)) x3).getD 1 D0)) == (Rf.dstr ((gAt (Rf.dlst (x1.getD 1 D0)) x3).getD 1 D0)))) && (tB ((Rf.dint ((gAt (Rf.dlst (x0.getD 1 D0)) x3).getD 2 D0)) == (Rf.dint ((gAt (Rf.dlst (x1.getD 1 D0)) x3).getD 2 D0))))))) = true ->
 R (.ret (A.d (D.lit (.bool false)))) []) /\
 ((!((tB ((Rf.dstr ((gAt (Rf.dlst (x0.getD 1 D0)) x3).getD 0 D0)) == (Rf.dstr ((gAt (Rf.dlst (x1.getD 1 D0)) x3).getD 0 D0)))) && ((tB ((Rf.dstr ((gAt (Rf.dlst (x0.getD 1 D0)) x3).getD 1 D0)) == (Rf.dstr ((gAt (Rf.dlst (x1.getD 1 D0)) x3).getD 1 D0)))) && (tB ((Rf.dint ((gAt (Rf.dlst (x0.getD 1 D0)) x3).getD 2 D0)) == (Rf.dint ((gAt (Rf.dlst (x1.getD 1 D0)) x3).getD 2 D0))))))) = false ->
 tB (decide ((-9223372036854775808) <= (x3 + 1))) = true /\
 tB (decide ((x3 + 1) <= 9223372036854775807)) = true /\
 I0_0 (x3 + 1) /\ M0_0 (x3 + 1) < M0_0 x3)) /\
 (tB (decide (x3 < ((Rf.dlst (x0.getD 1 D0)).length : Int))) = false ->
 Rf.isK .slc (x0.getD 2 D0) = true /\
 Rf.isK .slc (x1.getD 2 D0) = true /\
 ∀ _ : Nat -> Nat, ∃ R', Holds Tryz.prog 84 [A.d (D.slc (Rf.dlst (x0.getD 2 D0))), A.d (D.slc (Rf.dlst (x1.getD 2 D0)))] [] R' /\
 (∀ v H', R' (.ret v) H' -> ∃ x4 : Bool, v = A.d (D.lit (.bool x4)) /\ H' = [] /\
 R (.ret (A.d (D.lit (.bool x4)))) []) /\
 PN R R')) /\
 True)) /\
 PN R R') :
 Holds Tryz.prog 30 [A.agg x0, A.agg x1] [] R :=
 walk (c := ⟨Tryz.prog, 33, true, [0, 1, 2, 3, 4, 5, 9, 12, 13, 14, 26]⟩) (op := { com := [(8, (14, 5000)), (8, (5, 5000)), (8, (26, 5000)), (8, (4, 5000))] }) (fn := Tryz.f30) (args := [.agg (.var 0), .agg (.var 1)]) (K := []) (nv := 2) (depth := 6) (up := upOf []) (ρ := Zbi [.r x0, .r x1])
  rfl rfl rfl rfl rfl (by decide) (by decide) (by decide) (by decide) rfl (by simp [Zac, RRef.den, upOf]) (T_of (by kernel_rfl) h)
theorem w36 {R : RT} (x0 : List D) (x1 : List D) (h : tB ((x0.length : Int) == 9) = true /\
 tB ((x1.length : Int) == 9) = true /\
 ∀ _ : Nat -> Nat, ∃ R', Holds Tryz.prog 22 [A.agg x0, A.agg x1] [] R' /\
 (∀ v H', R' (.ret v) H' -> ∃ x2 : Bool, v = A.d (D.lit (.bool x2)) /\ H' = [] /\
 (x2 = true ->
 ∀ _ : Nat -> Nat, ∃ R', Holds Tryz.prog 89 [A.agg x0, A.agg x1] [] R' /\
 (∀ v H', R' (.ret v) H' -> ∃ x3 : Bool, v = A.d (D.lit (.bool x3)) /\ H' = [] /\
 R (.ret (A.d (D.lit (.bool x3)))) []) /\
 PN R R') /\
 (x2 = false ->
 R (.ret (A.d (D.lit (.bool false)))) [])) /\
 PN R R') :
 Holds Tryz.prog 36 [A.agg x0, A.agg x1] [] R :=
 walk (c := ⟨Tryz.prog, 13, true, [0, 1, 2, 3, 4]⟩) (op := {}) (fn := Tryz.f36) (args := [.agg (.var 0), .agg (.var 1)]) (K := []) (nv := 2) (depth := 4) (up := upOf []) (ρ := Zbi [.r x0, .r x1])
  rfl rfl rfl rfl rfl (by decide) (by decide) (by decide) (by decide) rfl (by simp [Zac, RRef.den, upOf]) (T_of (by kernel_rfl) h)
theorem w84 {R : RT} (x0 : List (List D)) (x1 : List (List D)) (h : ∃ (I0_0 : Int -> Prop) (M0_0 : Int -> Nat), I0_0 0 /\
 (∀ (x2 : Int) , I0_0 x2 ->
 (tB (decide (x2 < (x0.length : Int))) = true ->
 tB (decide (0 <= x2)) = true /\
 tB (((gAt x0 x2).length : Int) == 11) = true /\
 tB (decide (10 <= ((gAt x0 x2).length : Int))) = true /\
 Rf.isK (.int .i64) ((gAt x0 x2).getD 10 D0) = true /\
 tB (decide (x2 < (x1.length : Int))) = true /\
 tB (((gAt x1 x2).length : Int) == 11) = true /\
 tB (decide (10 <= ((gAt x1 x2).length : Int))) = true /\
 Rf.isK (.int .i64) ((gAt x1 x2).getD 10 D0) = true /\
 ((!(tB ((Rf.dint ((gAt x0 x2).getD 10 D0)) == (Rf.dint ((gAt x1 x2).getD 10 D0))))) || (tB (decide (6 <= ((gAt x0 x2).length : Int))))) = true /\
 ((!(tB ((Rf.dint ((gAt x0 x2).getD 10 D0)) == (Rf.dint ((gAt x1 x2).getD 10 D0))))) || (Rf.isK .slc ((gAt x0 x2).getD 6 D0))) = true /\
 ((!(tB ((Rf.dint ((gAt x0 x2).getD 10 D0)) == (Rf.dint ((gAt x1 x2).getD 10 D0))))) || (tB (decide (6 <= ((gAt x1 x2).length : Int))))) = true /\
 ((!(tB ((Rf.dint ((gAt x0 x2).getD 10 D0)) == (Rf.dint ((gAt x1 x2).getD 10 D0))))) || (Rf.isK .slc ((gAt x1 x2).getD 6 D0))) = true /\
 (tB ((Rf.dint ((gAt x0 x2).getD 10 D0)) == (Rf.dint ((gAt x1 x2).getD 10 D0))) = true ->
 ∀ _ : Nat -> Nat, ∃ R', Holds Tryz.prog 84 [A.d (D.slc (Rf.dlst ((gAt x0 x2).getD 6 D0))), A.d (D.slc (Rf.dlst ((gAt x1 x2).getD 6 D0)))] [] R' /\
 (∀ v H', R' (.ret v) H' -> ∃ x3 : Bool, v = A.d (D.lit (.bool x3)) /\ H' = [] /\
 ((!x3) = true ->
 R (.ret (A.d (D.lit (.bool false)))) []) /\
 ((!x3) = false ->
 tB (decide (5 <= ((gAt x0 x2).length : Int))) = true /\
 Rf.isK .slc ((gAt x0 x2).getD 5 D0) = true /\
 ∃ (I1_0 : Int -> Prop) (M1_0 : Int -> Nat), I1_0 0 /\
 (∀ (x4 : Int) , I1_0 x4 ->
 (tB (decide (x4 < ((Rf.dlst ((gAt x0 x2).getD 5 D0)).length : Int))) = true ->
 tB (decide (0 <= x4)) = true /\
 tB (((gAt (Rf.dlst ((gAt x0 x2).getD 5 D0)) x4).length : Int) == 9) = true /\
 tB (decide (5 <= ((gAt x1 x2).length : Int))) = true /\
 Rf.isK .slc ((gAt x1 x2).getD 5 D0) = true /\
 tB (decide (x4 < ((Rf.dlst ((gAt x1 x2).getD 5 D0)).length : Int))) = true /\
 tB (((gAt (Rf.dlst ((gAt x1 x2).getD 5 D0)) x4).length : Int) == 9) = true /\
 ∀ _ : Nat -> Nat, ∃ R', Holds Tryz.prog 89 [A.agg (gAt (Rf.dlst ((gAt x0 x2).getD 5 D0)) x4), A.agg (gAt (Rf.dlst ((gAt x1 x2).getD 5 D0)) x4)] [] R' /\
 (∀ v H', R' (.ret v) H' -> ∃ x5 : Bool, v = A.d (D.lit (.bool x5)) /\ H' = [] /\
 ((!x5) = true ->
 R (.ret (A.d (D.lit (.bool false)))) []) /\
 ((!x5) = false ->
 tB (decide ((-9223372036854775808) <= (x4 + 1))) = true /\
 tB (decide ((x4 + 1) <= 9223372036854775807)) = true /\
 I1_0 (x4 + 1) /\ M1_0 (x4 + 1) < M1_0 x4)) /\
 PN R R') /\
 (tB (decide (x4 < ((Rf.dlst ((gAt x0 x2).getD 5 D0)).length : Int))) = false ->
 tB (decide ((-9223372036854775808) <= (x2 + 1))) = true /\
 tB (decide ((x2 + 1) <= 9223372036854775807)) = true /\
 I0_0 (x2 + 1) /\ M0_0 (x2 + 1) < M0_0 x2)) /\
 True)) /\
 PN R R') /\
 (tB ((Rf.dint ((gAt x0 x2).getD 10 D0)) == (Rf.dint ((gAt x1 x2).getD 10 D0))) = false ->
 R (.ret (A.d (D.lit (.bool false)))) [])) /\
 (tB (decide (x2 < (x0.length : Int))) = false ->
 R (.ret (A.d (D.lit (.bool true)))) [])) /\
 True) :
 Holds Tryz.prog 84 [A.d (D.slc x0), A.d (D.slc x1)] [] R :=
 walk (c := ⟨Tryz.prog, 66, true, [0, 1, 4, 5, 6, 8, 9, 10, 36, 42, 43, 44, 63]⟩) (op := { com := [(12, (10, 5000)), (12, (5, 5000)), (12, (36, 5000)), (12, (4, 5000)), (12, (42, 5000)), (12, (43, 5000)), (12, (44, 5000)), (12, (6, 5000)), (12, (63, 5000)), (11, (44, 5000)), (11, (6, 5000)), (11, (63, 5000)), (11, (4, 5000))] }) (fn := Tryz.f84) (args := [.c (.o1 .cl (.var 0)), .c (.o1 .cl (.var 1))]) (K := []) (nv := 2) (depth := 7) (up := upOf []) (ρ := Zbi [.l x0, .l x1])
  rfl rfl rfl rfl rfl (by decide) (by decide) (by decide) (by decide) rfl (by simp [Zac, RRef.den, upOf]) (T_of (by kernel_rfl) h)
theorem w89 {R : RT} (x0 : List D) (x1 : List D) (h : tB ((x0.length : Int) == 9) = true /\
 tB ((x1.length : Int) == 9) = true /\
 Rf.isK .slc (x0.getD 5 D0) = true /\
 ∃ (I0_0 : Int -> Prop) (M0_0 : Int -> Nat), I0_0 0 /\
 (∀ (x2 : Int) , I0_0 x2 ->
 (tB (decide (x2 < ((Rf.dlst (x0.getD 5 D0)).length : Int))) = true ->
 tB (decide (0 <= x2)) = true /\
 tB (((gAt (Rf.dlst (x0.getD 5 D0)) x2).length : Int) == 9) = true /\
 Rf.isK .slc (x1.getD 5 D0) = true /\
 tB (decide (x2 < ((Rf.dlst (x1.getD 5 D0)).length : Int))) = true /\
 tB (((gAt (Rf.dlst (x1.getD 5 D0)) x2).length : Int) == 9) = true /\
 ∀ _ : Nat -> Nat, ∃ R', Holds Tryz.prog 89 [A.agg (gAt (Rf.dlst (x0.getD 5 D0)) x2), A.agg (gAt (Rf.dlst (x1.getD 5 D0)) x2)] [] R' /\
 (∀ v H', R' (.ret v) H' -> ∃ x3 : Bool, v = A.d (D.lit (.bool x3)) /\ H' = [] /\
 ((!x3) = true ->
 R (.ret (A.d (D.lit (.bool false)))) []) /\
 ((!x3) = false ->
 tB (decide ((-9223372036854775808) <= (x2 + 1))) = true /\
 tB (decide ((x2 + 1) <= 9223372036854775807)) = true /\
 I0_0 (x2 + 1) /\ M0_0 (x2 + 1) < M0_0 x2)) /\
 PN R R') /\
 (tB (decide (x2 < ((Rf.dlst (x0.getD 5 D0)).length : Int))) = false ->
 Rf.isK (.int .i64) (x0.getD 8 D0) = true /\
 Rf.isK (.int .i64) (x1.getD 8 D0) = true /\
 ((!(tB ((Rf.dint (x0.getD 8 D0)) == (Rf.dint (x1.getD 8 D0))))) || (Rf.isK .slc (x0.getD 6 D0))) = true /\
 ((!(tB ((Rf.dint (x0.getD 8 D0)) == (Rf.dint (x1.getD 8 D0))))) || (Rf.isK .slc (x1.getD 6 D0))) = true /\
 (tB ((Rf.dint (x0.getD 8 D0)) == (Rf.dint (x1.getD 8 D0))) = true ->
 ∀ _ : Nat -> Nat, ∃ R', Holds Tryz.prog 84 [A.d (D.slc (Rf.dlst (x0.getD 6 D0))), A.d (D.slc (Rf.dlst (x1.getD 6 D0)))] [] R' /\
 (∀ v H', R' (.ret v) H' -> ∃ x3 : Bool, v = A.d (D.lit (.bool x3)) /\ H' = [] /\
 R (.ret (A.d (D.lit (.bool x3)))) []) /\
 PN R R') /\
 (tB ((Rf.dint (x0.getD 8 D0)) == (Rf.dint (x1.getD 8 D0))) = false ->
 R (.ret (A.d (D.lit (.bool false)))) []))) /\
 True) :
 Holds Tryz.prog 89 [A.agg x0, A.agg x1] [] R :=
 walk (c := ⟨Tryz.prog, 37, true, [0, 1, 2, 3, 4, 5, 8, 9, 10, 23]⟩) (op := { com := [(6, (10, 5000)), (6, (5, 5000)), (6, (23, 5000)), (6, (4, 5000))] }) (fn := Tryz.f89) (args := [.agg (.var 0), .agg (.var 1)]) (K := []) (nv := 2) (depth := 6) (up := upOf []) (ρ := Zbi [.r x0, .r x1])
  rfl rfl rfl rfl rfl (by decide) (by decide) (by decide) (by decide) rfl (by simp [Zac, RRef.den, upOf]) (T_of (by kernel_rfl) h)
end Go.Sy
end
section
open Go Go.Proofs Go.Ab Go.Rf
set_option maxRecDepth 1000000
set_option maxHeartbeats 2000000
set_option linter.unusedVariables false
namespace Go.Sy
theorem w3 {R : RT} (x0 : List D) (h : tB ((x0.length : Int) == 4) = true /\
 ∀ _ : Nat -> Nat, ∃ R', Holds Tryz.prog 12 [A.agg x0] [] R' /\
 (∀ v H', R' (.ret v) H' -> ∃ x1 : Bool, v = A.d (D.lit (.bool x1)) /\ H' = [] /\
 ((!x1) = true ->
 ∀ _ : Nat -> Nat, ∃ R', Holds Tryz.prog 13 [] [] R' /\
 (∀ v H', R' (.ret v) H' -> ∃ x2 : Bool, v = A.d (D.lit (.bool x2)) /\ H' = [] /\
 R (.ret (A.d (D.lit (.bool x2)))) []) /\
 PN R R') /\
 ((!x1) = false ->
 ∃ x2 : Int, (∀ _ : Nat -> Nat, Holds Tryz.prog 14 [A.agg x0] [] (Zcn [] (A.d (D.lit (.int .i64 x2))))) /\
 ∀ _ : Nat -> Nat, ∃ R', Holds Tryz.prog 15 [A.agg x0] [] R' /\
 (∀ v H', R' (.ret v) H' -> ∃ x3 : Int, v = A.d (D.lit (.int .i64 x3)) /\ H' = [] /\
 (tB (x2 == x3) = true ->
 ∀ _ : Nat -> Nat, ∃ R', Holds Tryz.prog 13 [] [] R' /\
 (∀ v H', R' (.ret v) H' -> ∃ x4 : Bool, v = A.d (D.lit (.bool x4)) /\ H' = [] /\
 R (.ret (A.d (D.lit (.bool x4)))) []) /\
 PN R R') /\
 (tB (x2 == x3) = false ->
 R (.ret (A.d (D.lit (.bool false)))) [])) /\
 PN R R')) /\
 PN R R') :
 Holds Tryz.prog 3 [A.agg x0] [] R :=
 walk (c := ⟨Tryz.prog, 15, true, [0, 1, 2, 5]⟩) (op := {}) (fn := Tryz.f3) (args := [.agg (.var 0)]) (K := []) (nv := 1) (depth := 4) (up := upOf []) (ρ := Zbi [.r x0])
  rfl rfl rfl rfl rfl (by decide) (by decide) (by decide) (by decide) rfl (by simp [Zac, RRef.den, upOf]) (T_of (by kernel_rfl) h)
theorem w4 {R : RT} (x0 : List D) (h : tB ((x0.length : Int) == 9) = true /\
 ∀ _ : Nat -> Nat, ∃ R', Holds Tryz.prog 16 [A.agg x0] [] R' /\
 (∀ v H', R' (.ret v) H' -> ∃ x1 : Bool, v = A.d (D.lit (.bool x1)) /\ H' = [] /\
 ((!x1) = true ->
 ∀ _ : Nat -> Nat, ∃ R', Holds Tryz.prog 13 [] [] R' /\
 (∀ v H', R' (.ret v) H' -> ∃ x2 : Bool, v = A.d (D.lit (.bool x2)) /\ H' = [] /\
 R (.ret (A.d (D.lit (.bool x2)))) []) /\
 PN R R') /\
 ((!x1) = false ->
 ∃ x2 : Int, (∀ _ : Nat -> Nat, Holds Tryz.prog 17 [A.agg x0] [] (Zcn [] (A.d (D.lit (.int .i64 x2))))) /\
 ∀ _ : Nat -> Nat, ∃ R', Holds Tryz.prog 18 [A.agg x0] [] R' /\
 (∀ v H', R' (.ret v) H' -> ∃ x3 : Int, v = A.d (D.lit (.int .i64 x3)) /\ H' = [] /\
 (tB (x2 == x3) = true ->
 ∀ _ : Nat -> Nat, ∃ R', Holds Tryz.prog 13 [] [] R' /\
 (∀ v H', R' (.ret v) H' -> ∃ x4 : Bool, v = A.d (D.lit (.bool x4)) /\ H' = [] /\
 R (.ret (A.d (D.lit (.bool x4)))) []) /\
 PN R R') /\
 (tB (x2 == x3) = false ->
 R (.ret (A.d (D.lit (.bool false)))) [])) /\
 PN R R')) /\
 PN R R') :
 Holds Tryz.prog 4 [A.agg x0] [] R :=
 walk (c := ⟨Tryz.prog, 15, true, [0, 1, 2, 5]⟩) (op := {}) (fn := Tryz.f4) (args := [.agg (.var 0)]) (K := []) (nv := 1) (depth := 4) (up := upOf []) (ρ := Zbi [.r x0])
  rfl rfl rfl rfl rfl (by decide) (by decide) (by decide) (by decide) rfl (by simp [Zac, RRef.den, upOf]) (T_of (by kernel_rfl) h)
theorem w11 {R : RT} (x0 : List D) (x1 : List D) (h : tB ((x0.length : Int) == 4) = true /\
 tB ((x1.length : Int) == 9) = true /\
 ∀ _ : Nat -> Nat, ∃ R', Holds Tryz.prog 12 [A.agg x0] [] R' /\
 (∀ v H', R' (.ret v) H' -> ∃ x2 : Bool, v = A.d (D.lit (.bool x2)) /\ H' = [] /\
 (x2 = true ->
 ∀ _ : Nat -> Nat, ∃ R', Holds Tryz.prog 16 [A.agg x1] [] R' /\
 (∀ v H', R' (.ret v) H' -> ∃ x3 : Bool, v = A.d (D.lit (.bool x3)) /\ H' = [] /\
 ((!x3) = true ->
 ∀ _ : Nat -> Nat, ∃ R', Holds Tryz.prog 13 [] [] R' /\
 (∀ v H', R' (.ret v) H' -> ∃ x4 : Bool, v = A.d (D.lit (.bool x4)) /\ H' = [] /\
 R (.ret (A.d (D.lit (.bool x4)))) []) /\
 PN R R') /\
 ((!x3) = false ->
 ∃ x4 : List D, (∀ _ : Nat -> Nat, Holds Tryz.prog 28 [A.agg x0] [] (Zcn [] (A.agg x4))) /\
 ∃ x5 : List D, (∀ _ : Nat -> Nat, Holds Tryz.prog 35 [A.agg x0] [] (Zcn [] (A.agg x5))) /\
 ∃ x6 : Bool, (∀ _ : Nat -> Nat, Holds Tryz.prog 30 [A.agg x4, A.agg x5] [] (Zcn [] (A.d (D.lit (.bool x6))))) /\
 (x6 = true ->
 ∃ x7 : List D, (∀ _ : Nat -> Nat, Holds Tryz.prog 37 [A.agg x1] [] (Zcn [] (A.agg x7))) /\
 ∃ x8 : List D, (∀ _ : Nat -> Nat, Holds Tryz.prog 38 [A.agg x1] [] (Zcn [] (A.agg x8))) /\
 ∃ x9 : Bool, (∀ _ : Nat -> Nat, Holds Tryz.prog 36 [A.agg x7, A.agg x8] [] (Zcn [] (A.d (D.lit (.bool x9))))) /\
 (x9 = true ->
 ∃ x10 : List D, (∀ _ : Nat -> Nat, Holds Tryz.prog 29 [A.agg x0] [] (Zcn [] (A.agg x10))) /\
 ∃ x11 : List D, (∀ _ : Nat -> Nat, Holds Tryz.prog 39 [A.agg x0] [] (Zcn [] (A.agg x11))) /\
 ∃ x12 : Bool, (∀ _ : Nat -> Nat, Holds Tryz.prog 30 [A.agg x10, A.agg x11] [] (Zcn [] (A.d (D.lit (.bool x12))))) /\
 (x12 = true ->
 ∃ x13 : List (List D), (∀ _ : Nat -> Nat, Holds Tryz.prog 31 [A.agg x0] [] (Zcn [] (A.d (D.slc x13)))) /\
 ∀ _ : Nat -> Nat, ∃ R', Holds Tryz.prog 40 [A.agg x0] [] R' /\
 (∀ v H', R' (.ret v) H' -> ∃ x14 : List (List D), v = A.d (D.slc x14) /\ H' = [] /\
 ∀ _ : Nat -> Nat, ∃ R', Holds Tryz.prog 23 [A.d (D.slc x13), A.d (D.slc x14)] [] R' /\
 (∀ v H', R' (.ret v) H' -> ∃ x15 : Bool, v = A.d (D.lit (.bool x15)) /\ H' = [] /\
 (x15 = true ->
 ∀ _ : Nat -> Nat, ∃ R', Holds Tryz.prog 13 [] [] R' /\
 (∀ v H', R' (.ret v) H' -> ∃ x16 : Bool, v = A.d (D.lit (.bool x16)) /\ H' = [] /\
 R (.ret (A.d (D.lit (.bool x16)))) []) /\
 PN R R') /\
 (x15 = false ->
 R (.ret (A.d (D.lit (.bool false)))) [])) /\
 PN R R') /\
 PN R R') /\
 (x12 = false ->
 R (.ret (A.d (D.lit (.bool false)))) [])) /\
 (x9 = false ->
 R (.ret (A.d (D.lit (.bool false)))) [])) /\
 (x6 = false ->
 R (.ret (A.d (D.lit (.bool false)))) []))) /\
 PN R R') /\
 (x2 = false ->
 ∀ _ : Nat -> Nat, ∃ R', Holds Tryz.prog 13 [] [] R' /\
 (∀ v H', R' (.ret v) H' -> ∃ x3 : Bool, v = A.d (D.lit (.bool x3)) /\ H' = [] /\
 R (.ret (A.d (D.lit (.bool x3)))) []) /\
 PN R R')) /\
 PN R R') :
 Holds Tryz.prog 11 [A.agg x0, A.agg x1] [] R :=
 walk (c := ⟨Tryz.prog, 43, true, [0, 1, 2, 3, 4, 12]⟩) (op := {}) (fn := Tryz.f11) (args := [.agg (.var 0), .agg (.var 1)]) (K := []) (nv := 2) (depth := 6) (up := upOf []) (ρ := Zbi [.r x0, .r x1])
  rfl rfl rfl rfl rfl (by decide) (by decide) (by decide) (by decide) rfl (by simp [Zac, RRef.den, upOf]) (T_of (by kernel_rfl) h)
end Go.Sy
end
