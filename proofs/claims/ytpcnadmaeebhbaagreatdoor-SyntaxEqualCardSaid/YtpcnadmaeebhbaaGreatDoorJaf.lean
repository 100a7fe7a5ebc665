/- Part 6 of the proof: Vmk, Veq, Vsml, Vreq, Vpla, Vtop. -/
import Derived.Test.YtpcnadmaeebhbaaGreatDoorProg
import Derived.Test.YtpcnadmaeebhbaaGreatDoorJae
set_option linter.unusedVariables false
set_option linter.unusedSimpArgs false
section
open Go Go.Proofs Go.Ab Go.Rf
set_option maxRecDepth 1000000
set_option maxHeartbeats 2000000
set_option linter.unusedVariables false
namespace Go.Sy
abbrev RT := Out -> List (Ref × List A) -> Prop
abbrev PN (R R' : RT) : Prop := ∀ v H', R' (.pan v) H' -> H' = [] /\ R (.pan v) []
theorem w23 {R : RT} (x0 : List (List D)) (x1 : List (List D)) (h : ((!(tB ((x0.length : Int) == (x1.length : Int)))) = true ->
 R (.ret (A.d (D.lit (.bool false)))) []) /\
 ((!(tB ((x0.length : Int) == (x1.length : Int)))) = false ->
 ∃ (I0_0 : Int -> Prop) (M0_0 : Int -> Nat), I0_0 0 /\
 (∀ (x2 : Int) , I0_0 x2 ->
 (tB (decide (x2 < (x0.length : Int))) = true ->
 tB (decide (0 <= x2)) = true /\
 tB (((gAt x0 x2).length : Int) == 1) = true /\
 Rf.isK .str ((gAt x0 x2).getD 0 D0) = true /\
 tB (decide (x2 < (x1.length : Int))) = true /\
 tB (((gAt x1 x2).length : Int) == 1) = true /\
 Rf.isK .str ((gAt x1 x2).getD 0 D0) = true /\
 ((!(tB ((Rf.dstr ((gAt x0 x2).getD 0 D0)) == (Rf.dstr ((gAt x1 x2).getD 0 D0))))) = true ->
 R (.ret (A.d (D.lit (.bool false)))) []) /\
 ((!(tB ((Rf.dstr ((gAt x0 x2).getD 0 D0)) == (Rf.dstr ((gAt x1 x2).getD 0 D0))))) = false ->
 tB (decide ((-9223372036854775808) <= (x2 + 1))) = true /\
 tB (decide ((x2 + 1) <= 9223372036854775807)) = true /\
 I0_0 (x2 + 1) /\ M0_0 (x2 + 1) < M0_0 x2)) /\
 (tB (decide (x2 < (x0.length : Int))) = false ->
 R (.ret (A.d (D.lit (.bool true)))) [])) /\
 True)) :
 Holds Tryz.prog 23 [A.d (D.slc x0), A.d (D.slc x1)] [] R :=
 walk (c := ⟨Tryz.prog, 26, true, [0, 1, 4, 5, 10, 12, 13, 14, 24]⟩) (op := { com := [(8, (14, 5000)), (8, (5, 5000)), (8, (24, 5000)), (8, (4, 5000))] }) (fn := Tryz.f23) (args := [.c (.o1 .cl (.var 0)), .c (.o1 .cl (.var 1))]) (K := []) (nv := 2) (depth := 5) (up := upOf []) (ρ := Zec [.l x0, .l x1])
  rfl rfl rfl rfl rfl (by decide) (by decide) (by decide) (by decide) rfl (by simp [Zab, RRef.den, upOf]) (T_of (by kernel_rfl) h)
end Go.Sy
end
section
open Go Go.Proofs Go.Ab Go.Rf
set_option maxRecDepth 1000000
set_option maxHeartbeats 2000000
set_option linter.unusedVariables false
namespace Go.Sy
theorem w19 {R : RT} (x0 : List D) (x1 : List D) (h : tB ((x0.length : Int) == 4) = true /\
 tB ((x1.length : Int) == 4) = true /\
 Rf.isK .str (x0.getD 0 D0) = true /\
 Rf.isK .str (x1.getD 0 D0) = true /\
 ((!(tB ((Rf.dstr (x0.getD 0 D0)) == (Rf.dstr (x1.getD 0 D0))))) || (Rf.isK .slc (x0.getD 1 D0))) = true /\
 ((!(tB ((Rf.dstr (x0.getD 0 D0)) == (Rf.dstr (x1.getD 0 D0))))) || (Rf.isK .slc (x1.getD 1 D0))) = true /\
 (tB ((Rf.dstr (x0.getD 0 D0)) == (Rf.dstr (x1.getD 0 D0))) = true ->
 ∀ _ : Nat -> Nat, ∃ R', Holds Tryz.prog 62 [A.d (D.slc (Rf.dlst (x0.getD 1 D0))), A.d (D.slc (Rf.dlst (x1.getD 1 D0))), A.fn 61 []] [] R' /\
 (∀ v H', R' (.ret v) H' -> ∃ x2 : Bool, v = A.d (D.lit (.bool x2)) /\ H' = [] /\
 ((!x2) || (Rf.isK .slc (x0.getD 2 D0))) = true /\
 ((!x2) || (Rf.isK .slc (x1.getD 2 D0))) = true /\
 (x2 = true ->
 ∀ _ : Nat -> Nat, ∃ R', Holds Tryz.prog 63 [A.d (D.slc (Rf.dlst (x0.getD 2 D0))), A.d (D.slc (Rf.dlst (x1.getD 2 D0))), A.fn 64 []] [] R' /\
 (∀ v H', R' (.ret v) H' -> ∃ x3 : Bool, v = A.d (D.lit (.bool x3)) /\ H' = [] /\
 ((!x3) || (Rf.isK .slc (x0.getD 3 D0))) = true /\
 ((!x3) || (Rf.isK .slc (x1.getD 3 D0))) = true /\
 (x3 = true ->
 ∀ _ : Nat -> Nat, ∃ R', Holds Tryz.prog 65 [A.d (D.slc (Rf.dlst (x0.getD 3 D0))), A.d (D.slc (Rf.dlst (x1.getD 3 D0)))] [] R' /\
 (∀ v H', R' (.ret v) H' -> ∃ x4 : Bool, v = A.d (D.lit (.bool x4)) /\ H' = [] /\
 R (.ret (A.d (D.lit (.bool x4)))) []) /\
 PN R R') /\
 (x3 = false ->
 R (.ret (A.d (D.lit (.bool false)))) [])) /\
 PN R R') /\
 (x2 = false ->
 R (.ret (A.d (D.lit (.bool false)))) [])) /\
 PN R R') /\
 (tB ((Rf.dstr (x0.getD 0 D0)) == (Rf.dstr (x1.getD 0 D0))) = false ->
 R (.ret (A.d (D.lit (.bool false)))) [])) :
 Holds Tryz.prog 19 [A.agg x0, A.agg x1] [] R :=
 walk (c := ⟨Tryz.prog, 33, true, [0, 1, 2, 3, 4, 5]⟩) (op := {}) (fn := Tryz.f19) (args := [.agg (.var 0), .agg (.var 1)]) (K := []) (nv := 2) (depth := 6) (up := upOf []) (ρ := Zec [.r x0, .r x1])
  rfl rfl rfl rfl rfl (by decide) (by decide) (by decide) (by decide) rfl (by simp [Zab, RRef.den, upOf]) (T_of (by kernel_rfl) h)
theorem w21 {R : RT} (x0 : List D) (x1 : List D) (h : tB ((x0.length : Int) == 9) = true /\
 tB ((x1.length : Int) == 9) = true /\
 Rf.isK (.int .i64) (x0.getD 0 D0) = true /\
 Rf.isK (.int .i64) (x1.getD 0 D0) = true /\
 ((!(tB ((Rf.dint (x0.getD 0 D0)) == (Rf.dint (x1.getD 0 D0))))) || (Rf.isK .str (x0.getD 1 D0))) = true /\
 ((!(tB ((Rf.dint (x0.getD 0 D0)) == (Rf.dint (x1.getD 0 D0))))) || (Rf.isK .str (x1.getD 1 D0))) = true /\
 ((!((tB ((Rf.dint (x0.getD 0 D0)) == (Rf.dint (x1.getD 0 D0)))) && (tB ((Rf.dstr (x0.getD 1 D0)) == (Rf.dstr (x1.getD 1 D0)))))) || (Rf.isK (.int .i64) (x0.getD 2 D0))) = true /\
 ((!((tB ((Rf.dint (x0.getD 0 D0)) == (Rf.dint (x1.getD 0 D0)))) && (tB ((Rf.dstr (x0.getD 1 D0)) == (Rf.dstr (x1.getD 1 D0)))))) || (Rf.isK (.int .i64) (x1.getD 2 D0))) = true /\
 ((!(((tB ((Rf.dint (x0.getD 0 D0)) == (Rf.dint (x1.getD 0 D0)))) && (tB ((Rf.dstr (x0.getD 1 D0)) == (Rf.dstr (x1.getD 1 D0))))) && (tB ((Rf.dint (x0.getD 2 D0)) == (Rf.dint (x1.getD 2 D0)))))) || (Rf.isK .str (x0.getD 3 D0))) = true /\
 ((!(((tB ((Rf.dint (x0.getD 0 D0)) == (Rf.dint (x1.getD 0 D0)))) && (tB ((Rf.dstr (x0.getD 1 D0)) == (Rf.dstr (x1.getD 1 D0))))) && (tB ((Rf.dint (x0.getD 2 D0)) == (Rf.dint (x1.getD 2 D0)))))) || (Rf.isK .str (x1.getD 3 D0))) = true /\
 ((!(((tB ((Rf.dint (x0.getD 0 D0)) == (Rf.dint (x1.getD 0 D0)))) && (tB ((Rf.dstr (x0.getD 1 D0)) == (Rf.dstr (x1.getD 1 D0))))) && (tB ((Rf.dint (x0.getD 2 D0)) == (Rf.dint (x1.getD 2 D0)))))) || (Rf.isK .str (x0.getD 4 D0))) = true /\
 ((!(((tB ((Rf.dint (x0.getD 0 D0)) == (Rf.dint (x1.getD 0 D0)))) && (tB ((Rf.dstr (x0.getD 1 D0)) == (Rf.dstr (x1.getD 1 D0))))) && (tB ((Rf.dint (x0.getD 2 D0)) == (Rf.dint (x1.getD 2 D0)))))) || (Rf.isK .str (x1.getD 4 D0))) = true /\
 ((!((((tB ((Rf.dint (x0.getD 0 D0)) == (Rf.dint (x1.getD 0 D0)))) && (tB ((Rf.dstr (x0.getD 1 D0)) == (Rf.dstr (x1.getD 1 D0))))) && (tB ((Rf.dint (x0.getD 2 D0)) == (Rf.dint (x1.getD 2 D0))))) && ((tB ((Rf.dstr (x0.getD 3 D0)) == (Rf.dstr (x1.getD 3 D0)))) && (tB ((Rf.dstr (x0.getD 4 D0)) == (Rf.dstr (x1.getD 4 D0))))))) || (Rf.isK .slc (x0.getD 7 D0))) = true /\
 ((!((((tB ((Rf.dint (x0.getD 0 D0)) == (Rf.dint (x1.getD 0 D0)))) && (tB ((Rf.dstr (x0.getD 1 D0)) == (Rf.dstr (x1.getD 1 D0))))) && (tB ((Rf.dint (x0.getD 2 D0)) == (Rf.dint (x1.getD 2 D0))))) && ((tB ((Rf.dstr (x0.getD 3 D0)) == (Rf.dstr (x1.getD 3 D0)))) && (tB ((Rf.dstr (x0.getD 4 D0)) == (Rf.dstr (x1.getD 4 D0))))))) || (Rf.isK .slc (x1.getD 7 D0))) = true /\
 ((((tB ((Rf.dint (x0.getD 0 D0)) == (Rf.dint (x1.getD 0 D0)))) && (tB ((Rf.dstr (x0.getD 1 D0)) == (Rf.dstr (x1.getD 1 D0))))) && (tB ((Rf.dint (x0.getD 2 D0)) == (Rf.dint (x1.getD 2 D0))))) = true ->
 (tB ((Rf.dstr (x0.getD 3 D0)) == (Rf.dstr (x1.getD 3 D0))) = true ->
 (tB ((Rf.dstr (x0.getD 4 D0)) == (Rf.dstr (x1.getD 4 D0))) = true ->
 ∀ _ : Nat -> Nat, ∃ R', Holds Tryz.prog 65 [A.d (D.slc (Rf.dlst (x0.getD 7 D0))), A.d (D.slc (Rf.dlst (x1.getD 7 D0)))] [] R' /\
 (∀ v H', R' (.ret v) H' -> ∃ x2 : Bool, v = A.d (D.lit (.bool x2)) /\ H' = [] /\
 ((!x2) || (Rf.isK .slc (x0.getD 5 D0))) = true /\
 ((!x2) || (Rf.isK .slc (x1.getD 5 D0))) = true /\
 (x2 = true ->
 ∀ _ : Nat -> Nat, ∃ R', Holds Tryz.prog 67 [A.d (D.slc (Rf.dlst (x0.getD 5 D0))), A.d (D.slc (Rf.dlst (x1.getD 5 D0))), A.fn 21 []] [] R' /\
 (∀ v H', R' (.ret v) H' -> ∃ x3 : Bool, v = A.d (D.lit (.bool x3)) /\ H' = [] /\
 ((!x3) || (Rf.isK .slc (x0.getD 6 D0))) = true /\
 ((!x3) || (Rf.isK .slc (x1.getD 6 D0))) = true /\
 (x3 = true ->
 ∀ _ : Nat -> Nat, ∃ R', Holds Tryz.prog 63 [A.d (D.slc (Rf.dlst (x0.getD 6 D0))), A.d (D.slc (Rf.dlst (x1.getD 6 D0))), A.fn 64 []] [] R' /\
 (∀ v H', R' (.ret v) H' -> ∃ x4 : Bool, v = A.d (D.lit (.bool x4)) /\ H' = [] /\
 R (.ret (A.d (D.lit (.bool x4)))) []) /\
 PN R R') /\
 (x3 = false ->
 R (.ret (A.d (D.lit (.bool false)))) [])) /\
 PN R R') /\
 (x2 = false ->
 R (.ret (A.d (D.lit (.bool false)))) [])) /\
 PN R R') /\
 (tB ((Rf.dstr (x0.getD 4 D0)) == (Rf.dstr (x1.getD 4 D0))) = false ->
 R (.ret (A.d (D.lit (.bool false)))) [])) /\
 (tB ((Rf.dstr (x0.getD 3 D0)) == (Rf.dstr (x1.getD 3 D0))) = false ->
 R (.ret (A.d (D.lit (.bool false)))) [])) /\
 ((((tB ((Rf.dint (x0.getD 0 D0)) == (Rf.dint (x1.getD 0 D0)))) && (tB ((Rf.dstr (x0.getD 1 D0)) == (Rf.dstr (x1.getD 1 D0))))) && (tB ((Rf.dint (x0.getD 2 D0)) == (Rf.dint (x1.getD 2 D0))))) = false ->
 R (.ret (A.d (D.lit (.bool false)))) [])) :
 Holds Tryz.prog 21 [A.agg x0, A.agg x1] [] R :=
 walk (c := ⟨Tryz.prog, 52, true, [0, 1, 2, 3, 4]⟩) (op := {}) (fn := Tryz.f21) (args := [.agg (.var 0), .agg (.var 1)]) (K := []) (nv := 2) (depth := 6) (up := upOf []) (ρ := Zec [.r x0, .r x1])
  rfl rfl rfl rfl rfl (by decide) (by decide) (by decide) (by decide) rfl (by simp [Zab, RRef.den, upOf]) (T_of (by kernel_rfl) h)
theorem w61 {R : RT} (x0 : List D) (x1 : List D) (h : tB ((x0.length : Int) == 3) = true /\
 tB ((x1.length : Int) == 3) = true /\
 Rf.isK .str (x0.getD 0 D0) = true /\
 Rf.isK .str (x1.getD 0 D0) = true /\
 ((!(tB ((Rf.dstr (x0.getD 0 D0)) == (Rf.dstr (x1.getD 0 D0))))) || (Rf.isK .str (x0.getD 1 D0))) = true /\
 ((!(tB ((Rf.dstr (x0.getD 0 D0)) == (Rf.dstr (x1.getD 0 D0))))) || (Rf.isK .str (x1.getD 1 D0))) = true /\
 R (.ret (A.d (D.lit (.bool ((tB ((Rf.dstr (x0.getD 0 D0)) == (Rf.dstr (x1.getD 0 D0)))) && (tB ((Rf.dstr (x0.getD 1 D0)) == (Rf.dstr (x1.getD 1 D0))))))))) []) :
 Holds Tryz.prog 61 [A.agg x0, A.agg x1] [] R :=
 walk (c := ⟨Tryz.prog, 17, true, [0, 1, 2, 3, 4]⟩) (op := {}) (fn := Tryz.f61) (args := [.agg (.var 0), .agg (.var 1)]) (K := []) (nv := 2) (depth := 5) (up := upOf []) (ρ := Zec [.r x0, .r x1])
  rfl rfl rfl rfl rfl (by decide) (by decide) (by decide) (by decide) rfl (by simp [Zab, RRef.den, upOf]) (T_of (by kernel_rfl) h)
theorem w62 {R : RT} (x0 : List (List D)) (x1 : List (List D)) (h : ((!(tB ((x0.length : Int) == (x1.length : Int)))) = true ->
 R (.ret (A.d (D.lit (.bool false)))) []) /\
 ((!(tB ((x0.length : Int) == (x1.length : Int)))) = false ->
 ∃ (I0_0 : Int -> Prop) (M0_0 : Int -> Nat), I0_0 0 /\
 (∀ (x2 : Int) , I0_0 x2 ->
 (tB (decide (x2 < (x0.length : Int))) = true ->
 tB (decide (0 <= x2)) = true /\
 tB (((gAt x0 x2).length : Int) == 3) = true /\
 tB (decide (x2 < (x1.length : Int))) = true /\
 tB (((gAt x1 x2).length : Int) == 3) = true /\
 ∀ _ : Nat -> Nat, ∃ R', Holds Tryz.prog 61 [A.agg (gAt x0 x2), A.agg (gAt x1 x2)] [] R' /\
 (∀ v H', R' (.ret v) H' -> ∃ x3 : Bool, v = A.d (D.lit (.bool x3)) /\ H' = [] /\
 ((!x3) = true ->
 R (.ret (A.d (D.lit (.bool false)))) []) /\
 ((!x3) = false ->
 tB (decide ((-9223372036854775808) <= (x2 + 1))) = true /\
 tB (decide ((x2 + 1) <= 9223372036854775807)) = true /\
 I0_0 (x2 + 1) /\ M0_0 (x2 + 1) < M0_0 x2)) /\
 PN R R') /\
 (tB (decide (x2 < (x0.length : Int))) = false ->
 R (.ret (A.d (D.lit (.bool true)))) [])) /\
 True)) :
 Holds Tryz.prog 62 [A.d (D.slc x0), A.d (D.slc x1), A.fn 61 []] [] R :=
 walk (c := ⟨Tryz.prog, 32, true, [0, 1, 2, 6, 7, 8, 9, 14, 15, 16, 17, 18, 30]⟩) (op := { com := [(9, (18, 5000)), (9, (8, 5000)), (9, (7, 5000)), (9, (9, 5000)), (9, (30, 5000)), (9, (6, 5000))] }) (fn := Tryz.f62) (args := [.c (.o1 .cl (.var 0)), .c (.o1 .cl (.var 1)), .fn 61 []]) (K := []) (nv := 2) (depth := 6) (up := upOf []) (ρ := Zec [.l x0, .l x1])
  rfl rfl rfl rfl rfl (by decide) (by decide) (by decide) (by decide) rfl (by simp [Zab, RRef.den, upOf]) (T_of (by kernel_rfl) h)
theorem w63 {R : RT} (x0 : List (List D)) (x1 : List (List D)) (h : ((!(tB ((x0.length : Int) == (x1.length : Int)))) = true ->
 R (.ret (A.d (D.lit (.bool false)))) []) /\
 ((!(tB ((x0.length : Int) == (x1.length : Int)))) = false ->
 ∃ (I0_0 : Int -> Prop) (M0_0 : Int -> Nat), I0_0 0 /\
 (∀ (x2 : Int) , I0_0 x2 ->
 (tB (decide (x2 < (x0.length : Int))) = true ->
 tB (decide (0 <= x2)) = true /\
 tB (((gAt x0 x2).length : Int) == 11) = true /\
 tB (decide (x2 < (x1.length : Int))) = true /\
 tB (((gAt x1 x2).length : Int) == 11) = true /\
 ∀ _ : Nat -> Nat, ∃ R', Holds Tryz.prog 64 [A.agg (gAt x0 x2), A.agg (gAt x1 x2)] [] R' /\
 (∀ v H', R' (.ret v) H' -> ∃ x3 : Bool, v = A.d (D.lit (.bool x3)) /\ H' = [] /\
 ((!x3) = true ->
 R (.ret (A.d (D.lit (.bool false)))) []) /\
 ((!x3) = false ->
 tB (decide ((-9223372036854775808) <= (x2 + 1))) = true /\
 tB (decide ((x2 + 1) <= 9223372036854775807)) = true /\
 I0_0 (x2 + 1) /\ M0_0 (x2 + 1) < M0_0 x2)) /\
 PN R R') /\
 (tB (decide (x2 < (x0.length : Int))) = false ->
 R (.ret (A.d (D.lit (.bool true)))) [])) /\
 True)) :
 Holds Tryz.prog 63 [A.d (D.slc x0), A.d (D.slc x1), A.fn 64 []] [] R :=
 walk (c := ⟨Tryz.prog, 32, true, [0, 1, 2, 6, 7, 8, 9, 14, 15, 16, 17, 18, 30]⟩) (op := { com := [(9, (18, 5000)), (9, (8, 5000)), (9, (7, 5000)), (9, (9, 5000)), (9, (30, 5000)), (9, (6, 5000))] }) (fn := Tryz.f63) (args := [.c (.o1 .cl (.var 0)), .c (.o1 .cl (.var 1)), .fn 64 []]) (K := []) (nv := 2) (depth := 6) (up := upOf []) (ρ := Zec [.l x0, .l x1])
  rfl rfl rfl rfl rfl (by decide) (by decide) (by decide) (by decide) rfl (by simp [Zab, RRef.den, upOf]) (T_of (by kernel_rfl) h)
theorem w64 {R : RT} (x0 : List D) (x1 : List D) (h : tB ((x0.length : Int) == 11) = true /\
 tB ((x1.length : Int) == 11) = true /\
 Rf.isK (.int .i64) (x0.getD 0 D0) = true /\
 Rf.isK (.int .i64) (x1.getD 0 D0) = true /\
 ((!(tB ((Rf.dint (x0.getD 0 D0)) == (Rf.dint (x1.getD 0 D0))))) || (Rf.isK (.int .i64) (x0.getD 1 D0))) = true /\
 ((!(tB ((Rf.dint (x0.getD 0 D0)) == (Rf.dint (x1.getD 0 D0))))) || (Rf.isK (.int .i64) (x1.getD 1 D0))) = true /\
 ((!((tB ((Rf.dint (x0.getD 0 D0)) == (Rf.dint (x1.getD 0 D0)))) && (tB ((Rf.dint (x0.getD 1 D0)) == (Rf.dint (x1.getD 1 D0)))))) || (Rf.isK .str (x0.getD 2 D0))) = true /\
 ((!((tB ((Rf.dint (x0.getD 0 D0)) == (Rf.dint (x1.getD 0 D0)))) && (tB ((Rf.dint (x0.getD 1 D0)) == (Rf.dint (x1.getD 1 D0)))))) || (Rf.isK .str (x1.getD 2 D0))) = true /\
 ((!(((tB ((Rf.dint (x0.getD 0 D0)) == (Rf.dint (x1.getD 0 D0)))) && (tB ((Rf.dint (x0.getD 1 D0)) == (Rf.dint (x1.getD 1 D0))))) && (tB ((Rf.dstr (x0.getD 2 D0)) == (Rf.dstr (x1.getD 2 D0)))))) || (Rf.isK .str (x0.getD 3 D0))) = true /\
 ((!(((tB ((Rf.dint (x0.getD 0 D0)) == (Rf.dint (x1.getD 0 D0)))) && (tB ((Rf.dint (x0.getD 1 D0)) == (Rf.dint (x1.getD 1 D0))))) && (tB ((Rf.dstr (x0.getD 2 D0)) == (Rf.dstr (x1.getD 2 D0)))))) || (Rf.isK .str (x1.getD 3 D0))) = true /\
 ((!(((tB ((Rf.dint (x0.getD 0 D0)) == (Rf.dint (x1.getD 0 D0)))) && (tB ((Rf.dint (x0.getD 1 D0)) == (Rf.dint (x1.getD 1 D0))))) && (tB ((Rf.dstr (x0.getD 2 D0)) == (Rf.dstr (x1.getD 2 D0)))))) || (Rf.isK .str (x0.getD 4 D0))) = true /\
 ((!(((tB ((Rf.dint (x0.getD 0 D0)) == (Rf.dint (x1.getD 0 D0)))) && (tB ((Rf.dint (x0.getD 1 D0)) == (Rf.dint (x1.getD 1 D0))))) && (tB ((Rf.dstr (x0.getD 2 D0)) == (Rf.dstr (x1.getD 2 D0)))))) || (Rf.isK .str (x1.getD 4 D0))) = true /\
 ((!((((tB ((Rf.dint (x0.getD 0 D0)) == (Rf.dint (x1.getD 0 D0)))) && (tB ((Rf.dint (x0.getD 1 D0)) == (Rf.dint (x1.getD 1 D0))))) && (tB ((Rf.dstr (x0.getD 2 D0)) == (Rf.dstr (x1.getD 2 D0))))) && ((tB ((Rf.dstr (x0.getD 3 D0)) == (Rf.dstr (x1.getD 3 D0)))) && (tB ((Rf.dstr (x0.getD 4 D0)) == (Rf.dstr (x1.getD 4 D0))))))) || (Rf.isK .str (x0.getD 9 D0))) = true /\
 ((!((((tB ((Rf.dint (x0.getD 0 D0)) == (Rf.dint (x1.getD 0 D0)))) && (tB ((Rf.dint (x0.getD 1 D0)) == (Rf.dint (x1.getD 1 D0))))) && (tB ((Rf.dstr (x0.getD 2 D0)) == (Rf.dstr (x1.getD 2 D0))))) && ((tB ((Rf.dstr (x0.getD 3 D0)) == (Rf.dstr (x1.getD 3 D0)))) && (tB ((Rf.dstr (x0.getD 4 D0)) == (Rf.dstr (x1.getD 4 D0))))))) || (Rf.isK .str (x1.getD 9 D0))) = true /\
 ((!(((((tB ((Rf.dint (x0.getD 0 D0)) == (Rf.dint (x1.getD 0 D0)))) && (tB ((Rf.dint (x0.getD 1 D0)) == (Rf.dint (x1.getD 1 D0))))) && (tB ((Rf.dstr (x0.getD 2 D0)) == (Rf.dstr (x1.getD 2 D0))))) && ((tB ((Rf.dstr (x0.getD 3 D0)) == (Rf.dstr (x1.getD 3 D0)))) && (tB ((Rf.dstr (x0.getD 4 D0)) == (Rf.dstr (x1.getD 4 D0)))))) && (tB ((Rf.dstr (x0.getD 9 D0)) == (Rf.dstr (x1.getD 9 D0)))))) || (Rf.isK .slc (x0.getD 8 D0))) = true /\
 ((!(((((tB ((Rf.dint (x0.getD 0 D0)) == (Rf.dint (x1.getD 0 D0)))) && (tB ((Rf.dint (x0.getD 1 D0)) == (Rf.dint (x1.getD 1 D0))))) && (tB ((Rf.dstr (x0.getD 2 D0)) == (Rf.dstr (x1.getD 2 D0))))) && ((tB ((Rf.dstr (x0.getD 3 D0)) == (Rf.dstr (x1.getD 3 D0)))) && (tB ((Rf.dstr (x0.getD 4 D0)) == (Rf.dstr (x1.getD 4 D0)))))) && (tB ((Rf.dstr (x0.getD 9 D0)) == (Rf.dstr (x1.getD 9 D0)))))) || (Rf.isK .slc (x1.getD 8 D0))) = true /\
 (((((tB ((Rf.dint (x0.getD 0 D0)) == (Rf.dint (x1.getD 0 D0)))) && (tB ((Rf.dint (x0.getD 1 D0)) == (Rf.dint (x1.getD 1 D0))))) && (tB ((Rf.dstr (x0.getD 2 D0)) == (Rf.dstr (x1.getD 2 D0))))) && ((tB ((Rf.dstr (x0.getD 3 D0)) == (Rf.dstr (x1.getD 3 D0)))) && (tB ((Rf.dstr (x0.getD 4 D0)) == (Rf.dstr (x1.getD 4 D0)))))) = true ->
 (tB ((Rf.dstr (x0.getD 9 D0)) == (Rf.dstr (x1.getD 9 D0))) = true ->
 ∀ _ : Nat -> Nat, ∃ R', Holds Tryz.prog 65 [A.d (D.slc (Rf.dlst (x0.getD 8 D0))), A.d (D.slc (Rf.dlst (x1.getD 8 D0)))] [] R' /\
 (∀ v H', R' (.ret v) H' -> ∃ x2 : Bool, v = A.d (D.lit (.bool x2)) /\ H' = [] /\
 ((!x2) || (Rf.isK .slc (x0.getD 7 D0))) = true /\
 ((!x2) || (Rf.isK .slc (x1.getD 7 D0))) = true /\
 (x2 = true ->
 ∀ _ : Nat -> Nat, ∃ R', Holds Tryz.prog 65 [A.d (D.slc (Rf.dlst (x0.getD 7 D0))), A.d (D.slc (Rf.dlst (x1.getD 7 D0)))] [] R' /\
 (∀ v H', R' (.ret v) H' -> ∃ x3 : Bool, v = A.d (D.lit (.bool x3)) /\ H' = [] /\
 ((!x3) || (Rf.isK .slc (x0.getD 5 D0))) = true /\
 ((!x3) || (Rf.isK .slc (x1.getD 5 D0))) = true /\
 (x3 = true ->
 ∀ _ : Nat -> Nat, ∃ R', Holds Tryz.prog 67 [A.d (D.slc (Rf.dlst (x0.getD 5 D0))), A.d (D.slc (Rf.dlst (x1.getD 5 D0))), A.fn 21 []] [] R' /\
 (∀ v H', R' (.ret v) H' -> ∃ x4 : Bool, v = A.d (D.lit (.bool x4)) /\ H' = [] /\
 ((!x4) || (Rf.isK .slc (x0.getD 6 D0))) = true /\
 ((!x4) || (Rf.isK .slc (x1.getD 6 D0))) = true /\
 (x4 = true ->
 ∀ _ : Nat -> Nat, ∃ R', Holds Tryz.prog 63 [A.d (D.slc (Rf.dlst (x0.getD 6 D0))), A.d (D.slc (Rf.dlst (x1.getD 6 D0))), A.fn 64 []] [] R' /\
 (∀ v H', R' (.ret v) H' -> ∃ x5 : Bool, v = A.d (D.lit (.bool x5)) /\ H' = [] /\
 R (.ret (A.d (D.lit (.bool x5)))) []) /\
 PN R R') /\
 (x4 = false ->
 R (.ret (A.d (D.lit (.bool false)))) [])) /\
 PN R R') /\
 (x3 = false ->
 R (.ret (A.d (D.lit (.bool false)))) [])) /\
 PN R R') /\
 (x2 = false ->
 R (.ret (A.d (D.lit (.bool false)))) [])) /\
 PN R R') /\
 (tB ((Rf.dstr (x0.getD 9 D0)) == (Rf.dstr (x1.getD 9 D0))) = false ->
 R (.ret (A.d (D.lit (.bool false)))) [])) /\
 (((((tB ((Rf.dint (x0.getD 0 D0)) == (Rf.dint (x1.getD 0 D0)))) && (tB ((Rf.dint (x0.getD 1 D0)) == (Rf.dint (x1.getD 1 D0))))) && (tB ((Rf.dstr (x0.getD 2 D0)) == (Rf.dstr (x1.getD 2 D0))))) && ((tB ((Rf.dstr (x0.getD 3 D0)) == (Rf.dstr (x1.getD 3 D0)))) && (tB ((Rf.dstr (x0.getD 4 D0)) == (Rf.dstr (x1.getD 4 D0)))))) = false ->
 R (.ret (A.d (D.lit (.bool false)))) [])) :
 Holds Tryz.prog 64 [A.agg x0, A.agg x1] [] R :=
 walk (c := ⟨Tryz.prog, 66, true, [0, 1, 2, 3, 4]⟩) (op := {}) (fn := Tryz.f64) (args := [.agg (.var 0), .agg (.var 1)]) (K := []) (nv := 2) (depth := 7) (up := upOf []) (ρ := Zec [.r x0, .r x1])
  rfl rfl rfl rfl rfl (by decide) (by decide) (by decide) (by decide) rfl (by simp [Zab, RRef.den, upOf]) (T_of (by kernel_rfl) h)
theorem w65 {R : RT} (x0 : List (List D)) (x1 : List (List D)) (h : ((!(tB ((x0.length : Int) == (x1.length : Int)))) = true ->
 R (.ret (A.d (D.lit (.bool false)))) []) /\
 ((!(tB ((x0.length : Int) == (x1.length : Int)))) = false ->
 ∃ (I0_0 : Int -> Prop) (M0_0 : Int -> Nat), I0_0 0 /\
 (∀ (x2 : Int) , I0_0 x2 ->
 (tB (decide (x2 < (x0.length : Int))) = true ->
 tB (decide (0 <= x2)) = true /\
 tB (((gAt x0 x2).length : Int) == 1) = true /\
 Rf.isK .str ((gAt x0 x2).getD 0 D0) = true /\
 tB (decide (x2 < (x1.length : Int))) = true /\
 tB (((gAt x1 x2).length : Int) == 1) = true /\
 Rf.isK .str ((gAt x1 x2).getD 0 D0) = true /\
 ((!(tB ((Rf.dstr ((gAt x0 x2).getD 0 D0)) == (Rf.dstr ((gAt x1 x2).getD 0 D0))))) = true ->
 R (.ret (A.d (D.lit (.bool false)))) []) /\
 ((!(tB ((Rf.dstr ((gAt x0 x2).getD 0 D0)) == (Rf.dstr ((gAt x1 x2).getD 0 D0))))) = false ->
 tB (decide ((-9223372036854775808) <= (x2 + 1))) = true /\
 tB (decide ((x2 + 1) <= 9223372036854775807)) = true /\
 I0_0 (x2 + 1) /\ M0_0 (x2 + 1) < M0_0 x2)) /\
 (tB (decide (x2 < (x0.length : Int))) = false ->
 R (.ret (A.d (D.lit (.bool true)))) [])) /\
 True)) :
 Holds Tryz.prog 65 [A.d (D.slc x0), A.d (D.slc x1)] [] R :=
 walk (c := ⟨Tryz.prog, 26, true, [0, 1, 4, 5, 10, 12, 13, 14, 24]⟩) (op := { com := [(8, (14, 5000)), (8, (5, 5000)), (8, (24, 5000)), (8, (4, 5000))] }) (fn := Tryz.f65) (args := [.c (.o1 .cl (.var 0)), .c (.o1 .cl (.var 1))]) (K := []) (nv := 2) (depth := 5) (up := upOf []) (ρ := Zec [.l x0, .l x1])
  rfl rfl rfl rfl rfl (by decide) (by decide) (by decide) (by decide) rfl (by simp [Zab, RRef.den, upOf]) (T_of (by kernel_rfl) h)
theorem w67 {R : RT} (x0 : List (List D)) (x1 : List (List D)) (h : ((!(tB ((x0.length : Int) == (x1.length : Int)))) = true ->
 R (.ret (A.d (D.lit (.bool false)))) []) /\
 ((!(tB ((x0.length : Int) == (x1.length : Int)))) = false ->
 ∃ (I0_0 : Int -> Prop) (M0_0 : Int -> Nat), I0_0 0 /\
 (∀ (x2 : Int) , I0_0 x2 ->
 (tB (decide (x2 < (x0.length : Int))) = true ->
 tB (decide (0 <= x2)) = true /\
 tB (((gAt x0 x2).length : Int) == 9) = true /\
 tB (decide (x2 < (x1.length : Int))) = true /\
 tB (((gAt x1 x2).length : Int) == 9) = true /\
 ∀ _ : Nat -> Nat, ∃ R', Holds Tryz.prog 21 [A.agg (gAt x0 x2), A.agg (gAt x1 x2)] [] R' /\
 (∀ v H', R' (.ret v) H' -> ∃ x3 : Bool, v = A.d (D.lit (.bool x3)) /\ H' = [] /\
 ((!x3) = true ->
 R (.ret (A.d (D.lit (.bool false)))) []) /\
 ((!x3) = false ->
 tB (decide ((-9223372036854775808) <= (x2 + 1))) = true /\
 tB (decide ((x2 + 1) <= 9223372036854775807)) = true /\
 I0_0 (x2 + 1) /\ M0_0 (x2 + 1) < M0_0 x2)) /\
 PN R R') /\
 (tB (decide (x2 < (x0.length : Int))) = false ->
 R (.ret (A.d (D.lit (.bool true)))) [])) /\
 True)) :
 Holds Tryz.prog 67 [A.d (D.slc x0), A.d (D.slc x1), A.fn 21 []] [] R :=
 walk (c := ⟨Tryz.prog, 32, true, [0, 1, 2, 6, 7, 8, 9, 14, 15, 16, 17, 18, 30]⟩) (op := { com := [(9, (18, 5000)), (9, (8, 5000)), (9, (7, 5000)), (9, (9, 5000)), (9, (30, 5000)), (9, (6, 5000))] }) (fn := Tryz.f67) (args := [.c (.o1 .cl (.var 0)), .c (.o1 .cl (.var 1)), .fn 21 []]) (K := []) (nv := 2) (depth := 6) (up := upOf []) (ρ := Zec [.l x0, .l x1])
  rfl rfl rfl rfl rfl (by decide) (by decide) (by decide) (by decide) rfl (by simp [Zab, RRef.den, upOf]) (T_of (by kernel_rfl) h)
end Go.Sy
end
section
open Go Go.Proofs Go.Ab Go.Rf
set_option maxRecDepth 1000000
set_option maxHeartbeats 2000000
set_option linter.unusedVariables false
namespace Go.Sy
theorem w12 {R : RT} (x0 : List D) (h : tB ((x0.length : Int) == 4) = true /\
 Rf.isK .slc (x0.getD 1 D0) = true /\
 ((tB (decide (5 < ((Rf.dlst (x0.getD 1 D0)).length : Int)))) || (Rf.isK .slc (x0.getD 3 D0))) = true /\
 (((tB (decide (5 < ((Rf.dlst (x0.getD 1 D0)).length : Int)))) || (tB (decide (20 < ((Rf.dlst (x0.getD 3 D0)).length : Int))))) || (Rf.isK .str (x0.getD 0 D0))) = true /\
 ((!((tB (decide (5 < ((Rf.dlst (x0.getD 1 D0)).length : Int)))) || (tB (decide (20 < ((Rf.dlst (x0.getD 3 D0)).length : Int)))))) = true ->
 ∃ x1 : Int, (∀ _ : Nat -> Nat, Holds Tryz.prog 41 [A.d (D.slc [[D.lit (Zav (Rf.dstr (x0.getD 0 D0)))]])] [] (Zgw [] (A.d (D.lit (.int .i64 x1))))) /\
 Rf.isK .slc (x0.getD 3 D0) = true /\
 ∀ _ : Nat -> Nat, ∃ R', Holds Tryz.prog 41 [A.d (D.slc (Rf.dlst (x0.getD 3 D0)))] [] R' /\
 (∀ v H', R' (.ret v) H' -> ∃ x2 : Int, v = A.d (D.lit (.int .i64 x2)) /\ H' = [] /\
 tB (decide ((-9223372036854775808) <= (x1 + x2))) = true /\
 tB (decide ((x1 + x2) <= 9223372036854775807)) = true /\
 (tB (decide (1000 < (x1 + x2))) = true ->
 R (.ret (A.d (D.lit (.bool false)))) []) /\
 (tB (decide (1000 < (x1 + x2))) = false ->
 ∃ (I0_0 : Int -> Prop) (M0_0 : Int -> Nat), I0_0 0 /\
 (∀ (x3 : Int) , I0_0 x3 ->
 (tB (decide (x3 < ((Rf.dlst (x0.getD 1 D0)).length : Int))) = true ->
 tB (decide (0 <= x3)) = true /\
 tB (((gAt (Rf.dlst (x0.getD 1 D0)) x3).length : Int) == 3) = true /\
 Rf.isK .str ((gAt (Rf.dlst (x0.getD 1 D0)) x3).getD 0 D0) = true /\
 Rf.isK .str ((gAt (Rf.dlst (x0.getD 1 D0)) x3).getD 1 D0) = true /\
 tB (decide ((-9223372036854775808) <= (((Rf.dstr ((gAt (Rf.dlst (x0.getD 1 D0)) x3).getD 0 D0)).length : Int) + ((Rf.dstr ((gAt (Rf.dlst (x0.getD 1 D0)) x3).getD 1 D0)).length : Int)))) = true /\
 tB (decide ((((Rf.dstr ((gAt (Rf.dlst (x0.getD 1 D0)) x3).getD 0 D0)).length : Int) + ((Rf.dstr ((gAt (Rf.dlst (x0.getD 1 D0)) x3).getD 1 D0)).length : Int)) <= 9223372036854775807)) = true /\
 (tB (decide (200 < (((Rf.dstr ((gAt (Rf.dlst (x0.getD 1 D0)) x3).getD 0 D0)).length : Int) + ((Rf.dstr ((gAt (Rf.dlst (x0.getD 1 D0)) x3).getD 1 D0)).length : Int)))) = true ->
 R (.ret (A.d (D.lit (.bool false)))) []) /\
 (tB (decide (200 < (((Rf.dstr ((gAt (Rf.dlst (x0.getD 1 D0)) x3).getD 0 D0)).length : Int) + ((Rf.dstr ((gAt (Rf.dlst (x0.getD 1 D0)) x3).getD 1 D0)).length : Int)))) = false ->
 tB (decide ((-9223372036854775808) <= (x3 + 1))) = true /\
 tB (decide ((x3 + 1) <= 9223372036854775807)) = true /\
 I0_0 (x3 + 1) /\ M0_0 (x3 + 1) < M0_0 x3)) /\
 (tB (decide (x3 < ((Rf.dlst (x0.getD 1 D0)).length : Int))) = false ->
 Rf.isK .slc (x0.getD 2 D0) = true /\
 ∀ _ : Nat -> Nat, ∃ R', Holds Tryz.prog 42 [A.d (D.slc (Rf.dlst (x0.getD 2 D0))), A.d (D.lit (.int .i64 150))] [] R' /\
 (∀ v H', R' (.ret v) H' -> ∃ x4 : Int, v = A.d (D.lit (.int .i64 x4)) /\ H' = [] /\
 R (.ret (A.d (D.lit (.bool (tB (decide (0 <= x4))))))) []) /\
 PN R R')) /\
 True)) /\
 PN R R') /\
 ((!((tB (decide (5 < ((Rf.dlst (x0.getD 1 D0)).length : Int)))) || (tB (decide (20 < ((Rf.dlst (x0.getD 3 D0)).length : Int)))))) = false ->
 R (.ret (A.d (D.lit (.bool false)))) [])) :
 Holds Tryz.prog 12 [A.agg x0] [] R :=
 walk (c := ⟨Tryz.prog, 46, true, [0, 1, 2, 4, 25, 27, 28, 29, 30, 40]⟩) (op := { com := [(8, (30, 5000)), (8, (4, 5000)), (8, (40, 5000)), (8, (2, 5000))] }) (fn := Tryz.f12) (args := [.agg (.var 0)]) (K := []) (nv := 1) (depth := 6) (up := upOf []) (ρ := Zec [.r x0])
  rfl rfl rfl rfl rfl (by decide) (by decide) (by decide) (by decide) rfl (by simp [Zab, RRef.den, upOf]) (T_of (by kernel_rfl) h)
theorem w16 {R : RT} (x0 : List D) (h : tB ((x0.length : Int) == 9) = true /\
 ∀ _ : Nat -> Nat, ∃ R', Holds Tryz.prog 57 [A.agg x0, A.d (D.lit (.int .i64 100))] [] R' /\
 (∀ v H', R' (.ret v) H' -> ∃ x1 : Int, v = A.d (D.lit (.int .i64 x1)) /\ H' = [] /\
 R (.ret (A.d (D.lit (.bool (tB (decide (0 <= x1))))))) []) /\
 PN R R') :
 Holds Tryz.prog 16 [A.agg x0] [] R :=
 walk (c := ⟨Tryz.prog, 6, true, [0, 1, 2]⟩) (op := {}) (fn := Tryz.f16) (args := [.agg (.var 0)]) (K := []) (nv := 1) (depth := 3) (up := upOf []) (ρ := Zec [.r x0])
  rfl rfl rfl rfl rfl (by decide) (by decide) (by decide) (by decide) rfl (by simp [Zab, RRef.den, upOf]) (T_of (by kernel_rfl) h)
theorem w41 {R : RT} (x0 : List (List D)) (h : ∃ (I0_0 : Int -> Int -> Prop) (M0_0 : Int -> Int -> Nat), I0_0 0 0 /\
 (∀ (x1 : Int) (x2 : Int) , I0_0 x1 x2 ->
 (tB (decide (x2 < (x0.length : Int))) = true ->
 tB (decide (0 <= x2)) = true /\
 tB (((gAt x0 x2).length : Int) == 1) = true /\
 Rf.isK .str ((gAt x0 x2).getD 0 D0) = true /\
 tB (decide ((-9223372036854775808) <= (x1 + ((Rf.dstr ((gAt x0 x2).getD 0 D0)).length : Int)))) = true /\
 tB (decide ((x1 + ((Rf.dstr ((gAt x0 x2).getD 0 D0)).length : Int)) <= 9223372036854775807)) = true /\
 tB (decide ((-9223372036854775808) <= (x2 + 1))) = true /\
 tB (decide ((x2 + 1) <= 9223372036854775807)) = true /\
 I0_0 (((x1 + ((Rf.dstr ((gAt x0 x2).getD 0 D0)).length : Int)) + 10000) - (gMax (x1 + ((Rf.dstr ((gAt x0 x2).getD 0 D0)).length : Int)) 10000)) (x2 + 1) /\ M0_0 (((x1 + ((Rf.dstr ((gAt x0 x2).getD 0 D0)).length : Int)) + 10000) - (gMax (x1 + ((Rf.dstr ((gAt x0 x2).getD 0 D0)).length : Int)) 10000)) (x2 + 1) < M0_0 x1 x2) /\
 (tB (decide (x2 < (x0.length : Int))) = false ->
 R (.ret (A.d (D.lit (.int .i64 x1)))) [])) /\
 True) :
 Holds Tryz.prog 41 [A.d (D.slc x0)] [] R :=
 walk (c := ⟨Tryz.prog, 19, true, [0, 2, 3, 5, 6, 7, 8, 9]⟩) (op := { com := [(6, (9, 5000)), (6, (5, 5000))] }) (fn := Tryz.f41) (args := [.c (.o1 .cl (.var 0))]) (K := []) (nv := 1) (depth := 5) (up := upOf []) (ρ := Zec [.l x0])
  rfl rfl rfl rfl rfl (by decide) (by decide) (by decide) (by decide) rfl (by simp [Zab, RRef.den, upOf]) (T_of (by kernel_rfl) h)
theorem w42 {R : RT} (x0 : List (List D)) (x1 : Int) (h : ∃ (I0_0 : Int -> Int -> Prop) (M0_0 : Int -> Int -> Nat), I0_0 x1 0 /\
 (∀ (x2 : Int) (x3 : Int) , I0_0 x2 x3 ->
 (tB (decide (x3 < (x0.length : Int))) = true ->
 tB (decide (0 <= x3)) = true /\
 tB (((gAt x0 x3).length : Int) == 11) = true /\
 (tB (decide (x2 < 0)) = true ->
 R (.ret (A.d (D.lit (.int .i64 x2)))) []) /\
 (tB (decide (x2 < 0)) = false ->
 tB (decide ((-9223372036854775808) <= (x2 - 1))) = true /\
 tB (decide ((x2 - 1) <= 9223372036854775807)) = true /\
 Rf.isK .slc ((gAt x0 x3).getD 8 D0) = true /\
 tB (decide ((-9223372036854775808) <= ((x2 - 1) - ((Rf.dlst ((gAt x0 x3).getD 8 D0)).length : Int)))) = true /\
 tB (decide (((x2 - 1) - ((Rf.dlst ((gAt x0 x3).getD 8 D0)).length : Int)) <= 9223372036854775807)) = true /\
 Rf.isK .slc ((gAt x0 x3).getD 7 D0) = true /\
 tB (decide ((-9223372036854775808) <= (((x2 - 1) - ((Rf.dlst ((gAt x0 x3).getD 8 D0)).length : Int)) - ((Rf.dlst ((gAt x0 x3).getD 7 D0)).length : Int)))) = true /\
 tB (decide ((((x2 - 1) - ((Rf.dlst ((gAt x0 x3).getD 8 D0)).length : Int)) - ((Rf.dlst ((gAt x0 x3).getD 7 D0)).length : Int)) <= 9223372036854775807)) = true /\
 Rf.isK .str ((gAt x0 x3).getD 2 D0) = true /\
 Rf.isK .str ((gAt x0 x3).getD 3 D0) = true /\
 Rf.isK .str ((gAt x0 x3).getD 4 D0) = true /\
 Rf.isK .str ((gAt x0 x3).getD 9 D0) = true /\
 ∃ x4 : Int, (∀ _ : Nat -> Nat, Holds Tryz.prog 41 [A.d (D.slc [[D.lit (Zav (Rf.dstr ((gAt x0 x3).getD 2 D0)))], [D.lit (Zav (Rf.dstr ((gAt x0 x3).getD 3 D0)))], [D.lit (Zav (Rf.dstr ((gAt x0 x3).getD 4 D0)))], [D.lit (Zav (Rf.dstr ((gAt x0 x3).getD 9 D0)))]])] [] (Zgw [] (A.d (D.lit (.int .i64 x4))))) /\
 tB (decide ((-9223372036854775808) <= (x4.tdiv 20))) = true /\
 tB (decide ((x4.tdiv 20) <= 9223372036854775807)) = true /\
 tB (decide ((-9223372036854775808) <= ((((x2 - 1) - ((Rf.dlst ((gAt x0 x3).getD 8 D0)).length : Int)) - ((Rf.dlst ((gAt x0 x3).getD 7 D0)).length : Int)) - (x4.tdiv 20)))) = true /\
 tB (decide (((((x2 - 1) - ((Rf.dlst ((gAt x0 x3).getD 8 D0)).length : Int)) - ((Rf.dlst ((gAt x0 x3).getD 7 D0)).length : Int)) - (x4.tdiv 20)) <= 9223372036854775807)) = true /\
 ∃ x5 : Int, (∀ _ : Nat -> Nat, Holds Tryz.prog 41 [A.d (D.slc (Rf.dlst ((gAt x0 x3).getD 8 D0)))] [] (Zgw [] (A.d (D.lit (.int .i64 x5))))) /\
 tB (decide ((-9223372036854775808) <= (x5.tdiv 20))) = true /\
 tB (decide ((x5.tdiv 20) <= 9223372036854775807)) = true /\
 tB (decide ((-9223372036854775808) <= (((((x2 - 1) - ((Rf.dlst ((gAt x0 x3).getD 8 D0)).length : Int)) - ((Rf.dlst ((gAt x0 x3).getD 7 D0)).length : Int)) - (x4.tdiv 20)) - (x5.tdiv 20)))) = true /\
 tB (decide ((((((x2 - 1) - ((Rf.dlst ((gAt x0 x3).getD 8 D0)).length : Int)) - ((Rf.dlst ((gAt x0 x3).getD 7 D0)).length : Int)) - (x4.tdiv 20)) - (x5.tdiv 20)) <= 9223372036854775807)) = true /\
 ∃ x6 : Int, (∀ _ : Nat -> Nat, Holds Tryz.prog 41 [A.d (D.slc (Rf.dlst ((gAt x0 x3).getD 7 D0)))] [] (Zgw [] (A.d (D.lit (.int .i64 x6))))) /\
 tB (decide ((-9223372036854775808) <= (x6.tdiv 20))) = true /\
 tB (decide ((x6.tdiv 20) <= 9223372036854775807)) = true /\
 tB (decide ((-9223372036854775808) <= ((((((x2 - 1) - ((Rf.dlst ((gAt x0 x3).getD 8 D0)).length : Int)) - ((Rf.dlst ((gAt x0 x3).getD 7 D0)).length : Int)) - (x4.tdiv 20)) - (x5.tdiv 20)) - (x6.tdiv 20)))) = true /\
 tB (decide (((((((x2 - 1) - ((Rf.dlst ((gAt x0 x3).getD 8 D0)).length : Int)) - ((Rf.dlst ((gAt x0 x3).getD 7 D0)).length : Int)) - (x4.tdiv 20)) - (x5.tdiv 20)) - (x6.tdiv 20)) <= 9223372036854775807)) = true /\
 Rf.isK .slc ((gAt x0 x3).getD 5 D0) = true /\
 ∃ (I1_0 : Int -> Int -> Prop) (M1_0 : Int -> Int -> Nat), I1_0 ((((((x2 - 1) - ((Rf.dlst ((gAt x0 x3).getD 8 D0)).length : Int)) - ((Rf.dlst ((gAt x0 x3).getD 7 D0)).length : Int)) - (x4.tdiv 20)) - (x5.tdiv 20)) - (x6.tdiv 20)) 0 /\
 (∀ (x7 : Int) (x8 : Int) , I1_0 x7 x8 ->
 (tB (decide (x8 < ((Rf.dlst ((gAt x0 x3).getD 5 D0)).length : Int))) = true ->
 tB (decide (0 <= x8)) = true /\
 tB (((gAt (Rf.dlst ((gAt x0 x3).getD 5 D0)) x8).length : Int) == 9) = true /\
 (tB (decide (0 <= x7)) = true ->
 ∀ _ : Nat -> Nat, ∃ R', Holds Tryz.prog 57 [A.agg (gAt (Rf.dlst ((gAt x0 x3).getD 5 D0)) x8), A.d (D.lit (.int .i64 x7))] [] R' /\
 (∀ v H', R' (.ret v) H' -> ∃ x9 : Int, v = A.d (D.lit (.int .i64 x9)) /\ H' = [] /\
 tB (decide ((-9223372036854775808) <= (x8 + 1))) = true /\
 tB (decide ((x8 + 1) <= 9223372036854775807)) = true /\
 I1_0 x9 (x8 + 1) /\ M1_0 x9 (x8 + 1) < M1_0 x7 x8) /\
 PN R R') /\
 (tB (decide (0 <= x7)) = false ->
 tB (decide ((-9223372036854775808) <= (x8 + 1))) = true /\
 tB (decide ((x8 + 1) <= 9223372036854775807)) = true /\
 I1_0 x7 (x8 + 1) /\ M1_0 x7 (x8 + 1) < M1_0 x7 x8)) /\
 (tB (decide (x8 < ((Rf.dlst ((gAt x0 x3).getD 5 D0)).length : Int))) = false ->
 Rf.isK .slc ((gAt x0 x3).getD 6 D0) = true /\
 ∀ _ : Nat -> Nat, ∃ R', Holds Tryz.prog 42 [A.d (D.slc (Rf.dlst ((gAt x0 x3).getD 6 D0))), A.d (D.lit (.int .i64 x7))] [] R' /\
 (∀ v H', R' (.ret v) H' -> ∃ x9 : Int, v = A.d (D.lit (.int .i64 x9)) /\ H' = [] /\
 tB (decide ((-9223372036854775808) <= (x3 + 1))) = true /\
 tB (decide ((x3 + 1) <= 9223372036854775807)) = true /\
 I0_0 x9 (x3 + 1) /\ M0_0 x9 (x3 + 1) < M0_0 x2 x3) /\
 PN R R')) /\
 True)) /\
 (tB (decide (x3 < (x0.length : Int))) = false ->
 R (.ret (A.d (D.lit (.int .i64 x2)))) [])) /\
 True) :
 Holds Tryz.prog 42 [A.d (D.slc x0), A.d (D.lit (.int .i64 x1))] [] R :=
 walk (c := ⟨Tryz.prog, 71, true, [0, 1, 4, 6, 8, 9, 10, 11, 12, 16, 53, 54, 55, 56, 60]⟩) (op := { com := [(14, (12, 5000)), (14, (6, 5000)), (14, (16, 5000)), (14, (4, 5000)), (14, (53, 5000)), (14, (54, 5000)), (14, (55, 5000)), (14, (56, 5000)), (14, (8, 5000)), (14, (60, 5000)), (12, (56, 5000)), (12, (8, 5000)), (12, (60, 5000))] }) (fn := Tryz.f42) (args := [.c (.o1 .cl (.var 0)), .c (.o1 (.ci .i64) (.var 1))]) (K := []) (nv := 2) (depth := 7) (up := upOf []) (ρ := Zec [.l x0, .i x1])
  rfl rfl rfl rfl rfl (by decide) (by decide) (by decide) (by decide) rfl (by simp [Zab, RRef.den, upOf]) (T_of (by kernel_rfl) h)
theorem w57 {R : RT} (x0 : List D) (x1 : Int) (h : tB ((x0.length : Int) == 9) = true /\
 tB (decide ((-9223372036854775808) <= (x1 - 1))) = true /\
 tB (decide ((x1 - 1) <= 9223372036854775807)) = true /\
 Rf.isK .slc (x0.getD 7 D0) = true /\
 tB (decide ((-9223372036854775808) <= ((x1 - 1) - ((Rf.dlst (x0.getD 7 D0)).length : Int)))) = true /\
 tB (decide (((x1 - 1) - ((Rf.dlst (x0.getD 7 D0)).length : Int)) <= 9223372036854775807)) = true /\
 Rf.isK .str (x0.getD 1 D0) = true /\
 Rf.isK .str (x0.getD 3 D0) = true /\
 Rf.isK .str (x0.getD 4 D0) = true /\
 ∃ x2 : Int, (∀ _ : Nat -> Nat, Holds Tryz.prog 41 [A.d (D.slc [[D.lit (Zav (Rf.dstr (x0.getD 1 D0)))], [D.lit (Zav (Rf.dstr (x0.getD 3 D0)))], [D.lit (Zav (Rf.dstr (x0.getD 4 D0)))]])] [] (Zgw [] (A.d (D.lit (.int .i64 x2))))) /\
 tB (decide ((-9223372036854775808) <= (x2.tdiv 20))) = true /\
 tB (decide ((x2.tdiv 20) <= 9223372036854775807)) = true /\
 tB (decide ((-9223372036854775808) <= (((x1 - 1) - ((Rf.dlst (x0.getD 7 D0)).length : Int)) - (x2.tdiv 20)))) = true /\
 tB (decide ((((x1 - 1) - ((Rf.dlst (x0.getD 7 D0)).length : Int)) - (x2.tdiv 20)) <= 9223372036854775807)) = true /\
 ∃ x3 : Int, (∀ _ : Nat -> Nat, Holds Tryz.prog 41 [A.d (D.slc (Rf.dlst (x0.getD 7 D0)))] [] (Zgw [] (A.d (D.lit (.int .i64 x3))))) /\
 tB (decide ((-9223372036854775808) <= (x3.tdiv 20))) = true /\
 tB (decide ((x3.tdiv 20) <= 9223372036854775807)) = true /\
 tB (decide ((-9223372036854775808) <= ((((x1 - 1) - ((Rf.dlst (x0.getD 7 D0)).length : Int)) - (x2.tdiv 20)) - (x3.tdiv 20)))) = true /\
 tB (decide (((((x1 - 1) - ((Rf.dlst (x0.getD 7 D0)).length : Int)) - (x2.tdiv 20)) - (x3.tdiv 20)) <= 9223372036854775807)) = true /\
 Rf.isK .slc (x0.getD 5 D0) = true /\
 ∃ (I0_0 : Int -> Int -> Prop) (M0_0 : Int -> Int -> Nat), I0_0 ((((x1 - 1) - ((Rf.dlst (x0.getD 7 D0)).length : Int)) - (x2.tdiv 20)) - (x3.tdiv 20)) 0 /\
 (∀ (x4 : Int) (x5 : Int) , I0_0 x4 x5 ->
 (tB (decide (x5 < ((Rf.dlst (x0.getD 5 D0)).length : Int))) = true ->
 tB (decide (0 <= x5)) = true /\
 tB (((gAt (Rf.dlst (x0.getD 5 D0)) x5).length : Int) == 9) = true /\
 (tB (decide (0 <= x4)) = true ->
 ∀ _ : Nat -> Nat, ∃ R', Holds Tryz.prog 57 [A.agg (gAt (Rf.dlst (x0.getD 5 D0)) x5), A.d (D.lit (.int .i64 x4))] [] R' /\
 (∀ v H', R' (.ret v) H' -> ∃ x6 : Int, v = A.d (D.lit (.int .i64 x6)) /\ H' = [] /\
 tB (decide ((-9223372036854775808) <= (x5 + 1))) = true /\
 tB (decide ((x5 + 1) <= 9223372036854775807)) = true /\
 I0_0 x6 (x5 + 1) /\ M0_0 x6 (x5 + 1) < M0_0 x4 x5) /\
 PN R R') /\
 (tB (decide (0 <= x4)) = false ->
 tB (decide ((-9223372036854775808) <= (x5 + 1))) = true /\
 tB (decide ((x5 + 1) <= 9223372036854775807)) = true /\
 I0_0 x4 (x5 + 1) /\ M0_0 x4 (x5 + 1) < M0_0 x4 x5)) /\
 (tB (decide (x5 < ((Rf.dlst (x0.getD 5 D0)).length : Int))) = false ->
 Rf.isK .slc (x0.getD 6 D0) = true /\
 ∀ _ : Nat -> Nat, ∃ R', Holds Tryz.prog 42 [A.d (D.slc (Rf.dlst (x0.getD 6 D0))), A.d (D.lit (.int .i64 x4))] [] R' /\
 (∀ v H', R' (.ret v) H' -> ∃ x6 : Int, v = A.d (D.lit (.int .i64 x6)) /\ H' = [] /\
 R (.ret (A.d (D.lit (.int .i64 x6)))) []) /\
 PN R R')) /\
 True) :
 Holds Tryz.prog 57 [A.agg x0, A.d (D.lit (.int .i64 x1))] [] R :=
 walk (c := ⟨Tryz.prog, 47, true, [0, 1, 2, 4, 6, 31, 32, 33, 34, 38]⟩) (op := { com := [(7, (34, 5000)), (7, (6, 5000)), (7, (38, 5000))] }) (fn := Tryz.f57) (args := [.agg (.var 0), .c (.o1 (.ci .i64) (.var 1))]) (K := []) (nv := 2) (depth := 6) (up := upOf []) (ρ := Zec [.r x0, .i x1])
  rfl rfl rfl rfl rfl (by decide) (by decide) (by decide) (by decide) rfl (by simp [Zab, RRef.den, upOf]) (T_of (by kernel_rfl) h)
end Go.Sy
end
section
open Go Go.Proofs Go.Ab Go.Rf
set_option maxRecDepth 1000000
set_option maxHeartbeats 2000000
set_option linter.unusedVariables false
namespace Go.Sy
theorem w20 {R : RT} (x0 : List D) (x1 : List D) (h : tB ((x0.length : Int) == 4) = true /\
 tB ((x1.length : Int) == 4) = true /\
 Rf.isK .str (x0.getD 0 D0) = true /\
 Rf.isK .str (x1.getD 0 D0) = true /\
 ((!(tB ((Rf.dstr (x0.getD 0 D0)) == (Rf.dstr (x1.getD 0 D0))))) || (Rf.isK .slc (x0.getD 1 D0))) = true /\
 ((!(tB ((Rf.dstr (x0.getD 0 D0)) == (Rf.dstr (x1.getD 0 D0))))) || (Rf.isK .slc (x1.getD 1 D0))) = true /\
 (((!(tB ((Rf.dstr (x0.getD 0 D0)) == (Rf.dstr (x1.getD 0 D0))))) || (!(tB (((Rf.dlst (x0.getD 1 D0)).length : Int) == ((Rf.dlst (x1.getD 1 D0)).length : Int))))) || (Rf.isK .slc (x0.getD 3 D0))) = true /\
 (((!(tB ((Rf.dstr (x0.getD 0 D0)) == (Rf.dstr (x1.getD 0 D0))))) || (!(tB (((Rf.dlst (x0.getD 1 D0)).length : Int) == ((Rf.dlst (x1.getD 1 D0)).length : Int))))) || (Rf.isK .slc (x1.getD 3 D0))) = true /\
 ((!((!(tB ((Rf.dstr (x0.getD 0 D0)) == (Rf.dstr (x1.getD 0 D0))))) || (!(tB (((Rf.dlst (x0.getD 1 D0)).length : Int) == ((Rf.dlst (x1.getD 1 D0)).length : Int)))))) = true ->
 ∀ _ : Nat -> Nat, ∃ R', Holds Tryz.prog 23 [A.d (D.slc (Rf.dlst (x0.getD 3 D0))), A.d (D.slc (Rf.dlst (x1.getD 3 D0)))] [] R' /\
 (∀ v H', R' (.ret v) H' -> ∃ x2 : Bool, v = A.d (D.lit (.bool x2)) /\ H' = [] /\
 ((!x2) = true ->
 R (.ret (A.d (D.lit (.bool false)))) []) /\
 ((!x2) = false ->
 Rf.isK .slc (x0.getD 1 D0) = true /\
 ∃ (I0_0 : Int -> Prop) (M0_0 : Int -> Nat), I0_0 0 /\
 (∀ (x3 : Int) , I0_0 x3 ->
 (tB (decide (x3 < ((Rf.dlst (x0.getD 1 D0)).length : Int))) = true ->
 tB (decide (0 <= x3)) = true /\
 tB (((gAt (Rf.dlst (x0.getD 1 D0)) x3).length : Int) == 3) = true /\
 tB (decide (0 <= ((gAt (Rf.dlst (x0.getD 1 D0)) x3).length : Int))) = true /\
 Rf.isK .str ((gAt (Rf.dlst (x0.getD 1 D0)) x3).getD 0 D0) = true /\
 Rf.isK .slc (x1.getD 1 D0) = true /\
 tB (decide (x3 < ((Rf.dlst (x1.getD 1 D0)).length : Int))) = true /\
 tB (((gAt (Rf.dlst (x1.getD 1 D0)) x3).length : Int) == 3) = true /\
 tB (decide (0 <= ((gAt (Rf.dlst (x1.getD 1 D0)) x3).length : Int))) = true /\
 Rf.isK .str ((gAt (Rf.dlst (x1.getD 1 D0)) x3).getD 0 D0) = true /\
 ((!(tB ((Rf.dstr ((gAt (Rf.dlst (x0.getD 1 D0)) x3).getD 0 D0)) == (Rf.dstr ((gAt (Rf.dlst (x1.getD 1 D0)) x3).getD 0 D0))))) || (tB (decide (1 <= ((gAt (Rf.dlst (x0.getD 1 D0)) x3).length : Int))))) = true /\
 ((!(tB ((Rf.dstr ((gAt (Rf.dlst (x0.getD 1 D0)) x3).getD 0 D0)) == (Rf.dstr ((gAt (Rf.dlst (x1.getD 1 D0)) x3).getD 0 D0))))) || (Rf.isK .str ((gAt (Rf.dlst (x0.getD 1 D0)) x3).getD 1 D0))) = true /\
 ((!(tB ((Rf.dstr ((gAt (Rf.dlst (x0.getD 1 D0)) x3).getD 0 D0)) == (Rf.dstr ((gAt (Rf.dlst (x1.getD 1 D0)) x3).getD 0 D0))))) || (tB (decide (1 <= ((gAt (Rf.dlst (x1.getD 1 D0)) x3).length : Int))))) = true /\
 ((!(tB ((Rf.dstr ((gAt (Rf.dlst (x0.getD 1 D0)) x3).getD 0 D0)) == (Rf.dstr ((gAt (Rf.dlst (x1.getD 1 D0)) x3).getD 0 D0))))) || (Rf.isK .str ((gAt (Rf.dlst (x1.getD 1 D0)) x3).getD 1 D0))) = true /\
 (((!(tB ((Rf.dstr ((gAt (Rf.dlst (x0.getD 1 D0)) x3).getD 0 D0)) == (Rf.dstr ((gAt (Rf.dlst (x1.getD 1 D0)) x3).getD 0 D0))))) || (!(tB ((Rf.dstr ((gAt (Rf.dlst (x0.getD 1 D0)) x3).getD 1 D0)) == (Rf.dstr ((gAt (Rf.dlst (x1.getD 1 D0)) x3).getD 1 D0)))))) = true ->
 R (.ret (A.d (D.lit (.bool false)))) []) /\
 (((!(tB ((Rf.dstr ((gAt (Rf.dlst (x0.getD 1 D0)) x3).getD 0 D0)) == (Rf.dstr ((gAt (Rf.dlst (x1.getD 1 D0)) x3).getD 0 D0))))) || (!(tB ((Rf.dstr ((gAt (Rf.dlst (x0.getD 1 D0)) x3).getD 1 D0)) == (Rf.dstr ((gAt (Rf.dlst (x1.getD 1 D0)) x3).getD 1 D0)))))) = false ->
 tB (decide ((-9223372036854775808) <= (x3 + 1))) = true /\
 tB (decide ((x3 + 1) <= 9223372036854775807)) = true /\
 I0_0 (x3 + 1) /\ M0_0 (x3 + 1) < M0_0 x3)) /\
 (tB (decide (x3 < ((Rf.dlst (x0.getD 1 D0)).length : Int))) = false ->
 Rf.isK .slc (x0.getD 2 D0) = true /\
 Rf.isK .slc (x1.getD 2 D0) = true /\
 ∀ _ : Nat -> Nat, ∃ R', Holds Tryz.prog 66 [A.d (D.slc (Rf.dlst (x0.getD 2 D0))), A.d (D.slc (Rf.dlst (x1.getD 2 D0)))] [] R' /\
 (∀ v H', R' (.ret v) H' -> ∃ x4 : Bool, v = A.d (D.lit (.bool x4)) /\ H' = [] /\
 R (.ret (A.d (D.lit (.bool x4)))) []) /\
 PN R R')) /\
 True)) /\
 PN R R') /\
 ((!((!(tB ((Rf.dstr (x0.getD 0 D0)) == (Rf.dstr (x1.getD 0 D0))))) || (!(tB (((Rf.dlst (x0.getD 1 D0)).length : Int) == ((Rf.dlst (x1.getD 1 D0)).length : Int)))))) = false ->
 R (.ret (A.d (D.lit (.bool false)))) [])) :
 Holds Tryz.prog 20 [A.agg x0, A.agg x1] [] R :=
 walk (c := ⟨Tryz.prog, 68, true, [0, 1, 2, 3, 4, 5, 27, 30, 31, 32, 61]⟩) (op := { com := [(8, (32, 5000)), (8, (5, 5000)), (8, (61, 5000)), (8, (4, 5000))] }) (fn := Tryz.f20) (args := [.agg (.var 0), .agg (.var 1)]) (K := []) (nv := 2) (depth := 7) (up := upOf []) (ρ := Zec [.r x0, .r x1])
  rfl rfl rfl rfl rfl (by decide) (by decide) (by decide) (by decide) rfl (by simp [Zab, RRef.den, upOf]) (T_of (by kernel_rfl) h)
theorem w22 {R : RT} (x0 : List D) (x1 : List D) (h : tB ((x0.length : Int) == 9) = true /\
 tB ((x1.length : Int) == 9) = true /\
 Rf.isK (.int .i64) (x0.getD 0 D0) = true /\
 Rf.isK (.int .i64) (x1.getD 0 D0) = true /\
 ((!(tB ((Rf.dint (x0.getD 0 D0)) == (Rf.dint (x1.getD 0 D0))))) || (Rf.isK .str (x0.getD 1 D0))) = true /\
 ((!(tB ((Rf.dint (x0.getD 0 D0)) == (Rf.dint (x1.getD 0 D0))))) || (Rf.isK .str (x1.getD 1 D0))) = true /\
 (((!(tB ((Rf.dint (x0.getD 0 D0)) == (Rf.dint (x1.getD 0 D0))))) || (!(tB ((Rf.dstr (x0.getD 1 D0)) == (Rf.dstr (x1.getD 1 D0)))))) || (Rf.isK (.int .i64) (x0.getD 2 D0))) = true /\
 (((!(tB ((Rf.dint (x0.getD 0 D0)) == (Rf.dint (x1.getD 0 D0))))) || (!(tB ((Rf.dstr (x0.getD 1 D0)) == (Rf.dstr (x1.getD 1 D0)))))) || (Rf.isK (.int .i64) (x1.getD 2 D0))) = true /\
 ((((!(tB ((Rf.dint (x0.getD 0 D0)) == (Rf.dint (x1.getD 0 D0))))) || (!(tB ((Rf.dstr (x0.getD 1 D0)) == (Rf.dstr (x1.getD 1 D0)))))) || (!(tB ((Rf.dint (x0.getD 2 D0)) == (Rf.dint (x1.getD 2 D0)))))) || (Rf.isK .str (x0.getD 3 D0))) = true /\
 ((((!(tB ((Rf.dint (x0.getD 0 D0)) == (Rf.dint (x1.getD 0 D0))))) || (!(tB ((Rf.dstr (x0.getD 1 D0)) == (Rf.dstr (x1.getD 1 D0)))))) || (!(tB ((Rf.dint (x0.getD 2 D0)) == (Rf.dint (x1.getD 2 D0)))))) || (Rf.isK .str (x1.getD 3 D0))) = true /\
 ((((!(tB ((Rf.dint (x0.getD 0 D0)) == (Rf.dint (x1.getD 0 D0))))) || (!(tB ((Rf.dstr (x0.getD 1 D0)) == (Rf.dstr (x1.getD 1 D0)))))) || (!(tB ((Rf.dint (x0.getD 2 D0)) == (Rf.dint (x1.getD 2 D0)))))) || (Rf.isK .str (x0.getD 4 D0))) = true /\
 ((((!(tB ((Rf.dint (x0.getD 0 D0)) == (Rf.dint (x1.getD 0 D0))))) || (!(tB ((Rf.dstr (x0.getD 1 D0)) == (Rf.dstr (x1.getD 1 D0)))))) || (!(tB ((Rf.dint (x0.getD 2 D0)) == (Rf.dint (x1.getD 2 D0)))))) || (Rf.isK .str (x1.getD 4 D0))) = true /\
 (((((!(tB ((Rf.dint (x0.getD 0 D0)) == (Rf.dint (x1.getD 0 D0))))) || (!(tB ((Rf.dstr (x0.getD 1 D0)) == (Rf.dstr (x1.getD 1 D0)))))) || (!(tB ((Rf.dint (x0.getD 2 D0)) == (Rf.dint (x1.getD 2 D0)))))) || (!((tB ((Rf.dstr (x0.getD 3 D0)) == (Rf.dstr (x1.getD 3 D0)))) && (tB ((Rf.dstr (x0.getD 4 D0)) == (Rf.dstr (x1.getD 4 D0))))))) || (Rf.isK .slc (x0.getD 5 D0))) = true /\
 (((((!(tB ((Rf.dint (x0.getD 0 D0)) == (Rf.dint (x1.getD 0 D0))))) || (!(tB ((Rf.dstr (x0.getD 1 D0)) == (Rf.dstr (x1.getD 1 D0)))))) || (!(tB ((Rf.dint (x0.getD 2 D0)) == (Rf.dint (x1.getD 2 D0)))))) || (!((tB ((Rf.dstr (x0.getD 3 D0)) == (Rf.dstr (x1.getD 3 D0)))) && (tB ((Rf.dstr (x0.getD 4 D0)) == (Rf.dstr (x1.getD 4 D0))))))) || (Rf.isK .slc (x1.getD 5 D0))) = true /\
 ((((((!(tB ((Rf.dint (x0.getD 0 D0)) == (Rf.dint (x1.getD 0 D0))))) || (!(tB ((Rf.dstr (x0.getD 1 D0)) == (Rf.dstr (x1.getD 1 D0)))))) || (!(tB ((Rf.dint (x0.getD 2 D0)) == (Rf.dint (x1.getD 2 D0)))))) || (!((tB ((Rf.dstr (x0.getD 3 D0)) == (Rf.dstr (x1.getD 3 D0)))) && (tB ((Rf.dstr (x0.getD 4 D0)) == (Rf.dstr (x1.getD 4 D0))))))) || (!(tB (((Rf.dlst (x0.getD 5 D0)).length : Int) == ((Rf.dlst (x1.getD 5 D0)).length : Int))))) || (Rf.isK .slc (x0.getD 7 D0))) = true /\
 ((((((!(tB ((Rf.dint (x0.getD 0 D0)) == (Rf.dint (x1.getD 0 D0))))) || (!(tB ((Rf.dstr (x0.getD 1 D0)) == (Rf.dstr (x1.getD 1 D0)))))) || (!(tB ((Rf.dint (x0.getD 2 D0)) == (Rf.dint (x1.getD 2 D0)))))) || (!((tB ((Rf.dstr (x0.getD 3 D0)) == (Rf.dstr (x1.getD 3 D0)))) && (tB ((Rf.dstr (x0.getD 4 D0)) == (Rf.dstr (x1.getD 4 D0))))))) || (!(tB (((Rf.dlst (x0.getD 5 D0)).length : Int) == ((Rf.dlst (x1.getD 5 D0)).length : Int))))) || (Rf.isK .slc (x1.getD 7 D0))) = true /\
 ((!(((((!(tB ((Rf.dint (x0.getD 0 D0)) == (Rf.dint (x1.getD 0 D0))))) || (!(tB ((Rf.dstr (x0.getD 1 D0)) == (Rf.dstr (x1.getD 1 D0)))))) || (!(tB ((Rf.dint (x0.getD 2 D0)) == (Rf.dint (x1.getD 2 D0)))))) || (!((tB ((Rf.dstr (x0.getD 3 D0)) == (Rf.dstr (x1.getD 3 D0)))) && (tB ((Rf.dstr (x0.getD 4 D0)) == (Rf.dstr (x1.getD 4 D0))))))) || (!(tB (((Rf.dlst (x0.getD 5 D0)).length : Int) == ((Rf.dlst (x1.getD 5 D0)).length : Int)))))) = true ->
 ∀ _ : Nat -> Nat, ∃ R', Holds Tryz.prog 23 [A.d (D.slc (Rf.dlst (x0.getD 7 D0))), A.d (D.slc (Rf.dlst (x1.getD 7 D0)))] [] R' /\
 (∀ v H', R' (.ret v) H' -> ∃ x2 : Bool, v = A.d (D.lit (.bool x2)) /\ H' = [] /\
 ((!x2) = true ->
 R (.ret (A.d (D.lit (.bool false)))) []) /\
 ((!x2) = false ->
 Rf.isK .slc (x0.getD 5 D0) = true /\
 ∃ (I0_0 : Int -> Prop) (M0_0 : Int -> Nat), I0_0 0 /\
 (∀ (x3 : Int) , I0_0 x3 ->
 (tB (decide (x3 < ((Rf.dlst (x0.getD 5 D0)).length : Int))) = true ->
 tB (decide (0 <= x3)) = true /\
 tB (((gAt (Rf.dlst (x0.getD 5 D0)) x3).length : Int) == 9) = true /\
 Rf.isK .slc (x1.getD 5 D0) = true /\
 tB (decide (x3 < ((Rf.dlst (x1.getD 5 D0)).length : Int))) = true /\
 tB (((gAt (Rf.dlst (x1.getD 5 D0)) x3).length : Int) == 9) = true /\
 ∀ _ : Nat -> Nat, ∃ R', Holds Tryz.prog 22 [A.agg (gAt (Rf.dlst (x0.getD 5 D0)) x3), A.agg (gAt (Rf.dlst (x1.getD 5 D0)) x3)] [] R' /\
 (∀ v H', R' (.ret v) H' -> ∃ x4 : Bool, v = A.d (D.lit (.bool x4)) /\ H' = [] /\
 ((!x4) = true ->
 R (.ret (A.d (D.lit (.bool false)))) []) /\
 ((!x4) = false ->
 tB (decide ((-9223372036854775808) <= (x3 + 1))) = true /\
 tB (decide ((x3 + 1) <= 9223372036854775807)) = true /\
 I0_0 (x3 + 1) /\ M0_0 (x3 + 1) < M0_0 x3)) /\
 PN R R') /\
 (tB (decide (x3 < ((Rf.dlst (x0.getD 5 D0)).length : Int))) = false ->
 Rf.isK .slc (x0.getD 6 D0) = true /\
 Rf.isK .slc (x1.getD 6 D0) = true /\
 ∀ _ : Nat -> Nat, ∃ R', Holds Tryz.prog 66 [A.d (D.slc (Rf.dlst (x0.getD 6 D0))), A.d (D.slc (Rf.dlst (x1.getD 6 D0)))] [] R' /\
 (∀ v H', R' (.ret v) H' -> ∃ x4 : Bool, v = A.d (D.lit (.bool x4)) /\ H' = [] /\
 R (.ret (A.d (D.lit (.bool x4)))) []) /\
 PN R R')) /\
 True)) /\
 PN R R') /\
 ((!(((((!(tB ((Rf.dint (x0.getD 0 D0)) == (Rf.dint (x1.getD 0 D0))))) || (!(tB ((Rf.dstr (x0.getD 1 D0)) == (Rf.dstr (x1.getD 1 D0)))))) || (!(tB ((Rf.dint (x0.getD 2 D0)) == (Rf.dint (x1.getD 2 D0)))))) || (!((tB ((Rf.dstr (x0.getD 3 D0)) == (Rf.dstr (x1.getD 3 D0)))) && (tB ((Rf.dstr (x0.getD 4 D0)) == (Rf.dstr (x1.getD 4 D0))))))) || (!(tB (((Rf.dlst (x0.getD 5 D0)).length : Int) == ((Rf.dlst (x1.getD 5 D0)).length : Int)))))) = false ->
 R (.ret (A.d (D.lit (.bool false)))) [])) :
 Holds Tryz.prog 22 [A.agg x0, A.agg x1] [] R :=
 walk (c := ⟨Tryz.prog, 73, true, [0, 1, 2, 3, 4, 5, 48, 51, 52, 53, 66]⟩) (op := { com := [(8, (53, 5000)), (8, (5, 5000)), (8, (66, 5000)), (8, (4, 5000))] }) (fn := Tryz.f22) (args := [.agg (.var 0), .agg (.var 1)]) (K := []) (nv := 2) (depth := 7) (up := upOf []) (ρ := Zec [.r x0, .r x1])
  rfl rfl rfl rfl rfl (by decide) (by decide) (by decide) (by decide) rfl (by simp [Zab, RRef.den, upOf]) (T_of (by kernel_rfl) h)
theorem w66 {R : RT} (x0 : List (List D)) (x1 : List (List D)) (h : ((!(tB ((x0.length : Int) == (x1.length : Int)))) = true ->
 R (.ret (A.d (D.lit (.bool false)))) []) /\
 ((!(tB ((x0.length : Int) == (x1.length : Int)))) = false ->
 ∃ (I0_0 : Int -> Prop) (M0_0 : Int -> Nat), I0_0 0 /\
 (∀ (x2 : Int) , I0_0 x2 ->
 (tB (decide (x2 < (x0.length : Int))) = true ->
 tB (decide (0 <= x2)) = true /\
 tB (decide (x2 < (x1.length : Int))) = true /\
 tB (((gAt x1 x2).length : Int) == 11) = true /\
 tB (((gAt x0 x2).length : Int) == 11) = true /\
 Rf.isK (.int .i64) ((gAt x0 x2).getD 0 D0) = true /\
 Rf.isK (.int .i64) ((gAt x1 x2).getD 0 D0) = true /\
 ((!(tB ((Rf.dint ((gAt x0 x2).getD 0 D0)) == (Rf.dint ((gAt x1 x2).getD 0 D0))))) || (Rf.isK (.int .i64) ((gAt x0 x2).getD 1 D0))) = true /\
 ((!(tB ((Rf.dint ((gAt x0 x2).getD 0 D0)) == (Rf.dint ((gAt x1 x2).getD 0 D0))))) || (Rf.isK (.int .i64) ((gAt x1 x2).getD 1 D0))) = true /\
 (((!(tB ((Rf.dint ((gAt x0 x2).getD 0 D0)) == (Rf.dint ((gAt x1 x2).getD 0 D0))))) || (!(tB ((Rf.dint ((gAt x0 x2).getD 1 D0)) == (Rf.dint ((gAt x1 x2).getD 1 D0)))))) || (Rf.isK .str ((gAt x0 x2).getD 2 D0))) = true /\
 (((!(tB ((Rf.dint ((gAt x0 x2).getD 0 D0)) == (Rf.dint ((gAt x1 x2).getD 0 D0))))) || (!(tB ((Rf.dint ((gAt x0 x2).getD 1 D0)) == (Rf.dint ((gAt x1 x2).getD 1 D0)))))) || (Rf.isK .str ((gAt x1 x2).getD 2 D0))) = true /\
 ((((!(tB ((Rf.dint ((gAt x0 x2).getD 0 D0)) == (Rf.dint ((gAt x1 x2).getD 0 D0))))) || (!(tB ((Rf.dint ((gAt x0 x2).getD 1 D0)) == (Rf.dint ((gAt x1 x2).getD 1 D0)))))) || (!(tB ((Rf.dstr ((gAt x0 x2).getD 2 D0)) == (Rf.dstr ((gAt x1 x2).getD 2 D0)))))) || (Rf.isK .str ((gAt x0 x2).getD 3 D0))) = true /\
 ((((!(tB ((Rf.dint ((gAt x0 x2).getD 0 D0)) == (Rf.dint ((gAt x1 x2).getD 0 D0))))) || (!(tB ((Rf.dint ((gAt x0 x2).getD 1 D0)) == (Rf.dint ((gAt x1 x2).getD 1 D0)))))) || (!(tB ((Rf.dstr ((gAt x0 x2).getD 2 D0)) == (Rf.dstr ((gAt x1 x2).getD 2 D0)))))) || (Rf.isK .str ((gAt x1 x2).getD 3 D0))) = true /\
 ((((!(tB ((Rf.dint ((gAt x0 x2).getD 0 D0)) == (Rf.dint ((gAt x1 x2).getD 0 D0))))) || (!(tB ((Rf.dint ((gAt x0 x2).getD 1 D0)) == (Rf.dint ((gAt x1 x2).getD 1 D0)))))) || (!(tB ((Rf.dstr ((gAt x0 x2).getD 2 D0)) == (Rf.dstr ((gAt x1 x2).getD 2 D0)))))) || (Rf.isK .str ((gAt x0 x2).getD 4 D0))) = true /\
 ((((!(tB ((Rf.dint ((gAt x0 x2).getD 0 D0)) == (Rf.dint ((gAt x1 x2).getD 0 D0))))) || (!(tB ((Rf.dint ((gAt x0 x2).getD 1 D0)) == (Rf.dint ((gAt x1 x2).getD 1 D0)))))) || (!(tB ((Rf.dstr ((gAt x0 x2).getD 2 D0)) == (Rf.dstr ((gAt x1 x2).getD 2 D0)))))) || (Rf.isK .str ((gAt x1 x2).getD 4 D0))) = true /\
 (((((!(tB ((Rf.dint ((gAt x0 x2).getD 0 D0)) == (Rf.dint ((gAt x1 x2).getD 0 D0))))) || (!(tB ((Rf.dint ((gAt x0 x2).getD 1 D0)) == (Rf.dint ((gAt x1 x2).getD 1 D0)))))) || (!(tB ((Rf.dstr ((gAt x0 x2).getD 2 D0)) == (Rf.dstr ((gAt x1 x2).getD 2 D0)))))) || (!((tB ((Rf.dstr ((gAt x0 x2).getD 3 D0)) == (Rf.dstr ((gAt x1 x2).getD 3 D0)))) && (tB ((Rf.dstr ((gAt x0 x2).getD 4 D0)) == (Rf.dstr ((gAt x1 x2).getD 4 D0))))))) || (Rf.isK .str ((gAt x0 x2).getD 9 D0))) = true /\
 (((((!(tB ((Rf.dint ((gAt x0 x2).getD 0 D0)) == (Rf.dint ((gAt x1 x2).getD 0 D0))))) || (!(tB ((Rf.dint ((gAt x0 x2).getD 1 D0)) == (Rf.dint ((gAt x1 x2).getD 1 D0)))))) || (!(tB ((Rf.dstr ((gAt x0 x2).getD 2 D0)) == (Rf.dstr ((gAt x1 x2).getD 2 D0)))))) || (!((tB ((Rf.dstr ((gAt x0 x2).getD 3 D0)) == (Rf.dstr ((gAt x1 x2).getD 3 D0)))) && (tB ((Rf.dstr ((gAt x0 x2).getD 4 D0)) == (Rf.dstr ((gAt x1 x2).getD 4 D0))))))) || (Rf.isK .str ((gAt x1 x2).getD 9 D0))) = true /\
 ((((((!(tB ((Rf.dint ((gAt x0 x2).getD 0 D0)) == (Rf.dint ((gAt x1 x2).getD 0 D0))))) || (!(tB ((Rf.dint ((gAt x0 x2).getD 1 D0)) == (Rf.dint ((gAt x1 x2).getD 1 D0)))))) || (!(tB ((Rf.dstr ((gAt x0 x2).getD 2 D0)) == (Rf.dstr ((gAt x1 x2).getD 2 D0)))))) || (!((tB ((Rf.dstr ((gAt x0 x2).getD 3 D0)) == (Rf.dstr ((gAt x1 x2).getD 3 D0)))) && (tB ((Rf.dstr ((gAt x0 x2).getD 4 D0)) == (Rf.dstr ((gAt x1 x2).getD 4 D0))))))) || (!(tB ((Rf.dstr ((gAt x0 x2).getD 9 D0)) == (Rf.dstr ((gAt x1 x2).getD 9 D0)))))) || (Rf.isK .slc ((gAt x0 x2).getD 5 D0))) = true /\
 ((((((!(tB ((Rf.dint ((gAt x0 x2).getD 0 D0)) == (Rf.dint ((gAt x1 x2).getD 0 D0))))) || (!(tB ((Rf.dint ((gAt x0 x2).getD 1 D0)) == (Rf.dint ((gAt x1 x2).getD 1 D0)))))) || (!(tB ((Rf.dstr ((gAt x0 x2).getD 2 D0)) == (Rf.dstr ((gAt x1 x2).getD 2 D0)))))) || (!((tB ((Rf.dstr ((gAt x0 x2).getD 3 D0)) == (Rf.dstr ((gAt x1 x2).getD 3 D0)))) && (tB ((Rf.dstr ((gAt x0 x2).getD 4 D0)) == (Rf.dstr ((gAt x1 x2).getD 4 D0))))))) || (!(tB ((Rf.dstr ((gAt x0 x2).getD 9 D0)) == (Rf.dstr ((gAt x1 x2).getD 9 D0)))))) || (Rf.isK .slc ((gAt x1 x2).getD 5 D0))) = true /\
 (((((((!(tB ((Rf.dint ((gAt x0 x2).getD 0 D0)) == (Rf.dint ((gAt x1 x2).getD 0 D0))))) || (!(tB ((Rf.dint ((gAt x0 x2).getD 1 D0)) == (Rf.dint ((gAt x1 x2).getD 1 D0)))))) || (!(tB ((Rf.dstr ((gAt x0 x2).getD 2 D0)) == (Rf.dstr ((gAt x1 x2).getD 2 D0)))))) || (!((tB ((Rf.dstr ((gAt x0 x2).getD 3 D0)) == (Rf.dstr ((gAt x1 x2).getD 3 D0)))) && (tB ((Rf.dstr ((gAt x0 x2).getD 4 D0)) == (Rf.dstr ((gAt x1 x2).getD 4 D0))))))) || (!(tB ((Rf.dstr ((gAt x0 x2).getD 9 D0)) == (Rf.dstr ((gAt x1 x2).getD 9 D0)))))) || (!(tB (((Rf.dlst ((gAt x0 x2).getD 5 D0)).length : Int) == ((Rf.dlst ((gAt x1 x2).getD 5 D0)).length : Int))))) = true ->
 R (.ret (A.d (D.lit (.bool false)))) []) /\
 (((((((!(tB ((Rf.dint ((gAt x0 x2).getD 0 D0)) == (Rf.dint ((gAt x1 x2).getD 0 D0))))) || (!(tB ((Rf.dint ((gAt x0 x2).getD 1 D0)) == (Rf.dint ((gAt x1 x2).getD 1 D0)))))) || (!(tB ((Rf.dstr ((gAt x0 x2).getD 2 D0)) == (Rf.dstr ((gAt x1 x2).getD 2 D0)))))) || (!((tB ((Rf.dstr ((gAt x0 x2).getD 3 D0)) == (Rf.dstr ((gAt x1 x2).getD 3 D0)))) && (tB ((Rf.dstr ((gAt x0 x2).getD 4 D0)) == (Rf.dstr ((gAt x1 x2).getD 4 D0))))))) || (!(tB ((Rf.dstr ((gAt x0 x2).getD 9 D0)) == (Rf.dstr ((gAt x1 x2).getD 9 D0)))))) || (!(tB (((Rf.dlst ((gAt x0 x2).getD 5 D0)).length : Int) == ((Rf.dlst ((gAt x1 x2).getD 5 D0)).length : Int))))) = false ->
 Rf.isK .slc ((gAt x0 x2).getD 8 D0) = true /\
 Rf.isK .slc ((gAt x1 x2).getD 8 D0) = true /\
 ∀ _ : Nat -> Nat, ∃ R', Holds Tryz.prog 23 [A.d (D.slc (Rf.dlst ((gAt x0 x2).getD 8 D0))), A.d (D.slc (Rf.dlst ((gAt x1 x2).getD 8 D0)))] [] R' /\
 (∀ v H', R' (.ret v) H' -> ∃ x3 : Bool, v = A.d (D.lit (.bool x3)) /\ H' = [] /\
 ((!x3) || (Rf.isK .slc ((gAt x0 x2).getD 7 D0))) = true /\
 ((!x3) || (Rf.isK .slc ((gAt x1 x2).getD 7 D0))) = true /\
 (x3 = true ->
 ∀ _ : Nat -> Nat, ∃ R', Holds Tryz.prog 23 [A.d (D.slc (Rf.dlst ((gAt x0 x2).getD 7 D0))), A.d (D.slc (Rf.dlst ((gAt x1 x2).getD 7 D0)))] [] R' /\
 (∀ v H', R' (.ret v) H' -> ∃ x4 : Bool, v = A.d (D.lit (.bool x4)) /\ H' = [] /\
 ((!x4) || (Rf.isK .slc ((gAt x0 x2).getD 6 D0))) = true /\
 ((!x4) || (Rf.isK .slc ((gAt x1 x2).getD 6 D0))) = true /\
 (x4 = true ->
 ∀ _ : Nat -> Nat, ∃ R', Holds Tryz.prog 66 [A.d (D.slc (Rf.dlst ((gAt x0 x2).getD 6 D0))), A.d (D.slc (Rf.dlst ((gAt x1 x2).getD 6 D0)))] [] R' /\
 (∀ v H', R' (.ret v) H' -> ∃ x5 : Bool, v = A.d (D.lit (.bool x5)) /\ H' = [] /\
 ((!x5) = true ->
 R (.ret (A.d (D.lit (.bool false)))) []) /\
 ((!x5) = false ->
 Rf.isK .slc ((gAt x0 x2).getD 5 D0) = true /\
 ∃ (I1_0 : Int -> Prop) (M1_0 : Int -> Nat), I1_0 0 /\
 (∀ (x6 : Int) , I1_0 x6 ->
 (tB (decide (x6 < ((Rf.dlst ((gAt x0 x2).getD 5 D0)).length : Int))) = true ->
 tB (decide (0 <= x6)) = true /\
 tB (((gAt (Rf.dlst ((gAt x0 x2).getD 5 D0)) x6).length : Int) == 9) = true /\
 Rf.isK .slc ((gAt x1 x2).getD 5 D0) = true /\
 tB (decide (x6 < ((Rf.dlst ((gAt x1 x2).getD 5 D0)).length : Int))) = true /\
 tB (((gAt (Rf.dlst ((gAt x1 x2).getD 5 D0)) x6).length : Int) == 9) = true /\
 ∀ _ : Nat -> Nat, ∃ R', Holds Tryz.prog 22 [A.agg (gAt (Rf.dlst ((gAt x0 x2).getD 5 D0)) x6), A.agg (gAt (Rf.dlst ((gAt x1 x2).getD 5 D0)) x6)] [] R' /\
 (∀ v H', R' (.ret v) H' -> ∃ x7 : Bool, v = A.d (D.lit (.bool x7)) /\ H' = [] /\
 ((!x7) = true ->
 R (.ret (A.d (D.lit (.bool false)))) []) /\
 ((!x7) = false ->
 tB (decide ((-9223372036854775808) <= (x6 + 1))) = true /\
 tB (decide ((x6 + 1) <= 9223372036854775807)) = true /\
 I1_0 (x6 + 1) /\ M1_0 (x6 + 1) < M1_0 x6)) /\
 PN R R') /\
 (tB (decide (x6 < ((Rf.dlst ((gAt x0 x2).getD 5 D0)).length : Int))) = false ->
 tB (decide ((-9223372036854775808) <= (x2 + 1))) = true /\
 tB (decide ((x2 + 1) <= 9223372036854775807)) = true /\
 I0_0 (x2 + 1) /\ M0_0 (x2 + 1) < M0_0 x2)) /\
 True)) /\
 PN R R') /\
 (x4 = false ->
 R (.ret (A.d (D.lit (.bool false)))) [])) /\
 PN R R') /\
 (x3 = false ->
 R (.ret (A.d (D.lit (.bool false)))) [])) /\
 PN R R')) /\
 (tB (decide (x2 < (x0.length : Int))) = false ->
 R (.ret (A.d (D.lit (.bool true)))) [])) /\
 True)) :
 Holds Tryz.prog 66 [A.d (D.slc x0), A.d (D.slc x1)] [] R :=
 walk (c := ⟨Tryz.prog, 111, true, [0, 1, 4, 5, 6, 7, 8, 13, 15, 16, 17, 68, 90, 93, 94, 95, 108]⟩) (op := { lat := [6], com := [(17, (17, 5000)), (17, (5, 5000)), (17, (6, 5000)), (17, (7, 5000)), (17, (68, 5000)), (17, (4, 5000)), (17, (90, 5000)), (17, (93, 5000)), (17, (94, 5000)), (17, (95, 5000)), (17, (8, 5000)), (17, (108, 5000)), (16, (95, 5000)), (16, (8, 5000)), (16, (108, 5000)), (16, (4, 5000))] }) (fn := Tryz.f66) (args := [.c (.o1 .cl (.var 0)), .c (.o1 .cl (.var 1))]) (K := []) (nv := 2) (depth := 7) (up := upOf []) (ρ := Zec [.l x0, .l x1])
  rfl rfl rfl rfl rfl (by decide) (by decide) (by decide) (by decide) rfl (by simp [Zab, RRef.den, upOf]) (T_of (by kernel_rfl) h)
end Go.Sy
end
section
open Go Go.Proofs Go.Ab Go.Rf
set_option maxRecDepth 1000000
set_option maxHeartbeats 2000000
set_option linter.unusedVariables false
namespace Go.Sy
end Go.Sy
end
section
open Go Go.Proofs Go.Ab Go.Rf
set_option maxRecDepth 1000000
set_option maxHeartbeats 2000000
set_option linter.unusedVariables false
namespace Go.Sy
theorem w3 {R : RT} (x0 : List D) (h : tB ((x0.length : Int) == 4) = true /\
 ∀ _ : Nat -> Nat, ∃ R', Holds Tryz.prog 12 [A.agg x0] [] R' /\
 (∀ v H', R' (.ret v) H' -> ∃ x1 : Bool, v = A.d (D.lit (.bool x1)) /\ H' = [] /\
 ((!x1) = true ->
 ∀ _ : Nat -> Nat, ∃ R', Holds Tryz.prog 13 [] [] R' /\
 (∀ v H', R' (.ret v) H' -> ∃ x2 : Bool, v = A.d (D.lit (.bool x2)) /\ H' = [] /\
 R (.ret (A.d (D.lit (.bool x2)))) []) /\
 PN R R') /\
 ((!x1) = false ->
 ∃ x2 : Int, (∀ _ : Nat -> Nat, Holds Tryz.prog 14 [A.agg x0] [] (Zgw [] (A.d (D.lit (.int .i64 x2))))) /\
 ∀ _ : Nat -> Nat, ∃ R', Holds Tryz.prog 15 [A.agg x0] [] R' /\
 (∀ v H', R' (.ret v) H' -> ∃ x3 : Int, v = A.d (D.lit (.int .i64 x3)) /\ H' = [] /\
 (tB (x2 == x3) = true ->
 ∀ _ : Nat -> Nat, ∃ R', Holds Tryz.prog 13 [] [] R' /\
 (∀ v H', R' (.ret v) H' -> ∃ x4 : Bool, v = A.d (D.lit (.bool x4)) /\ H' = [] /\
 R (.ret (A.d (D.lit (.bool x4)))) []) /\
 PN R R') /\
 (tB (x2 == x3) = false ->
 R (.ret (A.d (D.lit (.bool false)))) [])) /\
 PN R R')) /\
 PN R R') :
 Holds Tryz.prog 3 [A.agg x0] [] R :=
 walk (c := ⟨Tryz.prog, 15, true, [0, 1, 2, 5]⟩) (op := {}) (fn := Tryz.f3) (args := [.agg (.var 0)]) (K := []) (nv := 1) (depth := 4) (up := upOf []) (ρ := Zec [.r x0])
  rfl rfl rfl rfl rfl (by decide) (by decide) (by decide) (by decide) rfl (by simp [Zab, RRef.den, upOf]) (T_of (by kernel_rfl) h)
theorem w5 {R : RT} (x0 : List D) (x1 : List D) (x2 : List D) (h : tB ((x0.length : Int) == 4) = true /\
 tB ((x1.length : Int) == 4) = true /\
 tB ((x2.length : Int) == 18) = true /\
 ∀ _ : Nat -> Nat, ∃ R', Holds Tryz.prog 12 [A.agg x0] [] R' /\
 (∀ v H', R' (.ret v) H' -> ∃ x3 : Bool, v = A.d (D.lit (.bool x3)) /\ H' = [] /\
 (x3 = true ->
 ∀ _ : Nat -> Nat, ∃ R', Holds Tryz.prog 12 [A.agg x1] [] R' /\
 (∀ v H', R' (.ret v) H' -> ∃ x4 : Bool, v = A.d (D.lit (.bool x4)) /\ H' = [] /\
 (x4 = true ->
 ∀ _ : Nat -> Nat, ∃ R', Holds Tryz.prog 16 [A.agg [x2.getD 0 D0, x2.getD 1 D0, x2.getD 2 D0, x2.getD 3 D0, x2.getD 4 D0, x2.getD 5 D0, x2.getD 6 D0, x2.getD 7 D0, x2.getD 8 D0]] [] R' /\
 (∀ v H', R' (.ret v) H' -> ∃ x5 : Bool, v = A.d (D.lit (.bool x5)) /\ H' = [] /\
 (x5 = true ->
 ∀ _ : Nat -> Nat, ∃ R', Holds Tryz.prog 16 [A.agg [x2.getD 9 D0, x2.getD 10 D0, x2.getD 11 D0, x2.getD 12 D0, x2.getD 13 D0, x2.getD 14 D0, x2.getD 15 D0, x2.getD 16 D0, x2.getD 17 D0]] [] R' /\
 (∀ v H', R' (.ret v) H' -> ∃ x6 : Bool, v = A.d (D.lit (.bool x6)) /\ H' = [] /\
 ((!x6) = true ->
 ∀ _ : Nat -> Nat, ∃ R', Holds Tryz.prog 13 [] [] R' /\
 (∀ v H', R' (.ret v) H' -> ∃ x7 : Bool, v = A.d (D.lit (.bool x7)) /\ H' = [] /\
 R (.ret (A.d (D.lit (.bool x7)))) []) /\
 PN R R') /\
 ((!x6) = false ->
 ∃ x7 : Bool, (∀ _ : Nat -> Nat, Holds Tryz.prog 19 [A.agg x0, A.agg x1] [] (Zgw [] (A.d (D.lit (.bool x7))))) /\
 ∃ x8 : Bool, (∀ _ : Nat -> Nat, Holds Tryz.prog 20 [A.agg x0, A.agg x1] [] (Zgw [] (A.d (D.lit (.bool x8))))) /\
 ((x7 == x8) = true ->
 ∃ x9 : Bool, (∀ _ : Nat -> Nat, Holds Tryz.prog 21 [A.agg [x2.getD 0 D0, x2.getD 1 D0, x2.getD 2 D0, x2.getD 3 D0, x2.getD 4 D0, x2.getD 5 D0, x2.getD 6 D0, x2.getD 7 D0, x2.getD 8 D0], A.agg [x2.getD 9 D0, x2.getD 10 D0, x2.getD 11 D0, x2.getD 12 D0, x2.getD 13 D0, x2.getD 14 D0, x2.getD 15 D0, x2.getD 16 D0, x2.getD 17 D0]] [] (Zgw [] (A.d (D.lit (.bool x9))))) /\
 ∀ _ : Nat -> Nat, ∃ R', Holds Tryz.prog 22 [A.agg [x2.getD 0 D0, x2.getD 1 D0, x2.getD 2 D0, x2.getD 3 D0, x2.getD 4 D0, x2.getD 5 D0, x2.getD 6 D0, x2.getD 7 D0, x2.getD 8 D0], A.agg [x2.getD 9 D0, x2.getD 10 D0, x2.getD 11 D0, x2.getD 12 D0, x2.getD 13 D0, x2.getD 14 D0, x2.getD 15 D0, x2.getD 16 D0, x2.getD 17 D0]] [] R' /\
 (∀ v H', R' (.ret v) H' -> ∃ x10 : Bool, v = A.d (D.lit (.bool x10)) /\ H' = [] /\
 ((x9 == x10) = true ->
 ∀ _ : Nat -> Nat, ∃ R', Holds Tryz.prog 13 [] [] R' /\
 (∀ v H', R' (.ret v) H' -> ∃ x11 : Bool, v = A.d (D.lit (.bool x11)) /\ H' = [] /\
 R (.ret (A.d (D.lit (.bool x11)))) []) /\
 PN R R') /\
 ((x9 == x10) = false ->
 R (.ret (A.d (D.lit (.bool false)))) [])) /\
 PN R R') /\
 ((x7 == x8) = false ->
 R (.ret (A.d (D.lit (.bool false)))) []))) /\
 PN R R') /\
 (x5 = false ->
 ∀ _ : Nat -> Nat, ∃ R', Holds Tryz.prog 13 [] [] R' /\
 (∀ v H', R' (.ret v) H' -> ∃ x6 : Bool, v = A.d (D.lit (.bool x6)) /\ H' = [] /\
 R (.ret (A.d (D.lit (.bool x6)))) []) /\
 PN R R')) /\
 PN R R') /\
 (x4 = false ->
 ∀ _ : Nat -> Nat, ∃ R', Holds Tryz.prog 13 [] [] R' /\
 (∀ v H', R' (.ret v) H' -> ∃ x5 : Bool, v = A.d (D.lit (.bool x5)) /\ H' = [] /\
 R (.ret (A.d (D.lit (.bool x5)))) []) /\
 PN R R')) /\
 PN R R') /\
 (x3 = false ->
 ∀ _ : Nat -> Nat, ∃ R', Holds Tryz.prog 13 [] [] R' /\
 (∀ v H', R' (.ret v) H' -> ∃ x4 : Bool, v = A.d (D.lit (.bool x4)) /\ H' = [] /\
 R (.ret (A.d (D.lit (.bool x4)))) []) /\
 PN R R')) /\
 PN R R') :
 Holds Tryz.prog 5 [A.agg x0, A.agg x1, A.agg x2] [] R :=
 walk (c := ⟨Tryz.prog, 51, true, [0, 1, 2, 3, 4, 5, 6, 26]⟩) (op := {}) (fn := Tryz.f5) (args := [.agg (.var 0), .agg (.var 1), .agg (.var 2)]) (K := []) (nv := 3) (depth := 6) (up := upOf []) (ρ := Zec [.r x0, .r x1, .r x2])
  rfl rfl rfl rfl rfl (by decide) (by decide) (by decide) (by decide) rfl (by simp [Zab, RRef.den, upOf]) (T_of (by kernel_rfl) h)
end Go.Sy
end
