/- Proved: the given statement RegexChecksSaid, without conditions. -/
import Derived.Test.YtedalcjkolcolaaProg
import Derived.Test.YtedalcjkolcolaaRows
import Derived.WalkKit
import Derived.ProofKit
import Derived.OpenShut
import Derived.JoinedOf
import Derived.Deep.Slices
import Derived.Carry
import Derived.Test.YtedalcjkolcolaaJal
section
open Go Go.Proofs Go.Ab Go.Rf
set_option maxRecDepth 1000000
set_option maxHeartbeats 2000000
set_option linter.unusedVariables false
namespace Go.Rx
theorem w19p {Rfin : Out → Prop} (R : Out → List (Ref × List A) → Prop) (hR : R = preR Try.prog (postCode 4 (bodyOf Try.f19)) 36 36 [4, 2, 3] [0] [(2, 1), (3, 2)] [(1, 6), (2, 2)] Rfin) (x0 : List UInt8) (h : ((tB (decide ((1000 : Int) < (x0.length : Int)))) = true →
   R (.ret (A.tup [(true, ((D.lit (.int .i64 (0 : Int))) :: ((D.lit (.int .u64 (0 : Int))) :: ((D.lit (.int .u64 (0 : Int))) :: ((D.lit (.int .u64 (0 : Int))) :: ((D.lit (.int .u64 (0 : Int))) :: ((D.slc ([] : List (List D))) :: ([] : List D)))))))), (true, ((D.lit (.int .i64 (2 : Int))) :: ((D.lit (.int .i64 (0 : Int))) :: ([] : List D))))])) []) ∧
  ((tB (decide ((1000 : Int) < (x0.length : Int)))) = false →
   R (.ret (A.tup [(false, [(D.lit (bytesV x0))])])) [((Ref.own 4 0), [(A.ptr (Ref.up (Ref.own 3 3)) 0)]), ((Ref.own 2 0), [(A.d (D.lit (.int .i64 (0 : Int)))), (A.d (D.lit (.int .u64 (0 : Int)))), (A.d (D.lit (.int .u64 (0 : Int)))), (A.d (D.lit (.int .u64 (0 : Int)))), (A.d (D.lit (.int .u64 (0 : Int)))), (A.zs ([] : List (List D)))]), ((Ref.own 3 0), [(A.d (D.lit (.int .i64 (0 : Int)))), (A.d (D.lit (.int .i64 (0 : Int))))]), ((Ref.own 12 0), [(A.d (D.lit (bytesV x0))), (A.d (D.lit (.int .i64 (0 : Int))))])])) :
    Holds Try.prog 19 [A.d (D.lit (bytesV x0))] [] (fun o H => H = [] ∧ Rfin o) := by
  subst hR
  exact holds_defer (c := ⟨Try.prog, 36, true, [0, 2, 3, 4, 7, 22, 31]⟩) (op := {}) (f := 19) (F := 36) (fn := Try.f19) (Fn' := Try.f36) (Fcode := bodyOf Try.f36) (l := preCodes 4 (bodyOf Try.f19)) (id := 4) (o1 := opAt (defOps 4 (bodyOf Try.f19)) 0) (o2 := opAt (defOps 4 (bodyOf Try.f19)) 1) (post := postCode 4 (bodyOf Try.f19)) (tys := #[]) (dt := 13) (caps := [4, 2, 3]) (data := [0]) (extra := [.own 12]) (rl := [.cell 2 27, .cell 3 35]) (keep := [(2, 1), (3, 2)]) (kn := [(1, 6), (2, 2)]) (args := [.c (.o1 .cs (.var 0))]) (nv := 1) (depth := 6) (ρ := envOf [.s x0])
    rfl rfl (by kernel_rfl) rfl rfl (by decide) rfl rfl (by decide) (by kernel_rfl) (by kernel_rfl) (by kernel_rfl) (by kernel_rfl) (by kernel_rfl) (by kernel_rfl) (by decide) (by decide) (by decide) (by decide) (by decide) (by kernel_rfl) (by decide) (by decide) rfl (T_of (by kernel_rfl) h)
theorem w19q {R : Out → List (Ref × List A) → Prop} (x0 : List UInt8) (x1 : Int) (x2 : Int) (x3 : Int) (x4 : Int) (x5 : Int) (x6 : Int) (x7 : Int) (x8 : List UInt8) (x9 : Int) (q0 q1 q2 q3 : Ref) (hq01 : q0 ≠ q1) (hq02 : q0 ≠ q2) (hq12 : q1 ≠ q2) (hq03 : q0 ≠ q3) (hq13 : q1 ≠ q3) (hq23 : q2 ≠ q3) (h : ∀ _ : Nat → Nat, ∃ R' : Out → List (Ref × List A) → Prop, Holds Try.prog 37 [(A.ptr (.up (Ref.up q3)) 0)] [(Ref.up (Ref.up q3), [(A.d (D.lit (bytesV x8))), (A.d (D.lit (.int .i64 x9)))])] R' ∧
  (∀ v H', R' (.ret v) H' → ∃ x10 : List D, ∃ x11 : List UInt8, ∃ x12 : Int, v = (A.agg x10) ∧ H' = [(Ref.up (Ref.up q3), [(A.d (D.lit (bytesV x11))), (A.d (D.lit (.int .i64 x12)))])] ∧
   (tB ((x10.length : Int) == (6 : Int))) = true ∧
   ((tB (decide (x12 < (x0.length : Int)))) = true →
    ∀ _ : Nat → Nat, ∃ R' : Out → List (Ref × List A) → Prop, Holds Try.prog 38 [(A.ptr (.up (Ref.up q3)) 0), (A.d (D.lit (.int .i64 x12)))] [(Ref.up (Ref.up q3), [(A.d (D.lit (bytesV x11))), (A.d (D.lit (.int .i64 x12)))])] R' ∧
    (∀ v H', R' (.ret v) H' → ∃ x13 : List UInt8, ∃ x14 : Int, v = (A.tup []) ∧ H' = [(Ref.up (Ref.up q3), [(A.d (D.lit (bytesV x13))), (A.d (D.lit (.int .i64 x14)))])] ∧
     ∀ _ : Nat → Nat, ∃ R' : Out → List (Ref × List A) → Prop, Holds Try.prog 15 [(A.agg x10)] [] R' ∧
     (∀ v H', R' (.ret v) H' → ∃ x15 : Int, v = (A.d (D.lit (.int .i64 x15))) ∧ H' = [] ∧
      ((tB (x15 == (9 : Int))) = true →
       R (.ret (A.tup [])) [((Ref.up q0), [(A.ptr (Ref.up q3) 0)]), ((Ref.up q1), [(A.d (D.lit (.int .i64 (0 : Int)))), (A.d (D.lit (.int .u64 (0 : Int)))), (A.d (D.lit (.int .u64 (0 : Int)))), (A.d (D.lit (.int .u64 (0 : Int)))), (A.d (D.lit (.int .u64 (0 : Int)))), (A.d (D.slc ([] : List (List D))))]), ((Ref.up q2), [(A.d (D.lit (.int .i64 (9 : Int)))), (A.d (D.lit (.int .i64 (0 : Int))))]), ((Ref.up q3), [(A.d (D.lit (bytesV x13))), (A.d (D.lit (.int .i64 x14)))])]) ∧
      ((tB (x15 == (9 : Int))) = false →
       R (.ret (A.tup [])) [((Ref.up q0), [(A.ptr (Ref.up q3) 0)]), ((Ref.up q1), [(A.d (x10.getD 0 D0)), (A.d (x10.getD 1 D0)), (A.d (x10.getD 2 D0)), (A.d (x10.getD 3 D0)), (A.d (x10.getD 4 D0)), (A.d (x10.getD 5 D0))]), ((Ref.up q2), [(A.d (D.lit (.int .i64 (0 : Int)))), (A.d (D.lit (.int .i64 (0 : Int))))]), ((Ref.up q3), [(A.d (D.lit (bytesV x13))), (A.d (D.lit (.int .i64 x14)))])])) ∧
     (∀ x15v H', R' (.pan x15v) H' → H' = [] ∧
      R (.pan x15v) [((Ref.up q0), [(A.ptr (Ref.up q3) 0)]), ((Ref.up q1), [(A.d (x10.getD 0 D0)), (A.d (x10.getD 1 D0)), (A.d (x10.getD 2 D0)), (A.d (x10.getD 3 D0)), (A.d (x10.getD 4 D0)), (A.d (x10.getD 5 D0))]), ((Ref.up q2), [(A.d (D.lit (.int .i64 x6))), (A.d (D.lit (.int .i64 x7)))]), ((Ref.up q3), [(A.d (D.lit (bytesV x13))), (A.d (D.lit (.int .i64 x14)))])])) ∧
    (∀ x13v H', R' (.pan x13v) H' → ∃ x14 : List UInt8, ∃ x15 : Int, H' = [(Ref.up (Ref.up q3), [(A.d (D.lit (bytesV x14))), (A.d (D.lit (.int .i64 x15)))])] ∧
     R (.pan x13v) [((Ref.up q0), [(A.ptr (Ref.up q3) 0)]), ((Ref.up q1), [(A.d (x10.getD 0 D0)), (A.d (x10.getD 1 D0)), (A.d (x10.getD 2 D0)), (A.d (x10.getD 3 D0)), (A.d (x10.getD 4 D0)), (A.d (x10.getD 5 D0))]), ((Ref.up q2), [(A.d (D.lit (.int .i64 x6))), (A.d (D.lit (.int .i64 x7)))]), ((Ref.up q3), [(A.d (D.lit (bytesV x14))), (A.d (D.lit (.int .i64 x15)))])])) ∧
   ((tB (decide (x12 < (x0.length : Int)))) = false →
    ∀ _ : Nat → Nat, ∃ R' : Out → List (Ref × List A) → Prop, Holds Try.prog 15 [(A.agg x10)] [] R' ∧
    (∀ v H', R' (.ret v) H' → ∃ x13 : Int, v = (A.d (D.lit (.int .i64 x13))) ∧ H' = [] ∧
     ((tB (x13 == (9 : Int))) = true →
      R (.ret (A.tup [])) [((Ref.up q0), [(A.ptr (Ref.up q3) 0)]), ((Ref.up q1), [(A.d (D.lit (.int .i64 (0 : Int)))), (A.d (D.lit (.int .u64 (0 : Int)))), (A.d (D.lit (.int .u64 (0 : Int)))), (A.d (D.lit (.int .u64 (0 : Int)))), (A.d (D.lit (.int .u64 (0 : Int)))), (A.d (D.slc ([] : List (List D))))]), ((Ref.up q2), [(A.d (D.lit (.int .i64 (9 : Int)))), (A.d (D.lit (.int .i64 (0 : Int))))]), ((Ref.up q3), [(A.d (D.lit (bytesV x11))), (A.d (D.lit (.int .i64 x12)))])]) ∧
     ((tB (x13 == (9 : Int))) = false →
      R (.ret (A.tup [])) [((Ref.up q0), [(A.ptr (Ref.up q3) 0)]), ((Ref.up q1), [(A.d (x10.getD 0 D0)), (A.d (x10.getD 1 D0)), (A.d (x10.getD 2 D0)), (A.d (x10.getD 3 D0)), (A.d (x10.getD 4 D0)), (A.d (x10.getD 5 D0))]), ((Ref.up q2), [(A.d (D.lit (.int .i64 (0 : Int)))), (A.d (D.lit (.int .i64 (0 : Int))))]), ((Ref.up q3), [(A.d (D.lit (bytesV x11))), (A.d (D.lit (.int .i64 x12)))])])) ∧
    (∀ x13v H', R' (.pan x13v) H' → H' = [] ∧
     R (.pan x13v) [((Ref.up q0), [(A.ptr (Ref.up q3) 0)]), ((Ref.up q1), [(A.d (x10.getD 0 D0)), (A.d (x10.getD 1 D0)), (A.d (x10.getD 2 D0)), (A.d (x10.getD 3 D0)), (A.d (x10.getD 4 D0)), (A.d (x10.getD 5 D0))]), ((Ref.up q2), [(A.d (D.lit (.int .i64 x6))), (A.d (D.lit (.int .i64 x7)))]), ((Ref.up q3), [(A.d (D.lit (bytesV x11))), (A.d (D.lit (.int .i64 x12)))])]))) ∧
  (∀ x10v H', R' (.pan x10v) H' → ∃ x11 : List UInt8, ∃ x12 : Int, H' = [(Ref.up (Ref.up q3), [(A.d (D.lit (bytesV x11))), (A.d (D.lit (.int .i64 x12)))])] ∧
   R (.pan x10v) [((Ref.up q0), [(A.ptr (Ref.up q3) 0)]), ((Ref.up q1), [(A.d (D.lit (.int .i64 x1))), (A.d (D.lit (.int .u64 x2))), (A.d (D.lit (.int .u64 x3))), (A.d (D.lit (.int .u64 x4))), (A.d (D.lit (.int .u64 x5))), (A.zs ([] : List (List D)))]), ((Ref.up q2), [(A.d (D.lit (.int .i64 x6))), (A.d (D.lit (.int .i64 x7)))]), ((Ref.up q3), [(A.d (D.lit (bytesV x11))), (A.d (D.lit (.int .i64 x12)))])])) :
    PostHolds Try.prog (postCode 4 (bodyOf Try.f19)) 36 [(0, (A.d (D.lit (bytesV x0)))), (4, (A.ptr (Ref.up q0) 0)), (2, (A.ptr (Ref.up q1) 0)), (3, (A.ptr (Ref.up q2) 0))] [((Ref.up q0), [(A.ptr (Ref.up q3) 0)]), ((Ref.up q1), [(A.d (D.lit (.int .i64 x1))), (A.d (D.lit (.int .u64 x2))), (A.d (D.lit (.int .u64 x3))), (A.d (D.lit (.int .u64 x4))), (A.d (D.lit (.int .u64 x5))), (A.zs ([] : List (List D)))]), ((Ref.up q2), [(A.d (D.lit (.int .i64 x6))), (A.d (D.lit (.int .i64 x7)))]), ((Ref.up q3), [(A.d (D.lit (bytesV x8))), (A.d (D.lit (.int .i64 x9)))])] [(2, Ref.up q1), (3, Ref.up q2)] R :=
  walkPost (c := ⟨Try.prog, 36, true, [0, 2, 3, 4, 7, 22, 31]⟩) (op := {}) (post := postCode 4 (bodyOf Try.f19)) (slots := [(0, .c (.o1 .cs (.var 0))), (4, .ptr (.up 0) 0), (2, .ptr (.up 1) 0), (3, .ptr (.up 2) 0)]) (K := [(.up 0, [.ptr (.up 3) 0]), (.up 1, [.c (.o1 (.ci .i64) (.var 1)), .c (.o1 (.ci .u64) (.var 2)), .c (.o1 (.ci .u64) (.var 3)), .c (.o1 (.ci .u64) (.var 4)), .c (.o1 (.ci .u64) (.var 5)), .zs .lnil]), (.up 2, [.c (.o1 (.ci .i64) (.var 6)), .c (.o1 (.ci .i64) (.var 7))]), (.up 3, [.c (.o1 .cs (.var 8)), .c (.o1 (.ci .i64) (.var 9))])]) (keep := [(2, 1), (3, 2)]) (nv := 10) (depth := 6) (up := upOf [q0, q1, q2, q3]) (ρ := envOf [.s x0, .i x1, .i x2, .i x3, .i x4, .i x5, .i x6, .i x7, .s x8, .i x9])
    rfl (by decide) (by decide) rfl (by simp [bxDen, RRef.den, upOf, hq01 , hq02 , hq12 , hq03 , hq13 , hq23]) (T_of (by kernel_rfl) h)
theorem w36n {R0 : List (Ref × List A) → Prop} (R : Out → List (Ref × List A) → Prop) (hR : R = fun o H => match o with | .ret _ => R0 H | .pan _ => False) (x0 : D) (x1 : D) (x2 : D) (x3 : D) (x4 : D) (x5 : D) (x6 : D) (x7 : D) (x8 : List UInt8) (x9 : Int) (x10 : Int) (q0 q1 q2 q3 : Ref) (hq01 : q0 ≠ q1) (hq02 : q0 ≠ q2) (hq12 : q1 ≠ q2) (hq03 : q0 ≠ q3) (hq13 : q1 ≠ q3) (hq23 : q2 ≠ q3) (h : R (.ret (A.tup [])) [((Ref.up q0), [(A.ptr (Ref.up q3) 0)]), ((Ref.up q1), [(A.d x0), (A.d x1), (A.d x2), (A.d x3), (A.d x4), (A.d x5)]), ((Ref.up q2), [(A.d x6), (A.d x7)]), ((Ref.up q3), [(A.d (D.lit (bytesV x8))), (A.d (D.lit (.int .i64 x9)))])]) :
    HoldsD Try.prog 36 [(A.ptr (Ref.up q0) 0), (A.ptr (Ref.up q1) 0), (A.ptr (Ref.up q2) 0)] [((Ref.up q0), [(A.ptr (Ref.up q3) 0)]), ((Ref.up q1), [(A.d x0), (A.d x1), (A.d x2), (A.d x3), (A.d x4), (A.d x5)]), ((Ref.up q2), [(A.d x6), (A.d x7)]), ((Ref.up q3), [(A.d (D.lit (bytesV x8))), (A.d (D.lit (.int .i64 x9)))])] (FrameMode.returning) (recIn (FrameMode.returning)).2 R0 := by
  subst hR
  exact walkR (c := ⟨Try.prog, 24, true, [0, 1, 2, 3, 4, 5, 8, 20]⟩) (op := {}) (f := 36) (fn := Try.f36) (id := 0) (o1 := opAt (defOps 0 (bodyOf Try.f36)) 0) (o2 := opAt (defOps 0 (bodyOf Try.f36)) 1) (rest := postCode 0 (bodyOf Try.f36)) (tys := #[]) (d6 := 6) (d3 := 3) (args := [.ptr (.up 0) 0, .ptr (.up 1) 0, .ptr (.up 2) 0]) (K := [(.up 0, [.ptr (.up 3) 0]), (.up 1, [.c (.var 0), .c (.var 1), .c (.var 2), .c (.var 3), .c (.var 4), .c (.var 5)]), (.up 2, [.c (.var 6), .c (.var 7)]), (.up 3, [.c (.o1 .cs (.var 8)), .c (.o1 (.ci .i64) (.var 9))])]) (nv := 11) (depth := 5) (up := upOf [q0, q1, q2, q3]) (ρ := envOf [.d x0, .d x1, .d x2, .d x3, .d x4, .d x5, .d x6, .d x7, .s x8, .i x9, .i x10]) (e := .val .nilIface)
    rfl rfl (by kernel_rfl) rfl rfl (by kernel_rfl) (by kernel_rfl) (by kernel_rfl) (by kernel_rfl) (by kernel_rfl) (by kernel_rfl) (by decide) (by decide) (by decide) (by decide) (by decide) rfl rfl rfl (by simp [bxDen, RRef.den, upOf, hq01 , hq02 , hq12 , hq03 , hq13 , hq23]) (T_of (by kernel_rfl) h)
theorem w36f {R0 : List (Ref × List A) → Prop} (R : Out → List (Ref × List A) → Prop) (hR : R = fun o H => match o with | .ret _ => R0 H | .pan _ => False) (x0 : D) (x1 : D) (x2 : D) (x3 : D) (x4 : D) (x5 : D) (x6 : D) (x7 : D) (x8 : List UInt8) (x9 : Int) (x10 : Int) (q0 q1 q2 q3 : Ref) (hq01 : q0 ≠ q1) (hq02 : q0 ≠ q2) (hq12 : q1 ≠ q2) (hq03 : q0 ≠ q3) (hq13 : q1 ≠ q3) (hq23 : q2 ≠ q3) (h : R (.ret (A.tup [])) [((Ref.up q0), [(A.ptr (Ref.up q3) 0)]), ((Ref.up q1), [(A.d (D.lit (.int .i64 (0 : Int)))), (A.d (D.lit (.int .u64 (0 : Int)))), (A.d (D.lit (.int .u64 (0 : Int)))), (A.d (D.lit (.int .u64 (0 : Int)))), (A.d (D.lit (.int .u64 (0 : Int)))), (A.d (D.slc ([] : List (List D))))]), ((Ref.up q2), [(A.d (D.lit (.int .i64 (8 : Int)))), (A.d (D.lit (.int .i64 x10)))]), ((Ref.up q3), [(A.d (D.lit (bytesV x8))), (A.d (D.lit (.int .i64 x9)))])]) :
    HoldsD Try.prog 36 [(A.ptr (Ref.up q0) 0), (A.ptr (Ref.up q1) 0), (A.ptr (Ref.up q2) 0)] [((Ref.up q0), [(A.ptr (Ref.up q3) 0)]), ((Ref.up q1), [(A.d x0), (A.d x1), (A.d x2), (A.d x3), (A.d x4), (A.d x5)]), ((Ref.up q2), [(A.d x6), (A.d x7)]), ((Ref.up q3), [(A.d (D.lit (bytesV x8))), (A.d (D.lit (.int .i64 x9)))])] (FrameMode.panicking [{ v := dval (D.lit (.iface 56 (.agg (([D.lit (.int .i64 x10)] : List D).map dval).toArray))), recovered := false }]) (recIn (FrameMode.panicking [{ v := dval (D.lit (.iface 56 (.agg (([D.lit (.int .i64 x10)] : List D).map dval).toArray))), recovered := false }])).2 R0 := by
  subst hR
  exact walkR (c := ⟨Try.prog, 24, true, [0, 1, 2, 3, 4, 5, 8, 20]⟩) (op := {}) (f := 36) (fn := Try.f36) (id := 0) (o1 := opAt (defOps 0 (bodyOf Try.f36)) 0) (o2 := opAt (defOps 0 (bodyOf Try.f36)) 1) (rest := postCode 0 (bodyOf Try.f36)) (tys := #[]) (d6 := 6) (d3 := 3) (args := [.ptr (.up 0) 0, .ptr (.up 1) 0, .ptr (.up 2) 0]) (K := [(.up 0, [.ptr (.up 3) 0]), (.up 1, [.c (.var 0), .c (.var 1), .c (.var 2), .c (.var 3), .c (.var 4), .c (.var 5)]), (.up 2, [.c (.var 6), .c (.var 7)]), (.up 3, [.c (.o1 .cs (.var 8)), .c (.o1 (.ci .i64) (.var 9))])]) (nv := 11) (depth := 5) (up := upOf [q0, q1, q2, q3]) (ρ := envOf [.d x0, .d x1, .d x2, .d x3, .d x4, .d x5, .d x6, .d x7, .s x8, .i x9, .i x10]) (e := E.o1 (.mkA 56) (.o2 .rcons (.o1 (.ci .i64) (.var 10)) .rnil))
    rfl rfl (by kernel_rfl) rfl rfl (by kernel_rfl) (by kernel_rfl) (by kernel_rfl) (by kernel_rfl) (by kernel_rfl) (by kernel_rfl) (by decide) (by decide) (by decide) (by decide) (by decide) rfl rfl rfl (by simp [bxDen, RRef.den, upOf, hq01 , hq02 , hq12 , hq03 , hq13 , hq23]) (T_of (by kernel_rfl) h)
theorem w36z {R0 : List (Ref × List A) → Prop} (R : Out → List (Ref × List A) → Prop) (hR : R = fun o H => match o with | .ret _ => R0 H | .pan _ => False) (x0 : D) (x1 : D) (x2 : D) (x3 : D) (x4 : D) (x5 : D) (x6 : D) (x7 : D) (x8 : List UInt8) (x9 : Int) (x10 : Int) (q0 q1 q2 q3 : Ref) (hq01 : q0 ≠ q1) (hq02 : q0 ≠ q2) (hq12 : q1 ≠ q2) (hq03 : q0 ≠ q3) (hq13 : q1 ≠ q3) (hq23 : q2 ≠ q3) (h : R (.ret (A.tup [])) [((Ref.up q0), [(A.ptr (Ref.up q3) 0)]), ((Ref.up q1), [(A.d (D.lit (.int .i64 (0 : Int)))), (A.d (D.lit (.int .u64 (0 : Int)))), (A.d (D.lit (.int .u64 (0 : Int)))), (A.d (D.lit (.int .u64 (0 : Int)))), (A.d (D.lit (.int .u64 (0 : Int)))), (A.d (D.slc ([] : List (List D))))]), ((Ref.up q2), [(A.d (D.lit (.int .i64 (8 : Int)))), (A.d (D.lit (.int .i64 x10)))]), ((Ref.up q3), [(A.d (D.lit (bytesV x8))), (A.d (D.lit (.int .i64 x9)))])]) :
    HoldsD Try.prog 36 [(A.ptr (Ref.up q0) 0), (A.ptr (Ref.up q1) 0), (A.ptr (Ref.up q2) 0)] [((Ref.up q0), [(A.ptr (Ref.up q3) 0)]), ((Ref.up q1), [(A.d x0), (A.d x1), (A.d x2), (A.d x3), (A.d x4), (A.zs ([] : List (List D)))]), ((Ref.up q2), [(A.d x6), (A.d x7)]), ((Ref.up q3), [(A.d (D.lit (bytesV x8))), (A.d (D.lit (.int .i64 x9)))])] (FrameMode.panicking [{ v := dval (D.lit (.iface 56 (.agg (([D.lit (.int .i64 x10)] : List D).map dval).toArray))), recovered := false }]) (recIn (FrameMode.panicking [{ v := dval (D.lit (.iface 56 (.agg (([D.lit (.int .i64 x10)] : List D).map dval).toArray))), recovered := false }])).2 R0 := by
  subst hR
  exact walkR (c := ⟨Try.prog, 24, true, [0, 1, 2, 3, 4, 5, 8, 20]⟩) (op := {}) (f := 36) (fn := Try.f36) (id := 0) (o1 := opAt (defOps 0 (bodyOf Try.f36)) 0) (o2 := opAt (defOps 0 (bodyOf Try.f36)) 1) (rest := postCode 0 (bodyOf Try.f36)) (tys := #[]) (d6 := 6) (d3 := 3) (args := [.ptr (.up 0) 0, .ptr (.up 1) 0, .ptr (.up 2) 0]) (K := [(.up 0, [.ptr (.up 3) 0]), (.up 1, [.c (.var 0), .c (.var 1), .c (.var 2), .c (.var 3), .c (.var 4), .zs .lnil]), (.up 2, [.c (.var 6), .c (.var 7)]), (.up 3, [.c (.o1 .cs (.var 8)), .c (.o1 (.ci .i64) (.var 9))])]) (nv := 11) (depth := 5) (up := upOf [q0, q1, q2, q3]) (ρ := envOf [.d x0, .d x1, .d x2, .d x3, .d x4, .d x5, .d x6, .d x7, .s x8, .i x9, .i x10]) (e := E.o1 (.mkA 56) (.o2 .rcons (.o1 (.ci .i64) (.var 10)) .rnil))
    rfl rfl (by kernel_rfl) rfl rfl (by kernel_rfl) (by kernel_rfl) (by kernel_rfl) (by kernel_rfl) (by kernel_rfl) (by kernel_rfl) (by decide) (by decide) (by decide) (by decide) (by decide) rfl rfl rfl (by simp [bxDen, RRef.den, upOf, hq01 , hq02 , hq12 , hq03 , hq13 , hq23]) (T_of (by kernel_rfl) h)
end Go.Rx
end
section
open Go Go.Proofs Go.Ab Go.Rf
set_option maxRecDepth 100000
namespace Go.Rx
theorem list4 {α : Type} {l : List α} (h : l.length = 4) : ∃ a b c d, l = [a, b, c, d] := by
  match l, h with
  | [a, b, c, d], _ => exact ⟨a, b, c, d, rfl⟩
def RfinP (s : List UInt8) : Out → Prop := fun o => o = .ret (pairA (parseV s))
theorem enc_row (r : Rx) : enc r = [(enc r).getD 0 D0, (enc r).getD 1 D0, (enc r).getD 2 D0, (enc r).getD 3 D0, (enc r).getD 4 D0, (enc r).getD 5 D0] := (enc_cells r).symm
theorem c19 (s : List UInt8) : Holds Try.prog 19 [A.d (.lit (bytesV s))] [] (Ret (pairA (parseV s))) := by
  have key : Holds Try.prog 19 [A.d (D.lit (bytesV s))] [] (fun o H => H = [] ∧ RfinP s o) := by
    refine w19p _ rfl s ⟨fun hl => ⟨fun _ => ?_, fun h => absurd rfl h⟩, fun hl => ⟨fun h => (by cases h), fun _ => ⟨_, rfl, fun qs hlen hn => ?_⟩⟩⟩
    · have hl := of_tlt hl
      unfold RfinP
      rw [parse_long (by omega)]
      rfl
    · have hl := of_flt hl
      have hs : ¬ 1000 < s.length := by omega
      have h0 : At s s 0 := at0 (by omega)
      obtain ⟨res, hr⟩ := alts_some s
      obtain ⟨q0, q1, q2, q3, rfl⟩ := list4 hlen
      simp only [List.nodup_cons, List.mem_cons, List.not_mem_nil, or_false, not_or, List.nodup_nil, and_true, not_false_eq_true] at hn
      obtain ⟨⟨h01, h02, h03⟩, ⟨h12, h13⟩, h23⟩ := hn
      have failz : ∀ (i j : Int), parseV s = (mk0 0 [], 8, i) → midR Try.prog 36 3 [(1, 6), (2, 2)] (RfinP s) [q0, q1, q2, q3] (.pan (faultV i)) [(Ref.up q0, [A.ptr (Ref.up q3) 0]), (Ref.up q1, [A.d (.lit (.int .i64 0)), A.d (.lit (.int .u64 0)), A.d (.lit (.int .u64 0)), A.d (.lit (.int .u64 0)), A.d (.lit (.int .u64 0)), A.zs []]), (Ref.up q2, [A.d (.lit (.int .i64 0)), A.d (.lit (.int .i64 0))]), (Ref.up q3, [A.d (.lit (bytesV s)), A.d (.lit (.int .i64 j))])] := fun i j hp =>
        ⟨_, fun H => H = _, w36z _ rfl _ _ _ _ _ (D.lit .nilIface) _ _ s j i q0 q1 q2 q3 h01 h02 h12 h03 h13 h23 rfl, rfl, fun H2 hR => by subst hR; exact ⟨_, rfl, by unfold RfinP; rw [hp]; rfl⟩⟩
      have faild : ∀ (i j : Int) (a b c d e f : D), parseV s = (mk0 0 [], 8, i) → midR Try.prog 36 3 [(1, 6), (2, 2)] (RfinP s) [q0, q1, q2, q3] (.pan (faultV i)) [(Ref.up q0, [A.ptr (Ref.up q3) 0]), (Ref.up q1, [A.d a, A.d b, A.d c, A.d d, A.d e, A.d f]), (Ref.up q2, [A.d (.lit (.int .i64 0)), A.d (.lit (.int .i64 0))]), (Ref.up q3, [A.d (.lit (bytesV s)), A.d (.lit (.int .i64 j))])] := fun i j a b c d e f hp =>
        ⟨_, fun H => H = _, w36f _ rfl _ _ _ _ _ _ _ _ s j i q0 q1 q2 q3 h01 h02 h12 h03 h13 h23 rfl, rfl, fun H2 hR => by subst hR; exact ⟨_, rfl, by unfold RfinP; rw [hp]; rfl⟩⟩
      have fine : ∀ (j : Int) (a b c d e f g h : D), pairA (parseV s) = .tup [(true, [a, b, c, d, e, f]), (true, [g, h])] → midR Try.prog 36 3 [(1, 6), (2, 2)] (RfinP s) [q0, q1, q2, q3] (.ret (.tup [])) [(Ref.up q0, [A.ptr (Ref.up q3) 0]), (Ref.up q1, [A.d a, A.d b, A.d c, A.d d, A.d e, A.d f]), (Ref.up q2, [A.d g, A.d h]), (Ref.up q3, [A.d (.lit (bytesV s)), A.d (.lit (.int .i64 j))])] := fun j a b c d e f g h hp =>
        ⟨_, fun H => H = _, w36n _ rfl _ _ _ _ _ _ _ _ s j 0 q0 q1 q2 q3 h01 h02 h12 h03 h13 h23 rfl, rfl, fun H2 hR => by subst hR; exact ⟨_, rfl, by unfold RfinP; rw [hp]; rfl⟩⟩
      refine w19q s 0 0 0 0 0 0 0 s 0 q0 q1 q2 q3 h01 h02 h12 h03 h13 h23 ?_
      refine callP (k37 _ (Ref.up q3) s s 0 res hr h0) (fun v t i e hi => ?_) (fun t i j e hi => ?_)
      · obtain ⟨r, f1, rfl⟩ := map_ok e
        subst f1
        refine ⟨_, _, _, rfl, rfl, teq6 r, fun hf => ?_, fun hf => ?_⟩
        · have ht : t ≠ [] := hi.more (of_tlt hf)
          exact callF c38 ⟨_, _, rfl, faild i i _ _ _ _ _ _ (parse_more hs hr hi ht)⟩
        · have ht : t = [] := hi.end_ (of_flt hf)
          subst ht
          have hp := parse_ok hs hr
          have hb : lens (2 ^ 40) r := lens_mono (by omega) _ r (Nat.le_refl _) (alts_lens hr)
          refine call1 (c15 r hb) ⟨_, rfl, rfl, fun h9 => ?_, fun h9 => ?_⟩
          · rw [if_pos (of_teq h9)] at hp
            exact fine i _ _ _ _ _ _ _ _ (by rw [hp]; rfl)
          · rw [if_neg (of_feq h9)] at hp
            exact fine i _ _ _ _ _ _ _ _ (by rw [hp]; show A.tup [(true, enc r), _] = _; rw [enc_row r]; rfl)
      · have f1 := map_bad e
        subst f1
        exact ⟨_, _, rfl, failz i j (parse_bad hs hr hi)⟩
  exact key.mono fun o H' h => ⟨h.2, h.1⟩
end Go.Rx
end
section
open Go Go.Proofs Go.Ab Go.Rf
set_option maxRecDepth 1000000
set_option maxHeartbeats 2000000
set_option linter.unusedVariables false
namespace Go.Rx
theorem w21 {R : Out → List (Ref × List A) → Prop} (x0 : List D) (x1 : List D) (h : (tB ((x0.length : Int) == (6 : Int))) = true ∧
  (tB ((x1.length : Int) == (6 : Int))) = true ∧
  ∀ _ : Nat → Nat, ∃ R' : Out → List (Ref × List A) → Prop, Holds Try.prog 40 [(A.agg x0), (A.agg x1)] [] R' ∧
  (∀ v H', R' (.ret v) H' → ∃ x2 : Int, v = (A.d (D.lit (.int .i64 x2))) ∧ H' = [] ∧
   R (.ret (A.d (D.lit (.bool (tB (x2 == (0 : Int))))))) []) ∧
  (∀ x2v H', R' (.pan x2v) H' → H' = [] ∧
   R (.pan x2v) [])) :
    Holds Try.prog 21 [(A.agg x0), (A.agg x1)] [] R :=
  walk (c := ⟨Try.prog, 9, true, [0, 1, 2, 3, 4]⟩) (op := {  }) (fn := Try.f21) (args := [.agg (.var 0), .agg (.var 1)]) (K := []) (nv := 2) (depth := 4) (up := upOf []) (ρ := envOf [.r x0, .r x1])
    rfl rfl rfl rfl rfl (by decide) (by decide) (by decide) (by decide) rfl (by simp [bxDen, RRef.den, upOf]) (T_of (by kernel_rfl) h)
theorem w40 {R : Out → List (Ref × List A) → Prop} (x0 : List D) (x1 : List D) (h : (tB ((x0.length : Int) == (6 : Int))) = true ∧
  (tB ((x1.length : Int) == (6 : Int))) = true ∧
  (Rf.isK (.int .i64) (x0.getD 0 D0)) = true ∧
  (Rf.isK (.int .i64) (x1.getD 0 D0)) = true ∧
  ((!(tB ((Rf.dint (x0.getD 0 D0)) == (Rf.dint (x1.getD 0 D0))))) = true →
   ∀ _ : Nat → Nat, ∃ R' : Out → List (Ref × List A) → Prop, Holds Try.prog 54 [(A.d (D.lit (.bool (tB (decide ((Rf.dint (x0.getD 0 D0)) < (Rf.dint (x1.getD 0 D0))))))))] [] R' ∧
   (∀ v H', R' (.ret v) H' → ∃ x2 : Int, v = (A.d (D.lit (.int .i64 x2))) ∧ H' = [] ∧
    R (.ret (A.d (D.lit (.int .i64 x2)))) []) ∧
   (∀ x2v H', R' (.pan x2v) H' → H' = [] ∧
    R (.pan x2v) [])) ∧
  ((!(tB ((Rf.dint (x0.getD 0 D0)) == (Rf.dint (x1.getD 0 D0))))) = false →
   ∃ (I0_0 : Int → Prop) (M0_0 : Int → Nat), I0_0 (0 : Int) ∧
   (∀ (x2 : Int) , I0_0 x2 →
    ((tB (decide (x2 < (4 : Int)))) = true →
     (tB (decide ((0 : Int) ≤ x2))) = true ∧
     ((tB (x2 == (0 : Int))) = true →
      (Rf.isK (.int .u64) (x0.getD 1 D0)) = true ∧
      (Rf.isK (.int .u64) (x1.getD 1 D0)) = true ∧
      ((!(tB ((Rf.dint (x0.getD 1 D0)) == (Rf.dint (x1.getD 1 D0))))) = true →
       ∀ _ : Nat → Nat, ∃ R' : Out → List (Ref × List A) → Prop, Holds Try.prog 54 [(A.d (D.lit (.bool (tB (decide ((Rf.dint (x0.getD 1 D0)) < (Rf.dint (x1.getD 1 D0))))))))] [] R' ∧
       (∀ v H', R' (.ret v) H' → ∃ x3 : Int, v = (A.d (D.lit (.int .i64 x3))) ∧ H' = [] ∧
        R (.ret (A.d (D.lit (.int .i64 x3)))) []) ∧
       (∀ x3v H', R' (.pan x3v) H' → H' = [] ∧
        R (.pan x3v) [])) ∧
      ((!(tB ((Rf.dint (x0.getD 1 D0)) == (Rf.dint (x1.getD 1 D0))))) = false →
       (tB (decide ((-9223372036854775808 : Int) ≤ (x2 + (1 : Int))))) = true ∧
       (tB (decide ((x2 + (1 : Int)) ≤ (9223372036854775807 : Int)))) = true ∧
       I0_0 (x2 + (1 : Int)) ∧ M0_0 (x2 + (1 : Int)) < M0_0 x2)) ∧
     ((tB (x2 == (0 : Int))) = false →
      ((tB (x2 == (1 : Int))) = true →
       (Rf.isK (.int .u64) (x0.getD 2 D0)) = true ∧
       (Rf.isK (.int .u64) (x1.getD 2 D0)) = true ∧
       ((!(tB ((Rf.dint (x0.getD 2 D0)) == (Rf.dint (x1.getD 2 D0))))) = true →
        ∀ _ : Nat → Nat, ∃ R' : Out → List (Ref × List A) → Prop, Holds Try.prog 54 [(A.d (D.lit (.bool (tB (decide ((Rf.dint (x0.getD 2 D0)) < (Rf.dint (x1.getD 2 D0))))))))] [] R' ∧
        (∀ v H', R' (.ret v) H' → ∃ x3 : Int, v = (A.d (D.lit (.int .i64 x3))) ∧ H' = [] ∧
         R (.ret (A.d (D.lit (.int .i64 x3)))) []) ∧
        (∀ x3v H', R' (.pan x3v) H' → H' = [] ∧
         R (.pan x3v) [])) ∧
       ((!(tB ((Rf.dint (x0.getD 2 D0)) == (Rf.dint (x1.getD 2 D0))))) = false →
        (tB (decide ((-9223372036854775808 : Int) ≤ (x2 + (1 : Int))))) = true ∧
        (tB (decide ((x2 + (1 : Int)) ≤ (9223372036854775807 : Int)))) = true ∧
        I0_0 (x2 + (1 : Int)) ∧ M0_0 (x2 + (1 : Int)) < M0_0 x2)) ∧
      ((tB (x2 == (1 : Int))) = false →
       ((tB (x2 == (2 : Int))) = true →
        (Rf.isK (.int .u64) (x0.getD 3 D0)) = true ∧
        (Rf.isK (.int .u64) (x1.getD 3 D0)) = true ∧
        ((!(tB ((Rf.dint (x0.getD 3 D0)) == (Rf.dint (x1.getD 3 D0))))) = true →
         ∀ _ : Nat → Nat, ∃ R' : Out → List (Ref × List A) → Prop, Holds Try.prog 54 [(A.d (D.lit (.bool (tB (decide ((Rf.dint (x0.getD 3 D0)) < (Rf.dint (x1.getD 3 D0))))))))] [] R' ∧
         (∀ v H', R' (.ret v) H' → ∃ x3 : Int, v = (A.d (D.lit (.int .i64 x3))) ∧ H' = [] ∧
          R (.ret (A.d (D.lit (.int .i64 x3)))) []) ∧
         (∀ x3v H', R' (.pan x3v) H' → H' = [] ∧
          R (.pan x3v) [])) ∧
        ((!(tB ((Rf.dint (x0.getD 3 D0)) == (Rf.dint (x1.getD 3 D0))))) = false →
         (tB (decide ((-9223372036854775808 : Int) ≤ (x2 + (1 : Int))))) = true ∧
         (tB (decide ((x2 + (1 : Int)) ≤ (9223372036854775807 : Int)))) = true ∧
         I0_0 (x2 + (1 : Int)) ∧ M0_0 (x2 + (1 : Int)) < M0_0 x2)) ∧
       ((tB (x2 == (2 : Int))) = false →
        (tB (x2 == (3 : Int))) = true ∧
        (Rf.isK (.int .u64) (x0.getD 4 D0)) = true ∧
        (Rf.isK (.int .u64) (x1.getD 4 D0)) = true ∧
        ((!(tB ((Rf.dint (x0.getD 4 D0)) == (Rf.dint (x1.getD 4 D0))))) = true →
         ∀ _ : Nat → Nat, ∃ R' : Out → List (Ref × List A) → Prop, Holds Try.prog 54 [(A.d (D.lit (.bool (tB (decide ((Rf.dint (x0.getD 4 D0)) < (Rf.dint (x1.getD 4 D0))))))))] [] R' ∧
         (∀ v H', R' (.ret v) H' → ∃ x3 : Int, v = (A.d (D.lit (.int .i64 x3))) ∧ H' = [] ∧
          R (.ret (A.d (D.lit (.int .i64 x3)))) []) ∧
         (∀ x3v H', R' (.pan x3v) H' → H' = [] ∧
          R (.pan x3v) [])) ∧
        ((!(tB ((Rf.dint (x0.getD 4 D0)) == (Rf.dint (x1.getD 4 D0))))) = false →
         (tB (decide ((-9223372036854775808 : Int) ≤ (x2 + (1 : Int))))) = true ∧
         (tB (decide ((x2 + (1 : Int)) ≤ (9223372036854775807 : Int)))) = true ∧
         I0_0 (x2 + (1 : Int)) ∧ M0_0 (x2 + (1 : Int)) < M0_0 x2))))) ∧
    ((tB (decide (x2 < (4 : Int)))) = false →
     (Rf.isK .slc (x0.getD 5 D0)) = true ∧
     (Rf.isK .slc (x1.getD 5 D0)) = true ∧
     ((!(tB (((Rf.dlst (x0.getD 5 D0)).length : Int) == ((Rf.dlst (x1.getD 5 D0)).length : Int)))) = true →
      ∀ _ : Nat → Nat, ∃ R' : Out → List (Ref × List A) → Prop, Holds Try.prog 54 [(A.d (D.lit (.bool (tB (decide (((Rf.dlst (x0.getD 5 D0)).length : Int) < ((Rf.dlst (x1.getD 5 D0)).length : Int)))))))] [] R' ∧
      (∀ v H', R' (.ret v) H' → ∃ x3 : Int, v = (A.d (D.lit (.int .i64 x3))) ∧ H' = [] ∧
       R (.ret (A.d (D.lit (.int .i64 x3)))) []) ∧
      (∀ x3v H', R' (.pan x3v) H' → H' = [] ∧
       R (.pan x3v) [])) ∧
     ((!(tB (((Rf.dlst (x0.getD 5 D0)).length : Int) == ((Rf.dlst (x1.getD 5 D0)).length : Int)))) = false →
      ∃ (I1_0 : Int → Prop) (M1_0 : Int → Nat), I1_0 (0 : Int) ∧
      (∀ (x3 : Int) , I1_0 x3 →
       ((tB (decide (x3 < ((Rf.dlst (x0.getD 5 D0)).length : Int)))) = true →
        (tB (decide ((0 : Int) ≤ x3))) = true ∧
        (tB (((gAt (Rf.dlst (x0.getD 5 D0)) x3).length : Int) == (6 : Int))) = true ∧
        (tB (decide (x3 < ((Rf.dlst (x1.getD 5 D0)).length : Int)))) = true ∧
        (tB (((gAt (Rf.dlst (x1.getD 5 D0)) x3).length : Int) == (6 : Int))) = true ∧
        ∀ _ : Nat → Nat, ∃ R' : Out → List (Ref × List A) → Prop, Holds Try.prog 40 [(A.agg (gAt (Rf.dlst (x0.getD 5 D0)) x3)), (A.agg (gAt (Rf.dlst (x1.getD 5 D0)) x3))] [] R' ∧
        (∀ v H', R' (.ret v) H' → ∃ x4 : Int, v = (A.d (D.lit (.int .i64 x4))) ∧ H' = [] ∧
         ((!(tB (x4 == (0 : Int)))) = true →
          R (.ret (A.d (D.lit (.int .i64 x4)))) []) ∧
         ((!(tB (x4 == (0 : Int)))) = false →
          (tB (decide ((-9223372036854775808 : Int) ≤ (x3 + (1 : Int))))) = true ∧
          (tB (decide ((x3 + (1 : Int)) ≤ (9223372036854775807 : Int)))) = true ∧
          I1_0 (x3 + (1 : Int)) ∧ M1_0 (x3 + (1 : Int)) < M1_0 x3)) ∧
        (∀ x4v H', R' (.pan x4v) H' → H' = [] ∧
         R (.pan x4v) [])) ∧
       ((tB (decide (x3 < ((Rf.dlst (x0.getD 5 D0)).length : Int)))) = false →
        R (.ret (A.d (D.lit (.int .i64 (0 : Int))))) [])) ∧
      True))) ∧
   True)) :
    Holds Try.prog 40 [(A.agg x0), (A.agg x1)] [] R :=
  walk (c := ⟨Try.prog, 78, true, [0, 1, 2, 3, 4, 5, 6, 7, 12, 20, 31, 48, 61, 76]⟩) (op := {  }) (fn := Try.f40) (args := [.agg (.var 0), .agg (.var 1)]) (K := []) (nv := 2) (depth := 7) (up := upOf []) (ρ := envOf [.r x0, .r x1])
    rfl rfl rfl rfl rfl (by decide) (by decide) (by decide) (by decide) rfl (by simp [bxDen, RRef.den, upOf]) (T_of (by kernel_rfl) h)
end Go.Rx
end
section
open Go Go.Proofs Go.Ab Go.Rf
set_option maxRecDepth 100000
namespace Go.Rx
theorem callE {α : Type} {P : Program} {f : Nat} {args : List A} {mk : α → A} {p : α → Prop} (hc : Holds P f args [] (fun o H => ∃ n, o = .ret (mk n) ∧ H = [] ∧ p n)) {Q1 : A → List (Ref × List A) → Prop} {Q2 : Value → List (Ref × List A) → Prop} (h : ∀ n, p n → Q1 (mk n) []) :
    ∀ _ : Nat → Nat, ∃ R' : Out → List (Ref × List A) → Prop, Holds P f args [] R' ∧ (∀ v H', R' (.ret v) H' → Q1 v H') ∧ (∀ u H', R' (.pan u) H' → Q2 u H') :=
  fun _ => ⟨_, hc, fun v' H' e => (by obtain ⟨n, e1, rfl, hp⟩ := e; cases e1; exact h n hp), fun u H' e => by obtain ⟨n, e1, _⟩ := e; cases e1⟩
def intA (n : Int) : A := .d (.lit (.int .i64 n))
theorem rx_ext {a b : Rx} (hk : a.kind = b.kind) (h0 : a.w 0 = b.w 0) (h1 : a.w 1 = b.w 1) (h2 : a.w 2 = b.w 2) (h3 : a.w 3 = b.w 3) (hs : a.subs = b.subs) : a = b := by
  cases a; cases b
  simp only [Rx.kind, Rx.w, Rx.subs] at hk h0 h1 h2 h3 hs
  subst hk h0 h1 h2 h3 hs
  rfl
theorem sign_ne (b : Bool) : (if b then (-1 : Int) else 1) ≠ 0 := by cases b <;> decide
theorem nteq {a b : Int} (h : (!(tB (a == b))) = true) : a ≠ b := by simpa using h
theorem nfeq {a b : Int} (h : (!(tB (a == b))) = false) : a = b := by simpa using h
theorem c40 : ∀ (n : Nat) (a b : Rx), size a ≤ n → lens (2 ^ 40) a → Holds Try.prog 40 [A.agg (enc a), A.agg (enc b)] [] (fun o H => ∃ n, o = .ret (intA n) ∧ H = [] ∧ (n = 0 ↔ a = b)) := by
  intro n
  induction n with
  | zero => intro a b h; have := size_pos a; omega
  | succ n ih =>
    intro a b hs hl
    have hlen : a.subs.length ≤ 2 ^ 40 := (lens_iff.1 hl).1
    have no : a ≠ b → ∀ c : Bool, ∃ m, Out.ret (A.d (.lit (.int .i64 (if c then -1 else 1)))) = .ret (intA m) ∧ ([] : List (Ref × List A)) = [] ∧ (m = 0 ↔ a = b) := fun h c => ⟨_, rfl, rfl, ⟨fun e => absurd e (sign_ne c), fun e => absurd e h⟩⟩
    refine w40 (enc a) (enc b) ⟨teq6 a, teq6 b, by simp, by simp, fun hk => ?_, fun hk => ?_⟩
    · have hk := nteq hk
      simp only [enc0, dint_int] at hk
      exact call1 (c54 _) ⟨_, rfl, rfl, no (fun e => hk (by rw [e])) _⟩
    · have hk := nfeq hk
      simp only [enc0, dint_int] at hk
      refine ⟨fun x => ∃ i : Nat, x = i ∧ i ≤ 4 ∧ ∀ j < i, a.w j = b.w j, fun x => 4 - x.toNat, ⟨0, rfl, by omega, fun j hj => absurd hj (Nat.not_lt_zero _)⟩, ?_, trivial⟩
      rintro x ⟨i, rfl, hi, hall⟩
      have step : i < 4 → a.w i = b.w i → (∃ i' : Nat, ((i : Int) + 1) = i' ∧ i' ≤ 4 ∧ ∀ j < i', a.w j = b.w j) ∧ 4 - ((i : Int) + 1).toNat < 4 - (i : Int).toNat := fun h4 he => ⟨⟨i + 1, rfl, h4, fun j hj => by
        by_cases e : j = i
        · subst e; exact he
        · exact hall j (by omega)⟩, by omega⟩
      refine ⟨fun hc => ⟨tle (by omega), fun h0 => ?_, fun h0 => ⟨fun h1 => ?_, fun h1 => ⟨fun h2 => ?_, fun h2 => ?_⟩⟩⟩, fun hc => ⟨by simp, by simp, fun hl2 => ?_, fun hl2 => ?_⟩⟩
      · have e : i = 0 := by have := of_teq h0; omega
        subst e
        refine ⟨by simp, by simp, fun hw => ?_, fun hw => ⟨tle (by omega), tle (by omega), step (by omega) (by have := nfeq hw; simpa using this)⟩⟩
        have hw := nteq hw
        simp only [enc1, dint_int] at hw
        exact call1 (c54 _) ⟨_, rfl, rfl, no (fun e => hw (by rw [e])) _⟩
      · have e : i = 1 := by have := of_teq h1; omega
        subst e
        refine ⟨by simp, by simp, fun hw => ?_, fun hw => ⟨tle (by omega), tle (by omega), step (by omega) (by have := nfeq hw; simpa using this)⟩⟩
        have hw := nteq hw
        simp only [enc2, dint_int] at hw
        exact call1 (c54 _) ⟨_, rfl, rfl, no (fun e => hw (by rw [e])) _⟩
      · have e : i = 2 := by have := of_teq h2; omega
        subst e
        refine ⟨by simp, by simp, fun hw => ?_, fun hw => ⟨tle (by omega), tle (by omega), step (by omega) (by have := nfeq hw; simpa using this)⟩⟩
        have hw := nteq hw
        simp only [enc3, dint_int] at hw
        exact call1 (c54 _) ⟨_, rfl, rfl, no (fun e => hw (by rw [e])) _⟩
      · have e : i = 3 := by have := of_tlt hc; have := of_feq h0; have := of_feq h1; have := of_feq h2; omega
        subst e
        refine ⟨teq rfl, by simp, by simp, fun hw => ?_, fun hw => ⟨tle (by omega), tle (by omega), step (by omega) (by have := nfeq hw; simpa using this)⟩⟩
        have hw := nteq hw
        simp only [enc4, dint_int] at hw
        exact call1 (c54 _) ⟨_, rfl, rfl, no (fun e => hw (by rw [e])) _⟩
      · have hl2 := nteq hl2
        simp only [enc5, dlst_slc, encs_length] at hl2
        exact call1 (c54 _) ⟨_, rfl, rfl, no (fun e => hl2 (by rw [e])) _⟩
      · have hl2 := nfeq hl2
        simp only [enc5, dlst_slc, encs_length] at hl2
        have hll : a.subs.length = b.subs.length := by omega
        have e4 : i = 4 := by have := of_flt hc; omega
        subst e4
        refine ⟨fun x => ∃ i : Nat, x = i ∧ i ≤ a.subs.length ∧ ∀ j (hj : j < a.subs.length), j < i → a.subs[j] = b.subs[j]'(by omega), fun x => a.subs.length - x.toNat, ⟨0, rfl, Nat.zero_le _, fun j _ hj => absurd hj (Nat.not_lt_zero _)⟩, ?_, trivial⟩
        rintro x ⟨i, rfl, hi, hall2⟩
        refine ⟨fun hc => ?_, fun hc => ?_⟩
        · have hc := of_tlt hc
          simp only [enc5, dlst_slc, encs_length] at hc
          have hc1 : i < a.subs.length := by omega
          have hc2 : i < b.subs.length := by omega
          simp only [enc5, dlst_slc]
          rw [gAt_encs rfl hc1, gAt_encs rfl hc2]
          have hsub := size_sub hc1
          refine ⟨tle (by omega), teq6 _, tlt (by simp; omega), teq6 _, callE (ih a.subs[i] b.subs[i] (by omega) (lens_sub hl hc1)) fun m hm => ⟨_, rfl, rfl, fun hne => ?_, fun heq => ?_⟩⟩
          · have hne := nteq hne
            exact ⟨m, rfl, trivial, ⟨fun e => absurd e hne, fun e => absurd (hm.2 (by subst e; rfl)) hne⟩⟩
          · have heq := nfeq heq
            refine ⟨tle (by omega), tle (by omega), ⟨i + 1, rfl, hc1, fun j hj hji => ?_⟩, by simp only [Int.toNat_natCast]; omega⟩
            by_cases e : j = i
            · subst e; exact hm.1 heq
            · exact hall2 j hj (by omega)
        · have hc := of_flt hc
          simp only [enc5, dlst_slc, encs_length] at hc
          have hsub : a.subs = b.subs := List.ext_getElem hll fun j h1 h2 => hall2 j h1 (by omega)
          have e := rx_ext hk (hall 0 (by omega)) (hall 1 (by omega)) (hall 2 (by omega)) (hall 3 (by omega)) hsub
          exact ⟨0, rfl, rfl, ⟨fun _ => e, fun _ => rfl⟩⟩
theorem c21 (a b : Rx) (h : lens (2 ^ 40) a) : Holds Try.prog 21 [A.agg (enc a), A.agg (enc b)] [] (fun o H => ∃ c : Bool, o = .ret (boolA c) ∧ H = [] ∧ (c = true ↔ a = b)) :=
  w21 (enc a) (enc b) ⟨teq6 a, teq6 b, callE (c40 _ a b (Nat.le_refl _) h) fun n hn => ⟨_, rfl, rfl, ⟨_, rfl, rfl, ⟨fun e => hn.1 (of_teq e), fun e => teq (hn.2 e)⟩⟩⟩⟩
end Go.Rx
end
section
open Go Go.Proofs Go.Ab Go.Rf
set_option maxRecDepth 100000
namespace Go.Rx
mutual
def eqX : Rx → Rx → Bool
  | .mk k a b c d l, .mk k' a' b' c' d' l' => k == k' && (a == a' && (b == b' && (c == c' && (d == d' && eqXs l l'))))
def eqXs : List Rx → List Rx → Bool
  | [], [] => true
  | r :: l, r' :: l' => eqX r r' && eqXs l l'
  | _, _ => false
end
mutual
theorem eqX_iff : ∀ {a b : Rx}, eqX a b = true ↔ a = b
  | .mk k a b c d l, .mk k' a' b' c' d' l' => by
    simp only [eqX, Bool.and_eq_true, beq_iff_eq, Rx.mk.injEq]
    rw [eqXs_iff (a := l) (b := l')]
theorem eqXs_iff : ∀ {a b : List Rx}, eqXs a b = true ↔ a = b
  | [], [] => by simp [eqXs]
  | [], _ :: _ => by simp [eqXs]
  | _ :: _, [] => by simp [eqXs]
  | r :: l, r' :: l' => by
    simp only [eqXs, Bool.and_eq_true, List.cons.injEq]
    rw [eqX_iff (a := r) (b := r'), eqXs_iff (a := l) (b := l')]
end
theorem c69 : ∀ (n : Nat) (a b : Rx), size a ≤ n → lens (2 ^ 40) a → Holds Try.prog 69 [A.agg (enc a), A.agg (enc b)] [] (Ret (boolA (eqX a b))) := by
  intro n
  induction n with
  | zero => intro a b h; have := size_pos a; omega
  | succ n ih =>
    intro a b hs hl
    have hlen : a.subs.length ≤ 2 ^ 40 := (lens_iff.1 hl).1
    have no : a ≠ b → Ret (boolA (eqX a b)) (.ret (A.d (.lit (.bool false)))) [] := fun h => by
      have : eqX a b = false := Bool.eq_false_iff.2 fun e => h (eqX_iff.1 e)
      rw [this]; exact ⟨rfl, rfl⟩
    refine w69 (enc a) (enc b) ⟨teq6 a, teq6 b, by simp, by simp, by simp, by simp, by simp, by simp, by simp, by simp, by simp, by simp, by simp, by simp, fun h => ?_, fun h => ?_⟩
    · simp only [enc0, enc1, enc2, enc3, enc4, enc5, dint_int, dlst_slc, encs_length, tB_eq, Bool.or_eq_true, Bool.not_eq_true', Bool.and_eq_false_iff, beq_eq_false_iff_ne] at h
      refine no fun e => ?_
      subst e
      rcases h with (h | h) | h
      · exact h rfl
      · rcases h with h | h | h | h <;> exact h rfl
      · exact h rfl
    · simp only [enc0, enc1, enc2, enc3, enc4, enc5, dint_int, dlst_slc, encs_length, tB_eq, Bool.or_eq_false_iff, Bool.not_eq_false', Bool.and_eq_true, beq_iff_eq] at h
      obtain ⟨⟨hk, h0, h1, h2, h3⟩, hll⟩ := h
      have hll : a.subs.length = b.subs.length := by omega
      refine ⟨by simp, fun x => ∃ i : Nat, x = i ∧ i ≤ a.subs.length ∧ ∀ j (hj : j < a.subs.length), j < i → a.subs[j] = b.subs[j]'(by omega), fun x => a.subs.length - x.toNat, ⟨0, rfl, Nat.zero_le _, fun j _ hj => absurd hj (Nat.not_lt_zero _)⟩, ?_, trivial⟩
      rintro x ⟨i, rfl, hi, hall2⟩
      refine ⟨fun hc => ?_, fun hc => ?_⟩
      · have hc := of_tlt hc
        rw [enc5, dlst_slc, encs_length] at hc
        have hc1 : i < a.subs.length := by omega
        have hc2 : i < b.subs.length := by omega
        rw [enc5, dlst_slc, enc5, dlst_slc, gAt_encs rfl hc1, gAt_encs rfl hc2]
        have hsub := size_sub hc1
        refine ⟨tle (by omega), teq6 _, rfl, tlt (by simp; omega), teq6 _, call1 (ih a.subs[i] b.subs[i] (by omega) (lens_sub hl hc1)) ⟨_, rfl, rfl, fun hne => ?_, fun heq => ?_⟩⟩
        · refine no fun e => ?_
          have : eqX a.subs[i] b.subs[i] = true := eqX_iff.2 (by subst e; rfl)
          rw [this] at hne; cases hne
        · have heq : eqX a.subs[i] b.subs[i] = true := by simpa using heq
          refine ⟨tle (by omega), tle (by omega), ⟨i + 1, rfl, hc1, fun j hj hji => ?_⟩, by simp only [Int.toNat_natCast]; omega⟩
          by_cases e : j = i
          · subst e; exact eqX_iff.1 heq
          · exact hall2 j hj (by omega)
      · have hc := of_flt hc
        rw [enc5, dlst_slc, encs_length] at hc
        have hsub : a.subs = b.subs := List.ext_getElem hll fun j h1 h2 => hall2 j h1 (by omega)
        have e := rx_ext hk h0 h1 h2 h3 hsub
        rw [eqX_iff.2 e]
        exact ⟨rfl, rfl⟩
def addX (out : List Rx) (x : Rx) : List Rx := if out.any (eqX x) then out else out ++ [x]
def Aft68 (q : Ref) (out : List Rx) : Out → List (Ref × List A) → Prop := fun o H => o = .ret (.tup []) ∧ H = [(.up q, [A.own 6 (encs out) []])]
theorem c68a (x : Rx) (q : Ref) : Holds Try.prog 68 [A.agg (enc x), A.ptr (.up q) 0] [(.up q, [A.zs []])] (Aft68 q (addX [] x)) := by
  refine w68a (enc x) q ⟨teq6 x, True, 0, trivial, fun _ => ⟨tle (by decide), tle (by decide), tlt (by decide), rfl, ?_⟩, trivial⟩
  have e : gAt (((D.lit (.int .i64 (0 : Int))) :: ((D.lit (.int .u64 (0 : Int))) :: ((D.lit (.int .u64 (0 : Int))) :: ((D.lit (.int .u64 (0 : Int))) :: ((D.lit (.int .u64 (0 : Int))) :: ((D.slc ([] : List (List D))) :: ([] : List D))))))) :: ([] : List (List D))) (0 : Int) = [D.lit (.int .i64 (0 : Int)), D.lit (.int .u64 (0 : Int)), D.lit (.int .u64 (0 : Int)), D.lit (.int .u64 (0 : Int)), D.lit (.int .u64 (0 : Int)), D.slc []] := rfl
  rw [e, setL_all (by simp)]
  rfl
theorem c68b (x : Rx) (out : List Rx) (q : Ref) (hx : lens (2 ^ 40) x) (ho : (addX out x).length ≤ 2 ^ 40) : Holds Try.prog 68 [A.agg (enc x), A.ptr (.up q) 0] [(.up q, [A.own 6 (encs out) []])] (Aft68 q (addX out x)) := by
  have hle : out.length ≤ 2 ^ 40 := by
    unfold addX at ho
    split at ho
    · exact ho
    · simp at ho; omega
  refine w68b (enc x) (encs out) q ⟨teq6 x, fun v => ∃ i : Nat, v = i ∧ i ≤ out.length ∧ ∀ j (hj : j < out.length), j < i → eqX x out[j] = false, fun v => out.length - v.toNat, ⟨0, rfl, Nat.zero_le _, fun j _ hj => absurd hj (Nat.not_lt_zero _)⟩, ?_, trivial⟩
  rintro v ⟨i, rfl, hi, hall⟩
  refine ⟨fun hc => ?_, fun hc => ?_⟩
  · have hc := of_tlt hc
    rw [encs_length] at hc
    have hc1 : i < out.length := by omega
    rw [gAt_encs rfl hc1]
    refine ⟨tle (by omega), teq6 _, call1 (c69 _ x out[i] (Nat.le_refl _) hx) ⟨_, rfl, rfl, fun he => ?_, fun he => ⟨tle (by omega), tle (by omega), ⟨i + 1, rfl, hc1, fun j hj hji => ?_⟩, by simp only [Int.toNat_natCast]; omega⟩⟩⟩
    · have : addX out x = out := by
        unfold addX
        rw [if_pos (List.any_eq_true.2 ⟨_, List.getElem_mem hc1, he⟩)]
      rw [this]
      exact ⟨rfl, rfl⟩
    · by_cases e : j = i
      · subst e; exact he
      · exact hall j hj (by omega)
  · have hc := of_flt hc
    rw [encs_length] at hc
    have hno : out.any (eqX x) = false := Bool.eq_false_iff.2 fun h => by
      obtain ⟨y, hy, hxy⟩ := List.any_eq_true.1 h
      obtain ⟨j, hj, rfl⟩ := List.mem_iff_getElem.1 hy
      rw [hall j hj (by omega)] at hxy; cases hxy
    have ha : addX out x = out ++ [x] := by unfold addX; rw [hno]; rfl
    rw [ha] at ho ⊢
    simp only [List.length_append, List.length_singleton] at ho
    refine ⟨tle (by simp; omega), tle (by simp; omega), ?_⟩
    rw [setL_all (by simp)]
    show Aft68 q (out ++ [x]) _ [(Ref.up q, [A.own 6 (encs out ++ encs [x]) []])]
    rw [encs_append]
    exact ⟨rfl, rfl⟩
theorem call68 {P : Program} {f : Nat} {args : List A} {B : List (Ref × List A)} {q : Ref} {out : List Rx} (hc : Holds P f args B (Aft68 q out)) {Q1 : A → List (Ref × List A) → Prop} {Q2 : Value → List (Ref × List A) → Prop} (h : Q1 (.tup []) [(.up q, [A.own 6 (encs out) []])]) :
    ∃ R' : Out → List (Ref × List A) → Prop, Holds P f args B R' ∧ (∀ v H', R' (.ret v) H' → Q1 v H') ∧ (∀ u H', R' (.pan u) H' → Q2 u H') :=
  ⟨_, hc, fun v' H' e => (by obtain ⟨e1, rfl⟩ := e; cases e1; exact h), fun u H' e => by cases e.1⟩
def nilX : Rx := mk0 0 []
def empX : Rx := mk0 1 []
def altF (x : Rx) : List Rx := if x.kind = 4 then x.subs else if x.kind = 0 then [] else [x]
def outA (ls : List Rx) : List Rx := (ls.flatMap altF).foldl addX []
def altX (ls : List Rx) : Rx := if outA ls = [] then nilX else joinX 4 (outA ls)
theorem addX_len (out : List Rx) (x : Rx) : out.length ≤ (addX out x).length := by
  unfold addX; split
  · exact Nat.le_refl _
  · simp
theorem foldl_len : ∀ (l out : List Rx), out.length ≤ (l.foldl addX out).length
  | [], out => Nat.le_refl _
  | x :: l, out => Nat.le_trans (addX_len out x) (foldl_len l _)
theorem take_snoc {α : Type} : ∀ (l : List α) (i : Nat) (h : i < l.length), l.take (i + 1) = l.take i ++ [l[i]]
  | x :: l, 0, _ => rfl
  | x :: l, i + 1, h => by
    show x :: l.take (i + 1) = _
    rw [take_snoc l i (by simpa using h)]; rfl
theorem outA_take {ls : List Rx} {i : Nat} (h : i < ls.length) : outA (ls.take (i + 1)) = (altF ls[i]).foldl addX (outA (ls.take i)) := by
  unfold outA
  rw [take_snoc _ _ h, List.flatMap_append, List.foldl_append, List.flatMap_cons, List.flatMap_nil, List.append_nil]
theorem outA_le {ls : List Rx} (i : Nat) : (outA (ls.take i)).length ≤ (outA ls).length := by
  have e : outA ls = ((ls.drop i).flatMap altF).foldl addX (outA (ls.take i)) := by
    unfold outA
    rw [← List.foldl_append, ← List.flatMap_append, List.take_append_drop]
  rw [e]
  exact foldl_len _ _
theorem foldl_take {l out : List Rx} {j : Nat} (h : j < l.length) : (l.take (j + 1)).foldl addX out = addX ((l.take j).foldl addX out) l[j] := by
  rw [take_snoc _ _ h, List.foldl_append]; rfl
theorem foldl_le {l out : List Rx} (j : Nat) : ((l.take j).foldl addX out).length ≤ (l.foldl addX out).length := by
  have e : l.foldl addX out = (l.drop j).foldl addX ((l.take j).foldl addX out) := by rw [← List.foldl_append, List.take_append_drop]
  rw [e]
  exact foldl_len _ _
theorem c57 (ls : List Rx) (hlen : ls.length ≤ 2 ^ 40) (hl : ∀ x ∈ ls, lens (2 ^ 40) x) (ho : (outA ls).length ≤ 2 ^ 40) : Holds Try.prog 57 [A.d (.slc (encs ls))] [] (Ret (encA (altX ls))) := by
  have hget : ∀ i (h : i < ls.length), lens (2 ^ 40) ls[i] := fun i h => hl _ (List.getElem_mem h)
  refine w57 (encs ls) ⟨fun x => ∃ i : Nat, x = i ∧ i ≤ ls.length ∧ outA (ls.take i) = [], fun x => ls.length - x.toNat, fun x _ _ _ _ _ _ _ o => ∃ i : Nat, x = i ∧ i ≤ ls.length ∧ o = encs (outA (ls.take i)), fun x _ _ _ _ _ _ _ _ => ls.length - x.toNat, ⟨0, rfl, Nat.zero_le _, rfl⟩, ?_, ?_, trivial⟩
  · rintro x ⟨i, rfl, hi, hout⟩
    refine ⟨fun hc => ?_, fun hc => ?_⟩
    · have hc := of_tlt hc
      rw [encs_length] at hc
      have hc1 : i < ls.length := by omega
      rw [gAt_encs rfl hc1]
      have htk := outA_take hc1
      rw [hout] at htk
      have hsl := (lens_iff.1 (hget i hc1)).1
      have hbig := outA_le (ls := ls) (i + 1)
      refine ⟨tle (by omega), teq6 _, by simp, fun hk => ?_, fun hk => ⟨fun h0 => fun ν => ?_, fun h0 => ?_⟩⟩
      · rw [enc0, dint_int] at hk
        have hk := of_teq hk
        have hF : altF ls[i] = ls[i].subs := by unfold altF; rw [if_pos hk]
        rw [hF] at htk
        rw [enc5, dlst_slc]
        refine ⟨rfl, True, ls[i].subs.length, fun x _ _ _ _ _ _ o => ∃ j : Nat, x = j ∧ j ≤ ls[i].subs.length ∧ o = encs ((ls[i].subs.take j).foldl addX []), fun x _ _ _ _ _ _ _ => ls[i].subs.length - x.toNat, trivial, fun _ => ⟨fun hp => ?_, fun hp => ?_⟩, ?_, trivial⟩
        · have hp := of_tlt hp
          rw [encs_length] at hp
          have hp1 : 0 < ls[i].subs.length := by omega
          rw [gAt_encs (x := 0) (i := 0) rfl hp1]
          refine ⟨teq6 _, fun ν => call68 (c68a _ _) ⟨_, rfl, rfl, ⟨1, rfl, hp1, ?_⟩, by simp; omega⟩⟩
          rw [foldl_take hp1]; rfl
        · have hp := of_flt hp
          rw [encs_length] at hp
          refine ⟨tle (by omega), tle (by omega), ⟨i + 1, rfl, hc1, ?_⟩, by simp only [Int.toNat_natCast]; omega⟩
          have : ls[i].subs = [] := List.length_eq_zero_iff.1 (by omega)
          rw [htk, this]; rfl
        · rintro x a b c d e f o ⟨j, rfl, hj, rfl⟩
          refine ⟨fun hp => ?_, fun hp => ?_⟩
          · have hp := of_tlt hp
            rw [encs_length] at hp
            have hp1 : j < ls[i].subs.length := by omega
            rw [gAt_encs rfl hp1]
            have hft := foldl_take (out := []) hp1
            have hfl := foldl_le (l := ls[i].subs) (out := []) (j + 1)
            refine ⟨tle (by omega), teq6 _, fun ν => call68 (c68b _ _ _ (lens_sub (hget i hc1) hp1) (by rw [← hft]; rw [htk] at hbig; omega)) ⟨_, rfl, rfl, tle (by omega), tle (by omega), ⟨j + 1, rfl, hp1, by rw [hft]⟩, by simp only [Int.toNat_natCast]; omega⟩⟩
          · have hp := of_flt hp
            rw [encs_length] at hp
            refine ⟨tle (by omega), tle (by omega), ⟨i + 1, rfl, hc1, ?_⟩, by simp only [Int.toNat_natCast]; omega⟩
            rw [htk, List.take_of_length_le (show ls[i].subs.length ≤ j by omega)]
      · rw [enc0, dint_int] at hk h0
        have hk := of_feq hk
        have h0 := nteq h0
        have hF : altF ls[i] = [ls[i]] := by unfold altF; rw [if_neg hk, if_neg h0]
        rw [hF] at htk
        exact call68 (c68a _ _) ⟨_, rfl, rfl, tle (by omega), tle (by omega), ⟨i + 1, rfl, hc1, by rw [htk]; rfl⟩, by simp only [Int.toNat_natCast]; omega⟩
      · rw [enc0, dint_int] at hk h0
        have hk := of_feq hk
        have h0 := nfeq h0
        have hF : altF ls[i] = [] := by unfold altF; rw [if_neg hk, if_pos h0]
        rw [hF] at htk
        exact ⟨tle (by omega), tle (by omega), ⟨i + 1, rfl, hc1, htk⟩, by simp only [Int.toNat_natCast]; omega⟩
    · have hc := of_flt hc
      rw [encs_length] at hc
      rw [List.take_of_length_le (by omega)] at hout
      have : altX ls = nilX := by unfold altX; rw [if_pos hout]
      rw [this]
      exact ⟨rfl, rfl⟩
  · rintro x z1 a0 b0 c0 d0 e0 f0 o0 ⟨i, rfl, hi, rfl⟩
    refine ⟨fun hc => ?_, fun hc => ?_⟩
    · have hc := of_tlt hc
      rw [encs_length] at hc
      have hc1 : i < ls.length := by omega
      rw [gAt_encs rfl hc1]
      have htk := outA_take hc1
      have hsl := (lens_iff.1 (hget i hc1)).1
      have hbig := outA_le (ls := ls) (i + 1)
      refine ⟨tle (by omega), teq6 _, by simp, fun hk => ?_, fun hk => ⟨fun h0 => fun ν => ?_, fun h0 => ?_⟩⟩
      · rw [enc0, dint_int] at hk
        have hk := of_teq hk
        have hF : altF ls[i] = ls[i].subs := by unfold altF; rw [if_pos hk]
        rw [hF] at htk
        rw [enc5, dlst_slc]
        refine ⟨rfl, fun x o => ∃ j : Nat, x = j ∧ j ≤ ls[i].subs.length ∧ o = encs ((ls[i].subs.take j).foldl addX (outA (ls.take i))), fun x _ => ls[i].subs.length - x.toNat, ⟨0, rfl, Nat.zero_le _, rfl⟩, ?_, trivial⟩
        rintro x o ⟨j, rfl, hj, rfl⟩
        refine ⟨fun hp => ?_, fun hp => ?_⟩
        · have hp := of_tlt hp
          rw [encs_length] at hp
          have hp1 : j < ls[i].subs.length := by omega
          rw [gAt_encs rfl hp1]
          have hft := foldl_take (out := outA (ls.take i)) hp1
          have hfl := foldl_le (l := ls[i].subs) (out := outA (ls.take i)) (j + 1)
          refine ⟨tle (by omega), teq6 _, fun ν => call68 (c68b _ _ _ (lens_sub (hget i hc1) hp1) (by rw [← hft]; rw [htk] at hbig; omega)) ⟨_, rfl, rfl, tle (by omega), tle (by omega), ⟨j + 1, rfl, hp1, by rw [hft]⟩, by simp only [Int.toNat_natCast]; omega⟩⟩
        · have hp := of_flt hp
          rw [encs_length] at hp
          refine ⟨tle (by omega), tle (by omega), ⟨i + 1, rfl, hc1, ?_⟩, by simp only [Int.toNat_natCast]; omega⟩
          rw [htk, List.take_of_length_le (show ls[i].subs.length ≤ j by omega)]
      · rw [enc0, dint_int] at hk h0
        have hk := of_feq hk
        have h0 := nteq h0
        have hF : altF ls[i] = [ls[i]] := by unfold altF; rw [if_neg hk, if_neg h0]
        rw [hF] at htk
        have e9 : addX (outA (ls.take i)) ls[i] = outA (ls.take (i + 1)) := by rw [htk]; rfl
        exact call68 (c68b _ _ _ (hget i hc1) (by rw [e9]; omega)) ⟨_, rfl, rfl, tle (by omega), tle (by omega), ⟨i + 1, rfl, hc1, by rw [e9]⟩, by simp only [Int.toNat_natCast]; omega⟩
      · rw [enc0, dint_int] at hk h0
        have hk := of_feq hk
        have h0 := nfeq h0
        have hF : altF ls[i] = [] := by unfold altF; rw [if_neg hk, if_pos h0]
        rw [hF] at htk
        exact ⟨tle (by omega), tle (by omega), ⟨i + 1, rfl, hc1, by rw [htk]; rfl⟩, by simp only [Int.toNat_natCast]; omega⟩
    · have hc := of_flt hc
      rw [encs_length] at hc
      rw [List.take_of_length_le (show ls.length ≤ i by omega)]
      refine ⟨fun hz => ?_, fun hz => ?_⟩
      · have hz := of_teq hz
        rw [encs_length] at hz
        have h0 : outA ls = [] := List.length_eq_zero_iff.1 (by omega)
        have : altX ls = nilX := by unfold altX; rw [if_pos h0]
        rw [this]
        exact ⟨rfl, rfl⟩
      · have hz := of_feq hz
        rw [encs_length] at hz
        have h0 : outA ls ≠ [] := fun h => hz (by rw [h]; rfl)
        have : altX ls = joinX 4 (outA ls) := by unfold altX; rw [if_neg h0]
        rw [this]
        exact call1 (c50 4 _) ⟨_, rfl, rfl, teq6 _, rfl, rfl⟩
def catF (x : Rx) : List Rx := if x.kind = 3 then x.subs else if x.kind = 1 then [] else [x]
def outC (ls : List Rx) : List Rx := ls.flatMap catF
def catX (ls : List Rx) : Rx := if ls.any (fun x => x.kind == 0) then nilX else if outC ls = [] then empX else joinX 3 (outC ls)
theorem outC_take {ls : List Rx} {i : Nat} (h : i < ls.length) : outC (ls.take (i + 1)) = outC (ls.take i) ++ catF ls[i] := by
  unfold outC
  rw [take_snoc _ _ h, List.flatMap_append, List.flatMap_cons, List.flatMap_nil, List.append_nil]
theorem outC_le {ls : List Rx} (i : Nat) : (outC (ls.take i)).length ≤ (outC ls).length := by
  have e : outC ls = outC (ls.take i) ++ outC (ls.drop i) := by
    unfold outC
    rw [← List.flatMap_append, List.take_append_drop]
  rw [e]; simp
theorem flatE (l : List Rx) : flatB 6 (encs l) = true := by
  unfold flatB
  rw [List.all_eq_true]
  intro z hz
  obtain ⟨j, hj, rfl⟩ := List.mem_iff_getElem.1 hz
  have hj' : j < l.length := by simpa using hj
  have := encs_get l j
  rw [List.getElem?_eq_getElem hj, List.getElem?_eq_getElem hj'] at this
  simp only [Option.map_some, Option.some.injEq] at this
  rw [this]; simp
theorem c56 (ls : List Rx) (hlen : ls.length ≤ 2 ^ 40) (ho : (outC ls).length ≤ 2 ^ 40) : Holds Try.prog 56 [A.d (.slc (encs ls))] [] (Ret (encA (catX ls))) := by
  have none : ∀ i (h : i < ls.length), ls[i].kind = 0 → Ret (encA (catX ls)) (.ret (encA nilX)) [] := fun i h hk => by
    have : catX ls = nilX := by unfold catX; rw [if_pos (List.any_eq_true.2 ⟨_, List.getElem_mem h, by simpa using hk⟩)]
    rw [this]; exact ⟨rfl, rfl⟩
  have hany : (∀ j (h : j < ls.length), ls[j].kind ≠ 0) → ls.any (fun x => x.kind == 0) = false := fun h => Bool.eq_false_iff.2 fun ht => by
    obtain ⟨x, hx, h0⟩ := List.any_eq_true.1 ht
    obtain ⟨j, hj, rfl⟩ := List.mem_iff_getElem.1 hx
    exact h j hj (by simpa using h0)
  refine w56 (encs ls) ⟨fun x => ∃ i : Nat, x = i ∧ i ≤ ls.length ∧ outC (ls.take i) = [] ∧ ∀ j (hj : j < ls.length), j < i → ls[j].kind ≠ 0, fun x => ls.length - x.toNat, fun o x _ _ _ _ _ _ _ _ => ∃ i : Nat, x = i ∧ i ≤ ls.length ∧ o = encs (outC (ls.take i)) ∧ ∀ j (hj : j < ls.length), j < i → ls[j].kind ≠ 0, fun _ x _ _ _ _ _ _ _ _ => ls.length - x.toNat, ⟨0, rfl, Nat.zero_le _, rfl, fun j _ hj => absurd hj (Nat.not_lt_zero _)⟩, ?_, ?_, trivial⟩
  · rintro x ⟨i, rfl, hi, hout, hall⟩
    refine ⟨fun hc => ?_, fun hc => ?_⟩
    · have hc := of_tlt hc
      rw [encs_length] at hc
      have hc1 : i < ls.length := by omega
      rw [gAt_encs rfl hc1]
      have htk := outC_take hc1
      rw [hout, List.nil_append] at htk
      have hbig := outC_le (ls := ls) (i + 1)
      rw [htk] at hbig
      have nz : ls[i].kind ≠ 0 → ∀ j (hj : j < ls.length), j < i + 1 → ls[j].kind ≠ 0 := fun h j hj hji => by
        by_cases e : j = i
        · subst e; exact h
        · exact hall j hj (by omega)
      refine ⟨tle (by omega), teq6 _, by simp, fun h0 => ?_, fun h0 => ⟨fun h3 => ?_, fun h3 => ⟨fun h1 => ?_, fun h1 => ?_⟩⟩⟩
      · rw [enc0, dint_int] at h0
        exact none i hc1 (of_teq h0)
      · rw [enc0, dint_int] at h0 h3
        have h0 := of_feq h0
        have h3 := of_teq h3
        have hF : catF ls[i] = ls[i].subs := by unfold catF; rw [if_pos h3]
        rw [hF] at htk hbig
        rw [enc5, dlst_slc]
        refine ⟨rfl, flatE _, tle (by simp; omega), tle (by simp; omega), fun hz => ?_, fun hz => ?_⟩
        · have hz := of_teq hz
          rw [encs_length] at hz
          exact ⟨tle (by omega), tle (by omega), ⟨i + 1, rfl, hc1, by rw [htk]; exact List.length_eq_zero_iff.1 (by omega), nz h0⟩, by simp only [Int.toNat_natCast]; omega⟩
        · exact ⟨tle (by omega), tle (by omega), ⟨i + 1, rfl, hc1, by rw [htk]; rfl, nz h0⟩, by simp only [Int.toNat_natCast]; omega⟩
      · rw [enc0, dint_int] at h0 h3 h1
        have h0 := of_feq h0
        have h3 := of_feq h3
        have h1 := of_teq h1
        have hF : catF ls[i] = [] := by unfold catF; rw [if_neg h3, if_pos h1]
        rw [hF] at htk
        exact ⟨tle (by omega), tle (by omega), ⟨i + 1, rfl, hc1, htk, nz h0⟩, by simp only [Int.toNat_natCast]; omega⟩
      · rw [enc0, dint_int] at h0 h3 h1
        have h0 := of_feq h0
        have h3 := of_feq h3
        have h1 := of_feq h1
        have hF : catF ls[i] = [ls[i]] := by unfold catF; rw [if_neg h3, if_neg h1]
        rw [hF] at htk
        exact ⟨flat1 _, tle (by simp), tle (by simp), tle (by omega), tle (by omega), ⟨i + 1, rfl, hc1, by rw [htk]; rfl, nz h0⟩, by simp only [Int.toNat_natCast]; omega⟩
    · have hc := of_flt hc
      rw [encs_length] at hc
      rw [List.take_of_length_le (show ls.length ≤ i by omega)] at hout
      have : catX ls = empX := by
        unfold catX
        rw [hany fun j hj => hall j hj (by omega), if_neg (by simp), if_pos hout]
      rw [this]; exact ⟨rfl, rfl⟩
  · rintro o x k z a0 b0 c0 d0 e0 f0 ⟨i, rfl, hi, rfl, hall⟩
    refine ⟨fun hc => ?_, fun hc => ?_⟩
    · have hc := of_tlt hc
      rw [encs_length] at hc
      have hc1 : i < ls.length := by omega
      rw [gAt_encs rfl hc1]
      have htk := outC_take hc1
      have hbig := outC_le (ls := ls) (i + 1)
      rw [htk, List.length_append] at hbig
      have nz : ls[i].kind ≠ 0 → ∀ j (hj : j < ls.length), j < i + 1 → ls[j].kind ≠ 0 := fun h j hj hji => by
        by_cases e : j = i
        · subst e; exact h
        · exact hall j hj (by omega)
      refine ⟨tle (by omega), teq6 _, by simp, fun h0 => ?_, fun h0 => ⟨fun h3 => ?_, fun h3 => ⟨fun h1 => ?_, fun h1 => ?_⟩⟩⟩
      · rw [enc0, dint_int] at h0
        exact none i hc1 (of_teq h0)
      · rw [enc0, dint_int] at h0 h3
        have h0 := of_feq h0
        have h3 := of_teq h3
        have hF : catF ls[i] = ls[i].subs := by unfold catF; rw [if_pos h3]
        rw [hF] at htk hbig
        rw [enc5, dlst_slc]
        exact ⟨rfl, flatE _, tle (by simp; omega), tle (by simp; omega), tle (by omega), tle (by omega), ⟨i + 1, rfl, hc1, by rw [htk, ← encs_append], nz h0⟩, by simp only [Int.toNat_natCast]; omega⟩
      · rw [enc0, dint_int] at h0 h3 h1
        have h0 := of_feq h0
        have h3 := of_feq h3
        have h1 := of_teq h1
        have hF : catF ls[i] = [] := by unfold catF; rw [if_neg h3, if_pos h1]
        rw [hF, List.append_nil] at htk
        exact ⟨tle (by omega), tle (by omega), ⟨i + 1, rfl, hc1, by rw [htk], nz h0⟩, by simp only [Int.toNat_natCast]; omega⟩
      · rw [enc0, dint_int] at h0 h3 h1
        have h0 := of_feq h0
        have h3 := of_feq h3
        have h1 := of_feq h1
        have hF : catF ls[i] = [ls[i]] := by unfold catF; rw [if_neg h3, if_neg h1]
        rw [hF] at htk hbig
        simp only [List.length_singleton] at hbig
        refine ⟨flat1 _, tle (by simp; omega), tle (by simp; omega), tle (by omega), tle (by omega), ⟨i + 1, rfl, hc1, ?_, nz h0⟩, by simp only [Int.toNat_natCast]; omega⟩
        rw [htk, ← encs_append]; rfl
    · have hc := of_flt hc
      rw [encs_length] at hc
      have e : catX ls = if outC ls = [] then empX else joinX 3 (outC ls) := by
        unfold catX
        rw [hany fun j hj => hall j hj (by omega), if_neg (by simp)]
      rw [List.take_of_length_le (show ls.length ≤ i by omega), e]
      refine ⟨fun hz => ?_, fun hz => ?_⟩
      · have hz := of_teq hz
        rw [encs_length] at hz
        rw [if_pos (List.length_eq_zero_iff.1 (by omega))]
        exact ⟨rfl, rfl⟩
      · have hz := of_feq hz
        rw [encs_length] at hz
        rw [if_neg (fun h => hz (by rw [h]; rfl))]
        exact call1 (c50 3 _) ⟨_, rfl, rfl, teq6 _, rfl, rfl⟩
end Go.Rx
end
section
open Go Go.Proofs Go.Ab Go.Rf
set_option maxRecDepth 100000
namespace Go.Rx
mutual
def allX (p : Rx → Prop) : Rx → Prop
  | .mk k a b c d l => p (.mk k a b c d l) ∧ allXs p l
def allXs (p : Rx → Prop) : List Rx → Prop
  | [] => True
  | r :: l => allX p r ∧ allXs p l
end
theorem allXs_iff {p : Rx → Prop} : ∀ {l : List Rx}, allXs p l ↔ ∀ r ∈ l, allX p r
  | [] => by simp [allXs]
  | r :: l => by simp [allXs, allXs_iff (l := l)]
theorem allX_iff {p : Rx → Prop} {r : Rx} : allX p r ↔ p r ∧ ∀ x ∈ r.subs, allX p x := by
  cases r with | mk k a b c d l => simp [allX, Rx.subs, allXs_iff]
def hasX (r : Rx) (b : Nat) : Bool := (r.w (b / 64)).toNat.testBit (b % 64)
def nodeOk (r : Rx) : Prop := nodeErr r = 0 ∧ ∀ i < 4, 0 ≤ r.w i ∧ r.w i < 2 ^ 64
theorem row_words (r : Rx) (h : ∀ i < 4, 0 ≤ r.w i ∧ r.w i < 2 ^ 64) : [(D.lit (.int .u64 (r.w 0))), D.lit (.int .u64 (r.w 1)), D.lit (.int .u64 (r.w 2)), D.lit (.int .u64 (r.w 3))] = row4 (hasX r) := by
  have key : ∀ k, k < 4 → ((wd (hasX r) k : Nat) : Int) = r.w k := fun k hk => by
    have hw := h k hk
    have : wd (hasX r) k = (r.w k).toNat := wd_eq (by omega) fun j hj => by
      unfold hasX
      rw [show (64 * k + j) / 64 = k by omega, show (64 * k + j) % 64 = j by omega]
    rw [this]; omega
  unfold row4
  rw [key 0 (by decide), key 1 (by decide), key 2 (by decide), key 3 (by decide)]
theorem c55w (r : Rx) (b : Nat) (hb : b < 256) (h : ∀ i < 4, 0 ≤ r.w i ∧ r.w i < 2 ^ 64) : Holds Try.prog 55 [A.agg [(D.lit (.int .u64 (r.w 0))), D.lit (.int .u64 (r.w 1)), D.lit (.int .u64 (r.w 2)), D.lit (.int .u64 (r.w 3))], A.d (.lit (.int .u8 b))] [] (Ret (.d (.lit (.bool (hasX r b))))) := by
  rw [row_words r h]; exact c55 (hasX r) b hb
theorem c63w (r : Rx) (b : Nat) (hb : b < 256) (h : ∀ i < 4, 0 ≤ r.w i ∧ r.w i < 2 ^ 64) : Holds Try.prog 63 [A.agg [(D.lit (.int .u64 (r.w 0))), D.lit (.int .u64 (r.w 1)), D.lit (.int .u64 (r.w 2)), D.lit (.int .u64 (r.w 3))], A.d (.lit (.int .u8 b))] [] (Ret (.d (.lit (.bool (hasX r b))))) := by
  rw [row_words r h]; exact c63 (hasX r) b hb
def hdX (r : Rx) : Rx := r.subs.headD nilX
def der (b : Nat) : Nat → Rx → Rx
  | 0, _ => nilX
  | n + 1, r =>
    if r.kind = 2 then (if hasX r b then empX else nilX)
    else if r.kind = 5 then catX [der b n (hdX r), r]
    else if r.kind = 4 then altX (r.subs.map (der b n))
    else if r.kind = 3 then (if null (hdX r) then altX [catX [der b n (hdX r), catX r.subs.tail], der b n (catX r.subs.tail)] else catX [der b n (hdX r), catX r.subs.tail])
    else nilX
def B40 : Nat := 2 ^ 40
def catOk (ls : List Rx) : Bool := Nat.ble (outC ls).length B40
def altOk (ls : List Rx) : Bool := Nat.ble (outA ls).length B40
def derOk (b : Nat) : Nat → Rx → Bool
  | 0, _ => true
  | n + 1, r =>
    if r.kind = 5 then derOk b n (hdX r) && catOk [der b n (hdX r), r]
    else if r.kind = 4 then r.subs.all (derOk b n) && altOk (r.subs.map (der b n))
    else if r.kind = 3 then derOk b n (hdX r) && (catOk r.subs.tail && (catOk [der b n (hdX r), catX r.subs.tail] && (!null (hdX r) || (derOk b n (catX r.subs.tail) && altOk [catX [der b n (hdX r), catX r.subs.tail], der b n (catX r.subs.tail)]))))
    else true
theorem catOk_iff {ls : List Rx} : catOk ls = true ↔ (outC ls).length ≤ 2 ^ 40 := by unfold catOk; rw [Nat.ble_eq]; rfl
theorem altOk_iff {ls : List Rx} : altOk ls = true ↔ (outA ls).length ≤ 2 ^ 40 := by unfold altOk; rw [Nat.ble_eq]; rfl
theorem sizes_append : ∀ (l m : List Rx), sizes (l ++ m) = sizes l + sizes m
  | [], m => by simp [sizes]
  | r :: l, m => by simp only [List.cons_append, sizes, sizes_append l m]; omega
theorem sizes_catF (x : Rx) : sizes (catF x) ≤ size x := by
  unfold catF
  split
  · have := size_eq x; omega
  · split
    · simp [sizes]
    · simp [sizes]
theorem sizes_outC : ∀ ls : List Rx, sizes (outC ls) ≤ sizes ls
  | [] => by simp [outC, sizes]
  | x :: l => by
    have h1 := sizes_outC l
    have h2 := sizes_catF x
    unfold outC at h1 ⊢
    rw [List.flatMap_cons, sizes_append]
    simp only [sizes]; omega
theorem size_joinX (k : Int) (l : List Rx) : size (joinX k l) ≤ 1 + sizes l := by
  unfold joinX
  split
  · simp [sizes]
  · simp [mk0, size]
theorem size_catX (ls : List Rx) : size (catX ls) ≤ 1 + sizes ls := by
  unfold catX
  split
  · show 1 + 0 ≤ _; omega
  · split
    · show 1 + 0 ≤ _; omega
    · have := size_joinX 3 (outC ls); have := sizes_outC ls; omega
theorem size_hd {r : Rx} (h : r.subs ≠ []) : size (hdX r) + sizes r.subs.tail + 1 = size r := by
  cases r with | mk k a b c d l =>
    cases l with
    | nil => exact absurd rfl h
    | cons x l => simp [hdX, Rx.subs, size, sizes]; omega
theorem all_joinX {p : Rx → Prop} {k : Int} {l : List Rx} (hk : l.length ≠ 1 → p (mk0 k l)) (h : ∀ x ∈ l, allX p x) : allX p (joinX k l) := by
  unfold joinX
  split
  · exact h _ (by simp)
  · rename_i hne
    exact allX_iff.2 ⟨hk (fun e => by
      match l, e with
      | [r], _ => exact hne r rfl), h⟩
theorem mem_catF {p : Rx → Prop} {x y : Rx} (h : allX p x) (hy : y ∈ catF x) : allX p y := by
  unfold catF at hy
  split at hy
  · exact (allX_iff.1 h).2 y hy
  · split at hy
    · cases hy
    · rw [List.mem_singleton.1 hy]; exact h
theorem mem_altF {p : Rx → Prop} {x y : Rx} (h : allX p x) (hy : y ∈ altF x) : allX p y := by
  unfold altF at hy
  split at hy
  · exact (allX_iff.1 h).2 y hy
  · split at hy
    · cases hy
    · rw [List.mem_singleton.1 hy]; exact h
theorem mem_foldl {l out : List Rx} {y : Rx} (h : y ∈ l.foldl addX out) : y ∈ out ∨ y ∈ l := by
  induction l generalizing out with
  | nil => exact .inl h
  | cons x l ih =>
    rcases ih h with h1 | h1
    · unfold addX at h1
      split at h1
      · exact .inl h1
      · rcases List.mem_append.1 h1 with h1 | h1
        · exact .inl h1
        · rw [List.mem_singleton.1 h1]; exact .inr (List.mem_cons_self ..)
    · exact .inr (List.mem_cons_of_mem _ h1)
theorem mem_outA {ls : List Rx} {y : Rx} (h : y ∈ outA ls) : ∃ x ∈ ls, y ∈ altF x := by
  rcases mem_foldl h with h | h
  · cases h
  · exact List.mem_flatMap.1 h
theorem mem_outC {ls : List Rx} {y : Rx} (h : y ∈ outC ls) : ∃ x ∈ ls, y ∈ catF x := List.mem_flatMap.1 h
structure Closed (p : Rx → Prop) : Prop where
  nil : p nilX
  emp : p empX
  cat : ∀ l : List Rx, 2 ≤ l.length → l.length ≤ 2 ^ 40 → p (mk0 3 l)
  alt : ∀ l : List Rx, 2 ≤ l.length → l.length ≤ 2 ^ 40 → p (mk0 4 l)
section
variable {p : Rx → Prop} (hp : Closed p)
include hp
theorem Closed.nilX : allX p nilX := allX_iff.2 ⟨hp.nil, fun _ h => by cases h⟩
theorem Closed.empX : allX p empX := allX_iff.2 ⟨hp.emp, fun _ h => by cases h⟩
theorem Closed.catX {ls : List Rx} (h : ∀ x ∈ ls, allX p x) (ho : (outC ls).length ≤ 2 ^ 40) : allX p (catX ls) := by
  unfold Rx.catX
  split
  · exact hp.nilX
  · split
    · exact hp.empX
    · rename_i hne
      refine all_joinX (fun h1 => hp.cat _ ?_ ho) fun x hx => ?_
      · have : 0 < (outC ls).length := List.length_pos_iff.2 hne
        omega
      · obtain ⟨y, hy, hxy⟩ := mem_outC hx
        exact mem_catF (h y hy) hxy
theorem Closed.altX {ls : List Rx} (h : ∀ x ∈ ls, allX p x) (ho : (outA ls).length ≤ 2 ^ 40) : allX p (altX ls) := by
  unfold Rx.altX
  split
  · exact hp.nilX
  · rename_i hne
    refine all_joinX (fun h1 => hp.alt _ ?_ ho) fun x hx => ?_
    · have : 0 < (outA ls).length := List.length_pos_iff.2 hne
      omega
    · obtain ⟨y, hy, hxy⟩ := mem_outA hx
      exact mem_altF (h y hy) hxy
theorem Closed.hdX {r : Rx} (h : allX p r) : allX p (hdX r) := by
  unfold Rx.hdX
  cases hl : r.subs with
  | nil => exact hp.nilX
  | cons x l => exact (allX_iff.1 h).2 x (by rw [hl]; exact List.mem_cons_self ..)
theorem Closed.der (b : Nat) : ∀ (n : Nat) (r : Rx), allX p r → derOk b n r = true → allX p (der b n r)
  | 0, r, _, _ => hp.nilX
  | n + 1, r, h, ho => by
    unfold derOk at ho
    unfold Rx.der
    have hh := hp.hdX h
    split
    · split
      · exact hp.empX
      · exact hp.nilX
    · split
      · rename_i h5
        rw [if_pos h5, Bool.and_eq_true, catOk_iff] at ho
        have := Closed.der b n _ hh ho.1
        exact hp.catX (fun x hx => by
          rcases List.mem_cons.1 hx with rfl | hx
          · exact this
          · rw [List.mem_singleton.1 hx]; exact h) ho.2
      · rename_i h5
        rw [if_neg h5] at ho
        split
        · rename_i h4
          rw [if_pos h4, Bool.and_eq_true, altOk_iff] at ho
          refine hp.altX (fun x hx => ?_) ho.2
          obtain ⟨y, hy, rfl⟩ := List.mem_map.1 hx
          exact Closed.der b n y ((allX_iff.1 h).2 y hy) (List.all_eq_true.1 ho.1 y hy)
        · rename_i h4
          rw [if_neg h4] at ho
          split
          · rename_i h3
            rw [if_pos h3] at ho
            simp only [Bool.and_eq_true, catOk_iff, Bool.or_eq_true, Bool.not_eq_true', altOk_iff] at ho
            obtain ⟨o1, o2, o3, o4⟩ := ho
            have hrest : allX p (Rx.catX r.subs.tail) := hp.catX (fun x hx => (allX_iff.1 h).2 x (List.mem_of_mem_tail hx)) o2
            have hfirst : allX p (Rx.catX [Rx.der b n (Rx.hdX r), Rx.catX r.subs.tail]) := hp.catX (fun x hx => by
              rcases List.mem_cons.1 hx with rfl | hx
              · exact Closed.der b n _ hh o1
              · rw [List.mem_singleton.1 hx]; exact hrest) o3
            split
            · rename_i hn
              rcases o4 with o4 | ⟨o4, o5⟩
              · rw [hn] at o4; cases o4
              · refine hp.altX (fun x hx => ?_) o5
                rcases List.mem_cons.1 hx with rfl | hx
                · exact hfirst
                · rw [List.mem_singleton.1 hx]; exact Closed.der b n _ hrest o4
            · exact hfirst
          · exact hp.nilX
end
theorem closed_node : Closed nodeOk := by
  have hw : ∀ (k : Int) (l : List Rx), ∀ i < 4, 0 ≤ (mk0 k l).w i ∧ (mk0 k l).w i < 2 ^ 64 := fun k l i hi => by
    rcases (show i = 0 ∨ i = 1 ∨ i = 2 ∨ i = 3 by omega) with rfl | rfl | rfl | rfl <;> exact ⟨Int.le_refl _, (by decide : (0 : Int) < 2 ^ 64)⟩
  refine ⟨⟨rfl, hw _ _⟩, ⟨rfl, hw _ _⟩, fun l h _ => ⟨?_, hw _ _⟩, fun l h _ => ⟨?_, hw _ _⟩⟩
  · simp [nodeErr, mk0, Rx.kind, Rx.w, Rx.subs]; omega
  · simp [nodeErr, mk0, Rx.kind, Rx.w, Rx.subs]; omega
def lenOk (r : Rx) : Prop := r.subs.length ≤ 2 ^ 40
theorem closed_len : Closed lenOk := ⟨Nat.zero_le _, Nat.zero_le _, fun l _ h => h, fun l _ h => h⟩
theorem lens_all : ∀ (n : Nat) (r : Rx), size r ≤ n → (lens (2 ^ 40) r ↔ allX lenOk r)
  | 0, r, h => by have := size_pos r; omega
  | n + 1, r, h => by
    rw [lens_iff, allX_iff]
    refine and_congr Iff.rfl (forall_congr' fun x => ?_)
    refine ⟨fun h1 hx => ?_, fun h1 hx => ?_⟩
    · obtain ⟨i, hi, rfl⟩ := List.mem_iff_getElem.1 hx
      exact (lens_all n _ (by have := size_sub hi; omega)).1 (h1 hx)
    · obtain ⟨i, hi, rfl⟩ := List.mem_iff_getElem.1 hx
      exact (lens_all n _ (by have := size_sub hi; omega)).2 (h1 hx)
theorem lens_iff_all (r : Rx) : lens (2 ^ 40) r ↔ allX lenOk r := lens_all _ r (Nat.le_refl _)
theorem der_lens {b n : Nat} {r : Rx} (h : lens (2 ^ 40) r) (ho : derOk b n r = true) : lens (2 ^ 40) (der b n r) := (lens_iff_all _).2 (closed_len.der b n r ((lens_iff_all _).1 h) ho)
theorem catX_lens {ls : List Rx} (h : ∀ x ∈ ls, lens (2 ^ 40) x) (ho : (outC ls).length ≤ 2 ^ 40) : lens (2 ^ 40) (catX ls) := (lens_iff_all _).2 (closed_len.catX (fun x hx => (lens_iff_all _).1 (h x hx)) ho)
theorem node_kinds {r : Rx} (h : nodeErr r = 0) : 0 ≤ r.kind ∧ r.kind ≤ 5 ∧ ((r.kind = 3 ∨ r.kind = 4) → 2 ≤ r.subs.length) ∧ (r.kind = 5 → r.subs.length = 1) ∧ (r.kind < 3 → r.subs = []) := by
  unfold nodeErr at h
  split at h
  · omega
  · rename_i h1
    split at h
    · split at h
      · omega
      · refine ⟨by omega, by omega, fun _ => by omega, fun _ => by omega, fun _ => by omega⟩
    · split at h
      · split at h
        · omega
        · refine ⟨by omega, by omega, fun _ => by omega, fun _ => by omega, fun _ => by omega⟩
      · split at h
        · omega
        · refine ⟨by omega, by omega, fun _ => by omega, fun _ => by omega, fun _ => List.length_eq_zero_iff.1 (by omega)⟩
theorem hdX_get {r : Rx} (h : 0 < r.subs.length) : hdX r = r.subs[0] := by
  unfold hdX
  generalize r.subs = l at h
  cases l with
  | nil => cases h
  | cons x l => rfl
theorem encs_tail : ∀ l : List Rx, gSub (encs l) 1 (l.length : Int) = encs l.tail := fun l => by
  unfold gSub
  rw [List.take_of_length_le (by simp)]
  cases l with
  | nil => rfl
  | cons x l => rfl
theorem encs2 (a b : Rx) : [enc a, enc b] = encs [a, b] := rfl
theorem c41 : ∀ (n : Nat) (b : Nat) (r : Rx), b < 256 → size r ≤ n → allX nodeOk r → lens (2 ^ 40) r → derOk b n r = true → Holds Try.prog 41 [A.agg (enc r), A.d (.lit (.int .u8 b))] [] (Ret (encA (der b n r))) := by
  intro n
  induction n with
  | zero => intro b r _ h; have := size_pos r; omega
  | succ n ih =>
    intro b r hb hs hno hl ho
    have hnode := (allX_iff.1 hno).1
    have hkinds := node_kinds hnode.1
    have hll := (lens_iff.1 hl).1
    unfold derOk at ho
    refine w41 (enc r) b ⟨teq6 r, by simp, fun h2 => ?_, fun h2 => ⟨fun h5 => ?_, fun h5 => ⟨fun h4 => ?_, fun h4 => ⟨fun h3 => ?_, fun h3 => ?_⟩⟩⟩⟩
    · rw [enc0, dint_int] at h2
      have h2 := of_teq h2
      rw [enc1, enc2, enc3, enc4]
      refine call1 (c55w r b hb hnode.2) ⟨_, rfl, rfl, fun h => ?_, fun h => ?_⟩
      · have : der b (n + 1) r = empX := by unfold der; rw [if_pos h2, h]; rfl
        rw [this]; exact ⟨rfl, rfl⟩
      · have : der b (n + 1) r = nilX := by unfold der; rw [if_pos h2, h]; rfl
        rw [this]; exact ⟨rfl, rfl⟩
    · rw [enc0, dint_int] at h2 h5
      have h2 := of_feq h2
      have h5 := of_teq h5
      rw [if_pos h5, Bool.and_eq_true, catOk_iff] at ho
      have h1 : 0 < r.subs.length := by have := hkinds.2.2.2.1 h5; omega
      have hsub := size_sub h1
      rw [enc5, dlst_slc, gAt_encs (x := 0) (i := 0) rfl h1, ← hdX_get h1]
      have hx := ih b (hdX r) hb (by rw [hdX_get h1]; omega) (closed_node.hdX hno) (by rw [hdX_get h1]; exact lens_sub hl h1) ho.1
      refine ⟨by simp, tlt (by simp; omega), teq6 _, _, fun _ => hx, teq6 _, ?_⟩
      rw [show [enc (der b n (hdX r)), enc r] = encs [der b n (hdX r), r] from rfl]
      have : der b (n + 1) r = catX [der b n (hdX r), r] := by
        conv => lhs; unfold der
        rw [if_neg h2, if_pos h5]
      rw [this]
      exact call1 (c56 _ (by simp) ho.2) ⟨_, rfl, rfl, teq6 _, rfl, rfl⟩
    · rw [enc0, dint_int] at h2 h5 h4
      have h2 := of_feq h2
      have h5 := of_feq h5
      have h4 := of_teq h4
      rw [if_neg h5, if_pos h4, Bool.and_eq_true, altOk_iff] at ho
      have h1 : 0 < r.subs.length := by have := hkinds.2.2.1 (.inr h4); omega
      have hder : der b (n + 1) r = altX (r.subs.map (der b n)) := by
        conv => lhs; unfold der
        rw [if_neg h2, if_neg h5, if_pos h4]
      have hcall : ∀ i (h : i < r.subs.length), Holds Try.prog 41 [A.agg (enc r.subs[i]), A.d (.lit (.int .u8 b))] [] (Ret (encA (der b n r.subs[i]))) := fun i h =>
        ih b _ hb (by have := size_sub h; omega) ((allX_iff.1 hno).2 _ (List.getElem_mem h)) (lens_sub hl h) (List.all_eq_true.1 ho.1 _ (List.getElem_mem h))
      have hfin : Holds Try.prog 57 [A.d (.slc (encs (r.subs.map (der b n))))] [] (Ret (encA (altX (r.subs.map (der b n))))) := c57 _ (by simpa using hll) (fun x hx => by
        obtain ⟨y, hy, rfl⟩ := List.mem_map.1 hx
        exact der_lens ((lens_iff.1 hl).2 y hy) (List.all_eq_true.1 ho.1 y hy)) ho.2
      rw [hder, enc5, dlst_slc]
      refine ⟨rfl, True, r.subs.length, fun o x _ _ _ _ _ _ => ∃ i : Nat, x = i ∧ i ≤ r.subs.length ∧ o = encs ((r.subs.take i).map (der b n)), fun _ x _ _ _ _ _ _ => r.subs.length - x.toNat, trivial, fun _ => ⟨fun hp => ?_, fun hp => ?_⟩, ?_, trivial⟩
      · rw [gAt_encs (x := 0) (i := 0) rfl h1]
        refine ⟨teq6 _, call1 (hcall 0 h1) ⟨_, rfl, rfl, teq6 _, flat1 _, tle (by simp), tle (by simp), ⟨1, rfl, h1, ?_⟩, by simp; omega⟩⟩
        rw [take_snoc _ _ h1]; rfl
      · have hp := of_flt hp
        rw [encs_length] at hp
        omega
      · rintro o x _ _ _ _ _ _ ⟨i, rfl, hi, rfl⟩
        refine ⟨fun hp => ?_, fun hp => ?_⟩
        · have hp := of_tlt hp
          rw [encs_length] at hp
          have hp1 : i < r.subs.length := by omega
          rw [gAt_encs rfl hp1]
          refine ⟨tle (by omega), teq6 _, call1 (hcall i hp1) ⟨_, rfl, rfl, teq6 _, flat1 _, tle (by simp; omega), tle (by simp; omega), tle (by omega), tle (by omega), ⟨i + 1, rfl, hp1, ?_⟩, by simp only [Int.toNat_natCast]; omega⟩⟩
          rw [take_snoc _ _ hp1, List.map_append, ← encs_append]; rfl
        · have hp := of_flt hp
          rw [encs_length] at hp
          rw [List.take_of_length_le (show r.subs.length ≤ i by omega)]
          exact call1 hfin ⟨_, rfl, rfl, teq6 _, rfl, rfl⟩
    · rw [enc0, dint_int] at h2 h5 h4 h3
      have h2 := of_feq h2
      have h5 := of_feq h5
      have h4 := of_feq h4
      have h3 := of_teq h3
      rw [if_neg h5, if_neg h4, if_pos h3] at ho
      simp only [Bool.and_eq_true, catOk_iff, Bool.or_eq_true, Bool.not_eq_true', altOk_iff] at ho
      obtain ⟨o1, o2, o3, o4⟩ := ho
      have h1 : 2 ≤ r.subs.length := hkinds.2.2.1 (.inl h3)
      have h0 : 0 < r.subs.length := by omega
      have hne : r.subs ≠ [] := fun e => by rw [e] at h0; cases h0
      have hsz := size_hd hne
      have hszp := size_pos (hdX r)
      have hszc := size_catX r.subs.tail
      have hlh : lens (2 ^ 40) (hdX r) := by rw [hdX_get h0]; exact lens_sub hl h0
      have hlt : ∀ x ∈ r.subs.tail, lens (2 ^ 40) x := fun x hx => (lens_iff.1 hl).2 x (List.mem_of_mem_tail hx)
      have hlr := catX_lens hlt o2
      have hnt : ∀ x ∈ r.subs.tail, allX nodeOk x := fun x hx => (allX_iff.1 hno).2 x (List.mem_of_mem_tail hx)
      have hnr := closed_node.catX hnt o2
      have hder : der b (n + 1) r = (if null (hdX r) then altX [catX [der b n (hdX r), catX r.subs.tail], der b n (catX r.subs.tail)] else catX [der b n (hdX r), catX r.subs.tail]) := by
        conv => lhs; unfold der
        rw [if_neg h2, if_neg h5, if_neg h4, if_pos h3]
      rw [hder, enc5, dlst_slc, encs_length, encs_tail, gAt_encs (x := 0) (i := 0) rfl h0, ← hdX_get h0]
      have hx := ih b (hdX r) hb (by omega) (closed_node.hdX hno) hlh o1
      refine ⟨rfl, flatE _, tle (by omega), tle (by omega), call1 (c56 r.subs.tail (by simp; omega) o2) ⟨_, rfl, rfl, teq6 _, tlt (by omega), teq6 _, _, fun _ => hx, teq6 _, ?_⟩⟩
      rw [show [enc (der b n (hdX r)), enc (catX r.subs.tail)] = encs [der b n (hdX r), catX r.subs.tail] from rfl]
      refine ⟨_, fun _ => c56 _ (by simp) o3, teq6 _, call1 (c42 _ (hdX r) (Nat.le_refl _) hlh) ⟨_, rfl, rfl, fun hn => ?_, fun hn => ?_⟩⟩
      · rcases o4 with o4 | ⟨o4, o5⟩
        · rw [hn] at o4; cases o4
        · have hy := ih b (catX r.subs.tail) hb (by omega) hnr hlr o4
          refine ⟨_, fun _ => hy, teq6 _, ?_⟩
          rw [show [enc (catX [der b n (hdX r), catX r.subs.tail]), enc (der b n (catX r.subs.tail))] = encs [catX [der b n (hdX r), catX r.subs.tail], der b n (catX r.subs.tail)] from rfl, hn]
          refine call1 (c57 _ (by simp) (fun x hx => ?_) o5) ⟨_, rfl, rfl, teq6 _, rfl, rfl⟩
          rcases List.mem_cons.1 hx with rfl | hx
          · refine catX_lens (fun y hy => ?_) o3
            rcases List.mem_cons.1 hy with rfl | hy
            · exact der_lens hlh o1
            · rw [List.mem_singleton.1 hy]; exact hlr
          · rw [List.mem_singleton.1 hx]; exact der_lens hlr o4
      · rw [hn]
        exact ⟨rfl, rfl⟩
    · rw [enc0, dint_int] at h2 h5 h4 h3
      have h2 := of_feq h2
      have h5 := of_feq h5
      have h4 := of_feq h4
      have h3 := of_feq h3
      have : der b (n + 1) r = nilX := by unfold der; rw [if_neg h2, if_neg h5, if_neg h4, if_neg h3]
      rw [this]; exact ⟨rfl, rfl⟩
end Go.Rx
end
section
open Go Go.Proofs Go.Ab Go.Rf
set_option maxRecDepth 100000
namespace Go.Rx
def rangeOk (r : Rx) : Prop := ∀ i < 4, 0 ≤ r.w i ∧ r.w i < 2 ^ 64
theorem chk_nodes : ∀ (n : Nat) (r : Rx) (lvl : Int), size r ≤ n → chk lvl r = 0 → allX (fun r => nodeErr r = 0) r
  | 0, r, _, h, _ => by have := size_pos r; omega
  | n + 1, r, lvl, h, hc => by
    rw [chk_eq] at hc
    split at hc
    · cases hc
    · split at hc
      · rename_i hne; exact absurd hc hne
      · rename_i hne
        refine allX_iff.2 ⟨by omega, fun x hx => ?_⟩
        obtain ⟨i, hi, rfl⟩ := List.mem_iff_getElem.1 hx
        refine chk_nodes n _ (lvl + 1) (by have := size_sub hi; omega) ?_
        have key : ∀ (l : List Rx), chks (lvl + 1) l = 0 → ∀ j (hj : j < l.length), chk (lvl + 1) l[j] = 0 := fun l => by
          induction l with
          | nil => intro _ j hj; cases hj
          | cons y l ih =>
            intro h j hj
            simp only [chks] at h
            split at h
            · rename_i hy; exact absurd h hy
            · rename_i hy
              cases j with
              | zero => show chk (lvl + 1) y = 0; omega
              | succ j => exact ih h j (by simpa using hj)
        exact key _ hc i hi
theorem allX_and {p q : Rx → Prop} : ∀ (n : Nat) (r : Rx), size r ≤ n → allX p r → allX q r → allX (fun r => p r ∧ q r) r
  | 0, r, h, _, _ => by have := size_pos r; omega
  | n + 1, r, h, h1, h2 => by
    rw [allX_iff] at h1 h2 ⊢
    refine ⟨⟨h1.1, h2.1⟩, fun x hx => ?_⟩
    obtain ⟨i, hi, rfl⟩ := List.mem_iff_getElem.1 hx
    exact allX_and n _ (by have := size_sub hi; omega) (h1.2 _ hx) (h2.2 _ hx)
theorem nodes_of {r : Rx} (hr : allX rangeOk r) (hc : chk 1 r = 0) : allX nodeOk r := allX_and _ r (Nat.le_refl _) (chk_nodes _ r 1 (Nat.le_refl _) hc) hr
def D1 (r : Rx) (b : UInt8) : Rx := der b.toNat (size r) r
def ok1 (r : Rx) (b : UInt8) : Bool := derOk b.toNat (size r) r
def derS (r : Rx) (s : List UInt8) : Rx := s.foldl D1 r
def matchOk : Rx → List UInt8 → Bool
  | _, [] => true
  | r, b :: s => ok1 r b && matchOk (D1 r b) s
def matchV (r : Rx) (s : List UInt8) : Bool := decide (chk 1 r = 0) && null (derS r s)
theorem gByte_get {s : List UInt8} {i : Nat} (h : i < s.length) : gByte s (i : Int) = (s[i].toNat : Nat) := by
  simp [gByte, List.getD, h]
theorem c24 (r : Rx) (s : List UInt8) (hr : allX rangeOk r) (hl : lens (2 ^ 40) r) (hs : s.length ≤ 2 ^ 40) (hok : chk 1 r = 0 → matchOk r s = true) : Holds Try.prog 24 [A.agg (enc r), A.d (.lit (bytesV s))] [] (Ret (boolA (matchV r s))) := by
  refine w24 (enc r) s ⟨teq6 r, call1 (c15 r hl) ⟨_, rfl, rfl, fun hc => ?_, fun hc => ?_⟩⟩
  · have hc := nteq hc
    have : matchV r s = false := by unfold matchV; rw [decide_eq_false hc]; rfl
    rw [this]; exact ⟨rfl, rfl⟩
  · have hc := nfeq hc
    have hm := hok hc
    have hno := nodes_of hr hc
    refine ⟨fun x a b c d e f => ∃ i : Nat, ∃ q, x = i ∧ i ≤ s.length ∧ [a, b, c, d, e, f] = enc q ∧ q = derS r (s.take i) ∧ allX nodeOk q ∧ lens (2 ^ 40) q ∧ matchOk q (s.drop i) = true, fun x _ _ _ _ _ _ => s.length - x.toNat, ⟨0, r, rfl, Nat.zero_le _, enc_cells r, rfl, hno, hl, hm⟩, ?_, trivial⟩
    rintro x a b c d e f ⟨i, q, rfl, hi, he, hq, hno, hl, hm⟩
    refine ⟨fun hp => ?_, fun hp => ?_⟩
    · have hp := of_tlt hp
      have hp1 : i < s.length := by omega
      rw [gByte_get hp1, he]
      have hd : s.drop i = s[i] :: s.drop (i + 1) := by rw [List.drop_eq_getElem_cons hp1]
      rw [hd] at hm
      simp only [matchOk, Bool.and_eq_true] at hm
      refine ⟨tle (by omega), call1 (c41 (size q) s[i].toNat q s[i].toNat_lt (Nat.le_refl _) hno hl hm.1) ⟨_, rfl, rfl, teq6 _, tle (by omega), tle (by omega), ⟨i + 1, D1 q s[i], rfl, hp1, enc_cells _, ?_, closed_node.der _ _ _ hno hm.1, der_lens hl hm.1, hm.2⟩, by simp only [Int.toNat_natCast]; omega⟩⟩
      rw [take_snoc _ _ hp1]
      show _ = ((s.take i ++ [s[i]]).foldl D1 r)
      rw [List.foldl_append, hq]; rfl
    · have hp := of_flt hp
      rw [List.take_of_length_le (show s.length ≤ i by omega)] at hq
      rw [he]
      refine call1 (c42 _ q (Nat.le_refl _) hl) ⟨_, rfl, rfl, ?_⟩
      have : matchV r s = null q := by unfold matchV; rw [decide_eq_true hc, hq]; rfl
      rw [this]; exact ⟨rfl, rfl⟩
def deriveV (r : Rx) (b : UInt8) : Rx := if chk 1 r = 0 then D1 r b else nilX
theorem c29 (r : Rx) (b : UInt8) (hr : allX rangeOk r) (hl : lens (2 ^ 40) r) (hok : chk 1 r = 0 → ok1 r b = true) : Holds Try.prog 29 [A.agg (enc r), A.d (.lit (.int .u8 b.toNat))] [] (Ret (encA (deriveV r b))) := by
  refine w29 (enc r) b.toNat ⟨teq6 r, call1 (c15 r hl) ⟨_, rfl, rfl, fun hc => ?_, fun hc => ?_⟩⟩
  · have hc := nteq hc
    have : deriveV r b = nilX := by unfold deriveV; rw [if_neg hc]
    rw [this]; exact ⟨rfl, rfl⟩
  · have hc := nfeq hc
    have : deriveV r b = D1 r b := by unfold deriveV; rw [if_pos hc]
    rw [this]
    exact call1 (c41 (size r) b.toNat r b.toNat_lt (Nat.le_refl _) (nodes_of hr hc) hl (hok hc)) ⟨_, rfl, rfl, teq6 _, rfl, rfl⟩
end Go.Rx
end
section
open Go Go.Proofs Go.Ab Go.Rf Go.ChangeShapes Go.WideShapes
set_option maxRecDepth 100000
namespace Go.Rx
theorem cells27 : Try.prog.cellsOf 27 = 6 := by kernel_rfl
theorem cells3 : Try.prog.cellsOf 3 = 1 := by kernel_rfl
theorem cells24 : Try.prog.cellsOf 24 = 4 := by kernel_rfl
theorem cells25 : Try.prog.cellsOf 25 = 1 := by kernel_rfl
theorem cells22 : Try.prog.cellsOf 22 = 1 := by kernel_rfl
def prW (w : World) : Nat → Nat → Prop := fun b _ => b < w.heap.size
def ghW (w : World) : Gh := ⟨prW w, fun _ => 0, fun _ => 0, fun _ => False⟩
theorem cell_lt {w : World} {a : Addr} {v : Value} (h : w.cell? a = some v) : a.block < w.heap.size := by
  unfold World.cell? at h
  by_cases hb : a.block < w.heap.size
  · exact hb
  · simp [Array.getElem?_eq_none (by omega : w.heap.size ≤ a.block)] at h
theorem Holds.out {P : Program} {f : FuncId} {args : List A} {v : A} (h : Holds P f args [] (Ret v)) {w : World} {cargs : Array Value}
    (ha : All2 (fun x v => ∀ p, RepA w (ghW w) (fun _ => 0) p x v) args cargs.toList) :
    CallsX P f cargs w fun e w' => ∃ cv g', e = .returned cv ∧ RepA w' g' (fun _ => 0) .res v cv ∧ RowKit.Below w.heap.size w w' := by
  have hh : HeapRel (entryCtx P w (ghW w) [] 0) (boxSt []) (ghW w) w := by
    have no : ∀ {o b}, ¬ Owns (boxSt []) (ghW w) o b := fun ho => by
      cases ho with
      | box h => cases h
      | slot h => cases h
      | cell h _ _ => cases h
    exact ⟨fun r c h => (by cases h), fun o o' b h _ => (no h).elim, fun o b h => (no h).elim, fun b o h => h, fun _ _ h => h, fun _ _ h => .inl h, fun _ => rfl, fun _ h => h, Fr.refl _ _ _⟩
  refine (h w cargs (ghW w) ha hh).mono fun e w' ⟨out, H', g', hR, hH, hr, he⟩ => ?_
  obtain ⟨rfl, rfl⟩ := hR
  obtain ⟨cv, rfl, h1, _⟩ := he
  refine ⟨cv, g', rfl, h1, hr.fr.os, hr.fr.tape, hr.fr.output, hr.fr.size, fun b hb => hr.fr.same b hb ?_⟩
  rintro ⟨o, ho⟩
  cases ho with
  | box h => cases h
  | slot h => cases h
  | cell h _ _ => cases h
theorem callsX_body {P : Program} {f : FuncId} {fn : Func} {c : Code} (hf : P.funcs[f]? = some fn) (hb : fn.body = some c) (hn : (fn.name == "runtime.NumGoroutine") = false) {args : Array Value} {w : World} {R : Ending → World → Prop}
    (h : CallsX P f args w R) : Calls P f args w R := by
  unfold CallsX at h
  rw [run_callFunc hf hb hn] at h
  exact h
theorem wf_i64 {n : Int} (h : (Lit.int .i64 n).wf = true) : -2 ^ 63 ≤ n ∧ n < 2 ^ 63 := by
  have := bounds_i64 h; omega
theorem wf_u64 {n : Int} (h : (Lit.int .u64 n).wf = true) : 0 ≤ n ∧ n < 2 ^ 64 := by
  have := bounds_u64 h; omega
section
variable {H : Type} {en : TypeId × Value → H} {w : World}
theorem cells_get {a : Addr} {n : Nat} {cs : List Value} (h : w.cells? 0 a n = some cs) : cs.length = n ∧ ∀ i, i < n → w.cell? (a.add i) = cs[i]? := by
  unfold World.cells? at h
  rw [if_pos (Nat.zero_le _)] at h
  have hl := mapM_some_length h
  simp only [List.length_range] at hl
  refine ⟨hl, fun i hi => mapM_some_get h i i (by simp [hi])⟩
theorem open_word {fuel : Nat} {k : IntKind} {t : TypeId} {v : Value} {x : DataW H × List MemPlace} (ht : Try.prog.underlying t = some (.int k)) (h : DataW.trod en Try.prog w 0 (fun _ => true) true fuel t [v] = some x) :
    ∃ n, v = .int k n ∧ (Lit.int k n).wf = true := by
  obtain ⟨n, h1, _, h2⟩ := DataW.trod_int ht h
  exact ⟨n, by simpa using h1, h2⟩
theorem enc_mk (k a b c d : Int) (l : List Rx) : enc (.mk k a b c d l) = [.lit (.int .i64 k), .lit (.int .u64 a), .lit (.int .u64 b), .lit (.int .u64 c), .lit (.int .u64 d), .slc (encs l)] := by unfold enc; rfl
theorem slc_rx {b off cap : Nat} (l : List Rx) (hc : l.length ≤ cap) (V : Nat → List Value) (h : ∀ i (hi : i < l.length), (V i).length = 6 ∧ All2 (RepD w (prW w)) (enc l[i]) (V i) ∧ ∀ j, j < 6 → w.cell? ⟨b, off + (i * 6 + j), none⟩ = (V i)[j]?) :
    RepD w (prW w) (.slc (encs l)) (.slice (some ⟨b, off, none⟩) l.length cap) := by
  have hk : ∀ k, k < l.length * 6 → w.cell? ⟨b, off + k, none⟩ = some ((V (k / 6)).getD (k % 6) .nilIface) := by
    intro k hk
    have hi : k / 6 < l.length := by omega
    obtain ⟨h1, _, h3⟩ := h _ hi
    have := h3 (k % 6) (Nat.mod_lt _ (by decide))
    rw [show k / 6 * 6 + k % 6 = k by omega] at this
    rw [this, List.getElem?_eq_getElem (by rw [h1]; exact Nat.mod_lt _ (by decide))]
    simp [List.getD, List.getElem?_eq_getElem (show k % 6 < (V (k / 6)).length by rw [h1]; exact Nat.mod_lt _ (by decide))]
  have hlen := encs_length l
  rw [← hlen]
  refine .slc (encs l) 6 b off cap _ (by decide) ?_ (by rw [hlen]; exact hc) (fun k hk' => hk k (by rw [hlen] at hk'; exact hk')) (fun k hk' => cell_lt (hk k (by rw [hlen] at hk'; exact hk'))) ?_
  · intro e he
    obtain ⟨i, hi, rfl⟩ := List.getElem_of_mem he
    have := encs_get l i
    rw [List.getElem?_eq_getElem hi, List.getElem?_eq_getElem (by rw [hlen] at hi; exact hi)] at this
    rw [Option.some.inj this]; exact enc_length _
  · intro i j hi hj
    have hi' : i < l.length := by rw [hlen] at hi; exact hi
    have e : (encs l)[i] = enc l[i] := by
      have := encs_get l i
      rw [List.getElem?_eq_getElem hi, List.getElem?_eq_getElem hi'] at this
      exact Option.some.inj this
    have hj' : j < 6 := by rw [e, enc_length] at hj; exact hj
    obtain ⟨h1, h2, _⟩ := h i hi'
    have hje : j < (enc l[i]).length := by rw [enc_length]; exact hj'
    obtain ⟨v, hv, hr⟩ := all2_get h2 j ((enc l[i])[j]) (List.getElem?_eq_getElem hje)
    rw [show (i * 6 + j) / 6 = i by omega, show (i * 6 + j) % 6 = j by omega]
    simp only [e]
    simpa [List.getD, hv] using hr
theorem open_rx (fuel : Nat) : ∀ (cs : List Value) (x : DataW H × List MemPlace), DataW.trod en Try.prog w 0 (fun _ => true) true fuel 27 cs = some x →
    ∃ r : Rx, cs.length = 6 ∧ All2 (RepD w (prW w)) (enc r) cs ∧ allX rangeOk r := by
  induction fuel using Nat.strongRecOn with
  | ind fuel ih =>
    intro cs x h
    obtain ⟨xs, n, rfl, rfl, hl, hxs, hf⟩ := DataW.trod_struct Try.underlying27 h
    rw [cells27] at hl
    match cs, hl with
    | [v0, v1, v2, v3, v4, v5], _ =>
      match xs, hxs with
      | [y0, y1, y2], _ =>
        have h0 : DataW.trod en Try.prog w 0 (fun _ => true) true n 3 ((([v0, v1, v2, v3, v4, v5] : List Value).drop 0).take (Try.prog.cellsOf 3)) = some y0 := hf 0 _ rfl
        have h1 : DataW.trod en Try.prog w 0 (fun _ => true) true n 24 ((([v0, v1, v2, v3, v4, v5] : List Value).drop 1).take (Try.prog.cellsOf 24)) = some y1 := hf 1 _ rfl
        have h2 : DataW.trod en Try.prog w 0 (fun _ => true) true n 25 ((([v0, v1, v2, v3, v4, v5] : List Value).drop 5).take (Try.prog.cellsOf 25)) = some y2 := hf 2 _ rfl
        rw [cells3] at h0
        rw [cells24] at h1
        rw [cells25] at h2
        obtain ⟨k, rfl, hk⟩ := open_word Try.underlying3 h0
        obtain ⟨zs, m, rfl, _, _, hzs, hz⟩ := DataW.trod_array Try.underlying24 h1
        match zs, hzs with
        | [z0, z1, z2, z3], _ =>
          have g0 := hz 0 (by decide)
          have g1 := hz 1 (by decide)
          have g2 := hz 2 (by decide)
          have g3 := hz 3 (by decide)
          rw [cells22] at g0 g1 g2 g3
          obtain ⟨a, rfl, ha⟩ := open_word Try.underlying22 g0
          obtain ⟨b, rfl, hb⟩ := open_word Try.underlying22 g1
          obtain ⟨c, rfl, hc⟩ := open_word Try.underlying22 g2
          obtain ⟨d, rfl, hd⟩ := open_word Try.underlying22 g3
          have key : ∀ l : List Rx, RepD w (prW w) (.slc (encs l)) v5 → (∀ r ∈ l, allX rangeOk r) → ∃ r : Rx, ([Value.int .i64 k, .int .u64 a, .int .u64 b, .int .u64 c, .int .u64 d, v5] : List Value).length = 6 ∧ All2 (RepD w (prW w)) (enc r) [Value.int .i64 k, .int .u64 a, .int .u64 b, .int .u64 c, .int .u64 d, v5] ∧ allX rangeOk r := by
            intro l hl hal
            refine ⟨.mk k a b c d l, rfl, ?_, ?_⟩
            · rw [enc_mk]
              exact ⟨.lit _ rfl, .lit _ rfl, .lit _ rfl, .lit _ rfl, .lit _ rfl, hl, trivial⟩
            · refine allX_iff.2 ⟨?_, hal⟩
              intro i hi
              match i, hi with
              | 0, _ => exact wf_u64 ha
              | 1, _ => exact wf_u64 hb
              | 2, _ => exact wf_u64 hc
              | 3, _ => exact wf_u64 hd
          rcases DataW.trod_slice Try.underlying25 h2 with ⟨e, _⟩ | ⟨ad, len, cap, elems, rest, q, hq, e, _, _, hlc, _, hel, hes, _⟩
          · have e : v5 = .slice none 0 0 := by simpa using e
            exact key [] (by rw [e]; exact .emp _ _) (fun _ h => by cases h)
          · have e : v5 = .slice (some ad) len cap := by simpa using e
            rw [cells27] at hes
            have hall : ∀ i, i < len → ∃ (r : Rx) (V : List Value), V.length = 6 ∧ All2 (RepD w (prW w)) (enc r) V ∧ allX rangeOk r ∧ ∀ j, j < 6 → w.cell? ((ad.add (i * 6)).add j) = V[j]? := by
              intro i hi
              have h3 := hes i hi
              rw [List.getElem?_eq_getElem (by omega)] at h3
              obtain ⟨cs', h4, h5⟩ := Option.bind_eq_some_iff.1 h3
              obtain ⟨r, h6, h7, h8⟩ := ih q (by omega) _ _ h5
              exact ⟨r, cs', h6, h7, h8, (cells_get h4).2⟩
            have hall' : ∃ (f : Nat → Rx) (V : Nat → List Value), ∀ i, i < len → (V i).length = 6 ∧ All2 (RepD w (prW w)) (enc (f i)) (V i) ∧ allX rangeOk (f i) ∧ ∀ j, j < 6 → w.cell? ((ad.add (i * 6)).add j) = (V i)[j]? := by
              classical
              refine ⟨fun i => if h : i < len then (hall i h).choose else .mk 0 0 0 0 0 [], fun i => if h : i < len then (hall i h).choose_spec.choose else [], fun i hi => ?_⟩
              simp only [hi, dif_pos]
              exact (hall i hi).choose_spec.choose_spec
            obtain ⟨f, V, hfV⟩ := hall'
            subst e
            have hmem : ∀ r ∈ (List.range len).map f, allX rangeOk r := by
              intro r hr
              obtain ⟨i, hi, rfl⟩ := List.mem_map.1 hr
              exact (hfV i (List.mem_range.1 hi)).2.2.1
            refine key ((List.range len).map f) ?_ hmem
            by_cases h0 : len = 0
            · subst h0; exact .emp _ _
            · have sp : ad.spot = none := by
                have := (hfV 0 (by omega)).2.2.2 0 (by decide)
                rw [List.getElem?_eq_getElem (by rw [(hfV 0 (by omega)).1]; decide)] at this
                simpa [Addr.add] using World.cell?_spot this
              obtain ⟨bb, off, spot⟩ := ad
              subst sp
              have := slc_rx (w := w) (b := bb) (off := off) (cap := cap) ((List.range len).map f) (by simpa using hlc) V (fun i hi => by
                have hi' : i < len := by simpa using hi
                obtain ⟨k1, k2, _, k4⟩ := hfV i hi'
                refine ⟨k1, by simpa using k2, fun j hj => ?_⟩
                rw [← k4 j hj, ← Go.WideShapes.add_plain, Go.Deep.add_add])
              simpa using this
end
end Go.Rx
end
section
open Go Go.Proofs Go.Ab Go.Rf Go.ChangeShapes Go.WideShapes
set_option maxRecDepth 100000
namespace Go.Rx
def nilArg : Value := .agg #[.int .i64 0, .int .u64 0, .int .u64 0, .int .u64 0, .int .u64 0, .slice none 0 0]
theorem lay : laidOutB Try.prog = true := by kernel_rfl
theorem own : ownKnob Try.prog.godebug = none := by kernel_rfl
section
variable {H : Type} {en : TypeId × Value → H} {w : World} {base : Nat} {sp : Nat → Bool}
theorem arg_rx {v : Value} {d : DataW H} {p : List MemPlace} (hv : Value.okWide Try.prog w .any base 27 v) (h : DataW.Trod en Try.prog w 0 (fun _ => true) true 27 v d p) :
    ∃ r : Rx, (∀ q, RepA w (ghW w) (fun _ => 0) q (.agg (enc r)) v) ∧ allX rangeOk r := by
  obtain ⟨fuel, h⟩ := h
  simp only [Value.okWide, Try.underlying27] at hv
  obtain ⟨cs, rfl, _⟩ := hv
  obtain ⟨r, _, h2, h3⟩ := open_rx fuel _ _ h
  exact ⟨r, fun q => ⟨cs.toList, by simp, h2⟩, h3⟩
theorem arg_str {t : TypeId} {v : Value} {d : DataW H} {p : List MemPlace} (ht : Try.prog.underlying t = some .string) (hv : Value.okWide Try.prog w .any base t v) (h : DataW.Trod en Try.prog w 0 (fun _ => true) true t v d p) :
    ∃ s : List UInt8, ∀ q, RepA w (ghW w) (fun _ => 0) q (.d (.lit (bytesV s))) v := by
  obtain ⟨fuel, h⟩ := h
  obtain ⟨s, h1, _⟩ := DataW.trod_string ht h
  have : v = .string s := by
    simp only [Value.okWide, ht, Cell.okWide, Cell.ok] at hv
    cases v <;> simp_all [Value.cells]
  subst this
  refine ⟨s.data.toList, fun q => ?_⟩
  have : bytesV s.data.toList = .string s := by simp [bytesV]
  rw [this]; exact .lit _ rfl
theorem arg_int {t : TypeId} {k : IntKind} {v : Value} {d : DataW H} {p : List MemPlace} (ht : Try.prog.underlying t = some (.int k)) (hv : Value.okWide Try.prog w .any base t v) (h : DataW.Trod en Try.prog w 0 (fun _ => true) true t v d p) :
    ∃ n : Int, (Lit.int k n).wf = true ∧ ∀ q, RepA w (ghW w) (fun _ => 0) q (.d (.lit (.int k n))) v := by
  obtain ⟨fuel, h⟩ := h
  obtain ⟨n, h1, _, h2⟩ := DataW.trod_int ht h
  have : v = .int k n := by
    simp only [Value.okWide, ht, Cell.okWide, Cell.ok] at hv
    cases v <;> simp_all [Value.cells]
  subst this
  exact ⟨n, h2, fun q => .lit _ rfl⟩
theorem all_stays (hl : laidOutB Try.prog = true) {W W' : World} : ∀ {ts : List TypeId} {vs : List Value} {ds : List (DataW H)} {ps : List MemPlace}, (∀ t ∈ ts, Try.prog.readableRec t = true ∧ t < Try.prog.types.size) →
    DataW.TrodAll en Try.prog W 0 (fun _ => true) true ts vs ds ps → RowKit.Below W.heap.size W W' → (∀ p ∈ ps, p.block < W.heap.size) → (∀ p ∈ ps, sp p.block = true) → DataW.TrodAll en Try.prog W' 0 sp true ts vs ds ps
  | [], _, _, _, _, h, _, _, _ => by
    obtain ⟨rfl, rfl, rfl⟩ := trodAll_nil h
    rfl
  | t :: ts, _, _, _, ht, h, hb, hlt, hs => by
    obtain ⟨v, vs1, d, ds1, a, b, rfl, rfl, rfl, h1, h2⟩ := trodAll_cons h
    refine ⟨a, b, ?_, all_stays hl (fun t h => ht t (List.mem_cons_of_mem _ h)) h2 hb (fun p hp => hlt p (List.mem_append_right _ hp)) (fun p hp => hs p (List.mem_append_right _ hp)), rfl⟩
    exact WideElems.Trod_stays hl (ht t (List.mem_cons_self ..)).1 (ht t (List.mem_cons_self ..)).2 h1 (fun p hp => hb.same (hlt p (List.mem_append_left _ hp))) (fun p hp => hs p (List.mem_append_left _ hp))
theorem row_post {fn : Func} {s : ChangeSpec} {W W' : World} {args : Array Value} {ds gs : List (DataW H)} {before : List MemPlace} (hvs : s.vars = [])
    (hW : DataW.Whole en Try.prog fn.params.toList s.vars false W args.toList ds gs before) (hres : fn.resultTypes = #[4])
    (hspec : s.fn H ds = ⟨[.lit (.bool true)], ds, []⟩) (hl : laidOutB Try.prog = true) (hrd0 : (fn.params.toList.all fun t => Try.prog.readableRec t && decide (t < Try.prog.types.size)) = true)
    (hb : RowKit.Below W.heap.size W W') : s.post en Try.prog fn false true false false W args (.bool true) W' := by
  have hlt := hW.lt
  have hrd : ∀ t ∈ fn.params.toList, Try.prog.readableRec t = true ∧ t < Try.prog.types.size := fun t ht => by
    have := List.all_eq_true.1 hrd0 t ht
    simpa using this
  obtain ⟨p, q, hA, hV, rfl, hfz, hnd⟩ := id hW
  rw [hvs] at hV
  obtain ⟨rfl, rfl⟩ := trodVars_none hV
  have hold : ∀ x ∈ p ++ [], (fun b => decide (b < W.heap.size)) x.block = true := fun x hx => by simpa using hlt x hx
  have hr : ∀ (b : Nat) (sp : Nat → Bool) (hd : Bool), DataW.TrodAll en Try.prog W' b sp hd fn.resultTypes.toList ((Value.bool true).resultList fn.resultTypes.size) (s.fn H (ds ++ [])).results [] := fun b sp hd => by
    rw [List.append_nil, hspec, hres]
    exact trodAll_cons_mk (RowKit.shut_bool Try.underlying4 _) trodAll_mk0
  have ha : ∀ sp : Nat → Bool, (∀ x ∈ p ++ [], sp x.block = true) → DataW.TrodAll en Try.prog W' 0 sp true fn.params.toList args.toList (s.fn H (ds ++ [])).args p := fun sp hs => by
    rw [List.append_nil, hspec]
    exact all_stays hl hrd hA hb (fun x hx => hlt x (by simpa using hx)) (fun x hx => hs x (by simpa using hx))
  have hv : ∀ sp : Nat → Bool, DataW.TrodVars en Try.prog W' sp s.vars (s.fn H (ds ++ [])).vars [] := fun sp => by
    rw [List.append_nil, hspec, hvs]
    rfl
  refine ⟨ds, [], p ++ [], [], p, [], hW, hr _ _ _, ha _ hold, hv _, hb.frame _, fun _ => ⟨RowKit.ok_one hres rfl (RowKit.okWide_bool_mk Try.underlying4 _), _, _, ([] ++ p) ++ [], ⟨[] ++ p, [], trodAll_append (ha _ (fun _ _ => rfl)) (hr _ _ _), hv _, rfl, ?_, ?_⟩, ?_⟩⟩
  · intro b off hx
    have hx' : MemPlace.cell b off ∈ p ++ [] := by simpa using hx
    rw [hb.frozen (hlt _ hx')]
    exact hfz b off hx'
  · intro h; cases h
  · intro x hx _
    simpa using hx
end
end Go.Rx
end
section
open Go Go.Proofs Go.Ab Go.Rf
set_option maxRecDepth 1000000
set_option maxHeartbeats 2000000
set_option linter.unusedVariables false
namespace Go.Rx
theorem w3 {R : Out → List (Ref × List A) → Prop} (x0 : List D) (h : (tB ((x0.length : Int) == (6 : Int))) = true ∧
  ∀ _ : Nat → Nat, ∃ R' : Out → List (Ref × List A) → Prop, Holds Try.prog 13 [(A.agg x0), (A.d (D.lit (.int .i64 (60 : Int))))] [] R' ∧
  (∀ v H', R' (.ret v) H' → ∃ x1 : Int, v = (A.d (D.lit (.int .i64 x1))) ∧ H' = [] ∧
   ((tB (decide ((60 : Int) < x1))) = true →
    ∀ _ : Nat → Nat, ∃ R' : Out → List (Ref × List A) → Prop, Holds Try.prog 14 [] [] R' ∧
    (∀ v H', R' (.ret v) H' → ∃ x2 : Bool, v = (A.d (D.lit (.bool x2))) ∧ H' = [] ∧
     R (.ret (A.d (D.lit (.bool x2)))) []) ∧
    (∀ x2v H', R' (.pan x2v) H' → H' = [] ∧
     R (.pan x2v) [])) ∧
   ((tB (decide ((60 : Int) < x1))) = false →
    ∃ x2 : Int, (∀ _ : Nat → Nat, Holds Try.prog 15 [(A.agg x0)] [] (Reads [] (A.d (D.lit (.int .i64 x2))))) ∧
    ∃ x3 : Int, (∀ _ : Nat → Nat, Holds Try.prog 16 [(A.agg x0)] [] (Reads [] (A.d (D.lit (.int .i64 x3))))) ∧
    ((tB (x2 == x3)) = true →
     ∃ x4 : Int, (∀ _ : Nat → Nat, Holds Try.prog 17 [(A.agg x0)] [] (Reads [] (A.d (D.lit (.int .i64 x4))))) ∧
     ∀ _ : Nat → Nat, ∃ R' : Out → List (Ref × List A) → Prop, Holds Try.prog 18 [(A.agg x0)] [] R' ∧
     (∀ v H', R' (.ret v) H' → ∃ x5 : Int, v = (A.d (D.lit (.int .i64 x5))) ∧ H' = [] ∧
      ((tB (x4 == x5)) = true →
       ∀ _ : Nat → Nat, ∃ R' : Out → List (Ref × List A) → Prop, Holds Try.prog 14 [] [] R' ∧
       (∀ v H', R' (.ret v) H' → ∃ x6 : Bool, v = (A.d (D.lit (.bool x6))) ∧ H' = [] ∧
        R (.ret (A.d (D.lit (.bool x6)))) []) ∧
       (∀ x6v H', R' (.pan x6v) H' → H' = [] ∧
        R (.pan x6v) [])) ∧
      ((tB (x4 == x5)) = false →
       R (.ret (A.d (D.lit (.bool false)))) [])) ∧
     (∀ x5v H', R' (.pan x5v) H' → H' = [] ∧
      R (.pan x5v) [])) ∧
    ((tB (x2 == x3)) = false →
     R (.ret (A.d (D.lit (.bool false)))) []))) ∧
  (∀ x1v H', R' (.pan x1v) H' → H' = [] ∧
   R (.pan x1v) [])) :
    Holds Try.prog 3 [(A.agg x0)] [] R :=
  walk (c := ⟨Try.prog, 22, true, [0, 1, 2, 5]⟩) (op := {  }) (fn := Try.f3) (args := [.agg (.var 0)]) (K := []) (nv := 1) (depth := 5) (up := upOf []) (ρ := envOf [.r x0])
    rfl rfl rfl rfl rfl (by decide) (by decide) (by decide) (by decide) rfl (by simp [bxDen, RRef.den, upOf]) (T_of (by kernel_rfl) h)
theorem w14 {R : Out → List (Ref × List A) → Prop} (h : ∀ _ : Nat → Nat, ∃ R' : Out → List (Ref × List A) → Prop, Holds Try.prog 19 [(A.d (D.lit (bytesV ([97, 43, 98, 63] : List UInt8))))] [] R' ∧
  (∀ v H', R' (.ret v) H' → ∃ x0 : List D, ∃ x1 : List D, v = (A.tup [(true, x0), (true, x1)]) ∧ H' = [] ∧
   (tB ((x0.length : Int) == (6 : Int))) = true ∧
   (tB ((x1.length : Int) == (2 : Int))) = true ∧
   ∀ _ : Nat → Nat, ∃ R' : Out → List (Ref × List A) → Prop, Holds Try.prog 19 [(A.d (D.lit (bytesV ([91, 97, 45, 99, 93] : List UInt8))))] [] R' ∧
   (∀ v H', R' (.ret v) H' → ∃ x2 : List D, ∃ x3 : List D, v = (A.tup [(true, x2), (true, x3)]) ∧ H' = [] ∧
    (tB ((x2.length : Int) == (6 : Int))) = true ∧
    (tB ((x3.length : Int) == (2 : Int))) = true ∧
    ∀ _ : Nat → Nat, ∃ R' : Out → List (Ref × List A) → Prop, Holds Try.prog 19 [(A.d (D.lit (bytesV ([97, 124] : List UInt8))))] [] R' ∧
    (∀ v H', R' (.ret v) H' → ∃ x4 : List D, ∃ x5 : List D, v = (A.tup [(true, x4), (true, x5)]) ∧ H' = [] ∧
     (tB ((x4.length : Int) == (6 : Int))) = true ∧
     (tB ((x5.length : Int) == (2 : Int))) = true ∧
     ∀ _ : Nat → Nat, ∃ R' : Out → List (Ref × List A) → Prop, Holds Try.prog 19 [(A.d (D.lit (bytesV ([91, 98, 45, 97, 93] : List UInt8))))] [] R' ∧
     (∀ v H', R' (.ret v) H' → ∃ x6 : List D, ∃ x7 : List D, v = (A.tup [(true, x6), (true, x7)]) ∧ H' = [] ∧
      (tB ((x6.length : Int) == (6 : Int))) = true ∧
      (tB ((x7.length : Int) == (2 : Int))) = true ∧
      (Rf.isK (.int .i64) (x1.getD 0 D0)) = true ∧
      (Rf.isK (.int .i64) (x1.getD 1 D0)) = true ∧
      ((!((tB ((Rf.dint (x1.getD 0 D0)) == (0 : Int))) && (tB ((Rf.dint (x1.getD 1 D0)) == (0 : Int))))) || (Rf.isK (.int .i64) (x3.getD 0 D0))) = true ∧
      ((!((tB ((Rf.dint (x1.getD 0 D0)) == (0 : Int))) && (tB ((Rf.dint (x1.getD 1 D0)) == (0 : Int))))) || (Rf.isK (.int .i64) (x3.getD 1 D0))) = true ∧
      ((!(((tB ((Rf.dint (x1.getD 0 D0)) == (0 : Int))) && (tB ((Rf.dint (x1.getD 1 D0)) == (0 : Int)))) && ((tB ((Rf.dint (x3.getD 0 D0)) == (0 : Int))) && (tB ((Rf.dint (x3.getD 1 D0)) == (0 : Int)))))) || (Rf.isK (.int .i64) (x5.getD 0 D0))) = true ∧
      ((!(((tB ((Rf.dint (x1.getD 0 D0)) == (0 : Int))) && (tB ((Rf.dint (x1.getD 1 D0)) == (0 : Int)))) && ((tB ((Rf.dint (x3.getD 0 D0)) == (0 : Int))) && (tB ((Rf.dint (x3.getD 1 D0)) == (0 : Int)))))) || (Rf.isK (.int .i64) (x5.getD 1 D0))) = true ∧
      ((!((((tB ((Rf.dint (x1.getD 0 D0)) == (0 : Int))) && (tB ((Rf.dint (x1.getD 1 D0)) == (0 : Int)))) && ((tB ((Rf.dint (x3.getD 0 D0)) == (0 : Int))) && (tB ((Rf.dint (x3.getD 1 D0)) == (0 : Int))))) && ((tB ((Rf.dint (x5.getD 0 D0)) == (8 : Int))) && (tB ((Rf.dint (x5.getD 1 D0)) == (2 : Int)))))) || (Rf.isK (.int .i64) (x7.getD 0 D0))) = true ∧
      ((!((((tB ((Rf.dint (x1.getD 0 D0)) == (0 : Int))) && (tB ((Rf.dint (x1.getD 1 D0)) == (0 : Int)))) && ((tB ((Rf.dint (x3.getD 0 D0)) == (0 : Int))) && (tB ((Rf.dint (x3.getD 1 D0)) == (0 : Int))))) && ((tB ((Rf.dint (x5.getD 0 D0)) == (8 : Int))) && (tB ((Rf.dint (x5.getD 1 D0)) == (2 : Int)))))) || (Rf.isK (.int .i64) (x7.getD 1 D0))) = true ∧
      (((((tB ((Rf.dint (x1.getD 0 D0)) == (0 : Int))) && (tB ((Rf.dint (x1.getD 1 D0)) == (0 : Int)))) && ((tB ((Rf.dint (x3.getD 0 D0)) == (0 : Int))) && (tB ((Rf.dint (x3.getD 1 D0)) == (0 : Int))))) && ((tB ((Rf.dint (x5.getD 0 D0)) == (8 : Int))) && (tB ((Rf.dint (x5.getD 1 D0)) == (2 : Int))))) = true →
       ((tB ((Rf.dint (x7.getD 0 D0)) == (8 : Int))) = true →
        ((tB ((Rf.dint (x7.getD 1 D0)) == (3 : Int))) = true →
         ∀ _ : Nat → Nat, ∃ R' : Out → List (Ref × List A) → Prop, Holds Try.prog 24 [(A.agg x0), (A.d (D.lit (bytesV ([97] : List UInt8))))] [] R' ∧
         (∀ v H', R' (.ret v) H' → ∃ x8 : Bool, v = (A.d (D.lit (.bool x8))) ∧ H' = [] ∧
          (x8 = true →
           ∀ _ : Nat → Nat, ∃ R' : Out → List (Ref × List A) → Prop, Holds Try.prog 24 [(A.agg x0), (A.d (D.lit (bytesV ([97, 98] : List UInt8))))] [] R' ∧
           (∀ v H', R' (.ret v) H' → ∃ x9 : Bool, v = (A.d (D.lit (.bool x9))) ∧ H' = [] ∧
            (x9 = true →
             ∀ _ : Nat → Nat, ∃ R' : Out → List (Ref × List A) → Prop, Holds Try.prog 24 [(A.agg x0), (A.d (D.lit (bytesV ([97, 97, 98] : List UInt8))))] [] R' ∧
             (∀ v H', R' (.ret v) H' → ∃ x10 : Bool, v = (A.d (D.lit (.bool x10))) ∧ H' = [] ∧
              (x10 = true →
               ∀ _ : Nat → Nat, ∃ R' : Out → List (Ref × List A) → Prop, Holds Try.prog 24 [(A.agg x0), (A.d (D.lit (bytesV ([98] : List UInt8))))] [] R' ∧
               (∀ v H', R' (.ret v) H' → ∃ x11 : Bool, v = (A.d (D.lit (.bool x11))) ∧ H' = [] ∧
                ((!x11) = true →
                 ∀ _ : Nat → Nat, ∃ R' : Out → List (Ref × List A) → Prop, Holds Try.prog 17 [(A.agg x2)] [] R' ∧
                 (∀ v H', R' (.ret v) H' → ∃ x12 : Int, v = (A.d (D.lit (.int .i64 x12))) ∧ H' = [] ∧
                  R (.ret (A.d (D.lit (.bool (tB (x12 == (1 : Int))))))) []) ∧
                 (∀ x12v H', R' (.pan x12v) H' → H' = [] ∧
                  R (.pan x12v) [])) ∧
                ((!x11) = false →
                 R (.ret (A.d (D.lit (.bool false)))) [])) ∧
               (∀ x11v H', R' (.pan x11v) H' → H' = [] ∧
                R (.pan x11v) [])) ∧
              (x10 = false →
               R (.ret (A.d (D.lit (.bool false)))) [])) ∧
             (∀ x10v H', R' (.pan x10v) H' → H' = [] ∧
              R (.pan x10v) [])) ∧
            (x9 = false →
             R (.ret (A.d (D.lit (.bool false)))) [])) ∧
           (∀ x9v H', R' (.pan x9v) H' → H' = [] ∧
            R (.pan x9v) [])) ∧
          (x8 = false →
           R (.ret (A.d (D.lit (.bool false)))) [])) ∧
         (∀ x8v H', R' (.pan x8v) H' → H' = [] ∧
          R (.pan x8v) [])) ∧
        ((tB ((Rf.dint (x7.getD 1 D0)) == (3 : Int))) = false →
         R (.ret (A.d (D.lit (.bool false)))) [])) ∧
       ((tB ((Rf.dint (x7.getD 0 D0)) == (8 : Int))) = false →
        R (.ret (A.d (D.lit (.bool false)))) [])) ∧
      (((((tB ((Rf.dint (x1.getD 0 D0)) == (0 : Int))) && (tB ((Rf.dint (x1.getD 1 D0)) == (0 : Int)))) && ((tB ((Rf.dint (x3.getD 0 D0)) == (0 : Int))) && (tB ((Rf.dint (x3.getD 1 D0)) == (0 : Int))))) && ((tB ((Rf.dint (x5.getD 0 D0)) == (8 : Int))) && (tB ((Rf.dint (x5.getD 1 D0)) == (2 : Int))))) = false →
       R (.ret (A.d (D.lit (.bool false)))) [])) ∧
     (∀ x6v H', R' (.pan x6v) H' → H' = [] ∧
      R (.pan x6v) [])) ∧
    (∀ x4v H', R' (.pan x4v) H' → H' = [] ∧
     R (.pan x4v) [])) ∧
   (∀ x2v H', R' (.pan x2v) H' → H' = [] ∧
    R (.pan x2v) [])) ∧
  (∀ x0v H', R' (.pan x0v) H' → H' = [] ∧
   R (.pan x0v) [])) :
    Holds Try.prog 14 [] [] R :=
  walk (c := ⟨Try.prog, 67, true, [0, 1, 2, 3, 4, 6, 8, 9]⟩) (op := {  }) (fn := Try.f14) (args := []) (K := []) (nv := 0) (depth := 7) (up := upOf []) (ρ := envOf [])
    rfl rfl rfl rfl rfl (by decide) (by decide) (by decide) (by decide) rfl (by simp [bxDen, RRef.den, upOf]) (T_of (by kernel_rfl) h)
end Go.Rx
end
section
open Go Go.Proofs Go.Ab Go.Rf
set_option maxRecDepth 100000
namespace Go.Rx
theorem range_setX (p : Nat → Bool) : rangeOk (setX p) := fun i hi => by
  have := wd_lt p i
  rcases (show i = 0 ∨ i = 1 ∨ i = 2 ∨ i = 3 by omega) with rfl | rfl | rfl | rfl
  · exact ⟨Int.natCast_nonneg _, by have : (setX p).w 0 = (wd p 0 : Nat) := rfl; omega⟩
  · exact ⟨Int.natCast_nonneg _, by have : (setX p).w 1 = (wd p 1 : Nat) := rfl; omega⟩
  · exact ⟨Int.natCast_nonneg _, by have : (setX p).w 2 = (wd p 2 : Nat) := rfl; omega⟩
  · exact ⟨Int.natCast_nonneg _, by have : (setX p).w 3 = (wd p 3 : Nat) := rfl; omega⟩
theorem range_mk0 (k : Int) (l : List Rx) : rangeOk (mk0 k l) := fun i hi => by
  rcases (show i = 0 ∨ i = 1 ∨ i = 2 ∨ i = 3 by omega) with rfl | rfl | rfl | rfl <;> exact ⟨Int.le_refl _, (by decide : (0 : Int) < 2 ^ 64)⟩
structure PClosed (p : Rx → Prop) : Prop where
  set : ∀ q, p (setX q)
  node : ∀ k l, p (mk0 k l)
theorem pclosed_range : PClosed rangeOk := ⟨range_setX, range_mk0⟩
section
variable {p : Rx → Prop} (hp : PClosed p)
include hp
theorem PClosed.setA (q : Nat → Bool) : allX p (setX q) := allX_iff.2 ⟨hp.set q, fun _ h => by cases h⟩
theorem PClosed.mkA {k : Int} {l : List Rx} (h : ∀ x ∈ l, allX p x) : allX p (mk0 k l) := allX_iff.2 ⟨hp.node k l, h⟩
theorem PClosed.joinA {k : Int} {l : List Rx} (h : ∀ x ∈ l, allX p x) : allX p (joinX k l) := all_joinX (fun _ => hp.node k l) h
theorem PClosed.setL : ∀ (n : Nat) (neg : Bool) (q : Nat → Bool) (t : List UInt8) (r : Res Rx), Rx.setL n neg q t = some r → r.All (allX p)
  | 0, _, _, _, _, h => by simp [Rx.setL] at h
  | n + 1, neg, q, t, r, h => by
    unfold Rx.setL at h
    split at h
    · cases h; trivial
    · split at h
      · cases h; trivial
      · split at h
        · cases h; show allX p _; exact hp.setA _
        · exact PClosed.setL n _ _ _ _ h
theorem PClosed.opX {c : Nat} {r r' : Rx} (h : allX p r) (e : Rx.opX c r = some r') : allX p r' := by
  have he : allX p (mk0 1 []) := hp.mkA fun _ h => by cases h
  have hst : allX p (starX r) := hp.mkA fun x hx => by rw [List.mem_singleton.1 hx]; exact h
  unfold Rx.opX at e
  repeat' split at e
  all_goals first
    | (cases e; exact hst)
    | (cases e; refine hp.mkA fun x hx => ?_; simp only [List.mem_cons, List.not_mem_nil, or_false] at hx; rcases hx with rfl | rfl <;> assumption)
    | cases e
theorem PClosed.opsL : ∀ (n : Nat) (r : Rx) (t : List UInt8) (o : Res Rx), Rx.opsL n r t = some o → allX p r → o.All (allX p)
  | 0, _, _, _, h, _ => by simp [Rx.opsL] at h
  | n + 1, r, t, o, h, hr => by
    unfold Rx.opsL at h
    split at h
    · rename_i r' e; exact PClosed.opsL n r' _ _ h (hp.opX hr e)
    · cases h; exact hr
theorem PClosed.par : ∀ (n : Nat), (∀ t r, alts n t = some r → r.All (allX p)) ∧ (∀ l t r, altL n l t = some r → (∀ x ∈ l, allX p x) → r.All (allX p)) ∧ (∀ t r, seqs n t = some r → r.All (allX p)) ∧
    (∀ l t r, seqL n l t = some r → (∀ x ∈ l, allX p x) → r.All (allX p)) ∧
    (∀ t r, piece n t = some r → r.All (allX p)) ∧ (∀ t r, atom n t = some r → r.All (allX p)) := by
  intro n
  induction n with
  | zero => exact ⟨fun t r h => by simp [alts] at h, fun l t r h => by simp [altL] at h, fun t r h => by simp [seqs] at h, fun l t r h => by simp [seqL] at h, fun t r h => by simp [piece] at h, fun t r h => by simp [atom] at h⟩
  | succ n ih =>
    obtain ⟨ih1, ih2, ih3, ih4, ih5, ih6⟩ := ih
    refine ⟨fun t r h => ?_, fun l t r h hx => ?_, fun t r h => ?_, fun l t r h hx => ?_, fun t r h => ?_, fun t r h => ?_⟩
    · unfold alts at h
      split at h
      · cases h
      · cases h; trivial
      · rename_i hq
        have h1 := ih3 _ _ hq
        exact ih2 _ _ _ h (fun x hx => by rw [List.mem_singleton.1 hx]; exact h1)
    · unfold altL at h
      split at h
      · split at h
        · cases h
        · cases h; trivial
        · rename_i hq
          have h1 := ih3 _ _ hq
          refine ih2 _ _ _ h fun x hx' => ?_
          rcases List.mem_append.1 hx' with hx' | hx'
          · exact hx x hx'
          · rw [List.mem_singleton.1 hx']; exact h1
      · cases h; exact hp.joinA hx
    · unfold seqs at h
      split at h
      · cases h
      · cases h; trivial
      · rename_i hq
        have h1 := ih5 _ _ hq
        exact ih4 _ _ _ h (fun x hx => by rw [List.mem_singleton.1 hx]; exact h1)
    · unfold seqL at h
      split at h
      · split at h
        · cases h
        · cases h; trivial
        · rename_i hq
          have h1 := ih5 _ _ hq
          refine ih4 _ _ _ h fun x hx' => ?_
          rcases List.mem_append.1 hx' with hx' | hx'
          · exact hx x hx'
          · rw [List.mem_singleton.1 hx']; exact h1
      · cases h; exact hp.joinA hx
    · unfold piece at h
      split at h
      · cases h
      · cases h; trivial
      · rename_i hq
        exact hp.opsL _ _ _ _ h (ih6 _ _ hq)
    · unfold atom at h
      split at h
      · split at h
        · cases h; exact hp.mkA fun _ h => by cases h
        · split at h
          · cases h
          · cases h; trivial
          · rename_i hq
            cases h
            have h1 := ih1 _ _ hq
            unfold closeR
            split
            · exact h1
            · trivial
      · split at h
        · unfold setR at h
          split at h
          · exact hp.setL _ _ _ _ _ h
          · split at h
            · cases h; exact hp.mkA fun _ h => by cases h
            · exact hp.setL _ _ _ _ _ h
        · split at h
          · cases h; exact hp.setA _
          · split at h
            · split at h
              · cases h; exact hp.setA _
              · split at h
                · cases h; trivial
                · cases h; exact hp.setA _
            · split at h
              · cases h; trivial
              · cases h; exact hp.setA _
theorem PClosed.parse (s : List UInt8) : allX p (parseV s).1 := by
  have hn : allX p (mk0 0 []) := hp.mkA fun _ h => by cases h
  unfold parseV
  split
  · exact hn
  · split
    · rename_i hr
      have := (hp.par _).1 _ _ hr
      split
      · split
        · exact hn
        · exact this
      · exact hn
    · exact hn
    · exact hn
end
theorem parse_range (s : List UInt8) : allX rangeOk (parseV s).1 := pclosed_range.parse s
theorem parse_lens (s : List UInt8) : lens 1002 (parseV s).1 := by
  have hn : lens 1002 (mk0 0 []) := lens_mk0.2 ⟨Nat.zero_le _, fun _ h => by cases h⟩
  unfold parseV
  split
  · exact hn
  · split
    · rename_i hs _ r t hr
      split
      · split
        · exact hn
        · exact lens_mono (by omega) _ _ (Nat.le_refl _) (alts_lens hr)
      · exact hn
    · exact hn
    · exact hn
theorem parse_lens40 (s : List UInt8) : lens (2 ^ 40) (parseV s).1 := lens_mono (by omega) _ _ (Nat.le_refl _) (parse_lens s)
def e1 : List UInt8 := [97, 43, 98, 63]
def e2 : List UInt8 := [91, 97, 45, 99, 93]
def e3 : List UInt8 := [97, 124]
def e4 : List UInt8 := [91, 98, 45, 97, 93]
theorem c19' {s : List UInt8} {f i : Int} (h : (parseV s).2 = (f, i)) : Holds Try.prog 19 [A.d (.lit (bytesV s))] [] (Ret (.tup [(true, enc (parseV s).1), (true, [.lit (.int .i64 f), .lit (.int .i64 i)])])) := by
  have := c19 s
  unfold pairA at this
  rw [h] at this
  exact this
theorem p1 : (parseV e1).2 = (0, 0) := by decide
theorem p2 : (parseV e2).2 = (0, 0) := by decide
theorem p3 : (parseV e3).2 = (8, 2) := by decide
theorem p4 : (parseV e4).2 = (8, 3) := by decide
theorem c24e (s : List UInt8) (h : s.length ≤ 10) (hm : matchOk (parseV e1).1 s = true) (v : Bool) (hv : matchV (parseV e1).1 s = v) : Holds Try.prog 24 [A.agg (enc (parseV e1).1), A.d (.lit (bytesV s))] [] (Ret (boolA v)) := by
  rw [← hv]
  exact c24 _ s (parse_range _) (parse_lens40 _) (by omega) fun _ => hm
theorem c14 : Holds Try.prog 14 [] [] (Ret (boolA true)) := by
  have hsz : size (parseV e2).1 ≤ 2 ^ 40 := by decide
  have hv : sizeV (parseV e2).1 = 1 := by decide
  have hsize : Holds Try.prog 17 [A.agg (enc (parseV e2).1)] [] (Ret (intA 1)) := by
    have := c17 _ hsz
    rw [hv] at this
    exact this
  refine w14 (call1 (c19' p1) ⟨_, _, rfl, rfl, teq6 _, rfl, call1 (c19' p2) ⟨_, _, rfl, rfl, teq6 _, rfl, call1 (c19' p3) ⟨_, _, rfl, rfl, teq6 _, rfl, call1 (c19' p4) ⟨_, _, rfl, rfl, teq6 _, rfl, rfl, rfl, rfl, rfl, rfl, rfl, rfl, rfl, fun _ => ⟨fun _ => ⟨fun _ => ?_, fun h => absurd h (by decide)⟩, fun h => absurd h (by decide)⟩, fun h => absurd h (by decide)⟩⟩⟩⟩)
  refine call1 (c24e [97] (by decide) (by decide) true (by decide)) ⟨_, rfl, rfl, fun _ => ?_, fun h => by cases h⟩
  refine call1 (c24e [97, 98] (by decide) (by decide) true (by decide)) ⟨_, rfl, rfl, fun _ => ?_, fun h => by cases h⟩
  refine call1 (c24e [97, 97, 98] (by decide) (by decide) true (by decide)) ⟨_, rfl, rfl, fun _ => ?_, fun h => by cases h⟩
  refine call1 (c24e [98] (by decide) (by decide) false (by decide)) ⟨_, rfl, rfl, fun _ => ?_, fun h => by cases h⟩
  exact call1 hsize ⟨_, rfl, rfl, rfl, rfl⟩
end Go.Rx
end
section
open Go Go.Proofs Go.Ab Go.Rf
set_option maxRecDepth 100000
namespace Go.Rx
theorem c3 (r : Rx) : Holds Try.prog 3 [A.agg (enc r)] [] (Ret (boolA true)) := by
  have h13 := c13 (size r) r 60 (Nat.le_refl _) (by omega)
  refine w3 (enc r) ⟨teq6 r, call1 h13 ⟨_, rfl, rfl, fun _ => call1 c14 ⟨_, rfl, rfl, ⟨rfl, rfl⟩⟩, fun h => ?_⟩⟩
  have h := of_flt h
  have hs : size r ≤ 60 := by omega
  have hl : lens (2 ^ 40) r := lens_size _ r (by omega) (Nat.le_refl _)
  refine ⟨_, fun _ => c15 r hl, _, fun _ => c16 r hl, fun _ => ⟨_, fun _ => c17 r (by omega), call1 (c18 r (by omega)) ⟨_, rfl, rfl, fun _ => call1 c14 ⟨_, rfl, rfl, ⟨rfl, rfl⟩⟩, fun h => absurd rfl (of_feq h)⟩⟩, fun h => absurd rfl (of_feq h)⟩
end Go.Rx
end
section
open Go Go.Proofs Go.Ab Go.Rf Go.ChangeShapes Go.WideShapes
set_option maxRecDepth 100000
namespace Go.Rx
theorem lifted3 (os : Os) (started : os.Started) (H : Type) (en : TypeId × Value → H) :
    ReturnsInHanded {} Try.checked os 3 .any (Ytedalcjkolcolaa.Rows.regexChecksSpec.pre6 en Try.prog Try.f3 Ytedalcjkolcolaa.Rows.regexChecksRow.domain false) (Ytedalcjkolcolaa.Rows.regexChecksSpec.post en Try.prog Try.f3 false true false false) := by
  refine returnsInHanded_of_change (C := Try.checked) own started (by kernel_rfl) Try.func3
    (ChangeSpec.witness6 (enc := en) (C := Try.checked) false ⟨#[], #[nilArg], []⟩ 8 (by kernel_rfl) (by kernel_rfl) (by kernel_rfl) (by kernel_rfl)) ?_
  intro W base args ds gs before hval0 hW hcnd _
  have hval : ∀ (j : Nat) t v, Try.f3.params[j]? = some t → args[j]? = some v → Value.okWide Try.prog W .any base t v := hval0
  have hW' := hW
  obtain ⟨p, q, hA0, hV, rfl, hfz, hnd⟩ := hW
  have hA : DataW.TrodAll en Try.prog W 0 (fun _ => true) true Try.f3.params.toList args.toList ds p := hA0
  rw [Try.params3] at hA hval
  obtain ⟨v0, d0, rfl, rfl, h0⟩ := trodAll_one hA
  obtain ⟨r, hr, _⟩ := arg_rx (hval 0 27 v0 rfl rfl) h0
  refine (callsX_body Try.func3 rfl rfl (Holds.out (c3 r) (w := W) (cargs := #[v0]) ⟨hr, trivial⟩)).mono fun e W' ⟨cv, g', he, hc, hb⟩ => ?_
  have hc : cv = .bool true := by cases hc; rfl
  subst hc
  exact ⟨_, he, row_post rfl hW' rfl rfl lay (by kernel_rfl) hb⟩
theorem regexChecks_holds : Ytedalcjkolcolaa.Rows.RegexChecksSaid :=
  OpenClaim.holds_of_wide 3 Try.f3 rfl rfl rfl rfl rfl rfl rfl ⟨rfl, rfl, rfl, rfl, rfl⟩ rfl rfl rfl rfl rfl (by kernel_rfl) Try.func3 (by kernel_rfl)
    (of_decide_eq_true (by kernel_rfl)) (by unfold Func.isWrapper; first | (rw [if_pos (by decide +kernel)]; kernel_rfl) | (rw [if_neg (by decide +kernel)]; exact ⟨rfl, rfl⟩))
    (fun os started H enc _ => lifted3 os started H enc)
end Go.Rx
namespace Go.Proofs.Ytedalcjkolcolaa
theorem regexChecks_proved : Rows.RegexChecksSaid := Go.Rx.regexChecks_holds
end Go.Proofs.Ytedalcjkolcolaa
end
