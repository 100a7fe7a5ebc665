/- Proved: the given card SyntaxEqualCardSaid, without conditions. -/
import Derived.Test.YtpcnadmaeebhbaaGreatDoorRows
import Derived.WalkKit
import Derived.ProofKit
import Derived.OpenShut
import Derived.JoinedOf
import Derived.Deep.Slices
import Derived.Test.YtpcnadmaeebhbaaGreatDoorCards
import Derived.Test.YtpcnadmaeebhbaaGreatDoorTie
import Derived.Carry
import Derived.Deep.DeepHandedRow
import Derived.Lib.LaidTab
import Derived.Test.YtpcnadmaeebhbaaGreatDoorProg
import Derived.Lib.Bytealg
import Derived.Test.YtpcnadmaeebhbaaGreatDoorJaf
set_option linter.unusedVariables false
set_option linter.unusedSimpArgs false
section
open Go Go.Ab Go.Rf
set_option linter.unusedSimpArgs false
namespace Go.Sy
abbrev Tx := List UInt8
inductive Nd where
 | mk (kind num : Int) (text n0 n1 trail : Tx) (lead tail : List Tx) (pos : Int) (subs decls : List Nd)
@[reducible] def dI (n : Int) : D := .lit (.int .i64 n)
@[reducible] def dS (s : Tx) : D := .lit (Zaw s)
def txs (l : List Tx) : List (List D) := l.map fun s => [dS s]
mutual
def encE : Nd -> List D
 | .mk k n t a b _ _ ta p s d => [dI k, dS t, dI n, dS a, dS b, .slc (Zeh s), .slc (Zbn d), .slc (txs ta), dI p]
def Zeh : List Nd -> List (List D)
 | [] => []
 | r :: l => encE r :: Zeh l
def encD : Nd -> List D
 | .mk k n t a b tr le ta p s d => [dI k, dI n, dS t, dS a, dS b, .slc (Zeh s), .slc (Zbn d), .slc (txs ta), .slc (txs le), dS tr, dI p]
def Zbn : List Nd -> List (List D)
 | [] => []
 | r :: l => encD r :: Zbn l
end
mutual
def size : Nd -> Nat
 | .mk _ _ _ _ _ _ _ _ _ s d => 1 + Zmd s + Zmd d
def Zmd : List Nd -> Nat
 | [] => 0
 | r :: l => size r + Zmd l
end
namespace Nd
def kind : Nd -> Int | mk k _ _ _ _ _ _ _ _ _ _ => k
def num : Nd -> Int | mk _ n _ _ _ _ _ _ _ _ _ => n
def text : Nd -> Tx | mk _ _ t _ _ _ _ _ _ _ _ => t
def n0 : Nd -> Tx | mk _ _ _ a _ _ _ _ _ _ _ => a
def n1 : Nd -> Tx | mk _ _ _ _ b _ _ _ _ _ _ => b
def trail : Nd -> Tx | mk _ _ _ _ _ t _ _ _ _ _ => t
def lead : Nd -> List Tx | mk _ _ _ _ _ _ l _ _ _ _ => l
def tail : Nd -> List Tx | mk _ _ _ _ _ _ _ t _ _ _ => t
def pos : Nd -> Int | mk _ _ _ _ _ _ _ _ p _ _ => p
def subs : Nd -> List Nd | mk _ _ _ _ _ _ _ _ _ s _ => s
def decls : Nd -> List Nd | mk _ _ _ _ _ _ _ _ _ _ d => d
end Nd
theorem Zbw (r : Nd) : encE r = [dI r.kind, dS r.text, dI r.num, dS r.n0, dS r.n1, .slc (Zeh r.subs), .slc (Zbn r.decls), .slc (txs r.tail), dI r.pos] := by cases r; simp [encE, Nd.kind, Nd.text, Nd.num, Nd.n0, Nd.n1, Nd.subs, Nd.decls, Nd.tail, Nd.pos]
theorem Zco (r : Nd) : encD r = [dI r.kind, dI r.num, dS r.text, dS r.n0, dS r.n1, .slc (Zeh r.subs), .slc (Zbn r.decls), .slc (txs r.tail), .slc (txs r.lead), dS r.trail, dI r.pos] := by cases r; simp [encD, Nd.kind, Nd.text, Nd.num, Nd.n0, Nd.n1, Nd.subs, Nd.decls, Nd.tail, Nd.pos, Nd.lead, Nd.trail]
@[simp] theorem Zcm : ∀ l, (Zeh l).length = l.length
  | [] => rfl
  | r :: l => by simp [Zeh, Zcm l]
@[simp] theorem Zdj : ∀ l, (Zbn l).length = l.length
  | [] => rfl
  | r :: l => by simp [Zbn, Zdj l]
theorem Zgk : ∀ l, Zeh l = l.map encE
 | [] => rfl
 | r :: l => by simp [Zeh, Zgk l]
theorem Zgl : ∀ l, Zbn l = l.map encD
 | [] => rfl
 | r :: l => by simp [Zbn, Zgl l]
@[simp] theorem Zvf (l m : List Nd) : Zeh l ++ Zeh m = Zeh (l ++ m) := by simp [Zgk]
@[simp] theorem Zvg (l m : List Nd) : Zbn l ++ Zbn m = Zbn (l ++ m) := by simp [Zgl]
@[simp] theorem Zg0 (l : List Tx) : (txs l).length = l.length := by simp [txs]
@[simp] theorem Zxm (l m : List Tx) : txs l ++ txs m = txs (l ++ m) := by simp [txs]
@[simp] theorem Zeb (r : Nd) : (encE r).length = 9 := by rw [Zbw]; rfl
@[simp] theorem Zec (r : Nd) : (encD r).length = 11 := by rw [Zco]; rfl
@[simp] theorem e0 (r : Nd) : (encE r).getD 0 D0 = dI r.kind := by rw [Zbw]; rfl
@[simp] theorem e1 (r : Nd) : (encE r).getD 1 D0 = dS r.text := by rw [Zbw]; rfl
@[simp] theorem e2 (r : Nd) : (encE r).getD 2 D0 = dI r.num := by rw [Zbw]; rfl
@[simp] theorem e3 (r : Nd) : (encE r).getD 3 D0 = dS r.n0 := by rw [Zbw]; rfl
@[simp] theorem e4 (r : Nd) : (encE r).getD 4 D0 = dS r.n1 := by rw [Zbw]; rfl
@[simp] theorem e5 (r : Nd) : (encE r).getD 5 D0 = .slc (Zeh r.subs) := by rw [Zbw]; rfl
@[simp] theorem e6 (r : Nd) : (encE r).getD 6 D0 = .slc (Zbn r.decls) := by rw [Zbw]; rfl
@[simp] theorem e7 (r : Nd) : (encE r).getD 7 D0 = .slc (txs r.tail) := by rw [Zbw]; rfl
@[simp] theorem e8 (r : Nd) : (encE r).getD 8 D0 = dI r.pos := by rw [Zbw]; rfl
@[simp] theorem d0 (r : Nd) : (encD r).getD 0 D0 = dI r.kind := by rw [Zco]; rfl
@[simp] theorem d1 (r : Nd) : (encD r).getD 1 D0 = dI r.num := by rw [Zco]; rfl
@[simp] theorem d2 (r : Nd) : (encD r).getD 2 D0 = dS r.text := by rw [Zco]; rfl
@[simp] theorem d3 (r : Nd) : (encD r).getD 3 D0 = dS r.n0 := by rw [Zco]; rfl
@[simp] theorem d4 (r : Nd) : (encD r).getD 4 D0 = dS r.n1 := by rw [Zco]; rfl
@[simp] theorem d5 (r : Nd) : (encD r).getD 5 D0 = .slc (Zeh r.subs) := by rw [Zco]; rfl
@[simp] theorem d6 (r : Nd) : (encD r).getD 6 D0 = .slc (Zbn r.decls) := by rw [Zco]; rfl
@[simp] theorem d7 (r : Nd) : (encD r).getD 7 D0 = .slc (txs r.tail) := by rw [Zco]; rfl
@[simp] theorem d8 (r : Nd) : (encD r).getD 8 D0 = .slc (txs r.lead) := by rw [Zco]; rfl
@[simp] theorem d9 (r : Nd) : (encD r).getD 9 D0 = dS r.trail := by rw [Zco]; rfl
@[simp] theorem d10 (r : Nd) : (encD r).getD 10 D0 = dI r.pos := by rw [Zco]; rfl
theorem Zme {l : List Nd} {i : Nat} {x : Int} (hx : x = i) (h : i < l.length) : gAt (Zeh l) x = encE l[i] := by
 subst hx
 simp [gAt, Zgk, List.getD, h]
theorem Zss {l : List Nd} {i : Nat} {x : Int} (hx : x = i) (h : i < l.length) : gAt (Zbn l) x = encD l[i] := by
 subst hx
 simp [gAt, Zgl, List.getD, h]
theorem Zy2 {l : List Tx} {i : Nat} {x : Int} (hx : x = i) (h : i < l.length) : gAt (txs l) x = [dS l[i]] := by
 subst hx
 simp [gAt, txs, List.getD, h]
@[simp] theorem isK_int (k : IntKind) (n : Int) : Rf.isK (.int k) (.lit (.int k n)) = true := by simp [Rf.isK]
@[simp] theorem isK_bool (b : Bool) : Rf.isK .bool (.lit (.bool b)) = true := rfl
@[simp] theorem isK_slc (l : List (List D)) : Rf.isK .slc (.slc l) = true := rfl
@[simp] theorem isK_str (l : Tx) : Rf.isK .str (.lit (Zaw l)) = true := rfl
@[simp] theorem Zdk (k : IntKind) (n : Int) : Rf.dint (.lit (.int k n)) = n := rfl
@[simp] theorem Zxn (b : Bool) : Rf.dbool (.lit (.bool b)) = b := rfl
@[simp] theorem Zcf (l : List (List D)) : Rf.dlst (.slc l) = l := rfl
theorem Znp (r : Nd) : size r = 1 + Zmd r.subs + Zmd r.decls := by cases r; rfl
theorem Zuq (r : Nd) : 1 <= size r := by rw [Znp]; omega
theorem Ziw {r : Nd} : ∀ {l : List Nd}, r ∈ l -> size r <= Zmd l
 | x :: l, h => by
   simp only [List.mem_cons] at h
   rcases h with rfl | h
   ·simp [Zmd]
   ·have := Ziw h; simp [Zmd]; omega
theorem Zur {r x : Nd} (h : x ∈ r.subs) : size x < size r := by have := Ziw h; rw [Znp r]; omega
theorem Zus {r x : Nd} (h : x ∈ r.decls) : size x < size r := by have := Ziw h; rw [Znp r]; omega
theorem Zo7 {p : Nd -> Prop} (h : ∀ r, (∀ x ∈ r.subs, p x) -> (∀ x ∈ r.decls, p x) -> p r) : ∀ r, p r := by
 have key : ∀ (n : Nat) (r : Nd), size r <= n -> p r := by
  intro n
  induction n with
  | zero => intro r hr; have := Zuq r; omega
  | succ n ih => exact fun r hr => h r (fun x hx => ih x (by have := Zur hx; omega)) fun x hx => ih x (by have := Zus hx; omega)
 exact fun r => key _ r (Nat.le_refl _)
inductive All (p : Nd -> Prop) : Nd -> Prop
 | mk {r : Nd} : p r -> (∀ x ∈ r.subs, All p x) -> (∀ x ∈ r.decls, All p x) -> All p r
theorem All.here {p : Nd -> Prop} {r : Nd} (h : All p r) : p r := by cases h; assumption
theorem All.sub {p : Nd -> Prop} {r x : Nd} (h : All p r) (hx : x ∈ r.subs) : All p x := by cases h with | mk _ h2 _ => exact h2 x hx
theorem All.dec {p : Nd -> Prop} {r x : Nd} (h : All p r) (hx : x ∈ r.decls) : All p x := by cases h with | mk _ _ h2 => exact h2 x hx
theorem All.mono {p q : Nd -> Prop} (h : ∀ r, p r -> q r) {r : Nd} (hr : All p r) : All q r := by
 induction hr with
 | mk h1 _ _ h4 h5 => exact .mk (h _ h1) h4 h5
end Go.Sy
end
section
open Go Go.Ab Go.Rf
set_option linter.unusedSimpArgs false
namespace Go.Sy
def Ret (v : A) : Out -> List (Ref × List A) -> Prop := fun o H => o = .ret v /\ H = []
@[simp] theorem Zzq {v u : A} {H : List (Ref × List A)} : Ret v (.ret u) H ↔ u = v /\ H = [] := by simp [Ret]
@[simp] theorem Zzr {v : A} {u : Value} {H : List (Ref × List A)} : Ret v (.pan u) H ↔ False := by simp [Ret]
theorem Zbe {P : Program} {f : Nat} {args : List A} {v : A} (hc : Holds P f args [] (Ret v)) {Q1 : A -> List (Ref × List A) -> Prop} {Q2 : Value -> List (Ref × List A) -> Prop} (h : Q1 v []) :
 ∀ _ : Nat -> Nat, ∃ R' : Out -> List (Ref × List A) -> Prop, Holds P f args [] R' /\ (∀ v H', R' (.ret v) H' -> Q1 v H') /\ (∀ u H', R' (.pan u) H' -> Q2 u H') :=
 fun _ => ⟨_, hc, fun v' H' e => by obtain ⟨e1, rfl⟩ := e; cases e1; exact h, fun u H' e => by cases e.1⟩
theorem tle {a b : Int} (h : a <= b) : (tB (decide (a <= b))) = true := by simp [h]
theorem tlt {a b : Int} (h : a < b) : (tB (decide (a < b))) = true := by simp [h]
theorem teq {a b : Int} (h : a = b) : (tB (a == b)) = true := by simp [h]
theorem Zvh {a b : Int} (h : (tB (decide (a <= b))) = true) : a <= b := by simpa using h
theorem Zb7 {a b : Int} (h : (tB (decide (a < b))) = true) : a < b := by simpa using h
theorem Zvi {a b : Int} (h : (tB (decide (a <= b))) = false) : b < a := by simpa using h
theorem Zb8 {a b : Int} (h : (tB (decide (a < b))) = false) : b <= a := by simpa using h
@[simp] theorem Zef (l : Tx) : Rf.dstr (.lit (Zaw l)) = l := by simp [Rf.dstr, Zaw]
@[reducible] def intA (n : Int) : A := .d (.lit (.int .i64 n))
@[reducible] def Za9 (b : Bool) : A := .d (.lit (.bool b))
@[reducible] def strA (s : Tx) : A := .d (.lit (Zaw s))
@[reducible] def slA (l : List (List D)) : A := .d (.slc l)
theorem Zaj {α : Type} {l : List α} {i : Nat} (h : i < l.length) : l.drop i = l[i] :: l.drop (i + 1) := List.drop_eq_getElem_cons h
theorem Zap {α : Type} {l : List α} {i : Nat} (h : l.length <= i) : l.drop i = [] := List.drop_eq_nil_of_le h
theorem gT0 {l : List Tx} {i : Nat} (h : i < l.length) : (gAt (txs l) (i : Int)).getD 0 D0 = dS l[i] := by rw [Zy2 rfl h]; rfl
theorem gT1 {l : List Tx} {i : Nat} (h : i < l.length) : (gAt (txs l) (i : Int)).length = 1 := by rw [Zy2 rfl h]; rfl
theorem dec {n i : Nat} (h : i < n) : n - ((i : Int) + 1).toNat < n - (i : Int).toNat := by omega
theorem nb1 {b : Bool} (h : (!b) = true) : b = false := by simpa using h
theorem nb0 {b : Bool} (h : (!b) = false) : b = true := by simpa using h
def Lim (r : Nd) : Prop := r.subs.length <= 2 ^ 50 /\ r.decls.length <= 2 ^ 50 /\ r.tail.length <= 2 ^ 50 /\ r.lead.length <= 2 ^ 50
abbrev Lm (r : Nd) : Prop := All Lim r
end Go.Sy
end
section
open Go Go.Proofs Go.Ab Go.Rf
set_option linter.unusedSimpArgs false
set_option maxRecDepth 100000
namespace Go.Sy
theorem getT {l : List Tx} {i : Nat} (h : i < l.length) : Rf.isK .str ((gAt (txs l) (i : Int)).getD 0 D0) = true /\ Rf.dstr ((gAt (txs l) (i : Int)).getD 0 D0) = l[i] := by rw [gT0 h]; simp [dS]
theorem c23 (a b : List Tx) (ha : a.length <= 2 ^ 50) : Holds Tryz.prog 23 [slA (txs a), slA (txs b)] [] (Ret (Za9 (decide (a = b)))) := by
 refine w23 (txs a) (txs b) ⟨fun h => ?_, fun h => ?_⟩
 ·have hne : a ≠ b := fun e => by subst e; simp at h
  exact ⟨by simp [hne], rfl⟩
 ·have hl : a.length = b.length := by simp at h; omega
  refine ⟨fun x => ∃ i : Nat, x = i /\ i <= a.length /\ (a.drop i = b.drop i ↔ a = b), fun x => a.length - x.toNat, ⟨0, rfl, Nat.zero_le _, by simp⟩, ?_, trivial⟩
  rintro x ⟨i, rfl, hi, hr⟩
  refine ⟨fun hc => ?_, fun hc => ?_⟩
  ·have h1 : i < a.length := by have := Zb7 hc; simp at this; omega
   have h2 : i < b.length := by omega
   refine ⟨tle (by omega), teq (by rw [gT1 h1]; rfl), (getT h1).1, tlt (by simp; omega), teq (by rw [gT1 h2]; rfl), (getT h2).1, fun hn => ?_, fun hn => ⟨tle (by omega), tle (by omega), ⟨i + 1, rfl, h1, ?_⟩, dec h1⟩⟩
   ·rw [(getT h1).2, (getT h2).2] at hn
    have hne : a ≠ b := fun e => by subst e; simp at hn
    exact ⟨by simp [hne], rfl⟩
   ·rw [(getT h1).2, (getT h2).2] at hn
    have he : a[i] = b[i] := by simpa using hn
    rw [<- hr]
    conv => rhs; rw [Zaj h1, Zaj h2]
    simp only [List.cons.injEq, he, true_and]
  ·have h1 : a.length <= i := by have := Zb8 hc; simp at this; omega
   have : a = b := hr.1 (by rw [Zap h1, Zap (by omega)])
   exact ⟨by simp [this], rfl⟩
def encF (p : Tx) (im : List (List D)) (d : List Nd) (t : List Tx) : List D := [dS p, .slc im, .slc (Zbn d), .slc (txs t)]
end Go.Sy
end
section
open Go Go.Proofs Go.Ab Go.Rf
set_option linter.unusedSimpArgs false
set_option maxRecDepth 100000
namespace Go.Sy
mutual
def eqE : Nd -> Nd -> Bool
 | .mk k n t a b _ _ ta _ s d, y => (k == y.kind && t == y.text && n == y.num && a == y.n0 && b == y.n1) && decide (ta = y.tail) && eqEs s y.subs && eqDs d y.decls
def eqEs : List Nd -> List Nd -> Bool
 | [], [] => true
 | a :: l, b :: m => eqE a b && eqEs l m
 | [], _ :: _ => false
 | _ :: _, [] => false
def eqD : Nd -> Nd -> Bool
 | .mk k n t a b tr le ta _ s d, y => (k == y.kind && n == y.num && t == y.text && a == y.n0 && b == y.n1) && tr == y.trail && decide (le = y.lead) && decide (ta = y.tail) && eqEs s y.subs && eqDs d y.decls
def eqDs : List Nd -> List Nd -> Bool
 | [], [] => true
 | a :: l, b :: m => eqD a b && eqDs l m
 | [], _ :: _ => false
 | _ :: _, [] => false
end
theorem Zst (x y : Nd) : eqE x y = ((x.kind == y.kind && x.text == y.text && x.num == y.num && x.n0 == y.n0 && x.n1 == y.n1) && decide (x.tail = y.tail) && eqEs x.subs y.subs && eqDs x.decls y.decls) := by cases x; rw [eqE]; rfl
theorem Zsu (x y : Nd) : eqD x y = ((x.kind == y.kind && x.num == y.num && x.text == y.text && x.n0 == y.n0 && x.n1 == y.n1) && x.trail == y.trail && decide (x.lead = y.lead) && decide (x.tail = y.tail) && eqEs x.subs y.subs && eqDs x.decls y.decls) := by cases x; rw [eqD]; rfl
theorem Zko : ∀ {l m : List Nd}, l.length ≠ m.length -> eqEs l m = false
 | [], [], h => absurd rfl h
 | [], _ :: _, _ => by simp [eqEs]
 | _ :: _, [], _ => by simp [eqEs]
 | a :: l, b :: m, h => by unfold eqEs; rw [Zko (l := l) (m := m) (by simpa using h)]; simp
theorem Zkp : ∀ {l m : List Nd}, l.length ≠ m.length -> eqDs l m = false
 | [], [], h => absurd rfl h
 | [], _ :: _, _ => by simp [eqDs]
 | _ :: _, [], _ => by simp [eqDs]
 | a :: l, b :: m, h => by unfold eqDs; rw [Zkp (l := l) (m := m) (by simpa using h)]; simp
theorem c65 (a b : List Tx) (ha : a.length <= 2 ^ 50) : Holds Tryz.prog 65 [slA (txs a), slA (txs b)] [] (Ret (Za9 (decide (a = b)))) := by
 refine w65 (txs a) (txs b) ⟨fun h => ?_, fun h => ?_⟩
 ·have hne : a ≠ b := fun e => by subst e; simp at h
  exact ⟨by simp [hne], rfl⟩
 ·have hl : a.length = b.length := by simp at h; omega
  refine ⟨fun x => ∃ i : Nat, x = i /\ i <= a.length /\ (a.drop i = b.drop i ↔ a = b), fun x => a.length - x.toNat, ⟨0, rfl, Nat.zero_le _, by simp⟩, ?_, trivial⟩
  rintro x ⟨i, rfl, hi, hr⟩
  refine ⟨fun hc => ?_, fun hc => ?_⟩
  ·have h1 : i < a.length := by have := Zb7 hc; simp at this; omega
   have h2 : i < b.length := by omega
   refine ⟨tle (by omega), teq (by rw [gT1 h1]; rfl), (getT h1).1, tlt (by simp; omega), teq (by rw [gT1 h2]; rfl), (getT h2).1, fun hn => ?_, fun hn => ⟨tle (by omega), tle (by omega), ⟨i + 1, rfl, h1, ?_⟩, dec h1⟩⟩
   ·rw [(getT h1).2, (getT h2).2] at hn
    have hne : a ≠ b := fun e => by subst e; simp at hn
    exact ⟨by simp [hne], rfl⟩
   ·rw [(getT h1).2, (getT h2).2] at hn
    have he : a[i] = b[i] := by simpa using hn
    rw [<- hr]
    conv => rhs; rw [Zaj h1, Zaj h2]
    simp only [List.cons.injEq, he, true_and]
  ·have h1 : a.length <= i := by have := Zb8 hc; simp at this; omega
   have : a = b := hr.1 (by rw [Zap h1, Zap (by omega)])
   exact ⟨by simp [this], rfl⟩
theorem c67 (l m : List Nd) (hl : l.length <= 2 ^ 50) (ih : ∀ x ∈ l, ∀ y, Holds Tryz.prog 21 [.agg (encE x), .agg (encE y)] [] (Ret (Za9 (eqE x y)))) :
 Holds Tryz.prog 67 [slA (Zeh l), slA (Zeh m), .fn 21 []] [] (Ret (Za9 (eqEs l m))) := by
 refine w67 _ _ ⟨fun h => ?_, fun h => ?_⟩
 ·exact ⟨by rw [Zko (by simp at h; omega)], rfl⟩
 ·have hlen : l.length = m.length := by simp at h; omega
  refine ⟨fun x => ∃ i : Nat, x = i /\ i <= l.length /\ eqEs (l.drop i) (m.drop i) = eqEs l m, fun x => l.length - x.toNat, ⟨0, rfl, Nat.zero_le _, rfl⟩, ?_, trivial⟩
  rintro x ⟨i, rfl, hi, hr⟩
  refine ⟨fun hc => ?_, fun hc => ?_⟩
  ·have h1 : i < l.length := by have := Zb7 hc; simp at this; omega
   have h2 : i < m.length := by omega
   rw [Zaj h1, Zaj h2, eqEs] at hr
   rw [Zme rfl h1, Zme rfl h2]
   refine ⟨tle (by omega), teq (by simp), tlt (by simp; omega), teq (by simp), Zbe (ih _ (List.getElem_mem h1) _) ⟨_, rfl, rfl, fun hn => ?_, fun hn => ⟨tle (by omega), tle (by omega), ⟨i + 1, rfl, h1, ?_⟩, dec h1⟩⟩⟩
   ·have hn : eqE l[i] m[i] = false := by simpa using hn
    exact ⟨by rw [<- hr, hn]; rfl, rfl⟩
   ·have hn : eqE l[i] m[i] = true := by simpa using hn
    rw [<- hr, hn]; rfl
  ·have h1 : l.length <= i := by have := Zb8 hc; simp at this; omega
   rw [Zap h1, Zap (by omega)] at hr
   exact ⟨by rw [<- hr]; simp [eqEs], rfl⟩
theorem c63 (l m : List Nd) (hl : l.length <= 2 ^ 50) (ih : ∀ x ∈ l, ∀ y, Holds Tryz.prog 64 [.agg (encD x), .agg (encD y)] [] (Ret (Za9 (eqD x y)))) :
 Holds Tryz.prog 63 [slA (Zbn l), slA (Zbn m), .fn 64 []] [] (Ret (Za9 (eqDs l m))) := by
 refine w63 _ _ ⟨fun h => ?_, fun h => ?_⟩
 ·exact ⟨by rw [Zkp (by simp at h; omega)], rfl⟩
 ·have hlen : l.length = m.length := by simp at h; omega
  refine ⟨fun x => ∃ i : Nat, x = i /\ i <= l.length /\ eqDs (l.drop i) (m.drop i) = eqDs l m, fun x => l.length - x.toNat, ⟨0, rfl, Nat.zero_le _, rfl⟩, ?_, trivial⟩
  rintro x ⟨i, rfl, hi, hr⟩
  refine ⟨fun hc => ?_, fun hc => ?_⟩
  ·have h1 : i < l.length := by have := Zb7 hc; simp at this; omega
   have h2 : i < m.length := by omega
   rw [Zaj h1, Zaj h2, eqDs] at hr
   rw [Zss rfl h1, Zss rfl h2]
   refine ⟨tle (by omega), teq (by simp), tlt (by simp; omega), teq (by simp), Zbe (ih _ (List.getElem_mem h1) _) ⟨_, rfl, rfl, fun hn => ?_, fun hn => ⟨tle (by omega), tle (by omega), ⟨i + 1, rfl, h1, ?_⟩, dec h1⟩⟩⟩
   ·have hn : eqD l[i] m[i] = false := by simpa using hn
    exact ⟨by rw [<- hr, hn]; rfl, rfl⟩
   ·have hn : eqD l[i] m[i] = true := by simpa using hn
    rw [<- hr, hn]; rfl
  ·have h1 : l.length <= i := by have := Zb8 hc; simp at this; omega
   rw [Zap h1, Zap (by omega)] at hr
   exact ⟨by rw [<- hr]; simp [eqDs], rfl⟩
theorem Zy3 : ∀ (r : Nd), Lm r -> (∀ y, Holds Tryz.prog 21 [.agg (encE r), .agg (encE y)] [] (Ret (Za9 (eqE r y)))) /\ ∀ y, Holds Tryz.prog 64 [.agg (encD r), .agg (encD y)] [] (Ret (Za9 (eqD r y))) := by
 refine Zo7 fun r hs hd hl => ?_
 have l1 := hl.here
 have ihs := c67 r.subs (hl := Nat.le_trans l1.1 (by omega)) (ih := fun x hx => (hs x hx (hl.sub hx)).1)
 have ihd := c63 r.decls (hl := Nat.le_trans l1.2.1 (by omega)) (ih := fun x hx => (hd x hx (hl.dec hx)).2)
 refine ⟨fun y => ?_, fun y => ?_⟩
 ·have no : ∀ b, eqE r y = b -> Ret (Za9 (eqE r y)) (.ret (Za9 b)) [] := fun b h => ⟨by rw [h], rfl⟩
  rw [Zst] at no ⊢
  refine w21 (encE r) (encE y) ?_
  simp only [Zeb, e0, e1, e2, e3, e4, e5, e6, e7, e8, isK_int, isK_str, isK_slc, Zdk, Zef, Zcf, Bool.or_true, true_and]
  refine ⟨teq rfl, teq rfl, fun h => ⟨fun h1 => ⟨fun h2 => ?_, fun h2 => no _ ?_⟩, fun h1 => no _ ?_⟩, fun h => no _ ?_⟩
  ·refine Zbe (c65 _ _ (Nat.le_trans l1.2.2.1 (by omega))) ⟨_, rfl, rfl, fun h3 => ?_, fun h3 => no _ (by simp [h3])⟩
   refine Zbe (ihs y.subs) ⟨_, rfl, rfl, fun h4 => ?_, fun h4 => no _ (by simp [h4])⟩
   refine Zbe (ihd y.decls) ⟨_, rfl, rfl, no _ ?_⟩
   simp only [Zfo, Bool.and_eq_true, beq_iff_eq, decide_eq_true_eq] at h h1 h2 h3
   simp [h, h1, h2, h3, h4]
  ·simp only [Zfo, beq_eq_false_iff_ne] at h2
   simp [h2]
  ·simp only [Zfo, beq_eq_false_iff_ne] at h1
   simp [h1]
  ·simp only [Zfo] at h
   have : (r.kind == y.kind && r.text == y.text && r.num == y.num) = false := h
   simp [this]
 ·have no : ∀ b, eqD r y = b -> Ret (Za9 (eqD r y)) (.ret (Za9 b)) [] := fun b h => ⟨by rw [h], rfl⟩
  rw [Zsu] at no ⊢
  refine w64 (encD r) (encD y) ?_
  simp only [Zec, d0, d1, d2, d3, d4, d5, d6, d7, d8, d9, d10, isK_int, isK_str, isK_slc, Zdk, Zef, Zcf, Bool.or_true, true_and]
  refine ⟨teq rfl, teq rfl, fun h => ⟨fun h2 => ?_, fun h2 => no _ ?_⟩, fun h => no _ ?_⟩
  ·refine Zbe (c65 _ _ (Nat.le_trans l1.2.2.2 (by omega))) ⟨_, rfl, rfl, fun h3 => ?_, fun h3 => no _ (by simp [h3])⟩
   refine Zbe (c65 _ _ (Nat.le_trans l1.2.2.1 (by omega))) ⟨_, rfl, rfl, fun h3' => ?_, fun h3' => no _ (by simp [h3'])⟩
   refine Zbe (ihs y.subs) ⟨_, rfl, rfl, fun h4 => ?_, fun h4 => no _ (by simp [h4])⟩
   refine Zbe (ihd y.decls) ⟨_, rfl, rfl, no _ ?_⟩
   simp only [Zfo, Bool.and_eq_true, beq_iff_eq, decide_eq_true_eq] at h h2 h3 h3'
   simp [h, h2, h3, h3', h4]
  ·simp only [Zfo, beq_eq_false_iff_ne] at h2
   simp [h2]
  ·simp only [Zfo] at h
   have h' : (r.kind == y.kind && r.num == y.num && r.text == y.text && r.n0 == y.n0 && r.n1 == y.n1) = false := by rw [<- h]; simp only [Bool.and_assoc]
   simp only [h', Bool.false_and]
theorem c21 (r y : Nd) (h : Lm r) : Holds Tryz.prog 21 [.agg (encE r), .agg (encE y)] [] (Ret (Za9 (eqE r y))) := (Zy3 r h).1 y
theorem c63' (l m : List Nd) (hl : l.length <= 2 ^ 50) (h : ∀ x ∈ l, Lm x) : Holds Tryz.prog 63 [slA (Zbn l), slA (Zbn m), .fn 64 []] [] (Ret (Za9 (eqDs l m))) := c63 l m hl fun x hx => (Zy3 x (h x hx)).2
structure Im where
 name : Tx
 path : Tx
 pos : Int
def encI (i : Im) : List D := [dS i.name, dS i.path, dI i.pos]
def Zmf (l : List Im) : List (List D) := l.map encI
structure Fl where
 pkg : Tx
 imps : List Im
 decls : List Nd
 tail : List Tx
def Zgm (f : Fl) : List D := encF f.pkg (Zmf f.imps) f.decls f.tail
@[simp] theorem Zez (f : Fl) : (Zgm f).length = 4 := rfl
@[simp] theorem f0 (f : Fl) : (Zgm f).getD 0 D0 = dS f.pkg := rfl
@[simp] theorem f1 (f : Fl) : (Zgm f).getD 1 D0 = .slc (Zmf f.imps) := rfl
@[simp] theorem f2 (f : Fl) : (Zgm f).getD 2 D0 = .slc (Zbn f.decls) := rfl
@[simp] theorem f3 (f : Fl) : (Zgm f).getD 3 D0 = .slc (txs f.tail) := rfl
@[simp] theorem Ze0 (l : List Im) : (Zmf l).length = l.length := by simp [Zmf]
theorem Zsv {l : List Im} {i : Nat} {x : Int} (hx : x = i) (h : i < l.length) : gAt (Zmf l) x = encI l[i] := by
 subst hx
 simp [gAt, Zmf, List.getD, h]
@[simp] theorem Zfp (i : Im) : (encI i).length = 3 := rfl
@[simp] theorem i0 (i : Im) : (encI i).getD 0 D0 = dS i.name := rfl
@[simp] theorem i1 (i : Im) : (encI i).getD 1 D0 = dS i.path := rfl
@[simp] theorem i2 (i : Im) : (encI i).getD 2 D0 = dI i.pos := rfl
def LmF (f : Fl) : Prop := (f.imps.length <= 2 ^ 50 /\ f.decls.length <= 2 ^ 50 /\ f.tail.length <= 2 ^ 50) /\ ∀ x ∈ f.decls, Lm x
def eqI (a b : Im) : Bool := a.name == b.name && a.path == b.path
def eqIs : List Im -> List Im -> Bool
 | [], [] => true
 | a :: l, b :: m => eqI a b && eqIs l m
 | [], _ :: _ => false
 | _ :: _, [] => false
theorem Zkq : ∀ {l m : List Im}, l.length ≠ m.length -> eqIs l m = false
 | [], [], h => absurd rfl h
 | [], _ :: _, _ => by simp [eqIs]
 | _ :: _, [], _ => by simp [eqIs]
 | a :: l, b :: m, h => by unfold eqIs; rw [Zkq (l := l) (m := m) (by simpa using h)]; simp
def eqF (f g : Fl) : Bool := f.pkg == g.pkg && eqIs f.imps g.imps && eqDs f.decls g.decls && decide (f.tail = g.tail)
theorem c61 (a b : Im) : Holds Tryz.prog 61 [.agg (encI a), .agg (encI b)] [] (Ret (Za9 (eqI a b))) := by
 refine w61 _ _ ?_
 simp only [Zfp, i0, i1, isK_str, Zef, Bool.or_true, true_and]
 exact ⟨teq rfl, teq rfl, by simp [eqI], rfl⟩
theorem c62 (l m : List Im) (hl : l.length <= 2 ^ 50) : Holds Tryz.prog 62 [slA (Zmf l), slA (Zmf m), .fn 61 []] [] (Ret (Za9 (eqIs l m))) := by
 refine w62 _ _ ⟨fun h => ?_, fun h => ?_⟩
 ·exact ⟨by rw [Zkq (by simp at h; omega)], rfl⟩
 ·have hlen : l.length = m.length := by simp at h; omega
  refine ⟨fun x => ∃ i : Nat, x = i /\ i <= l.length /\ eqIs (l.drop i) (m.drop i) = eqIs l m, fun x => l.length - x.toNat, ⟨0, rfl, Nat.zero_le _, rfl⟩, ?_, trivial⟩
  rintro x ⟨i, rfl, hi, hr⟩
  refine ⟨fun hc => ?_, fun hc => ?_⟩
  ·have h1 : i < l.length := by have := Zb7 hc; simp at this; omega
   have h2 : i < m.length := by omega
   rw [Zaj h1, Zaj h2, eqIs] at hr
   rw [Zsv rfl h1, Zsv rfl h2]
   refine ⟨tle (by omega), teq (by simp), tlt (by simp; omega), teq (by simp), Zbe (c61 _ _) ⟨_, rfl, rfl, fun hn => ?_, fun hn => ⟨tle (by omega), tle (by omega), ⟨i + 1, rfl, h1, ?_⟩, dec h1⟩⟩⟩
   ·have hn : eqI l[i] m[i] = false := by simpa using hn
    exact ⟨by rw [<- hr, hn]; rfl, rfl⟩
   ·have hn : eqI l[i] m[i] = true := by simpa using hn
    rw [<- hr, hn]; rfl
  ·have h1 : l.length <= i := by have := Zb8 hc; simp at this; omega
   rw [Zap h1, Zap (by omega)] at hr
   exact ⟨by rw [<- hr]; simp [eqIs], rfl⟩
theorem c19 (f g : Fl) (h : LmF f) : Holds Tryz.prog 19 [.agg (Zgm f), .agg (Zgm g)] [] (Ret (Za9 (eqF f g))) := by
 have no : ∀ b, eqF f g = b -> Ret (Za9 (eqF f g)) (.ret (Za9 b)) [] := fun b h => ⟨by rw [h], rfl⟩
 unfold eqF at no ⊢
 refine w19 _ _ ?_
 simp only [Zez, f0, f1, f2, f3, isK_str, isK_slc, Zef, Zcf, Bool.or_true, true_and]
 refine ⟨teq rfl, teq rfl, fun h1 => ?_, fun h1 => no _ ?_⟩
 ·refine Zbe (c62 _ _ (Nat.le_trans h.1.1 (by omega))) ⟨_, rfl, rfl, fun h2 => ?_, fun h2 => no _ (by simp [h2])⟩
  refine Zbe (c63' _ _ (Nat.le_trans h.1.2.1 (by omega)) h.2) ⟨_, rfl, rfl, fun h3 => ?_, fun h3 => no _ (by simp [h3])⟩
  refine Zbe (c65 _ _ (Nat.le_trans h.1.2.2 (by omega))) ⟨_, rfl, rfl, no _ ?_⟩
  simp only [Zfo, beq_iff_eq] at h1
  simp [h1, h2, h3]
 ·simp only [Zfo, beq_eq_false_iff_ne] at h1
  simp [h1]
end Go.Sy
end
section
open Go Go.Proofs Go.Ab Go.Rf
set_option linter.unusedSimpArgs false
set_option maxRecDepth 100000
namespace Go.Sy
def Zy4 (n : Int) (s : Tx) : Int := min (n + s.length) 10000
def Zix (n : Int) (l : List Tx) : Int := l.foldl Zy4 n
abbrev Zca (l : List Tx) : Int := Zix 0 l
theorem Ziy (n : Int) (s : Tx) (l : List Tx) : Zix n (s :: l) = Zix (min (n + s.length) 10000) l := rfl
theorem Zmg : ∀ (l : List Tx) (n : Int), 0 <= n -> n <= 10000 -> 0 <= Zix n l /\ Zix n l <= 10000 /\ (n <= Zix n l)
 | [], n, h1, h2 => ⟨h1, h2, Int.le_refl _⟩
 | s :: l, n, h1, h2 => by
   rw [Ziy]
   obtain ⟨a, b, c⟩ := Zmg l (min (n + s.length) 10000) (by omega) (by omega)
   exact ⟨a, b, by omega⟩
theorem Zbu (l : List Tx) : 0 <= Zca l /\ Zca l <= 10000 := by
 have := Zmg l 0 (by omega) (by omega); exact ⟨this.1, this.2.1⟩
theorem c41 (l : List Tx) (hl : l.length <= 2 ^ 50) (ht : ∀ s ∈ l, s.length <= 2 ^ 50) : Holds Tryz.prog 41 [slA (txs l)] [] (Ret (intA (Zca l))) := by
 refine w41 (txs l) ⟨fun n x => ∃ i : Nat, x = i /\ i <= l.length /\ 0 <= n /\ n <= 10000 /\ Zix n (l.drop i) = Zca l, fun _ x => l.length - x.toNat, ⟨0, rfl, Nat.zero_le _, by omega, by omega, rfl⟩, ?_, trivial⟩
 rintro n x ⟨i, rfl, hi, h1, h2, hr⟩
 refine ⟨fun hc => ?_, fun hc => ?_⟩
 ·have k1 : i < l.length := by have := Zb7 hc; simp at this; omega
  have k2 := ht _ (List.getElem_mem k1)
  rw [Zaj k1, Ziy] at hr
  rw [(getT k1).2]
  have e : (n + ((l[i]).length : Int) + 10000) - gMax (n + ((l[i]).length : Int)) 10000 = min (n + l[i].length) 10000 := by
   unfold gMax; split <;> omega
  rw [e]
  exact ⟨tle (by omega), teq (by rw [gT1 k1]; rfl), (getT k1).1, tle (by omega), tle (by omega), tle (by omega), tle (by omega), ⟨i + 1, rfl, k1, by omega, by omega, hr⟩, dec k1⟩
 ·have k1 : l.length <= i := by have := Zb8 hc; simp at this; omega
  rw [Zap k1] at hr
  exact ⟨by rw [<- hr]; rfl, rfl⟩
def BigB (B : Nat) (r : Nd) : Prop := (r.subs.length <= B /\ r.decls.length <= B /\ r.tail.length <= B /\ r.lead.length <= B) /\ (∀ s ∈ [r.text, r.n0, r.n1, r.trail], s.length <= B) /\ (∀ s ∈ r.tail, s.length <= B) /\ ∀ s ∈ r.lead, s.length <= B
abbrev Big (r : Nd) : Prop := BigB (2 ^ 50) r
theorem BigB.mono {B C : Nat} (hBC : B <= C) (r : Nd) (h : BigB B r) : BigB C r :=
 ⟨⟨Nat.le_trans h.1.1 hBC, Nat.le_trans h.1.2.1 hBC, Nat.le_trans h.1.2.2.1 hBC, Nat.le_trans h.1.2.2.2 hBC⟩, fun s hs => Nat.le_trans (h.2.1 s hs) hBC, fun s hs => Nat.le_trans (h.2.2.1 s hs) hBC, fun s hs => Nat.le_trans (h.2.2.2 s hs) hBC⟩
theorem Zxc {r : Nd} (h : All Big r) : Lm r := h.mono fun _ h => h.1
def ownE (r : Nd) : Int := 1 + r.tail.length + Zca [r.text, r.n0, r.n1] / 20 + Zca r.tail / 20
def ownD (r : Nd) : Int := 1 + r.lead.length + r.tail.length + Zca [r.text, r.n0, r.n1, r.trail] / 20 + Zca r.lead / 20 + Zca r.tail / 20
mutual
def Znq : Nd -> Int -> Int
 | .mk k n t a b tr le ta p s d, m => Zd0 d (Zcr s (m - ownE (.mk k n t a b tr le ta p s d)))
def Zcr : List Nd -> Int -> Int
 | [], m => m
 | x :: l, m => Zcr l (if 0 <= m then Znq x m else m)
def Zsw : Nd -> Int -> Int
 | .mk k n t a b tr le ta p s d, m => Zd0 d (Zcr s (m - ownD (.mk k n t a b tr le ta p s d)))
def Zd0 : List Nd -> Int -> Int
 | [], m => m
 | x :: l, m => if m < 0 then m else Zd0 l (Zsw x m)
end
theorem Zo8 (r : Nd) (m : Int) : Znq r m = Zd0 r.decls (Zcr r.subs (m - ownE r)) := by cases r; rw [Znq]; rfl
theorem Zo9 (r : Nd) (m : Int) : Zsw r m = Zd0 r.decls (Zcr r.subs (m - ownD r)) := by cases r; rw [Zsw]; rfl
theorem Zsx {r : Nd} (h : Big r) : 1 <= ownE r /\ ownE r <= 2 ^ 51 := by
 have h1 := Zbu [r.text, r.n0, r.n1]
 have h2 := Zbu r.tail
 have h3 := h.1.2.2.1
 unfold ownE; omega
theorem Zsy {r : Nd} (h : Big r) : 1 <= ownD r /\ ownD r <= 2 ^ 52 := by
 have h1 := Zbu [r.text, r.n0, r.n1, r.trail]
 have h2 := Zbu r.tail
 have h2' := Zbu r.lead
 have h3 := h.1.2.2
 unfold ownD; omega
def Bd (f : Int -> Int) : Prop := ∀ m, 0 <= m -> m <= 1000 -> - 2 ^ 52 <= f m /\ f m <= m
theorem Ziz : ∀ (l : List Nd), (∀ x ∈ l, Bd (Znq x)) -> ∀ m, - 2 ^ 52 <= m -> m <= 1000 -> - 2 ^ 52 <= Zcr l m /\ Zcr l m <= m
 | [], _, m, h1, h2 => ⟨h1, Int.le_refl _⟩
 | x :: l, h, m, h1, h2 => by
   rw [Zcr]
   split
   ·rename_i h0
    have hx := h x (List.mem_cons_self ..) m h0 h2
    have := Ziz l (fun y hy => h y (List.mem_cons_of_mem _ hy)) _ hx.1 (by omega)
    omega
   ·exact Ziz l (fun y hy => h y (List.mem_cons_of_mem _ hy)) m h1 h2
theorem Zi0 : ∀ (l : List Nd), (∀ x ∈ l, Bd (Zsw x)) -> ∀ m, - 2 ^ 52 <= m -> m <= 1000 -> - 2 ^ 52 <= Zd0 l m /\ Zd0 l m <= m
 | [], _, m, h1, h2 => ⟨h1, Int.le_refl _⟩
 | x :: l, h, m, h1, h2 => by
   rw [Zd0]
   split
   ·exact ⟨h1, Int.le_refl _⟩
   ·rename_i h0
    have hx := h x (List.mem_cons_self ..) m (by omega) h2
    have := Zi0 l (fun y hy => h y (List.mem_cons_of_mem _ hy)) _ hx.1 (by omega)
    omega
theorem Znr : ∀ r : Nd, All Big r -> Bd (Znq r) /\ Bd (Zsw r) := by
 refine Zo7 fun r hs hd hb => ?_
 have hE := Ziz r.subs fun x hx => (hs x hx (hb.sub hx)).1
 have hD := Zi0 r.decls fun x hx => (hd x hx (hb.dec hx)).2
 have h1 := Zsx hb.here
 have h2 := Zsy hb.here
 refine ⟨fun m m0 m1 => ?_, fun m m0 m1 => ?_⟩
 ·rw [Zo8]
  have a := hE (m - ownE r) (by omega) (by omega)
  have b := hD _ a.1 (by omega)
  omega
 ·rw [Zo9]
  have a := hE (m - ownD r) (by omega) (by omega)
  have b := hD _ a.1 (by omega)
  omega
theorem tdv {x : Int} (h : 0 <= x /\ x <= 10000) : x.tdiv 20 = x / 20 /\ 0 <= x / 20 /\ x / 20 <= 500 := ⟨Int.tdiv_eq_ediv_of_nonneg h.1, by omega, by omega⟩
abbrev H57 (e : Nd) : Prop := ∀ m, 0 <= m -> m <= 1000 -> Holds Tryz.prog 57 [.agg (encE e), intA m] [] (Ret (intA (Znq e m)))
abbrev H42 (l : List Nd) : Prop := ∀ m, - 2 ^ 52 <= m -> m <= 1000 -> Holds Tryz.prog 42 [slA (Zbn l), intA m] [] (Ret (intA (Zd0 l m)))
theorem c42 (l : List Nd) (hl : l.length <= 2 ^ 50) (hb : ∀ x ∈ l, All Big x) (ih : ∀ x ∈ l, H42 x.decls /\ ∀ e ∈ x.subs, H57 e) : H42 l := by
 intro m m0 m1
 refine w42 (Zbn l) m ⟨fun n x => ∃ i : Nat, x = i /\ i <= l.length /\ (- 2 ^ 52 <= n /\ n <= 1000) /\ Zd0 (l.drop i) n = Zd0 l m, fun _ x => l.length - x.toNat, ⟨0, rfl, Nat.zero_le _, ⟨m0, m1⟩, rfl⟩, ?_, trivial⟩
 rintro n x ⟨i, rfl, hi, hn, hr⟩
 refine ⟨fun hc => ?_, fun hc => ?_⟩
 ·have k1 : i < l.length := by have := Zb7 hc; simp at this; omega
  rw [Zaj k1, Zd0] at hr
  have hx := List.getElem_mem k1
  have l1 := hb _ hx
  have ihx := ih _ hx
  rw [Zss rfl k1]
  generalize l[i] = a at hr l1 ihx
  have b1 := l1.here
  have q1 := Zbu [a.text, a.n0, a.n1, a.trail]
  have q2 := Zbu a.lead
  have q3 := Zbu a.tail
  have o1 := Zsy b1
  simp only [Zec, d0, d1, d2, d3, d4, d5, d6, d7, d8, d9, d10, isK_int, isK_str, isK_slc, Zdk, Zef, Zcf, Bool.or_true, true_and, Zcm, Zdj, Zg0]
  refine ⟨tle (by omega), teq rfl, fun h => ?_, fun h => ?_⟩
  ·rw [if_pos (Zb7 h)] at hr
   exact ⟨by rw [<- hr], rfl⟩
  ·have h := Zb8 h
   rw [if_neg (by omega)] at hr
   have L := b1.1
   refine ⟨tle (by omega), tle (by omega), tle (by omega), tle (by omega), tle (by omega), tle (by omega), Zca [a.text, a.n0, a.n1, a.trail], fun _ => c41 [a.text, a.n0, a.n1, a.trail] (by simp) b1.2.1, ?_⟩
   rw [(tdv q1).1]
   refine ⟨tle (by omega), tle (by omega), tle (by omega), tle (by omega), Zca a.lead, fun _ => c41 a.lead L.2.2.2 b1.2.2.2, ?_⟩
   rw [(tdv q2).1]
   refine ⟨tle (by omega), tle (by omega), tle (by omega), tle (by omega), Zca a.tail, fun _ => c41 a.tail L.2.2.1 b1.2.2.1, ?_⟩
   rw [(tdv q3).1]
   have eo : n - 1 - (a.lead.length : Int) - (a.tail.length : Int) - Zca [a.text, a.n0, a.n1, a.trail] / 20 - Zca a.lead / 20 - Zca a.tail / 20 = n - ownD a := by unfold ownD; omega
   rw [eo]
   refine ⟨tle (by omega), tle (by omega), tle (by omega), tle (by omega), fun n' x => ∃ j : Nat, x = j /\ j <= a.subs.length /\ (- 2 ^ 52 <= n' /\ n' <= 1000) /\ Zcr (a.subs.drop j) n' = Zcr a.subs (n - ownD a), fun _ x => a.subs.length - x.toNat, ⟨0, rfl, Nat.zero_le _, ⟨by omega, by omega⟩, rfl⟩, ?_, trivial⟩
   rintro n' x ⟨j, rfl, hj, hn', hrj⟩
   refine ⟨fun hcj => ?_, fun hcj => ?_⟩
   ·have j1 : j < a.subs.length := by have := Zb7 hcj; omega
    rw [Zaj j1, Zcr] at hrj
    rw [Zme rfl j1]
    refine ⟨tle (by omega), teq (by simp), fun h0 => ?_, fun h0 => ?_⟩
    ·have h0 := Zvh h0
     rw [if_pos h0] at hrj
     have hm := List.getElem_mem j1
     have hbd := (Znr _ (l1.sub hm)).1 n' h0 (by omega)
     exact Zbe (ihx.2 _ hm n' h0 (by omega)) ⟨_, rfl, rfl, tle (by omega), tle (by omega), ⟨j + 1, rfl, j1, ⟨hbd.1, by omega⟩, hrj⟩, dec j1⟩
    ·rw [if_neg (by have := Zvi h0; omega)] at hrj
     exact ⟨tle (by omega), tle (by omega), ⟨j + 1, rfl, j1, hn', hrj⟩, dec j1⟩
   ·have j1 : a.subs.length <= j := by have := Zb8 hcj; omega
    rw [Zap j1, Zcr] at hrj
    refine Zbe (ihx.1 n' hn'.1 hn'.2) ⟨_, rfl, rfl, tle (by omega), tle (by omega), ⟨i + 1, rfl, k1, ?_, ?_⟩, dec k1⟩
    ·have := Zi0 a.decls (fun y hy => (Znr y (l1.dec hy)).2) n' hn'.1 hn'.2
     omega
    ·rw [<- hr, Zo9, <- hrj]
 ·have k1 : l.length <= i := by have := Zb8 hc; simp at this; omega
  rw [Zap k1] at hr
  exact ⟨by rw [<- hr]; rfl, rfl⟩
theorem Zy5 : ∀ (r : Nd), All Big r -> H57 r /\ H42 r.decls /\ ∀ e ∈ r.subs, H57 e := by
 refine Zo7 fun r hs hd hb => ?_
 have ihs : ∀ e ∈ r.subs, H57 e := fun x hx => (hs x hx (hb.sub hx)).1
 have ihd : H42 r.decls := c42 r.decls hb.here.1.2.1 (fun x hx => hb.dec hx) fun x hx => (hd x hx (hb.dec hx)).2
 refine ⟨fun m m0 m1 => ?_, ihd, ihs⟩
 have b1 := hb.here
 have q1 := Zbu [r.text, r.n0, r.n1]
 have q3 := Zbu r.tail
 have o1 := Zsx b1
 have L := b1.1
 refine w57 (encE r) m ?_
 simp only [Zeb, e0, e1, e2, e3, e4, e5, e6, e7, e8, isK_int, isK_str, isK_slc, Zdk, Zef, Zcf, Bool.or_true, true_and, Zcm, Zdj, Zg0]
 refine ⟨teq rfl, tle (by omega), tle (by omega), tle (by omega), tle (by omega), Zca [r.text, r.n0, r.n1], fun _ => c41 [r.text, r.n0, r.n1] (by simp) (fun s hs => b1.2.1 s (by simp only [List.mem_cons, List.not_mem_nil, or_false] at hs ⊢; rcases hs with h | h | h <;> simp [h])), ?_⟩
 rw [(tdv q1).1]
 refine ⟨tle (by omega), tle (by omega), tle (by omega), tle (by omega), Zca r.tail, fun _ => c41 r.tail L.2.2.1 b1.2.2.1, ?_⟩
 rw [(tdv q3).1]
 have eo : m - 1 - (r.tail.length : Int) - Zca [r.text, r.n0, r.n1] / 20 - Zca r.tail / 20 = m - ownE r := by unfold ownE; omega
 rw [eo]
 refine ⟨tle (by omega), tle (by omega), tle (by omega), tle (by omega), fun n' x => ∃ j : Nat, x = j /\ j <= r.subs.length /\ (- 2 ^ 52 <= n' /\ n' <= 1000) /\ Zcr (r.subs.drop j) n' = Zcr r.subs (m - ownE r), fun _ x => r.subs.length - x.toNat, ⟨0, rfl, Nat.zero_le _, ⟨by omega, by omega⟩, rfl⟩, ?_, trivial⟩
 rintro n' x ⟨j, rfl, hj, hn', hrj⟩
 refine ⟨fun hcj => ?_, fun hcj => ?_⟩
 ·have j1 : j < r.subs.length := by have := Zb7 hcj; omega
  rw [Zaj j1, Zcr] at hrj
  rw [Zme rfl j1]
  refine ⟨tle (by omega), teq (by simp), fun h0 => ?_, fun h0 => ?_⟩
  ·have h0 := Zvh h0
   rw [if_pos h0] at hrj
   have hm := List.getElem_mem j1
   have hbd := (Znr _ (hb.sub hm)).1 n' h0 (by omega)
   exact Zbe (ihs _ hm n' h0 (by omega)) ⟨_, rfl, rfl, tle (by omega), tle (by omega), ⟨j + 1, rfl, j1, ⟨hbd.1, by omega⟩, hrj⟩, dec j1⟩
  ·rw [if_neg (by have := Zvi h0; omega)] at hrj
   exact ⟨tle (by omega), tle (by omega), ⟨j + 1, rfl, j1, hn', hrj⟩, dec j1⟩
 ·have j1 : r.subs.length <= j := by have := Zb8 hcj; omega
  rw [Zap j1, Zcr] at hrj
  exact Zbe (ihd n' hn'.1 hn'.2) ⟨_, rfl, rfl, by rw [Zo8, <- hrj], rfl⟩
def smE (r : Nd) : Bool := decide (0 <= Znq r 100)
theorem c16 (r : Nd) (h : All Big r) : Holds Tryz.prog 16 [.agg (encE r)] [] (Ret (Za9 (smE r))) :=
 w16 _ ⟨teq (by simp), Zbe ((Zy5 r h).1 100 (by omega) (by omega)) ⟨_, rfl, rfl, by simp [smE], rfl⟩⟩
def BigI (i : Im) : Prop := i.name.length <= 2 ^ 50 /\ i.path.length <= 2 ^ 50
def BigF (f : Fl) : Prop := (f.imps.length <= 2 ^ 50 /\ f.decls.length <= 2 ^ 50 /\ f.tail.length <= 2 ^ 50) /\ f.pkg.length <= 2 ^ 50 /\ (∀ s ∈ f.tail, s.length <= 2 ^ 50) /\ (∀ i ∈ f.imps, BigI i) /\ ∀ x ∈ f.decls, All Big x
def smI (i : Im) : Bool := decide ((i.name.length : Int) + i.path.length <= 200)
def smF (f : Fl) : Bool := decide (f.imps.length <= 5 /\ f.tail.length <= 20 /\ Zca [f.pkg] + Zca f.tail <= 1000) && (f.imps.all smI && decide (0 <= Zd0 f.decls 150))
theorem c12 (f : Fl) (h : BigF f) : Holds Tryz.prog 12 [.agg (Zgm f)] [] (Ret (Za9 (smF f))) := by
 have no : ∀ b, smF f = b -> Ret (Za9 (smF f)) (.ret (Za9 b)) [] := fun b h => ⟨by rw [h], rfl⟩
 have q1 := Zbu [f.pkg]
 have q2 := Zbu f.tail
 obtain ⟨⟨L1, L2, L3⟩, P, T, I, D⟩ := h
 unfold smF at no ⊢
 refine w12 _ ?_
 simp only [Zez, f0, f1, f2, f3, isK_str, isK_slc, Zef, Zcf, Bool.or_true, true_and, Ze0, Zdj, Zg0]
 refine ⟨teq rfl, fun h => ?_, fun h => no _ ?_⟩
 ·have h := nb1 h
  simp only [Bool.or_eq_false_iff] at h
  have g1 := Zb8 h.1
  have g2 := Zb8 h.2
  refine ⟨Zca [f.pkg], fun _ => c41 [f.pkg] (by simp) (by simpa using P), Zbe (c41 f.tail L3 T) ⟨_, rfl, rfl, tle (by omega), tle (by omega), fun h3 => no _ ?_, fun h3 => ?_⟩⟩
  ·have := Zb7 h3
   rw [show decide (f.imps.length <= 5 /\ f.tail.length <= 20 /\ Zca [f.pkg] + Zca f.tail <= 1000) = false from decide_eq_false (by omega)]; rfl
  ·have g3 := Zb8 h3
   rw [show decide (f.imps.length <= 5 /\ f.tail.length <= 20 /\ Zca [f.pkg] + Zca f.tail <= 1000) = true from decide_eq_true (by omega), Bool.true_and] at no ⊢
   refine ⟨fun x => ∃ j : Nat, x = j /\ j <= f.imps.length /\ (f.imps.drop j).all smI = f.imps.all smI, fun x => f.imps.length - x.toNat, ⟨0, rfl, Nat.zero_le _, rfl⟩, ?_, trivial⟩
   rintro x ⟨j, rfl, hj, hr⟩
   refine ⟨fun hc => ?_, fun hc => ?_⟩
   ·have k1 : j < f.imps.length := by have := Zb7 hc; omega
    have hI := I _ (List.getElem_mem k1)
    have g := Zsv (x := (j : Int)) rfl k1
    rw [Zaj k1, List.all_cons] at hr
    obtain ⟨I1, I2⟩ := hI
    simp only [g, Zfp, i0, i1, i2, isK_int, isK_str, Zef, Zdk, true_and]
    refine ⟨tle (by omega), teq rfl, tle (by omega), tle (by omega), fun hn => no _ ?_, fun hn => ⟨tle (by omega), tle (by omega), ⟨j + 1, rfl, k1, ?_⟩, dec k1⟩⟩
    ·have := Zb7 hn
     rw [<- hr, show smI f.imps[j] = false from decide_eq_false (by omega)]; rfl
    ·have := Zb8 hn
     rw [<- hr, show smI f.imps[j] = true from decide_eq_true (by omega)]; rfl
   ·have k1 : f.imps.length <= j := by have := Zb8 hc; omega
    rw [Zap k1] at hr
    have := c42 f.decls L2 D (fun x hx => (Zy5 x (D x hx)).2) 150 (by omega) (by omega)
    exact Zbe this ⟨_, rfl, rfl, by rw [<- hr]; simp, rfl⟩
 ·have h := nb0 h
  simp only [Bool.or_eq_true] at h
  rw [show decide (f.imps.length <= 5 /\ f.tail.length <= 20 /\ Zca [f.pkg] + Zca f.tail <= 1000) = false from decide_eq_false (by
   rcases h with h | h
   ·have := Zb7 h; omega
   ·have := Zb7 h; omega)]; rfl
mutual
def wE : Nd -> Int
 | .mk k n t a b tr le ta p s d => ownE (.mk k n t a b tr le ta p s d) + wEs s + wDs d
def wEs : List Nd -> Int
 | [] => 0
 | x :: l => wE x + wEs l
def wD : Nd -> Int
 | .mk k n t a b tr le ta p s d => ownD (.mk k n t a b tr le ta p s d) + wEs s + wDs d
def wDs : List Nd -> Int
 | [] => 0
 | x :: l => wD x + wDs l
end
mutual
def wfE : Nd -> Prop
 | .mk _ _ _ _ _ tr le _ _ s d => (tr = [] /\ le = []) /\ wfEs s /\ wfDs d
def wfEs : List Nd -> Prop
 | [] => True
 | x :: l => wfE x /\ wfEs l
def wfD : Nd -> Prop
 | .mk _ _ _ _ _ _ _ _ _ s d => wfEs s /\ wfDs d
def wfDs : List Nd -> Prop
 | [] => True
 | x :: l => wfD x /\ wfDs l
end
theorem Zpa : ∀ (l : List Nd), wfEs l ↔ ∀ x ∈ l, wfE x
 | [] => by simp [wfEs]
 | x :: l => by rw [wfEs, Zpa l]; simp
theorem Zpb : ∀ (l : List Nd), wfDs l ↔ ∀ x ∈ l, wfD x
 | [] => by simp [wfDs]
 | x :: l => by rw [wfDs, Zpb l]; simp
def wfF (f : Fl) : Prop := wfDs f.decls
end Go.Sy
end
section
open Go Go.Proofs Go.Ab Go.Rf Go.ChangeShapes Go.WideShapes
set_option maxRecDepth 100000
set_option linter.unusedSimpArgs false
namespace Go.Sy
def prW (w : World) : Nat -> Nat -> Prop := fun b _ => b < w.heap.size
def ghW (w : World) : Gh := ⟨prW w, fun _ => 0, fun _ => 0, fun _ => False⟩
theorem Zxd {w : World} {a : Addr} {v : Value} (h : w.cell? a = some v) : a.block < w.heap.size := by
 unfold World.cell? at h
 by_cases hb : a.block < w.heap.size
 ·exact hb
 ·simp [Array.getElem?_eq_none (by omega : w.heap.size <= a.block)] at h
theorem Zsz {w : World} {a : Addr} {n : Nat} {cs : List Value} (h : w.cells? 0 a n = some cs) : cs.length = n /\ ∀ i, i < n -> w.cell? (a.add i) = cs[i]? := by
 unfold World.cells? at h
 rw [if_pos (Nat.zero_le _)] at h
 have hl := mapM_some_length h
 simp only [List.length_range] at hl
 refine ⟨hl, fun i hi => mapM_some_get h i i (by simp [hi])⟩
theorem Zs0 {α β : Type} {R : α -> β -> Prop} : ∀ {l : List α} {m : List β}, All2 R l m -> ∀ (i : Nat) (h : i < l.length), ∃ b, m[i]? = some b /\ R l[i] b
 | a :: l, b :: m, ⟨h1, _⟩, 0, _ => ⟨b, rfl, h1⟩
 | a :: l, b :: m, ⟨_, h2⟩, i + 1, h => by
   obtain ⟨c, h3, h4⟩ := Zs0 h2 i (by simpa using h)
   exact ⟨c, by simpa using h3, by simpa using h4⟩
 | [], _, _, i, h => by simp at h
theorem Zkr {α β : Type} {R : α -> β -> Prop} : ∀ {l : List α} {m : List β}, All2 R l m -> l.length = m.length
 | [], [], _ => rfl
 | _ :: _, _ :: _, ⟨_, h⟩ => by simp [Zkr h]
 | [], _ :: _, h => h.elim
 | _ :: _, [], h => h.elim
section
variable {H : Type} {en : TypeId × Value -> H} {w : World}
theorem Zy6 {α : Type} {E : α -> List D} {n : Nat} (hn : 0 < n) (hE : ∀ a, (E a).length = n) {b off cap : Nat} (l : List α) (hc : l.length <= cap) (V : Nat -> List Value)
 (h : ∀ i (hi : i < l.length), All2 (RepD w (prW w)) (E l[i]) (V i) /\ ∀ j, j < n -> w.cell? ⟨b, off + (i * n + j), none⟩ = (V i)[j]?) :
 RepD w (prW w) (.slc (l.map E)) (.slice (some ⟨b, off, none⟩) l.length cap) := by
 have hk : ∀ k, k < l.length * n -> w.cell? ⟨b, off + k, none⟩ = some ((V (k / n)).getD (k % n) .nilIface) := by
  intro k hk
  have hi : k / n < l.length := Nat.div_lt_of_lt_mul (by rw [Nat.mul_comm]; exact hk)
  obtain ⟨h1, h3⟩ := h _ hi
  have hl := Zkr h1
  rw [hE] at hl
  have := h3 (k % n) (Nat.mod_lt _ hn)
  rw [show k / n * n + k % n = k by rw [Nat.mul_comm]; exact Nat.div_add_mod k n] at this
  rw [this, List.getElem?_eq_getElem (by rw [<- hl]; exact Nat.mod_lt _ hn)]
  simp [List.getD, List.getElem?_eq_getElem (show k % n < (V (k / n)).length by rw [<- hl]; exact Nat.mod_lt _ hn)]
 have hlen : (l.map E).length = l.length := by simp
 rw [<- hlen]
 refine .slc (l.map E) n b off cap _ hn ?_ (by rw [hlen]; exact hc) (fun k hk' => hk k (by rw [hlen] at hk'; exact hk')) (fun k hk' => Zxd (hk k (by rw [hlen] at hk'; exact hk'))) ?_
 ·intro e he
  obtain ⟨a, _, rfl⟩ := List.mem_map.1 he
  exact hE a
 ·intro i j hi hj
  have hi' : i < l.length := by rw [hlen] at hi; exact hi
  have e : (l.map E)[i] = E l[i] := by simp
  have hj' : j < n := by rw [e, hE] at hj; exact hj
  obtain ⟨h1, _⟩ := h i hi'
  obtain ⟨v, hv, hr⟩ := Zs0 h1 j (by rw [hE]; exact hj')
  have e1 : (i * n + j) / n = i := by rw [Nat.mul_comm, Nat.mul_add_div hn, Nat.div_eq_of_lt hj', Nat.add_zero]
  have e2 : (i * n + j) % n = j := by rw [Nat.mul_comm, Nat.mul_add_mod, Nat.mod_eq_of_lt hj']
  rw [e1, e2]
  simp only [e]
  simpa [List.getD, hv] using hr
def Fit (t : TypeId) (x : DataW H × List MemPlace) : Prop := ∀ k ∈ x.1.weights Tryz.prog t, k <= reachBytes
theorem Zdo {P : Program} {e : TypeId} {k : Nat} : ∀ {l : List (DataW H)} {d : DataW H}, d ∈ l -> k ∈ d.weights P e -> k ∈ DataW.weightsAll P e l
 | a :: l, d, h, hk => by
   unfold DataW.weightsAll
   rcases List.mem_cons.1 h with rfl | h
   ·exact List.mem_append_left _ hk
   ·exact List.mem_append_right _ (Zdo h hk)
theorem Ze6 {α : Type} {E : α -> List D} {Good : α -> Prop} {n : Nat} {t e : TypeId} (ht : Tryz.prog.underlying t = some (.slice e)) (hc : Tryz.prog.cellsOf e = n) (hn : 0 < n) (hby : 1 <= Tryz.prog.bytesOf e) (hE : ∀ a, (E a).length = n) {fuel : Nat}
 (ih : ∀ q < fuel, ∀ (cs : List Value) (x : DataW H × List MemPlace), DataW.trod en Tryz.prog w 0 (fun _ => true) true q e cs = some x -> Fit e x -> ∃ a : α, All2 (RepD w (prW w)) (E a) cs /\ Good a)
 {v : Value} {x : DataW H × List MemPlace} (h : DataW.trod en Tryz.prog w 0 (fun _ => true) true fuel t [v] = some x) (hz : Fit t x) :
 ∃ l : List α, RepD w (prW w) (.slc (l.map E)) v /\ l.length <= 2 ^ 50 /\ ∀ a ∈ l, Good a := by
 rcases DataW.trod_slice ht h with ⟨e1, _⟩ | ⟨ad, len, cap, elems, rest, q, hq, e1, hx, _, hlc, _, hel, hes, _⟩
 ·have e1 : v = .slice none 0 0 := by simpa using e1
  exact ⟨[], by rw [e1]; exact .emp _ _, by simp, fun _ h => by cases h⟩
 ·have e1 : v = .slice (some ad) len cap := by simpa using e1
  rw [hc] at hes
  subst hx
  have hW : (elems.map (·.1)).length * Tryz.prog.bytesOf e <= reachBytes /\ ∀ y ∈ elems, Fit e y := by
   unfold Fit at hz
   simp only [DataW.weights, ht, List.mem_cons, List.mem_append] at hz
   refine ⟨Nat.le_trans (Nat.mul_le_mul_right _ (Nat.le_add_right _ _)) (hz _ (.inl rfl)), fun y hy k hk => hz k (.inr (.inl (Zdo (List.mem_map.2 ⟨y, hy, rfl⟩) hk)))⟩
  have hlen : len <= 2 ^ 50 := by
   have h1 := hW.1
   rw [List.length_map, hel] at h1
   have h2 : len * 1 <= len * Tryz.prog.bytesOf e := Nat.mul_le_mul_left _ hby
   have h3 : reachBytes <= 2 ^ 50 := by decide
   omega
  have hall : ∀ i, i < len -> ∃ (r : α) (V : List Value), All2 (RepD w (prW w)) (E r) V /\ Good r /\ ∀ j, j < n -> w.cell? ((ad.add (i * n)).add j) = V[j]? := by
   intro i hi
   have h3 := hes i hi
   have hi' : i < elems.length := by omega
   rw [List.getElem?_eq_getElem hi'] at h3
   obtain ⟨cs', h4, h5⟩ := Option.bind_eq_some_iff.1 h3
   obtain ⟨r, h7, h8⟩ := ih q (by omega) _ _ h5 (hW.2 _ (List.getElem_mem hi'))
   exact ⟨r, cs', h7, h8, (Zsz h4).2⟩
  by_cases h0 : len = 0
  ·subst h0; exact ⟨[], by rw [e1]; exact .emp _ _, by simp, fun _ h => by cases h⟩
  ·have hall' : ∃ (f : Nat -> α) (V : Nat -> List Value), ∀ i, i < len -> All2 (RepD w (prW w)) (E (f i)) (V i) /\ Good (f i) /\ ∀ j, j < n -> w.cell? ((ad.add (i * n)).add j) = (V i)[j]? := by
    classical
    obtain ⟨a0, _⟩ := hall 0 (by omega)
    refine ⟨fun i => if h : i < len then (hall i h).choose else a0, fun i => if h : i < len then (hall i h).choose_spec.choose else [], fun i hi => ?_⟩
    simp only [hi, dif_pos]
    exact (hall i hi).choose_spec.choose_spec
   obtain ⟨f, V, hfV⟩ := hall'
   subst e1
   refine ⟨(List.range len).map f, ?_, by simpa using hlen, fun r hr => ?_⟩
   ·have sp : ad.spot = none := by
     have h1 := (hfV 0 (by omega)).2.2 0 hn
     have hl := Zkr (hfV 0 (by omega)).1
     rw [hE] at hl
     rw [List.getElem?_eq_getElem (by omega)] at h1
     simpa [Addr.add] using World.cell?_spot h1
    obtain ⟨bb, off, spot⟩ := ad
    subst sp
    have := Zy6 (w := w) hn hE (b := bb) (off := off) (cap := cap) ((List.range len).map f) (by simpa using hlc) V (fun i hi => by
     have hi' : i < len := by simpa using hi
     obtain ⟨k2, _, k4⟩ := hfV i hi'
     refine ⟨by simpa using k2, fun j hj => ?_⟩
     rw [<- k4 j hj, <- Go.WideShapes.add_plain, Go.Deep.add_add])
    simpa using this
   ·obtain ⟨i, hi, rfl⟩ := List.mem_map.1 hr
    exact (hfV i (List.mem_range.1 hi)).2.1
theorem Zcx {t : TypeId} (ht : Tryz.prog.underlying t = some .string) {fuel : Nat} {cs : List Value} {x : DataW H × List MemPlace} (h : DataW.trod en Tryz.prog w 0 (fun _ => true) true fuel t cs = some x) (hz : Fit t x) :
 ∃ s : Tx, cs = [Zaw s] /\ s.length <= 2 ^ 50 := by
 obtain ⟨s, h1, h2, _⟩ := DataW.trod_string ht h
 refine ⟨s.data.toList, by rw [h1]; simp [Zaw], ?_⟩
 subst h2
 have := hz s.data.toList.length (by simp [DataW.weights])
 have h3 : reachBytes <= 2 ^ 50 := by decide
 omega
theorem Zdd {P : Program} {k : Nat} : ∀ {ts : List TypeId} {l : List (DataW H)} {i : Nat} {t : TypeId} {d : DataW H}, ts[i]? = some t -> l[i]? = some d -> k ∈ d.weights P t -> k ∈ DataW.weightsEach P ts l
 | t :: ts, a :: l, 0, _, _, h1, h2, hk => by
   unfold DataW.weightsEach
   cases h1; cases h2
   exact List.mem_append_left _ hk
 | t :: ts, a :: l, i + 1, _, _, h1, h2, hk => by
   unfold DataW.weightsEach
   exact List.mem_append_right _ (Zdd (by simpa using h1) (by simpa using h2) hk)
 | [], _, _, _, _, h1, _, _ => by simp at h1
 | _ :: _, [], _, _, _, _, h2, _ => by simp at h2
theorem Zed {t : TypeId} {fs : Array Field} (ht : Tryz.prog.underlying t = some (.struct fs)) {fuel : Nat} {cs : List Value} {x : DataW H × List MemPlace} (h : DataW.trod en Tryz.prog w 0 (fun _ => true) true fuel t cs = some x) (hz : Fit t x) :
 cs.length = Tryz.prog.cellsOf t /\ ∃ n < fuel, ∀ (i : Nat) (ty : TypeId) (off : Nat), (fs[i]?).map (fun f => (f.type, f.offset)) = some (ty, off) -> ∃ y, DataW.trod en Tryz.prog w 0 (fun _ => true) true n ty ((cs.drop off).take (Tryz.prog.cellsOf ty)) = some y /\ Fit ty y := by
 obtain ⟨xs, n, rfl, rfl, hl, hxs, hf⟩ := DataW.trod_struct ht h
 refine ⟨hl, n, Nat.lt_succ_self n, fun i ty off hm => ?_⟩
 obtain ⟨f, hi, he⟩ := Option.map_eq_some_iff.1 hm
 cases he
 have hi' : i < xs.length := by
  rw [hxs]
  exact (Array.getElem?_eq_some_iff.1 hi).1
 refine ⟨xs[i], by rw [hf i f hi, List.getElem?_eq_getElem hi'], fun k hk => hz k ?_⟩
 unfold DataW.weights
 rw [ht]
 refine Zdd (i := i) (t := f.type) (d := xs[i].1) ?_ ?_ hk
 ·rw [List.getElem?_map, Array.getElem?_toList, hi]; rfl
 ·rw [List.getElem?_map, List.getElem?_eq_getElem hi']; rfl
theorem Zjs {t e : TypeId} {n : Nat} (ht : Tryz.prog.underlying t = some (.array n e)) {fuel : Nat} {cs : List Value} {x : DataW H × List MemPlace} (h : DataW.trod en Tryz.prog w 0 (fun _ => true) true fuel t cs = some x) (hz : Fit t x) :
 cs.length = Tryz.prog.cellsOf t /\ ∃ m < fuel, ∀ i < n, ∃ y, DataW.trod en Tryz.prog w 0 (fun _ => true) true m e ((cs.drop (i * Tryz.prog.cellsOf e)).take (Tryz.prog.cellsOf e)) = some y /\ Fit e y := by
 obtain ⟨xs, m, rfl, rfl, hl, hxs, hf⟩ := DataW.trod_array ht h
 refine ⟨hl, m, Nat.lt_succ_self m, fun i hi => ?_⟩
 have hi' : i < xs.length := by omega
 refine ⟨xs[i], by rw [hf i hi, List.getElem?_eq_getElem hi'], fun k hk => hz k ?_⟩
 unfold DataW.weights
 rw [ht]
 exact Zdo (List.mem_map.2 ⟨xs[i], List.getElem_mem hi', rfl⟩) hk
theorem Zs1 : Tryz.prog.cellsOf 3 = 1 := by kernel_rfl
theorem Zjt : Tryz.prog.cellsOf 9 = 1 := by kernel_rfl
theorem Zvj : Tryz.prog.cellsOf 2 = 1 := by kernel_rfl
theorem Zs2 : Tryz.prog.cellsOf 31 = 2 := by kernel_rfl
theorem Zs3 : Tryz.prog.cellsOf 32 = 1 := by kernel_rfl
theorem Zxe : Tryz.prog.cellsOf 22 = 1 := by kernel_rfl
theorem Zns : Tryz.prog.cellsOf 23 = 1 := by kernel_rfl
theorem Znt : Tryz.prog.cellsOf 24 = 1 := by kernel_rfl
theorem Znu : Tryz.prog.cellsOf 34 = 9 := by kernel_rfl
theorem Zs4 : Tryz.prog.cellsOf 52 = 11 := by kernel_rfl
theorem Zs5 : Tryz.prog.cellsOf 57 = 3 := by kernel_rfl
theorem Zxf : Tryz.prog.cellsOf 26 = 4 := by kernel_rfl
theorem Zxg : Tryz.prog.cellsOf 37 = 18 := by kernel_rfl
theorem by9 : 1 <= Tryz.prog.bytesOf 9 := of_decide_eq_true (by kernel_rfl)
theorem by34 : 1 <= Tryz.prog.bytesOf 34 := of_decide_eq_true (by kernel_rfl)
theorem by52 : 1 <= Tryz.prog.bytesOf 52 := of_decide_eq_true (by kernel_rfl)
theorem by57 : 1 <= Tryz.prog.bytesOf 57 := of_decide_eq_true (by kernel_rfl)
theorem Zhl {fuel : Nat} {v : Value} {x : DataW H × List MemPlace} (h : DataW.trod en Tryz.prog w 0 (fun _ => true) true fuel 24 [v] = some x) (hz : Fit 24 x) :
 ∃ l : List Tx, RepD w (prW w) (.slc (txs l)) v /\ l.length <= 2 ^ 50 /\ ∀ s ∈ l, s.length <= 2 ^ 50 :=
 Ze6 (E := fun s => [dS s]) Tryz.underlying24 Zjt (by decide) by9 (fun _ => rfl) (fun q _ cs y hy hf => by
  obtain ⟨s, rfl, hs⟩ := Zcx Tryz.underlying9 hy hf
  exact ⟨s, ⟨.lit _ rfl, trivial⟩, hs⟩) h hz
theorem Zju {fuel : Nat} {a b : Value} {x : DataW H × List MemPlace} (h : DataW.trod en Tryz.prog w 0 (fun _ => true) true fuel 31 [a, b] = some x) (hz : Fit 31 x) :
 ∃ s t : Tx, a = Zaw s /\ b = Zaw t /\ s.length <= 2 ^ 50 /\ t.length <= 2 ^ 50 := by
 obtain ⟨_, m, _, hf⟩ := Zjs Tryz.underlying31 h hz
 rw [Zjt] at hf
 obtain ⟨y, h1, h2⟩ := hf 0 (by decide)
 obtain ⟨z, h3, h4⟩ := hf 1 (by decide)
 obtain ⟨s, e1, hs⟩ := Zcx Tryz.underlying9 h1 h2
 obtain ⟨t, e2, ht⟩ := Zcx Tryz.underlying9 h3 h4
 exact ⟨s, t, by simpa using e1, by simpa using e2, hs, ht⟩
abbrev Zxh (H : Type) (en : TypeId × Value -> H) (w : World) (fuel : Nat) : Prop := ∀ (cs : List Value) (x : DataW H × List MemPlace), DataW.trod en Tryz.prog w 0 (fun _ => true) true fuel 34 cs = some x -> Fit 34 x -> ∃ r : Nd, All2 (RepD w (prW w)) (encE r) cs /\ wfE r /\ All Big r
abbrev Zxi (H : Type) (en : TypeId × Value -> H) (w : World) (fuel : Nat) : Prop := ∀ (cs : List Value) (x : DataW H × List MemPlace), DataW.trod en Tryz.prog w 0 (fun _ => true) true fuel 52 cs = some x -> Fit 52 x -> ∃ r : Nd, All2 (RepD w (prW w)) (encD r) cs /\ wfD r /\ All Big r
theorem Zs6 {fuel : Nat} (ih : ∀ q < fuel, Zxh H en w q) {v : Value} {x : DataW H × List MemPlace} (h : DataW.trod en Tryz.prog w 0 (fun _ => true) true fuel 32 [v] = some x) (hz : Fit 32 x) :
 ∃ l : List Nd, RepD w (prW w) (.slc (Zeh l)) v /\ l.length <= 2 ^ 50 /\ wfEs l /\ ∀ r ∈ l, All Big r := by
 obtain ⟨l, h1, h2, h3⟩ := Ze6 (E := encE) (Good := fun r => wfE r /\ All Big r) Tryz.underlying32 Znu (by decide) by34 Zeb ih h hz
 exact ⟨l, by rw [Zgk]; exact h1, h2, (Zpa l).2 fun r hr => (h3 r hr).1, fun r hr => (h3 r hr).2⟩
theorem Znv {fuel : Nat} (ih : ∀ q < fuel, Zxi H en w q) {v : Value} {x : DataW H × List MemPlace} (h : DataW.trod en Tryz.prog w 0 (fun _ => true) true fuel 23 [v] = some x) (hz : Fit 23 x) :
 ∃ l : List Nd, RepD w (prW w) (.slc (Zbn l)) v /\ l.length <= 2 ^ 50 /\ wfDs l /\ ∀ r ∈ l, All Big r := by
 obtain ⟨l, h1, h2, h3⟩ := Ze6 (E := encD) (Good := fun r => wfD r /\ All Big r) Tryz.underlying23 Zs4 (by decide) by52 Zec ih h hz
 exact ⟨l, by rw [Zgl]; exact h1, h2, (Zpb l).2 fun r hr => (h3 r hr).1, fun r hr => (h3 r hr).2⟩
theorem Znw (fuel : Nat) : Zxh H en w fuel /\ Zxi H en w fuel := by
 induction fuel using Nat.strongRecOn with
 | ind fuel ih =>
   have ihE : ∀ q < fuel, Zxh H en w q := fun q hq => (ih q hq).1
   have ihD : ∀ q < fuel, Zxi H en w q := fun q hq => (ih q hq).2
   refine ⟨fun cs x h hz => ?_, fun cs x h hz => ?_⟩
   ·obtain ⟨hl, n, hn, hf⟩ := Zed Tryz.underlying34 h hz
    rw [Znu] at hl
    match cs, hl with
    | [v0, v1, v2, v3, v4, v5, v6, v7, v8], _ =>
      obtain ⟨y0, a0, b0⟩ := hf 0 3 0 rfl
      obtain ⟨y1, a1, b1⟩ := hf 1 9 1 rfl
      obtain ⟨y2, a2, b2⟩ := hf 2 2 2 rfl
      obtain ⟨y3, a3, b3⟩ := hf 3 31 3 rfl
      obtain ⟨y4, a4, b4⟩ := hf 4 32 5 rfl
      obtain ⟨y5, a5, b5⟩ := hf 5 23 6 rfl
      obtain ⟨y6, a6, b6⟩ := hf 6 24 7 rfl
      obtain ⟨y7, a7, b7⟩ := hf 7 3 8 rfl
      simp only [Zs1, Zjt, Zvj, Zs2, Zs3, Zns, Znt] at a0 a1 a2 a3 a4 a5 a6 a7
      obtain ⟨k, e0, _⟩ := DataW.trod_int Tryz.underlying3 a0
      obtain ⟨t, e1, g1⟩ := Zcx Tryz.underlying9 a1 b1
      obtain ⟨m, e2, _⟩ := DataW.trod_int Tryz.underlying2 a2
      obtain ⟨p, q, e3, e4, g3, g4⟩ := Zju a3 b3
      obtain ⟨s, e5, l5, f5, g5⟩ := Zs6 (fun q hq => ihE q (by omega)) a4 b4
      obtain ⟨d, e6, l6, f6, g6⟩ := Znv (fun q hq => ihD q (by omega)) a5 b5
      obtain ⟨c, e7, l7, g7⟩ := Zhl a6 b6
      obtain ⟨o, e8, _⟩ := DataW.trod_int Tryz.underlying3 a7
      have u0 : v0 = _ := (List.cons.inj (show [v0] = _ from e0)).1
      have u1 : v1 = _ := (List.cons.inj (show [v1] = _ from e1)).1
      have u2 : v2 = _ := (List.cons.inj (show [v2] = _ from e2)).1
      have u8 : v8 = _ := (List.cons.inj (show [v8] = _ from e8)).1
      subst u0 u1 u2 e3 e4 u8
      refine ⟨.mk k m t p q [] [] c o s d, ?_, ?_, .mk ⟨⟨l5, l6, l7, by simp [Nd.lead]⟩, ?_, g7, by simp [Nd.lead]⟩ g5 g6⟩
      ·rw [encE]
       exact ⟨.lit _ rfl, .lit _ rfl, .lit _ rfl, .lit _ rfl, .lit _ rfl, e5, e6, e7, .lit _ rfl, trivial⟩
      ·rw [wfE]; exact ⟨⟨rfl, rfl⟩, f5, f6⟩
      ·intro z hz
       simp only [Nd.text, Nd.n0, Nd.n1, Nd.trail, List.mem_cons, List.not_mem_nil, or_false] at hz
       rcases hz with rfl | rfl | rfl | rfl
       ·exact g1
       ·exact g3
       ·exact g4
       ·simp
   ·obtain ⟨hl, n, hn, hf⟩ := Zed Tryz.underlying52 h hz
    rw [Zs4] at hl
    match cs, hl with
    | [v0, v1, v2, v3, v4, v5, v6, v7, v8, v9, v10], _ =>
      obtain ⟨y0, a0, b0⟩ := hf 0 3 0 rfl
      obtain ⟨y1, a1, b1⟩ := hf 1 3 1 rfl
      obtain ⟨y2, a2, b2⟩ := hf 2 9 2 rfl
      obtain ⟨y3, a3, b3⟩ := hf 3 31 3 rfl
      obtain ⟨y4, a4, b4⟩ := hf 4 32 5 rfl
      obtain ⟨y5, a5, b5⟩ := hf 5 23 6 rfl
      obtain ⟨y6, a6, b6⟩ := hf 6 24 7 rfl
      obtain ⟨y7, a7, b7⟩ := hf 7 24 8 rfl
      obtain ⟨y8, a8, b8⟩ := hf 8 9 9 rfl
      obtain ⟨y9, a9, b9⟩ := hf 9 3 10 rfl
      simp only [Zs1, Zjt, Zvj, Zs2, Zs3, Zns, Znt] at a0 a1 a2 a3 a4 a5 a6 a7 a8 a9
      obtain ⟨k, e0, _⟩ := DataW.trod_int Tryz.underlying3 a0
      obtain ⟨m, e1, _⟩ := DataW.trod_int Tryz.underlying3 a1
      obtain ⟨t, e2, g1⟩ := Zcx Tryz.underlying9 a2 b2
      obtain ⟨p, q, e3, e4, g3, g4⟩ := Zju a3 b3
      obtain ⟨s, e5, l5, f5, g5⟩ := Zs6 (fun q hq => ihE q (by omega)) a4 b4
      obtain ⟨d, e6, l6, f6, g6⟩ := Znv (fun q hq => ihD q (by omega)) a5 b5
      obtain ⟨c, e7, l7, g7⟩ := Zhl a6 b6
      obtain ⟨le, e8, l8, g8⟩ := Zhl a7 b7
      obtain ⟨tr, e9, g9⟩ := Zcx Tryz.underlying9 a8 b8
      obtain ⟨o, e10, _⟩ := DataW.trod_int Tryz.underlying3 a9
      have u0 : v0 = _ := (List.cons.inj (show [v0] = _ from e0)).1
      have u1 : v1 = _ := (List.cons.inj (show [v1] = _ from e1)).1
      have u2 : v2 = _ := (List.cons.inj (show [v2] = _ from e2)).1
      have u9 : v9 = _ := (List.cons.inj (show [v9] = _ from e9)).1
      have u10 : v10 = _ := (List.cons.inj (show [v10] = _ from e10)).1
      subst u0 u1 u2 e3 e4 u9 u10
      refine ⟨.mk k m t p q tr le c o s d, ?_, ?_, .mk ⟨⟨l5, l6, l7, l8⟩, ?_, g7, g8⟩ g5 g6⟩
      ·rw [encD]
       exact ⟨.lit _ rfl, .lit _ rfl, .lit _ rfl, .lit _ rfl, .lit _ rfl, e5, e6, e7, e8, .lit _ rfl, .lit _ rfl, trivial⟩
      ·rw [wfD]; exact ⟨f5, f6⟩
      ·intro z hz
       simp only [Nd.text, Nd.n0, Nd.n1, Nd.trail, List.mem_cons, List.not_mem_nil, or_false] at hz
       rcases hz with rfl | rfl | rfl | rfl
       ·exact g1
       ·exact g3
       ·exact g4
       ·exact g9
theorem Zy7 {fuel : Nat} {cs : List Value} {x : DataW H × List MemPlace} (h : DataW.trod en Tryz.prog w 0 (fun _ => true) true fuel 57 cs = some x) (hz : Fit 57 x) :
 ∃ i : Im, All2 (RepD w (prW w)) (encI i) cs /\ BigI i := by
 obtain ⟨hl, n, hn, hf⟩ := Zed Tryz.underlying57 h hz
 rw [Zs5] at hl
 match cs, hl with
 | [v0, v1, v2], _ =>
   obtain ⟨y0, a0, b0⟩ := hf 0 9 0 rfl
   obtain ⟨y1, a1, b1⟩ := hf 1 9 1 rfl
   obtain ⟨y2, a2, b2⟩ := hf 2 3 2 rfl
   simp only [Zs1, Zjt] at a0 a1 a2
   obtain ⟨t, e0, g0⟩ := Zcx Tryz.underlying9 a0 b0
   obtain ⟨p, e1, g1⟩ := Zcx Tryz.underlying9 a1 b1
   obtain ⟨k, e2, _⟩ := DataW.trod_int Tryz.underlying3 a2
   have u0 : v0 = _ := (List.cons.inj (show [v0] = _ from e0)).1
   have u1 : v1 = _ := (List.cons.inj (show [v1] = _ from e1)).1
   have u2 : v2 = _ := (List.cons.inj (show [v2] = _ from e2)).1
   subst u0 u1 u2
   exact ⟨⟨t, p, k⟩, ⟨.lit _ rfl, .lit _ rfl, .lit _ rfl, trivial⟩, g0, g1⟩
theorem Zy8 {fuel : Nat} {cs : List Value} {x : DataW H × List MemPlace} (h : DataW.trod en Tryz.prog w 0 (fun _ => true) true fuel 26 cs = some x) (hz : Fit 26 x) :
 ∃ f : Fl, All2 (RepD w (prW w)) (Zgm f) cs /\ BigF f /\ wfF f := by
 obtain ⟨hl, n, hn, hf⟩ := Zed Tryz.underlying26 h hz
 rw [Zxf] at hl
 match cs, hl with
 | [v0, v1, v2, v3], _ =>
   obtain ⟨y0, a0, b0⟩ := hf 0 9 0 rfl
   obtain ⟨y1, a1, b1⟩ := hf 1 22 1 rfl
   obtain ⟨y2, a2, b2⟩ := hf 2 23 2 rfl
   obtain ⟨y3, a3, b3⟩ := hf 3 24 3 rfl
   simp only [Zjt, Zxe, Zns, Znt] at a0 a1 a2 a3
   obtain ⟨t, e0, g0⟩ := Zcx Tryz.underlying9 a0 b0
   obtain ⟨im, e1, l1, g1⟩ := Ze6 (E := encI) (Good := BigI) Tryz.underlying22 Zs5 (by decide) by57 (fun _ => rfl) (fun q _ cs y hy hf => Zy7 hy hf) a1 b1
   obtain ⟨d, e2, l2, f2, g2⟩ := Znv (fun q _ => (Znw q).2) a2 b2
   obtain ⟨c, e3, l3, g3⟩ := Zhl a3 b3
   have u0 : v0 = _ := (List.cons.inj (show [v0] = _ from e0)).1
   subst u0
   exact ⟨⟨t, im, d, c⟩, ⟨.lit _ rfl, e1, e2, e3, trivial⟩, ⟨⟨l1, l2, l3⟩, g0, g3, g1, g2⟩, f2⟩
theorem Zy9 {fuel : Nat} {cs : List Value} {x : DataW H × List MemPlace} (h : DataW.trod en Tryz.prog w 0 (fun _ => true) true fuel 37 cs = some x) (hz : Fit 37 x) :
 ∃ a b : Nd, All2 (RepD w (prW w)) (encE a ++ encE b) cs /\ (wfE a /\ All Big a) /\ wfE b /\ All Big b := by
 obtain ⟨hl, m, _, hf⟩ := Zjs Tryz.underlying37 h hz
 rw [Zxg] at hl
 rw [Znu] at hf
 obtain ⟨y, h1, h2⟩ := hf 0 (by decide)
 obtain ⟨z, h3, h4⟩ := hf 1 (by decide)
 obtain ⟨a, k1, k2⟩ := (Znw m).1 _ _ h1 h2
 obtain ⟨b, k3, k4⟩ := (Znw m).1 _ _ h3 h4
 refine ⟨a, b, ?_, k2, k4⟩
 match cs, hl with
 | [v0, v1, v2, v3, v4, v5, v6, v7, v8, u0, u1, u2, u3, u4, u5, u6, u7, u8], _ =>
   rw [Zbw a] at k1 ⊢
   rw [Zbw b] at k3 ⊢
   obtain ⟨a0, a1, a2, a3, a4, a5, a6, a7, a8, _⟩ := k1
   obtain ⟨b0, b1, b2, b3, b4, b5, b6, b7, b8, _⟩ := k3
   exact ⟨a0, a1, a2, a3, a4, a5, a6, a7, a8, b0, b1, b2, b3, b4, b5, b6, b7, b8, trivial⟩
end
end Go.Sy
end
section
open Go Go.Proofs Go.Ab Go.Rf Go.ChangeShapes Go.WideShapes Go.ChangeAt
set_option maxRecDepth 100000
namespace Go.Sy
theorem lay : laidOutB Tryz.prog = true := by kernel_rfl
theorem own : ownKnob Tryz.prog.godebug = none := by kernel_rfl
theorem Holds.out {P : Program} {f : FuncId} {args : List A} {v : A} (h : Holds P f args [] (Ret v)) {w : World} {cargs : Array Value}
 (ha : All2 (fun x v => ∀ p, RepA w (ghW w) (fun _ => 0) p x v) args cargs.toList) :
 CallsX P f cargs w fun e w' => ∃ cv g', e = .returned cv /\ RepA w' g' (fun _ => 0) .res v cv /\ RowKit.Below w.heap.size w w' := by
 have hh : HeapRel (Za7 P w (ghW w) [] 0) (Zbk []) (ghW w) w := by
  have no : ∀ {o b}, ¬ Owns (Zbk []) (ghW w) o b := fun ho => by
   cases ho with
   | box h => cases h
   | slot h => cases h
   | cell h _ _ => cases h
  exact ⟨fun r c h => (by cases h), fun o o' b h _ => (no h).elim, fun o b h => (no h).elim, fun b o h => h, fun _ _ h => h, fun _ _ h => .inl h, fun _ => rfl, fun _ h => h, Fr.refl _ _ _⟩
 refine (h w cargs (ghW w) ha hh).mono fun e w' ⟨out, H', g', hR, hH, hr, he⟩ => ?_
 obtain ⟨rfl, rfl⟩ := hR
 obtain ⟨cv, rfl, h1, _⟩ := he
 refine ⟨cv, g', rfl, h1, hr.fr.os, hr.fr.tape, hr.fr.output, hr.fr.size, fun b hb => hr.fr.same b hb ?_⟩
 rintro ⟨o, ho⟩
 cases ho with
 | box h => cases h
 | slot h => cases h
 | cell h _ _ => cases h
theorem Znx {P : Program} {f : FuncId} {fn : Func} {c : Code} (hf : P.funcs[f]? = some fn) (hb : fn.body = some c) (hn : (fn.name == "runtime.NumGoroutine") = false) {args : Array Value} {w : World} {R : Ending -> World -> Prop}
 (h : CallsX P f args w R) : Calls P f args w R := by
 unfold CallsX at h
 rw [Zg3 hf hb hn] at h
 exact h
section
variable {H : Type} {en : TypeId × Value -> H} {w : World} {base : Nat} {sp : Nat -> Bool}
theorem Zza {v : Value} {d : DataW H} {p : List MemPlace} (hv : Value.okWide Tryz.prog w .any base 26 v) (h : DataW.Trod en Tryz.prog w 0 (fun _ => true) true 26 v d p) (hz : ∀ k ∈ d.weights Tryz.prog 26, k <= reachBytes) :
 ∃ f : Fl, (∀ q, RepA w (ghW w) (fun _ => 0) q (.agg (Zgm f)) v) /\ BigF f /\ wfF f := by
 obtain ⟨fuel, h⟩ := h
 simp only [Value.okWide, Tryz.underlying26] at hv
 obtain ⟨cs, rfl, _⟩ := hv
 obtain ⟨f, h2, h3⟩ := Zy8 h hz
 exact ⟨f, fun q => ⟨cs.toList, by simp, h2⟩, h3⟩
theorem Zzs {v : Value} {d : DataW H} {p : List MemPlace} (hv : Value.okWide Tryz.prog w .any base 37 v) (h : DataW.Trod en Tryz.prog w 0 (fun _ => true) true 37 v d p) (hz : ∀ k ∈ d.weights Tryz.prog 37, k <= reachBytes) :
 ∃ a b : Nd, (∀ q, RepA w (ghW w) (fun _ => 0) q (.agg (encE a ++ encE b)) v) /\ All Big a /\ All Big b := by
 obtain ⟨fuel, h⟩ := h
 simp only [Value.okWide, Tryz.underlying37] at hv
 obtain ⟨cs, rfl, _⟩ := hv
 obtain ⟨a, b, h2, h3, h4⟩ := Zy9 h hz
 exact ⟨a, b, fun q => ⟨cs.toList, by simp, h2⟩, h3.2, h4.2⟩
theorem Zmh (hl : laidOutB Tryz.prog = true) {W W' : World} : ∀ {ts : List TypeId} {vs : List Value} {ds : List (DataW H)} {ps : List MemPlace}, (∀ t ∈ ts, Tryz.prog.readableRec t = true /\ t < Tryz.prog.types.size) ->
 DataW.TrodAll en Tryz.prog W 0 (fun _ => true) true ts vs ds ps -> RowKit.Below W.heap.size W W' -> (∀ p ∈ ps, p.block < W.heap.size) -> (∀ p ∈ ps, sp p.block = true) -> DataW.TrodAll en Tryz.prog W' 0 sp true ts vs ds ps
 | [], _, _, _, _, h, _, _, _ => by
   obtain ⟨rfl, rfl, rfl⟩ := trodAll_nil h
   rfl
 | t :: ts, _, _, _, ht, h, hb, hlt, hs => by
   obtain ⟨v, vs1, d, ds1, a, b, rfl, rfl, rfl, h1, h2⟩ := trodAll_cons h
   refine ⟨a, b, ?_, Zmh hl (fun t h => ht t (List.mem_cons_of_mem _ h)) h2 hb (fun p hp => hlt p (List.mem_append_right _ hp)) (fun p hp => hs p (List.mem_append_right _ hp)), rfl⟩
   exact WideElems.Trod_stays hl (ht t (List.mem_cons_self ..)).1 (ht t (List.mem_cons_self ..)).2 h1 (fun p hp => hb.same (hlt p (List.mem_append_left _ hp))) (fun p hp => hs p (List.mem_append_left _ hp))
theorem Zut {fn : Func} {s : ChangeSpec} {W W' : World} {args : Array Value} {ds gs : List (DataW H)} {before : List MemPlace} (hvs : s.vars = [])
 (hW : DataW.Whole en Tryz.prog fn.params.toList s.vars false W args.toList ds gs before) (hres : fn.resultTypes = #[4])
 (hspec : s.fn H ds = ⟨[.lit (.bool true)], ds, []⟩) (hl : laidOutB Tryz.prog = true) (hrd0 : (fn.params.toList.all fun t => Tryz.prog.readableRec t && decide (t < Tryz.prog.types.size)) = true)
 (hb : RowKit.Below W.heap.size W W') : s.post en Tryz.prog fn false true false false W args (.bool true) W' := by
 have hlt := hW.lt
 have hrd : ∀ t ∈ fn.params.toList, Tryz.prog.readableRec t = true /\ t < Tryz.prog.types.size := fun t ht => by
  have := List.all_eq_true.1 hrd0 t ht
  simpa using this
 obtain ⟨p, q, hA, hV, rfl, hfz, hnd⟩ := id hW
 rw [hvs] at hV
 obtain ⟨rfl, rfl⟩ := trodVars_none hV
 have hold : ∀ x ∈ p ++ [], (fun b => decide (b < W.heap.size)) x.block = true := fun x hx => by simpa using hlt x hx
 have hr : ∀ (b : Nat) (sp : Nat -> Bool) (hd : Bool), DataW.TrodAll en Tryz.prog W' b sp hd fn.resultTypes.toList ((Value.bool true).resultList fn.resultTypes.size) (s.fn H (ds ++ [])).results [] := fun b sp hd => by
  rw [List.append_nil, hspec, hres]
  exact trodAll_cons_mk (RowKit.shut_bool Tryz.underlying4 _) trodAll_mk0
 have ha : ∀ sp : Nat -> Bool, (∀ x ∈ p ++ [], sp x.block = true) -> DataW.TrodAll en Tryz.prog W' 0 sp true fn.params.toList args.toList (s.fn H (ds ++ [])).args p := fun sp hs => by
  rw [List.append_nil, hspec]
  exact Zmh hl hrd hA hb (fun x hx => hlt x (by simpa using hx)) (fun x hx => hs x (by simpa using hx))
 have hv : ∀ sp : Nat -> Bool, DataW.TrodVars en Tryz.prog W' sp s.vars (s.fn H (ds ++ [])).vars [] := fun sp => by
  rw [List.append_nil, hspec, hvs]
  rfl
 refine ⟨ds, [], p ++ [], [], p, [], hW, hr _ _ _, ha _ hold, hv _, hb.frame _, fun _ => ⟨RowKit.ok_one hres rfl (RowKit.okWide_bool_mk Tryz.underlying4 _), _, _, ([] ++ p) ++ [], ⟨[] ++ p, [], trodAll_append (ha _ (fun _ _ => rfl)) (hr _ _ _), hv _, rfl, ?_, ?_⟩, ?_⟩⟩
 ·intro b off hx
  have hx' : MemPlace.cell b off ∈ p ++ [] := by simpa using hx
  rw [hb.frozen (hlt _ hx')]
  exact hfz b off hx'
 ·intro h; cases h
 ·intro x hx _
  simpa using hx
theorem Zs7 {ts : List TypeId} {ds : List (DataW H)} (hz : (DataW.weightsEach Tryz.prog ts ds).all (· <= reachBytes) = true) {i : Nat} {t : TypeId} {d : DataW H} (h1 : ts[i]? = some t) (h2 : ds[i]? = some d) : ∀ k ∈ d.weights Tryz.prog t, k <= reachBytes := fun k hk => by
 have := List.all_eq_true.1 hz k (Zdd h1 h2 hk)
 simpa using this
end
def Zzb : Array Value := (Pinned.utf8FirstZ.map fun (n : Nat) => Value.int .u8 n).toArray
def Zxj : Array Value := ((([128, 191, 160, 191, 128, 159, 144, 191, 128, 143] : List Nat) ++ List.replicate 22 0).map fun (n : Nat) => Value.int .u8 n).toArray
def setC (v : Array Value) : Obj -> Obj
 | .cells _ t fr => .cells v t fr
 | o => o
noncomputable def Zi1 (os : Os) : World :=
 { World.holding Tryz.prog os ⟨#[], #[], []⟩ with heap := ((World.holding Tryz.prog os ⟨#[], #[], []⟩).heap.modify 1 (setC Zzb)).modify 2 (setC Zxj) }
def zF : Value := .agg #[.string ⟨#[]⟩, .slice none 0 0, .slice none 0 0, .slice none 0 0]
def zP : Value := .agg #[.int .i64 0, .string ⟨#[]⟩, .int .i64 0, .string ⟨#[]⟩, .string ⟨#[]⟩, .slice none 0 0, .slice none 0 0, .slice none 0 0, .int .i64 0, .int .i64 0, .string ⟨#[]⟩, .int .i64 0, .string ⟨#[]⟩, .string ⟨#[]⟩, .slice none 0 0, .slice none 0 0, .slice none 0 0, .int .i64 0]
def dE {H : Type} : DataW H := .agg [.lit (.int .i64 0), .lit (.string []), .lit (.int .i64 0), .agg [.lit (.string []), .lit (.string [])], .nil, .nil, .nil, .lit (.int .i64 0)]
def dF {H : Type} : DataW H := .agg [.lit (.string []), .nil, .nil, .nil]
def dP {H : Type} : DataW H := .agg [dE, dE]
end Go.Sy
end
section
open Go Go.Proofs Go.Ab Go.Rf
set_option maxRecDepth 1000000
set_option maxHeartbeats 2000000
namespace Go.Sy
def k33 : Wk := ⟨33, [0, 1, 2], { fresh := [6] }, [.agg (.var 0)], [], 1⟩
noncomputable def t33 : T := k33.tree Tryz.prog
def k33b : Wk := ⟨33, [0, 1, 2], {  }, [.agg (.var 0)], [], 1⟩
noncomputable def t33b : T := k33b.tree Tryz.prog
def k13 : Wk := ⟨13, [0, 1, 2, 51, 70], { fresh := [13], ags := [(33, (2, (11, 1)))], poke := [3, 4, 5], com := [(6, (2, 2))] }, [], [], 0⟩
noncomputable def t13 : T := k13.tree Tryz.prog
def k66 : Wk := ⟨66, [0, 1, 4, 5, 6, 7, 8, 13, 15, 16, 17, 68, 90, 93, 94, 95, 108], { lat := [6], com := [(17, (17, 5000)), (17, (5, 5000)), (17, (6, 5000)), (17, (7, 5000)), (17, (68, 5000)), (17, (4, 5000)), (17, (90, 5000)), (17, (93, 5000)), (17, (94, 5000)), (17, (95, 5000)), (17, (8, 5000)), (17, (108, 5000)), (16, (95, 5000)), (16, (8, 5000)), (16, (108, 5000)), (16, (4, 5000))] }, [.c (.o1 .cl (.var 0)), .c (.o1 .cl (.var 1))], [], 2⟩
noncomputable def t66 : T := k66.tree Tryz.prog
def k68a : Wk := ⟨68, [0, 1, 3, 4], { own := [(69, 1)], lat := [1] }, [.c (.o1 .cl (.var 0)), .agg (.var 1)], [], 2⟩
noncomputable def t68a : T := k68a.tree Tryz.prog
def k68b : Wk := ⟨68, [0, 1, 3, 4], { lat := [1], zres := [69] }, [.c (.o1 .cl (.var 0)), .agg (.var 1)], [], 2⟩
noncomputable def t68b : T := k68b.tree Tryz.prog
def k69 : Wk := ⟨69, [0, 2, 4], { fresh := [5] }, [.c (.o1 .cl (.var 0))], [], 1⟩
noncomputable def t69 : T := k69.tree Tryz.prog
def k81 : Wk := ⟨81, [0, 2, 4], { fresh := [5] }, [.c (.o1 .cl (.var 0))], [], 1⟩
noncomputable def t81 : T := k81.tree Tryz.prog
def k70a : Wk := ⟨70, [0, 1, 2, 3, 4, 5, 6, 8, 9, 10, 11, 21, 45, 46, 47, 48, 59], { own := [(68, 1)], cuts := [5, 11], dat := [1, 10], two := [(70, 1), (72, 1), (85, 1), (86, 1), (87, 1)], com := [(12, (48, 5000)), (12, (9, 5000)), (12, (8, 5000)), (12, (10, 5000)), (12, (59, 5000))] }, [.agg (.var 0), .c (.o1 .cl (.var 1)), .ptr (.up 0) 0, .ptr (.up 1) 0, .ptr (.up 2) 0, .ptr (.up 3) 0], [[.zs .lnil], [.fn 68 []], [.fn 70 [.up 0, .up 1, .up 2, .up 3]], [.fn 72 [.up 2, .up 1, .up 3]]], 2⟩
noncomputable def t70a : T := k70a.tree Tryz.prog
def k70b : Wk := ⟨70, [0, 1, 2, 3, 4, 5, 6, 8, 9, 10, 11, 21, 45, 46, 47, 48, 59], { own := [(68, 1)], cuts := [5, 11], dat := [1, 10], com := [(12, (48, 5000)), (12, (9, 5000)), (12, (8, 5000)), (12, (10, 5000)), (12, (59, 5000))] }, [.agg (.var 0), .c (.o1 .cl (.var 1)), .ptr (.up 0) 0, .ptr (.up 1) 0, .ptr (.up 2) 0, .ptr (.up 3) 0], [[.own 1 (.var 2) .lnil], [.fn 68 []], [.fn 70 [.up 0, .up 1, .up 2, .up 3]], [.fn 72 [.up 2, .up 1, .up 3]]], 3⟩
noncomputable def t70b : T := k70b.tree Tryz.prog
def k72a : Wk := ⟨72, [0, 1, 2, 3, 4, 8, 10, 11, 12, 13, 14, 15, 19, 20, 21, 22, 33], { own := [(68, 1)], cuts := [8, 11], dat := [1, 11], two := [(70, 1), (72, 1), (85, 1), (86, 1), (87, 1)], com := [(12, (15, 5000)), (12, (8, 5000)), (12, (19, 5000)), (12, (20, 5000)), (12, (21, 5000)), (12, (22, 5000)), (12, (10, 5000)), (12, (11, 5000)), (12, (33, 5000)), (7, (22, 5000)), (7, (10, 5000))] }, [.c (.o1 .cl (.var 0)), .c (.o1 .cl (.var 1)), .ptr (.up 0) 0, .ptr (.up 2) 0, .ptr (.up 3) 0], [[.fn 70 [.up 1, .up 2, .up 0, .up 3]], [.zs .lnil], [.fn 68 []], [.fn 72 [.up 0, .up 2, .up 3]]], 2⟩
noncomputable def t72a : T := k72a.tree Tryz.prog
def k72b : Wk := ⟨72, [0, 1, 2, 3, 4, 8, 10, 11, 12, 13, 14, 15, 19, 20, 21, 22, 33], { own := [(68, 1)], cuts := [11], dat := [1, 11], com := [(12, (15, 5000)), (12, (8, 5000)), (12, (19, 5000)), (12, (20, 5000)), (12, (21, 5000)), (12, (22, 5000)), (12, (10, 5000)), (12, (11, 5000)), (12, (33, 5000)), (7, (22, 5000)), (7, (10, 5000))] }, [.c (.o1 .cl (.var 0)), .c (.o1 .cl (.var 1)), .ptr (.up 0) 0, .ptr (.up 2) 0, .ptr (.up 3) 0], [[.fn 70 [.up 1, .up 2, .up 0, .up 3]], [.own 1 (.var 2) .lnil], [.fn 68 []], [.fn 72 [.up 0, .up 2, .up 3]]], 3⟩
noncomputable def t72b : T := k72b.tree Tryz.prog
def k86a : Wk := ⟨86, [0, 1, 2, 3, 4, 6, 8, 9, 10, 11], { two := [(70, 1), (72, 1), (85, 1), (86, 1), (87, 1)], com := [(5, (11, 5000)), (5, (6, 5000))] }, [.agg (.var 0), .ptr (.up 0) 0, .ptr (.up 1) 0, .ptr (.up 2) 0], [[.fn 86 [.up 0, .up 1, .up 2]], [.fn 87 [.up 2, .up 0, .up 1]], [.fn 85 [.up 3]], [.zs .lnil]], 1⟩
noncomputable def t86a : T := k86a.tree Tryz.prog
def k86b : Wk := ⟨86, [0, 1, 2, 3, 4, 6, 8, 9, 10, 11], { com := [(5, (11, 5000)), (5, (6, 5000))] }, [.agg (.var 0), .ptr (.up 0) 0, .ptr (.up 1) 0, .ptr (.up 2) 0], [[.fn 86 [.up 0, .up 1, .up 2]], [.fn 87 [.up 2, .up 0, .up 1]], [.fn 85 [.up 3]], [.own 1 (.var 1) .lnil]], 2⟩
noncomputable def t86b : T := k86b.tree Tryz.prog
def k87a : Wk := ⟨87, [0, 1, 2, 3, 6, 8, 9, 10, 11, 12, 20, 21, 22, 23, 40], { cuts := [9, 13], two := [(70, 1), (72, 1), (85, 1), (86, 1), (87, 1)], com := [(13, (12, 5000)), (13, (6, 5000)), (13, (20, 5000)), (13, (21, 5000)), (13, (22, 5000)), (13, (23, 5000)), (13, (8, 5000)), (13, (40, 5000)), (8, (23, 5000)), (8, (8, 5000))] }, [.c (.o1 .cl (.var 0)), .ptr (.up 0) 0, .ptr (.up 2) 0, .ptr (.up 3) 0], [[.fn 85 [.up 1]], [.zs .lnil], [.fn 86 [.up 2, .up 3, .up 0]], [.fn 87 [.up 0, .up 2, .up 3]]], 1⟩
noncomputable def t87a : T := k87a.tree Tryz.prog
def k87b : Wk := ⟨87, [0, 1, 2, 3, 6, 8, 9, 10, 11, 12, 20, 21, 22, 23, 40], { cuts := [13], com := [(13, (12, 5000)), (13, (6, 5000)), (13, (20, 5000)), (13, (21, 5000)), (13, (22, 5000)), (13, (23, 5000)), (13, (8, 5000)), (13, (40, 5000)), (8, (23, 5000)), (8, (8, 5000))] }, [.c (.o1 .cl (.var 0)), .ptr (.up 0) 0, .ptr (.up 2) 0, .ptr (.up 3) 0], [[.fn 85 [.up 1]], [.own 1 (.var 1) .lnil], [.fn 86 [.up 2, .up 3, .up 0]], [.fn 87 [.up 0, .up 2, .up 3]]], 2⟩
noncomputable def t87b : T := k87b.tree Tryz.prog
def k24 : Wk := ⟨24, [0, 1, 2, 3, 4, 5, 6], { two := [(70, 1), (72, 1), (85, 1), (86, 1), (87, 1)] }, [.agg (.var 0)], [], 1⟩
noncomputable def t24 : T := k24.tree Tryz.prog
def k31 : Wk := ⟨31, [0, 1, 2, 3, 4, 5, 6], { two := [(70, 1), (72, 1), (85, 1), (86, 1), (87, 1)] }, [.agg (.var 0)], [], 1⟩
noncomputable def t31 : T := k31.tree Tryz.prog
def k85a : Wk := ⟨85, [0, 1], {  }, [.c (.o1 .cl (.var 0)), .ptr (.up 0) 0], [[.zs .lnil]], 1⟩
noncomputable def t85a : T := k85a.tree Tryz.prog
def k85b : Wk := ⟨85, [0, 1], {  }, [.c (.o1 .cl (.var 0)), .ptr (.up 0) 0], [[.own 1 (.var 1) .lnil]], 2⟩
noncomputable def t85b : T := k85b.tree Tryz.prog
def k62 : Wk := ⟨62, [0, 1, 2, 6, 7, 8, 9, 14, 15, 16, 17, 18, 30], { com := [(9, (18, 5000)), (9, (8, 5000)), (9, (7, 5000)), (9, (9, 5000)), (9, (30, 5000)), (9, (6, 5000))] }, [.c (.o1 .cl (.var 0)), .c (.o1 .cl (.var 1)), .fn 61 []], [], 2⟩
noncomputable def t62 : T := k62.tree Tryz.prog
def k63 : Wk := ⟨63, [0, 1, 2, 6, 7, 8, 9, 14, 15, 16, 17, 18, 30], { com := [(9, (18, 5000)), (9, (8, 5000)), (9, (7, 5000)), (9, (9, 5000)), (9, (30, 5000)), (9, (6, 5000))] }, [.c (.o1 .cl (.var 0)), .c (.o1 .cl (.var 1)), .fn 64 []], [], 2⟩
noncomputable def t63 : T := k63.tree Tryz.prog
def k67 : Wk := ⟨67, [0, 1, 2, 6, 7, 8, 9, 14, 15, 16, 17, 18, 30], { com := [(9, (18, 5000)), (9, (8, 5000)), (9, (7, 5000)), (9, (9, 5000)), (9, (30, 5000)), (9, (6, 5000))] }, [.c (.o1 .cl (.var 0)), .c (.o1 .cl (.var 1)), .fn 21 []], [], 2⟩
noncomputable def t67 : T := k67.tree Tryz.prog
def k110 : Wk := ⟨110, [0, 1, 4, 5, 7, 8, 9, 16], { com := [(6, (9, 5000)), (6, (5, 5000)), (6, (16, 5000)), (6, (4, 5000))] }, [.c (.o1 .cl (.var 0)), .fn 95 []], [], 1⟩
noncomputable def t110 : T := k110.tree Tryz.prog
def k94 : Wk := ⟨94, [0, 1, 4], {  }, [.c (.o1 .cl (.var 0)), .fn 95 []], [], 1⟩
noncomputable def t94 : T := k94.tree Tryz.prog
def k74s : Wk := ⟨74, [0, 1, 2, 3, 6, 7], {  }, [.agg (.var 0), .fn 79 [], .fn 80 []], [], 1⟩
noncomputable def t74s : T := k74s.tree Tryz.prog
def k78s : Wk := ⟨78, [0, 1, 2, 6, 7, 9, 10, 11, 12, 13, 14], { com := [(10, (14, 5000)), (10, (9, 5000)), (10, (10, 5000))] }, [.c (.o1 .cl (.var 0)), .fn 79 [], .fn 80 []], [], 1⟩
noncomputable def t78s : T := k78s.tree Tryz.prog
def k107s : Wk := ⟨107, [0, 1, 2, 6, 7, 9, 10, 11, 12, 13], { com := [(6, (13, 5000)), (6, (9, 5000))] }, [.c (.o1 .cl (.var 0)), .fn 79 [], .fn 80 []], [], 1⟩
noncomputable def Zzt : T := k107s.tree Tryz.prog
def k74p : Wk := ⟨74, [0, 1, 2, 3, 6, 7], {  }, [.agg (.var 0), .fn 82 [], .fn 83 []], [], 1⟩
noncomputable def t74p : T := k74p.tree Tryz.prog
def k78p : Wk := ⟨78, [0, 1, 2, 6, 7, 9, 10, 11, 12, 13, 14], { com := [(10, (14, 5000)), (10, (9, 5000)), (10, (10, 5000))] }, [.c (.o1 .cl (.var 0)), .fn 82 [], .fn 83 []], [], 1⟩
noncomputable def t78p : T := k78p.tree Tryz.prog
def k107p : Wk := ⟨107, [0, 1, 2, 6, 7, 9, 10, 11, 12, 13], { com := [(6, (13, 5000)), (6, (9, 5000))] }, [.c (.o1 .cl (.var 0)), .fn 82 [], .fn 83 []], [], 1⟩
noncomputable def Zzu : T := k107p.tree Tryz.prog
def k74z : Wk := ⟨74, [0, 1, 2, 3, 6, 7], {  }, [.agg (.var 0), .fn 75 [.up 0], .fn 76 [.up 0]], [[.c (.o1 (.ci .i64) (.var 1))]], 2⟩
noncomputable def t74z : T := k74z.tree Tryz.prog
def k78z : Wk := ⟨78, [0, 1, 2, 6, 7, 9, 10, 11, 12, 13, 14], { com := [(10, (14, 5000)), (10, (9, 5000)), (10, (10, 5000))] }, [.c (.o1 .cl (.var 0)), .fn 75 [.up 0], .fn 76 [.up 0]], [[.c (.o1 (.ci .i64) (.var 1))]], 2⟩
noncomputable def t78z : T := k78z.tree Tryz.prog
def k107z : Wk := ⟨107, [0, 1, 2, 6, 7, 9, 10, 11, 12, 13], { com := [(6, (13, 5000)), (6, (9, 5000))] }, [.c (.o1 .cl (.var 0)), .fn 75 [.up 0], .fn 76 [.up 0]], [[.c (.o1 (.ci .i64) (.var 1))]], 2⟩
noncomputable def Zzv : T := k107z.tree Tryz.prog
def k97 : Wk := ⟨97, [0, 1, 2, 3, 5, 8, 10, 11, 12, 13, 14, 16, 64, 71, 85, 98, 100, 114, 125, 139, 140, 142, 171, 172, 173, 174], { cuts := [3, 10, 18, 21, 27], com := [(33, (174, 5000)), (33, (14, 5000)), (33, (13, 5000))] }, [.ptr (.up 0) 0, .agg (.var 0), .c (.o1 .cb (.o1 .tb (.var 1))), .c (.o1 (.ci .i64) (.var 2))], [[.c (.o1 .cb (.o1 .tb (.var 3))), .c (.o1 .cb (.o1 .tb (.var 4)))]], 5⟩
noncomputable def t97 : T := k97.tree Tryz.prog
def k102 : Wk := ⟨102, [0, 1, 2, 4, 5, 6, 50, 57, 62, 76, 89], { cuts := [15, 18] }, [.ptr (.up 0) 0, .agg (.var 0), .agg (.var 1)], [[.c (.o1 .cb (.o1 .tb (.var 2))), .c (.o1 .cb (.o1 .tb (.var 3)))]], 4⟩
noncomputable def t102 : T := k102.tree Tryz.prog
def k28 : Wk := ⟨28, [0, 1, 2, 3, 5, 16, 17, 18, 19], { com := [(7, (19, 5000)), (7, (5, 5000))] }, [.agg (.var 0)], [], 1⟩
noncomputable def t28 : T := k28.tree Tryz.prog
def k58 : Wk := ⟨58, [0, 1, 2, 4, 5, 6, 7, 10, 19, 20, 21, 22], { cuts := [3], com := [(8, (22, 5000)), (8, (7, 5000)), (8, (6, 5000))] }, [.ptr (.up 0) 0, .agg (.var 0), .agg (.var 1)], [[.c (.o1 .cb (.o1 .tb (.var 2))), .c (.o1 .cb (.o1 .tb (.var 3)))]], 4⟩
noncomputable def t58 : T := k58.tree Tryz.prog
def k14 : Wk := ⟨14, [0, 1, 2, 3, 5, 23, 24, 25, 26], { cuts := [1], com := [(7, (26, 5000)), (7, (5, 5000))] }, [.agg (.var 0)], [], 1⟩
noncomputable def t14 : T := k14.tree Tryz.prog
def k22 : Wk := ⟨22, [0, 1, 2, 3, 4, 5, 48, 51, 52, 53, 66], { com := [(8, (53, 5000)), (8, (5, 5000)), (8, (66, 5000)), (8, (4, 5000))] }, [.agg (.var 0), .agg (.var 1)], [], 2⟩
noncomputable def t22 : T := k22.tree Tryz.prog
def k17 : Wk := ⟨17, [0, 1, 2, 3], {  }, [.agg (.var 0)], [], 1⟩
noncomputable def t17 : T := k17.tree Tryz.prog
def k19 : Wk := ⟨19, [0, 1, 2, 3, 4, 5], {  }, [.agg (.var 0), .agg (.var 1)], [], 2⟩
noncomputable def t19 : T := k19.tree Tryz.prog
def k20 : Wk := ⟨20, [0, 1, 2, 3, 4, 5, 27, 30, 31, 32, 61], { com := [(8, (32, 5000)), (8, (5, 5000)), (8, (61, 5000)), (8, (4, 5000))] }, [.agg (.var 0), .agg (.var 1)], [], 2⟩
noncomputable def t20 : T := k20.tree Tryz.prog
def k21 : Wk := ⟨21, [0, 1, 2, 3, 4], {  }, [.agg (.var 0), .agg (.var 1)], [], 2⟩
noncomputable def t21 : T := k21.tree Tryz.prog
def k23 : Wk := ⟨23, [0, 1, 4, 5, 10, 12, 13, 14, 24], { com := [(8, (14, 5000)), (8, (5, 5000)), (8, (24, 5000)), (8, (4, 5000))] }, [.c (.o1 .cl (.var 0)), .c (.o1 .cl (.var 1))], [], 2⟩
noncomputable def t23 : T := k23.tree Tryz.prog
def k26 : Wk := ⟨26, [0, 1, 2, 3], {  }, [.agg (.var 0)], [], 1⟩
noncomputable def t26 : T := k26.tree Tryz.prog
def k29 : Wk := ⟨29, [0, 1, 2, 3], {  }, [.agg (.var 0)], [], 1⟩
noncomputable def t29 : T := k29.tree Tryz.prog
def k30 : Wk := ⟨30, [0, 1, 2, 3, 4, 5, 9, 12, 13, 14, 26], { com := [(8, (14, 5000)), (8, (5, 5000)), (8, (26, 5000)), (8, (4, 5000))] }, [.agg (.var 0), .agg (.var 1)], [], 2⟩
noncomputable def t30 : T := k30.tree Tryz.prog
def k34 : Wk := ⟨34, [0, 1, 4, 6, 7, 8, 9, 10, 15], { com := [(6, (10, 5000)), (6, (6, 5000)), (6, (15, 5000)), (6, (4, 5000))] }, [.c (.o1 .cs (.var 0)), .c (.o1 .cl (.var 1))], [], 2⟩
noncomputable def t34 : T := k34.tree Tryz.prog
def k43 : Wk := ⟨43, [0, 2], {  }, [.c (.o1 .cs (.var 0))], [], 1⟩
noncomputable def t43 : T := k43.tree Tryz.prog
def k44 : Wk := ⟨44, [0, 1, 2, 4, 5, 6], {  }, [.c (.o1 .cs (.var 0)), .agg (.var 1), .agg (.var 2)], [], 3⟩
noncomputable def t44 : T := k44.tree Tryz.prog
def k45 : Wk := ⟨45, [0, 2], {  }, [.c (.o1 (.ci .i64) (.var 0))], [], 1⟩
noncomputable def t45 : T := k45.tree Tryz.prog
def k46 : Wk := ⟨46, [0, 2], {  }, [.c (.o1 (.ci .i64) (.var 0))], [], 1⟩
noncomputable def t46 : T := k46.tree Tryz.prog
def k47 : Wk := ⟨47, [0, 1], {  }, [.ptr (.up 0) 0, .c (.o1 .cl (.var 0))], [[.c (.o1 .cb (.o1 .tb (.var 1))), .c (.o1 .cb (.o1 .tb (.var 2)))]], 3⟩
noncomputable def t47 : T := k47.tree Tryz.prog
def k48 : Wk := ⟨48, [0, 2, 3, 4, 13, 26, 37, 39, 40, 41, 65], { com := [(13, (41, 5000)), (13, (4, 5000)), (13, (65, 5000)), (13, (2, 5000))] }, [.c (.o1 .cs (.var 0))], [], 1⟩
noncomputable def t48 : T := k48.tree Tryz.prog
def k49 : Wk := ⟨49, [0, 2], {  }, [.c (.o1 .cl (.var 0))], [], 1⟩
noncomputable def t49 : T := k49.tree Tryz.prog
def k50 : Wk := ⟨50, [0, 1, 2, 3, 9, 10, 11, 12, 13], { com := [(4, (13, 5000)), (4, (9, 5000))] }, [.ptr (.up 0) 0, .c (.o1 .cl (.var 0)), .c (.o1 .cb (.o1 .tb (.var 1))), .c (.o1 (.ci .i64) (.var 2))], [[.c (.o1 .cb (.o1 .tb (.var 3))), .c (.o1 .cb (.o1 .tb (.var 4)))]], 5⟩
noncomputable def t50 : T := k50.tree Tryz.prog
def k51 : Wk := ⟨51, [0, 2, 3, 8], {  }, [.ptr (.up 0) 0], [[.c (.o1 .cb (.o1 .tb (.var 0))), .c (.o1 .cb (.o1 .tb (.var 1)))]], 2⟩
noncomputable def t51 : T := k51.tree Tryz.prog
def k61 : Wk := ⟨61, [0, 1, 2, 3, 4], {  }, [.agg (.var 0), .agg (.var 1)], [], 2⟩
noncomputable def t61 : T := k61.tree Tryz.prog
def k64 : Wk := ⟨64, [0, 1, 2, 3, 4], {  }, [.agg (.var 0), .agg (.var 1)], [], 2⟩
noncomputable def t64 : T := k64.tree Tryz.prog
def k65 : Wk := ⟨65, [0, 1, 4, 5, 10, 12, 13, 14, 24], { com := [(8, (14, 5000)), (8, (5, 5000)), (8, (24, 5000)), (8, (4, 5000))] }, [.c (.o1 .cl (.var 0)), .c (.o1 .cl (.var 1))], [], 2⟩
noncomputable def t65 : T := k65.tree Tryz.prog
def k71 : Wk := ⟨71, [0, 1, 4], {  }, [.c (.o1 .cl (.var 0)), .c (.o1 .cs (.var 1))], [], 2⟩
noncomputable def t71 : T := k71.tree Tryz.prog
def k75 : Wk := ⟨75, [0, 1, 2, 3], {  }, [.agg (.var 0), .ptr (.up 0) 0], [[.c (.o1 (.ci .i64) (.var 1))]], 2⟩
noncomputable def t75 : T := k75.tree Tryz.prog
def k76 : Wk := ⟨76, [0, 1, 2, 3], {  }, [.agg (.var 0), .ptr (.up 0) 0], [[.c (.o1 (.ci .i64) (.var 1))]], 2⟩
noncomputable def t76 : T := k76.tree Tryz.prog
def k79 : Wk := ⟨79, [0, 1, 2], {  }, [.agg (.var 0)], [], 1⟩
noncomputable def t79 : T := k79.tree Tryz.prog
def k80 : Wk := ⟨80, [0, 1, 2], {  }, [.agg (.var 0)], [], 1⟩
noncomputable def t80 : T := k80.tree Tryz.prog
def k82 : Wk := ⟨82, [0, 1, 2], {  }, [.agg (.var 0)], [], 1⟩
noncomputable def t82 : T := k82.tree Tryz.prog
def k83 : Wk := ⟨83, [0, 1, 2], {  }, [.agg (.var 0)], [], 1⟩
noncomputable def t83 : T := k83.tree Tryz.prog
def k84 : Wk := ⟨84, [0, 1, 4, 5, 6, 8, 9, 10, 36, 42, 43, 44, 63], { com := [(12, (10, 5000)), (12, (5, 5000)), (12, (36, 5000)), (12, (4, 5000)), (12, (42, 5000)), (12, (43, 5000)), (12, (44, 5000)), (12, (6, 5000)), (12, (63, 5000)), (11, (44, 5000)), (11, (6, 5000)), (11, (63, 5000)), (11, (4, 5000))] }, [.c (.o1 .cl (.var 0)), .c (.o1 .cl (.var 1))], [], 2⟩
noncomputable def t84 : T := k84.tree Tryz.prog
def k89 : Wk := ⟨89, [0, 1, 2, 3, 4, 5, 8, 9, 10, 23], { com := [(6, (10, 5000)), (6, (5, 5000)), (6, (23, 5000)), (6, (4, 5000))] }, [.agg (.var 0), .agg (.var 1)], [], 2⟩
noncomputable def t89 : T := k89.tree Tryz.prog
def k92 : Wk := ⟨92, [0, 1, 4], {  }, [.c (.o1 .cl (.var 0)), .c (.o1 .cb (.o1 .tb (.var 1)))], [], 2⟩
noncomputable def t92 : T := k92.tree Tryz.prog
def k93 : Wk := ⟨93, [0, 2], {  }, [.c (.o1 (.ci .u8) (.var 0))], [], 1⟩
noncomputable def t93 : T := k93.tree Tryz.prog
def k95 : Wk := ⟨95, [0, 2], {  }, [.c (.o1 .cs (.var 0))], [], 1⟩
noncomputable def t95 : T := k95.tree Tryz.prog
def k96 : Wk := ⟨96, [0, 1, 4], {  }, [.c (.o1 .cs (.var 0)), .c (.o1 .cs (.var 1))], [], 2⟩
noncomputable def t96 : T := k96.tree Tryz.prog
def k104 : Wk := ⟨104, [0, 1, 4, 5, 7, 8, 9, 16], { com := [(6, (9, 5000)), (6, (5, 5000)), (6, (16, 5000)), (6, (4, 5000))] }, [.c (.o1 .cl (.var 0)), .c (.o1 .cs (.var 1))], [], 2⟩
noncomputable def t104 : T := k104.tree Tryz.prog
def k109 : Wk := ⟨109, [0, 1, 4, 5, 7, 8, 9, 16], { com := [(6, (9, 5000)), (6, (5, 5000)), (6, (16, 5000)), (6, (4, 5000))] }, [.c (.o1 .cl (.var 0)), .c (.o1 .cb (.o1 .tb (.var 1)))], [], 2⟩
noncomputable def t109 : T := k109.tree Tryz.prog
def k111 : Wk := ⟨111, [0, 1, 4], {  }, [.c (.o1 .cs (.var 0)), .c (.o1 .cs (.var 1))], [], 2⟩
noncomputable def t111 : T := k111.tree Tryz.prog
def k113 : Wk := ⟨113, [0, 1, 2], {  }, [.agg (.var 0)], [], 1⟩
noncomputable def t113 : T := k113.tree Tryz.prog
def k114 : Wk := ⟨114, [0, 1, 2], {  }, [.agg (.var 0)], [], 1⟩
noncomputable def t114 : T := k114.tree Tryz.prog
def k117 : Wk := ⟨117, [0, 1, 3, 4, 9, 15, 18, 25, 35, 44, 55, 62], {  }, [.ptr (.up 0) 0, .agg (.var 0)], [[.c (.o1 .cb (.o1 .tb (.var 1))), .c (.o1 .cb (.o1 .tb (.var 2)))]], 3⟩
noncomputable def t117 : T := k117.tree Tryz.prog
def k118 : Wk := ⟨118, [0, 1, 3, 5, 12, 16, 24, 32, 40, 48], {  }, [.ptr (.up 0) 0, .agg (.var 0)], [[.c (.o1 .cb (.o1 .tb (.var 1))), .c (.o1 .cb (.o1 .tb (.var 2)))]], 3⟩
noncomputable def t118 : T := k118.tree Tryz.prog
def k119 : Wk := ⟨119, [0, 1, 3, 12, 16, 31, 47], {  }, [.ptr (.up 0) 0, .agg (.var 0)], [[.c (.o1 .cb (.o1 .tb (.var 1))), .c (.o1 .cb (.o1 .tb (.var 2)))]], 3⟩
noncomputable def t119 : T := k119.tree Tryz.prog
def k120 : Wk := ⟨120, [0, 2], {  }, [.c (.o1 (.ci .i64) (.var 0))], [], 1⟩
noncomputable def t120 : T := k120.tree Tryz.prog
def k132 : Wk := ⟨132, [0, 1, 4], {  }, [.c (.o1 .cs (.var 0)), .c (.o1 .cs (.var 1))], [], 2⟩
noncomputable def t132 : T := k132.tree Tryz.prog
def k145 : Wk := ⟨145, [0, 1, 4], {  }, [.c (.o1 .cs (.var 0)), .c (.o1 .cs (.var 1))], [], 2⟩
noncomputable def t145 : T := k145.tree Tryz.prog
def k153 : Wk := ⟨153, [0, 1, 2, 3, 8, 9, 10, 11, 13, 15, 20, 36, 41], { com := [(11, (36, 5000)), (11, (11, 5000)), (11, (41, 5000))] }, [.c (.o1 .cs (.var 0)), .c (.o1 .cs (.var 1)), .c (.o1 (.ci .i64) (.var 2)), .c (.o1 (.ci .i64) (.var 3))], [], 4⟩
noncomputable def t153 : T := k153.tree Tryz.prog
def k125 : Wk := ⟨125, [0, 1, 4, 5, 6, 7, 8, 9, 10, 11, 12, 13, 16, 24, 31, 36, 59, 64, 73, 93, 107, 114, 132, 139], { com := [(15, (59, 5000)), (15, (64, 5000)), (15, (11, 5000)), (15, (73, 5000)), (15, (4, 5000)), (15, (93, 5000)), (15, (107, 5000)), (15, (12, 5000)), (15, (114, 5000)), (15, (132, 5000)), (15, (13, 5000)), (15, (139, 5000))] }, [.c (.o1 .cs (.var 0)), .c (.o1 .cs (.var 1))], [], 2⟩
noncomputable def t125 : T := k125.tree Tryz.prog
def k133 : Wk := ⟨133, [0, 1, 4], {  }, [.c (.o1 .cs (.var 0)), .c (.o1 (.ci .u8) (.var 1))], [], 2⟩
noncomputable def t133 : T := k133.tree Tryz.prog
def k157 : Wk := ⟨157, [0, 1, 4, 5, 6, 9, 15, 24], {  }, [.c (.o1 .cs (.var 0)), .c (.o1 .cs (.var 1))], [], 2⟩
noncomputable def t157 : T := k157.tree Tryz.prog
noncomputable def tab : List Ent := [⟨k33.f, k33.args, k33.K, t33⟩, ⟨k33b.f, k33b.args, k33b.K, t33b⟩, ⟨k13.f, k13.args, k13.K, t13⟩, ⟨k66.f, k66.args, k66.K, t66⟩, ⟨k68a.f, k68a.args, k68a.K, t68a⟩, ⟨k68b.f, k68b.args, k68b.K, t68b⟩, ⟨k69.f, k69.args, k69.K, t69⟩, ⟨k81.f, k81.args, k81.K, t81⟩, ⟨k70a.f, k70a.args, k70a.K, t70a⟩, ⟨k70b.f, k70b.args, k70b.K, t70b⟩, ⟨k72a.f, k72a.args, k72a.K, t72a⟩, ⟨k72b.f, k72b.args, k72b.K, t72b⟩, ⟨k86a.f, k86a.args, k86a.K, t86a⟩, ⟨k86b.f, k86b.args, k86b.K, t86b⟩, ⟨k87a.f, k87a.args, k87a.K, t87a⟩, ⟨k87b.f, k87b.args, k87b.K, t87b⟩, ⟨k24.f, k24.args, k24.K, t24⟩, ⟨k31.f, k31.args, k31.K, t31⟩, ⟨k85a.f, k85a.args, k85a.K, t85a⟩, ⟨k85b.f, k85b.args, k85b.K, t85b⟩, ⟨k62.f, k62.args, k62.K, t62⟩, ⟨k63.f, k63.args, k63.K, t63⟩, ⟨k67.f, k67.args, k67.K, t67⟩, ⟨k110.f, k110.args, k110.K, t110⟩, ⟨k94.f, k94.args, k94.K, t94⟩, ⟨k74s.f, k74s.args, k74s.K, t74s⟩, ⟨k78s.f, k78s.args, k78s.K, t78s⟩, ⟨k107s.f, k107s.args, k107s.K, Zzt⟩, ⟨k74p.f, k74p.args, k74p.K, t74p⟩, ⟨k78p.f, k78p.args, k78p.K, t78p⟩, ⟨k107p.f, k107p.args, k107p.K, Zzu⟩, ⟨k74z.f, k74z.args, k74z.K, t74z⟩, ⟨k78z.f, k78z.args, k78z.K, t78z⟩, ⟨k107z.f, k107z.args, k107z.K, Zzv⟩, ⟨k97.f, k97.args, k97.K, t97⟩, ⟨k102.f, k102.args, k102.K, t102⟩, ⟨k28.f, k28.args, k28.K, t28⟩, ⟨k58.f, k58.args, k58.K, t58⟩, ⟨k14.f, k14.args, k14.K, t14⟩, ⟨k22.f, k22.args, k22.K, t22⟩, ⟨k17.f, k17.args, k17.K, t17⟩, ⟨k19.f, k19.args, k19.K, t19⟩, ⟨k20.f, k20.args, k20.K, t20⟩, ⟨k21.f, k21.args, k21.K, t21⟩, ⟨k23.f, k23.args, k23.K, t23⟩, ⟨k26.f, k26.args, k26.K, t26⟩, ⟨k29.f, k29.args, k29.K, t29⟩, ⟨k30.f, k30.args, k30.K, t30⟩, ⟨k34.f, k34.args, k34.K, t34⟩, ⟨k43.f, k43.args, k43.K, t43⟩, ⟨k44.f, k44.args, k44.K, t44⟩, ⟨k45.f, k45.args, k45.K, t45⟩, ⟨k46.f, k46.args, k46.K, t46⟩, ⟨k47.f, k47.args, k47.K, t47⟩, ⟨k48.f, k48.args, k48.K, t48⟩, ⟨k49.f, k49.args, k49.K, t49⟩, ⟨k50.f, k50.args, k50.K, t50⟩, ⟨k51.f, k51.args, k51.K, t51⟩, ⟨k61.f, k61.args, k61.K, t61⟩, ⟨k64.f, k64.args, k64.K, t64⟩, ⟨k65.f, k65.args, k65.K, t65⟩, ⟨k71.f, k71.args, k71.K, t71⟩, ⟨k75.f, k75.args, k75.K, t75⟩, ⟨k76.f, k76.args, k76.K, t76⟩, ⟨k79.f, k79.args, k79.K, t79⟩, ⟨k80.f, k80.args, k80.K, t80⟩, ⟨k82.f, k82.args, k82.K, t82⟩, ⟨k83.f, k83.args, k83.K, t83⟩, ⟨k84.f, k84.args, k84.K, t84⟩, ⟨k89.f, k89.args, k89.K, t89⟩, ⟨k92.f, k92.args, k92.K, t92⟩, ⟨k93.f, k93.args, k93.K, t93⟩, ⟨k95.f, k95.args, k95.K, t95⟩, ⟨k96.f, k96.args, k96.K, t96⟩, ⟨k104.f, k104.args, k104.K, t104⟩, ⟨k109.f, k109.args, k109.K, t109⟩, ⟨k111.f, k111.args, k111.K, t111⟩, ⟨k113.f, k113.args, k113.K, t113⟩, ⟨k114.f, k114.args, k114.K, t114⟩, ⟨k117.f, k117.args, k117.K, t117⟩, ⟨k118.f, k118.args, k118.K, t118⟩, ⟨k119.f, k119.args, k119.K, t119⟩, ⟨k120.f, k120.args, k120.K, t120⟩, ⟨k132.f, k132.args, k132.K, t132⟩, ⟨k145.f, k145.args, k145.K, t145⟩, ⟨k153.f, k153.args, k153.K, t153⟩, ⟨k125.f, k125.args, k125.K, t125⟩, ⟨k133.f, k133.args, k133.K, t133⟩, ⟨k157.f, k157.args, k157.K, t157⟩]
def wks : List Wk := [k33, k33b, k13, k66, k68a, k68b, k69, k81, k70a, k70b, k72a, k72b, k86a, k86b, k87a, k87b, k24, k31, k85a, k85b, k62, k63, k67, k110, k94, k74s, k78s, k107s, k74p, k78p, k107p, k74z, k78z, k107z, k97, k102, k28, k58, k14, k22, k17, k19, k20, k21, k23, k26, k29, k30, k34, k43, k44, k45, k46, k47, k48, k49, k50, k51, k61, k64, k65, k71, k75, k76, k79, k80, k82, k83, k84, k89, k92, k93, k95, k96, k104, k109, k111, k113, k114, k117, k118, k119, k120, k132, k145, k153, k125, k133, k157]
theorem Zzc : wks.all (Wk.ok Tryz.prog) = true := by kernel_rfl
theorem Zxk : tab = wks.map fun w => ⟨w.f, w.args, w.K, w.tree Tryz.prog⟩ := rfl
theorem Zzd : ∀ e ∈ tab, Zuo Tryz.prog e := by
 rw [Zxk]
 intro e he
 obtain ⟨w, hw, rfl⟩ := List.mem_map.1 he
 exact Zy1 (List.all_eq_true.1 Zzc w hw)
end Go.Sy
end
section
open Go Go.Proofs Go.Ab Go.Rf
set_option maxRecDepth 1000000
namespace Go.Sy
def ixB : List UInt8 -> UInt8 -> Nat -> Int
 | [], _, _ => -1
 | b :: l, c, n => if b == c then n else ixB l c (n + 1)
theorem Zvk (c : UInt8) : ∀ (l : List UInt8) (n : Nat), ixB l c n = if Lib.indexByte l c = -1 then -1 else Lib.indexByte l c + n
 | [], n => rfl
 | b :: l, n => by
   have h := Lib.indexByte_ge l c
   rw [ixB, Lib.indexByte]
   by_cases hb : (b == c) = true
   ·rw [if_pos hb, if_pos hb]; simp
   ·rw [if_neg hb, if_neg hb, Zvk c l (n + 1)]
    by_cases h1 : Lib.indexByte l c = -1
    ·simp [h1]
    ·have : (Lib.indexByte l c == -1) = false := by simpa using h1
     rw [if_neg h1, this]
     simp only [Bool.false_eq_true, if_false]
     rw [if_neg (by omega)]; push_cast; omega
def prim : Nat -> List V -> Option V
 | 146, [.d (.lit (.string s)), .d (.lit (.int .u8 c))] => some (.d (.lit (.int .i64 (ixB s.data.toList c.toNat.toUInt8 0))))
 | 171, [.d (.lit (.string s)), .d (.lit (.int .u8 c))] => some (.d (.lit (.int .i64 (Lib.countByte s.data.toList c.toNat.toUInt8))))
 | _, _ => none
theorem Zs8 {f : Nat} {s : ByteArray} {c r : Int} (hrun : ∀ w args, args = #[Value.string s, .int .u8 c] -> (callFunc f args).run Tryz.prog w = .ok (.value (.int .i64 r)) w) :
 Holds Tryz.prog f [.d (.lit (.string s)), .d (.lit (.int .u8 c))] [] (Ret (intA r)) := by
 intro w cargs g h1 h2
 have hc : cargs = #[Value.string s, .int .u8 c] := by
  rcases cargs with ⟨cl⟩
  match cl, h1 with
  | [a, b], ⟨ha, hb, _⟩ =>
    have ha := ha .res
    have hb := hb .res
    cases ha
    cases hb
    rfl
 unfold CallsX
 rw [hrun w cargs hc]
 exact ⟨.ret (intA r), [], g, ⟨rfl, rfl⟩, rfl, ⟨h2.box, h2.inj, h2.wr, h2.prs, h2.pr0, h2.prn, h2.up, h2.uu, h2.fr⟩, _, rfl, .lit _ rfl, fun h => by cases h⟩
theorem c146 (s : ByteArray) (c : Int) : Holds Tryz.prog 146 [.d (.lit (.string s)), .d (.lit (.int .u8 c))] [] (Ret (intA (ixB s.data.toList c.toNat.toUInt8 0))) := by
 have e : ixB s.data.toList c.toNat.toUInt8 0 = Lib.indexByte s.data.toList c.toNat.toUInt8 := by rw [Zvk]; split <;> simp_all
 rw [e]
 exact Zs8 fun w args h => by
  subst h
  rw [run_callFunc_extern (P := Tryz.prog) (f := 146) (fn := Tryz.f146) (e := Extern.BytealgIndexByte.indexByte) rfl (by decide) rfl rfl rfl, Lib.run_indexByteString]; rfl
theorem c171 (s : ByteArray) (c : Int) : Holds Tryz.prog 171 [.d (.lit (.string s)), .d (.lit (.int .u8 c))] [] (Ret (intA (Lib.countByte s.data.toList c.toNat.toUInt8))) :=
 Zs8 fun w args h => by
  subst h
  rw [run_callFunc_extern (P := Tryz.prog) (f := 171) (fn := Tryz.f171) (e := Extern.BytealgCount.count) rfl (by decide) rfl rfl rfl, Lib.run_countString]; rfl
theorem Zuu : ∀ f vs v, prim f vs = some v -> Runs Tryz.prog f vs [] (.ret v, []) := by
 intro f vs v h
 unfold prim at h
 split at h
 ·cases h; exact ⟨rfl, fun up _ => c146 _ _⟩
 ·cases h; exact ⟨rfl, fun up _ => c171 _ _⟩
 ·cases h
def okT : List Res -> Bool | (.ret (.d (.lit (.bool true))), []) :: _ => true | _ => false
theorem Zze {l : List Res} (h : okT l = true) : ∃ r ∈ l, r = (.ret (.d (.lit (.bool true))), []) := by
 unfold okT at h
 split at h
 ·exact ⟨_, List.mem_cons_self .., rfl⟩
 ·cases h
theorem Zs9 : okT (evF tab prim 100000 60 13 [] []) = true := by kernel_rfl
theorem c13 : Holds Tryz.prog 13 [] [] (Ret (Za9 true)) := by
 obtain ⟨r, hr, rfl⟩ := Zze Zs9
 exact (Zve Zzd Zuu _ _ _ _ _ hr).2 (fun _ => .own 0 0) (by simp)
end Go.Sy
end
section
open Go Go.Proofs Go.Ab Go.Rf
set_option linter.unusedSimpArgs false
set_option maxRecDepth 100000
namespace Go.Sy
theorem Zi2 {l m : List Nd} (h : eqEs l m = true) : l.length = m.length := by
 by_cases e : l.length = m.length
 ·exact e
 ·rw [Zko e] at h; cases h
theorem Zta {x y : Nd} (h : eqE x y = true) : (x.kind = y.kind /\ x.text = y.text /\ x.num = y.num /\ x.n0 = y.n0 /\ x.n1 = y.n1) /\ x.tail = y.tail /\ eqEs x.subs y.subs = true /\ eqDs x.decls y.decls = true := by
 rw [Zst] at h
 simp only [Bool.and_eq_true, beq_iff_eq, decide_eq_true_eq] at h
 exact ⟨⟨h.1.1.1.1.1.1.1, h.1.1.1.1.1.1.2, h.1.1.1.1.1.2, h.1.1.1.1.2, h.1.1.1.2⟩, h.1.1.2, h.1.2, h.2⟩
theorem Ztb {x y : Nd} (h : eqD x y = true) : (x.kind = y.kind /\ x.num = y.num /\ x.text = y.text /\ x.n0 = y.n0 /\ x.n1 = y.n1) /\ x.trail = y.trail /\ x.lead = y.lead /\ x.tail = y.tail /\ eqEs x.subs y.subs = true /\ eqDs x.decls y.decls = true := by
 rw [Zsu] at h
 simp only [Bool.and_eq_true, beq_iff_eq, decide_eq_true_eq] at h
 exact ⟨⟨h.1.1.1.1.1.1.1.1.1, h.1.1.1.1.1.1.1.1.2, h.1.1.1.1.1.1.1.2, h.1.1.1.1.1.1.2, h.1.1.1.1.1.2⟩, h.1.1.1.1.2, h.1.1.1.2, h.1.1.2, h.1.2, h.2⟩
theorem c66 (l m : List Nd) (hl : l.length <= 2 ^ 50) (hlm : ∀ x ∈ l, Lim x) (ih : ∀ x ∈ l, (∀ m, Holds Tryz.prog 66 [slA (Zbn x.decls), slA (Zbn m)] [] (Ret (Za9 (eqDs x.decls m)))) /\
 ∀ e ∈ x.subs, ∀ y, Holds Tryz.prog 22 [.agg (encE e), .agg (encE y)] [] (Ret (Za9 (eqE e y)))) :
 Holds Tryz.prog 66 [slA (Zbn l), slA (Zbn m)] [] (Ret (Za9 (eqDs l m))) := by
 refine w66 _ _ ⟨fun h => ?_, fun h => ?_⟩
 ·exact ⟨by rw [Zkp (by simp at h; omega)], rfl⟩
 ·have hlen : l.length = m.length := by simp at h; omega
  refine ⟨fun x => ∃ i : Nat, x = i /\ i <= l.length /\ eqDs (l.drop i) (m.drop i) = eqDs l m, fun x => l.length - x.toNat, ⟨0, rfl, Nat.zero_le _, rfl⟩, ?_, trivial⟩
  rintro x ⟨i, rfl, hi, hr⟩
  refine ⟨fun hc => ?_, fun hc => ?_⟩
  ·have h1 : i < l.length := by have := Zb7 hc; simp at this; omega
   have h2 : i < m.length := by omega
   rw [Zaj h1, Zaj h2, eqDs] at hr
   have hx := List.getElem_mem h1
   have l1 := hlm _ hx
   have ihx := ih _ hx
   rw [Zss rfl h1, Zss rfl h2]
   generalize l[i] = a at hr l1 ihx
   generalize m[i] = b at hr
   have no : eqD a b = false -> Ret (Za9 (eqDs l m)) (.ret (Za9 false)) [] := fun h => ⟨by rw [<- hr, h]; rfl, rfl⟩
   simp only [Zec, d0, d1, d2, d3, d4, d5, d6, d7, d8, d9, d10, isK_int, isK_str, isK_slc, Zdk, Zef, Zcf, Bool.or_true, true_and]
   refine ⟨tle (by omega), tlt (by simp; omega), teq rfl, teq rfl, fun hn => no ?_, fun hn => ?_⟩
   ·cases he : eqD a b with
    | false => rfl
    | true =>
      exfalso
      obtain ⟨⟨p1, p2, p3, p4, p5⟩, p6, _, _, p7, _⟩ := Ztb he
      have := Zi2 p7
      simp [p1, p2, p3, p4, p5, p6, this] at hn
   ·have hn' : ((a.kind = b.kind /\ a.num = b.num /\ a.text = b.text /\ a.n0 = b.n0 /\ a.n1 = b.n1) /\ a.trail = b.trail) /\ a.subs.length = b.subs.length := by
     simp only [Zfo, Bool.or_eq_false_iff, Bool.not_eq_false', Bool.and_eq_true, beq_iff_eq, Zcm] at hn
     obtain ⟨⟨⟨⟨⟨q1, q2⟩, q3⟩, q4⟩, q5⟩, q6⟩ := hn
     exact ⟨⟨⟨q1, q2, q3, q4.1, q4.2⟩, q5⟩, by omega⟩
    obtain ⟨⟨⟨q1, q2, q3, q4, q4'⟩, q5⟩, q6⟩ := hn'
    have hed : eqD a b = (decide (a.lead = b.lead) && decide (a.tail = b.tail) && eqEs a.subs b.subs && eqDs a.decls b.decls) := by rw [Zsu, q1, q2, q3, q4, q4', q5]; simp
    rw [hed] at no hr
    refine Zbe (c23 _ _ (Nat.le_trans l1.2.2.2 (by omega))) ⟨_, rfl, rfl, fun h3 => ?_, fun h3 => no (by simp [h3])⟩
    refine Zbe (c23 _ _ (Nat.le_trans l1.2.2.1 (by omega))) ⟨_, rfl, rfl, fun h4 => ?_, fun h4 => no (by simp [h4])⟩
    refine Zbe (ihx.1 b.decls) ⟨_, rfl, rfl, fun h5 => no (by rw [nb1 h5]; simp), fun h5 => ?_⟩
    have h5 : eqDs a.decls b.decls = true := by simpa using h5
    refine ⟨fun x => ∃ j : Nat, x = j /\ j <= a.subs.length /\ eqEs (a.subs.drop j) (b.subs.drop j) = eqEs a.subs b.subs, fun x => a.subs.length - x.toNat, ⟨0, rfl, Nat.zero_le _, rfl⟩, ?_, trivial⟩
    rintro x ⟨j, rfl, hj, hrj⟩
    refine ⟨fun hcj => ?_, fun hcj => ?_⟩
    ·have k1 : j < a.subs.length := by have := Zb7 hcj; simp at this; omega
     have k2 : j < b.subs.length := by omega
     rw [Zaj k1, Zaj k2, eqEs] at hrj
     rw [Zme rfl k1, Zme rfl k2]
     refine ⟨tle (by omega), teq (by simp), tlt (by simp; omega), teq (by simp), Zbe (ihx.2 _ (List.getElem_mem k1) _) ⟨_, rfl, rfl, fun hn => ?_, fun hn => ⟨tle (by omega), tle (by have := l1.1; omega), ⟨j + 1, rfl, k1, ?_⟩, dec k1⟩⟩⟩
     ·have hn : eqE a.subs[j] b.subs[j] = false := by simpa using hn
      exact no (by rw [<- hrj, hn]; simp)
     ·have hn : eqE a.subs[j] b.subs[j] = true := by simpa using hn
      rw [<- hrj, hn]; rfl
    ·have k1 : a.subs.length <= j := by have := Zb8 hcj; simp at this; omega
     rw [Zap k1, Zap (by omega)] at hrj
     have h6 : eqEs a.subs b.subs = true := by rw [<- hrj]; simp [eqEs]
     exact ⟨tle (by omega), tle (by omega), ⟨i + 1, rfl, h1, by rw [<- hr, h3, h4, h5, h6]; rfl⟩, dec h1⟩
  ·have h1 : l.length <= i := by have := Zb8 hc; simp at this; omega
   rw [Zap h1, Zap (by omega)] at hr
   exact ⟨by rw [<- hr]; simp [eqDs], rfl⟩
theorem Zzf : ∀ (r : Nd), Lm r -> (∀ y, Holds Tryz.prog 22 [.agg (encE r), .agg (encE y)] [] (Ret (Za9 (eqE r y)))) /\ (∀ m, Holds Tryz.prog 66 [slA (Zbn r.decls), slA (Zbn m)] [] (Ret (Za9 (eqDs r.decls m)))) /\
 ∀ e ∈ r.subs, ∀ y, Holds Tryz.prog 22 [.agg (encE e), .agg (encE y)] [] (Ret (Za9 (eqE e y))) := by
 refine Zo7 fun r hs hd hl => ?_
 have l1 := hl.here
 have ihs : ∀ e ∈ r.subs, ∀ y, Holds Tryz.prog 22 [.agg (encE e), .agg (encE y)] [] (Ret (Za9 (eqE e y))) := fun x hx => (hs x hx (hl.sub hx)).1
 have ihd : ∀ m, Holds Tryz.prog 66 [slA (Zbn r.decls), slA (Zbn m)] [] (Ret (Za9 (eqDs r.decls m))) := fun m =>
  c66 r.decls m l1.2.1 (fun x hx => (hl.dec hx).here) fun x hx => (hd x hx (hl.dec hx)).2
 refine ⟨fun y => ?_, ihd, ihs⟩
 have no : eqE r y = false -> Ret (Za9 (eqE r y)) (.ret (Za9 false)) [] := fun h => ⟨by rw [h], rfl⟩
 refine w22 (encE r) (encE y) ?_
 simp only [Zeb, e0, e1, e2, e3, e4, e5, e6, e7, e8, isK_int, isK_str, isK_slc, Zdk, Zef, Zcf, Bool.or_true, true_and]
 refine ⟨teq rfl, teq rfl, fun hn => ?_, fun hn => no ?_⟩
 ·have hn' : (r.kind = y.kind /\ r.text = y.text /\ r.num = y.num /\ r.n0 = y.n0 /\ r.n1 = y.n1) /\ r.subs.length = y.subs.length := by
   simp only [Zfo, Bool.or_eq_false_iff, Bool.not_eq_true', Bool.not_eq_false', Bool.and_eq_true, beq_iff_eq, Zcm] at hn
   obtain ⟨⟨⟨⟨q1, q2⟩, q3⟩, q4⟩, q6⟩ := hn
   exact ⟨⟨q1, q2, q3, q4.1, q4.2⟩, by omega⟩
  obtain ⟨⟨q1, q2, q3, q4, q4'⟩, q6⟩ := hn'
  have hee : eqE r y = (decide (r.tail = y.tail) && eqEs r.subs y.subs && eqDs r.decls y.decls) := by rw [Zst, q1, q2, q3, q4, q4']; simp
  rw [hee] at no ⊢
  refine Zbe (c23 _ _ (Nat.le_trans l1.2.2.1 (by omega))) ⟨_, rfl, rfl, fun h3 => no (by rw [nb1 h3]; rfl), fun h3 => ?_⟩
  have h3 : decide (r.tail = y.tail) = true := by simpa using h3
  refine ⟨fun x => ∃ j : Nat, x = j /\ j <= r.subs.length /\ eqEs (r.subs.drop j) (y.subs.drop j) = eqEs r.subs y.subs, fun x => r.subs.length - x.toNat, ⟨0, rfl, Nat.zero_le _, rfl⟩, ?_, trivial⟩
  rintro x ⟨j, rfl, hj, hrj⟩
  refine ⟨fun hcj => ?_, fun hcj => ?_⟩
  ·have k1 : j < r.subs.length := by have := Zb7 hcj; simp at this; omega
   have k2 : j < y.subs.length := by omega
   rw [Zaj k1, Zaj k2, eqEs] at hrj
   rw [Zme rfl k1, Zme rfl k2]
   refine ⟨tle (by omega), teq (by simp), tlt (by simp; omega), teq (by simp), Zbe (ihs _ (List.getElem_mem k1) _) ⟨_, rfl, rfl, fun hn => ?_, fun hn => ⟨tle (by omega), tle (by have := l1.1; omega), ⟨j + 1, rfl, k1, ?_⟩, dec k1⟩⟩⟩
   ·have hn : eqE r.subs[j] y.subs[j] = false := by simpa using hn
    exact no (by rw [<- hrj, hn]; simp)
   ·have hn : eqE r.subs[j] y.subs[j] = true := by simpa using hn
    rw [<- hrj, hn]; rfl
  ·have k1 : r.subs.length <= j := by have := Zb8 hcj; simp at this; omega
   rw [Zap k1, Zap (by omega)] at hrj
   have h6 : eqEs r.subs y.subs = true := by rw [<- hrj]; simp [eqEs]
   exact Zbe (ihd y.decls) ⟨_, rfl, rfl, by rw [h3, h6]; simp, rfl⟩
 ·cases he : eqE r y with
  | false => rfl
  | true =>
    exfalso
    obtain ⟨⟨p1, p2, p3, p4, p5⟩, _, p7, _⟩ := Zta he
    have := Zi2 p7
    simp [p1, p2, p3, p4, p5, this] at hn
theorem c22 (r y : Nd) (h : Lm r) : Holds Tryz.prog 22 [.agg (encE r), .agg (encE y)] [] (Ret (Za9 (eqE r y))) := (Zzf r h).1 y
theorem c66' (l m : List Nd) (hl : l.length <= 2 ^ 50) (h : ∀ x ∈ l, Lm x) : Holds Tryz.prog 66 [slA (Zbn l), slA (Zbn m)] [] (Ret (Za9 (eqDs l m))) :=
 c66 l m hl (fun x hx => (h x hx).here) fun x hx => (Zzf x (h x hx)).2
mutual
def plE : Nd -> Nd -> Bool
 | .mk _ _ _ _ _ _ _ _ p s d, y => plEs s y.subs && (p == y.pos && plDs d y.decls)
def plEs : List Nd -> List Nd -> Bool
 | a :: l, b :: m => plE a b && plEs l m
 | _, _ => true
def plD : Nd -> Nd -> Bool
 | .mk _ _ _ _ _ _ _ _ p s d, y => p == y.pos && (plDs d y.decls && plEs s y.subs)
def plDs : List Nd -> List Nd -> Bool
 | a :: l, b :: m => plD a b && plDs l m
 | _, _ => true
end
theorem c20 (f g : Fl) (h : LmF f) : Holds Tryz.prog 20 [.agg (Zgm f), .agg (Zgm g)] [] (Ret (Za9 (eqF f g))) := by
 have no : eqF f g = false -> Ret (Za9 (eqF f g)) (.ret (Za9 false)) [] := fun h => ⟨by rw [h], rfl⟩
 unfold eqF at no ⊢
 refine w20 _ _ ?_
 simp only [Zez, f0, f1, f2, f3, isK_str, isK_slc, Zef, Zcf, Bool.or_true, true_and]
 refine ⟨teq rfl, teq rfl, fun hn => ?_, fun hn => no ?_⟩
 ·have hn' : f.pkg = g.pkg /\ f.imps.length = g.imps.length := by
   simp only [Zfo, Bool.or_eq_false_iff, Bool.not_eq_true', Bool.not_eq_false', beq_iff_eq, Ze0] at hn
   exact ⟨hn.1, by omega⟩
  obtain ⟨q1, q2⟩ := hn'
  refine Zbe (c23 _ _ (Nat.le_trans h.1.2.2 (by omega))) ⟨_, rfl, rfl, fun h3 => no (by rw [nb1 h3]; simp), fun h3 => ?_⟩
  refine ⟨fun x => ∃ j : Nat, x = j /\ j <= f.imps.length /\ eqIs (f.imps.drop j) (g.imps.drop j) = eqIs f.imps g.imps, fun x => f.imps.length - x.toNat, ⟨0, rfl, Nat.zero_le _, rfl⟩, ?_, trivial⟩
  rintro x ⟨j, rfl, hj, hrj⟩
  refine ⟨fun hcj => ?_, fun hcj => ?_⟩
  ·have k1 : j < f.imps.length := by have := Zb7 hcj; simp at this; omega
   have k2 : j < g.imps.length := by omega
   rw [Zaj k1, Zaj k2, eqIs] at hrj
   have g1 := Zsv (x := (j : Int)) rfl k1
   have g2 := Zsv (x := (j : Int)) rfl k2
   simp only [g1, g2, f1, Zcf, Zfp, i0, i1, i2, isK_int, isK_str, Zef, Zdk, Bool.or_true, true_and]
   have e : eqI f.imps[j] g.imps[j] = (f.imps[j].name == g.imps[j].name && f.imps[j].path == g.imps[j].path) := rfl
   refine ⟨tle (by omega), teq rfl, tle (by omega), tlt (by simp; omega), teq rfl, tle (by omega), by simp, by simp, fun hn => no ?_, fun hn => ⟨tle (by omega), tle (by have := h.1.1; omega), ⟨j + 1, rfl, k1, ?_⟩, dec k1⟩⟩
   ·have : eqI f.imps[j] g.imps[j] = false := by
     rw [e]
     simp only [Zfo, Bool.or_eq_true, Bool.not_eq_true'] at hn
     rcases hn with hn | hn <;> simp only [hn, Bool.false_and, Bool.and_false]
    rw [<- hrj, this]; simp
   ·have : eqI f.imps[j] g.imps[j] = true := by
     rw [e]
     simp only [Zfo, Bool.or_eq_false_iff, Bool.not_eq_false'] at hn
     rw [hn.1, hn.2]; rfl
    rw [<- hrj, this]; rfl
  ·have k1 : f.imps.length <= j := by have := Zb8 hcj; simp at this; omega
   rw [Zap k1, Zap (by omega)] at hrj
   have h6 : eqIs f.imps g.imps = true := by rw [<- hrj]; simp [eqIs]
   exact Zbe (c66' _ _ h.1.2.1 h.2) ⟨_, rfl, rfl, by rw [h6, q1, nb0 h3]; simp, rfl⟩
 ·simp only [Zfo, Bool.or_eq_true, Bool.not_eq_false', Bool.not_eq_true', beq_eq_false_iff_ne, Ze0] at hn
  rcases hn with hn | hn
  ·simp [hn]
  ·rw [Zkq (by omega)]; simp
end Go.Sy
end
section
open Go Go.Proofs Go.Ab Go.Rf
set_option linter.unusedSimpArgs false
set_option maxRecDepth 100000
namespace Go.Sy
theorem Zvl {f : Fl} (h : BigF f) : LmF f := ⟨h.1, fun x hx => Zxc (h.2.2.2.2 x hx)⟩
theorem Zzw (a b : Nd) : [(encE a ++ encE b).getD 0 D0, (encE a ++ encE b).getD 1 D0, (encE a ++ encE b).getD 2 D0, (encE a ++ encE b).getD 3 D0, (encE a ++ encE b).getD 4 D0, (encE a ++ encE b).getD 5 D0, (encE a ++ encE b).getD 6 D0, (encE a ++ encE b).getD 7 D0, (encE a ++ encE b).getD 8 D0] = encE a := by
 rw [Zbw a]; rfl
theorem Zzx (a b : Nd) : [(encE a ++ encE b).getD 9 D0, (encE a ++ encE b).getD 10 D0, (encE a ++ encE b).getD 11 D0, (encE a ++ encE b).getD 12 D0, (encE a ++ encE b).getD 13 D0, (encE a ++ encE b).getD 14 D0, (encE a ++ encE b).getD 15 D0, (encE a ++ encE b).getD 16 D0, (encE a ++ encE b).getD 17 D0] = encE b := by
 rw [Zbw a, Zbw b]; rfl
theorem c5 (f g : Fl) (a b : Nd) (hf : BigF f) (hg : BigF g) (ha : All Big a) (hb : All Big b) : Holds Tryz.prog 5 [.agg (Zgm f), .agg (Zgm g), .agg (encE a ++ encE b)] [] (Ret (Za9 true)) := by
 refine w5 _ _ _ ?_
 rw [Zzw, Zzx]
 refine ⟨teq rfl, teq rfl, teq (by simp), Zbe (c12 f hf) ⟨_, rfl, rfl, fun h1 => ?_, fun _ => Zbe c13 ⟨_, rfl, rfl, rfl, rfl⟩⟩⟩
 refine Zbe (c12 g hg) ⟨_, rfl, rfl, fun h2 => ?_, fun _ => Zbe c13 ⟨_, rfl, rfl, rfl, rfl⟩⟩
 refine Zbe (c16 a ha) ⟨_, rfl, rfl, fun h3 => ?_, fun _ => Zbe c13 ⟨_, rfl, rfl, rfl, rfl⟩⟩
 refine Zbe (c16 b hb) ⟨_, rfl, rfl, fun _ => Zbe c13 ⟨_, rfl, rfl, rfl, rfl⟩, fun _ => ?_⟩
 refine ⟨_, fun _ => c19 f g (Zvl hf), _, fun _ => c20 f g (Zvl hf), fun _ => ?_, fun h => by simp at h⟩
 refine ⟨_, fun _ => c21 a b (Zxc ha), Zbe (c22 a b (Zxc ha)) ⟨_, rfl, rfl, fun _ => Zbe c13 ⟨_, rfl, rfl, rfl, rfl⟩, fun h => by simp at h⟩⟩
end Go.Sy
end
section
open Go Go.Proofs Go.Ab Go.Rf Go.ChangeShapes Go.WideShapes Go.ChangeAt Go.Proofs.YtpcnadmaeebhbaaGreatDoor
set_option maxRecDepth 100000
namespace Go.Sy
theorem Ztc (os : Os) : laidMet Tryz.prog Rows.syntaxEqualRow.laid ((Zi1 os).forCall (fun _ _ => 0) ⟨#[], #[zF, zF, zP], []⟩).memory :=
 laidMet_of_run' 8 (by kernel_rfl) (by kernel_rfl)
theorem Zzg (os : Os) {H : Type} (en : TypeId × Value -> H) : ∃ places, DataW.whole en Tryz.prog ((Zi1 os).forCall (fun _ _ => 0) ⟨#[], #[zF, zF, zP], []⟩).memory Tryz.f5.params.toList Rows.syntaxEqualSpec.vars false #[zF, zF, zP].toList 8 = some ([dF, dF, dP], [], places) :=
 ⟨[], by kernel_rfl⟩
theorem Zxl (os : Os) (started : os.Started) (H : Type) (en : TypeId × Value -> H) (F : Stop.Interp) :
 ReturnsInHanded {} Tryz.checked os 5 .any ((OpenSpec.ofChange Rows.syntaxEqualSpec).preRow en Tryz.prog Tryz.f5 Rows.syntaxEqualRow.domain false Rows.syntaxEqualRow.laid) (((OpenSpec.ofChange Rows.syntaxEqualSpec).at F).post en Tryz.prog Tryz.f5 false true false false) := by
 obtain ⟨places, hx⟩ := Zzg os en
 refine returnsInHanded_of_row (C := Tryz.checked) (s := OpenSpec.ofChange Rows.syntaxEqualSpec) own started (by kernel_rfl) Tryz.func5
  (witness_row_at (enc := en) (C := Tryz.checked) false (Zi1 os) #[zF, zF, zP] rfl (by kernel_rfl) (by kernel_rfl) (by kernel_rfl)
   (OpenSpec.preRow_of_cond 8 hx (by kernel_rfl) (fun k hk => by cases hk) (by kernel_rfl) (Ztc os))) ?_
 intro W base args ds gs before hval0 hW _ _ hsz0 hL _ _
 have hval : ∀ (j : Nat) t v, Tryz.f5.params[j]? = some t -> args[j]? = some v -> Value.okWide Tryz.prog W .any base t v := hval0
 have hW' : DataW.Whole en Tryz.prog Tryz.f5.params.toList Rows.syntaxEqualSpec.vars false W args.toList ds gs before := hW
 obtain ⟨p, q, hA0, hV, rfl, hfz, hnd⟩ := hW
 have hA : DataW.TrodAll en Tryz.prog W 0 (fun _ => true) true Tryz.f5.params.toList args.toList ds p := hA0
 have hsz : (DataW.weightsEach Tryz.prog (Tryz.f5.params.toList ++ []) (ds ++ gs)).all (· <= reachBytes) = true := hsz0
 rw [Tryz.params5] at hA hval hsz
 obtain ⟨v0, vs0, d0, ds0, p0, q0, hargs, rfl, rfl, h0, r0⟩ := trodAll_cons hA
 obtain ⟨v1, vs1, d1, ds1, p1, q1, rfl, rfl, rfl, h1, r1⟩ := trodAll_cons r0
 obtain ⟨v2, vs2, d2, ds2, p2, q2, rfl, rfl, rfl, h2, r2⟩ := trodAll_cons r1
 obtain ⟨rfl, rfl, rfl⟩ := trodAll_nil r2
 obtain rfl : args = #[v0, v1, v2] := by cases args; simp_all
 obtain ⟨a0, k0, g0, e0⟩ := Zza (hval 0 26 v0 rfl rfl) h0 (Zs7 hsz (i := 0) rfl rfl)
 obtain ⟨a1, k1, g1, e1⟩ := Zza (hval 1 26 v1 rfl rfl) h1 (Zs7 hsz (i := 1) rfl rfl)
 obtain ⟨a2, b2, k2, g2, e2⟩ := Zzs (hval 2 37 v2 rfl rfl) h2 (Zs7 hsz (i := 2) rfl rfl)
 refine (Znx Tryz.func5 rfl rfl (Holds.out (c5 a0 a1 a2 b2 g0 g1 g2 e2) (w := W) (cargs := #[v0, v1, v2]) ⟨k0, k1, k2, trivial⟩)).mono fun e W' ⟨cv, g', he, hc, hb⟩ => ?_
 have hc : cv = .bool true := by cases hc; rfl
 subst hc
 exact ⟨_, he, Zut (s := Rows.syntaxEqualSpec) rfl hW' rfl rfl lay (by kernel_rfl) hb⟩
theorem syntaxEqual_holds : Rows.SyntaxEqualSaid :=
 OpenClaim.holds_of_cond 5 Tryz.f5 rfl rfl rfl rfl rfl rfl rfl ⟨rfl, rfl, rfl, rfl, rfl⟩ rfl rfl rfl rfl rfl (by kernel_rfl) Tryz.func5 (by kernel_rfl)
  (of_decide_eq_true (by kernel_rfl)) (by unfold Func.isWrapper; first | (rw [if_pos (by decide +kernel)]; kernel_rfl) | (rw [if_neg (by decide +kernel)]; exact ⟨rfl, rfl⟩))
  (fun os started H en _ F => by rw [OpenClaim.pre_eq_preRow]; exact Zxl os started H en F)
theorem plain5 (f : FuncId) (fn : Func) (hf : Tryz.pinned.checked.prog.funcNamed "configlang/configlanglaw25.SyntaxEqual" = some f) (hfn : Tryz.pinned.checked.prog.funcs[f]? = some fn) :
 true = Tryz.pinned.checked.prog.looks [] /\ ∀ (j : Nat) t, fn.params[j]? = some t -> Tryz.pinned.checked.prog.wantsStandIn t = false := by
 obtain rfl : f = 5 := Option.some.inj ((show Tryz.prog.funcNamed "configlang/configlanglaw25.SyntaxEqual" = some 5 by kernel_rfl).symm.trans hf) |>.symm
 obtain rfl : fn = Tryz.f5 := (Option.some.inj (Tryz.func5.symm.trans hfn)).symm
 refine ⟨by kernel_rfl, fun j t ht => ?_⟩
 rw [Tryz.params5] at ht
 have hm : t ∈ [26, 26, 37] := by simpa using Array.mem_of_getElem? ht
 have hall : ([26, 26, 37].all fun u => !Tryz.prog.wantsStandIn u) = true := by kernel_rfl
 exact (show Tryz.prog.wantsStandIn t = false by simpa using List.all_eq_true.1 hall t hm)
end Go.Sy
namespace Go.Proofs.YtpcnadmaeebhbaaGreatDoor
theorem syntaxEqual_proved : Rows.SyntaxEqualCardSaid :=
 Claim7.holds_tied_plain_at .later [] _ _ _ _ Go.Sy.syntaxEqual_holds (fun _ h => by cases h) (by kernel_rfl) (fun _ h => by cases h) syntaxEqual_row_tie rfl ⟨rfl, rfl⟩ (by kernel_rfl) rfl Go.Sy.plain5 (by kernel_rfl)
end Go.Proofs.YtpcnadmaeebhbaaGreatDoor
end
