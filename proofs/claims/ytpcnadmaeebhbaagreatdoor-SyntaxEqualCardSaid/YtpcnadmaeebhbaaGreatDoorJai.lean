/- Proved: the given card SyntaxEqualCardSaid, without conditions. -/
import Derived.Test.YtpcnadmaeebhbaaGreatDoorRows
import Derived.WalkKit
import Derived.ProofKit
import Derived.OpenShut
import Derived.JoinedOf
import Derived.Deep.Slices
import Derived.Test.YtpcnadmaeebhbaaGreatDoorCards
import Derived.Test.YtpcnadmaeebhbaaGreatDoorTie
import Derived.Carry
import Derived.Deep.DeepHandedRow
import Derived.Lib.LaidTab
import Derived.Test.YtpcnadmaeebhbaaGreatDoorJah
set_option linter.unusedVariables false
set_option linter.unusedSimpArgs false
section
open Go Go.Proofs Go.Ab Go.Rf
set_option linter.unusedSimpArgs false
set_option maxRecDepth 100000
namespace Go.Sy
theorem getT {l : List Tx} {i : Nat} (h : i < l.length) : Rf.isK .str ((gAt (txs l) (i : Int)).getD 0 D0) = true /\ Rf.dstr ((gAt (txs l) (i : Int)).getD 0 D0) = l[i] := by rw [gT0 h]; simp [dS]
theorem c23 (a b : List Tx) (ha : a.length <= 2 ^ 50) : Holds Tryz.prog 23 [slA (txs a), slA (txs b)] [] (Ret (Za9 (decide (a = b)))) := by
 refine w23 (txs a) (txs b) ⟨fun h => ?_, fun h => ?_⟩
 ·have hne : a ≠ b := fun e => by subst e; simp at h
  exact ⟨by simp [hne], rfl⟩
 ·have hl : a.length = b.length := by simp at h; omega
  refine ⟨fun x => ∃ i : Nat, x = i /\ i <= a.length /\ (a.drop i = b.drop i ↔ a = b), fun x => a.length - x.toNat, ⟨0, rfl, Nat.zero_le _, by simp⟩, ?_, trivial⟩
  rintro x ⟨i, rfl, hi, hr⟩
  refine ⟨fun hc => ?_, fun hc => ?_⟩
  ·have h1 : i < a.length := by have := Zb9 hc; simp at this; omega
   have h2 : i < b.length := by omega
   refine ⟨tle (by omega), teq (by rw [gT1 h1]; rfl), (getT h1).1, tlt (by simp; omega), teq (by rw [gT1 h2]; rfl), (getT h2).1, fun hn => ?_, fun hn => ⟨tle (by omega), tle (by omega), ⟨i + 1, rfl, h1, ?_⟩, dec h1⟩⟩
   ·rw [(getT h1).2, (getT h2).2] at hn
    have hne : a ≠ b := fun e => by subst e; simp at hn
    exact ⟨by simp [hne], rfl⟩
   ·rw [(getT h1).2, (getT h2).2] at hn
    have he : a[i] = b[i] := by simpa using hn
    rw [<- hr]
    conv => rhs; rw [Zak h1, Zak h2]
    simp only [List.cons.injEq, he, true_and]
  ·have h1 : a.length <= i := by have := Zca hc; simp at this; omega
   have : a = b := hr.1 (by rw [Zap h1, Zap (by omega)])
   exact ⟨by simp [this], rfl⟩
def encF (p : Tx) (im : List (List D)) (d : List Nd) (t : List Tx) : List D := [dS p, .slc im, .slc (Zbo d), .slc (txs t)]
end Go.Sy
end
section
open Go Go.Proofs Go.Ab Go.Rf
set_option linter.unusedSimpArgs false
set_option maxRecDepth 100000
namespace Go.Sy
mutual
def eqE : Nd -> Nd -> Bool
 | .mk k n t a b _ _ ta _ s d, y => (k == y.kind && t == y.text && n == y.num && a == y.n0 && b == y.n1) && decide (ta = y.tail) && eqEs s y.subs && eqDs d y.decls
def eqEs : List Nd -> List Nd -> Bool
 | [], [] => true
 | a :: l, b :: m => eqE a b && eqEs l m
 | [], _ :: _ => false
 | _ :: _, [] => false
def eqD : Nd -> Nd -> Bool
 | .mk k n t a b tr le ta _ s d, y => (k == y.kind && n == y.num && t == y.text && a == y.n0 && b == y.n1) && tr == y.trail && decide (le = y.lead) && decide (ta = y.tail) && eqEs s y.subs && eqDs d y.decls
def eqDs : List Nd -> List Nd -> Bool
 | [], [] => true
 | a :: l, b :: m => eqD a b && eqDs l m
 | [], _ :: _ => false
 | _ :: _, [] => false
end
theorem Zs1 (x y : Nd) : eqE x y = ((x.kind == y.kind && x.text == y.text && x.num == y.num && x.n0 == y.n0 && x.n1 == y.n1) && decide (x.tail = y.tail) && eqEs x.subs y.subs && eqDs x.decls y.decls) := by cases x; rw [eqE]; rfl
theorem Zs2 (x y : Nd) : eqD x y = ((x.kind == y.kind && x.num == y.num && x.text == y.text && x.n0 == y.n0 && x.n1 == y.n1) && x.trail == y.trail && decide (x.lead = y.lead) && decide (x.tail = y.tail) && eqEs x.subs y.subs && eqDs x.decls y.decls) := by cases x; rw [eqD]; rfl
theorem Zkr : ∀ {l m : List Nd}, l.length ≠ m.length -> eqEs l m = false
 | [], [], h => absurd rfl h
 | [], _ :: _, _ => by simp [eqEs]
 | _ :: _, [], _ => by simp [eqEs]
 | a :: l, b :: m, h => by unfold eqEs; rw [Zkr (l := l) (m := m) (by simpa using h)]; simp
theorem Zks : ∀ {l m : List Nd}, l.length ≠ m.length -> eqDs l m = false
 | [], [], h => absurd rfl h
 | [], _ :: _, _ => by simp [eqDs]
 | _ :: _, [], _ => by simp [eqDs]
 | a :: l, b :: m, h => by unfold eqDs; rw [Zks (l := l) (m := m) (by simpa using h)]; simp
theorem c65 (a b : List Tx) (ha : a.length <= 2 ^ 50) : Holds Tryz.prog 65 [slA (txs a), slA (txs b)] [] (Ret (Za9 (decide (a = b)))) := by
 refine w65 (txs a) (txs b) ⟨fun h => ?_, fun h => ?_⟩
 ·have hne : a ≠ b := fun e => by subst e; simp at h
  exact ⟨by simp [hne], rfl⟩
 ·have hl : a.length = b.length := by simp at h; omega
  refine ⟨fun x => ∃ i : Nat, x = i /\ i <= a.length /\ (a.drop i = b.drop i ↔ a = b), fun x => a.length - x.toNat, ⟨0, rfl, Nat.zero_le _, by simp⟩, ?_, trivial⟩
  rintro x ⟨i, rfl, hi, hr⟩
  refine ⟨fun hc => ?_, fun hc => ?_⟩
  ·have h1 : i < a.length := by have := Zb9 hc; simp at this; omega
   have h2 : i < b.length := by omega
   refine ⟨tle (by omega), teq (by rw [gT1 h1]; rfl), (getT h1).1, tlt (by simp; omega), teq (by rw [gT1 h2]; rfl), (getT h2).1, fun hn => ?_, fun hn => ⟨tle (by omega), tle (by omega), ⟨i + 1, rfl, h1, ?_⟩, dec h1⟩⟩
   ·rw [(getT h1).2, (getT h2).2] at hn
    have hne : a ≠ b := fun e => by subst e; simp at hn
    exact ⟨by simp [hne], rfl⟩
   ·rw [(getT h1).2, (getT h2).2] at hn
    have he : a[i] = b[i] := by simpa using hn
    rw [<- hr]
    conv => rhs; rw [Zak h1, Zak h2]
    simp only [List.cons.injEq, he, true_and]
  ·have h1 : a.length <= i := by have := Zca hc; simp at this; omega
   have : a = b := hr.1 (by rw [Zap h1, Zap (by omega)])
   exact ⟨by simp [this], rfl⟩
theorem c67 (l m : List Nd) (hl : l.length <= 2 ^ 50) (ih : ∀ x ∈ l, ∀ y, Holds Tryz.prog 21 [.agg (encE x), .agg (encE y)] [] (Ret (Za9 (eqE x y)))) :
 Holds Tryz.prog 67 [slA (Zej l), slA (Zej m), .fn 21 []] [] (Ret (Za9 (eqEs l m))) := by
 refine w67 _ _ ⟨fun h => ?_, fun h => ?_⟩
 ·exact ⟨by rw [Zkr (by simp at h; omega)], rfl⟩
 ·have hlen : l.length = m.length := by simp at h; omega
  refine ⟨fun x => ∃ i : Nat, x = i /\ i <= l.length /\ eqEs (l.drop i) (m.drop i) = eqEs l m, fun x => l.length - x.toNat, ⟨0, rfl, Nat.zero_le _, rfl⟩, ?_, trivial⟩
  rintro x ⟨i, rfl, hi, hr⟩
  refine ⟨fun hc => ?_, fun hc => ?_⟩
  ·have h1 : i < l.length := by have := Zb9 hc; simp at this; omega
   have h2 : i < m.length := by omega
   rw [Zak h1, Zak h2, eqEs] at hr
   rw [Zmh rfl h1, Zmh rfl h2]
   refine ⟨tle (by omega), teq (by simp), tlt (by simp; omega), teq (by simp), Zbe (ih _ (List.getElem_mem h1) _) ⟨_, rfl, rfl, fun hn => ?_, fun hn => ⟨tle (by omega), tle (by omega), ⟨i + 1, rfl, h1, ?_⟩, dec h1⟩⟩⟩
   ·have hn : eqE l[i] m[i] = false := by simpa using hn
    exact ⟨by rw [<- hr, hn]; rfl, rfl⟩
   ·have hn : eqE l[i] m[i] = true := by simpa using hn
    rw [<- hr, hn]; rfl
  ·have h1 : l.length <= i := by have := Zca hc; simp at this; omega
   rw [Zap h1, Zap (by omega)] at hr
   exact ⟨by rw [<- hr]; simp [eqEs], rfl⟩
theorem c63 (l m : List Nd) (hl : l.length <= 2 ^ 50) (ih : ∀ x ∈ l, ∀ y, Holds Tryz.prog 64 [.agg (encD x), .agg (encD y)] [] (Ret (Za9 (eqD x y)))) :
 Holds Tryz.prog 63 [slA (Zbo l), slA (Zbo m), .fn 64 []] [] (Ret (Za9 (eqDs l m))) := by
 refine w63 _ _ ⟨fun h => ?_, fun h => ?_⟩
 ·exact ⟨by rw [Zks (by simp at h; omega)], rfl⟩
 ·have hlen : l.length = m.length := by simp at h; omega
  refine ⟨fun x => ∃ i : Nat, x = i /\ i <= l.length /\ eqDs (l.drop i) (m.drop i) = eqDs l m, fun x => l.length - x.toNat, ⟨0, rfl, Nat.zero_le _, rfl⟩, ?_, trivial⟩
  rintro x ⟨i, rfl, hi, hr⟩
  refine ⟨fun hc => ?_, fun hc => ?_⟩
  ·have h1 : i < l.length := by have := Zb9 hc; simp at this; omega
   have h2 : i < m.length := by omega
   rw [Zak h1, Zak h2, eqDs] at hr
   rw [Zsy rfl h1, Zsy rfl h2]
   refine ⟨tle (by omega), teq (by simp), tlt (by simp; omega), teq (by simp), Zbe (ih _ (List.getElem_mem h1) _) ⟨_, rfl, rfl, fun hn => ?_, fun hn => ⟨tle (by omega), tle (by omega), ⟨i + 1, rfl, h1, ?_⟩, dec h1⟩⟩⟩
   ·have hn : eqD l[i] m[i] = false := by simpa using hn
    exact ⟨by rw [<- hr, hn]; rfl, rfl⟩
   ·have hn : eqD l[i] m[i] = true := by simpa using hn
    rw [<- hr, hn]; rfl
  ·have h1 : l.length <= i := by have := Zca hc; simp at this; omega
   rw [Zap h1, Zap (by omega)] at hr
   exact ⟨by rw [<- hr]; simp [eqDs], rfl⟩
theorem Zzl : ∀ (r : Nd), Lm r -> (∀ y, Holds Tryz.prog 21 [.agg (encE r), .agg (encE y)] [] (Ret (Za9 (eqE r y)))) /\ ∀ y, Holds Tryz.prog 64 [.agg (encD r), .agg (encD y)] [] (Ret (Za9 (eqD r y))) := by
 refine Zo9 fun r hs hd hl => ?_
 have l1 := hl.here
 have ihs := c67 r.subs (hl := Nat.le_trans l1.1 (by omega)) (ih := fun x hx => (hs x hx (hl.sub hx)).1)
 have ihd := c63 r.decls (hl := Nat.le_trans l1.2.1 (by omega)) (ih := fun x hx => (hd x hx (hl.dec hx)).2)
 refine ⟨fun y => ?_, fun y => ?_⟩
 ·have no : ∀ b, eqE r y = b -> Ret (Za9 (eqE r y)) (.ret (Za9 b)) [] := fun b h => ⟨by rw [h], rfl⟩
  rw [Zs1] at no ⊢
  refine w21 (encE r) (encE y) ?_
  simp only [Zed, e0, e1, e2, e3, e4, e5, e6, e7, e8, isK_int, isK_str, isK_slc, Zdm, Zeh, Zch, Bool.or_true, true_and]
  refine ⟨teq rfl, teq rfl, fun h => ⟨fun h1 => ⟨fun h2 => ?_, fun h2 => no _ ?_⟩, fun h1 => no _ ?_⟩, fun h => no _ ?_⟩
  ·refine Zbe (c65 _ _ (Nat.le_trans l1.2.2.1 (by omega))) ⟨_, rfl, rfl, fun h3 => ?_, fun h3 => no _ (by simp [h3])⟩
   refine Zbe (ihs y.subs) ⟨_, rfl, rfl, fun h4 => ?_, fun h4 => no _ (by simp [h4])⟩
   refine Zbe (ihd y.decls) ⟨_, rfl, rfl, no _ ?_⟩
   simp only [Zfq, Bool.and_eq_true, beq_iff_eq, decide_eq_true_eq] at h h1 h2 h3
   simp [h, h1, h2, h3, h4]
  ·simp only [Zfq, beq_eq_false_iff_ne] at h2
   simp [h2]
  ·simp only [Zfq, beq_eq_false_iff_ne] at h1
   simp [h1]
  ·simp only [Zfq] at h
   have : (r.kind == y.kind && r.text == y.text && r.num == y.num) = false := h
   simp [this]
 ·have no : ∀ b, eqD r y = b -> Ret (Za9 (eqD r y)) (.ret (Za9 b)) [] := fun b h => ⟨by rw [h], rfl⟩
  rw [Zs2] at no ⊢
  refine w64 (encD r) (encD y) ?_
  simp only [Zee, d0, d1, d2, d3, d4, d5, d6, d7, d8, d9, d10, isK_int, isK_str, isK_slc, Zdm, Zeh, Zch, Bool.or_true, true_and]
  refine ⟨teq rfl, teq rfl, fun h => ⟨fun h2 => ?_, fun h2 => no _ ?_⟩, fun h => no _ ?_⟩
  ·refine Zbe (c65 _ _ (Nat.le_trans l1.2.2.2 (by omega))) ⟨_, rfl, rfl, fun h3 => ?_, fun h3 => no _ (by simp [h3])⟩
   refine Zbe (c65 _ _ (Nat.le_trans l1.2.2.1 (by omega))) ⟨_, rfl, rfl, fun h3' => ?_, fun h3' => no _ (by simp [h3'])⟩
   refine Zbe (ihs y.subs) ⟨_, rfl, rfl, fun h4 => ?_, fun h4 => no _ (by simp [h4])⟩
   refine Zbe (ihd y.decls) ⟨_, rfl, rfl, no _ ?_⟩
   simp only [Zfq, Bool.and_eq_true, beq_iff_eq, decide_eq_true_eq] at h h2 h3 h3'
   simp [h, h2, h3, h3', h4]
  ·simp only [Zfq, beq_eq_false_iff_ne] at h2
   simp [h2]
  ·simp only [Zfq] at h
   have h' : (r.kind == y.kind && r.num == y.num && r.text == y.text && r.n0 == y.n0 && r.n1 == y.n1) = false := by rw [<- h]; simp only [Bool.and_assoc]
   simp only [h', Bool.false_and]
theorem c21 (r y : Nd) (h : Lm r) : Holds Tryz.prog 21 [.agg (encE r), .agg (encE y)] [] (Ret (Za9 (eqE r y))) := (Zzl r h).1 y
theorem c63' (l m : List Nd) (hl : l.length <= 2 ^ 50) (h : ∀ x ∈ l, Lm x) : Holds Tryz.prog 63 [slA (Zbo l), slA (Zbo m), .fn 64 []] [] (Ret (Za9 (eqDs l m))) := c63 l m hl fun x hx => (Zzl x (h x hx)).2
structure Im where
 name : Tx
 path : Tx
 pos : Int
def encI (i : Im) : List D := [dS i.name, dS i.path, dI i.pos]
def Zmi (l : List Im) : List (List D) := l.map encI
structure Fl where
 pkg : Tx
 imps : List Im
 decls : List Nd
 tail : List Tx
def Zgo (f : Fl) : List D := encF f.pkg (Zmi f.imps) f.decls f.tail
@[simp] theorem Ze1 (f : Fl) : (Zgo f).length = 4 := rfl
@[simp] theorem f0 (f : Fl) : (Zgo f).getD 0 D0 = dS f.pkg := rfl
@[simp] theorem f1 (f : Fl) : (Zgo f).getD 1 D0 = .slc (Zmi f.imps) := rfl
@[simp] theorem f2 (f : Fl) : (Zgo f).getD 2 D0 = .slc (Zbo f.decls) := rfl
@[simp] theorem f3 (f : Fl) : (Zgo f).getD 3 D0 = .slc (txs f.tail) := rfl
@[simp] theorem Ze2 (l : List Im) : (Zmi l).length = l.length := by simp [Zmi]
theorem Zs3 {l : List Im} {i : Nat} {x : Int} (hx : x = i) (h : i < l.length) : gAt (Zmi l) x = encI l[i] := by
 subst hx
 simp [gAt, Zmi, List.getD, h]
@[simp] theorem Zfr (i : Im) : (encI i).length = 3 := rfl
@[simp] theorem i0 (i : Im) : (encI i).getD 0 D0 = dS i.name := rfl
@[simp] theorem i1 (i : Im) : (encI i).getD 1 D0 = dS i.path := rfl
@[simp] theorem i2 (i : Im) : (encI i).getD 2 D0 = dI i.pos := rfl
def LmF (f : Fl) : Prop := (f.imps.length <= 2 ^ 50 /\ f.decls.length <= 2 ^ 50 /\ f.tail.length <= 2 ^ 50) /\ ∀ x ∈ f.decls, Lm x
def eqI (a b : Im) : Bool := a.name == b.name && a.path == b.path
def eqIs : List Im -> List Im -> Bool
 | [], [] => true
 | a :: l, b :: m => eqI a b && eqIs l m
 | [], _ :: _ => false
 | _ :: _, [] => false
theorem Zkt : ∀ {l m : List Im}, l.length ≠ m.length -> eqIs l m = false
 | [], [], h => absurd rfl h
 | [], _ :: _, _ => by simp [eqIs]
 | _ :: _, [], _ => by simp [eqIs]
 | a :: l, b :: m, h => by unfold eqIs; rw [Zkt (l := l) (m := m) (by simpa using h)]; simp
def eqF (f g : Fl) : Bool := f.pkg == g.pkg && eqIs f.imps g.imps && eqDs f.decls g.decls && decide (f.tail = g.tail)
theorem c61 (a b : Im) : Holds Tryz.prog 61 [.agg (encI a), .agg (encI b)] [] (Ret (Za9 (eqI a b))) := by
 refine w61 _ _ ?_
 simp only [Zfr, i0, i1, isK_str, Zeh, Bool.or_true, true_and]
 exact ⟨teq rfl, teq rfl, by simp [eqI], rfl⟩
theorem c62 (l m : List Im) (hl : l.length <= 2 ^ 50) : Holds Tryz.prog 62 [slA (Zmi l), slA (Zmi m), .fn 61 []] [] (Ret (Za9 (eqIs l m))) := by
 refine w62 _ _ ⟨fun h => ?_, fun h => ?_⟩
 ·exact ⟨by rw [Zkt (by simp at h; omega)], rfl⟩
 ·have hlen : l.length = m.length := by simp at h; omega
  refine ⟨fun x => ∃ i : Nat, x = i /\ i <= l.length /\ eqIs (l.drop i) (m.drop i) = eqIs l m, fun x => l.length - x.toNat, ⟨0, rfl, Nat.zero_le _, rfl⟩, ?_, trivial⟩
  rintro x ⟨i, rfl, hi, hr⟩
  refine ⟨fun hc => ?_, fun hc => ?_⟩
  ·have h1 : i < l.length := by have := Zb9 hc; simp at this; omega
   have h2 : i < m.length := by omega
   rw [Zak h1, Zak h2, eqIs] at hr
   rw [Zs3 rfl h1, Zs3 rfl h2]
   refine ⟨tle (by omega), teq (by simp), tlt (by simp; omega), teq (by simp), Zbe (c61 _ _) ⟨_, rfl, rfl, fun hn => ?_, fun hn => ⟨tle (by omega), tle (by omega), ⟨i + 1, rfl, h1, ?_⟩, dec h1⟩⟩⟩
   ·have hn : eqI l[i] m[i] = false := by simpa using hn
    exact ⟨by rw [<- hr, hn]; rfl, rfl⟩
   ·have hn : eqI l[i] m[i] = true := by simpa using hn
    rw [<- hr, hn]; rfl
  ·have h1 : l.length <= i := by have := Zca hc; simp at this; omega
   rw [Zap h1, Zap (by omega)] at hr
   exact ⟨by rw [<- hr]; simp [eqIs], rfl⟩
theorem c19 (f g : Fl) (h : LmF f) : Holds Tryz.prog 19 [.agg (Zgo f), .agg (Zgo g)] [] (Ret (Za9 (eqF f g))) := by
 have no : ∀ b, eqF f g = b -> Ret (Za9 (eqF f g)) (.ret (Za9 b)) [] := fun b h => ⟨by rw [h], rfl⟩
 unfold eqF at no ⊢
 refine w19 _ _ ?_
 simp only [Ze1, f0, f1, f2, f3, isK_str, isK_slc, Zeh, Zch, Bool.or_true, true_and]
 refine ⟨teq rfl, teq rfl, fun h1 => ?_, fun h1 => no _ ?_⟩
 ·refine Zbe (c62 _ _ (Nat.le_trans h.1.1 (by omega))) ⟨_, rfl, rfl, fun h2 => ?_, fun h2 => no _ (by simp [h2])⟩
  refine Zbe (c63' _ _ (Nat.le_trans h.1.2.1 (by omega)) h.2) ⟨_, rfl, rfl, fun h3 => ?_, fun h3 => no _ (by simp [h3])⟩
  refine Zbe (c65 _ _ (Nat.le_trans h.1.2.2 (by omega))) ⟨_, rfl, rfl, no _ ?_⟩
  simp only [Zfq, beq_iff_eq] at h1
  simp [h1, h2, h3]
 ·simp only [Zfq, beq_eq_false_iff_ne] at h1
  simp [h1]
end Go.Sy
end
section
open Go Go.Proofs Go.Ab Go.Rf
set_option linter.unusedSimpArgs false
set_option maxRecDepth 100000
namespace Go.Sy
def Zzm (n : Int) (s : Tx) : Int := min (n + s.length) 10000
def Ziz (n : Int) (l : List Tx) : Int := l.foldl Zzm n
abbrev Zcc (l : List Tx) : Int := Ziz 0 l
theorem Zi0 (n : Int) (s : Tx) (l : List Tx) : Ziz n (s :: l) = Ziz (min (n + s.length) 10000) l := rfl
theorem Zmj : ∀ (l : List Tx) (n : Int), 0 <= n -> n <= 10000 -> 0 <= Ziz n l /\ Ziz n l <= 10000 /\ (n <= Ziz n l)
 | [], n, h1, h2 => ⟨h1, h2, Int.le_refl _⟩
 | s :: l, n, h1, h2 => by
   rw [Zi0]
   obtain ⟨a, b, c⟩ := Zmj l (min (n + s.length) 10000) (by omega) (by omega)
   exact ⟨a, b, by omega⟩
theorem Zbw (l : List Tx) : 0 <= Zcc l /\ Zcc l <= 10000 := by
 have := Zmj l 0 (by omega) (by omega); exact ⟨this.1, this.2.1⟩
theorem c41 (l : List Tx) (hl : l.length <= 2 ^ 50) (ht : ∀ s ∈ l, s.length <= 2 ^ 50) : Holds Tryz.prog 41 [slA (txs l)] [] (Ret (intA (Zcc l))) := by
 refine w41 (txs l) ⟨fun n x => ∃ i : Nat, x = i /\ i <= l.length /\ 0 <= n /\ n <= 10000 /\ Ziz n (l.drop i) = Zcc l, fun _ x => l.length - x.toNat, ⟨0, rfl, Nat.zero_le _, by omega, by omega, rfl⟩, ?_, trivial⟩
 rintro n x ⟨i, rfl, hi, h1, h2, hr⟩
 refine ⟨fun hc => ?_, fun hc => ?_⟩
 ·have k1 : i < l.length := by have := Zb9 hc; simp at this; omega
  have k2 := ht _ (List.getElem_mem k1)
  rw [Zak k1, Zi0] at hr
  rw [(getT k1).2]
  have e : (n + ((l[i]).length : Int) + 10000) - gMax (n + ((l[i]).length : Int)) 10000 = min (n + l[i].length) 10000 := by
   unfold gMax; split <;> omega
  rw [e]
  exact ⟨tle (by omega), teq (by rw [gT1 k1]; rfl), (getT k1).1, tle (by omega), tle (by omega), tle (by omega), tle (by omega), ⟨i + 1, rfl, k1, by omega, by omega, hr⟩, dec k1⟩
 ·have k1 : l.length <= i := by have := Zca hc; simp at this; omega
  rw [Zap k1] at hr
  exact ⟨by rw [<- hr]; rfl, rfl⟩
def BigB (B : Nat) (r : Nd) : Prop := (r.subs.length <= B /\ r.decls.length <= B /\ r.tail.length <= B /\ r.lead.length <= B) /\ (∀ s ∈ [r.text, r.n0, r.n1, r.trail], s.length <= B) /\ (∀ s ∈ r.tail, s.length <= B) /\ ∀ s ∈ r.lead, s.length <= B
abbrev Big (r : Nd) : Prop := BigB (2 ^ 50) r
theorem BigB.mono {B C : Nat} (hBC : B <= C) (r : Nd) (h : BigB B r) : BigB C r :=
 ⟨⟨Nat.le_trans h.1.1 hBC, Nat.le_trans h.1.2.1 hBC, Nat.le_trans h.1.2.2.1 hBC, Nat.le_trans h.1.2.2.2 hBC⟩, fun s hs => Nat.le_trans (h.2.1 s hs) hBC, fun s hs => Nat.le_trans (h.2.2.1 s hs) hBC, fun s hs => Nat.le_trans (h.2.2.2 s hs) hBC⟩
theorem Zxm {r : Nd} (h : All Big r) : Lm r := h.mono fun _ h => h.1
def ownE (r : Nd) : Int := 1 + r.tail.length + Zcc [r.text, r.n0, r.n1] / 20 + Zcc r.tail / 20
def ownD (r : Nd) : Int := 1 + r.lead.length + r.tail.length + Zcc [r.text, r.n0, r.n1, r.trail] / 20 + Zcc r.lead / 20 + Zcc r.tail / 20
mutual
def Znt : Nd -> Int -> Int
 | .mk k n t a b tr le ta p s d, m => Zd2 d (Zct s (m - ownE (.mk k n t a b tr le ta p s d)))
def Zct : List Nd -> Int -> Int
 | [], m => m
 | x :: l, m => Zct l (if 0 <= m then Znt x m else m)
def Zs4 : Nd -> Int -> Int
 | .mk k n t a b tr le ta p s d, m => Zd2 d (Zct s (m - ownD (.mk k n t a b tr le ta p s d)))
def Zd2 : List Nd -> Int -> Int
 | [], m => m
 | x :: l, m => if m < 0 then m else Zd2 l (Zs4 x m)
end
theorem Zpc (r : Nd) (m : Int) : Znt r m = Zd2 r.decls (Zct r.subs (m - ownE r)) := by cases r; rw [Znt]; rfl
theorem Zpd (r : Nd) (m : Int) : Zs4 r m = Zd2 r.decls (Zct r.subs (m - ownD r)) := by cases r; rw [Zs4]; rfl
theorem Zs5 {r : Nd} (h : Big r) : 1 <= ownE r /\ ownE r <= 2 ^ 51 := by
 have h1 := Zbw [r.text, r.n0, r.n1]
 have h2 := Zbw r.tail
 have h3 := h.1.2.2.1
 unfold ownE; omega
theorem Zs6 {r : Nd} (h : Big r) : 1 <= ownD r /\ ownD r <= 2 ^ 52 := by
 have h1 := Zbw [r.text, r.n0, r.n1, r.trail]
 have h2 := Zbw r.tail
 have h2' := Zbw r.lead
 have h3 := h.1.2.2
 unfold ownD; omega
def Bd (f : Int -> Int) : Prop := ∀ m, 0 <= m -> m <= 1000 -> - 2 ^ 52 <= f m /\ f m <= m
theorem Zi1 : ∀ (l : List Nd), (∀ x ∈ l, Bd (Znt x)) -> ∀ m, - 2 ^ 52 <= m -> m <= 1000 -> - 2 ^ 52 <= Zct l m /\ Zct l m <= m
 | [], _, m, h1, h2 => ⟨h1, Int.le_refl _⟩
 | x :: l, h, m, h1, h2 => by
   rw [Zct]
   split
   ·rename_i h0
    have hx := h x (List.mem_cons_self ..) m h0 h2
    have := Zi1 l (fun y hy => h y (List.mem_cons_of_mem _ hy)) _ hx.1 (by omega)
    omega
   ·exact Zi1 l (fun y hy => h y (List.mem_cons_of_mem _ hy)) m h1 h2
theorem Zi2 : ∀ (l : List Nd), (∀ x ∈ l, Bd (Zs4 x)) -> ∀ m, - 2 ^ 52 <= m -> m <= 1000 -> - 2 ^ 52 <= Zd2 l m /\ Zd2 l m <= m
 | [], _, m, h1, h2 => ⟨h1, Int.le_refl _⟩
 | x :: l, h, m, h1, h2 => by
   rw [Zd2]
   split
   ·exact ⟨h1, Int.le_refl _⟩
   ·rename_i h0
    have hx := h x (List.mem_cons_self ..) m (by omega) h2
    have := Zi2 l (fun y hy => h y (List.mem_cons_of_mem _ hy)) _ hx.1 (by omega)
    omega
theorem Znu : ∀ r : Nd, All Big r -> Bd (Znt r) /\ Bd (Zs4 r) := by
 refine Zo9 fun r hs hd hb => ?_
 have hE := Zi1 r.subs fun x hx => (hs x hx (hb.sub hx)).1
 have hD := Zi2 r.decls fun x hx => (hd x hx (hb.dec hx)).2
 have h1 := Zs5 hb.here
 have h2 := Zs6 hb.here
 refine ⟨fun m m0 m1 => ?_, fun m m0 m1 => ?_⟩
 ·rw [Zpc]
  have a := hE (m - ownE r) (by omega) (by omega)
  have b := hD _ a.1 (by omega)
  omega
 ·rw [Zpd]
  have a := hE (m - ownD r) (by omega) (by omega)
  have b := hD _ a.1 (by omega)
  omega
theorem tdv {x : Int} (h : 0 <= x /\ x <= 10000) : x.tdiv 20 = x / 20 /\ 0 <= x / 20 /\ x / 20 <= 500 := ⟨Int.tdiv_eq_ediv_of_nonneg h.1, by omega, by omega⟩
abbrev H57 (e : Nd) : Prop := ∀ m, 0 <= m -> m <= 1000 -> Holds Tryz.prog 57 [.agg (encE e), intA m] [] (Ret (intA (Znt e m)))
abbrev H42 (l : List Nd) : Prop := ∀ m, - 2 ^ 52 <= m -> m <= 1000 -> Holds Tryz.prog 42 [slA (Zbo l), intA m] [] (Ret (intA (Zd2 l m)))
theorem c42 (l : List Nd) (hl : l.length <= 2 ^ 50) (hb : ∀ x ∈ l, All Big x) (ih : ∀ x ∈ l, H42 x.decls /\ ∀ e ∈ x.subs, H57 e) : H42 l := by
 intro m m0 m1
 refine w42 (Zbo l) m ⟨fun n x => ∃ i : Nat, x = i /\ i <= l.length /\ (- 2 ^ 52 <= n /\ n <= 1000) /\ Zd2 (l.drop i) n = Zd2 l m, fun _ x => l.length - x.toNat, ⟨0, rfl, Nat.zero_le _, ⟨m0, m1⟩, rfl⟩, ?_, trivial⟩
 rintro n x ⟨i, rfl, hi, hn, hr⟩
 refine ⟨fun hc => ?_, fun hc => ?_⟩
 ·have k1 : i < l.length := by have := Zb9 hc; simp at this; omega
  rw [Zak k1, Zd2] at hr
  have hx := List.getElem_mem k1
  have l1 := hb _ hx
  have ihx := ih _ hx
  rw [Zsy rfl k1]
  generalize l[i] = a at hr l1 ihx
  have b1 := l1.here
  have q1 := Zbw [a.text, a.n0, a.n1, a.trail]
  have q2 := Zbw a.lead
  have q3 := Zbw a.tail
  have o1 := Zs6 b1
  simp only [Zee, d0, d1, d2, d3, d4, d5, d6, d7, d8, d9, d10, isK_int, isK_str, isK_slc, Zdm, Zeh, Zch, Bool.or_true, true_and, Zco, Zdl, Zg2]
  refine ⟨tle (by omega), teq rfl, fun h => ?_, fun h => ?_⟩
  ·rw [if_pos (Zb9 h)] at hr
   exact ⟨by rw [<- hr], rfl⟩
  ·have h := Zca h
   rw [if_neg (by omega)] at hr
   have L := b1.1
   refine ⟨tle (by omega), tle (by omega), tle (by omega), tle (by omega), tle (by omega), tle (by omega), Zcc [a.text, a.n0, a.n1, a.trail], fun _ => c41 [a.text, a.n0, a.n1, a.trail] (by simp) b1.2.1, ?_⟩
   rw [(tdv q1).1]
   refine ⟨tle (by omega), tle (by omega), tle (by omega), tle (by omega), Zcc a.lead, fun _ => c41 a.lead L.2.2.2 b1.2.2.2, ?_⟩
   rw [(tdv q2).1]
   refine ⟨tle (by omega), tle (by omega), tle (by omega), tle (by omega), Zcc a.tail, fun _ => c41 a.tail L.2.2.1 b1.2.2.1, ?_⟩
   rw [(tdv q3).1]
   have eo : n - 1 - (a.lead.length : Int) - (a.tail.length : Int) - Zcc [a.text, a.n0, a.n1, a.trail] / 20 - Zcc a.lead / 20 - Zcc a.tail / 20 = n - ownD a := by unfold ownD; omega
   rw [eo]
   refine ⟨tle (by omega), tle (by omega), tle (by omega), tle (by omega), fun n' x => ∃ j : Nat, x = j /\ j <= a.subs.length /\ (- 2 ^ 52 <= n' /\ n' <= 1000) /\ Zct (a.subs.drop j) n' = Zct a.subs (n - ownD a), fun _ x => a.subs.length - x.toNat, ⟨0, rfl, Nat.zero_le _, ⟨by omega, by omega⟩, rfl⟩, ?_, trivial⟩
   rintro n' x ⟨j, rfl, hj, hn', hrj⟩
   refine ⟨fun hcj => ?_, fun hcj => ?_⟩
   ·have j1 : j < a.subs.length := by have := Zb9 hcj; omega
    rw [Zak j1, Zct] at hrj
    rw [Zmh rfl j1]
    refine ⟨tle (by omega), teq (by simp), fun h0 => ?_, fun h0 => ?_⟩
    ·have h0 := Zvn h0
     rw [if_pos h0] at hrj
     have hm := List.getElem_mem j1
     have hbd := (Znu _ (l1.sub hm)).1 n' h0 (by omega)
     exact Zbe (ihx.2 _ hm n' h0 (by omega)) ⟨_, rfl, rfl, tle (by omega), tle (by omega), ⟨j + 1, rfl, j1, ⟨hbd.1, by omega⟩, hrj⟩, dec j1⟩
    ·rw [if_neg (by have := Zvo h0; omega)] at hrj
     exact ⟨tle (by omega), tle (by omega), ⟨j + 1, rfl, j1, hn', hrj⟩, dec j1⟩
   ·have j1 : a.subs.length <= j := by have := Zca hcj; omega
    rw [Zap j1, Zct] at hrj
    refine Zbe (ihx.1 n' hn'.1 hn'.2) ⟨_, rfl, rfl, tle (by omega), tle (by omega), ⟨i + 1, rfl, k1, ?_, ?_⟩, dec k1⟩
    ·have := Zi2 a.decls (fun y hy => (Znu y (l1.dec hy)).2) n' hn'.1 hn'.2
     omega
    ·rw [<- hr, Zpd, <- hrj]
 ·have k1 : l.length <= i := by have := Zca hc; simp at this; omega
  rw [Zap k1] at hr
  exact ⟨by rw [<- hr]; rfl, rfl⟩
theorem Zzn : ∀ (r : Nd), All Big r -> H57 r /\ H42 r.decls /\ ∀ e ∈ r.subs, H57 e := by
 refine Zo9 fun r hs hd hb => ?_
 have ihs : ∀ e ∈ r.subs, H57 e := fun x hx => (hs x hx (hb.sub hx)).1
 have ihd : H42 r.decls := c42 r.decls hb.here.1.2.1 (fun x hx => hb.dec hx) fun x hx => (hd x hx (hb.dec hx)).2
 refine ⟨fun m m0 m1 => ?_, ihd, ihs⟩
 have b1 := hb.here
 have q1 := Zbw [r.text, r.n0, r.n1]
 have q3 := Zbw r.tail
 have o1 := Zs5 b1
 have L := b1.1
 refine w57 (encE r) m ?_
 simp only [Zed, e0, e1, e2, e3, e4, e5, e6, e7, e8, isK_int, isK_str, isK_slc, Zdm, Zeh, Zch, Bool.or_true, true_and, Zco, Zdl, Zg2]
 refine ⟨teq rfl, tle (by omega), tle (by omega), tle (by omega), tle (by omega), Zcc [r.text, r.n0, r.n1], fun _ => c41 [r.text, r.n0, r.n1] (by simp) (fun s hs => b1.2.1 s (by simp only [List.mem_cons, List.not_mem_nil, or_false] at hs ⊢; rcases hs with h | h | h <;> simp [h])), ?_⟩
 rw [(tdv q1).1]
 refine ⟨tle (by omega), tle (by omega), tle (by omega), tle (by omega), Zcc r.tail, fun _ => c41 r.tail L.2.2.1 b1.2.2.1, ?_⟩
 rw [(tdv q3).1]
 have eo : m - 1 - (r.tail.length : Int) - Zcc [r.text, r.n0, r.n1] / 20 - Zcc r.tail / 20 = m - ownE r := by unfold ownE; omega
 rw [eo]
 refine ⟨tle (by omega), tle (by omega), tle (by omega), tle (by omega), fun n' x => ∃ j : Nat, x = j /\ j <= r.subs.length /\ (- 2 ^ 52 <= n' /\ n' <= 1000) /\ Zct (r.subs.drop j) n' = Zct r.subs (m - ownE r), fun _ x => r.subs.length - x.toNat, ⟨0, rfl, Nat.zero_le _, ⟨by omega, by omega⟩, rfl⟩, ?_, trivial⟩
 rintro n' x ⟨j, rfl, hj, hn', hrj⟩
 refine ⟨fun hcj => ?_, fun hcj => ?_⟩
 ·have j1 : j < r.subs.length := by have := Zb9 hcj; omega
  rw [Zak j1, Zct] at hrj
  rw [Zmh rfl j1]
  refine ⟨tle (by omega), teq (by simp), fun h0 => ?_, fun h0 => ?_⟩
  ·have h0 := Zvn h0
   rw [if_pos h0] at hrj
   have hm := List.getElem_mem j1
   have hbd := (Znu _ (hb.sub hm)).1 n' h0 (by omega)
   exact Zbe (ihs _ hm n' h0 (by omega)) ⟨_, rfl, rfl, tle (by omega), tle (by omega), ⟨j + 1, rfl, j1, ⟨hbd.1, by omega⟩, hrj⟩, dec j1⟩
  ·rw [if_neg (by have := Zvo h0; omega)] at hrj
   exact ⟨tle (by omega), tle (by omega), ⟨j + 1, rfl, j1, hn', hrj⟩, dec j1⟩
 ·have j1 : r.subs.length <= j := by have := Zca hcj; omega
  rw [Zap j1, Zct] at hrj
  exact Zbe (ihd n' hn'.1 hn'.2) ⟨_, rfl, rfl, by rw [Zpc, <- hrj], rfl⟩
def smE (r : Nd) : Bool := decide (0 <= Znt r 100)
theorem c16 (r : Nd) (h : All Big r) : Holds Tryz.prog 16 [.agg (encE r)] [] (Ret (Za9 (smE r))) :=
 w16 _ ⟨teq (by simp), Zbe ((Zzn r h).1 100 (by omega) (by omega)) ⟨_, rfl, rfl, by simp [smE], rfl⟩⟩
def BigI (i : Im) : Prop := i.name.length <= 2 ^ 50 /\ i.path.length <= 2 ^ 50
def BigF (f : Fl) : Prop := (f.imps.length <= 2 ^ 50 /\ f.decls.length <= 2 ^ 50 /\ f.tail.length <= 2 ^ 50) /\ f.pkg.length <= 2 ^ 50 /\ (∀ s ∈ f.tail, s.length <= 2 ^ 50) /\ (∀ i ∈ f.imps, BigI i) /\ ∀ x ∈ f.decls, All Big x
def smI (i : Im) : Bool := decide ((i.name.length : Int) + i.path.length <= 200)
def smF (f : Fl) : Bool := decide (f.imps.length <= 5 /\ f.tail.length <= 20 /\ Zcc [f.pkg] + Zcc f.tail <= 1000) && (f.imps.all smI && decide (0 <= Zd2 f.decls 150))
theorem c12 (f : Fl) (h : BigF f) : Holds Tryz.prog 12 [.agg (Zgo f)] [] (Ret (Za9 (smF f))) := by
 have no : ∀ b, smF f = b -> Ret (Za9 (smF f)) (.ret (Za9 b)) [] := fun b h => ⟨by rw [h], rfl⟩
 have q1 := Zbw [f.pkg]
 have q2 := Zbw f.tail
 obtain ⟨⟨L1, L2, L3⟩, P, T, I, D⟩ := h
 unfold smF at no ⊢
 refine w12 _ ?_
 simp only [Ze1, f0, f1, f2, f3, isK_str, isK_slc, Zeh, Zch, Bool.or_true, true_and, Ze2, Zdl, Zg2]
 refine ⟨teq rfl, fun h => ?_, fun h => no _ ?_⟩
 ·have h := nb1 h
  simp only [Bool.or_eq_false_iff] at h
  have g1 := Zca h.1
  have g2 := Zca h.2
  refine ⟨Zcc [f.pkg], fun _ => c41 [f.pkg] (by simp) (by simpa using P), Zbe (c41 f.tail L3 T) ⟨_, rfl, rfl, tle (by omega), tle (by omega), fun h3 => no _ ?_, fun h3 => ?_⟩⟩
  ·have := Zb9 h3
   rw [show decide (f.imps.length <= 5 /\ f.tail.length <= 20 /\ Zcc [f.pkg] + Zcc f.tail <= 1000) = false from decide_eq_false (by omega)]; rfl
  ·have g3 := Zca h3
   rw [show decide (f.imps.length <= 5 /\ f.tail.length <= 20 /\ Zcc [f.pkg] + Zcc f.tail <= 1000) = true from decide_eq_true (by omega), Bool.true_and] at no ⊢
   refine ⟨fun x => ∃ j : Nat, x = j /\ j <= f.imps.length /\ (f.imps.drop j).all smI = f.imps.all smI, fun x => f.imps.length - x.toNat, ⟨0, rfl, Nat.zero_le _, rfl⟩, ?_, trivial⟩
   rintro x ⟨j, rfl, hj, hr⟩
   refine ⟨fun hc => ?_, fun hc => ?_⟩
   ·have k1 : j < f.imps.length := by have := Zb9 hc; omega
    have hI := I _ (List.getElem_mem k1)
    have g := Zs3 (x := (j : Int)) rfl k1
    rw [Zak k1, List.all_cons] at hr
    obtain ⟨I1, I2⟩ := hI
    simp only [g, Zfr, i0, i1, i2, isK_int, isK_str, Zeh, Zdm, true_and]
    refine ⟨tle (by omega), teq rfl, tle (by omega), tle (by omega), fun hn => no _ ?_, fun hn => ⟨tle (by omega), tle (by omega), ⟨j + 1, rfl, k1, ?_⟩, dec k1⟩⟩
    ·have := Zb9 hn
     rw [<- hr, show smI f.imps[j] = false from decide_eq_false (by omega)]; rfl
    ·have := Zca hn
     rw [<- hr, show smI f.imps[j] = true from decide_eq_true (by omega)]; rfl
   ·have k1 : f.imps.length <= j := by have := Zca hc; omega
    rw [Zap k1] at hr
    have := c42 f.decls L2 D (fun x hx => (Zzn x (D x hx)).2) 150 (by omega) (by omega)
    exact Zbe this ⟨_, rfl, rfl, by rw [<- hr]; simp, rfl⟩
 ·have h := nb0 h
  simp only [Bool.or_eq_true] at h
  rw [show decide (f.imps.length <= 5 /\ f.tail.length <= 20 /\ Zcc [f.pkg] + Zcc f.tail <= 1000) = false from decide_eq_false (by
   rcases h with h | h
   ·have := Zb9 h; omega
   ·have := Zb9 h; omega)]; rfl
mutual
def wE : Nd -> Int
 | .mk k n t a b tr le ta p s d => ownE (.mk k n t a b tr le ta p s d) + wEs s + wDs d
def wEs : List Nd -> Int
 | [] => 0
 | x :: l => wE x + wEs l
def wD : Nd -> Int
 | .mk k n t a b tr le ta p s d => ownD (.mk k n t a b tr le ta p s d) + wEs s + wDs d
def wDs : List Nd -> Int
 | [] => 0
 | x :: l => wD x + wDs l
end
mutual
def wfE : Nd -> Prop
 | .mk _ _ _ _ _ tr le _ _ s d => (tr = [] /\ le = []) /\ wfEs s /\ wfDs d
def wfEs : List Nd -> Prop
 | [] => True
 | x :: l => wfE x /\ wfEs l
def wfD : Nd -> Prop
 | .mk _ _ _ _ _ _ _ _ _ s d => wfEs s /\ wfDs d
def wfDs : List Nd -> Prop
 | [] => True
 | x :: l => wfD x /\ wfDs l
end
theorem Zpe : ∀ (l : List Nd), wfEs l ↔ ∀ x ∈ l, wfE x
 | [] => by simp [wfEs]
 | x :: l => by rw [wfEs, Zpe l]; simp
theorem Zpf : ∀ (l : List Nd), wfDs l ↔ ∀ x ∈ l, wfD x
 | [] => by simp [wfDs]
 | x :: l => by rw [wfDs, Zpf l]; simp
def wfF (f : Fl) : Prop := wfDs f.decls
end Go.Sy
end
section
open Go Go.Proofs Go.Ab Go.Rf Go.ChangeShapes Go.WideShapes
set_option maxRecDepth 100000
set_option linter.unusedSimpArgs false
namespace Go.Sy
def prW (w : World) : Nat -> Nat -> Prop := fun b _ => b < w.heap.size
def ghW (w : World) : Gh := ⟨prW w, fun _ => 0, fun _ => 0, fun _ => False⟩
theorem Zxn {w : World} {a : Addr} {v : Value} (h : w.cell? a = some v) : a.block < w.heap.size := by
 unfold World.cell? at h
 by_cases hb : a.block < w.heap.size
 ·exact hb
 ·simp [Array.getElem?_eq_none (by omega : w.heap.size <= a.block)] at h
theorem Zs7 {w : World} {a : Addr} {n : Nat} {cs : List Value} (h : w.cells? 0 a n = some cs) : cs.length = n /\ ∀ i, i < n -> w.cell? (a.add i) = cs[i]? := by
 unfold World.cells? at h
 rw [if_pos (Nat.zero_le _)] at h
 have hl := mapM_some_length h
 simp only [List.length_range] at hl
 refine ⟨hl, fun i hi => mapM_some_get h i i (by simp [hi])⟩
theorem Zs8 {α β : Type} {R : α -> β -> Prop} : ∀ {l : List α} {m : List β}, All2 R l m -> ∀ (i : Nat) (h : i < l.length), ∃ b, m[i]? = some b /\ R l[i] b
 | a :: l, b :: m, ⟨h1, _⟩, 0, _ => ⟨b, rfl, h1⟩
 | a :: l, b :: m, ⟨_, h2⟩, i + 1, h => by
   obtain ⟨c, h3, h4⟩ := Zs8 h2 i (by simpa using h)
   exact ⟨c, by simpa using h3, by simpa using h4⟩
 | [], _, _, i, h => by simp at h
theorem Zku {α β : Type} {R : α -> β -> Prop} : ∀ {l : List α} {m : List β}, All2 R l m -> l.length = m.length
 | [], [], _ => rfl
 | _ :: _, _ :: _, ⟨_, h⟩ => by simp [Zku h]
 | [], _ :: _, h => h.elim
 | _ :: _, [], h => h.elim
section
variable {H : Type} {en : TypeId × Value -> H} {w : World}
theorem Zzo {α : Type} {E : α -> List D} {n : Nat} (hn : 0 < n) (hE : ∀ a, (E a).length = n) {b off cap : Nat} (l : List α) (hc : l.length <= cap) (V : Nat -> List Value)
 (h : ∀ i (hi : i < l.length), All2 (RepD w (prW w)) (E l[i]) (V i) /\ ∀ j, j < n -> w.cell? ⟨b, off + (i * n + j), none⟩ = (V i)[j]?) :
 RepD w (prW w) (.slc (l.map E)) (.slice (some ⟨b, off, none⟩) l.length cap) := by
 have hk : ∀ k, k < l.length * n -> w.cell? ⟨b, off + k, none⟩ = some ((V (k / n)).getD (k % n) .nilIface) := by
  intro k hk
  have hi : k / n < l.length := Nat.div_lt_of_lt_mul (by rw [Nat.mul_comm]; exact hk)
  obtain ⟨h1, h3⟩ := h _ hi
  have hl := Zku h1
  rw [hE] at hl
  have := h3 (k % n) (Nat.mod_lt _ hn)
  rw [show k / n * n + k % n = k by rw [Nat.mul_comm]; exact Nat.div_add_mod k n] at this
  rw [this, List.getElem?_eq_getElem (by rw [<- hl]; exact Nat.mod_lt _ hn)]
  simp [List.getD, List.getElem?_eq_getElem (show k % n < (V (k / n)).length by rw [<- hl]; exact Nat.mod_lt _ hn)]
 have hlen : (l.map E).length = l.length := by simp
 rw [<- hlen]
 refine .slc (l.map E) n b off cap _ hn ?_ (by rw [hlen]; exact hc) (fun k hk' => hk k (by rw [hlen] at hk'; exact hk')) (fun k hk' => Zxn (hk k (by rw [hlen] at hk'; exact hk'))) ?_
 ·intro e he
  obtain ⟨a, _, rfl⟩ := List.mem_map.1 he
  exact hE a
 ·intro i j hi hj
  have hi' : i < l.length := by rw [hlen] at hi; exact hi
  have e : (l.map E)[i] = E l[i] := by simp
  have hj' : j < n := by rw [e, hE] at hj; exact hj
  obtain ⟨h1, _⟩ := h i hi'
  obtain ⟨v, hv, hr⟩ := Zs8 h1 j (by rw [hE]; exact hj')
  have e1 : (i * n + j) / n = i := by rw [Nat.mul_comm, Nat.mul_add_div hn, Nat.div_eq_of_lt hj', Nat.add_zero]
  have e2 : (i * n + j) % n = j := by rw [Nat.mul_comm, Nat.mul_add_mod, Nat.mod_eq_of_lt hj']
  rw [e1, e2]
  simp only [e]
  simpa [List.getD, hv] using hr
def Fit (t : TypeId) (x : DataW H × List MemPlace) : Prop := ∀ k ∈ x.1.weights Tryz.prog t, k <= reachBytes
theorem Zdq {P : Program} {e : TypeId} {k : Nat} : ∀ {l : List (DataW H)} {d : DataW H}, d ∈ l -> k ∈ d.weights P e -> k ∈ DataW.weightsAll P e l
 | a :: l, d, h, hk => by
   unfold DataW.weightsAll
   rcases List.mem_cons.1 h with rfl | h
   ·exact List.mem_append_left _ hk
   ·exact List.mem_append_right _ (Zdq h hk)
theorem Ze8 {α : Type} {E : α -> List D} {Good : α -> Prop} {n : Nat} {t e : TypeId} (ht : Tryz.prog.underlying t = some (.slice e)) (hc : Tryz.prog.cellsOf e = n) (hn : 0 < n) (hby : 1 <= Tryz.prog.bytesOf e) (hE : ∀ a, (E a).length = n) {fuel : Nat}
 (ih : ∀ q < fuel, ∀ (cs : List Value) (x : DataW H × List MemPlace), DataW.trod en Tryz.prog w 0 (fun _ => true) true q e cs = some x -> Fit e x -> ∃ a : α, All2 (RepD w (prW w)) (E a) cs /\ Good a)
 {v : Value} {x : DataW H × List MemPlace} (h : DataW.trod en Tryz.prog w 0 (fun _ => true) true fuel t [v] = some x) (hz : Fit t x) :
 ∃ l : List α, RepD w (prW w) (.slc (l.map E)) v /\ l.length <= 2 ^ 50 /\ ∀ a ∈ l, Good a := by
 rcases DataW.trod_slice ht h with ⟨e1, _⟩ | ⟨ad, len, cap, elems, rest, q, hq, e1, hx, _, hlc, _, hel, hes, _⟩
 ·have e1 : v = .slice none 0 0 := by simpa using e1
  exact ⟨[], by rw [e1]; exact .emp _ _, by simp, fun _ h => by cases h⟩
 ·have e1 : v = .slice (some ad) len cap := by simpa using e1
  rw [hc] at hes
  subst hx
  have hW : (elems.map (·.1)).length * Tryz.prog.bytesOf e <= reachBytes /\ ∀ y ∈ elems, Fit e y := by
   unfold Fit at hz
   simp only [DataW.weights, ht, List.mem_cons, List.mem_append] at hz
   refine ⟨Nat.le_trans (Nat.mul_le_mul_right _ (Nat.le_add_right _ _)) (hz _ (.inl rfl)), fun y hy k hk => hz k (.inr (.inl (Zdq (List.mem_map.2 ⟨y, hy, rfl⟩) hk)))⟩
  have hlen : len <= 2 ^ 50 := by
   have h1 := hW.1
   rw [List.length_map, hel] at h1
   have h2 : len * 1 <= len * Tryz.prog.bytesOf e := Nat.mul_le_mul_left _ hby
   have h3 : reachBytes <= 2 ^ 50 := by decide
   omega
  have hall : ∀ i, i < len -> ∃ (r : α) (V : List Value), All2 (RepD w (prW w)) (E r) V /\ Good r /\ ∀ j, j < n -> w.cell? ((ad.add (i * n)).add j) = V[j]? := by
   intro i hi
   have h3 := hes i hi
   have hi' : i < elems.length := by omega
   rw [List.getElem?_eq_getElem hi'] at h3
   obtain ⟨cs', h4, h5⟩ := Option.bind_eq_some_iff.1 h3
   obtain ⟨r, h7, h8⟩ := ih q (by omega) _ _ h5 (hW.2 _ (List.getElem_mem hi'))
   exact ⟨r, cs', h7, h8, (Zs7 h4).2⟩
  by_cases h0 : len = 0
  ·subst h0; exact ⟨[], by rw [e1]; exact .emp _ _, by simp, fun _ h => by cases h⟩
  ·have hall' : ∃ (f : Nat -> α) (V : Nat -> List Value), ∀ i, i < len -> All2 (RepD w (prW w)) (E (f i)) (V i) /\ Good (f i) /\ ∀ j, j < n -> w.cell? ((ad.add (i * n)).add j) = (V i)[j]? := by
    classical
    obtain ⟨a0, _⟩ := hall 0 (by omega)
    refine ⟨fun i => if h : i < len then (hall i h).choose else a0, fun i => if h : i < len then (hall i h).choose_spec.choose else [], fun i hi => ?_⟩
    simp only [hi, dif_pos]
    exact (hall i hi).choose_spec.choose_spec
   obtain ⟨f, V, hfV⟩ := hall'
   subst e1
   refine ⟨(List.range len).map f, ?_, by simpa using hlen, fun r hr => ?_⟩
   ·have sp : ad.spot = none := by
     have h1 := (hfV 0 (by omega)).2.2 0 hn
     have hl := Zku (hfV 0 (by omega)).1
     rw [hE] at hl
     rw [List.getElem?_eq_getElem (by omega)] at h1
     simpa [Addr.add] using World.cell?_spot h1
    obtain ⟨bb, off, spot⟩ := ad
    subst sp
    have := Zzo (w := w) hn hE (b := bb) (off := off) (cap := cap) ((List.range len).map f) (by simpa using hlc) V (fun i hi => by
     have hi' : i < len := by simpa using hi
     obtain ⟨k2, _, k4⟩ := hfV i hi'
     refine ⟨by simpa using k2, fun j hj => ?_⟩
     rw [<- k4 j hj, <- Go.WideShapes.add_plain, Go.Deep.add_add])
    simpa using this
   ·obtain ⟨i, hi, rfl⟩ := List.mem_map.1 hr
    exact (hfV i (List.mem_range.1 hi)).2.1
theorem Zcz {t : TypeId} (ht : Tryz.prog.underlying t = some .string) {fuel : Nat} {cs : List Value} {x : DataW H × List MemPlace} (h : DataW.trod en Tryz.prog w 0 (fun _ => true) true fuel t cs = some x) (hz : Fit t x) :
 ∃ s : Tx, cs = [Zav s] /\ s.length <= 2 ^ 50 := by
 obtain ⟨s, h1, h2, _⟩ := DataW.trod_string ht h
 refine ⟨s.data.toList, by rw [h1]; simp [Zav], ?_⟩
 subst h2
 have := hz s.data.toList.length (by simp [DataW.weights])
 have h3 : reachBytes <= 2 ^ 50 := by decide
 omega
theorem Zdf {P : Program} {k : Nat} : ∀ {ts : List TypeId} {l : List (DataW H)} {i : Nat} {t : TypeId} {d : DataW H}, ts[i]? = some t -> l[i]? = some d -> k ∈ d.weights P t -> k ∈ DataW.weightsEach P ts l
 | t :: ts, a :: l, 0, _, _, h1, h2, hk => by
   unfold DataW.weightsEach
   cases h1; cases h2
   exact List.mem_append_left _ hk
 | t :: ts, a :: l, i + 1, _, _, h1, h2, hk => by
   unfold DataW.weightsEach
   exact List.mem_append_right _ (Zdf (by simpa using h1) (by simpa using h2) hk)
 | [], _, _, _, _, h1, _, _ => by simp at h1
 | _ :: _, [], _, _, _, _, h2, _ => by simp at h2
theorem Zef {t : TypeId} {fs : Array Field} (ht : Tryz.prog.underlying t = some (.struct fs)) {fuel : Nat} {cs : List Value} {x : DataW H × List MemPlace} (h : DataW.trod en Tryz.prog w 0 (fun _ => true) true fuel t cs = some x) (hz : Fit t x) :
 cs.length = Tryz.prog.cellsOf t /\ ∃ n < fuel, ∀ (i : Nat) (ty : TypeId) (off : Nat), (fs[i]?).map (fun f => (f.type, f.offset)) = some (ty, off) -> ∃ y, DataW.trod en Tryz.prog w 0 (fun _ => true) true n ty ((cs.drop off).take (Tryz.prog.cellsOf ty)) = some y /\ Fit ty y := by
 obtain ⟨xs, n, rfl, rfl, hl, hxs, hf⟩ := DataW.trod_struct ht h
 refine ⟨hl, n, Nat.lt_succ_self n, fun i ty off hm => ?_⟩
 obtain ⟨f, hi, he⟩ := Option.map_eq_some_iff.1 hm
 cases he
 have hi' : i < xs.length := by
  rw [hxs]
  exact (Array.getElem?_eq_some_iff.1 hi).1
 refine ⟨xs[i], by rw [hf i f hi, List.getElem?_eq_getElem hi'], fun k hk => hz k ?_⟩
 unfold DataW.weights
 rw [ht]
 refine Zdf (i := i) (t := f.type) (d := xs[i].1) ?_ ?_ hk
 ·rw [List.getElem?_map, Array.getElem?_toList, hi]; rfl
 ·rw [List.getElem?_map, List.getElem?_eq_getElem hi']; rfl
theorem Zju {t e : TypeId} {n : Nat} (ht : Tryz.prog.underlying t = some (.array n e)) {fuel : Nat} {cs : List Value} {x : DataW H × List MemPlace} (h : DataW.trod en Tryz.prog w 0 (fun _ => true) true fuel t cs = some x) (hz : Fit t x) :
 cs.length = Tryz.prog.cellsOf t /\ ∃ m < fuel, ∀ i < n, ∃ y, DataW.trod en Tryz.prog w 0 (fun _ => true) true m e ((cs.drop (i * Tryz.prog.cellsOf e)).take (Tryz.prog.cellsOf e)) = some y /\ Fit e y := by
 obtain ⟨xs, m, rfl, rfl, hl, hxs, hf⟩ := DataW.trod_array ht h
 refine ⟨hl, m, Nat.lt_succ_self m, fun i hi => ?_⟩
 have hi' : i < xs.length := by omega
 refine ⟨xs[i], by rw [hf i hi, List.getElem?_eq_getElem hi'], fun k hk => hz k ?_⟩
 unfold DataW.weights
 rw [ht]
 exact Zdq (List.mem_map.2 ⟨xs[i], List.getElem_mem hi', rfl⟩) hk
theorem Zs9 : Tryz.prog.cellsOf 3 = 1 := by kernel_rfl
theorem Zjv : Tryz.prog.cellsOf 9 = 1 := by kernel_rfl
theorem Zvr : Tryz.prog.cellsOf 2 = 1 := by kernel_rfl
theorem Zta : Tryz.prog.cellsOf 31 = 2 := by kernel_rfl
theorem Ztb : Tryz.prog.cellsOf 32 = 1 := by kernel_rfl
theorem Zxo : Tryz.prog.cellsOf 22 = 1 := by kernel_rfl
theorem Znv : Tryz.prog.cellsOf 23 = 1 := by kernel_rfl
theorem Znw : Tryz.prog.cellsOf 24 = 1 := by kernel_rfl
theorem Znx : Tryz.prog.cellsOf 34 = 9 := by kernel_rfl
theorem Ztc : Tryz.prog.cellsOf 52 = 11 := by kernel_rfl
theorem Ztd : Tryz.prog.cellsOf 57 = 3 := by kernel_rfl
theorem Zxp : Tryz.prog.cellsOf 26 = 4 := by kernel_rfl
theorem Zxq : Tryz.prog.cellsOf 37 = 18 := by kernel_rfl
theorem by9 : 1 <= Tryz.prog.bytesOf 9 := of_decide_eq_true (by kernel_rfl)
theorem by34 : 1 <= Tryz.prog.bytesOf 34 := of_decide_eq_true (by kernel_rfl)
theorem by52 : 1 <= Tryz.prog.bytesOf 52 := of_decide_eq_true (by kernel_rfl)
theorem by57 : 1 <= Tryz.prog.bytesOf 57 := of_decide_eq_true (by kernel_rfl)
theorem Zhn {fuel : Nat} {v : Value} {x : DataW H × List MemPlace} (h : DataW.trod en Tryz.prog w 0 (fun _ => true) true fuel 24 [v] = some x) (hz : Fit 24 x) :
 ∃ l : List Tx, RepD w (prW w) (.slc (txs l)) v /\ l.length <= 2 ^ 50 /\ ∀ s ∈ l, s.length <= 2 ^ 50 :=
 Ze8 (E := fun s => [dS s]) Tryz.underlying24 Zjv (by decide) by9 (fun _ => rfl) (fun q _ cs y hy hf => by
  obtain ⟨s, rfl, hs⟩ := Zcz Tryz.underlying9 hy hf
  exact ⟨s, ⟨.lit _ rfl, trivial⟩, hs⟩) h hz
theorem Zjw {fuel : Nat} {a b : Value} {x : DataW H × List MemPlace} (h : DataW.trod en Tryz.prog w 0 (fun _ => true) true fuel 31 [a, b] = some x) (hz : Fit 31 x) :
 ∃ s t : Tx, a = Zav s /\ b = Zav t /\ s.length <= 2 ^ 50 /\ t.length <= 2 ^ 50 := by
 obtain ⟨_, m, _, hf⟩ := Zju Tryz.underlying31 h hz
 rw [Zjv] at hf
 obtain ⟨y, h1, h2⟩ := hf 0 (by decide)
 obtain ⟨z, h3, h4⟩ := hf 1 (by decide)
 obtain ⟨s, e1, hs⟩ := Zcz Tryz.underlying9 h1 h2
 obtain ⟨t, e2, ht⟩ := Zcz Tryz.underlying9 h3 h4
 exact ⟨s, t, by simpa using e1, by simpa using e2, hs, ht⟩
abbrev Zxr (H : Type) (en : TypeId × Value -> H) (w : World) (fuel : Nat) : Prop := ∀ (cs : List Value) (x : DataW H × List MemPlace), DataW.trod en Tryz.prog w 0 (fun _ => true) true fuel 34 cs = some x -> Fit 34 x -> ∃ r : Nd, All2 (RepD w (prW w)) (encE r) cs /\ wfE r /\ All Big r
abbrev Zxs (H : Type) (en : TypeId × Value -> H) (w : World) (fuel : Nat) : Prop := ∀ (cs : List Value) (x : DataW H × List MemPlace), DataW.trod en Tryz.prog w 0 (fun _ => true) true fuel 52 cs = some x -> Fit 52 x -> ∃ r : Nd, All2 (RepD w (prW w)) (encD r) cs /\ wfD r /\ All Big r
theorem Zte {fuel : Nat} (ih : ∀ q < fuel, Zxr H en w q) {v : Value} {x : DataW H × List MemPlace} (h : DataW.trod en Tryz.prog w 0 (fun _ => true) true fuel 32 [v] = some x) (hz : Fit 32 x) :
 ∃ l : List Nd, RepD w (prW w) (.slc (Zej l)) v /\ l.length <= 2 ^ 50 /\ wfEs l /\ ∀ r ∈ l, All Big r := by
 obtain ⟨l, h1, h2, h3⟩ := Ze8 (E := encE) (Good := fun r => wfE r /\ All Big r) Tryz.underlying32 Znx (by decide) by34 Zed ih h hz
 exact ⟨l, by rw [Zgm]; exact h1, h2, (Zpe l).2 fun r hr => (h3 r hr).1, fun r hr => (h3 r hr).2⟩
theorem Zny {fuel : Nat} (ih : ∀ q < fuel, Zxs H en w q) {v : Value} {x : DataW H × List MemPlace} (h : DataW.trod en Tryz.prog w 0 (fun _ => true) true fuel 23 [v] = some x) (hz : Fit 23 x) :
 ∃ l : List Nd, RepD w (prW w) (.slc (Zbo l)) v /\ l.length <= 2 ^ 50 /\ wfDs l /\ ∀ r ∈ l, All Big r := by
 obtain ⟨l, h1, h2, h3⟩ := Ze8 (E := encD) (Good := fun r => wfD r /\ All Big r) Tryz.underlying23 Ztc (by decide) by52 Zee ih h hz
 exact ⟨l, by rw [Zgn]; exact h1, h2, (Zpf l).2 fun r hr => (h3 r hr).1, fun r hr => (h3 r hr).2⟩
theorem Znz (fuel : Nat) : Zxr H en w fuel /\ Zxs H en w fuel := by
 induction fuel using Nat.strongRecOn with
 | ind fuel ih =>
   have ihE : ∀ q < fuel, Zxr H en w q := fun q hq => (ih q hq).1
   have ihD : ∀ q < fuel, Zxs H en w q := fun q hq => (ih q hq).2
   refine ⟨fun cs x h hz => ?_, fun cs x h hz => ?_⟩
   ·obtain ⟨hl, n, hn, hf⟩ := Zef Tryz.underlying34 h hz
    rw [Znx] at hl
    match cs, hl with
    | [v0, v1, v2, v3, v4, v5, v6, v7, v8], _ =>
      obtain ⟨y0, a0, b0⟩ := hf 0 3 0 rfl
      obtain ⟨y1, a1, b1⟩ := hf 1 9 1 rfl
      obtain ⟨y2, a2, b2⟩ := hf 2 2 2 rfl
      obtain ⟨y3, a3, b3⟩ := hf 3 31 3 rfl
      obtain ⟨y4, a4, b4⟩ := hf 4 32 5 rfl
      obtain ⟨y5, a5, b5⟩ := hf 5 23 6 rfl
      obtain ⟨y6, a6, b6⟩ := hf 6 24 7 rfl
      obtain ⟨y7, a7, b7⟩ := hf 7 3 8 rfl
      simp only [Zs9, Zjv, Zvr, Zta, Ztb, Znv, Znw] at a0 a1 a2 a3 a4 a5 a6 a7
      obtain ⟨k, e0, _⟩ := DataW.trod_int Tryz.underlying3 a0
      obtain ⟨t, e1, g1⟩ := Zcz Tryz.underlying9 a1 b1
      obtain ⟨m, e2, _⟩ := DataW.trod_int Tryz.underlying2 a2
      obtain ⟨p, q, e3, e4, g3, g4⟩ := Zjw a3 b3
      obtain ⟨s, e5, l5, f5, g5⟩ := Zte (fun q hq => ihE q (by omega)) a4 b4
      obtain ⟨d, e6, l6, f6, g6⟩ := Zny (fun q hq => ihD q (by omega)) a5 b5
      obtain ⟨c, e7, l7, g7⟩ := Zhn a6 b6
      obtain ⟨o, e8, _⟩ := DataW.trod_int Tryz.underlying3 a7
      have u0 : v0 = _ := (List.cons.inj (show [v0] = _ from e0)).1
      have u1 : v1 = _ := (List.cons.inj (show [v1] = _ from e1)).1
      have u2 : v2 = _ := (List.cons.inj (show [v2] = _ from e2)).1
      have u8 : v8 = _ := (List.cons.inj (show [v8] = _ from e8)).1
      subst u0 u1 u2 e3 e4 u8
      refine ⟨.mk k m t p q [] [] c o s d, ?_, ?_, .mk ⟨⟨l5, l6, l7, by simp [Nd.lead]⟩, ?_, g7, by simp [Nd.lead]⟩ g5 g6⟩
      ·rw [encE]
       exact ⟨.lit _ rfl, .lit _ rfl, .lit _ rfl, .lit _ rfl, .lit _ rfl, e5, e6, e7, .lit _ rfl, trivial⟩
      ·rw [wfE]; exact ⟨⟨rfl, rfl⟩, f5, f6⟩
      ·intro z hz
       simp only [Nd.text, Nd.n0, Nd.n1, Nd.trail, List.mem_cons, List.not_mem_nil, or_false] at hz
       rcases hz with rfl | rfl | rfl | rfl
       ·exact g1
       ·exact g3
       ·exact g4
       ·simp
   ·obtain ⟨hl, n, hn, hf⟩ := Zef Tryz.underlying52 h hz
    rw [Ztc] at hl
    match cs, hl with
    | [v0, v1, v2, v3, v4, v5, v6, v7, v8, v9, v10], _ =>
      obtain ⟨y0, a0, b0⟩ := hf 0 3 0 rfl
      obtain ⟨y1, a1, b1⟩ := hf 1 3 1 rfl
      obtain ⟨y2, a2, b2⟩ := hf 2 9 2 rfl
      obtain ⟨y3, a3, b3⟩ := hf 3 31 3 rfl
      obtain ⟨y4, a4, b4⟩ := hf 4 32 5 rfl
      obtain ⟨y5, a5, b5⟩ := hf 5 23 6 rfl
      obtain ⟨y6, a6, b6⟩ := hf 6 24 7 rfl
      obtain ⟨y7, a7, b7⟩ := hf 7 24 8 rfl
      obtain ⟨y8, a8, b8⟩ := hf 8 9 9 rfl
      obtain ⟨y9, a9, b9⟩ := hf 9 3 10 rfl
      simp only [Zs9, Zjv, Zvr, Zta, Ztb, Znv, Znw] at a0 a1 a2 a3 a4 a5 a6 a7 a8 a9
      obtain ⟨k, e0, _⟩ := DataW.trod_int Tryz.underlying3 a0
      obtain ⟨m, e1, _⟩ := DataW.trod_int Tryz.underlying3 a1
      obtain ⟨t, e2, g1⟩ := Zcz Tryz.underlying9 a2 b2
      obtain ⟨p, q, e3, e4, g3, g4⟩ := Zjw a3 b3
      obtain ⟨s, e5, l5, f5, g5⟩ := Zte (fun q hq => ihE q (by omega)) a4 b4
      obtain ⟨d, e6, l6, f6, g6⟩ := Zny (fun q hq => ihD q (by omega)) a5 b5
      obtain ⟨c, e7, l7, g7⟩ := Zhn a6 b6
      obtain ⟨le, e8, l8, g8⟩ := Zhn a7 b7
      obtain ⟨tr, e9, g9⟩ := Zcz Tryz.underlying9 a8 b8
      obtain ⟨o, e10, _⟩ := DataW.trod_int Tryz.underlying3 a9
      have u0 : v0 = _ := (List.cons.inj (show [v0] = _ from e0)).1
      have u1 : v1 = _ := (List.cons.inj (show [v1] = _ from e1)).1
      have u2 : v2 = _ := (List.cons.inj (show [v2] = _ from e2)).1
      have u9 : v9 = _ := (List.cons.inj (show [v9] = _ from e9)).1
      have u10 : v10 = _ := (List.cons.inj (show [v10] = _ from e10)).1
      subst u0 u1 u2 e3 e4 u9 u10
      refine ⟨.mk k m t p q tr le c o s d, ?_, ?_, .mk ⟨⟨l5, l6, l7, l8⟩, ?_, g7, g8⟩ g5 g6⟩
      ·rw [encD]
       exact ⟨.lit _ rfl, .lit _ rfl, .lit _ rfl, .lit _ rfl, .lit _ rfl, e5, e6, e7, e8, .lit _ rfl, .lit _ rfl, trivial⟩
      ·rw [wfD]; exact ⟨f5, f6⟩
      ·intro z hz
       simp only [Nd.text, Nd.n0, Nd.n1, Nd.trail, List.mem_cons, List.not_mem_nil, or_false] at hz
       rcases hz with rfl | rfl | rfl | rfl
       ·exact g1
       ·exact g3
       ·exact g4
       ·exact g9
theorem Zzp {fuel : Nat} {cs : List Value} {x : DataW H × List MemPlace} (h : DataW.trod en Tryz.prog w 0 (fun _ => true) true fuel 57 cs = some x) (hz : Fit 57 x) :
 ∃ i : Im, All2 (RepD w (prW w)) (encI i) cs /\ BigI i := by
 obtain ⟨hl, n, hn, hf⟩ := Zef Tryz.underlying57 h hz
 rw [Ztd] at hl
 match cs, hl with
 | [v0, v1, v2], _ =>
   obtain ⟨y0, a0, b0⟩ := hf 0 9 0 rfl
   obtain ⟨y1, a1, b1⟩ := hf 1 9 1 rfl
   obtain ⟨y2, a2, b2⟩ := hf 2 3 2 rfl
   simp only [Zs9, Zjv] at a0 a1 a2
   obtain ⟨t, e0, g0⟩ := Zcz Tryz.underlying9 a0 b0
   obtain ⟨p, e1, g1⟩ := Zcz Tryz.underlying9 a1 b1
   obtain ⟨k, e2, _⟩ := DataW.trod_int Tryz.underlying3 a2
   have u0 : v0 = _ := (List.cons.inj (show [v0] = _ from e0)).1
   have u1 : v1 = _ := (List.cons.inj (show [v1] = _ from e1)).1
   have u2 : v2 = _ := (List.cons.inj (show [v2] = _ from e2)).1
   subst u0 u1 u2
   exact ⟨⟨t, p, k⟩, ⟨.lit _ rfl, .lit _ rfl, .lit _ rfl, trivial⟩, g0, g1⟩
theorem Zzq {fuel : Nat} {cs : List Value} {x : DataW H × List MemPlace} (h : DataW.trod en Tryz.prog w 0 (fun _ => true) true fuel 26 cs = some x) (hz : Fit 26 x) :
 ∃ f : Fl, All2 (RepD w (prW w)) (Zgo f) cs /\ BigF f /\ wfF f := by
 obtain ⟨hl, n, hn, hf⟩ := Zef Tryz.underlying26 h hz
 rw [Zxp] at hl
 match cs, hl with
 | [v0, v1, v2, v3], _ =>
   obtain ⟨y0, a0, b0⟩ := hf 0 9 0 rfl
   obtain ⟨y1, a1, b1⟩ := hf 1 22 1 rfl
   obtain ⟨y2, a2, b2⟩ := hf 2 23 2 rfl
   obtain ⟨y3, a3, b3⟩ := hf 3 24 3 rfl
   simp only [Zjv, Zxo, Znv, Znw] at a0 a1 a2 a3
   obtain ⟨t, e0, g0⟩ := Zcz Tryz.underlying9 a0 b0
   obtain ⟨im, e1, l1, g1⟩ := Ze8 (E := encI) (Good := BigI) Tryz.underlying22 Ztd (by decide) by57 (fun _ => rfl) (fun q _ cs y hy hf => Zzp hy hf) a1 b1
   obtain ⟨d, e2, l2, f2, g2⟩ := Zny (fun q _ => (Znz q).2) a2 b2
   obtain ⟨c, e3, l3, g3⟩ := Zhn a3 b3
   have u0 : v0 = _ := (List.cons.inj (show [v0] = _ from e0)).1
   subst u0
   exact ⟨⟨t, im, d, c⟩, ⟨.lit _ rfl, e1, e2, e3, trivial⟩, ⟨⟨l1, l2, l3⟩, g0, g3, g1, g2⟩, f2⟩
theorem Zzr {fuel : Nat} {cs : List Value} {x : DataW H × List MemPlace} (h : DataW.trod en Tryz.prog w 0 (fun _ => true) true fuel 37 cs = some x) (hz : Fit 37 x) :
 ∃ a b : Nd, All2 (RepD w (prW w)) (encE a ++ encE b) cs /\ (wfE a /\ All Big a) /\ wfE b /\ All Big b := by
 obtain ⟨hl, m, _, hf⟩ := Zju Tryz.underlying37 h hz
 rw [Zxq] at hl
 rw [Znx] at hf
 obtain ⟨y, h1, h2⟩ := hf 0 (by decide)
 obtain ⟨z, h3, h4⟩ := hf 1 (by decide)
 obtain ⟨a, k1, k2⟩ := (Znz m).1 _ _ h1 h2
 obtain ⟨b, k3, k4⟩ := (Znz m).1 _ _ h3 h4
 refine ⟨a, b, ?_, k2, k4⟩
 match cs, hl with
 | [v0, v1, v2, v3, v4, v5, v6, v7, v8, u0, u1, u2, u3, u4, u5, u6, u7, u8], _ =>
   rw [Zby a] at k1 ⊢
   rw [Zby b] at k3 ⊢
   obtain ⟨a0, a1, a2, a3, a4, a5, a6, a7, a8, _⟩ := k1
   obtain ⟨b0, b1, b2, b3, b4, b5, b6, b7, b8, _⟩ := k3
   exact ⟨a0, a1, a2, a3, a4, a5, a6, a7, a8, b0, b1, b2, b3, b4, b5, b6, b7, b8, trivial⟩
end
end Go.Sy
end
section
open Go Go.Proofs Go.Ab Go.Rf Go.ChangeShapes Go.WideShapes Go.ChangeAt
set_option maxRecDepth 100000
namespace Go.Sy
theorem lay : laidOutB Tryz.prog = true := by kernel_rfl
theorem own : ownKnob Tryz.prog.godebug = none := by kernel_rfl
theorem Holds.out {P : Program} {f : FuncId} {args : List A} {v : A} (h : Holds P f args [] (Ret v)) {w : World} {cargs : Array Value}
 (ha : All2 (fun x v => ∀ p, RepA w (ghW w) (fun _ => 0) p x v) args cargs.toList) :
 CallsX P f cargs w fun e w' => ∃ cv g', e = .returned cv /\ RepA w' g' (fun _ => 0) .res v cv /\ RowKit.Below w.heap.size w w' := by
 have hh : HeapRel (Za7 P w (ghW w) [] 0) (Zbk []) (ghW w) w := by
  have no : ∀ {o b}, ¬ Owns (Zbk []) (ghW w) o b := fun ho => by
   cases ho with
   | box h => cases h
   | slot h => cases h
   | cell h _ _ => cases h
  exact ⟨fun r c h => (by cases h), fun o o' b h _ => (no h).elim, fun o b h => (no h).elim, fun b o h => h, fun _ _ h => h, fun _ _ h => .inl h, fun _ => rfl, fun _ h => h, Fr.refl _ _ _⟩
 refine (h w cargs (ghW w) ha hh).mono fun e w' ⟨out, H', g', hR, hH, hr, he⟩ => ?_
 obtain ⟨rfl, rfl⟩ := hR
 obtain ⟨cv, rfl, h1, _⟩ := he
 refine ⟨cv, g', rfl, h1, hr.fr.os, hr.fr.tape, hr.fr.output, hr.fr.size, fun b hb => hr.fr.same b hb ?_⟩
 rintro ⟨o, ho⟩
 cases ho with
 | box h => cases h
 | slot h => cases h
 | cell h _ _ => cases h
theorem Zn0 {P : Program} {f : FuncId} {fn : Func} {c : Code} (hf : P.funcs[f]? = some fn) (hb : fn.body = some c) (hn : (fn.name == "runtime.NumGoroutine") = false) {args : Array Value} {w : World} {R : Ending -> World -> Prop}
 (h : CallsX P f args w R) : Calls P f args w R := by
 unfold CallsX at h
 rw [Zg5 hf hb hn] at h
 exact h
section
variable {H : Type} {en : TypeId × Value -> H} {w : World} {base : Nat} {sp : Nat -> Bool}
theorem Zzs {v : Value} {d : DataW H} {p : List MemPlace} (hv : Value.okWide Tryz.prog w .any base 26 v) (h : DataW.Trod en Tryz.prog w 0 (fun _ => true) true 26 v d p) (hz : ∀ k ∈ d.weights Tryz.prog 26, k <= reachBytes) :
 ∃ f : Fl, (∀ q, RepA w (ghW w) (fun _ => 0) q (.agg (Zgo f)) v) /\ BigF f /\ wfF f := by
 obtain ⟨fuel, h⟩ := h
 simp only [Value.okWide, Tryz.underlying26] at hv
 obtain ⟨cs, rfl, _⟩ := hv
 obtain ⟨f, h2, h3⟩ := Zzq h hz
 exact ⟨f, fun q => ⟨cs.toList, by simp, h2⟩, h3⟩
theorem Z0k {v : Value} {d : DataW H} {p : List MemPlace} (hv : Value.okWide Tryz.prog w .any base 37 v) (h : DataW.Trod en Tryz.prog w 0 (fun _ => true) true 37 v d p) (hz : ∀ k ∈ d.weights Tryz.prog 37, k <= reachBytes) :
 ∃ a b : Nd, (∀ q, RepA w (ghW w) (fun _ => 0) q (.agg (encE a ++ encE b)) v) /\ All Big a /\ All Big b := by
 obtain ⟨fuel, h⟩ := h
 simp only [Value.okWide, Tryz.underlying37] at hv
 obtain ⟨cs, rfl, _⟩ := hv
 obtain ⟨a, b, h2, h3, h4⟩ := Zzr h hz
 exact ⟨a, b, fun q => ⟨cs.toList, by simp, h2⟩, h3.2, h4.2⟩
theorem Zmk (hl : laidOutB Tryz.prog = true) {W W' : World} : ∀ {ts : List TypeId} {vs : List Value} {ds : List (DataW H)} {ps : List MemPlace}, (∀ t ∈ ts, Tryz.prog.readableRec t = true /\ t < Tryz.prog.types.size) ->
 DataW.TrodAll en Tryz.prog W 0 (fun _ => true) true ts vs ds ps -> RowKit.Below W.heap.size W W' -> (∀ p ∈ ps, p.block < W.heap.size) -> (∀ p ∈ ps, sp p.block = true) -> DataW.TrodAll en Tryz.prog W' 0 sp true ts vs ds ps
 | [], _, _, _, _, h, _, _, _ => by
   obtain ⟨rfl, rfl, rfl⟩ := trodAll_nil h
   rfl
 | t :: ts, _, _, _, ht, h, hb, hlt, hs => by
   obtain ⟨v, vs1, d, ds1, a, b, rfl, rfl, rfl, h1, h2⟩ := trodAll_cons h
   refine ⟨a, b, ?_, Zmk hl (fun t h => ht t (List.mem_cons_of_mem _ h)) h2 hb (fun p hp => hlt p (List.mem_append_right _ hp)) (fun p hp => hs p (List.mem_append_right _ hp)), rfl⟩
   exact WideElems.Trod_stays hl (ht t (List.mem_cons_self ..)).1 (ht t (List.mem_cons_self ..)).2 h1 (fun p hp => hb.same (hlt p (List.mem_append_left _ hp))) (fun p hp => hs p (List.mem_append_left _ hp))
theorem Zu2 {fn : Func} {s : ChangeSpec} {W W' : World} {args : Array Value} {ds gs : List (DataW H)} {before : List MemPlace} (hvs : s.vars = [])
 (hW : DataW.Whole en Tryz.prog fn.params.toList s.vars false W args.toList ds gs before) (hres : fn.resultTypes = #[4])
 (hspec : s.fn H ds = ⟨[.lit (.bool true)], ds, []⟩) (hl : laidOutB Tryz.prog = true) (hrd0 : (fn.params.toList.all fun t => Tryz.prog.readableRec t && decide (t < Tryz.prog.types.size)) = true)
 (hb : RowKit.Below W.heap.size W W') : s.post en Tryz.prog fn false true false false W args (.bool true) W' := by
 have hlt := hW.lt
 have hrd : ∀ t ∈ fn.params.toList, Tryz.prog.readableRec t = true /\ t < Tryz.prog.types.size := fun t ht => by
  have := List.all_eq_true.1 hrd0 t ht
  simpa using this
 obtain ⟨p, q, hA, hV, rfl, hfz, hnd⟩ := id hW
 rw [hvs] at hV
 obtain ⟨rfl, rfl⟩ := trodVars_none hV
 have hold : ∀ x ∈ p ++ [], (fun b => decide (b < W.heap.size)) x.block = true := fun x hx => by simpa using hlt x hx
 have hr : ∀ (b : Nat) (sp : Nat -> Bool) (hd : Bool), DataW.TrodAll en Tryz.prog W' b sp hd fn.resultTypes.toList ((Value.bool true).resultList fn.resultTypes.size) (s.fn H (ds ++ [])).results [] := fun b sp hd => by
  rw [List.append_nil, hspec, hres]
  exact trodAll_cons_mk (RowKit.shut_bool Tryz.underlying4 _) trodAll_mk0
 have ha : ∀ sp : Nat -> Bool, (∀ x ∈ p ++ [], sp x.block = true) -> DataW.TrodAll en Tryz.prog W' 0 sp true fn.params.toList args.toList (s.fn H (ds ++ [])).args p := fun sp hs => by
  rw [List.append_nil, hspec]
  exact Zmk hl hrd hA hb (fun x hx => hlt x (by simpa using hx)) (fun x hx => hs x (by simpa using hx))
 have hv : ∀ sp : Nat -> Bool, DataW.TrodVars en Tryz.prog W' sp s.vars (s.fn H (ds ++ [])).vars [] := fun sp => by
  rw [List.append_nil, hspec, hvs]
  rfl
 refine ⟨ds, [], p ++ [], [], p, [], hW, hr _ _ _, ha _ hold, hv _, hb.frame _, fun _ => ⟨RowKit.ok_one hres rfl (RowKit.okWide_bool_mk Tryz.underlying4 _), _, _, ([] ++ p) ++ [], ⟨[] ++ p, [], trodAll_append (ha _ (fun _ _ => rfl)) (hr _ _ _), hv _, rfl, ?_, ?_⟩, ?_⟩⟩
 ·intro b off hx
  have hx' : MemPlace.cell b off ∈ p ++ [] := by simpa using hx
  rw [hb.frozen (hlt _ hx')]
  exact hfz b off hx'
 ·intro h; cases h
 ·intro x hx _
  simpa using hx
theorem Ztf {ts : List TypeId} {ds : List (DataW H)} (hz : (DataW.weightsEach Tryz.prog ts ds).all (· <= reachBytes) = true) {i : Nat} {t : TypeId} {d : DataW H} (h1 : ts[i]? = some t) (h2 : ds[i]? = some d) : ∀ k ∈ d.weights Tryz.prog t, k <= reachBytes := fun k hk => by
 have := List.all_eq_true.1 hz k (Zdf h1 h2 hk)
 simpa using this
end
def Zzt : Array Value := (Pinned.utf8FirstZ.map fun (n : Nat) => Value.int .u8 n).toArray
def Zxt : Array Value := ((([128, 191, 160, 191, 128, 159, 144, 191, 128, 143] : List Nat) ++ List.replicate 22 0).map fun (n : Nat) => Value.int .u8 n).toArray
def setC (v : Array Value) : Obj -> Obj
 | .cells _ t fr => .cells v t fr
 | o => o
noncomputable def Zi3 (os : Os) : World :=
 { World.holding Tryz.prog os ⟨#[], #[], []⟩ with heap := ((World.holding Tryz.prog os ⟨#[], #[], []⟩).heap.modify 1 (setC Zzt)).modify 2 (setC Zxt) }
def zF : Value := .agg #[.string ⟨#[]⟩, .slice none 0 0, .slice none 0 0, .slice none 0 0]
def zP : Value := .agg #[.int .i64 0, .string ⟨#[]⟩, .int .i64 0, .string ⟨#[]⟩, .string ⟨#[]⟩, .slice none 0 0, .slice none 0 0, .slice none 0 0, .int .i64 0, .int .i64 0, .string ⟨#[]⟩, .int .i64 0, .string ⟨#[]⟩, .string ⟨#[]⟩, .slice none 0 0, .slice none 0 0, .slice none 0 0, .int .i64 0]
def dE {H : Type} : DataW H := .agg [.lit (.int .i64 0), .lit (.string []), .lit (.int .i64 0), .agg [.lit (.string []), .lit (.string [])], .nil, .nil, .nil, .lit (.int .i64 0)]
def dF {H : Type} : DataW H := .agg [.lit (.string []), .nil, .nil, .nil]
def dP {H : Type} : DataW H := .agg [dE, dE]
end Go.Sy
end
section
open Go Go.Proofs Go.Ab Go.Rf
set_option linter.unusedSimpArgs false
set_option maxRecDepth 100000
namespace Go.Sy
theorem Zi4 {l m : List Nd} (h : eqEs l m = true) : l.length = m.length := by
 by_cases e : l.length = m.length
 ·exact e
 ·rw [Zkr e] at h; cases h
theorem Ztg {x y : Nd} (h : eqE x y = true) : (x.kind = y.kind /\ x.text = y.text /\ x.num = y.num /\ x.n0 = y.n0 /\ x.n1 = y.n1) /\ x.tail = y.tail /\ eqEs x.subs y.subs = true /\ eqDs x.decls y.decls = true := by
 rw [Zs1] at h
 simp only [Bool.and_eq_true, beq_iff_eq, decide_eq_true_eq] at h
 exact ⟨⟨h.1.1.1.1.1.1.1, h.1.1.1.1.1.1.2, h.1.1.1.1.1.2, h.1.1.1.1.2, h.1.1.1.2⟩, h.1.1.2, h.1.2, h.2⟩
theorem Zth {x y : Nd} (h : eqD x y = true) : (x.kind = y.kind /\ x.num = y.num /\ x.text = y.text /\ x.n0 = y.n0 /\ x.n1 = y.n1) /\ x.trail = y.trail /\ x.lead = y.lead /\ x.tail = y.tail /\ eqEs x.subs y.subs = true /\ eqDs x.decls y.decls = true := by
 rw [Zs2] at h
 simp only [Bool.and_eq_true, beq_iff_eq, decide_eq_true_eq] at h
 exact ⟨⟨h.1.1.1.1.1.1.1.1.1, h.1.1.1.1.1.1.1.1.2, h.1.1.1.1.1.1.1.2, h.1.1.1.1.1.1.2, h.1.1.1.1.1.2⟩, h.1.1.1.1.2, h.1.1.1.2, h.1.1.2, h.1.2, h.2⟩
theorem c66 (l m : List Nd) (hl : l.length <= 2 ^ 50) (hlm : ∀ x ∈ l, Lim x) (ih : ∀ x ∈ l, (∀ m, Holds Tryz.prog 66 [slA (Zbo x.decls), slA (Zbo m)] [] (Ret (Za9 (eqDs x.decls m)))) /\
 ∀ e ∈ x.subs, ∀ y, Holds Tryz.prog 22 [.agg (encE e), .agg (encE y)] [] (Ret (Za9 (eqE e y)))) :
 Holds Tryz.prog 66 [slA (Zbo l), slA (Zbo m)] [] (Ret (Za9 (eqDs l m))) := by
 refine w66 _ _ ⟨fun h => ?_, fun h => ?_⟩
 ·exact ⟨by rw [Zks (by simp at h; omega)], rfl⟩
 ·have hlen : l.length = m.length := by simp at h; omega
  refine ⟨fun x => ∃ i : Nat, x = i /\ i <= l.length /\ eqDs (l.drop i) (m.drop i) = eqDs l m, fun x => l.length - x.toNat, ⟨0, rfl, Nat.zero_le _, rfl⟩, ?_, trivial⟩
  rintro x ⟨i, rfl, hi, hr⟩
  refine ⟨fun hc => ?_, fun hc => ?_⟩
  ·have h1 : i < l.length := by have := Zb9 hc; simp at this; omega
   have h2 : i < m.length := by omega
   rw [Zak h1, Zak h2, eqDs] at hr
   have hx := List.getElem_mem h1
   have l1 := hlm _ hx
   have ihx := ih _ hx
   rw [Zsy rfl h1, Zsy rfl h2]
   generalize l[i] = a at hr l1 ihx
   generalize m[i] = b at hr
   have no : eqD a b = false -> Ret (Za9 (eqDs l m)) (.ret (Za9 false)) [] := fun h => ⟨by rw [<- hr, h]; rfl, rfl⟩
   simp only [Zee, d0, d1, d2, d3, d4, d5, d6, d7, d8, d9, d10, isK_int, isK_str, isK_slc, Zdm, Zeh, Zch, Bool.or_true, true_and]
   refine ⟨tle (by omega), tlt (by simp; omega), teq rfl, teq rfl, fun hn => no ?_, fun hn => ?_⟩
   ·cases he : eqD a b with
    | false => rfl
    | true =>
      exfalso
      obtain ⟨⟨p1, p2, p3, p4, p5⟩, p6, _, _, p7, _⟩ := Zth he
      have := Zi4 p7
      simp [p1, p2, p3, p4, p5, p6, this] at hn
   ·have hn' : ((a.kind = b.kind /\ a.num = b.num /\ a.text = b.text /\ a.n0 = b.n0 /\ a.n1 = b.n1) /\ a.trail = b.trail) /\ a.subs.length = b.subs.length := by
     simp only [Zfq, Bool.or_eq_false_iff, Bool.not_eq_false', Bool.and_eq_true, beq_iff_eq, Zco] at hn
     obtain ⟨⟨⟨⟨⟨q1, q2⟩, q3⟩, q4⟩, q5⟩, q6⟩ := hn
     exact ⟨⟨⟨q1, q2, q3, q4.1, q4.2⟩, q5⟩, by omega⟩
    obtain ⟨⟨⟨q1, q2, q3, q4, q4'⟩, q5⟩, q6⟩ := hn'
    have hed : eqD a b = (decide (a.lead = b.lead) && decide (a.tail = b.tail) && eqEs a.subs b.subs && eqDs a.decls b.decls) := by rw [Zs2, q1, q2, q3, q4, q4', q5]; simp
    rw [hed] at no hr
    refine Zbe (c23 _ _ (Nat.le_trans l1.2.2.2 (by omega))) ⟨_, rfl, rfl, fun h3 => ?_, fun h3 => no (by simp [h3])⟩
    refine Zbe (c23 _ _ (Nat.le_trans l1.2.2.1 (by omega))) ⟨_, rfl, rfl, fun h4 => ?_, fun h4 => no (by simp [h4])⟩
    refine Zbe (ihx.1 b.decls) ⟨_, rfl, rfl, fun h5 => no (by rw [nb1 h5]; simp), fun h5 => ?_⟩
    have h5 : eqDs a.decls b.decls = true := by simpa using h5
    refine ⟨fun x => ∃ j : Nat, x = j /\ j <= a.subs.length /\ eqEs (a.subs.drop j) (b.subs.drop j) = eqEs a.subs b.subs, fun x => a.subs.length - x.toNat, ⟨0, rfl, Nat.zero_le _, rfl⟩, ?_, trivial⟩
    rintro x ⟨j, rfl, hj, hrj⟩
    refine ⟨fun hcj => ?_, fun hcj => ?_⟩
    ·have k1 : j < a.subs.length := by have := Zb9 hcj; simp at this; omega
     have k2 : j < b.subs.length := by omega
     rw [Zak k1, Zak k2, eqEs] at hrj
     rw [Zmh rfl k1, Zmh rfl k2]
     refine ⟨tle (by omega), teq (by simp), tlt (by simp; omega), teq (by simp), Zbe (ihx.2 _ (List.getElem_mem k1) _) ⟨_, rfl, rfl, fun hn => ?_, fun hn => ⟨tle (by omega), tle (by have := l1.1; omega), ⟨j + 1, rfl, k1, ?_⟩, dec k1⟩⟩⟩
     ·have hn : eqE a.subs[j] b.subs[j] = false := by simpa using hn
      exact no (by rw [<- hrj, hn]; simp)
     ·have hn : eqE a.subs[j] b.subs[j] = true := by simpa using hn
      rw [<- hrj, hn]; rfl
    ·have k1 : a.subs.length <= j := by have := Zca hcj; simp at this; omega
     rw [Zap k1, Zap (by omega)] at hrj
     have h6 : eqEs a.subs b.subs = true := by rw [<- hrj]; simp [eqEs]
     exact ⟨tle (by omega), tle (by omega), ⟨i + 1, rfl, h1, by rw [<- hr, h3, h4, h5, h6]; rfl⟩, dec h1⟩
  ·have h1 : l.length <= i := by have := Zca hc; simp at this; omega
   rw [Zap h1, Zap (by omega)] at hr
   exact ⟨by rw [<- hr]; simp [eqDs], rfl⟩
theorem Zzu : ∀ (r : Nd), Lm r -> (∀ y, Holds Tryz.prog 22 [.agg (encE r), .agg (encE y)] [] (Ret (Za9 (eqE r y)))) /\ (∀ m, Holds Tryz.prog 66 [slA (Zbo r.decls), slA (Zbo m)] [] (Ret (Za9 (eqDs r.decls m)))) /\
 ∀ e ∈ r.subs, ∀ y, Holds Tryz.prog 22 [.agg (encE e), .agg (encE y)] [] (Ret (Za9 (eqE e y))) := by
 refine Zo9 fun r hs hd hl => ?_
 have l1 := hl.here
 have ihs : ∀ e ∈ r.subs, ∀ y, Holds Tryz.prog 22 [.agg (encE e), .agg (encE y)] [] (Ret (Za9 (eqE e y))) := fun x hx => (hs x hx (hl.sub hx)).1
 have ihd : ∀ m, Holds Tryz.prog 66 [slA (Zbo r.decls), slA (Zbo m)] [] (Ret (Za9 (eqDs r.decls m))) := fun m =>
  c66 r.decls m l1.2.1 (fun x hx => (hl.dec hx).here) fun x hx => (hd x hx (hl.dec hx)).2
 refine ⟨fun y => ?_, ihd, ihs⟩
 have no : eqE r y = false -> Ret (Za9 (eqE r y)) (.ret (Za9 false)) [] := fun h => ⟨by rw [h], rfl⟩
 refine w22 (encE r) (encE y) ?_
 simp only [Zed, e0, e1, e2, e3, e4, e5, e6, e7, e8, isK_int, isK_str, isK_slc, Zdm, Zeh, Zch, Bool.or_true, true_and]
 refine ⟨teq rfl, teq rfl, fun hn => ?_, fun hn => no ?_⟩
 ·have hn' : (r.kind = y.kind /\ r.text = y.text /\ r.num = y.num /\ r.n0 = y.n0 /\ r.n1 = y.n1) /\ r.subs.length = y.subs.length := by
   simp only [Zfq, Bool.or_eq_false_iff, Bool.not_eq_true', Bool.not_eq_false', Bool.and_eq_true, beq_iff_eq, Zco] at hn
   obtain ⟨⟨⟨⟨q1, q2⟩, q3⟩, q4⟩, q6⟩ := hn
   exact ⟨⟨q1, q2, q3, q4.1, q4.2⟩, by omega⟩
  obtain ⟨⟨q1, q2, q3, q4, q4'⟩, q6⟩ := hn'
  have hee : eqE r y = (decide (r.tail = y.tail) && eqEs r.subs y.subs && eqDs r.decls y.decls) := by rw [Zs1, q1, q2, q3, q4, q4']; simp
  rw [hee] at no ⊢
  refine Zbe (c23 _ _ (Nat.le_trans l1.2.2.1 (by omega))) ⟨_, rfl, rfl, fun h3 => no (by rw [nb1 h3]; rfl), fun h3 => ?_⟩
  have h3 : decide (r.tail = y.tail) = true := by simpa using h3
  refine ⟨fun x => ∃ j : Nat, x = j /\ j <= r.subs.length /\ eqEs (r.subs.drop j) (y.subs.drop j) = eqEs r.subs y.subs, fun x => r.subs.length - x.toNat, ⟨0, rfl, Nat.zero_le _, rfl⟩, ?_, trivial⟩
  rintro x ⟨j, rfl, hj, hrj⟩
  refine ⟨fun hcj => ?_, fun hcj => ?_⟩
  ·have k1 : j < r.subs.length := by have := Zb9 hcj; simp at this; omega
   have k2 : j < y.subs.length := by omega
   rw [Zak k1, Zak k2, eqEs] at hrj
   rw [Zmh rfl k1, Zmh rfl k2]
   refine ⟨tle (by omega), teq (by simp), tlt (by simp; omega), teq (by simp), Zbe (ihs _ (List.getElem_mem k1) _) ⟨_, rfl, rfl, fun hn => ?_, fun hn => ⟨tle (by omega), tle (by have := l1.1; omega), ⟨j + 1, rfl, k1, ?_⟩, dec k1⟩⟩⟩
   ·have hn : eqE r.subs[j] y.subs[j] = false := by simpa using hn
    exact no (by rw [<- hrj, hn]; simp)
   ·have hn : eqE r.subs[j] y.subs[j] = true := by simpa using hn
    rw [<- hrj, hn]; rfl
  ·have k1 : r.subs.length <= j := by have := Zca hcj; simp at this; omega
   rw [Zap k1, Zap (by omega)] at hrj
   have h6 : eqEs r.subs y.subs = true := by rw [<- hrj]; simp [eqEs]
   exact Zbe (ihd y.decls) ⟨_, rfl, rfl, by rw [h3, h6]; simp, rfl⟩
 ·cases he : eqE r y with
  | false => rfl
  | true =>
    exfalso
    obtain ⟨⟨p1, p2, p3, p4, p5⟩, _, p7, _⟩ := Ztg he
    have := Zi4 p7
    simp [p1, p2, p3, p4, p5, this] at hn
theorem c22 (r y : Nd) (h : Lm r) : Holds Tryz.prog 22 [.agg (encE r), .agg (encE y)] [] (Ret (Za9 (eqE r y))) := (Zzu r h).1 y
theorem c66' (l m : List Nd) (hl : l.length <= 2 ^ 50) (h : ∀ x ∈ l, Lm x) : Holds Tryz.prog 66 [slA (Zbo l), slA (Zbo m)] [] (Ret (Za9 (eqDs l m))) :=
 c66 l m hl (fun x hx => (h x hx).here) fun x hx => (Zzu x (h x hx)).2
mutual
def plE : Nd -> Nd -> Bool
 | .mk _ _ _ _ _ _ _ _ p s d, y => plEs s y.subs && (p == y.pos && plDs d y.decls)
def plEs : List Nd -> List Nd -> Bool
 | a :: l, b :: m => plE a b && plEs l m
 | _, _ => true
def plD : Nd -> Nd -> Bool
 | .mk _ _ _ _ _ _ _ _ p s d, y => p == y.pos && (plDs d y.decls && plEs s y.subs)
def plDs : List Nd -> List Nd -> Bool
 | a :: l, b :: m => plD a b && plDs l m
 | _, _ => true
end
theorem c20 (f g : Fl) (h : LmF f) : Holds Tryz.prog 20 [.agg (Zgo f), .agg (Zgo g)] [] (Ret (Za9 (eqF f g))) := by
 have no : eqF f g = false -> Ret (Za9 (eqF f g)) (.ret (Za9 false)) [] := fun h => ⟨by rw [h], rfl⟩
 unfold eqF at no ⊢
 refine w20 _ _ ?_
 simp only [Ze1, f0, f1, f2, f3, isK_str, isK_slc, Zeh, Zch, Bool.or_true, true_and]
 refine ⟨teq rfl, teq rfl, fun hn => ?_, fun hn => no ?_⟩
 ·have hn' : f.pkg = g.pkg /\ f.imps.length = g.imps.length := by
   simp only [Zfq, Bool.or_eq_false_iff, Bool.not_eq_true', Bool.not_eq_false', beq_iff_eq, Ze2] at hn
   exact ⟨hn.1, by omega⟩
  obtain ⟨q1, q2⟩ := hn'
  refine Zbe (c23 _ _ (Nat.le_trans h.1.2.2 (by omega))) ⟨_, rfl, rfl, fun h3 => no (by rw [nb1 h3]; simp), fun h3 => ?_⟩
  refine ⟨fun x => ∃ j : Nat, x = j /\ j <= f.imps.length /\ eqIs (f.imps.drop j) (g.imps.drop j) = eqIs f.imps g.imps, fun x => f.imps.length - x.toNat, ⟨0, rfl, Nat.zero_le _, rfl⟩, ?_, trivial⟩
  rintro x ⟨j, rfl, hj, hrj⟩
  refine ⟨fun hcj => ?_, fun hcj => ?_⟩
  ·have k1 : j < f.imps.length := by have := Zb9 hcj; simp at this; omega
   have k2 : j < g.imps.length := by omega
   rw [Zak k1, Zak k2, eqIs] at hrj
   have g1 := Zs3 (x := (j : Int)) rfl k1
   have g2 := Zs3 (x := (j : Int)) rfl k2
   simp only [g1, g2, f1, Zch, Zfr, i0, i1, i2, isK_int, isK_str, Zeh, Zdm, Bool.or_true, true_and]
   have e : eqI f.imps[j] g.imps[j] = (f.imps[j].name == g.imps[j].name && f.imps[j].path == g.imps[j].path) := rfl
   refine ⟨tle (by omega), teq rfl, tle (by omega), tlt (by simp; omega), teq rfl, tle (by omega), by simp, by simp, fun hn => no ?_, fun hn => ⟨tle (by omega), tle (by have := h.1.1; omega), ⟨j + 1, rfl, k1, ?_⟩, dec k1⟩⟩
   ·have : eqI f.imps[j] g.imps[j] = false := by
     rw [e]
     simp only [Zfq, Bool.or_eq_true, Bool.not_eq_true'] at hn
     rcases hn with hn | hn <;> simp only [hn, Bool.false_and, Bool.and_false]
    rw [<- hrj, this]; simp
   ·have : eqI f.imps[j] g.imps[j] = true := by
     rw [e]
     simp only [Zfq, Bool.or_eq_false_iff, Bool.not_eq_false'] at hn
     rw [hn.1, hn.2]; rfl
    rw [<- hrj, this]; rfl
  ·have k1 : f.imps.length <= j := by have := Zca hcj; simp at this; omega
   rw [Zap k1, Zap (by omega)] at hrj
   have h6 : eqIs f.imps g.imps = true := by rw [<- hrj]; simp [eqIs]
   exact Zbe (c66' _ _ h.1.2.1 h.2) ⟨_, rfl, rfl, by rw [h6, q1, nb0 h3]; simp, rfl⟩
 ·simp only [Zfq, Bool.or_eq_true, Bool.not_eq_false', Bool.not_eq_true', beq_eq_false_iff_ne, Ze2] at hn
  rcases hn with hn | hn
  ·simp [hn]
  ·rw [Zkt (by omega)]; simp
end Go.Sy
end
section
open Go Go.Proofs Go.Ab Go.Rf
set_option linter.unusedSimpArgs false
set_option maxRecDepth 100000
namespace Go.Sy
theorem Zvs {f : Fl} (h : BigF f) : LmF f := ⟨h.1, fun x hx => Zxm (h.2.2.2.2 x hx)⟩
theorem Z0l (a b : Nd) : [(encE a ++ encE b).getD 0 D0, (encE a ++ encE b).getD 1 D0, (encE a ++ encE b).getD 2 D0, (encE a ++ encE b).getD 3 D0, (encE a ++ encE b).getD 4 D0, (encE a ++ encE b).getD 5 D0, (encE a ++ encE b).getD 6 D0, (encE a ++ encE b).getD 7 D0, (encE a ++ encE b).getD 8 D0] = encE a := by
 rw [Zby a]; rfl
theorem Z0m (a b : Nd) : [(encE a ++ encE b).getD 9 D0, (encE a ++ encE b).getD 10 D0, (encE a ++ encE b).getD 11 D0, (encE a ++ encE b).getD 12 D0, (encE a ++ encE b).getD 13 D0, (encE a ++ encE b).getD 14 D0, (encE a ++ encE b).getD 15 D0, (encE a ++ encE b).getD 16 D0, (encE a ++ encE b).getD 17 D0] = encE b := by
 rw [Zby a, Zby b]; rfl
theorem c5 (f g : Fl) (a b : Nd) (hf : BigF f) (hg : BigF g) (ha : All Big a) (hb : All Big b) : Holds Tryz.prog 5 [.agg (Zgo f), .agg (Zgo g), .agg (encE a ++ encE b)] [] (Ret (Za9 true)) := by
 refine w5 _ _ _ ?_
 rw [Z0l, Z0m]
 refine ⟨teq rfl, teq rfl, teq (by simp), Zbe (c12 f hf) ⟨_, rfl, rfl, fun h1 => ?_, fun _ => Zbe c13 ⟨_, rfl, rfl, rfl, rfl⟩⟩⟩
 refine Zbe (c12 g hg) ⟨_, rfl, rfl, fun h2 => ?_, fun _ => Zbe c13 ⟨_, rfl, rfl, rfl, rfl⟩⟩
 refine Zbe (c16 a ha) ⟨_, rfl, rfl, fun h3 => ?_, fun _ => Zbe c13 ⟨_, rfl, rfl, rfl, rfl⟩⟩
 refine Zbe (c16 b hb) ⟨_, rfl, rfl, fun _ => Zbe c13 ⟨_, rfl, rfl, rfl, rfl⟩, fun _ => ?_⟩
 refine ⟨_, fun _ => c19 f g (Zvs hf), _, fun _ => c20 f g (Zvs hf), fun _ => ?_, fun h => by simp at h⟩
 refine ⟨_, fun _ => c21 a b (Zxm ha), Zbe (c22 a b (Zxm ha)) ⟨_, rfl, rfl, fun _ => Zbe c13 ⟨_, rfl, rfl, rfl, rfl⟩, fun h => by simp at h⟩⟩
end Go.Sy
end
section
open Go Go.Proofs Go.Ab Go.Rf Go.ChangeShapes Go.WideShapes Go.ChangeAt Go.Proofs.YtpcnadmaeebhbaaGreatDoor
set_option maxRecDepth 100000
namespace Go.Sy
theorem Zti (os : Os) : laidMet Tryz.prog Rows.syntaxEqualRow.laid ((Zi3 os).forCall (fun _ _ => 0) ⟨#[], #[zF, zF, zP], []⟩).memory :=
 laidMet_of_run' 8 (by kernel_rfl) (by kernel_rfl)
theorem Zzv (os : Os) {H : Type} (en : TypeId × Value -> H) : ∃ places, DataW.whole en Tryz.prog ((Zi3 os).forCall (fun _ _ => 0) ⟨#[], #[zF, zF, zP], []⟩).memory Tryz.f5.params.toList Rows.syntaxEqualSpec.vars false #[zF, zF, zP].toList 8 = some ([dF, dF, dP], [], places) :=
 ⟨[], by kernel_rfl⟩
theorem Zxu (os : Os) (started : os.Started) (H : Type) (en : TypeId × Value -> H) (F : Stop.Interp) :
 ReturnsInHanded {} Tryz.checked os 5 .any ((OpenSpec.ofChange Rows.syntaxEqualSpec).preRow en Tryz.prog Tryz.f5 Rows.syntaxEqualRow.domain false Rows.syntaxEqualRow.laid) (((OpenSpec.ofChange Rows.syntaxEqualSpec).at F).post en Tryz.prog Tryz.f5 false true false false) := by
 obtain ⟨places, hx⟩ := Zzv os en
 refine returnsInHanded_of_row (C := Tryz.checked) (s := OpenSpec.ofChange Rows.syntaxEqualSpec) own started (by kernel_rfl) Tryz.func5
  (witness_row_at (enc := en) (C := Tryz.checked) false (Zi3 os) #[zF, zF, zP] rfl (by kernel_rfl) (by kernel_rfl) (by kernel_rfl)
   (OpenSpec.preRow_of_cond 8 hx (by kernel_rfl) (fun k hk => by cases hk) (by kernel_rfl) (Zti os))) ?_
 intro W base args ds gs before hval0 hW _ _ hsz0 hL _ _
 have hval : ∀ (j : Nat) t v, Tryz.f5.params[j]? = some t -> args[j]? = some v -> Value.okWide Tryz.prog W .any base t v := hval0
 have hW' : DataW.Whole en Tryz.prog Tryz.f5.params.toList Rows.syntaxEqualSpec.vars false W args.toList ds gs before := hW
 obtain ⟨p, q, hA0, hV, rfl, hfz, hnd⟩ := hW
 have hA : DataW.TrodAll en Tryz.prog W 0 (fun _ => true) true Tryz.f5.params.toList args.toList ds p := hA0
 have hsz : (DataW.weightsEach Tryz.prog (Tryz.f5.params.toList ++ []) (ds ++ gs)).all (· <= reachBytes) = true := hsz0
 rw [Tryz.params5] at hA hval hsz
 obtain ⟨v0, vs0, d0, ds0, p0, q0, hargs, rfl, rfl, h0, r0⟩ := trodAll_cons hA
 obtain ⟨v1, vs1, d1, ds1, p1, q1, rfl, rfl, rfl, h1, r1⟩ := trodAll_cons r0
 obtain ⟨v2, vs2, d2, ds2, p2, q2, rfl, rfl, rfl, h2, r2⟩ := trodAll_cons r1
 obtain ⟨rfl, rfl, rfl⟩ := trodAll_nil r2
 obtain rfl : args = #[v0, v1, v2] := by cases args; simp_all
 obtain ⟨a0, k0, g0, e0⟩ := Zzs (hval 0 26 v0 rfl rfl) h0 (Ztf hsz (i := 0) rfl rfl)
 obtain ⟨a1, k1, g1, e1⟩ := Zzs (hval 1 26 v1 rfl rfl) h1 (Ztf hsz (i := 1) rfl rfl)
 obtain ⟨a2, b2, k2, g2, e2⟩ := Z0k (hval 2 37 v2 rfl rfl) h2 (Ztf hsz (i := 2) rfl rfl)
 refine (Zn0 Tryz.func5 rfl rfl (Holds.out (c5 a0 a1 a2 b2 g0 g1 g2 e2) (w := W) (cargs := #[v0, v1, v2]) ⟨k0, k1, k2, trivial⟩)).mono fun e W' ⟨cv, g', he, hc, hb⟩ => ?_
 have hc : cv = .bool true := by cases hc; rfl
 subst hc
 exact ⟨_, he, Zu2 (s := Rows.syntaxEqualSpec) rfl hW' rfl rfl lay (by kernel_rfl) hb⟩
theorem syntaxEqual_holds : Rows.SyntaxEqualSaid :=
 OpenClaim.holds_of_cond 5 Tryz.f5 rfl rfl rfl rfl rfl rfl rfl ⟨rfl, rfl, rfl, rfl, rfl⟩ rfl rfl rfl rfl rfl (by kernel_rfl) Tryz.func5 (by kernel_rfl)
  (of_decide_eq_true (by kernel_rfl)) (by unfold Func.isWrapper; first | (rw [if_pos (by decide +kernel)]; kernel_rfl) | (rw [if_neg (by decide +kernel)]; exact ⟨rfl, rfl⟩))
  (fun os started H en _ F => by rw [OpenClaim.pre_eq_preRow]; exact Zxu os started H en F)
theorem plain5 (f : FuncId) (fn : Func) (hf : Tryz.pinned.checked.prog.funcNamed "configlang/configlanglaw25.SyntaxEqual" = some f) (hfn : Tryz.pinned.checked.prog.funcs[f]? = some fn) :
 true = Tryz.pinned.checked.prog.looks [] /\ ∀ (j : Nat) t, fn.params[j]? = some t -> Tryz.pinned.checked.prog.wantsStandIn t = false := by
 obtain rfl : f = 5 := Option.some.inj ((show Tryz.prog.funcNamed "configlang/configlanglaw25.SyntaxEqual" = some 5 by kernel_rfl).symm.trans hf) |>.symm
 obtain rfl : fn = Tryz.f5 := (Option.some.inj (Tryz.func5.symm.trans hfn)).symm
 refine ⟨by kernel_rfl, fun j t ht => ?_⟩
 rw [Tryz.params5] at ht
 have hm : t ∈ [26, 26, 37] := by simpa using Array.mem_of_getElem? ht
 have hall : ([26, 26, 37].all fun u => !Tryz.prog.wantsStandIn u) = true := by kernel_rfl
 exact (show Tryz.prog.wantsStandIn t = false by simpa using List.all_eq_true.1 hall t hm)
end Go.Sy
namespace Go.Proofs.YtpcnadmaeebhbaaGreatDoor
theorem syntaxEqual_proved : Rows.SyntaxEqualCardSaid :=
 Claim7.holds_tied_plain_at .later [] _ _ _ _ Go.Sy.syntaxEqual_holds (fun _ h => by cases h) (by kernel_rfl) (fun _ h => by cases h) syntaxEqual_row_tie rfl ⟨rfl, rfl⟩ (by kernel_rfl) rfl Go.Sy.plain5 (by kernel_rfl)
end Go.Proofs.YtpcnadmaeebhbaaGreatDoor
end
