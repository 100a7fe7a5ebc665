/- Proved: the given card SyntaxPartsCardSaid, without conditions. -/
import Derived.Test.YtpcnadmaeebhbaaGreatDoorRows
import Derived.WalkKit
import Derived.ProofKit
import Derived.OpenShut
import Derived.JoinedOf
import Derived.Deep.Slices
import Derived.Test.YtpcnadmaeebhbaaGreatDoorCards
import Derived.Test.YtpcnadmaeebhbaaGreatDoorTie
import Derived.Carry
import Derived.Deep.DeepHandedRow
import Derived.Lib.LaidTab
import Derived.Test.YtpcnadmaeebhbaaGreatDoorJah
set_option linter.unusedVariables false
set_option linter.unusedSimpArgs false
section
open Go Go.Proofs Go.Ab Go.Rf
set_option linter.unusedSimpArgs false
set_option maxRecDepth 100000
namespace Go.Sy
theorem getT {l : List Tx} {i : Nat} (h : i < l.length) : Rf.isK .str ((gAt (txs l) (i : Int)).getD 0 D0) = true /\ Rf.dstr ((gAt (txs l) (i : Int)).getD 0 D0) = l[i] := by rw [gT0 h]; simp [dS]
theorem c23 (a b : List Tx) (ha : a.length <= 2 ^ 50) : Holds Tryz.prog 23 [slA (txs a), slA (txs b)] [] (Ret (Zjq (decide (a = b)))) := by
 refine w23 (txs a) (txs b) ⟨fun h => ?_, fun h => ?_⟩
 ·have hne : a ≠ b := fun e => by subst e; simp at h
  exact ⟨by simp [hne], rfl⟩
 ·have hl : a.length = b.length := by simp at h; omega
  refine ⟨fun x => ∃ i : Nat, x = i /\ i <= a.length /\ (a.drop i = b.drop i ↔ a = b), fun x => a.length - x.toNat, ⟨0, rfl, Nat.zero_le _, by simp⟩, ?_, trivial⟩
  rintro x ⟨i, rfl, hi, hr⟩
  refine ⟨fun hc => ?_, fun hc => ?_⟩
  ·have h1 : i < a.length := by have := Za6 hc; simp at this; omega
   have h2 : i < b.length := by omega
   refine ⟨tle (by omega), teq (by rw [gT1 h1]; rfl), (getT h1).1, tlt (by simp; omega), teq (by rw [gT1 h2]; rfl), (getT h2).1, fun hn => ?_, fun hn => ⟨tle (by omega), tle (by omega), ⟨i + 1, rfl, h1, ?_⟩, dec h1⟩⟩
   ·rw [(getT h1).2, (getT h2).2] at hn
    have hne : a ≠ b := fun e => by subst e; simp at hn
    exact ⟨by simp [hne], rfl⟩
   ·rw [(getT h1).2, (getT h2).2] at hn
    have he : a[i] = b[i] := by simpa using hn
    rw [<- hr]
    conv => rhs; rw [Zc5 h1, Zc5 h2]
    simp only [List.cons.injEq, he, true_and]
  ·have h1 : a.length <= i := by have := Za7 hc; simp at this; omega
   have : a = b := hr.1 (by rw [Zd9 h1, Zd9 (by omega)])
   exact ⟨by simp [this], rfl⟩
theorem c34 (s : Tx) (l : List Tx) (hl : l.length <= 2 ^ 50) : Holds Tryz.prog 34 [strA s, slA (txs l)] [] (Ret (Zjq (decide (s ∈ l)))) := by
 refine w34 s (txs l) ?_
 refine ⟨fun x => ∃ i : Nat, x = i /\ i <= l.length /\ (s ∈ l.drop i ↔ s ∈ l), fun x => l.length - x.toNat, ⟨0, rfl, Nat.zero_le _, by simp⟩, ?_, trivial⟩
 rintro x ⟨i, rfl, hi, hr⟩
 refine ⟨fun hc => ?_, fun hc => ?_⟩
 ·have h1 : i < l.length := by have := Za6 hc; simp at this; omega
  refine ⟨tle (by omega), teq (by rw [gT1 h1]; rfl), (getT h1).1, fun hn => ?_, fun hn => ⟨tle (by omega), tle (by omega), ⟨i + 1, rfl, h1, ?_⟩, dec h1⟩⟩
  ·rw [(getT h1).2] at hn
   have : s ∈ l := Zt9 hn ▸ List.getElem_mem h1
   exact ⟨by simp [this], rfl⟩
  ·rw [(getT h1).2] at hn
   have hne := Zua hn
   rw [<- hr]
   conv => rhs; rw [Zc5 h1]
   simp only [List.mem_cons, hne, false_or]
 ·have h1 : l.length <= i := by have := Za7 hc; simp at this; omega
  have : ¬ s ∈ l := fun h => by rw [<- hr, Zd9 h1] at h; cases h
  exact ⟨by simp [this], rfl⟩
def mkE (k : Int) (t : Tx) (n : Int) (s d : List Nd) : Nd := .mk k n t [] [] [] [] [] 0 s d
def Zwh (s : Tx) : Nd := mkE 10 s 0 [] []
def encF (p : Tx) (im : List (List D)) (d : List Nd) (t : List Tx) : List D := [dS p, .slc im, .slc (Zco d), .slc (txs t)]
end Go.Sy
end
section
open Go Go.Proofs Go.Ab Go.Rf
set_option linter.unusedSimpArgs false
set_option maxRecDepth 100000
namespace Go.Sy
mutual
def eqE : Nd -> Nd -> Bool
 | .mk k n t a b _ _ ta _ s d, y => (k == y.kind && t == y.text && n == y.num && a == y.n0 && b == y.n1) && decide (ta = y.tail) && eqEs s y.subs && eqDs d y.decls
def eqEs : List Nd -> List Nd -> Bool
 | [], [] => true
 | a :: l, b :: m => eqE a b && eqEs l m
 | [], _ :: _ => false
 | _ :: _, [] => false
def eqD : Nd -> Nd -> Bool
 | .mk k n t a b tr le ta _ s d, y => (k == y.kind && n == y.num && t == y.text && a == y.n0 && b == y.n1) && tr == y.trail && decide (le = y.lead) && decide (ta = y.tail) && eqEs s y.subs && eqDs d y.decls
def eqDs : List Nd -> List Nd -> Bool
 | [], [] => true
 | a :: l, b :: m => eqD a b && eqDs l m
 | [], _ :: _ => false
 | _ :: _, [] => false
end
structure Im where
 name : Tx
 path : Tx
 pos : Int
def encI (i : Im) : List D := [dS i.name, dS i.path, dI i.pos]
def Zwi (l : List Im) : List (List D) := l.map encI
structure Fl where
 pkg : Tx
 imps : List Im
 decls : List Nd
 tail : List Tx
def Zud (f : Fl) : List D := encF f.pkg (Zwi f.imps) f.decls f.tail
@[simp] theorem Zxi (f : Fl) : (Zud f).length = 4 := rfl
@[simp] theorem f0 (f : Fl) : (Zud f).getD 0 D0 = dS f.pkg := rfl
@[simp] theorem f1 (f : Fl) : (Zud f).getD 1 D0 = .slc (Zwi f.imps) := rfl
@[simp] theorem f2 (f : Fl) : (Zud f).getD 2 D0 = .slc (Zco f.decls) := rfl
@[simp] theorem f3 (f : Fl) : (Zud f).getD 3 D0 = .slc (txs f.tail) := rfl
@[simp] theorem Zxj (l : List Im) : (Zwi l).length = l.length := by simp [Zwi]
@[simp] theorem Zzi (i : Im) : (encI i).length = 3 := rfl
@[simp] theorem i0 (i : Im) : (encI i).getD 0 D0 = dS i.name := rfl
@[simp] theorem i1 (i : Im) : (encI i).getD 1 D0 = dS i.path := rfl
@[simp] theorem i2 (i : Im) : (encI i).getD 2 D0 = dI i.pos := rfl
def eqI (a b : Im) : Bool := a.name == b.name && a.path == b.path
end Go.Sy
end
section
open Go Go.Proofs Go.Ab Go.Rf
set_option linter.unusedSimpArgs false
set_option maxRecDepth 100000
namespace Go.Sy
def Z1l (n : Int) (s : Tx) : Int := min (n + s.length) 10000
def Zg5 (n : Int) (l : List Tx) : Int := l.foldl Z1l n
abbrev Zcp (l : List Tx) : Int := Zg5 0 l
theorem Zga (n : Int) (s : Tx) (l : List Tx) : Zg5 n (s :: l) = Zg5 (min (n + s.length) 10000) l := rfl
theorem Zjr : ∀ (l : List Tx) (n : Int), 0 <= n -> n <= 10000 -> 0 <= Zg5 n l /\ Zg5 n l <= 10000 /\ (n <= Zg5 n l)
 | [], n, h1, h2 => ⟨h1, h2, Int.le_refl _⟩
 | s :: l, n, h1, h2 => by
   rw [Zga]
   obtain ⟨a, b, c⟩ := Zjr l (min (n + s.length) 10000) (by omega) (by omega)
   exact ⟨a, b, by omega⟩
theorem Zks : ∀ (l : List Tx) (n : Int) (s : Tx), 0 <= n -> n <= 10000 -> s ∈ l -> Zg5 n l < 10000 -> (s.length : Int) <= Zg5 n l
 | [], n, s, _, _, h, _ => by cases h
 | x :: l, n, s, h1, h2, h, hs => by
   rw [Zga] at hs ⊢
   have hb := Zjr l (min (n + x.length) 10000) (by omega) (by omega)
   rcases List.mem_cons.1 h with rfl | h
   ·omega
   ·exact Zks l _ s (by omega) (by omega) h hs
theorem Zbk (l : List Tx) : 0 <= Zcp l /\ Zcp l <= 10000 := by
 have := Zjr l 0 (by omega) (by omega); exact ⟨this.1, this.2.1⟩
theorem c41 (l : List Tx) (hl : l.length <= 2 ^ 50) (ht : ∀ s ∈ l, s.length <= 2 ^ 50) : Holds Tryz.prog 41 [slA (txs l)] [] (Ret (intA (Zcp l))) := by
 refine w41 (txs l) ⟨fun n x => ∃ i : Nat, x = i /\ i <= l.length /\ 0 <= n /\ n <= 10000 /\ Zg5 n (l.drop i) = Zcp l, fun _ x => l.length - x.toNat, ⟨0, rfl, Nat.zero_le _, by omega, by omega, rfl⟩, ?_, trivial⟩
 rintro n x ⟨i, rfl, hi, h1, h2, hr⟩
 refine ⟨fun hc => ?_, fun hc => ?_⟩
 ·have k1 : i < l.length := by have := Za6 hc; simp at this; omega
  have k2 := ht _ (List.getElem_mem k1)
  rw [Zc5 k1, Zga] at hr
  rw [(getT k1).2]
  have e : (n + ((l[i]).length : Int) + 10000) - gMax (n + ((l[i]).length : Int)) 10000 = min (n + l[i].length) 10000 := by
   unfold gMax; split <;> omega
  rw [e]
  exact ⟨tle (by omega), teq (by rw [gT1 k1]; rfl), (getT k1).1, tle (by omega), tle (by omega), tle (by omega), tle (by omega), ⟨i + 1, rfl, k1, by omega, by omega, hr⟩, dec k1⟩
 ·have k1 : l.length <= i := by have := Za7 hc; simp at this; omega
  rw [Zd9 k1] at hr
  exact ⟨by rw [<- hr]; rfl, rfl⟩
def BigB (B : Nat) (r : Nd) : Prop := (r.subs.length <= B /\ r.decls.length <= B /\ r.tail.length <= B /\ r.lead.length <= B) /\ (∀ s ∈ [r.text, r.n0, r.n1, r.trail], s.length <= B) /\ (∀ s ∈ r.tail, s.length <= B) /\ ∀ s ∈ r.lead, s.length <= B
abbrev Big (r : Nd) : Prop := BigB (2 ^ 50) r
theorem BigB.mono {B C : Nat} (hBC : B <= C) (r : Nd) (h : BigB B r) : BigB C r :=
 ⟨⟨Nat.le_trans h.1.1 hBC, Nat.le_trans h.1.2.1 hBC, Nat.le_trans h.1.2.2.1 hBC, Nat.le_trans h.1.2.2.2 hBC⟩, fun s hs => Nat.le_trans (h.2.1 s hs) hBC, fun s hs => Nat.le_trans (h.2.2.1 s hs) hBC, fun s hs => Nat.le_trans (h.2.2.2 s hs) hBC⟩
def ownE (r : Nd) : Int := 1 + r.tail.length + Zcp [r.text, r.n0, r.n1] / 20 + Zcp r.tail / 20
def ownD (r : Nd) : Int := 1 + r.lead.length + r.tail.length + Zcp [r.text, r.n0, r.n1, r.trail] / 20 + Zcp r.lead / 20 + Zcp r.tail / 20
mutual
def Zjs : Nd -> Int -> Int
 | .mk k n t a b tr le ta p s d, m => Zcq d (Zbz s (m - ownE (.mk k n t a b tr le ta p s d)))
def Zbz : List Nd -> Int -> Int
 | [], m => m
 | x :: l, m => Zbz l (if 0 <= m then Zjs x m else m)
def Zlp : Nd -> Int -> Int
 | .mk k n t a b tr le ta p s d, m => Zcq d (Zbz s (m - ownD (.mk k n t a b tr le ta p s d)))
def Zcq : List Nd -> Int -> Int
 | [], m => m
 | x :: l, m => if m < 0 then m else Zcq l (Zlp x m)
end
theorem Zlq (r : Nd) (m : Int) : Zjs r m = Zcq r.decls (Zbz r.subs (m - ownE r)) := by cases r; rw [Zjs]; rfl
theorem Zlr (r : Nd) (m : Int) : Zlp r m = Zcq r.decls (Zbz r.subs (m - ownD r)) := by cases r; rw [Zlp]; rfl
theorem Zue {r : Nd} (h : Big r) : 1 <= ownE r /\ ownE r <= 2 ^ 51 := by
 have h1 := Zbk [r.text, r.n0, r.n1]
 have h2 := Zbk r.tail
 have h3 := h.1.2.2.1
 unfold ownE; omega
theorem Zuf {r : Nd} (h : Big r) : 1 <= ownD r /\ ownD r <= 2 ^ 52 := by
 have h1 := Zbk [r.text, r.n0, r.n1, r.trail]
 have h2 := Zbk r.tail
 have h2' := Zbk r.lead
 have h3 := h.1.2.2
 unfold ownD; omega
def Bd (f : Int -> Int) : Prop := ∀ m, 0 <= m -> m <= 1000 -> - 2 ^ 52 <= f m /\ f m <= m
theorem Zhj : ∀ (l : List Nd) (m : Int), m < 0 -> Zbz l m = m
 | [], _, _ => rfl
 | x :: l, m, h => by rw [Zbz, if_neg (by omega)]; exact Zhj l m h
theorem Zrk : ∀ (l : List Nd) (m : Int), m < 0 -> Zcq l m = m
 | [], _, _ => rfl
 | x :: l, m, h => by rw [Zcq, if_pos h]
theorem Zjt : ∀ (l : List Nd), (∀ x ∈ l, Bd (Zjs x)) -> ∀ m, - 2 ^ 52 <= m -> m <= 1000 -> - 2 ^ 52 <= Zbz l m /\ Zbz l m <= m
 | [], _, m, h1, h2 => ⟨h1, Int.le_refl _⟩
 | x :: l, h, m, h1, h2 => by
   rw [Zbz]
   split
   ·rename_i h0
    have hx := h x (List.mem_cons_self ..) m h0 h2
    have := Zjt l (fun y hy => h y (List.mem_cons_of_mem _ hy)) _ hx.1 (by omega)
    omega
   ·exact Zjt l (fun y hy => h y (List.mem_cons_of_mem _ hy)) m h1 h2
theorem Zju : ∀ (l : List Nd), (∀ x ∈ l, Bd (Zlp x)) -> ∀ m, - 2 ^ 52 <= m -> m <= 1000 -> - 2 ^ 52 <= Zcq l m /\ Zcq l m <= m
 | [], _, m, h1, h2 => ⟨h1, Int.le_refl _⟩
 | x :: l, h, m, h1, h2 => by
   rw [Zcq]
   split
   ·exact ⟨h1, Int.le_refl _⟩
   ·rename_i h0
    have hx := h x (List.mem_cons_self ..) m (by omega) h2
    have := Zju l (fun y hy => h y (List.mem_cons_of_mem _ hy)) _ hx.1 (by omega)
    omega
theorem Zov : ∀ r : Nd, All Big r -> Bd (Zjs r) /\ Bd (Zlp r) := by
 refine Zg4 fun r hs hd hb => ?_
 have hE := Zjt r.subs fun x hx => (hs x hx (hb.sub hx)).1
 have hD := Zju r.decls fun x hx => (hd x hx (hb.dec hx)).2
 have h1 := Zue hb.here
 have h2 := Zuf hb.here
 refine ⟨fun m m0 m1 => ?_, fun m m0 m1 => ?_⟩
 ·rw [Zlq]
  have a := hE (m - ownE r) (by omega) (by omega)
  have b := hD _ a.1 (by omega)
  omega
 ·rw [Zlr]
  have a := hE (m - ownD r) (by omega) (by omega)
  have b := hD _ a.1 (by omega)
  omega
theorem tdv {x : Int} (h : 0 <= x /\ x <= 10000) : x.tdiv 20 = x / 20 /\ 0 <= x / 20 /\ x / 20 <= 500 := ⟨Int.tdiv_eq_ediv_of_nonneg h.1, by omega, by omega⟩
abbrev H57 (e : Nd) : Prop := ∀ m, 0 <= m -> m <= 1000 -> Holds Tryz.prog 57 [.agg (encE e), intA m] [] (Ret (intA (Zjs e m)))
abbrev H42 (l : List Nd) : Prop := ∀ m, - 2 ^ 52 <= m -> m <= 1000 -> Holds Tryz.prog 42 [slA (Zco l), intA m] [] (Ret (intA (Zcq l m)))
theorem c42 (l : List Nd) (hl : l.length <= 2 ^ 50) (hb : ∀ x ∈ l, All Big x) (ih : ∀ x ∈ l, H42 x.decls /\ ∀ e ∈ x.subs, H57 e) : H42 l := by
 intro m m0 m1
 refine w42 (Zco l) m ⟨fun n x => ∃ i : Nat, x = i /\ i <= l.length /\ (- 2 ^ 52 <= n /\ n <= 1000) /\ Zcq (l.drop i) n = Zcq l m, fun _ x => l.length - x.toNat, ⟨0, rfl, Nat.zero_le _, ⟨m0, m1⟩, rfl⟩, ?_, trivial⟩
 rintro n x ⟨i, rfl, hi, hn, hr⟩
 refine ⟨fun hc => ?_, fun hc => ?_⟩
 ·have k1 : i < l.length := by have := Za6 hc; simp at this; omega
  rw [Zc5 k1, Zcq] at hr
  have hx := List.getElem_mem k1
  have l1 := hb _ hx
  have ihx := ih _ hx
  rw [Zrj rfl k1]
  generalize l[i] = a at hr l1 ihx
  have b1 := l1.here
  have q1 := Zbk [a.text, a.n0, a.n1, a.trail]
  have q2 := Zbk a.lead
  have q3 := Zbk a.tail
  have o1 := Zuf b1
  simp only [Zb5, d0, d1, d2, d3, d4, d5, d6, d7, d8, d9, d10, isK_int, isK_str, isK_slc, Zcw, Zfv, Zcx, Bool.or_true, true_and, Zbg, Zbh, Zbe]
  refine ⟨tle (by omega), teq rfl, fun h => ?_, fun h => ?_⟩
  ·rw [if_pos (Za6 h)] at hr
   exact ⟨by rw [<- hr], rfl⟩
  ·have h := Za7 h
   rw [if_neg (by omega)] at hr
   have L := b1.1
   refine ⟨tle (by omega), tle (by omega), tle (by omega), tle (by omega), tle (by omega), tle (by omega), Zcp [a.text, a.n0, a.n1, a.trail], fun _ => c41 [a.text, a.n0, a.n1, a.trail] (by simp) b1.2.1, ?_⟩
   rw [(tdv q1).1]
   refine ⟨tle (by omega), tle (by omega), tle (by omega), tle (by omega), Zcp a.lead, fun _ => c41 a.lead L.2.2.2 b1.2.2.2, ?_⟩
   rw [(tdv q2).1]
   refine ⟨tle (by omega), tle (by omega), tle (by omega), tle (by omega), Zcp a.tail, fun _ => c41 a.tail L.2.2.1 b1.2.2.1, ?_⟩
   rw [(tdv q3).1]
   have eo : n - 1 - (a.lead.length : Int) - (a.tail.length : Int) - Zcp [a.text, a.n0, a.n1, a.trail] / 20 - Zcp a.lead / 20 - Zcp a.tail / 20 = n - ownD a := by unfold ownD; omega
   rw [eo]
   refine ⟨tle (by omega), tle (by omega), tle (by omega), tle (by omega), fun n' x => ∃ j : Nat, x = j /\ j <= a.subs.length /\ (- 2 ^ 52 <= n' /\ n' <= 1000) /\ Zbz (a.subs.drop j) n' = Zbz a.subs (n - ownD a), fun _ x => a.subs.length - x.toNat, ⟨0, rfl, Nat.zero_le _, ⟨by omega, by omega⟩, rfl⟩, ?_, trivial⟩
   rintro n' x ⟨j, rfl, hj, hn', hrj⟩
   refine ⟨fun hcj => ?_, fun hcj => ?_⟩
   ·have j1 : j < a.subs.length := by have := Za6 hcj; omega
    rw [Zc5 j1, Zbz] at hrj
    rw [Zf9 rfl j1]
    refine ⟨tle (by omega), teq (by simp), fun h0 => ?_, fun h0 => ?_⟩
    ·have h0 := Zxe h0
     rw [if_pos h0] at hrj
     have hm := List.getElem_mem j1
     have hbd := (Zov _ (l1.sub hm)).1 n' h0 (by omega)
     exact Zas (ihx.2 _ hm n' h0 (by omega)) ⟨_, rfl, rfl, tle (by omega), tle (by omega), ⟨j + 1, rfl, j1, ⟨hbd.1, by omega⟩, hrj⟩, dec j1⟩
    ·rw [if_neg (by have := Zxf h0; omega)] at hrj
     exact ⟨tle (by omega), tle (by omega), ⟨j + 1, rfl, j1, hn', hrj⟩, dec j1⟩
   ·have j1 : a.subs.length <= j := by have := Za7 hcj; omega
    rw [Zd9 j1, Zbz] at hrj
    refine Zas (ihx.1 n' hn'.1 hn'.2) ⟨_, rfl, rfl, tle (by omega), tle (by omega), ⟨i + 1, rfl, k1, ?_, ?_⟩, dec k1⟩
    ·have := Zju a.decls (fun y hy => (Zov y (l1.dec hy)).2) n' hn'.1 hn'.2
     omega
    ·rw [<- hr, Zlr, <- hrj]
 ·have k1 : l.length <= i := by have := Za7 hc; simp at this; omega
  rw [Zd9 k1] at hr
  exact ⟨by rw [<- hr]; rfl, rfl⟩
theorem Z2o : ∀ (r : Nd), All Big r -> H57 r /\ H42 r.decls /\ ∀ e ∈ r.subs, H57 e := by
 refine Zg4 fun r hs hd hb => ?_
 have ihs : ∀ e ∈ r.subs, H57 e := fun x hx => (hs x hx (hb.sub hx)).1
 have ihd : H42 r.decls := c42 r.decls hb.here.1.2.1 (fun x hx => hb.dec hx) fun x hx => (hd x hx (hb.dec hx)).2
 refine ⟨fun m m0 m1 => ?_, ihd, ihs⟩
 have b1 := hb.here
 have q1 := Zbk [r.text, r.n0, r.n1]
 have q3 := Zbk r.tail
 have o1 := Zue b1
 have L := b1.1
 refine w57 (encE r) m ?_
 simp only [Zdw, e0, e1, e2, e3, e4, e5, e6, e7, e8, isK_int, isK_str, isK_slc, Zcw, Zfv, Zcx, Bool.or_true, true_and, Zbg, Zbh, Zbe]
 refine ⟨teq rfl, tle (by omega), tle (by omega), tle (by omega), tle (by omega), Zcp [r.text, r.n0, r.n1], fun _ => c41 [r.text, r.n0, r.n1] (by simp) (fun s hs => b1.2.1 s (by simp only [List.mem_cons, List.not_mem_nil, or_false] at hs ⊢; rcases hs with h | h | h <;> simp [h])), ?_⟩
 rw [(tdv q1).1]
 refine ⟨tle (by omega), tle (by omega), tle (by omega), tle (by omega), Zcp r.tail, fun _ => c41 r.tail L.2.2.1 b1.2.2.1, ?_⟩
 rw [(tdv q3).1]
 have eo : m - 1 - (r.tail.length : Int) - Zcp [r.text, r.n0, r.n1] / 20 - Zcp r.tail / 20 = m - ownE r := by unfold ownE; omega
 rw [eo]
 refine ⟨tle (by omega), tle (by omega), tle (by omega), tle (by omega), fun n' x => ∃ j : Nat, x = j /\ j <= r.subs.length /\ (- 2 ^ 52 <= n' /\ n' <= 1000) /\ Zbz (r.subs.drop j) n' = Zbz r.subs (m - ownE r), fun _ x => r.subs.length - x.toNat, ⟨0, rfl, Nat.zero_le _, ⟨by omega, by omega⟩, rfl⟩, ?_, trivial⟩
 rintro n' x ⟨j, rfl, hj, hn', hrj⟩
 refine ⟨fun hcj => ?_, fun hcj => ?_⟩
 ·have j1 : j < r.subs.length := by have := Za6 hcj; omega
  rw [Zc5 j1, Zbz] at hrj
  rw [Zf9 rfl j1]
  refine ⟨tle (by omega), teq (by simp), fun h0 => ?_, fun h0 => ?_⟩
  ·have h0 := Zxe h0
   rw [if_pos h0] at hrj
   have hm := List.getElem_mem j1
   have hbd := (Zov _ (hb.sub hm)).1 n' h0 (by omega)
   exact Zas (ihs _ hm n' h0 (by omega)) ⟨_, rfl, rfl, tle (by omega), tle (by omega), ⟨j + 1, rfl, j1, ⟨hbd.1, by omega⟩, hrj⟩, dec j1⟩
  ·rw [if_neg (by have := Zxf h0; omega)] at hrj
   exact ⟨tle (by omega), tle (by omega), ⟨j + 1, rfl, j1, hn', hrj⟩, dec j1⟩
 ·have j1 : r.subs.length <= j := by have := Za7 hcj; omega
  rw [Zd9 j1, Zbz] at hrj
  exact Zas (ihd n' hn'.1 hn'.2) ⟨_, rfl, rfl, by rw [Zlq, <- hrj], rfl⟩
def smE (r : Nd) : Bool := decide (0 <= Zjs r 100)
theorem c16 (r : Nd) (h : All Big r) : Holds Tryz.prog 16 [.agg (encE r)] [] (Ret (Zjq (smE r))) :=
 w16 _ ⟨teq (by simp), Zas ((Z2o r h).1 100 (by omega) (by omega)) ⟨_, rfl, rfl, by simp [smE], rfl⟩⟩
mutual
def wE : Nd -> Int
 | .mk k n t a b tr le ta p s d => ownE (.mk k n t a b tr le ta p s d) + wEs s + wDs d
def wEs : List Nd -> Int
 | [] => 0
 | x :: l => wE x + wEs l
def wD : Nd -> Int
 | .mk k n t a b tr le ta p s d => ownD (.mk k n t a b tr le ta p s d) + wEs s + wDs d
def wDs : List Nd -> Int
 | [] => 0
 | x :: l => wD x + wDs l
end
theorem Zwj (r : Nd) : wE r = ownE r + wEs r.subs + wDs r.decls := by cases r; rw [wE]; rfl
theorem Zwk (r : Nd) : wD r = ownD r + wEs r.subs + wDs r.decls := by cases r; rw [wD]; rfl
theorem Zow (r : Nd) : (1 <= ownE r /\ (r.tail.length : Int) <= ownE r /\ Zcp [r.text, r.n0, r.n1] / 20 <= ownE r /\ Zcp r.tail / 20 <= ownE r) /\
 (1 <= ownD r /\ (r.tail.length : Int) + r.lead.length + 1 <= ownD r /\ Zcp [r.text, r.n0, r.n1, r.trail] / 20 <= ownD r /\ Zcp r.tail / 20 <= ownD r /\ Zcp r.lead / 20 <= ownD r) := by
 have h1 := Zbk [r.text, r.n0, r.n1]
 have h2 := Zbk [r.text, r.n0, r.n1, r.trail]
 have h3 := Zbk r.tail
 have h4 := Zbk r.lead
 unfold ownE ownD; omega
theorem Zls : ∀ {l : List Nd}, (∀ x ∈ l, 1 <= wE x) -> (l.length : Int) <= wEs l /\ ∀ x ∈ l, wE x <= wEs l
 | [], _ => ⟨by simp [wEs], fun _ h => by cases h⟩
 | x :: l, h => by
   have ih := Zls fun y hy => h y (List.mem_cons_of_mem _ hy)
   have hx := h x (List.mem_cons_self ..)
   rw [wEs]
   refine ⟨by simp only [List.length_cons]; omega, fun y hy => ?_⟩
   rcases List.mem_cons.1 hy with rfl | hy
   ·have := ih.1; omega
   ·have := ih.2 y hy; omega
theorem Zlt : ∀ {l : List Nd}, (∀ x ∈ l, 1 <= wD x) -> (l.length : Int) <= wDs l /\ ∀ x ∈ l, wD x <= wDs l
 | [], _ => ⟨by simp [wDs], fun _ h => by cases h⟩
 | x :: l, h => by
   have ih := Zlt fun y hy => h y (List.mem_cons_of_mem _ hy)
   have hx := h x (List.mem_cons_self ..)
   rw [wDs]
   refine ⟨by simp only [List.length_cons]; omega, fun y hy => ?_⟩
   rcases List.mem_cons.1 hy with rfl | hy
   ·have := ih.1; omega
   ·have := ih.2 y hy; omega
theorem Zwl : ∀ r : Nd, 1 <= wE r /\ 1 <= wD r := by
 refine Zg4 fun r hs hd => ?_
 have h1 := (Zls fun x hx => (hs x hx).1).1
 have h2 := (Zlt fun x hx => (hd x hx).2).1
 have h3 := Zow r
 rw [Zwj, Zwk]; omega
theorem Z1m : ∀ r : Nd, (∀ m, 0 <= Zjs r m -> wE r <= m /\ Zjs r m = m - wE r) /\ ∀ m, 0 <= Zlp r m -> wD r <= m /\ Zlp r m = m - wD r := by
 refine Zg4 fun r hs hd => ?_
 have kE : ∀ (l : List Nd), (∀ x ∈ l, x ∈ r.subs) -> ∀ m, 0 <= Zbz l m -> wEs l <= m /\ Zbz l m = m - wEs l := by
  intro l
  induction l with
  | nil => intro _ m h; simp only [Zbz, wEs] at *; omega
  | cons x l ih =>
    intro hl m h
    rw [Zbz] at h ⊢
    by_cases hm : 0 <= m
    ·rw [if_pos hm] at h ⊢
     have := ih (fun y hy => hl y (List.mem_cons_of_mem _ hy)) _ h
     have h0 : 0 <= Zjs x m := by
      by_cases hc : 0 <= Zjs x m
      ·exact hc
      ·rw [Zhj _ _ (by omega)] at h; exact h
     have hx := (hs x (hl x (List.mem_cons_self ..))).1 m h0
     rw [wEs]; omega
    ·rw [if_neg hm, Zhj _ _ (by omega)] at h; omega
 have kD : ∀ (l : List Nd), (∀ x ∈ l, x ∈ r.decls) -> ∀ m, 0 <= Zcq l m -> wDs l <= m /\ Zcq l m = m - wDs l := by
  intro l
  induction l with
  | nil => intro _ m h; simp only [Zcq, wDs] at *; omega
  | cons x l ih =>
    intro hl m h
    rw [Zcq] at h ⊢
    by_cases hm : m < 0
    ·rw [if_pos hm] at h; omega
    ·rw [if_neg hm] at h ⊢
     have := ih (fun y hy => hl y (List.mem_cons_of_mem _ hy)) _ h
     have h0 : 0 <= Zlp x m := by
      by_cases hc : 0 <= Zlp x m
      ·exact hc
      ·rw [Zrk _ _ (by omega)] at h; exact h
     have hx := (hd x (hl x (List.mem_cons_self ..))).2 m h0
     rw [wDs]; omega
 have h1 := (Zls (l := r.subs) fun x _ => (Zwl x).1).1
 have h2 := (Zlt (l := r.decls) fun x _ => (Zwl x).2).1
 refine ⟨fun m h => ?_, fun m h => ?_⟩
 ·rw [Zlq] at h ⊢
  have a := kD _ (fun _ h => h) _ h
  have b := kE r.subs (fun _ h => h) (m - ownE r) (by omega)
  rw [Zwj]; omega
 ·rw [Zlr] at h ⊢
  have a := kD _ (fun _ h => h) _ h
  have b := kE r.subs (fun _ h => h) (m - ownD r) (by omega)
  rw [Zwk]; omega
mutual
def wfE : Nd -> Prop
 | .mk _ _ _ _ _ tr le _ _ s d => (tr = [] /\ le = []) /\ wfEs s /\ wfDs d
def wfEs : List Nd -> Prop
 | [] => True
 | x :: l => wfE x /\ wfEs l
def wfD : Nd -> Prop
 | .mk _ _ _ _ _ _ _ _ _ s d => wfEs s /\ wfDs d
def wfDs : List Nd -> Prop
 | [] => True
 | x :: l => wfD x /\ wfDs l
end
theorem Z1n (r : Nd) : wfE r ↔ (r.trail = [] /\ r.lead = []) /\ wfEs r.subs /\ wfDs r.decls := by cases r; rw [wfE]; rfl
theorem Z1o (r : Nd) : wfD r ↔ wfEs r.subs /\ wfDs r.decls := by cases r; rw [wfD]; rfl
theorem Zh7 : ∀ (l : List Nd), wfEs l ↔ ∀ x ∈ l, wfE x
 | [] => by simp [wfEs]
 | x :: l => by rw [wfEs, Zh7 l]; simp
theorem Zh8 : ∀ (l : List Nd), wfDs l ↔ ∀ x ∈ l, wfD x
 | [] => by simp [wfDs]
 | x :: l => by rw [wfDs, Zh8 l]; simp
theorem Zjv {l : List Tx} (h : Zcp l / 20 <= 400) : ∀ s ∈ l, s.length <= 10000 := fun s hs => by
 have := Zks l 0 s (by omega) (by omega) hs (show Zcp l < 10000 by omega)
 have h2 : Zcp l <= 8019 := by omega
 have : (s.length : Int) <= Zcp l := this
 omega
abbrev Sml (r : Nd) : Prop := BigB 10000 r
theorem Z1p : ∀ r : Nd, (wfE r -> wE r <= 400 -> All Sml r) /\ (wfD r -> wD r <= 400 -> All Sml r) := by
 refine Zg4 fun r hs hd => ?_
 have h1 := Zls (l := r.subs) fun x _ => (Zwl x).1
 have h2 := Zlt (l := r.decls) fun x _ => (Zwl x).2
 have h3 := Zow r
 have q1 := Zbk [r.text, r.n0, r.n1]
 refine ⟨fun hw h => ?_, fun hw h => ?_⟩
 ·rw [Zwj] at h
  rw [Z1n, Zh7, Zh8] at hw
  obtain ⟨⟨w1, w2⟩, w3, w4⟩ := hw
  refine .mk ⟨⟨by omega, by omega, by omega, by rw [w2]; simp⟩, ?_, Zjv (by omega), by rw [w2]; simp⟩ (fun x hx => (hs x hx).1 (w3 x hx) (by have := h1.2 x hx; omega)) (fun x hx => (hd x hx).2 (w4 x hx) (by have := h2.2 x hx; omega))
  have := Zjv (l := [r.text, r.n0, r.n1]) (by omega)
  rw [w1]
  intro s hs
  simp only [List.mem_cons, List.not_mem_nil, or_false] at hs this
  rcases hs with h | h | h | h
  ·exact this s (.inl h)
  ·exact this s (.inr (.inl h))
  ·exact this s (.inr (.inr h))
  ·subst h; simp
 ·rw [Zwk] at h
  rw [Z1o, Zh7, Zh8] at hw
  exact .mk ⟨⟨by omega, by omega, by omega, by omega⟩, Zjv (by omega), Zjv (by omega), Zjv (by omega)⟩ (fun x hx => (hs x hx).1 (hw.1 x hx) (by have := h1.2 x hx; omega)) (fun x hx => (hd x hx).2 (hw.2 x hx) (by have := h2.2 x hx; omega))
theorem Zqg {r : Nd} (hw : wfE r) (h : smE r = true) : All Sml r /\ wE r <= 100 := by
 have := (Z1m r).1 100 (by simpa [smE] using h)
 exact ⟨(Z1p r).1 hw (by omega), this.1⟩
end Go.Sy
end
section
open Go Go.Proofs Go.Ab Go.Rf Go.ChangeShapes Go.WideShapes
set_option maxRecDepth 100000
set_option linter.unusedSimpArgs false
namespace Go.Sy
def prW (w : World) : Nat -> Nat -> Prop := fun b _ => b < w.heap.size
def ghW (w : World) : Gh := ⟨prW w, fun _ => 0, fun _ => 0, fun _ => False⟩
theorem Zzj {w : World} {a : Addr} {v : Value} (h : w.cell? a = some v) : a.block < w.heap.size := by
 unfold World.cell? at h
 by_cases hb : a.block < w.heap.size
 ·exact hb
 ·simp [Array.getElem?_eq_none (by omega : w.heap.size <= a.block)] at h
theorem Zug {w : World} {a : Addr} {n : Nat} {cs : List Value} (h : w.cells? 0 a n = some cs) : cs.length = n /\ ∀ i, i < n -> w.cell? (a.add i) = cs[i]? := by
 unfold World.cells? at h
 rw [if_pos (Nat.zero_le _)] at h
 have hl := mapM_some_length h
 simp only [List.length_range] at hl
 refine ⟨hl, fun i hi => mapM_some_get h i i (by simp [hi])⟩
theorem Zuh {α β : Type} {R : α -> β -> Prop} : ∀ {l : List α} {m : List β}, All2 R l m -> ∀ (i : Nat) (h : i < l.length), ∃ b, m[i]? = some b /\ R l[i] b
 | a :: l, b :: m, ⟨h1, _⟩, 0, _ => ⟨b, rfl, h1⟩
 | a :: l, b :: m, ⟨_, h2⟩, i + 1, h => by
   obtain ⟨c, h3, h4⟩ := Zuh h2 i (by simpa using h)
   exact ⟨c, by simpa using h3, by simpa using h4⟩
 | [], _, _, i, h => by simp at h
theorem Zlu {α β : Type} {R : α -> β -> Prop} : ∀ {l : List α} {m : List β}, All2 R l m -> l.length = m.length
 | [], [], _ => rfl
 | _ :: _, _ :: _, ⟨_, h⟩ => by simp [Zlu h]
 | [], _ :: _, h => h.elim
 | _ :: _, [], h => h.elim
section
variable {H : Type} {en : TypeId × Value -> H} {w : World}
theorem Z1q {α : Type} {E : α -> List D} {n : Nat} (hn : 0 < n) (hE : ∀ a, (E a).length = n) {b off cap : Nat} (l : List α) (hc : l.length <= cap) (V : Nat -> List Value)
 (h : ∀ i (hi : i < l.length), All2 (RepD w (prW w)) (E l[i]) (V i) /\ ∀ j, j < n -> w.cell? ⟨b, off + (i * n + j), none⟩ = (V i)[j]?) :
 RepD w (prW w) (.slc (l.map E)) (.slice (some ⟨b, off, none⟩) l.length cap) := by
 have hk : ∀ k, k < l.length * n -> w.cell? ⟨b, off + k, none⟩ = some ((V (k / n)).getD (k % n) .nilIface) := by
  intro k hk
  have hi : k / n < l.length := Nat.div_lt_of_lt_mul (by rw [Nat.mul_comm]; exact hk)
  obtain ⟨h1, h3⟩ := h _ hi
  have hl := Zlu h1
  rw [hE] at hl
  have := h3 (k % n) (Nat.mod_lt _ hn)
  rw [show k / n * n + k % n = k by rw [Nat.mul_comm]; exact Nat.div_add_mod k n] at this
  rw [this, List.getElem?_eq_getElem (by rw [<- hl]; exact Nat.mod_lt _ hn)]
  simp [List.getD, List.getElem?_eq_getElem (show k % n < (V (k / n)).length by rw [<- hl]; exact Nat.mod_lt _ hn)]
 have hlen : (l.map E).length = l.length := by simp
 rw [<- hlen]
 refine .slc (l.map E) n b off cap _ hn ?_ (by rw [hlen]; exact hc) (fun k hk' => hk k (by rw [hlen] at hk'; exact hk')) (fun k hk' => Zzj (hk k (by rw [hlen] at hk'; exact hk'))) ?_
 ·intro e he
  obtain ⟨a, _, rfl⟩ := List.mem_map.1 he
  exact hE a
 ·intro i j hi hj
  have hi' : i < l.length := by rw [hlen] at hi; exact hi
  have e : (l.map E)[i] = E l[i] := by simp
  have hj' : j < n := by rw [e, hE] at hj; exact hj
  obtain ⟨h1, _⟩ := h i hi'
  obtain ⟨v, hv, hr⟩ := Zuh h1 j (by rw [hE]; exact hj')
  have e1 : (i * n + j) / n = i := by rw [Nat.mul_comm, Nat.mul_add_div hn, Nat.div_eq_of_lt hj', Nat.add_zero]
  have e2 : (i * n + j) % n = j := by rw [Nat.mul_comm, Nat.mul_add_mod, Nat.mod_eq_of_lt hj']
  rw [e1, e2]
  simp only [e]
  simpa [List.getD, hv] using hr
def Fit (t : TypeId) (x : DataW H × List MemPlace) : Prop := ∀ k ∈ x.1.weights Tryz.prog t, k <= reachBytes
theorem Zed {P : Program} {e : TypeId} {k : Nat} : ∀ {l : List (DataW H)} {d : DataW H}, d ∈ l -> k ∈ d.weights P e -> k ∈ DataW.weightsAll P e l
 | a :: l, d, h, hk => by
   unfold DataW.weightsAll
   rcases List.mem_cons.1 h with rfl | h
   ·exact List.mem_append_left _ hk
   ·exact List.mem_append_right _ (Zed h hk)
theorem Zhk {α : Type} {E : α -> List D} {Good : α -> Prop} {n : Nat} {t e : TypeId} (ht : Tryz.prog.underlying t = some (.slice e)) (hc : Tryz.prog.cellsOf e = n) (hn : 0 < n) (hby : 1 <= Tryz.prog.bytesOf e) (hE : ∀ a, (E a).length = n) {fuel : Nat}
 (ih : ∀ q < fuel, ∀ (cs : List Value) (x : DataW H × List MemPlace), DataW.trod en Tryz.prog w 0 (fun _ => true) true q e cs = some x -> Fit e x -> ∃ a : α, All2 (RepD w (prW w)) (E a) cs /\ Good a)
 {v : Value} {x : DataW H × List MemPlace} (h : DataW.trod en Tryz.prog w 0 (fun _ => true) true fuel t [v] = some x) (hz : Fit t x) :
 ∃ l : List α, RepD w (prW w) (.slc (l.map E)) v /\ l.length <= 2 ^ 50 /\ ∀ a ∈ l, Good a := by
 rcases DataW.trod_slice ht h with ⟨e1, _⟩ | ⟨ad, len, cap, elems, rest, q, hq, e1, hx, _, hlc, _, hel, hes, _⟩
 ·have e1 : v = .slice none 0 0 := by simpa using e1
  exact ⟨[], by rw [e1]; exact .emp _ _, by simp, fun _ h => by cases h⟩
 ·have e1 : v = .slice (some ad) len cap := by simpa using e1
  rw [hc] at hes
  subst hx
  have hW : (elems.map (·.1)).length * Tryz.prog.bytesOf e <= reachBytes /\ ∀ y ∈ elems, Fit e y := by
   unfold Fit at hz
   simp only [DataW.weights, ht, List.mem_cons, List.mem_append] at hz
   refine ⟨Nat.le_trans (Nat.mul_le_mul_right _ (Nat.le_add_right _ _)) (hz _ (.inl rfl)), fun y hy k hk => hz k (.inr (.inl (Zed (List.mem_map.2 ⟨y, hy, rfl⟩) hk)))⟩
  have hlen : len <= 2 ^ 50 := by
   have h1 := hW.1
   rw [List.length_map, hel] at h1
   have h2 : len * 1 <= len * Tryz.prog.bytesOf e := Nat.mul_le_mul_left _ hby
   have h3 : reachBytes <= 2 ^ 50 := by decide
   omega
  have hall : ∀ i, i < len -> ∃ (r : α) (V : List Value), All2 (RepD w (prW w)) (E r) V /\ Good r /\ ∀ j, j < n -> w.cell? ((ad.add (i * n)).add j) = V[j]? := by
   intro i hi
   have h3 := hes i hi
   have hi' : i < elems.length := by omega
   rw [List.getElem?_eq_getElem hi'] at h3
   obtain ⟨cs', h4, h5⟩ := Option.bind_eq_some_iff.1 h3
   obtain ⟨r, h7, h8⟩ := ih q (by omega) _ _ h5 (hW.2 _ (List.getElem_mem hi'))
   exact ⟨r, cs', h7, h8, (Zug h4).2⟩
  by_cases h0 : len = 0
  ·subst h0; exact ⟨[], by rw [e1]; exact .emp _ _, by simp, fun _ h => by cases h⟩
  ·have hall' : ∃ (f : Nat -> α) (V : Nat -> List Value), ∀ i, i < len -> All2 (RepD w (prW w)) (E (f i)) (V i) /\ Good (f i) /\ ∀ j, j < n -> w.cell? ((ad.add (i * n)).add j) = (V i)[j]? := by
    classical
    obtain ⟨a0, _⟩ := hall 0 (by omega)
    refine ⟨fun i => if h : i < len then (hall i h).choose else a0, fun i => if h : i < len then (hall i h).choose_spec.choose else [], fun i hi => ?_⟩
    simp only [hi, dif_pos]
    exact (hall i hi).choose_spec.choose_spec
   obtain ⟨f, V, hfV⟩ := hall'
   subst e1
   refine ⟨(List.range len).map f, ?_, by simpa using hlen, fun r hr => ?_⟩
   ·have sp : ad.spot = none := by
     have h1 := (hfV 0 (by omega)).2.2 0 hn
     have hl := Zlu (hfV 0 (by omega)).1
     rw [hE] at hl
     rw [List.getElem?_eq_getElem (by omega)] at h1
     simpa [Addr.add] using World.cell?_spot h1
    obtain ⟨bb, off, spot⟩ := ad
    subst sp
    have := Z1q (w := w) hn hE (b := bb) (off := off) (cap := cap) ((List.range len).map f) (by simpa using hlc) V (fun i hi => by
     have hi' : i < len := by simpa using hi
     obtain ⟨k2, _, k4⟩ := hfV i hi'
     refine ⟨by simpa using k2, fun j hj => ?_⟩
     rw [<- k4 j hj, <- Go.WideShapes.add_plain, Go.Deep.add_add])
    simpa using this
   ·obtain ⟨i, hi, rfl⟩ := List.mem_map.1 hr
    exact (hfV i (List.mem_range.1 hi)).2.1
theorem Zfq {t : TypeId} (ht : Tryz.prog.underlying t = some .string) {fuel : Nat} {cs : List Value} {x : DataW H × List MemPlace} (h : DataW.trod en Tryz.prog w 0 (fun _ => true) true fuel t cs = some x) (hz : Fit t x) :
 ∃ s : Tx, cs = [Zaa s] /\ s.length <= 2 ^ 50 := by
 obtain ⟨s, h1, h2, _⟩ := DataW.trod_string ht h
 refine ⟨s.data.toList, by rw [h1]; simp [Zaa], ?_⟩
 subst h2
 have := hz s.data.toList.length (by simp [DataW.weights])
 have h3 : reachBytes <= 2 ^ 50 := by decide
 omega
theorem Zdx {P : Program} {k : Nat} : ∀ {ts : List TypeId} {l : List (DataW H)} {i : Nat} {t : TypeId} {d : DataW H}, ts[i]? = some t -> l[i]? = some d -> k ∈ d.weights P t -> k ∈ DataW.weightsEach P ts l
 | t :: ts, a :: l, 0, _, _, h1, h2, hk => by
   unfold DataW.weightsEach
   cases h1; cases h2
   exact List.mem_append_left _ hk
 | t :: ts, a :: l, i + 1, _, _, h1, h2, hk => by
   unfold DataW.weightsEach
   exact List.mem_append_right _ (Zdx (by simpa using h1) (by simpa using h2) hk)
 | [], _, _, _, _, h1, _, _ => by simp at h1
 | _ :: _, [], _, _, _, _, h2, _ => by simp at h2
theorem Zjw {t : TypeId} {fs : Array Field} (ht : Tryz.prog.underlying t = some (.struct fs)) {fuel : Nat} {cs : List Value} {x : DataW H × List MemPlace} (h : DataW.trod en Tryz.prog w 0 (fun _ => true) true fuel t cs = some x) (hz : Fit t x) :
 cs.length = Tryz.prog.cellsOf t /\ ∃ n < fuel, ∀ (i : Nat) (ty : TypeId) (off : Nat), (fs[i]?).map (fun f => (f.type, f.offset)) = some (ty, off) -> ∃ y, DataW.trod en Tryz.prog w 0 (fun _ => true) true n ty ((cs.drop off).take (Tryz.prog.cellsOf ty)) = some y /\ Fit ty y := by
 obtain ⟨xs, n, rfl, rfl, hl, hxs, hf⟩ := DataW.trod_struct ht h
 refine ⟨hl, n, Nat.lt_succ_self n, fun i ty off hm => ?_⟩
 obtain ⟨f, hi, he⟩ := Option.map_eq_some_iff.1 hm
 cases he
 have hi' : i < xs.length := by
  rw [hxs]
  exact (Array.getElem?_eq_some_iff.1 hi).1
 refine ⟨xs[i], by rw [hf i f hi, List.getElem?_eq_getElem hi'], fun k hk => hz k ?_⟩
 unfold DataW.weights
 rw [ht]
 refine Zdx (i := i) (t := f.type) (d := xs[i].1) ?_ ?_ hk
 ·rw [List.getElem?_map, Array.getElem?_toList, hi]; rfl
 ·rw [List.getElem?_map, List.getElem?_eq_getElem hi']; rfl
theorem Zrl {t e : TypeId} {n : Nat} (ht : Tryz.prog.underlying t = some (.array n e)) {fuel : Nat} {cs : List Value} {x : DataW H × List MemPlace} (h : DataW.trod en Tryz.prog w 0 (fun _ => true) true fuel t cs = some x) (hz : Fit t x) :
 cs.length = Tryz.prog.cellsOf t /\ ∃ m < fuel, ∀ i < n, ∃ y, DataW.trod en Tryz.prog w 0 (fun _ => true) true m e ((cs.drop (i * Tryz.prog.cellsOf e)).take (Tryz.prog.cellsOf e)) = some y /\ Fit e y := by
 obtain ⟨xs, m, rfl, rfl, hl, hxs, hf⟩ := DataW.trod_array ht h
 refine ⟨hl, m, Nat.lt_succ_self m, fun i hi => ?_⟩
 have hi' : i < xs.length := by omega
 refine ⟨xs[i], by rw [hf i hi, List.getElem?_eq_getElem hi'], fun k hk => hz k ?_⟩
 unfold DataW.weights
 rw [ht]
 exact Zed (List.mem_map.2 ⟨xs[i], List.getElem_mem hi', rfl⟩) hk
theorem Zxk : Tryz.prog.cellsOf 3 = 1 := by kernel_rfl
theorem Zqh : Tryz.prog.cellsOf 9 = 1 := by kernel_rfl
theorem Zxl : Tryz.prog.cellsOf 2 = 1 := by kernel_rfl
theorem Zui : Tryz.prog.cellsOf 31 = 2 := by kernel_rfl
theorem Zuj : Tryz.prog.cellsOf 32 = 1 := by kernel_rfl
theorem Zuk : Tryz.prog.cellsOf 23 = 1 := by kernel_rfl
theorem Zul : Tryz.prog.cellsOf 24 = 1 := by kernel_rfl
theorem Zum : Tryz.prog.cellsOf 34 = 9 := by kernel_rfl
theorem Zun : Tryz.prog.cellsOf 52 = 11 := by kernel_rfl
theorem by9 : 1 <= Tryz.prog.bytesOf 9 := of_decide_eq_true (by kernel_rfl)
theorem by34 : 1 <= Tryz.prog.bytesOf 34 := of_decide_eq_true (by kernel_rfl)
theorem by52 : 1 <= Tryz.prog.bytesOf 52 := of_decide_eq_true (by kernel_rfl)
theorem Zlv {fuel : Nat} {v : Value} {x : DataW H × List MemPlace} (h : DataW.trod en Tryz.prog w 0 (fun _ => true) true fuel 24 [v] = some x) (hz : Fit 24 x) :
 ∃ l : List Tx, RepD w (prW w) (.slc (txs l)) v /\ l.length <= 2 ^ 50 /\ ∀ s ∈ l, s.length <= 2 ^ 50 :=
 Zhk (E := fun s => [dS s]) Tryz.underlying24 Zqh (by decide) by9 (fun _ => rfl) (fun q _ cs y hy hf => by
  obtain ⟨s, rfl, hs⟩ := Zfq Tryz.underlying9 hy hf
  exact ⟨s, ⟨.lit _ rfl, trivial⟩, hs⟩) h hz
theorem Zkt {fuel : Nat} {a b : Value} {x : DataW H × List MemPlace} (h : DataW.trod en Tryz.prog w 0 (fun _ => true) true fuel 31 [a, b] = some x) (hz : Fit 31 x) :
 ∃ s t : Tx, a = Zaa s /\ b = Zaa t /\ s.length <= 2 ^ 50 /\ t.length <= 2 ^ 50 := by
 obtain ⟨_, m, _, hf⟩ := Zrl Tryz.underlying31 h hz
 rw [Zqh] at hf
 obtain ⟨y, h1, h2⟩ := hf 0 (by decide)
 obtain ⟨z, h3, h4⟩ := hf 1 (by decide)
 obtain ⟨s, e1, hs⟩ := Zfq Tryz.underlying9 h1 h2
 obtain ⟨t, e2, ht⟩ := Zfq Tryz.underlying9 h3 h4
 exact ⟨s, t, by simpa using e1, by simpa using e2, hs, ht⟩
abbrev Zzk (H : Type) (en : TypeId × Value -> H) (w : World) (fuel : Nat) : Prop := ∀ (cs : List Value) (x : DataW H × List MemPlace), DataW.trod en Tryz.prog w 0 (fun _ => true) true fuel 34 cs = some x -> Fit 34 x -> ∃ r : Nd, All2 (RepD w (prW w)) (encE r) cs /\ wfE r /\ All Big r
abbrev Zzl (H : Type) (en : TypeId × Value -> H) (w : World) (fuel : Nat) : Prop := ∀ (cs : List Value) (x : DataW H × List MemPlace), DataW.trod en Tryz.prog w 0 (fun _ => true) true fuel 52 cs = some x -> Fit 52 x -> ∃ r : Nd, All2 (RepD w (prW w)) (encD r) cs /\ wfD r /\ All Big r
theorem Zuo {fuel : Nat} (ih : ∀ q < fuel, Zzk H en w q) {v : Value} {x : DataW H × List MemPlace} (h : DataW.trod en Tryz.prog w 0 (fun _ => true) true fuel 32 [v] = some x) (hz : Fit 32 x) :
 ∃ l : List Nd, RepD w (prW w) (.slc (Zew l)) v /\ l.length <= 2 ^ 50 /\ wfEs l /\ ∀ r ∈ l, All Big r := by
 obtain ⟨l, h1, h2, h3⟩ := Zhk (E := encE) (Good := fun r => wfE r /\ All Big r) Tryz.underlying32 Zum (by decide) by34 Zdw ih h hz
 exact ⟨l, by rw [Zdu]; exact h1, h2, (Zh7 l).2 fun r hr => (h3 r hr).1, fun r hr => (h3 r hr).2⟩
theorem Zup {fuel : Nat} (ih : ∀ q < fuel, Zzl H en w q) {v : Value} {x : DataW H × List MemPlace} (h : DataW.trod en Tryz.prog w 0 (fun _ => true) true fuel 23 [v] = some x) (hz : Fit 23 x) :
 ∃ l : List Nd, RepD w (prW w) (.slc (Zco l)) v /\ l.length <= 2 ^ 50 /\ wfDs l /\ ∀ r ∈ l, All Big r := by
 obtain ⟨l, h1, h2, h3⟩ := Zhk (E := encD) (Good := fun r => wfD r /\ All Big r) Tryz.underlying23 Zun (by decide) by52 Zb5 ih h hz
 exact ⟨l, by rw [Zdv]; exact h1, h2, (Zh8 l).2 fun r hr => (h3 r hr).1, fun r hr => (h3 r hr).2⟩
theorem Zzm (fuel : Nat) : Zzk H en w fuel /\ Zzl H en w fuel := by
 induction fuel using Nat.strongRecOn with
 | ind fuel ih =>
   have ihE : ∀ q < fuel, Zzk H en w q := fun q hq => (ih q hq).1
   have ihD : ∀ q < fuel, Zzl H en w q := fun q hq => (ih q hq).2
   refine ⟨fun cs x h hz => ?_, fun cs x h hz => ?_⟩
   ·obtain ⟨hl, n, hn, hf⟩ := Zjw Tryz.underlying34 h hz
    rw [Zum] at hl
    match cs, hl with
    | [v0, v1, v2, v3, v4, v5, v6, v7, v8], _ =>
      obtain ⟨y0, a0, b0⟩ := hf 0 3 0 rfl
      obtain ⟨y1, a1, b1⟩ := hf 1 9 1 rfl
      obtain ⟨y2, a2, b2⟩ := hf 2 2 2 rfl
      obtain ⟨y3, a3, b3⟩ := hf 3 31 3 rfl
      obtain ⟨y4, a4, b4⟩ := hf 4 32 5 rfl
      obtain ⟨y5, a5, b5⟩ := hf 5 23 6 rfl
      obtain ⟨y6, a6, b6⟩ := hf 6 24 7 rfl
      obtain ⟨y7, a7, b7⟩ := hf 7 3 8 rfl
      simp only [Zxk, Zqh, Zxl, Zui, Zuj, Zuk, Zul] at a0 a1 a2 a3 a4 a5 a6 a7
      obtain ⟨k, e0, _⟩ := DataW.trod_int Tryz.underlying3 a0
      obtain ⟨t, e1, g1⟩ := Zfq Tryz.underlying9 a1 b1
      obtain ⟨m, e2, _⟩ := DataW.trod_int Tryz.underlying2 a2
      obtain ⟨p, q, e3, e4, g3, g4⟩ := Zkt a3 b3
      obtain ⟨s, e5, l5, f5, g5⟩ := Zuo (fun q hq => ihE q (by omega)) a4 b4
      obtain ⟨d, e6, l6, f6, g6⟩ := Zup (fun q hq => ihD q (by omega)) a5 b5
      obtain ⟨c, e7, l7, g7⟩ := Zlv a6 b6
      obtain ⟨o, e8, _⟩ := DataW.trod_int Tryz.underlying3 a7
      have u0 : v0 = _ := (List.cons.inj (show [v0] = _ from e0)).1
      have u1 : v1 = _ := (List.cons.inj (show [v1] = _ from e1)).1
      have u2 : v2 = _ := (List.cons.inj (show [v2] = _ from e2)).1
      have u8 : v8 = _ := (List.cons.inj (show [v8] = _ from e8)).1
      subst u0 u1 u2 e3 e4 u8
      refine ⟨.mk k m t p q [] [] c o s d, ?_, ?_, .mk ⟨⟨l5, l6, l7, by simp [Nd.lead]⟩, ?_, g7, by simp [Nd.lead]⟩ g5 g6⟩
      ·rw [encE]
       exact ⟨.lit _ rfl, .lit _ rfl, .lit _ rfl, .lit _ rfl, .lit _ rfl, e5, e6, e7, .lit _ rfl, trivial⟩
      ·rw [wfE]; exact ⟨⟨rfl, rfl⟩, f5, f6⟩
      ·intro z hz
       simp only [Nd.text, Nd.n0, Nd.n1, Nd.trail, List.mem_cons, List.not_mem_nil, or_false] at hz
       rcases hz with rfl | rfl | rfl | rfl
       ·exact g1
       ·exact g3
       ·exact g4
       ·simp
   ·obtain ⟨hl, n, hn, hf⟩ := Zjw Tryz.underlying52 h hz
    rw [Zun] at hl
    match cs, hl with
    | [v0, v1, v2, v3, v4, v5, v6, v7, v8, v9, v10], _ =>
      obtain ⟨y0, a0, b0⟩ := hf 0 3 0 rfl
      obtain ⟨y1, a1, b1⟩ := hf 1 3 1 rfl
      obtain ⟨y2, a2, b2⟩ := hf 2 9 2 rfl
      obtain ⟨y3, a3, b3⟩ := hf 3 31 3 rfl
      obtain ⟨y4, a4, b4⟩ := hf 4 32 5 rfl
      obtain ⟨y5, a5, b5⟩ := hf 5 23 6 rfl
      obtain ⟨y6, a6, b6⟩ := hf 6 24 7 rfl
      obtain ⟨y7, a7, b7⟩ := hf 7 24 8 rfl
      obtain ⟨y8, a8, b8⟩ := hf 8 9 9 rfl
      obtain ⟨y9, a9, b9⟩ := hf 9 3 10 rfl
      simp only [Zxk, Zqh, Zxl, Zui, Zuj, Zuk, Zul] at a0 a1 a2 a3 a4 a5 a6 a7 a8 a9
      obtain ⟨k, e0, _⟩ := DataW.trod_int Tryz.underlying3 a0
      obtain ⟨m, e1, _⟩ := DataW.trod_int Tryz.underlying3 a1
      obtain ⟨t, e2, g1⟩ := Zfq Tryz.underlying9 a2 b2
      obtain ⟨p, q, e3, e4, g3, g4⟩ := Zkt a3 b3
      obtain ⟨s, e5, l5, f5, g5⟩ := Zuo (fun q hq => ihE q (by omega)) a4 b4
      obtain ⟨d, e6, l6, f6, g6⟩ := Zup (fun q hq => ihD q (by omega)) a5 b5
      obtain ⟨c, e7, l7, g7⟩ := Zlv a6 b6
      obtain ⟨le, e8, l8, g8⟩ := Zlv a7 b7
      obtain ⟨tr, e9, g9⟩ := Zfq Tryz.underlying9 a8 b8
      obtain ⟨o, e10, _⟩ := DataW.trod_int Tryz.underlying3 a9
      have u0 : v0 = _ := (List.cons.inj (show [v0] = _ from e0)).1
      have u1 : v1 = _ := (List.cons.inj (show [v1] = _ from e1)).1
      have u2 : v2 = _ := (List.cons.inj (show [v2] = _ from e2)).1
      have u9 : v9 = _ := (List.cons.inj (show [v9] = _ from e9)).1
      have u10 : v10 = _ := (List.cons.inj (show [v10] = _ from e10)).1
      subst u0 u1 u2 e3 e4 u9 u10
      refine ⟨.mk k m t p q tr le c o s d, ?_, ?_, .mk ⟨⟨l5, l6, l7, l8⟩, ?_, g7, g8⟩ g5 g6⟩
      ·rw [encD]
       exact ⟨.lit _ rfl, .lit _ rfl, .lit _ rfl, .lit _ rfl, .lit _ rfl, e5, e6, e7, e8, .lit _ rfl, .lit _ rfl, trivial⟩
      ·rw [wfD]; exact ⟨f5, f6⟩
      ·intro z hz
       simp only [Nd.text, Nd.n0, Nd.n1, Nd.trail, List.mem_cons, List.not_mem_nil, or_false] at hz
       rcases hz with rfl | rfl | rfl | rfl
       ·exact g1
       ·exact g3
       ·exact g4
       ·exact g9
end
end Go.Sy
end
section
open Go Go.Proofs Go.Ab Go.Rf Go.ChangeShapes Go.WideShapes Go.ChangeAt
set_option maxRecDepth 100000
namespace Go.Sy
theorem lay : laidOutB Tryz.prog = true := by kernel_rfl
theorem own : ownKnob Tryz.prog.godebug = none := by kernel_rfl
theorem Holds.out {P : Program} {f : FuncId} {args : List A} {v : A} (h : Holds P f args [] (Ret v)) {w : World} {cargs : Array Value}
 (ha : All2 (fun x v => ∀ p, RepA w (ghW w) (fun _ => 0) p x v) args cargs.toList) :
 CallsX P f cargs w fun e w' => ∃ cv g', e = .returned cv /\ RepA w' g' (fun _ => 0) .res v cv /\ RowKit.Below w.heap.size w w' := by
 have hh : HeapRel (Zbc P w (ghW w) [] 0) (Zbs []) (ghW w) w := by
  have no : ∀ {o b}, ¬ Owns (Zbs []) (ghW w) o b := fun ho => by
   cases ho with
   | box h => cases h
   | slot h => cases h
   | cell h _ _ => cases h
  exact ⟨fun r c h => (by cases h), fun o o' b h _ => (no h).elim, fun o b h => (no h).elim, fun b o h => h, fun _ _ h => h, fun _ _ h => .inl h, fun _ => rfl, fun _ h => h, Fr.refl _ _ _⟩
 refine (h w cargs (ghW w) ha hh).mono fun e w' ⟨out, H', g', hR, hH, hr, he⟩ => ?_
 obtain ⟨rfl, rfl⟩ := hR
 obtain ⟨cv, rfl, h1, _⟩ := he
 refine ⟨cv, g', rfl, h1, hr.fr.os, hr.fr.tape, hr.fr.output, hr.fr.size, fun b hb => hr.fr.same b hb ?_⟩
 rintro ⟨o, ho⟩
 cases ho with
 | box h => cases h
 | slot h => cases h
 | cell h _ _ => cases h
theorem Zox {P : Program} {f : FuncId} {fn : Func} {c : Code} (hf : P.funcs[f]? = some fn) (hb : fn.body = some c) (hn : (fn.name == "runtime.NumGoroutine") = false) {args : Array Value} {w : World} {R : Ending -> World -> Prop}
 (h : CallsX P f args w R) : Calls P f args w R := by
 unfold CallsX at h
 rw [Zhp hf hb hn] at h
 exact h
section
variable {H : Type} {en : TypeId × Value -> H} {w : World} {base : Nat} {sp : Nat -> Bool}
theorem Z1r {v : Value} {d : DataW H} {p : List MemPlace} (hv : Value.okWide Tryz.prog w .any base 34 v) (h : DataW.Trod en Tryz.prog w 0 (fun _ => true) true 34 v d p) (hz : ∀ k ∈ d.weights Tryz.prog 34, k <= reachBytes) :
 ∃ r : Nd, (∀ q, RepA w (ghW w) (fun _ => 0) q (.agg (encE r)) v) /\ All Big r /\ wfE r := by
 obtain ⟨fuel, h⟩ := h
 simp only [Value.okWide, Tryz.underlying34] at hv
 obtain ⟨cs, rfl, _⟩ := hv
 obtain ⟨f, h2, h3, h4⟩ := (Zzm fuel).1 _ _ h hz
 exact ⟨f, fun q => ⟨cs.toList, by simp, h2⟩, h4, h3⟩
theorem Znj (hl : laidOutB Tryz.prog = true) {W W' : World} : ∀ {ts : List TypeId} {vs : List Value} {ds : List (DataW H)} {ps : List MemPlace}, (∀ t ∈ ts, Tryz.prog.readableRec t = true /\ t < Tryz.prog.types.size) ->
 DataW.TrodAll en Tryz.prog W 0 (fun _ => true) true ts vs ds ps -> RowKit.Below W.heap.size W W' -> (∀ p ∈ ps, p.block < W.heap.size) -> (∀ p ∈ ps, sp p.block = true) -> DataW.TrodAll en Tryz.prog W' 0 sp true ts vs ds ps
 | [], _, _, _, _, h, _, _, _ => by
   obtain ⟨rfl, rfl, rfl⟩ := trodAll_nil h
   rfl
 | t :: ts, _, _, _, ht, h, hb, hlt, hs => by
   obtain ⟨v, vs1, d, ds1, a, b, rfl, rfl, rfl, h1, h2⟩ := trodAll_cons h
   refine ⟨a, b, ?_, Znj hl (fun t h => ht t (List.mem_cons_of_mem _ h)) h2 hb (fun p hp => hlt p (List.mem_append_right _ hp)) (fun p hp => hs p (List.mem_append_right _ hp)), rfl⟩
   exact WideElems.Trod_stays hl (ht t (List.mem_cons_self ..)).1 (ht t (List.mem_cons_self ..)).2 h1 (fun p hp => hb.same (hlt p (List.mem_append_left _ hp))) (fun p hp => hs p (List.mem_append_left _ hp))
theorem Zwm {fn : Func} {s : ChangeSpec} {W W' : World} {args : Array Value} {ds gs : List (DataW H)} {before : List MemPlace} (hvs : s.vars = [])
 (hW : DataW.Whole en Tryz.prog fn.params.toList s.vars false W args.toList ds gs before) (hres : fn.resultTypes = #[4])
 (hspec : s.fn H ds = ⟨[.lit (.bool true)], ds, []⟩) (hl : laidOutB Tryz.prog = true) (hrd0 : (fn.params.toList.all fun t => Tryz.prog.readableRec t && decide (t < Tryz.prog.types.size)) = true)
 (hb : RowKit.Below W.heap.size W W') : s.post en Tryz.prog fn false true false false W args (.bool true) W' := by
 have hlt := hW.lt
 have hrd : ∀ t ∈ fn.params.toList, Tryz.prog.readableRec t = true /\ t < Tryz.prog.types.size := fun t ht => by
  have := List.all_eq_true.1 hrd0 t ht
  simpa using this
 obtain ⟨p, q, hA, hV, rfl, hfz, hnd⟩ := id hW
 rw [hvs] at hV
 obtain ⟨rfl, rfl⟩ := trodVars_none hV
 have hold : ∀ x ∈ p ++ [], (fun b => decide (b < W.heap.size)) x.block = true := fun x hx => by simpa using hlt x hx
 have hr : ∀ (b : Nat) (sp : Nat -> Bool) (hd : Bool), DataW.TrodAll en Tryz.prog W' b sp hd fn.resultTypes.toList ((Value.bool true).resultList fn.resultTypes.size) (s.fn H (ds ++ [])).results [] := fun b sp hd => by
  rw [List.append_nil, hspec, hres]
  exact trodAll_cons_mk (RowKit.shut_bool Tryz.underlying4 _) trodAll_mk0
 have ha : ∀ sp : Nat -> Bool, (∀ x ∈ p ++ [], sp x.block = true) -> DataW.TrodAll en Tryz.prog W' 0 sp true fn.params.toList args.toList (s.fn H (ds ++ [])).args p := fun sp hs => by
  rw [List.append_nil, hspec]
  exact Znj hl hrd hA hb (fun x hx => hlt x (by simpa using hx)) (fun x hx => hs x (by simpa using hx))
 have hv : ∀ sp : Nat -> Bool, DataW.TrodVars en Tryz.prog W' sp s.vars (s.fn H (ds ++ [])).vars [] := fun sp => by
  rw [List.append_nil, hspec, hvs]
  rfl
 refine ⟨ds, [], p ++ [], [], p, [], hW, hr _ _ _, ha _ hold, hv _, hb.frame _, fun _ => ⟨RowKit.ok_one hres rfl (RowKit.okWide_bool_mk Tryz.underlying4 _), _, _, ([] ++ p) ++ [], ⟨[] ++ p, [], trodAll_append (ha _ (fun _ _ => rfl)) (hr _ _ _), hv _, rfl, ?_, ?_⟩, ?_⟩⟩
 ·intro b off hx
  have hx' : MemPlace.cell b off ∈ p ++ [] := by simpa using hx
  rw [hb.frozen (hlt _ hx')]
  exact hfz b off hx'
 ·intro h; cases h
 ·intro x hx _
  simpa using hx
theorem Zxm {ts : List TypeId} {ds : List (DataW H)} (hz : (DataW.weightsEach Tryz.prog ts ds).all (· <= reachBytes) = true) {i : Nat} {t : TypeId} {d : DataW H} (h1 : ts[i]? = some t) (h2 : ds[i]? = some d) : ∀ k ∈ d.weights Tryz.prog t, k <= reachBytes := fun k hk => by
 have := List.all_eq_true.1 hz k (Zdx h1 h2 hk)
 simpa using this
end
def Z1s : Array Value := (Pinned.utf8FirstZ.map fun (n : Nat) => Value.int .u8 n).toArray
def Zzn : Array Value := ((([128, 191, 160, 191, 128, 159, 144, 191, 128, 143] : List Nat) ++ List.replicate 22 0).map fun (n : Nat) => Value.int .u8 n).toArray
def setC (v : Array Value) : Obj -> Obj
 | .cells _ t fr => .cells v t fr
 | o => o
noncomputable def Zjx (os : Os) : World :=
 { World.holding Tryz.prog os ⟨#[], #[], []⟩ with heap := ((World.holding Tryz.prog os ⟨#[], #[], []⟩).heap.modify 1 (setC Z1s)).modify 2 (setC Zzn) }
def zE : Value := .agg #[.int .i64 0, .string ⟨#[]⟩, .int .i64 0, .string ⟨#[]⟩, .string ⟨#[]⟩, .slice none 0 0, .slice none 0 0, .slice none 0 0, .int .i64 0]
def dE {H : Type} : DataW H := .agg [.lit (.int .i64 0), .lit (.string []), .lit (.int .i64 0), .agg [.lit (.string []), .lit (.string [])], .nil, .nil, .nil, .lit (.int .i64 0)]
end Go.Sy
end
section
open Go Go.Proofs Go.Ab Go.Rf
set_option linter.unusedSimpArgs false
set_option maxRecDepth 100000
namespace Go.Sy
def RetD (es : List (List D)) : Out -> List (Ref × List A) -> Prop := fun o H => H = [] /\ ∃ v, o = .ret v /\ AsD v (.d (.slc es))
theorem Holds.ofD {P : Program} {f : FuncId} {args : List A} {es : List (List D)} (h : Holds P f args [] (RetD es)) : Holds P f args [] (Ret (slA es)) :=
 h.asData fun o H' ⟨e, v, e1, e2⟩ => ⟨.ret (slA es), by subst e1; exact e2, rfl, e⟩
theorem c69 (l : List Tx) (hl : l.length <= 2 ^ 30) : Holds Tryz.prog 69 [slA (txs l)] [] (Ret (slA (txs l))) := by
 refine Holds.ofD (w69 (txs l) fun b hb => ⟨fun e => ?_, fun e => ⟨Zcj l, tle (by simp; omega), tle (by simp; omega), fun h => ?_, fun h => ⟨rfl, _, rfl, .own _ _⟩⟩⟩)
 ·have h := Zfg (hb e)
  have : l = [] := List.length_eq_zero_iff.1 (by simpa using h)
  subst this; exact ⟨rfl, _, rfl, .zs _⟩
 ·have : l = [] := List.length_eq_zero_iff.1 (by simpa using Zfg h)
  subst this; exact ⟨rfl, _, rfl, .zs _⟩
def tl {α : Type} (c : Bool) (l : List α) : List α := if c then [] else l
def ps (p : Bool) (n : Int) : Int := if p then 0 else n
mutual
def mpE (p c : Bool) : Nd -> Nd
 | .mk k n t a b tr le ta po s d => .mk k n t a b tr le (tl c ta) (ps p po) (mpEs p c s) (mpDs p c d)
def mpEs (p c : Bool) : List Nd -> List Nd
 | [] => []
 | x :: l => mpE p c x :: mpEs p c l
def mpD (p c : Bool) : Nd -> Nd
 | .mk k n t a b tr le ta po s d => .mk k n t a b (tl c tr) (tl c le) (tl c ta) (ps p po) (mpEs p c s) (mpDs p c d)
def mpDs (p c : Bool) : List Nd -> List Nd
 | [] => []
 | x :: l => mpD p c x :: mpDs p c l
end
theorem Zh9 {α β : Type} (F : α -> β) {l : List α} {i : Nat} (h : i < l.length) : (l.map F).take i ++ [F l[i]] = (l.map F).take (i + 1) := by
 rw [List.take_succ_eq_append_getElem (by simpa using h)]; simp
theorem Zqi {α β : Type} (F : α -> β) {l : List α} {i : Nat} (h : l.length <= i) : (l.map F).take i = l.map F := List.take_of_length_le (by simpa using h)
theorem Zqj {α β : Type} (F : α -> β) {l : List α} {i : Nat} (h : i <= l.length) : ((l.map F).take i).length = i := by simp; omega
theorem Z1t (r : Nd) : Zjm 9 [encE r] = true := by simp [Zjm]
def Shr (r : Nd) : Prop := r.subs.length <= 2 ^ 30 /\ r.decls.length <= 2 ^ 30 /\ r.tail.length <= 2 ^ 30 /\ r.lead.length <= 2 ^ 30
theorem Zqk {r : Nd} (h : All Sml r) : All Shr r := h.mono fun _ h => ⟨Nat.le_trans h.1.1 (by decide), Nat.le_trans h.1.2.1 (by decide), Nat.le_trans h.1.2.2.1 (by decide), Nat.le_trans h.1.2.2.2 (by decide)⟩
end Go.Sy
end
section
open Go Go.Proofs Go.Ab Go.Rf
set_option linter.unusedSimpArgs false
set_option maxRecDepth 100000
namespace Go.Sy
mutual
def comE : Nd -> List Tx
 | .mk _ _ _ _ _ _ _ ta _ s d => Zzo s ++ Zzp d ++ ta
def Zzo : List Nd -> List Tx
 | [] => []
 | x :: l => comE x ++ Zzo l
def comD : Nd -> List Tx
 | .mk _ _ _ _ _ tr le ta _ s d => le ++ Zzo s ++ Zzp d ++ ta ++ (if tr = [] then [] else [tr])
def Zzp : List Nd -> List Tx
 | [] => []
 | x :: l => comD x ++ Zzp l
end
def ownA (es : List (List D)) : A := if es.isEmpty then .zs [] else .own 1 es []
def RetO (es : List (List D)) : Out -> List (Ref × List A) -> Prop := fun o H => o = .ret (ownA es) /\ H = []
theorem Zwn (es : List (List D)) : AsD (ownA es) (.d (.slc es)) := by
 unfold ownA
 cases es with
 | nil => exact .zs _
 | cons x l => exact .own _ _
theorem Holds.ofO {P : Program} {f : FuncId} {args : List A} {es : List (List D)} (h : Holds P f args [] (RetO es)) : Holds P f args [] (Ret (slA es)) :=
 h.asData fun o H' ⟨e, e1⟩ => ⟨.ret (slA es), by subst e; exact Zwn es, rfl, e1⟩
theorem Zuq {es : List (List D)} (h : es ≠ []) : A.own 1 es [] = ownA es := by cases es with | nil => exact absurd rfl h | cons => rfl
theorem Zxn {l : List Tx} (h : (tB (((txs l).length : Int) == 0)) = true) : l = [] := List.length_eq_zero_iff.1 (by have := Zfg h; simpa using this)
theorem Z2p {l : List Tx} (h : (tB (((txs l).length : Int) == 0)) = false) : l ≠ [] := fun e => by subst e; simp [txs] at h
theorem Z1u {l : List Tx} (h : l ≠ []) : txs l ≠ [] := fun e => h (List.map_eq_nil_iff.1 e)
end Go.Sy
end
section
open Go Go.Proofs Go.Ab Go.Rf
set_option linter.unusedSimpArgs false
set_option maxRecDepth 100000
namespace Go.Sy
theorem Znk (l m : List Nd) : Zal (l ++ m) = Zal l + Zal m := by
 induction l with
 | nil => simp [Zal]
 | cons x l ih => simp only [List.cons_append, Zal, ih]; omega
theorem Zao {l : List Nd} {i : Nat} (h : i < l.length) : Zal (l.take (i + 1)) = Zal (l.take i) + size l[i] := by
 rw [List.take_succ_eq_append_getElem h, Znk]; simp [Zal]
theorem Zia (l : List Nd) (i : Nat) : Zal (l.take i) <= Zal l := by
 conv => rhs; rw [<- List.take_append_drop i l, Znk]
 omega
theorem Zdy (l : List Nd) : l.length <= Zal l := by
 induction l with
 | nil => simp
 | cons x l ih => have := Zqd x; simp only [List.length_cons, Zal]; omega
def Z2q (es : List (List D)) (K : List (Ref × List A)) : Out -> List (Ref × List A) -> Prop := fun o H => H = K /\ ∃ v, o = .ret v /\ AsD v (.d (.slc es))
theorem Holds.ofBD {P : Program} {f : FuncId} {args : List A} {es : List (List D)} {K0 K : List (Ref × List A)} (h : Holds P f args K0 (Z2q es K)) : Holds P f args K0 (RetB (slA es) K) :=
 h.asData fun o H' ⟨e, v, e1, e2⟩ => ⟨.ret (slA es), by subst e1; exact e2, rfl, e⟩
abbrev BZ (q : Ref) (n : Int) : List (Ref × List A) := [(.up q, [intA n])]
abbrev Z74 (r : Nd) : Prop := ∀ (n : Nat) (q : Ref), n + size r <= 2 ^ 40 -> Holds Tryz.prog 74 [.agg (encE r), .fn 75 [.up q], .fn 76 [.up q]] (BZ q n) (RetB (.agg (encE r)) (BZ q (n + size r : Nat)))
abbrev Z107 (l : List Nd) : Prop := ∀ (n : Nat) (q : Ref), n + Zal l <= 2 ^ 40 -> Holds Tryz.prog 107 [slA (Zew l), .fn 75 [.up q], .fn 76 [.up q]] (BZ q n) (RetB (slA (Zew l)) (BZ q (n + Zal l : Nat)))
abbrev Z78 (l : List Nd) : Prop := ∀ (n : Nat) (q : Ref), n + Zal l <= 2 ^ 40 -> Holds Tryz.prog 78 [slA (Zco l), .fn 75 [.up q], .fn 76 [.up q]] (BZ q n) (RetB (slA (Zco l)) (BZ q (n + Zal l : Nat)))
theorem c75 (r : Nd) (n : Nat) (q : Ref) (h : n + 1 <= 2 ^ 40) : Holds Tryz.prog 75 [.agg (encE r), .ptr (.up q) 0] (BZ q n) (RetB (.agg (encE r)) (BZ q (n + 1 : Nat))) :=
 w75 _ _ _ ⟨teq (by simp), tle (by omega), tle (by omega), rfl, by simp⟩
theorem c76 (r : Nd) (n : Nat) (q : Ref) (h : n + 1 <= 2 ^ 40) : Holds Tryz.prog 76 [.agg (encD r), .ptr (.up q) 0] (BZ q n) (RetB (.agg (encD r)) (BZ q (n + 1 : Nat))) :=
 w76 _ _ _ ⟨teq (by simp), tle (by omega), tle (by omega), rfl, by simp⟩
theorem Z2r (l : List Nd) (hl : l.length <= 2 ^ 30) (ih : ∀ x ∈ l, Z74 x) : Z107 l := by
 intro n q hb
 rw [Zdu]
 refine Holds.ofBD ?_
 rw [<- Zdu]
 refine Z18 (Zew l) n q ⟨True, l.length + 1, fun es x m => ∃ i : Nat, x = i /\ i <= l.length /\ es = (l.map encE).take i /\ m = (n + Zal (l.take i) : Nat), fun _ x _ => l.length - x.toNat, trivial, fun _ => ⟨fun hc => ?_, fun hc => ?_⟩, ?_, trivial⟩
 ·have k1 : 0 < l.length := by have := Za6 hc; simp at this; omega
  have g := Zf9 (x := (0 : Int)) rfl k1
  have S := Zao k1
  have hle := Zia l 1
  have S : Zal (l.take 1) = size l[0] := by simpa [Zal] using S
  rw [g]
  refine ⟨teq (by simp), Zh0 (ih _ (List.getElem_mem k1) n (.up q) (by omega)) ⟨_, _, rfl, rfl, teq (by simp), Z1t _, tle (by simp), tle (by simp), ⟨1, rfl, k1, Zh9 encE k1, by rw [S]⟩, by simp; omega⟩⟩
 ·have k1 : l = [] := List.length_eq_zero_iff.1 (by have := Za7 hc; simp at this; simpa using this)
  subst k1; exact ⟨rfl, _, rfl, .zs _⟩
 ·rintro es x m ⟨i, rfl, hi, rfl, rfl⟩
  refine ⟨fun hc => ?_, fun hc => ?_⟩
  ·have k1 : i < l.length := by have := Za6 hc; simp at this; omega
   have S := Zao k1
   have hle := Zia l (i + 1)
   rw [Zf9 rfl k1, Zqj _ hi]
   exact ⟨tle (by omega), teq (by simp), Zh0 (ih _ (List.getElem_mem k1) (n + Zal (l.take i)) (.up q) (by omega)) ⟨_, _, rfl, rfl, teq (by simp), Z1t _, tle (by simp only [List.length_singleton]; omega), tle (by simp only [List.length_singleton]; omega), tle (by omega), tle (by omega), ⟨i + 1, rfl, k1, Zh9 encE k1, by rw [S]; push_cast; omega⟩, dec k1⟩⟩
  ·have k1 : l.length <= i := by have := Za7 hc; simp at this; omega
   rw [Zqi _ k1, List.take_of_length_le k1, <- Zdu]
   exact ⟨rfl, _, rfl, .same _⟩
theorem c78z (l : List Nd) (hl : l.length <= 2 ^ 30) (hlm : ∀ x ∈ l, Shr x) (ih : ∀ x ∈ l, Z107 x.subs /\ Z78 x.decls) : Z78 l := by
 intro n q hb
 rw [Zdv]
 refine Holds.ofBD ?_
 rw [<- Zdv]
 refine w78z (Zco l) n q ⟨True, l.length + 1, fun es x m => ∃ i : Nat, x = i /\ i <= l.length /\ es = (l.map encD).take i /\ m = (n + Zal (l.take i) : Nat), fun _ x _ => l.length - x.toNat, trivial, fun _ => ⟨fun hc => ?_, fun hc => ?_⟩, ?_, trivial⟩
 ·have k1 : 0 < l.length := by have := Za6 hc; simp at this; omega
  have g := Zrj (x := (0 : Int)) rfl k1
  have S0 := Zao k1
  have hle := Zia l 1
  have S : Zal (l.take 1) = size l[0] := by simpa [Zal] using S0
  rw [g]
  have hx := List.getElem_mem k1
  have L := hlm _ hx
  have ihx := ih _ hx
  have T := Zh9 encD k1
  generalize l[0] = a at L ihx T S
  have Sa := Zci a
  refine ⟨teq (by simp), Zh0 (c76 a n (.up q) (by omega)) ⟨_, _, rfl, rfl, teq (by simp), ?_⟩⟩
  simp only [Zb5, d0, d1, d2, d3, d4, d5, d6, d7, d8, d9, d10, isK_int, isK_str, isK_slc, Zcw, Zfv, Zcx, true_and]
  refine Zh0 (ihx.1 (n + 1) (.up q) (by omega)) ⟨_, _, rfl, rfl, Zh0 (ihx.2 (n + 1 + Zal a.subs) (.up q) (by omega)) ⟨_, _, rfl, rfl, _, fun _ => c69 _ L.2.2.2, _, fun _ => c69 _ L.2.2.1, tle (by simp), tle (by simp), ⟨1, rfl, k1, ?_, ?_⟩, ?_⟩⟩
  ·rw [<- Zch a]; simpa using T
  ·rw [S, Sa]; push_cast; omega
  ·simp; omega
 ·have k1 : l = [] := List.length_eq_zero_iff.1 (by have := Za7 hc; simp at this; simpa using this)
  subst k1; exact ⟨rfl, _, rfl, .zs _⟩
 ·rintro es x m ⟨i, rfl, hi, rfl, rfl⟩
  refine ⟨fun hc => ?_, fun hc => ?_⟩
  ·have k1 : i < l.length := by have := Za6 hc; simp at this; omega
   have S := Zao k1
   have hle := Zia l (i + 1)
   rw [Zrj rfl k1, Zqj _ hi]
   have hx := List.getElem_mem k1
   have L := hlm _ hx
   have ihx := ih _ hx
   have T := Zh9 encD k1
   generalize l[i] = a at L ihx T S
   have Sa := Zci a
   refine ⟨tle (by omega), teq (by simp), Zh0 (c76 a (n + Zal (l.take i)) (.up q) (by omega)) ⟨_, _, rfl, rfl, teq (by simp), ?_⟩⟩
   simp only [Zb5, d0, d1, d2, d3, d4, d5, d6, d7, d8, d9, d10, isK_int, isK_str, isK_slc, Zcw, Zfv, Zcx, true_and]
   refine Zh0 (ihx.1 (n + Zal (l.take i) + 1) (.up q) (by omega)) ⟨_, _, rfl, rfl, Zh0 (ihx.2 (n + Zal (l.take i) + 1 + Zal a.subs) (.up q) (by omega)) ⟨_, _, rfl, rfl, _, fun _ => c69 _ L.2.2.2, _, fun _ => c69 _ L.2.2.1, tle (by simp only [List.length_singleton]; omega), tle (by simp only [List.length_singleton]; omega), tle (by omega), tle (by omega), ⟨i + 1, rfl, k1, ?_, ?_⟩, dec k1⟩⟩
   ·rw [<- Zch a]; exact T
   ·rw [S, Sa]; push_cast; omega
  ·have k1 : l.length <= i := by have := Za7 hc; simp at this; omega
   rw [Zqi _ k1, List.take_of_length_le k1, <- Zdv]
   exact ⟨rfl, _, rfl, .same _⟩
theorem c74z : ∀ r : Nd, All Shr r -> Z74 r /\ Z107 r.subs /\ Z78 r.decls := by
 refine Zg4 fun r hs hd hb => ?_
 have L := hb.here
 have ihs := Z2r r.subs L.1 fun x hx => (hs x hx (hb.sub hx)).1
 have ihd := c78z r.decls L.2.1 (fun x hx => (hb.dec hx).here) fun x hx => (hd x hx (hb.dec hx)).2
 refine ⟨fun n q hn => ?_, ihs, ihd⟩
 have S := Zci r
 refine w74z (encE r) n q ⟨teq (by simp), Zh0 (c75 r n (.up q) (by omega)) ⟨_, _, rfl, rfl, teq (by simp), ?_⟩⟩
 simp only [Zdw, e0, e1, e2, e3, e4, e5, e6, e7, e8, isK_int, isK_str, isK_slc, Zcw, Zfv, Zcx, true_and]
 refine Zh0 (ihs (n + 1) (.up q) (by omega)) ⟨_, _, rfl, rfl, Zh0 (ihd (n + 1 + Zal r.subs) (.up q) (by omega)) ⟨_, _, rfl, rfl, Zas (c69 _ L.2.2.1) ⟨_, rfl, rfl, ?_, ?_⟩⟩⟩
 ·rw [<- Zdt r]
 ·have e : (n + size r : Nat) = n + 1 + Zal r.subs + Zal r.decls := by omega
  rw [e]
theorem c26 (r : Nd) (h : All Shr r) (hs : size r <= 2 ^ 40) : Holds Tryz.prog 26 [.agg (encE r)] [] (Ret (intA (size r))) := by
 refine w26 _ ⟨teq (by simp), fun ν => Zh0 ((c74z r h).1 0 (.own 3 (ν 3)) (by omega)) ⟨_, _, rfl, rfl, ?_⟩ ν⟩
 exact ⟨by simp, rfl⟩
end Go.Sy
end
section
open Go Go.Proofs Go.Ab Go.Rf
set_option linter.unusedSimpArgs false
set_option maxRecDepth 100000
namespace Go.Sy
def addN (P : List Tx) (s : Tx) : List Tx := if s ∈ P then P else P ++ [s]
def jn (P a : List Tx) : List Tx := a.foldl addN P
theorem Zck (P a b : List Tx) : jn P (a ++ b) = jn (jn P a) b := List.foldl_append
theorem Zur (P : List Tx) (s : Tx) : jn P [s] = addN P s := rfl
theorem Zwo {P : List Tx} {s x : Tx} : x ∈ addN P s ↔ x ∈ P \/ x = s := by
 unfold addN
 split
 ·exact ⟨Or.inl, fun h => h.elim id fun h => h ▸ by assumption⟩
 ·simp
theorem Zus {a : List Tx} {P : List Tx} {x : Tx} : x ∈ jn P a ↔ x ∈ P \/ x ∈ a := by
 induction a generalizing P with
 | nil => simp [jn]
 | cons s a ih => rw [show jn P (s :: a) = jn (addN P s) a from rfl, ih, Zwo]; simp [or_assoc]
theorem Z1v (P a b : List Tx) : jn P (jn a b) = jn (jn P a) b := by
 induction b generalizing a with
 | nil => rfl
 | cons s b ih =>
   rw [show jn a (s :: b) = jn (addN a s) b from rfl, ih, show jn (jn P a) (s :: b) = jn (addN (jn P a) s) b from rfl]
   congr 1
   unfold addN
   by_cases h : s ∈ a
   ·rw [if_pos h, if_pos (Zus.2 (.inr h))]
   ·rw [if_neg h, Zck]; rfl
theorem Zcl (P a : List Tx) : (jn P a).length <= P.length + a.length := by
 induction a generalizing P with
 | nil => simp [jn]
 | cons s a ih =>
   have h := ih (addN P s)
   have : (addN P s).length <= P.length + 1 := by unfold addN; split <;> simp
   rw [show jn P (s :: a) = jn (addN P s) a from rfl]
   simp; omega
theorem Z1w (a b : List Tx) : jn (jn [] (jn [] a)) (jn [] b) = jn [] (a ++ b) := by rw [Z1v, Z1v, Zck]; rfl
theorem Zfh {P a : List Tx} (h : P ≠ []) : jn P a ≠ [] := fun e => by
 obtain ⟨x, hx⟩ := List.exists_mem_of_ne_nil _ h
 have := (Zus (a := a)).2 (.inl hx)
 rw [e] at this; cases this
theorem Zrm {a : List Tx} : jn [] a = [] ↔ a = [] :=
 ⟨fun e => Classical.byContradiction fun hn => (by
  obtain ⟨x, hx⟩ := List.exists_mem_of_ne_nil _ hn
  have := (Zus (P := []) (x := x)).2 (.inr hx)
  rw [e] at this; exact absurd this (by simp)), fun e => by rw [e]; rfl⟩
def LET : Tx := [108, 101, 116]
mutual
def nE : Nd -> List Tx -> List Tx
 | .mk k _ t a b _ _ _ _ s d, bd => (if k = 10 /\ a ≠ LET /\ t ∉ bd then [t] else []) ++
   nS s (if k = 10 /\ a = LET then [] else bd) (if k = 15 then (if k = 10 /\ a = LET then [] else bd) ++ [a, b] else if k = 10 /\ a = LET then [] else bd) ++ nDs d (if k = 10 /\ a = LET then [] else bd)
def nS : List Nd -> List Tx -> List Tx -> List Tx
 | [], _, _ => []
 | x :: l, b1, b2 => nE x b1 ++ nS l b2 b2
def nD : Nd -> List Tx -> List Tx
 | .mk k _ _ a b _ _ _ _ s d, bd => nS s bd bd ++ nDs d (if k = 6 then bd ++ [a, b] else bd)
def nDs : List Nd -> List Tx -> List Tx
 | [], _ => []
 | x :: l, bd => nD x bd ++ nDs l bd
end
def oE (r : Nd) (bd : List Tx) : List Tx := if r.kind = 10 /\ r.n0 ≠ LET /\ r.text ∉ bd then [r.text] else []
def bL (r : Nd) (bd : List Tx) : List Tx := if r.kind = 10 /\ r.n0 = LET then [] else bd
def bX (r : Nd) (bd : List Tx) : List Tx := if r.kind = 15 then bL r bd ++ [r.n0, r.n1] else bL r bd
def bI (r : Nd) (bd : List Tx) (i : Nat) : List Tx := if i = 0 then bL r bd else bX r bd
def bD (r : Nd) (bd : List Tx) : List Tx := if r.kind = 6 then bd ++ [r.n0, r.n1] else bd
theorem Zzq (r : Nd) (bd : List Tx) : nE r bd = oE r bd ++ nS r.subs (bL r bd) (bX r bd) ++ nDs r.decls (bL r bd) := by cases r; rw [nE]; rfl
theorem Zwp (r : Nd) (bd : List Tx) : nD r bd = nS r.subs bd bd ++ nDs r.decls (bD r bd) := by cases r; rw [nD]; rfl
theorem Zhl : ∀ {l : List Nd} {i : Nat} (b1 b2 : List Tx) (h : i < l.length), nS (l.take i) b1 b2 ++ nE l[i] (if i = 0 then b1 else b2) = nS (l.take (i + 1)) b1 b2
 | x :: l, 0, b1, b2, _ => by simp [nS]
 | x :: l, i + 1, b1, b2, h => by
   have := Zhl (i := i) b2 b2 (by simpa using h)
   have e : nS ((x :: l).take (i + 1)) b1 b2 = nE x b1 ++ nS (l.take i) b2 b2 := by rw [List.take_succ_cons, nS]
   have e2 : nS ((x :: l).take (i + 1 + 1)) b1 b2 = nE x b1 ++ nS (l.take (i + 1)) b2 b2 := by rw [List.take_succ_cons, nS]
   rw [e, e2, <- this]
   simp
theorem Zoy (bd : List Tx) : ∀ l, nDs l bd = l.flatMap fun x => nD x bd
 | [] => rfl
 | x :: l => by rw [nDs, Zoy bd l]; rfl
theorem Zlw {l : List Nd} {i : Nat} (bd : List Tx) (h : i < l.length) : nDs (l.take i) bd ++ nD l[i] bd = nDs (l.take (i + 1)) bd := by
 rw [List.take_succ_eq_append_getElem h, Zoy, Zoy, List.flatMap_append]; simp
theorem Zwq : ∀ (l : List Nd), (∀ x ∈ l, ∀ bd, (nE x bd).length <= size x) -> ∀ b1 b2, (nS l b1 b2).length <= Zal l
 | [], _, _, _ => by simp [nS, Zal]
 | x :: l, h, b1, b2 => by
   have h1 := h x (by simp) b1
   have h2 := Zwq l (fun y hy => h y (by simp [hy])) b2 b2
   simp only [nS, Zal, List.length_append]; omega
theorem Zql : ∀ (l : List Nd), (∀ x ∈ l, ∀ bd, (nD x bd).length <= size x) -> ∀ bd, (nDs l bd).length <= Zal l
 | [], _, _ => by simp [nDs, Zal]
 | x :: l, h, bd => by
   have h1 := h x (by simp) bd
   have h2 := Zql l (fun y hy => h y (by simp [hy])) bd
   simp only [nDs, Zal, List.length_append]; omega
theorem Zut : ∀ r : Nd, (∀ bd, (nE r bd).length <= size r) /\ ∀ bd, (nD r bd).length <= size r := by
 apply Zg4
 intro r hs hd
 refine ⟨fun bd => ?_, fun bd => ?_⟩
 ·have h1 := Zwq r.subs (fun x hx => (hs x hx).1) (bL r bd) (bX r bd)
  have h2 := Zql r.decls (fun x hx => (hd x hx).2) (bL r bd)
  have h3 : (oE r bd).length <= 1 := by unfold oE; split <;> simp
  rw [Zzq, Zci]; simp only [List.length_append]; omega
 ·have h1 := Zwq r.subs (fun x hx => (hs x hx).1) bd bd
  have h2 := Zql r.decls (fun x hx => (hd x hx).2) (bD r bd)
  rw [Zwp, Zci]; simp only [List.length_append]; omega
theorem Zj6 (r : Nd) (bd : List Tx) : (nE r bd).length <= size r := (Zut r).1 bd
theorem Znl (l : List Nd) (b1 b2 : List Tx) : (nS l b1 b2).length <= Zal l := Zwq l (fun x _ => (Zut x).1) b1 b2
theorem Zoz (l : List Nd) (bd : List Tx) : (nDs l bd).length <= Zal l := Zql l (fun x _ => (Zut x).2) bd
theorem Zbq (l : List Nd) (i : Nat) : Zal (l.take i) <= Zal l := by
 induction l generalizing i with
 | nil => simp [Zal]
 | cons x l ih => cases i with
   | zero => simp [Zal]
   | succ i => have := ih i; simp only [List.take_succ_cons, Zal]; omega
theorem Zqm (r : Nd) (bd : List Tx) : (bL r bd).length <= bd.length := by unfold bL; split <;> simp
theorem Z1x (r : Nd) (bd : List Tx) : (bX r bd).length <= bd.length + 2 := by
 have := Zqm r bd
 unfold bX; split <;> simp <;> omega
theorem Zjy (r : Nd) (bd : List Tx) (i : Nat) : (bI r bd i).length <= bd.length + 2 := by
 have := Zqm r bd; have := Z1x r bd
 unfold bI; split <;> omega
theorem Zuu (r : Nd) (bd : List Tx) : (bD r bd).length <= bd.length + 2 := by unfold bD; split <;> simp
def lls (L : List (List Tx)) : List (List D) := L.map fun l => [.slc (txs l)]
@[simp] theorem Zzx (L : List (List Tx)) : (lls L).length = L.length := by simp [lls]
theorem Zwr {l : List Tx} {i : Nat} (P : List Tx) (h : i < l.length) : jn P (l.take (i + 1)) = addN (jn P (l.take i)) l[i] := by
 rw [List.take_succ_eq_append_getElem h, Zck]; rfl
theorem Zlx {P : List Tx} {s : Tx} (h : s ∈ P) : addN P s = P := if_pos h
theorem Zib {P : List Tx} {s : Tx} (h : s ∉ P) : addN P s = P ++ [s] := if_neg h
theorem txs1 (P : List Tx) (s : Tx) : txs P ++ [[dS s]] = txs (P ++ [s]) := by simp [txs]
theorem txs2 (P : List Tx) (s t : Tx) : txs P ++ [[dS s], [dS t]] = txs (P ++ [s, t]) := by simp [txs]
theorem c34z (s : Tx) : Holds Tryz.prog 34 [strA s, .zs []] [] (Ret (Zjq false)) :=
 Holds.asArgs (args' := [strA s, slA (txs [])]) ⟨.same _, .zs _, trivial⟩ (by have := c34 s [] (by simp); simpa using this)
end Go.Sy
end
section
open Go Go.Proofs Go.Ab Go.Rf
set_option linter.unusedSimpArgs false
set_option maxRecDepth 100000
namespace Go.Sy
theorem Zjz {r : Nd} {i : Nat} (bd : List Tx) (h : (tB (r.kind == 15) && tB (decide ((0 : Int) < i))) = true) : bI r bd i = bL r bd ++ [r.n0, r.n1] /\ r.kind = 15 := by
 have h : r.kind = 15 /\ 0 < i := by simpa using h
 exact ⟨by unfold bI bX; rw [if_neg (by omega), if_pos h.1], h.1⟩
theorem Zws {r : Nd} {i : Nat} (bd : List Tx) (h : (tB (r.kind == 15) && tB (decide ((0 : Int) < i))) = false) : bI r bd i = bL r bd := by
 by_cases h0 : i = 0
 ·unfold bI; rw [if_pos h0]
 ·have : ¬ r.kind = 15 := fun hk => by
   have h2 : 0 < i := by omega
   exact absurd h (by simp [hk, h2])
  unfold bI bX; rw [if_neg h0, if_neg this]
end Go.Sy
end
section
open Go Go.Proofs Go.Ab Go.Rf
set_option linter.unusedSimpArgs false
set_option maxRecDepth 100000
namespace Go.Sy
def RB (K : List (Ref × List A)) : Out -> List (Ref × List A) -> Prop := fun o H => o = .ret (.tup []) /\ H = K
abbrev ow (P : List Tx) : A := ownA (txs P)
theorem Zbv {P : List Tx} (h : P ≠ []) : ow P = .own 1 (txs P) [] := (Zuq (Z1u h)).symm
theorem Zd1 {f : FuncId} {args : List A} {K0 : List (Ref × List A)} {B : A -> List (Ref × List A)} {Q : List Tx} (hQ : Q ≠ []) (hc : Holds Tryz.prog f args K0 (RB (B (ow Q)))) {K : List (List D) -> Prop} {QP : Value -> List (Ref × List A) -> Prop} (h : K (txs Q)) :
 ∀ _ : Nat -> Nat, ∃ R' : Out -> List (Ref × List A) -> Prop, Holds Tryz.prog f args K0 R' /\ (∀ v H', R' (.ret v) H' -> ∃ x, v = .tup [] /\ H' = B (.own 1 x []) /\ K x) /\ (∀ u H', R' (.pan u) H' -> QP u H') :=
 fun _ => ⟨_, hc, fun v H' e => by obtain ⟨e1, e2⟩ := e; cases e1; exact ⟨txs Q, rfl, by rw [e2, Zbv hQ], h⟩, fun u H' e => by cases e.1⟩
theorem callT {f : FuncId} {args : List A} {K0 : List (Ref × List A)} {B : A -> List (Ref × List A)} {Q : List Tx} (hc : Holds Tryz.prog f args K0 (RB (B (ow Q)))) {G : Prop} {K : List (List D) -> Prop} {QP : Value -> List (Ref × List A) -> Prop} (h0 : Q = [] -> G) (h : Q ≠ [] -> K (txs Q)) :
 ∀ _ : Nat -> Nat, ∃ R' : Out -> List (Ref × List A) -> Prop, Holds Tryz.prog f args K0 R' /\ (∀ v H', R' (.ret v) H' -> (v = .tup [] /\ H' = B (.zs []) /\ G) \/ (∃ x, v = .tup [] /\ H' = B (.own 1 x []) /\ K x)) /\ (∀ u H', R' (.pan u) H' -> QP u H') :=
 fun _ => ⟨_, hc, fun v H' e => by
  obtain ⟨e1, e2⟩ := e
  cases e1
  by_cases hQ : Q = []
  ·left; exact ⟨rfl, by rw [e2, hQ]; rfl, h0 hQ⟩
  ·right; exact ⟨txs Q, rfl, by rw [e2, Zbv hQ], h hQ⟩, fun u H' e => by cases e.1⟩
def Dst (e d a o : Ref) : Prop := e ≠ d /\ e ≠ a /\ d ≠ a /\ e ≠ o /\ d ≠ o /\ a ≠ o
theorem Dst.up {e d a o : Ref} (h : Dst e d a o) : Dst (.up e) (.up d) (.up a) (.up o) := by unfold Dst at *; simpa using h
end Go.Sy
end
section
open Go Go.Proofs Go.Ab Go.Rf
set_option linter.unusedSimpArgs false
set_option linter.unusedVariables false
set_option maxRecDepth 100000
namespace Go.Sy
theorem c104 (s : Tx) (l : List Tx) (hl : l.length <= 2 ^ 50) : Holds Tryz.prog 104 [slA (txs l), strA s] [] (fun o H => ∃ n : Int, o = .ret (intA n) /\ H = [] /\ (0 <= n ↔ s ∈ l)) := by
 refine w104 (txs l) s ?_
 refine ⟨fun x => ∃ i : Nat, x = i /\ i <= l.length /\ (s ∈ l.drop i ↔ s ∈ l), fun x => l.length - x.toNat, ⟨0, rfl, Nat.zero_le _, by simp⟩, ?_, trivial⟩
 rintro x ⟨i, rfl, hi, hr⟩
 refine ⟨fun hc => ?_, fun hc => ?_⟩
 ·have h1 : i < l.length := by have := Za6 hc; simp at this; omega
  refine ⟨tle (by omega), teq (by rw [gT1 h1]; rfl), (getT h1).1, fun hn => ?_, fun hn => ⟨tle (by omega), tle (by omega), ⟨i + 1, rfl, h1, ?_⟩, dec h1⟩⟩
  ·rw [(getT h1).2] at hn
   have : s ∈ l := Zt9 hn ▸ List.getElem_mem h1
   exact ⟨i, rfl, rfl, by simp [this]⟩
  ·rw [(getT h1).2] at hn
   have hne := Zua hn
   rw [<- hr]
   conv => rhs; rw [Zc5 h1]
   simp only [List.mem_cons, hne, false_or]
 ·have h1 : l.length <= i := by have := Za7 hc; simp at this; omega
  have : ¬ s ∈ l := fun h => by rw [<- hr, Zd9 h1] at h; cases h
  exact ⟨-1, rfl, rfl, by simp [this]⟩
theorem c71 (s : Tx) (l : List Tx) (hl : l.length <= 2 ^ 50) : Holds Tryz.prog 71 [slA (txs l), strA s] [] (Ret (Zjq (decide (s ∈ l)))) :=
 w71 (txs l) s fun _ => ⟨_, c104 s l hl, fun v H' ⟨n, e1, e2, e3⟩ => ⟨n, Out.ret.inj e1, e2, by
  have : (tB (decide (0 <= n))) = decide (s ∈ l) := by simp [e3]
  rw [this]; exact ⟨rfl, rfl⟩⟩, fun u H' ⟨n, e1, _⟩ => by cases e1⟩
theorem c71z (s : Tx) : Holds Tryz.prog 71 [.zs [], strA s] [] (Ret (Zjq false)) :=
 Holds.asArgs (args := [.zs [], strA s]) (args' := [slA (txs []), strA s]) ⟨.zs _, .same _, trivial⟩ (by have := c71 s [] (by simp); simpa using this)
theorem c69o (l : List Tx) (hl : l.length <= 2 ^ 30) : Holds Tryz.prog 69 [slA (txs l)] [] (Ret (ow l)) := by
 refine w69 (txs l) fun b hb => ⟨fun e => ?_, fun e => ⟨Zcj l, tle (by simp; omega), tle (by simp; omega), fun h => ?_, fun h => ?_⟩⟩
 ·rw [Zxn (hb e)]; exact ⟨rfl, rfl⟩
 ·rw [Zxn h]; exact ⟨rfl, rfl⟩
 ·rw [Zbv (Z2p h)]; exact ⟨rfl, rfl⟩
theorem c68 (l : List Tx) (a b : Tx) (hl : l.length <= 2 ^ 29) : Holds Tryz.prog 68 [slA (txs l), .agg [dS a, dS b]] [] (Ret (.own 1 (txs (l ++ [a, b])) [])) := by
 have c := c69o l (by omega)
 by_cases h : l = []
 ·subst h
  exact w68b _ _ ⟨teq rfl, Zas c ⟨rfl, rfl, Zcj [a, b], tle (by simp), tle (by simp), rfl, rfl⟩⟩
 ·rw [Zbv h] at c
  refine w68a _ _ ⟨teq rfl, Zas c ⟨_, rfl, rfl, Zcj [a, b], tle (by simp; omega), tle (by simp; omega), ?_⟩⟩
  rw [<- txs2]; exact ⟨rfl, rfl⟩
abbrev B70 (o w e d : Ref) (c : A) : List (Ref × List A) := [(.up o, [c]), (.up w, [.fn 68 []]), (.up e, [.fn 70 [.up o, .up w, .up e, .up d]]), (.up d, [.fn 72 [.up e, .up w, .up d]])]
abbrev B72 (o w e d : Ref) (c : A) : List (Ref × List A) := [(.up e, [.fn 70 [.up o, .up w, .up e, .up d]]), (.up o, [c]), (.up w, [.fn 68 []]), (.up d, [.fn 72 [.up e, .up w, .up d]])]
abbrev H70 (r : Nd) : Prop := ∀ (P bd : List Tx) (o w e d : Ref), Dst o w e d -> P.length + size r <= 2 ^ 28 -> bd.length + 2 * size r <= 2 ^ 28 ->
 Holds Tryz.prog 70 [.agg (encE r), slA (txs bd), .ptr (.up o) 0, .ptr (.up w) 0, .ptr (.up e) 0, .ptr (.up d) 0] (B70 o w e d (ow P)) (RB (B70 o w e d (ow (jn P (nE r bd)))))
abbrev H72 (l : List Nd) : Prop := ∀ (P bd : List Tx) (o w e d : Ref), Dst o w e d -> P.length + Zal l <= 2 ^ 28 -> bd.length + 2 * Zal l <= 2 ^ 28 ->
 Holds Tryz.prog 72 [slA (Zco l), slA (txs bd), .ptr (.up e) 0, .ptr (.up w) 0, .ptr (.up d) 0] (B72 o w e d (ow P)) (RB (B72 o w e d (ow (jn P (nDs l bd)))))
theorem c70a (r : Nd) (ihs : ∀ x ∈ r.subs, H70 x) (ihd : H72 r.decls) (bd : List Tx) (o w e d : Ref) (hd : Dst o w e d) (P : List Tx) (hP : P = []) (hp : P.length + size r <= 2 ^ 28) (hb : bd.length + 2 * size r <= 2 ^ 28) :
 Holds Tryz.prog 70 [.agg (encE r), slA (txs bd), .ptr (.up o) 0, .ptr (.up w) 0, .ptr (.up e) 0, .ptr (.up d) 0] (B70 o w e d (ow [])) (RB (B70 o w e d (ow (jn P (nE r bd))))) := by
 have hz := Zci r
 have lB := Zqm r bd
 have hsl := Zdy r.subs
 obtain ⟨Q, hQ⟩ : ∃ Q : Nat -> List Tx, Q = fun i => jn P (oE r bd ++ nS (r.subs.take i) (bL r bd) (bX r bd)) := ⟨_, rfl⟩
 have Z : Q 0 = jn P (oE r bd) := by rw [hQ]; simp [nS]
 have T : ∀ i (k1 : i < r.subs.length), jn (Q i) (nE r.subs[i] (bI r bd i)) = Q (i + 1) := fun i k1 => by
  rw [hQ]; simp only []
  rw [<- Zck, List.append_assoc]; exact congrArg (fun z => jn P (oE r bd ++ z)) (Zhl _ _ k1)
 have N : jn (Q r.subs.length) (nDs r.decls (bL r bd)) = jn P (nE r bd) := by
  rw [hQ]; simp only [List.take_length]
  rw [<- Zck, Zzq]
 have L : ∀ i, (Q i).length <= P.length + 1 + Zal (r.subs.take i) := fun i => by
  have h1 := Zcl P (oE r bd ++ nS (r.subs.take i) (bL r bd) (bX r bd))
  have h2 := Znl (r.subs.take i) (bL r bd) (bX r bd)
  have lO : (oE r bd).length <= 1 := by unfold oE; split <;> simp
  rw [List.length_append] at h1; rw [hQ]; simp only []; omega
 clear hQ
 refine w70a (encE r) (txs bd) o w e d hd.1 hd.2.1 hd.2.2.1 hd.2.2.2.1 hd.2.2.2.2.1 hd.2.2.2.2.2 ?_
 simp only [Zdw, e0, e1, e2, e3, e4, e5, e6, e7, e8, isK_int, isK_str, isK_slc, Zcw, Zfv, Zcx, true_and, Zbg, Zbh, Zbe, Zcj, Bool.or_true, List.nil_append, List.length_singleton]
 refine ⟨teq rfl, r.kind = 10 /\ r.n0 = LET, oE r bd = [r.text] /\ bL r bd = bd, oE r bd = [] /\ bL r bd = bd, ⟨fun h => ?_, fun h => ⟨fun h1 => Zas (c71 r.text bd (by omega)) ⟨_, rfl, rfl, fun h2 => ?_, fun h2 => ?_⟩, fun h1 => ?_⟩⟩, ?_, ?_, ?_, trivial⟩
 ·simpa [LET] using h
 ·have hk := Zfg h1
  have hn : ¬ r.n0 = LET := fun e => by rw [e] at h; simp [hk, LET] at h
  have h2 : r.text ∉ bd := by simpa using h2
  refine Zas (c71z r.text) ⟨_, rfl, rfl, fun _ => ⟨tle (by simp), tle (by simp), ?_⟩, fun h => by cases h⟩
  exact ⟨by unfold oE; rw [if_pos ⟨hk, hn, h2⟩], by unfold bL; rw [if_neg (fun e => hn e.2)]⟩
 ·have hk := Zfg h1
  have hn : ¬ r.n0 = LET := fun e => by rw [e] at h; simp [hk, LET] at h
  have h2 : r.text ∈ bd := by simpa using h2
  exact ⟨by unfold oE; rw [if_neg (fun e => e.2.2 h2)], by unfold bL; rw [if_neg (fun e => hn e.2)]⟩
 ·have hk := Zey h1
  exact ⟨by unfold oE; rw [if_neg (fun e => hk e.1)], by unfold bL; rw [if_neg (fun e => hk e.1)]⟩
 ·rintro ⟨hk, hn⟩
  have ho : oE r bd = [] := by unfold oE; rw [if_neg (fun e => e.2.1 hn)]
  have hbl : bL r bd = [] := by unfold bL; rw [if_pos ⟨hk, hn⟩]
  rw [hP] at Z
  refine ⟨fun x => ∃ i : Nat, x = i /\ i <= r.subs.length /\ Q i = [], fun x => r.subs.length - x.toNat, fun x es => ∃ i : Nat, x = i /\ i <= r.subs.length /\ es = txs (Q i) /\ Q i ≠ [], fun x _ => r.subs.length - x.toNat, ⟨0, rfl, Nat.zero_le _, ?_⟩, ?_, ?_, trivial⟩
  ·rw [Z, ho]; rfl
  ·rintro x ⟨i, rfl, hi, hr⟩
   refine ⟨fun hc1 => ?_, fun hc1 => ?_⟩
   ·have k1 : i < r.subs.length := by have := Za6 hc1; omega
    rw [Zf9 rfl k1]
    have hm := List.getElem_mem k1
    have hsz := Zao k1
    have hst := Zbq r.subs (i + 1)
    have hbi := Zjy r bd i
    have hT := T i k1
    have hl1 := L i
    have c1 := ihs _ hm (Q i) (bI r bd i) _ _ _ _ hd.up (by omega) (by omega)
    rw [hT] at c1
    rw [hr] at c1
    have hbI : bI r bd i = [] := by unfold bI bX; rw [if_neg (show ¬ r.kind = 15 by rw [hk]; decide), hbl]; simp
    rw [hbI, Zhi] at c1
    refine ⟨tle (by omega), teq (by simp), fun _ => False, True, ⟨fun h => absurd (hk.symm.trans (Zjz bd h).2) (by decide), fun _ => trivial⟩, fun _ h => h.elim, fun _ => ?_, trivial⟩
    exact callT (B := B70 (.up o) (.up w) (.up e) (.up d)) c1 (fun h => ⟨tle (by omega), tle (by omega), ⟨i + 1, rfl, k1, h⟩, dec k1⟩) fun h => ⟨tle (by omega), tle (by omega), ⟨i + 1, rfl, k1, rfl, h⟩, dec k1⟩
   ·have k1 : r.subs.length <= i := by have := Za7 hc1; omega
    have hi : i = r.subs.length := by omega
    subst hi
    have hl1 := L r.subs.length
    rw [List.take_length] at hl1
    have c1 := ihd (Q r.subs.length) (bL r bd) _ _ _ _ hd.up (by omega) (by omega)
    rw [N] at c1
    rw [hr] at c1
    rw [hbl, Zhi] at c1
    exact callT (B := B72 (.up o) (.up w) (.up e) (.up d)) c1 (fun h => by rw [h]; exact ⟨rfl, rfl⟩) fun h => by rw [Zbv h]; exact ⟨rfl, rfl⟩
  ·rintro x es ⟨i, rfl, hi, rfl, hr⟩
   refine ⟨fun hc1 => ?_, fun hc1 => ?_⟩
   ·have k1 : i < r.subs.length := by have := Za6 hc1; omega
    rw [Zf9 rfl k1]
    have hm := List.getElem_mem k1
    have hsz := Zao k1
    have hst := Zbq r.subs (i + 1)
    have hbi := Zjy r bd i
    have hT := T i k1
    have hl1 := L i
    have c1 := ihs _ hm (Q i) (bI r bd i) _ _ _ _ hd.up (by omega) (by omega)
    rw [hT] at c1
    rw [Zbv hr] at c1
    have hn : Q (i + 1) ≠ [] := by rw [<- hT]; exact Zfh hr
    have hbI : bI r bd i = [] := by unfold bI bX; rw [if_neg (show ¬ r.kind = 15 by rw [hk]; decide), hbl]; simp
    rw [hbI, Zhi] at c1
    refine ⟨tle (by omega), teq (by simp), fun _ => False, True, ⟨fun h => absurd (hk.symm.trans (Zjz bd h).2) (by decide), fun _ => trivial⟩, fun _ h => h.elim, fun _ => ?_, trivial⟩
    exact Zd1 (B := B70 (.up o) (.up w) (.up e) (.up d)) hn c1 ⟨tle (by omega), tle (by omega), ⟨i + 1, rfl, k1, rfl, hn⟩, dec k1⟩
   ·have k1 : r.subs.length <= i := by have := Za7 hc1; omega
    have hi : i = r.subs.length := by omega
    subst hi
    have hl1 := L r.subs.length
    rw [List.take_length] at hl1
    have c1 := ihd (Q r.subs.length) (bL r bd) _ _ _ _ hd.up (by omega) (by omega)
    rw [N] at c1
    rw [Zbv hr] at c1
    have hn : jn P (nE r bd) ≠ [] := by rw [<- N]; exact Zfh hr
    rw [hbl, Zhi] at c1
    exact Zd1 (B := B72 (.up o) (.up w) (.up e) (.up d)) hn c1 (by rw [Zbv hn]; exact ⟨rfl, rfl⟩)
 ·rintro ⟨ho, hbl⟩
  have Z1 : Q 0 = [r.text] := by rw [Z, ho, hP]; rfl
  refine ⟨fun x es => ∃ i : Nat, x = i /\ i <= r.subs.length /\ es = txs (Q i) /\ Q i ≠ [], fun x _ => r.subs.length - x.toNat, ⟨0, rfl, Nat.zero_le _, by rw [Z1]; rfl, by rw [Z1]; simp⟩, ?_, trivial⟩
  rintro x es ⟨i, rfl, hi, rfl, hr⟩
  refine ⟨fun hc1 => ?_, fun hc1 => ?_⟩
  ·have k1 : i < r.subs.length := by have := Za6 hc1; omega
   rw [Zf9 rfl k1]
   have hm := List.getElem_mem k1
   have hsz := Zao k1
   have hst := Zbq r.subs (i + 1)
   have hbi := Zjy r bd i
   have hT := T i k1
   have hl1 := L i
   have c1 := ihs _ hm (Q i) (bI r bd i) _ _ _ _ hd.up (by omega) (by omega)
   rw [hT] at c1
   rw [Zbv hr] at c1
   have hn : Q (i + 1) ≠ [] := by rw [<- hT]; exact Zfh hr
   refine ⟨tle (by omega), teq (by simp), fun es => es = txs (bI r bd i), bI r bd i = bd, ⟨fun h => Zas (c68 bd r.n0 r.n1 (by omega)) ⟨_, rfl, rfl, by rw [(Zjz bd h).1, hbl]⟩, fun h => by rw [Zws bd h, hbl]⟩, ?_, fun hbI => ?_, trivial⟩
   ·rintro _ rfl
    exact Zd1 (B := B70 (.up o) (.up w) (.up e) (.up d)) hn c1 ⟨tle (by omega), tle (by omega), ⟨i + 1, rfl, k1, rfl, hn⟩, dec k1⟩
   ·rw [hbI] at c1
    exact Zd1 (B := B70 (.up o) (.up w) (.up e) (.up d)) hn c1 ⟨tle (by omega), tle (by omega), ⟨i + 1, rfl, k1, rfl, hn⟩, dec k1⟩
  ·have k1 : r.subs.length <= i := by have := Za7 hc1; omega
   have hi : i = r.subs.length := by omega
   subst hi
   have hl1 := L r.subs.length
   rw [List.take_length] at hl1
   have c1 := ihd (Q r.subs.length) (bL r bd) _ _ _ _ hd.up (by omega) (by omega)
   rw [N] at c1
   rw [Zbv hr] at c1
   have hn : jn P (nE r bd) ≠ [] := by rw [<- N]; exact Zfh hr
   rw [hbl] at c1
   exact Zd1 (B := B72 (.up o) (.up w) (.up e) (.up d)) hn c1 (by rw [Zbv hn]; exact ⟨rfl, rfl⟩)
 ·rintro ⟨ho, hbl⟩
  rw [hP] at Z
  refine ⟨fun x => ∃ i : Nat, x = i /\ i <= r.subs.length /\ Q i = [], fun x => r.subs.length - x.toNat, fun x es => ∃ i : Nat, x = i /\ i <= r.subs.length /\ es = txs (Q i) /\ Q i ≠ [], fun x _ => r.subs.length - x.toNat, ⟨0, rfl, Nat.zero_le _, ?_⟩, ?_, ?_, trivial⟩
  ·rw [Z, ho]; rfl
  ·rintro x ⟨i, rfl, hi, hr⟩
   refine ⟨fun hc1 => ?_, fun hc1 => ?_⟩
   ·have k1 : i < r.subs.length := by have := Za6 hc1; omega
    rw [Zf9 rfl k1]
    have hm := List.getElem_mem k1
    have hsz := Zao k1
    have hst := Zbq r.subs (i + 1)
    have hbi := Zjy r bd i
    have hT := T i k1
    have hl1 := L i
    have c1 := ihs _ hm (Q i) (bI r bd i) _ _ _ _ hd.up (by omega) (by omega)
    rw [hT] at c1
    rw [hr] at c1
    refine ⟨tle (by omega), teq (by simp), fun es => es = txs (bI r bd i), bI r bd i = bd, ⟨fun h => Zas (c68 bd r.n0 r.n1 (by omega)) ⟨_, rfl, rfl, by rw [(Zjz bd h).1, hbl]⟩, fun h => by rw [Zws bd h, hbl]⟩, ?_, fun hbI => ?_, trivial⟩
    ·rintro _ rfl
     exact callT (B := B70 (.up o) (.up w) (.up e) (.up d)) c1 (fun h => ⟨tle (by omega), tle (by omega), ⟨i + 1, rfl, k1, h⟩, dec k1⟩) fun h => ⟨tle (by omega), tle (by omega), ⟨i + 1, rfl, k1, rfl, h⟩, dec k1⟩
    ·rw [hbI] at c1
     exact callT (B := B70 (.up o) (.up w) (.up e) (.up d)) c1 (fun h => ⟨tle (by omega), tle (by omega), ⟨i + 1, rfl, k1, h⟩, dec k1⟩) fun h => ⟨tle (by omega), tle (by omega), ⟨i + 1, rfl, k1, rfl, h⟩, dec k1⟩
   ·have k1 : r.subs.length <= i := by have := Za7 hc1; omega
    have hi : i = r.subs.length := by omega
    subst hi
    have hl1 := L r.subs.length
    rw [List.take_length] at hl1
    have c1 := ihd (Q r.subs.length) (bL r bd) _ _ _ _ hd.up (by omega) (by omega)
    rw [N] at c1
    rw [hr] at c1
    rw [hbl] at c1
    exact callT (B := B72 (.up o) (.up w) (.up e) (.up d)) c1 (fun h => by rw [h]; exact ⟨rfl, rfl⟩) fun h => by rw [Zbv h]; exact ⟨rfl, rfl⟩
  ·rintro x es ⟨i, rfl, hi, rfl, hr⟩
   refine ⟨fun hc1 => ?_, fun hc1 => ?_⟩
   ·have k1 : i < r.subs.length := by have := Za6 hc1; omega
    rw [Zf9 rfl k1]
    have hm := List.getElem_mem k1
    have hsz := Zao k1
    have hst := Zbq r.subs (i + 1)
    have hbi := Zjy r bd i
    have hT := T i k1
    have hl1 := L i
    have c1 := ihs _ hm (Q i) (bI r bd i) _ _ _ _ hd.up (by omega) (by omega)
    rw [hT] at c1
    rw [Zbv hr] at c1
    have hn : Q (i + 1) ≠ [] := by rw [<- hT]; exact Zfh hr
    refine ⟨tle (by omega), teq (by simp), fun es => es = txs (bI r bd i), bI r bd i = bd, ⟨fun h => Zas (c68 bd r.n0 r.n1 (by omega)) ⟨_, rfl, rfl, by rw [(Zjz bd h).1, hbl]⟩, fun h => by rw [Zws bd h, hbl]⟩, ?_, fun hbI => ?_, trivial⟩
    ·rintro _ rfl
     exact Zd1 (B := B70 (.up o) (.up w) (.up e) (.up d)) hn c1 ⟨tle (by omega), tle (by omega), ⟨i + 1, rfl, k1, rfl, hn⟩, dec k1⟩
    ·rw [hbI] at c1
     exact Zd1 (B := B70 (.up o) (.up w) (.up e) (.up d)) hn c1 ⟨tle (by omega), tle (by omega), ⟨i + 1, rfl, k1, rfl, hn⟩, dec k1⟩
   ·have k1 : r.subs.length <= i := by have := Za7 hc1; omega
    have hi : i = r.subs.length := by omega
    subst hi
    have hl1 := L r.subs.length
    rw [List.take_length] at hl1
    have c1 := ihd (Q r.subs.length) (bL r bd) _ _ _ _ hd.up (by omega) (by omega)
    rw [N] at c1
    rw [Zbv hr] at c1
    have hn : jn P (nE r bd) ≠ [] := by rw [<- N]; exact Zfh hr
    rw [hbl] at c1
    exact Zd1 (B := B72 (.up o) (.up w) (.up e) (.up d)) hn c1 (by rw [Zbv hn]; exact ⟨rfl, rfl⟩)
theorem c70b (r : Nd) (ihs : ∀ x ∈ r.subs, H70 x) (ihd : H72 r.decls) (bd : List Tx) (o w e d : Ref) (hd : Dst o w e d) (P : List Tx) (hP : P ≠ []) (hp : P.length + size r <= 2 ^ 28) (hb : bd.length + 2 * size r <= 2 ^ 28) :
 Holds Tryz.prog 70 [.agg (encE r), slA (txs bd), .ptr (.up o) 0, .ptr (.up w) 0, .ptr (.up e) 0, .ptr (.up d) 0] (B70 o w e d (.own 1 (txs P) [])) (RB (B70 o w e d (ow (jn P (nE r bd))))) := by
 have hz := Zci r
 have lB := Zqm r bd
 have hsl := Zdy r.subs
 obtain ⟨Q, hQ⟩ : ∃ Q : Nat -> List Tx, Q = fun i => jn P (oE r bd ++ nS (r.subs.take i) (bL r bd) (bX r bd)) := ⟨_, rfl⟩
 have Z : Q 0 = jn P (oE r bd) := by rw [hQ]; simp [nS]
 have T : ∀ i (k1 : i < r.subs.length), jn (Q i) (nE r.subs[i] (bI r bd i)) = Q (i + 1) := fun i k1 => by
  rw [hQ]; simp only []
  rw [<- Zck, List.append_assoc]; exact congrArg (fun z => jn P (oE r bd ++ z)) (Zhl _ _ k1)
 have N : jn (Q r.subs.length) (nDs r.decls (bL r bd)) = jn P (nE r bd) := by
  rw [hQ]; simp only [List.take_length]
  rw [<- Zck, Zzq]
 have L : ∀ i, (Q i).length <= P.length + 1 + Zal (r.subs.take i) := fun i => by
  have h1 := Zcl P (oE r bd ++ nS (r.subs.take i) (bL r bd) (bX r bd))
  have h2 := Znl (r.subs.take i) (bL r bd) (bX r bd)
  have lO : (oE r bd).length <= 1 := by unfold oE; split <;> simp
  rw [List.length_append] at h1; rw [hQ]; simp only []; omega
 clear hQ
 have Zn : Q 0 ≠ [] := by rw [Z]; exact Zfh hP
 refine w70b (encE r) (txs bd) (txs P) o w e d hd.1 hd.2.1 hd.2.2.1 hd.2.2.2.1 hd.2.2.2.2.1 hd.2.2.2.2.2 ?_
 simp only [Zdw, e0, e1, e2, e3, e4, e5, e6, e7, e8, isK_int, isK_str, isK_slc, Zcw, Zfv, Zcx, true_and, Zbg, Zbh, Zbe, Zcj, Bool.or_true, List.nil_append, List.length_singleton]
 refine ⟨teq rfl, r.kind = 10 /\ r.n0 = LET, fun _ es => es = txs (Q 0) /\ bL r bd = bd, ⟨fun h => ?_, fun h => ⟨fun h1 => Zas (c71 r.text bd (by omega)) ⟨_, rfl, rfl, fun h2 => ?_, fun h2 => ?_⟩, fun h1 => ?_⟩⟩, ?_, ?_, trivial⟩
 ·simpa [LET] using h
 ·have hk := Zfg h1
  have hn : ¬ r.n0 = LET := fun e => by rw [e] at h; simp [hk, LET] at h
  have h2 : r.text ∉ bd := by simpa using h2
  have ho : oE r bd = [r.text] := by unfold oE; rw [if_pos ⟨hk, hn, h2⟩]
  have hbl : bL r bd = bd := by unfold bL; rw [if_neg (fun e => hn e.2)]
  rw [ho, Zur] at Z
  refine Zas (c71 r.text P (by omega)) ⟨_, rfl, rfl, fun h3 => ⟨tle (by omega), tle (by omega), ?_, hbl⟩, fun h3 => ⟨?_, hbl⟩⟩
  ·rw [Z, Zib (by simpa using h3), <- txs1]
  ·rw [Z, Zlx (by simpa using h3)]
 ·have hk := Zfg h1
  have hn : ¬ r.n0 = LET := fun e => by rw [e] at h; simp [hk, LET] at h
  have h2 : r.text ∈ bd := by simpa using h2
  exact ⟨by rw [Z, show oE r bd = [] by unfold oE; rw [if_neg (fun e => e.2.2 h2)]]; rfl, by unfold bL; rw [if_neg (fun e => hn e.2)]⟩
 ·have hk := Zey h1
  exact ⟨by rw [Z, show oE r bd = [] by unfold oE; rw [if_neg (fun e => hk e.1)]]; rfl, by unfold bL; rw [if_neg (fun e => hk e.1)]⟩
 ·rintro ⟨hk, hn⟩
  have ho : oE r bd = [] := by unfold oE; rw [if_neg (fun e => e.2.1 hn)]
  have hbl : bL r bd = [] := by unfold bL; rw [if_pos ⟨hk, hn⟩]
  refine ⟨fun x es => ∃ i : Nat, x = i /\ i <= r.subs.length /\ es = txs (Q i) /\ Q i ≠ [], fun x _ => r.subs.length - x.toNat, ⟨0, rfl, Nat.zero_le _, by rw [Z, ho]; rfl, Zn⟩, ?_, trivial⟩
  rintro x es ⟨i, rfl, hi, rfl, hr⟩
  refine ⟨fun hc1 => ?_, fun hc1 => ?_⟩
  ·have k1 : i < r.subs.length := by have := Za6 hc1; omega
   rw [Zf9 rfl k1]
   have hm := List.getElem_mem k1
   have hsz := Zao k1
   have hst := Zbq r.subs (i + 1)
   have hbi := Zjy r bd i
   have hT := T i k1
   have hl1 := L i
   have c1 := ihs _ hm (Q i) (bI r bd i) _ _ _ _ hd.up (by omega) (by omega)
   rw [hT] at c1
   rw [Zbv hr] at c1
   have hn : Q (i + 1) ≠ [] := by rw [<- hT]; exact Zfh hr
   have hbI : bI r bd i = [] := by unfold bI bX; rw [if_neg (show ¬ r.kind = 15 by rw [hk]; decide), hbl]; simp
   rw [hbI, Zhi] at c1
   refine ⟨tle (by omega), teq (by simp), fun _ => False, True, ⟨fun h => absurd (hk.symm.trans (Zjz bd h).2) (by decide), fun _ => trivial⟩, fun _ h => h.elim, fun _ => ?_, trivial⟩
   exact Zd1 (B := B70 (.up o) (.up w) (.up e) (.up d)) hn c1 ⟨tle (by omega), tle (by omega), ⟨i + 1, rfl, k1, rfl, hn⟩, dec k1⟩
  ·have k1 : r.subs.length <= i := by have := Za7 hc1; omega
   have hi : i = r.subs.length := by omega
   subst hi
   have hl1 := L r.subs.length
   rw [List.take_length] at hl1
   have c1 := ihd (Q r.subs.length) (bL r bd) _ _ _ _ hd.up (by omega) (by omega)
   rw [N] at c1
   rw [Zbv hr] at c1
   have hn : jn P (nE r bd) ≠ [] := by rw [<- N]; exact Zfh hr
   rw [hbl, Zhi] at c1
   exact Zd1 (B := B72 (.up o) (.up w) (.up e) (.up d)) hn c1 (by rw [Zbv hn]; exact ⟨rfl, rfl⟩)
 ·rintro b _ ⟨rfl, hbl⟩
  refine ⟨fun x es => ∃ i : Nat, x = i /\ i <= r.subs.length /\ es = txs (Q i) /\ Q i ≠ [], fun x _ => r.subs.length - x.toNat, ⟨0, rfl, Nat.zero_le _, rfl, Zn⟩, ?_, trivial⟩
  rintro x es ⟨i, rfl, hi, rfl, hr⟩
  refine ⟨fun hc1 => ?_, fun hc1 => ?_⟩
  ·have k1 : i < r.subs.length := by have := Za6 hc1; omega
   rw [Zf9 rfl k1]
   have hm := List.getElem_mem k1
   have hsz := Zao k1
   have hst := Zbq r.subs (i + 1)
   have hbi := Zjy r bd i
   have hT := T i k1
   have hl1 := L i
   have c1 := ihs _ hm (Q i) (bI r bd i) _ _ _ _ hd.up (by omega) (by omega)
   rw [hT] at c1
   rw [Zbv hr] at c1
   have hn : Q (i + 1) ≠ [] := by rw [<- hT]; exact Zfh hr
   refine ⟨tle (by omega), teq (by simp), fun es => es = txs (bI r bd i), bI r bd i = bd, ⟨fun h => Zas (c68 bd r.n0 r.n1 (by omega)) ⟨_, rfl, rfl, by rw [(Zjz bd h).1, hbl]⟩, fun h => by rw [Zws bd h, hbl]⟩, ?_, fun hbI => ?_, trivial⟩
   ·rintro _ rfl
    exact Zd1 (B := B70 (.up o) (.up w) (.up e) (.up d)) hn c1 ⟨tle (by omega), tle (by omega), ⟨i + 1, rfl, k1, rfl, hn⟩, dec k1⟩
   ·rw [hbI] at c1
    exact Zd1 (B := B70 (.up o) (.up w) (.up e) (.up d)) hn c1 ⟨tle (by omega), tle (by omega), ⟨i + 1, rfl, k1, rfl, hn⟩, dec k1⟩
  ·have k1 : r.subs.length <= i := by have := Za7 hc1; omega
   have hi : i = r.subs.length := by omega
   subst hi
   have hl1 := L r.subs.length
   rw [List.take_length] at hl1
   have c1 := ihd (Q r.subs.length) (bL r bd) _ _ _ _ hd.up (by omega) (by omega)
   rw [N] at c1
   rw [Zbv hr] at c1
   have hn : jn P (nE r bd) ≠ [] := by rw [<- N]; exact Zfh hr
   rw [hbl] at c1
   exact Zd1 (B := B72 (.up o) (.up w) (.up e) (.up d)) hn c1 (by rw [Zbv hn]; exact ⟨rfl, rfl⟩)
theorem c70 (r : Nd) (ihs : ∀ x ∈ r.subs, H70 x) (ihd : H72 r.decls) : H70 r := by
 intro P bd o w e d hd hp hb
 by_cases hP : P = []
 ·subst hP; exact c70a r ihs ihd bd o w e d hd [] rfl hp hb
 ·rw [Zbv hP]; exact c70b r ihs ihd bd o w e d hd P hP hp hb
theorem c72a (l : List Nd) (ih : ∀ x ∈ l, H72 x.decls /\ ∀ e ∈ x.subs, H70 e) (bd : List Tx) (o w e d : Ref) (hd : Dst o w e d) (P : List Tx) (hP : P = []) (hp : P.length + Zal l <= 2 ^ 28) (hb : bd.length + 2 * Zal l <= 2 ^ 28) :
 Holds Tryz.prog 72 [slA (Zco l), slA (txs bd), .ptr (.up e) 0, .ptr (.up w) 0, .ptr (.up d) 0] (B72 o w e d (ow [])) (RB (B72 o w e d (ow (jn P (nDs l bd))))) := by
 have hll := Zdy l
 refine w72a (Zco l) (txs bd) e o w d hd.2.1.symm hd.2.2.1.symm hd.1 hd.2.2.2.2.2 hd.2.2.2.1 hd.2.2.2.2.1 ?_
 refine ⟨fun x => ∃ i : Nat, x = i /\ i <= l.length /\ jn P (nDs (l.take i) bd) = [], fun x => l.length - x.toNat, fun x es => ∃ i : Nat, x = i /\ i <= l.length /\ es = txs (jn P (nDs (l.take i) bd)) /\ jn P (nDs (l.take i) bd) ≠ [], fun x _ => l.length - x.toNat, ⟨0, rfl, Nat.zero_le _, by rw [hP]; rfl⟩, ?_, ?_, trivial⟩
 ·rintro x ⟨i, rfl, hi, hq⟩
  refine ⟨fun hc => ?_, fun hc => ?_⟩
  ·have k1 : i < l.length := by have := Za6 hc; simp at this; omega
   have hx := List.getElem_mem k1
   have ihx := ih _ hx
   have T := Zlw bd k1
   have hs1 := Zao k1
   have hs2 := Zbq l (i + 1)
   have l0 := Zoz (l.take i) bd
   rw [Zrj rfl k1]
   generalize l[i] = r at ihx T hs1
   have hz := Zci r
   have hsl := Zdy r.subs
   have hbd := Zuu r bd
   obtain ⟨S, hS⟩ : ∃ S : Nat -> List Tx, S = fun j => jn P (nDs (l.take i) bd ++ nS (r.subs.take j) bd bd) := ⟨_, rfl⟩
   have Z : S 0 = jn P (nDs (l.take i) bd) := by rw [hS]; simp [nS]
   have ST : ∀ j (j1 : j < r.subs.length), jn (S j) (nE r.subs[j] bd) = S (j + 1) := fun j j1 => by
    have h := Zhl bd bd j1
    rw [ite_self] at h
    rw [hS]; simp only []
    rw [<- Zck, List.append_assoc, h]
   have N : jn (S r.subs.length) (nDs r.decls (bD r bd)) = jn P (nDs (l.take (i + 1)) bd) := by
    rw [hS]; simp only [List.take_length]
    rw [<- Zck, List.append_assoc, <- Zwp, T]
   have L : ∀ j, (S j).length <= P.length + Zal (l.take i) + Zal (r.subs.take j) := fun j => by
    have h1 := Zcl P (nDs (l.take i) bd ++ nS (r.subs.take j) bd bd)
    have h2 := Znl (r.subs.take j) bd bd
    rw [List.length_append] at h1; rw [hS]; simp only []; omega
   have hl1 := L r.subs.length
   rw [List.take_length] at hl1
   clear hS
   simp only [Zb5, d0, d1, d2, d3, d4, d5, d6, d7, d8, d9, d10, isK_int, isK_str, isK_slc, Zcw, Zfv, Zcx, true_and, Zbg, Zbh, Zbe, Zcj]
   rw [<- Z] at hq
   refine ⟨tle (by omega), teq rfl, fun _ => S r.subs.length = [], fun _ es => es = txs (S r.subs.length) /\ S r.subs.length ≠ [], ⟨fun x => ∃ j : Nat, x = j /\ j <= r.subs.length /\ S j = [], fun x => r.subs.length - x.toNat, fun x es => ∃ j : Nat, x = j /\ j <= r.subs.length /\ es = txs (S j) /\ S j ≠ [], fun x _ => r.subs.length - x.toNat, ⟨0, rfl, Nat.zero_le _, hq⟩, ?_, ?_, trivial⟩, ?_, ?_, trivial⟩
   ·rintro x ⟨j, rfl, hj, hr⟩
    refine ⟨fun hc1 => ?_, fun hc1 => ?_⟩
    ·have j1 : j < r.subs.length := by have := Za6 hc1; omega
     rw [Zf9 rfl j1]
     have hm := List.getElem_mem j1
     have hsz := Zao j1
     have hst := Zbq r.subs (j + 1)
     have hT := ST j j1
     have hl2 := L j
     have c1 := ihx.2 _ hm (S j) bd _ _ _ _ hd.up (by omega) (by omega)
     rw [hT] at c1
     rw [hr] at c1
     exact ⟨tle (by omega), teq (by simp), callT (B := B70 (.up o) (.up w) (.up e) (.up d)) c1 (fun h => ⟨tle (by omega), tle (by omega), ⟨j + 1, rfl, j1, h⟩, dec j1⟩) fun h => ⟨tle (by omega), tle (by omega), ⟨j + 1, rfl, j1, rfl, h⟩, dec j1⟩⟩
    ·have hj : j = r.subs.length := by have := Za7 hc1; omega
     subst hj
     exact hr
   ·rintro x es ⟨j, rfl, hj, rfl, hr⟩
    refine ⟨fun hc1 => ?_, fun hc1 => ?_⟩
    ·have j1 : j < r.subs.length := by have := Za6 hc1; omega
     rw [Zf9 rfl j1]
     have hm := List.getElem_mem j1
     have hsz := Zao j1
     have hst := Zbq r.subs (j + 1)
     have hT := ST j j1
     have hl2 := L j
     have c1 := ihx.2 _ hm (S j) bd _ _ _ _ hd.up (by omega) (by omega)
     rw [hT] at c1
     rw [Zbv hr] at c1
     have hn : S (j + 1) ≠ [] := by rw [<- hT]; exact Zfh hr
     exact ⟨tle (by omega), teq (by simp), Zd1 (B := B70 (.up o) (.up w) (.up e) (.up d)) hn c1 ⟨tle (by omega), tle (by omega), ⟨j + 1, rfl, j1, rfl, hn⟩, dec j1⟩⟩
    ·have hj : j = r.subs.length := by have := Za7 hc1; omega
     subst hj
     exact ⟨rfl, hr⟩
   ·intro _ hr
    have c1 := ihx.1 (S r.subs.length) (bD r bd) _ _ _ _ hd.up (by omega) (by omega)
    rw [N] at c1
    rw [hr] at c1
    refine ⟨fun es => es = txs (bD r bd), bD r bd = bd, ⟨fun hk => Zas (c68 bd r.n0 r.n1 (by omega)) ⟨_, rfl, rfl, by rw [show bD r bd = _ from if_pos (Zfg hk)]⟩, fun hk => if_neg (Zey hk)⟩, ?_, fun hbD => ?_, trivial⟩
    ·rintro _ rfl
     exact callT (B := B72 (.up o) (.up w) (.up e) (.up d)) c1 (fun h => ⟨tle (by omega), tle (by omega), ⟨i + 1, rfl, k1, h⟩, dec k1⟩) fun h => ⟨tle (by omega), tle (by omega), ⟨i + 1, rfl, k1, rfl, h⟩, dec k1⟩
    ·rw [hbD] at c1
     exact callT (B := B72 (.up o) (.up w) (.up e) (.up d)) c1 (fun h => ⟨tle (by omega), tle (by omega), ⟨i + 1, rfl, k1, h⟩, dec k1⟩) fun h => ⟨tle (by omega), tle (by omega), ⟨i + 1, rfl, k1, rfl, h⟩, dec k1⟩
   ·rintro _ _ ⟨rfl, hr⟩
    have c1 := ihx.1 (S r.subs.length) (bD r bd) _ _ _ _ hd.up (by omega) (by omega)
    rw [N] at c1
    rw [Zbv hr] at c1
    have hn : jn P (nDs (l.take (i + 1)) bd) ≠ [] := by rw [<- N]; exact Zfh hr
    refine ⟨fun es => es = txs (bD r bd), bD r bd = bd, ⟨fun hk => Zas (c68 bd r.n0 r.n1 (by omega)) ⟨_, rfl, rfl, by rw [show bD r bd = _ from if_pos (Zfg hk)]⟩, fun hk => if_neg (Zey hk)⟩, ?_, fun hbD => ?_, trivial⟩
    ·rintro _ rfl
     exact Zd1 (B := B72 (.up o) (.up w) (.up e) (.up d)) hn c1 ⟨tle (by omega), tle (by omega), ⟨i + 1, rfl, k1, rfl, hn⟩, dec k1⟩
    ·rw [hbD] at c1
     exact Zd1 (B := B72 (.up o) (.up w) (.up e) (.up d)) hn c1 ⟨tle (by omega), tle (by omega), ⟨i + 1, rfl, k1, rfl, hn⟩, dec k1⟩
  ·have k1 : l.length <= i := by have := Za7 hc; simp at this; omega
   rw [List.take_of_length_le k1] at hq
   rw [hq]; exact ⟨rfl, rfl⟩
 ·rintro x es ⟨i, rfl, hi, rfl, hq⟩
  refine ⟨fun hc => ?_, fun hc => ?_⟩
  ·have k1 : i < l.length := by have := Za6 hc; simp at this; omega
   have hx := List.getElem_mem k1
   have ihx := ih _ hx
   have T := Zlw bd k1
   have hs1 := Zao k1
   have hs2 := Zbq l (i + 1)
   have l0 := Zoz (l.take i) bd
   rw [Zrj rfl k1]
   generalize l[i] = r at ihx T hs1
   have hz := Zci r
   have hsl := Zdy r.subs
   have hbd := Zuu r bd
   obtain ⟨S, hS⟩ : ∃ S : Nat -> List Tx, S = fun j => jn P (nDs (l.take i) bd ++ nS (r.subs.take j) bd bd) := ⟨_, rfl⟩
   have Z : S 0 = jn P (nDs (l.take i) bd) := by rw [hS]; simp [nS]
   have ST : ∀ j (j1 : j < r.subs.length), jn (S j) (nE r.subs[j] bd) = S (j + 1) := fun j j1 => by
    have h := Zhl bd bd j1
    rw [ite_self] at h
    rw [hS]; simp only []
    rw [<- Zck, List.append_assoc, h]
   have N : jn (S r.subs.length) (nDs r.decls (bD r bd)) = jn P (nDs (l.take (i + 1)) bd) := by
    rw [hS]; simp only [List.take_length]
    rw [<- Zck, List.append_assoc, <- Zwp, T]
   have L : ∀ j, (S j).length <= P.length + Zal (l.take i) + Zal (r.subs.take j) := fun j => by
    have h1 := Zcl P (nDs (l.take i) bd ++ nS (r.subs.take j) bd bd)
    have h2 := Znl (r.subs.take j) bd bd
    rw [List.length_append] at h1; rw [hS]; simp only []; omega
   have hl1 := L r.subs.length
   rw [List.take_length] at hl1
   clear hS
   simp only [Zb5, d0, d1, d2, d3, d4, d5, d6, d7, d8, d9, d10, isK_int, isK_str, isK_slc, Zcw, Zfv, Zcx, true_and, Zbg, Zbh, Zbe, Zcj]
   rw [<- Z] at hq
   rw [<- Z]
   refine ⟨tle (by omega), teq rfl, fun _ es => es = txs (S r.subs.length) /\ S r.subs.length ≠ [], ⟨fun x es => ∃ j : Nat, x = j /\ j <= r.subs.length /\ es = txs (S j) /\ S j ≠ [], fun x _ => r.subs.length - x.toNat, ⟨0, rfl, Nat.zero_le _, rfl, hq⟩, ?_, trivial⟩, ?_, trivial⟩
   ·rintro x es ⟨j, rfl, hj, rfl, hr⟩
    refine ⟨fun hc1 => ?_, fun hc1 => ?_⟩
    ·have j1 : j < r.subs.length := by have := Za6 hc1; omega
     rw [Zf9 rfl j1]
     have hm := List.getElem_mem j1
     have hsz := Zao j1
     have hst := Zbq r.subs (j + 1)
     have hT := ST j j1
     have hl2 := L j
     have c1 := ihx.2 _ hm (S j) bd _ _ _ _ hd.up (by omega) (by omega)
     rw [hT] at c1
     rw [Zbv hr] at c1
     have hn : S (j + 1) ≠ [] := by rw [<- hT]; exact Zfh hr
     exact ⟨tle (by omega), teq (by simp), Zd1 (B := B70 (.up o) (.up w) (.up e) (.up d)) hn c1 ⟨tle (by omega), tle (by omega), ⟨j + 1, rfl, j1, rfl, hn⟩, dec j1⟩⟩
    ·have hj : j = r.subs.length := by have := Za7 hc1; omega
     subst hj
     exact ⟨rfl, hr⟩
   ·rintro _ _ ⟨rfl, hr⟩
    have c1 := ihx.1 (S r.subs.length) (bD r bd) _ _ _ _ hd.up (by omega) (by omega)
    rw [N] at c1
    rw [Zbv hr] at c1
    have hn : jn P (nDs (l.take (i + 1)) bd) ≠ [] := by rw [<- N]; exact Zfh hr
    refine ⟨fun es => es = txs (bD r bd), bD r bd = bd, ⟨fun hk => Zas (c68 bd r.n0 r.n1 (by omega)) ⟨_, rfl, rfl, by rw [show bD r bd = _ from if_pos (Zfg hk)]⟩, fun hk => if_neg (Zey hk)⟩, ?_, fun hbD => ?_, trivial⟩
    ·rintro _ rfl
     exact Zd1 (B := B72 (.up o) (.up w) (.up e) (.up d)) hn c1 ⟨tle (by omega), tle (by omega), ⟨i + 1, rfl, k1, rfl, hn⟩, dec k1⟩
    ·rw [hbD] at c1
     exact Zd1 (B := B72 (.up o) (.up w) (.up e) (.up d)) hn c1 ⟨tle (by omega), tle (by omega), ⟨i + 1, rfl, k1, rfl, hn⟩, dec k1⟩
  ·have k1 : l.length <= i := by have := Za7 hc; simp at this; omega
   rw [List.take_of_length_le k1] at hq ⊢
   rw [Zbv hq]; exact ⟨rfl, rfl⟩
theorem c72b (l : List Nd) (ih : ∀ x ∈ l, H72 x.decls /\ ∀ e ∈ x.subs, H70 e) (bd : List Tx) (o w e d : Ref) (hd : Dst o w e d) (P : List Tx) (hP : P ≠ []) (hp : P.length + Zal l <= 2 ^ 28) (hb : bd.length + 2 * Zal l <= 2 ^ 28) :
 Holds Tryz.prog 72 [slA (Zco l), slA (txs bd), .ptr (.up e) 0, .ptr (.up w) 0, .ptr (.up d) 0] (B72 o w e d (.own 1 (txs P) [])) (RB (B72 o w e d (ow (jn P (nDs l bd))))) := by
 have hll := Zdy l
 refine w72b (Zco l) (txs bd) (txs P) e o w d hd.2.1.symm hd.2.2.1.symm hd.1 hd.2.2.2.2.2 hd.2.2.2.1 hd.2.2.2.2.1 ?_
 refine ⟨fun x es => ∃ i : Nat, x = i /\ i <= l.length /\ es = txs (jn P (nDs (l.take i) bd)) /\ jn P (nDs (l.take i) bd) ≠ [], fun x _ => l.length - x.toNat, ⟨0, rfl, Nat.zero_le _, rfl, hP⟩, ?_, trivial⟩
 rintro x es ⟨i, rfl, hi, rfl, hq⟩
 refine ⟨fun hc => ?_, fun hc => ?_⟩
 ·have k1 : i < l.length := by have := Za6 hc; simp at this; omega
  have hx := List.getElem_mem k1
  have ihx := ih _ hx
  have T := Zlw bd k1
  have hs1 := Zao k1
  have hs2 := Zbq l (i + 1)
  have l0 := Zoz (l.take i) bd
  rw [Zrj rfl k1]
  generalize l[i] = r at ihx T hs1
  have hz := Zci r
  have hsl := Zdy r.subs
  have hbd := Zuu r bd
  obtain ⟨S, hS⟩ : ∃ S : Nat -> List Tx, S = fun j => jn P (nDs (l.take i) bd ++ nS (r.subs.take j) bd bd) := ⟨_, rfl⟩
  have Z : S 0 = jn P (nDs (l.take i) bd) := by rw [hS]; simp [nS]
  have ST : ∀ j (j1 : j < r.subs.length), jn (S j) (nE r.subs[j] bd) = S (j + 1) := fun j j1 => by
   have h := Zhl bd bd j1
   rw [ite_self] at h
   rw [hS]; simp only []
   rw [<- Zck, List.append_assoc, h]
  have N : jn (S r.subs.length) (nDs r.decls (bD r bd)) = jn P (nDs (l.take (i + 1)) bd) := by
   rw [hS]; simp only [List.take_length]
   rw [<- Zck, List.append_assoc, <- Zwp, T]
  have L : ∀ j, (S j).length <= P.length + Zal (l.take i) + Zal (r.subs.take j) := fun j => by
   have h1 := Zcl P (nDs (l.take i) bd ++ nS (r.subs.take j) bd bd)
   have h2 := Znl (r.subs.take j) bd bd
   rw [List.length_append] at h1; rw [hS]; simp only []; omega
  have hl1 := L r.subs.length
  rw [List.take_length] at hl1
  clear hS
  simp only [Zb5, d0, d1, d2, d3, d4, d5, d6, d7, d8, d9, d10, isK_int, isK_str, isK_slc, Zcw, Zfv, Zcx, true_and, Zbg, Zbh, Zbe, Zcj]
  rw [<- Z] at hq
  rw [<- Z]
  refine ⟨tle (by omega), teq rfl, fun x es => ∃ j : Nat, x = j /\ j <= r.subs.length /\ es = txs (S j) /\ S j ≠ [], fun x _ => r.subs.length - x.toNat, ⟨0, rfl, Nat.zero_le _, rfl, hq⟩, ?_, trivial⟩
  rintro x es ⟨j, rfl, hj, rfl, hr⟩
  refine ⟨fun hc1 => ?_, fun hc1 => ?_⟩
  ·have j1 : j < r.subs.length := by have := Za6 hc1; omega
   rw [Zf9 rfl j1]
   have hm := List.getElem_mem j1
   have hsz := Zao j1
   have hst := Zbq r.subs (j + 1)
   have hT := ST j j1
   have hl2 := L j
   have c1 := ihx.2 _ hm (S j) bd _ _ _ _ hd.up (by omega) (by omega)
   rw [hT] at c1
   rw [Zbv hr] at c1
   have hn : S (j + 1) ≠ [] := by rw [<- hT]; exact Zfh hr
   exact ⟨tle (by omega), teq (by simp), Zd1 (B := B70 (.up o) (.up w) (.up e) (.up d)) hn c1 ⟨tle (by omega), tle (by omega), ⟨j + 1, rfl, j1, rfl, hn⟩, dec j1⟩⟩
  ·have hj : j = r.subs.length := by have := Za7 hc1; omega
   subst hj
   have c1 := ihx.1 (S r.subs.length) (bD r bd) _ _ _ _ hd.up (by omega) (by omega)
   rw [N] at c1
   rw [Zbv hr] at c1
   have hn : jn P (nDs (l.take (i + 1)) bd) ≠ [] := by rw [<- N]; exact Zfh hr
   refine ⟨fun es => es = txs (bD r bd), bD r bd = bd, ⟨fun hk => Zas (c68 bd r.n0 r.n1 (by omega)) ⟨_, rfl, rfl, by rw [show bD r bd = _ from if_pos (Zfg hk)]⟩, fun hk => if_neg (Zey hk)⟩, ?_, fun hbD => ?_, trivial⟩
   ·rintro _ rfl
    exact Zd1 (B := B72 (.up o) (.up w) (.up e) (.up d)) hn c1 ⟨tle (by omega), tle (by omega), ⟨i + 1, rfl, k1, rfl, hn⟩, dec k1⟩
   ·rw [hbD] at c1
    exact Zd1 (B := B72 (.up o) (.up w) (.up e) (.up d)) hn c1 ⟨tle (by omega), tle (by omega), ⟨i + 1, rfl, k1, rfl, hn⟩, dec k1⟩
 ·have k1 : l.length <= i := by have := Za7 hc; simp at this; omega
  rw [List.take_of_length_le k1] at hq ⊢
  rw [Zbv hq]; exact ⟨rfl, rfl⟩
theorem c72 (l : List Nd) (ih : ∀ x ∈ l, H72 x.decls /\ ∀ e ∈ x.subs, H70 e) : H72 l := by
 intro P bd o w e d hd hp hb
 by_cases hP : P = []
 ·subst hP; exact c72a l ih bd o w e d hd [] rfl hp hb
 ·rw [Zbv hP]; exact c72b l ih bd o w e d hd P hP hp hb
theorem Z2s : ∀ r : Nd, H70 r /\ H72 r.decls /\ ∀ e ∈ r.subs, H70 e := by
 apply Zg4
 intro r hs hd
 have hS : ∀ x ∈ r.subs, H70 x := fun x hx => (hs x hx).1
 have hD := c72 r.decls fun x hx => (hd x hx).2
 exact ⟨c70 r hS hD, hD, hS⟩
theorem c24o (r : Nd) (h : 2 * size r <= 2 ^ 28) : Holds Tryz.prog 24 [.agg (encE r)] [] (Ret (ow (jn [] (nE r [])))) := by
 refine w24 _ ⟨teq (by simp), fun ν => ?_⟩
 have c1 := (Z2s r).1 [] [] (.own 3 (ν 3)) (.own 6 (ν 6)) (.own 4 (ν 4)) (.own 5 (ν 5)) (by unfold Dst; simp) (by simp; omega) (by simpa using h)
 have c2 := Holds.asArgs (args := [.agg (encE r), .zs [], .ptr (.up (.own 3 (ν 3))) 0, .ptr (.up (.own 6 (ν 6))) 0, .ptr (.up (.own 4 (ν 4))) 0, .ptr (.up (.own 5 (ν 5))) 0]) (by exact ⟨.same _, .zs _, .same _, .same _, .same _, .same _, trivial⟩) c1
 refine callT (B := B70 (.own 3 (ν 3)) (.own 6 (ν 6)) (.own 4 (ν 4)) (.own 5 (ν 5))) c2 (fun h => ?_) (fun h => ?_) ν
 ·rw [h]; exact ⟨rfl, rfl⟩
 ·rw [Zbv h]; exact ⟨rfl, rfl⟩
theorem c24 (r : Nd) (h : 2 * size r <= 2 ^ 28) : Holds Tryz.prog 24 [.agg (encE r)] [] (Ret (slA (txs (jn [] (nE r []))))) := Holds.ofO (c24o r h)
end Go.Sy
end
section
open Go Go.Proofs Go.Ab Go.Rf
set_option linter.unusedSimpArgs false
set_option maxRecDepth 100000
namespace Go.Sy
mutual
def plE : Nd -> Nd -> Bool
 | .mk _ _ _ _ _ _ _ _ p s d, y => plEs s y.subs && (p == y.pos && plDs d y.decls)
def plEs : List Nd -> List Nd -> Bool
 | a :: l, b :: m => plE a b && plEs l m
 | _, _ => true
def plD : Nd -> Nd -> Bool
 | .mk _ _ _ _ _ _ _ _ p s d, y => p == y.pos && (plDs d y.decls && plEs s y.subs)
def plDs : List Nd -> List Nd -> Bool
 | a :: l, b :: m => plD a b && plDs l m
 | _, _ => true
end
end Go.Sy
end
section
open Go Go.Proofs Go.Ab Go.Rf
set_option linter.unusedSimpArgs false
set_option maxRecDepth 100000
namespace Go.Sy
end Go.Sy
end
section
open Go Go.Proofs Go.Ab Go.Rf
set_option linter.unusedSimpArgs false
set_option maxRecDepth 100000
namespace Go.Sy
theorem Zo0 : ∀ (l : List Nd), ((∀ x ∈ l, (size x : Int) <= wE x) -> (Zal l : Int) <= wEs l) /\ ((∀ x ∈ l, (size x : Int) <= wD x) -> (Zal l : Int) <= wDs l)
 | [] => by simp [Zal, wEs, wDs]
 | x :: l => by
   have ih := Zo0 l
   refine ⟨fun h => ?_, fun h => ?_⟩
   ·have h1 := h x (by simp); have h2 := ih.1 fun y hy => h y (by simp [hy])
    rw [Zal, wEs]; omega
   ·have h1 := h x (by simp); have h2 := ih.2 fun y hy => h y (by simp [hy])
    rw [Zal, wDs]; omega
theorem Zqn : ∀ r : Nd, (size r : Int) <= wE r /\ (size r : Int) <= wD r := by
 apply Zg4
 intro r hs hd
 have h1 := (Zo0 r.subs).1 fun x hx => (hs x hx).1
 have h2 := (Zo0 r.decls).2 fun x hx => (hd x hx).2
 have h3 := Zow r
 rw [Zwj, Zwk, Zci]
 omega
end Go.Sy
end
section
open Go Go.Proofs Go.Ab Go.Rf
set_option linter.unusedSimpArgs false
set_option linter.unusedVariables false
set_option maxRecDepth 100000
namespace Go.Sy
def pL (a b : Nd) : Nd := mkE 14 [] 0 [a, b] []
def pS (a b : Nd) : Nd := mkE 13 [] 0 [] [.mk 7 0 [] [] [] [] [] [] 0 [a, b] []]
def pC (a : Nd) : Nd := .mk 15 0 [] [97] [98] [] [] [] 0 [a, Zwh [97], Zwh [99]] []
theorem Zzr (a b : Nd) : nE (pL a b) [] = nE a [] ++ nE b [] := by simp [pL, mkE, nE, nS, nDs]
theorem Zzs (a b : Nd) : nE (pS a b) [] = nE a [] ++ nE b [] := by simp [pS, mkE, nE, nS, nDs, nD]
theorem Zwt (a : Nd) : nE (pC a) [] = nE a [] ++ [[99]] := by simp [pC, Zwh, mkE, nE, nS, nDs, LET]
theorem Zdz (a b : Nd) : size (pL a b) = 1 + size a + size b := by simp [pL, mkE, size, Zal]; omega
theorem Zd0 (a b : Nd) : size (pS a b) = 2 + size a + size b := by simp [pS, mkE, size, Zal]; omega
theorem Zhm (a : Nd) : size (pC a) = 3 + size a := by simp [pC, Zwh, mkE, size, Zal]; omega
theorem Zzt {a b : Nd} (ha : All Shr a) (hb : All Shr b) : All Shr (pL a b) :=
 .mk (by simp [Shr, pL, mkE, Nd.subs, Nd.decls, Nd.tail, Nd.lead]) (fun x hx => by
  have : x = a \/ x = b := by simpa [pL, mkE, Nd.subs] using hx
  rcases this with rfl | rfl <;> assumption) (fun x hx => by simp [pL, mkE, Nd.decls] at hx)
theorem Zzu {a b : Nd} (ha : All Shr a) (hb : All Shr b) : All Shr (pS a b) :=
 .mk (by simp [Shr, pS, mkE, Nd.subs, Nd.decls, Nd.tail, Nd.lead]) (fun x hx => by simp [pS, mkE, Nd.subs] at hx) (fun x hx => by
  have : x = .mk 7 0 [] [] [] [] [] [] 0 [a, b] [] := by simpa [pS, mkE, Nd.decls] using hx
  subst this
  exact .mk (by simp [Shr, Nd.subs, Nd.decls, Nd.tail, Nd.lead]) (fun x hx => by
   have : x = a \/ x = b := by simpa [Nd.subs] using hx
   rcases this with rfl | rfl <;> assumption) (fun x hx => by simp [Nd.decls] at hx))
theorem c23z (l : List Tx) (hl : l.length <= 2 ^ 50) : Holds Tryz.prog 23 [slA (txs l), .zs []] [] (Ret (Zjq (decide (l = [])))) :=
 Holds.asArgs (args := [slA (txs l), .zs []]) (args' := [slA (txs l), slA (txs [])]) ⟨.same _, .zs _, trivial⟩ (c23 l [] hl)
theorem c10a (a b : Nd) (ha : All Big a) (wa : wfE a) (hb : All Big b) (wb : wfE b) (hX : jn [] (nE a []) ≠ []) : Holds Tryz.prog 10 [.agg (encE a), .agg (encE b)] [] (Ret (Zjq true)) := by
 have hXb : (jn [] (nE a [])).length <= (nE a []).length := by simpa using Zcl [] (nE a [])
 refine w10a _ _ ⟨teq (by simp), teq (by simp), Zas (c16 a ha) ⟨_, rfl, rfl, fun h1 => Zas (c16 b hb) ⟨_, rfl, rfl, by rw [e0]; simp, by rw [e0, e0]; simp, fun _ => Zas c13 ⟨_, rfl, rfl, rfl, rfl⟩, fun h2 => ?_⟩, fun _ => Zas c13 ⟨_, rfl, rfl, rfl, rfl⟩⟩⟩
 have h2 : smE b = true := by revert h2; cases smE b <;> simp
 obtain ⟨sa, wa⟩ := Zqg wa h1
 obtain ⟨sb, wb⟩ := Zqg wb h2
 have sa := Zqk sa; have sb := Zqk sb
 have za := (Zqn a).1; have zb := (Zqn b).1
 have na := Zj6 a []; have nb := Zj6 b []
 have lb := Zcl [] (nE b [])
 simp only [List.length_nil] at lb
 have cL : ∀ P, (jn [] (nE (pL a b) P)).length <= 300 := fun P => by have h1 := Zcl [] (nE (pL a b) P); have h2 := Zj6 (pL a b) P; rw [Zdz] at h2; simp only [List.length_nil] at h1; omega
 have cS : ∀ P, (jn [] (nE (pS a b) P)).length <= 300 := fun P => by have h1 := Zcl [] (nE (pS a b) P); have h2 := Zj6 (pS a b) P; rw [Zd0] at h2; simp only [List.length_nil] at h1; omega
 have cC : ∀ P, (jn [] (nE (pC a) P)).length <= 300 := fun P => by have h1 := Zcl [] (nE (pC a) P); have h2 := Zj6 (pC a) P; rw [Zhm] at h2; simp only [List.length_nil] at h1; omega
 have cL := cL []; have cS := cS []; have cC := cC []
 obtain ⟨l, hl⟩ : ∃ l, l = jn [] (nE a []) ++ jn [] (nE b []) := ⟨_, rfl⟩
 obtain ⟨W, hW⟩ : ∃ W, W = jn [] (nE a [] ++ nE b []) := ⟨_, rfl⟩
 have hlW : jn [] l = W := by rw [hl, hW, Zck, Z1w]
 have hlb : l.length <= 200 := by rw [hl, List.length_append]; omega
 have hWb : W.length <= 200 := by have := Zcl [] l; rw [hlW] at this; simp at this; omega
 have c0 := c24o a (by omega)
 rw [Zbv hX] at c0
 refine ⟨_, fun _ => c0, _, fun _ => c24 b (by omega), Zcj _, tle (by simp only [Zbe]; omega), tle (by simp only [Zbe]; omega), ?_⟩
 rw [Zri, <- hl]
 refine ⟨fun x => ∃ j : Nat, x = j /\ j <= l.length /\ jn [] (l.take j) = [], fun x => l.length - x.toNat, fun es x => ∃ j : Nat, x = j /\ j <= l.length /\ es = txs (jn [] (l.take j)), fun _ x => l.length - x.toNat, ⟨0, rfl, Nat.zero_le _, rfl⟩, ?_, ?_, trivial⟩
 ·rintro x ⟨j, rfl, hj, hs⟩
  refine ⟨fun hc => ?_, fun hc => ?_⟩
  ·have j1 : j < l.length := by have := Za6 hc; simp at this; omega
   have g := getT j1
   have T := Zwr [] j1
   rw [hs] at T
   rw [g.2]
   refine ⟨tle (by omega), teq (by rw [gT1 j1]; rfl), g.1, Zas (c34z _) ⟨_, rfl, rfl, fun _ => ⟨tle (by simp), tle (by simp), tle (by omega), tle (by omega), ⟨j + 1, rfl, j1, ?_⟩, dec j1⟩, fun h => by cases h⟩⟩
   rw [T]; rfl
  ·have j1 : l.length <= j := by have := Za7 hc; simp at this; omega
   rw [List.take_of_length_le j1] at hs
   exact absurd (Zrm.1 hs) (by rw [hl]; simp [hX])
 ·rintro es x ⟨j, rfl, hj, rfl⟩
  refine ⟨fun hc => ?_, fun hc => ?_⟩
  ·have j1 : j < l.length := by have := Za6 hc; simp at this; omega
   have g := getT j1
   have T := Zwr [] j1
   have hj2 : (jn [] (l.take j)).length <= 200 := by have := Zcl [] (l.take j); have := List.length_take_le' j l; simp only [List.length_nil] at *; omega
   rw [g.2]
   refine ⟨tle (by omega), teq (by rw [gT1 j1]; rfl), g.1, Zas (c34 _ _ (by omega)) ⟨_, rfl, rfl, fun h => ⟨tle (by simp; omega), tle (by simp; omega), tle (by omega), tle (by omega), ⟨j + 1, rfl, j1, ?_⟩, dec j1⟩, fun h => ⟨tle (by omega), tle (by omega), ⟨j + 1, rfl, j1, ?_⟩, dec j1⟩⟩⟩
   ·rw [T, Zib (by simpa using h), <- txs1]
   ·rw [T, Zlx (by simpa using h)]
  ·have j1 : l.length <= j := by have := Za7 hc; simp at this; omega
   rw [List.take_of_length_le j1, hlW]
   refine ⟨_, fun _ => c26 (pL a b) (Zzt sa sb) (by rw [Zdz]; omega), _, fun _ => c26 a sa (by omega), tle (by omega), tle (by omega), _, fun _ => c26 b sb (by omega), tle (by omega), tle (by omega), fun _ => ?_, fun h => absurd (Zey h) (by rw [Zdz]; simp)⟩
   refine ⟨_, fun _ => c24 (pL a b) (by rw [Zdz]; omega), Zas (c23 _ W (by omega)) ⟨_, rfl, rfl, fun h => ?_, fun _ => ?_⟩⟩
   ·rw [Zzr, <- hW] at h; simp at h
   refine ⟨_, fun _ => c26 (pS a b) (Zzu sa sb) (by rw [Zd0]; omega), _, fun _ => c26 a sa (by omega), tle (by omega), tle (by omega), _, fun _ => c26 b sb (by omega), tle (by omega), tle (by omega), fun _ => ?_, fun h => absurd (Zey h) (by rw [Zd0]; simp)⟩
   refine ⟨_, fun _ => c24 (pS a b) (by rw [Zd0]; omega), Zas (c23 _ W (by omega)) ⟨_, rfl, rfl, fun h => ?_, fun _ => ?_⟩⟩
   ·rw [Zzs, <- hW] at h; simp at h
   have c1 := c24o a (by omega)
   rw [Zbv hX] at c1
   refine Zas c1 ⟨_, rfl, rfl, Zas (c34 [99] _ (by omega)) ⟨_, rfl, rfl, fun h => ⟨tle (by simp; omega), tle (by simp; omega), Zas (c24 (pC a) (by rw [Zhm]; omega)) ⟨_, rfl, rfl, ?_⟩⟩, fun h => Zas (c24 (pC a) (by rw [Zhm]; omega)) ⟨_, rfl, rfl, Zas (c23 _ _ (by omega)) ⟨_, rfl, rfl, fun _ => Zas c13 ⟨_, rfl, rfl, rfl, rfl⟩, fun h2 => ?_⟩⟩⟩⟩
   ·rw [txs1]
    refine Zas (c23 _ _ (by omega)) ⟨_, rfl, rfl, fun _ => Zas c13 ⟨_, rfl, rfl, rfl, rfl⟩, fun h2 => ?_⟩
    rw [Zwt, Zck, Zur, Zib (by simpa using h)] at h2; simp at h2
   ·rw [Zwt, Zck, Zur, Zlx (by simpa using h)] at h2; simp at h2
theorem c10b (a b : Nd) (ha : All Big a) (wa : wfE a) (hb : All Big b) (wb : wfE b) (hX : jn [] (nE a []) = []) : Holds Tryz.prog 10 [.agg (encE a), .agg (encE b)] [] (Ret (Zjq true)) := by
 have hXb : (jn [] (nE a [])).length <= (nE a []).length := by simpa using Zcl [] (nE a [])
 refine w10b _ _ ⟨teq (by simp), teq (by simp), Zas (c16 a ha) ⟨_, rfl, rfl, fun h1 => Zas (c16 b hb) ⟨_, rfl, rfl, by rw [e0]; simp, by rw [e0, e0]; simp, fun _ => Zas c13 ⟨_, rfl, rfl, rfl, rfl⟩, fun h2 => ?_⟩, fun _ => Zas c13 ⟨_, rfl, rfl, rfl, rfl⟩⟩⟩
 have h2 : smE b = true := by revert h2; cases smE b <;> simp
 obtain ⟨sa, wa⟩ := Zqg wa h1
 obtain ⟨sb, wb⟩ := Zqg wb h2
 have sa := Zqk sa; have sb := Zqk sb
 have za := (Zqn a).1; have zb := (Zqn b).1
 have na := Zj6 a []; have nb := Zj6 b []
 have lb := Zcl [] (nE b [])
 simp only [List.length_nil] at lb
 have cL : ∀ P, (jn [] (nE (pL a b) P)).length <= 300 := fun P => by have h1 := Zcl [] (nE (pL a b) P); have h2 := Zj6 (pL a b) P; rw [Zdz] at h2; simp only [List.length_nil] at h1; omega
 have cS : ∀ P, (jn [] (nE (pS a b) P)).length <= 300 := fun P => by have h1 := Zcl [] (nE (pS a b) P); have h2 := Zj6 (pS a b) P; rw [Zd0] at h2; simp only [List.length_nil] at h1; omega
 have cC : ∀ P, (jn [] (nE (pC a) P)).length <= 300 := fun P => by have h1 := Zcl [] (nE (pC a) P); have h2 := Zj6 (pC a) P; rw [Zhm] at h2; simp only [List.length_nil] at h1; omega
 have cL := cL []; have cS := cS []; have cC := cC []
 obtain ⟨l, hl⟩ : ∃ l, l = jn [] (nE a []) ++ jn [] (nE b []) := ⟨_, rfl⟩
 obtain ⟨W, hW⟩ : ∃ W, W = jn [] (nE a [] ++ nE b []) := ⟨_, rfl⟩
 have hlW : jn [] l = W := by rw [hl, hW, Zck, Z1w]
 have hlb : l.length <= 200 := by rw [hl, List.length_append]; omega
 have hWb : W.length <= 200 := by have := Zcl [] l; rw [hlW] at this; simp at this; omega
 have c0 := c24o a (by omega)
 rw [hX] at c0
 refine ⟨fun _ => c0, _, fun _ => c24 b (by omega), Zcj _, tle (by simp only [Zbe]; omega), tle (by simp only [Zbe]; omega), ?_⟩
 rw [hX, List.nil_append] at hl
 rw [List.nil_append, <- hl]
 refine ⟨fun x => ∃ j : Nat, x = j /\ j <= l.length /\ jn [] (l.take j) = [], fun x => l.length - x.toNat, fun es x => ∃ j : Nat, x = j /\ j <= l.length /\ es = txs (jn [] (l.take j)), fun _ x => l.length - x.toNat, ⟨0, rfl, Nat.zero_le _, rfl⟩, ?_, ?_, trivial⟩
 ·rintro x ⟨j, rfl, hj, hs⟩
  refine ⟨fun hc => ?_, fun hc => ?_⟩
  ·have j1 : j < l.length := by have := Za6 hc; simp at this; omega
   have g := getT j1
   have T := Zwr [] j1
   rw [hs] at T
   rw [g.2]
   refine ⟨tle (by omega), teq (by rw [gT1 j1]; rfl), g.1, Zas (c34z _) ⟨_, rfl, rfl, fun _ => ⟨tle (by simp), tle (by simp), tle (by omega), tle (by omega), ⟨j + 1, rfl, j1, ?_⟩, dec j1⟩, fun h => by cases h⟩⟩
   rw [T]; rfl
  ·have j1 : l.length <= j := by have := Za7 hc; simp at this; omega
   rw [List.take_of_length_le j1] at hs
   have hz : W = [] := by rw [<- hlW]; exact hs
   refine ⟨_, fun _ => c26 (pL a b) (Zzt sa sb) (by rw [Zdz]; omega), _, fun _ => c26 a sa (by omega), tle (by omega), tle (by omega), _, fun _ => c26 b sb (by omega), tle (by omega), tle (by omega), fun _ => ?_, fun h => absurd (Zey h) (by rw [Zdz]; simp)⟩
   refine ⟨_, fun _ => c24 (pL a b) (by rw [Zdz]; omega), Zas (c23z _ (by omega)) ⟨_, rfl, rfl, fun h => ?_, fun _ => ?_⟩⟩
   ·rw [Zzr, <- hW] at h; simp [hz] at h
   refine ⟨_, fun _ => c26 (pS a b) (Zzu sa sb) (by rw [Zd0]; omega), _, fun _ => c26 a sa (by omega), tle (by omega), tle (by omega), _, fun _ => c26 b sb (by omega), tle (by omega), tle (by omega), fun _ => ?_, fun h => absurd (Zey h) (by rw [Zd0]; simp)⟩
   refine ⟨_, fun _ => c24 (pS a b) (by rw [Zd0]; omega), Zas (c23z _ (by omega)) ⟨_, rfl, rfl, fun h => ?_, fun _ => ?_⟩⟩
   ·rw [Zzs, <- hW] at h; simp [hz] at h
   have c1 := c24o a (by omega)
   rw [hX] at c1
   refine Zas c1 ⟨rfl, rfl, Zas (c34z _) ⟨_, rfl, rfl, fun _ => ⟨tle (by simp), tle (by simp), Zas (c24 (pC a) (by rw [Zhm]; omega)) ⟨_, rfl, rfl, Zas (c23 _ [[99]] (by omega)) ⟨_, rfl, rfl, fun _ => Zas c13 ⟨_, rfl, rfl, rfl, rfl⟩, fun h => ?_⟩⟩⟩, fun h => by cases h⟩⟩
   rw [Zwt, Zck, hX] at h; simp [jn, addN] at h
 ·rintro es x ⟨j, rfl, hj, rfl⟩
  refine ⟨fun hc => ?_, fun hc => ?_⟩
  ·have j1 : j < l.length := by have := Za6 hc; simp at this; omega
   have g := getT j1
   have T := Zwr [] j1
   have hj2 : (jn [] (l.take j)).length <= 200 := by have := Zcl [] (l.take j); have := List.length_take_le' j l; simp only [List.length_nil] at *; omega
   rw [g.2]
   refine ⟨tle (by omega), teq (by rw [gT1 j1]; rfl), g.1, Zas (c34 _ _ (by omega)) ⟨_, rfl, rfl, fun h => ⟨tle (by simp; omega), tle (by simp; omega), tle (by omega), tle (by omega), ⟨j + 1, rfl, j1, ?_⟩, dec j1⟩, fun h => ⟨tle (by omega), tle (by omega), ⟨j + 1, rfl, j1, ?_⟩, dec j1⟩⟩⟩
   ·rw [T, Zib (by simpa using h), <- txs1]
   ·rw [T, Zlx (by simpa using h)]
  ·have j1 : l.length <= j := by have := Za7 hc; simp at this; omega
   rw [List.take_of_length_le j1, hlW]
   refine ⟨_, fun _ => c26 (pL a b) (Zzt sa sb) (by rw [Zdz]; omega), _, fun _ => c26 a sa (by omega), tle (by omega), tle (by omega), _, fun _ => c26 b sb (by omega), tle (by omega), tle (by omega), fun _ => ?_, fun h => absurd (Zey h) (by rw [Zdz]; simp)⟩
   refine ⟨_, fun _ => c24 (pL a b) (by rw [Zdz]; omega), Zas (c23 _ W (by omega)) ⟨_, rfl, rfl, fun h => ?_, fun _ => ?_⟩⟩
   ·rw [Zzr, <- hW] at h; simp at h
   refine ⟨_, fun _ => c26 (pS a b) (Zzu sa sb) (by rw [Zd0]; omega), _, fun _ => c26 a sa (by omega), tle (by omega), tle (by omega), _, fun _ => c26 b sb (by omega), tle (by omega), tle (by omega), fun _ => ?_, fun h => absurd (Zey h) (by rw [Zd0]; simp)⟩
   refine ⟨_, fun _ => c24 (pS a b) (by rw [Zd0]; omega), Zas (c23 _ W (by omega)) ⟨_, rfl, rfl, fun h => ?_, fun _ => ?_⟩⟩
   ·rw [Zzs, <- hW] at h; simp at h
   have c1 := c24o a (by omega)
   rw [hX] at c1
   refine Zas c1 ⟨rfl, rfl, Zas (c34z _) ⟨_, rfl, rfl, fun _ => ⟨tle (by simp), tle (by simp), Zas (c24 (pC a) (by rw [Zhm]; omega)) ⟨_, rfl, rfl, Zas (c23 _ [[99]] (by omega)) ⟨_, rfl, rfl, fun _ => Zas c13 ⟨_, rfl, rfl, rfl, rfl⟩, fun h => ?_⟩⟩⟩, fun h => by cases h⟩⟩
   rw [Zwt, Zck, hX] at h; simp [jn, addN] at h
theorem c10 (a b : Nd) (ha : All Big a) (wa : wfE a) (hb : All Big b) (wb : wfE b) : Holds Tryz.prog 10 [.agg (encE a), .agg (encE b)] [] (Ret (Zjq true)) := by
 by_cases h : jn [] (nE a []) = []
 ·exact c10b a b ha wa hb wb h
 ·exact c10a a b ha wa hb wb h
end Go.Sy
end
section
open Go Go.Proofs Go.Ab Go.Rf Go.ChangeShapes Go.WideShapes Go.ChangeAt Go.Proofs.YtpcnadmaeebhbaaGreatDoor
set_option maxRecDepth 100000
namespace Go.Sy
theorem Zrn (os : Os) : laidMet Tryz.prog Rows.syntaxPartsRow.laid ((Zjx os).forCall (fun _ _ => 0) ⟨#[], #[zE, zE], []⟩).memory :=
 laidMet_of_run' 8 (by kernel_rfl) (by kernel_rfl)
theorem Zzv (os : Os) {H : Type} (en : TypeId × Value -> H) : ∃ places, DataW.whole en Tryz.prog ((Zjx os).forCall (fun _ _ => 0) ⟨#[], #[zE, zE], []⟩).memory Tryz.f10.params.toList Rows.syntaxPartsSpec.vars false #[zE, zE].toList 8 = some ([dE, dE], [], places) :=
 ⟨[], by kernel_rfl⟩
theorem Zwu (os : Os) (started : os.Started) (H : Type) (en : TypeId × Value -> H) (F : Stop.Interp) :
 ReturnsInHanded {} Tryz.checked os 10 .any ((OpenSpec.ofChange Rows.syntaxPartsSpec).preRow en Tryz.prog Tryz.f10 Rows.syntaxPartsRow.domain false Rows.syntaxPartsRow.laid) (((OpenSpec.ofChange Rows.syntaxPartsSpec).at F).post en Tryz.prog Tryz.f10 false true false false) := by
 obtain ⟨places, hx⟩ := Zzv os en
 refine returnsInHanded_of_row (C := Tryz.checked) (s := OpenSpec.ofChange Rows.syntaxPartsSpec) own started (by kernel_rfl) Tryz.func10
  (witness_row_at (enc := en) (C := Tryz.checked) false (Zjx os) #[zE, zE] rfl (by kernel_rfl) (by kernel_rfl) (by kernel_rfl)
   (OpenSpec.preRow_of_cond 8 hx (by kernel_rfl) (fun k hk => by cases hk) (by kernel_rfl) (Zrn os))) ?_
 intro W base args ds gs before hval0 hW _ _ hsz0 hL _ _
 have hval : ∀ (j : Nat) t v, Tryz.f10.params[j]? = some t -> args[j]? = some v -> Value.okWide Tryz.prog W .any base t v := hval0
 have hW' : DataW.Whole en Tryz.prog Tryz.f10.params.toList Rows.syntaxPartsSpec.vars false W args.toList ds gs before := hW
 obtain ⟨p, q, hA0, hV, rfl, hfz, hnd⟩ := hW
 have hA : DataW.TrodAll en Tryz.prog W 0 (fun _ => true) true Tryz.f10.params.toList args.toList ds p := hA0
 have hsz : (DataW.weightsEach Tryz.prog (Tryz.f10.params.toList ++ []) (ds ++ gs)).all (· <= reachBytes) = true := hsz0
 rw [Tryz.params10] at hA hval hsz
 obtain ⟨v0, vs0, d0, ds0, p0, q0, hargs, rfl, rfl, h0, r0⟩ := trodAll_cons hA
 obtain ⟨v1, vs1, d1, ds1, p1, q1, rfl, rfl, rfl, h1, r1⟩ := trodAll_cons r0
 obtain ⟨rfl, rfl, rfl⟩ := trodAll_nil r1
 obtain rfl : args = #[v0, v1] := by cases args; simp_all
 obtain ⟨a0, k0, g0, e0⟩ := Z1r (hval 0 34 v0 rfl rfl) h0 (Zxm hsz (i := 0) rfl rfl)
 obtain ⟨a1, k1, g1, e1⟩ := Z1r (hval 1 34 v1 rfl rfl) h1 (Zxm hsz (i := 1) rfl rfl)
 refine (Zox Tryz.func10 rfl rfl (Holds.out (c10 a0 a1 g0 e0 g1 e1) (w := W) (cargs := #[v0, v1]) ⟨k0, k1, trivial⟩)).mono fun e W' ⟨cv, g', he, hc, hb⟩ => ?_
 have hc : cv = .bool true := by cases hc; rfl
 subst hc
 exact ⟨_, he, Zwm (s := Rows.syntaxPartsSpec) rfl hW' rfl rfl lay (by kernel_rfl) hb⟩
theorem syntaxParts_holds : Rows.SyntaxPartsSaid :=
 OpenClaim.holds_of_cond 10 Tryz.f10 rfl rfl rfl rfl rfl rfl rfl ⟨rfl, rfl, rfl, rfl, rfl⟩ rfl rfl rfl rfl rfl (by kernel_rfl) Tryz.func10 (by kernel_rfl)
  (of_decide_eq_true (by kernel_rfl)) (by unfold Func.isWrapper; first | (rw [if_pos (by decide +kernel)]; kernel_rfl) | (rw [if_neg (by decide +kernel)]; exact ⟨rfl, rfl⟩))
  (fun os started H en _ F => by rw [OpenClaim.pre_eq_preRow]; exact Zwu os started H en F)
theorem plain10 (f : FuncId) (fn : Func) (hf : Tryz.pinned.checked.prog.funcNamed "configlang/configlanglaw25.SyntaxParts" = some f) (hfn : Tryz.pinned.checked.prog.funcs[f]? = some fn) :
 true = Tryz.pinned.checked.prog.looks [] /\ ∀ (j : Nat) t, fn.params[j]? = some t -> Tryz.pinned.checked.prog.wantsStandIn t = false := by
 obtain rfl : f = 10 := Option.some.inj ((show Tryz.prog.funcNamed "configlang/configlanglaw25.SyntaxParts" = some 10 by kernel_rfl).symm.trans hf) |>.symm
 obtain rfl : fn = Tryz.f10 := (Option.some.inj (Tryz.func10.symm.trans hfn)).symm
 refine ⟨by kernel_rfl, fun j t ht => ?_⟩
 rw [Tryz.params10] at ht
 have hm : t ∈ [34, 34] := by simpa using Array.mem_of_getElem? ht
 have hall : ([34, 34].all fun u => !Tryz.prog.wantsStandIn u) = true := by kernel_rfl
 exact (show Tryz.prog.wantsStandIn t = false by simpa using List.all_eq_true.1 hall t hm)
end Go.Sy
namespace Go.Proofs.YtpcnadmaeebhbaaGreatDoor
theorem syntaxParts_proved : Rows.SyntaxPartsCardSaid :=
 Claim7.holds_tied_plain_at .later [] _ _ _ _ Go.Sy.syntaxParts_holds (fun _ h => by cases h) (by kernel_rfl) (fun _ h => by cases h) syntaxParts_row_tie rfl ⟨rfl, rfl⟩ (by kernel_rfl) rfl Go.Sy.plain10 (by kernel_rfl)
end Go.Proofs.YtpcnadmaeebhbaaGreatDoor
end
