/- Proved: the given card SyntaxStripCardSaid, without conditions. -/
import Derived.Test.YtpcnadmaeebhbaaGreatDoorRows
import Derived.WalkKit
import Derived.ProofKit
import Derived.OpenShut
import Derived.JoinedOf
import Derived.Deep.Slices
import Derived.Test.YtpcnadmaeebhbaaGreatDoorCards
import Derived.Test.YtpcnadmaeebhbaaGreatDoorTie
import Derived.Carry
import Derived.Deep.DeepHandedRow
import Derived.Lib.LaidTab
import Derived.Test.YtpcnadmaeebhbaaGreatDoorJah
set_option linter.unusedVariables false
set_option linter.unusedSimpArgs false
section
open Go Go.Proofs Go.Ab Go.Rf
set_option linter.unusedSimpArgs false
set_option maxRecDepth 100000
namespace Go.Sy
theorem getT {l : List Tx} {i : Nat} (h : i < l.length) : Rf.isK .str ((gAt (txs l) (i : Int)).getD 0 D0) = true /\ Rf.dstr ((gAt (txs l) (i : Int)).getD 0 D0) = l[i] := by rw [gT0 h]; simp [dS]
theorem c23 (a b : List Tx) (ha : a.length <= 2 ^ 50) : Holds Tryz.prog 23 [slA (txs a), slA (txs b)] [] (Ret (Zbm (decide (a = b)))) := by
 refine w23 (txs a) (txs b) ⟨fun h => ?_, fun h => ?_⟩
 ·have hne : a ≠ b := fun e => by subst e; simp at h
  exact ⟨by simp [hne], rfl⟩
 ·have hl : a.length = b.length := by simp at h; omega
  refine ⟨fun x => ∃ i : Nat, x = i /\ i <= a.length /\ (a.drop i = b.drop i ↔ a = b), fun x => a.length - x.toNat, ⟨0, rfl, Nat.zero_le _, by simp⟩, ?_, trivial⟩
  rintro x ⟨i, rfl, hi, hr⟩
  refine ⟨fun hc => ?_, fun hc => ?_⟩
  ·have h1 : i < a.length := by have := Zah hc; simp at this; omega
   have h2 : i < b.length := by omega
   refine ⟨tle (by omega), teq (by rw [gT1 h1]; rfl), (getT h1).1, tlt (by simp; omega), teq (by rw [gT1 h2]; rfl), (getT h2).1, fun hn => ?_, fun hn => ⟨tle (by omega), tle (by omega), ⟨i + 1, rfl, h1, ?_⟩, dec h1⟩⟩
   ·rw [(getT h1).2, (getT h2).2] at hn
    have hne : a ≠ b := fun e => by subst e; simp at hn
    exact ⟨by simp [hne], rfl⟩
   ·rw [(getT h1).2, (getT h2).2] at hn
    have he : a[i] = b[i] := by simpa using hn
    rw [<- hr]
    conv => rhs; rw [Zaz h1, Zaz h2]
    simp only [List.cons.injEq, he, true_and]
  ·have h1 : a.length <= i := by have := Zai hc; simp at this; omega
   have : a = b := hr.1 (by rw [Za7 h1, Za7 (by omega)])
   exact ⟨by simp [this], rfl⟩
def encF (p : Tx) (im : List (List D)) (d : List Nd) (t : List Tx) : List D := [dS p, .slc im, .slc (Zar d), .slc (txs t)]
end Go.Sy
end
section
open Go Go.Proofs Go.Ab Go.Rf
set_option linter.unusedSimpArgs false
set_option maxRecDepth 100000
namespace Go.Sy
mutual
def eqE : Nd -> Nd -> Bool
 | .mk k n t a b _ _ ta _ s d, y => (k == y.kind && t == y.text && n == y.num && a == y.n0 && b == y.n1) && decide (ta = y.tail) && eqEs s y.subs && eqDs d y.decls
def eqEs : List Nd -> List Nd -> Bool
 | [], [] => true
 | a :: l, b :: m => eqE a b && eqEs l m
 | [], _ :: _ => false
 | _ :: _, [] => false
def eqD : Nd -> Nd -> Bool
 | .mk k n t a b tr le ta _ s d, y => (k == y.kind && n == y.num && t == y.text && a == y.n0 && b == y.n1) && tr == y.trail && decide (le = y.lead) && decide (ta = y.tail) && eqEs s y.subs && eqDs d y.decls
def eqDs : List Nd -> List Nd -> Bool
 | [], [] => true
 | a :: l, b :: m => eqD a b && eqDs l m
 | [], _ :: _ => false
 | _ :: _, [] => false
end
theorem Zuu (x y : Nd) : eqE x y = ((x.kind == y.kind && x.text == y.text && x.num == y.num && x.n0 == y.n0 && x.n1 == y.n1) && decide (x.tail = y.tail) && eqEs x.subs y.subs && eqDs x.decls y.decls) := by cases x; rw [eqE]; rfl
theorem Zuv (x y : Nd) : eqD x y = ((x.kind == y.kind && x.num == y.num && x.text == y.text && x.n0 == y.n0 && x.n1 == y.n1) && x.trail == y.trail && decide (x.lead = y.lead) && decide (x.tail = y.tail) && eqEs x.subs y.subs && eqDs x.decls y.decls) := by cases x; rw [eqD]; rfl
theorem Zq1 : ∀ {l m : List Nd}, l.length ≠ m.length -> eqEs l m = false
 | [], [], h => absurd rfl h
 | [], _ :: _, _ => by simp [eqEs]
 | _ :: _, [], _ => by simp [eqEs]
 | a :: l, b :: m, h => by unfold eqEs; rw [Zq1 (l := l) (m := m) (by simpa using h)]; simp
theorem Zl3 : ∀ {l m : List Nd}, l.length ≠ m.length -> eqDs l m = false
 | [], [], h => absurd rfl h
 | [], _ :: _, _ => by simp [eqDs]
 | _ :: _, [], _ => by simp [eqDs]
 | a :: l, b :: m, h => by unfold eqDs; rw [Zl3 (l := l) (m := m) (by simpa using h)]; simp
structure Im where
 name : Tx
 path : Tx
 pos : Int
def encI (i : Im) : List D := [dS i.name, dS i.path, dI i.pos]
def Zhy (l : List Im) : List (List D) := l.map encI
structure Fl where
 pkg : Tx
 imps : List Im
 decls : List Nd
 tail : List Tx
def Zdf (f : Fl) : List D := encF f.pkg (Zhy f.imps) f.decls f.tail
@[simp] theorem Zbl (f : Fl) : (Zdf f).length = 4 := rfl
@[simp] theorem f0 (f : Fl) : (Zdf f).getD 0 D0 = dS f.pkg := rfl
@[simp] theorem f1 (f : Fl) : (Zdf f).getD 1 D0 = .slc (Zhy f.imps) := rfl
@[simp] theorem f2 (f : Fl) : (Zdf f).getD 2 D0 = .slc (Zar f.decls) := rfl
@[simp] theorem f3 (f : Fl) : (Zdf f).getD 3 D0 = .slc (txs f.tail) := rfl
@[simp] theorem Zct (l : List Im) : (Zhy l).length = l.length := by simp [Zhy]
theorem Zl4 {l : List Im} {i : Nat} {x : Int} (hx : x = i) (h : i < l.length) : gAt (Zhy l) x = encI l[i] := by
 subst hx
 simp [gAt, Zhy, List.getD, h]
@[simp] theorem Zcq (i : Im) : (encI i).length = 3 := rfl
@[simp] theorem i0 (i : Im) : (encI i).getD 0 D0 = dS i.name := rfl
@[simp] theorem i1 (i : Im) : (encI i).getD 1 D0 = dS i.path := rfl
@[simp] theorem i2 (i : Im) : (encI i).getD 2 D0 = dI i.pos := rfl
def LmF (f : Fl) : Prop := (f.imps.length <= 2 ^ 50 /\ f.decls.length <= 2 ^ 50 /\ f.tail.length <= 2 ^ 50) /\ ∀ x ∈ f.decls, Lm x
def eqI (a b : Im) : Bool := a.name == b.name && a.path == b.path
def eqIs : List Im -> List Im -> Bool
 | [], [] => true
 | a :: l, b :: m => eqI a b && eqIs l m
 | [], _ :: _ => false
 | _ :: _, [] => false
theorem Zl5 : ∀ {l m : List Im}, l.length ≠ m.length -> eqIs l m = false
 | [], [], h => absurd rfl h
 | [], _ :: _, _ => by simp [eqIs]
 | _ :: _, [], _ => by simp [eqIs]
 | a :: l, b :: m, h => by unfold eqIs; rw [Zl5 (l := l) (m := m) (by simpa using h)]; simp
def eqF (f g : Fl) : Bool := f.pkg == g.pkg && eqIs f.imps g.imps && eqDs f.decls g.decls && decide (f.tail = g.tail)
end Go.Sy
end
section
open Go Go.Proofs Go.Ab Go.Rf
set_option linter.unusedSimpArgs false
set_option maxRecDepth 100000
namespace Go.Sy
def Z13 (n : Int) (s : Tx) : Int := min (n + s.length) 10000
def Zhi (n : Int) (l : List Tx) : Int := l.foldl Z13 n
abbrev Zb5 (l : List Tx) : Int := Zhi 0 l
theorem Zgm (n : Int) (s : Tx) (l : List Tx) : Zhi n (s :: l) = Zhi (min (n + s.length) 10000) l := rfl
theorem Zj2 : ∀ (l : List Tx) (n : Int), 0 <= n -> n <= 10000 -> 0 <= Zhi n l /\ Zhi n l <= 10000 /\ (n <= Zhi n l)
 | [], n, h1, h2 => ⟨h1, h2, Int.le_refl _⟩
 | s :: l, n, h1, h2 => by
   rw [Zgm]
   obtain ⟨a, b, c⟩ := Zj2 l (min (n + s.length) 10000) (by omega) (by omega)
   exact ⟨a, b, by omega⟩
theorem Zk3 : ∀ (l : List Tx) (n : Int) (s : Tx), 0 <= n -> n <= 10000 -> s ∈ l -> Zhi n l < 10000 -> (s.length : Int) <= Zhi n l
 | [], n, s, _, _, h, _ => by cases h
 | x :: l, n, s, h1, h2, h, hs => by
   rw [Zgm] at hs ⊢
   have hb := Zj2 l (min (n + x.length) 10000) (by omega) (by omega)
   rcases List.mem_cons.1 h with rfl | h
   ·omega
   ·exact Zk3 l _ s (by omega) (by omega) h hs
theorem Zbj (l : List Tx) : 0 <= Zb5 l /\ Zb5 l <= 10000 := by
 have := Zj2 l 0 (by omega) (by omega); exact ⟨this.1, this.2.1⟩
theorem c41 (l : List Tx) (hl : l.length <= 2 ^ 50) (ht : ∀ s ∈ l, s.length <= 2 ^ 50) : Holds Tryz.prog 41 [slA (txs l)] [] (Ret (intA (Zb5 l))) := by
 refine w41 (txs l) ⟨fun n x => ∃ i : Nat, x = i /\ i <= l.length /\ 0 <= n /\ n <= 10000 /\ Zhi n (l.drop i) = Zb5 l, fun _ x => l.length - x.toNat, ⟨0, rfl, Nat.zero_le _, by omega, by omega, rfl⟩, ?_, trivial⟩
 rintro n x ⟨i, rfl, hi, h1, h2, hr⟩
 refine ⟨fun hc => ?_, fun hc => ?_⟩
 ·have k1 : i < l.length := by have := Zah hc; simp at this; omega
  have k2 := ht _ (List.getElem_mem k1)
  rw [Zaz k1, Zgm] at hr
  rw [(getT k1).2]
  have e : (n + ((l[i]).length : Int) + 10000) - gMax (n + ((l[i]).length : Int)) 10000 = min (n + l[i].length) 10000 := by
   unfold gMax; split <;> omega
  rw [e]
  exact ⟨tle (by omega), teq (by rw [gT1 k1]; rfl), (getT k1).1, tle (by omega), tle (by omega), tle (by omega), tle (by omega), ⟨i + 1, rfl, k1, by omega, by omega, hr⟩, dec k1⟩
 ·have k1 : l.length <= i := by have := Zai hc; simp at this; omega
  rw [Za7 k1] at hr
  exact ⟨by rw [<- hr]; rfl, rfl⟩
def BigB (B : Nat) (r : Nd) : Prop := (r.subs.length <= B /\ r.decls.length <= B /\ r.tail.length <= B /\ r.lead.length <= B) /\ (∀ s ∈ [r.text, r.n0, r.n1, r.trail], s.length <= B) /\ (∀ s ∈ r.tail, s.length <= B) /\ ∀ s ∈ r.lead, s.length <= B
abbrev Big (r : Nd) : Prop := BigB (2 ^ 50) r
theorem BigB.mono {B C : Nat} (hBC : B <= C) (r : Nd) (h : BigB B r) : BigB C r :=
 ⟨⟨Nat.le_trans h.1.1 hBC, Nat.le_trans h.1.2.1 hBC, Nat.le_trans h.1.2.2.1 hBC, Nat.le_trans h.1.2.2.2 hBC⟩, fun s hs => Nat.le_trans (h.2.1 s hs) hBC, fun s hs => Nat.le_trans (h.2.2.1 s hs) hBC, fun s hs => Nat.le_trans (h.2.2.2 s hs) hBC⟩
theorem Z14 {r : Nd} (h : All Big r) : Lm r := h.mono fun _ h => h.1
def ownE (r : Nd) : Int := 1 + r.tail.length + Zb5 [r.text, r.n0, r.n1] / 20 + Zb5 r.tail / 20
def ownD (r : Nd) : Int := 1 + r.lead.length + r.tail.length + Zb5 [r.text, r.n0, r.n1, r.trail] / 20 + Zb5 r.lead / 20 + Zb5 r.tail / 20
mutual
def Zj3 : Nd -> Int -> Int
 | .mk k n t a b tr le ta p s d, m => Zci d (Zch s (m - ownE (.mk k n t a b tr le ta p s d)))
def Zch : List Nd -> Int -> Int
 | [], m => m
 | x :: l, m => Zch l (if 0 <= m then Zj3 x m else m)
def Zj4 : Nd -> Int -> Int
 | .mk k n t a b tr le ta p s d, m => Zci d (Zch s (m - ownD (.mk k n t a b tr le ta p s d)))
def Zci : List Nd -> Int -> Int
 | [], m => m
 | x :: l, m => if m < 0 then m else Zci l (Zj4 x m)
end
theorem Zl6 (r : Nd) (m : Int) : Zj3 r m = Zci r.decls (Zch r.subs (m - ownE r)) := by cases r; rw [Zj3]; rfl
theorem Zl7 (r : Nd) (m : Int) : Zj4 r m = Zci r.decls (Zch r.subs (m - ownD r)) := by cases r; rw [Zj4]; rfl
theorem Zuw {r : Nd} (h : Big r) : 1 <= ownE r /\ ownE r <= 2 ^ 51 := by
 have h1 := Zbj [r.text, r.n0, r.n1]
 have h2 := Zbj r.tail
 have h3 := h.1.2.2.1
 unfold ownE; omega
theorem Zux {r : Nd} (h : Big r) : 1 <= ownD r /\ ownD r <= 2 ^ 52 := by
 have h1 := Zbj [r.text, r.n0, r.n1, r.trail]
 have h2 := Zbj r.tail
 have h2' := Zbj r.lead
 have h3 := h.1.2.2
 unfold ownD; omega
def Bd (f : Int -> Int) : Prop := ∀ m, 0 <= m -> m <= 1000 -> - 2 ^ 52 <= f m /\ f m <= m
theorem Zhz : ∀ (l : List Nd) (m : Int), m < 0 -> Zch l m = m
 | [], _, _ => rfl
 | x :: l, m, h => by rw [Zch, if_neg (by omega)]; exact Zhz l m h
theorem Zk4 : ∀ (l : List Nd) (m : Int), m < 0 -> Zci l m = m
 | [], _, _ => rfl
 | x :: l, m, h => by rw [Zci, if_pos h]
theorem Zj5 : ∀ (l : List Nd), (∀ x ∈ l, Bd (Zj3 x)) -> ∀ m, - 2 ^ 52 <= m -> m <= 1000 -> - 2 ^ 52 <= Zch l m /\ Zch l m <= m
 | [], _, m, h1, h2 => ⟨h1, Int.le_refl _⟩
 | x :: l, h, m, h1, h2 => by
   rw [Zch]
   split
   ·rename_i h0
    have hx := h x (List.mem_cons_self ..) m h0 h2
    have := Zj5 l (fun y hy => h y (List.mem_cons_of_mem _ hy)) _ hx.1 (by omega)
    omega
   ·exact Zj5 l (fun y hy => h y (List.mem_cons_of_mem _ hy)) m h1 h2
theorem Zj6 : ∀ (l : List Nd), (∀ x ∈ l, Bd (Zj4 x)) -> ∀ m, - 2 ^ 52 <= m -> m <= 1000 -> - 2 ^ 52 <= Zci l m /\ Zci l m <= m
 | [], _, m, h1, h2 => ⟨h1, Int.le_refl _⟩
 | x :: l, h, m, h1, h2 => by
   rw [Zci]
   split
   ·exact ⟨h1, Int.le_refl _⟩
   ·rename_i h0
    have hx := h x (List.mem_cons_self ..) m (by omega) h2
    have := Zj6 l (fun y hy => h y (List.mem_cons_of_mem _ hy)) _ hx.1 (by omega)
    omega
theorem Zph : ∀ r : Nd, All Big r -> Bd (Zj3 r) /\ Bd (Zj4 r) := by
 refine Zdi fun r hs hd hb => ?_
 have hE := Zj5 r.subs fun x hx => (hs x hx (hb.sub hx)).1
 have hD := Zj6 r.decls fun x hx => (hd x hx (hb.dec hx)).2
 have h1 := Zuw hb.here
 have h2 := Zux hb.here
 refine ⟨fun m m0 m1 => ?_, fun m m0 m1 => ?_⟩
 ·rw [Zl6]
  have a := hE (m - ownE r) (by omega) (by omega)
  have b := hD _ a.1 (by omega)
  omega
 ·rw [Zl7]
  have a := hE (m - ownD r) (by omega) (by omega)
  have b := hD _ a.1 (by omega)
  omega
theorem tdv {x : Int} (h : 0 <= x /\ x <= 10000) : x.tdiv 20 = x / 20 /\ 0 <= x / 20 /\ x / 20 <= 500 := ⟨Int.tdiv_eq_ediv_of_nonneg h.1, by omega, by omega⟩
abbrev H57 (e : Nd) : Prop := ∀ m, 0 <= m -> m <= 1000 -> Holds Tryz.prog 57 [.agg (encE e), intA m] [] (Ret (intA (Zj3 e m)))
abbrev H42 (l : List Nd) : Prop := ∀ m, - 2 ^ 52 <= m -> m <= 1000 -> Holds Tryz.prog 42 [slA (Zar l), intA m] [] (Ret (intA (Zci l m)))
theorem c42 (l : List Nd) (hl : l.length <= 2 ^ 50) (hb : ∀ x ∈ l, All Big x) (ih : ∀ x ∈ l, H42 x.decls /\ ∀ e ∈ x.subs, H57 e) : H42 l := by
 intro m m0 m1
 refine w42 (Zar l) m ⟨fun n x => ∃ i : Nat, x = i /\ i <= l.length /\ (- 2 ^ 52 <= n /\ n <= 1000) /\ Zci (l.drop i) n = Zci l m, fun _ x => l.length - x.toNat, ⟨0, rfl, Nat.zero_le _, ⟨m0, m1⟩, rfl⟩, ?_, trivial⟩
 rintro n x ⟨i, rfl, hi, hn, hr⟩
 refine ⟨fun hc => ?_, fun hc => ?_⟩
 ·have k1 : i < l.length := by have := Zah hc; simp at this; omega
  rw [Zaz k1, Zci] at hr
  have hx := List.getElem_mem k1
  have l1 := hb _ hx
  have ihx := ih _ hx
  rw [Ze7 rfl k1]
  generalize l[i] = a at hr l1 ihx
  have b1 := l1.here
  have q1 := Zbj [a.text, a.n0, a.n1, a.trail]
  have q2 := Zbj a.lead
  have q3 := Zbj a.tail
  have o1 := Zux b1
  simp only [Zay, d0, d1, d2, d3, d4, d5, d6, d7, d8, d9, d10, isK_int, isK_str, isK_slc, Zav, Za3, Zam, Bool.or_true, true_and, Zao, Zaq, Zae]
  refine ⟨tle (by omega), teq rfl, fun h => ?_, fun h => ?_⟩
  ·rw [if_pos (Zah h)] at hr
   exact ⟨by rw [<- hr], rfl⟩
  ·have h := Zai h
   rw [if_neg (by omega)] at hr
   have L := b1.1
   refine ⟨tle (by omega), tle (by omega), tle (by omega), tle (by omega), tle (by omega), tle (by omega), Zb5 [a.text, a.n0, a.n1, a.trail], fun _ => c41 [a.text, a.n0, a.n1, a.trail] (by simp) b1.2.1, ?_⟩
   rw [(tdv q1).1]
   refine ⟨tle (by omega), tle (by omega), tle (by omega), tle (by omega), Zb5 a.lead, fun _ => c41 a.lead L.2.2.2 b1.2.2.2, ?_⟩
   rw [(tdv q2).1]
   refine ⟨tle (by omega), tle (by omega), tle (by omega), tle (by omega), Zb5 a.tail, fun _ => c41 a.tail L.2.2.1 b1.2.2.1, ?_⟩
   rw [(tdv q3).1]
   have eo : n - 1 - (a.lead.length : Int) - (a.tail.length : Int) - Zb5 [a.text, a.n0, a.n1, a.trail] / 20 - Zb5 a.lead / 20 - Zb5 a.tail / 20 = n - ownD a := by unfold ownD; omega
   rw [eo]
   refine ⟨tle (by omega), tle (by omega), tle (by omega), tle (by omega), fun n' x => ∃ j : Nat, x = j /\ j <= a.subs.length /\ (- 2 ^ 52 <= n' /\ n' <= 1000) /\ Zch (a.subs.drop j) n' = Zch a.subs (n - ownD a), fun _ x => a.subs.length - x.toNat, ⟨0, rfl, Nat.zero_le _, ⟨by omega, by omega⟩, rfl⟩, ?_, trivial⟩
   rintro n' x ⟨j, rfl, hj, hn', hrj⟩
   refine ⟨fun hcj => ?_, fun hcj => ?_⟩
   ·have j1 : j < a.subs.length := by have := Zah hcj; omega
    rw [Zaz j1, Zch] at hrj
    rw [Zby rfl j1]
    refine ⟨tle (by omega), teq (by simp), fun h0 => ?_, fun h0 => ?_⟩
    ·have h0 := Zxv h0
     rw [if_pos h0] at hrj
     have hm := List.getElem_mem j1
     have hbd := (Zph _ (l1.sub hm)).1 n' h0 (by omega)
     exact Zak (ihx.2 _ hm n' h0 (by omega)) ⟨_, rfl, rfl, tle (by omega), tle (by omega), ⟨j + 1, rfl, j1, ⟨hbd.1, by omega⟩, hrj⟩, dec j1⟩
    ·rw [if_neg (by have := Zxw h0; omega)] at hrj
     exact ⟨tle (by omega), tle (by omega), ⟨j + 1, rfl, j1, hn', hrj⟩, dec j1⟩
   ·have j1 : a.subs.length <= j := by have := Zai hcj; omega
    rw [Za7 j1, Zch] at hrj
    refine Zak (ihx.1 n' hn'.1 hn'.2) ⟨_, rfl, rfl, tle (by omega), tle (by omega), ⟨i + 1, rfl, k1, ?_, ?_⟩, dec k1⟩
    ·have := Zj6 a.decls (fun y hy => (Zph y (l1.dec hy)).2) n' hn'.1 hn'.2
     omega
    ·rw [<- hr, Zl7, <- hrj]
 ·have k1 : l.length <= i := by have := Zai hc; simp at this; omega
  rw [Za7 k1] at hr
  exact ⟨by rw [<- hr]; rfl, rfl⟩
theorem Z15 : ∀ (r : Nd), All Big r -> H57 r /\ H42 r.decls /\ ∀ e ∈ r.subs, H57 e := by
 refine Zdi fun r hs hd hb => ?_
 have ihs : ∀ e ∈ r.subs, H57 e := fun x hx => (hs x hx (hb.sub hx)).1
 have ihd : H42 r.decls := c42 r.decls hb.here.1.2.1 (fun x hx => hb.dec hx) fun x hx => (hd x hx (hb.dec hx)).2
 refine ⟨fun m m0 m1 => ?_, ihd, ihs⟩
 have b1 := hb.here
 have q1 := Zbj [r.text, r.n0, r.n1]
 have q3 := Zbj r.tail
 have o1 := Zuw b1
 have L := b1.1
 refine w57 (encE r) m ?_
 simp only [Zbq, e0, e1, e2, e3, e4, e5, e6, e7, e8, isK_int, isK_str, isK_slc, Zav, Za3, Zam, Bool.or_true, true_and, Zao, Zaq, Zae]
 refine ⟨teq rfl, tle (by omega), tle (by omega), tle (by omega), tle (by omega), Zb5 [r.text, r.n0, r.n1], fun _ => c41 [r.text, r.n0, r.n1] (by simp) (fun s hs => b1.2.1 s (by simp only [List.mem_cons, List.not_mem_nil, or_false] at hs ⊢; rcases hs with h | h | h <;> simp [h])), ?_⟩
 rw [(tdv q1).1]
 refine ⟨tle (by omega), tle (by omega), tle (by omega), tle (by omega), Zb5 r.tail, fun _ => c41 r.tail L.2.2.1 b1.2.2.1, ?_⟩
 rw [(tdv q3).1]
 have eo : m - 1 - (r.tail.length : Int) - Zb5 [r.text, r.n0, r.n1] / 20 - Zb5 r.tail / 20 = m - ownE r := by unfold ownE; omega
 rw [eo]
 refine ⟨tle (by omega), tle (by omega), tle (by omega), tle (by omega), fun n' x => ∃ j : Nat, x = j /\ j <= r.subs.length /\ (- 2 ^ 52 <= n' /\ n' <= 1000) /\ Zch (r.subs.drop j) n' = Zch r.subs (m - ownE r), fun _ x => r.subs.length - x.toNat, ⟨0, rfl, Nat.zero_le _, ⟨by omega, by omega⟩, rfl⟩, ?_, trivial⟩
 rintro n' x ⟨j, rfl, hj, hn', hrj⟩
 refine ⟨fun hcj => ?_, fun hcj => ?_⟩
 ·have j1 : j < r.subs.length := by have := Zah hcj; omega
  rw [Zaz j1, Zch] at hrj
  rw [Zby rfl j1]
  refine ⟨tle (by omega), teq (by simp), fun h0 => ?_, fun h0 => ?_⟩
  ·have h0 := Zxv h0
   rw [if_pos h0] at hrj
   have hm := List.getElem_mem j1
   have hbd := (Zph _ (hb.sub hm)).1 n' h0 (by omega)
   exact Zak (ihs _ hm n' h0 (by omega)) ⟨_, rfl, rfl, tle (by omega), tle (by omega), ⟨j + 1, rfl, j1, ⟨hbd.1, by omega⟩, hrj⟩, dec j1⟩
  ·rw [if_neg (by have := Zxw h0; omega)] at hrj
   exact ⟨tle (by omega), tle (by omega), ⟨j + 1, rfl, j1, hn', hrj⟩, dec j1⟩
 ·have j1 : r.subs.length <= j := by have := Zai hcj; omega
  rw [Za7 j1, Zch] at hrj
  exact Zak (ihd n' hn'.1 hn'.2) ⟨_, rfl, rfl, by rw [Zl6, <- hrj], rfl⟩
def smE (r : Nd) : Bool := decide (0 <= Zj3 r 100)
theorem c16 (r : Nd) (h : All Big r) : Holds Tryz.prog 16 [.agg (encE r)] [] (Ret (Zbm (smE r))) :=
 w16 _ ⟨teq (by simp), Zak ((Z15 r h).1 100 (by omega) (by omega)) ⟨_, rfl, rfl, by simp [smE], rfl⟩⟩
def BigI (i : Im) : Prop := i.name.length <= 2 ^ 50 /\ i.path.length <= 2 ^ 50
def BigF (f : Fl) : Prop := (f.imps.length <= 2 ^ 50 /\ f.decls.length <= 2 ^ 50 /\ f.tail.length <= 2 ^ 50) /\ f.pkg.length <= 2 ^ 50 /\ (∀ s ∈ f.tail, s.length <= 2 ^ 50) /\ (∀ i ∈ f.imps, BigI i) /\ ∀ x ∈ f.decls, All Big x
def smI (i : Im) : Bool := decide ((i.name.length : Int) + i.path.length <= 200)
def smF (f : Fl) : Bool := decide (f.imps.length <= 5 /\ f.tail.length <= 20 /\ Zb5 [f.pkg] + Zb5 f.tail <= 1000) && (f.imps.all smI && decide (0 <= Zci f.decls 150))
theorem c12 (f : Fl) (h : BigF f) : Holds Tryz.prog 12 [.agg (Zdf f)] [] (Ret (Zbm (smF f))) := by
 have no : ∀ b, smF f = b -> Ret (Zbm (smF f)) (.ret (Zbm b)) [] := fun b h => ⟨by rw [h], rfl⟩
 have q1 := Zbj [f.pkg]
 have q2 := Zbj f.tail
 obtain ⟨⟨L1, L2, L3⟩, P, T, I, D⟩ := h
 unfold smF at no ⊢
 refine w12 _ ?_
 simp only [Zbl, f0, f1, f2, f3, isK_str, isK_slc, Za3, Zam, Bool.or_true, true_and, Zct, Zaq, Zae]
 refine ⟨teq rfl, fun h => ?_, fun h => no _ ?_⟩
 ·have h := nb1 h
  simp only [Bool.or_eq_false_iff] at h
  have g1 := Zai h.1
  have g2 := Zai h.2
  refine ⟨Zb5 [f.pkg], fun _ => c41 [f.pkg] (by simp) (by simpa using P), Zak (c41 f.tail L3 T) ⟨_, rfl, rfl, tle (by omega), tle (by omega), fun h3 => no _ ?_, fun h3 => ?_⟩⟩
  ·have := Zah h3
   rw [show decide (f.imps.length <= 5 /\ f.tail.length <= 20 /\ Zb5 [f.pkg] + Zb5 f.tail <= 1000) = false from decide_eq_false (by omega)]; rfl
  ·have g3 := Zai h3
   rw [show decide (f.imps.length <= 5 /\ f.tail.length <= 20 /\ Zb5 [f.pkg] + Zb5 f.tail <= 1000) = true from decide_eq_true (by omega), Bool.true_and] at no ⊢
   refine ⟨fun x => ∃ j : Nat, x = j /\ j <= f.imps.length /\ (f.imps.drop j).all smI = f.imps.all smI, fun x => f.imps.length - x.toNat, ⟨0, rfl, Nat.zero_le _, rfl⟩, ?_, trivial⟩
   rintro x ⟨j, rfl, hj, hr⟩
   refine ⟨fun hc => ?_, fun hc => ?_⟩
   ·have k1 : j < f.imps.length := by have := Zah hc; omega
    have hI := I _ (List.getElem_mem k1)
    have g := Zl4 (x := (j : Int)) rfl k1
    rw [Zaz k1, List.all_cons] at hr
    obtain ⟨I1, I2⟩ := hI
    simp only [g, Zcq, i0, i1, i2, isK_int, isK_str, Za3, Zav, true_and]
    refine ⟨tle (by omega), teq rfl, tle (by omega), tle (by omega), fun hn => no _ ?_, fun hn => ⟨tle (by omega), tle (by omega), ⟨j + 1, rfl, k1, ?_⟩, dec k1⟩⟩
    ·have := Zah hn
     rw [<- hr, show smI f.imps[j] = false from decide_eq_false (by omega)]; rfl
    ·have := Zai hn
     rw [<- hr, show smI f.imps[j] = true from decide_eq_true (by omega)]; rfl
   ·have k1 : f.imps.length <= j := by have := Zai hc; omega
    rw [Za7 k1] at hr
    have := c42 f.decls L2 D (fun x hx => (Z15 x (D x hx)).2) 150 (by omega) (by omega)
    exact Zak this ⟨_, rfl, rfl, by rw [<- hr]; simp, rfl⟩
 ·have h := nb0 h
  simp only [Bool.or_eq_true] at h
  rw [show decide (f.imps.length <= 5 /\ f.tail.length <= 20 /\ Zb5 [f.pkg] + Zb5 f.tail <= 1000) = false from decide_eq_false (by
   rcases h with h | h
   ·have := Zah h; omega
   ·have := Zah h; omega)]; rfl
mutual
def wE : Nd -> Int
 | .mk k n t a b tr le ta p s d => ownE (.mk k n t a b tr le ta p s d) + wEs s + wDs d
def wEs : List Nd -> Int
 | [] => 0
 | x :: l => wE x + wEs l
def wD : Nd -> Int
 | .mk k n t a b tr le ta p s d => ownD (.mk k n t a b tr le ta p s d) + wEs s + wDs d
def wDs : List Nd -> Int
 | [] => 0
 | x :: l => wD x + wDs l
end
theorem Zw4 (r : Nd) : wE r = ownE r + wEs r.subs + wDs r.decls := by cases r; rw [wE]; rfl
theorem Zw5 (r : Nd) : wD r = ownD r + wEs r.subs + wDs r.decls := by cases r; rw [wD]; rfl
theorem Zpi (r : Nd) : (1 <= ownE r /\ (r.tail.length : Int) <= ownE r /\ Zb5 [r.text, r.n0, r.n1] / 20 <= ownE r /\ Zb5 r.tail / 20 <= ownE r) /\
 (1 <= ownD r /\ (r.tail.length : Int) + r.lead.length + 1 <= ownD r /\ Zb5 [r.text, r.n0, r.n1, r.trail] / 20 <= ownD r /\ Zb5 r.tail / 20 <= ownD r /\ Zb5 r.lead / 20 <= ownD r) := by
 have h1 := Zbj [r.text, r.n0, r.n1]
 have h2 := Zbj [r.text, r.n0, r.n1, r.trail]
 have h3 := Zbj r.tail
 have h4 := Zbj r.lead
 unfold ownE ownD; omega
theorem Zl8 : ∀ {l : List Nd}, (∀ x ∈ l, 1 <= wE x) -> (l.length : Int) <= wEs l /\ ∀ x ∈ l, wE x <= wEs l
 | [], _ => ⟨by simp [wEs], fun _ h => by cases h⟩
 | x :: l, h => by
   have ih := Zl8 fun y hy => h y (List.mem_cons_of_mem _ hy)
   have hx := h x (List.mem_cons_self ..)
   rw [wEs]
   refine ⟨by simp only [List.length_cons]; omega, fun y hy => ?_⟩
   rcases List.mem_cons.1 hy with rfl | hy
   ·have := ih.1; omega
   ·have := ih.2 y hy; omega
theorem Zh0 : ∀ {l : List Nd}, (∀ x ∈ l, 1 <= wD x) -> (l.length : Int) <= wDs l /\ ∀ x ∈ l, wD x <= wDs l
 | [], _ => ⟨by simp [wDs], fun _ h => by cases h⟩
 | x :: l, h => by
   have ih := Zh0 fun y hy => h y (List.mem_cons_of_mem _ hy)
   have hx := h x (List.mem_cons_self ..)
   rw [wDs]
   refine ⟨by simp only [List.length_cons]; omega, fun y hy => ?_⟩
   rcases List.mem_cons.1 hy with rfl | hy
   ·have := ih.1; omega
   ·have := ih.2 y hy; omega
theorem Zr1 : ∀ r : Nd, 1 <= wE r /\ 1 <= wD r := by
 refine Zdi fun r hs hd => ?_
 have h1 := (Zl8 fun x hx => (hs x hx).1).1
 have h2 := (Zh0 fun x hx => (hd x hx).2).1
 have h3 := Zpi r
 rw [Zw4, Zw5]; omega
theorem Zxz : ∀ r : Nd, (∀ m, 0 <= Zj3 r m -> wE r <= m /\ Zj3 r m = m - wE r) /\ ∀ m, 0 <= Zj4 r m -> wD r <= m /\ Zj4 r m = m - wD r := by
 refine Zdi fun r hs hd => ?_
 have kE : ∀ (l : List Nd), (∀ x ∈ l, x ∈ r.subs) -> ∀ m, 0 <= Zch l m -> wEs l <= m /\ Zch l m = m - wEs l := by
  intro l
  induction l with
  | nil => intro _ m h; simp only [Zch, wEs] at *; omega
  | cons x l ih =>
    intro hl m h
    rw [Zch] at h ⊢
    by_cases hm : 0 <= m
    ·rw [if_pos hm] at h ⊢
     have := ih (fun y hy => hl y (List.mem_cons_of_mem _ hy)) _ h
     have h0 : 0 <= Zj3 x m := by
      by_cases hc : 0 <= Zj3 x m
      ·exact hc
      ·rw [Zhz _ _ (by omega)] at h; exact h
     have hx := (hs x (hl x (List.mem_cons_self ..))).1 m h0
     rw [wEs]; omega
    ·rw [if_neg hm, Zhz _ _ (by omega)] at h; omega
 have kD : ∀ (l : List Nd), (∀ x ∈ l, x ∈ r.decls) -> ∀ m, 0 <= Zci l m -> wDs l <= m /\ Zci l m = m - wDs l := by
  intro l
  induction l with
  | nil => intro _ m h; simp only [Zci, wDs] at *; omega
  | cons x l ih =>
    intro hl m h
    rw [Zci] at h ⊢
    by_cases hm : m < 0
    ·rw [if_pos hm] at h; omega
    ·rw [if_neg hm] at h ⊢
     have := ih (fun y hy => hl y (List.mem_cons_of_mem _ hy)) _ h
     have h0 : 0 <= Zj4 x m := by
      by_cases hc : 0 <= Zj4 x m
      ·exact hc
      ·rw [Zk4 _ _ (by omega)] at h; exact h
     have hx := (hd x (hl x (List.mem_cons_self ..))).2 m h0
     rw [wDs]; omega
 have h1 := (Zl8 (l := r.subs) fun x _ => (Zr1 x).1).1
 have h2 := (Zh0 (l := r.decls) fun x _ => (Zr1 x).2).1
 refine ⟨fun m h => ?_, fun m h => ?_⟩
 ·rw [Zl6] at h ⊢
  have a := kD _ (fun _ h => h) _ h
  have b := kE r.subs (fun _ h => h) (m - ownE r) (by omega)
  rw [Zw4]; omega
 ·rw [Zl7] at h ⊢
  have a := kD _ (fun _ h => h) _ h
  have b := kE r.subs (fun _ h => h) (m - ownD r) (by omega)
  rw [Zw5]; omega
theorem Zq2 : ∀ (l : List Nd) (m : Int), 0 <= Zci l m -> wDs l <= m
 | [], m, h => by simpa [Zci, wDs] using h
 | x :: l, m, h => by
   rw [Zci] at h
   by_cases hm : m < 0
   ·rw [if_pos hm] at h; omega
   ·rw [if_neg hm] at h
    have := Zq2 l _ h
    have h0 : 0 <= Zj4 x m := by
     by_cases hc : 0 <= Zj4 x m
     ·exact hc
     ·rw [Zk4 _ _ (by omega)] at h; exact h
    have hx := (Zxz x).2 m h0
    rw [wDs]; omega
mutual
def wfE : Nd -> Prop
 | .mk _ _ _ _ _ tr le _ _ s d => (tr = [] /\ le = []) /\ wfEs s /\ wfDs d
def wfEs : List Nd -> Prop
 | [] => True
 | x :: l => wfE x /\ wfEs l
def wfD : Nd -> Prop
 | .mk _ _ _ _ _ _ _ _ _ s d => wfEs s /\ wfDs d
def wfDs : List Nd -> Prop
 | [] => True
 | x :: l => wfD x /\ wfDs l
end
theorem Z16 (r : Nd) : wfE r ↔ (r.trail = [] /\ r.lead = []) /\ wfEs r.subs /\ wfDs r.decls := by cases r; rw [wfE]; rfl
theorem Z17 (r : Nd) : wfD r ↔ wfEs r.subs /\ wfDs r.decls := by cases r; rw [wfD]; rfl
theorem Zio : ∀ (l : List Nd), wfEs l ↔ ∀ x ∈ l, wfE x
 | [] => by simp [wfEs]
 | x :: l => by rw [wfEs, Zio l]; simp
theorem Zhj : ∀ (l : List Nd), wfDs l ↔ ∀ x ∈ l, wfD x
 | [] => by simp [wfDs]
 | x :: l => by rw [wfDs, Zhj l]; simp
theorem Zgn {l : List Tx} (h : Zb5 l / 20 <= 400) : ∀ s ∈ l, s.length <= 10000 := fun s hs => by
 have := Zk3 l 0 s (by omega) (by omega) hs (show Zb5 l < 10000 by omega)
 have h2 : Zb5 l <= 8019 := by omega
 have : (s.length : Int) <= Zb5 l := this
 omega
abbrev Sml (r : Nd) : Prop := BigB 10000 r
theorem Zx0 : ∀ r : Nd, (wfE r -> wE r <= 400 -> All Sml r) /\ (wfD r -> wD r <= 400 -> All Sml r) := by
 refine Zdi fun r hs hd => ?_
 have h1 := Zl8 (l := r.subs) fun x _ => (Zr1 x).1
 have h2 := Zh0 (l := r.decls) fun x _ => (Zr1 x).2
 have h3 := Zpi r
 have q1 := Zbj [r.text, r.n0, r.n1]
 refine ⟨fun hw h => ?_, fun hw h => ?_⟩
 ·rw [Zw4] at h
  rw [Z16, Zio, Zhj] at hw
  obtain ⟨⟨w1, w2⟩, w3, w4⟩ := hw
  refine .mk ⟨⟨by omega, by omega, by omega, by rw [w2]; simp⟩, ?_, Zgn (by omega), by rw [w2]; simp⟩ (fun x hx => (hs x hx).1 (w3 x hx) (by have := h1.2 x hx; omega)) (fun x hx => (hd x hx).2 (w4 x hx) (by have := h2.2 x hx; omega))
  have := Zgn (l := [r.text, r.n0, r.n1]) (by omega)
  rw [w1]
  intro s hs
  simp only [List.mem_cons, List.not_mem_nil, or_false] at hs this
  rcases hs with h | h | h | h
  ·exact this s (.inl h)
  ·exact this s (.inr (.inl h))
  ·exact this s (.inr (.inr h))
  ·subst h; simp
 ·rw [Zw5] at h
  rw [Z17, Zio, Zhj] at hw
  exact .mk ⟨⟨by omega, by omega, by omega, by omega⟩, Zgn (by omega), Zgn (by omega), Zgn (by omega)⟩ (fun x hx => (hs x hx).1 (hw.1 x hx) (by have := h1.2 x hx; omega)) (fun x hx => (hd x hx).2 (hw.2 x hx) (by have := h2.2 x hx; omega))
theorem Z18 {r : Nd} (hw : wfE r) (h : smE r = true) : All Sml r /\ wE r <= 100 := by
 have := (Zxz r).1 100 (by simpa [smE] using h)
 exact ⟨(Zx0 r).1 hw (by omega), this.1⟩
def wfF (f : Fl) : Prop := wfDs f.decls
theorem Z19 {f : Fl} (hw : wfF f) (h : smF f = true) : (f.imps.length <= 5 /\ f.tail.length <= 20 /\ f.pkg.length <= 10000 /\ ∀ s ∈ f.tail, s.length <= 10000) /\ (∀ i ∈ f.imps, i.name.length <= 200 /\ i.path.length <= 200) /\ (∀ x ∈ f.decls, All Sml x) /\ wDs f.decls <= 150 := by
 simp only [smF, Bool.and_eq_true, decide_eq_true_eq, List.all_eq_true, smI] at h
 obtain ⟨⟨a1, a2, a3⟩, a4, a5⟩ := h
 have q1 := Zbj [f.pkg]
 have q2 := Zbj f.tail
 have hw' := Zq2 _ _ a5
 have h2 := Zh0 (l := f.decls) fun x _ => (Zr1 x).2
 refine ⟨⟨a1, a2, ?_, Zgn (by omega)⟩, fun i hi => by have := a4 i hi; omega, fun x hx => (Zx0 x).2 ((Zhj _).1 hw x hx) (by have := h2.2 x hx; omega), hw'⟩
 exact Zgn (l := [f.pkg]) (by omega) _ (by simp)
end Go.Sy
end
section
open Go Go.Proofs Go.Ab Go.Rf Go.ChangeShapes Go.WideShapes
set_option maxRecDepth 100000
set_option linter.unusedSimpArgs false
namespace Go.Sy
def prW (w : World) : Nat -> Nat -> Prop := fun b _ => b < w.heap.size
def ghW (w : World) : Gh := ⟨prW w, fun _ => 0, fun _ => 0, fun _ => False⟩
theorem Zz3 {w : World} {a : Addr} {v : Value} (h : w.cell? a = some v) : a.block < w.heap.size := by
 unfold World.cell? at h
 by_cases hb : a.block < w.heap.size
 ·exact hb
 ·simp [Array.getElem?_eq_none (by omega : w.heap.size <= a.block)] at h
theorem Zuy {w : World} {a : Addr} {n : Nat} {cs : List Value} (h : w.cells? 0 a n = some cs) : cs.length = n /\ ∀ i, i < n -> w.cell? (a.add i) = cs[i]? := by
 unfold World.cells? at h
 rw [if_pos (Nat.zero_le _)] at h
 have hl := mapM_some_length h
 simp only [List.length_range] at hl
 refine ⟨hl, fun i hi => mapM_some_get h i i (by simp [hi])⟩
theorem Zuz {α β : Type} {R : α -> β -> Prop} : ∀ {l : List α} {m : List β}, All2 R l m -> ∀ (i : Nat) (h : i < l.length), ∃ b, m[i]? = some b /\ R l[i] b
 | a :: l, b :: m, ⟨h1, _⟩, 0, _ => ⟨b, rfl, h1⟩
 | a :: l, b :: m, ⟨_, h2⟩, i + 1, h => by
   obtain ⟨c, h3, h4⟩ := Zuz h2 i (by simpa using h)
   exact ⟨c, by simpa using h3, by simpa using h4⟩
 | [], _, _, i, h => by simp at h
theorem Zl9 {α β : Type} {R : α -> β -> Prop} : ∀ {l : List α} {m : List β}, All2 R l m -> l.length = m.length
 | [], [], _ => rfl
 | _ :: _, _ :: _, ⟨_, h⟩ => by simp [Zl9 h]
 | [], _ :: _, h => h.elim
 | _ :: _, [], h => h.elim
section
variable {H : Type} {en : TypeId × Value -> H} {w : World}
theorem Z2a {α : Type} {E : α -> List D} {n : Nat} (hn : 0 < n) (hE : ∀ a, (E a).length = n) {b off cap : Nat} (l : List α) (hc : l.length <= cap) (V : Nat -> List Value)
 (h : ∀ i (hi : i < l.length), All2 (RepD w (prW w)) (E l[i]) (V i) /\ ∀ j, j < n -> w.cell? ⟨b, off + (i * n + j), none⟩ = (V i)[j]?) :
 RepD w (prW w) (.slc (l.map E)) (.slice (some ⟨b, off, none⟩) l.length cap) := by
 have hk : ∀ k, k < l.length * n -> w.cell? ⟨b, off + k, none⟩ = some ((V (k / n)).getD (k % n) .nilIface) := by
  intro k hk
  have hi : k / n < l.length := Nat.div_lt_of_lt_mul (by rw [Nat.mul_comm]; exact hk)
  obtain ⟨h1, h3⟩ := h _ hi
  have hl := Zl9 h1
  rw [hE] at hl
  have := h3 (k % n) (Nat.mod_lt _ hn)
  rw [show k / n * n + k % n = k by rw [Nat.mul_comm]; exact Nat.div_add_mod k n] at this
  rw [this, List.getElem?_eq_getElem (by rw [<- hl]; exact Nat.mod_lt _ hn)]
  simp [List.getD, List.getElem?_eq_getElem (show k % n < (V (k / n)).length by rw [<- hl]; exact Nat.mod_lt _ hn)]
 have hlen : (l.map E).length = l.length := by simp
 rw [<- hlen]
 refine .slc (l.map E) n b off cap _ hn ?_ (by rw [hlen]; exact hc) (fun k hk' => hk k (by rw [hlen] at hk'; exact hk')) (fun k hk' => Zz3 (hk k (by rw [hlen] at hk'; exact hk'))) ?_
 ·intro e he
  obtain ⟨a, _, rfl⟩ := List.mem_map.1 he
  exact hE a
 ·intro i j hi hj
  have hi' : i < l.length := by rw [hlen] at hi; exact hi
  have e : (l.map E)[i] = E l[i] := by simp
  have hj' : j < n := by rw [e, hE] at hj; exact hj
  obtain ⟨h1, _⟩ := h i hi'
  obtain ⟨v, hv, hr⟩ := Zuz h1 j (by rw [hE]; exact hj')
  have e1 : (i * n + j) / n = i := by rw [Nat.mul_comm, Nat.mul_add_div hn, Nat.div_eq_of_lt hj', Nat.add_zero]
  have e2 : (i * n + j) % n = j := by rw [Nat.mul_comm, Nat.mul_add_mod, Nat.mod_eq_of_lt hj']
  rw [e1, e2]
  simp only [e]
  simpa [List.getD, hv] using hr
def Fit (t : TypeId) (x : DataW H × List MemPlace) : Prop := ∀ k ∈ x.1.weights Tryz.prog t, k <= reachBytes
theorem Zeg {P : Program} {e : TypeId} {k : Nat} : ∀ {l : List (DataW H)} {d : DataW H}, d ∈ l -> k ∈ d.weights P e -> k ∈ DataW.weightsAll P e l
 | a :: l, d, h, hk => by
   unfold DataW.weightsAll
   rcases List.mem_cons.1 h with rfl | h
   ·exact List.mem_append_left _ hk
   ·exact List.mem_append_right _ (Zeg h hk)
theorem Zf1 {α : Type} {E : α -> List D} {Good : α -> Prop} {n : Nat} {t e : TypeId} (ht : Tryz.prog.underlying t = some (.slice e)) (hc : Tryz.prog.cellsOf e = n) (hn : 0 < n) (hby : 1 <= Tryz.prog.bytesOf e) (hE : ∀ a, (E a).length = n) {fuel : Nat}
 (ih : ∀ q < fuel, ∀ (cs : List Value) (x : DataW H × List MemPlace), DataW.trod en Tryz.prog w 0 (fun _ => true) true q e cs = some x -> Fit e x -> ∃ a : α, All2 (RepD w (prW w)) (E a) cs /\ Good a)
 {v : Value} {x : DataW H × List MemPlace} (h : DataW.trod en Tryz.prog w 0 (fun _ => true) true fuel t [v] = some x) (hz : Fit t x) :
 ∃ l : List α, RepD w (prW w) (.slc (l.map E)) v /\ l.length <= 2 ^ 50 /\ ∀ a ∈ l, Good a := by
 rcases DataW.trod_slice ht h with ⟨e1, _⟩ | ⟨ad, len, cap, elems, rest, q, hq, e1, hx, _, hlc, _, hel, hes, _⟩
 ·have e1 : v = .slice none 0 0 := by simpa using e1
  exact ⟨[], by rw [e1]; exact .emp _ _, by simp, fun _ h => by cases h⟩
 ·have e1 : v = .slice (some ad) len cap := by simpa using e1
  rw [hc] at hes
  subst hx
  have hW : (elems.map (·.1)).length * Tryz.prog.bytesOf e <= reachBytes /\ ∀ y ∈ elems, Fit e y := by
   unfold Fit at hz
   simp only [DataW.weights, ht, List.mem_cons, List.mem_append] at hz
   refine ⟨Nat.le_trans (Nat.mul_le_mul_right _ (Nat.le_add_right _ _)) (hz _ (.inl rfl)), fun y hy k hk => hz k (.inr (.inl (Zeg (List.mem_map.2 ⟨y, hy, rfl⟩) hk)))⟩
  have hlen : len <= 2 ^ 50 := by
   have h1 := hW.1
   rw [List.length_map, hel] at h1
   have h2 : len * 1 <= len * Tryz.prog.bytesOf e := Nat.mul_le_mul_left _ hby
   have h3 : reachBytes <= 2 ^ 50 := by decide
   omega
  have hall : ∀ i, i < len -> ∃ (r : α) (V : List Value), All2 (RepD w (prW w)) (E r) V /\ Good r /\ ∀ j, j < n -> w.cell? ((ad.add (i * n)).add j) = V[j]? := by
   intro i hi
   have h3 := hes i hi
   have hi' : i < elems.length := by omega
   rw [List.getElem?_eq_getElem hi'] at h3
   obtain ⟨cs', h4, h5⟩ := Option.bind_eq_some_iff.1 h3
   obtain ⟨r, h7, h8⟩ := ih q (by omega) _ _ h5 (hW.2 _ (List.getElem_mem hi'))
   exact ⟨r, cs', h7, h8, (Zuy h4).2⟩
  by_cases h0 : len = 0
  ·subst h0; exact ⟨[], by rw [e1]; exact .emp _ _, by simp, fun _ h => by cases h⟩
  ·have hall' : ∃ (f : Nat -> α) (V : Nat -> List Value), ∀ i, i < len -> All2 (RepD w (prW w)) (E (f i)) (V i) /\ Good (f i) /\ ∀ j, j < n -> w.cell? ((ad.add (i * n)).add j) = (V i)[j]? := by
    classical
    obtain ⟨a0, _⟩ := hall 0 (by omega)
    refine ⟨fun i => if h : i < len then (hall i h).choose else a0, fun i => if h : i < len then (hall i h).choose_spec.choose else [], fun i hi => ?_⟩
    simp only [hi, dif_pos]
    exact (hall i hi).choose_spec.choose_spec
   obtain ⟨f, V, hfV⟩ := hall'
   subst e1
   refine ⟨(List.range len).map f, ?_, by simpa using hlen, fun r hr => ?_⟩
   ·have sp : ad.spot = none := by
     have h1 := (hfV 0 (by omega)).2.2 0 hn
     have hl := Zl9 (hfV 0 (by omega)).1
     rw [hE] at hl
     rw [List.getElem?_eq_getElem (by omega)] at h1
     simpa [Addr.add] using World.cell?_spot h1
    obtain ⟨bb, off, spot⟩ := ad
    subst sp
    have := Z2a (w := w) hn hE (b := bb) (off := off) (cap := cap) ((List.range len).map f) (by simpa using hlc) V (fun i hi => by
     have hi' : i < len := by simpa using hi
     obtain ⟨k2, _, k4⟩ := hfV i hi'
     refine ⟨by simpa using k2, fun j hj => ?_⟩
     rw [<- k4 j hj, <- Go.WideShapes.add_plain, Go.Deep.add_add])
    simpa using this
   ·obtain ⟨i, hi, rfl⟩ := List.mem_map.1 hr
    exact (hfV i (List.mem_range.1 hi)).2.1
theorem Zdo {t : TypeId} (ht : Tryz.prog.underlying t = some .string) {fuel : Nat} {cs : List Value} {x : DataW H × List MemPlace} (h : DataW.trod en Tryz.prog w 0 (fun _ => true) true fuel t cs = some x) (hz : Fit t x) :
 ∃ s : Tx, cs = [Zab s] /\ s.length <= 2 ^ 50 := by
 obtain ⟨s, h1, h2, _⟩ := DataW.trod_string ht h
 refine ⟨s.data.toList, by rw [h1]; simp [Zab], ?_⟩
 subst h2
 have := hz s.data.toList.length (by simp [DataW.weights])
 have h3 : reachBytes <= 2 ^ 50 := by decide
 omega
theorem Zd5 {P : Program} {k : Nat} : ∀ {ts : List TypeId} {l : List (DataW H)} {i : Nat} {t : TypeId} {d : DataW H}, ts[i]? = some t -> l[i]? = some d -> k ∈ d.weights P t -> k ∈ DataW.weightsEach P ts l
 | t :: ts, a :: l, 0, _, _, h1, h2, hk => by
   unfold DataW.weightsEach
   cases h1; cases h2
   exact List.mem_append_left _ hk
 | t :: ts, a :: l, i + 1, _, _, h1, h2, hk => by
   unfold DataW.weightsEach
   exact List.mem_append_right _ (Zd5 (by simpa using h1) (by simpa using h2) hk)
 | [], _, _, _, _, h1, _, _ => by simp at h1
 | _ :: _, [], _, _, _, _, h2, _ => by simp at h2
theorem Ze2 {t : TypeId} {fs : Array Field} (ht : Tryz.prog.underlying t = some (.struct fs)) {fuel : Nat} {cs : List Value} {x : DataW H × List MemPlace} (h : DataW.trod en Tryz.prog w 0 (fun _ => true) true fuel t cs = some x) (hz : Fit t x) :
 cs.length = Tryz.prog.cellsOf t /\ ∃ n < fuel, ∀ (i : Nat) (ty : TypeId) (off : Nat), (fs[i]?).map (fun f => (f.type, f.offset)) = some (ty, off) -> ∃ y, DataW.trod en Tryz.prog w 0 (fun _ => true) true n ty ((cs.drop off).take (Tryz.prog.cellsOf ty)) = some y /\ Fit ty y := by
 obtain ⟨xs, n, rfl, rfl, hl, hxs, hf⟩ := DataW.trod_struct ht h
 refine ⟨hl, n, Nat.lt_succ_self n, fun i ty off hm => ?_⟩
 obtain ⟨f, hi, he⟩ := Option.map_eq_some_iff.1 hm
 cases he
 have hi' : i < xs.length := by
  rw [hxs]
  exact (Array.getElem?_eq_some_iff.1 hi).1
 refine ⟨xs[i], by rw [hf i f hi, List.getElem?_eq_getElem hi'], fun k hk => hz k ?_⟩
 unfold DataW.weights
 rw [ht]
 refine Zd5 (i := i) (t := f.type) (d := xs[i].1) ?_ ?_ hk
 ·rw [List.getElem?_map, Array.getElem?_toList, hi]; rfl
 ·rw [List.getElem?_map, List.getElem?_eq_getElem hi']; rfl
theorem Zr2 {t e : TypeId} {n : Nat} (ht : Tryz.prog.underlying t = some (.array n e)) {fuel : Nat} {cs : List Value} {x : DataW H × List MemPlace} (h : DataW.trod en Tryz.prog w 0 (fun _ => true) true fuel t cs = some x) (hz : Fit t x) :
 cs.length = Tryz.prog.cellsOf t /\ ∃ m < fuel, ∀ i < n, ∃ y, DataW.trod en Tryz.prog w 0 (fun _ => true) true m e ((cs.drop (i * Tryz.prog.cellsOf e)).take (Tryz.prog.cellsOf e)) = some y /\ Fit e y := by
 obtain ⟨xs, m, rfl, rfl, hl, hxs, hf⟩ := DataW.trod_array ht h
 refine ⟨hl, m, Nat.lt_succ_self m, fun i hi => ?_⟩
 have hi' : i < xs.length := by omega
 refine ⟨xs[i], by rw [hf i hi, List.getElem?_eq_getElem hi'], fun k hk => hz k ?_⟩
 unfold DataW.weights
 rw [ht]
 exact Zeg (List.mem_map.2 ⟨xs[i], List.getElem_mem hi', rfl⟩) hk
theorem Zu0 : Tryz.prog.cellsOf 3 = 1 := by kernel_rfl
theorem Zk5 : Tryz.prog.cellsOf 9 = 1 := by kernel_rfl
theorem Zx1 : Tryz.prog.cellsOf 2 = 1 := by kernel_rfl
theorem Zu1 : Tryz.prog.cellsOf 31 = 2 := by kernel_rfl
theorem Zu2 : Tryz.prog.cellsOf 32 = 1 := by kernel_rfl
theorem Zz4 : Tryz.prog.cellsOf 22 = 1 := by kernel_rfl
theorem Zpj : Tryz.prog.cellsOf 23 = 1 := by kernel_rfl
theorem Zpk : Tryz.prog.cellsOf 24 = 1 := by kernel_rfl
theorem Zu3 : Tryz.prog.cellsOf 34 = 9 := by kernel_rfl
theorem Zu4 : Tryz.prog.cellsOf 52 = 11 := by kernel_rfl
theorem Zu5 : Tryz.prog.cellsOf 57 = 3 := by kernel_rfl
theorem Zz5 : Tryz.prog.cellsOf 26 = 4 := by kernel_rfl
theorem by9 : 1 <= Tryz.prog.bytesOf 9 := of_decide_eq_true (by kernel_rfl)
theorem by34 : 1 <= Tryz.prog.bytesOf 34 := of_decide_eq_true (by kernel_rfl)
theorem by52 : 1 <= Tryz.prog.bytesOf 52 := of_decide_eq_true (by kernel_rfl)
theorem by57 : 1 <= Tryz.prog.bytesOf 57 := of_decide_eq_true (by kernel_rfl)
theorem Zip {fuel : Nat} {v : Value} {x : DataW H × List MemPlace} (h : DataW.trod en Tryz.prog w 0 (fun _ => true) true fuel 24 [v] = some x) (hz : Fit 24 x) :
 ∃ l : List Tx, RepD w (prW w) (.slc (txs l)) v /\ l.length <= 2 ^ 50 /\ ∀ s ∈ l, s.length <= 2 ^ 50 :=
 Zf1 (E := fun s => [dS s]) Tryz.underlying24 Zk5 (by decide) by9 (fun _ => rfl) (fun q _ cs y hy hf => by
  obtain ⟨s, rfl, hs⟩ := Zdo Tryz.underlying9 hy hf
  exact ⟨s, ⟨.lit _ rfl, trivial⟩, hs⟩) h hz
theorem Zk6 {fuel : Nat} {a b : Value} {x : DataW H × List MemPlace} (h : DataW.trod en Tryz.prog w 0 (fun _ => true) true fuel 31 [a, b] = some x) (hz : Fit 31 x) :
 ∃ s t : Tx, a = Zab s /\ b = Zab t /\ s.length <= 2 ^ 50 /\ t.length <= 2 ^ 50 := by
 obtain ⟨_, m, _, hf⟩ := Zr2 Tryz.underlying31 h hz
 rw [Zk5] at hf
 obtain ⟨y, h1, h2⟩ := hf 0 (by decide)
 obtain ⟨z, h3, h4⟩ := hf 1 (by decide)
 obtain ⟨s, e1, hs⟩ := Zdo Tryz.underlying9 h1 h2
 obtain ⟨t, e2, ht⟩ := Zdo Tryz.underlying9 h3 h4
 exact ⟨s, t, by simpa using e1, by simpa using e2, hs, ht⟩
abbrev Zz6 (H : Type) (en : TypeId × Value -> H) (w : World) (fuel : Nat) : Prop := ∀ (cs : List Value) (x : DataW H × List MemPlace), DataW.trod en Tryz.prog w 0 (fun _ => true) true fuel 34 cs = some x -> Fit 34 x -> ∃ r : Nd, All2 (RepD w (prW w)) (encE r) cs /\ wfE r /\ All Big r
abbrev Zz7 (H : Type) (en : TypeId × Value -> H) (w : World) (fuel : Nat) : Prop := ∀ (cs : List Value) (x : DataW H × List MemPlace), DataW.trod en Tryz.prog w 0 (fun _ => true) true fuel 52 cs = some x -> Fit 52 x -> ∃ r : Nd, All2 (RepD w (prW w)) (encD r) cs /\ wfD r /\ All Big r
theorem Zu6 {fuel : Nat} (ih : ∀ q < fuel, Zz6 H en w q) {v : Value} {x : DataW H × List MemPlace} (h : DataW.trod en Tryz.prog w 0 (fun _ => true) true fuel 32 [v] = some x) (hz : Fit 32 x) :
 ∃ l : List Nd, RepD w (prW w) (.slc (Zbp l)) v /\ l.length <= 2 ^ 50 /\ wfEs l /\ ∀ r ∈ l, All Big r := by
 obtain ⟨l, h1, h2, h3⟩ := Zf1 (E := encE) (Good := fun r => wfE r /\ All Big r) Tryz.underlying32 Zu3 (by decide) by34 Zbq ih h hz
 exact ⟨l, by rw [Zfp]; exact h1, h2, (Zio l).2 fun r hr => (h3 r hr).1, fun r hr => (h3 r hr).2⟩
theorem Zpl {fuel : Nat} (ih : ∀ q < fuel, Zz7 H en w q) {v : Value} {x : DataW H × List MemPlace} (h : DataW.trod en Tryz.prog w 0 (fun _ => true) true fuel 23 [v] = some x) (hz : Fit 23 x) :
 ∃ l : List Nd, RepD w (prW w) (.slc (Zar l)) v /\ l.length <= 2 ^ 50 /\ wfDs l /\ ∀ r ∈ l, All Big r := by
 obtain ⟨l, h1, h2, h3⟩ := Zf1 (E := encD) (Good := fun r => wfD r /\ All Big r) Tryz.underlying23 Zu4 (by decide) by52 Zay ih h hz
 exact ⟨l, by rw [Zfq]; exact h1, h2, (Zhj l).2 fun r hr => (h3 r hr).1, fun r hr => (h3 r hr).2⟩
theorem Zu7 (fuel : Nat) : Zz6 H en w fuel /\ Zz7 H en w fuel := by
 induction fuel using Nat.strongRecOn with
 | ind fuel ih =>
   have ihE : ∀ q < fuel, Zz6 H en w q := fun q hq => (ih q hq).1
   have ihD : ∀ q < fuel, Zz7 H en w q := fun q hq => (ih q hq).2
   refine ⟨fun cs x h hz => ?_, fun cs x h hz => ?_⟩
   ·obtain ⟨hl, n, hn, hf⟩ := Ze2 Tryz.underlying34 h hz
    rw [Zu3] at hl
    match cs, hl with
    | [v0, v1, v2, v3, v4, v5, v6, v7, v8], _ =>
      obtain ⟨y0, a0, b0⟩ := hf 0 3 0 rfl
      obtain ⟨y1, a1, b1⟩ := hf 1 9 1 rfl
      obtain ⟨y2, a2, b2⟩ := hf 2 2 2 rfl
      obtain ⟨y3, a3, b3⟩ := hf 3 31 3 rfl
      obtain ⟨y4, a4, b4⟩ := hf 4 32 5 rfl
      obtain ⟨y5, a5, b5⟩ := hf 5 23 6 rfl
      obtain ⟨y6, a6, b6⟩ := hf 6 24 7 rfl
      obtain ⟨y7, a7, b7⟩ := hf 7 3 8 rfl
      simp only [Zu0, Zk5, Zx1, Zu1, Zu2, Zpj, Zpk] at a0 a1 a2 a3 a4 a5 a6 a7
      obtain ⟨k, e0, _⟩ := DataW.trod_int Tryz.underlying3 a0
      obtain ⟨t, e1, g1⟩ := Zdo Tryz.underlying9 a1 b1
      obtain ⟨m, e2, _⟩ := DataW.trod_int Tryz.underlying2 a2
      obtain ⟨p, q, e3, e4, g3, g4⟩ := Zk6 a3 b3
      obtain ⟨s, e5, l5, f5, g5⟩ := Zu6 (fun q hq => ihE q (by omega)) a4 b4
      obtain ⟨d, e6, l6, f6, g6⟩ := Zpl (fun q hq => ihD q (by omega)) a5 b5
      obtain ⟨c, e7, l7, g7⟩ := Zip a6 b6
      obtain ⟨o, e8, _⟩ := DataW.trod_int Tryz.underlying3 a7
      have u0 : v0 = _ := (List.cons.inj (show [v0] = _ from e0)).1
      have u1 : v1 = _ := (List.cons.inj (show [v1] = _ from e1)).1
      have u2 : v2 = _ := (List.cons.inj (show [v2] = _ from e2)).1
      have u8 : v8 = _ := (List.cons.inj (show [v8] = _ from e8)).1
      subst u0 u1 u2 e3 e4 u8
      refine ⟨.mk k m t p q [] [] c o s d, ?_, ?_, .mk ⟨⟨l5, l6, l7, by simp [Nd.lead]⟩, ?_, g7, by simp [Nd.lead]⟩ g5 g6⟩
      ·rw [encE]
       exact ⟨.lit _ rfl, .lit _ rfl, .lit _ rfl, .lit _ rfl, .lit _ rfl, e5, e6, e7, .lit _ rfl, trivial⟩
      ·rw [wfE]; exact ⟨⟨rfl, rfl⟩, f5, f6⟩
      ·intro z hz
       simp only [Nd.text, Nd.n0, Nd.n1, Nd.trail, List.mem_cons, List.not_mem_nil, or_false] at hz
       rcases hz with rfl | rfl | rfl | rfl
       ·exact g1
       ·exact g3
       ·exact g4
       ·simp
   ·obtain ⟨hl, n, hn, hf⟩ := Ze2 Tryz.underlying52 h hz
    rw [Zu4] at hl
    match cs, hl with
    | [v0, v1, v2, v3, v4, v5, v6, v7, v8, v9, v10], _ =>
      obtain ⟨y0, a0, b0⟩ := hf 0 3 0 rfl
      obtain ⟨y1, a1, b1⟩ := hf 1 3 1 rfl
      obtain ⟨y2, a2, b2⟩ := hf 2 9 2 rfl
      obtain ⟨y3, a3, b3⟩ := hf 3 31 3 rfl
      obtain ⟨y4, a4, b4⟩ := hf 4 32 5 rfl
      obtain ⟨y5, a5, b5⟩ := hf 5 23 6 rfl
      obtain ⟨y6, a6, b6⟩ := hf 6 24 7 rfl
      obtain ⟨y7, a7, b7⟩ := hf 7 24 8 rfl
      obtain ⟨y8, a8, b8⟩ := hf 8 9 9 rfl
      obtain ⟨y9, a9, b9⟩ := hf 9 3 10 rfl
      simp only [Zu0, Zk5, Zx1, Zu1, Zu2, Zpj, Zpk] at a0 a1 a2 a3 a4 a5 a6 a7 a8 a9
      obtain ⟨k, e0, _⟩ := DataW.trod_int Tryz.underlying3 a0
      obtain ⟨m, e1, _⟩ := DataW.trod_int Tryz.underlying3 a1
      obtain ⟨t, e2, g1⟩ := Zdo Tryz.underlying9 a2 b2
      obtain ⟨p, q, e3, e4, g3, g4⟩ := Zk6 a3 b3
      obtain ⟨s, e5, l5, f5, g5⟩ := Zu6 (fun q hq => ihE q (by omega)) a4 b4
      obtain ⟨d, e6, l6, f6, g6⟩ := Zpl (fun q hq => ihD q (by omega)) a5 b5
      obtain ⟨c, e7, l7, g7⟩ := Zip a6 b6
      obtain ⟨le, e8, l8, g8⟩ := Zip a7 b7
      obtain ⟨tr, e9, g9⟩ := Zdo Tryz.underlying9 a8 b8
      obtain ⟨o, e10, _⟩ := DataW.trod_int Tryz.underlying3 a9
      have u0 : v0 = _ := (List.cons.inj (show [v0] = _ from e0)).1
      have u1 : v1 = _ := (List.cons.inj (show [v1] = _ from e1)).1
      have u2 : v2 = _ := (List.cons.inj (show [v2] = _ from e2)).1
      have u9 : v9 = _ := (List.cons.inj (show [v9] = _ from e9)).1
      have u10 : v10 = _ := (List.cons.inj (show [v10] = _ from e10)).1
      subst u0 u1 u2 e3 e4 u9 u10
      refine ⟨.mk k m t p q tr le c o s d, ?_, ?_, .mk ⟨⟨l5, l6, l7, l8⟩, ?_, g7, g8⟩ g5 g6⟩
      ·rw [encD]
       exact ⟨.lit _ rfl, .lit _ rfl, .lit _ rfl, .lit _ rfl, .lit _ rfl, e5, e6, e7, e8, .lit _ rfl, .lit _ rfl, trivial⟩
      ·rw [wfD]; exact ⟨f5, f6⟩
      ·intro z hz
       simp only [Nd.text, Nd.n0, Nd.n1, Nd.trail, List.mem_cons, List.not_mem_nil, or_false] at hz
       rcases hz with rfl | rfl | rfl | rfl
       ·exact g1
       ·exact g3
       ·exact g4
       ·exact g9
theorem Z2b {fuel : Nat} {cs : List Value} {x : DataW H × List MemPlace} (h : DataW.trod en Tryz.prog w 0 (fun _ => true) true fuel 57 cs = some x) (hz : Fit 57 x) :
 ∃ i : Im, All2 (RepD w (prW w)) (encI i) cs /\ BigI i := by
 obtain ⟨hl, n, hn, hf⟩ := Ze2 Tryz.underlying57 h hz
 rw [Zu5] at hl
 match cs, hl with
 | [v0, v1, v2], _ =>
   obtain ⟨y0, a0, b0⟩ := hf 0 9 0 rfl
   obtain ⟨y1, a1, b1⟩ := hf 1 9 1 rfl
   obtain ⟨y2, a2, b2⟩ := hf 2 3 2 rfl
   simp only [Zu0, Zk5] at a0 a1 a2
   obtain ⟨t, e0, g0⟩ := Zdo Tryz.underlying9 a0 b0
   obtain ⟨p, e1, g1⟩ := Zdo Tryz.underlying9 a1 b1
   obtain ⟨k, e2, _⟩ := DataW.trod_int Tryz.underlying3 a2
   have u0 : v0 = _ := (List.cons.inj (show [v0] = _ from e0)).1
   have u1 : v1 = _ := (List.cons.inj (show [v1] = _ from e1)).1
   have u2 : v2 = _ := (List.cons.inj (show [v2] = _ from e2)).1
   subst u0 u1 u2
   exact ⟨⟨t, p, k⟩, ⟨.lit _ rfl, .lit _ rfl, .lit _ rfl, trivial⟩, g0, g1⟩
theorem Z2c {fuel : Nat} {cs : List Value} {x : DataW H × List MemPlace} (h : DataW.trod en Tryz.prog w 0 (fun _ => true) true fuel 26 cs = some x) (hz : Fit 26 x) :
 ∃ f : Fl, All2 (RepD w (prW w)) (Zdf f) cs /\ BigF f /\ wfF f := by
 obtain ⟨hl, n, hn, hf⟩ := Ze2 Tryz.underlying26 h hz
 rw [Zz5] at hl
 match cs, hl with
 | [v0, v1, v2, v3], _ =>
   obtain ⟨y0, a0, b0⟩ := hf 0 9 0 rfl
   obtain ⟨y1, a1, b1⟩ := hf 1 22 1 rfl
   obtain ⟨y2, a2, b2⟩ := hf 2 23 2 rfl
   obtain ⟨y3, a3, b3⟩ := hf 3 24 3 rfl
   simp only [Zk5, Zz4, Zpj, Zpk] at a0 a1 a2 a3
   obtain ⟨t, e0, g0⟩ := Zdo Tryz.underlying9 a0 b0
   obtain ⟨im, e1, l1, g1⟩ := Zf1 (E := encI) (Good := BigI) Tryz.underlying22 Zu5 (by decide) by57 (fun _ => rfl) (fun q _ cs y hy hf => Z2b hy hf) a1 b1
   obtain ⟨d, e2, l2, f2, g2⟩ := Zpl (fun q _ => (Zu7 q).2) a2 b2
   obtain ⟨c, e3, l3, g3⟩ := Zip a3 b3
   have u0 : v0 = _ := (List.cons.inj (show [v0] = _ from e0)).1
   subst u0
   exact ⟨⟨t, im, d, c⟩, ⟨.lit _ rfl, e1, e2, e3, trivial⟩, ⟨⟨l1, l2, l3⟩, g0, g3, g1, g2⟩, f2⟩
end
end Go.Sy
end
section
open Go Go.Proofs Go.Ab Go.Rf Go.ChangeShapes Go.WideShapes Go.ChangeAt
set_option maxRecDepth 100000
namespace Go.Sy
theorem lay : laidOutB Tryz.prog = true := by kernel_rfl
theorem own : ownKnob Tryz.prog.godebug = none := by kernel_rfl
theorem Holds.out {P : Program} {f : FuncId} {args : List A} {v : A} (h : Holds P f args [] (Ret v)) {w : World} {cargs : Array Value}
 (ha : All2 (fun x v => ∀ p, RepA w (ghW w) (fun _ => 0) p x v) args cargs.toList) :
 CallsX P f cargs w fun e w' => ∃ cv g', e = .returned cv /\ RepA w' g' (fun _ => 0) .res v cv /\ RowKit.Below w.heap.size w w' := by
 have hh : HeapRel (Zbv P w (ghW w) [] 0) (Zca []) (ghW w) w := by
  have no : ∀ {o b}, ¬ Owns (Zca []) (ghW w) o b := fun ho => by
   cases ho with
   | box h => cases h
   | slot h => cases h
   | cell h _ _ => cases h
  exact ⟨fun r c h => (by cases h), fun o o' b h _ => (no h).elim, fun o b h => (no h).elim, fun b o h => h, fun _ _ h => h, fun _ _ h => .inl h, fun _ => rfl, fun _ h => h, Fr.refl _ _ _⟩
 refine (h w cargs (ghW w) ha hh).mono fun e w' ⟨out, H', g', hR, hH, hr, he⟩ => ?_
 obtain ⟨rfl, rfl⟩ := hR
 obtain ⟨cv, rfl, h1, _⟩ := he
 refine ⟨cv, g', rfl, h1, hr.fr.os, hr.fr.tape, hr.fr.output, hr.fr.size, fun b hb => hr.fr.same b hb ?_⟩
 rintro ⟨o, ho⟩
 cases ho with
 | box h => cases h
 | slot h => cases h
 | cell h _ _ => cases h
theorem Zpm {P : Program} {f : FuncId} {fn : Func} {c : Code} (hf : P.funcs[f]? = some fn) (hb : fn.body = some c) (hn : (fn.name == "runtime.NumGoroutine") = false) {args : Array Value} {w : World} {R : Ending -> World -> Prop}
 (h : CallsX P f args w R) : Calls P f args w R := by
 unfold CallsX at h
 rw [Zh5 hf hb hn] at h
 exact h
section
variable {H : Type} {en : TypeId × Value -> H} {w : World} {base : Nat} {sp : Nat -> Bool}
theorem Z28 {v : Value} {d : DataW H} {p : List MemPlace} (hv : Value.okWide Tryz.prog w .any base 26 v) (h : DataW.Trod en Tryz.prog w 0 (fun _ => true) true 26 v d p) (hz : ∀ k ∈ d.weights Tryz.prog 26, k <= reachBytes) :
 ∃ f : Fl, (∀ q, RepA w (ghW w) (fun _ => 0) q (.agg (Zdf f)) v) /\ BigF f /\ wfF f := by
 obtain ⟨fuel, h⟩ := h
 simp only [Value.okWide, Tryz.underlying26] at hv
 obtain ⟨cs, rfl, _⟩ := hv
 obtain ⟨f, h2, h3⟩ := Z2c h hz
 exact ⟨f, fun q => ⟨cs.toList, by simp, h2⟩, h3⟩
theorem Z29 {v : Value} {d : DataW H} {p : List MemPlace} (hv : Value.okWide Tryz.prog w .any base 34 v) (h : DataW.Trod en Tryz.prog w 0 (fun _ => true) true 34 v d p) (hz : ∀ k ∈ d.weights Tryz.prog 34, k <= reachBytes) :
 ∃ r : Nd, (∀ q, RepA w (ghW w) (fun _ => 0) q (.agg (encE r)) v) /\ All Big r /\ wfE r := by
 obtain ⟨fuel, h⟩ := h
 simp only [Value.okWide, Tryz.underlying34] at hv
 obtain ⟨cs, rfl, _⟩ := hv
 obtain ⟨f, h2, h3, h4⟩ := (Zu7 fuel).1 _ _ h hz
 exact ⟨f, fun q => ⟨cs.toList, by simp, h2⟩, h4, h3⟩
theorem Znz (hl : laidOutB Tryz.prog = true) {W W' : World} : ∀ {ts : List TypeId} {vs : List Value} {ds : List (DataW H)} {ps : List MemPlace}, (∀ t ∈ ts, Tryz.prog.readableRec t = true /\ t < Tryz.prog.types.size) ->
 DataW.TrodAll en Tryz.prog W 0 (fun _ => true) true ts vs ds ps -> RowKit.Below W.heap.size W W' -> (∀ p ∈ ps, p.block < W.heap.size) -> (∀ p ∈ ps, sp p.block = true) -> DataW.TrodAll en Tryz.prog W' 0 sp true ts vs ds ps
 | [], _, _, _, _, h, _, _, _ => by
   obtain ⟨rfl, rfl, rfl⟩ := trodAll_nil h
   rfl
 | t :: ts, _, _, _, ht, h, hb, hlt, hs => by
   obtain ⟨v, vs1, d, ds1, a, b, rfl, rfl, rfl, h1, h2⟩ := trodAll_cons h
   refine ⟨a, b, ?_, Znz hl (fun t h => ht t (List.mem_cons_of_mem _ h)) h2 hb (fun p hp => hlt p (List.mem_append_right _ hp)) (fun p hp => hs p (List.mem_append_right _ hp)), rfl⟩
   exact WideElems.Trod_stays hl (ht t (List.mem_cons_self ..)).1 (ht t (List.mem_cons_self ..)).2 h1 (fun p hp => hb.same (hlt p (List.mem_append_left _ hp))) (fun p hp => hs p (List.mem_append_left _ hp))
theorem Zw6 {fn : Func} {s : ChangeSpec} {W W' : World} {args : Array Value} {ds gs : List (DataW H)} {before : List MemPlace} (hvs : s.vars = [])
 (hW : DataW.Whole en Tryz.prog fn.params.toList s.vars false W args.toList ds gs before) (hres : fn.resultTypes = #[4])
 (hspec : s.fn H ds = ⟨[.lit (.bool true)], ds, []⟩) (hl : laidOutB Tryz.prog = true) (hrd0 : (fn.params.toList.all fun t => Tryz.prog.readableRec t && decide (t < Tryz.prog.types.size)) = true)
 (hb : RowKit.Below W.heap.size W W') : s.post en Tryz.prog fn false true false false W args (.bool true) W' := by
 have hlt := hW.lt
 have hrd : ∀ t ∈ fn.params.toList, Tryz.prog.readableRec t = true /\ t < Tryz.prog.types.size := fun t ht => by
  have := List.all_eq_true.1 hrd0 t ht
  simpa using this
 obtain ⟨p, q, hA, hV, rfl, hfz, hnd⟩ := id hW
 rw [hvs] at hV
 obtain ⟨rfl, rfl⟩ := trodVars_none hV
 have hold : ∀ x ∈ p ++ [], (fun b => decide (b < W.heap.size)) x.block = true := fun x hx => by simpa using hlt x hx
 have hr : ∀ (b : Nat) (sp : Nat -> Bool) (hd : Bool), DataW.TrodAll en Tryz.prog W' b sp hd fn.resultTypes.toList ((Value.bool true).resultList fn.resultTypes.size) (s.fn H (ds ++ [])).results [] := fun b sp hd => by
  rw [List.append_nil, hspec, hres]
  exact trodAll_cons_mk (RowKit.shut_bool Tryz.underlying4 _) trodAll_mk0
 have ha : ∀ sp : Nat -> Bool, (∀ x ∈ p ++ [], sp x.block = true) -> DataW.TrodAll en Tryz.prog W' 0 sp true fn.params.toList args.toList (s.fn H (ds ++ [])).args p := fun sp hs => by
  rw [List.append_nil, hspec]
  exact Znz hl hrd hA hb (fun x hx => hlt x (by simpa using hx)) (fun x hx => hs x (by simpa using hx))
 have hv : ∀ sp : Nat -> Bool, DataW.TrodVars en Tryz.prog W' sp s.vars (s.fn H (ds ++ [])).vars [] := fun sp => by
  rw [List.append_nil, hspec, hvs]
  rfl
 refine ⟨ds, [], p ++ [], [], p, [], hW, hr _ _ _, ha _ hold, hv _, hb.frame _, fun _ => ⟨RowKit.ok_one hres rfl (RowKit.okWide_bool_mk Tryz.underlying4 _), _, _, ([] ++ p) ++ [], ⟨[] ++ p, [], trodAll_append (ha _ (fun _ _ => rfl)) (hr _ _ _), hv _, rfl, ?_, ?_⟩, ?_⟩⟩
 ·intro b off hx
  have hx' : MemPlace.cell b off ∈ p ++ [] := by simpa using hx
  rw [hb.frozen (hlt _ hx')]
  exact hfz b off hx'
 ·intro h; cases h
 ·intro x hx _
  simpa using hx
theorem Zx2 {ts : List TypeId} {ds : List (DataW H)} (hz : (DataW.weightsEach Tryz.prog ts ds).all (· <= reachBytes) = true) {i : Nat} {t : TypeId} {d : DataW H} (h1 : ts[i]? = some t) (h2 : ds[i]? = some d) : ∀ k ∈ d.weights Tryz.prog t, k <= reachBytes := fun k hk => by
 have := List.all_eq_true.1 hz k (Zd5 h1 h2 hk)
 simpa using this
end
def Z2d : Array Value := (Pinned.utf8FirstZ.map fun (n : Nat) => Value.int .u8 n).toArray
def Zz8 : Array Value := ((([128, 191, 160, 191, 128, 159, 144, 191, 128, 143] : List Nat) ++ List.replicate 22 0).map fun (n : Nat) => Value.int .u8 n).toArray
def setC (v : Array Value) : Obj -> Obj
 | .cells _ t fr => .cells v t fr
 | o => o
noncomputable def Zj7 (os : Os) : World :=
 { World.holding Tryz.prog os ⟨#[], #[], []⟩ with heap := ((World.holding Tryz.prog os ⟨#[], #[], []⟩).heap.modify 1 (setC Z2d)).modify 2 (setC Zz8) }
def zE : Value := .agg #[.int .i64 0, .string ⟨#[]⟩, .int .i64 0, .string ⟨#[]⟩, .string ⟨#[]⟩, .slice none 0 0, .slice none 0 0, .slice none 0 0, .int .i64 0]
def zF : Value := .agg #[.string ⟨#[]⟩, .slice none 0 0, .slice none 0 0, .slice none 0 0]
def dE {H : Type} : DataW H := .agg [.lit (.int .i64 0), .lit (.string []), .lit (.int .i64 0), .agg [.lit (.string []), .lit (.string [])], .nil, .nil, .nil, .lit (.int .i64 0)]
def dF {H : Type} : DataW H := .agg [.lit (.string []), .nil, .nil, .nil]
end Go.Sy
end
section
open Go Go.Proofs Go.Ab Go.Rf
set_option linter.unusedSimpArgs false
set_option maxRecDepth 100000
namespace Go.Sy
def RetD (es : List (List D)) : Out -> List (Ref × List A) -> Prop := fun o H => H = [] /\ ∃ v, o = .ret v /\ AsD v (.d (.slc es))
theorem Holds.ofD {P : Program} {f : FuncId} {args : List A} {es : List (List D)} (h : Holds P f args [] (RetD es)) : Holds P f args [] (Ret (slA es)) :=
 h.asData fun o H' ⟨e, v, e1, e2⟩ => ⟨.ret (slA es), by subst e1; exact e2, rfl, e⟩
theorem c69 (l : List Tx) (hl : l.length <= 2 ^ 30) : Holds Tryz.prog 69 [slA (txs l)] [] (Ret (slA (txs l))) := by
 refine Holds.ofD (w69 (txs l) fun b hb => ⟨fun e => ?_, fun e => ⟨Zau l, tle (by simp; omega), tle (by simp; omega), fun h => ?_, fun h => ⟨rfl, _, rfl, .own _ _⟩⟩⟩)
 ·have h := Zk2 (hb e)
  have : l = [] := List.length_eq_zero_iff.1 (by simpa using h)
  subst this; exact ⟨rfl, _, rfl, .zs _⟩
 ·have : l = [] := List.length_eq_zero_iff.1 (by simpa using Zk2 h)
  subst this; exact ⟨rfl, _, rfl, .zs _⟩
theorem Zx3 (l : List Im) : Za2 3 (Zhy l) = true := by simp [Za2, Zhy]
theorem c81 (l : List Im) (hl : l.length <= 2 ^ 30) : Holds Tryz.prog 81 [slA (Zhy l)] [] (Ret (slA (Zhy l))) := by
 refine Holds.ofD (w81 (Zhy l) fun b hb => ⟨fun e => ?_, fun e => ⟨Zx3 l, tle (by simp; omega), tle (by simp; omega), fun h => ?_, fun h => ⟨rfl, _, rfl, .own _ _⟩⟩⟩)
 ·have h := Zk2 (hb e)
  have : l = [] := List.length_eq_zero_iff.1 (by simpa using h)
  subst this; exact ⟨rfl, _, rfl, .zs _⟩
 ·have : l = [] := List.length_eq_zero_iff.1 (by simpa using Zk2 h)
  subst this; exact ⟨rfl, _, rfl, .zs _⟩
def tl {α : Type} (c : Bool) (l : List α) : List α := if c then [] else l
def ps (p : Bool) (n : Int) : Int := if p then 0 else n
def shE (p c : Bool) (r : Nd) : Nd := .mk r.kind r.num r.text r.n0 r.n1 r.trail r.lead (tl c r.tail) (ps p r.pos) r.subs r.decls
def shD (p c : Bool) (r : Nd) : Nd := .mk r.kind r.num r.text r.n0 r.n1 (tl c r.trail) (tl c r.lead) (tl c r.tail) (ps p r.pos) r.subs r.decls
mutual
def mpE (p c : Bool) : Nd -> Nd
 | .mk k n t a b tr le ta po s d => .mk k n t a b tr le (tl c ta) (ps p po) (mpEs p c s) (mpDs p c d)
def mpEs (p c : Bool) : List Nd -> List Nd
 | [] => []
 | x :: l => mpE p c x :: mpEs p c l
def mpD (p c : Bool) : Nd -> Nd
 | .mk k n t a b tr le ta po s d => .mk k n t a b (tl c tr) (tl c le) (tl c ta) (ps p po) (mpEs p c s) (mpDs p c d)
def mpDs (p c : Bool) : List Nd -> List Nd
 | [] => []
 | x :: l => mpD p c x :: mpDs p c l
end
theorem Zx4 (p c : Bool) (r : Nd) : mpE p c r = .mk r.kind r.num r.text r.n0 r.n1 r.trail r.lead (tl c r.tail) (ps p r.pos) (mpEs p c r.subs) (mpDs p c r.decls) := by cases r; rw [mpE]; rfl
theorem Zx5 (p c : Bool) (r : Nd) : mpD p c r = .mk r.kind r.num r.text r.n0 r.n1 (tl c r.trail) (tl c r.lead) (tl c r.tail) (ps p r.pos) (mpEs p c r.subs) (mpDs p c r.decls) := by cases r; rw [mpD]; rfl
theorem Zhk (p c : Bool) : ∀ l, mpEs p c l = l.map (mpE p c)
 | [] => rfl
 | x :: l => by rw [mpEs, Zhk p c l]; rfl
theorem Zf2 (p c : Bool) : ∀ l, mpDs p c l = l.map (mpD p c)
 | [] => rfl
 | x :: l => by rw [mpDs, Zf2 p c l]; rfl
theorem Zpn (p c : Bool) (r : Nd) : encE (mpE p c r) = [dI r.kind, dS r.text, dI r.num, dS r.n0, dS r.n1, .slc (Zbp (mpEs p c r.subs)), .slc (Zar (mpDs p c r.decls)), .slc (txs (tl c r.tail)), dI (ps p r.pos)] := by rw [Zx4, encE]
theorem Zj8 (p c : Bool) (r : Nd) : encD (mpD p c r) = [dI r.kind, dI r.num, dS r.text, dS r.n0, dS r.n1, .slc (Zbp (mpEs p c r.subs)), .slc (Zar (mpDs p c r.decls)), .slc (txs (tl c r.tail)), .slc (txs (tl c r.lead)), dS (tl c r.trail), dI (ps p r.pos)] := by rw [Zx5, encD]
theorem Zaw {α β : Type} (F : α -> β) {l : List α} {i : Nat} (h : i < l.length) : (l.map F).take i ++ [F l[i]] = (l.map F).take (i + 1) := by
 rw [List.take_succ_eq_append_getElem (by simpa using h)]; simp
theorem Zb7 {α β : Type} (F : α -> β) {l : List α} {i : Nat} (h : l.length <= i) : (l.map F).take i = l.map F := List.take_of_length_le (by simpa using h)
theorem Zb8 {α β : Type} (F : α -> β) {l : List α} {i : Nat} (h : i <= l.length) : ((l.map F).take i).length = i := by simp; omega
theorem Zeb (p c : Bool) (l : List Nd) : Zbp (mpEs p c l) = l.map fun a => encE (mpE p c a) := by rw [Zfp, Zhk, List.map_map]; rfl
theorem Ziq (p c : Bool) (l : List Nd) : Zar (mpDs p c l) = l.map fun a => encD (mpD p c a) := by rw [Zfq, Zf2, List.map_map]; rfl
theorem Zf4 (r : Nd) : Za2 9 [encE r] = true := by simp [Za2]
theorem Zft {α : Type} (c : Bool) (l : List α) : (tl c l).length <= l.length := by unfold tl; split <;> simp
theorem c79 (r : Nd) : Holds Tryz.prog 79 [.agg (encE r)] [] (Ret (.agg (encE (shE true false r)))) := w79 _ ⟨teq (by simp), by cases r; simp [encE, shE, tl, ps, txs, Nd.kind, Nd.num, Nd.text, Nd.n0, Nd.n1, Nd.tail, Nd.pos, Nd.subs, Nd.decls], rfl⟩
theorem c80 (r : Nd) : Holds Tryz.prog 80 [.agg (encD r)] [] (Ret (.agg (encD (shD true false r)))) := w80 _ ⟨teq (by simp), by cases r; simp [encD, shD, tl, ps, txs, Nd.kind, Nd.num, Nd.text, Nd.n0, Nd.n1, Nd.tail, Nd.lead, Nd.trail, Nd.pos, Nd.subs, Nd.decls], rfl⟩
theorem c82 (r : Nd) : Holds Tryz.prog 82 [.agg (encE r)] [] (Ret (.agg (encE (shE false true r)))) := w82 _ ⟨teq (by simp), by cases r; simp [encE, shE, tl, ps, txs, Nd.kind, Nd.num, Nd.text, Nd.n0, Nd.n1, Nd.tail, Nd.pos, Nd.subs, Nd.decls], rfl⟩
theorem c83 (r : Nd) : Holds Tryz.prog 83 [.agg (encD r)] [] (Ret (.agg (encD (shD false true r)))) := w83 _ ⟨teq (by simp), by cases r; simp [encD, shD, tl, ps, txs, Nd.kind, Nd.num, Nd.text, Nd.n0, Nd.n1, Nd.tail, Nd.lead, Nd.trail, Nd.pos, Nd.subs, Nd.decls], rfl⟩
theorem Zk7 (p c : Bool) (r : Nd) : ((shE p c r).kind = r.kind /\ (shE p c r).num = r.num /\ (shE p c r).text = r.text /\ (shE p c r).n0 = r.n0 /\ (shE p c r).n1 = r.n1 /\ (shE p c r).tail = tl c r.tail /\ (shE p c r).pos = ps p r.pos) /\
 ((shD p c r).kind = r.kind /\ (shD p c r).num = r.num /\ (shD p c r).text = r.text /\ (shD p c r).n0 = r.n0 /\ (shD p c r).n1 = r.n1 /\ (shD p c r).trail = tl c r.trail /\ (shD p c r).lead = tl c r.lead /\ (shD p c r).tail = tl c r.tail /\ (shD p c r).pos = ps p r.pos) := ⟨⟨rfl, rfl, rfl, rfl, rfl, rfl, rfl⟩, rfl, rfl, rfl, rfl, rfl, rfl, rfl, rfl, rfl⟩
def Shr (r : Nd) : Prop := r.subs.length <= 2 ^ 30 /\ r.decls.length <= 2 ^ 30 /\ r.tail.length <= 2 ^ 30 /\ r.lead.length <= 2 ^ 30
theorem Zx6 {r : Nd} (h : All Sml r) : All Shr r := h.mono fun _ h => ⟨Nat.le_trans h.1.1 (by decide), Nat.le_trans h.1.2.1 (by decide), Nat.le_trans h.1.2.2.1 (by decide), Nat.le_trans h.1.2.2.2 (by decide)⟩
theorem Z3a (l : List Nd) (hl : l.length <= 2 ^ 30) (ih : ∀ x ∈ l, Holds Tryz.prog 74 [.agg (encE x), .fn 79 [], .fn 80 []] [] (Ret (.agg (encE (mpE true false x))))) :
 Holds Tryz.prog 107 [slA (Zbp l), .fn 79 [], .fn 80 []] [] (Ret (slA (Zbp (mpEs true false l)))) := by
 rw [Zeb]
 refine Holds.ofD (Z2r (Zbp l) ⟨True, l.length + 1, fun es x => ∃ i : Nat, x = i /\ i <= l.length /\ es = (l.map fun a => encE (mpE true false a)).take i, fun _ x => l.length - x.toNat, trivial, fun _ => ⟨fun hc => ?_, fun hc => ?_⟩, ?_, trivial⟩)
 ·have k1 : 0 < l.length := by have := Zah hc; simp at this; omega
  have g := Zby (x := (0 : Int)) rfl k1
  rw [g]
  refine ⟨teq (by simp), Zak (ih _ (List.getElem_mem k1)) ⟨_, rfl, rfl, teq (by simp), Zf4 _, tle (by simp), tle (by simp), ⟨1, rfl, k1, ?_⟩, ?_⟩⟩
  ·have := Zaw (fun a => encE (mpE true false a)) k1; simpa using this
  ·simp; omega
 ·have k1 : l = [] := List.length_eq_zero_iff.1 (by have := Zai hc; simp at this; simpa using this)
  subst k1; exact ⟨rfl, _, rfl, .zs _⟩
 ·rintro es x ⟨i, rfl, hi, rfl⟩
  refine ⟨fun hc => ?_, fun hc => ?_⟩
  ·have k1 : i < l.length := by have := Zah hc; simp at this; omega
   rw [Zby rfl k1, Zb8 _ hi]
   exact ⟨tle (by omega), teq (by simp), Zak (ih _ (List.getElem_mem k1)) ⟨_, rfl, rfl, teq (by simp), Zf4 _, tle (by simp only [List.length_singleton]; omega), tle (by simp only [List.length_singleton]; omega), tle (by omega), tle (by omega), ⟨i + 1, rfl, k1, Zaw (fun a => encE (mpE true false a)) k1⟩, dec k1⟩⟩
  ·have k1 : l.length <= i := by have := Zai hc; simp at this; omega
   rw [Zb7 _ k1]
   exact ⟨rfl, _, rfl, .same _⟩
theorem c78s (l : List Nd) (hl : l.length <= 2 ^ 30) (hlm : ∀ x ∈ l, Shr x) (ih : ∀ x ∈ l, Holds Tryz.prog 107 [slA (Zbp x.subs), .fn 79 [], .fn 80 []] [] (Ret (slA (Zbp (mpEs true false x.subs)))) /\ Holds Tryz.prog 78 [slA (Zar x.decls), .fn 79 [], .fn 80 []] [] (Ret (slA (Zar (mpDs true false x.decls))))) :
 Holds Tryz.prog 78 [slA (Zar l), .fn 79 [], .fn 80 []] [] (Ret (slA (Zar (mpDs true false l)))) := by
 rw [Ziq]
 refine Holds.ofD (w78s (Zar l) ⟨True, l.length + 1, fun es x => ∃ i : Nat, x = i /\ i <= l.length /\ es = (l.map fun a => encD (mpD true false a)).take i, fun _ x => l.length - x.toNat, trivial, fun _ => ⟨fun hc => ?_, fun hc => ?_⟩, ?_, trivial⟩)
 ·have k1 : 0 < l.length := by have := Zah hc; simp at this; omega
  have g := Ze7 (x := (0 : Int)) rfl k1
  rw [g]
  have hx := List.getElem_mem k1
  have L := hlm _ hx
  have ihx := ih _ hx
  have T := Zaw (fun a => encD (mpD true false a)) k1
  generalize l[0] = a at L ihx T
  refine ⟨teq (by simp), Zak (c80 a) ⟨_, rfl, rfl, teq (by simp), ?_⟩⟩
  simp only [Zay, d0, d1, d2, d3, d4, d5, d6, d7, d8, d9, d10, isK_int, isK_str, isK_slc, Zav, Za3, Zam, true_and, Zk7]
  refine Zak ihx.1 ⟨_, rfl, rfl, Zak ihx.2 ⟨_, rfl, rfl, _, fun _ => c69 _ (Nat.le_trans (Zft _ _) L.2.2.2), _, fun _ => c69 _ (Nat.le_trans (Zft _ _) L.2.2.1), tle (by simp), tle (by simp), ⟨1, rfl, k1, ?_⟩, ?_⟩⟩
  ·rw [<- Zj8]; simpa using T
  ·simp; omega
 ·have k1 : l = [] := List.length_eq_zero_iff.1 (by have := Zai hc; simp at this; simpa using this)
  subst k1; exact ⟨rfl, _, rfl, .zs _⟩
 ·rintro es x ⟨i, rfl, hi, rfl⟩
  refine ⟨fun hc => ?_, fun hc => ?_⟩
  ·have k1 : i < l.length := by have := Zah hc; simp at this; omega
   rw [Ze7 rfl k1, Zb8 _ hi]
   have hx := List.getElem_mem k1
   have L := hlm _ hx
   have ihx := ih _ hx
   have T := Zaw (fun a => encD (mpD true false a)) k1
   generalize l[i] = a at L ihx T
   refine ⟨tle (by omega), teq (by simp), Zak (c80 a) ⟨_, rfl, rfl, teq (by simp), ?_⟩⟩
   simp only [Zay, d0, d1, d2, d3, d4, d5, d6, d7, d8, d9, d10, isK_int, isK_str, isK_slc, Zav, Za3, Zam, true_and, Zk7]
   refine Zak ihx.1 ⟨_, rfl, rfl, Zak ihx.2 ⟨_, rfl, rfl, _, fun _ => c69 _ (Nat.le_trans (Zft _ _) L.2.2.2), _, fun _ => c69 _ (Nat.le_trans (Zft _ _) L.2.2.1), tle (by simp only [List.length_singleton]; omega), tle (by simp only [List.length_singleton]; omega), tle (by omega), tle (by omega), ⟨i + 1, rfl, k1, ?_⟩, dec k1⟩⟩
   rw [<- Zj8]; exact T
  ·have k1 : l.length <= i := by have := Zai hc; simp at this; omega
   rw [Zb7 _ k1]
   exact ⟨rfl, _, rfl, .same _⟩
theorem c74s : ∀ r : Nd, All Shr r -> Holds Tryz.prog 74 [.agg (encE r), .fn 79 [], .fn 80 []] [] (Ret (.agg (encE (mpE true false r)))) /\ Holds Tryz.prog 107 [slA (Zbp r.subs), .fn 79 [], .fn 80 []] [] (Ret (slA (Zbp (mpEs true false r.subs)))) /\ Holds Tryz.prog 78 [slA (Zar r.decls), .fn 79 [], .fn 80 []] [] (Ret (slA (Zar (mpDs true false r.decls)))) := by
 refine Zdi fun r hs hd hb => ?_
 have L := hb.here
 have ihs := Z3a r.subs L.1 fun x hx => (hs x hx (hb.sub hx)).1
 have ihd := c78s r.decls L.2.1 (fun x hx => (hb.dec hx).here) fun x hx => (hd x hx (hb.dec hx)).2
 refine ⟨?_, ihs, ihd⟩
 refine w74s (encE r) ⟨teq (by simp), Zak (c79 r) ⟨_, rfl, rfl, teq (by simp), ?_⟩⟩
 simp only [Zbq, e0, e1, e2, e3, e4, e5, e6, e7, e8, isK_int, isK_str, isK_slc, Zav, Za3, Zam, true_and, Zk7]
 exact Zak ihs ⟨_, rfl, rfl, Zak ihd ⟨_, rfl, rfl, Zak (c69 _ (Nat.le_trans (Zft _ _) L.2.2.1)) ⟨_, rfl, rfl, by rw [Zpn], rfl⟩⟩⟩
theorem Z3b (l : List Nd) (hl : l.length <= 2 ^ 30) (h : ∀ x ∈ l, All Shr x) : Holds Tryz.prog 78 [slA (Zar l), .fn 79 [], .fn 80 []] [] (Ret (slA (Zar (mpDs true false l)))) :=
 c78s l hl (fun x hx => (h x hx).here) fun x hx => (c74s x (h x hx)).2
theorem Z3c (l : List Nd) (hl : l.length <= 2 ^ 30) (ih : ∀ x ∈ l, Holds Tryz.prog 74 [.agg (encE x), .fn 82 [], .fn 83 []] [] (Ret (.agg (encE (mpE false true x))))) :
 Holds Tryz.prog 107 [slA (Zbp l), .fn 82 [], .fn 83 []] [] (Ret (slA (Zbp (mpEs false true l)))) := by
 rw [Zeb]
 refine Holds.ofD (Z2s (Zbp l) ⟨True, l.length + 1, fun es x => ∃ i : Nat, x = i /\ i <= l.length /\ es = (l.map fun a => encE (mpE false true a)).take i, fun _ x => l.length - x.toNat, trivial, fun _ => ⟨fun hc => ?_, fun hc => ?_⟩, ?_, trivial⟩)
 ·have k1 : 0 < l.length := by have := Zah hc; simp at this; omega
  have g := Zby (x := (0 : Int)) rfl k1
  rw [g]
  refine ⟨teq (by simp), Zak (ih _ (List.getElem_mem k1)) ⟨_, rfl, rfl, teq (by simp), Zf4 _, tle (by simp), tle (by simp), ⟨1, rfl, k1, ?_⟩, ?_⟩⟩
  ·have := Zaw (fun a => encE (mpE false true a)) k1; simpa using this
  ·simp; omega
 ·have k1 : l = [] := List.length_eq_zero_iff.1 (by have := Zai hc; simp at this; simpa using this)
  subst k1; exact ⟨rfl, _, rfl, .zs _⟩
 ·rintro es x ⟨i, rfl, hi, rfl⟩
  refine ⟨fun hc => ?_, fun hc => ?_⟩
  ·have k1 : i < l.length := by have := Zah hc; simp at this; omega
   rw [Zby rfl k1, Zb8 _ hi]
   exact ⟨tle (by omega), teq (by simp), Zak (ih _ (List.getElem_mem k1)) ⟨_, rfl, rfl, teq (by simp), Zf4 _, tle (by simp only [List.length_singleton]; omega), tle (by simp only [List.length_singleton]; omega), tle (by omega), tle (by omega), ⟨i + 1, rfl, k1, Zaw (fun a => encE (mpE false true a)) k1⟩, dec k1⟩⟩
  ·have k1 : l.length <= i := by have := Zai hc; simp at this; omega
   rw [Zb7 _ k1]
   exact ⟨rfl, _, rfl, .same _⟩
theorem c78p (l : List Nd) (hl : l.length <= 2 ^ 30) (hlm : ∀ x ∈ l, Shr x) (ih : ∀ x ∈ l, Holds Tryz.prog 107 [slA (Zbp x.subs), .fn 82 [], .fn 83 []] [] (Ret (slA (Zbp (mpEs false true x.subs)))) /\ Holds Tryz.prog 78 [slA (Zar x.decls), .fn 82 [], .fn 83 []] [] (Ret (slA (Zar (mpDs false true x.decls))))) :
 Holds Tryz.prog 78 [slA (Zar l), .fn 82 [], .fn 83 []] [] (Ret (slA (Zar (mpDs false true l)))) := by
 rw [Ziq]
 refine Holds.ofD (w78p (Zar l) ⟨True, l.length + 1, fun es x => ∃ i : Nat, x = i /\ i <= l.length /\ es = (l.map fun a => encD (mpD false true a)).take i, fun _ x => l.length - x.toNat, trivial, fun _ => ⟨fun hc => ?_, fun hc => ?_⟩, ?_, trivial⟩)
 ·have k1 : 0 < l.length := by have := Zah hc; simp at this; omega
  have g := Ze7 (x := (0 : Int)) rfl k1
  rw [g]
  have hx := List.getElem_mem k1
  have L := hlm _ hx
  have ihx := ih _ hx
  have T := Zaw (fun a => encD (mpD false true a)) k1
  generalize l[0] = a at L ihx T
  refine ⟨teq (by simp), Zak (c83 a) ⟨_, rfl, rfl, teq (by simp), ?_⟩⟩
  simp only [Zay, d0, d1, d2, d3, d4, d5, d6, d7, d8, d9, d10, isK_int, isK_str, isK_slc, Zav, Za3, Zam, true_and, Zk7]
  refine Zak ihx.1 ⟨_, rfl, rfl, Zak ihx.2 ⟨_, rfl, rfl, _, fun _ => c69 _ (Nat.le_trans (Zft _ _) L.2.2.2), _, fun _ => c69 _ (Nat.le_trans (Zft _ _) L.2.2.1), tle (by simp), tle (by simp), ⟨1, rfl, k1, ?_⟩, ?_⟩⟩
  ·rw [<- Zj8]; simpa using T
  ·simp; omega
 ·have k1 : l = [] := List.length_eq_zero_iff.1 (by have := Zai hc; simp at this; simpa using this)
  subst k1; exact ⟨rfl, _, rfl, .zs _⟩
 ·rintro es x ⟨i, rfl, hi, rfl⟩
  refine ⟨fun hc => ?_, fun hc => ?_⟩
  ·have k1 : i < l.length := by have := Zah hc; simp at this; omega
   rw [Ze7 rfl k1, Zb8 _ hi]
   have hx := List.getElem_mem k1
   have L := hlm _ hx
   have ihx := ih _ hx
   have T := Zaw (fun a => encD (mpD false true a)) k1
   generalize l[i] = a at L ihx T
   refine ⟨tle (by omega), teq (by simp), Zak (c83 a) ⟨_, rfl, rfl, teq (by simp), ?_⟩⟩
   simp only [Zay, d0, d1, d2, d3, d4, d5, d6, d7, d8, d9, d10, isK_int, isK_str, isK_slc, Zav, Za3, Zam, true_and, Zk7]
   refine Zak ihx.1 ⟨_, rfl, rfl, Zak ihx.2 ⟨_, rfl, rfl, _, fun _ => c69 _ (Nat.le_trans (Zft _ _) L.2.2.2), _, fun _ => c69 _ (Nat.le_trans (Zft _ _) L.2.2.1), tle (by simp only [List.length_singleton]; omega), tle (by simp only [List.length_singleton]; omega), tle (by omega), tle (by omega), ⟨i + 1, rfl, k1, ?_⟩, dec k1⟩⟩
   rw [<- Zj8]; exact T
  ·have k1 : l.length <= i := by have := Zai hc; simp at this; omega
   rw [Zb7 _ k1]
   exact ⟨rfl, _, rfl, .same _⟩
theorem c74p : ∀ r : Nd, All Shr r -> Holds Tryz.prog 74 [.agg (encE r), .fn 82 [], .fn 83 []] [] (Ret (.agg (encE (mpE false true r)))) /\ Holds Tryz.prog 107 [slA (Zbp r.subs), .fn 82 [], .fn 83 []] [] (Ret (slA (Zbp (mpEs false true r.subs)))) /\ Holds Tryz.prog 78 [slA (Zar r.decls), .fn 82 [], .fn 83 []] [] (Ret (slA (Zar (mpDs false true r.decls)))) := by
 refine Zdi fun r hs hd hb => ?_
 have L := hb.here
 have ihs := Z3c r.subs L.1 fun x hx => (hs x hx (hb.sub hx)).1
 have ihd := c78p r.decls L.2.1 (fun x hx => (hb.dec hx).here) fun x hx => (hd x hx (hb.dec hx)).2
 refine ⟨?_, ihs, ihd⟩
 refine w74p (encE r) ⟨teq (by simp), Zak (c82 r) ⟨_, rfl, rfl, teq (by simp), ?_⟩⟩
 simp only [Zbq, e0, e1, e2, e3, e4, e5, e6, e7, e8, isK_int, isK_str, isK_slc, Zav, Za3, Zam, true_and, Zk7]
 exact Zak ihs ⟨_, rfl, rfl, Zak ihd ⟨_, rfl, rfl, Zak (c69 _ (Nat.le_trans (Zft _ _) L.2.2.1)) ⟨_, rfl, rfl, by rw [Zpn], rfl⟩⟩⟩
theorem Z3d (l : List Nd) (hl : l.length <= 2 ^ 30) (h : ∀ x ∈ l, All Shr x) : Holds Tryz.prog 78 [slA (Zar l), .fn 82 [], .fn 83 []] [] (Ret (slA (Zar (mpDs false true l)))) :=
 c78p l hl (fun x hx => (h x hx).here) fun x hx => (c74p x (h x hx)).2
theorem c37 (r : Nd) (h : All Shr r) : Holds Tryz.prog 37 [.agg (encE r)] [] (Ret (.agg (encE (mpE true false r)))) := w37 _ ⟨teq (by simp), Zak (c74s r h).1 ⟨_, rfl, rfl, teq (by simp), rfl, rfl⟩⟩
def ShrF (f : Fl) : Prop := f.imps.length <= 2 ^ 30 /\ f.decls.length <= 2 ^ 30 /\ f.tail.length <= 2 ^ 30 /\ ∀ x ∈ f.decls, All Shr x
def stI (i : Im) : Im := ⟨i.name, i.path, 0⟩
def Zif (f : Fl) : Fl := ⟨f.pkg, f.imps.map stI, mpDs true false f.decls, f.tail⟩
def Zq3 (f : Fl) : Fl := ⟨f.pkg, f.imps, mpDs false true f.decls, []⟩
theorem c29 (f : Fl) (h : ShrF f) : Holds Tryz.prog 29 [.agg (Zdf f)] [] (Ret (.agg (Zdf (Zq3 f)))) := by
 refine w29 _ ?_
 simp only [Zbl, f0, f1, f2, f3, isK_str, isK_slc, Za3, Zam, true_and]
 exact ⟨teq rfl, _, fun _ => c81 f.imps h.1, Zak (Z3d f.decls h.2.1 h.2.2.2) ⟨_, rfl, rfl, rfl, rfl⟩⟩
theorem c28 (f : Fl) (h : ShrF f) : Holds Tryz.prog 28 [.agg (Zdf f)] [] (Ret (.agg (Zdf (Zif f)))) := by
 refine w28 _ ?_
 simp only [Zbl, f0, f1, f2, f3, isK_str, isK_slc, Za3, Zam, true_and, Zct]
 have E : Zdf (Zif f) = [dS f.pkg, .slc (f.imps.map fun a => encI (stI a)), .slc (Zar (mpDs true false f.decls)), .slc (txs f.tail)] := by
  show encF _ _ _ _ = _
  unfold encF Zif Zhy; simp only [List.map_map]; rfl
 refine ⟨teq rfl, _, fun _ => Z3b f.decls h.2.1 h.2.2.2, _, fun _ => c69 f.tail h.2.2.1, True, f.imps.length + 1, fun x es => ∃ i : Nat, x = i /\ i <= f.imps.length /\ es = (f.imps.map fun a => encI (stI a)).take i, fun x _ => f.imps.length - x.toNat, trivial, fun _ => ⟨fun hc => ?_, fun hc => ?_⟩, ?_, trivial⟩
 ·have k1 : 0 < f.imps.length := by have := Zah hc; omega
  have g := Zl4 (x := (0 : Int)) rfl k1
  have T := Zaw (fun a => encI (stI a)) k1
  simp only [g, Zcq, i0, i1, i2]
  refine ⟨teq rfl, tle (by simp), tle (by simp), ⟨1, rfl, k1, T⟩, ?_⟩
  ·simp; omega
 ·have k1 : f.imps = [] := List.length_eq_zero_iff.1 (by have := Zai hc; omega)
  refine ⟨?_, rfl⟩
  rw [E, k1]; rfl
 ·rintro x es ⟨i, rfl, hi, rfl⟩
  refine ⟨fun hc => ?_, fun hc => ?_⟩
  ·have k1 : i < f.imps.length := by have := Zah hc; omega
   have g := Zl4 (x := (i : Int)) rfl k1
   have T := Zaw (fun a => encI (stI a)) k1
   have L := h.1
   simp only [g, Zcq, i0, i1, i2, Zb8 (fun a => encI (stI a)) hi]
   exact ⟨tle (by omega), teq rfl, tle (by simp only [List.length_singleton]; omega), tle (by simp only [List.length_singleton]; omega), tle (by omega), tle (by omega), ⟨i + 1, rfl, k1, T⟩, dec k1⟩
  ·have k1 : f.imps.length <= i := by have := Zai hc; omega
   rw [Zb7 _ k1]
   exact ⟨by rw [E], rfl⟩
end Go.Sy
end
section
open Go Go.Proofs Go.Ab Go.Rf
set_option linter.unusedSimpArgs false
set_option maxRecDepth 100000
namespace Go.Sy
theorem Zn0 (p c : Bool) (a : Nd) {es : List (List D)} (h : es = Zbp (mpEs p c a.subs)) : encD (mpD p c a) = [dI a.kind, dI a.num, dS a.text, dS a.n0, dS a.n1, .slc es, .slc (Zar (mpDs p c a.decls)), .slc (txs (tl c a.tail)), .slc (txs (tl c a.lead)), dS (tl c a.trail), dI (ps p a.pos)] := by rw [Zj8, h]
theorem Zw7 (p c : Bool) (a : Nd) {es : List (List D)} (h : es = Zbp (mpEs p c a.subs)) : encE (mpE p c a) = [dI a.kind, dS a.text, dI a.num, dS a.n0, dS a.n1, .slc es, .slc (Zar (mpDs p c a.decls)), .slc (txs (tl c a.tail)), dI (ps p a.pos)] := by rw [Zpn, h]
abbrev R90s (e : Nd) : Prop := Holds Tryz.prog 90 [.agg (encE e), Zbm true, Zbm false] [] (Ret (.agg (encE (mpE true false e))))
abbrev R88s (l : List Nd) : Prop := Holds Tryz.prog 88 [slA (Zar l), Zbm true, Zbm false] [] (Ret (slA (Zar (mpDs true false l))))
theorem c88s (l : List Nd) (hl : l.length <= 2 ^ 30) (hlm : ∀ x ∈ l, Shr x) (ih : ∀ x ∈ l, R88s x.decls /\ ∀ e ∈ x.subs, R90s e) : R88s l := by
 unfold R88s
 rw [Ziq]
 refine Holds.ofD (w88s (Zar l) ⟨True, l.length + 1, fun es x => ∃ i : Nat, x = i /\ i <= l.length /\ es = (l.map fun a => encD (mpD true false a)).take i, fun _ x => l.length - x.toNat, trivial, fun _ => ⟨fun hc => ?_, fun hc => ?_⟩, ?_, trivial⟩)
 ·have k1 : 0 < l.length := by have := Zah hc; simp at this; omega
  have g := Ze7 (x := (0 : Int)) rfl k1
  rw [g]
  have hx := List.getElem_mem k1
  have L := hlm _ hx
  have ihx := ih _ hx
  have T := Zaw (fun a => encD (mpD true false a)) k1
  generalize l[0] = a at L ihx T
  simp only [Zay, d0, d1, d2, d3, d4, d5, d6, d7, d8, d9, d10, isK_int, isK_str, isK_slc, Zav, Za3, Zam, true_and, Zao, Zaq, Zae, Zau]
  have L3 := L.2.2.1
  have L4 := L.2.2.2
  refine ⟨teq rfl, tle (by omega), tle (by omega), tle (by omega), tle (by omega), True, a.subs.length + 1, fun x es => ∃ j : Nat, x = j /\ j <= a.subs.length /\ es = (a.subs.map fun e => encE (mpE true false e)).take j, fun x _ => a.subs.length - x.toNat, trivial, fun _ => ⟨fun hc => ?_, fun hc => ?_⟩, ?_, trivial⟩
  ·have j1 : 0 < a.subs.length := by have := Zah hc; omega
   have g := Zby (x := (0 : Int)) rfl j1
   rw [g]
   exact ⟨teq (by simp), Zak (ihx.2 _ (List.getElem_mem j1)) ⟨_, rfl, rfl, teq (by simp), Zf4 _, tle (by simp), tle (by simp), ⟨1, rfl, j1, Zaw (fun e => encE (mpE true false e)) j1⟩, by simp; omega⟩⟩
  ·have j1 : a.subs = [] := List.length_eq_zero_iff.1 (by have := Zai hc; omega)
   have hes : ([] : List (List D)) = Zbp (mpEs true false a.subs) := by rw [j1]; rfl
   refine Zak ihx.1 ⟨_, rfl, rfl, tle (by simp), tle (by simp), ⟨1, rfl, k1, ?_⟩, by simp; omega⟩
   exact (congrArg (fun r => [r]) (Zn0 true false a hes).symm).trans T
  ·rintro x es ⟨j, rfl, hj, rfl⟩
   refine ⟨fun hc => ?_, fun hc => ?_⟩
   ·have j1 : j < a.subs.length := by have := Zah hc; omega
    rw [Zby rfl j1, Zb8 _ hj]
    have := L.1
    exact ⟨tle (by omega), teq (by simp), Zak (ihx.2 _ (List.getElem_mem j1)) ⟨_, rfl, rfl, teq (by simp), Zf4 _, tle (by simp only [List.length_singleton]; omega), tle (by simp only [List.length_singleton]; omega), tle (by omega), tle (by omega), ⟨j + 1, rfl, j1, Zaw (fun e => encE (mpE true false e)) j1⟩, dec j1⟩⟩
   ·have j1 : a.subs.length <= j := by have := Zai hc; omega
    rw [Zb7 _ j1]
    have hes : (a.subs.map fun e => encE (mpE true false e)) = Zbp (mpEs true false a.subs) := (Zeb _ _ _).symm
    refine Zak ihx.1 ⟨_, rfl, rfl, tle (by simp), tle (by simp), ⟨1, rfl, k1, ?_⟩, by simp; omega⟩
    exact (congrArg (fun r => [r]) (Zn0 true false a hes).symm).trans T
 ·have k1 : l = [] := List.length_eq_zero_iff.1 (by have := Zai hc; simp at this; simpa using this)
  subst k1; exact ⟨rfl, _, rfl, .zs _⟩
 ·rintro es x ⟨i, rfl, hi, rfl⟩
  refine ⟨fun hc => ?_, fun hc => ?_⟩
  ·have k1 : i < l.length := by have := Zah hc; simp at this; omega
   rw [Ze7 rfl k1]
   have hx := List.getElem_mem k1
   have L := hlm _ hx
   have ihx := ih _ hx
   have T := Zaw (fun a => encD (mpD true false a)) k1
   have hlen := Zb8 (fun a => encD (mpD true false a)) hi
   generalize l[i] = a at L ihx T
   simp only [Zay, d0, d1, d2, d3, d4, d5, d6, d7, d8, d9, d10, isK_int, isK_str, isK_slc, Zav, Za3, Zam, true_and, Zao, Zaq, Zae, Zau, hlen]
   have L3 := L.2.2.1
   have L4 := L.2.2.2
   refine ⟨tle (by omega), teq rfl, tle (by omega), tle (by omega), tle (by omega), tle (by omega), True, a.subs.length + 1, fun x es => ∃ j : Nat, x = j /\ j <= a.subs.length /\ es = (a.subs.map fun e => encE (mpE true false e)).take j, fun x _ => a.subs.length - x.toNat, trivial, fun _ => ⟨fun hc => ?_, fun hc => ?_⟩, ?_, trivial⟩
   ·have j1 : 0 < a.subs.length := by have := Zah hc; omega
    have g := Zby (x := (0 : Int)) rfl j1
    rw [g]
    exact ⟨teq (by simp), Zak (ihx.2 _ (List.getElem_mem j1)) ⟨_, rfl, rfl, teq (by simp), Zf4 _, tle (by simp), tle (by simp), ⟨1, rfl, j1, Zaw (fun e => encE (mpE true false e)) j1⟩, by simp; omega⟩⟩
   ·have j1 : a.subs = [] := List.length_eq_zero_iff.1 (by have := Zai hc; omega)
    have hes : ([] : List (List D)) = Zbp (mpEs true false a.subs) := by rw [j1]; rfl
    refine Zak ihx.1 ⟨_, rfl, rfl, tle (by simp only [List.length_singleton]; omega), tle (by simp only [List.length_singleton]; omega), tle (by omega), tle (by omega), ⟨i + 1, rfl, k1, ?_⟩, dec k1⟩
    exact (congrArg (fun r => _ ++ [r]) (Zn0 true false a hes).symm).trans T
   ·rintro x es ⟨j, rfl, hj, rfl⟩
    refine ⟨fun hc => ?_, fun hc => ?_⟩
    ·have j1 : j < a.subs.length := by have := Zah hc; omega
     rw [Zby rfl j1, Zb8 _ hj]
     have := L.1
     exact ⟨tle (by omega), teq (by simp), Zak (ihx.2 _ (List.getElem_mem j1)) ⟨_, rfl, rfl, teq (by simp), Zf4 _, tle (by simp only [List.length_singleton]; omega), tle (by simp only [List.length_singleton]; omega), tle (by omega), tle (by omega), ⟨j + 1, rfl, j1, Zaw (fun e => encE (mpE true false e)) j1⟩, dec j1⟩⟩
    ·have j1 : a.subs.length <= j := by have := Zai hc; omega
     rw [Zb7 _ j1]
     have hes : (a.subs.map fun e => encE (mpE true false e)) = Zbp (mpEs true false a.subs) := (Zeb _ _ _).symm
     refine Zak ihx.1 ⟨_, rfl, rfl, tle (by simp only [List.length_singleton]; omega), tle (by simp only [List.length_singleton]; omega), tle (by omega), tle (by omega), ⟨i + 1, rfl, k1, ?_⟩, dec k1⟩
     exact (congrArg (fun r => _ ++ [r]) (Zn0 true false a hes).symm).trans T
  ·have k1 : l.length <= i := by have := Zai hc; simp at this; omega
   rw [Zb7 _ k1]
   exact ⟨rfl, _, rfl, .same _⟩
theorem c90s : ∀ r : Nd, All Shr r -> R90s r /\ R88s r.decls /\ ∀ e ∈ r.subs, R90s e := by
 refine Zdi fun a hs hd hb => ?_
 have L := hb.here
 have ihs : ∀ e ∈ a.subs, R90s e := fun x hx => (hs x hx (hb.sub hx)).1
 have ihd := c88s a.decls L.2.1 (fun x hx => (hb.dec hx).here) fun x hx => (hd x hx (hb.dec hx)).2
 refine ⟨?_, ihd, ihs⟩
 have ihx : R88s a.decls /\ ∀ e ∈ a.subs, R90s e := ⟨ihd, ihs⟩
 refine w90s (encE a) ?_
 simp only [Zbq, e0, e1, e2, e3, e4, e5, e6, e7, e8, isK_int, isK_str, isK_slc, Zav, Za3, Zam, true_and, Zao, Zaq, Zae, Zau]
 have L3 := L.2.2.1
 refine ⟨teq rfl, tle (by omega), tle (by omega), True, a.subs.length + 1, fun x es => ∃ j : Nat, x = j /\ j <= a.subs.length /\ es = (a.subs.map fun e => encE (mpE true false e)).take j, fun x _ => a.subs.length - x.toNat, trivial, fun _ => ⟨fun hc => ?_, fun hc => ?_⟩, ?_, trivial⟩
 ·have j1 : 0 < a.subs.length := by have := Zah hc; omega
  have g := Zby (x := (0 : Int)) rfl j1
  rw [g]
  exact ⟨teq (by simp), Zak (ihx.2 _ (List.getElem_mem j1)) ⟨_, rfl, rfl, teq (by simp), Zf4 _, tle (by simp), tle (by simp), ⟨1, rfl, j1, Zaw (fun e => encE (mpE true false e)) j1⟩, by simp; omega⟩⟩
 ·have j1 : a.subs = [] := List.length_eq_zero_iff.1 (by have := Zai hc; omega)
  have hes : ([] : List (List D)) = Zbp (mpEs true false a.subs) := by rw [j1]; rfl
  exact Zak ihx.1 ⟨_, rfl, rfl, congrArg (fun r => Out.ret (A.agg r)) (Zw7 true false a hes).symm, rfl⟩
 ·rintro x es ⟨j, rfl, hj, rfl⟩
  refine ⟨fun hc => ?_, fun hc => ?_⟩
  ·have j1 : j < a.subs.length := by have := Zah hc; omega
   rw [Zby rfl j1, Zb8 _ hj]
   have := L.1
   exact ⟨tle (by omega), teq (by simp), Zak (ihx.2 _ (List.getElem_mem j1)) ⟨_, rfl, rfl, teq (by simp), Zf4 _, tle (by simp only [List.length_singleton]; omega), tle (by simp only [List.length_singleton]; omega), tle (by omega), tle (by omega), ⟨j + 1, rfl, j1, Zaw (fun e => encE (mpE true false e)) j1⟩, dec j1⟩⟩
  ·have j1 : a.subs.length <= j := by have := Zai hc; omega
   rw [Zb7 _ j1]
   have hes : (a.subs.map fun e => encE (mpE true false e)) = Zbp (mpEs true false a.subs) := (Zeb _ _ _).symm
   exact Zak ihx.1 ⟨_, rfl, rfl, congrArg (fun r => Out.ret (A.agg r)) (Zw7 true false a hes).symm, rfl⟩
theorem Z3e (l : List Nd) (hl : l.length <= 2 ^ 30) (h : ∀ x ∈ l, All Shr x) : R88s l := c88s l hl (fun x hx => (h x hx).here) fun x hx => (c90s x (h x hx)).2
abbrev R90p (e : Nd) : Prop := Holds Tryz.prog 90 [.agg (encE e), Zbm false, Zbm true] [] (Ret (.agg (encE (mpE false true e))))
abbrev R88p (l : List Nd) : Prop := Holds Tryz.prog 88 [slA (Zar l), Zbm false, Zbm true] [] (Ret (slA (Zar (mpDs false true l))))
theorem c88p (l : List Nd) (hl : l.length <= 2 ^ 30) (hlm : ∀ x ∈ l, Shr x) (ih : ∀ x ∈ l, R88p x.decls /\ ∀ e ∈ x.subs, R90p e) : R88p l := by
 unfold R88p
 rw [Ziq]
 refine Holds.ofD (w88p (Zar l) ⟨True, l.length + 1, fun es x => ∃ i : Nat, x = i /\ i <= l.length /\ es = (l.map fun a => encD (mpD false true a)).take i, fun _ x => l.length - x.toNat, trivial, fun _ => ⟨fun hc => ?_, fun hc => ?_⟩, ?_, trivial⟩)
 ·have k1 : 0 < l.length := by have := Zah hc; simp at this; omega
  have g := Ze7 (x := (0 : Int)) rfl k1
  rw [g]
  have hx := List.getElem_mem k1
  have L := hlm _ hx
  have ihx := ih _ hx
  have T := Zaw (fun a => encD (mpD false true a)) k1
  generalize l[0] = a at L ihx T
  simp only [Zay, d0, d1, d2, d3, d4, d5, d6, d7, d8, d9, d10, isK_int, isK_str, isK_slc, Zav, Za3, Zam, true_and, Zao, Zaq, Zae, Zau]
  have L3 := L.2.2.1
  have L4 := L.2.2.2
  refine ⟨teq rfl, tle (by omega), tle (by omega), tle (by omega), tle (by omega), True, a.subs.length + 1, fun x es => ∃ j : Nat, x = j /\ j <= a.subs.length /\ es = (a.subs.map fun e => encE (mpE false true e)).take j, fun x _ => a.subs.length - x.toNat, trivial, fun _ => ⟨fun hc => ?_, fun hc => ?_⟩, ?_, trivial⟩
  ·have j1 : 0 < a.subs.length := by have := Zah hc; omega
   have g := Zby (x := (0 : Int)) rfl j1
   rw [g]
   exact ⟨teq (by simp), Zak (ihx.2 _ (List.getElem_mem j1)) ⟨_, rfl, rfl, teq (by simp), Zf4 _, tle (by simp), tle (by simp), ⟨1, rfl, j1, Zaw (fun e => encE (mpE false true e)) j1⟩, by simp; omega⟩⟩
  ·have j1 : a.subs = [] := List.length_eq_zero_iff.1 (by have := Zai hc; omega)
   have hes : ([] : List (List D)) = Zbp (mpEs false true a.subs) := by rw [j1]; rfl
   refine Zak ihx.1 ⟨_, rfl, rfl, tle (by simp), tle (by simp), ⟨1, rfl, k1, ?_⟩, by simp; omega⟩
   exact (congrArg (fun r => [r]) (Zn0 false true a hes).symm).trans T
  ·rintro x es ⟨j, rfl, hj, rfl⟩
   refine ⟨fun hc => ?_, fun hc => ?_⟩
   ·have j1 : j < a.subs.length := by have := Zah hc; omega
    rw [Zby rfl j1, Zb8 _ hj]
    have := L.1
    exact ⟨tle (by omega), teq (by simp), Zak (ihx.2 _ (List.getElem_mem j1)) ⟨_, rfl, rfl, teq (by simp), Zf4 _, tle (by simp only [List.length_singleton]; omega), tle (by simp only [List.length_singleton]; omega), tle (by omega), tle (by omega), ⟨j + 1, rfl, j1, Zaw (fun e => encE (mpE false true e)) j1⟩, dec j1⟩⟩
   ·have j1 : a.subs.length <= j := by have := Zai hc; omega
    rw [Zb7 _ j1]
    have hes : (a.subs.map fun e => encE (mpE false true e)) = Zbp (mpEs false true a.subs) := (Zeb _ _ _).symm
    refine Zak ihx.1 ⟨_, rfl, rfl, tle (by simp), tle (by simp), ⟨1, rfl, k1, ?_⟩, by simp; omega⟩
    exact (congrArg (fun r => [r]) (Zn0 false true a hes).symm).trans T
 ·have k1 : l = [] := List.length_eq_zero_iff.1 (by have := Zai hc; simp at this; simpa using this)
  subst k1; exact ⟨rfl, _, rfl, .zs _⟩
 ·rintro es x ⟨i, rfl, hi, rfl⟩
  refine ⟨fun hc => ?_, fun hc => ?_⟩
  ·have k1 : i < l.length := by have := Zah hc; simp at this; omega
   rw [Ze7 rfl k1]
   have hx := List.getElem_mem k1
   have L := hlm _ hx
   have ihx := ih _ hx
   have T := Zaw (fun a => encD (mpD false true a)) k1
   have hlen := Zb8 (fun a => encD (mpD false true a)) hi
   generalize l[i] = a at L ihx T
   simp only [Zay, d0, d1, d2, d3, d4, d5, d6, d7, d8, d9, d10, isK_int, isK_str, isK_slc, Zav, Za3, Zam, true_and, Zao, Zaq, Zae, Zau, hlen]
   have L3 := L.2.2.1
   have L4 := L.2.2.2
   refine ⟨tle (by omega), teq rfl, tle (by omega), tle (by omega), tle (by omega), tle (by omega), True, a.subs.length + 1, fun x es => ∃ j : Nat, x = j /\ j <= a.subs.length /\ es = (a.subs.map fun e => encE (mpE false true e)).take j, fun x _ => a.subs.length - x.toNat, trivial, fun _ => ⟨fun hc => ?_, fun hc => ?_⟩, ?_, trivial⟩
   ·have j1 : 0 < a.subs.length := by have := Zah hc; omega
    have g := Zby (x := (0 : Int)) rfl j1
    rw [g]
    exact ⟨teq (by simp), Zak (ihx.2 _ (List.getElem_mem j1)) ⟨_, rfl, rfl, teq (by simp), Zf4 _, tle (by simp), tle (by simp), ⟨1, rfl, j1, Zaw (fun e => encE (mpE false true e)) j1⟩, by simp; omega⟩⟩
   ·have j1 : a.subs = [] := List.length_eq_zero_iff.1 (by have := Zai hc; omega)
    have hes : ([] : List (List D)) = Zbp (mpEs false true a.subs) := by rw [j1]; rfl
    refine Zak ihx.1 ⟨_, rfl, rfl, tle (by simp only [List.length_singleton]; omega), tle (by simp only [List.length_singleton]; omega), tle (by omega), tle (by omega), ⟨i + 1, rfl, k1, ?_⟩, dec k1⟩
    exact (congrArg (fun r => _ ++ [r]) (Zn0 false true a hes).symm).trans T
   ·rintro x es ⟨j, rfl, hj, rfl⟩
    refine ⟨fun hc => ?_, fun hc => ?_⟩
    ·have j1 : j < a.subs.length := by have := Zah hc; omega
     rw [Zby rfl j1, Zb8 _ hj]
     have := L.1
     exact ⟨tle (by omega), teq (by simp), Zak (ihx.2 _ (List.getElem_mem j1)) ⟨_, rfl, rfl, teq (by simp), Zf4 _, tle (by simp only [List.length_singleton]; omega), tle (by simp only [List.length_singleton]; omega), tle (by omega), tle (by omega), ⟨j + 1, rfl, j1, Zaw (fun e => encE (mpE false true e)) j1⟩, dec j1⟩⟩
    ·have j1 : a.subs.length <= j := by have := Zai hc; omega
     rw [Zb7 _ j1]
     have hes : (a.subs.map fun e => encE (mpE false true e)) = Zbp (mpEs false true a.subs) := (Zeb _ _ _).symm
     refine Zak ihx.1 ⟨_, rfl, rfl, tle (by simp only [List.length_singleton]; omega), tle (by simp only [List.length_singleton]; omega), tle (by omega), tle (by omega), ⟨i + 1, rfl, k1, ?_⟩, dec k1⟩
     exact (congrArg (fun r => _ ++ [r]) (Zn0 false true a hes).symm).trans T
  ·have k1 : l.length <= i := by have := Zai hc; simp at this; omega
   rw [Zb7 _ k1]
   exact ⟨rfl, _, rfl, .same _⟩
theorem c90p : ∀ r : Nd, All Shr r -> R90p r /\ R88p r.decls /\ ∀ e ∈ r.subs, R90p e := by
 refine Zdi fun a hs hd hb => ?_
 have L := hb.here
 have ihs : ∀ e ∈ a.subs, R90p e := fun x hx => (hs x hx (hb.sub hx)).1
 have ihd := c88p a.decls L.2.1 (fun x hx => (hb.dec hx).here) fun x hx => (hd x hx (hb.dec hx)).2
 refine ⟨?_, ihd, ihs⟩
 have ihx : R88p a.decls /\ ∀ e ∈ a.subs, R90p e := ⟨ihd, ihs⟩
 refine w90p (encE a) ?_
 simp only [Zbq, e0, e1, e2, e3, e4, e5, e6, e7, e8, isK_int, isK_str, isK_slc, Zav, Za3, Zam, true_and, Zao, Zaq, Zae, Zau]
 have L3 := L.2.2.1
 refine ⟨teq rfl, tle (by omega), tle (by omega), True, a.subs.length + 1, fun x es => ∃ j : Nat, x = j /\ j <= a.subs.length /\ es = (a.subs.map fun e => encE (mpE false true e)).take j, fun x _ => a.subs.length - x.toNat, trivial, fun _ => ⟨fun hc => ?_, fun hc => ?_⟩, ?_, trivial⟩
 ·have j1 : 0 < a.subs.length := by have := Zah hc; omega
  have g := Zby (x := (0 : Int)) rfl j1
  rw [g]
  exact ⟨teq (by simp), Zak (ihx.2 _ (List.getElem_mem j1)) ⟨_, rfl, rfl, teq (by simp), Zf4 _, tle (by simp), tle (by simp), ⟨1, rfl, j1, Zaw (fun e => encE (mpE false true e)) j1⟩, by simp; omega⟩⟩
 ·have j1 : a.subs = [] := List.length_eq_zero_iff.1 (by have := Zai hc; omega)
  have hes : ([] : List (List D)) = Zbp (mpEs false true a.subs) := by rw [j1]; rfl
  exact Zak ihx.1 ⟨_, rfl, rfl, congrArg (fun r => Out.ret (A.agg r)) (Zw7 false true a hes).symm, rfl⟩
 ·rintro x es ⟨j, rfl, hj, rfl⟩
  refine ⟨fun hc => ?_, fun hc => ?_⟩
  ·have j1 : j < a.subs.length := by have := Zah hc; omega
   rw [Zby rfl j1, Zb8 _ hj]
   have := L.1
   exact ⟨tle (by omega), teq (by simp), Zak (ihx.2 _ (List.getElem_mem j1)) ⟨_, rfl, rfl, teq (by simp), Zf4 _, tle (by simp only [List.length_singleton]; omega), tle (by simp only [List.length_singleton]; omega), tle (by omega), tle (by omega), ⟨j + 1, rfl, j1, Zaw (fun e => encE (mpE false true e)) j1⟩, dec j1⟩⟩
  ·have j1 : a.subs.length <= j := by have := Zai hc; omega
   rw [Zb7 _ j1]
   have hes : (a.subs.map fun e => encE (mpE false true e)) = Zbp (mpEs false true a.subs) := (Zeb _ _ _).symm
   exact Zak ihx.1 ⟨_, rfl, rfl, congrArg (fun r => Out.ret (A.agg r)) (Zw7 false true a hes).symm, rfl⟩
theorem Z3f (l : List Nd) (hl : l.length <= 2 ^ 30) (h : ∀ x ∈ l, All Shr x) : R88p l := c88p l hl (fun x hx => (h x hx).here) fun x hx => (c90p x (h x hx)).2
theorem c38 (r : Nd) (h : All Shr r) : Holds Tryz.prog 38 [.agg (encE r)] [] (Ret (.agg (encE (mpE true false r)))) := w38 _ ⟨teq (by simp), Zak (c90s r h).1 ⟨_, rfl, rfl, teq (by simp), rfl, rfl⟩⟩
theorem c39 (f : Fl) (h : ShrF f) : Holds Tryz.prog 39 [.agg (Zdf f)] [] (Ret (.agg (Zdf (Zq3 f)))) := by
 refine w39 _ ?_
 simp only [Zbl, f0, f1, f2, f3, isK_str, isK_slc, Za3, Zam, true_and, Zct, Zx3]
 have h1 := h.1
 exact ⟨teq rfl, tle (by omega), tle (by omega), Zak (Z3f f.decls h.2.1 h.2.2.2) ⟨_, rfl, rfl, rfl, rfl⟩⟩
theorem Zk8 (f : Fl) {es : List (List D)} (h : es = f.imps.map fun a => encI (stI a)) : Zdf (Zif f) = [dS f.pkg, .slc es, .slc (Zar (mpDs true false f.decls)), .slc (txs f.tail)] := by
 show encF _ _ _ _ = _
 rw [h]
 unfold encF Zif Zhy; simp only [List.map_map]; rfl
theorem c35 (f : Fl) (h : ShrF f) : Holds Tryz.prog 35 [.agg (Zdf f)] [] (Ret (.agg (Zdf (Zif f)))) := by
 refine w35 _ ?_
 simp only [Zbl, f0, f1, f2, f3, isK_str, isK_slc, Za3, Zam, true_and, Zct, Zae, Zau]
 have h1 := h.1
 have h3 := h.2.2.1
 refine ⟨teq rfl, Zak (Z3e f.decls h.2.1 h.2.2.2) ⟨_, rfl, rfl, tle (by omega), tle (by omega), True, f.imps.length + 1, fun x es => ∃ i : Nat, x = i /\ i <= f.imps.length /\ es = (f.imps.map fun a => encI (stI a)).take i, fun x _ => f.imps.length - x.toNat, trivial, fun _ => ⟨fun hc => ?_, fun hc => ?_⟩, ?_, trivial⟩⟩
 ·have k1 : 0 < f.imps.length := by have := Zah hc; omega
  have g := Zl4 (x := (0 : Int)) rfl k1
  have T := Zaw (fun a => encI (stI a)) k1
  simp only [g, Zcq, i0, i1, i2, isK_str, Za3, true_and]
  exact ⟨teq rfl, tle (by simp), tle (by simp), ⟨1, rfl, k1, T⟩, by simp; omega⟩
 ·have k1 : f.imps = [] := List.length_eq_zero_iff.1 (by have := Zai hc; omega)
  exact ⟨congrArg (fun r => Out.ret (A.agg r)) (Zk8 f (by rw [k1]; rfl)).symm, rfl⟩
 ·rintro x es ⟨i, rfl, hi, rfl⟩
  refine ⟨fun hc => ?_, fun hc => ?_⟩
  ·have k1 : i < f.imps.length := by have := Zah hc; omega
   have g := Zl4 (x := (i : Int)) rfl k1
   have T := Zaw (fun a => encI (stI a)) k1
   simp only [g, Zcq, i0, i1, i2, isK_str, Za3, true_and, Zb8 (fun a => encI (stI a)) hi]
   exact ⟨tle (by omega), teq rfl, tle (by simp only [List.length_singleton]; omega), tle (by simp only [List.length_singleton]; omega), tle (by omega), tle (by omega), ⟨i + 1, rfl, k1, T⟩, dec k1⟩
  ·have k1 : f.imps.length <= i := by have := Zai hc; omega
   rw [Zb7 _ k1]
   exact ⟨congrArg (fun r => Out.ret (A.agg r)) (Zk8 f rfl).symm, rfl⟩
end Go.Sy
end
section
open Go Go.Proofs Go.Ab Go.Rf
set_option linter.unusedSimpArgs false
set_option maxRecDepth 100000
namespace Go.Sy
mutual
def comE : Nd -> List Tx
 | .mk _ _ _ _ _ _ _ ta _ s d => Zap s ++ Zad d ++ ta
def Zap : List Nd -> List Tx
 | [] => []
 | x :: l => comE x ++ Zap l
def comD : Nd -> List Tx
 | .mk _ _ _ _ _ tr le ta _ s d => le ++ Zap s ++ Zad d ++ ta ++ (if tr = [] then [] else [tr])
def Zad : List Nd -> List Tx
 | [] => []
 | x :: l => comD x ++ Zad l
end
theorem Zma (r : Nd) : comE r = Zap r.subs ++ Zad r.decls ++ r.tail := by cases r; rw [comE]; rfl
theorem Zmb (r : Nd) : comD r = r.lead ++ Zap r.subs ++ Zad r.decls ++ r.tail ++ (if r.trail = [] then [] else [r.trail]) := by cases r; rw [comD]; rfl
theorem Zfu : ∀ l, Zap l = l.flatMap comE
 | [] => rfl
 | x :: l => by rw [Zap, Zfu l]; rfl
theorem Zfv : ∀ l, Zad l = l.flatMap comD
 | [] => rfl
 | x :: l => by rw [Zad, Zfv l]; rfl
theorem Za4 {l : List Nd} {i : Nat} (h : i < l.length) : Zap (l.take i) ++ comE l[i] = Zap (l.take (i + 1)) := by
 rw [List.take_succ_eq_append_getElem h, Zfu, Zfu, List.flatMap_append]; simp
theorem Zds {l : List Nd} {i : Nat} (h : i < l.length) : Zad (l.take i) ++ comD l[i] = Zad (l.take (i + 1)) := by
 rw [List.take_succ_eq_append_getElem h, Zfv, Zfv, List.flatMap_append]; simp
theorem Ze3 (l : List Nd) (i : Nat) : (Zap (l.take i)).length <= (Zap l).length := by
 conv => rhs; rw [<- List.take_append_drop i l]
 rw [Zfu, Zfu, List.flatMap_append]; simp
theorem Zf3 (l : List Nd) (i : Nat) : (Zad (l.take i)).length <= (Zad l).length := by
 conv => rhs; rw [<- List.take_append_drop i l]
 rw [Zfv, Zfv, List.flatMap_append]; simp
theorem Zj9 {l : List Nd} {x : Nd} (h : x ∈ l) : (comE x).length <= (Zap l).length := by
 obtain ⟨i, hi, rfl⟩ := List.getElem_of_mem h
 have := congrArg List.length (Za4 hi)
 have := Ze3 l (i + 1)
 simp at *; omega
theorem Zn1 {l : List Nd} {x : Nd} (h : x ∈ l) : (comD x).length <= (Zad l).length := by
 obtain ⟨i, hi, rfl⟩ := List.getElem_of_mem h
 have := congrArg List.length (Zds hi)
 have := Zf3 l (i + 1)
 simp at *; omega
def ownA (es : List (List D)) : A := if es.isEmpty then .zs [] else .own 1 es []
def RetO (es : List (List D)) : Out -> List (Ref × List A) -> Prop := fun o H => o = .ret (ownA es) /\ H = []
theorem Zw8 (es : List (List D)) : AsD (ownA es) (.d (.slc es)) := by
 unfold ownA
 cases es with
 | nil => exact .zs _
 | cons x l => exact .own _ _
theorem Holds.ofO {P : Program} {f : FuncId} {args : List A} {es : List (List D)} (h : Holds P f args [] (RetO es)) : Holds P f args [] (Ret (slA es)) :=
 h.asData fun o H' ⟨e, e1⟩ => ⟨.ret (slA es), by subst e; exact Zw8 es, rfl, e1⟩
theorem Zw9 {es : List (List D)} (h : es = []) : A.zs [] = ownA es := by subst h; rfl
theorem Zka {es : List (List D)} (h : es ≠ []) : A.own 1 es [] = ownA es := by cases es with | nil => exact absurd rfl h | cons => rfl
theorem Zn2 {l : List Tx} (h : (tB (((txs l).length : Int) == 0)) = true) : l = [] := List.length_eq_zero_iff.1 (by have := Zk2 h; simpa using this)
theorem Zz9 {l : List Tx} (h : (tB (((txs l).length : Int) == 0)) = false) : l ≠ [] := fun e => by subst e; simp [txs] at h
theorem Zkb {l : List Tx} (h : (tB ((l.length : Int) == 0)) = true) : l = [] := List.length_eq_zero_iff.1 (by have := Zk2 h; simpa using this)
theorem Zx7 {l : List Tx} (h : (tB ((l.length : Int) == 0)) = false) : l ≠ [] := fun e => by subst e; simp at h
abbrev H108 (e : Nd) : Prop := Holds Tryz.prog 108 [.agg (encE e)] [] (Ret (slA (txs (comE e))))
abbrev H91 (l : List Nd) : Prop := Holds Tryz.prog 91 [slA (Zar l)] [] (RetO (txs (Zad l)))
theorem Zu8 {l : List Tx} (h : l ≠ []) : txs l ≠ [] := fun e => h (List.map_eq_nil_iff.1 e)
theorem Zr3 {a b : List Tx} (h : a.length + b.length <= 2 ^ 30) : (tB (decide ((((txs a).length : Int) + ((txs b).length : Int)) * 16 <= 140737488355328))) = true /\ (tB (decide ((((txs a).length : Int) + ((txs b).length : Int)) <= 1099511627776))) = true :=
 ⟨tle (by simp only [Zae]; omega), tle (by simp only [Zae]; omega)⟩
theorem Zu9 {a b : List Tx} (h : a.length + b.length <= 2 ^ 30) : (tB (decide ((((txs a).length : Int) + (b.length : Int)) * 16 <= 140737488355328))) = true /\ (tB (decide ((((txs a).length : Int) + (b.length : Int)) <= 1099511627776))) = true :=
 ⟨tle (by simp only [Zae]; omega), tle (by simp only [Zae]; omega)⟩
theorem fit0 {b : List Tx} (h : b.length <= 2 ^ 30) : (tB (decide (((0 : Int) + ((txs b).length : Int)) * 16 <= 140737488355328))) = true /\ (tB (decide (((0 : Int) + ((txs b).length : Int)) <= 1099511627776))) = true :=
 ⟨tle (by simp only [Zae]; omega), tle (by simp only [Zae]; omega)⟩
theorem Zva {b : List Tx} (h : b.length <= 2 ^ 30) : (tB (decide (((0 : Int) + (b.length : Int)) * 16 <= 140737488355328))) = true /\ (tB (decide (((0 : Int) + (b.length : Int)) <= 1099511627776))) = true :=
 ⟨tle (by omega), tle (by omega)⟩
theorem c108 (r : Nd) (hb : (comE r).length <= 2 ^ 30) (hl : r.subs.length <= 2 ^ 50) (ihs : ∀ e ∈ r.subs, H108 e) (ihd : H91 r.decls) : H108 r := by
 have ihd := Holds.ofO ihd
 have hc := Zma r
 have hlen := congrArg List.length hc
 simp only [List.length_append] at hlen
 refine Holds.ofD (w108 (encE r) ?_)
 simp only [Zbq, e0, e1, e2, e3, e4, e5, e6, e7, e8, isK_int, isK_str, isK_slc, Zav, Za3, Zam, true_and, Zao, Zaq, Zae, Zau]
 refine ⟨teq rfl, fun x => ∃ i : Nat, x = i /\ i <= r.subs.length /\ Zap (r.subs.take i) = [], fun x => r.subs.length - x.toNat, fun es x => ∃ i : Nat, x = i /\ i <= r.subs.length /\ es = txs (Zap (r.subs.take i)), fun _ x => r.subs.length - x.toNat, ⟨0, rfl, Nat.zero_le _, rfl⟩, ?_, ?_, trivial⟩
 ·rintro x ⟨i, rfl, hi, hr⟩
  refine ⟨fun hc1 => ?_, fun hc1 => ?_⟩
  ·have k1 : i < r.subs.length := by have := Zah hc1; omega
   rw [Zby rfl k1]
   have hm := List.getElem_mem k1
   have hle := Zj9 hm
   have T := Za4 k1
   rw [hr, List.nil_append] at T
   have F := fit0 (b := comE r.subs[i]) (by omega)
   refine ⟨tle (by omega), teq (by simp), Zak (ihs _ hm) ⟨_, rfl, rfl, Zau _, F.1, F.2, fun h0 => ⟨tle (by omega), tle (by omega), ⟨i + 1, rfl, k1, ?_⟩, dec k1⟩, fun h0 => ⟨tle (by omega), tle (by omega), ⟨i + 1, rfl, k1, ?_⟩, dec k1⟩⟩⟩
   ·rw [<- T]; exact Zn2 h0
   ·rw [<- T]; rfl
  ·have k1 : r.subs.length <= i := by have := Zai hc1; omega
   rw [List.take_of_length_le k1] at hr
   rw [hr] at hc hlen
   have F := fit0 (b := Zad r.decls) (by simp at hlen; omega)
   refine Zak ihd ⟨_, rfl, rfl, Zau _, F.1, F.2, fun h0 => ?_, fun h0 => ?_⟩
   ·have h0 := Zn2 h0
    rw [h0] at hc hlen
    have F := Zva (b := r.tail) (by simp at hlen; omega)
    refine ⟨F.1, F.2, fun h1 => ?_, fun h1 => ?_⟩
    ·rw [hc, Zkb h1]; exact ⟨rfl, _, rfl, .zs _⟩
    ·rw [hc]; exact ⟨rfl, _, rfl, .own _ _⟩
   ·have F := Zu9 (a := Zad r.decls) (b := r.tail) (by simp at hlen; omega)
    refine ⟨F.1, F.2, ?_⟩
    rw [hc]
    exact ⟨rfl, _, rfl, by rw [List.nil_append, <- Za9]; exact .own _ _⟩
 ·rintro es x ⟨i, rfl, hi, rfl⟩
  refine ⟨fun hc1 => ?_, fun hc1 => ?_⟩
  ·have k1 : i < r.subs.length := by have := Zah hc1; omega
   rw [Zby rfl k1]
   have hm := List.getElem_mem k1
   have T := Za4 k1
   have F := Zr3 (a := Zap (r.subs.take i)) (b := comE r.subs[i]) (by have := congrArg List.length T; have := Ze3 r.subs (i + 1); simp at *; omega)
   exact ⟨tle (by omega), teq (by simp), Zak (ihs _ hm) ⟨_, rfl, rfl, Zau _, F.1, F.2, tle (by omega), tle (by omega), ⟨i + 1, rfl, k1, by rw [<- T, Za9]⟩, dec k1⟩⟩
  ·have k1 : r.subs.length <= i := by have := Zai hc1; omega
   rw [List.take_of_length_le k1]
   have F := Zr3 (a := Zap r.subs) (b := Zad r.decls) (by omega)
   have F2 := Zu9 (a := Zap r.subs ++ Zad r.decls) (b := r.tail) (by simp; omega)
   rw [<- Za9] at F2
   refine Zak ihd ⟨_, rfl, rfl, Zau _, F.1, F.2, F2.1, F2.2, ?_⟩
   rw [hc]
   exact ⟨rfl, _, rfl, by rw [Za9, Za9]; exact .own _ _⟩
def trl (s : Tx) : List Tx := if s = [] then [] else [s]
theorem Zhl (r : Nd) : comD r = r.lead ++ Zap r.subs ++ Zad r.decls ++ r.tail ++ trl r.trail := Zmb r
theorem Zvb {a : Nd} {Q W : List Tx} (ihd : Holds Tryz.prog 91 [slA (Zar a.decls)] [] (Ret (slA (txs (Zad a.decls))))) (hW : Q ++ Zad a.decls ++ a.tail ++ trl a.trail = W) (hb : W.length <= 2 ^ 30) {J : List (List D) -> Bool -> Prop} (hJ : ∀ b, J (txs W) b)
 {Qp : Value -> List (Ref × List A) -> Prop} :
 ∀ _ : Nat -> Nat, ∃ R' : Out -> List (Ref × List A) -> Prop, Holds Tryz.prog 91 [slA (Zar a.decls)] [] R' /\
   (∀ v H', R' (.ret v) H' -> ∃ x4 : List (List D), v = slA x4 /\ H' = [] /\ Za2 1 x4 = true /\ tB (decide ((((txs Q).length : Int) + (x4.length : Int)) * 16 <= 140737488355328)) = true /\ tB (decide (((txs Q).length : Int) + (x4.length : Int) <= 1099511627776)) = true /\
    tB (decide ((((txs Q ++ x4).length : Int) + (a.tail.length : Int)) * 16 <= 140737488355328)) = true /\ tB (decide (((txs Q ++ x4).length : Int) + (a.tail.length : Int) <= 1099511627776)) = true /\
    ((!(tB (a.trail == ([] : List UInt8)))) = true -> tB (decide ((((txs Q ++ x4 ++ txs a.tail).length : Int) + (([[dS a.trail]] : List (List D)).length : Int)) * 16 <= 140737488355328)) = true /\
      tB (decide (((txs Q ++ x4 ++ txs a.tail).length : Int) + (([[dS a.trail]] : List (List D)).length : Int) <= 1099511627776)) = true /\ J (txs Q ++ x4 ++ txs a.tail ++ [[dS a.trail]]) true) /\
    ((!(tB (a.trail == ([] : List UInt8)))) = false -> J (txs Q ++ x4 ++ txs a.tail) false)) /\
   (∀ u H', R' (.pan u) H' -> Qp u H') := by
 have hl := congrArg List.length hW
 simp only [List.length_append] at hl
 refine Zak ihd ⟨_, rfl, rfl, Zau _, tle (by simp only [Zae]; omega), tle (by simp only [Zae]; omega), tle (by simp only [List.length_append, Zae]; omega), tle (by simp only [List.length_append, Zae]; omega), fun h => ?_, fun h => ?_⟩
 ·have hne : a.trail ≠ [] := Zfs (nb1 h)
  have e : trl a.trail = [a.trail] := if_neg hne
  rw [e] at hl hW
  refine ⟨tle (by simp only [List.length_append, Zae, List.length_singleton] at *; omega), tle (by simp only [List.length_append, Zae, List.length_singleton] at *; omega), ?_⟩
  have := hJ true
  rw [<- hW] at this
  simp only [<- Za9] at this
  exact this
 ·have hne : a.trail = [] := Zfr (nb0 h)
  have e : trl a.trail = [] := if_pos hne
  rw [e, List.append_nil] at hW
  have := hJ false
  rw [<- hW] at this
  simp only [<- Za9] at this
  exact this
theorem c91 (l : List Nd) (hb : (Zad l).length <= 2 ^ 30) (hl : l.length <= 2 ^ 50) (hlm : ∀ x ∈ l, Lim x) (ih : ∀ x ∈ l, H91 x.decls /\ ∀ e ∈ x.subs, H108 e) : H91 l := by
 refine w91 (Zar l) ⟨fun x => ∃ i : Nat, x = i /\ i <= l.length /\ Zad (l.take i) = [], fun x => l.length - x.toNat, fun es x => ∃ i : Nat, x = i /\ i <= l.length /\ es = txs (Zad (l.take i)) /\ Zad (l.take i) ≠ [], fun _ x => l.length - x.toNat, ⟨0, rfl, Nat.zero_le _, rfl⟩, ?_, ?_, trivial⟩
 ·rintro x ⟨i, rfl, hi, hr⟩
  refine ⟨fun hc => ?_, fun hc => ?_⟩
  ·have k1 : i < l.length := by have := Zah hc; simp at this; omega
   have hx := List.getElem_mem k1
   have L := hlm _ hx
   have ihx := ih _ hx
   have T := Zds k1
   rw [hr, List.nil_append] at T
   have hT : (Zad (l.take (i + 1))).length <= 2 ^ 30 := Nat.le_trans (Zf3 l (i + 1)) hb
   rw [Ze7 rfl k1]
   generalize l[i] = a at L ihx T
   have ihd := Holds.ofO ihx.1
   have hD := Zhl a
   rw [T] at hD
   have hlen := congrArg List.length hD
   simp only [List.length_append] at hlen
   simp only [Zay, d0, d1, d2, d3, d4, d5, d6, d7, d8, d9, d10, isK_int, isK_str, isK_slc, Zav, Za3, Zam, true_and, Zao, Zaq, Zae, Zau]
   refine ⟨fun es _ _ => es = txs (Zad (l.take (i + 1))) /\ Zad (l.take (i + 1)) ≠ [], fun _ => Zad (l.take (i + 1)) = [], ⟨tle (by omega), teq rfl, (Zva (b := a.lead) (by omega)).1, (Zva (b := a.lead) (by omega)).2, fun h0 => ?_, fun h0 => ?_⟩, fun es _ _ h => ⟨tle (by omega), tle (by omega), ⟨i + 1, rfl, k1, h.1, h.2⟩, dec k1⟩, fun _ h => ⟨tle (by omega), tle (by omega), ⟨i + 1, rfl, k1, h⟩, dec k1⟩, trivial⟩
   ·have h0 := Zkb h0
    rw [h0, List.nil_append] at hD
    refine ⟨fun _ => Zap a.subs = [], fun es _ => es = txs (Zap a.subs) /\ Zap a.subs ≠ [], ⟨fun x => ∃ j : Nat, x = j /\ j <= a.subs.length /\ Zap (a.subs.take j) = [], fun x => a.subs.length - x.toNat, fun es x => ∃ j : Nat, x = j /\ j <= a.subs.length /\ es = txs (Zap (a.subs.take j)) /\ Zap (a.subs.take j) ≠ [], fun _ x => a.subs.length - x.toNat, ⟨0, rfl, Nat.zero_le _, rfl⟩, ?_, ?_, trivial⟩, ?_, ?_, trivial⟩
    ·rintro x ⟨j, rfl, hj, hs⟩
     refine ⟨fun hcj => ?_, fun hcj => ?_⟩
     ·have j1 : j < a.subs.length := by have := Zah hcj; omega
      rw [Zby rfl j1]
      have hm := List.getElem_mem j1
      have hle := Zj9 hm
      have S := Za4 j1
      rw [hs, List.nil_append] at S
      have F := fit0 (b := comE a.subs[j]) (by omega)
      have L1 := L.1
      refine ⟨tle (by omega), teq (by simp), Zak (ihx.2 _ hm) ⟨_, rfl, rfl, Zau _, F.1, F.2, fun h1 => ⟨tle (by omega), tle (by omega), ⟨j + 1, rfl, j1, ?_⟩, dec j1⟩, fun h1 => ⟨tle (by omega), tle (by omega), ⟨j + 1, rfl, j1, ?_, ?_⟩, dec j1⟩⟩⟩
      ·rw [<- S]; exact Zn2 h1
      ·rw [<- S]; rfl
      ·rw [<- S]; exact Zz9 h1
     ·have j1 : a.subs.length <= j := by have := Zai hcj; omega
      rw [List.take_of_length_le j1] at hs
      exact hs
    ·rintro es x ⟨j, rfl, hj, rfl, hs⟩
     refine ⟨fun hcj => ?_, fun hcj => ?_⟩
     ·have j1 : j < a.subs.length := by have := Zah hcj; omega
      rw [Zby rfl j1]
      have hm := List.getElem_mem j1
      have S := Za4 j1
      have F := Zr3 (a := Zap (a.subs.take j)) (b := comE a.subs[j]) (by have := congrArg List.length S; have := Ze3 a.subs (j + 1); simp at *; omega)
      have L1 := L.1
      exact ⟨tle (by omega), teq (by simp), Zak (ihx.2 _ hm) ⟨_, rfl, rfl, Zau _, F.1, F.2, tle (by omega), tle (by omega), ⟨j + 1, rfl, j1, by rw [<- S, Za9], by rw [<- S]; simp [hs]⟩, dec j1⟩⟩
     ·have j1 : a.subs.length <= j := by have := Zai hcj; omega
      rw [List.take_of_length_le j1] at hs ⊢
      exact ⟨rfl, hs⟩
    ·intro x hs
     rw [hs, List.nil_append] at hD
     have F := fit0 (b := Zad a.decls) (by omega)
     refine Zak ihd ⟨_, rfl, rfl, Zau _, F.1, F.2, fun h1 => ?_, fun h1 => ?_⟩
     ·have h1 := Zn2 h1
      rw [h1, List.nil_append] at hD
      have F := Zva (b := a.tail) (by omega)
      refine ⟨F.1, F.2, fun h2 => ⟨fun h3 => ⟨tle (by simp), tle (by simp), ?_⟩, fun h3 => ?_⟩, fun h2 => ⟨fun h3 => ⟨tle (by simp only [List.nil_append, Zae, List.length_singleton]; omega), tle (by simp only [List.nil_append, Zae, List.length_singleton]; omega), ?_⟩, fun h3 => ?_⟩⟩
      ·have hne : a.trail ≠ [] := Zfs (nb1 h3)
       rw [Zkb h2, show trl a.trail = [a.trail] from if_neg hne] at hD
       rw [hD]; exact ⟨rfl, by simp⟩
      ·have hne : a.trail = [] := Zfr (nb0 h3)
       rw [Zkb h2, show trl a.trail = [] from if_pos hne] at hD
       exact hD
      ·have hne : a.trail ≠ [] := Zfs (nb1 h3)
       rw [show trl a.trail = [a.trail] from if_neg hne] at hD
       rw [hD]; exact ⟨by rw [<- Za9]; rfl, by simp⟩
      ·have hne : a.trail = [] := Zfr (nb0 h3)
       rw [show trl a.trail = [] from if_pos hne, List.append_nil] at hD
       rw [hD]; exact ⟨rfl, Zx7 h2⟩
     ·have h1 := Zz9 h1
      have hWn : Zad (l.take (i + 1)) ≠ [] := by rw [hD]; simp [h1]
      refine ⟨tle (by simp only [List.nil_append, Zae]; omega), tle (by simp only [List.nil_append, Zae]; omega), fun h3 => ⟨tle (by simp only [List.nil_append, List.length_append, Zae, List.length_singleton]; omega), tle (by simp only [List.nil_append, List.length_append, Zae, List.length_singleton]; omega), ?_⟩, fun h3 => ?_⟩
      ·have hne : a.trail ≠ [] := Zfs (nb1 h3)
       rw [show trl a.trail = [a.trail] from if_neg hne] at hD
       rw [hD] at hWn ⊢
       exact ⟨by simp only [<- Za9]; rfl, hWn⟩
      ·have hne : a.trail = [] := Zfr (nb0 h3)
       rw [show trl a.trail = [] from if_pos hne, List.append_nil] at hD
       rw [hD] at hWn ⊢
       exact ⟨by simp only [<- Za9]; rfl, hWn⟩
    ·rintro es x ⟨rfl, hs⟩
     exact Zvb (Q := Zap a.subs) (W := Zad (l.take (i + 1))) (J := fun es _ => es = txs (Zad (l.take (i + 1))) /\ Zad (l.take (i + 1)) ≠ []) ihd hD.symm hT fun _ => ⟨rfl, by rw [hD]; simp [hs]⟩
   ·have h0 := Zx7 h0
    refine ⟨fun es _ => es = txs (a.lead ++ Zap a.subs), ⟨fun es x => ∃ j : Nat, x = j /\ j <= a.subs.length /\ es = txs (a.lead ++ Zap (a.subs.take j)), fun _ x => a.subs.length - x.toNat, ⟨0, rfl, Nat.zero_le _, by simp [Zap]⟩, ?_, trivial⟩, ?_, trivial⟩
    ·rintro es x ⟨j, rfl, hj, rfl⟩
     refine ⟨fun hcj => ?_, fun hcj => ?_⟩
     ·have j1 : j < a.subs.length := by have := Zah hcj; omega
      rw [Zby rfl j1]
      have hm := List.getElem_mem j1
      have S := Za4 j1
      have F := Zr3 (a := a.lead ++ Zap (a.subs.take j)) (b := comE a.subs[j]) (by have := congrArg List.length S; have := Ze3 a.subs (j + 1); simp at *; omega)
      have L1 := L.1
      exact ⟨tle (by omega), teq (by simp), Zak (ihx.2 _ hm) ⟨_, rfl, rfl, Zau _, F.1, F.2, tle (by omega), tle (by omega), ⟨j + 1, rfl, j1, by rw [<- S, Za9, List.append_assoc]⟩, dec j1⟩⟩
     ·have j1 : a.subs.length <= j := by have := Zai hcj; omega
      rw [List.take_of_length_le j1]
    ·rintro es x rfl
     exact Zvb (Q := a.lead ++ Zap a.subs) (W := Zad (l.take (i + 1))) (J := fun es _ => es = txs (Zad (l.take (i + 1))) /\ Zad (l.take (i + 1)) ≠ []) ihd hD.symm hT fun _ => ⟨rfl, by rw [hD]; simp [h0]⟩
  ·have k1 : l.length <= i := by have := Zai hc; simp at this; omega
   rw [List.take_of_length_le k1] at hr
   exact ⟨congrArg Out.ret (Zw9 (by rw [hr]; rfl)), rfl⟩
 ·rintro es x ⟨i, rfl, hi, rfl, hr⟩
  refine ⟨fun hc => ?_, fun hc => ?_⟩
  ·have k1 : i < l.length := by have := Zah hc; simp at this; omega
   have hx := List.getElem_mem k1
   have L := hlm _ hx
   have ihx := ih _ hx
   have T := Zds k1
   have hT : (Zad (l.take (i + 1))).length <= 2 ^ 30 := Nat.le_trans (Zf3 l (i + 1)) hb
   rw [Ze7 rfl k1]
   generalize l[i] = a at L ihx T
   have ihd := Holds.ofO ihx.1
   have hD : Zad (l.take (i + 1)) = (Zad (l.take i) ++ a.lead ++ Zap a.subs) ++ Zad a.decls ++ a.tail ++ trl a.trail := by rw [<- T, Zhl]; simp
   have hlen := congrArg List.length hD
   simp only [List.length_append] at hlen
   have hne : Zad (l.take (i + 1)) ≠ [] := by rw [hD]; simp [hr]
   simp only [Zay, d0, d1, d2, d3, d4, d5, d6, d7, d8, d9, d10, isK_int, isK_str, isK_slc, Zav, Za3, Zam, true_and, Zao, Zaq, Zae, Zau]
   refine ⟨fun es _ _ => es = txs (Zad (l.take (i + 1))), ⟨tle (by omega), teq rfl, tle (by omega), tle (by omega), fun es _ => es = txs (Zad (l.take i) ++ a.lead ++ Zap a.subs), ⟨fun es x => ∃ j : Nat, x = j /\ j <= a.subs.length /\ es = txs (Zad (l.take i) ++ a.lead ++ Zap (a.subs.take j)), fun _ x => a.subs.length - x.toNat, ⟨0, rfl, Nat.zero_le _, by simp [Zap]⟩, ?_, trivial⟩, ?_, trivial⟩, fun es _ _ h => ⟨tle (by omega), tle (by omega), ⟨i + 1, rfl, k1, h, hne⟩, dec k1⟩, trivial⟩
   ·rintro es x ⟨j, rfl, hj, rfl⟩
    refine ⟨fun hcj => ?_, fun hcj => ?_⟩
    ·have j1 : j < a.subs.length := by have := Zah hcj; omega
     rw [Zby rfl j1]
     have hm := List.getElem_mem j1
     have S := Za4 j1
     have F := Zr3 (a := Zad (l.take i) ++ a.lead ++ Zap (a.subs.take j)) (b := comE a.subs[j]) (by have := congrArg List.length S; have := Ze3 a.subs (j + 1); simp only [List.length_append] at *; omega)
     have L1 := L.1
     exact ⟨tle (by omega), teq (by simp), Zak (ihx.2 _ hm) ⟨_, rfl, rfl, Zau _, F.1, F.2, tle (by omega), tle (by omega), ⟨j + 1, rfl, j1, by rw [<- S, Za9]; simp only [List.append_assoc]⟩, dec j1⟩⟩
    ·have j1 : a.subs.length <= j := by have := Zai hcj; omega
     rw [List.take_of_length_le j1]
   ·rintro es x rfl
    exact Zvb (Q := Zad (l.take i) ++ a.lead ++ Zap a.subs) (W := Zad (l.take (i + 1))) (J := fun es _ => es = txs (Zad (l.take (i + 1)))) ihd hD.symm hT fun _ => rfl
  ·have k1 : l.length <= i := by have := Zai hc; simp at this; omega
   rw [List.take_of_length_le k1] at hr ⊢
   exact ⟨congrArg Out.ret (Zka (Zu8 hr)), rfl⟩
theorem Z2e : ∀ r : Nd, Lm r -> ((comE r).length <= 2 ^ 30 -> H108 r) /\ ((Zap r.subs).length + (Zad r.decls).length <= 2 ^ 30 -> H91 r.decls /\ ∀ e ∈ r.subs, H108 e) := by
 refine Zdi fun r hs hd hl => ?_
 have L := hl.here
 have key : (Zap r.subs).length + (Zad r.decls).length <= 2 ^ 30 -> H91 r.decls /\ ∀ e ∈ r.subs, H108 e := fun hb => by
  refine ⟨c91 r.decls (by omega) L.2.1 (fun x hx => (hl.dec hx).here) fun x hx => (hd x hx (hl.dec hx)).2 ?_, fun x hx => (hs x hx (hl.sub hx)).1 (Nat.le_trans (Zj9 hx) (by omega))⟩
  have h1 := Zn1 hx
  have h2 := congrArg List.length (Zmb x)
  simp only [List.length_append] at h2
  omega
 refine ⟨fun hb => ?_, key⟩
 have h2 := congrArg List.length (Zma r)
 simp only [List.length_append] at h2
 have hk := key (by omega)
 exact c108 r hb L.1 hk.2 hk.1
theorem c91' (l : List Nd) (hb : (Zad l).length <= 2 ^ 30) (hl : l.length <= 2 ^ 50) (h : ∀ x ∈ l, Lm x) : H91 l :=
 c91 l hb hl (fun x hx => (h x hx).here) fun x hx => (Z2e x (h x hx)).2 (by
  have h1 := Zn1 hx
  have h2 := congrArg List.length (Zmb x)
  simp only [List.length_append] at h2
  omega)
def comF (f : Fl) : List Tx := Zad f.decls ++ f.tail
theorem c40 (f : Fl) (hb : (comF f).length <= 2 ^ 30) (h : LmF f) : Holds Tryz.prog 40 [.agg (Zdf f)] [] (Ret (slA (txs (comF f)))) := by
 have hl : (Zad f.decls).length + f.tail.length <= 2 ^ 30 := by unfold comF at hb; simpa using hb
 have c := c91' f.decls (by omega) h.1.2.1 h.2
 have R : ∀ es, es = txs (comF f) -> RetD (txs (comF f)) (.ret (.own 1 es [])) [] := fun es e => ⟨rfl, _, rfl, by rw [e]; exact .own _ _⟩
 refine Holds.ofD ?_
 by_cases hn : Zad f.decls = []
 ·refine w40b _ ?_
  simp only [Zbl, f0, f1, f2, f3, isK_str, isK_slc, Za3, Zam, true_and, Zae, Zau]
  have e : ownA (txs (Zad f.decls)) = .zs [] := by rw [hn]; rfl
  have c' : Holds Tryz.prog 91 [slA (Zar f.decls)] [] (Ret (.zs [])) := by unfold H91 RetO at c; rw [e] at c; exact c
  have e2 : comF f = f.tail := by unfold comF; rw [hn]; rfl
  have F := Zva (b := f.tail) (by omega)
  refine ⟨teq rfl, Zak c' ⟨rfl, rfl, F.1, F.2, fun h1 => ?_, fun h1 => ?_⟩⟩
  ·rw [e2, Zkb h1]; exact ⟨rfl, _, rfl, .zs _⟩
  ·exact R _ (by rw [e2]; rfl)
 ·refine w40a _ ?_
  simp only [Zbl, f0, f1, f2, f3, isK_str, isK_slc, Za3, Zam, true_and, Zae, Zau]
  have e : ownA (txs (Zad f.decls)) = .own 1 (txs (Zad f.decls)) [] := (Zka (Zu8 hn)).symm
  have c' : Holds Tryz.prog 91 [slA (Zar f.decls)] [] (Ret (.own 1 (txs (Zad f.decls)) [])) := by unfold H91 RetO at c; rw [e] at c; exact c
  have F := Zu9 (a := Zad f.decls) (b := f.tail) hl
  exact ⟨teq rfl, Zak c' ⟨_, rfl, rfl, F.1, F.2, R _ (by unfold comF; rw [Za9])⟩⟩
end Go.Sy
end
section
open Go Go.Proofs Go.Ab Go.Rf
set_option linter.unusedSimpArgs false
set_option maxRecDepth 100000
namespace Go.Sy
def RB (K : List (Ref × List A)) : Out -> List (Ref × List A) -> Prop := fun o H => o = .ret (.tup []) /\ H = K
abbrev ow (P : List Tx) : A := ownA (txs P)
theorem Zck {P : List Tx} (h : P ≠ []) : ow P = .own 1 (txs P) [] := (Zka (Zu8 h)).symm
theorem Zes {f : FuncId} {args : List A} {K0 : List (Ref × List A)} {B : A -> List (Ref × List A)} {Q : List Tx} (hQ : Q ≠ []) (hc : Holds Tryz.prog f args K0 (RB (B (ow Q)))) {K : List (List D) -> Prop} {QP : Value -> List (Ref × List A) -> Prop} (h : K (txs Q)) :
 ∀ _ : Nat -> Nat, ∃ R' : Out -> List (Ref × List A) -> Prop, Holds Tryz.prog f args K0 R' /\ (∀ v H', R' (.ret v) H' -> ∃ x, v = .tup [] /\ H' = B (.own 1 x []) /\ K x) /\ (∀ u H', R' (.pan u) H' -> QP u H') :=
 fun _ => ⟨_, hc, fun v H' e => by obtain ⟨e1, e2⟩ := e; cases e1; exact ⟨txs Q, rfl, by rw [e2, Zck hQ], h⟩, fun u H' e => by cases e.1⟩
theorem callT {f : FuncId} {args : List A} {K0 : List (Ref × List A)} {B : A -> List (Ref × List A)} {Q : List Tx} (hc : Holds Tryz.prog f args K0 (RB (B (ow Q)))) {G : Prop} {K : List (List D) -> Prop} {QP : Value -> List (Ref × List A) -> Prop} (h0 : Q = [] -> G) (h : Q ≠ [] -> K (txs Q)) :
 ∀ _ : Nat -> Nat, ∃ R' : Out -> List (Ref × List A) -> Prop, Holds Tryz.prog f args K0 R' /\ (∀ v H', R' (.ret v) H' -> (v = .tup [] /\ H' = B (.zs []) /\ G) \/ (∃ x, v = .tup [] /\ H' = B (.own 1 x []) /\ K x)) /\ (∀ u H', R' (.pan u) H' -> QP u H') :=
 fun _ => ⟨_, hc, fun v H' e => by
  obtain ⟨e1, e2⟩ := e
  cases e1
  by_cases hQ : Q = []
  ·left; exact ⟨rfl, by rw [e2, hQ]; rfl, h0 hQ⟩
  ·right; exact ⟨txs Q, rfl, by rw [e2, Zck hQ], h hQ⟩, fun u H' e => by cases e.1⟩
def Dst (e d a o : Ref) : Prop := e ≠ d /\ e ≠ a /\ d ≠ a /\ e ≠ o /\ d ≠ o /\ a ≠ o
theorem Dst.up {e d a o : Ref} (h : Dst e d a o) : Dst (.up e) (.up d) (.up a) (.up o) := by unfold Dst at *; simpa using h
abbrev B85 (o : Ref) (c : A) : List (Ref × List A) := [(.up o, [c])]
abbrev B86 (e d a o : Ref) (c : A) : List (Ref × List A) := [(.up e, [.fn 86 [.up e, .up d, .up a]]), (.up d, [.fn 87 [.up a, .up e, .up d]]), (.up a, [.fn 85 [.up o]]), (.up o, [c])]
abbrev B87 (e d a o : Ref) (c : A) : List (Ref × List A) := [(.up a, [.fn 85 [.up o]]), (.up o, [c]), (.up e, [.fn 86 [.up e, .up d, .up a]]), (.up d, [.fn 87 [.up a, .up e, .up d]])]
theorem c85 (P x : List Tx) (o : Ref) (h : (P ++ x).length <= 2 ^ 30) : Holds Tryz.prog 85 [slA (txs x), .ptr (.up o) 0] (B85 o (ow P)) (RB (B85 o (ow (P ++ x)))) := by
 simp only [List.length_append] at h
 by_cases hP : P = []
 ·subst hP
  have F := fit0 (b := x) (by omega)
  refine w85a (txs x) o ⟨Zau _, F.1, F.2, fun h0 => ?_, fun h0 => ?_⟩
  ·rw [Zn2 h0]; exact ⟨rfl, rfl⟩
  ·rw [List.nil_append, Zck (Zz9 h0)]; exact ⟨rfl, rfl⟩
 ·have F := Zr3 (a := P) (b := x) h
  rw [Zck hP, Zck (P := P ++ x) (by simp [hP])]
  exact w85b (txs x) (txs P) o ⟨Zau _, F.1, F.2, rfl, by rw [Za9]⟩
abbrev H86 (r : Nd) : Prop := ∀ (P : List Tx) (e d a o : Ref), Dst e d a o -> (P ++ comE r).length <= 2 ^ 30 ->
 Holds Tryz.prog 86 [.agg (encE r), .ptr (.up e) 0, .ptr (.up d) 0, .ptr (.up a) 0] (B86 e d a o (ow P)) (RB (B86 e d a o (ow (P ++ comE r))))
abbrev H87 (l : List Nd) : Prop := ∀ (P : List Tx) (e d a o : Ref), Dst e d a o -> (P ++ Zad l).length <= 2 ^ 30 ->
 Holds Tryz.prog 87 [slA (Zar l), .ptr (.up a) 0, .ptr (.up e) 0, .ptr (.up d) 0] (B87 e d a o (ow P)) (RB (B87 e d a o (ow (P ++ Zad l))))
theorem c86 (r : Nd) (hl : r.subs.length <= 2 ^ 50) (ihs : ∀ x ∈ r.subs, H86 x) (ihd : H87 r.decls) : H86 r := by
 intro P e d a o hd hb
 have hc := Zma r
 have hlen := congrArg List.length hc
 simp only [List.length_append] at hlen hb
 have sub : ∀ {i : Nat} (k1 : i < r.subs.length), (Zap (r.subs.take i)).length + (comE r.subs[i]).length <= (Zap r.subs).length := fun {i} k1 => by
  have := congrArg List.length (Za4 k1)
  have := Ze3 r.subs (i + 1)
  simp only [List.length_append] at *; omega
 by_cases hP : P = []
 ·subst hP
  rw [List.nil_append]
  refine w86a (encE r) e d a o hd.1 hd.2.1 hd.2.2.1 hd.2.2.2.1 hd.2.2.2.2.1 hd.2.2.2.2.2 ?_
  simp only [Zbq, e0, e1, e2, e3, e4, e5, e6, e7, e8, isK_int, isK_str, isK_slc, Zav, Za3, Zam, true_and, Zao, Zaq, Zae, Zau]
  refine ⟨teq rfl, fun x => ∃ i : Nat, x = i /\ i <= r.subs.length /\ Zap (r.subs.take i) = [], fun x => r.subs.length - x.toNat, fun x es => ∃ i : Nat, x = i /\ i <= r.subs.length /\ es = txs (Zap (r.subs.take i)) /\ Zap (r.subs.take i) ≠ [], fun x _ => r.subs.length - x.toNat, ⟨0, rfl, Nat.zero_le _, rfl⟩, ?_, ?_, trivial⟩
  ·rintro x ⟨i, rfl, hi, hr⟩
   refine ⟨fun hc1 => ?_, fun hc1 => ?_⟩
   ·have k1 : i < r.subs.length := by have := Zah hc1; omega
    rw [Zby rfl k1]
    have hm := List.getElem_mem k1
    have T := Za4 k1
    have hs := sub k1
    rw [hr, List.nil_append] at T
    refine ⟨tle (by omega), teq (by simp), callT (B := B86 (.up e) (.up d) (.up a) (.up o)) (ihs _ hm [] _ _ _ _ hd.up (by simp only [List.nil_append]; omega)) (fun h => ⟨tle (by omega), tle (by omega), ⟨i + 1, rfl, k1, ?_⟩, dec k1⟩) fun h => ⟨tle (by omega), tle (by omega), ⟨i + 1, rfl, k1, ?_, ?_⟩, dec k1⟩⟩
    ·rw [<- T]; exact h
    ·rw [<- T]; rfl
    ·rw [<- T]; exact h
   ·have k1 : r.subs.length <= i := by have := Zai hc1; omega
    rw [List.take_of_length_le k1] at hr
    rw [hr, List.nil_append] at hc
    refine callT (B := B87 (.up e) (.up d) (.up a) (.up o)) (ihd [] _ _ _ _ hd.up (by simp only [List.nil_append]; omega)) (fun h => ?_) fun h => ?_
    ·rw [List.nil_append] at h
     rw [h, List.nil_append] at hc
     refine callT (B := B85 (.up o)) (c85 [] r.tail (.up o) (by simp only [List.nil_append]; omega)) (fun h => ?_) fun h => ?_
     ·rw [List.nil_append] at h
      rw [hc, h]; exact ⟨rfl, rfl⟩
     ·rw [List.nil_append] at h ⊢
      rw [hc, Zck h]; exact ⟨rfl, rfl⟩
    ·rw [List.nil_append] at h ⊢
     have hn : Zad r.decls ++ r.tail ≠ [] := by simp [h]
     refine Zes (B := B85 (.up o)) hn (Zck h ▸ c85 (Zad r.decls) r.tail (.up o) (by simp only [List.length_append]; omega)) ?_
     rw [hc, Zck hn]; exact ⟨rfl, rfl⟩
  ·rintro x es ⟨i, rfl, hi, rfl, hr⟩
   refine ⟨fun hc1 => ?_, fun hc1 => ?_⟩
   ·have k1 : i < r.subs.length := by have := Zah hc1; omega
    rw [Zby rfl k1]
    have hm := List.getElem_mem k1
    have T := Za4 k1
    have hs := sub k1
    have hn : Zap (r.subs.take i) ++ comE r.subs[i] ≠ [] := by simp [hr]
    refine ⟨tle (by omega), teq (by simp), Zes (B := B86 (.up e) (.up d) (.up a) (.up o)) hn (Zck hr ▸ ihs _ hm (Zap (r.subs.take i)) _ _ _ _ hd.up (by simp only [List.length_append]; omega)) ⟨tle (by omega), tle (by omega), ⟨i + 1, rfl, k1, by rw [T], by rw [<- T]; exact hn⟩, dec k1⟩⟩
   ·have k1 : r.subs.length <= i := by have := Zai hc1; omega
    rw [List.take_of_length_le k1] at hr ⊢
    have hn : Zap r.subs ++ Zad r.decls ≠ [] := by simp [hr]
    have hn2 : Zap r.subs ++ Zad r.decls ++ r.tail ≠ [] := by simp [hr]
    refine Zes (B := B87 (.up e) (.up d) (.up a) (.up o)) hn (Zck hr ▸ ihd (Zap r.subs) _ _ _ _ hd.up (by simp only [List.length_append]; omega)) ?_
    refine Zes (B := B85 (.up o)) hn2 (Zck hn ▸ c85 (Zap r.subs ++ Zad r.decls) r.tail (.up o) (by simp only [List.length_append]; omega)) ?_
    rw [hc, Zck hn2]; exact ⟨rfl, rfl⟩
 ·rw [Zck hP]
  have hPn : ∀ Q, P ++ Q ≠ [] := fun Q => by simp [hP]
  refine w86b (encE r) (txs P) e d a o hd.1 hd.2.1 hd.2.2.1 hd.2.2.2.1 hd.2.2.2.2.1 hd.2.2.2.2.2 ?_
  simp only [Zbq, e0, e1, e2, e3, e4, e5, e6, e7, e8, isK_int, isK_str, isK_slc, Zav, Za3, Zam, true_and, Zao, Zaq, Zau]
  refine ⟨teq rfl, fun x es => ∃ i : Nat, x = i /\ i <= r.subs.length /\ es = txs (P ++ Zap (r.subs.take i)), fun x _ => r.subs.length - x.toNat, ⟨0, rfl, Nat.zero_le _, by simp [Zap]⟩, ?_, trivial⟩
  rintro x es ⟨i, rfl, hi, rfl⟩
  refine ⟨fun hc1 => ?_, fun hc1 => ?_⟩
  ·have k1 : i < r.subs.length := by have := Zah hc1; omega
   rw [Zby rfl k1]
   have hm := List.getElem_mem k1
   have T := Za4 k1
   have hs := sub k1
   have hn : P ++ Zap (r.subs.take i) ++ comE r.subs[i] ≠ [] := by simp [hP]
   refine ⟨tle (by omega), teq (by simp), Zes (B := B86 (.up e) (.up d) (.up a) (.up o)) hn (Zck (hPn _) ▸ ihs _ hm (P ++ Zap (r.subs.take i)) _ _ _ _ hd.up (by simp only [List.length_append]; omega)) ⟨tle (by omega), tle (by omega), ⟨i + 1, rfl, k1, by rw [List.append_assoc, T]⟩, dec k1⟩⟩
  ·have k1 : r.subs.length <= i := by have := Zai hc1; omega
   rw [List.take_of_length_le k1]
   have hn : P ++ Zap r.subs ++ Zad r.decls ≠ [] := by simp [hP]
   have hn2 : P ++ Zap r.subs ++ Zad r.decls ++ r.tail ≠ [] := by simp [hP]
   refine Zes (B := B87 (.up e) (.up d) (.up a) (.up o)) hn (Zck (hPn _) ▸ ihd (P ++ Zap r.subs) _ _ _ _ hd.up (by simp only [List.length_append]; omega)) ?_
   refine Zes (B := B85 (.up o)) hn2 (Zck hn ▸ c85 (P ++ Zap r.subs ++ Zad r.decls) r.tail (.up o) (by simp only [List.length_append]; omega)) ?_
   have e1 : P ++ comE r = P ++ Zap r.subs ++ Zad r.decls ++ r.tail := by rw [hc]; simp
   rw [e1, Zck hn2]; exact ⟨rfl, rfl⟩
theorem Zq4 {r : Nd} {e d a o : Ref} {Q W : List Tx} (hd : Dst e d a o) (ihd : H87 r.decls) (hQ : Q ≠ []) (hW : Q ++ Zad r.decls ++ r.tail ++ trl r.trail = W) (hb : W.length <= 2 ^ 30) {J : Bool -> List (List D) -> Prop} (hJ : ∀ b, J b (txs W))
 {Q1 : Value -> List (Ref × List A) -> Prop} {Q2 : List (List D) -> Value -> List (Ref × List A) -> Prop} {Q4 : List (List D) -> List (List D) -> Value -> List (Ref × List A) -> Prop} :
 ∀ _ : Nat -> Nat, ∃ R' : Out -> List (Ref × List A) -> Prop, Holds Tryz.prog 87 [slA (Zar r.decls), .ptr (.up (.up a)) 0, .ptr (.up (.up e)) 0, .ptr (.up (.up d)) 0] (B87 (.up e) (.up d) (.up a) (.up o) (.own 1 (txs Q) [])) R' /\
   (∀ v H', R' (.ret v) H' -> ∃ x4 : List (List D), v = .tup [] /\ H' = B87 (.up e) (.up d) (.up a) (.up o) (.own 1 x4 []) /\
    ∀ _ : Nat -> Nat, ∃ R' : Out -> List (Ref × List A) -> Prop, Holds Tryz.prog 85 [slA (txs r.tail), .ptr (.up (.up o)) 0] (B85 (.up o) (.own 1 x4 [])) R' /\
      (∀ v H', R' (.ret v) H' -> ∃ x5 : List (List D), v = .tup [] /\ H' = B85 (.up o) (.own 1 x5 []) /\
       ((!(tB (r.trail == ([] : List UInt8)))) = true -> ∀ _ : Nat -> Nat, ∃ R' : Out -> List (Ref × List A) -> Prop, Holds Tryz.prog 85 [slA [[dS r.trail]], .ptr (.up (.up o)) 0] (B85 (.up o) (.own 1 x5 [])) R' /\
         (∀ v H', R' (.ret v) H' -> ∃ x6 : List (List D), v = .tup [] /\ H' = B85 (.up o) (.own 1 x6 []) /\ J true x6) /\ (∀ u H', R' (.pan u) H' -> Q4 x4 x5 u H')) /\
       ((!(tB (r.trail == ([] : List UInt8)))) = false -> J false x5)) /\
      (∀ u H', R' (.pan u) H' -> Q2 x4 u H')) /\
   (∀ u H', R' (.pan u) H' -> Q1 u H') := by
 have hl := congrArg List.length hW
 simp only [List.length_append] at hl
 have hn : Q ++ Zad r.decls ≠ [] := by simp [hQ]
 have hn2 : Q ++ Zad r.decls ++ r.tail ≠ [] := by simp [hQ]
 refine Zes (B := B87 (.up e) (.up d) (.up a) (.up o)) hn (Zck hQ ▸ ihd Q _ _ _ _ hd.up (by simp only [List.length_append]; omega)) ?_
 refine Zes (B := B85 (.up o)) hn2 (Zck hn ▸ c85 (Q ++ Zad r.decls) r.tail (.up o) (by simp only [List.length_append]; omega)) ⟨fun h => ?_, fun h => ?_⟩
 ·have hne : r.trail ≠ [] := Zfs (nb1 h)
  rw [show trl r.trail = [r.trail] from if_neg hne] at hl hW
  refine Zes (B := B85 (.up o)) (Q := W) (by rw [<- hW]; simp) ?_ (hJ true)
  rw [<- hW]
  exact Zck hn2 ▸ c85 (Q ++ Zad r.decls ++ r.tail) [r.trail] (.up o) (by simp only [List.length_append, List.length_singleton] at *; omega)
 ·have hne : r.trail = [] := Zfr (nb0 h)
  rw [show trl r.trail = [] from if_pos hne, List.append_nil] at hW
  rw [hW]; exact hJ false
theorem c87 (l : List Nd) (hl : l.length <= 2 ^ 50) (hlm : ∀ x ∈ l, Lim x) (ih : ∀ x ∈ l, H87 x.decls /\ ∀ e ∈ x.subs, H86 e) : H87 l := by
 intro P e d a o hd hb
 simp only [List.length_append] at hb
 have sub : ∀ {r : Nd} {i : Nat} (k1 : i < r.subs.length), (Zap (r.subs.take i)).length + (comE r.subs[i]).length <= (Zap r.subs).length := fun {r i} k1 => by
  have := congrArg List.length (Za4 k1)
  have := Ze3 r.subs (i + 1)
  simp only [List.length_append] at *; omega
 by_cases hP : P = []
 ·subst hP
  rw [List.nil_append]
  refine w87a (Zar l) a o e d hd.2.2.2.2.2 hd.2.1.symm hd.2.2.2.1.symm hd.2.2.1.symm hd.2.2.2.2.1.symm hd.1 ?_
  refine ⟨fun x => ∃ i : Nat, x = i /\ i <= l.length /\ Zad (l.take i) = [], fun x => l.length - x.toNat, fun x es => ∃ i : Nat, x = i /\ i <= l.length /\ es = txs (Zad (l.take i)) /\ Zad (l.take i) ≠ [], fun x _ => l.length - x.toNat, ⟨0, rfl, Nat.zero_le _, rfl⟩, ?_, ?_, trivial⟩
  ·rintro x ⟨i, rfl, hi, hr⟩
   refine ⟨fun hc => ?_, fun hc => ?_⟩
   ·have k1 : i < l.length := by have := Zah hc; simp at this; omega
    have hx := List.getElem_mem k1
    have L := hlm _ hx
    have ihx := ih _ hx
    have T := Zds k1
    rw [hr, List.nil_append] at T
    have hT : (Zad (l.take (i + 1))).length <= 2 ^ 30 := Nat.le_trans (Zf3 l (i + 1)) (by omega)
    rw [Ze7 rfl k1]
    generalize l[i] = r at L ihx T
    have hD := Zhl r
    rw [T] at hD
    have hlen := congrArg List.length hD
    simp only [List.length_append] at hlen
    have L1 := L.1
    simp only [Zay, d0, d1, d2, d3, d4, d5, d6, d7, d8, d9, d10, isK_int, isK_str, isK_slc, Zav, Za3, Zam, true_and, Zao, Zaq, Zae, Zau]
    refine ⟨fun _ _ => Zad (l.take (i + 1)) = [], fun _ _ es => es = txs (Zad (l.take (i + 1))) /\ Zad (l.take (i + 1)) ≠ [], ⟨tle (by omega), teq rfl, callT (B := B85 (.up o)) (c85 [] r.lead (.up o) (by simp only [List.nil_append]; omega)) (fun h0 => ?_) fun h0 => ?_⟩, fun _ _ h => ⟨tle (by omega), tle (by omega), ⟨i + 1, rfl, k1, h⟩, dec k1⟩, fun _ _ _ h => ⟨tle (by omega), tle (by omega), ⟨i + 1, rfl, k1, h.1, h.2⟩, dec k1⟩, trivial⟩
    ·rw [List.nil_append] at h0
     rw [h0, List.nil_append] at hD
     refine ⟨fun _ => Zap r.subs = [], fun _ es => es = txs (Zap r.subs) /\ Zap r.subs ≠ [], ⟨fun x => ∃ j : Nat, x = j /\ j <= r.subs.length /\ Zap (r.subs.take j) = [], fun x => r.subs.length - x.toNat, fun x es => ∃ j : Nat, x = j /\ j <= r.subs.length /\ es = txs (Zap (r.subs.take j)) /\ Zap (r.subs.take j) ≠ [], fun x _ => r.subs.length - x.toNat, ⟨0, rfl, Nat.zero_le _, rfl⟩, ?_, ?_, trivial⟩, ?_, ?_, trivial⟩
     ·rintro x ⟨j, rfl, hj, hs⟩
      refine ⟨fun hcj => ?_, fun hcj => ?_⟩
      ·have j1 : j < r.subs.length := by have := Zah hcj; omega
       rw [Zby rfl j1]
       have hm := List.getElem_mem j1
       have S := Za4 j1
       have hs2 := sub j1
       rw [hs, List.nil_append] at S
       refine ⟨tle (by omega), teq (by simp), callT (B := B86 (.up e) (.up d) (.up a) (.up o)) (ihx.2 _ hm [] _ _ _ _ hd.up (by simp only [List.nil_append]; omega)) (fun h => ⟨tle (by omega), tle (by omega), ⟨j + 1, rfl, j1, ?_⟩, dec j1⟩) fun h => ⟨tle (by omega), tle (by omega), ⟨j + 1, rfl, j1, ?_, ?_⟩, dec j1⟩⟩
       ·rw [<- S]; exact h
       ·rw [<- S]; rfl
       ·rw [<- S]; exact h
      ·have j1 : r.subs.length <= j := by have := Zai hcj; omega
       rw [List.take_of_length_le j1] at hs
       exact hs
     ·rintro x es ⟨j, rfl, hj, rfl, hs⟩
      refine ⟨fun hcj => ?_, fun hcj => ?_⟩
      ·have j1 : j < r.subs.length := by have := Zah hcj; omega
       rw [Zby rfl j1]
       have hm := List.getElem_mem j1
       have S := Za4 j1
       have hs2 := sub j1
       have hn : Zap (r.subs.take j) ++ comE r.subs[j] ≠ [] := by simp [hs]
       exact ⟨tle (by omega), teq (by simp), Zes (B := B86 (.up e) (.up d) (.up a) (.up o)) hn (Zck hs ▸ ihx.2 _ hm (Zap (r.subs.take j)) _ _ _ _ hd.up (by simp only [List.length_append]; omega)) ⟨tle (by omega), tle (by omega), ⟨j + 1, rfl, j1, by rw [S], by rw [<- S]; exact hn⟩, dec j1⟩⟩
      ·have j1 : r.subs.length <= j := by have := Zai hcj; omega
       rw [List.take_of_length_le j1] at hs ⊢
       exact ⟨rfl, hs⟩
     ·intro x hs
      rw [hs, List.nil_append] at hD
      refine callT (B := B87 (.up e) (.up d) (.up a) (.up o)) (ihx.1 [] _ _ _ _ hd.up (by simp only [List.nil_append]; omega)) (fun h1 => ?_) fun h1 => ?_
      ·rw [List.nil_append] at h1
       rw [h1, List.nil_append] at hD
       refine callT (B := B85 (.up o)) (c85 [] r.tail (.up o) (by simp only [List.nil_append]; omega)) (fun h2 => ⟨fun h3 => ?_, fun h3 => ?_⟩) fun h2 => ⟨fun h3 => ?_, fun h3 => ?_⟩
       ·have hne : r.trail ≠ [] := Zfs (nb1 h3)
        rw [List.nil_append] at h2
        rw [h2, show trl r.trail = [r.trail] from if_neg hne] at hD
        refine callT (B := B85 (.up o)) (c85 [] [r.trail] (.up o) (by simp)) (fun h => by simp at h) fun h => ?_
        rw [hD]; exact ⟨rfl, h⟩
       ·have hne : r.trail = [] := Zfr (nb0 h3)
        rw [List.nil_append] at h2
        rw [h2, show trl r.trail = [] from if_pos hne] at hD
        exact hD
       ·have hne : r.trail ≠ [] := Zfs (nb1 h3)
        rw [List.nil_append] at h2
        rw [show trl r.trail = [r.trail] from if_neg hne] at hD hlen
        refine Zes (B := B85 (.up o)) (Q := r.tail ++ [r.trail]) (by simp) (Zck h2 ▸ c85 r.tail [r.trail] (.up o) (by simp only [List.length_append]; omega)) ?_
        rw [hD]; exact ⟨rfl, by simp⟩
       ·have hne : r.trail = [] := Zfr (nb0 h3)
        rw [List.nil_append] at h2
        rw [show trl r.trail = [] from if_pos hne, List.append_nil] at hD
        rw [hD]; exact ⟨rfl, h2⟩
      ·rw [List.nil_append] at h1 ⊢
       have hn : Zad r.decls ++ r.tail ≠ [] := by simp [h1]
       refine Zes (B := B85 (.up o)) hn (Zck h1 ▸ c85 (Zad r.decls) r.tail (.up o) (by simp only [List.length_append]; omega)) ⟨fun h3 => ?_, fun h3 => ?_⟩
       ·have hne : r.trail ≠ [] := Zfs (nb1 h3)
        rw [show trl r.trail = [r.trail] from if_neg hne] at hD hlen
        refine Zes (B := B85 (.up o)) (Q := Zad r.decls ++ r.tail ++ [r.trail]) (by simp) (Zck hn ▸ c85 (Zad r.decls ++ r.tail) [r.trail] (.up o) (by simp only [List.length_append]; omega)) ?_
        rw [hD]; exact ⟨rfl, by simp⟩
       ·have hne : r.trail = [] := Zfr (nb0 h3)
        rw [show trl r.trail = [] from if_pos hne, List.append_nil] at hD
        rw [hD]; exact ⟨rfl, hn⟩
     ·rintro x es ⟨rfl, hs⟩
      exact Zq4 (J := fun _ es => es = txs (Zad (l.take (i + 1))) /\ Zad (l.take (i + 1)) ≠ []) hd ihx.1 hs hD.symm hT fun _ => ⟨rfl, by rw [hD]; simp [hs]⟩
    ·rw [List.nil_append] at h0 ⊢
     have hPn : ∀ Q, r.lead ++ Q ≠ [] := fun Q => by simp [h0]
     refine ⟨fun _ es => es = txs (r.lead ++ Zap r.subs), ⟨fun x es => ∃ j : Nat, x = j /\ j <= r.subs.length /\ es = txs (r.lead ++ Zap (r.subs.take j)), fun x _ => r.subs.length - x.toNat, ⟨0, rfl, Nat.zero_le _, by simp [Zap]⟩, ?_, trivial⟩, ?_, trivial⟩
     ·rintro x es ⟨j, rfl, hj, rfl⟩
      refine ⟨fun hcj => ?_, fun hcj => ?_⟩
      ·have j1 : j < r.subs.length := by have := Zah hcj; omega
       rw [Zby rfl j1]
       have hm := List.getElem_mem j1
       have S := Za4 j1
       have hs2 := sub j1
       have hn : r.lead ++ Zap (r.subs.take j) ++ comE r.subs[j] ≠ [] := by simp [h0]
       exact ⟨tle (by omega), teq (by simp), Zes (B := B86 (.up e) (.up d) (.up a) (.up o)) hn (Zck (hPn _) ▸ ihx.2 _ hm (r.lead ++ Zap (r.subs.take j)) _ _ _ _ hd.up (by simp only [List.length_append]; omega)) ⟨tle (by omega), tle (by omega), ⟨j + 1, rfl, j1, by rw [List.append_assoc, S]⟩, dec j1⟩⟩
      ·have j1 : r.subs.length <= j := by have := Zai hcj; omega
       rw [List.take_of_length_le j1]
     ·rintro x es rfl
      exact Zq4 (J := fun _ es => es = txs (Zad (l.take (i + 1))) /\ Zad (l.take (i + 1)) ≠ []) hd ihx.1 (hPn _) hD.symm hT fun _ => ⟨rfl, by rw [hD]; simp [h0]⟩
   ·have k1 : l.length <= i := by have := Zai hc; simp at this; omega
    rw [List.take_of_length_le k1] at hr
    rw [hr]; exact ⟨rfl, rfl⟩
  ·rintro x es ⟨i, rfl, hi, rfl, hr⟩
   refine ⟨fun hc => ?_, fun hc => ?_⟩
   ·have k1 : i < l.length := by have := Zah hc; simp at this; omega
    have hx := List.getElem_mem k1
    have L := hlm _ hx
    have ihx := ih _ hx
    have T := Zds k1
    have hT : (Zad (l.take (i + 1))).length <= 2 ^ 30 := Nat.le_trans (Zf3 l (i + 1)) (by omega)
    rw [Ze7 rfl k1]
    generalize l[i] = r at L ihx T
    have hD : Zad (l.take (i + 1)) = (Zad (l.take i) ++ r.lead ++ Zap r.subs) ++ Zad r.decls ++ r.tail ++ trl r.trail := by rw [<- T, Zhl]; simp
    have hne : Zad (l.take (i + 1)) ≠ [] := by rw [hD]; simp [hr]
    have hlen := congrArg List.length hD
    simp only [List.length_append] at hlen hT
    have L1 := L.1
    have hPn : ∀ Q, Zad (l.take i) ++ r.lead ++ Q ≠ [] := fun Q => by simp [hr]
    simp only [Zay, d0, d1, d2, d3, d4, d5, d6, d7, d8, d9, d10, isK_int, isK_str, isK_slc, Zav, Za3, Zam, true_and, Zao, Zaq, Zau]
    refine ⟨fun _ _ es => es = txs (Zad (l.take (i + 1))), ⟨tle (by omega), teq rfl, Zes (B := B85 (.up o)) (Q := Zad (l.take i) ++ r.lead) (by simp [hr]) (Zck hr ▸ c85 (Zad (l.take i)) r.lead (.up o) (by simp only [List.length_append]; omega)) ⟨fun _ es => es = txs (Zad (l.take i) ++ r.lead ++ Zap r.subs), ⟨fun x es => ∃ j : Nat, x = j /\ j <= r.subs.length /\ es = txs (Zad (l.take i) ++ r.lead ++ Zap (r.subs.take j)), fun x _ => r.subs.length - x.toNat, ⟨0, rfl, Nat.zero_le _, by simp [Zap]⟩, ?_, trivial⟩, ?_, trivial⟩⟩, fun _ _ es h => ⟨tle (by omega), tle (by omega), ⟨i + 1, rfl, k1, h, hne⟩, dec k1⟩, trivial⟩
    ·rintro x es ⟨j, rfl, hj, rfl⟩
     refine ⟨fun hcj => ?_, fun hcj => ?_⟩
     ·have j1 : j < r.subs.length := by have := Zah hcj; omega
      rw [Zby rfl j1]
      have hm := List.getElem_mem j1
      have S := Za4 j1
      have hs2 := sub j1
      exact ⟨tle (by omega), teq (by simp), Zes (B := B86 (.up e) (.up d) (.up a) (.up o)) (Q := Zad (l.take i) ++ r.lead ++ Zap (r.subs.take j) ++ comE r.subs[j]) (by simp [hr]) (Zck (hPn _) ▸ ihx.2 _ hm (Zad (l.take i) ++ r.lead ++ Zap (r.subs.take j)) _ _ _ _ hd.up (by simp only [List.length_append]; omega)) ⟨tle (by omega), tle (by omega), ⟨j + 1, rfl, j1, by rw [List.append_assoc, S]⟩, dec j1⟩⟩
     ·have j1 : r.subs.length <= j := by have := Zai hcj; omega
      rw [List.take_of_length_le j1]
    ·rintro x es rfl
     exact Zq4 (J := fun _ es => es = txs (Zad (l.take (i + 1)))) hd ihx.1 (hPn _) hD.symm hT fun _ => rfl
   ·have k1 : l.length <= i := by have := Zai hc; simp at this; omega
    rw [List.take_of_length_le k1] at hr ⊢
    rw [Zck hr]; exact ⟨rfl, rfl⟩
 ·rw [Zck hP]
  have hPd : ∀ Q, P ++ Q ≠ [] := fun Q => by simp [hP]
  refine w87b (Zar l) (txs P) a o e d hd.2.2.2.2.2 hd.2.1.symm hd.2.2.2.1.symm hd.2.2.1.symm hd.2.2.2.2.1.symm hd.1 ?_
  refine ⟨fun x es => ∃ i : Nat, x = i /\ i <= l.length /\ es = txs (P ++ Zad (l.take i)), fun x _ => l.length - x.toNat, ⟨0, rfl, Nat.zero_le _, by simp [Zad]⟩, ?_, trivial⟩
  rintro x es ⟨i, rfl, hi, rfl⟩
  refine ⟨fun hc => ?_, fun hc => ?_⟩
  ·have k1 : i < l.length := by have := Zah hc; simp at this; omega
   have hx := List.getElem_mem k1
   have L := hlm _ hx
   have ihx := ih _ hx
   have T := Zds k1
   have hr := hPd (Zad (l.take i))
   have hT : (P ++ Zad (l.take (i + 1))).length <= 2 ^ 30 := by have := Zf3 l (i + 1); simp only [List.length_append]; omega
   rw [Ze7 rfl k1]
   generalize l[i] = r at L ihx T
   have hD : P ++ Zad (l.take (i + 1)) = (P ++ Zad (l.take i) ++ r.lead ++ Zap r.subs) ++ Zad r.decls ++ r.tail ++ trl r.trail := by rw [<- T, Zhl]; simp
   have hlen := congrArg List.length hD
   simp only [List.length_append] at hlen hT
   have L1 := L.1
   have hPn : ∀ Q, P ++ Zad (l.take i) ++ r.lead ++ Q ≠ [] := fun Q => by simp [hP]
   simp only [Zay, d0, d1, d2, d3, d4, d5, d6, d7, d8, d9, d10, isK_int, isK_str, isK_slc, Zav, Za3, Zam, true_and, Zao, Zaq, Zau]
   refine ⟨fun _ _ es => es = txs (P ++ Zad (l.take (i + 1))), ⟨tle (by omega), teq rfl, Zes (B := B85 (.up o)) (Q := P ++ Zad (l.take i) ++ r.lead) (by simp [hP]) (Zck hr ▸ c85 (P ++ Zad (l.take i)) r.lead (.up o) (by simp only [List.length_append]; omega)) ⟨fun x es => ∃ j : Nat, x = j /\ j <= r.subs.length /\ es = txs (P ++ Zad (l.take i) ++ r.lead ++ Zap (r.subs.take j)), fun x _ => r.subs.length - x.toNat, ⟨0, rfl, Nat.zero_le _, by simp [Zap]⟩, ?_, trivial⟩⟩, fun _ _ es h => ⟨tle (by omega), tle (by omega), ⟨i + 1, rfl, k1, h⟩, dec k1⟩, trivial⟩
   ·rintro x es ⟨j, rfl, hj, rfl⟩
    refine ⟨fun hcj => ?_, fun hcj => ?_⟩
    ·have j1 : j < r.subs.length := by have := Zah hcj; omega
     rw [Zby rfl j1]
     have hm := List.getElem_mem j1
     have S := Za4 j1
     have hs2 := sub j1
     exact ⟨tle (by omega), teq (by simp), Zes (B := B86 (.up e) (.up d) (.up a) (.up o)) (Q := P ++ Zad (l.take i) ++ r.lead ++ Zap (r.subs.take j) ++ comE r.subs[j]) (by simp [hP]) (Zck (hPn _) ▸ ihx.2 _ hm (P ++ Zad (l.take i) ++ r.lead ++ Zap (r.subs.take j)) _ _ _ _ hd.up (by simp only [List.length_append]; omega)) ⟨tle (by omega), tle (by omega), ⟨j + 1, rfl, j1, by rw [List.append_assoc, S]⟩, dec j1⟩⟩
    ·have j1 : r.subs.length <= j := by have := Zai hcj; omega
     rw [List.take_of_length_le j1]
     exact Zq4 (J := fun _ es => es = txs (P ++ Zad (l.take (i + 1)))) hd ihx.1 (hPn _) hD.symm (by simp only [List.length_append]; exact hT) fun _ => rfl
  ·have k1 : l.length <= i := by have := Zai hc; simp at this; omega
   rw [List.take_of_length_le k1, Zck (hPd _)]; exact ⟨rfl, rfl⟩
theorem Z3g : ∀ r : Nd, Lm r -> H86 r /\ H87 r.decls /\ ∀ e ∈ r.subs, H86 e := by
 refine Zdi fun r hs hd hl => ?_
 have L := hl.here
 have ihs : ∀ e ∈ r.subs, H86 e := fun x hx => (hs x hx (hl.sub hx)).1
 have ihd : H87 r.decls := c87 r.decls L.2.1 (fun x hx => (hl.dec hx).here) fun x hx => (hd x hx (hl.dec hx)).2
 exact ⟨c86 r L.1 ihs ihd, ihd, ihs⟩
theorem c31 (f : Fl) (hb : (comF f).length <= 2 ^ 30) (h : LmF f) : Holds Tryz.prog 31 [.agg (Zdf f)] [] (Ret (slA (txs (comF f)))) := by
 have hl : (Zad f.decls).length + f.tail.length <= 2 ^ 30 := by unfold comF at hb; simpa using hb
 have c : H87 f.decls := c87 f.decls h.1.2.1 (fun x hx => (h.2 x hx).here) fun x hx => (Z3g x (h.2 x hx)).2
 have dst : ∀ ν : Nat -> Nat, Dst (.own 5 (ν 5)) (.own 6 (ν 6)) (.own 4 (ν 4)) (.own 3 (ν 3)) := fun ν => by unfold Dst; simp
 refine Holds.ofD (w31 _ ?_)
 simp only [Zbl, f0, f1, f2, f3, isK_str, isK_slc, Za3, Zam, true_and]
 refine ⟨teq rfl, fun ν => callT (B := B87 (.own 5 (ν 5)) (.own 6 (ν 6)) (.own 4 (ν 4)) (.own 3 (ν 3))) (c [] _ _ _ _ (dst ν) (by simp only [List.nil_append]; omega)) (fun h0 ν => ?_) (fun h0 ν => ?_) ν⟩
 ·rw [List.nil_append] at h0
  refine callT (B := B85 (.own 3 (ν 3))) (c85 [] f.tail _ (by simp only [List.nil_append]; omega)) (fun h1 => ?_) (fun h1 => ?_) ν
  ·rw [List.nil_append] at h1
   exact ⟨rfl, _, rfl, by unfold comF; rw [h0, h1]; exact .zs _⟩
  ·exact ⟨rfl, _, rfl, by unfold comF; rw [h0]; exact .same _⟩
 ·rw [List.nil_append] at h0 ⊢
  refine Zes (B := B85 (.own 3 (ν 3))) (Q := Zad f.decls ++ f.tail) (by simp [h0]) (Zck h0 ▸ c85 (Zad f.decls) f.tail _ (by simp only [List.length_append]; omega)) ?_ ν
  exact ⟨rfl, _, rfl, .same _⟩
end Go.Sy
end
section
open Go Go.Proofs Go.Ab Go.Rf
set_option linter.unusedSimpArgs false
set_option maxRecDepth 100000
namespace Go.Sy
theorem Ze4 {l m : List Nd} (h : eqEs l m = true) : l.length = m.length := by
 by_cases e : l.length = m.length
 ·exact e
 ·rw [Zq1 e] at h; cases h
theorem Zpo {l m : List Nd} (h : eqDs l m = true) : l.length = m.length := by
 by_cases e : l.length = m.length
 ·exact e
 ·rw [Zl3 e] at h; cases h
theorem Zpp {l m : List Im} (h : eqIs l m = true) : l.length = m.length := by
 by_cases e : l.length = m.length
 ·exact e
 ·rw [Zl5 e] at h; cases h
theorem Zn3 {x y : Nd} (h : eqE x y = true) : (x.kind = y.kind /\ x.text = y.text /\ x.num = y.num /\ x.n0 = y.n0 /\ x.n1 = y.n1) /\ x.tail = y.tail /\ eqEs x.subs y.subs = true /\ eqDs x.decls y.decls = true := by
 rw [Zuu] at h
 simp only [Bool.and_eq_true, beq_iff_eq, decide_eq_true_eq] at h
 exact ⟨⟨h.1.1.1.1.1.1.1, h.1.1.1.1.1.1.2, h.1.1.1.1.1.2, h.1.1.1.1.2, h.1.1.1.2⟩, h.1.1.2, h.1.2, h.2⟩
theorem Zn4 {x y : Nd} (h : eqD x y = true) : (x.kind = y.kind /\ x.num = y.num /\ x.text = y.text /\ x.n0 = y.n0 /\ x.n1 = y.n1) /\ x.trail = y.trail /\ x.lead = y.lead /\ x.tail = y.tail /\ eqEs x.subs y.subs = true /\ eqDs x.decls y.decls = true := by
 rw [Zuv] at h
 simp only [Bool.and_eq_true, beq_iff_eq, decide_eq_true_eq] at h
 exact ⟨⟨h.1.1.1.1.1.1.1.1.1, h.1.1.1.1.1.1.1.1.2, h.1.1.1.1.1.1.1.2, h.1.1.1.1.1.1.2, h.1.1.1.1.1.2⟩, h.1.1.1.1.2, h.1.1.1.2, h.1.1.2, h.1.2, h.2⟩
theorem c66 (l m : List Nd) (hl : l.length <= 2 ^ 50) (hlm : ∀ x ∈ l, Lim x) (ih : ∀ x ∈ l, (∀ m, Holds Tryz.prog 66 [slA (Zar x.decls), slA (Zar m)] [] (Ret (Zbm (eqDs x.decls m)))) /\
 ∀ e ∈ x.subs, ∀ y, Holds Tryz.prog 22 [.agg (encE e), .agg (encE y)] [] (Ret (Zbm (eqE e y)))) :
 Holds Tryz.prog 66 [slA (Zar l), slA (Zar m)] [] (Ret (Zbm (eqDs l m))) := by
 refine w66 _ _ ⟨fun h => ?_, fun h => ?_⟩
 ·exact ⟨by rw [Zl3 (by simp at h; omega)], rfl⟩
 ·have hlen : l.length = m.length := by simp at h; omega
  refine ⟨fun x => ∃ i : Nat, x = i /\ i <= l.length /\ eqDs (l.drop i) (m.drop i) = eqDs l m, fun x => l.length - x.toNat, ⟨0, rfl, Nat.zero_le _, rfl⟩, ?_, trivial⟩
  rintro x ⟨i, rfl, hi, hr⟩
  refine ⟨fun hc => ?_, fun hc => ?_⟩
  ·have h1 : i < l.length := by have := Zah hc; simp at this; omega
   have h2 : i < m.length := by omega
   rw [Zaz h1, Zaz h2, eqDs] at hr
   have hx := List.getElem_mem h1
   have l1 := hlm _ hx
   have ihx := ih _ hx
   rw [Ze7 rfl h1, Ze7 rfl h2]
   generalize l[i] = a at hr l1 ihx
   generalize m[i] = b at hr
   have no : eqD a b = false -> Ret (Zbm (eqDs l m)) (.ret (Zbm false)) [] := fun h => ⟨by rw [<- hr, h]; rfl, rfl⟩
   simp only [Zay, d0, d1, d2, d3, d4, d5, d6, d7, d8, d9, d10, isK_int, isK_str, isK_slc, Zav, Za3, Zam, Bool.or_true, true_and]
   refine ⟨tle (by omega), tlt (by simp; omega), teq rfl, teq rfl, fun hn => no ?_, fun hn => ?_⟩
   ·cases he : eqD a b with
    | false => rfl
    | true =>
      exfalso
      obtain ⟨⟨p1, p2, p3, p4, p5⟩, p6, _, _, p7, _⟩ := Zn4 he
      have := Ze4 p7
      simp [p1, p2, p3, p4, p5, p6, this] at hn
   ·have hn' : ((a.kind = b.kind /\ a.num = b.num /\ a.text = b.text /\ a.n0 = b.n0 /\ a.n1 = b.n1) /\ a.trail = b.trail) /\ a.subs.length = b.subs.length := by
     simp only [Zkh, Bool.or_eq_false_iff, Bool.not_eq_false', Bool.and_eq_true, beq_iff_eq, Zao] at hn
     obtain ⟨⟨⟨⟨⟨q1, q2⟩, q3⟩, q4⟩, q5⟩, q6⟩ := hn
     exact ⟨⟨⟨q1, q2, q3, q4.1, q4.2⟩, q5⟩, by omega⟩
    obtain ⟨⟨⟨q1, q2, q3, q4, q4'⟩, q5⟩, q6⟩ := hn'
    have hed : eqD a b = (decide (a.lead = b.lead) && decide (a.tail = b.tail) && eqEs a.subs b.subs && eqDs a.decls b.decls) := by rw [Zuv, q1, q2, q3, q4, q4', q5]; simp
    rw [hed] at no hr
    refine Zak (c23 _ _ (Nat.le_trans l1.2.2.2 (by omega))) ⟨_, rfl, rfl, fun h3 => ?_, fun h3 => no (by simp [h3])⟩
    refine Zak (c23 _ _ (Nat.le_trans l1.2.2.1 (by omega))) ⟨_, rfl, rfl, fun h4 => ?_, fun h4 => no (by simp [h4])⟩
    refine Zak (ihx.1 b.decls) ⟨_, rfl, rfl, fun h5 => no (by rw [nb1 h5]; simp), fun h5 => ?_⟩
    have h5 : eqDs a.decls b.decls = true := by simpa using h5
    refine ⟨fun x => ∃ j : Nat, x = j /\ j <= a.subs.length /\ eqEs (a.subs.drop j) (b.subs.drop j) = eqEs a.subs b.subs, fun x => a.subs.length - x.toNat, ⟨0, rfl, Nat.zero_le _, rfl⟩, ?_, trivial⟩
    rintro x ⟨j, rfl, hj, hrj⟩
    refine ⟨fun hcj => ?_, fun hcj => ?_⟩
    ·have k1 : j < a.subs.length := by have := Zah hcj; simp at this; omega
     have k2 : j < b.subs.length := by omega
     rw [Zaz k1, Zaz k2, eqEs] at hrj
     rw [Zby rfl k1, Zby rfl k2]
     refine ⟨tle (by omega), teq (by simp), tlt (by simp; omega), teq (by simp), Zak (ihx.2 _ (List.getElem_mem k1) _) ⟨_, rfl, rfl, fun hn => ?_, fun hn => ⟨tle (by omega), tle (by have := l1.1; omega), ⟨j + 1, rfl, k1, ?_⟩, dec k1⟩⟩⟩
     ·have hn : eqE a.subs[j] b.subs[j] = false := by simpa using hn
      exact no (by rw [<- hrj, hn]; simp)
     ·have hn : eqE a.subs[j] b.subs[j] = true := by simpa using hn
      rw [<- hrj, hn]; rfl
    ·have k1 : a.subs.length <= j := by have := Zai hcj; simp at this; omega
     rw [Za7 k1, Za7 (by omega)] at hrj
     have h6 : eqEs a.subs b.subs = true := by rw [<- hrj]; simp [eqEs]
     exact ⟨tle (by omega), tle (by omega), ⟨i + 1, rfl, h1, by rw [<- hr, h3, h4, h5, h6]; rfl⟩, dec h1⟩
  ·have h1 : l.length <= i := by have := Zai hc; simp at this; omega
   rw [Za7 h1, Za7 (by omega)] at hr
   exact ⟨by rw [<- hr]; simp [eqDs], rfl⟩
theorem Z2f : ∀ (r : Nd), Lm r -> (∀ y, Holds Tryz.prog 22 [.agg (encE r), .agg (encE y)] [] (Ret (Zbm (eqE r y)))) /\ (∀ m, Holds Tryz.prog 66 [slA (Zar r.decls), slA (Zar m)] [] (Ret (Zbm (eqDs r.decls m)))) /\
 ∀ e ∈ r.subs, ∀ y, Holds Tryz.prog 22 [.agg (encE e), .agg (encE y)] [] (Ret (Zbm (eqE e y))) := by
 refine Zdi fun r hs hd hl => ?_
 have l1 := hl.here
 have ihs : ∀ e ∈ r.subs, ∀ y, Holds Tryz.prog 22 [.agg (encE e), .agg (encE y)] [] (Ret (Zbm (eqE e y))) := fun x hx => (hs x hx (hl.sub hx)).1
 have ihd : ∀ m, Holds Tryz.prog 66 [slA (Zar r.decls), slA (Zar m)] [] (Ret (Zbm (eqDs r.decls m))) := fun m =>
  c66 r.decls m l1.2.1 (fun x hx => (hl.dec hx).here) fun x hx => (hd x hx (hl.dec hx)).2
 refine ⟨fun y => ?_, ihd, ihs⟩
 have no : eqE r y = false -> Ret (Zbm (eqE r y)) (.ret (Zbm false)) [] := fun h => ⟨by rw [h], rfl⟩
 refine w22 (encE r) (encE y) ?_
 simp only [Zbq, e0, e1, e2, e3, e4, e5, e6, e7, e8, isK_int, isK_str, isK_slc, Zav, Za3, Zam, Bool.or_true, true_and]
 refine ⟨teq rfl, teq rfl, fun hn => ?_, fun hn => no ?_⟩
 ·have hn' : (r.kind = y.kind /\ r.text = y.text /\ r.num = y.num /\ r.n0 = y.n0 /\ r.n1 = y.n1) /\ r.subs.length = y.subs.length := by
   simp only [Zkh, Bool.or_eq_false_iff, Bool.not_eq_true', Bool.not_eq_false', Bool.and_eq_true, beq_iff_eq, Zao] at hn
   obtain ⟨⟨⟨⟨q1, q2⟩, q3⟩, q4⟩, q6⟩ := hn
   exact ⟨⟨q1, q2, q3, q4.1, q4.2⟩, by omega⟩
  obtain ⟨⟨q1, q2, q3, q4, q4'⟩, q6⟩ := hn'
  have hee : eqE r y = (decide (r.tail = y.tail) && eqEs r.subs y.subs && eqDs r.decls y.decls) := by rw [Zuu, q1, q2, q3, q4, q4']; simp
  rw [hee] at no ⊢
  refine Zak (c23 _ _ (Nat.le_trans l1.2.2.1 (by omega))) ⟨_, rfl, rfl, fun h3 => no (by rw [nb1 h3]; rfl), fun h3 => ?_⟩
  have h3 : decide (r.tail = y.tail) = true := by simpa using h3
  refine ⟨fun x => ∃ j : Nat, x = j /\ j <= r.subs.length /\ eqEs (r.subs.drop j) (y.subs.drop j) = eqEs r.subs y.subs, fun x => r.subs.length - x.toNat, ⟨0, rfl, Nat.zero_le _, rfl⟩, ?_, trivial⟩
  rintro x ⟨j, rfl, hj, hrj⟩
  refine ⟨fun hcj => ?_, fun hcj => ?_⟩
  ·have k1 : j < r.subs.length := by have := Zah hcj; simp at this; omega
   have k2 : j < y.subs.length := by omega
   rw [Zaz k1, Zaz k2, eqEs] at hrj
   rw [Zby rfl k1, Zby rfl k2]
   refine ⟨tle (by omega), teq (by simp), tlt (by simp; omega), teq (by simp), Zak (ihs _ (List.getElem_mem k1) _) ⟨_, rfl, rfl, fun hn => ?_, fun hn => ⟨tle (by omega), tle (by have := l1.1; omega), ⟨j + 1, rfl, k1, ?_⟩, dec k1⟩⟩⟩
   ·have hn : eqE r.subs[j] y.subs[j] = false := by simpa using hn
    exact no (by rw [<- hrj, hn]; simp)
   ·have hn : eqE r.subs[j] y.subs[j] = true := by simpa using hn
    rw [<- hrj, hn]; rfl
  ·have k1 : r.subs.length <= j := by have := Zai hcj; simp at this; omega
   rw [Za7 k1, Za7 (by omega)] at hrj
   have h6 : eqEs r.subs y.subs = true := by rw [<- hrj]; simp [eqEs]
   exact Zak (ihd y.decls) ⟨_, rfl, rfl, by rw [h3, h6]; simp, rfl⟩
 ·cases he : eqE r y with
  | false => rfl
  | true =>
    exfalso
    obtain ⟨⟨p1, p2, p3, p4, p5⟩, _, p7, _⟩ := Zn3 he
    have := Ze4 p7
    simp [p1, p2, p3, p4, p5, this] at hn
theorem c22 (r y : Nd) (h : Lm r) : Holds Tryz.prog 22 [.agg (encE r), .agg (encE y)] [] (Ret (Zbm (eqE r y))) := (Z2f r h).1 y
theorem c66' (l m : List Nd) (hl : l.length <= 2 ^ 50) (h : ∀ x ∈ l, Lm x) : Holds Tryz.prog 66 [slA (Zar l), slA (Zar m)] [] (Ret (Zbm (eqDs l m))) :=
 c66 l m hl (fun x hx => (h x hx).here) fun x hx => (Z2f x (h x hx)).2
theorem Zpq : ∀ {l m : List Nd} {i : Nat} (h : eqEs l m = true) (h1 : i < l.length) (h2 : i < m.length), eqE l[i] m[i] = true
 | a :: l, b :: m, 0, h, _, _ => by rw [eqEs, Bool.and_eq_true] at h; exact h.1
 | a :: l, b :: m, i + 1, h, h1, h2 => by rw [eqEs, Bool.and_eq_true] at h; exact Zpq h.2 (by simpa using h1) (by simpa using h2)
theorem Zvc : ∀ {l m : List Nd} {i : Nat} (h : eqDs l m = true) (h1 : i < l.length) (h2 : i < m.length), eqD l[i] m[i] = true
 | a :: l, b :: m, 0, h, _, _ => by rw [eqDs, Bool.and_eq_true] at h; exact h.1
 | a :: l, b :: m, i + 1, h, h1, h2 => by rw [eqDs, Bool.and_eq_true] at h; exact Zvc h.2 (by simpa using h1) (by simpa using h2)
mutual
def plE : Nd -> Nd -> Bool
 | .mk _ _ _ _ _ _ _ _ p s d, y => plEs s y.subs && (p == y.pos && plDs d y.decls)
def plEs : List Nd -> List Nd -> Bool
 | a :: l, b :: m => plE a b && plEs l m
 | _, _ => true
def plD : Nd -> Nd -> Bool
 | .mk _ _ _ _ _ _ _ _ p s d, y => p == y.pos && (plDs d y.decls && plEs s y.subs)
def plDs : List Nd -> List Nd -> Bool
 | a :: l, b :: m => plD a b && plDs l m
 | _, _ => true
end
theorem Zx8 (x y : Nd) : plE x y = (plEs x.subs y.subs && (x.pos == y.pos && plDs x.decls y.decls)) := by cases x; rw [plE]; rfl
theorem Zx9 (x y : Nd) : plD x y = (x.pos == y.pos && (plDs x.decls y.decls && plEs x.subs y.subs)) := by cases x; rw [plD]; rfl
theorem c84 (l m : List Nd) (hl : l.length <= 2 ^ 50) (hlm : ∀ x ∈ l, Lim x) (he : eqDs l m = true) (ih : ∀ x ∈ l, (∀ m, eqDs x.decls m = true -> Holds Tryz.prog 84 [slA (Zar x.decls), slA (Zar m)] [] (Ret (Zbm (plDs x.decls m)))) /\
 ∀ e ∈ x.subs, ∀ y, eqE e y = true -> Holds Tryz.prog 89 [.agg (encE e), .agg (encE y)] [] (Ret (Zbm (plE e y)))) :
 Holds Tryz.prog 84 [slA (Zar l), slA (Zar m)] [] (Ret (Zbm (plDs l m))) := by
 have hlen := Zpo he
 refine w84 _ _ ⟨fun x => ∃ i : Nat, x = i /\ i <= l.length /\ plDs (l.drop i) (m.drop i) = plDs l m, fun x => l.length - x.toNat, ⟨0, rfl, Nat.zero_le _, rfl⟩, ?_, trivial⟩
 rintro x ⟨i, rfl, hi, hr⟩
 refine ⟨fun hc => ?_, fun hc => ?_⟩
 ·have h1 : i < l.length := by have := Zah hc; simp at this; omega
  have h2 : i < m.length := by omega
  rw [Zaz h1, Zaz h2, plDs] at hr
  have hx := List.getElem_mem h1
  have l1 := hlm _ hx
  have ihx := ih _ hx
  have hab := Zvc he h1 h2
  rw [Ze7 rfl h1, Ze7 rfl h2]
  generalize l[i] = a at hr l1 ihx hab
  generalize m[i] = b at hr hab
  have no : plD a b = false -> Ret (Zbm (plDs l m)) (.ret (Zbm false)) [] := fun h => ⟨by rw [<- hr, h]; rfl, rfl⟩
  obtain ⟨_, _, _, _, p7, p8⟩ := Zn4 hab
  have q6 := Ze4 p7
  rw [Zx9] at no hr
  simp only [Zay, d0, d1, d2, d3, d4, d5, d6, d7, d8, d9, d10, isK_int, isK_str, isK_slc, Zav, Za3, Zam, Bool.or_true, true_and]
  refine ⟨tle (by omega), teq rfl, tle (by omega), tlt (by simp; omega), teq rfl, tle (by omega), by simp, by simp, fun hn => ?_, fun hn => no (by rw [Zkh] at hn; rw [hn]; rfl)⟩
  rw [Zkh] at hn
  refine Zak (ihx.1 b.decls p8) ⟨_, rfl, rfl, fun h5 => no (by rw [nb1 h5]; simp), fun h5 => ?_⟩
  refine ⟨tle (by omega), fun x => ∃ j : Nat, x = j /\ j <= a.subs.length /\ plEs (a.subs.drop j) (b.subs.drop j) = plEs a.subs b.subs, fun x => a.subs.length - x.toNat, ⟨0, rfl, Nat.zero_le _, rfl⟩, ?_, trivial⟩
  rintro x ⟨j, rfl, hj, hrj⟩
  refine ⟨fun hcj => ?_, fun hcj => ?_⟩
  ·have k1 : j < a.subs.length := by have := Zah hcj; simp at this; omega
   have k2 : j < b.subs.length := by omega
   rw [Zaz k1, Zaz k2, plEs] at hrj
   rw [Zby rfl k1, Zby rfl k2]
   refine ⟨tle (by omega), teq (by simp), tle (by omega), tlt (by simp; omega), teq (by simp), Zak (ihx.2 _ (List.getElem_mem k1) _ (Zpq p7 k1 k2)) ⟨_, rfl, rfl, fun hn => no (by rw [<- hrj, nb1 hn]; simp), fun hn => ⟨tle (by omega), tle (by have := l1.1; omega), ⟨j + 1, rfl, k1, by rw [<- hrj, nb0 hn]; rfl⟩, dec k1⟩⟩⟩
  ·have k1 : a.subs.length <= j := by have := Zai hcj; simp at this; omega
   rw [Za7 k1, Za7 (by omega)] at hrj
   have h6 : plEs a.subs b.subs = true := by rw [<- hrj]; simp [plEs]
   exact ⟨tle (by omega), tle (by omega), ⟨i + 1, rfl, h1, by rw [<- hr, hn, nb0 h5, h6]; rfl⟩, dec h1⟩
 ·have h1 : l.length <= i := by have := Zai hc; simp at this; omega
  rw [Za7 h1, Za7 (by omega)] at hr
  exact ⟨by rw [<- hr]; simp [plDs], rfl⟩
theorem Z2g : ∀ (r : Nd), Lm r -> (∀ y, eqE r y = true -> Holds Tryz.prog 89 [.agg (encE r), .agg (encE y)] [] (Ret (Zbm (plE r y)))) /\ (∀ m, eqDs r.decls m = true -> Holds Tryz.prog 84 [slA (Zar r.decls), slA (Zar m)] [] (Ret (Zbm (plDs r.decls m)))) /\
 ∀ e ∈ r.subs, ∀ y, eqE e y = true -> Holds Tryz.prog 89 [.agg (encE e), .agg (encE y)] [] (Ret (Zbm (plE e y))) := by
 refine Zdi fun r hs hd hl => ?_
 have l1 := hl.here
 have ihs : ∀ e ∈ r.subs, ∀ y, eqE e y = true -> Holds Tryz.prog 89 [.agg (encE e), .agg (encE y)] [] (Ret (Zbm (plE e y))) := fun x hx => (hs x hx (hl.sub hx)).1
 have ihd : ∀ m, eqDs r.decls m = true -> Holds Tryz.prog 84 [slA (Zar r.decls), slA (Zar m)] [] (Ret (Zbm (plDs r.decls m))) := fun m hm =>
  c84 r.decls m l1.2.1 (fun x hx => (hl.dec hx).here) hm fun x hx => (hd x hx (hl.dec hx)).2
 refine ⟨fun y hy => ?_, ihd, ihs⟩
 obtain ⟨_, _, p7, p8⟩ := Zn3 hy
 have q6 := Ze4 p7
 have no : plE r y = false -> Ret (Zbm (plE r y)) (.ret (Zbm false)) [] := fun h => ⟨by rw [h], rfl⟩
 rw [Zx8] at no ⊢
 refine w89 (encE r) (encE y) ?_
 simp only [Zbq, e0, e1, e2, e3, e4, e5, e6, e7, e8, isK_int, isK_str, isK_slc, Zav, Za3, Zam, Bool.or_true, true_and]
 refine ⟨teq rfl, teq rfl, fun x => ∃ j : Nat, x = j /\ j <= r.subs.length /\ plEs (r.subs.drop j) (y.subs.drop j) = plEs r.subs y.subs, fun x => r.subs.length - x.toNat, ⟨0, rfl, Nat.zero_le _, rfl⟩, ?_, trivial⟩
 rintro x ⟨j, rfl, hj, hrj⟩
 refine ⟨fun hcj => ?_, fun hcj => ⟨fun hn => ?_, fun hn => no (by rw [Zkh] at hn; rw [hn]; simp)⟩⟩
 ·have k1 : j < r.subs.length := by have := Zah hcj; simp at this; omega
  have k2 : j < y.subs.length := by omega
  rw [Zaz k1, Zaz k2, plEs] at hrj
  rw [Zby rfl k1, Zby rfl k2]
  refine ⟨tle (by omega), teq (by simp), tlt (by simp; omega), teq (by simp), Zak (ihs _ (List.getElem_mem k1) _ (Zpq p7 k1 k2)) ⟨_, rfl, rfl, fun hn => no (by rw [<- hrj, nb1 hn]; rfl), fun hn => ⟨tle (by omega), tle (by have := l1.1; omega), ⟨j + 1, rfl, k1, by rw [<- hrj, nb0 hn]; rfl⟩, dec k1⟩⟩⟩
 ·have k1 : r.subs.length <= j := by have := Zai hcj; simp at this; omega
  rw [Za7 k1, Za7 (by omega)] at hrj
  have h6 : plEs r.subs y.subs = true := by rw [<- hrj]; simp [plEs]
  rw [Zkh] at hn
  exact Zak (ihd y.decls p8) ⟨_, rfl, rfl, by rw [h6, hn]; rfl, rfl⟩
theorem c36 (r y : Nd) (h : Lm r) : Holds Tryz.prog 36 [.agg (encE r), .agg (encE y)] [] (Ret (Zbm (eqE r y && plE r y))) := by
 refine w36 _ _ ⟨teq (by simp), teq (by simp), Zak (c22 r y h) ⟨_, rfl, rfl, fun h1 => ?_, fun h1 => ⟨by rw [h1]; rfl, rfl⟩⟩⟩
 exact Zak ((Z2g r h).1 y h1) ⟨_, rfl, rfl, by rw [h1]; rfl, rfl⟩
theorem c20 (f g : Fl) (h : LmF f) : Holds Tryz.prog 20 [.agg (Zdf f), .agg (Zdf g)] [] (Ret (Zbm (eqF f g))) := by
 have no : eqF f g = false -> Ret (Zbm (eqF f g)) (.ret (Zbm false)) [] := fun h => ⟨by rw [h], rfl⟩
 unfold eqF at no ⊢
 refine w20 _ _ ?_
 simp only [Zbl, f0, f1, f2, f3, isK_str, isK_slc, Za3, Zam, Bool.or_true, true_and]
 refine ⟨teq rfl, teq rfl, fun hn => ?_, fun hn => no ?_⟩
 ·have hn' : f.pkg = g.pkg /\ f.imps.length = g.imps.length := by
   simp only [Zkh, Bool.or_eq_false_iff, Bool.not_eq_true', Bool.not_eq_false', beq_iff_eq, Zct] at hn
   exact ⟨hn.1, by omega⟩
  obtain ⟨q1, q2⟩ := hn'
  refine Zak (c23 _ _ (Nat.le_trans h.1.2.2 (by omega))) ⟨_, rfl, rfl, fun h3 => no (by rw [nb1 h3]; simp), fun h3 => ?_⟩
  refine ⟨fun x => ∃ j : Nat, x = j /\ j <= f.imps.length /\ eqIs (f.imps.drop j) (g.imps.drop j) = eqIs f.imps g.imps, fun x => f.imps.length - x.toNat, ⟨0, rfl, Nat.zero_le _, rfl⟩, ?_, trivial⟩
  rintro x ⟨j, rfl, hj, hrj⟩
  refine ⟨fun hcj => ?_, fun hcj => ?_⟩
  ·have k1 : j < f.imps.length := by have := Zah hcj; simp at this; omega
   have k2 : j < g.imps.length := by omega
   rw [Zaz k1, Zaz k2, eqIs] at hrj
   have g1 := Zl4 (x := (j : Int)) rfl k1
   have g2 := Zl4 (x := (j : Int)) rfl k2
   simp only [g1, g2, f1, Zam, Zcq, i0, i1, i2, isK_int, isK_str, Za3, Zav, Bool.or_true, true_and]
   have e : eqI f.imps[j] g.imps[j] = (f.imps[j].name == g.imps[j].name && f.imps[j].path == g.imps[j].path) := rfl
   refine ⟨tle (by omega), teq rfl, tle (by omega), tlt (by simp; omega), teq rfl, tle (by omega), by simp, by simp, fun hn => no ?_, fun hn => ⟨tle (by omega), tle (by have := h.1.1; omega), ⟨j + 1, rfl, k1, ?_⟩, dec k1⟩⟩
   ·have : eqI f.imps[j] g.imps[j] = false := by
     rw [e]
     simp only [Zkh, Bool.or_eq_true, Bool.not_eq_true'] at hn
     rcases hn with hn | hn <;> simp only [hn, Bool.false_and, Bool.and_false]
    rw [<- hrj, this]; simp
   ·have : eqI f.imps[j] g.imps[j] = true := by
     rw [e]
     simp only [Zkh, Bool.or_eq_false_iff, Bool.not_eq_false'] at hn
     rw [hn.1, hn.2]; rfl
    rw [<- hrj, this]; rfl
  ·have k1 : f.imps.length <= j := by have := Zai hcj; simp at this; omega
   rw [Za7 k1, Za7 (by omega)] at hrj
   have h6 : eqIs f.imps g.imps = true := by rw [<- hrj]; simp [eqIs]
   exact Zak (c66' _ _ h.1.2.1 h.2) ⟨_, rfl, rfl, by rw [h6, q1, nb0 h3]; simp, rfl⟩
 ·simp only [Zkh, Bool.or_eq_true, Bool.not_eq_false', Bool.not_eq_true', beq_eq_false_iff_ne, Zct] at hn
  rcases hn with hn | hn
  ·simp [hn]
  ·rw [Zl5 (by omega)]; simp
def plI (a b : Im) : Bool := a.pos == b.pos
def plIs : List Im -> List Im -> Bool
 | a :: l, b :: m => plI a b && plIs l m
 | _, _ => true
def plF (f g : Fl) : Bool := plIs f.imps g.imps && plDs f.decls g.decls
theorem Zvd : ∀ {l m : List Im} {i : Nat} (h : eqIs l m = true) (h1 : i < l.length) (h2 : i < m.length), eqI l[i] m[i] = true
 | a :: l, b :: m, 0, h, _, _ => by rw [eqIs, Bool.and_eq_true] at h; exact h.1
 | a :: l, b :: m, i + 1, h, h1, h2 => by rw [eqIs, Bool.and_eq_true] at h; exact Zvd h.2 (by simpa using h1) (by simpa using h2)
theorem c30 (f g : Fl) (h : LmF f) : Holds Tryz.prog 30 [.agg (Zdf f), .agg (Zdf g)] [] (Ret (Zbm (eqF f g && plF f g))) := by
 have no : plF f g = false -> Ret (Zbm (eqF f g && plF f g)) (.ret (Zbm false)) [] := fun h => ⟨by rw [h]; simp, rfl⟩
 refine w30 _ _ ?_
 simp only [Zbl, f0, f1, f2, f3, isK_str, isK_slc, Za3, Zam, Bool.or_true, true_and]
 refine ⟨teq rfl, teq rfl, Zak (c20 f g h) ⟨_, rfl, rfl, fun h1 => ⟨by rw [nb1 h1]; rfl, rfl⟩, fun h1 => ?_⟩⟩
 have h1 := nb0 h1
 have h1' := h1
 unfold eqF at h1'
 simp only [Bool.and_eq_true] at h1'
 have hI := h1'.1.1.2
 have hD := h1'.1.2
 have q2 := Zpp hI
 unfold plF at no ⊢
 refine ⟨fun x => ∃ j : Nat, x = j /\ j <= f.imps.length /\ plIs (f.imps.drop j) (g.imps.drop j) = plIs f.imps g.imps, fun x => f.imps.length - x.toNat, ⟨0, rfl, Nat.zero_le _, rfl⟩, ?_, trivial⟩
 rintro x ⟨j, rfl, hj, hrj⟩
 refine ⟨fun hcj => ?_, fun hcj => ?_⟩
 ·have k1 : j < f.imps.length := by have := Zah hcj; simp at this; omega
  have k2 : j < g.imps.length := by omega
  rw [Zaz k1, Zaz k2, plIs] at hrj
  have g1 := Zl4 (x := (j : Int)) rfl k1
  have g2 := Zl4 (x := (j : Int)) rfl k2
  have hab := Zvd hI k1 k2
  unfold eqI at hab
  simp only [Bool.and_eq_true, beq_iff_eq] at hab
  simp only [g1, g2, Zcq, i0, i1, i2, isK_int, isK_str, Za3, Zav, Bool.or_true, true_and, hab.1, hab.2]
  refine ⟨tle (by omega), teq rfl, tlt (by simp; omega), teq rfl, fun hn => no ?_, fun hn => ⟨tle (by omega), tle (by have := h.1.1; omega), ⟨j + 1, rfl, k1, ?_⟩, dec k1⟩⟩
  ·have : plI f.imps[j] g.imps[j] = false := by simpa [plI] using hn
   rw [<- hrj, this]; rfl
  ·have : plI f.imps[j] g.imps[j] = true := by simpa [plI] using hn
   rw [<- hrj, this]; rfl
 ·have k1 : f.imps.length <= j := by have := Zai hcj; simp at this; omega
  rw [Za7 k1, Za7 (by omega)] at hrj
  have h6 : plIs f.imps g.imps = true := by rw [<- hrj]; simp [plIs]
  refine Zak (c84 _ _ h.1.2.1 (fun x hx => (h.2 x hx).here) hD fun x hx => (Z2g x (h.2 x hx)).2) ⟨_, rfl, rfl, by rw [h6, h1]; rfl, rfl⟩
end Go.Sy
end
section
open Go Go.Proofs Go.Ab Go.Rf
set_option linter.unusedSimpArgs false
set_option maxRecDepth 100000
namespace Go.Sy
theorem Zn5 : ∀ {l : List Nd}, (∀ x ∈ l, eqE x x = true) -> eqEs l l = true
 | [], _ => by rw [eqEs]
 | x :: l, h => by rw [eqEs, h x (List.mem_cons_self ..), Zn5 fun y hy => h y (List.mem_cons_of_mem _ hy)]; rfl
theorem Zh1 : ∀ {l : List Nd}, (∀ x ∈ l, eqD x x = true) -> eqDs l l = true
 | [], _ => by rw [eqDs]
 | x :: l, h => by rw [eqDs, h x (List.mem_cons_self ..), Zh1 fun y hy => h y (List.mem_cons_of_mem _ hy)]; rfl
theorem Zn6 : ∀ {l : List Nd}, (∀ x ∈ l, plE x x = true) -> plEs l l = true
 | [], _ => by rw [plEs]; simp
 | x :: l, h => by rw [plEs, h x (List.mem_cons_self ..), Zn6 fun y hy => h y (List.mem_cons_of_mem _ hy)]; rfl
theorem Zh2 : ∀ {l : List Nd}, (∀ x ∈ l, plD x x = true) -> plDs l l = true
 | [], _ => by rw [plDs]; simp
 | x :: l, h => by rw [plDs, h x (List.mem_cons_self ..), Zh2 fun y hy => h y (List.mem_cons_of_mem _ hy)]; rfl
theorem Zmc : ∀ r : Nd, (eqE r r = true /\ eqD r r = true) /\ plE r r = true /\ plD r r = true := by
 refine Zdi fun r hs hd => ?_
 have a := Zn5 fun x hx => (hs x hx).1.1
 have b := Zh1 fun x hx => (hd x hx).1.2
 have c := Zn6 fun x hx => (hs x hx).2.1
 have d := Zh2 fun x hx => (hd x hx).2.2
 rw [Zuu, Zuv, Zx8, Zx9, a, b, c, d]
 simp
theorem Zve (l : List Nd) : eqDs l l = true := Zh1 fun x _ => (Zmc x).1.2
theorem Zvf (l : List Nd) : plDs l l = true := Zh2 fun x _ => (Zmc x).2.2
theorem Zn7 : ∀ l : List Im, eqIs l l = true
 | [] => by rw [eqIs]
 | x :: l => by rw [eqIs, Zn7 l]; simp [eqI]
theorem Zn8 : ∀ l : List Im, plIs l l = true
 | [] => by rw [plIs]; simp
 | x :: l => by rw [plIs, Zn8 l]; simp [plI]
theorem Zq5 (f : Fl) : (eqF f f && plF f f) = true := by
 unfold eqF plF
 rw [Zve, Zvf, Zn7, Zn8]; simp
theorem Z0a (r : Nd) : (eqE r r && plE r r) = true := by rw [(Zmc r).1.1, (Zmc r).2.1]; rfl
theorem Z0b {α : Type} {c : Bool} {l : List α} {n : Nat} (h : l.length <= n) : (tl c l).length <= n := Nat.le_trans (Zft c l) h
theorem Zvg (p c : Bool) (l : List Nd) : (mpEs p c l).length = l.length /\ (mpDs p c l).length = l.length := by rw [Zhk, Zf2]; simp
theorem Zya (p c : Bool) : ∀ r : Nd, Lm r -> Lm (mpE p c r) /\ Lm (mpD p c r) := by
 refine Zdi fun r hs hd hl => ?_
 have L := hl.here
 have m := Zvg p c
 rw [Zx4, Zx5]
 refine ⟨.mk ⟨?_, ?_, ?_, ?_⟩ (fun x hx => ?_) fun x hx => ?_, .mk ⟨?_, ?_, ?_, ?_⟩ (fun x hx => ?_) fun x hx => ?_⟩
 ·show (mpEs p c r.subs).length <= _; rw [(m _).1]; exact L.1
 ·show (mpDs p c r.decls).length <= _; rw [(m _).2]; exact L.2.1
 ·exact Z0b L.2.2.1
 ·exact L.2.2.2
 ·have hx : x ∈ mpEs p c r.subs := hx
  rw [Zhk] at hx
  obtain ⟨y, hy, rfl⟩ := List.mem_map.1 hx
  exact (hs y hy (hl.sub hy)).1
 ·have hx : x ∈ mpDs p c r.decls := hx
  rw [Zf2] at hx
  obtain ⟨y, hy, rfl⟩ := List.mem_map.1 hx
  exact (hd y hy (hl.dec hy)).2
 ·show (mpEs p c r.subs).length <= _; rw [(m _).1]; exact L.1
 ·show (mpDs p c r.decls).length <= _; rw [(m _).2]; exact L.2.1
 ·exact Z0b L.2.2.1
 ·exact Z0b L.2.2.2
 ·have hx : x ∈ mpEs p c r.subs := hx
  rw [Zhk] at hx
  obtain ⟨y, hy, rfl⟩ := List.mem_map.1 hx
  exact (hs y hy (hl.sub hy)).1
 ·have hx : x ∈ mpDs p c r.decls := hx
  rw [Zf2] at hx
  obtain ⟨y, hy, rfl⟩ := List.mem_map.1 hx
  exact (hd y hy (hl.dec hy)).2
theorem Zvh (p c : Bool) {l : List Nd} (h : ∀ x ∈ l, Lm x) : ∀ x ∈ mpDs p c l, Lm x := fun x hx => by
 rw [Zf2] at hx
 obtain ⟨y, hy, rfl⟩ := List.mem_map.1 hx
 exact (Zya p c y (h y hy)).2
theorem Zvi {f : Fl} (h : LmF f) : LmF (Zif f) := ⟨⟨by simpa [Zif] using h.1.1, by show (mpDs true false f.decls).length <= _; rw [(Zvg _ _ _).2]; exact h.1.2.1, h.1.2.2⟩, Zvh _ _ h.2⟩
theorem Zvj {f : Fl} (h : LmF f) : LmF (Zq3 f) := ⟨⟨h.1.1, by show (mpDs false true f.decls).length <= _; rw [(Zvg _ _ _).2]; exact h.1.2.1, by simp [Zq3]⟩, Zvh _ _ h.2⟩
theorem Z2h {f : Fl} (h : BigF f) : LmF f := ⟨h.1, fun x hx => Z14 (h.2.2.2.2 x hx)⟩
theorem Z3h : ∀ r : Nd, ((comE r).length : Int) <= wE r /\ ((comD r).length : Int) <= wD r := by
 refine Zdi fun r hs hd => ?_
 have kE : ∀ l : List Nd, (∀ x ∈ l, x ∈ r.subs) -> ((Zap l).length : Int) <= wEs l := by
  intro l
  induction l with
  | nil => intro _; simp [Zap, wEs]
  | cons x l ih =>
    intro h
    have := ih fun y hy => h y (List.mem_cons_of_mem _ hy)
    have := (hs x (h x (List.mem_cons_self ..))).1
    rw [Zap, wEs, List.length_append]; push_cast; omega
 have kD : ∀ l : List Nd, (∀ x ∈ l, x ∈ r.decls) -> ((Zad l).length : Int) <= wDs l := by
  intro l
  induction l with
  | nil => intro _; simp [Zad, wDs]
  | cons x l ih =>
    intro h
    have := ih fun y hy => h y (List.mem_cons_of_mem _ hy)
    have := (hd x (h x (List.mem_cons_self ..))).2
    rw [Zad, wDs, List.length_append]; push_cast; omega
 have a := kE r.subs fun _ h => h
 have b := kD r.decls fun _ h => h
 have o := Zpi r
 have e1 := congrArg List.length (Zma r)
 have e2 := congrArg List.length (Zmb r)
 have e3 : (if r.trail = [] then [] else [r.trail]).length <= 1 := by split <;> simp
 simp only [List.length_append] at e1 e2
 rw [Zw4, Zw5]
 omega
theorem Zvk : ∀ l : List Nd, ((Zad l).length : Int) <= wDs l
 | [] => by simp [Zad, wDs]
 | x :: l => by
   have := Zvk l
   have := (Z3h x).2
   rw [Zad, wDs, List.length_append]; push_cast; omega
theorem Z0c {f : Fl} (hw : wfF f) (h : smF f = true) : ShrF f /\ (comF f).length <= 200 := by
 obtain ⟨h1, h2, h3, h4⟩ := Z19 hw h
 have a := Zvk f.decls
 have b := (Zh0 (l := f.decls) fun x _ => (Zr1 x).2).1
 refine ⟨⟨by omega, by omega, by omega, fun x hx => Zx6 (h3 x hx)⟩, ?_⟩
 unfold comF
 rw [List.length_append]; omega
end Go.Sy
end
section
open Go Go.Proofs Go.Ab Go.Rf
set_option linter.unusedSimpArgs false
set_option maxRecDepth 100000
namespace Go.Sy
theorem c11 (f : Fl) (r : Nd) (hf : BigF f) (wf : wfF f) (hr : All Big r) (wr : wfE r) : Holds Tryz.prog 11 [.agg (Zdf f), .agg (encE r)] [] (Ret (Zbm true)) := by
 refine w11 _ _ ⟨teq rfl, teq (by simp), Zak (c12 f hf) ⟨_, rfl, rfl, fun h1 => ?_, fun _ => Zak c13 ⟨_, rfl, rfl, rfl, rfl⟩⟩⟩
 refine Zak (c16 r hr) ⟨_, rfl, rfl, fun _ => Zak c13 ⟨_, rfl, rfl, rfl, rfl⟩, fun h2 => ?_⟩
 have h2 := nb0 h2
 obtain ⟨sf, cf⟩ := Z0c wf h1
 have sr := Zx6 (Z18 wr h2).1
 have lf := Z2h hf
 refine ⟨_, fun _ => c28 f sf, _, fun _ => c35 f sf, _, fun _ => c30 _ _ (Zvi lf), fun _ => ?_, fun h => by rw [Zq5] at h; cases h⟩
 refine ⟨_, fun _ => c37 r sr, _, fun _ => c38 r sr, _, fun _ => c36 _ _ (Zya true false r (Z14 hr)).1, fun _ => ?_, fun h => by rw [Z0a] at h; cases h⟩
 refine ⟨_, fun _ => c29 f sf, _, fun _ => c39 f sf, _, fun _ => c30 _ _ (Zvj lf), fun _ => ?_, fun h => by rw [Zq5] at h; cases h⟩
 refine ⟨_, fun _ => c31 f (by omega) lf, Zak (c40 f (by omega) lf) ⟨_, rfl, rfl, Zak (c23 _ _ (by omega)) ⟨_, rfl, rfl, fun _ => Zak c13 ⟨_, rfl, rfl, rfl, rfl⟩, fun h => by simp at h⟩⟩⟩
end Go.Sy
end
section
open Go Go.Proofs Go.Ab Go.Rf Go.ChangeShapes Go.WideShapes Go.ChangeAt Go.Proofs.YtpcnadmaeebhbaaGreatDoor
set_option maxRecDepth 100000
namespace Go.Sy
theorem Zr4 (os : Os) : laidMet Tryz.prog Rows.syntaxStripRow.laid ((Zj7 os).forCall (fun _ _ => 0) ⟨#[], #[zF, zE], []⟩).memory :=
 laidMet_of_run' 8 (by kernel_rfl) (by kernel_rfl)
theorem Z0d (os : Os) {H : Type} (en : TypeId × Value -> H) : ∃ places, DataW.whole en Tryz.prog ((Zj7 os).forCall (fun _ _ => 0) ⟨#[], #[zF, zE], []⟩).memory Tryz.f11.params.toList Rows.syntaxStripSpec.vars false #[zF, zE].toList 8 = some ([dF, dE], [], places) :=
 ⟨[], by kernel_rfl⟩
theorem Zxa (os : Os) (started : os.Started) (H : Type) (en : TypeId × Value -> H) (F : Stop.Interp) :
 ReturnsInHanded {} Tryz.checked os 11 .any ((OpenSpec.ofChange Rows.syntaxStripSpec).preRow en Tryz.prog Tryz.f11 Rows.syntaxStripRow.domain false Rows.syntaxStripRow.laid) (((OpenSpec.ofChange Rows.syntaxStripSpec).at F).post en Tryz.prog Tryz.f11 false true false false) := by
 obtain ⟨places, hx⟩ := Z0d os en
 refine returnsInHanded_of_row (C := Tryz.checked) (s := OpenSpec.ofChange Rows.syntaxStripSpec) own started (by kernel_rfl) Tryz.func11
  (witness_row_at (enc := en) (C := Tryz.checked) false (Zj7 os) #[zF, zE] rfl (by kernel_rfl) (by kernel_rfl) (by kernel_rfl)
   (OpenSpec.preRow_of_cond 8 hx (by kernel_rfl) (fun k hk => by cases hk) (by kernel_rfl) (Zr4 os))) ?_
 intro W base args ds gs before hval0 hW _ _ hsz0 hL _ _
 have hval : ∀ (j : Nat) t v, Tryz.f11.params[j]? = some t -> args[j]? = some v -> Value.okWide Tryz.prog W .any base t v := hval0
 have hW' : DataW.Whole en Tryz.prog Tryz.f11.params.toList Rows.syntaxStripSpec.vars false W args.toList ds gs before := hW
 obtain ⟨p, q, hA0, hV, rfl, hfz, hnd⟩ := hW
 have hA : DataW.TrodAll en Tryz.prog W 0 (fun _ => true) true Tryz.f11.params.toList args.toList ds p := hA0
 have hsz : (DataW.weightsEach Tryz.prog (Tryz.f11.params.toList ++ []) (ds ++ gs)).all (· <= reachBytes) = true := hsz0
 rw [Tryz.params11] at hA hval hsz
 obtain ⟨v0, vs0, d0, ds0, p0, q0, hargs, rfl, rfl, h0, r0⟩ := trodAll_cons hA
 obtain ⟨v1, vs1, d1, ds1, p1, q1, rfl, rfl, rfl, h1, r1⟩ := trodAll_cons r0
 obtain ⟨rfl, rfl, rfl⟩ := trodAll_nil r1
 obtain rfl : args = #[v0, v1] := by cases args; simp_all
 obtain ⟨a0, k0, g0, e0⟩ := Z28 (hval 0 26 v0 rfl rfl) h0 (Zx2 hsz (i := 0) rfl rfl)
 obtain ⟨a1, k1, g1, e1⟩ := Z29 (hval 1 34 v1 rfl rfl) h1 (Zx2 hsz (i := 1) rfl rfl)
 refine (Zpm Tryz.func11 rfl rfl (Holds.out (c11 a0 a1 g0 e0 g1 e1) (w := W) (cargs := #[v0, v1]) ⟨k0, k1, trivial⟩)).mono fun e W' ⟨cv, g', he, hc, hb⟩ => ?_
 have hc : cv = .bool true := by cases hc; rfl
 subst hc
 exact ⟨_, he, Zw6 (s := Rows.syntaxStripSpec) rfl hW' rfl rfl lay (by kernel_rfl) hb⟩
theorem syntaxStrip_holds : Rows.SyntaxStripSaid :=
 OpenClaim.holds_of_cond 11 Tryz.f11 rfl rfl rfl rfl rfl rfl rfl ⟨rfl, rfl, rfl, rfl, rfl⟩ rfl rfl rfl rfl rfl (by kernel_rfl) Tryz.func11 (by kernel_rfl)
  (of_decide_eq_true (by kernel_rfl)) (by unfold Func.isWrapper; first | (rw [if_pos (by decide +kernel)]; kernel_rfl) | (rw [if_neg (by decide +kernel)]; exact ⟨rfl, rfl⟩))
  (fun os started H en _ F => by rw [OpenClaim.pre_eq_preRow]; exact Zxa os started H en F)
theorem plain11 (f : FuncId) (fn : Func) (hf : Tryz.pinned.checked.prog.funcNamed "configlang/configlanglaw25.SyntaxStrip" = some f) (hfn : Tryz.pinned.checked.prog.funcs[f]? = some fn) :
 true = Tryz.pinned.checked.prog.looks [] /\ ∀ (j : Nat) t, fn.params[j]? = some t -> Tryz.pinned.checked.prog.wantsStandIn t = false := by
 obtain rfl : f = 11 := Option.some.inj ((show Tryz.prog.funcNamed "configlang/configlanglaw25.SyntaxStrip" = some 11 by kernel_rfl).symm.trans hf) |>.symm
 obtain rfl : fn = Tryz.f11 := (Option.some.inj (Tryz.func11.symm.trans hfn)).symm
 refine ⟨by kernel_rfl, fun j t ht => ?_⟩
 rw [Tryz.params11] at ht
 have hm : t ∈ [26, 34] := by simpa using Array.mem_of_getElem? ht
 have hall : ([26, 34].all fun u => !Tryz.prog.wantsStandIn u) = true := by kernel_rfl
 exact (show Tryz.prog.wantsStandIn t = false by simpa using List.all_eq_true.1 hall t hm)
end Go.Sy
namespace Go.Proofs.YtpcnadmaeebhbaaGreatDoor
theorem syntaxStrip_proved : Rows.SyntaxStripCardSaid :=
 Claim7.holds_tied_plain_at .later [] _ _ _ _ Go.Sy.syntaxStrip_holds (fun _ h => by cases h) (by kernel_rfl) (fun _ h => by cases h) syntaxStrip_row_tie rfl ⟨rfl, rfl⟩ (by kernel_rfl) rfl Go.Sy.plain11 (by kernel_rfl)
end Go.Proofs.YtpcnadmaeebhbaaGreatDoor
end
