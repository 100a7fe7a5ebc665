/- Proved: the given statement RegexTextsSaid, without conditions. -/
import Derived.Shelf.Strings.OnBuilder
import Derived.Test.YtedalcjkolcolaaProg
import Derived.Test.YtedalcjkolcolaaJag
set_option linter.unusedVariables false
set_option linter.unusedSimpArgs false
section
open Go Go.Proofs Go.Ab Go.Rf
set_option maxRecDepth 100000
namespace Go.Rx
theorem shr4 : ∀ x < 256, gShr .u8 ((x : Nat) : Int) 4 = ((x / 16 : Nat) : Int) := by decide
theorem Z7v : ∀ x < 256, gAnd .u8 ((x : Nat) : Int) 15 = ((x % 16 : Nat) : Int) := by decide
theorem Z6z : ∀ n < 16, IntKind.wrap .u8 (((n : Nat) : Int) + 1) = ((n + 1 : Nat) : Int) := by decide
theorem sub1 : ∀ n < 16, gSub ([48, 49, 50, 51, 52, 53, 54, 55, 56, 57, 97, 98, 99, 100, 101, 102] : List UInt8) ((n : Nat) : Int) ((n + 1 : Nat) : Int) = [hexD n] := by decide
theorem Z2z (x : Nat) : (((((tB (decide ((97 : Int) <= (x : Int)))) && (tB (decide ((x : Int) <= (122 : Int))))) || ((tB (decide ((65 : Int) <= (x : Int)))) && (tB (decide ((x : Int) <= (90 : Int)))))) || ((tB (decide ((48 : Int) <= (x : Int)))) && (tB (decide ((x : Int) <= (57 : Int))))))) = alnV x := by
 simp only [Zbg, alnV]
 have e : ∀ a b : Nat, decide ((a : Int) <= (b : Int)) = decide (a <= b) := fun a b => by rw [Bool.eq_iff_iff]; simp
 rw [<- e, <- e, <- e, <- e, <- e, <- e]
 rfl
theorem Z1n : ∀ x < 256, alnV x = true -> Z6n (IntKind.wrap .i32 ((x : Nat) : Int)) = [UInt8.ofNat x] := by decide
theorem c61 (x : Nat) (hx : x < 256) : Holds Try.prog 61 [A.d (.lit (.int .u8 x))] [] (Ret (.d (.lit (Zaa (bt x))))) := by
 refine w61 (x : Int) ⟨fun h => ?_, fun h => ?_⟩
 ·rw [Z2z] at h
  rw [Z1n x hx h]
  unfold bt; rw [if_pos h]
  exact ⟨rfl, rfl⟩
 ·rw [Z2z] at h
  have h1 := shr4 x hx
  have h2 := Z7v x hx
  have h3 := Z6z (x / 16) (by omega)
  have h4 := Z6z (x % 16) (by omega)
  have h5 := sub1 (x / 16) (by omega)
  have h6 := sub1 (x % 16) (by omega)
  rw [h1, h2, h3, h4, h5, h6]
  refine ⟨tle (by omega), tle (by omega), tle (by omega), tle (by simp), tle (by omega), tle (by omega), tle (by omega), tle (by simp), ?_⟩
  unfold bt; rw [if_neg (by rw [h]; decide)]
  exact ⟨rfl, rfl⟩
def rgV (l : List (Nat × Nat)) : List (List D) := l.map fun q => [D.lit (.int .u8 q.1), D.lit (.int .u8 q.2)]
theorem Zc9 (l : List (Nat × Nat)) : (rgV l).length = l.length := by simp [rgV]
theorem Z44 (m : List (Nat × Nat)) (a b n : Nat) :
 gSet (rgV (m ++ [(a, b)])) (((rgV (m ++ [(a, b)])).length : Int) - 1) (Ab.setL (gAt (rgV (m ++ [(a, b)])) (((rgV (m ++ [(a, b)])).length : Int) - 1)) 1 [D.lit (.int .u8 n)]) = rgV (m ++ [(a, n)]) := by
 have e : (((rgV (m ++ [(a, b)])).length : Int) - 1).toNat = m.length := by rw [Zc9]; simp
 have e1 : gAt (rgV (m ++ [(a, b)])) (((rgV (m ++ [(a, b)])).length : Int) - 1) = [D.lit (.int .u8 a), D.lit (.int .u8 b)] := by
  unfold gAt
  rw [e]
  simp [rgV]
 rw [e1]
 unfold gSet
 rw [e]
 simp [rgV, Ab.setL]
theorem Z1o (l : List (Nat × Nat)) (n : Nat) : rgV l ++ [[D.lit (.int .u8 n), D.lit (.int .u8 n)]] = rgV (l ++ [(n, n)]) := by simp [rgV]
theorem Holds.dezs {P : Program} {f : FuncId} {args : List A} {H : List (Ref × List A)} {R R' : Out -> List (Ref × List A) -> Prop} (h : Holds P f args H R)
 (hr : ∀ o H', R o H' -> R' o H' \/ ∃ es, o = .ret (.zs es) /\ R' (.ret (.d (.slc es))) H') : Holds P f args H R' := by
 intro w cargs g ha hh
 refine (h w cargs g ha hh).mono fun e w' ⟨out, H', g', h1, h2, h3, h4⟩ => ?_
 rcases hr _ _ h1 with h5 | ⟨es, rfl, h5⟩
 ·exact ⟨out, H', g', h5, h2, h3, h4⟩
 ·obtain ⟨cv, rfl, ho, _⟩ := h4
  exact ⟨.ret (.d (.slc es)), H', g', h5, h2, h3, cv, rfl, ho.1, fun h => by cases h⟩
theorem c55i (p : Nat -> Bool) (i : Nat) (h : i < 256) : Holds Try.prog 55 [A.agg (row4 p), A.d (.lit (.int .u8 (IntKind.wrap .u8 (i : Int))))] [] (Ret (.d (.lit (.bool (p i))))) := by
 rw [Zfp i h]; exact c55 p i h
theorem c55j (p : Nat -> Bool) (i : Nat) (h : i < 256) (h0 : 0 < i) : Holds Try.prog 55 [A.agg (row4 p), A.d (.lit (.int .u8 (IntKind.wrap .u8 ((i : Int) - 1))))] [] (Ret (.d (.lit (.bool (p (i - 1)))))) := by
 rw [show (i : Int) - 1 = ((i - 1 : Nat) : Int) by omega]; exact c55i p (i - 1) (by omega)
theorem Zog (p : Nat -> Bool) (n : Nat) : rgN p (n + 1) = if p n then (if decide (0 < n) && p (n - 1) then bump (rgN p n) n else rgN p n ++ [(n, n)]) else rgN p n := rfl
theorem Zzf {p : Nat -> Bool} {i : Nat} (h : p i = false) : rgN p (i + 1) = rgN p i := by rw [Zog, h]; rfl
theorem Zzg {p : Nat -> Bool} {i : Nat} (h : p i = true) (h2 : i = 0 \/ p (i - 1) = false) : rgN p (i + 1) = rgN p i ++ [(i, i)] := by
 rw [Zog, h, if_pos rfl, if_neg]
 rw [Bool.and_eq_true, decide_eq_true_eq]
 rintro ⟨h3, h4⟩
 rcases h2 with h2 | h2
 ·omega
 ·rw [h2] at h4; cases h4
theorem Z1p {p : Nat -> Bool} {i : Nat} (h : p i = true) (h0 : 0 < i) (h2 : p (i - 1) = true) : ∃ m a, rgN p i = m ++ [(a, i - 1)] /\ rgN p (i + 1) = m ++ [(a, i)] := by
 obtain ⟨m, a, e⟩ := (Zm4 p i).last h0 h2
 refine ⟨m, a, e, ?_⟩
 rw [Zog, h, if_pos rfl, if_pos (by rw [h2]; simpa using h0), e, Zlw]
theorem Zq7 (p : Nat -> Bool) (n : Nat) : (rgN p n).length <= n := by
 rw [Zly]
 induction n with
 | zero => exact Nat.le_refl _
 | succ n ih => unfold cntN; split <;> omega
theorem c60 (p : Nat -> Bool) : Holds Try.prog 60 [A.agg (row4 p)] [] (Ret (.d (.slc (rgV (rgN p 256))))) := by
 refine Holds.dezs (R := fun o H => H = [] /\ (o = .ret (.d (.slc (rgV (rgN p 256)))) \/ (o = .ret (.zs []) /\ rgN p 256 = []))) (w60 (row4 p) ⟨teq (by simp), fun x => ∃ i : Nat, x = i /\ i <= 256 /\ rgN p i = [], fun x => 1000 - x.toNat,
  fun l _ x _ _ => ∃ i : Nat, x = i /\ i <= 256 /\ l = rgV (rgN p i) /\ rgN p i ≠ [], fun _ _ x _ _ => 256 - x.toNat, ⟨0, rfl, by decide, rfl⟩, ?_, ?_, trivial⟩) ?_
 ·rintro _ ⟨i, rfl, hi, he⟩
  have hnp : 0 < i -> p (i - 1) = false := fun h0 => by
   cases hq : p (i - 1) with
   | false => rfl
   | true =>
     obtain ⟨m, a, e⟩ := (Zm4 p i).last h0 hq
     rw [he] at e; simp at e
  have st : i < 256 -> p i = true -> (∃ j : Nat, (i : Int) + 1 = j /\ j <= 256 /\ ([[D.lit (.int .u8 (IntKind.wrap .u8 (i : Int))), D.lit (.int .u8 (IntKind.wrap .u8 (i : Int)))]] : List (List D)) = rgV (rgN p j) /\ rgN p j ≠ []) /\ 256 - ((i : Int) + 1).toNat < 1000 - (i : Int).toNat := fun hlt hp => by
   have e := Zzg hp (by by_cases h0 : i = 0; exact .inl h0; exact .inr (hnp (by omega)))
   rw [he] at e
   exact ⟨⟨i + 1, by omega, by omega, by rw [e, Zfp i hlt]; rfl, by rw [e]; simp⟩, by omega⟩
  refine ⟨fun hlt => ?_, fun hge => ?_⟩
  ·have hlt : i < 256 := by have := Zax hlt; omega
   refine Zae (c55i p i hlt) ⟨_, rfl, rfl, fun hp => ?_, fun hp => ?_⟩
   ·have hp : p i = false := by simpa using hp
    exact ⟨tle (by omega), tle (by omega), ⟨i + 1, by omega, by omega, by rw [Zzf hp]; exact he⟩, by show 1000 - ((i : Int) + 1).toNat < 1000 - (i : Int).toNat; omega⟩
   ·have hp : p i = true := by simpa using hp
    refine ⟨?_, ?_, fun h0 => ?_, fun h0 => ?_⟩
    ·rw [tle (show (-9223372036854775808 : Int) <= (i : Int) - 1 by omega), Bool.or_true]
    ·rw [tle (show (i : Int) - 1 <= 9223372036854775807 by omega), Bool.or_true]
    ·have h0 : 0 < i := by have := Zax h0; omega
     refine Zae (c55j p i hlt h0) ⟨_, rfl, rfl, fun hq => ?_, fun hq => ?_⟩
     ·rw [hnp h0] at hq; cases hq
     ·exact ⟨tle (by simp), tle (by simp), tle (by omega), tle (by omega), st hlt hp⟩
    ·exact ⟨tle (by simp), tle (by simp), tle (by omega), tle (by omega), st hlt hp⟩
  ·have hge := Zan hge
   have : i = 256 := by omega
   subst this
   exact ⟨rfl, .inr ⟨rfl, he⟩⟩
 ·rintro _ _ _ _ _ ⟨i, rfl, hi, rfl, hne⟩
  have hlen := Zq7 p i
  have st : i < 256 -> p i = true -> (i = 0 \/ p (i - 1) = false) -> (∃ j : Nat, (i : Int) + 1 = j /\ j <= 256 /\ rgV (rgN p i) ++ ([[D.lit (.int .u8 (IntKind.wrap .u8 (i : Int))), D.lit (.int .u8 (IntKind.wrap .u8 (i : Int)))]] : List (List D)) = rgV (rgN p j) /\ rgN p j ≠ []) /\ 256 - ((i : Int) + 1).toNat < 256 - (i : Int).toNat := fun hlt hp hq => by
   have e := Zzg hp hq
   exact ⟨⟨i + 1, by omega, by omega, by rw [e, Zfp i hlt, Z1o], by rw [e]; simp⟩, by omega⟩
  have l1 : ((([] : List (List D)) ++ rgV (rgN p i)).length : Int) = (rgN p i).length := by rw [List.nil_append, Zc9]
  have l2 : ∀ x : List D, (([x] : List (List D)).length : Int) = 1 := fun _ => rfl
  refine ⟨fun hlt => ?_, fun hge => ?_⟩
  ·have hlt : i < 256 := by have := Zax hlt; omega
   refine Zae (c55i p i hlt) ⟨_, rfl, rfl, fun hp => ?_, fun hp => ?_⟩
   ·have hp : p i = false := by simpa using hp
    exact ⟨tle (by omega), tle (by omega), ⟨i + 1, by omega, by omega, by rw [Zzf hp], by rw [Zzf hp]; exact hne⟩, by show 256 - ((i : Int) + 1).toNat < 256 - (i : Int).toNat; omega⟩
   ·have hp : p i = true := by simpa using hp
    refine ⟨?_, ?_, fun h0 => ?_, fun h0 => ?_⟩
    ·rw [tle (show (-9223372036854775808 : Int) <= (i : Int) - 1 by omega), Bool.or_true]
    ·rw [tle (show (i : Int) - 1 <= 9223372036854775807 by omega), Bool.or_true]
    ·have h0 : 0 < i := by have := Zax h0; omega
     refine Zae (c55j p i hlt h0) ⟨_, rfl, rfl, fun hq => ?_, fun hq => ?_⟩
     ·obtain ⟨m, a, e1, e2⟩ := Z1p hp h0 hq
      have hl : 0 < (rgN p i).length := by rw [e1]; simp
      rw [e1]
      rw [e1] at hl hlen
      refine ⟨tle (by rw [Zc9]; omega), tle (by rw [Zc9]; omega), tle (by rw [Zc9]; omega), tlt (by omega), ?_⟩
      refine ⟨tle (by omega), tle (by omega), ⟨i + 1, by omega, by omega, ?_, by rw [e2]; simp⟩, by show 256 - ((i : Int) + 1).toNat < 256 - (i : Int).toNat; omega⟩
      rw [e2, Zfp i hlt]
      exact Z44 m a (i - 1) i
     ·exact ⟨tle (by rw [l1, l2]; omega), tle (by rw [l1, l2]; omega), tle (by omega), tle (by omega), st hlt hp (.inr hq)⟩
    ·have h0 := Zan h0
     exact ⟨tle (by rw [l1, l2]; omega), tle (by rw [l1, l2]; omega), tle (by omega), tle (by omega), st hlt hp (.inl (by omega))⟩
  ·have hge := Zan hge
   have : i = 256 := by omega
   subst this
   exact ⟨rfl, .inl rfl⟩
 ·rintro o H' ⟨rfl, h | ⟨h, he⟩⟩
  ·exact .inl ⟨h, rfl⟩
  ·exact .inr ⟨[], h, by rw [he]; rfl, rfl⟩
end Go.Rx
end
section
open Go Go.Proofs Go.Ab Go.Rf
set_option maxRecDepth 100000
namespace Go.Rx
def ownV (k : Int) : Nat := if k = 4 then 0 else 1
def barV (k : Int) : List UInt8 := if k = 4 then [124] else []
def Zio (sep : List UInt8) : List (List UInt8) -> List UInt8
 | [] => []
 | x :: l => x ++ l.flatMap (sep ++ ·)
def parS (b : Bool) (t : List UInt8) : List UInt8 := if b then 40 :: (t ++ [41]) else t
mutual
def tx : Rx -> Nat -> List UInt8
 | .mk k a b c d l, lv => if k = 0 then [91, 93] else if k = 1 then [40, 41] else if k = 5 then (txs l 2).headD [] ++ [42]
   else if k = 2 then setT (rgN (hasX (.mk k a b c d l)) 256) else parS (decide (ownV k < lv)) (Zio (barV k) (txs l (ownV k + 1)))
def txs : List Rx -> Nat -> List (List UInt8)
 | [], _ => []
 | x :: l, lv => tx x lv :: txs l lv
end
mutual
def norm : Rx -> Rx
 | .mk k a b c d l => if k = 2 /\ rgN (hasX (.mk k a b c d l)) 256 = [] then mk0 0 [] else .mk k a b c d (Z1q l)
def Z1q : List Rx -> List Rx
 | [] => []
 | x :: l => norm x :: Z1q l
end
theorem Zsv (lv : Nat) : ∀ l, txs l lv = l.map (tx · lv)
 | [] => rfl
 | x :: l => by simp [txs, Zsv lv l]
theorem Zq8 : ∀ l, Z1q l = l.map norm
 | [] => rfl
 | x :: l => by simp [Z1q, Zq8 l]
def Zlz (r : Rx) : List UInt8 := Zio (barV r.kind) (r.subs.map (tx · (ownV r.kind + 1)))
theorem Zmf (r : Rx) (lv : Nat) : tx r lv = if r.kind = 0 then [91, 93] else if r.kind = 1 then [40, 41] else if r.kind = 5 then (r.subs.map (tx · 2)).headD [] ++ [42]
 else if r.kind = 2 then setT (rgN (hasX r) 256) else parS (decide (ownV r.kind < lv)) (Zlz r) := by
 cases r with
 | mk k a b c d l =>
   conv => lhs; rw [tx, Zsv, Zsv]
   rfl
inductive Shape : Rx -> Prop
 | none : Shape (mk0 0 [])
 | emp : Shape (mk0 1 [])
 | set {a b c d : Int} (h : ∀ i < 4, 0 <= (Rx.mk 2 a b c d []).w i /\ (Rx.mk 2 a b c d []).w i < 2 ^ 64) : Shape (.mk 2 a b c d [])
 | cat {l : List Rx} (h : 2 <= l.length) : Shape (mk0 3 l)
 | alt {l : List Rx} (h : 2 <= l.length) : Shape (mk0 4 l)
 | star (x : Rx) : Shape (mk0 5 [x])
theorem Zj5 {r : Rx} (h : nodeOk r) : Shape r := by
 obtain ⟨h, hr⟩ := h
 have key : (0 <= r.kind /\ r.kind <= 5) /\ (r.kind ≠ 2 -> r.w 0 = 0 /\ r.w 1 = 0 /\ r.w 2 = 0 /\ r.w 3 = 0) /\ (r.kind = 3 \/ r.kind = 4 -> 2 <= r.subs.length) /\ (r.kind = 5 -> r.subs.length = 1) /\ (¬ (r.kind = 3 \/ r.kind = 4) -> r.kind ≠ 5 -> r.subs.length = 0) := by
  unfold Zau at h
  split at h
  ·cases h
  ·rename_i h0
   refine ⟨⟨?_, ?_⟩, fun q => ?_, fun q => ?_, fun q => ?_, fun q1 q2 => ?_⟩
   ·by_cases q : r.kind < 0
    ·exact absurd (.inl q) h0
    ·omega
   ·by_cases q : 5 < r.kind
    ·exact absurd (.inr (.inl q)) h0
    ·omega
   ·apply Classical.byContradiction
    intro q2
    exact h0 (.inr (.inr ⟨q, q2⟩))
   ·rw [if_pos q] at h
    by_cases hl : r.subs.length < 2
    ·rw [if_pos hl] at h; cases h
    ·omega
   ·rw [if_neg (by omega), if_pos q] at h
    by_cases hl : r.subs.length ≠ 1
    ·rw [if_pos hl] at h; cases h
    ·omega
   ·rw [if_neg q1, if_neg q2] at h
    by_cases hl : r.subs.length ≠ 0
    ·rw [if_pos hl] at h; cases h
    ·omega
 clear h
 cases r with
 | mk k a b c d l =>
   obtain ⟨⟨k0, k5⟩, hz, h34, h5, h0⟩ := key
   have k0 : 0 <= k := k0
   have k5 : k <= 5 := k5
   have hz : k ≠ 2 -> a = 0 /\ b = 0 /\ c = 0 /\ d = 0 := hz
   have h34 : k = 3 \/ k = 4 -> 2 <= l.length := h34
   have h5 : k = 5 -> l.length = 1 := h5
   have h0 : ¬ (k = 3 \/ k = 4) -> k ≠ 5 -> l.length = 0 := h0
   have nl : ¬ (k = 3 \/ k = 4) -> k ≠ 5 -> l = [] := fun a b => List.eq_nil_of_length_eq_zero (h0 a b)
   have : k = 0 \/ k = 1 \/ k = 2 \/ k = 3 \/ k = 4 \/ k = 5 := by omega
   rcases this with rfl | rfl | rfl | rfl | rfl | rfl
   ·obtain ⟨rfl, rfl, rfl, rfl⟩ := hz (by decide)
    cases nl (by decide) (by decide)
    exact .none
   ·obtain ⟨rfl, rfl, rfl, rfl⟩ := hz (by decide)
    cases nl (by decide) (by decide)
    exact .emp
   ·cases nl (by decide) (by decide)
    exact .set hr
   ·obtain ⟨rfl, rfl, rfl, rfl⟩ := hz (by decide)
    exact .cat (h34 (.inl rfl))
   ·obtain ⟨rfl, rfl, rfl, rfl⟩ := hz (by decide)
    exact .alt (h34 (.inr rfl))
   ·obtain ⟨rfl, rfl, rfl, rfl⟩ := hz (by decide)
    obtain ⟨x, rfl⟩ := List.length_eq_one_iff.1 (h5 rfl)
    exact .star x
theorem Zbh {x : Rx} : ∀ {l : List Rx}, x ∈ l -> size x <= Zam l
 | y :: l, h => by
   unfold Zam
   rcases List.mem_cons.1 h with rfl | h
   ·omega
   ·have := Zbh h; omega
theorem Zut {n m : Nat} (h : n <= m) {t : List UInt8} {r : Res Rx} (e : Zb7 n t = some r) : Zb7 m t = some r := by
 induction h with
 | refl => exact e
 | step _ ih => exact (Zgu _).2.2.2.2.1 _ _ ih
theorem Zzh {n m : Nat} (h : n <= m) {l : List Rx} {t : List UInt8} {r : Res Rx} (e : seqL n l t = some r) : seqL m l t = some r := by
 induction h with
 | refl => exact e
 | step _ ih => exact (Zgu _).2.2.2.1 _ _ _ ih
theorem Zzi {n m : Nat} (h : n <= m) {l : List Rx} {t : List UInt8} {r : Res Rx} (e : altL n l t = some r) : altL m l t = some r := by
 induction h with
 | refl => exact e
 | step _ ih => exact (Zgu _).2.1 _ _ _ ih
theorem Z45 {n m : Nat} (h : n <= m) {t : List UInt8} {r : Res Rx} (e : atom n t = some r) : atom m t = some r := by
 induction h with
 | refl => exact e
 | step _ ih => exact (Zgu _).2.2.2.2.2 _ _ ih
theorem Z1r {n m : Nat} (h : n <= m) {x : Rx} {t : List UInt8} {r : Res Rx} (e : opsL n x t = some r) : opsL m x t = some r := by
 induction h with
 | refl => exact e
 | step _ ih => exact Zlv _ _ _ _ ih
theorem Z1s {t t1 : List UInt8} {r : Rx} {res : Res Rx} (h : ∃ k, atom k t = some (.ok r t1)) (h2 : ∃ k, opsL k r t1 = some res) : ∃ k, Zb7 k t = some res := by
 obtain ⟨n, h⟩ := h
 obtain ⟨m, h2⟩ := h2
 refine ⟨max n m + 1, ?_⟩
 unfold Zb7
 rw [Z45 (Nat.le_max_left n m) h]
 exact Z1r (Nat.le_max_right n m) h2
theorem Zzj {t t1 : List UInt8} {r : Rx} {res : Res Rx} (h : ∃ k, Zb7 k t = some (.ok r t1)) (h2 : ∃ k, seqL k [r] t1 = some res) : ∃ k, seqs k t = some res := by
 obtain ⟨n, h⟩ := h
 obtain ⟨m, h2⟩ := h2
 refine ⟨max n m + 1, ?_⟩
 unfold seqs
 rw [Zut (Nat.le_max_left n m) h]
 exact Zzh (Nat.le_max_right n m) h2
theorem Z46 {t t1 : List UInt8} {l : List Rx} {r : Rx} {res : Res Rx} (h0 : t ≠ [] /\ hd t ≠ 124 /\ hd t ≠ 41) (h : ∃ k, Zb7 k t = some (.ok r t1)) (h2 : ∃ k, seqL k (l ++ [r]) t1 = some res) : ∃ k, seqL k l t = some res := by
 obtain ⟨n, h⟩ := h
 obtain ⟨m, h2⟩ := h2
 refine ⟨max n m + 1, ?_⟩
 unfold seqL
 rw [if_pos h0, Zut (Nat.le_max_left n m) h]
 exact Zzh (Nat.le_max_right n m) h2
theorem Z47 {t t1 : List UInt8} {l : List Rx} {r : Rx} {res : Res Rx} (h : ∃ k, seqs k t = some (.ok r t1)) (h2 : ∃ k, altL k (l ++ [r]) t1 = some res) : ∃ k, altL k l (124 :: t) = some res := by
 obtain ⟨n, h⟩ := h
 obtain ⟨m, h2⟩ := h2
 refine ⟨max n m + 1, ?_⟩
 unfold altL
 rw [if_pos (by rfl)]
 show (match seqs (max n m) t with
  | none => none
  | some (Res.bad q) => some (Res.bad q)
  | some (Res.ok r t1) => altL (max n m) (l ++ [r]) t1) = _
 rw [Zq4 (Nat.le_max_left n m) h]
 exact Zzi (Nat.le_max_right n m) h2
theorem Zzk {t t1 : List UInt8} {r : Rx} {res : Res Rx} (h : ∃ k, seqs k t = some (.ok r t1)) (h2 : ∃ k, altL k [r] t1 = some res) : ∃ k, alts k t = some res := by
 obtain ⟨n, h⟩ := h
 obtain ⟨m, h2⟩ := h2
 refine ⟨max n m + 1, ?_⟩
 unfold alts
 rw [Zq4 (Nat.le_max_left n m) h]
 exact Zzi (Nat.le_max_right n m) h2
def St0 (w : List UInt8) : Prop := w = [] \/ hd w = 41
def St1 (w : List UInt8) : Prop := w = [] \/ hd w = 124 \/ hd w = 41
theorem St0.one {w : List UInt8} (h : St0 w) : St1 w := h.elim .inl fun h => .inr (.inr h)
theorem Zsw {w : List UInt8} (h : hd w ≠ 42 /\ hd w ≠ 43 /\ hd w ≠ 63) (r : Rx) : ∃ k, opsL k r w = some (.ok r w) := by
 refine ⟨1, ?_⟩
 unfold opsL
 rw [show opX (hd w) r = none by unfold opX; rw [if_neg h.1, if_neg h.2.1, if_neg h.2.2]]
theorem St1.ops {w : List UInt8} (h : St1 w) : hd w ≠ 42 /\ hd w ≠ 43 /\ hd w ≠ 63 := by
 rcases h with rfl | h | h
 ·exact ⟨by decide, by decide, by decide⟩
 ·omega
 ·omega
theorem Zq9 {w : List UInt8} (h : St1 w) (l : List Rx) : ∃ k, seqL k l w = some (.ok (Zcs 3 l) w) := by
 refine ⟨1, ?_⟩
 unfold seqL
 rw [if_neg]
 rintro ⟨h1, h2, h3⟩
 rcases h with h | h | h
 ·exact h1 h
 ·exact h2 h
 ·exact h3 h
theorem Zra {w : List UInt8} (h : St0 w) (l : List Rx) : ∃ k, altL k l w = some (.ok (Zcs 4 l) w) := by
 refine ⟨1, ?_⟩
 unfold altL
 rw [if_neg]
 rcases h with rfl | h
 ·decide
 ·omega
def P2 (r : Rx) : Prop := ∀ w res, (∃ k, opsL k (norm r) w = some res) -> ∃ k, Zb7 k (tx r 2 ++ w) = some res
def P1 (r : Rx) : Prop := ∀ w, St1 w -> ∃ k, seqs k (tx r 1 ++ w) = some (.ok (norm r) w)
def P0 (r : Rx) : Prop := ∀ w, St0 w -> ∃ k, alts k (tx r 0 ++ w) = some (.ok (norm r) w)
theorem P1.of2 {r : Rx} (h : P2 r) (e : tx r 1 = tx r 2) : P1 r := fun w hw => by
 rw [e]
 exact Zzj (h w _ (Zsw hw.ops _)) (Zq9 hw _)
theorem P0.of1 {r : Rx} (h : P1 r) (e : tx r 0 = tx r 1) : P0 r := fun w hw => by
 rw [e]
 exact Zzk (h w hw.one) (Zra hw _)
theorem Z1t : ∀ (n : Nat) (r : Rx), size r <= n -> allX nodeOk r -> ∀ lv, ∃ c t, tx r lv = c :: t /\ (c = 91 \/ c = 40)
 | 0, r, h, _, _ => by have := Zaf r; omega
 | n + 1, r, hs, hok, lv => by
   obtain ⟨h0, hsub⟩ := Zav.1 hok
   rw [Zmf]
   have hsz := Zb1 r
   cases Zj5 h0 with
   | none => exact ⟨_, _, rfl, .inl rfl⟩
   | emp => exact ⟨_, _, rfl, .inr rfl⟩
   | set h => exact ⟨_, _, rfl, .inl rfl⟩
   | star x =>
     obtain ⟨c, t, e, hc⟩ := Z1t n x (by have := Zbh (x := x) (l := [x]) (by simp); simp only [mk0, Rx.subs] at hsz; simp only [mk0] at hs; omega) (hsub x (by simp [mk0, Rx.subs])) 2
     refine ⟨c, t ++ [42], ?_, hc⟩
     show tx x 2 ++ [42] = _
     rw [e]; rfl
   | @cat l hl =>
     cases l with
     | nil => exact absurd hl (by decide)
     | cons x l =>
       obtain ⟨c, t, e, hc⟩ := Z1t n x (by have := Zbh (x := x) (l := x :: l) (by simp); simp only [mk0, Rx.subs] at hsz; simp only [mk0] at hs; omega) (hsub x (by simp [mk0, Rx.subs])) 2
       show ∃ c t, parS _ (tx x 2 ++ _) = c :: t /\ _
       unfold parS
       split
       ·exact ⟨_, _, rfl, .inr rfl⟩
       ·rw [e]; exact ⟨_, _, rfl, hc⟩
   | @alt l hl =>
     cases l with
     | nil => exact absurd hl (by decide)
     | cons x l =>
       obtain ⟨c, t, e, hc⟩ := Z1t n x (by have := Zbh (x := x) (l := x :: l) (by simp); simp only [mk0, Rx.subs] at hsz; simp only [mk0] at hs; omega) (hsub x (by simp [mk0, Rx.subs])) 1
       show ∃ c t, parS _ (tx x 1 ++ _) = c :: t /\ _
       unfold parS
       split
       ·exact ⟨_, _, rfl, .inr rfl⟩
       ·rw [e]; exact ⟨_, _, rfl, hc⟩
theorem Zip {r : Rx} (h : allX nodeOk r) (lv : Nat) (w : List UInt8) : tx r lv ++ w ≠ [] /\ (hd (tx r lv ++ w) = 91 \/ hd (tx r lv ++ w) = 40) := by
 obtain ⟨c, t, e, hc⟩ := Z1t _ r (Nat.le_refl _) h lv
 rw [e]
 exact ⟨by simp, hc.elim (fun e => .inl (by rw [e]; rfl)) fun e => .inr (by rw [e]; rfl)⟩
theorem Zuu {t w : List UInt8} {r : Rx} (h41 : hd (t ++ 41 :: w) ≠ 41) (h : ∃ k, alts k (t ++ 41 :: w) = some (.ok r (41 :: w))) : ∃ k, atom k ((40 :: (t ++ [41])) ++ w) = some (.ok r w) := by
 obtain ⟨k, h⟩ := h
 refine ⟨k + 1, ?_⟩
 have e : (40 :: (t ++ [41])) ++ w = 40 :: (t ++ 41 :: w) := by simp
 rw [e]
 unfold atom
 rw [if_pos (by rfl)]
 show (if hd (t ++ 41 :: w) = 41 then _ else _) = _
 rw [if_neg h41]
 show (match alts k (t ++ 41 :: w) with
  | none => none
  | some (Res.bad q) => some (Res.bad q)
  | some (Res.ok r t1) => some (Zg9 r t1)) = _
 rw [h]; rfl
theorem Zuv : ∀ (l acc : List Rx) (w : List UInt8), (∀ x ∈ l, P2 x /\ allX nodeOk x) -> St1 w -> ∃ k, seqL k acc (l.flatMap (tx · 2) ++ w) = some (.ok (Zcs 3 (acc ++ l.map norm)) w)
 | [], acc, w, _, hw => by rw [List.map_nil, List.append_nil]; exact Zq9 hw acc
 | x :: l, acc, w, h, hw => by
   obtain ⟨hx, hok⟩ := h x (by simp)
   have hl : ∀ y ∈ l, P2 y /\ allX nodeOk y := fun y hy => h y (List.mem_cons_of_mem _ hy)
   rw [List.flatMap_cons, List.append_assoc]
   obtain ⟨f1, f2⟩ := Zip hok 2 (l.flatMap (tx · 2) ++ w)
   refine Z46 ⟨f1, by omega, by omega⟩ (hx _ _ (Zsw ?_ _)) ?_
   ·cases l with
    | nil => exact hw.ops
    | cons y l =>
      rw [List.flatMap_cons, List.append_assoc]
      have := (Zip (hl y (by simp)).2 2 (l.flatMap (tx · 2) ++ w)).2
      omega
   ·have := Zuv l (acc ++ [norm x]) w hl hw
    rw [List.append_assoc] at this
    exact this
theorem Zuw : ∀ (l acc : List Rx) (w : List UInt8), (∀ x ∈ l, P1 x) -> St0 w -> ∃ k, altL k acc (l.flatMap (fun x => 124 :: tx x 1) ++ w) = some (.ok (Zcs 4 (acc ++ l.map norm)) w)
 | [], acc, w, _, hw => by rw [List.map_nil, List.append_nil]; exact Zra hw acc
 | x :: l, acc, w, h, hw => by
   have hl : ∀ y ∈ l, P1 y := fun y hy => h y (List.mem_cons_of_mem _ hy)
   rw [List.flatMap_cons, List.append_assoc]
   refine Z47 (h x (by simp) _ ?_) ?_
   ·cases l with
    | nil => exact hw.one
    | cons y l => exact .inr (.inl rfl)
   ·have := Zuw l (acc ++ [norm x]) w hl hw
    rw [List.append_assoc] at this
    exact this
theorem Zrb {k : Int} {l : List Rx} (h : 2 <= l.length) : Zcs k l = mk0 k l := by
 match l, h with
 | [], h => exact absurd h (by decide)
 | [_], h => exact absurd h (by simp)
 | _ :: _ :: _, _ => rfl
theorem Zoh (k a b c d : Int) (l : List Rx) (h : k ≠ 2) : norm (.mk k a b c d l) = .mk k a b c d (l.map norm) := by
 unfold norm; rw [if_neg (fun e => h e.1), Zq8]
theorem rd : ∀ (n : Nat) (r : Rx), size r <= n -> allX nodeOk r -> P2 r /\ P1 r /\ P0 r
 | 0, r, h, _ => by have := Zaf r; omega
 | n + 1, r, hs, hok => by
   obtain ⟨h0, hsub⟩ := Zav.1 hok
   have hsz := Zb1 r
   have low : P2 r -> tx r 1 = tx r 2 -> tx r 0 = tx r 1 -> P2 r /\ P1 r /\ P0 r := fun a b c => ⟨a, .of2 a b, .of1 (.of2 a b) c⟩
   have ih : ∀ x ∈ r.subs, P2 x /\ P1 x /\ P0 x := fun x hx => rd n x (by have := Zbh hx; omega) (hsub x hx)
   have atm : (∀ w, ∃ k, atom k (tx r 2 ++ w) = some (.ok (norm r) w)) -> P2 r := fun h w res hk => Z1s (h w) hk
   cases Zj5 h0 with
   | none => exact low (atm fun w => ⟨1, rfl⟩) rfl rfl
   | emp => exact low (atm fun w => ⟨1, rfl⟩) rfl rfl
   | @set a b c d h =>
     refine low (atm fun w => ?_) rfl rfl
     have hi := Zm4 (hasX (.mk 2 a b c d [])) 256
     have := Z1l (l := rgN (hasX (.mk 2 a b c d [])) 256) hi.le w
     have e : norm (.mk 2 a b c d []) = if rgN (hasX (.mk 2 a b c d [])) 256 = [] then mk0 0 [] else setX (Zwd no (rgN (hasX (.mk 2 a b c d [])) 256)) := by
      unfold norm
      by_cases hc : rgN (hasX (.mk 2 a b c d [])) 256 = []
      ·rw [if_pos ⟨rfl, hc⟩, if_pos hc]
      ·rw [if_neg (fun e => hc e.2), if_neg hc]
       exact (Z1m h fun i hi' => by rw [Zq6, hi.cov]; simp [no, hi']).symm
     rw [e]
     exact this
   | star x =>
     have hx := (ih x (by simp [mk0, Rx.subs])).1
     refine low (fun w res hk => ?_) rfl rfl
     show ∃ k, Zb7 k ((tx x 2 ++ [42]) ++ w) = some res
     rw [List.append_assoc]
     refine hx _ _ ?_
     obtain ⟨k, hk⟩ := hk
     refine ⟨k + 1, ?_⟩
     unfold opsL
     show opsL k (Zme (norm x)) w = _
     have e : norm (mk0 5 [x]) = Zme (norm x) := Zoh 5 0 0 0 0 [x] (by decide)
     rw [e] at hk
     exact hk
   | @cat l hl =>
     have hx : ∀ x ∈ l, P2 x /\ allX nodeOk x := fun x hx => ⟨(ih x hx).1, hsub x hx⟩
     have e : norm (mk0 3 l) = mk0 3 (l.map norm) := Zoh 3 0 0 0 0 l (by decide)
     have ej : Zcs 3 (l.map norm) = norm (mk0 3 l) := by rw [e]; exact Zrb (by simpa using hl)
     have ei : Zlz (mk0 3 l) = l.flatMap (tx · 2) := by
      show Zio [] (l.map (tx · 2)) = _
      cases l with
      | nil => rfl
      | cons x l => simp [Zio, List.flatMap_map]
     have p1 : P1 (mk0 3 l) := fun w hw => by
      have et : tx (mk0 3 l) 1 = Zlz (mk0 3 l) := by rw [Zmf]; rfl
      rw [et, ei, <- ej]
      cases l with
      | nil => exact absurd hl (by decide)
      | cons x l =>
        rw [List.flatMap_cons, List.append_assoc]
        refine Zzj ((hx x (by simp)).1 _ _ (Zsw ?_ _)) ?_
        ·cases l with
         | nil => exact hw.ops
         | cons y l =>
           rw [List.flatMap_cons, List.append_assoc]
           have := (Zip (hx y (by simp)).2 2 (l.flatMap (tx · 2) ++ w)).2
           omega
        ·exact Zuv l [norm x] w (fun y hy => hx y (List.mem_cons_of_mem _ hy)) hw
     have p0 : P0 (mk0 3 l) := .of1 p1 rfl
     refine ⟨atm fun w => ?_, p1, p0⟩
     refine Zuu ?_ (p0 (41 :: w) (.inr rfl))
     have := (Zip hok 0 (41 :: w)).2
     show hd (tx (mk0 3 l) 0 ++ 41 :: w) ≠ 41
     omega
   | @alt l hl =>
     have hx : ∀ x ∈ l, P1 x := fun x hx => (ih x hx).2.1
     have e : norm (mk0 4 l) = mk0 4 (l.map norm) := Zoh 4 0 0 0 0 l (by decide)
     have ej : Zcs 4 (l.map norm) = norm (mk0 4 l) := by rw [e]; exact Zrb (by simpa using hl)
     have p0 : P0 (mk0 4 l) := fun w hw => by
      have et : tx (mk0 4 l) 0 = Zio [124] (l.map (tx · 1)) := by rw [Zmf]; rfl
      rw [et, <- ej]
      cases l with
      | nil => exact absurd hl (by decide)
      | cons x l =>
        have ei : Zio [124] ((x :: l).map (tx · 1)) ++ w = tx x 1 ++ (l.flatMap (fun x => 124 :: tx x 1) ++ w) := by
         simp [Zio, List.flatMap_map]
        rw [ei]
        refine Zzk (hx x (by simp) _ ?_) ?_
        ·cases l with
         | nil => exact hw.one
         | cons y l => exact .inr (.inl rfl)
        ·exact Zuw l [norm x] w (fun y hy => hx y (List.mem_cons_of_mem _ hy)) hw
     have p2 : P2 (mk0 4 l) := atm fun w => by
      refine Zuu ?_ (p0 (41 :: w) (.inr rfl))
      have := (Zip hok 0 (41 :: w)).2
      show hd (tx (mk0 4 l) 0 ++ 41 :: w) ≠ 41
      omega
     exact ⟨p2, .of2 p2 rfl, p0⟩
theorem Z48 {r : Rx} (h : allX nodeOk r) : ∃ k, alts k (tx r 0) = some (.ok (norm r) []) := by
 have := (rd _ r (Nat.le_refl _) h).2.2 [] (.inl rfl)
 rwa [List.append_nil] at this
end Go.Rx
end
section
open Go Go.Proofs Go.Ab Go.Rf
set_option maxRecDepth 100000
namespace Go.Rx
theorem Zwe (p : Nat -> Bool) : rangeOk (setX p) := fun i hi => by
 have := Zhl p i
 rcases (show i = 0 \/ i = 1 \/ i = 2 \/ i = 3 by omega) with rfl | rfl | rfl | rfl
 ·exact ⟨Int.natCast_nonneg _, by have : (setX p).w 0 = (wd p 0 : Nat) := rfl; omega⟩
 ·exact ⟨Int.natCast_nonneg _, by have : (setX p).w 1 = (wd p 1 : Nat) := rfl; omega⟩
 ·exact ⟨Int.natCast_nonneg _, by have : (setX p).w 2 = (wd p 2 : Nat) := rfl; omega⟩
 ·exact ⟨Int.natCast_nonneg _, by have : (setX p).w 3 = (wd p 3 : Nat) := rfl; omega⟩
theorem Zl0 (k : Int) (l : List Rx) : rangeOk (mk0 k l) := fun i hi => by
 rcases (show i = 0 \/ i = 1 \/ i = 2 \/ i = 3 by omega) with rfl | rfl | rfl | rfl <;> exact ⟨Int.le_refl _, (by decide : (0 : Int) < 2 ^ 64)⟩
structure PClosed (p : Rx -> Prop) : Prop where
 set : ∀ q, p (setX q)
 node : ∀ k l, p (mk0 k l)
theorem pclosed_range : PClosed rangeOk := ⟨Zwe, Zl0⟩
section
variable {p : Rx -> Prop} (hp : PClosed p)
include hp
theorem PClosed.setA (q : Nat -> Bool) : allX p (setX q) := Zav.2 ⟨hp.set q, fun _ h => by cases h⟩
theorem PClosed.mkA {k : Int} {l : List Rx} (h : ∀ x ∈ l, allX p x) : allX p (mk0 k l) := Zav.2 ⟨hp.node k l, h⟩
theorem PClosed.joinA {k : Int} {l : List Rx} (h : ∀ x ∈ l, allX p x) : allX p (Zcs k l) := Zlr (fun _ => hp.node k l) h
theorem PClosed.setL : ∀ (n : Nat) (neg : Bool) (q : Nat -> Bool) (t : List UInt8) (r : Res Rx), Rx.setL n neg q t = some r -> r.All (allX p)
 | 0, _, _, _, _, h => by simp [Rx.setL] at h
 | n + 1, neg, q, t, r, h => by
   unfold Rx.setL at h
   split at h
   ·cases h; trivial
   ·split at h
    ·cases h; trivial
    ·split at h
     ·cases h; show allX p _; exact hp.setA _
     ·exact PClosed.setL n _ _ _ _ h
theorem PClosed.opX {c : Nat} {r r' : Rx} (h : allX p r) (e : Rx.opX c r = some r') : allX p r' := by
 have he : allX p (mk0 1 []) := hp.mkA fun _ h => by cases h
 have hst : allX p (Zme r) := hp.mkA fun x hx => by rw [List.mem_singleton.1 hx]; exact h
 unfold Rx.opX at e
 repeat' split at e
 all_goals first
  | (cases e; exact hst)
  | (cases e; refine hp.mkA fun x hx => ?_; simp only [List.mem_cons, List.not_mem_nil, or_false] at hx; rcases hx with rfl | rfl <;> assumption)
  | cases e
theorem PClosed.opsL : ∀ (n : Nat) (r : Rx) (t : List UInt8) (o : Res Rx), Rx.opsL n r t = some o -> allX p r -> o.All (allX p)
 | 0, _, _, _, h, _ => by simp [Rx.opsL] at h
 | n + 1, r, t, o, h, hr => by
   unfold Rx.opsL at h
   split at h
   ·rename_i r' e; exact PClosed.opsL n r' _ _ h (hp.opX hr e)
   ·cases h; exact hr
theorem PClosed.par : ∀ (n : Nat), (∀ t r, alts n t = some r -> r.All (allX p)) /\ (∀ l t r, altL n l t = some r -> (∀ x ∈ l, allX p x) -> r.All (allX p)) /\ (∀ t r, seqs n t = some r -> r.All (allX p)) /\
 (∀ l t r, seqL n l t = some r -> (∀ x ∈ l, allX p x) -> r.All (allX p)) /\
 (∀ t r, Zb7 n t = some r -> r.All (allX p)) /\ (∀ t r, atom n t = some r -> r.All (allX p)) := by
 intro n
 induction n with
 | zero => exact ⟨fun t r h => by simp [alts] at h, fun l t r h => by simp [altL] at h, fun t r h => by simp [seqs] at h, fun l t r h => by simp [seqL] at h, fun t r h => by simp [Zb7] at h, fun t r h => by simp [atom] at h⟩
 | succ n ih =>
   obtain ⟨ih1, ih2, ih3, ih4, ih5, ih6⟩ := ih
   refine ⟨fun t r h => ?_, fun l t r h hx => ?_, fun t r h => ?_, fun l t r h hx => ?_, fun t r h => ?_, fun t r h => ?_⟩
   ·unfold alts at h
    split at h
    ·cases h
    ·cases h; trivial
    ·rename_i hq
     have h1 := ih3 _ _ hq
     exact ih2 _ _ _ h (fun x hx => by rw [List.mem_singleton.1 hx]; exact h1)
   ·unfold altL at h
    split at h
    ·split at h
     ·cases h
     ·cases h; trivial
     ·rename_i hq
      have h1 := ih3 _ _ hq
      refine ih2 _ _ _ h fun x hx' => ?_
      rcases List.mem_append.1 hx' with hx' | hx'
      ·exact hx x hx'
      ·rw [List.mem_singleton.1 hx']; exact h1
    ·cases h; exact hp.joinA hx
   ·unfold seqs at h
    split at h
    ·cases h
    ·cases h; trivial
    ·rename_i hq
     have h1 := ih5 _ _ hq
     exact ih4 _ _ _ h (fun x hx => by rw [List.mem_singleton.1 hx]; exact h1)
   ·unfold seqL at h
    split at h
    ·split at h
     ·cases h
     ·cases h; trivial
     ·rename_i hq
      have h1 := ih5 _ _ hq
      refine ih4 _ _ _ h fun x hx' => ?_
      rcases List.mem_append.1 hx' with hx' | hx'
      ·exact hx x hx'
      ·rw [List.mem_singleton.1 hx']; exact h1
    ·cases h; exact hp.joinA hx
   ·unfold Zb7 at h
    split at h
    ·cases h
    ·cases h; trivial
    ·rename_i hq
     exact hp.opsL _ _ _ _ h (ih6 _ _ hq)
   ·unfold atom at h
    split at h
    ·split at h
     ·cases h; exact hp.mkA fun _ h => by cases h
     ·split at h
      ·cases h
      ·cases h; trivial
      ·rename_i hq
       cases h
       have h1 := ih1 _ _ hq
       unfold Zg9
       split
       ·exact h1
       ·trivial
    ·split at h
     ·unfold setR at h
      split at h
      ·exact hp.setL _ _ _ _ _ h
      ·split at h
       ·cases h; exact hp.mkA fun _ h => by cases h
       ·exact hp.setL _ _ _ _ _ h
     ·split at h
      ·cases h; exact hp.setA _
      ·split at h
       ·split at h
        ·cases h; exact hp.setA _
        ·split at h
         ·cases h; trivial
         ·cases h; exact hp.setA _
       ·split at h
        ·cases h; trivial
        ·cases h; exact hp.setA _
theorem PClosed.parse (s : List UInt8) : allX p (Za6 s).1 := by
 have hn : allX p (mk0 0 []) := hp.mkA fun _ h => by cases h
 unfold Za6
 split
 ·exact hn
 ·split
  ·rename_i hr
   have := (hp.par _).1 _ _ hr
   split
   ·split
    ·exact hn
    ·exact this
   ·exact hn
  ·exact hn
  ·exact hn
end
theorem Zsx (s : List UInt8) : allX rangeOk (Za6 s).1 := pclosed_range.parse s
theorem Zwf (s : List UInt8) : lens 1002 (Za6 s).1 := by
 have hn : lens 1002 (mk0 0 []) := Zeq.2 ⟨Nat.zero_le _, fun _ h => by cases h⟩
 unfold Za6
 split
 ·exact hn
 ·split
  ·rename_i hs _ r t hr
   split
   ·split
    ·exact hn
    ·exact Zgc (by omega) _ _ (Nat.le_refl _) (Zlp hr)
   ·exact hn
  ·exact hn
  ·exact hn
theorem Zrc (s : List UInt8) : lens (2 ^ 40) (Za6 s).1 := Zgc (by omega) _ _ (Nat.le_refl _) (Zwf s)
def e1 : List UInt8 := [97, 43, 98, 63]
def e2 : List UInt8 := [91, 97, 45, 99, 93]
def e3 : List UInt8 := [97, 124]
def e4 : List UInt8 := [91, 98, 45, 97, 93]
theorem c19' {s : List UInt8} {f i : Int} (h : (Za6 s).2 = (f, i)) : Holds Try.prog 19 [A.d (.lit (Zaa s))] [] (Ret (.tup [(true, enc (Za6 s).1), (true, [.lit (.int .i64 f), .lit (.int .i64 i)])])) := by
 have := c19 s
 unfold Zy3 at this
 rw [h] at this
 exact this
theorem p1 : (Za6 e1).2 = (0, 0) := by decide
theorem p2 : (Za6 e2).2 = (0, 0) := by decide
theorem p3 : (Za6 e3).2 = (8, 2) := by decide
theorem p4 : (Za6 e4).2 = (8, 3) := by decide
theorem c24e (s : List UInt8) (h : s.length <= 10) (hm : Zlt (Za6 e1).1 s = true) (v : Bool) (hv : Zm3 (Za6 e1).1 s = v) : Holds Try.prog 24 [A.agg (enc (Za6 e1).1), A.d (.lit (Zaa s))] [] (Ret (Zhp v)) := by
 rw [<- hv]
 exact c24 _ s (Zsx _) (Zrc _) (by omega) fun _ => hm
theorem c14 : Holds Try.prog 14 [] [] (Ret (Zhp true)) := by
 have hsz : size (Za6 e2).1 <= 2 ^ 40 := by decide
 have hv : Z07 (Za6 e2).1 = 1 := by decide
 have hsize : Holds Try.prog 17 [A.agg (enc (Za6 e2).1)] [] (Ret (intA 1)) := by
  have := c17 _ hsz
  rw [hv] at this
  exact this
 refine w14 (Zae (c19' p1) ⟨_, _, rfl, rfl, teq6 _, rfl, Zae (c19' p2) ⟨_, _, rfl, rfl, teq6 _, rfl, Zae (c19' p3) ⟨_, _, rfl, rfl, teq6 _, rfl, Zae (c19' p4) ⟨_, _, rfl, rfl, teq6 _, rfl, rfl, rfl, rfl, rfl, rfl, rfl, rfl, rfl, fun _ => ⟨fun _ => ⟨fun _ => ?_, fun h => absurd h (by decide)⟩, fun h => absurd h (by decide)⟩, fun h => absurd h (by decide)⟩⟩⟩⟩)
 refine Zae (c24e [97] (by decide) (by decide) true (by decide)) ⟨_, rfl, rfl, fun _ => ?_, fun h => by cases h⟩
 refine Zae (c24e [97, 98] (by decide) (by decide) true (by decide)) ⟨_, rfl, rfl, fun _ => ?_, fun h => by cases h⟩
 refine Zae (c24e [97, 97, 98] (by decide) (by decide) true (by decide)) ⟨_, rfl, rfl, fun _ => ?_, fun h => by cases h⟩
 refine Zae (c24e [98] (by decide) (by decide) false (by decide)) ⟨_, rfl, rfl, fun _ => ?_, fun h => by cases h⟩
 exact Zae hsize ⟨_, rfl, rfl, rfl, rfl⟩
end Go.Rx
end
section
open Go Go.Proofs Go.Ab Go.Rf
set_option maxRecDepth 100000
namespace Go.Rx
theorem Zgv (b n : Nat) : der b n nilX = nilX := by cases n <;> rfl
theorem Zgw (b n : Nat) : der b n empX = nilX := by cases n <;> rfl
theorem Zda (b n : Nat) : Zcz b n nilX = true := by cases n <;> rfl
theorem Zd1 (b n : Nat) : Zcz b n empX = true := by cases n <;> rfl
theorem Zed {r : Rx} (h : r.subs = []) : hdX r = nilX := by unfold hdX; rw [h]; rfl
theorem Zc0 {r x : Rx} {l : List Rx} (h : r.subs = x :: l) : hdX r = x := by unfold hdX; rw [h]; rfl
theorem Zgx : catX [] = empX := rfl
theorem Zbb {r x : Rx} {l : List Rx} (h : r.subs = x :: l) : size r = 1 + size x + Zam l := by rw [Zb1, h]; simp only [Zam]; omega
theorem Zbz {r x : Rx} (h : x ∈ r.subs) : size x < size r := by
 obtain ⟨i, hi, rfl⟩ := List.mem_iff_getElem.1 h
 exact Zbc hi
theorem Zj6 (b : Nat) : ∀ (n m : Nat) (r : Rx), size r <= n -> size r <= m -> der b n r = der b m r := by
 intro n
 induction n with
 | zero => intro m r h; have := Zaf r; omega
 | succ n ih =>
   intro m r h h'
   cases m with
   | zero => have := Zaf r; omega
   | succ m =>
     have hh : der b n (hdX r) = der b m (hdX r) := by
      cases hs : r.subs with
      | nil => rw [Zed hs, Zgv, Zgv]
      | cons x l => rw [Zc0 hs]; have := Zbb hs; exact ih m x (by omega) (by omega)
     have ht : der b n (catX r.subs.tail) = der b m (catX r.subs.tail) := by
      cases hs : r.subs with
      | nil => rw [List.tail_nil, Zgx, Zgw, Zgw]
      | cons x l =>
        have h1 := Zbb hs
        have h2 := Zfb l
        have h3 := Zaf x
        exact ih m _ (by simp; omega) (by simp; omega)
     have hm : r.subs.map (der b n) = r.subs.map (der b m) := List.map_congr_left fun x hx => by
      have := Zbz hx
      exact ih m x (by omega) (by omega)
     simp only [der]
     rw [hh, ht, hm]
theorem Zwg (b : Nat) : ∀ (n m : Nat) (r : Rx), size r <= n -> size r <= m -> Zcz b n r = Zcz b m r := by
 intro n
 induction n with
 | zero => intro m r h; have := Zaf r; omega
 | succ n ih =>
   intro m r h h'
   cases m with
   | zero => have := Zaf r; omega
   | succ m =>
     have hh : Zcz b n (hdX r) = Zcz b m (hdX r) := by
      cases hs : r.subs with
      | nil => rw [Zed hs, Zda, Zda]
      | cons x l => rw [Zc0 hs]; have := Zbb hs; exact ih m x (by omega) (by omega)
     have hh2 : der b n (hdX r) = der b m (hdX r) := by
      cases hs : r.subs with
      | nil => rw [Zed hs, Zgv, Zgv]
      | cons x l => rw [Zc0 hs]; have := Zbb hs; exact Zj6 b n m x (by omega) (by omega)
     have ht : Zcz b n (catX r.subs.tail) = Zcz b m (catX r.subs.tail) /\ der b n (catX r.subs.tail) = der b m (catX r.subs.tail) := by
      cases hs : r.subs with
      | nil => rw [List.tail_nil, Zgx, Zgw, Zgw, Zd1, Zd1]; exact ⟨rfl, rfl⟩
      | cons x l =>
        have h1 := Zbb hs
        have h2 := Zfb l
        have h3 := Zaf x
        exact ⟨ih m _ (by simp; omega) (by simp; omega), Zj6 b n m _ (by simp; omega) (by simp; omega)⟩
     have hm : r.subs.map (der b n) = r.subs.map (der b m) := List.map_congr_left fun x hx => by
      have := Zbz hx
      exact Zj6 b n m x (by omega) (by omega)
     have ha : r.subs.all (Zcz b n) = r.subs.all (Zcz b m) := by
      rw [Bool.eq_iff_iff, List.all_eq_true, List.all_eq_true]
      refine forall_congr' fun x => forall_congr' fun hx => ?_
      have := Zbz hx
      rw [ih m x (by omega) (by omega)]
     simp only [Zcz]
     rw [hh, ht.1, ht.2, hm, ha, hh2]
section
variable {r : Rx} {b : UInt8}
theorem Z49 {n : Nat} (h : size r <= n) : der b.toNat n r = D1 r b := Zj6 _ _ _ _ h (Nat.le_refl _)
theorem Zzl {n : Nat} (h : size r <= n) : Zcz b.toNat n r = ok1 r b := Zwg _ _ _ _ h (Nat.le_refl _)
theorem Ziq : D1 nilX b = nilX := Zgv _ _
theorem Zm5 : D1 empX b = nilX := Zgw _ _
theorem Zc1 (r : Rx) : ∃ n, size r = n + 1 := ⟨size r - 1, by have := Zaf r; omega⟩
theorem Z1u {n : Nat} (h : size r = n + 1) : der b.toNat n (hdX r) = D1 (hdX r) b := by
 cases hs : r.subs with
 | nil => rw [Zed hs, Zgv, Ziq]
 | cons x l => rw [Zc0 hs]; have := Zbb hs; exact Z49 (by omega)
theorem Z60 {n : Nat} (h : size r = n + 1) : der b.toNat n (catX r.subs.tail) = D1 (catX r.subs.tail) b := by
 cases hs : r.subs with
 | nil => rw [List.tail_nil, Zgx, Zgw, Zm5]
 | cons x l =>
   have h1 := Zbb hs
   have h2 := Zfb l
   have h3 := Zaf x
   exact Z49 (by simp; omega)
theorem Z20 {n : Nat} (h : size r = n + 1) : r.subs.map (der b.toNat n) = r.subs.map fun x => D1 x b :=
 List.map_congr_left fun x hx => by have := Zbz hx; exact Z49 (by omega)
theorem Z21 (k : r.kind = 2) : D1 r b = if hasX r b.toNat then empX else nilX := by
 obtain ⟨n, h⟩ := Zc1 r
 unfold D1; rw [h]; simp only [der, k, if_true]
theorem Zzm (k : r.kind = 5) : D1 r b = catX [D1 (hdX r) b, r] := by
 obtain ⟨n, h⟩ := Zc1 r
 rw [<- Z1u h]
 unfold D1; rw [h]; simp [der, k]
theorem Zzn (k : r.kind = 4) : D1 r b = altX (r.subs.map fun x => D1 x b) := by
 obtain ⟨n, h⟩ := Zc1 r
 rw [<- Z20 h]
 unfold D1; rw [h]; simp [der, k]
theorem Zl1 (k : r.kind = 3) : D1 r b = if null (hdX r) then altX [catX [D1 (hdX r) b, catX r.subs.tail], D1 (catX r.subs.tail) b] else catX [D1 (hdX r) b, catX r.subs.tail] := by
 obtain ⟨n, h⟩ := Zc1 r
 rw [<- Z1u h, <- Z60 h]
 unfold D1; rw [h]; simp [der, k]
theorem Zsy (k2 : r.kind ≠ 2) (k3 : r.kind ≠ 3) (k4 : r.kind ≠ 4) (k5 : r.kind ≠ 5) : D1 r b = nilX := by
 obtain ⟨n, h⟩ := Zc1 r
 unfold D1; rw [h]; simp [der, k2, k3, k4, k5]
theorem Z22 {n : Nat} (h : size r = n + 1) : Zcz b.toNat n (hdX r) = ok1 (hdX r) b := by
 cases hs : r.subs with
 | nil => rw [Zed hs, Zda]; exact (Zda _ _).symm
 | cons x l => rw [Zc0 hs]; have := Zbb hs; exact Zzl (by omega)
theorem Z61 {n : Nat} (h : size r = n + 1) : Zcz b.toNat n (catX r.subs.tail) = ok1 (catX r.subs.tail) b := by
 cases hs : r.subs with
 | nil => rw [List.tail_nil, Zgx, Zd1]; exact (Zd1 _ _).symm
 | cons x l =>
   have h1 := Zbb hs
   have h2 := Zfb l
   have h3 := Zaf x
   exact Zzl (by simp; omega)
theorem Z1v (k : r.kind = 5) : ok1 r b = (ok1 (hdX r) b && Zg1 [D1 (hdX r) b, r]) := by
 obtain ⟨n, h⟩ := Zc1 r
 rw [<- Z1u h, <- Z22 h]
 unfold ok1; rw [h]; simp [Zcz, k]
theorem Z5a (k : r.kind = 4) : ok1 r b = ((r.subs.all fun x => ok1 x b) && Zqz (r.subs.map fun x => D1 x b)) := by
 obtain ⟨n, h⟩ := Zc1 r
 have ha : r.subs.all (Zcz b.toNat n) = r.subs.all fun x => ok1 x b := by
  rw [Bool.eq_iff_iff, List.all_eq_true, List.all_eq_true]
  refine forall_congr' fun x => forall_congr' fun hx => ?_
  have := Zbz hx
  rw [Zzl (by omega)]
 rw [<- Z20 h, <- ha]
 unfold ok1; rw [h]; simp [Zcz, k]
theorem Zzo (k : r.kind = 3) : ok1 r b = (ok1 (hdX r) b && (Zg1 r.subs.tail && (Zg1 [D1 (hdX r) b, catX r.subs.tail] && (!null (hdX r) || (ok1 (catX r.subs.tail) b && Zqz [catX [D1 (hdX r) b, catX r.subs.tail], D1 (catX r.subs.tail) b]))))) := by
 obtain ⟨n, h⟩ := Zc1 r
 rw [<- Z1u h, <- Z60 h, <- Z22 h, <- Z61 h]
 unfold ok1; rw [h]; simp [Zcz, k]
theorem Z1w (k3 : r.kind ≠ 3) (k4 : r.kind ≠ 4) (k5 : r.kind ≠ 5) : ok1 r b = true := by
 obtain ⟨n, h⟩ := Zc1 r
 unfold ok1; rw [h]; simp [Zcz, k3, k4, k5]
end
end Go.Rx
end
section
open Go Go.Proofs Go.Ab Go.Rf
set_option maxRecDepth 100000
namespace Go.Rx
inductive Star (P : List UInt8 -> Prop) : List UInt8 -> Prop
 | nil : Star P []
 | step {u v} (h : P u) (ht : Star P v) : Star P (u ++ v)
theorem Star.one {P : List UInt8 -> Prop} {u : List UInt8} (h : P u) : Star P u := by have := Star.step h .nil; rwa [List.append_nil] at this
theorem Star.app {P : List UInt8 -> Prop} {u v : List UInt8} (h : Star P u) (h' : Star P v) : Star P (u ++ v) := by
 induction h with
 | nil => exact h'
 | step h _ ih => rw [List.append_assoc]; exact .step h ih
theorem Star.mono {P Q : List UInt8 -> Prop} (hq : ∀ u, P u -> Q u) {u : List UInt8} (h : Star P u) : Star Q u := by
 induction h with
 | nil => exact .nil
 | step h _ ih => exact .step (hq _ h) ih
theorem Star.cons {P : List UInt8 -> Prop} {b : UInt8} {w : List UInt8} : Star P (b :: w) ↔ ∃ u v, w = u ++ v /\ P (b :: u) /\ Star P v := by
 constructor
 ·intro h
  generalize e : b :: w = x at h
  induction h with
  | nil => cases e
  | @step u v h ht ih =>
    cases u with
    | nil => exact ih (by simpa using e)
    | cons c u =>
      injection e with e1 e2
      subst e1
      exact ⟨u, v, e2, h, ht⟩
 ·rintro ⟨u, v, rfl, h, ht⟩
  exact .step (u := b :: u) h ht
mutual
def lang : Rx -> List UInt8 -> Prop
 | .mk k a b c d l, w => if k = 1 then w = [] else if k = 2 then ∃ x, w = [x] /\ hasX (.mk k a b c d l) x.toNat = true else if k = 3 then Zcq l w else if k = 4 then Zfr l w else if k = 5 then Zzp l w else False
def Zcq : List Rx -> List UInt8 -> Prop
 | [], w => w = []
 | x :: l, w => ∃ u v, w = u ++ v /\ lang x u /\ Zcq l v
def Zfr : List Rx -> List UInt8 -> Prop
 | [], _ => False
 | x :: l, w => lang x w \/ Zfr l w
def Zzp : List Rx -> List UInt8 -> Prop
 | [], w => w = []
 | x :: _, w => Star (fun u => lang x u) w
end
theorem Zjd (r : Rx) (w : List UInt8) : lang r w ↔ if r.kind = 1 then w = [] else if r.kind = 2 then ∃ x, w = [x] /\ hasX r x.toNat = true else if r.kind = 3 then Zcq r.subs w else if r.kind = 4 then Zfr r.subs w else if r.kind = 5 then Zzp r.subs w else False := by
 cases r with | mk k a b c d l => simp only [lang, Rx.kind, Rx.subs]; exact Iff.rfl
section
variable {r : Rx} {w : List UInt8}
theorem Zzq (k : r.kind = 1) : lang r w ↔ w = [] := by rw [Zjd, if_pos k]
theorem Zwh (k : r.kind = 2) : lang r w ↔ ∃ x, w = [x] /\ hasX r x.toNat = true := by rw [Zjd, if_neg (by omega), if_pos k]
theorem Zsz (k : r.kind = 3) : lang r w ↔ Zcq r.subs w := by rw [Zjd, if_neg (by omega), if_neg (by omega), if_pos k]
theorem Zrd (k : r.kind = 4) : lang r w ↔ Zfr r.subs w := by rw [Zjd, if_neg (by omega), if_neg (by omega), if_neg (by omega), if_pos k]
theorem Zre (k : r.kind = 5) : lang r w ↔ Zzp r.subs w := by rw [Zjd, if_neg (by omega), if_neg (by omega), if_neg (by omega), if_neg (by omega), if_pos k]
theorem Zwi (k1 : r.kind ≠ 1) (k2 : r.kind ≠ 2) (k3 : r.kind ≠ 3) (k4 : r.kind ≠ 4) (k5 : r.kind ≠ 5) : ¬ lang r w := by rw [Zjd, if_neg k1, if_neg k2, if_neg k3, if_neg k4, if_neg k5]; exact id
end
theorem Zee (w : List UInt8) : ¬ lang nilX w := Zwi (by decide) (by decide) (by decide) (by decide) (by decide)
theorem Zrf (w : List UInt8) : lang empX w ↔ w = [] := Zzq rfl
theorem Zc2 {w : List UInt8} : ∀ {l : List Rx}, Zfr l w ↔ ∃ x ∈ l, lang x w
 | [] => by simp [Zfr]
 | x :: l => by simp [Zfr, Zc2 (l := l)]
theorem Zes {m : List Rx} : ∀ {l : List Rx} {w : List UInt8}, Zcq (l ++ m) w ↔ ∃ u v, w = u ++ v /\ Zcq l u /\ Zcq m v
 | [], w => by
   simp only [List.nil_append, Zcq]
   constructor
   ·intro h; exact ⟨[], w, rfl, rfl, h⟩
   ·rintro ⟨u, v, rfl, rfl, h⟩; exact h
 | x :: l, w => by
   simp only [List.cons_append, Zcq]
   constructor
   ·rintro ⟨u, v, rfl, h1, h2⟩
    obtain ⟨v1, v2, rfl, h3, h4⟩ := Zes.1 h2
    exact ⟨u ++ v1, v2, by rw [List.append_assoc], ⟨u, v1, rfl, h1, h3⟩, h4⟩
   ·rintro ⟨_, v2, rfl, ⟨u, v1, rfl, h1, h3⟩, h4⟩
    exact ⟨u, v1 ++ v2, by rw [List.append_assoc], h1, Zes.2 ⟨v1, v2, rfl, h3, h4⟩⟩
theorem langC_one {x : Rx} {w : List UInt8} : Zcq [x] w ↔ lang x w := by
 simp only [Zcq]
 constructor
 ·rintro ⟨u, v, rfl, h, rfl⟩; rwa [List.append_nil]
 ·intro h; exact ⟨w, [], (List.append_nil w).symm, h, rfl⟩
theorem Zm6 {x : Rx} {w : List UInt8} : Zcq (catF x) w ↔ lang x w := by
 unfold catF
 split
 ·rename_i k; exact (Zsz k).symm
 ·split
  ·rename_i k; exact (Zzq k).symm
  ·exact langC_one
theorem Zje : ∀ {l : List Rx} {w : List UInt8}, Zcq (outC l) w ↔ Zcq l w
 | [], w => Iff.rfl
 | x :: l, w => by
   have e : outC (x :: l) = catF x ++ outC l := by unfold outC; rw [List.flatMap_cons]
   rw [e, Zes]
   simp only [Zcq]
   constructor
   ·rintro ⟨u, v, rfl, h1, h2⟩; exact ⟨u, v, rfl, Zm6.1 h1, Zje.1 h2⟩
   ·rintro ⟨u, v, rfl, h1, h2⟩; exact ⟨u, v, rfl, Zm6.2 h1, Zje.2 h2⟩
theorem Zwj {l : List Rx} {w : List UInt8} (h : l.any (fun x => x.kind == 0) = true) : ¬ Zcq l w := by
 induction l generalizing w with
 | nil => cases h
 | cons x l ih =>
   rintro ⟨u, v, rfl, h1, h2⟩
   rw [List.any_cons, Bool.or_eq_true] at h
   rcases h with h | h
   ·have k : x.kind = 0 := by simpa using h
    exact Zwi (by omega) (by omega) (by omega) (by omega) (by omega) h1
   ·exact ih h h2
theorem Zgi {l : List Rx} {w : List UInt8} : lang (catX l) w ↔ Zcq l w := by
 unfold catX
 split
 ·rename_i h; exact ⟨fun h1 => absurd h1 (Zee w), fun h1 => absurd h1 (Zwj h)⟩
 ·rw [<- Zje]
  split
  ·rename_i h; rw [h]; exact Zrf w
  ·unfold Zcs
   split
   ·rename_i r h; rw [h]; exact langC_one.symm
   ·exact Zsz rfl
theorem Z1x {out : List Rx} {x y : Rx} : y ∈ addX out x ↔ y ∈ out \/ y = x := by
 unfold addX
 split
 ·rename_i h
  obtain ⟨z, hz, e⟩ := List.any_eq_true.1 h
  rw [Zhq] at e
  constructor
  ·exact .inl
  ·rintro (h | rfl)
   ·exact h
   ·rw [e]; exact hz
 ·simp
theorem Zux {l : List Rx} : ∀ {out : List Rx} {y : Rx}, y ∈ l.foldl addX out ↔ y ∈ out \/ y ∈ l := by
 induction l with
 | nil => intro out y; simp
 | cons x l ih => intro out y; rw [List.foldl_cons, ih, Z1x, List.mem_cons, or_assoc]
theorem Zrg {x : Rx} {w : List UInt8} : (∃ y ∈ altF x, lang y w) ↔ lang x w := by
 unfold altF
 split
 ·rename_i k; rw [Zrd k, Zc2]
 ·split
  ·rename_i k
   have := Zwi (r := x) (w := w) (by omega) (by omega) (by omega) (by omega) (by omega)
   simp [this]
  ·simp
theorem Zrh {l : List Rx} {w : List UInt8} : lang (altX l) w ↔ Zfr l w := by
 have key : (∃ y ∈ outA l, lang y w) ↔ Zfr l w := by
  rw [Zc2]
  unfold outA
  constructor
  ·rintro ⟨y, hy, h⟩
   rw [Zux] at hy
   rcases hy with hy | hy
   ·cases hy
   ·obtain ⟨x, hx, hxy⟩ := List.mem_flatMap.1 hy
    exact ⟨x, hx, Zrg.1 ⟨y, hxy, h⟩⟩
  ·rintro ⟨x, hx, h⟩
   obtain ⟨y, hy, h1⟩ := Zrg.2 h
   exact ⟨y, Zux.2 (.inr (List.mem_flatMap.2 ⟨x, hx, hy⟩)), h1⟩
 rw [<- key]
 unfold altX
 split
 ·rename_i h; rw [h]; simp [Zee w]
 ·unfold Zcs
  split
  ·rename_i r h; rw [h]; simp
  ·rw [Zrd rfl, Zc2]; rfl
theorem Zir : ∀ {l : List Rx}, (∀ x ∈ l, null x = true ↔ lang x []) -> (Zdo l = true ↔ Zcq l [])
 | [], _ => by simp [Zdo, Zcq]
 | x :: l, h => by
   have h1 := h x (List.mem_cons_self ..)
   have h2 := Zir (l := l) fun y hy => h y (List.mem_cons_of_mem _ hy)
   simp only [Zdo, Zcq, Bool.and_eq_true]
   rw [h1, h2]
   constructor
   ·rintro ⟨a, b⟩; exact ⟨[], [], rfl, a, b⟩
   ·rintro ⟨u, v, e, a, b⟩
    obtain ⟨rfl, rfl⟩ := List.append_eq_nil_iff.1 e.symm
    exact ⟨a, b⟩
theorem Zis : ∀ {l : List Rx}, (∀ x ∈ l, null x = true ↔ lang x []) -> (Zdp l = true ↔ Zfr l [])
 | [], _ => by simp [Zdp, Zfr]
 | x :: l, h => by
   have h1 := h x (List.mem_cons_self ..)
   have h2 := Zis (l := l) fun y hy => h y (List.mem_cons_of_mem _ hy)
   simp only [Zdp, Zfr, Bool.or_eq_true]
   rw [h1, h2]
theorem Zri : ∀ (n : Nat) (r : Rx), size r <= n -> (null r = true ↔ lang r [])
 | 0, r, h => by have := Zaf r; omega
 | n + 1, r, h => by
   have hs : ∀ x ∈ r.subs, (null x = true ↔ lang x []) := fun x hx => by have := Zbz hx; exact Zri n x (by omega)
   rw [Zjb]
   by_cases k1 : r.kind = 1
   ·rw [if_pos (.inl k1), Zzq k1]; simp
   ·by_cases k5 : r.kind = 5
    ·rw [if_pos (.inr k5), Zre k5]
     have : Zzp r.subs [] := by
      cases r.subs with
      | nil => rfl
      | cons x l => exact Star.nil
     simp [this]
    ·rw [if_neg (by omega)]
     by_cases k3 : r.kind = 3
     ·rw [if_pos k3, Zsz k3]; exact Zir hs
     ·rw [if_neg k3]
      by_cases k4 : r.kind = 4
      ·rw [if_pos k4, Zrd k4]; exact Zis hs
      ·rw [if_neg k4]
       by_cases k2 : r.kind = 2
       ·rw [Zwh k2]; simp
       ·simp [Zwi k1 k2 k3 k4 k5]
theorem Zoi (r : Rx) : null r = true ↔ lang r [] := Zri _ r (Nat.le_refl _)
theorem Zjf (b : UInt8) : ∀ (n : Nat) (r : Rx), size r <= n -> ∀ w, lang (D1 r b) w ↔ lang r (b :: w)
 | 0, r, h => by have := Zaf r; omega
 | n + 1, r, h => fun w => by
   by_cases k2 : r.kind = 2
   ·rw [Z21 k2, Zwh k2]
    split
    ·rename_i hh
     rw [Zrf]
     constructor
     ·rintro rfl; exact ⟨b, rfl, hh⟩
     ·rintro ⟨x, e, _⟩; injection e
    ·rename_i hh
     constructor
     ·intro h1; exact absurd h1 (Zee w)
     ·rintro ⟨x, e, hx⟩; injection e with e1 e2; subst e1; exact absurd hx hh
   ·by_cases k5 : r.kind = 5
    ·rw [Zzm k5, Zgi, Zre k5]
     cases hs : r.subs with
     | nil =>
       rw [Zed hs, Ziq]
       constructor
       ·rintro ⟨u, v, _, h1, _⟩; exact absurd h1 (Zee u)
       ·intro h1; cases h1
     | cons x l =>
       rw [Zc0 hs]
       have hx := Zbb hs
       have ih := Zjf b n x (by omega)
       simp only [Zzp]
       rw [Star.cons]
       constructor
       ·rintro ⟨u, v, rfl, h1, h2⟩
        rw [langC_one, Zre k5, hs] at h2
        exact ⟨u, v, rfl, (ih u).1 h1, h2⟩
       ·rintro ⟨u, v, rfl, h1, h2⟩
        refine ⟨u, v, rfl, (ih u).2 h1, ?_⟩
        rw [langC_one, Zre k5, hs]
        exact h2
    ·by_cases k4 : r.kind = 4
     ·rw [Zzn k4, Zrh, Zrd k4, Zc2, Zc2]
      constructor
      ·rintro ⟨y, hy, h1⟩
       obtain ⟨x, hx, rfl⟩ := List.mem_map.1 hy
       have := Zbz hx
       exact ⟨x, hx, (Zjf b n x (by omega) w).1 h1⟩
      ·rintro ⟨x, hx, h1⟩
       have := Zbz hx
       exact ⟨_, List.mem_map.2 ⟨x, hx, rfl⟩, (Zjf b n x (by omega) w).2 h1⟩
     ·by_cases k3 : r.kind = 3
      ·rw [Zsz k3]
       cases hs : r.subs with
       | nil =>
         have e : D1 r b = nilX := by
          rw [Zl1 k3, Zed hs, hs, Ziq]
          rfl
         rw [e]
         constructor
         ·intro h1; exact absurd h1 (Zee w)
         ·intro h1; cases h1
       | cons x tl =>
         have hx := Zbb hs
         have hp := Zaf x
         have ih := Zjf b n x (by omega)
         have iht := Zjf b n (catX tl) (by have := Zfb tl; omega)
         have first : ∀ w, lang (catX [D1 x b, catX tl]) w ↔ ∃ u v, w = u ++ v /\ lang x (b :: u) /\ Zcq tl v := fun w => by
          rw [Zgi]
          constructor
          ·rintro ⟨u, v, rfl, h1, h2⟩
           rw [langC_one, Zgi] at h2
           exact ⟨u, v, rfl, (ih u).1 h1, h2⟩
          ·rintro ⟨u, v, rfl, h1, h2⟩
           refine ⟨u, v, rfl, (ih u).2 h1, ?_⟩
           rw [langC_one, Zgi]; exact h2
         have whole : Zcq (x :: tl) (b :: w) ↔ (∃ u v, w = u ++ v /\ lang x (b :: u) /\ Zcq tl v) \/ (lang x [] /\ Zcq tl (b :: w)) := by
          constructor
          ·rintro ⟨u, v, e, h1, h2⟩
           cases u with
           | nil => right; rw [List.nil_append] at e; rw [e]; exact ⟨h1, h2⟩
           | cons c u => left; injection e with e1 e2; subst e1; exact ⟨u, v, e2, h1, h2⟩
          ·rintro (⟨u, v, rfl, h1, h2⟩ | ⟨h1, h2⟩)
           ·exact ⟨b :: u, v, rfl, h1, h2⟩
           ·exact ⟨[], b :: w, rfl, h1, h2⟩
         rw [Zl1 k3, Zc0 hs, hs, List.tail_cons, whole]
         split
         ·rename_i hn
          rw [Zrh]
          simp only [Zfr, or_false]
          rw [first, iht, Zgi]
          have := (Zoi x).1 hn
          simp [this]
         ·rename_i hn
          rw [first]
          have : ¬ lang x [] := fun h1 => hn ((Zoi x).2 h1)
          simp [this]
      ·rw [Zsy k2 k3 k4 k5]
       constructor
       ·intro h1; exact absurd h1 (Zee w)
       ·intro h1
        by_cases k1 : r.kind = 1
        ·rw [Zzq k1] at h1; cases h1
        ·exact absurd h1 (Zwi k1 k2 k3 k4 k5)
theorem Z62 (r : Rx) (b : UInt8) (w : List UInt8) : lang (D1 r b) w ↔ lang r (b :: w) := Zjf b _ r (Nat.le_refl _) w
theorem Zj7 : ∀ (s : List UInt8) (r : Rx), null (derS r s) = true ↔ lang r s
 | [], r => Zoi r
 | b :: s, r => by
   show null (derS (D1 r b) s) = true ↔ _
   rw [Zj7 s, Z62]
end Go.Rx
end
section
open Go Go.Proofs Go.Ab Go.Rf
set_option maxRecDepth 100000
namespace Go.Rx
def Fi : Nat -> List Rx -> List Rx
 | 0, l => l
 | i + 1, l => Fi i (outC l)
theorem Zzr : ∀ (i : Nat) (l : List Rx), outC (Fi i l) = Fi (i + 1) l
 | 0, _ => rfl
 | i + 1, l => Zzr i (outC l)
theorem Zef (l m : List Rx) : outC (l ++ m) = outC l ++ outC m := by unfold outC; rw [List.flatMap_append]
theorem Zbo (x : Rx) (l : List Rx) : outC (x :: l) = catF x ++ outC l := by unfold outC; rw [List.flatMap_cons]
theorem Zrj : ∀ (i : Nat) (l m : List Rx), Fi i (l ++ m) = Fi i l ++ Fi i m
 | 0, _, _ => rfl
 | i + 1, l, m => by show Fi i _ = Fi i _ ++ Fi i _; rw [Zef, Zrj i]
inductive PT (r : Rx) : Rx -> List Rx -> Prop
 | root : PT r r []
 | star {q t x l} (k : q.kind = 5) (e : q.subs = x :: l) (h : PT r q t) : PT r x (q :: t)
 | alt {q t x} (k : q.kind = 4) (e : x ∈ q.subs) (h : PT r q t) : PT r x t
 | cat {q t l x tl} (k : q.kind = 3) (e : q.subs = l ++ x :: tl) (i : Nat) (h : PT r q t) : PT r x (Fi i tl ++ t)
theorem PT.flat {r q : Rx} {t : List Rx} (h : PT r q t) : PT r q (outC t) := by
 induction h with
 | root => exact .root
 | @star q t x l k e h ih =>
   have : outC (q :: t) = q :: outC t := by rw [Zbo]; simp [catF, k]
   rw [this]; exact .star k e ih
 | alt k e h ih => exact .alt k e ih
 | @cat q t l x tl k e i h ih => rw [Zef, Zzr]; exact .cat k e (i + 1) ih
theorem PT.comp {r q q' : Rx} {t t' : List Rx} (h : PT r q t) (h' : PT q q' t') : PT r q' (t' ++ t) := by
 induction h' with
 | root => exact h
 | star k e _ ih => exact .star k e ih
 | alt k e _ ih => exact .alt k e ih
 | cat k e i _ ih => rw [List.append_assoc]; exact .cat k e i ih
theorem PT.comp0 {r q q' : Rx} {t' : List Rx} (h : PT r q []) (h' : PT q q' t') : PT r q' t' := by
 have := h.comp h'
 rwa [List.append_nil] at this
theorem Zfs {α β : Type} {f : α -> List β} : ∀ {L : List α} {l : List β} {c : β} {rest : List β}, L.flatMap f = l ++ c :: rest -> ∃ l1 x l2 u v, L = l1 ++ x :: l2 /\ f x = u ++ c :: v /\ rest = v ++ l2.flatMap f
 | [], l, c, rest, h => by simp at h
 | y :: L, l, c, rest, h => by
   rw [List.flatMap_cons, List.append_eq_append_iff] at h
   rcases h with ⟨a, h1, h2⟩ | ⟨a, h1, h2⟩
   ·obtain ⟨l1, x, l2, u, v, e1, e2, e3⟩ := Zfs h2
    exact ⟨y :: l1, x, l2, u, v, by rw [e1]; rfl, e2, e3⟩
   ·cases a with
    | nil =>
      rw [List.nil_append] at h2
      obtain ⟨l1, x, l2, u, v, e1, e2, e3⟩ := Zfs (l := []) h2.symm
      exact ⟨y :: l1, x, l2, u, v, by rw [e1]; rfl, e2, e3⟩
    | cons d a =>
      rw [List.cons_append] at h2
      injection h2 with h3 h4
      subst h3
      exact ⟨[], y, L, l, a, rfl, h1, h4⟩
theorem Z1y {r : Rx} {t L : List Rx} (h : ∀ l c rest, L = l ++ c :: rest -> ∀ j, PT r c (Fi j rest ++ t)) : ∀ l c rest, outC L = l ++ c :: rest -> ∀ j, PT r c (Fi j rest ++ t) := by
 intro l c rest e j
 obtain ⟨l1, x, l2, u, v, e1, e2, e3⟩ := Zfs e
 have hx := h l1 x l2 e1 (j + 1)
 have e4 : Fi j rest = Fi j v ++ Fi (j + 1) l2 := by rw [e3, Zrj]; rfl
 rw [e4, List.append_assoc]
 unfold catF at e2
 split at e2
 ·rename_i k; exact .cat k e2 j hx
 ·split at e2
  ·simp at e2
  ·have : u = [] /\ x = c /\ v = [] := by
    cases u with
    | nil => simpa using e2
    | cons a u => simp at e2
   obtain ⟨_, rfl, rfl⟩ := this
   have e5 : Fi j ([] : List Rx) = [] := by
    clear hx e4 e3 e2 e
    induction j with
    | zero => rfl
    | succ j ih => exact ih
   rw [e5]; exact hx
theorem Zrk {r : Rx} {t : List Rx} : ∀ (i : Nat) {L : List Rx}, (∀ l c rest, L = l ++ c :: rest -> ∀ j, PT r c (Fi j rest ++ t)) -> ∀ l c rest, Fi i L = l ++ c :: rest -> ∀ j, PT r c (Fi j rest ++ t)
 | 0, _, h => h
 | i + 1, _, h => Zrk i (Z1y h)
theorem PT.suf {r q : Rx} {t : List Rx} (h : PT r q t) : ∀ l c rest, t = l ++ c :: rest -> PT r c rest := by
 induction h with
 | root => intro l c rest e; simp at e
 | @star q t x l k e h ih =>
   intro l' c rest e'
   cases l' with
   | nil => simp at e'; obtain ⟨rfl, rfl⟩ := e'; exact h
   | cons a l' => simp at e'; exact ih l' c rest e'.2
 | alt k e h ih => exact ih
 | @cat q t l x tl k e i h ih =>
   intro l' c rest e'
   rw [List.append_eq_append_iff] at e'
   have hs : ∀ l c rest, tl = l ++ c :: rest -> ∀ j, PT r c (Fi j rest ++ t) := fun l1 c rest e1 j => by
    refine .cat (l := l ++ x :: l1) k ?_ j h
    rw [e, e1]; simp
   rcases e' with ⟨a, h1, h2⟩ | ⟨a, h1, h2⟩
   ·exact ih a c rest h2
   ·cases a with
    | nil => rw [List.nil_append] at h2; exact ih [] c rest h2.symm
    | cons d a =>
      rw [List.cons_append] at h2
      injection h2 with h3 h4
      subst h3
      rw [h4]
      exact Zrk i hs l' c a h1 0
def tw (x : Rx) : Nat := if x.kind = 3 then size x else 1
def tws : List Rx -> Nat
 | [] => 0
 | x :: l => tw x + tws l
theorem Zjg : ∀ l m : List Rx, tws (l ++ m) = tws l + tws m
 | [], m => by simp [tws]
 | x :: l, m => by simp only [List.cons_append, tws, Zjg l m]; omega
theorem Z7w (x : Rx) : tw x <= size x := by
 unfold tw; split
 ·exact Nat.le_refl _
 ·exact Zaf x
theorem Zl2 : ∀ l : List Rx, tws l <= Zam l
 | [] => Nat.le_refl _
 | x :: l => by have := Zl2 l; have := Z7w x; simp only [tws, Zam]; omega
theorem Z63 (x : Rx) : 1 <= tw x := by
 unfold tw; split
 ·exact Zaf x
 ·exact Nat.le_refl _
theorem Zdb : ∀ l : List Rx, l.length <= tws l
 | [] => Nat.le_refl _
 | x :: l => by have := Zdb l; have := Z63 x; simp only [tws, List.length_cons]; omega
theorem Zuy (x : Rx) : tws (catF x) <= tw x := by
 unfold catF
 split
 ·rename_i k
  have := Zl2 x.subs
  have := Zb1 x
  unfold tw; rw [if_pos k]; omega
 ·split
  ·exact Nat.zero_le _
  ·exact Nat.le_refl _
theorem Zj8 : ∀ l : List Rx, tws (outC l) <= tws l
 | [] => Nat.le_refl _
 | x :: l => by
   have := Zj8 l
   have := Zuy x
   rw [Zbo, Zjg]
   simp only [tws]; omega
theorem Z23 : ∀ (i : Nat) (l : List Rx), tws (Fi i l) <= tws l
 | 0, _ => Nat.le_refl _
 | i + 1, l => Nat.le_trans (Z23 i _) (Zj8 l)
theorem PT.size {r q : Rx} {t : List Rx} (h : PT r q t) : Rx.size q + tws t <= Rx.size r := by
 induction h with
 | root => exact Nat.le_refl _
 | @star q t x l k e h ih =>
   have h1 := Zbb e
   have h2 : tw q = 1 := by unfold tw; rw [if_neg (by omega)]
   simp only [tws]; omega
 | @alt q t x k e h ih => have := Zbz e; omega
 | @cat q t l x tl k e i h ih =>
   rw [Zjg]
   have h1 := Z23 i tl
   have h2 := Zl2 tl
   have h3 : Rx.size q = 1 + Zam l + (Rx.size x + Zam tl) := by rw [Zb1, e, Zgg]; simp only [Zam]; omega
   omega
theorem PT.small {r q : Rx} {t : List Rx} (h : PT r q t) (ht : t ≠ []) : Rx.size q < Rx.size r := by
 have h1 := h.size
 have h2 : 0 < t.length := List.length_pos_iff.2 ht
 have h3 := Zdb t
 omega
end Go.Rx
end
section
open Go Go.Proofs Go.Ab Go.Rf
set_option maxRecDepth 100000
namespace Go.Rx
def Res1 (r : Rx) (w : List UInt8) (a : Rx) : Prop :=
 a = empX \/ PT r a [] \/ ∃ q t v, (PT r q t /\ (v ≠ [] -> ∃ t0, PT r q t0 /\ t = outC t0)) /\ t ≠ [] /\ v <:+ w /\ a = mk0 3 (derS q v :: t)
theorem Res1.mono {r a : Rx} {w w' : List UInt8} (h : Res1 r w a) (hw : w <:+ w') : Res1 r w' a := by
 rcases h with h | h | ⟨q, t, v, h1, h2, h3, h4⟩
 ·exact .inl h
 ·exact .inr (.inl h)
 ·exact .inr (.inr ⟨q, t, v, h1, h2, h3.trans hw, h4⟩)
theorem Res1.comp {r q a : Rx} {w : List UInt8} (hq : PT r q []) (h : Res1 q w a) : Res1 r w a := by
 rcases h with h | h | ⟨q', t, v, h1, h2, h3, h4⟩
 ·exact .inl h
 ·exact .inr (.inl (hq.comp0 h))
 ·exact .inr (.inr ⟨q', t, v, ⟨hq.comp0 h1.1, fun hv => by obtain ⟨t0, g1, g2⟩ := h1.2 hv; exact ⟨t0, hq.comp0 g1, g2⟩⟩, h2, h3, h4⟩)
theorem Zuz {x : Rx} (k : x.kind = 4) : altF x = x.subs := by unfold altF; rw [if_pos k]
theorem Zoj {x : Rx} (k4 : x.kind ≠ 4) (k0 : x.kind ≠ 0) : altF x = [x] := by unfold altF; rw [if_neg k4, if_neg k0]
theorem Zdm {x a : Rx} (h : a ∈ altF x) : (x.kind = 4 /\ a ∈ x.subs) \/ (x.kind ≠ 4 /\ x.kind ≠ 0 /\ a = x) := by
 unfold altF at h
 split at h
 ·rename_i k; exact .inl ⟨k, h⟩
 ·rename_i k
  split at h
  ·cases h
  ·rename_i k0; exact .inr ⟨k, k0, List.mem_singleton.1 h⟩
theorem Zu0 (k : Int) (l : List Rx) : (mk0 k l).kind = k := rfl
theorem Zu1 (k : Int) (l : List Rx) : (mk0 k l).subs = l := rfl
theorem Zdn (k : Int) (a b : Rx) (l : List Rx) : Zcs k (a :: b :: l) = mk0 k (a :: b :: l) := rfl
theorem Zok {r y a : Rx} {w : List UInt8} (h : PT r y []) (ha : a ∈ altF y) : Res1 r w a := by
 rcases Zdm ha with ⟨k, hs⟩ | ⟨_, _, rfl⟩
 ·exact .inr (.inl (.alt k hs h))
 ·exact .inr (.inl h)
theorem Zu2 {r : Rx} {w : List UInt8} {L : List Rx} (hs : ∀ l c rest, L = l ++ c :: rest -> PT r c rest) (hne : L ≠ []) : ∀ a ∈ altF (Zcs 3 L), Res1 r w a := by
 intro a ha
 match L, hne with
 | [y], _ => exact Zok (hs [] y [] rfl) ha
 | c :: d :: l, _ =>
   rw [Zdn] at ha
   rcases Zdm ha with ⟨k, _⟩ | ⟨_, _, rfl⟩
   ·cases k
   ·exact .inr (.inr ⟨c, d :: l, [], ⟨hs [] c (d :: l) rfl, fun h => absurd rfl h⟩, by simp, List.nil_suffix, rfl⟩)
theorem PT.sufs {r q : Rx} {t : List Rx} (h : PT r q t) : ∀ l c rest, outC t = l ++ c :: rest -> PT r c rest := h.flat.suf
theorem Zjh {r q D : Rx} {t : List Rx} {v w : List UInt8} (h : PT r q t) (hv : v <:+ w) (hD : D = derS q v) (hS : ∀ a ∈ altF D, Res1 q v a) : ∀ a ∈ altF (catX (D :: t)), Res1 r w a := by
 intro a ha
 unfold catX at ha
 split at ha
 ·cases ha
 ·rename_i hk
  have hk0 : D.kind ≠ 0 := fun e => hk (by simp [e])
  rw [Zbo] at ha
  by_cases k1 : D.kind = 1
  ·have e : catF D = [] := by unfold catF; rw [if_neg (by omega), if_pos k1]
   rw [e, List.nil_append] at ha
   split at ha
   ·rcases Zdm ha with ⟨k, _⟩ | ⟨_, _, rfl⟩
    ·cases k
    ·exact .inl rfl
   ·rename_i hne; exact Zu2 h.sufs hne a ha
  ·by_cases k3 : D.kind = 3
   ·have e : catF D = D.subs := by unfold catF; rw [if_pos k3]
    rw [e] at ha
    rcases hS D (by rw [Zoj (by omega) hk0]; exact List.mem_singleton.2 rfl) with h1 | h1 | ⟨q', t', v', h1, h2, h3, h4⟩
    ·rw [h1] at k1; exact absurd rfl k1
    ·have hDr : PT r D (outC t) := h.flat.comp h1
     have hs : ∀ l c rest, D.subs ++ outC t = l ++ c :: rest -> PT r c rest := by
      intro l c rest e'
      rw [List.append_eq_append_iff] at e'
      rcases e' with ⟨x, g1, g2⟩ | ⟨x, g1, g2⟩
      ·exact h.sufs x c rest g2
      ·cases x with
       | nil => rw [List.nil_append] at g2; exact h.sufs [] c rest g2.symm
       | cons d x =>
         rw [List.cons_append] at g2
         injection g2 with g3 g4
         subst g3
         rw [g4]
         exact .cat k3 g1 0 hDr
     split at ha
     ·rcases Zdm ha with ⟨k, _⟩ | ⟨_, _, rfl⟩
      ·cases k
      ·exact .inl rfl
     ·rename_i hne; exact Zu2 hs hne a ha
    ·have hs : D.subs = derS q' v' :: t' := by rw [h4]; rfl
     rw [hs, List.cons_append] at ha
     rw [if_neg (by simp)] at ha
     match t', h2, h1 with
     | y :: t', _, h1 =>
       rw [List.cons_append, Zdn] at ha
       rcases Zdm ha with ⟨k, _⟩ | ⟨_, _, rfl⟩
       ·cases k
       ·exact .inr (.inr ⟨q', y :: t' ++ outC t, v', ⟨h.flat.comp h1.1, fun hv => by obtain ⟨t0, g1, g2⟩ := h1.2 hv; exact ⟨t0 ++ t, h.comp g1, by rw [Zef, <- g2]⟩⟩, by simp, h3.trans hv, rfl⟩)
   ·have e : catF D = [D] := by unfold catF; rw [if_neg k3, if_neg k1]
    rw [e, if_neg (by simp)] at ha
    cases ht : outC t with
    | nil =>
      rw [ht] at ha
      have hq : PT r q [] := by have := h.flat; rwa [ht] at this
      exact ((hS a ha).comp hq).mono hv
    | cons y l =>
      rw [ht] at ha
      have hq : PT r q (y :: l) := by have := h.flat; rwa [ht] at this
      rw [List.cons_append, List.nil_append, Zdn] at ha
      rcases Zdm ha with ⟨k, _⟩ | ⟨_, _, rfl⟩
      ·cases k
      ·exact .inr (.inr ⟨q, y :: l, v, ⟨hq, fun _ => ⟨t, h, ht.symm⟩⟩, by simp, hv, by rw [hD]⟩)
theorem Z1z (X : Rx) (l : List Rx) : ∃ l', (l' = l \/ l' = outC l) /\ catX [X, catX l] = catX (X :: l') := by
 by_cases h0 : l.any (fun x => x.kind == 0) = true
 ·refine ⟨l, .inl rfl, ?_⟩
  have e1 : catX l = nilX := by unfold catX; rw [if_pos h0]
  have e2 : catX (X :: l) = nilX := by unfold catX; rw [if_pos (by simp only [List.any_cons, h0, Bool.or_true])]
  rw [e1, e2]
  unfold catX
  rw [if_pos]
  simp [nilX, mk0, Rx.kind]
 ·have e1 : catX l = if outC l = [] then empX else Zcs 3 (outC l) := by unfold catX; rw [if_neg h0]
  have h0' : l.any (fun x => x.kind == 0) = false := by simpa using h0
  cases hl : outC l with
  | nil =>
    refine ⟨l, .inl rfl, ?_⟩
    rw [e1, hl, if_pos rfl]
    have e3 : ∀ m : List Rx, outC m = [] -> m.any (fun x => x.kind == 0) = false -> catX (X :: m) = if X.kind == 0 then nilX else if catF X = [] then empX else Zcs 3 (catF X) := by
     intro m h1 h2
     unfold catX
     rw [Zbo, h1, List.append_nil, List.any_cons, h2, Bool.or_false]
    rw [e3 l hl h0', e3 [empX] rfl rfl]
  | cons y m =>
    cases m with
    | nil =>
      refine ⟨[y], .inr rfl, ?_⟩
      rw [e1, hl, if_neg (by simp)]
      rfl
    | cons z m =>
      refine ⟨l, .inl rfl, ?_⟩
      rw [e1, hl, if_neg (by simp), Zdn]
      have e4 : outC (X :: [mk0 3 (y :: z :: m)]) = outC (X :: l) := by
       rw [Zbo X [mk0 3 (y :: z :: m)], Zbo X l, hl]
       congr 1
       simp [outC, catF, Zu0, Zu1]
      unfold catX
      rw [e4]
      simp only [List.any_cons, List.any_nil, h0', Zu0]
      rfl
theorem Zit {r q : Rx} {t : List Rx} (h : PT r q t) (X : Rx) : ∃ t', PT r q t' /\ catX [X, catX t] = catX (X :: t') := by
 obtain ⟨t', h1, h2⟩ := Z1z X t
 rcases h1 with rfl | rfl
 ·exact ⟨_, h, h2⟩
 ·exact ⟨_, h.flat, h2⟩
theorem Zji {r : Rx} {w : List UInt8} {ls : List Rx} (h : ∀ l ∈ ls, ∀ a ∈ altF l, Res1 r w a) : ∀ a ∈ altF (altX ls), Res1 r w a := by
 intro a ha
 have hm : ∀ x ∈ outA ls, Res1 r w x := fun x hx => by
  obtain ⟨l, h1, h2⟩ := Zoe hx
  exact h l h1 x h2
 unfold altX at ha
 split at ha
 ·cases ha
 ·rename_i hne
  match ho : outA ls, hne with
  | [x], _ =>
    rw [ho] at ha hm
    have hx := hm x (List.mem_singleton.2 rfl)
    rcases Zdm ha with ⟨k, hs⟩ | ⟨_, _, rfl⟩
    ·rcases hx with h1 | h1 | ⟨q, t, v, ⟨h1, _⟩, h2, h3, h4⟩
     ·have ha' : a ∈ x.subs := hs
      rw [h1] at ha'; cases ha'
     ·exact .inr (.inl (.alt k hs h1))
     ·have k' : x.kind = 4 := k
      rw [h4] at k'; cases k'
    ·exact hx
  | x :: y :: l, _ =>
    rw [ho, Zdn] at ha
    rw [Zuz rfl] at ha
    exact hm a (by rw [ho]; exact ha)
theorem Zol (b : UInt8) : ∀ (n : Nat) (r : Rx), size r <= n -> ∀ a ∈ altF (D1 r b), Res1 r [b] a := by
 intro n
 induction n with
 | zero => intro r h; have := Zaf r; omega
 | succ n ih =>
   have rl : ∀ (m : Nat) (r q : Rx) (t : List Rx) (w : List UInt8), PT r q t -> Zam t <= m -> Zam t <= n -> [b] <:+ w -> ∀ a ∈ altF (D1 (catX t) b), Res1 r w a := by
    intro m
    induction m with
    | zero =>
      intro r q t w h hm hn hw a ha
      have : t = [] := by
       cases t with
       | nil => rfl
       | cons x t => have := Zaf x; simp only [Zam] at hm; omega
      subst this
      rw [Zgx, Zm5] at ha
      cases ha
    | succ m ihm =>
      intro r q t w h hm hn hw a ha
      unfold catX at ha
      split at ha
      ·rw [Ziq] at ha; cases ha
      ·split at ha
       ·rw [Zm5] at ha; cases ha
       ·rename_i hne
        have hsz := Zfa t
        match ho : outC t, hne with
        | [y], _ =>
          rw [ho] at ha hsz
          have hy : PT r y [] := h.sufs [] y [] ho
          have : size y <= n := by simp only [Zam] at hsz; omega
          exact ((ih y this a ha).comp hy).mono hw
        | c :: d :: l, _ =>
          rw [ho] at ha hsz
          rw [Zdn] at ha
          have hc : PT r c (d :: l) := h.sufs [] c (d :: l) ho
          have hsc : size c <= n /\ Zam (d :: l) <= m /\ Zam (d :: l) <= n := by have := Zaf c; simp only [Zam] at hsz ⊢; omega
          have first : ∀ a ∈ altF (catX [D1 c b, catX (d :: l)]), Res1 r w a := by
           obtain ⟨t', h1, h2⟩ := Zit hc (D1 c b)
           rw [h2]
           exact Zjh h1 hw rfl (ih c hsc.1)
          have second : ∀ a ∈ altF (D1 (catX (d :: l)) b), Res1 r w a := ihm r c (d :: l) w hc hsc.2.1 hsc.2.2 hw
          rw [Zl1 rfl] at ha
          split at ha
          ·refine Zji (fun x hx => ?_) a ha
           rcases List.mem_cons.1 hx with rfl | hx
           ·exact first
           ·rw [List.mem_singleton.1 hx]; exact second
          ·exact first a ha
   intro r h a ha
   by_cases k2 : r.kind = 2
   ·rw [Z21 k2] at ha
    split at ha
    ·rcases Zdm ha with ⟨k, _⟩ | ⟨_, _, rfl⟩
     ·cases k
     ·exact .inl rfl
    ·cases ha
   ·by_cases k5 : r.kind = 5
    ·rw [Zzm k5] at ha
     cases hs : r.subs with
     | nil =>
       rw [Zed hs, Ziq] at ha
       cases ha
     | cons x l =>
       rw [Zc0 hs] at ha
       have := Zbb hs
       exact Zjh (.star k5 hs .root) (List.suffix_refl [b]) rfl (ih x (by omega)) a ha
    ·by_cases k4 : r.kind = 4
     ·rw [Zzn k4] at ha
      refine Zji (fun y hy => ?_) a ha
      obtain ⟨x, hx, rfl⟩ := List.mem_map.1 hy
      have := Zbz hx
      exact fun a ha => (ih x (by omega) a ha).comp (.alt k4 hx .root)
     ·by_cases k3 : r.kind = 3
      ·cases hs : r.subs with
       | nil =>
         rw [Zl1 k3, Zed hs] at ha
         have e : catX [D1 nilX b, catX r.subs.tail] = nilX := by rw [Ziq]; rfl
         rw [e, hs] at ha
         exact absurd ha (by simp [null, nilX, mk0, altF, Rx.kind])
       | cons x tl =>
         have hsz := Zbb hs
         have hx : PT r x tl := by have := PT.cat (l := []) k3 hs 0 (.root (r := r)); rwa [List.append_nil] at this
         have first : ∀ a ∈ altF (catX [D1 x b, catX tl]), Res1 r [b] a := by
          obtain ⟨t', h1, h2⟩ := Zit hx (D1 x b)
          rw [h2]
          exact Zjh h1 (List.suffix_refl [b]) rfl (ih x (by omega))
         have second : ∀ a ∈ altF (D1 (catX tl) b), Res1 r [b] a := rl _ r x tl [b] hx (Nat.le_refl _) (by have := Zaf x; omega) (List.suffix_refl [b])
         rw [Zl1 k3, Zc0 hs, hs, List.tail_cons] at ha
         split at ha
         ·refine Zji (fun x hx => ?_) a ha
          rcases List.mem_cons.1 hx with rfl | hx
          ·exact first
          ·rw [List.mem_singleton.1 hx]; exact second
         ·exact first a ha
      ·rw [Zsy k2 k3 k4 k5] at ha
       cases ha
theorem Zl3 {r q : Rx} {t : List Rx} {w : List UInt8} {b : UInt8} (h : PT r q t) (hw : [b] <:+ w) : ∀ a ∈ altF (D1 (catX t) b), Res1 r w a := by
 have key : ∀ (m : Nat) (q : Rx) (t : List Rx), PT r q t -> Zam t <= m -> ∀ a ∈ altF (D1 (catX t) b), Res1 r w a := by
  intro m
  induction m with
  | zero =>
    intro q t h hm a ha
    have : t = [] := by
     cases t with
     | nil => rfl
     | cons x t => have := Zaf x; simp only [Zam] at hm; omega
    subst this
    rw [Zgx, Zm5] at ha
    cases ha
  | succ m ihm =>
    intro q t h hm a ha
    unfold catX at ha
    split at ha
    ·rw [Ziq] at ha; cases ha
    ·split at ha
     ·rw [Zm5] at ha; cases ha
     ·rename_i hne
      have hsz := Zfa t
      match ho : outC t, hne with
      | [y], _ =>
        rw [ho] at ha
        exact ((Zol b _ y (Nat.le_refl _) a ha).comp (h.sufs [] y [] ho)).mono hw
      | c :: d :: l, _ =>
        rw [ho] at ha hsz
        rw [Zdn] at ha
        have hc : PT r c (d :: l) := h.sufs [] c (d :: l) ho
        have first : ∀ a ∈ altF (catX [D1 c b, catX (d :: l)]), Res1 r w a := by
         obtain ⟨t', h1, h2⟩ := Zit hc (D1 c b)
         rw [h2]
         exact Zjh h1 hw rfl (Zol b _ c (Nat.le_refl _))
        have second : ∀ a ∈ altF (D1 (catX (d :: l)) b), Res1 r w a := ihm c (d :: l) hc (by have := Zaf c; simp only [Zam] at hsz ⊢; omega)
        rw [Zl1 rfl] at ha
        split at ha
        ·refine Zji (fun x hx => ?_) a ha
         rcases List.mem_cons.1 hx with rfl | hx
         ·exact first
         ·rw [List.mem_singleton.1 hx]; exact second
        ·exact first a ha
 exact key _ q t h (Nat.le_refl _)
theorem Zrl (r : Rx) (u : List UInt8) (b : UInt8) : derS r (u ++ [b]) = D1 (derS r u) b := by unfold derS; rw [List.foldl_append]; rfl
theorem Z5b : ∀ (k : Nat) (w : List UInt8), w.length <= k -> ∀ (n : Nat) (r : Rx), size r <= n -> ∀ a ∈ altF (derS r w), Res1 r w a := by
 intro k
 induction k with
 | zero =>
   intro w hw n r _ a ha
   have : w = [] := List.eq_nil_of_length_eq_zero (by omega)
   subst this
   exact Zok .root ha
 | succ k ih =>
   intro w hw
   rcases List.eq_nil_or_concat w with rfl | ⟨u, b, rfl⟩
   ·intro n r _ a ha
    exact Zok .root ha
   ·rw [List.concat_eq_append] at hw ⊢
    have hu : u.length <= k := by simp at hw; omega
    have hb : [b] <:+ u ++ [b] := List.suffix_append _ _
    intro n
    induction n with
    | zero => intro r h; have := Zaf r; omega
    | succ n ihn =>
      intro r hr a ha
      rw [Zrl] at ha
      have hold := ih u hu _ r (Nat.le_refl _)
      have step : ∀ x, Res1 r u x -> ∀ a ∈ altF (D1 x b), Res1 r (u ++ [b]) a := by
       intro x hx a ha
       rcases hx with rfl | hx | ⟨q, t, v, ⟨h1, _⟩, h2, h3, rfl⟩
       ·rw [Zm5] at ha; cases ha
       ·exact ((Zol b _ x (Nat.le_refl _) a ha).comp hx).mono hb
       ·have hv : v ++ [b] <:+ u ++ [b] := by
         obtain ⟨p, rfl⟩ := h3
         exact ⟨p, by rw [List.append_assoc]⟩
        have hS : ∀ a ∈ altF (derS q (v ++ [b])), Res1 q (v ++ [b]) a := by
         by_cases hl : v.length < u.length
         ·exact ih (v ++ [b]) (by simp; omega) _ q (Nat.le_refl _)
         ·have : v = u := h3.eq_of_length (by have := h3.length_le; omega)
          subst this
          exact ihn q (by have := h1.small h2; omega)
        have first : ∀ a ∈ altF (catX [D1 (derS q v) b, catX t]), Res1 r (u ++ [b]) a := by
         obtain ⟨t', g1, g2⟩ := Zit h1 (D1 (derS q v) b)
         rw [g2]
         rw [<- Zrl]
         exact Zjh g1 hv rfl hS
        have second : ∀ a ∈ altF (D1 (catX t) b), Res1 r (u ++ [b]) a := Zl3 h1 hb
        rw [Zl1 rfl] at ha
        split at ha
        ·refine Zji (fun x hx => ?_) a ha
         rcases List.mem_cons.1 hx with rfl | hx
         ·exact first
         ·rw [List.mem_singleton.1 hx]; exact second
        ·exact first a ha
      by_cases k4 : (derS r u).kind = 4
      ·rw [Zzn k4] at ha
       refine Zji (fun y hy => ?_) a ha
       obtain ⟨x, hx, rfl⟩ := List.mem_map.1 hy
       exact step x (hold x (by rw [Zuz k4]; exact hx))
      ·by_cases k0 : (derS r u).kind = 0
       ·rw [Zsy (by omega) (by omega) (by omega) (by omega)] at ha
        cases ha
       ·exact step _ (hold _ (by rw [Zoj k4 k0]; exact List.mem_singleton.2 rfl)) a ha
theorem Zzs (r : Rx) (w : List UInt8) : ∀ a ∈ altF (derS r w), Res1 r w a := Z5b _ w (Nat.le_refl _) _ r (Nat.le_refl _)
end Go.Rx
end
section
open Go Go.Proofs Go.Ab Go.Rf
set_option maxRecDepth 100000
namespace Go.Rx
mutual
def cd : Rx -> Nat
 | .mk k _ _ _ _ l => if k = 3 then 1 + cds l else 0
def cds : List Rx -> Nat
 | [] => 0
 | x :: l => max (cd x) (cds l)
end
theorem Zm7 : ∀ l m : List Rx, cds (l ++ m) = max (cds l) (cds m)
 | [], m => by simp [cds]
 | x :: l, m => by simp only [List.cons_append, cds, Zm7 l m]; omega
theorem Z24 {x : Rx} (k : x.kind = 3) : cd x = 1 + cds x.subs := by
 cases x with | mk k' a b c d l => simp only [cd]; rw [if_pos (show k' = 3 from k)]; rfl
theorem Z64 {x : Rx} (k : x.kind ≠ 3) : cd x = 0 := by
 cases x with | mk k' a b c d l => simp only [cd]; rw [if_neg (show ¬ k' = 3 from k)]
theorem Z10 (x : Rx) : cds (catF x) <= cd x - 1 := by
 unfold catF
 split
 ·rename_i k; rw [Z24 k]; omega
 ·split
  ·simp [cds]
  ·rename_i k _; simp [cds, Z64 k]
theorem Zu3 : ∀ l : List Rx, cds (outC l) <= cds l - 1
 | [] => by simp [outC, cds]
 | x :: l => by
   have h1 := Zu3 l
   have h2 := Z10 x
   rw [Zbo, Zm7]
   simp only [cds]; omega
theorem Zl4 : ∀ l : List Rx, cds l = 0 -> outC (outC l) = outC l
 | [], _ => rfl
 | x :: l, h => by
   simp only [cds] at h
   have hx : cd x = 0 := by omega
   have hl := Zl4 l (by omega)
   have k : x.kind ≠ 3 := fun k => by rw [Z24 k] at hx; omega
   rw [Zbo, Zef, hl]
   congr 1
   unfold catF
   rw [if_neg k]
   split
   ·rfl
   ·rename_i k1; simp [outC, catF, k, k1]
theorem Z25 {m : List Rx} (h : outC m = m) : ∀ i, Fi i m = m
 | 0 => rfl
 | i + 1 => by show Fi i (outC m) = m; rw [h]; exact Z25 h i
theorem Zrm : ∀ (d : Nat) (l : List Rx), cds l <= d -> ∀ i, Fi (d + 1 + i) l = Fi (d + 1) l
 | 0, l, h, i => by
   have e := Zl4 l (by omega)
   show Fi (0 + 1 + i) l = Fi 0 (outC l)
   rw [show 0 + 1 + i = i + 1 by omega]
   exact Z25 e i
 | d + 1, l, h, i => by
   have := Zu3 l
   rw [show d + 1 + 1 + i = (d + 1 + i) + 1 by omega]
   exact Zrm d (outC l) (by omega) i
def Vs (j : Nat) (tl : List Rx) : List (List Rx) := if tl.length = 0 then [[]] else (List.range (cds tl + 2 - j)).map fun i => Fi (i + j) tl
theorem Z26 : ∀ i, Fi i [] = []
 | 0 => rfl
 | i + 1 => Z26 i
theorem Z65 {j i : Nat} (hj : j <= 1) (hi : j <= i) (tl : List Rx) : Fi i tl ∈ Vs j tl := by
 unfold Vs
 split
 ·rename_i h
  have : tl = [] := List.eq_nil_of_length_eq_zero h
  subst this
  rw [Z26]; exact List.mem_singleton.2 rfl
 ·by_cases hi' : i <= cds tl + 1
  ·exact List.mem_map.2 ⟨i - j, List.mem_range.2 (by omega), by rw [show i - j + j = i by omega]⟩
  ·refine List.mem_map.2 ⟨cds tl + 1 - j, List.mem_range.2 (by omega), ?_⟩
   have := Zrm (cds tl) tl (Nat.le_refl _) (i - (cds tl + 1))
   rw [show cds tl + 1 + (i - (cds tl + 1)) = i by omega] at this
   rw [show cds tl + 1 - j + j = cds tl + 1 by omega]
   exact this.symm
def ext (j : Nat) (tl : List Rx) (T : List (List Rx)) : List (List Rx) := T.flatMap fun t => (Vs j tl).map fun v => v ++ t
mutual
def pts (j : Nat) : Rx -> List (List Rx) -> List (Rx × List Rx)
 | .mk k a b c d l, T => T.map (fun t => (.mk k a b c d l, t)) ++ (if k = 5 then ptsS j l (.mk k a b c d l) T else if k = 4 then ptsA j l T else if k = 3 then ptsC j l T else [])
def ptsS (j : Nat) : List Rx -> Rx -> List (List Rx) -> List (Rx × List Rx)
 | [], _, _ => []
 | x :: _, e, T => pts j x (T.map (e :: ·))
def ptsA (j : Nat) : List Rx -> List (List Rx) -> List (Rx × List Rx)
 | [], _ => []
 | x :: l, T => pts j x T ++ ptsA j l T
def ptsC (j : Nat) : List Rx -> List (List Rx) -> List (Rx × List Rx)
 | [], _ => []
 | x :: l, T => pts j x (ext j l T) ++ ptsC j l T
end
theorem Zj9 {j : Nat} {p : Rx × List Rx} {T : List (List Rx)} : ∀ {l : List Rx}, p ∈ ptsA j l T ↔ ∃ x ∈ l, p ∈ pts j x T
 | [] => by simp [ptsA]
 | x :: l => by simp [ptsA, Zj9 (l := l)]
theorem Zka {j : Nat} {p : Rx × List Rx} {T : List (List Rx)} : ∀ {l : List Rx}, p ∈ ptsC j l T ↔ ∃ l1 x tl, l = l1 ++ x :: tl /\ p ∈ pts j x (ext j tl T)
 | [] => by simp [ptsC]
 | y :: l => by
   simp only [ptsC, List.mem_append, Zka (l := l)]
   constructor
   ·rintro (h | ⟨l1, x, tl, rfl, h⟩)
    ·exact ⟨[], y, l, rfl, h⟩
    ·exact ⟨y :: l1, x, tl, rfl, h⟩
   ·rintro ⟨l1, x, tl, e, h⟩
    cases l1 with
    | nil => simp at e; obtain ⟨rfl, rfl⟩ := e; exact .inl h
    | cons z l1 => simp at e; obtain ⟨rfl, rfl⟩ := e; exact .inr ⟨l1, x, tl, rfl, h⟩
theorem Zu4 (j : Nat) (e : Rx) (T : List (List Rx)) : pts j e T = T.map (fun t => (e, t)) ++ (if e.kind = 5 then ptsS j e.subs e T else if e.kind = 4 then ptsA j e.subs T else if e.kind = 3 then ptsC j e.subs T else []) := by
 cases e with | mk k a b c d l => simp only [pts, Rx.kind, Rx.subs]; rfl
theorem Ziu {j : Nat} {e : Rx} {t : List Rx} {T : List (List Rx)} (h : t ∈ T) : (e, t) ∈ pts j e T := by
 rw [Zu4 j]; exact List.mem_append_left _ (List.mem_map.2 ⟨t, h, rfl⟩)
theorem Z5c {j i : Nat} (hj : j <= 1) (hi : j <= i) {t tl : List Rx} {T : List (List Rx)} (h : t ∈ T) : Fi i tl ++ t ∈ ext j tl T :=
 List.mem_flatMap.2 ⟨t, h, List.mem_map.2 ⟨_, Z65 hj hi tl, rfl⟩⟩
inductive Nx (j : Nat) : Rx -> List Rx -> Rx -> List Rx -> Prop
 | star {q t x l} (k : q.kind = 5) (e : q.subs = x :: l) : Nx j q t x (q :: t)
 | alt {q t x} (k : q.kind = 4) (e : x ∈ q.subs) : Nx j q t x t
 | cat {q t l x tl} (k : q.kind = 3) (e : q.subs = l ++ x :: tl) (i : Nat) (hi : j <= i) : Nx j q t x (Fi i tl ++ t)
theorem Zgy {j : Nat} (hj : j <= 1) : ∀ (n : Nat) (e : Rx), size e <= n -> ∀ (T : List (List Rx)) (q : Rx) (t : List Rx) (x : Rx) (t' : List Rx), (q, t) ∈ pts j e T -> Nx j q t x t' -> (x, t') ∈ pts j e T := by
 intro n
 induction n with
 | zero => intro e h; have := Zaf e; omega
 | succ n ih =>
   intro e he T q t x t' hm hn
   rw [Zu4, List.mem_append] at hm
   rw [Zu4]
   refine List.mem_append_right _ ?_
   rcases hm with hm | hm
   ·obtain ⟨t0, ht, e0⟩ := List.mem_map.1 hm
    injection e0 with e1 e2
    subst e1; subst e2
    cases hn with
    | star k es => rw [if_pos k, es]; exact Ziu (List.mem_map.2 ⟨_, ht, rfl⟩)
    | alt k es => rw [if_neg (by omega), if_pos k]; exact Zj9.2 ⟨_, es, Ziu ht⟩
    | cat k es i hi => rw [if_neg (by omega), if_neg (by omega), if_pos k]; exact Zka.2 ⟨_, _, _, es, Ziu (Z5c hj hi ht)⟩
   ·split at hm
    ·rename_i k
     rw [if_pos k]
     cases hs : e.subs with
     | nil => rw [hs] at hm; simp [ptsS] at hm
     | cons y l =>
       rw [hs] at hm
       have := Zbb hs
       exact ih y (by omega) _ q t x t' hm hn
    ·rename_i k
     rw [if_neg k]
     split at hm
     ·rename_i k
      rw [if_pos k]
      obtain ⟨y, hy, h1⟩ := Zj9.1 hm
      have := Zbz hy
      exact Zj9.2 ⟨y, hy, ih y (by omega) _ q t x t' h1 hn⟩
     ·rename_i k
      rw [if_neg k]
      split at hm
      ·rename_i k
       rw [if_pos k]
       obtain ⟨l1, y, tl, hy, h1⟩ := Zka.1 hm
       have : y ∈ e.subs := by rw [hy]; simp
       have := Zbz this
       exact Zka.2 ⟨l1, y, tl, hy, ih y (by omega) _ q t x t' h1 hn⟩
      ·cases hm
theorem PT.mem {r q : Rx} {t : List Rx} (h : PT r q t) : (q, t) ∈ pts 0 r [[]] := by
 induction h with
 | root => exact Ziu (List.mem_singleton.2 rfl)
 | star k e h ih => exact Zgy (Nat.zero_le 1) _ r (Nat.le_refl _) _ _ _ _ _ ih (.star k e)
 | alt k e h ih => exact Zgy (Nat.zero_le 1) _ r (Nat.le_refl _) _ _ _ _ _ ih (.alt k e)
 | cat k e i h ih => exact Zgy (Nat.zero_le 1) _ r (Nat.le_refl _) _ _ _ _ _ ih (.cat k e i (Nat.zero_le i))
theorem PT.memF {r q : Rx} {t : List Rx} (h : PT r q t) : (q, outC t) ∈ pts 1 r [[]] := by
 induction h with
 | root => exact Ziu (List.mem_singleton.2 rfl)
 | @star q t x l k e h ih =>
   have : outC (q :: t) = q :: outC t := by rw [Zbo]; simp [catF, k]
   rw [this]
   exact Zgy (Nat.le_refl 1) _ r (Nat.le_refl _) _ _ _ _ _ ih (.star k e)
 | alt k e h ih => exact Zgy (Nat.le_refl 1) _ r (Nat.le_refl _) _ _ _ _ _ ih (.alt k e)
 | @cat q t l x tl k e i h ih =>
   rw [Zef, Zzr]
   exact Zgy (Nat.le_refl 1) _ r (Nat.le_refl _) _ _ _ _ _ ih (.cat k e (i + 1) (by omega))
def vl (j : Nat) (tl : List Rx) : Nat := if tl.length = 0 then 1 else cds tl + 2 - j
mutual
def mm (j : Nat) : Rx -> Nat
 | .mk k _ _ _ _ l => 1 + (if k = 5 then mS j l else if k = 4 then mA j l else if k = 3 then mC j l else 0)
def mS (j : Nat) : List Rx -> Nat
 | [] => 0
 | x :: _ => mm j x
def mA (j : Nat) : List Rx -> Nat
 | [] => 0
 | x :: l => mm j x + mA j l
def mC (j : Nat) : List Rx -> Nat
 | [] => 0
 | x :: l => vl j l * mm j x + mC j l
end
theorem Zzt (j : Nat) (tl : List Rx) : (Vs j tl).length = vl j tl := by unfold Vs vl; split <;> simp
theorem Zm8 (j : Nat) (tl : List Rx) : ∀ T : List (List Rx), (ext j tl T).length = T.length * vl j tl
 | [] => by simp [ext]
 | t :: T => by
   have := Zm8 j tl T
   unfold ext at this ⊢
   rw [List.flatMap_cons, List.length_append, this, List.length_map, Zzt, List.length_cons, Nat.succ_mul]; omega
theorem Z11 (j : Nat) (e : Rx) : mm j e = 1 + (if e.kind = 5 then mS j e.subs else if e.kind = 4 then mA j e.subs else if e.kind = 3 then mC j e.subs else 0) := by
 cases e with | mk k a b c d l => simp only [mm, Rx.kind, Rx.subs]; rfl
theorem Zm9 (j : Nat) : ∀ (n : Nat) (e : Rx), size e <= n -> ∀ T : List (List Rx), (pts j e T).length = T.length * mm j e := by
 intro n
 induction n with
 | zero => intro e h; have := Zaf e; omega
 | succ n ih =>
   intro e he T
   have hA : ∀ l : List Rx, (∀ x ∈ l, size x <= n) -> (ptsA j l T).length = T.length * mA j l := by
    intro l
    induction l with
    | nil => intro _; simp [ptsA, mA]
    | cons x l ihl =>
      intro h
      simp only [ptsA, mA, List.length_append]
      rw [ih x (h x (List.mem_cons_self ..)) T, ihl fun y hy => h y (List.mem_cons_of_mem _ hy), Nat.mul_add]
   have hC : ∀ l : List Rx, (∀ x ∈ l, size x <= n) -> (ptsC j l T).length = T.length * mC j l := by
    intro l
    induction l with
    | nil => intro _; simp [ptsC, mC]
    | cons x l ihl =>
      intro h
      simp only [ptsC, mC, List.length_append]
      rw [ih x (h x (List.mem_cons_self ..)) _, Zm8, ihl fun y hy => h y (List.mem_cons_of_mem _ hy), Nat.mul_add, Nat.mul_assoc]
   have hs : ∀ x ∈ e.subs, size x <= n := fun x hx => by have := Zbz hx; omega
   rw [Zu4, Z11, List.length_append, List.length_map, Nat.mul_add, Nat.mul_one]
   congr 1
   split
   ·cases hl : e.subs with
    | nil => simp [ptsS, mS]
    | cons x l =>
      simp only [ptsS, mS]
      rw [ih x (hs x (by rw [hl]; simp)), List.length_map]
   ·split
    ·exact hA _ hs
    ·split
     ·exact hC _ hs
     ·simp
def sufs : List UInt8 -> List (List UInt8)
 | [] => [[]]
 | b :: w => (b :: w) :: sufs w
theorem Zl5 : ∀ w : List UInt8, (sufs w).length = w.length + 1
 | [] => rfl
 | b :: w => by simp [sufs, Zl5 w]
theorem Zu5 {v : List UInt8} : ∀ {w : List UInt8}, v <:+ w -> v ∈ sufs w
 | [], h => by rw [List.suffix_nil.1 h]; exact List.mem_singleton.2 rfl
 | b :: w, h => by
   rcases List.suffix_cons_iff.1 h with rfl | h
   ·exact List.mem_cons_self ..
   ·exact List.mem_cons_of_mem _ (Zu5 h)
def cand (r : Rx) (w : List UInt8) : List Rx :=
 empX :: ((pts 0 r [[]]).map (·.1) ++ ((pts 0 r [[]]).map (fun p => mk0 3 (p.1 :: p.2)) ++ (pts 1 r [[]]).flatMap fun p => (sufs w).map fun v => mk0 3 (derS p.1 v :: p.2)))
theorem Z12 {r a : Rx} {w : List UInt8} (h : Res1 r w a) : a ∈ cand r w := by
 rcases h with h | h | ⟨q, t, v, ⟨h1, hv⟩, h2, h3, h4⟩
 ·subst h; exact List.mem_cons_self ..
 ·exact List.mem_cons_of_mem _ (List.mem_append_left _ (List.mem_map.2 ⟨_, h.mem, rfl⟩))
 ·refine List.mem_cons_of_mem _ (List.mem_append_right _ ?_)
  by_cases e : v = []
  ·subst e
   exact List.mem_append_left _ (List.mem_map.2 ⟨_, h1.mem, h4.symm⟩)
  ·obtain ⟨t0, g1, g2⟩ := hv e
   subst g2
   exact List.mem_append_right _ (List.mem_flatMap.2 ⟨_, g1.memF, List.mem_map.2 ⟨v, Zu5 h3, h4.symm⟩⟩)
theorem Zl6 {α β : Type} {f : α -> List β} {n : Nat} (h : ∀ x, (f x).length = n) : ∀ l : List α, (l.flatMap f).length = l.length * n
 | [] => by simp
 | x :: l => by rw [List.flatMap_cons, List.length_append, h, Zl6 h l, List.length_cons, Nat.succ_mul]; omega
theorem Zs0 (r : Rx) (w : List UInt8) : (cand r w).length = 2 * mm 0 r + (w.length + 1) * mm 1 r + 1 := by
 have h0 := Zm9 0 _ r (Nat.le_refl _) [[]]
 have h1 := Zm9 1 _ r (Nat.le_refl _) [[]]
 simp only [List.length_singleton, Nat.one_mul] at h0 h1
 unfold cand
 rw [List.length_cons, List.length_append, List.length_append, List.length_map, List.length_map, Zl6 (n := w.length + 1) (fun p => by rw [List.length_map, Zl5]), h0, h1, Nat.mul_comm (w.length + 1)]
 omega
theorem Zrn {α : Type} : ∀ {l m : List α}, l.Nodup -> (∀ x ∈ l, x ∈ m) -> l.length <= m.length
 | [], _, _, _ => Nat.zero_le _
 | x :: l, m, hn, h => by
   obtain ⟨a, b, rfl⟩ := List.append_of_mem (h x (List.mem_cons_self ..))
   have hn' := List.nodup_cons.1 hn
   have := Zrn (m := a ++ b) hn'.2 fun y hy => by
    have h1 := h y (List.mem_cons_of_mem _ hy)
    rw [List.mem_append, List.mem_cons] at h1
    rw [List.mem_append]
    rcases h1 with h1 | rfl | h1
    ·exact .inl h1
    ·exact absurd hy hn'.1
    ·exact .inr h1
   simp only [List.length_append, List.length_cons] at this ⊢
   omega
theorem Zwk {out : List Rx} {x : Rx} (h : out.Nodup) : (addX out x).Nodup := by
 unfold addX
 split
 ·exact h
 ·rename_i hne
  rw [List.nodup_append]
  refine ⟨h, List.nodup_cons.2 ⟨by simp, List.nodup_nil⟩, fun a ha b hb e => hne ?_⟩
  rw [List.mem_singleton.1 hb] at e
  subst e
  exact List.any_eq_true.2 ⟨a, ha, Zhq.2 rfl⟩
theorem Zl7 : ∀ (l out : List Rx), out.Nodup -> (l.foldl addX out).Nodup
 | [], _, h => h
 | x :: l, out, h => Zl7 l _ (Zwk h)
theorem Z13 {r : Rx} {w : List UInt8} {ls : List Rx} (h : ∀ l ∈ ls, ∀ a ∈ altF l, Res1 r w a) : (outA ls).length <= 2 * mm 0 r + (w.length + 1) * mm 1 r + 1 := by
 rw [<- Zs0]
 refine Zrn (Zl7 _ _ List.nodup_nil) fun a ha => ?_
 obtain ⟨l, h1, h2⟩ := Zoe ha
 exact Z12 (h l h1 a h2)
end Go.Rx
end
section
open Go Go.Proofs Go.Ab Go.Rf
set_option maxRecDepth 100000
namespace Go.Rx
def Bd (r : Rx) (k : Nat) : Prop := 2 * mm 0 r + (k + 1) * mm 1 r + 1 <= 2 ^ 40 /\ size r <= 2 ^ 40
theorem Z66 {j : Nat} (hj : j <= 1) (l : List Rx) : 1 <= vl j l := by unfold vl; split <;> omega
theorem Z67 {j : Nat} {x : Rx} : ∀ {l : List Rx}, x ∈ l -> mm j x <= mA j l
 | y :: l, h => by
   rcases List.mem_cons.1 h with rfl | h
   ·simp only [mA]; omega
   ·have := Z67 (j := j) h; simp only [mA]; omega
theorem Z68 {j : Nat} (hj : j <= 1) {x : Rx} : ∀ {l : List Rx}, x ∈ l -> mm j x <= mC j l
 | y :: l, h => by
   rcases List.mem_cons.1 h with rfl | h
   ·have := Nat.le_mul_of_pos_left (mm j x) (Z66 hj l); simp only [mC]; omega
   ·have := Z68 hj h; simp only [mC]; omega
theorem PT.mm {j : Nat} (hj : j <= 1) {r q : Rx} {t : List Rx} (h : PT r q t) : Rx.mm j q <= Rx.mm j r := by
 induction h with
 | root => exact Nat.le_refl _
 | @star q t x l k e h ih => rw [Z11 j q, if_pos k, e] at ih; simp only [mS] at ih; omega
 | @alt q t x k e h ih => rw [Z11 j q, if_neg (by omega), if_pos k] at ih; have := Z67 (j := j) e; omega
 | @cat q t l x tl k e i h ih =>
   rw [Z11 j q, if_neg (by omega), if_neg (by omega), if_pos k] at ih
   have : x ∈ q.subs := by rw [e]; simp
   have := Z68 hj this; omega
theorem Bd.sub {r q : Rx} {t : List Rx} {k k' : Nat} (h : Bd r k) (hq : PT r q t) (hk : k' <= k) : Bd q k' := by
 have h0 := hq.mm (Nat.zero_le 1)
 have h1 := hq.mm (Nat.le_refl 1)
 have h2 := hq.size
 have h3 : (k' + 1) * mm 1 q <= (k + 1) * mm 1 r := Nat.mul_le_mul (by omega) h1
 exact ⟨by have := h.1; omega, by have := h.2; omega⟩
theorem Zom {r : Rx} {w : List UInt8} {ls : List Rx} {k : Nat} (hb : Bd r k) (hw : w.length <= k) (h : ∀ l ∈ ls, ∀ a ∈ altF l, Res1 r w a) : Zqz ls = true := by
 rw [Zgf]
 have h1 := Z13 h
 have h2 : (w.length + 1) * mm 1 r <= (k + 1) * mm 1 r := Nat.mul_le_mul (by omega) (Nat.le_refl _)
 have := hb.1
 omega
theorem Z14 (x : Rx) : (catF x).length <= tw x := Nat.le_trans (Zdb _) (Zuy x)
theorem Z5d (x : Rx) : x.subs.length < size x := by have := Zfo x.subs; have := Zb1 x; omega
theorem Zzu (q : Rx) (v : List UInt8) : (catF (derS q v)).length <= size q := by
 by_cases k : (derS q v).kind = 3
 ·have e : catF (derS q v) = (derS q v).subs := by unfold catF; rw [if_pos k]
  rw [e]
  rcases Zzs q v _ (by rw [Zoj (by omega) (by omega)]; exact List.mem_singleton.2 rfl) with h1 | h1 | ⟨q', t', v', ⟨h1, _⟩, h2, h3, h4⟩
  ·rw [h1] at k; cases k
  ·have := h1.size; have := Z5d (derS q v); omega
  ·rw [h4, Zu1]
   have := h1.size; have := Zdb t'; have := Zaf q'
   simp only [List.length_cons]; omega
 ·have := Zaf q
  unfold catF; rw [if_neg k]; split
  ·simp
  ·simpa using this
theorem Z15 (t : List Rx) : (catF (catX t)).length <= tws t := by
 have h := Zj8 t
 unfold catX
 split
 ·rename_i k
  have : t ≠ [] := fun e => by rw [e] at k; cases k
  have h2 : 0 < t.length := List.length_pos_iff.2 this
  have h3 := Zdb t
  show 1 <= _; omega
 ·split
  ·exact Nat.zero_le _
  ·rename_i hne
   match ho : outC t, hne with
   | [y], _ => rw [ho] at h; have := Z14 y; simp only [tws] at h; show (catF y).length <= _; omega
   | c :: d :: l, _ => rw [ho] at h; exact Nat.le_trans (Zdb (c :: d :: l)) h
theorem Zro {r q : Rx} {t : List Rx} {v : List UInt8} (h : PT r q t) (hr : size r <= 2 ^ 40) : Zg1 [derS q v, catX t] = true := by
 rw [Zdl]
 have h1 := h.size
 have h2 := Zzu q v
 have h3 := Z15 t
 have e : outC [derS q v, catX t] = catF (derS q v) ++ catF (catX t) := by rw [Zbo, Zbo]; simp [outC]
 rw [e, List.length_append]; omega
theorem Zu6 {r q : Rx} {t : List Rx} (h : PT r q t) (hr : size r <= 2 ^ 40) : Zg1 t = true := by
 rw [Zdl]
 have h1 := h.size
 have h2 := Zdb (outC t)
 have h3 := Zj8 t
 omega
theorem Zu7 {r q : Rx} {t : List Rx} {v w : List UInt8} (h : PT r q t) (hv : v <:+ w) : ∀ a ∈ altF (catX [derS q v, catX t]), Res1 r w a := by
 obtain ⟨t', g1, g2⟩ := Zit h (derS q v)
 rw [g2]
 exact Zjh g1 hv rfl (Zzs q v)
theorem Z16 {r : Rx} {b : UInt8} {k : Nat} (hb : Bd r k) (hk : 1 <= k) : ∀ (m : Nat) (q : Rx) (t : List Rx), PT r q t -> Zam t <= m -> (∀ y, size y <= Zam t -> Bd y 1 -> ok1 y b = true) -> ok1 (catX t) b = true := by
 intro m
 induction m with
 | zero =>
   intro q t h hm _
   have : t = [] := by
    cases t with
    | nil => rfl
    | cons x t => have := Zaf x; simp only [Zam] at hm; omega
   subst this
   exact Zd1 _ _
 | succ m ih =>
   intro q t h hm hone
   unfold catX
   split
   ·exact Zda _ _
   ·split
    ·exact Zd1 _ _
    ·rename_i hne
     have hsz := Zfa t
     match ho : outC t, hne with
     | [y], _ =>
       rw [ho] at hsz
       exact hone y (by simp only [Zam] at hsz; omega) (hb.sub (h.sufs [] y [] ho) hk)
     | c :: d :: l, _ =>
       rw [ho] at hsz
       have hc : PT r c (d :: l) := h.sufs [] c (d :: l) ho
       have hsc : size c <= Zam t /\ Zam (d :: l) <= m /\ Zam (d :: l) <= Zam t := by have := Zaf c; simp only [Zam] at hsz ⊢; omega
       rw [Zdn, Zzo rfl]
       show (ok1 c b && (Zg1 (d :: l) && (Zg1 [D1 c b, catX (d :: l)] && (!null c || (ok1 (catX (d :: l)) b && Zqz [catX [D1 c b, catX (d :: l)], D1 (catX (d :: l)) b]))))) = true
       rw [hone c hsc.1 (hb.sub hc hk), Zu6 hc hb.2, show Zg1 [D1 c b, catX (d :: l)] = true from Zro (v := [b]) hc hb.2,
        ih c (d :: l) hc hsc.2.1 fun y hy => hone y (by omega), Zom (w := [b]) hb (by simpa using hk) fun x hx => ?_]
       ·simp
       ·rcases List.mem_cons.1 hx with rfl | hx
        ·exact Zu7 (v := [b]) hc (List.suffix_refl _)
        ·rw [List.mem_singleton.1 hx]; exact Zl3 hc (List.suffix_refl _)
theorem ok_one (b : UInt8) : ∀ (n : Nat) (r : Rx), size r <= n -> Bd r 1 -> ok1 r b = true := by
 intro n
 induction n with
 | zero => intro r h; have := Zaf r; omega
 | succ n ih =>
   intro r h hb
   by_cases k5 : r.kind = 5
   ·rw [Z1v k5]
    cases hs : r.subs with
    | nil =>
      rw [Zed hs, Ziq]
      have e : catF r = [r] := by unfold catF; rw [if_neg (by omega), if_neg (by omega)]
      have : Zg1 [nilX, r] = true := by
       rw [Zdl, Zbo, Zbo, e]
       show 2 <= 2 ^ 40
       decide
      rw [this, show ok1 nilX b = true from Zda _ _]; rfl
    | cons x l =>
      have hsz := Zbb hs
      have hx : PT r x [r] := .star k5 hs .root
      have e : catF r = [r] := by unfold catF; rw [if_neg (by omega), if_neg (by omega)]
      have h2 := Zzu x [b]
      have : Zg1 [D1 x b, r] = true := by
       rw [Zdl, Zbo, Zbo, e]
       have h3 : (catF (D1 x b)).length <= size x := h2
       have := hb.2
       simp only [outC, List.flatMap_nil, List.append_nil, List.length_append, List.length_singleton]; omega
      rw [Zc0 hs, this, ih x (by omega) (hb.sub hx (Nat.le_refl _))]; rfl
   ·by_cases k4 : r.kind = 4
    ·rw [Z5a k4]
     have h1 : (r.subs.all fun x => ok1 x b) = true := List.all_eq_true.2 fun x hx => by
      have := Zbz hx
      exact ih x (by omega) (hb.sub (.alt k4 hx .root) (Nat.le_refl _))
     rw [h1, Zom (w := [b]) hb (Nat.le_refl 1) fun y hy => ?_]
     ·rfl
     ·obtain ⟨x, hx, rfl⟩ := List.mem_map.1 hy
      exact fun a ha => (Zol b _ x (Nat.le_refl _) a ha).comp (.alt k4 hx .root)
    ·by_cases k3 : r.kind = 3
     ·rw [Zzo k3]
      cases hs : r.subs with
      | nil =>
        rw [Zed hs, Ziq, show ok1 nilX b = true from Zda _ _]
        rfl
      | cons x tl =>
        have hsz := Zbb hs
        have hx : PT r x tl := by have := PT.cat (l := []) k3 hs 0 (.root (r := r)); rwa [List.append_nil] at this
        rw [Zc0 hs, List.tail_cons, ih x (by omega) (hb.sub hx (Nat.le_refl _)), Zu6 hx hb.2, show Zg1 [D1 x b, catX tl] = true from Zro (v := [b]) hx hb.2,
         Z16 hb (Nat.le_refl _) _ x tl hx (Nat.le_refl _) fun y hy => ih y (by have := Zaf x; omega), Zom (w := [b]) hb (Nat.le_refl 1) fun y hy => ?_]
        ·simp
        ·rcases List.mem_cons.1 hy with rfl | hy
         ·exact Zu7 (v := [b]) hx (List.suffix_refl _)
         ·rw [List.mem_singleton.1 hy]; exact Zl3 hx (List.suffix_refl _)
     ·exact Z1w k3 k4 k5
end Go.Rx
end
section
open Go Go.Proofs Go.Ab Go.Rf
set_option maxRecDepth 100000
namespace Go.Rx
mutual
theorem Z5e : ∀ x : Rx, cd x <= size x
 | .mk k _ _ _ _ l => by
   have := Zu8 l
   simp only [cd, size]; split <;> omega
theorem Zu8 : ∀ l : List Rx, cds l <= Zam l
 | [] => Nat.le_refl _
 | x :: l => by
   have := Z5e x
   have := Zu8 l
   simp only [cds, Zam]; omega
end
end Go.Rx
end
section
open Go Go.Proofs Go.Ab Go.Rf
set_option maxRecDepth 100000
namespace Go.Rx
theorem Zu9 {lvl : Int} : ∀ {l : List Rx}, chks lvl l = 0 ↔ ∀ x ∈ l, chk lvl x = 0
 | [] => by simp [chks]
 | x :: l => by
   simp only [chks, List.mem_cons, forall_eq_or_imp]
   rw [<- Zu9 (l := l)]
   split
   ·rename_i h; exact ⟨fun h1 => absurd h1 h, fun h1 => absurd h1.1 h⟩
   ·rename_i h; exact ⟨fun h1 => ⟨by omega, h1⟩, fun h1 => h1.2⟩
theorem Zhr {m : Nat} : ∀ {l : List Rx}, Zcp l <= m ↔ ∀ x ∈ l, Zfu x <= m
 | [] => by simp [Zcp]
 | x :: l => by
   simp only [Zcp, List.mem_cons, forall_eq_or_imp]
   rw [<- Zhr (l := l)]; omega
theorem Z27 : ∀ (n : Nat) (r : Rx), size r <= n -> ∀ lvl : Int, chk lvl r = 0 ↔ allX (fun r => Zau r = 0) r /\ lvl + Zfu r <= 17
 | 0, r, h => by have := Zaf r; omega
 | n + 1, r, h => fun lvl => by
   rw [Zg8, Zav, Zik]
   by_cases h16 : 16 < lvl
   ·rw [if_pos h16]
    constructor
    ·intro h1; cases h1
    ·intro h1; omega
   ·rw [if_neg h16]
    by_cases hn : Zau r = 0
    ·rw [if_neg (by omega), Zu9]
     have ih : ∀ x ∈ r.subs, (chk (lvl + 1) x = 0 ↔ allX (fun r => Zau r = 0) x /\ lvl + 1 + Zfu x <= 17) := fun x hx => by
      have := Zbz hx
      exact Z27 n x (by omega) (lvl + 1)
     have key : (lvl + ((Zcp r.subs + 1 : Nat) : Int) <= 17) ↔ ∀ x ∈ r.subs, lvl + 1 + Zfu x <= 17 := by
      have := Zhr (m := (16 - lvl).toNat) (l := r.subs)
      constructor
      ·intro h1 x hx
       have := this.1 (by omega) x hx
       omega
      ·intro h1
       have := this.2 fun x hx => by have := h1 x hx; omega
       omega
     rw [key]
     constructor
     ·intro h1
      exact ⟨⟨hn, fun x hx => ((ih x hx).1 (h1 x hx)).1⟩, fun x hx => ((ih x hx).1 (h1 x hx)).2⟩
     ·rintro ⟨⟨_, h1⟩, h2⟩ x hx
      exact (ih x hx).2 ⟨h1 x hx, h2 x hx⟩
    ·rw [if_pos hn]
     exact ⟨fun h1 => absurd h1 hn, fun h1 => absurd h1.1.1 hn⟩
theorem Zs1 (r : Rx) (lvl : Int) : chk lvl r = 0 ↔ allX (fun r => Zau r = 0) r /\ lvl + Zfu r <= 17 := Z27 _ r (Nat.le_refl _) lvl
def Vd (m : Nat) (r : Rx) : Prop := allX (fun r => Zau r = 0) r /\ Zfu r <= m
theorem Vd.chk {r : Rx} {m : Nat} (h : Vd m r) (hm : m <= 16) : chk 1 r = 0 := (Zs1 r 1).2 ⟨h.1, by have := h.2; omega⟩
theorem Vd.node {m : Nat} {k : Int} {l : List Rx} (hk : Zau (mk0 k l) = 0) (h : ∀ x ∈ l, Vd m x) : Vd (m + 1) (mk0 k l) :=
 ⟨Zav.2 ⟨hk, fun x hx => (h x hx).1⟩, by
  rw [Zik]
  have : Zcp l <= m := Zhr.2 fun x hx => (h x hx).2
  show Zcp l + 1 <= m + 1
  omega⟩
theorem Vd.mono {r : Rx} {m m' : Nat} (h : Vd m r) (hm : m <= m') : Vd m' r := ⟨h.1, Nat.le_trans h.2 hm⟩
theorem Vd.star {m : Nat} {a : Rx} (ha : Vd m a) : Vd (m + 1) (mk0 5 [a]) := .node rfl fun x hx => by rw [List.mem_singleton.1 hx]; exact ha
end Go.Rx
end
section
open Go Go.Proofs Go.Ab Go.Rf
set_option maxRecDepth 100000
namespace Go.Rx
structure NI (r : Rx) : Prop where
 ok : allX nodeOk (norm r)
 lv : Zfu (norm r) = Zfu r
 sz : size (norm r) = size r
 lang : ∀ w, lang (norm r) w ↔ lang r w
theorem Z17 {k : Int} {l m : List Rx} (h : l.length = m.length) (hl : nodeOk (mk0 k l)) : nodeOk (mk0 k m) := by
 refine ⟨?_, Zl0 k m⟩
 have := hl.1
 unfold Zau at this ⊢
 show (if k < 0 \/ _ then _ else if k = 3 \/ k = 4 then (if m.length < 2 then _ else _) else if k = 5 then (if m.length ≠ 1 then _ else _) else if m.length ≠ 0 then _ else _) = _
 rw [<- h]
 exact this
theorem Zjj {l : List Rx} (h : ∀ x ∈ l, NI x) : Zcp (l.map norm) = Zcp l /\ Zam (l.map norm) = Zam l /\ (∀ w, Zcq (l.map norm) w ↔ Zcq l w) /\ (∀ w, Zfr (l.map norm) w ↔ Zfr l w) := by
 induction l with
 | nil => exact ⟨rfl, rfl, fun _ => Iff.rfl, fun _ => Iff.rfl⟩
 | cons x l ih =>
   obtain ⟨h1, h2, h3, h4⟩ := ih fun y hy => h y (List.mem_cons_of_mem _ hy)
   have hx := h x (by simp)
   refine ⟨?_, ?_, fun w => ?_, fun w => ?_⟩
   ·simp only [List.map_cons, Zcp, h1, hx.lv]
   ·simp only [List.map_cons, Zam, h2, hx.sz]
   ·simp only [List.map_cons, Zcq, h3, hx.lang]
   ·simp only [List.map_cons, Zfr, h4, hx.lang]
theorem Zs2 : ∀ (n : Nat) (r : Rx), size r <= n -> allX nodeOk r -> NI r
 | 0, r, h, _ => by have := Zaf r; omega
 | n + 1, r, hs, hok => by
   obtain ⟨h0, hsub⟩ := Zav.1 hok
   have hsz := Zb1 r
   have ih : ∀ x ∈ r.subs, NI x := fun x hx => Zs2 n x (by have := Zbh hx; omega) (hsub x hx)
   have lst : ∀ (k : Int) (l : List Rx), r = mk0 k l -> k ≠ 2 -> (∀ w, Go.Rx.lang (mk0 k (l.map norm)) w ↔ Go.Rx.lang (mk0 k l) w) -> NI r := fun k l e hk hw => by
    subst e
    have en : norm (mk0 k l) = mk0 k (l.map norm) := Zoh k 0 0 0 0 l hk
    obtain ⟨h1, h2, _, _⟩ := Zjj ih
    refine ⟨?_, ?_, ?_, ?_⟩
    ·rw [en]
     exact Zav.2 ⟨Z17 (by simp) h0, fun x hx => by
      obtain ⟨y, hy, rfl⟩ := List.mem_map.1 hx
      exact (ih y hy).ok⟩
    ·rw [en, Zik, Zik]; exact congrArg (· + 1) h1
    ·rw [en, Zb1, Zb1]; exact congrArg (1 + ·) h2
    ·rw [en]; exact hw
   cases Zj5 h0 with
   | none => exact lst 0 [] rfl (by decide) fun w => Iff.rfl
   | emp => exact lst 1 [] rfl (by decide) fun w => Iff.rfl
   | @set a b c d h =>
     by_cases hc : rgN (hasX (.mk 2 a b c d [])) 256 = []
     ·have en : norm (.mk 2 a b c d []) = mk0 0 [] := by unfold norm; rw [if_pos ⟨rfl, hc⟩]
      refine ⟨?_, ?_, ?_, fun w => ?_⟩
      ·rw [en]; exact Zav.2 ⟨⟨rfl, Zl0 0 []⟩, fun x hx => by cases hx⟩
      ·rw [en]; rfl
      ·rw [en]; rfl
      ·rw [en, Zwh (r := .mk 2 a b c d []) rfl]
       refine ⟨fun h => absurd h (Zee w), ?_⟩
       rintro ⟨x, _, hx⟩
       have := (Zm4 (hasX (.mk 2 a b c d [])) 256).cov x.toNat
       rw [hc, hx] at this
       have hlt := x.toNat_lt
       simp [cov, hlt] at this
     ·have en : norm (.mk 2 a b c d []) = .mk 2 a b c d [] := by unfold norm; rw [if_neg (fun e => hc e.2)]; rfl
      exact ⟨by rw [en]; exact hok, by rw [en], by rw [en], fun w => by rw [en]⟩
   | @cat l hl => exact lst 3 l rfl (by decide) fun w => by rw [Zsz rfl, Zsz rfl]; exact (Zjj ih).2.2.1 w
   | @alt l hl => exact lst 4 l rfl (by decide) fun w => by rw [Zrd rfl, Zrd rfl]; exact (Zjj ih).2.2.2 w
   | star x =>
     refine lst 5 [x] rfl (by decide) fun w => ?_
     ·rw [Zre (r := mk0 5 ([x].map norm)) rfl, Zre (r := mk0 5 [x]) rfl]
      have := (ih x (by simp [mk0, Rx.subs])).lang
      show Star (fun u => Go.Rx.lang (norm x) u) w ↔ Star (fun u => Go.Rx.lang x u) w
      exact ⟨fun h => h.mono fun u => (this u).1, fun h => h.mono fun u => (this u).2⟩
theorem Zna {p q : Rx -> Prop} (h : ∀ r, p r -> q r) : ∀ (n : Nat) (r : Rx), size r <= n -> allX p r -> allX q r
 | 0, r, hs, _ => by have := Zaf r; omega
 | n + 1, r, hs, hr => by
   rw [Zav] at hr ⊢
   have hsz := Zb1 r
   exact ⟨h r hr.1, fun x hx => Zna h n x (by have := Zbh hx; omega) (hr.2 x hx)⟩
theorem Z18 {r : Rx} (hr : allX rangeOk r) (hc : chk 1 r = 0) (hl : (tx r 0).length <= 1000) : Za6 (tx r 0) = (norm r, 0, 0) := by
 have hok := Zj4 hr hc
 obtain ⟨k, hk⟩ := Z48 hok
 rw [Z1k hl hk, if_neg]
 have hn := Zs2 _ r (Nat.le_refl _) hok
 have : chk 1 (norm r) = 0 := (Zs1 _ _).2 ⟨Zna (fun _ h => h.1) _ _ (Nat.le_refl _) hn.ok, by rw [hn.lv]; exact ((Zs1 _ _).1 hc).2⟩
 rw [this]; decide
mutual
def rcnt : Rx -> Nat
 | .mk k a b c d l => cntN (hasX (.mk k a b c d l)) 256 + Zfw l
def Zfw : List Rx -> Nat
 | [] => 0
 | x :: l => rcnt x + Zfw l
end
theorem Zs3 (r : Rx) : rcnt r = cntN (hasX r) 256 + Zfw r.subs := by cases r; rfl
theorem Zon (p : Nat -> Bool) : ∀ n, cntN p n <= n
 | 0 => Nat.le_refl _
 | n + 1 => by have := Zon p n; unfold cntN; split <;> omega
theorem Z69 (q : Nat × Nat) : (rt q).length <= 9 := by
 have h1 := Zus q.1
 have h2 := Zus q.2
 unfold rt
 rw [List.length_append]
 split
 ·simp only [List.length_cons]; omega
 ·simp only [List.length_nil]; omega
theorem Zs4 : ∀ l : List (Nat × Nat), (l.flatMap rt).length <= 9 * l.length
 | [] => Nat.le_refl _
 | q :: l => by
   have h1 := Zs4 l
   have h2 := Z69 q
   rw [List.flatMap_cons, List.length_append, List.length_cons]; omega
theorem Zva {sep : List UInt8} (hs : sep.length <= 1) (lv : Nat) : ∀ l : List Rx, (∀ x ∈ l, (tx x lv).length + 1 <= 3 * size x + 9 * rcnt x) -> ((l.map (tx · lv)).flatMap (sep ++ ·)).length <= 3 * Zam l + 9 * Zfw l
 | [], _ => Nat.le_refl _
 | x :: l, h => by
   have h1 := Zva hs lv l fun y hy => h y (List.mem_cons_of_mem _ hy)
   have h2 := h x (by simp)
   simp only [List.map_cons, List.flatMap_cons, List.length_append, Zam, Zfw]; omega
theorem Zvb {sep : List UInt8} (hs : sep.length <= 1) (lv : Nat) {l : List Rx} (h : ∀ x ∈ l, (tx x lv).length + 1 <= 3 * size x + 9 * rcnt x) : (Zio sep (l.map (tx · lv))).length <= 3 * Zam l + 9 * Zfw l := by
 cases l with
 | nil => exact Nat.le_refl _
 | cons x l =>
   have h1 := Zva hs lv l fun y hy => h y (List.mem_cons_of_mem _ hy)
   have h2 := h x (by simp)
   simp only [List.map_cons, Zio, List.length_append, Zam, Zfw]; omega
theorem Z5f (k : Int) : (barV k).length <= 1 := by unfold barV; split <;> decide
theorem Z5g (b : Bool) (t : List UInt8) : (parS b t).length <= t.length + 2 := by unfold parS; split <;> simp
theorem Zvc : ∀ (n : Nat) (r : Rx), size r <= n -> ∀ lv, (tx r lv).length + 1 <= 3 * size r + 9 * rcnt r
 | 0, r, h, _ => by have := Zaf r; omega
 | n + 1, r, hs, lv => by
   have hsz := Zb1 r
   have hrc := Zs3 r
   have ih : ∀ x ∈ r.subs, ∀ lv, (tx x lv).length + 1 <= 3 * size x + 9 * rcnt x := fun x hx => Zvc n x (by have := Zbh hx; omega)
   have hp := Zaf r
   rw [Zmf]
   split
   ·simp only [List.length_cons, List.length_nil]; omega
   ·split
    ·simp only [List.length_cons, List.length_nil]; omega
    ·split
     ·rw [List.length_append, List.length_singleton]
      cases hl : r.subs with
      | nil => simp only [List.map_nil, List.headD_nil, List.length_nil]; omega
      | cons x l =>
        have := ih x (by rw [hl]; simp) 2
        rw [hl] at hsz hrc
        simp only [Zam, Zfw] at hsz hrc
        simp only [List.map_cons, List.headD_cons]
        omega
     ·split
      ·have := Zs4 (rgN (hasX r) 256)
       rw [Zly] at this
       simp only [setT, List.length_cons, List.length_append, List.length_nil]; omega
      ·have h1 := Zvb (Z5f r.kind) (ownV r.kind + 1) (l := r.subs) fun x hx => ih x hx _
       have h2 := Z5g (decide (ownV r.kind < lv)) (Zlz r)
       unfold Zlz at h2 ⊢
       omega
theorem Zoo : ∀ (n : Nat) (r : Rx), size r <= n -> rcnt r <= 256 * size r
 | 0, r, h => by have := Zaf r; omega
 | n + 1, r, hs => by
   have hsz := Zb1 r
   have h1 := Zon (hasX r) 256
   have key : ∀ l : List Rx, (∀ x ∈ l, rcnt x <= 256 * size x) -> Zfw l <= 256 * Zam l := by
    intro l
    induction l with
    | nil => intro _; exact Nat.le_refl _
    | cons x l ih =>
      intro h
      have h1 := ih fun y hy => h y (List.mem_cons_of_mem _ hy)
      have h2 := h x (by simp)
      simp only [Zfw, Zam]; omega
   have h2 := key r.subs fun x hx => Zoo n x (by have := Zbh hx; omega)
   rw [Zs3]; omega
theorem Zop (r : Rx) (lv : Nat) : (tx r lv).length <= 2400 * size r := by
 have h1 := Zvc _ r (Nat.le_refl _) lv
 have h2 := Zoo _ r (Nat.le_refl _)
 have := Zaf r
 omega
end Go.Rx
end
section
namespace Go.Proofs
open Go.Shelf
def Try.lays156_ren : Go.Shelf.Ren := ⟨fun | 156 => 62 | 165 => 70 | 166 => 71 | 169 => 72 | 240 => 75 | 241 => 76 | 276 => 88 | 277 => 89 | n => n, fun | 31 => 81 | 9 => 9 | 3 => 3 | 4 => 4 | 0 => 0 | 20 => 20 | 72 => 87 | 76 => 90 | 70 => 85 | 37 => 45 | 75 => 89 | 127 => 93 | 164 => 101 | 5 => 5 | 80 => 92 | n => n, fun | n => n⟩
theorem Try.lays156 : Go.Proofs.Lays.n156 Try.prog Try.lays156_ren := {
 mixed := by kernel_rfl
 f156 := Try.func62.trans (congrArg some (by kernel_rfl))
 f165 := Try.func70.trans (congrArg some (by kernel_rfl))
 f166 := Try.func71.trans (congrArg some (by kernel_rfl))
 f169 := Try.func72.trans (congrArg some (by kernel_rfl))
 f240 := Try.func75.trans (congrArg some (by kernel_rfl))
 f241 := Try.func76.trans (congrArg some (by kernel_rfl))
 f276 := Try.func88.trans (congrArg some (by kernel_rfl))
 f277 := Try.func89.trans (congrArg some (by kernel_rfl))
 t0 := Try.underlying0
 a0 := Try.isAgg0
 z0 := Try.sizeOf0
 v0 := Try.zeroValue0
 t3 := Try.underlying3
 a3 := Try.isAgg3
 z3 := Try.sizeOf3
 v3 := Try.zeroValue3
 t4 := Try.underlying4
 a4 := Try.isAgg4
 z4 := Try.sizeOf4
 v4 := Try.zeroValue4
 t9 := Try.underlying9
 a9 := Try.isAgg9
 z9 := Try.sizeOf9
 v9 := Try.zeroValue9
 t20 := Try.underlying20
 a20 := Try.isAgg20
 z20 := Try.sizeOf20
 v20 := Try.zeroValue20
 t31 := Try.underlying81
 a31 := Try.isAgg81
 z31 := Try.sizeOf81
 v31 := Try.zeroValue81
 t37 := Try.underlying45
 a37 := Try.isAgg45
 z37 := Try.sizeOf45
 v37 := Try.zeroValue45
 t70 := Try.underlying85
 a70 := Try.isAgg85
 z70 := Try.sizeOf85
 v70 := Try.zeroValue85
 t72 := Try.underlying87
 a72 := Try.isAgg87
 z72 := Try.sizeOf87
 v72 := Try.zeroValue87
 t75 := Try.underlying89
 a75 := Try.isAgg89
 z75 := Try.sizeOf89
 v75 := Try.zeroValue89
 t76 := Try.underlying90
 a76 := Try.isAgg90
 z76 := Try.sizeOf90
 v76 := Try.zeroValue90
 t127 := Try.underlying93
 a127 := Try.isAgg93
 z127 := Try.sizeOf93
 v127 := Try.zeroValue93
 t164 := Try.underlying101
 a164 := Try.isAgg101
 z164 := Try.sizeOf101
 v164 := Try.zeroValue101 }
theorem Try.Builder_Extra_156 : Builder.Extra Try.prog Try.lays156_ren := {
 sizeBuilder := by kernel_rfl
 liesBuilder := by kernel_rfl
 t5 := Try.underlying5
 a5 := Try.isAgg5
 z5 := Try.sizeOf5
 v5 := Try.zeroValue5
 infoByte := by kernel_rfl
 cellsByte := by kernel_rfl
 sizeByte := by kernel_rfl
 neB5 := by decide }
end Go.Proofs
open Go Go.Proofs Go.Ab Go.Rf
set_option maxRecDepth 100000
namespace Go.Rx
theorem Z19 : ∀ args w, (callFunc 62 args).run Try.prog w = .ok (.enter 62 args) w := enters_of Try.func62 (by kernel_rfl) rfl
theorem Zmg {P : Program} {f : FuncId} {args : List A} {v : Value} (henter : ∀ args w, (callFunc f args).run P w = .ok (.enter f args) w) (hv : isCell v = true)
 (h : ∀ (w : World) (cargs : Array Value) (g : Gh), All2 (fun x v => ∀ p, RepA w g (fun _ => 0) p x v) args cargs.toList -> (∀ b o, g.Pr b o -> b < w.heap.size) -> Calls P f cargs w fun e w' => e = .returned v /\ Ext w w') : Holds P f args [] (Ret (.d (.lit v))) := by
 intro w cargs g ha hh
 unfold CallsX
 rw [henter]
 refine (h w cargs g ha hh.prs).mono fun e w' ⟨he, hx⟩ => ⟨_, [], g, ⟨rfl, rfl⟩, rfl, ?_, v, he, .lit v hv, fun h => (by cases h)⟩
 refine ⟨fun r c hc => (by cases hc), hh.inj, hh.wr, fun b o hp => Nat.lt_of_lt_of_le (hh.prs b o hp) hx.size, hh.pr0, hh.prn, hh.up, hh.uu, hh.fr.trans (hx.fr (fun _ => False) _) (fun _ h => h.elim) (fun _ _ h => h)⟩
theorem Zzv {w w' : World} (h : Go.RowKit.Below w.heap.size w w') : Ext w w' := ⟨h.os, h.tape, h.output, h.size, h.block⟩
def Zfc (xs : List (List UInt8)) : List (List D) := xs.map fun x => [D.lit (Zaa x)]
def bas (xs : List (List UInt8)) : List ByteArray := xs.map fun x => ⟨x.toArray⟩
theorem Zvd (xs : List (List UInt8)) : (bas xs).map (·.data.toList) = xs := by
 unfold bas
 rw [List.map_map]
 conv => rhs; rw [<- List.map_id xs]
 exact List.map_congr_left fun x _ => by simp
theorem Z2a {xs : List (List UInt8)} {j : Nat} {y : ByteArray} (h : (bas xs)[j]? = some y) : (Zfc xs)[j]? = some [D.lit (.string y)] := by
 unfold bas at h
 unfold Zfc
 rw [List.getElem?_map] at h ⊢
 cases hx : xs[j]? with
 | none => rw [hx] at h; cases h
 | some x => rw [hx] at h; cases h; rfl
theorem Zzw (xs : List (List UInt8)) (sep : List UInt8) (h : xs.length <= 140737488355328) (hl : (Lib.join xs sep).length <= 140737488355328) :
 Holds Try.prog 62 [A.d (.slc (Zfc xs)), A.d (.lit (Zaa sep))] [] (Ret (.d (.lit (Zaa (Lib.join xs sep))))) := by
 refine Zmg Z19 rfl fun w cargs g ha hpr => ?_
 obtain ⟨cargs⟩ := cargs
 match cargs, ha with
 | [v1, v2], ⟨h1, h2, _⟩ =>
   have h1 : RepD w g.Pr (.slc (Zfc xs)) v1 := h1 .res
   have h2 : RepD w g.Pr (.lit (Zaa sep)) v2 := h2 .res
   cases h2
   generalize hes : Zfc xs = es at h1
   cases h1 with
   | emp a c =>
     have : xs = [] := by cases xs with | nil => rfl | cons x l => cases hes
     subst this
     exact (Any.strings_Join_none Try.lays156 Try.Builder_Extra_156 a c ⟨sep.toArray⟩ w).mono fun e w' ⟨e1, e2⟩ => ⟨e1, e2 ▸ Ext.refl _⟩
   | slc _ sz b off cap vs h0 hlen hc hv hp hr =>
     subst hes
     cases xs with
     | nil => exact (Any.strings_Join_none Try.lays156 Try.Builder_Extra_156 _ cap ⟨sep.toArray⟩ w).mono fun e w' ⟨e1, e2⟩ => ⟨e1, e2 ▸ Ext.refl _⟩
     | cons x l =>
       have hsz : sz = 1 := (hlen [D.lit (Zaa x)] (by simp [Zfc])).symm
       subst hsz
       have hL : (Zfc (x :: l)).length = (bas (x :: l)).length := by simp [Zfc, bas]
       have hcell : ∀ (j : Nat) y, (bas (x :: l))[j]? = some y -> w.cell? ⟨b, off + j, none⟩ = some (.string y) := fun j y hj => by
        obtain ⟨hj1, hj2⟩ := List.getElem?_eq_some_iff.1 hj
        have hj3 : j < (Zfc (x :: l)).length := by rw [hL]; exact hj1
        rw [hv j (by omega)]
        have h3 : (Zfc (x :: l))[j] = [D.lit (.string y)] := by
         have := Z2a hj
         exact (List.getElem?_eq_some_iff.1 this).2
        have h5 := hr j 0 hj3 (by rw [h3]; exact Nat.zero_lt_one)
        have h6 : (Zfc (x :: l))[j][0]'(by rw [h3]; exact Nat.zero_lt_one) = .lit (.string y) := by simp only [h3]; rfl
        rw [h6] at h5
        have h7 : j * 1 + 0 = j := by omega
        rw [h7] at h5
        generalize vs j = u at h5
        cases h5
        rfl
       have hb : b < w.heap.size := hpr b (off + 0) (hp 0 (by rw [hL]; simp [bas]))
       rw [hL] at hc ⊢
       have := Any.strings_Join Try.lays156 Try.Builder_Extra_156 b off cap (bas (x :: l)) ⟨sep.toArray⟩ w hcell hb (by simpa [bas] using h) hc (by rw [Zvd]; exact hl)
       rw [Zvd] at this
       exact this.mono fun e w' ⟨e1, e2⟩ => ⟨e1, Zzv e2⟩
end Go.Rx
end
section
open Go Go.Proofs Go.Ab Go.Rf
set_option maxRecDepth 100000
namespace Go.Rx
theorem Z2b {r : Rx} (h : nodeOk r) : (0 <= r.kind /\ r.kind <= 5) /\ (r.kind = 5 -> ∃ x, r.subs = [x]) /\ (r.kind = 3 \/ r.kind = 4 -> 2 <= r.subs.length) := by
 cases Zj5 h with
 | none => exact ⟨by decide, fun e => absurd e (by decide), fun e => absurd e (by decide)⟩
 | emp => exact ⟨by decide, fun e => absurd e (by decide), fun e => absurd e (by decide)⟩
 | set h => exact ⟨⟨by show (0 : Int) <= 2; decide, by show (2 : Int) <= 5; decide⟩, fun e => absurd (show (2 : Int) = 5 from e) (by decide), fun e => absurd (show (2 : Int) = 3 \/ (2 : Int) = 4 from e) (by decide)⟩
 | @cat l h1 => exact ⟨⟨by show (0 : Int) <= 3; decide, by show (3 : Int) <= 5; decide⟩, fun e => absurd (show (3 : Int) = 5 from e) (by decide), fun _ => h1⟩
 | @alt l h1 => exact ⟨⟨by show (0 : Int) <= 4; decide, by show (4 : Int) <= 5; decide⟩, fun e => absurd (show (4 : Int) = 5 from e) (by decide), fun _ => h1⟩
 | star x => exact ⟨⟨by show (0 : Int) <= 5; decide, by show (5 : Int) <= 5; decide⟩, fun _ => ⟨x, rfl⟩, fun e => absurd (show (5 : Int) = 3 \/ (5 : Int) = 4 from e) (by decide)⟩
theorem Zoq (xs : List (List UInt8)) (sep : List UInt8) : Lib.join xs sep = Zio sep xs := by
 cases xs with
 | nil => rfl
 | cons x l => rw [Lib.join_cons]; simp [Zio, Lib.joinTail, List.flatMap]
theorem Z7a {l : List (Nat × Nat)} {k : Nat} (h : k < l.length) : gAt (rgV l) (k : Int) = [D.lit (.int .u8 l[k].1), D.lit (.int .u8 l[k].2)] := by
 unfold gAt rgV
 rw [Int.toNat_natCast, List.getD_eq_getElem?_getD, List.getElem?_map, List.getElem?_eq_getElem h]
 rfl
theorem Z5h {l : List (Nat × Nat)} {k : Nat} (h : k < l.length) : (l.take (k + 1)).flatMap rt = (l.take k).flatMap rt ++ rt l[k] := by
 rw [List.take_succ_eq_append_getElem h, List.flatMap_append]; simp
theorem Zve (l : List Rx) : Zfw l <= 256 * Zam l := by
 induction l with
 | nil => exact Nat.le_refl _
 | cons x l ih => have := Zoo _ x (Nat.le_refl _); simp only [Zfw, Zam]; omega
theorem Zrp {sep : List UInt8} (hs : sep.length <= 1) (lv : Nat) (l : List Rx) : (Zio sep (l.map (tx · lv))).length <= 2400 * Zam l := by
 have h1 := Zvb hs lv (l := l) fun x _ => Zvc _ x (Nat.le_refl _) lv
 have h2 := Zve l
 omega
theorem Ziv {l : List Rx} {k lv : Nat} (h : k < l.length) : Zfc ((l.take k).map (tx · lv)) ++ [[D.lit (Zaa (tx l[k] lv))]] = Zfc ((l.take (k + 1)).map (tx · lv)) := by
 rw [List.take_succ_eq_append_getElem h, List.map_append]; simp [Zfc]
theorem Zjs (xs : List (List UInt8)) : (Zfc xs).length = xs.length := by simp [Zfc]
theorem Zvf {b : Bool} {t : List UInt8} (h : b = true) : parS b t = ([40] ++ t) ++ [41] := by subst h; rfl
theorem Zrq {b : Bool} {t : List UInt8} (h : b = false) : parS b t = t := by subst h; rfl
theorem c45 : ∀ (n : Nat) (r : Rx) (lv : Nat), size r <= n -> n <= 2 ^ 20 -> allX nodeOk r -> Holds Try.prog 45 [A.agg (enc r), A.d (.lit (.int .i64 lv))] [] (Ret (.d (.lit (Zaa (tx r lv)))))
 | 0, r, lv, h, _, _ => by have := Zaf r; omega
 | n + 1, r, lv, hs, hn, hok => by
   obtain ⟨h0, hsub⟩ := Zav.1 hok
   obtain ⟨⟨hk0, hk5⟩, hst, hca⟩ := Z2b h0
   have hsz := Zb1 r
   have hge := Zfo r.subs
   have ih : ∀ (i : Nat) (h : i < r.subs.length) (lv : Nat), Holds Try.prog 45 [A.agg (enc r.subs[i]), A.d (.lit (.int .i64 lv))] [] (Ret (.d (.lit (Zaa (tx r.subs[i] lv))))) := fun i h lv =>
    c45 n _ lv (by have := Zbc h; omega) (by omega) (hsub _ (List.getElem_mem h))
   refine w45 (enc r) lv ?_
   rw [enc0, enc1, enc2, enc3, enc4, enc5, Zar, Zaw]
   have r1 : ∀ x : List D, (([x] : List (List D)).length : Int) = 1 := fun _ => rfl
   refine ⟨teq6 r, rfl, fun hk => ?_, fun n0 => ⟨fun hk => ?_, fun n1 => ⟨fun hk => ?_, fun n5 => ⟨fun hk => ?_, fun n2 => ⟨fun hk => ?_, fun n4 => ?_⟩⟩⟩⟩⟩
   ·rw [Zmf, if_pos (Zao hk)]; exact ⟨rfl, rfl⟩
   ·rw [Zmf, if_neg (Zag n0), if_pos (Zao hk)]; exact ⟨rfl, rfl⟩
   ·have hk := Zao hk
    obtain ⟨x, hx⟩ := hst hk
    have h1 : 0 < r.subs.length := by rw [hx]; exact Nat.zero_lt_one
    refine ⟨rfl, tlt (by rw [Zab]; omega), ?_⟩
    rw [Zaq (i := 0) (x := 0) rfl h1]
    refine ⟨teq6 _, Zae (ih 0 h1 2) ⟨_, rfl, rfl, tle ?_, ?_⟩⟩
    ·have := Zop r.subs[0] 2
     have := Zbc h1
     omega
    ·rw [Zmf, if_neg (Zag n0), if_neg (Zag n1), if_pos hk]
     have e : (r.subs.map (tx · 2)).headD [] = tx r.subs[0] 2 := by simp [hx]
     rw [e]; exact ⟨rfl, rfl⟩
   ·rw [Zge r h0.2]
    have hL := Zq7 (hasX r) 256
    have hi := (Zm4 (hasX r) 256).le
    generalize hLe : rgN (hasX r) 256 = L at hL hi
    have h60 : Holds Try.prog 60 [A.agg (row4 (hasX r))] [] (Ret (.d (.slc (rgV L)))) := by rw [<- hLe]; exact c60 _
    refine Zae h60 ⟨_, rfl, rfl, fun s i => ∃ k : Nat, i = k /\ k <= L.length /\ s = (L.take k).flatMap rt, fun _ i => L.length - i.toNat, ⟨0, rfl, Nat.zero_le _, rfl⟩, ?_, trivial⟩
    rintro _ _ ⟨k, rfl, hkl, rfl⟩
    have hlen := Zs4 (L.take k)
    rw [List.length_take] at hlen
    refine ⟨fun hlt => ?_, fun hge => ?_⟩
    ·have hlt : k < L.length := by have := Zax hlt; rw [Zc9] at this; omega
     rw [Z7a hlt]
     obtain ⟨q1, q2⟩ := hi L[k] (List.getElem_mem hlt)
     have b1 := Zus L[k].1
     have b2 := Zus L[k].2
     have dec : L.length - ((k : Int) + 1).toNat < L.length - (k : Int).toNat := by omega
     have st : ∀ t, rt L[k] = t -> ∃ j : Nat, (k : Int) + 1 = j /\ j <= L.length /\ (L.take k).flatMap rt ++ t = (L.take j).flatMap rt := fun t ht => ⟨k + 1, by omega, by omega, by rw [Z5h hlt, ht]⟩
     refine ⟨tle (by omega), teq rfl, rfl, Zae (c61 L[k].1 (by omega)) ⟨_, rfl, rfl, tle (by omega), rfl, fun h12 => ?_, fun h12 => ?_⟩⟩
     ·have h12 : L[k].1 < L[k].2 := by have : ((L[k].1 : Nat) : Int) < ((L[k].2 : Nat) : Int) := Zax h12; omega
      refine Zae (c61 L[k].2 q2) ⟨_, rfl, rfl, tle (by omega), tle ?_, tle (by omega), tle (by omega), ?_, dec⟩
      ·simp only [List.length_append, List.length_singleton]; omega
      ·have := st (bt L[k].1 ++ 45 :: bt L[k].2) (by unfold rt; rw [if_pos h12])
       rw [<- List.append_assoc] at this
       exact this
     ·have h12 : ¬ L[k].1 < L[k].2 := by have : ((L[k].2 : Nat) : Int) <= ((L[k].1 : Nat) : Int) := Zan h12; omega
      exact ⟨tle (by omega), tle (by omega), st (bt L[k].1) (by unfold rt; rw [if_neg h12, List.append_nil]), dec⟩
    ·have hge := Zan hge
     rw [Zc9] at hge
     have : k = L.length := by omega
     subst this
     rw [List.take_length] at hlen ⊢
     refine ⟨tle (by omega), tle ?_, ?_⟩
     ·simp only [List.length_append, List.length_singleton]; omega
     ·rw [Zmf, if_neg (Zag n0), if_neg (Zag n1), if_neg (Zag n5), if_pos (Zao hk), hLe]
      exact ⟨rfl, rfl⟩
   ·have hk := Zao hk
    have hl := hca (.inr hk)
    have hb : barV r.kind = ([124] : List UInt8) := by rw [hk]; rfl
    have ho : ownV r.kind = 0 := by rw [hk]; rfl
    have etx : tx r lv = parS (decide (0 < lv)) (Zio ([124] : List UInt8) (r.subs.map (tx · 1))) := by
     rw [Zmf, if_neg (by omega), if_neg (by omega), if_neg (by omega), if_neg (by omega), Zlz, hb, ho]
    have hjl := Zrp (sep := ([124] : List UInt8)) (by decide) 1 r.subs
    have hbig : (tx r lv).length <= 2400 * 2 ^ 20 := by have := Zop r lv; omega
    refine ⟨rfl, True, r.subs.length + 1, fun rows i _ _ _ _ _ _ => ∃ k : Nat, i = k /\ k <= r.subs.length /\ rows = Zfc ((r.subs.take k).map (tx · 1)), fun _ i _ _ _ _ _ _ => r.subs.length - i.toNat, trivial,
     fun _ => ⟨fun _ => ?_, fun hge => absurd (Zan hge) (by rw [Zab]; omega)⟩, ?_, trivial⟩
    ·have h1 : 0 < r.subs.length := by omega
     rw [Zaq (i := 0) (x := 0) rfl h1]
     refine ⟨teq6 _, Zae (ih 0 h1 1) ⟨_, rfl, rfl, tle (by rw [r1]; decide), tle (by rw [r1]; decide), ⟨1, rfl, h1, ?_⟩, ?_⟩⟩
     ·exact Ziv (k := 0) h1
     ·show r.subs.length - (1 : Int).toNat < r.subs.length + 1; omega
    ·rintro _ _ _ _ _ _ _ _ ⟨k, rfl, hkl, rfl⟩
     have hrl : ((Zfc ((r.subs.take k).map (tx · 1))).length : Int) = k := by rw [Zjs, List.length_map, List.length_take, Nat.min_eq_left hkl]
     refine ⟨fun hlt => ?_, fun hge => ?_⟩
     ·have hlt : k < r.subs.length := by have := Zax hlt; rw [Zab] at this; omega
      rw [Zaq (i := k) rfl hlt]
      refine ⟨tle (by omega), teq6 _, Zae (ih k hlt 1) ⟨_, rfl, rfl, tle (by rw [r1, hrl]; omega), tle (by rw [r1, hrl]; omega), tle (by omega), tle (by omega), ⟨k + 1, by omega, hlt, ?_⟩, ?_⟩⟩
      ·exact Ziv hlt
      ·show r.subs.length - ((k : Int) + 1).toNat < r.subs.length - (k : Int).toNat; omega
     ·have hge := Zan hge
      rw [Zab] at hge
      have : k = r.subs.length := by omega
      subst this
      rw [List.take_length]
      have hj := Zzw (r.subs.map (tx · 1)) ([124] : List UInt8) (by rw [List.length_map]; omega) (by rw [Zoq]; omega)
      rw [Zoq] at hj
      refine Zae hj ⟨_, rfl, rfl, fun h => ⟨tle (by omega), tle ?_, ?_⟩, fun h => ?_⟩
      ·simp only [List.length_append, List.length_singleton]; omega
      ·have h : 0 < lv := by have := Zax h; omega
       rw [etx, Zvf (by simpa using h)]; exact ⟨rfl, rfl⟩
      ·have h : ¬ 0 < lv := by have := Zan h; omega
       rw [etx, Zrq (by simpa using h)]; exact ⟨rfl, rfl⟩
   ·have hk : r.kind = 3 := by have := Zag n0; have := Zag n1; have := Zag n2; have := Zag n4; have := Zag n5; omega
    have hl := hca (.inl hk)
    have hb : barV r.kind = ([] : List UInt8) := by rw [hk]; rfl
    have ho : ownV r.kind = 1 := by rw [hk]; rfl
    have etx : tx r lv = parS (decide (1 < lv)) (Zio ([] : List UInt8) (r.subs.map (tx · 2))) := by
     rw [Zmf, if_neg (by omega), if_neg (by omega), if_neg (by omega), if_neg (by omega), Zlz, hb, ho]
    have hjl := Zrp (sep := ([] : List UInt8)) (by decide) 2 r.subs
    have hbig : (tx r lv).length <= 2400 * 2 ^ 20 := by have := Zop r lv; omega
    refine ⟨rfl, True, r.subs.length + 1, fun rows i _ _ _ _ _ _ => ∃ k : Nat, i = k /\ k <= r.subs.length /\ rows = Zfc ((r.subs.take k).map (tx · 2)), fun _ i _ _ _ _ _ _ => r.subs.length - i.toNat, trivial,
     fun _ => ⟨fun _ => ?_, fun hge => absurd (Zan hge) (by rw [Zab]; omega)⟩, ?_, trivial⟩
    ·have h1 : 0 < r.subs.length := by omega
     rw [Zaq (i := 0) (x := 0) rfl h1]
     refine ⟨teq6 _, Zae (ih 0 h1 2) ⟨_, rfl, rfl, tle (by rw [r1]; decide), tle (by rw [r1]; decide), ⟨1, rfl, h1, ?_⟩, ?_⟩⟩
     ·exact Ziv (k := 0) h1
     ·show r.subs.length - (1 : Int).toNat < r.subs.length + 1; omega
    ·rintro _ _ _ _ _ _ _ _ ⟨k, rfl, hkl, rfl⟩
     have hrl : ((Zfc ((r.subs.take k).map (tx · 2))).length : Int) = k := by rw [Zjs, List.length_map, List.length_take, Nat.min_eq_left hkl]
     refine ⟨fun hlt => ?_, fun hge => ?_⟩
     ·have hlt : k < r.subs.length := by have := Zax hlt; rw [Zab] at this; omega
      rw [Zaq (i := k) rfl hlt]
      refine ⟨tle (by omega), teq6 _, Zae (ih k hlt 2) ⟨_, rfl, rfl, tle (by rw [r1, hrl]; omega), tle (by rw [r1, hrl]; omega), tle (by omega), tle (by omega), ⟨k + 1, by omega, hlt, ?_⟩, ?_⟩⟩
      ·exact Ziv hlt
      ·show r.subs.length - ((k : Int) + 1).toNat < r.subs.length - (k : Int).toNat; omega
     ·have hge := Zan hge
      rw [Zab] at hge
      have : k = r.subs.length := by omega
      subst this
      rw [List.take_length]
      have hj := Zzw (r.subs.map (tx · 2)) ([] : List UInt8) (by rw [List.length_map]; omega) (by rw [Zoq]; omega)
      rw [Zoq] at hj
      refine Zae hj ⟨_, rfl, rfl, fun h => ⟨tle (by omega), tle ?_, ?_⟩, fun h => ?_⟩
      ·simp only [List.length_append, List.length_singleton]; omega
      ·have h : 1 < lv := by have := Zax h; omega
       rw [etx, Zvf (by simpa using h)]; exact ⟨rfl, rfl⟩
      ·have h : ¬ 1 < lv := by have := Zan h; omega
       rw [etx, Zrq (by simpa using h)]; exact ⟨rfl, rfl⟩
theorem c31 (r : Rx) (hr : allX rangeOk r) (hs : size r <= 2 ^ 20) : Holds Try.prog 31 [A.agg (enc r)] [] (Ret (.tup (if chk 1 r = 0 /\ (tx r 0).length <= 1000 then [(false, [.lit (Zaa (tx r 0))]), (false, [.lit (.int .i64 0)])] else [(false, [.lit (Zaa [])]), (false, [.lit (.int .i64 (if chk 1 r = 0 then 2 else chk 1 r))])]))) := by
 refine w31 (enc r) ⟨teq6 r, Zae (c15 r (Zij _ r (Nat.le_trans hs (by decide)) (Nat.le_refl _))) ⟨_, rfl, rfl, fun hc => ?_, fun hc => ?_⟩⟩
 ·have hc := nteq hc
  rw [if_neg (fun e => hc e.1), if_neg hc]; exact ⟨rfl, rfl⟩
 ·have hc := nfeq hc
  refine Zae (c45 _ r 0 (Nat.le_refl _) hs (Zj4 hr hc)) ⟨_, rfl, rfl, fun hl => ?_, fun hl => ?_⟩
  ·have hl := Zax hl
   rw [if_neg (fun e => by omega), if_pos hc]; exact ⟨rfl, rfl⟩
  ·have hl := Zan hl
   rw [if_pos ⟨hc, by omega⟩]; exact ⟨rfl, rfl⟩
end Go.Rx
end
section
open Go Go.Proofs Go.Ab Go.Rf
set_option maxRecDepth 100000
namespace Go.Rx
theorem Holds.disown {P : Program} {f : FuncId} {args : List A} {H : List (Ref × List A)} {R R' : Out -> List (Ref × List A) -> Prop} (h : Holds P f args H R)
 (hr : ∀ o H', R o H' -> R' o H' \/ ∃ sz es, o = .ret (.own sz es []) /\ R' (.ret (.d (.slc es))) H') : Holds P f args H R' := by
 intro w cargs g ha hh
 refine (h w cargs g ha hh).mono fun e w' ⟨out, H', g', h1, h2, h3, h4⟩ => ?_
 rcases hr _ _ h1 with h5 | ⟨sz, es, rfl, h5⟩
 ·exact ⟨out, H', g', h5, h2, h3, h4⟩
 ·refine ⟨.ret (.d (.slc es)), H', g', h5, h2, h3, ?_⟩
  obtain ⟨cv, rfl, ⟨cap, cs, ho⟩, _⟩ := h4
  refine ⟨cv, rfl, ?_, fun h => by cases h⟩
  obtain ⟨hv, hrow, hpos, hsize, hroom, hlen, hel, hpr⟩ := ho
  simp only [List.length_nil, Nat.add_zero] at hv hroom
  simp only [List.append_nil] at hlen hel
  rw [hv]
  show RepD w' g'.Pr (.slc es) _
  have hk : ∀ k, k < es.length * sz -> ∃ v, cs[k]? = some v /\ ∀ (hi : k / sz < es.length) (hj : k % sz < es[k / sz].length), RepD w' g'.Pr es[k / sz][k % sz] v := fun k hk => by
   have hi : k / sz < es.length := Nat.div_lt_of_lt_mul (by rw [Nat.mul_comm]; exact hk)
   have hj : k % sz < es[k / sz].length := by rw [hlen _ (List.getElem_mem hi)]; exact Nat.mod_lt _ hpos
   obtain ⟨v, h6, h7⟩ := hel (k / sz) (k % sz) hi hj
   rw [show k / sz * sz + k % sz = k by rw [Nat.mul_comm]; exact Nat.div_add_mod k sz] at h6
   exact ⟨v, h6, fun _ _ => h7⟩
  refine .slc es sz (g'.ow .res) 0 cap (fun k => (cs[k]?).getD .nilIface) hpos hlen hroom (fun k h => ?_) (fun k h => ?_) fun i j hi hj => ?_
  ·rw [hrow.cell, Nat.zero_add]
   obtain ⟨v, h6, _⟩ := hk k h
   rw [h6]; rfl
  ·rw [Nat.zero_add]; exact (hpr k).2 h
  ·obtain ⟨v, h6, h7⟩ := hel i j hi hj
   simp only [h6, Option.getD_some]
   exact h7
def BV (n : Nat) (f : Nat -> Bool) : List (List D) := (List.range (n + 1)).map fun i => [D.lit (.bool (f i))]
theorem Ziw (n : Nat) (f : Nat -> Bool) : (BV n f).length = n + 1 := by simp [BV]
theorem Zet {n : Nat} {f g : Nat -> Bool} (h : ∀ i, i <= n -> f i = g i) : BV n f = BV n g := by
 unfold BV
 refine List.map_congr_left fun i hi => ?_
 rw [h i (by have := List.mem_range.1 hi; omega)]
theorem Zwl {n : Nat} (f : Nat -> Bool) {i : Nat} (h : i <= n) : gAt (BV n f) (i : Int) = [D.lit (.bool (f i))] := by
 simp [gAt, BV, List.getD, List.getElem?_range (show i < n + 1 by omega)]
theorem Zzx {n : Nat} (f : Nat -> Bool) (i : Nat) (b : Bool) : gSet (BV n f) (i : Int) [D.lit (.bool b)] = BV n fun j => if j = i then b else f j := by
 unfold gSet BV
 apply List.ext_getElem
 ·simp
 ·intro k h1 h2
  simp only [Int.toNat_natCast, List.getElem_set, List.getElem_map, List.getElem_range]
  by_cases hk : i = k
  ·subst hk; simp
  ·have : ¬ k = i := fun e => hk e.symm
   simp [hk, this]
theorem Znb (n : Nat) : gRpt ((n : Int) + 1) [D.lit (.bool false)] = BV n fun _ => false := by
 unfold gRpt BV
 rw [show ((n : Int) + 1).toNat = n + 1 by omega]
 apply List.ext_getElem
 ·simp
 ·intro k h1 h2; simp
theorem Zor (x b : D) : Ab.setL [x] 0 [b] = [b] := rfl
def oneF (r : Rx) (s : List UInt8) (f : Nat -> Bool) : Nat -> Bool
 | 0 => false
 | k + 1 => f k && (match s[k]? with | some c => hasX r c.toNat | none => false)
end Go.Rx
end
section
open Go Go.Proofs Go.Ab Go.Rf
set_option maxRecDepth 100000
namespace Go.Rx
def setA (r : Rx) : A := A.agg [D.lit (.int .u64 (r.w 0)), D.lit (.int .u64 (r.w 1)), D.lit (.int .u64 (r.w 2)), D.lit (.int .u64 (r.w 3))]
theorem c58 (r : Rx) (s : List UInt8) (f : Nat -> Bool) (hr : rangeOk r) (hs : s.length <= 2 ^ 40) : Holds Try.prog 58 [setA r, A.d (.lit (Zaa s)), A.d (.slc (BV s.length f))] [] (Ret (.d (.slc (BV s.length (oneF r s f))))) := by
 have z : (((s.length : Nat) : Int) + 1) = ((s.length + 1 : Nat) : Int) := by omega
 refine w58 _ s (BV s.length f) ⟨teq rfl, tle (by omega), tle (by omega), tle (by omega), tle (by omega), tle (by omega), fun x i => ∃ k : Nat, i = k /\ k <= s.length /\ x = BV s.length fun j => decide (j <= k) && oneF r s f j, fun _ i => s.length - i.toNat, ⟨0, rfl, Nat.zero_le _, ?_⟩, ?_, trivial⟩
 ·rw [Znb]
  refine Zet fun j hj => ?_
  cases j with
  | zero => rfl
  | succ j => simp
 ·rintro x i ⟨k, rfl, hk, rfl⟩
  refine ⟨fun hp => ?_, fun hp => ?_⟩
  ·have hp := Zax hp
   have hp1 : k < s.length := by omega
   have hg : s[k]? = some s[k] := List.getElem?_eq_getElem hp1
   have step : ∀ b : Bool, b = oneF r s f (k + 1) -> (gSet (BV s.length fun j => decide (j <= k) && oneF r s f j) ((k : Int) + 1) (Ab.setL (gAt (BV s.length fun j => decide (j <= k) && oneF r s f j) ((k : Int) + 1)) 0 [D.lit (.bool b)])) = BV s.length fun j => decide (j <= k + 1) && oneF r s f j := by
    intro b hb
    rw [show ((k : Int) + 1) = ((k + 1 : Nat) : Int) by omega, Zwl _ (show k + 1 <= s.length by omega), Zor, Zzx]
    refine Zet fun j hj => ?_
    by_cases h1 : j = k + 1
    ·subst h1; simp [hb]
    ·by_cases h2 : j <= k
     ·have : j <= k + 1 := by omega
      simp [h1, h2, this]
     ·have : ¬ j <= k + 1 := by omega
      simp [h1, h2, this]
   have e1 : oneF r s f (k + 1) = (f k && hasX r s[k].toNat) := by simp only [oneF, hg]
   rw [Zwl f (show k <= s.length by omega)]
   refine ⟨tle (by omega), tle (by omega), tle (by omega), tlt (by rw [Ziw]; omega), teq rfl, rfl, fun hf => ?_, fun hf => ?_⟩
   ·have hf : f k = true := hf
    rw [Zq2 hp1]
    refine ⟨hasX r s[k].toNat, fun _ => c63w r s[k].toNat s[k].toNat_lt hr, tle (by omega), tlt (by rw [Ziw]; omega), ⟨k + 1, by omega, by omega, step _ (by rw [e1, hf, Bool.true_and])⟩, by simp only [Int.toNat_natCast]; omega⟩
   ·have hf : f k = false := hf
    exact ⟨tle (by omega), tlt (by rw [Ziw]; omega), ⟨k + 1, by omega, by omega, step _ (by rw [e1, hf, Bool.false_and])⟩, by simp only [Int.toNat_natCast]; omega⟩
  ·have hp := Zan hp
   have : k = s.length := by omega
   subst this
   have e : (BV s.length fun j => decide (j <= s.length) && oneF r s f j) = BV s.length (oneF r s f) := Zet fun j hj => by simp [hj]
   rw [List.nil_append, e]
   exact ⟨rfl, rfl⟩
def Zs5 (f g : Nat -> Bool) (k : Nat) : Bool := (List.range k).any fun i => g i && !f i
theorem Znc (f g : Nat -> Bool) (k : Nat) : Zs5 f g (k + 1) = (Zs5 f g k || (g k && !f k)) := by
 unfold Zs5; rw [List.range_succ, List.any_append]; simp
theorem Z5i (n : Nat) (f : Nat -> Bool) : Zga 1 (BV n f) = true := by
 unfold Zga BV
 simp
theorem c59 (n : Nat) (f g : Nat -> Bool) (hn : n <= 2 ^ 30) : Holds Try.prog 59 [A.d (.slc (BV n f)), A.d (.slc (BV n g))] []
 (Ret (.tup [(false, [D.slc (BV n fun i => f i || g i)]), (false, [D.lit (.bool (Zs5 f g (n + 1)))])])) := by
 refine w59 (BV n f) (BV n g) ⟨Z5i n f, tle (by rw [Ziw]; omega), tle (by rw [Ziw]; omega), fun x m i => ∃ k : Nat, i = k /\ k <= n + 1 /\ x = (BV n fun j => f j || (decide (j < k) && g j)) /\ m = Zs5 f g k, fun _ _ i => n + 1 - i.toNat, ⟨0, rfl, Nat.zero_le _, Zet fun j _ => by simp, rfl⟩, ?_, trivial⟩
 rintro x m i ⟨k, rfl, hk, rfl, rfl⟩
 rw [Ziw]
 refine ⟨fun hp => ?_, fun hp => ?_⟩
 ·have hp := Zax hp
  have hk' : k <= n := by omega
  rw [Zwl g hk', Zwl _ hk', Ziw]
  have lt : tB (decide ((k : Int) < ((n + 1 : Nat) : Int))) = true := tlt (by omega)
  have e0 : (f k || (decide (k < k) && g k)) = f k := by simp
  rw [e0]
  refine ⟨tle (by omega), teq rfl, rfl, by rw [lt]; simp, by show (_ || true) = true; simp, fun hc => ?_, fun hc => ?_⟩
  ·have hc : (g k && !f k) = true := hc
   refine ⟨lt, tle (by omega), tle (by omega), ⟨k + 1, by omega, by omega, ?_, ?_⟩, by simp only [Int.toNat_natCast]; omega⟩
   ·rw [Zor, Zzx]
    refine Zet fun j hj => ?_
    by_cases h1 : j = k
    ·subst h1
     simp only [Bool.and_eq_true] at hc
     simp [hc.1]
    ·by_cases h2 : j < k
     ·have : j < k + 1 := by omega
      simp [h1, h2, this]
     ·have : ¬ j < k + 1 := by omega
      simp [h1, h2, this]
   ·rw [Znc, hc, Bool.or_true]
  ·have hc : (g k && !f k) = false := hc
   refine ⟨tle (by omega), tle (by omega), ⟨k + 1, by omega, by omega, ?_, ?_⟩, by simp only [Int.toNat_natCast]; omega⟩
   ·refine Zet fun j hj => ?_
    by_cases h1 : j = k
    ·subst h1
     cases hf : f j <;> cases hg : g j <;> simp [hf, hg] at hc ⊢
    ·by_cases h2 : j < k
     ·have : j < k + 1 := by omega
      simp [h2, this]
     ·have : ¬ j < k + 1 := by omega
      simp [h2, this]
   ·rw [Znc, hc, Bool.or_false]
 ·have hp := Zan hp
  have : k = n + 1 := by omega
  subst this
  have e : (BV n fun j => f j || (decide (j < n + 1) && g j)) = BV n fun i => f i || g i := Zet fun j hj => by
   have : j < n + 1 := by omega
   simp [this]
  rw [List.nil_append, e]
  exact ⟨rfl, rfl⟩
end Go.Rx
end
section
open Go Go.Proofs Go.Ab Go.Rf
set_option maxRecDepth 100000
namespace Go.Rx
def cut (s : List UInt8) (i j : Nat) : List UInt8 := (s.take j).drop i
theorem Zos {s : List UInt8} {i j : Nat} (h : j <= s.length) : (cut s i j).length = j - i := by unfold cut; simp; omega
theorem Zot {s : List UInt8} {i j : Nat} (h : j <= s.length) : cut s i j = [] ↔ j <= i := by
 rw [<- List.length_eq_zero_iff, Zos h]; omega
theorem Zs6 {s : List UInt8} {i k j : Nat} (h1 : i <= k) (h2 : k <= j) (h3 : j <= s.length) : cut s i j = cut s i k ++ cut s k j := by
 unfold cut
 have e : s.take j = s.take k ++ (s.take j).drop k := by
  conv => lhs; rw [<- List.take_append_drop k (s.take j)]
  rw [List.take_take, Nat.min_eq_left h2]
 conv => lhs; rw [e]
 rw [List.drop_append_of_le_length (by simp; omega)]
theorem Zrr {s : List UInt8} {i j : Nat} {u v : List UInt8} (h : i <= j) (hj : j <= s.length) (e : cut s i j = u ++ v) : ∃ k, i <= k /\ k <= j /\ u = cut s i k /\ v = cut s k j := by
 have hl := Zos (i := i) hj
 rw [e, List.length_append] at hl
 have hk : i + u.length <= j := by omega
 refine ⟨i + u.length, by omega, hk, ?_⟩
 have e2 := Zs6 (s := s) (i := i) (k := i + u.length) (j := j) (by omega) hk hj
 rw [e] at e2
 exact List.append_inj e2 (by rw [Zos (by omega)]; omega)
theorem Zs7 {s : List UInt8} {i j : Nat} {x : UInt8} (h : i <= j) (hj : j <= s.length) : cut s i j = [x] ↔ j = i + 1 /\ s[i]? = some x := by
 constructor
 ·intro e
  have hl := Zos (i := i) hj
  rw [e] at hl
  have hji : j = i + 1 := by simp at hl; omega
  subst hji
  refine ⟨rfl, ?_⟩
  have : (cut s i (i + 1))[0]? = some x := by rw [e]; rfl
  simpa [cut, List.getElem?_take] using this
 ·rintro ⟨rfl, hx⟩
  have hi : i < s.length := by omega
  rw [List.getElem?_eq_getElem hi] at hx
  have hx := Option.some.inj hx
  unfold cut
  rw [List.take_add_one, List.getElem?_eq_getElem hi, hx, List.drop_append_of_le_length (by simp; omega)]
  have : (s.take i).drop i = [] := by rw [List.drop_eq_nil_iff]; simp; omega
  rw [this]; rfl
def Sem (L : List UInt8 -> Prop) (s : List UInt8) (f g : Nat -> Bool) : Prop := ∀ j, j <= s.length -> (g j = true ↔ ∃ i, i <= j /\ f i = true /\ L (cut s i j))
theorem Zzy {L : List UInt8 -> Prop} {s : List UInt8} {f : Nat -> Bool} (h : ∀ w, L w ↔ w = []) : Sem L s f f := fun j hj => by
 constructor
 ·intro h1; exact ⟨j, Nat.le_refl _, h1, (h _).2 ((Zot hj).2 (Nat.le_refl _))⟩
 ·rintro ⟨i, h1, h2, h3⟩
  have := (Zot hj).1 ((h _).1 h3)
  have : i = j := by omega
  subst this; exact h2
theorem Zou {L : List UInt8 -> Prop} {s : List UInt8} {f : Nat -> Bool} (h : ∀ w, ¬ L w) : Sem L s f fun _ => false := fun j _ => by
 constructor
 ·intro h1; cases h1
 ·rintro ⟨i, _, _, h3⟩; exact absurd h3 (h _)
theorem Z5j {L L1 L2 : List UInt8 -> Prop} {s : List UInt8} {f g h : Nat -> Bool} (hL : ∀ w, L w ↔ ∃ u v, w = u ++ v /\ L1 u /\ L2 v) (h1 : Sem L1 s f g) (h2 : Sem L2 s g h) : Sem L s f h := fun j hj => by
 rw [h2 j hj]
 constructor
 ·rintro ⟨k, hk, hg, h4⟩
  obtain ⟨i, hi, hf, h5⟩ := (h1 k (by omega)).1 hg
  exact ⟨i, by omega, hf, (hL _).2 ⟨_, _, Zs6 hi hk hj, h5, h4⟩⟩
 ·rintro ⟨i, hi, hf, h4⟩
  obtain ⟨u, v, e, h5, h6⟩ := (hL _).1 h4
  obtain ⟨k, k1, k2, rfl, rfl⟩ := Zrr hi hj e
  exact ⟨k, k2, (h1 k (by omega)).2 ⟨i, k1, hf, h5⟩, h6⟩
theorem Z28 {L L1 L2 : List UInt8 -> Prop} {s : List UInt8} {f g h : Nat -> Bool} (hL : ∀ w, L w ↔ L1 w \/ L2 w) (h1 : Sem L1 s f g) (h2 : Sem L2 s f h) : Sem L s f fun i => g i || h i := fun j hj => by
 show (g j || h j) = true ↔ _
 rw [Bool.or_eq_true, h1 j hj, h2 j hj]
 constructor
 ·rintro (⟨i, a, b, c⟩ | ⟨i, a, b, c⟩)
  ·exact ⟨i, a, b, (hL _).2 (.inl c)⟩
  ·exact ⟨i, a, b, (hL _).2 (.inr c)⟩
 ·rintro ⟨i, a, b, c⟩
  rcases (hL _).1 c with c | c
  ·exact .inl ⟨i, a, b, c⟩
  ·exact .inr ⟨i, a, b, c⟩
theorem Z5k {r : Rx} {s : List UInt8} {f : Nat -> Bool} (k : r.kind = 2) : Sem (lang r) s f (oneF r s f) := fun j hj => by
 cases j with
 | zero =>
   constructor
   ·intro h; cases h
   ·rintro ⟨i, h1, _, h3⟩
    obtain ⟨x, hx, _⟩ := (Zwh k).1 h3
    have := ((Zs7 h1 hj).1 hx).1; omega
 | succ j =>
   have hg : s[j]? = some s[j] := List.getElem?_eq_getElem (by omega)
   simp only [oneF, hg, Bool.and_eq_true]
   constructor
   ·rintro ⟨h1, h2⟩
    exact ⟨j, by omega, h1, (Zwh k).2 ⟨s[j], (Zs7 (by omega) hj).2 ⟨rfl, hg⟩, h2⟩⟩
   ·rintro ⟨i, h1, h2, h3⟩
    obtain ⟨x, hx, h4⟩ := (Zwh k).1 h3
    obtain ⟨h5, h6⟩ := (Zs7 h1 hj).1 hx
    have : i = j := by omega
    subst this
    rw [hg] at h6
    have := Option.some.inj h6
    rw [this]; exact ⟨h2, h4⟩
theorem Z2c {L : List UInt8 -> Prop} {s : List UInt8} {f o g : Nat -> Bool} (h0 : ∀ j ≤ s.length, f j = true -> o j = true) (h1 : ∀ j ≤ s.length, o j = true -> ∃ i, i <= j /\ f i = true /\ Star L (cut s i j))
 (hg : Sem L s o g) (hm : ∀ j ≤ s.length, g j = true -> o j = true) : Sem (Star L) s f o := fun j hj => by
 refine ⟨h1 j hj, ?_⟩
 rintro ⟨i, hi, hf, h4⟩
 have key : ∀ w, Star L w -> ∀ i, i <= j -> o i = true -> cut s i j = w -> o j = true := by
  intro w hw
  induction hw with
  | nil =>
    intro i hi ho e
    have := (Zot hj).1 e
    have : i = j := by omega
    subst this; exact ho
  | @step u v hu _ ih =>
    intro i hi ho e
    obtain ⟨k, k1, k2, rfl, rfl⟩ := Zrr hi hj e
    exact ih k k2 (hm k (by omega) ((hg k (by omega)).2 ⟨i, k1, ho, hu⟩)) rfl
 exact key _ h4 i hi (h0 i (by omega) hf) rfl
theorem Zzz {L : List UInt8 -> Prop} {s : List UInt8} {f o g : Nat -> Bool} (h1 : ∀ j ≤ s.length, o j = true -> ∃ i, i <= j /\ f i = true /\ Star L (cut s i j)) (hg : Sem L s o g) : ∀ j ≤ s.length, (o j || g j) = true -> ∃ i, i <= j /\ f i = true /\ Star L (cut s i j) := fun j hj h => by
 rw [Bool.or_eq_true] at h
 rcases h with h | h
 ·exact h1 j hj h
 ·obtain ⟨k, k1, k2, k3⟩ := (hg j hj).1 h
  obtain ⟨i, i1, i2, i3⟩ := h1 k (by omega) k2
  refine ⟨i, by omega, i2, ?_⟩
  rw [Zs6 i1 k1 hj]
  exact i3.app (.one k3)
theorem Star.star {P : List UInt8 -> Prop} {w : List UInt8} : Star (Star P) w ↔ Star P w := by
 constructor
 ·intro h
  induction h with
  | nil => exact .nil
  | step h _ ih => exact h.app ih
 ·intro h; exact .one h
end Go.Rx
end
section
open Go Go.Proofs Go.Ab Go.Rf
set_option maxRecDepth 100000
namespace Go.Rx
theorem Z2d {r : Rx} (h : Zau r = 0) (k : r.kind = 5) : ∃ x, r.subs = [x] := by
 unfold Zau at h
 have hk : ¬ (r.kind < 0 \/ 5 < r.kind \/ (r.kind ≠ 2 /\ ¬ (r.w 0 = 0 /\ r.w 1 = 0 /\ r.w 2 = 0 /\ r.w 3 = 0))) := fun hc => by rw [if_pos hc] at h; cases h
 rw [if_neg hk, if_neg (by omega), if_pos k] at h
 have : r.subs.length = 1 := by
  by_cases hl : r.subs.length = 1
  ·exact hl
  ·rw [if_pos hl] at h; cases h
 match hs : r.subs, this with
 | [x], _ => exact ⟨x, rfl⟩
def Z7b (s : List UInt8) (L : List UInt8 -> Prop) (f : Nat -> Bool) : Out -> List (Ref × List A) -> Prop :=
 fun o H => ∃ g, o = .ret (.d (.slc (BV s.length g))) /\ H = [] /\ Sem L s f g
theorem Zwm {l : List Rx} {x : Rx} {w : List UInt8} : Zcq (l ++ [x]) w ↔ ∃ u v, w = u ++ v /\ Zcq l u /\ lang x v := by
 rw [Zes]
 constructor
 ·rintro ⟨u, v, e, h1, h2⟩; exact ⟨u, v, e, h1, langC_one.1 h2⟩
 ·rintro ⟨u, v, e, h1, h2⟩; exact ⟨u, v, e, h1, langC_one.2 h2⟩
theorem Zwn {l : List Rx} {x : Rx} {w : List UInt8} : Zfr (l ++ [x]) w ↔ Zfr l w \/ lang x w := by
 rw [Zc2, Zc2]
 constructor
 ·rintro ⟨y, hy, h⟩
  rcases List.mem_append.1 hy with hy | hy
  ·exact .inl ⟨y, hy, h⟩
  ·rw [List.mem_singleton.1 hy] at h; exact .inr h
 ·rintro (⟨y, hy, h⟩ | h)
  ·exact ⟨y, List.mem_append_left _ hy, h⟩
  ·exact ⟨x, by simp, h⟩
theorem Sem.congr {L L' : List UInt8 -> Prop} {s : List UInt8} {f g : Nat -> Bool} (h : Sem L s f g) (hL : ∀ w, L w ↔ L' w) : Sem L' s f g := fun j hj => by
 rw [h j hj]
 exact ⟨fun ⟨i, a, b, c⟩ => ⟨i, a, b, (hL _).1 c⟩, fun ⟨i, a, b, c⟩ => ⟨i, a, b, (hL _).2 c⟩⟩
def cntL (o : List (List D)) : Nat := o.countP fun row => !(Rf.dbool (row.getD 0 D0))
theorem Zrs {α : Type} {p q : α -> Bool} : ∀ {l : List α}, (∀ x ∈ l, p x = true -> q x = true) -> (∃ x ∈ l, q x = true /\ p x = false) -> l.countP p < l.countP q
 | [], _, h => by obtain ⟨_, h, _⟩ := h; cases h
 | y :: l, h, hx => by
   have hl : l.countP p <= l.countP q := List.countP_mono_left fun x hx => h x (List.mem_cons_of_mem _ hx)
   obtain ⟨x, hx, h1, h2⟩ := hx
   rw [List.countP_cons, List.countP_cons]
   rcases List.mem_cons.1 hx with rfl | hx
   ·simp [h1, h2]; omega
   ·have h3 := Zrs (l := l) (fun x hx => h x (List.mem_cons_of_mem _ hx)) ⟨x, hx, h1, h2⟩
    have h4 := h y (List.mem_cons_self ..)
    cases hp : p y
    ·simp; omega
    ·simp [h4 hp]; omega
theorem Zz0 (n : Nat) (f : Nat -> Bool) : cntL (BV n f) = (List.range (n + 1)).countP fun i => !f i := by
 unfold cntL BV
 rw [List.countP_map]
 rfl
theorem Z2e (n : Nat) (g g' : Nat -> Bool) : 2 * cntL (BV n fun i => g i || g' i) + (if Zs5 g g' (n + 1) = true then 1 else 0) < 2 * cntL (BV n g) + (if true = true then 1 else 0) := by
 rw [Zz0, Zz0]
 have hmono : ∀ x ∈ List.range (n + 1), (!(g x || g' x)) = true -> (!g x) = true := fun x _ h => by cases hg : g x <;> simp [hg] at h ⊢
 cases hm : Zs5 g g' (n + 1)
 ·have := List.countP_mono_left hmono
  simp only [if_true, Bool.false_eq_true, if_false]; omega
 ·obtain ⟨x, hx, h1⟩ := List.any_eq_true.1 hm
  rw [Bool.and_eq_true] at h1
  have := Zrs hmono ⟨x, hx, h1.2, by simp [h1.1]⟩
  simp only [if_true]; omega
theorem Z5l (y : Rx) : SizeOf.sizeOf ((enc y).getD 5 D0) < SizeOf.sizeOf (D.slc (encs [y])) := by
 obtain ⟨k, a, b, c, d, l⟩ := y
 show SizeOf.sizeOf (D.slc (encs l)) < SizeOf.sizeOf (D.slc [[D.lit (.int .i64 k), .lit (.int .u64 a), .lit (.int .u64 b), .lit (.int .u64 c), .lit (.int .u64 d), .slc (encs l)]])
 simp
 omega
theorem c44 (s : List UInt8) (hs : s.length <= 2 ^ 30) : ∀ (n : Nat) (r : Rx), size r <= n -> n <= 2 ^ 40 -> allX nodeOk r -> ∀ f : Nat -> Bool,
 Holds Try.prog 44 [A.agg (enc r), A.d (.lit (Zaa s)), A.d (.slc (BV s.length f))] [] (Z7b s (lang r) f) := by
 intro n
 induction n with
 | zero => intro r h; have := Zaf r; omega
 | succ n ih =>
   intro r h hn hok f
   obtain ⟨⟨hne, hrg⟩, hsub⟩ := Zav.1 hok
   have hss := Zfo r.subs
   have hsz := Zb1 r
   have ihx : ∀ (k : Nat) (hk : k < r.subs.length) (f : Nat -> Bool), Holds Try.prog 44 [A.agg (enc r.subs[k]), A.d (.lit (Zaa s)), A.d (.slc (BV s.length f))] [] (Z7b s (lang r.subs[k]) f) := fun k hk f => by
    have := Zbc hk
    exact ih _ (by omega) (by omega) (hsub _ (List.getElem_mem hk)) f
   refine Holds.disown (R := fun o H => H = [] /\ ((∃ g, o = .ret (.d (.slc (BV s.length g))) /\ Sem (lang r) s f g) \/ (∃ g, o = .ret (.own 1 (BV s.length g) []) /\ Sem (lang r) s f g))) ?_ ?_
   ·refine w44 (enc r) s (BV s.length f) ?_
    simp only [enc0, enc1, enc2, enc3, enc4, enc5, Zar, Zaw, isK_int, isK_slc, Zab, List.nil_append]
    refine ⟨teq6 r, trivial, fun k1 => ⟨trivial, .inl ⟨f, rfl, Zzy fun w => Zzq (Zao k1)⟩⟩, fun k1 => ⟨fun k2 => ?_, fun k2 => ⟨fun k3 => ?_, fun k3 => ⟨fun k4 => ?_, fun k4 => ⟨fun k5 => ?_, fun k5 => ?_⟩⟩⟩⟩⟩
    ·exact Zae (c58 r s f hrg (by omega)) ⟨_, rfl, rfl, trivial, .inl ⟨_, rfl, Z5k (Zao k2)⟩⟩
    ·have k3 := Zao k3
     refine ⟨fun x i => ∃ (k : Nat) (g : Nat -> Bool), i = k /\ k <= r.subs.length /\ x = BV s.length g /\ Sem (Zcq (r.subs.take k)) s f g, fun _ i => r.subs.length - i.toNat, ⟨0, f, rfl, Nat.zero_le _, rfl, Zzy fun w => by simp [Zcq]⟩, ?_, trivial⟩
     rintro x i ⟨k, g, rfl, hk, rfl, hg⟩
     refine ⟨trivial, fun hp => ?_, fun hp => ?_⟩
     ·have hp := Zax hp
      have hk1 : k < r.subs.length := by omega
      rw [Zaq rfl hk1]
      refine ⟨tle (by omega), teq6 _, Zy4 (mk := fun g => A.d (.slc (BV s.length g))) (ihx k hk1 g) fun g' hg' => ⟨_, rfl, rfl, tle (by omega), tle (by omega), ⟨k + 1, g', rfl, hk1, rfl, ?_⟩, by simp only [Int.toNat_natCast]; omega⟩⟩
      rw [Zcl _ _ hk1]
      exact Z5j (fun w => Zwm) hg hg'
     ·have hp := Zan hp
      refine ⟨trivial, .inl ⟨g, rfl, ?_⟩⟩
      rw [List.take_of_length_le (by omega)] at hg
      exact hg.congr fun w => (Zsz k3).symm
    ·have k4 := Zao k4
     have hl0 : r.subs.length < 2 ^ 40 := by omega
     refine ⟨tle (by omega), tle (by omega), tle (by omega), tle (by omega), tle (by omega), True, r.subs.length + 1, fun x i => ∃ (k : Nat) (g : Nat -> Bool), i = k /\ k <= r.subs.length /\ x = BV s.length g /\ Sem (Zfr (r.subs.take k)) s f g, fun _ i => r.subs.length - i.toNat, trivial, fun _ => ⟨trivial, fun hp => ?_, fun hp => ?_⟩, ?_, trivial⟩
     ·have hp := Zax hp
      have hk1 : 0 < r.subs.length := by omega
      have e0 : gAt (encs r.subs) 0 = enc r.subs[0] := Zaq (i := 0) rfl hk1
      rw [e0]
      refine ⟨teq6 _, Zy4 (mk := fun g => A.d (.slc (BV s.length g))) (ihx 0 hk1 f) fun g hg => ⟨_, rfl, rfl, ?_⟩⟩
      rw [Znb]
      refine Zae (c59 s.length _ g hs) ⟨_, _, rfl, rfl, ⟨1, _, rfl, hk1, rfl, ?_⟩, by simp; omega⟩
      have e := Zcl r.subs 0 hk1
      rw [List.take_zero, List.nil_append] at e
      rw [show (0 : Nat) + 1 = 1 from rfl] at e
      rw [e]
      exact Z28 (L1 := fun _ => False) (L2 := lang r.subs[0]) (fun w => by rw [Zc2]; simp) (Zou fun _ h => h) hg
     ·have hp := Zan hp
      have : r.subs = [] := List.eq_nil_of_length_eq_zero (by omega)
      rw [Znb]
      refine ⟨trivial, .inl ⟨_, rfl, Zou fun w => ?_⟩⟩
      rw [Zrd k4, this]; exact id
     ·rintro x i ⟨k, g, rfl, hk, rfl, hg⟩
      refine ⟨trivial, fun hp => ?_, fun hp => ?_⟩
      ·have hp := Zax hp
       have hk1 : k < r.subs.length := by omega
       rw [Zaq rfl hk1]
       refine ⟨tle (by omega), teq6 _, Zy4 (mk := fun g => A.d (.slc (BV s.length g))) (ihx k hk1 f) fun g' hg' => ⟨_, rfl, rfl, Zae (c59 s.length g g' hs) ⟨_, _, rfl, rfl, tle (by omega), tle (by omega), ⟨k + 1, _, rfl, hk1, rfl, ?_⟩, by simp only [Int.toNat_natCast]; omega⟩⟩⟩
       rw [Zcl _ _ hk1]
       exact Z28 (fun w => Zwn) hg hg'
      ·have hp := Zan hp
       refine ⟨trivial, .inl ⟨g, rfl, ?_⟩⟩
       rw [List.take_of_length_le (by omega)] at hg
       exact hg.congr fun w => (Zrd k4).symm
    ·have k5 := Zao k5
     obtain ⟨x, hx⟩ := Z2d hne k5
     have hl1 : 0 < r.subs.length := by rw [hx]; simp
     have e0 : gAt (encs r.subs) 0 = enc x := by
      have e1 : gAt (encs r.subs) 0 = enc r.subs[0] := Zaq (i := 0) rfl hl1
      rw [e1]
      simp only [hx, List.getElem_cons_zero]
     have hxs : size x < size r := Zbz (by rw [hx]; simp)
     have hxo : allX nodeOk x := hsub x (by rw [hx]; simp)
     have hstar : ∀ w, Star (fun u => lang x u) w ↔ lang r w := fun w => by rw [Zre k5, hx]; exact Iff.rfl
     rw [e0]
     refine ⟨trivial, tlt (by omega), teq6 x, fun a b c d e f' => ∃ q, [a, b, c, d, e, f'] = enc q /\ size q < size r /\ allX nodeOk q /\ ∀ w, Star (fun u => lang q u) w ↔ lang r w, fun _ _ _ _ _ f' => SizeOf.sizeOf f', ⟨x, Zdk x, hxs, hxo, hstar⟩, ?_, trivial⟩
     rintro a b c d e f' ⟨q, he, hqs, hqo, hql⟩
     obtain ⟨k, w0, w1, w2, w3, l⟩ := q
     have he' : [a, b, c, d, e, f'] = [D.lit (.int .i64 k), .lit (.int .u64 w0), .lit (.int .u64 w1), .lit (.int .u64 w2), .lit (.int .u64 w3), .slc (encs l)] := by rw [he]; unfold enc; rfl
     simp only [List.cons.injEq, and_true] at he'
     obtain ⟨rfl, rfl, rfl, rfl, rfl, rfl⟩ := he'
     simp only [Zar, Zaw, isK_int, isK_slc, Bool.or_true, Zab]
     refine ⟨trivial, trivial, fun hc => ?_, fun _ => ?_⟩
     ·rw [Bool.and_eq_true] at hc
      have hk := Zao hc.1
      have hl := Zao hc.2
      match l, hl with
      | [y], _ =>
        have e1 : gAt (encs [y]) 0 = enc y := Zaq (l := [y]) (i := 0) rfl (by simp)
        rw [e1]
        have hys : size y < size (Rx.mk k w0 w1 w2 w3 [y]) := Zbz (r := Rx.mk k w0 w1 w2 w3 [y]) (by simp [Rx.subs])
        refine ⟨trivial, tlt (by simp), teq6 y, ⟨y, Zdk y, by omega, (Zav.1 hqo).2 y (by simp [Rx.subs]), fun w => ?_⟩, ?_⟩
        ·rw [<- hql]
         have : ∀ u, lang (Rx.mk k w0 w1 w2 w3 [y]) u ↔ Star (fun u => lang y u) u := fun u => by rw [Zre (r := Rx.mk k w0 w1 w2 w3 [y]) hk]; exact Iff.rfl
         constructor
         ·intro h1; exact Star.one ((this w).2 h1)
         ·intro h1; exact Star.star.1 (h1.mono fun u hu => (this u).1 hu)
        ·exact Z5l y
     ·have hq := ih (Rx.mk k w0 w1 w2 w3 l) (by omega) (by omega) hqo
      have ecell : [D.lit (.int .i64 k), .lit (.int .u64 w0), .lit (.int .u64 w1), .lit (.int .u64 w2), .lit (.int .u64 w3), .slc (encs l)] = enc (Rx.mk k w0 w1 w2 w3 l) := by unfold enc; rfl
      rw [ecell]
      generalize hQ : Rx.mk k w0 w1 w2 w3 l = q at hq hql
      refine ⟨fun o m => ∃ g, o = BV s.length g /\ (∀ j ≤ s.length, f j = true -> g j = true) /\ (∀ j ≤ s.length, g j = true -> ∃ i, i <= j /\ f i = true /\ Star (fun u => lang q u) (cut s i j)) /\ (m = false -> ∃ g', Sem (lang q) s g g' /\ ∀ j ≤ s.length, g' j = true -> g j = true),
       fun o m => 2 * cntL o + (if m then 1 else 0), ⟨f, rfl, fun _ _ h => h, fun j hj h => ⟨j, Nat.le_refl _, h, by rw [(Zot hj).2 (Nat.le_refl _)]; exact .nil⟩, fun h => by cases h⟩, ?_, trivial⟩
      rintro o m ⟨g, rfl, h1, h2, h3⟩
      refine ⟨fun hm => ?_, fun hm => ?_⟩
      ·refine Zy4 (mk := fun g => A.d (.slc (BV s.length g))) (hq g) fun g' hg' => ⟨_, rfl, rfl, Zae (c59 s.length g g' hs) ⟨_, _, rfl, rfl, ⟨_, rfl, fun j hj hf => by show (g j || g' j) = true; rw [h1 j hj hf]; rfl, Zzz h2 hg', fun hmf => ?_⟩, ?_⟩⟩
       ·have hle : ∀ j ≤ s.length, g' j = true -> g j = true := fun j hj hj' => by
         have := (List.any_eq_false.1 hmf) j (List.mem_range.2 (by omega))
         cases hgj : g j
         ·rw [hj', hgj] at this; simp at this
         ·rfl
        refine ⟨g', fun j hj => ?_, fun j hj hj' => by show (g j || g' j) = true; rw [hle j hj hj']; rfl⟩
        rw [hg' j hj]
        constructor
        ·rintro ⟨i, i1, i2, i3⟩; exact ⟨i, i1, by show (g i || g' i) = true; rw [i2]; rfl, i3⟩
        ·rintro ⟨i, i1, i2, i3⟩
         refine ⟨i, i1, ?_, i3⟩
         have i2 : (g i || g' i) = true := i2
         rw [Bool.or_eq_true] at i2
         rcases i2 with i2 | i2
         ·exact i2
         ·exact hle i (by omega) i2
       ·rw [hm]
        exact Z2e s.length g g'
      ·obtain ⟨g', g1, g2⟩ := h3 hm
       exact ⟨trivial, .inl ⟨g, rfl, (Z2c h1 h2 g1 g2).congr hql⟩⟩
    ·have k1 := Zag k1
     have k2 := Zag k2
     have k3 := Zag k3
     have k4 := Zag k4
     have k5 := Zag k5
     refine ⟨tle (by omega), tle (by omega), tle (by omega), tle (by omega), tle (by omega), trivial, .inr ⟨fun _ => false, ?_, Zou fun w => Zwi k1 k2 k3 k4 k5⟩⟩
     rw [Znb]
   ·rintro o H ⟨rfl, h1 | ⟨g, rfl, h1⟩⟩
    ·obtain ⟨g, rfl, h1⟩ := h1; exact .inl ⟨g, rfl, rfl, h1⟩
    ·exact .inr ⟨1, _, rfl, g, rfl, rfl, h1⟩
end Go.Rx
end
section
open Go Go.Proofs Go.Ab Go.Rf
set_option maxRecDepth 100000
namespace Go.Rx
def at0F (j : Nat) : Bool := decide (j = 0)
theorem c30 (r : Rx) (s : List UInt8) (hs : s.length <= 2 ^ 30) (h : size r <= 2 ^ 40) (hok : allX nodeOk r) : Holds Try.prog 30 [A.agg (enc r), A.d (.lit (Zaa s))] [] (Ret (Zhp (null (derS r s)))) := by
 have e : ([] : List (List D)) ++ (gSet (gRpt ((s.length : Int) + (1 : Int)) ((D.lit (.bool false)) :: ([] : List D))) (0 : Int) (Ab.setL (gAt (gRpt ((s.length : Int) + (1 : Int)) ((D.lit (.bool false)) :: ([] : List D))) (0 : Int)) 0 ((D.lit (.bool true)) :: ([] : List D)))) = BV s.length at0F := by
  rw [List.nil_append, Znb]
  have e1 := Zwl (n := s.length) (fun _ => false) (Nat.zero_le _)
  have e2 := Zzx (n := s.length) (fun _ => false) 0 true
  simp only [Int.natCast_zero] at e1 e2
  have e1 : gAt (BV s.length fun _ => false) 0 = [D.lit (.bool false)] := e1
  rw [e1, Zor]
  refine Eq.trans e2 (Zet fun j _ => ?_)
  unfold at0F
  by_cases hj : j = 0 <;> simp [hj]
 refine w30 (enc r) s ⟨teq6 r, tle (by omega), tle (by omega), tle (by omega), tle (by omega), tle (by omega), tlt (by rw [Znb, Ziw]; omega), ?_⟩
 rw [e]
 refine Zy4 (mk := fun g => A.d (.slc (BV s.length g))) (c44 s hs _ r (Nat.le_refl _) h hok at0F) fun g hg => ⟨_, rfl, rfl, tle (by omega), tlt (by rw [Ziw]; omega), ?_⟩
 rw [Zwl g (Nat.le_refl _)]
 have : g s.length = null (derS r s) := by
  rw [Bool.eq_iff_iff, Zj7, hg _ (Nat.le_refl _)]
  constructor
  ·rintro ⟨i, _, h1, h2⟩
   have : i = 0 := of_decide_eq_true h1
   subst this
   simpa [cut] using h2
  ·intro h1; exact ⟨0, Nat.zero_le _, rfl, by simpa [cut] using h1⟩
 rw [<- this]
 exact ⟨teq rfl, rfl, rfl, rfl⟩
end Go.Rx
end
section
open Go Go.Proofs Go.Ab Go.Rf
set_option maxRecDepth 100000
namespace Go.Rx
def RB (q : Ref) (s : List UInt8) (i : Int) (b : Bool) : List (Ref × List A) := [(.up q, [A.d (.lit (Zaa s)), A.d (.lit (.int .i64 i)), A.d (.lit (.bool b))])]
def RAft (q : Ref) (s : List UInt8) (good : A -> Prop) (res : Res A) : Out -> List (Ref × List A) -> Prop := fun o H => match res with
 | .ok v t => o = .ret v /\ ∃ i, At s t i /\ H = RB q s i false
 | .bad t => ∃ v i, good v /\ At s t i /\ o = .ret v /\ H = RB q s i true
theorem Zjk {P : Program} {f : Nat} {args : List A} {B : List (Ref × List A)} {q : Ref} {s : List UInt8} {good : A -> Prop} {res : Res A} (hc : Holds P f args B (RAft q s good res)) {Q1 : A -> List (Ref × List A) -> Prop} {Q2 : Value -> List (Ref × List A) -> Prop}
 (h1 : ∀ v t i, res = .ok v t -> At s t i -> Q1 v (RB q s i false)) (h2 : ∀ v t i, res = .bad t -> good v -> At s t i -> Q1 v (RB q s i true)) :
 ∀ _ : Nat -> Nat, ∃ R' : Out -> List (Ref × List A) -> Prop, Holds P f args B R' /\ (∀ v H', R' (.ret v) H' -> Q1 v H') /\ (∀ u H', R' (.pan u) H' -> Q2 u H') := by
 refine fun _ => ⟨_, hc, fun v' H' e => ?_, fun u H' e => ?_⟩
 ·cases res with
  | ok v t => obtain ⟨e1, i, hi, rfl⟩ := e; cases e1; exact h1 _ t i rfl hi
  | bad t => obtain ⟨v, i, hg, hi, e1, rfl⟩ := e; cases e1; exact h2 _ t i rfl hg hi
 ·cases res with
  | ok v t => cases e.1
  | bad t => obtain ⟨v, i, hg, hi, e1, rfl⟩ := e; cases e1
theorem Zbp {q : Ref} {s t : List UInt8} {good : A -> Prop} {v : A} {res : Res A} {i : Int} (h : res = .ok v t) (hi : At s t i) : RAft q s good res (.ret v) (RB q s i false) := by subst h; exact ⟨rfl, i, hi, rfl⟩
theorem Zaz {q : Ref} {s t : List UInt8} {good : A -> Prop} {v : A} {res : Res A} {i : Int} (h : res = .bad t) (hg : good v) (hi : At s t i) : RAft q s good res (.ret v) (RB q s i true) := by subst h; exact ⟨v, i, hg, hi, rfl, rfl⟩
def i64A (n : Nat) : A := .d (.lit (.int .i64 n))
theorem c52t {q : Ref} {s t : List UInt8} {i : Int} {c : Nat} (h : At s t i) (hc : hd t = c) (h0 : c ≠ 0) : Holds Try.prog 52 [A.ptr (.up q) 0, A.d (.lit (.int .u8 c))] (RB q s i false) (RetB (Zhp true) (RB q s (i + 1) false)) := by
 have hn : t ≠ [] := Za5 (by omega)
 have h1 := h.lo
 have h2 := h.lt.2 hn
 refine w52 s i false c q ⟨?_, ?_, fun hf => ?_, fun _ => ⟨tle (by omega), tle (by omega), rfl, rfl⟩⟩
 ·simp only [Zbg, Bool.false_or, Bool.or_eq_true, decide_eq_true_eq]; omega
 ·simp only [Zbg, Bool.false_or, Bool.or_eq_true, decide_eq_true_eq]; omega
 ·rw [h.byte hn] at hf
  simp only [Zbg, Bool.false_or, Bool.or_eq_true, decide_eq_true_eq, Bool.not_eq_true', beq_eq_false_iff_ne] at hf
  omega
theorem c52f {q : Ref} {s t : List UInt8} {i : Int} {c : Nat} (h : At s t i) (hc : hd t ≠ c) : Holds Try.prog 52 [A.ptr (.up q) 0, A.d (.lit (.int .u8 c))] (RB q s i false) (RetB (Zhp false) (RB q s i false)) := by
 have h1 := h.lo
 refine w52 s i false c q ⟨?_, ?_, fun _ => ⟨rfl, rfl⟩, fun hf => ?_⟩
 ·simp only [Zbg, Bool.false_or, Bool.or_eq_true, decide_eq_true_eq]; omega
 ·simp only [Zbg, Bool.false_or, Bool.or_eq_true, decide_eq_true_eq]; omega
 ·simp only [Zbg, Bool.false_or, Bool.or_eq_false_iff, decide_eq_false_iff_not, Bool.not_eq_false', beq_iff_eq] at hf
  have hn : t ≠ [] := h.lt.1 (by omega)
  rw [h.byte hn] at hf
  omega
theorem c52x {q : Ref} {s : List UInt8} {i : Int} {c : Nat} : Holds Try.prog 52 [A.ptr (.up q) 0, A.d (.lit (.int .u8 c))] (RB q s i true) (RetB (Zhp false) (RB q s i true)) := by
 refine w52 s i true c q ⟨rfl, rfl, fun _ => ⟨rfl, rfl⟩, fun hf => ?_⟩
 rw [Bool.true_or, Bool.true_or] at hf
 cases hf
theorem c67 {q : Ref} {s t : List UInt8} {i : Int} (h : At s t i) : Holds Try.prog 67 [A.ptr (.up q) 0] (RB q s i false) (RetB (Zhp (decide (t ≠ []))) (RB q s i false)) := by
 refine w67 s i false q ⟨?_, rfl⟩
 have e : (decide (i < (s.length : Int))) = decide (t ≠ []) := decide_eq_decide.2 h.lt
 simp only [Zbg, Bool.not_false, Bool.true_and, e]
 rfl
theorem c67x {q : Ref} {s : List UInt8} {i : Int} : Holds Try.prog 67 [A.ptr (.up q) 0] (RB q s i true) (RetB (Zhp false) (RB q s i true)) := w67 s i true q ⟨rfl, rfl⟩
theorem c67r {q : Ref} {s t : List UInt8} {i : Int} (h : At s t i) : ∀ _ : Nat -> Nat, Holds Try.prog 67 [A.ptr (.up q) 0] (RB q s i false) (Zce (RB q s i false) (Zhp (decide (t ≠ [])))) := fun _ => c67 h
theorem Zz1 (x : Nat) (h : x < 256) : ∀ _ : Nat -> Nat, Holds Try.prog 103 [A.d (.lit (.int .u8 x))] [] (Zce [] (.d (.lit (.int .i64 (optI (hexV x)))))) := fun _ => c103 x h
theorem c53 (k : Int) (l : List Rx) : Holds Try.prog 53 [A.d (.lit (.int .i64 k)), A.d (.slc (encs l))] [] (Ret (encA (Zcs k l))) := by
 refine w53 k (encs l) ⟨fun h => ?_, fun h => ?_⟩
 ·have h := Zao h
  simp only [Zab] at h
  match l, h with
  | [r], _ =>
    have e : gAt (encs [r]) 0 = enc r := rfl
    rw [e]
    exact ⟨tlt (by simp), teq (by simp), rfl, rfl⟩
 ·have h := Zag h
  simp only [Zab] at h
  match l, h with
  | [], _ => exact ⟨rfl, rfl⟩
  | [r], h => exact absurd rfl h
  | _ :: _ :: _, _ => exact ⟨rfl, rfl⟩
def Z7c (v : A) : Prop := v = i64A 0
theorem c95 {q : Ref} {s t : List UInt8} {i : Int} (lo : Nat) (h : At s t i) : Holds Try.prog 95 [A.ptr (.up q) 0, A.d (.lit (.int .i64 lo))] (RB q s i false) (RAft q s Z7c ((hexR lo t).map i64A)) := by
 have hlo := h.lo
 have hx := Zin t
 have hy := Zin t.tail
 refine w95 s i false lo q ⟨_, c67r h, ?_, ?_, fun hm => ?_, fun hm => ?_⟩
 ·simp only [Zbg, Bool.or_eq_true, decide_eq_true_eq]; exact .inr hlo.1
 ·cases hd : decide (t ≠ []) with
  | false => rfl
  | true => exact tlt (h.lt.2 (of_decide_eq_true hd))
 ·have hn : t ≠ [] := of_decide_eq_true hm
  have hlt := h.lt.2 hn
  have h' := h.next hn
  have hlo' := h'.lo
  rw [h.byte hn]
  refine ⟨_, Zz1 _ hx, ?_, ?_, fun hp => ?_, fun hp => ?_⟩
  ·simp only [Zbg, Bool.or_eq_true, decide_eq_true_eq]; exact .inr hlo.1
  ·simp only [Zbg, Bool.or_eq_true, decide_eq_true_eq]; exact .inr hlt
  ·cases hv : hexV (hd t) with
   | none => rw [hv] at hp; cases hp
   | some d =>
     have h1 := Zfq hv
     have e1 : optI (some d) = (d : Nat) := rfl
     refine ⟨(d : Nat), fun ν => by have := Zz1 _ hx ν; rw [hv] at this; exact this, tle (by omega), tle (by omega), tle (by omega), tle (by omega), fun hl => ?_, fun hl => ⟨tle (by omega), tlt (by omega), Zae (c103 _ hx) ⟨(d : Nat), by rw [hv]; rfl, rfl, tle (by omega), tle (by omega), tle (by omega), tle (by omega), _, c67r h', ?_, ?_, fun hm2 => ?_, fun hm2 => ?_⟩⟩⟩
     ·have hl := Zax hl
      refine Zaz (t := t) ?_ rfl h
      unfold hexR
      rw [hv]
      dsimp only
      rw [if_pos (by omega)]
      rfl
     ·simp only [Zbg, Bool.or_eq_true, decide_eq_true_eq]; exact .inr hlo'.1
     ·cases hd : decide (t.tail ≠ []) with
      | false => rfl
      | true => exact tlt (h'.lt.2 (of_decide_eq_true hd))
     ·have hl := Zan hl
      have hn2 : t.tail ≠ [] := of_decide_eq_true hm2
      have hlt2 := h'.lt.2 hn2
      have h'' := h'.next hn2
      have hlo'' := h''.lo
      rw [h'.byte hn2]
      refine ⟨_, Zz1 _ hy, ?_, ?_, fun hp2 => ?_, fun hp2 => ?_⟩
      ·simp only [Zbg, Bool.or_eq_true, decide_eq_true_eq]; exact .inr hlo'.1
      ·simp only [Zbg, Bool.or_eq_true, decide_eq_true_eq]; exact .inr hlt2
      ·cases hv2 : hexV (hd t.tail) with
       | none => rw [hv2] at hp2; cases hp2
       | some e =>
         have h3 := Zfq hv2
         have ei : i + 1 + 1 - 1 = i + 1 := by omega
         rw [ei, h'.byte hn2]
         refine ⟨(e : Nat), fun ν => by have := Zz1 _ hy ν; rw [hv2] at this; exact this, tle (by omega), tle (by omega), fun hl2 => ?_, fun hl2 => ⟨tle (by omega), tle (by omega), tle (by omega), tle (by omega), tle (by omega), tlt (by omega), (e : Nat), fun ν => by have := Zz1 _ hy ν; rw [hv2] at this; exact this, tle (by omega), tle (by omega), ?_⟩⟩
         ·have hl2 := Zax hl2
          refine Zaz (t := t.tail) ?_ rfl h'
          unfold hexR
          rw [hv]
          dsimp only
          rw [if_neg (by omega), hv2]
          dsimp only
          rw [if_pos (by omega)]
          rfl
         ·have hl2 := Zan hl2
          refine Zbp (t := t.tail.tail) ?_ h''
          unfold hexR
          rw [hv]
          dsimp only
          rw [if_neg (by omega), hv2]
          dsimp only
          rw [if_neg (by omega)]
          show Res.ok _ _ = _
          unfold i64A
          congr 4
      ·cases hv2 : hexV (hd t.tail) with
       | some e => rw [hv2] at hp2; have hp2 : (!(tB (decide (((e : Nat) : Int) < 0)))) = false := hp2; simp at hp2; omega
       | none =>
         refine Zaz (t := t.tail) ?_ rfl h'
         unfold hexR
         rw [hv]
         dsimp only
         rw [if_neg (by omega), hv2]
         rfl
     ·have hl := Zan hl
      have hn2 : t.tail = [] := by simpa using hm2
      refine Zaz (t := t.tail) ?_ rfl h'
      unfold hexR
      rw [hv]
      dsimp only
      rw [if_neg (by omega), hn2]
      rfl
  ·cases hv : hexV (hd t) with
   | some d => rw [hv] at hp; have hp : (!(tB (decide (((d : Nat) : Int) < 0)))) = false := hp; simp at hp; omega
   | none =>
     refine Zaz (t := t) ?_ rfl h
     unfold hexR
     rw [hv]
     rfl
 ·have hn : t = [] := by simpa using hm
  subst hn
  exact Zaz (t := []) rfl rfl h
theorem Zmh {x : Nat} (h : x < 256) : (tB (decide ((-9223372036854775808 : Int) <= (x : Int)))) = true /\ (tB (decide ((x : Int) <= (9223372036854775807 : Int)))) = true := ⟨tle (by omega), tle (by omega)⟩
def escM (lo : Nat) (t : List UInt8) : Option Nat -> Res Nat | none => .bad t | some n => if n < lo then .bad t else .ok n t.tail
theorem Zov {t : List UInt8} (h : hd t ≠ 120) (lo : Nat) : escR lo t = escM lo t (escV (hd t)) := by
 unfold escR; rw [if_neg h]; cases escV (hd t) <;> rfl
theorem spc3 {x : Nat} : ((spcV x || (tB ((x : Int) == 94))) || (tB ((x : Int) == 45))) = (spcV x || x == 94 || x == 45) := by
 have e1 : (tB ((x : Int) == 94)) = (x == 94) := by rw [Zbg]; exact Bool.eq_iff_iff.2 (by simp; omega)
 have e2 : (tB ((x : Int) == 45)) = (x == 45) := by rw [Zbg]; exact Bool.eq_iff_iff.2 (by simp; omega)
 rw [e1, e2]
theorem Zow {x : Nat} (h : (spcV x || x == 94 || x == 45) = true) : escV x = some x := by
 have hc : ctlV x = none := by
  refine Zqo ?_ ?_ ?_
  all_goals
   rintro rfl
   revert h
   decide
 unfold escV; rw [hc]; dsimp only; rw [if_pos h]
theorem Zox {x : Nat} (h : (spcV x || x == 94 || x == 45) = false) : escV x = ctlV x := by
 unfold escV
 cases ctlV x with
 | some n => rfl
 | none => dsimp only; rw [if_neg (by simp [h])]
theorem c98 {q : Ref} {s t : List UInt8} {i : Int} (lo : Nat) (h : At s t i) : Holds Try.prog 98 [A.ptr (.up q) 0, A.d (.lit (.int .i64 lo))] (RB q s i false) (RAft q s Z7c ((Zcb lo t).map i64A)) := by
 have hlo := h.lo
 have hx := Zin t
 by_cases hb : hd t = 92
 ·have hn : t ≠ [] := Za5 (by omega)
  have h' := h.next hn
  have hlo' := h'.lo
  have hy := Zin t.tail
  have e : Zcb lo t = escR lo t.tail := by unfold Zcb; rw [if_pos hb]
  rw [e]
  refine w98 s i false lo q (Za3 (c52t h hb (by decide)) ⟨_, _, _, _, rfl, rfl, fun _ => ?_, fun hf => by cases hf⟩)
  by_cases hc : hd t.tail = 120
  ·have hn' : t.tail ≠ [] := Za5 (by omega)
   have e : escR lo t.tail = hexR lo t.tail.tail := by unfold escR; rw [if_pos hc]
   rw [e]
   refine Za3 (c52t h' hc (by decide)) ⟨_, _, _, _, rfl, rfl, fun _ => ?_, fun hf => by cases hf⟩
   exact Zjk (c95 lo (h'.next hn')) (fun v t1 i1 e1 hi1 => by obtain ⟨n, f1, rfl⟩ := Zby e1; exact ⟨_, _, _, _, rfl, rfl, Zbp e1 hi1⟩) (fun v t1 i1 e1 hg hi1 => by cases hg; exact ⟨_, _, _, _, rfl, rfl, Zaz e1 rfl hi1⟩)
  ·rw [Zov hc]
   refine Za3 (c52f h' hc) ⟨_, _, _, _, rfl, rfl, fun hf => (by cases hf), fun _ => Za3 (c67 h') ⟨_, _, _, _, rfl, rfl, fun hm => ?_, fun hm => ?_⟩⟩
   ·have hn' : t.tail ≠ [] := of_decide_eq_true hm
    have h'' := h'.next hn'
    have hlo'' := h''.lo
    have hlt := h'.lt.2 hn'
    rw [h'.byte hn']
    refine ⟨tle hlo'.1, tlt hlt, Zae (c97 _ hy) ⟨_, rfl, rfl, Zae (c87 _ hy) ⟨_, rfl, rfl, fun hs => ?_, fun hs => ?_⟩⟩⟩
    ·have hs' : (spcV (hd t.tail) || hd t.tail == 94 || hd t.tail == 45) = true := by rw [<- spc3]; exact hs
     refine ⟨(Zmh hy).1, (Zmh hy).2, fun hl => ⟨tle (by omega), tle (by omega), Zbp (t := t.tail.tail) ?_ h''⟩, fun hl => Zaz (t := t.tail) ?_ rfl h'⟩
     ·have hl := Zlh hl
      rw [Zow hs']
      unfold escM
      dsimp only
      rw [if_neg (by omega)]
      rfl
     ·have hl := Ze8 hl
      rw [Zow hs']
      unfold escM
      dsimp only
      rw [if_pos (by omega)]
      rfl
    ·have hs' : (spcV (hd t.tail) || hd t.tail == 94 || hd t.tail == 45) = false := by rw [<- spc3]; exact hs
     rw [Zox hs']
     refine ⟨fun hl => ⟨tle (by omega), tle (by omega), ?_⟩, fun hl => Zaz (t := t.tail) ?_ rfl h'⟩
     ·have hl := Zlh hl
      cases hv : ctlV (hd t.tail) with
      | none => rw [hv] at hl; have : (lo : Int) <= -1 := hl; omega
      | some n =>
        rw [hv] at hl
        have hl : (lo : Int) <= n := hl
        refine Zbp (t := t.tail.tail) ?_ h''
        unfold escM
        dsimp only
        rw [if_neg (by omega)]
        rfl
     ·have hl := Ze8 hl
      cases hv : ctlV (hd t.tail) with
      | none => rfl
      | some n =>
        rw [hv] at hl
        have hl : (n : Int) < lo := hl
        unfold escM
        dsimp only
        rw [if_pos (by omega)]
        rfl
   ·have hn' : t.tail = [] := by simpa using hm
    refine Zaz (t := t.tail) ?_ rfl h'
    rw [hn']; rfl
 ·have e : Zcb lo t = if hd t < 32 \/ 126 < hd t \/ hd t < lo \/ (spcV (hd t) || hd t == 94 || hd t == 45) = true then .bad t else .ok (hd t) t.tail := by unfold Zcb; rw [if_neg hb]
  rw [e]
  refine w98 s i false lo q (Za3 (c52f h hb) ⟨_, _, _, _, rfl, rfl, fun hf => (by cases hf), fun _ => Za3 (c67 h) ⟨_, _, _, _, rfl, rfl, fun hm => ?_, fun hm => ?_⟩⟩)
  ·have hn : t = [] := by simpa using hm
   subst hn
   exact Zaz (t := []) (by rw [if_pos (.inl (by decide))]; rfl) rfl h
  ·have hn : t ≠ [] := by simpa using hm
   have hlt := h.lt.2 hn
   have h' := h.next hn
   have hlo' := h'.lo
   rw [h.byte hn]
   refine ⟨tle hlo.1, tlt hlt, fun hr => ?_, fun hr => ?_⟩
   ·simp only [Zbg, Bool.not_eq_true', Bool.or_eq_false_iff, decide_eq_false_iff_not] at hr
    refine Zae (c87 _ hx) ⟨_, rfl, rfl, ?_, ?_, fun hs => ?_, fun hs => ?_⟩
    ·simp only [Bool.or_eq_true]; exact .inr (Zmh hx).1
    ·simp only [Bool.or_eq_true]; exact .inr (Zmh hx).2
    ·refine Zaz (t := t) ?_ rfl h
     rw [spc3, Bool.or_eq_true] at hs
     rw [if_pos]
     ·rfl
     ·rcases hs with hs | hs
      ·exact .inr (.inr (.inr hs))
      ·have := Zax hs; omega
    ·rw [spc3, Bool.or_eq_false_iff] at hs
     have hs2 := Zan hs.2
     refine ⟨tle (by omega), tle (by omega), (Zmh hx).1, (Zmh hx).2, Zbp (t := t.tail) ?_ h'⟩
     rw [if_neg]
     ·rfl
     ·rintro (h1 | h1 | h1 | h1)
      ·omega
      ·omega
      ·omega
      ·rw [hs.1] at h1; cases h1
   ·simp only [Zbg, Bool.not_eq_false', Bool.or_eq_true, decide_eq_true_eq] at hr
    refine Zaz (t := t) ?_ rfl h
    rw [if_pos (by omega)]
    rfl
def Zrt (v : A) : Prop := ∃ r, v = encA r
theorem c85r (lo hi : Nat) (h : hi < 256) (hl : lo < 256) : ∀ _ : Nat -> Nat, Holds Try.prog 85 [A.d (.lit (.int .i64 lo)), A.d (.lit (.int .i64 hi))] [] (Zce [] (.agg (row4 (rng lo hi)))) := fun _ => c85' lo hi h hl
theorem c86 {q : Ref} {s t : List UInt8} {i : Int} (n : Nat) (res : Res Rx) (hr : setR n t = some res) (h : At s t i) : Holds Try.prog 86 [A.ptr (.up q) 0] (RB q s i false) (RAft q s Zrt (res.map encA)) := by
 have hlo := h.lo
 by_cases h93 : hd t = 93
 ·have hn : t ≠ [] := Za5 (by omega)
  unfold setR at hr
  rw [if_neg (by omega), if_pos h93] at hr
  cases hr
  exact w86 s i false q (Za3 (c52t h h93 (by decide)) ⟨_, _, _, _, rfl, rfl, fun _ => Zbp rfl (h.next hn), fun hf => by cases hf⟩)
 ·refine w86 s i false q (Za3 (c52f h h93) ⟨_, _, _, _, rfl, rfl, fun hf => (by cases hf), fun _ => ?_⟩)
  obtain ⟨neg, t0, i0, hat0, hr0, hcall⟩ : ∃ neg t0 i0, At s t0 i0 /\ setL n neg no t0 = some res /\ Holds Try.prog 52 [A.ptr (.up (.up q)) 0, A.d (.lit (.int .u8 (94 : Int)))] (RB (.up q) s i false) (RetB (Zhp neg) (RB (.up q) s i0 false)) := by
   by_cases h94 : hd t = 94
   ·have hn : t ≠ [] := Za5 (by omega)
    refine ⟨true, t.tail, i + 1, h.next hn, ?_, c52t h h94 (by decide)⟩
    unfold setR at hr; rw [if_pos h94] at hr; exact hr
   ·refine ⟨false, t, i, h, ?_, c52f h h94⟩
    unfold setR at hr; rw [if_neg h94, if_neg h93] at hr; exact hr
  refine Za3 hcall ⟨_, _, _, _, rfl, rfl, ?_⟩
  refine ⟨fun a0 a1 a2 a3 s' i' b => ∃ p t', s' = s /\ a0 = .lit (.int .u64 (wd p 0)) /\ a1 = .lit (.int .u64 (wd p 1)) /\ a2 = .lit (.int .u64 (wd p 2)) /\ a3 = .lit (.int .u64 (wd p 3)) /\ At s t' i' /\ (if b then res = .bad t' else ∃ n, setL n neg p t' = some res), fun _ _ _ _ s' i' b => if b then 0 else ((s'.length : Int) - i').toNat + 1, ⟨no, t0, rfl, by simp [Zjv], by simp [Zjv], by simp [Zjv], by simp [Zjv], hat0, ⟨n, hr0⟩⟩, ?_, trivial⟩
  rintro a0 a1 a2 a3 s' i' b ⟨p, t', rfl, rfl, rfl, rfl, rfl, hat, hrun⟩
  cases b with
  | true =>
    have hrun : res = .bad t' := hrun
    refine ⟨fun hf => (by cases hf), fun _ => ⟨fun hneg => Zae (c100 p) ⟨_, rfl, rfl, rfl, Zaz (t := t') (by rw [hrun]; rfl) ⟨setX fun i => !p i, rfl⟩ hat⟩, fun hneg => Zaz (t := t') (by rw [hrun]; rfl) ⟨setX p, rfl⟩ hat⟩⟩
  | false =>
    obtain ⟨m, hrun⟩ := hrun
    have go : ∀ lo t1 i1, Zcb 0 t' = .ok lo t1 -> At s' t1 i1 -> ∀ hi t3 i3, hiR lo t1 = .ok hi t3 -> At s' t3 i3 ->
     (∃ neg', negP neg (orP p (rng lo hi)) = negP neg' (orP p (rng lo hi)) /\ neg' = neg) /\ (hd t3 = 93 -> res = .ok (setX (negP neg (orP p (rng lo hi)))) t3.tail) /\ (hd t3 ≠ 93 -> ∃ n, setL n neg (orP p (rng lo hi)) t3 = some res) /\ ((s'.length : Int) - i3).toNat < ((s'.length : Int) - i').toNat := fun lo t1 i1 e1 h1 hi t3 i3 e2 h2 => by
     obtain ⟨m, hm⟩ := Zli hrun e1 e2
     refine ⟨⟨neg, rfl, rfl⟩, fun h9 => ?_, fun h9 => ⟨m, ?_⟩, SetI.lt hat h2 ?_⟩
     ·unfold setC at hm; rw [if_pos h9] at hm; cases hm; rfl
     ·unfold setC at hm; rw [if_neg h9] at hm; exact hm
     ·have hl1 := Zgt 0 t'
      rw [e1] at hl1
      have hl2 := Zqn lo t1
      rw [e2] at hl2
      have := hl1.1
      have := List.IsSuffix.length_le hl2
      omega
    refine ⟨fun _ => ?_, fun hf => by cases hf⟩
    refine Zjk (c98 0 hat) (fun v t1 i1 e1 hi1 => ?_) (fun v t1 i1 e1 hg hi1 => ?_)
    ·obtain ⟨lo, f1, rfl⟩ := Zby e1
     have hlo8 := Zco 0 f1
     refine ⟨_, _, _, _, rfl, rfl, ?_⟩
     by_cases h45 : hd t1 = 45
     ·have hn1 : t1 ≠ [] := Za5 (by omega)
      have eh : hiR lo t1 = Zcb lo t1.tail := by unfold hiR; rw [if_pos h45]
      refine Za3 (c52t hi1 h45 (by decide)) ⟨_, _, _, _, rfl, rfl, fun _ => ?_, fun hf => by cases hf⟩
      refine Zjk (c98 lo (hi1.next hn1)) (fun v t3 i3 e3 hi3 => ?_) (fun v t3 i3 e3 hg hi3 => ?_)
      ·obtain ⟨hi, f3, rfl⟩ := Zby e3
       obtain ⟨_, g1, g2, g3⟩ := go lo t1 i1 f1 hi1 hi t3 i3 (by rw [eh, f3]) hi3
       refine ⟨_, _, _, _, rfl, rfl, fun _ => ⟨_, c85r lo hi (Zco _ f3) hlo8, Zae (c99' p (rng lo hi)) ⟨_, rfl, rfl, rfl, ?_⟩⟩, fun hf => by cases hf⟩
       by_cases h9 : hd t3 = 93
       ·have hn3 : t3 ≠ [] := Za5 (by omega)
        refine Za3 (c52t hi3 h9 (by decide)) ⟨_, _, _, _, rfl, rfl, fun _ => ⟨fun hneg => Zae (c100 _) ⟨_, rfl, rfl, rfl, ?_⟩, fun hneg => ?_⟩, fun hf => by cases hf⟩
        ·exact Zbp (by rw [g1 h9, hneg]; rfl) (hi3.next hn3)
        ·exact Zbp (by rw [g1 h9, hneg]; rfl) (hi3.next hn3)
       ·exact Za3 (c52f hi3 h9) ⟨_, _, _, _, rfl, rfl, fun hf => (by cases hf), fun _ => ⟨⟨orP p (rng lo hi), t3, rfl, rfl, rfl, rfl, rfl, hi3, g2 h9⟩, Nat.succ_lt_succ g3⟩⟩
      ·have f3 := Zbr e3
       cases hg
       have := Zlk hrun f1 (by rw [eh, f3])
       refine ⟨_, _, _, _, rfl, rfl, fun hf => (by cases hf), fun _ => Za3 c52x ⟨_, _, _, _, rfl, rfl, fun hf => (by cases hf), fun _ => ⟨⟨p, t3, rfl, rfl, rfl, rfl, rfl, hi3, this⟩, Nat.succ_pos _⟩⟩⟩
     ·have eh : hiR lo t1 = .ok lo t1 := by unfold hiR; rw [if_neg h45]
      obtain ⟨_, g1, g2, g3⟩ := go lo t1 i1 f1 hi1 lo t1 i1 eh hi1
      refine Za3 (c52f hi1 h45) ⟨_, _, _, _, rfl, rfl, fun hf => (by cases hf), fun _ => ⟨fun _ => ⟨_, c85r lo lo hlo8 hlo8, Zae (c99' p (rng lo lo)) ⟨_, rfl, rfl, rfl, ?_⟩⟩, fun hf => by cases hf⟩⟩
      by_cases h9 : hd t1 = 93
      ·have hn3 : t1 ≠ [] := Za5 (by omega)
       refine Za3 (c52t hi1 h9 (by decide)) ⟨_, _, _, _, rfl, rfl, fun _ => ⟨fun hneg => Zae (c100 _) ⟨_, rfl, rfl, rfl, ?_⟩, fun hneg => ?_⟩, fun hf => by cases hf⟩
       ·exact Zbp (by rw [g1 h9, hneg]; rfl) (hi1.next hn3)
       ·exact Zbp (by rw [g1 h9, hneg]; rfl) (hi1.next hn3)
      ·exact Za3 (c52f hi1 h9) ⟨_, _, _, _, rfl, rfl, fun hf => (by cases hf), fun _ => ⟨⟨orP p (rng lo lo), t1, rfl, rfl, rfl, rfl, rfl, hi1, g2 h9⟩, Nat.succ_lt_succ g3⟩⟩
    ·have f1 := Zbr e1
     cases hg
     have := Zlj hrun f1
     refine ⟨_, _, _, _, rfl, rfl, Za3 c52x ⟨_, _, _, _, rfl, rfl, fun hf => (by cases hf), fun _ => ⟨fun hf => (by cases hf), fun _ => Za3 c52x ⟨_, _, _, _, rfl, rfl, fun hf => (by cases hf), fun _ => ⟨⟨p, t1, rfl, rfl, rfl, rfl, rfl, hi1, this⟩, Nat.succ_pos _⟩⟩⟩⟩⟩
end Go.Rx
end
section
open Go Go.Proofs Go.Ab Go.Rf
set_option maxRecDepth 100000
namespace Go.Rx
def escX (t : List UInt8) : Res Rx := match clsV (hd t) with
 | some p => .ok (setX p) t.tail
 | none => match escR 0 t with
   | .bad q => .bad q
   | .ok c t1 => .ok (oneX c) t1
theorem Z2f {x : Nat} (h : (spcV x || x == 94 || x == 45) = true) : clsV x = none := by
 have h1 : x ≠ 100 := by rintro rfl; revert h; decide
 have h2 : x ≠ 119 := by rintro rfl; revert h; decide
 have h3 : x ≠ 115 := by rintro rfl; revert h; decide
 unfold clsV; rw [if_neg h1, if_neg h2, if_neg h3]
theorem Z2g {x n : Nat} (h : ctlV x = some n) : clsV x = none := by
 unfold ctlV at h
 unfold clsV
 split at h
 ·rename_i e; subst e; rfl
 ·split at h
  ·rename_i e; subst e; rfl
  ·split at h
   ·rename_i e; subst e; rfl
   ·cases h
theorem Z5m {x n : Nat} (h : ctlV x = some n) : n < 256 := by
 unfold ctlV at h
 repeat' split at h
 all_goals first | cases h; decide | cases h
theorem Z5n (lo : Nat) {t t' : List UInt8} {n : Nat} (h : hexR lo t = .ok n t') : n < 256 := by
 have : Zcb lo (92 :: 120 :: t) = .ok n t' := by
  unfold Zcb; rw [if_pos (by rfl)]; unfold escR; rw [if_pos (by rfl)]; exact h
 exact Zco lo this
theorem Zz2 {x n : Nat} (h : ctlV x = some n) : (spcV x || x == 94 || x == 45) = false := by
 unfold ctlV at h
 split at h
 ·rename_i e; subst e; decide
 ·split at h
  ·rename_i e; subst e; decide
  ·split at h
   ·rename_i e; subst e; decide
   ·cases h
theorem Z29 (t : List UInt8) (n : Nat) : escM 0 t (some n) = .ok n t.tail := by unfold escM; dsimp only; rw [if_neg (by omega)]
theorem c84 {q : Ref} {s t : List UInt8} {i : Int} (h : At s t i) : Holds Try.prog 84 [A.ptr (.up q) 0] (RB q s i false) (RAft q s Zrt ((escX t).map encA)) := by
 have hlo := h.lo
 have hx := Zin t
 by_cases h120 : hd t = 120
 ·have hn : t ≠ [] := Za5 (by omega)
  have ex : escX t = match hexR 0 t.tail with | .bad q => .bad q | .ok c t1 => .ok (oneX c) t1 := by
   unfold escX
   rw [show clsV (hd t) = none by rw [h120]; rfl]
   unfold escR
   rw [if_pos h120]
  rw [ex]
  refine w84 s i false q (Za3 (c52t h h120 (by decide)) ⟨_, _, _, _, rfl, rfl, fun _ => ?_, fun hf => by cases hf⟩)
  refine Zjk (c95 0 (h.next hn)) (fun v t1 i1 e1 hi1 => ?_) (fun v t1 i1 e1 hg hi1 => ?_)
  ·obtain ⟨n, f1, rfl⟩ := Zby e1
   have hu := Z5n 0 f1
   exact ⟨_, _, _, _, rfl, rfl, Zae (c85' n n hu hu) ⟨_, rfl, rfl, rfl, Zbp (by rw [f1]; rfl) hi1⟩⟩
  ·have f1 := Zbr e1
   cases hg
   exact ⟨_, _, _, _, rfl, rfl, Zae (c85' 0 0 (by decide) (by decide)) ⟨_, rfl, rfl, rfl, Zaz (by rw [f1]; rfl) ⟨setX (rng 0 0), rfl⟩ hi1⟩⟩
 ·refine w84 s i false q (Za3 (c52f h h120) ⟨_, _, _, _, rfl, rfl, fun hf => (by cases hf), fun _ => Za3 (c67 h) ⟨_, _, _, _, rfl, rfl, fun hm => ?_, fun hm => ?_⟩⟩)
  ·have hn : t ≠ [] := of_decide_eq_true hm
   have hlt := h.lt.2 hn
   have h' := h.next hn
   have hlo' := h'.lo
   rw [h.byte hn]
   refine ⟨tle hlo.1, tlt hlt, Zae (c96 _ hx) ⟨_, _, rfl, rfl, rfl, Zae (c97 _ hx) ⟨_, rfl, rfl, fun hc => ?_, fun hc => ?_⟩⟩⟩
   ·cases hv : ctlV (hd t) with
    | none => rw [hv] at hc; cases hc
    | some n =>
      have hu := Z5m hv
      have ex : escX t = .ok (oneX n) t.tail := by
       unfold escX
       rw [Z2g hv, Zov h120, Zox (Zz2 hv), hv, Z29]
      rw [ex]
      refine Zae (c85' n n hu hu) ⟨_, rfl, rfl, rfl, Zae (c87 _ hx) ⟨_, rfl, rfl, fun hs => ?_, fun hs => ?_⟩⟩
      ·rw [spc3, Zz2 hv] at hs; cases hs
      ·exact ⟨tle (by omega), tle (by omega), Zbp rfl h'⟩
   ·have hv : ctlV (hd t) = none := by
     cases hv : ctlV (hd t) with
     | none => rfl
     | some n => rw [hv] at hc; have := Ze8 hc; have e : optI (some n) = (n : Int) := rfl; rw [e] at this; omega
    refine Zae (c87 _ hx) ⟨_, rfl, rfl, fun hs => ?_, fun hs => ?_⟩
    ·rw [spc3] at hs
     have ex : escX t = .ok (oneX (hd t)) t.tail := by
      unfold escX
      rw [Z2f hs, Zov h120, Zow hs, Z29]
     rw [ex]
     exact ⟨(Zmh hx).1, (Zmh hx).2, Zae (c85' _ _ hx hx) ⟨_, rfl, rfl, rfl, tle (by omega), tle (by omega), Zbp rfl h'⟩⟩
    ·rw [spc3] at hs
     refine ⟨fun hcl => ?_, fun hcl => ?_⟩
     ·cases hcv : clsV (hd t) with
      | none => rw [hcv] at hcl; cases hcl
      | some p =>
        have ex : escX t = .ok (setX p) t.tail := by unfold escX; rw [hcv]
        rw [ex]
        exact ⟨tle (by omega), tle (by omega), Zbp rfl h'⟩
     ·cases hcv : clsV (hd t) with
      | some p => rw [hcv] at hcl; cases hcl
      | none =>
        have ex : escX t = .bad t := by
         unfold escX
         rw [hcv, Zov h120, Zox hs, hv]; rfl
        rw [ex]
        exact Zaz rfl ⟨mk0 0 [], rfl⟩ h
  ·have hn : t = [] := by simpa using hm
   subst hn
   exact Zaz (t := []) rfl ⟨mk0 0 [], rfl⟩ h
def L39 (n : Nat) : Prop := ∀ (q : Ref) (s t : List UInt8) (i : Int) (res : Res Rx), alts n t = some res -> At s t i -> Holds Try.prog 39 [A.ptr (.up q) 0] (RB q s i false) (RAft q s Zrt (res.map encA))
def L51 (n : Nat) : Prop := ∀ (q : Ref) (s t : List UInt8) (i : Int) (res : Res Rx), seqs n t = some res -> At s t i -> Holds Try.prog 51 [A.ptr (.up q) 0] (RB q s i false) (RAft q s Zrt (res.map encA))
def L66 (n : Nat) : Prop := ∀ (q : Ref) (s t : List UInt8) (i : Int) (res : Res Rx), Zb7 n t = some res -> At s t i -> Holds Try.prog 66 [A.ptr (.up q) 0] (RB q s i false) (RAft q s Zrt (res.map encA))
def L74 (n : Nat) : Prop := ∀ (q : Ref) (s t : List UInt8) (i : Int) (res : Res Rx), atom n t = some res -> At s t i -> Holds Try.prog 74 [A.ptr (.up q) 0] (RB q s i false) (RAft q s Zrt (res.map encA))
theorem c74 {n : Nat} (K : L39 n) : L74 (n + 1) := by
 intro q s t i res hr h
 have hlo := h.lo
 have hx := Zin t
 unfold atom at hr
 by_cases h92 : hd t = 92
 ·have hn : t ≠ [] := Za5 (by omega)
  rw [if_neg (by omega), if_neg (by omega), if_neg (by omega), if_pos h92] at hr
  have e : res = escX t.tail := by
   unfold escX
   cases hcl : clsV (hd t.tail) with
   | some p => rw [hcl] at hr; cases hr; rfl
   | none =>
     rw [hcl] at hr
     dsimp only at hr ⊢
     cases hes : escR 0 t.tail with
     | ok c t1 => rw [hes] at hr; cases hr; rfl
     | bad q => rw [hes] at hr; cases hr; rfl
  subst e
  refine w74 s i false q (Za3 (c52t h h92 (by decide)) ⟨_, _, _, _, rfl, rfl, fun _ => ?_, fun hf => by cases hf⟩)
  exact Zjk (c84 (h.next hn)) (fun v t1 i1 e1 hi1 => by obtain ⟨r, f1, rfl⟩ := Zby e1; exact ⟨_, _, _, _, rfl, rfl, teq6 r, Zbp e1 hi1⟩) (fun v t1 i1 e1 hg hi1 => by obtain ⟨r, rfl⟩ := hg; exact ⟨_, _, _, _, rfl, rfl, teq6 r, Zaz e1 ⟨r, rfl⟩ hi1⟩)
 refine w74 s i false q (Za3 (c52f h h92) ⟨_, _, _, _, rfl, rfl, fun hf => (by cases hf), fun _ => ?_⟩)
 by_cases h46 : hd t = 46
 ·have hn : t ≠ [] := Za5 (by omega)
  rw [if_neg (by omega), if_neg (by omega), if_pos h46] at hr
  cases hr
  exact Za3 (c52t h h46 (by decide)) ⟨_, _, _, _, rfl, rfl, fun _ => Zae (c85' 0 255 (by decide) (by decide)) ⟨_, rfl, rfl, rfl, Zbp rfl (h.next hn)⟩, fun hf => by cases hf⟩
 refine Za3 (c52f h h46) ⟨_, _, _, _, rfl, rfl, fun hf => (by cases hf), fun _ => ?_⟩
 by_cases h91 : hd t = 91
 ·have hn : t ≠ [] := Za5 (by omega)
  rw [if_neg (by omega), if_pos h91] at hr
  refine Za3 (c52t h h91 (by decide)) ⟨_, _, _, _, rfl, rfl, fun _ => ?_, fun hf => by cases hf⟩
  exact Zjk (c86 n res hr (h.next hn)) (fun v t1 i1 e1 hi1 => by obtain ⟨r, f1, rfl⟩ := Zby e1; exact ⟨_, _, _, _, rfl, rfl, teq6 r, Zbp e1 hi1⟩) (fun v t1 i1 e1 hg hi1 => by obtain ⟨r, rfl⟩ := hg; exact ⟨_, _, _, _, rfl, rfl, teq6 r, Zaz e1 ⟨r, rfl⟩ hi1⟩)
 refine Za3 (c52f h h91) ⟨_, _, _, _, rfl, rfl, fun hf => (by cases hf), fun _ => ?_⟩
 by_cases h40 : hd t = 40
 ·have hn : t ≠ [] := Za5 (by omega)
  have h' := h.next hn
  rw [if_pos h40] at hr
  refine Za3 (c52t h h40 (by decide)) ⟨_, _, _, _, rfl, rfl, fun _ => ?_, fun hf => by cases hf⟩
  by_cases h41 : hd t.tail = 41
  ·have hn' : t.tail ≠ [] := Za5 (by omega)
   rw [if_pos h41] at hr
   cases hr
   exact Za3 (c52t h' h41 (by decide)) ⟨_, _, _, _, rfl, rfl, fun _ => Zbp rfl (h'.next hn'), fun hf => by cases hf⟩
  ·rw [if_neg h41] at hr
   refine Za3 (c52f h' h41) ⟨_, _, _, _, rfl, rfl, fun hf => (by cases hf), fun _ => ?_⟩
   cases ha : alts n t.tail with
   | none => rw [ha] at hr; cases hr
   | some ra =>
     rw [ha] at hr
     refine Zjk (K (.up q) s t.tail (i + 1) ra ha h') (fun v t1 i1 e1 hi1 => ?_) (fun v t1 i1 e1 hg hi1 => ?_)
     ·obtain ⟨r, f1, rfl⟩ := Zby e1
      subst f1
      cases hr
      refine ⟨_, _, _, _, rfl, rfl, teq6 r, ?_⟩
      by_cases hc : hd t1 = 41
      ·have hn1 : t1 ≠ [] := Za5 (by omega)
       exact Za3 (c52t hi1 hc (by decide)) ⟨_, _, _, _, rfl, rfl, fun hf => (by cases hf), fun _ => Zbp (by unfold Zg9; rw [if_pos hc]; rfl) (hi1.next hn1)⟩
      ·exact Za3 (c52f hi1 hc) ⟨_, _, _, _, rfl, rfl, fun _ => Zaz (by unfold Zg9; rw [if_neg hc]; rfl) ⟨r, rfl⟩ hi1, fun hf => by cases hf⟩
     ·have f1 := Zbr e1
      subst f1
      cases hr
      obtain ⟨r, rfl⟩ := hg
      exact ⟨_, _, _, _, rfl, rfl, teq6 r, Za3 c52x ⟨_, _, _, _, rfl, rfl, fun _ => Zaz rfl ⟨r, rfl⟩ hi1, fun hf => by cases hf⟩⟩
 rw [if_neg h40, if_neg h91, if_neg h46, if_neg h92] at hr
 refine Za3 (c52f h h40) ⟨_, _, _, _, rfl, rfl, fun hf => (by cases hf), fun _ => ⟨_, c67r h, ?_⟩⟩
 by_cases hn : t = []
 ·subst hn
  rw [if_pos (.inl (by decide))] at hr
  cases hr
  exact ⟨rfl, rfl, rfl, rfl, rfl, rfl, fun hf => (by cases hf), fun _ => Zaz rfl ⟨mk0 0 [], rfl⟩ h⟩
 ·have hlt := h.lt.2 hn
  have h' := h.next hn
  have hlo' := h'.lo
  have e1 : tB (decide (0 <= i)) = true := tle hlo.1
  have e2 : tB (decide (i < (s.length : Int))) = true := tlt hlt
  have ei : i + 1 - 1 = i := by omega
  have ed : (decide (t ≠ [])) = true := decide_eq_true hn
  rw [e1, e2, ei, h.byte hn, ed]
  refine ⟨rfl, rfl, Bool.or_true _, Bool.or_true _, Bool.or_true _, Bool.or_true _, fun hr2 => ?_, fun hr2 => ?_⟩
  ·simp only [Zbg, Bool.not_eq_true', Bool.or_eq_false_iff, decide_eq_false_iff_not] at hr2
   refine Zae (c87 _ hx) ⟨_, rfl, rfl, fun hs => ?_, fun hs => ?_⟩
   ·rw [if_pos (.inr (.inr hs))] at hr
    cases hr
    exact Zaz rfl ⟨mk0 0 [], rfl⟩ h
   ·rw [if_neg (by rintro (h6 | h6 | h6) <;> first | omega | (rw [hs] at h6; cases h6))] at hr
    cases hr
    exact ⟨tle (by omega), tle (by omega), tle (by omega), tle (by omega), tle hlo.1, tlt hlt, (Zmh hx).1, (Zmh hx).2, Zae (c85' _ _ hx hx) ⟨_, rfl, rfl, rfl, Zbp rfl h'⟩⟩
  ·simp only [Zbg, Bool.not_eq_false', Bool.or_eq_true, decide_eq_true_eq] at hr2
   rw [if_pos (by rcases hr2 with (h6 | h6) | h6 <;> first | (cases h6; done) | omega)] at hr
   cases hr
   exact Zaz rfl ⟨mk0 0 [], rfl⟩ h
theorem Zru {q : Ref} {s t : List UInt8} {r : Rx} {res : Res Rx} {i : Int} (h : res = .bad t) (hi : At s t i) : RAft q s Zrt (res.map encA) (.ret (encA r)) (RB q s i true) := by
 subst h; exact ⟨_, i, ⟨r, rfl⟩, hi, rfl, rfl⟩
theorem c66 {n : Nat} (K : L74 n) : L66 (n + 1) := by
 intro q s t i res hr h
 unfold Zb7 at hr
 cases ha : atom n t with
 | none => rw [ha] at hr; cases hr
 | some ra =>
   rw [ha] at hr
   have inv : ∃ I : D -> D -> D -> D -> D -> D -> List UInt8 -> Int -> Bool -> Prop, I = fun a b c d e f s' i' fl => ∃ r t, s' = s /\ [a, b, c, d, e, f] = enc r /\ At s t i' /\ if fl then res = .bad t else ∃ m, opsL m r t = some res := ⟨_, rfl⟩
   refine w66 s i false q (Zjk (K (.up q) s t i ra ha h) (fun v t1 i1 e1 hi1 => ?_) (fun v t1 i1 e1 hg hi1 => ?_))
   rotate_left
   ·have f1 := Zbr e1
    subst f1
    cases hr
    obtain ⟨r, rfl⟩ := hg
    refine ⟨_, _, _, _, rfl, rfl, teq6 r, fun a b c d e f s' i' fl => s' = s /\ i' = i1 /\ fl = true /\ [a, b, c, d, e, f] = enc r, fun _ _ _ _ _ _ _ _ _ => 0, ⟨rfl, rfl, rfl, Zdk r⟩, ?_, trivial⟩
    rintro a b c d e f s' i' fl ⟨rfl, rfl, rfl, he⟩
    refine ⟨fun hf => (by cases hf), fun _ => ?_⟩
    rw [he]
    exact Zru rfl hi1
   ·obtain ⟨r, f1, rfl⟩ := Zby e1
    subst f1
    refine ⟨_, _, _, _, rfl, rfl, teq6 r, fun a b c d e f s' i' fl => ∃ m r t, s' = s /\ fl = false /\ [a, b, c, d, e, f] = enc r /\ At s t i' /\ opsL m r t = some res, fun _ _ _ _ _ _ s' i' _ => ((s'.length : Int) - i').toNat, ⟨n, r, t1, rfl, rfl, Zdk r, hi1, hr⟩, ?_, trivial⟩
    rintro a b c d e f s' i' fl ⟨m, r', t', rfl, rfl, he, hat, hrun⟩
    have hlo' := hat.lo
    have lt : t' ≠ [] -> ((s'.length : Int) - (i' + 1)).toNat < ((s'.length : Int) - i').toNat := fun hn => by have := hat.lt.2 hn; omega
    refine ⟨fun _ => ?_, fun hf => by cases hf⟩
    by_cases h0 : hd t' = 42
    ·have hn := Za5 (t := t') (by omega)
     obtain ⟨m', hm⟩ := Ze9 hrun (r' := Zme r') (by unfold opX; rw [if_pos h0])
     refine Za3 (c52t hat h0 (by decide)) ⟨_, _, _, _, rfl, rfl, fun _ => ⟨⟨m', _, _, rfl, rfl, ?_, hat.next hn, hm⟩, lt hn⟩, fun hf => by cases hf⟩
     rw [he]; rfl
    refine Za3 (c52f hat h0) ⟨_, _, _, _, rfl, rfl, fun hf => (by cases hf), fun _ => ?_⟩
    by_cases h1 : hd t' = 43
    ·have hn := Za5 (t := t') (by omega)
     obtain ⟨m', hm⟩ := Ze9 hrun (r' := mk0 3 [r', Zme r']) (by unfold opX; rw [if_neg h0, if_pos h1])
     refine Za3 (c52t hat h1 (by decide)) ⟨_, _, _, _, rfl, rfl, fun _ => ⟨⟨m', _, _, rfl, rfl, ?_, hat.next hn, hm⟩, lt hn⟩, fun hf => by cases hf⟩
     rw [he]; rfl
    refine Za3 (c52f hat h1) ⟨_, _, _, _, rfl, rfl, fun hf => (by cases hf), fun _ => ?_⟩
    by_cases h2 : hd t' = 63
    ·have hn := Za5 (t := t') (by omega)
     obtain ⟨m', hm⟩ := Ze9 hrun (r' := mk0 4 [r', mk0 1 []]) (by unfold opX; rw [if_neg h0, if_neg h1, if_pos h2])
     refine Za3 (c52t hat h2 (by decide)) ⟨_, _, _, _, rfl, rfl, fun _ => ⟨⟨m', _, _, rfl, rfl, ?_, hat.next hn, hm⟩, lt hn⟩, fun hf => by cases hf⟩
     rw [he]; rfl
    refine Za3 (c52f hat h2) ⟨_, _, _, _, rfl, rfl, fun hf => (by cases hf), fun _ => ?_⟩
    have := Zqp hrun (by unfold opX; rw [if_neg h0, if_neg h1, if_neg h2])
    subst this
    rw [he]
    exact Zbp rfl hat
theorem c51 {n : Nat} (K : ∀ m, m <= n -> L66 m) : L51 (n + 1) := by
 intro q s t i res hr h
 unfold seqs at hr
 cases ha : Zb7 n t with
 | none => rw [ha] at hr; cases hr
 | some ra =>
   rw [ha] at hr
   refine w51 s i false q (Zjk (K n (Nat.le_refl _) (.up q) s t i ra ha h) (fun v t1 i1 e1 hi1 => ?_) (fun v t1 i1 e1 hg hi1 => ?_))
   rotate_left
   ·have f1 := Zbr e1
    subst f1
    cases hr
    obtain ⟨r, rfl⟩ := hg
    refine ⟨_, _, _, _, rfl, rfl, teq6 r, fun x s' i' fl => s' = s /\ i' = i1 /\ fl = true /\ x = encs [r], fun _ _ _ _ => 0, ⟨rfl, rfl, rfl, rfl⟩, ?_, trivial⟩
    rintro x s' i' fl ⟨rfl, rfl, rfl, rfl⟩
    refine ⟨_, fun _ => c67x, rfl, rfl, ?_, ?_, fun hf => (by cases hf), fun _ => Zae (c53 3 [r]) ⟨_, rfl, rfl, teq6 _, Zru rfl hi1⟩⟩
    ·exact Bool.or_eq_true_iff.2 (.inr (tle hi1.lo.1))
    ·rfl
   ·obtain ⟨r, f1, rfl⟩ := Zby e1
    subst f1
    have hlt := (Zdi n).2.2.2.2.1 _ _ ha
    refine ⟨_, _, _, _, rfl, rfl, teq6 r, fun x s' i' fl => ∃ l t', s' = s /\ x = encs l /\ At s t' i' /\ (if fl then res = .bad t' else l.length + t'.length <= s.length /\ ∃ m, seqL m l t' = some res /\ m <= n), fun _ s' i' fl => if fl then 0 else ((s'.length : Int) - i').toNat + 1, ⟨[r], t1, rfl, rfl, hi1, ?_, n, hr, Nat.le_refl _⟩, ?_, trivial⟩
    ·have := hlt.1
     have := h.suf.length_le
     simp; omega
    ·rintro x s' i' fl ⟨l, t', rfl, rfl, hat, hrun⟩
     have hsm := hat.sm
     have hlo' := hat.lo
     cases fl with
     | true =>
       have hrun : res = .bad t' := hrun
       refine ⟨_, fun _ => c67x, rfl, rfl, ?_, ?_, fun hf => (by cases hf), fun _ => Zae (c53 3 l) ⟨_, rfl, rfl, teq6 _, Zru hrun hat⟩⟩
       ·exact Bool.or_eq_true_iff.2 (.inr (tle hlo'.1))
       ·rfl
     | false =>
       obtain ⟨hl, m, hrun, hm⟩ := hrun
       have done : ¬ (t' ≠ [] /\ hd t' ≠ 124 /\ hd t' ≠ 41) -> RAft q s' Zrt (res.map encA) (.ret (encA (Zcs 3 l))) (RB q s' i' false) := fun hn => by
        cases m with
        | zero => simp [seqL] at hrun
        | succ m =>
          unfold seqL at hrun
          rw [if_neg hn] at hrun
          cases hrun
          exact Zbp rfl hat
       by_cases hn : t' = []
       ·refine ⟨_, c67r hat, ?_, ?_, ?_, ?_, fun hf => ?_, fun _ => Zae (c53 3 l) ⟨_, rfl, rfl, teq6 _, done fun h => h.1 hn⟩⟩
        ·rw [decide_eq_false (by simpa using hn)]; rfl
        ·rw [decide_eq_false (by simpa using hn)]; rfl
        ·rw [decide_eq_false (by simpa using hn)]; rfl
        ·rw [decide_eq_false (by simpa using hn)]; rfl
        ·rw [decide_eq_false (by simpa using hn)] at hf; cases hf
       ·have hlt := hat.lt.2 hn
        rw [hat.byte hn]
        have e1 : tB (decide (0 <= i')) = true := tle hlo'.1
        have e2 : tB (decide (i' < (s'.length : Int))) = true := tlt hlt
        refine ⟨_, c67r hat, ?_, ?_, ?_, ?_, fun hf => ?_, fun hf => Zae (c53 3 l) ⟨_, rfl, rfl, teq6 _, done ?_⟩⟩
        ·rw [e1]; exact Bool.or_true _
        ·rw [e2]; exact Bool.or_true _
        ·rw [e1]; exact Bool.or_true _
        ·rw [e2]; exact Bool.or_true _
        ·have hn3 : t' ≠ [] /\ hd t' ≠ 124 /\ hd t' ≠ 41 := by
          simp only [Zbg, Bool.and_eq_true, Bool.not_eq_true', beq_eq_false_iff_ne] at hf
          exact ⟨hn, by omega, by omega⟩
         cases m with
         | zero => simp [seqL] at hrun
         | succ m =>
           unfold seqL at hrun
           rw [if_pos hn3] at hrun
           cases hb : Zb7 m t' with
           | none => rw [hb] at hrun; cases hrun
           | some rb =>
             rw [hb] at hrun
             refine Zjk (K m (by omega) (.up q) s' t' i' rb hb hat) (fun v t2 i2 e2 hi2 => ?_) (fun v t2 i2 e2 hg hi2 => ?_)
             ·obtain ⟨r', f2, rfl⟩ := Zby e2
              subst f2
              have hlt2 := ((Zdi m).2.2.2.2.1 _ _ hb).1
              refine ⟨_, _, _, _, rfl, rfl, teq6 r', Zob r', tle (by simp; omega), tle (by simp; omega), ⟨l ++ [r'], t2, rfl, ?_, hi2, by simp; omega, m, hrun, by omega⟩, Nat.succ_lt_succ (SetI.lt hat hi2 hlt2)⟩
              show encs l ++ encs [r'] = _
              rw [Zbn]
             ·have f2 := Zbr e2
              subst f2
              cases hrun
              obtain ⟨r', rfl⟩ := hg
              have htl : 1 <= t'.length := List.length_pos_iff.2 hn
              refine ⟨_, _, _, _, rfl, rfl, teq6 r', Zob r', tle (by simp; omega), tle (by simp; omega), ⟨l ++ [r'], t2, rfl, ?_, hi2, rfl⟩, Nat.succ_pos _⟩
              show encs l ++ encs [r'] = _
              rw [Zbn]
        ·rintro ⟨_, h1, h2⟩
         have : (decide (t' ≠ []) && (!tB (((hd t' : Nat) : Int) == 124)) && !tB (((hd t' : Nat) : Int) == 41)) = true := by
          simp only [Zbg, Bool.and_eq_true, Bool.not_eq_true', beq_eq_false_iff_ne, decide_eq_true_eq]
          exact ⟨⟨hn, by omega⟩, by omega⟩
         rw [this] at hf
         cases hf
theorem c39 {n : Nat} (K : ∀ m, m <= n -> L51 m) : L39 (n + 1) := by
 intro q s t i res hr h
 unfold alts at hr
 cases ha : seqs n t with
 | none => rw [ha] at hr; cases hr
 | some ra =>
   rw [ha] at hr
   refine w39 s i false q (Zjk (K n (Nat.le_refl _) (.up q) s t i ra ha h) (fun v t1 i1 e1 hi1 => ?_) (fun v t1 i1 e1 hg hi1 => ?_))
   rotate_left
   ·have f1 := Zbr e1
    subst f1
    cases hr
    obtain ⟨r, rfl⟩ := hg
    refine ⟨_, _, _, _, rfl, rfl, teq6 r, fun x s' i' fl => s' = s /\ i' = i1 /\ fl = true /\ x = encs [r], fun _ _ _ _ => 0, ⟨rfl, rfl, rfl, rfl⟩, ?_, trivial⟩
    rintro x s' i' fl ⟨rfl, rfl, rfl, rfl⟩
    exact Za3 c52x ⟨_, _, _, _, rfl, rfl, fun hf => (by cases hf), fun _ => Zae (c53 4 [r]) ⟨_, rfl, rfl, teq6 _, Zru rfl hi1⟩⟩
   ·obtain ⟨r, f1, rfl⟩ := Zby e1
    subst f1
    have hlt := (Zdi n).2.2.1 _ _ ha
    refine ⟨_, _, _, _, rfl, rfl, teq6 r, fun x s' i' fl => ∃ l t', s' = s /\ x = encs l /\ At s t' i' /\ (if fl then res = .bad t' else l.length + t'.length <= s.length /\ ∃ m, altL m l t' = some res /\ m <= n), fun _ s' i' fl => if fl then 0 else ((s'.length : Int) - i').toNat + 1, ⟨[r], t1, rfl, rfl, hi1, ?_, n, hr, Nat.le_refl _⟩, ?_, trivial⟩
    ·have := hlt.1
     have := h.suf.length_le
     simp; omega
    ·rintro x s' i' fl ⟨l, t', rfl, rfl, hat, hrun⟩
     have hsm := hat.sm
     have hlo' := hat.lo
     cases fl with
     | true =>
       have hrun : res = .bad t' := hrun
       exact Za3 c52x ⟨_, _, _, _, rfl, rfl, fun hf => (by cases hf), fun _ => Zae (c53 4 l) ⟨_, rfl, rfl, teq6 _, Zru hrun hat⟩⟩
     | false =>
       obtain ⟨hl, m, hrun, hm⟩ := hrun
       cases m with
       | zero => simp [altL] at hrun
       | succ m =>
         unfold altL at hrun
         by_cases h1 : hd t' = 124
         ·have hn : t' ≠ [] := Za5 (by omega)
          have hnl : t'.tail.length + 1 = t'.length := by cases t' with
           | nil => exact absurd rfl hn
           | cons c t => simp
          rw [if_pos h1] at hrun
          refine Za3 (c52t hat h1 (by decide)) ⟨_, _, _, _, rfl, rfl, fun _ => ?_, fun hf => by cases hf⟩
          cases hb : seqs m t'.tail with
          | none => rw [hb] at hrun; cases hrun
          | some rb =>
            rw [hb] at hrun
            refine Zjk (K m (by omega) (.up q) s' t'.tail (i' + 1) rb hb (hat.next hn)) (fun v t2 i2 e2 hi2 => ?_) (fun v t2 i2 e2 hg hi2 => ?_)
            ·obtain ⟨r', f2, rfl⟩ := Zby e2
             subst f2
             have hlt2 := ((Zdi m).2.2.1 _ _ hb).1
             refine ⟨_, _, _, _, rfl, rfl, teq6 r', Zob r', tle (by simp; omega), tle (by simp; omega), ⟨l ++ [r'], t2, rfl, ?_, hi2, by simp; omega, m, hrun, by omega⟩, Nat.succ_lt_succ (SetI.lt hat hi2 (by omega))⟩
             show encs l ++ encs [r'] = _
             rw [Zbn]
            ·have f2 := Zbr e2
             subst f2
             cases hrun
             obtain ⟨r', rfl⟩ := hg
             refine ⟨_, _, _, _, rfl, rfl, teq6 r', Zob r', tle (by simp; omega), tle (by simp; omega), ⟨l ++ [r'], t2, rfl, ?_, hi2, rfl⟩, Nat.succ_pos _⟩
             show encs l ++ encs [r'] = _
             rw [Zbn]
         ·rw [if_neg h1] at hrun
          cases hrun
          exact Za3 (c52f hat h1) ⟨_, _, _, _, rfl, rfl, fun hf => (by cases hf), fun _ => Zae (c53 4 l) ⟨_, rfl, rfl, teq6 _, Zbp rfl hat⟩⟩
theorem Z7x : ∀ n, (∀ m, m <= n -> L39 m /\ L51 m /\ L66 m /\ L74 m) := by
 intro n
 induction n with
 | zero =>
   intro m hm
   have : m = 0 := by omega
   subst this
   exact ⟨fun q s t i res hr => by simp [alts] at hr, fun q s t i res hr => by simp [seqs] at hr, fun q s t i res hr => by simp [Zb7] at hr, fun q s t i res hr => by simp [atom] at hr⟩
 | succ n ih =>
   intro m hm
   by_cases h : m <= n
   ·exact ih m h
   ·have : m = n + 1 := by omega
    subst this
    exact ⟨c39 fun m h => (ih m h).2.1, c51 fun m h => (ih m h).2.2.1, c66 (ih n (Nat.le_refl _)).2.2.2, c74 (ih n (Nat.le_refl _)).1⟩
theorem l39 (n : Nat) : L39 n := (Z7x n n (Nat.le_refl _)).1
end Go.Rx
end
section
open Go Go.Proofs Go.Ab Go.Rf
set_option maxRecDepth 100000
namespace Go.Rx
theorem c20 (s : List UInt8) : Holds Try.prog 20 [A.d (.lit (Zaa s))] [] (Ret (Zy3 (Za6 s))) := by
 refine w20 s ⟨fun hl => ?_, fun hl ν => ?_⟩
 ·have hl := Zax hl
  rw [Zm1 (by omega)]
  exact ⟨rfl, rfl⟩
 ·have hl := Zan hl
  have hs : ¬ 1000 < s.length := by omega
  have h0 : At s s 0 := at0 (by omega)
  obtain ⟨res, hr⟩ := Zln s
  refine Zjk (l39 _ (Ref.own 13 (ν 13)) s s 0 res hr h0) (fun v t i e hi => ?_) (fun v t i e hg hi => ?_) ν
  ·obtain ⟨r, f1, rfl⟩ := Zby e
   subst f1
   refine ⟨_, _, _, _, rfl, rfl, teq6 r, fun hf => ?_, fun hf => ?_⟩
   ·have ht : t ≠ [] := hi.more (Zax hf)
    rw [Zm2 hs hr hi ht]
    exact ⟨rfl, rfl⟩
   ·have ht : t = [] := hi.end_ (Zan hf)
    subst ht
    rw [Zod hs hr]
    have hb : lens (2 ^ 40) r := Zgc (by omega) _ r (Nat.le_refl _) (Zlp hr)
    refine Zae (c16 r hb) ⟨_, rfl, rfl, fun h9 => ?_, fun h9 => ?_⟩
    ·rw [if_pos (Zao h9)]; exact ⟨rfl, rfl⟩
    ·rw [if_neg (Zag h9)]; exact ⟨rfl, rfl⟩
  ·have f1 := Zbr e
   subst f1
   obtain ⟨r, rfl⟩ := hg
   refine ⟨_, _, _, _, rfl, rfl, teq6 r, fun _ => ?_, fun hf => by cases hf⟩
   rw [Zqt hs hr hi]
   exact ⟨rfl, rfl⟩
end Go.Rx
end
section
open Go Go.Proofs Go.Ab Go.Rf
set_option maxRecDepth 100000
namespace Go.Rx
theorem c63i (p : Nat -> Bool) (i : Nat) (h : i < 256) : Holds Try.prog 63 [A.agg (row4 p), A.d (.lit (.int .u8 (IntKind.wrap .u8 (i : Int))))] [] (Ret (.d (.lit (.bool (p i))))) := by
 rw [Zfp i h]; exact c63 p i h
theorem c63j (p : Nat -> Bool) (i : Nat) (h : i < 256) (h0 : 0 < i) : Holds Try.prog 63 [A.agg (row4 p), A.d (.lit (.int .u8 (IntKind.wrap .u8 ((i : Int) - 1))))] [] (Ret (.d (.lit (.bool (p (i - 1)))))) := by
 rw [show (i : Int) - 1 = ((i - 1 : Nat) : Int) by omega]; exact c63i p (i - 1) (by omega)
theorem Zrv (p : Nat -> Bool) (n : Nat) : cntN p (n + 1) = cntN p n + (if p n && !(decide (0 < n) && p (n - 1)) then 1 else 0) := rfl
theorem c46 (p : Nat -> Bool) : Holds Try.prog 46 [A.agg (row4 p)] [] (Ret (.d (.lit (.int .i64 (cntN p 256 : Nat))))) := by
 refine w46 (row4 p) ⟨teq (by simp), fun x y => ∃ k : Nat, y = k /\ k <= 256 /\ x = (cntN p k : Nat), fun _ y => 256 - y.toNat, ⟨0, rfl, by decide, rfl⟩, ?_, trivial⟩
 rintro _ _ ⟨k, rfl, hk, rfl⟩
 have hc := Zon p k
 refine ⟨fun hlt => ?_, fun hge => ?_⟩
 ·have hlt : k < 256 := by have := Zax hlt; omega
  have dec : 256 - ((k : Int) + 1).toNat < 256 - (k : Int).toNat := by omega
  have st1 : p k = true -> (k = 0 \/ p (k - 1) = false) -> ∃ j : Nat, (k : Int) + 1 = j /\ j <= 256 /\ ((cntN p k : Nat) : Int) + 1 = (cntN p j : Nat) := fun h1 h2 => ⟨k + 1, by omega, by omega, by
   rw [Zrv, h1, if_pos]
   ·rfl
   ·rcases h2 with rfl | h2
    ·rfl
    ·rw [h2, Bool.and_false]; rfl⟩
  have st0 : (p k && !(decide (0 < k) && p (k - 1))) = false -> ∃ j : Nat, (k : Int) + 1 = j /\ j <= 256 /\ ((cntN p k : Nat) : Int) = (cntN p j : Nat) := fun h1 => ⟨k + 1, by omega, by omega, by rw [Zrv, h1]; rfl⟩
  refine Zae (c63i p k hlt) ⟨_, rfl, rfl, ?_, ?_, fun hp => ⟨fun hne => ?_, fun he => ?_⟩, fun hp => ?_⟩
  ·rw [tle (show (-9223372036854775808 : Int) <= (k : Int) - 1 by omega), Bool.or_true]
  ·rw [tle (show (k : Int) - 1 <= 9223372036854775807 by omega), Bool.or_true]
  ·have h0 : 0 < k := by have := nteq hne; omega
   refine Zae (c63j p k hlt h0) ⟨_, rfl, rfl, fun hq => ?_, fun hq => ?_⟩
   ·have hq : p (k - 1) = false := by simpa using hq
    exact ⟨tle (by omega), tle (by omega), tle (by omega), tle (by omega), st1 hp (.inr hq), dec⟩
   ·have hq : p (k - 1) = true := by simpa using hq
    exact ⟨tle (by omega), tle (by omega), st0 (by rw [hq, decide_eq_true h0]; simp), dec⟩
  ·have h0 := nfeq he
   exact ⟨tle (by omega), tle (by omega), tle (by omega), tle (by omega), st1 hp (.inl (by omega)), dec⟩
  ·exact ⟨tle (by omega), tle (by omega), st0 (by rw [hp]; rfl), dec⟩
 ·have hge := Zan hge
  have : k = 256 := by omega
  subst this
  exact ⟨rfl, rfl⟩
theorem Znd : ∀ (l : List Rx) (k : Nat) (h : k < l.length), Zfw (l.take (k + 1)) = Zfw (l.take k) + rcnt l[k]
 | r :: l, 0, _ => by simp [Zfw]
 | r :: l, k + 1, h => by
   have := Znd l k (by simpa using h)
   simp [Zfw, this]; omega
theorem c32 : ∀ (n : Nat) (r : Rx), size r <= n -> n <= 2 ^ 40 -> allX rangeOk r -> Holds Try.prog 32 [A.agg (enc r)] [] (Ret (.d (.lit (.int .i64 (rcnt r : Nat)))))
 | 0, r, h, _, _ => by have := Zaf r; omega
 | n + 1, r, hs, hn, hok => by
   obtain ⟨h0, hsub⟩ := Zav.1 hok
   have hsz := Zb1 r
   have hge := Zfo r.subs
   have hrc := Zs3 r
   have hrb := Zoo _ r (Nat.le_refl _)
   have ih : ∀ (i : Nat) (h : i < r.subs.length), Holds Try.prog 32 [A.agg (enc r.subs[i])] [] (Ret (.d (.lit (.int .i64 (rcnt r.subs[i] : Nat))))) := fun i h =>
    c32 n _ (by have := Zbc h; omega) (by omega) (hsub _ (List.getElem_mem h))
   refine w32 (enc r) ?_
   rw [enc1, enc2, enc3, enc4, enc5, Zaw, Zge r h0]
   refine ⟨teq6 r, Zae (c46 (hasX r)) ⟨_, rfl, rfl, fun x y => ∃ k : Nat, y = k /\ k <= r.subs.length /\ x = (cntN (hasX r) 256 + Zfw (r.subs.take k) : Nat), fun _ y => r.subs.length - y.toNat, ⟨0, rfl, Nat.zero_le _, rfl⟩, ?_, trivial⟩⟩
   rintro _ _ ⟨k, rfl, hk, rfl⟩
   refine ⟨rfl, fun hlt => ?_, fun hge2 => ?_⟩
   ·have hlt : k < r.subs.length := by have := Zax hlt; rw [Zab] at this; omega
    rw [Zaq (i := k) rfl hlt]
    have ht := Znd r.subs k hlt
    have hle : Zfw (r.subs.take (k + 1)) <= 256 * Zam (r.subs.take (k + 1)) := Zve _
    have hsl := Zgr r.subs (k + 1)
    have hcn := Zon (hasX r) 256
    refine ⟨tle (by omega), teq6 _, Zae (ih k hlt) ⟨_, rfl, rfl, tle (by omega), tle (by omega), tle (by omega), tle (by omega), ⟨k + 1, by omega, hlt, by omega⟩, ?_⟩⟩
    show r.subs.length - ((k : Int) + 1).toNat < r.subs.length - (k : Int).toNat
    omega
   ·have hge2 := Zan hge2
    rw [Zab] at hge2
    have : k = r.subs.length := by omega
    subst this
    rw [List.take_length, <- hrc]
    exact ⟨rfl, rfl⟩
theorem exT {Q2 : Value -> List (Ref × List A) -> Prop} {Q1 : A -> List (Ref × List A) -> Prop} (h : Q1 (Zhp true) []) :
 ∀ _ : Nat -> Nat, ∃ R' : Out -> List (Ref × List A) -> Prop, Holds Try.prog 14 [] [] R' /\ (∀ v H', R' (.ret v) H' -> Q1 v H') /\ (∀ u H', R' (.pan u) H' -> Q2 u H') := Zae c14 h
theorem c12 (r : Rx) (s : List UInt8) (hr : allX rangeOk r) : Holds Try.prog 12 [A.agg (enc r), A.d (.lit (Zaa s))] [] (Ret (Zhp true)) := by
 refine w12 (enc r) s ⟨teq6 r, Zae (c13 _ r 60 (Nat.le_refl _) (by decide)) ⟨_, rfl, rfl, fun _ => exT ⟨_, rfl, rfl, rfl, rfl⟩, fun h => ?_⟩⟩
 rw [Bool.or_eq_false_iff] at h
 have h1 := Zan h.1
 have h2 := Zan h.2
 have hs : size r <= 60 := by omega
 have hl : s.length <= 10 := by omega
 have h16 : Holds Try.prog 16 [A.agg (enc r)] [] (Ret (.d (.lit (.int .i64 (chk 1 r))))) := c16 r (Zij _ r (Nat.le_trans hs (by decide)) (Nat.le_refl _))
 have h31 := c31 r hr (Nat.le_trans hs (by decide))
 by_cases hc : chk 1 r = 0
 ·by_cases ht : (tx r 0).length <= 1000
  ·rw [if_pos ⟨hc, ht⟩] at h31
   have hok := Zj4 hr hc
   have hn := Zs2 _ r (Nat.le_refl _) hok
   refine Zae h31 ⟨_, _, rfl, rfl, Zae h16 ⟨_, rfl, rfl, fun h => absurd hc (nteq h), fun _ => ⟨fun h => absurd rfl (nteq h), fun _ => ?_⟩⟩⟩
   have h20 := c20 (tx r 0)
   rw [Z18 hr hc ht] at h20
   refine Zae h20 ⟨_, _, rfl, rfl, teq6 _, teq rfl, rfl, rfl, fun _ => ⟨null (derS (norm r) s), fun _ => c30 (norm r) s (by omega) (by rw [hn.sz]; omega) hn.ok, Zae (c30 r s (by omega) (by omega) hok) ⟨_, rfl, rfl, fun _ => exT ⟨_, rfl, rfl, rfl, rfl⟩, fun h => ?_⟩⟩, fun h => ?_⟩
   ·exfalso
    have : null (derS (norm r) s) = null (derS r s) := by
     rw [Bool.eq_iff_iff, Zj7, Zj7]; exact hn.lang s
    rw [this] at h
    simp at h
   ·rw [Bool.and_eq_false_iff] at h
    rcases h with h | h
    ·exact absurd rfl (Zag h)
    ·exact absurd rfl (Zag h)
  ·rw [if_neg (fun e => ht e.2), if_pos hc] at h31
   refine Zae h31 ⟨_, _, rfl, rfl, Zae h16 ⟨_, rfl, rfl, fun h => absurd hc (nteq h), fun _ => ⟨fun _ => ⟨fun _ => ⟨fun _ => ?_, fun h => (by simp at h)⟩, fun h => absurd rfl (Zag h)⟩, fun h => absurd (nfeq h) (by decide)⟩⟩⟩
   refine Zae (c13 _ r 24 (Nat.le_refl _) (by decide)) ⟨_, rfl, rfl, fun h24 => ?_, fun _ => exT ⟨_, rfl, rfl, rfl, rfl⟩⟩
   refine Zae (c32 _ r (Nat.le_refl _) (by omega) hr) ⟨_, rfl, rfl, fun _ => exT ⟨_, rfl, rfl, rfl, rfl⟩, fun h40 => ?_⟩
   exfalso
   have h40 := Zan h40
   have h24 : size r <= 24 := by
    have : ¬ ((24 : Int) < ((min (size r) (24 + 1) : Nat) : Int)) := by simpa using h24
    omega
   have := Zvc _ r (Nat.le_refl _) 0
   omega
 ·rw [if_neg (fun e => hc e.1), if_neg hc] at h31
  exact Zae h31 ⟨_, _, rfl, rfl, Zae h16 ⟨_, rfl, rfl, fun _ => ⟨fun _ => ⟨fun _ => exT ⟨_, rfl, rfl, rfl, rfl⟩, fun h => (by simp at h)⟩, fun h => absurd rfl (Zag h)⟩, fun h => absurd (nfeq h) hc⟩⟩
end Go.Rx
end
section
open Go Go.Proofs Go.Ab Go.Rf Go.ChangeShapes Go.WideShapes
set_option maxRecDepth 100000
namespace Go.Rx
theorem Z2h (os : Os) (started : os.Started) (H : Type) (en : TypeId × Value -> H) :
 ReturnsInHanded {} Try.checked os 12 .any (Ytedalcjkolcolaa.Rows.regexTextsSpec.pre6 en Try.prog Try.f12 Ytedalcjkolcolaa.Rows.regexTextsRow.domain false) (Ytedalcjkolcolaa.Rows.regexTextsSpec.post en Try.prog Try.f12 false true false false) := by
 refine returnsInHanded_of_change (C := Try.checked) own started (by kernel_rfl) Try.func12
  (ChangeSpec.witness6 (enc := en) (C := Try.checked) false ⟨#[], #[Z6w, .string ⟨#[]⟩], []⟩ 8 (by kernel_rfl) (by kernel_rfl) (by kernel_rfl) (by kernel_rfl)) ?_
 intro W base args ds gs before hval0 hW hcnd _
 have hval : ∀ (j : Nat) t v, Try.f12.params[j]? = some t -> args[j]? = some v -> Value.okWide Try.prog W .any base t v := hval0
 have hW' := hW
 obtain ⟨p, q, hA0, hV, rfl, hfz, hnd⟩ := hW
 have hA : DataW.TrodAll en Try.prog W 0 (fun _ => true) true Try.f12.params.toList args.toList ds p := hA0
 rw [Try.params12] at hA hval
 obtain ⟨v0, vs0, d0, ds0, p0, q0, hargs, rfl, rfl, h0, r0⟩ := trodAll_cons hA
 obtain ⟨v1, vs1, d1, ds1, p1, q1, rfl, rfl, rfl, h1, r1⟩ := trodAll_cons r0
 obtain ⟨rfl, rfl, rfl⟩ := trodAll_nil r1
 obtain rfl : args = #[v0, v1] := by cases args; simp_all
 obtain ⟨a0, k0, g0⟩ := Z6x (hval 0 27 v0 rfl rfl) h0
 obtain ⟨a1, k1⟩ := Z42 Try.underlying9 (hval 1 9 v1 rfl rfl) h1
 refine (Zst Try.func12 rfl rfl (Holds.out (c12 a0 a1 g0) (w := W) (cargs := #[v0, v1]) ⟨k0, k1, trivial⟩)).mono fun e W' ⟨cv, g', he, hc, hb⟩ => ?_
 have hc : cv = .bool true := by cases hc; rfl
 subst hc
 exact ⟨_, he, Z1i rfl hW' rfl rfl lay (by kernel_rfl) hb⟩
theorem regexTexts_holds : Ytedalcjkolcolaa.Rows.RegexTextsSaid :=
 OpenClaim.holds_of_wide 12 Try.f12 rfl rfl rfl rfl rfl rfl rfl ⟨rfl, rfl, rfl, rfl, rfl⟩ rfl rfl rfl rfl rfl (by kernel_rfl) Try.func12 (by kernel_rfl)
  (of_decide_eq_true (by kernel_rfl)) (by unfold Func.isWrapper; first | (rw [if_pos (by decide +kernel)]; kernel_rfl) | (rw [if_neg (by decide +kernel)]; exact ⟨rfl, rfl⟩))
  (fun os started H enc _ => Z2h os started H enc)
end Go.Rx
namespace Go.Proofs.Ytedalcjkolcolaa
theorem regexTexts_proved : Rows.RegexTextsSaid := Go.Rx.regexTexts_holds
end Go.Proofs.Ytedalcjkolcolaa
end
