/- Part 4 of the proof: RfDrawn, RfLatA, RfLat, RfFlow, RfLatB, RfLatS, RfFlowS, RfFn, RfRec, RfDef, RfJoin. -/
import Derived.KernelRfl
import Derived.Recover
import Derived.Test.YtedalcjkolcolaaJac
set_option linter.unusedVariables false
set_option linter.unusedSimpArgs false
section
namespace Go.Rf
open Go.Ab
def clos : List (List Nat) -> List Nat -> List Nat
 | [], L => L
 | d :: ds, L => clos ds (L ++ [d.foldl (fun a k => (a ||| (1 <<< k)) ||| L.getD k 0) 0])
def clOf (ops : Array Oper) : List Nat := clos ((List.range ops.size).map (Zbw ops)) []
theorem Zmw {L : List Nat} {j : Nat} : ∀ {d : List Nat} {a : Nat}, (d.foldl (fun a k => (a ||| (1 <<< k)) ||| L.getD k 0) a).testBit j = true -> a.testBit j = true \/ j ∈ d \/ ∃ k ∈ d, (L.getD k 0).testBit j = true
 | [], a, h => .inl h
 | k :: d, a, h => by
   rcases Zmw (d := d) h with h | h | ⟨q, h1, h2⟩
   ·rw [Nat.testBit_or, Nat.testBit_or, Bool.or_eq_true, Bool.or_eq_true] at h
    rcases h with (h | h) | h
    ·exact .inl h
    ·rw [Nat.one_shiftLeft, Nat.testBit_two_pow] at h
     exact .inr (.inl (by rw [<- of_decide_eq_true h]; exact List.mem_cons_self ..))
    ·exact .inr (.inr ⟨k, List.mem_cons_self .., h⟩)
   ·exact .inr (.inl (List.mem_cons_of_mem _ h))
   ·exact .inr (.inr ⟨q, List.mem_cons_of_mem _ h1, h2⟩)
theorem Zn1 : ∀ (ds : List (List Nat)) (L : List Nat) (i : Nat), i < L.length -> (clos ds L).getD i 0 = L.getD i 0
 | [], _, _, _ => rfl
 | d :: ds, L, i, h => by
   unfold clos
   rw [Zn1 ds _ i (by simp; omega)]
   simp [List.getD, List.getElem?_append_left h]
theorem Zp1 : ∀ (ds : List (List Nat)) (L : List Nat) (i j : Nat), L.length <= i -> ((clos ds L).getD i 0).testBit j = true -> ∃ d, ds[i - L.length]? = some d /\ (j ∈ d \/ ∃ k ∈ d, ((clos ds L).getD k 0).testBit j = true)
 | [], L, i, j, hi, h => by
   unfold clos at h
   rw [List.getD, List.getElem?_eq_none (by omega)] at h
   simp at h
 | d :: ds, L, i, j, hi, h => by
   unfold clos at h ⊢
   by_cases e : i = L.length
   ·subst e
    refine ⟨d, by simp, ?_⟩
    rw [Zn1 _ _ _ (by simp)] at h
    simp only [List.getD, List.getElem?_concat_length, Option.getD_some] at h
    rcases Zmw (L := L) (by simpa [List.getD] using h) with h | h | ⟨k, h1, h2⟩
    ·simp at h
    ·exact .inl h
    ·right
     refine ⟨k, h1, ?_⟩
     have hk : k < L.length := Nat.lt_of_not_le fun hle => by
      rw [List.getD, List.getElem?_eq_none hle] at h2
      simp at h2
     rw [Zn1 _ _ _ (by simp; omega)]
     simpa [List.getD, List.getElem?_append_left hk] using h2
   ·obtain ⟨d', h1, h2⟩ := Zp1 ds (L ++ [d.foldl (fun a k => (a ||| (1 <<< k)) ||| L.getD k 0) 0]) i j (by simp; omega) h
    refine ⟨d', ?_, h2⟩
    rw [List.length_append, List.length_singleton] at h1
    have : i - L.length = (i - (L.length + 1)) + 1 := by omega
    rw [this]
    simpa using h1
def preP (ops : Array Oper) (i j : Nat) : Prop := ((clOf ops).getD i 0).testBit j = true
theorem Zh8 {ops : Array Oper} (i j : Nat) (h : preP ops i j) : j ∈ Zbw ops i \/ ∃ k ∈ Zbw ops i, preP ops k j := by
 obtain ⟨d, h1, h2⟩ := Zp1 _ [] i j (Nat.zero_le _) h
 simp only [List.length_nil, Nat.sub_zero, List.getElem?_map, Option.map_eq_some_iff] at h1
 obtain ⟨i', h3, rfl⟩ := h1
 have : i' = i := by
  obtain ⟨_, h4⟩ := List.getElem?_eq_some_iff.1 h3
  simp at h4; exact h4.symm
 subst this
 exact h2
def Zh9 (ops : Array Oper) (m : Nat) : List Nat := (List.range m).map (Zsb ops)
def Zty (ops : Array Oper) (cl : List Nat) (m : Nat) : Bool :=
 Nat.ble m ops.size && ((List.range ops.size).all (fun i => (Zbw ops i).all fun j => Nat.blt j i)) && ((List.range ops.size).all fun i => Nat.blt (cl.getD i 0) (2 ^ i)) &&
  ((List.range ops.size).all fun i => Nat.blt i m || cl.getD i 0 == 2 ^ i - 1) && decide (Zh9 ops m).Nodup
def wrAt : List Nat -> Nat -> Nat -> Option Nat
 | [], _, _ => none
 | d :: l, t, i => if d = t then some i else wrAt l t (i + 1)
theorem Zx9 : ∀ {l : List Nat} {t i j : Nat}, l.Nodup -> l[j]? = some t -> wrAt l t i = some (i + j)
 | d :: l, t, i, 0, _, h => by simp at h; simp [wrAt, h]
 | d :: l, t, i, j + 1, hn, h => by
   simp only [List.nodup_cons] at hn
   simp only [List.getElem?_cons_succ] at h
   have : d ≠ t := fun e => hn.1 (e ▸ List.mem_of_getElem? h)
   unfold wrAt
   rw [if_neg this, Zx9 hn.2 h]
   congr 1; omega
def Zp2 (ds : List Nat) (c : Nat) (l : List Nat) : Bool := l.all fun t => match wrAt ds t 0 with | some j => c.testBit j | none => true
def DP (C : Ctx) (ops : Array Oper) (cl ds : List Nat) (m : Nat) (Q : Ex -> St -> Prop) : List Oper -> Nat -> St -> Prop
 | [], _, s => AO C ops (List.range' m (ops.size - m)) Q s
 | o :: l, k, s => ∃ d l' s', o.dst = some d /\ Ab.Loc C ops k d l' s s' /\ Zp2 ds (cl.getD k 0) l' = true /\ DP C ops cl ds m Q l (k + 1) s'
theorem Ztz {C : Ctx} {ops : Array Oper} {cl ds : List Nat} {m : Nat} {Q : Ex -> St -> Prop} : ∀ (l : List Oper) (k : Nat) (s : St), (∀ j, j < l.length -> l[j]? = ops[k + j]?) -> DP C ops cl ds m Q l k s ->
 ∃ (S : Nat -> St) (F : Nat -> List Nat), S k = s /\ (∀ i, k <= i -> i < k + l.length -> Ab.Loc C ops i (Zsb ops i) (F i) (S i) (S (i + 1)) /\ Zp2 ds (cl.getD i 0) (F i) = true) /\ AO C ops (List.range' m (ops.size - m)) Q (S (k + l.length))
 | [], k, s, _, h => ⟨fun _ => s, fun _ => [], rfl, (fun i h1 h2 => by simp at h2; omega), h⟩
 | o :: l, k, s, hl, h => by
   have h0 : ops[k]? = some o := by simpa using (hl 0 (by simp)).symm
   have hl' : ∀ j, j < l.length -> l[j]? = ops[k + 1 + j]? := fun j hj => by
    have := hl (j + 1) (by simpa using hj)
    simpa [Nat.add_assoc, Nat.add_comm 1 j] using this
   obtain ⟨d, T0, s', hd, h1, h2, h3⟩ := h
   obtain ⟨S, F, e, h4, h5⟩ := Ztz l (k + 1) s' hl' h3
   have hk : Zsb ops k = d := by simp [Zsb, h0, hd]
   refine ⟨fun i => if i = k then s else S i, fun i => if i = k then T0 else F i, by simp, fun i hi1 hi2 => ?_, ?_⟩
   ·by_cases hik : i = k
    ·subst hik
     simp only [if_true, Nat.succ_ne_self, if_false, e, hk]
     exact ⟨h1, h2⟩
    ·have := h4 i (by omega) (by simp at hi2; omega)
     simp only [hik, if_false, show i + 1 ≠ k by omega]
     exact this
   ·simp only [List.length_cons, show k + (l.length + 1) ≠ k by omega, if_false]
    rwa [show k + (l.length + 1) = k + 1 + l.length by omega]
theorem Z7h {C : Ctx} (hm : C.P.follows .mixedOrders = true) {id : Nat} {ops : Array Oper} {Q : Ex -> St -> Prop} {s : St} {m : Nat} (hc : Zty ops (clOf ops) m = true)
 (h : DP C ops (clOf ops) (Zh9 ops m) m Q (ops.toList.take m) 0 s) : AW C (.region id ops true) Q s := by
 simp only [Zty, Bool.and_eq_true, Nat.ble_eq, List.all_eq_true, List.mem_range, Nat.blt_eq, Bool.or_eq_true, beq_iff_eq, decide_eq_true_eq] at hc
 obtain ⟨⟨⟨⟨h1, h2⟩, h3⟩, h4⟩, hnd⟩ := hc
 have hlen : (ops.toList.take m).length = m := by simp; omega
 obtain ⟨S, F, e, h5, h6⟩ := Ztz (ops.toList.take m) 0 s (fun j hj => by rw [hlen] at hj; simp [hj]) h
 rw [hlen, Nat.zero_add] at h6
 subst e
 have hdir : ∀ i j, j ∈ Zbw ops i -> j < i := fun i j hj => by
  by_cases hi : i < ops.size
  ·exact h2 i hi j hj
  ·unfold Zbw at hj
   rw [Array.getElem?_eq_none (by omega)] at hj
   cases hj
 have hcllen : ∀ (ds : List (List Nat)) (L : List Nat), (clos ds L).length = L.length + ds.length := by
  intro ds
  induction ds with
  | nil => intro L; rfl
  | cons d ds ih => intro L; unfold clos; rw [ih]; simp; omega
 have hplt : ∀ i j, preP ops i j -> j < i := fun i j hj => by
  by_cases hi : i < ops.size
  ·refine Nat.lt_of_not_le fun hle => ?_
   have := Nat.testBit_lt_two_pow (Nat.lt_of_lt_of_le (h3 i hi) (Nat.pow_le_pow_right (by decide) hle))
   unfold preP at hj
   rw [this] at hj; cases hj
  ·unfold preP at hj
   rw [List.getD, List.getElem?_eq_none (by unfold clOf; rw [hcllen]; simp; omega)] at hj
   simp at hj
 have hds : (Zh9 ops m).length = m := by simp [Zh9]
 have hget : ∀ i (h : i < (Zh9 ops m).length), (Zh9 ops m)[i] = Zsb ops i := fun i h => by simp [Zh9]
 refine Zx8 hm m (Zh9 ops m) S F (preP ops) hds hnd Zh8 (fun i hi t ht j hj => ?_) hplt (fun i hi => ?_) (fun i hi hio j hji => ?_) hdir h1 h6
 ·have h7 := (h5 i (Nat.zero_le _) (by rw [hlen]; omega)).2
  have h8 := List.all_eq_true.1 h7 t ht
  rw [Zx9 hnd hj] at h8
  simp only [Nat.zero_add] at h8
  exact h8
 ·rw [hget]
  exact (h5 i (Nat.zero_le _) (by rw [hlen]; omega)).1
 ·rcases h4 i hio with h | h
  ·omega
  ·unfold preP
   rw [h, Nat.testBit_two_pow_sub_one]
   exact decide_eq_true hji
def Z4c (cl : List Nat) : Nat -> Nat
 | 0 => 0
 | k + 1 => if cl.getD k 0 == 2 ^ k - 1 then Z4c cl k else k + 1
def Z4d : RA -> List Nat
 | .als u => [u]
 | .opt u _ _ _ => [u]
 | .ptr (.own t) _ => [t]
 | .gv _ v => Z4d v
 | _ => []
def Zya (ops : Array Oper) (rs : RSt) (o : Oper) : Option (List Nat) :=
 let la := o.looksAt ops
 if la.all (fun t => match rs.tm.get t with | .any => false | _ => true) then some (la ++ la.flatMap fun t => Z4d (rs.tm.get t)) else none
def Zt0 (c : Cfg) (ops : Array Oper) (rs : RSt) (o : Oper) (q : Call) (Kr : RSt -> T) : T :=
 match o.dst, q.callee with
 | some d, .value fx => (match rev rs fx, Zv1 rs q.args.toList with
   | .fn F caps, some vals => (match Zd8 rs.K (Zmv rs.K 64 (vals.flatMap Ztt ++ caps) []) with
     | some bx => (match Znw c {} F rs.nv with
       | some (res, k1) =>
         if rs.lt && decide ((bx.map (·.1)).Nodup) && res.okRes && vals.all RA.plain && bx.all (fun x => x.2.all RA.okCell) && (bx.all fun x => match x.1 with | .own t => (o.looksAt ops).any (fun u => match rs.tm.get u with | .ptr (.own t') _ => t' == t | _ => false) | .up _ => true) then
          .dcall F vals caps bx rs.nv k1 res (Kr ({ rs with nv := rs.nv + k1.length }.put d res))
         else .bad 40
       | none => .bad 41)
     | none => .bad 42)
   | _, _ => .bad 43)
 | _, _ => .bad 44
def Zi6 (c : Cfg) (op : Opt) (ops : Array Oper) (cl ds : List Nat) (m : Nat) (K : Re -> RSt -> T) : List Oper -> Nat -> RSt -> T
 | [], _, rs => opsT c op ops K (ops.toList.drop m) rs
 | o :: l, k, rs => match o.dst, Zpv ops rs o, Zya ops rs o with
   | some d, some G, some looks =>
     if d < c.N /\ Zp2 ds (cl.getD k 0) looks = true then
      if G.isF then Zi6 c op ops cl ds m K l (k + 1) (rs.put d (.tup []))
      else match Zkz c G rs o d with
       | some (n, .val v) => if v.ali ≠ some d then asks G n rs (fun rs0 => Zi6 c op ops cl ds m K l (k + 1) ({ rs with known := rs0.known }.put d (if G.isT then v else .gv G v))) else .bad 50
       | some (n, .sel i vs) => if G.isT then asks (.bool true) n rs (fun rs0 => selT i (fun rs1 v => Zi6 c op ops cl ds m K l (k + 1) (rs1.put d v)) 0 vs { rs with known := rs0.known }) else .bad 51
       | none =>
         if G.isT then
          (match rnew c rs o with
          | some (n, cs) => if cs.all fun x => !x.names d && x.okCell then asks (.bool true) n rs (fun rs0 => Zi6 c op ops cl ds m K l (k + 1) ({ rs with known := rs0.known }.alloc d cs)) else .bad 52
          | none => (match o.op with
            | .call q => Zt0 c ops rs o q (Zi6 c op ops cl ds m K l (k + 1))
            | _ => .bad 53))
         else (match o.op with
          | .call q => .fork G (Zt0 c ops (rs.assume G true) o q (Zi6 c op ops cl ds m K l (k + 1))) (Zi6 c op ops cl ds m K l (k + 1) ((rs.assume G false).put d (.tup [])))
          | _ => .bad 54)
     else .bad 55
   | _, _, _ => .bad 56
section
variable {ρ : Env} {m : Nm} {rs : RSt} {s : St} {P : Program} {up : Nat -> Ref} {R : Out -> List (Ref × List A) -> Prop} {σ : Sig}
theorem Zp3 {gen : Nat -> Nat} : ∀ {x : RA} {t : Nat}, t ∈ (x.den ρ m gen).deps -> t ∈ Z4d x
 | .gv g v, t, h => by
   simp only [RA.den] at h
   split at h
   ·exact Zp3 (x := v) h
   ·cases h
 | .als u, t, h | .opt u _ _ _, t, h => h
 | .ptr (.own u) o, t, h => h
 | .ptr (.up u) o, t, h => by cases h
 | .any, t, h | .c _, t, h | .agg _, t, h | .tup _, t, h | .elp _ _, t, h | .own _ _ _, t, h | .zs _, t, h | .fn _ _, t, h => by cases h
theorem Zyb {ops : Array Oper} {o : Oper} {l : List Nat} (hd : Den ρ m rs s) (h : Zya ops rs o = some l) : ∀ t ∈ Zck ops s o, t ∈ l := by
 unfold Zya at h
 simp only at h
 split at h
 ·rename_i hall
  cases h
  intro t ht
  rcases List.mem_append.1 ht with ht | ht
  ·exact List.mem_append_left _ ht
  ·obtain ⟨u, hu, h2⟩ := List.mem_flatMap.1 ht
   refine List.mem_append_right _ (List.mem_flatMap.2 ⟨u, hu, ?_⟩)
   have h3 := List.all_eq_true.1 hall u hu
   have h4 : s.tm u = (rs.tm.get u).den ρ m s.gen := (hd.tm u).resolve_left (by intro e; rw [e] at h3; cases h3)
   rw [h4] at h2
   exact Zp3 h2
 ·cases h
theorem Zv5 {ds l l' : List Nat} {c : Nat} (h : Zp2 ds c l = true) (hs : ∀ t ∈ l', t ∈ l) : Zp2 ds c l' = true := List.all_eq_true.2 fun t ht => List.all_eq_true.1 h t (hs t ht)
theorem Zt1 {c : Cfg} {ops : Array Oper} {C : Ctx} (hP : C.P = c.P) (hN : C.N = c.N) {k : Nat} {o : Oper} {d : Nat} {q : Call} (h0 : ops[k]? = some o) (hdst : o.dst = some d) (hlt : d < c.N) (hop : o.op = .call q) (hw : Za8 ops s o = some true) {Kr : RSt -> T}
 (hu : m.up = up) (hd : Den ρ m rs s) (h : (Zt0 c ops rs o q Kr).den c.P up R ρ σ) :
 ∃ v x ρ' kn, Agr rs.nv ρ ρ' /\ Ab.Loc C ops k d (Zck ops s o) s (s.put d v) /\ Den ρ' m ({ rs with nv := rs.nv + kn }.put d x) (s.put d v) /\ (Kr ({ rs with nv := rs.nv + kn }.put d x)).den c.P up R ρ' σ := by
 unfold Zt0 at h
 split at h
 ·rename_i d' fx hdst' hcal
  rw [hdst] at hdst'
  cases hdst'
  split at h
  ·rename_i F caps vals hfx hvals
   split at h
   ·rename_i bx hbx
    split at h
    ·rename_i res k1 hres
     split at h
     ·rename_i hc
      simp only [Bool.and_eq_true, decide_eq_true_eq] at hc
      obtain ⟨⟨⟨⟨⟨hlt0, hnd⟩, hokr⟩, hpl⟩, hok⟩, hlk⟩ := hc
      unfold T.den at h
      obtain ⟨ρ', hag, hh, hk⟩ := Zgn h
      have hm : (⟨up, m.ν⟩ : Nm) = m := by rw [<- hu]
      have hh := hh m.ν
      rw [hm] at hh
      have hin := Zc7 hbx
      have hsub : ∀ x ∈ bx, x.1 ∈ rs.K.map (·.1) := fun x hx => List.mem_map.2 ⟨_, Zcx (hin x hx), rfl⟩
      have hH : ∀ x ∈ Zad ρ m bx, s.K x.1 = some x.2 := fun x hx => by
       obtain ⟨y, hy, rfl⟩ := List.mem_map.1 hx
       exact hd.look (hin y hy)
      have hHn : ((Zad ρ m bx).map (·.1)).Nodup := by
       have : (Zad ρ m bx).map (·.1) = (bx.map (·.1)).map (RRef.den m) := by simp [Zad, Function.comp_def]
       rw [this]
       refine List.pairwise_map.2 (List.Pairwise.imp_of_mem (fun {x y} hx hy hxy e => hxy ?_) hnd)
       obtain ⟨x', hx', rfl⟩ := List.mem_map.1 hx
       obtain ⟨y', hy', rfl⟩ := List.mem_map.1 hy
       exact Zdg hd.nd (hsub _ hx') (hsub _ hy') e
      have hplain : ∀ x ∈ Zad ρ m bx, ∀ y ∈ x.2, y.plain = true := fun x hx y hy => by
       obtain ⟨z, hz, rfl⟩ := List.mem_map.1 hx
       obtain ⟨w, hw, rfl⟩ := List.mem_map.1 hy
       exact Zek (List.all_eq_true.1 (List.all_eq_true.1 hok z hz) w hw)
      have hcall : o.op = .call { callee := .value fx, args := q.args, argTypes := q.argTypes } := by rw [hop, <- hcal]
      have hfx' : s.ev fx = .fn F (caps.map (RRef.den m)) := by
       have := Zc6 hd (x := fx) (by rw [hfx]; intro e; cases e)
       rw [hfx] at this; exact this
      obtain ⟨hb, hali, hgen⟩ := Zi5 (ρ := ρ') (m := m) (gen := s.gen) hokr
      have e1 : (vals.map fun x => x.den ρ m s.gen).map A.lift = vals.map fun a => (a.den ρ m gen0).lift := by
       rw [List.map_map]
       refine List.map_congr_left fun x hx => ?_
       have := Zh7 (List.all_eq_true.1 hpl x hx)
       show A.lift (x.den ρ m s.gen) = _
       rw [RA.den_gen (gen := gen0) (gen' := s.gen) fun t ht => by rw [this] at ht; cases ht]
      have hloc := Z0h (C := C) (ops := ops) (i := k) (H := Zad ρ m bx) (v := res.den ρ' m gen0) (v' := res.den ρ' m gen0) h0 hdst (by rw [hN]; exact hlt) hw hcall hfx' (Zjz hd hvals) hH hHn hplain
       (fun x hx t n e => by
        obtain ⟨y, hy, rfl⟩ := List.mem_map.1 hx
        have h5 := List.all_eq_true.1 hlk y hy
        cases hy1 : y.1 with
        | own t' =>
          rw [hy1] at h5
          have e2 : (RRef.own t').den m = .own t n := by rw [<- hy1]; exact e
          simp only [RRef.den, Ref.own.injEq] at e2
          rw [<- e2.1]
          obtain ⟨u, hu1, hu2⟩ := List.any_eq_true.1 h5
          split at hu2
          ·rename_i t2 o2 he2
           have e3 : t2 = t' := by simpa using hu2
           subst e3
           have h4 := (hd.tm u).resolve_left (by rw [he2]; intro e; cases e)
           rw [he2] at h4
           refine List.mem_append_right _ (List.mem_flatMap.2 ⟨u, hu1, ?_⟩)
           rw [h4]
           simp [RA.den, RRef.den, A.deps]
          ·cases hu2
        | up k =>
          have e2 : (RRef.up k).den m = .own t n := by rw [<- hy1]; exact e
          cases e2)
       (by rw [hP, e1, List.map_map]; exact hh) (by rw [<- hgen]; exact hb)
      refine ⟨res.den ρ' m gen0, res, ρ', k1.length, hag, hloc, ?_, hk⟩
      have hd2 := hd.agr hag hlt0
      have hd3 : Den ρ' m { rs with nv := rs.nv + k1.length } s := ⟨hd2.tm, hd2.al, hd2.K, hd2.nd, hd2.known⟩
      exact hd3.put (by rw [hali]; intro e; cases e) (.inr hgen.symm)
     ·unfold T.den at h; exact h.elim
    ·unfold T.den at h; exact h.elim
   ·unfold T.den at h; exact h.elim
  ·unfold T.den at h; exact h.elim
 ·unfold T.den at h; exact h.elim
end
end Go.Rf
end
section
namespace Go.Ab
open Classical
theorem Z2o {C : Ctx} {ops : Array Oper} {id : Nat} {Q : Ex -> St -> Prop} {s0 : St} (hm : C.P.follows .mixedOrders = true) (m : Nat) (pre : Nat -> Nat -> Prop) (Inv : Nat -> St -> Prop)
 (hpre : ∀ i j, pre i j -> j ∈ Zbw ops i \/ ∃ k ∈ Zbw ops i, pre k j) (hlt : ∀ i j, pre i j -> j < i)
 (hsuf : ∀ i, m <= i -> i < ops.size -> ∀ j < m, pre i j) (hdir : ∀ i j, j ∈ Zbw ops i -> j < i) (hsz : m <= ops.size) (h0 : Inv 0 s0)
 (hstep : ∀ (L : Nat) (s : St) (i : Nat), Inv L s -> i < m -> L.testBit i = false -> (∀ j ∈ Zbw ops i, L.testBit j = true) -> ∀ g a w, Rel C s g a w ->
  wpOp C.P ops (Qc C Q) i (fun a w => ∃ s' g', Rel C s' g' a w /\ Inv (L ||| 1 <<< i) s') a w)
 (hend : ∀ s, Inv (2 ^ m - 1) s -> ∀ g a w (listed : Array Bool), listed.size = ops.size -> (∀ j, listed.getD j false = decide (j < m)) -> Rel C s g a w -> wpAny C.P .any ops (Qc C Q) (ops.size - m) listed a w) : AW C (.region id ops true) Q s0 := by
 have main : ∀ (U : List Nat) (L : Nat) (listed : Array Bool) (u : St) (g : Gh) (a : Act) (w : World), U.Nodup -> (∀ i ∈ U, i < m) -> listed.size = ops.size ->
  (∀ j, listed.getD j false = true ↔ j < m /\ j ∉ U) -> (∀ j, L.testBit j = true ↔ j < m /\ j ∉ U) -> (∀ j, listed.getD j false = true -> ∀ k, pre j k -> listed.getD k false = true) ->
  Inv L u -> Rel C u g a w -> wpAny C.P .any ops (Qc C Q) (U.length + (ops.size - m)) listed a w := by
  intro U
  induction hn : U.length generalizing U with
  | zero =>
    intro L listed u g a w _ _ hlsz hl hL _ hI hR
    have hU : U = [] := List.eq_nil_of_length_eq_zero hn
    subst hU
    have hLe : L = 2 ^ m - 1 := by
     refine Nat.eq_of_testBit_eq fun j => ?_
     rw [Nat.testBit_two_pow_sub_one]
     have := hL j
     simp at this
     by_cases hj : j < m
     ·simp [hj] at this ⊢; exact this
     ·simp [hj] at this ⊢; exact this
    subst hLe
    rw [Nat.zero_add]
    refine hend u hI g a w listed hlsz (fun j => ?_) hR
    have := hl j
    simp at this
    by_cases hj : j < m
    ·simp [hj] at this ⊢; exact this
    ·simp [hj] at this ⊢; exact this
  | succ n ih =>
    intro L listed u g a w hUnd hUlt hlsz hl hL hclosed hI hR
    rw [Nat.succ_add]
    have hne : U ≠ [] := fun e => by subst e; cases hn
    refine ⟨fun hnil => ?_, fun i hi => ?_⟩
    ·exfalso
     obtain ⟨x, hx⟩ := List.exists_mem_of_ne_nil _ hne
     obtain ⟨i, hmin, hbelow⟩ := Z59 x hx
     have hid := hUlt i hmin
     have : i ∈ Region.ready .any ops listed := by
      rw [mem_ready]
      have hio : i < ops.size := by omega
      refine ⟨?_, ops[i], Array.getElem?_eq_getElem hio, fun e he hb => ?_⟩
      ·have h1 : ¬ listed.getD i false = true := fun h1 => ((hl i).1 h1).2 hmin
       simp [hlsz, hio] at h1 ⊢
       exact h1
      ·have h2 : e.on ∈ Zbw ops i := by
        unfold Zbw
        rw [Array.getElem?_eq_getElem hio]
        exact List.mem_map.2 ⟨e, List.mem_filter.2 ⟨by simpa using he, hb⟩, rfl⟩
       have h3 := hdir i _ h2
       exact (hl _).2 ⟨by omega, hbelow _ h3⟩
     rw [hnil] at this
     cases this
    ·rw [mem_ready] at hi
     obtain ⟨h1, o, ho, h2⟩ := hi
     have hio : i < ops.size := (Array.getElem?_eq_some_iff.1 ho).1
     have hdl : ∀ j ∈ Zbw ops i, listed.getD j false = true := fun j hj => by
      unfold Zbw at hj
      rw [ho] at hj
      obtain ⟨e, he, rfl⟩ := List.mem_map.1 hj
      have h3 := List.mem_filter.1 he
      exact h2 e (by simpa using h3.1) h3.2
     have hnl : ¬ listed.getD i false = true := by
      simp [hlsz, hio] at h1 ⊢
      exact h1
     have hid : i < m := Nat.lt_of_not_le fun hle => by
      obtain ⟨x, hx⟩ := List.exists_mem_of_ne_nil _ hne
      have hxl := hUlt x hx
      rcases hpre i x (hsuf i hle hio x hxl) with h5 | ⟨q, h5, h6⟩
      ·exact ((hl x).1 (hdl x h5)).2 hx
      ·exact ((hl x).1 (hclosed q (hdl q h5) x h6)).2 hx
     have hiU : i ∈ U := Classical.byContradiction fun hi => hnl ((hl i).2 ⟨hid, hi⟩)
     have hpl : ∀ k, pre i k -> listed.getD k false = true := fun k hk => by
      rcases hpre i k hk with h3 | ⟨j, h3, h4⟩
      ·exact hdl k h3
      ·exact hclosed j (hdl j h3) k h4
     have hlen : (U.erase i).length = n := by rw [List.length_erase_of_mem hiU]; omega
     have hLi : L.testBit i = false := by
      cases h : L.testBit i with
      | false => rfl
      | true => exact absurd hiU ((hL i).1 h).2
     refine wpOp_mono (fun a' w' hk => ?_) (hstep L u i hI hid hLi (fun j hj => (hL j).2 ((hl j).1 (hdl j hj))) g a w hR)
     obtain ⟨s', g', hR', hI'⟩ := hk
     refine ih (U.erase i) hlen (L ||| 1 <<< i) _ s' g' a' w' (hUnd.erase i) (fun j hj => hUlt j (List.mem_of_mem_erase hj)) (by simpa using hlsz) (fun j => ?_) (fun j => ?_) (fun j hj k hk => ?_) hI' hR'
     ·by_cases hji : j = i
      ·subst hji
       simp [hlsz, hio, hid, hUnd.mem_erase_iff]
      ·rw [getD_set_ne false (Ne.symm hji), hl, hUnd.mem_erase_iff]
       simp [hji]
     ·rw [Nat.testBit_or, Nat.one_shiftLeft, Nat.testBit_two_pow]
      by_cases hji : j = i
      ·subst hji
       simp [hid, hUnd.mem_erase_iff]
      ·have hij : ¬ i = j := fun e => hji e.symm
       rw [decide_eq_false hij, Bool.or_false, hL, hUnd.mem_erase_iff]
       simp [hji]
     ·by_cases hji : j = i
      ·subst hji
       exact getD_set_true (hpl k hk)
      ·rw [getD_set_ne false (Ne.symm hji)] at hj
       exact getD_set_true (hclosed j hj k hk)
 intro g a w hR
 refine wp_region_any hm ?_
 have hR' : Rel C s0 g a { w with drawn := w.drawn + 1 } := hR.ext (Ext.drawn w _)
 have hrep : ∀ j, ¬ (Array.replicate ops.size false).getD j false = true := fun j => by
  simp only [Array.getD_eq_getD_getElem?, Array.getElem?_replicate]
  split <;> simp
 have := main (List.range m) 0 (Array.replicate ops.size false) s0 g a _ List.nodup_range (fun i hi => List.mem_range.1 hi) (by simp) (fun j => ⟨fun hj => absurd hj (hrep j), fun hj => absurd (List.mem_range.2 hj.1) hj.2⟩)
  (fun j => ⟨fun hj => by simp at hj, fun hj => absurd (List.mem_range.2 hj.1) hj.2⟩) (fun j hj => absurd hj (hrep j)) h0 hR'
 rw [List.length_range] at this
 rwa [show m + (ops.size - m) = ops.size by omega] at this
theorem Rel.dropCells {C : Ctx} {s : St} {g : Gh} {a : Act} {w : World} (h : Rel C s g a w) {K' : Ref -> Option (List A)} (hK : ∀ r c', K' r = some c' -> ∃ c, s.K r = some c /\ c'.length = c.length /\ ∀ (j : Nat) (x : A), c'[j]? = some x -> x = A.any \/ c[j]? = some x) :
 Rel C { s with K := K' } g a w := by
 have old : ∀ {o b}, Owns { s with K := K' } g o b -> Owns s g o b := fun {o b} ho => by
  cases ho with
  | box h1 => obtain ⟨c, h2, _⟩ := hK _ _ h1; exact .box h2
  | slot h1 => exact .slot h1
  | cell h1 h2 h3 =>
    obtain ⟨c, h4, _, h5⟩ := hK _ _ h1
    rcases h5 _ _ h2 with e | e
    ·rw [e] at h3; cases h3
    ·exact .cell h4 e h3
 refine ⟨h.defers, h.size, h.slot, h.als, h.opt, ?_⟩
 refine ⟨fun r c' hc => ?_, fun o o' b h1 h2 => h.heap.inj o o' b (old h1) (old h2), fun o b h1 => h.heap.wr o b (old h1), h.heap.prs, h.heap.pr0, h.heap.prn, h.heap.up, h.heap.uu, h.heap.fr⟩
 obtain ⟨c, h1, h2, h3⟩ := hK r c' hc
 obtain ⟨cs, k1, k2, k3, k4, k5⟩ := h.heap.box r c h1
 refine ⟨cs, k1, by rw [k2, h2], fun j x hx => ?_, k4, k5⟩
 rcases h3 j x hx with e | e
 ·subst e
  have hj : j < c.length := by rw [<- h2]; exact (List.getElem?_eq_some_iff.1 hx).1
  exact ⟨rfl, cs[j]'(by omega), by simp, trivial⟩
 ·exact k3 j x e
theorem Zyc {C : Ctx} {ops : Array Oper} {s s' : St} {i : Nat} {o : Oper} (ho : ops[i]? = some o) (hw : Za8 ops s o = some true) (he : OpOk C o s s') {g : Gh} {a : Act} {w : World} (hR : Rel C s g a w)
 {K : Act -> World -> Prop} {Q : Exit -> Act -> World -> Prop} (hK : ∀ g' a' w', Rel C s' g' a' w' -> K a' w') : wpOp C.P ops Q i K a w := by
 simp only [wpOp, ho, Zdz hR hw, if_true]
 exact .inl (he g a w hR _ _ hK)
theorem Zyd {C : Ctx} {ops : Array Oper} {s : St} {i : Nat} {o : Oper} (ho : ops[i]? = some o) (hw : Za8 ops s o = some false) (hN : ∀ d, o.dst = some d -> d < C.N) {g : Gh} {a : Act} {w : World} (hR : Rel C s g a w)
 {K : Act -> World -> Prop} {Q : Exit -> Act -> World -> Prop} (hK : ∀ g' a' w', Rel C (s.undef o.dst) g' a' w' -> K a' w') : wpOp C.P ops Q i K a w := by
 simp only [wpOp, ho, Zdz hR hw, Bool.false_eq_true, if_false]
 refine hK g _ w ?_
 cases hd : o.dst with
 | none => exact hR
 | some d => exact hR.put (hN d hd) rfl ⟨[], rfl, trivial⟩ (fun t n e => by cases e) (fun t n sz i j e => by cases e)
end Go.Ab
end
section
namespace Go.Rf
open Go.Ab
def RA.beq : RA -> RA -> Bool
 | .any, .any => true
 | .c a, .c b => a.beq b
 | .agg a, .agg b => a.beq b
 | .ptr r o, .ptr q u => decide (r = q) && o == u
 | .elp a o, .elp b u => a.beq b && o == u
 | .own z a b, .own y a2 b2 => z == y && (a.beq a2 && b.beq b2)
 | .zs a, .zs b => a.beq b
 | .fn f l, .fn g k => f == g && decide (l = k)
 | .als t, .als u => t == u
 | .opt t z i j, .opt u y k n => t == u && (z == y && (i.beq k && j == n))
 | .tup l, .tup k => l.length == k.length && ((l.zip k).all fun x => x.1.1 == x.2.1 && x.1.2.beq x.2.2)
 | .gv g v, .gv h w => g.beq h && v.beq w
 | _, _ => false
theorem Z2p : ∀ {l k : List (Bool × E)}, l.length = k.length -> ((l.zip k).all fun x => x.1.1 == x.2.1 && x.1.2.beq x.2.2) = true -> l = k
 | [], [], _, _ => rfl
 | (a, e) :: l, (b, f) :: k, h, hz => by
   simp only [List.zip_cons_cons, List.all_cons, Bool.and_eq_true, beq_iff_eq] at hz
   rw [hz.1.1, E.beq_eq hz.1.2, Z2p (l := l) (k := k) (by simpa using h) hz.2]
theorem RA.beq_eq : ∀ {a b : RA}, a.beq b = true -> a = b := by
 intro a
 induction a with
 | gv g v ih =>
   intro b h
   cases b <;> simp [RA.beq] at h
   rw [E.beq_eq h.1, ih h.2]
 | tup l =>
   intro b h
   cases b <;> simp only [RA.beq, Bool.and_eq_true, beq_iff_eq] at h <;> try (cases h; done)
   rw [Z2p h.1 h.2]
 | _ =>
   intro b h
   cases b <;> simp [RA.beq] at h <;> first
    | rfl
    | (rw [E.beq_eq h]; done)
    | (rw [h]; done)
    | (rw [h.1, h.2]; done)
    | (rw [E.beq_eq h.1, h.2]; done)
    | (rw [h.1, E.beq_eq h.2.1, E.beq_eq h.2.2]; done)
    | (rw [h.1, h.2.1, E.beq_eq h.2.2.1, h.2.2.2]; done)
def Tr.beq : Tr -> Tr -> Bool
 | .nil, .nil => true
 | .node v l r, .node v' l' r' => v.beq v' && (l.beq l' && r.beq r')
 | _, _ => false
theorem Tr.beq_eq : ∀ {a b : Tr}, a.beq b = true -> a = b
 | .nil, .nil, _ => rfl
 | .node v l r, .node v' l' r', h => by
   simp only [Tr.beq, Bool.and_eq_true] at h
   rw [RA.beq_eq h.1, Tr.beq_eq h.2.1, Tr.beq_eq h.2.2]
 | .nil, .node _ _ _, h => by cases h
 | .node _ _ _, .nil, h => by cases h
def Zp4 : List RA -> List RA -> Bool
 | [], [] => true
 | x :: l, y :: k => x.beq y && Zp4 l k
 | _, _ => false
theorem Zk7 : ∀ {a b : List RA}, Zp4 a b = true -> a = b
 | [], [], _ => rfl
 | x :: l, y :: k, h => by
   simp only [Zp4, Bool.and_eq_true] at h
   rw [RA.beq_eq h.1, Zk7 h.2]
 | [], _ :: _, h => by cases h
 | _ :: _, [], h => by cases h
def Zp5 : List (RRef × List RA) -> List (RRef × List RA) -> Bool
 | [], [] => true
 | (r, x) :: l, (q, y) :: k => decide (r = q) && (Zp4 x y && Zp5 l k)
 | _, _ => false
theorem Zk8 : ∀ {a b : List (RRef × List RA)}, Zp5 a b = true -> a = b
 | [], [], _ => rfl
 | (r, x) :: l, (q, y) :: k, h => by
   simp only [Zp5, Bool.and_eq_true, decide_eq_true_eq] at h
   rw [h.1, Zk7 h.2.1, Zk8 h.2.2]
 | [], _ :: _, h => by cases h
 | _ :: _, [], h => by cases h
def RSt.beq (a b : RSt) : Bool := a.tm.beq b.tm && (Zp5 a.K b.K && (a.nv == b.nv && (a.dep == b.dep && (a.al == b.al && (a.known.isEmpty && b.known.isEmpty)))))
theorem RSt.beq_eq {a b : RSt} (h : a.beq b = true) : a = b := by
 simp only [RSt.beq, Bool.and_eq_true, beq_iff_eq, List.isEmpty_iff] at h
 obtain ⟨h1, h2, h3, h4, h5, h6, h7⟩ := h
 cases a; cases b
 simp only at h1 h2 h3 h4 h5 h6 h7
 rw [Tr.beq_eq h1, Zk8 h2, h3, h4, h5, h6, h7]
def Zsl (c : Cfg) (ops : Array Oper) (o : Oper) (rs : RSt) : Option (List E × RSt) :=
 match Zpv ops rs o with
 | none => none
 | some G =>
   if G.isF then (match o.dst with
    | some d => if d < c.N then some ([], rs.put d (.tup [])) else none
    | none => some ([], rs))
   else if G.isT then
    (match roth c ops rs o with
    | some (l, rs') => if Z0t c.N o then some (l, rs') else none
    | none => (match o.dst with
      | some d => if d < c.N then (match rnew c rs o with
        | some (l, cs) => if cs.all (fun x => !x.names d && x.okCell) then some (l, rs.alloc d cs) else none
        | none => (match Zkz c (.bool true) rs o d with
          | some (l, .val v) => some (l, rs.put d v)
          | _ => none)) else none
      | none => rpst c rs o))
   else (match o.dst with
    | some d => (match Zkz c G rs o d with
      | some (n, .val v) => if d < c.N /\ v.ali ≠ some d then some (n.map fun e => m2 .or (m1 .not G) e, rs.put d (.gv G v)) else none
      | _ => none)
    | none => none)
section
variable {ρ : Env} {m : Nm} {rs : RSt} {s : St} {P : Program} {up : Nat -> Ref} {R : Out -> List (Ref × List A) -> Prop} {σ : Sig}
theorem Zn2 {c : Cfg} {ops : Array Oper} {C : Ctx} (hP : C.P = c.P) (hN : C.N = c.N) {i : Nat} {o : Oper} (ho : ops[i]? = some o) (hd : Den ρ m rs s) {l : List E} {rs' : RSt} (h : Zsl c ops o rs = some (l, rs')) (hn : Nds ρ l) :
 ∃ m' s', m'.up = m.up /\ Den ρ m' rs' s' /\ rs'.nv = rs.nv /\ rs'.dep = rs.dep /\ ∀ (g : Gh) (a : Act) (w : World), Rel C s g a w -> ∀ (K : Act -> World -> Prop) (Q : Exit -> Act -> World -> Prop), (∀ g' a' w', Rel C s' g' a' w' -> K a' w') -> wpOp C.P ops Q i K a w := by
 have tt : ((E.bool true).den ρ).bool = true := rfl
 unfold Zsl at h
 split at h
 ·cases h
 ·rename_i G hG
  have hwant := Zn0 hd hG
  have skip : (G.den ρ).bool = false -> ∀ (d : Option Nat), o.dst = d -> (∀ t, d = some t -> t < c.N) -> ∃ s', Den ρ m (match d with | some t => rs.put t (.tup []) | none => rs) s' /\ ∀ (g : Gh) (a : Act) (w : World), Rel C s g a w -> ∀ (K : Act -> World -> Prop) (Q : Exit -> Act -> World -> Prop), (∀ g' a' w', Rel C s' g' a' w' -> K a' w') -> wpOp C.P ops Q i K a w := fun hf d hdst hlt => by
   rw [hf] at hwant
   refine ⟨s.undef o.dst, ?_, fun g a w hR K Q hK => Zyd ho hwant (fun d' e => by rw [hN]; exact hlt d' (by rw [<- hdst]; exact e)) hR hK⟩
   rw [hdst]
   cases d with
   | none => exact hd
   | some t => exact hd.put (by intro e; cases e) (.inr rfl)
  split at h
  ·rename_i hF
   have hf : (G.den ρ).bool = false := by rw [Ztu hF]; rfl
   split at h
   ·rename_i d hdst
    split at h
    ·rename_i hlt
     cases h
     obtain ⟨s', h1, h2⟩ := skip hf (some d) hdst (fun t e => by cases e; exact hlt)
     exact ⟨m, s', rfl, h1, Zbm .., Za0 .., h2⟩
    ·cases h
   ·rename_i hdst
    cases h
    obtain ⟨s', h1, h2⟩ := skip hf none hdst (fun t e => by cases e)
    exact ⟨m, s', rfl, h1, rfl, rfl, h2⟩
  ·split at h
   ·rename_i hT
    rw [Zjn hT] at hwant
    split at h
    ·rename_i l' rs2 hr
     split at h
     ·rename_i hdn
      cases h
      have hlt : ∀ d, o.dst = some d -> d < c.N := fun d e => by unfold Z0t at hdn; rw [e] at hdn; simpa using hdn
      obtain ⟨s', he, hd', hnv', hdep'⟩ := Znz hd hr hn hlt
      exact ⟨m, s', rfl, hd', hnv', hdep', fun g a w hR K Q hK => Zyc ho hwant (Zde (by rw [hP, hN]; exact he)) hR hK⟩
     ·cases h
    ·split at h
     ·rename_i d hdst
      split at h
      ·rename_i hlt
       split at h
       ·rename_i l' cs hr
        split at h
        ·rename_i hcs
         cases h
         have hA := Zsi hd hr hn
         have hk : kDen ρ m cs = kDen ρ (m.set d (s.gen d)) cs := List.map_congr_left fun x hx => by
          have := List.all_eq_true.1 hcs x hx
          simp only [Bool.and_eq_true, Bool.not_eq_true'] at this
          exact (RA.den_nm (m := m) (m' := m.set d (s.gen d)) rfl (fun t ht => by simp [Nm.set, ht]) this.1).symm
         exact ⟨m.set d (s.gen d), _, rfl, hd.alloc hk, Zny .., Zk4 .., fun g a w hR K Q hK => Zyc ho hwant (Zde (ops := ops) (by rw [hP, hN]; exact Zhf hdst hlt hA)) hR hK⟩
        ·cases h
       ·split at h
        ·rename_i l' v hr
         cases h
         obtain ⟨hq, hali⟩ := Zfk hd tt hr hn (r := v) rfl
         exact ⟨m, _, rfl, hd.put hali (.inr rfl), Zbm .., Za0 .., fun g a w hR K Q hK => Zyc ho hwant (Ze1 hdst (by rw [hN]; exact hlt) (by rw [hP]; exact hq)) hR hK⟩
        ·cases h
      ·cases h
     ·rename_i hdst
      obtain ⟨s', he, hd', hnv', hdep'⟩ := Zsj (ops := ops) hd hdst h hn
      exact ⟨m, s', rfl, hd', hnv', hdep', fun g a w hR K Q hK => Zyc ho hwant (Zde (by rw [hP, hN]; exact he)) hR hK⟩
   ·split at h
    ·rename_i d hdst
     split at h
     ·rename_i n v hr
      split at h
      ·rename_i hc
       cases h
       cases hb : (G.den ρ).bool
       ·obtain ⟨s', h1, h2⟩ := skip hb (some d) hdst (fun t e => by cases e; exact hc.1)
        rw [hb] at hwant
        refine ⟨m, s.put d (.tup []), rfl, hd.put (x := .gv G v) hc.2 (.inr (by simp [RA.den, hb])), Zbm .., Za0 .., fun g a w hR K Q hK => Zyd ho hwant (fun d' e => by rw [hdst] at e; cases e; rw [hN]; exact hc.1) hR ?_⟩
        rw [hdst]; exact hK
       ·rw [hb] at hwant
        have hn' : Nds ρ n := fun e he => by
         have := hn _ (List.mem_map.2 ⟨e, he, rfl⟩)
         rw [Zaj, Zai] at this
         simpa [sem2, sem1, Dat.bool_b, hb] using this
        obtain ⟨hq, hali⟩ := Zfk hd hb hr hn' (r := v) rfl
        exact ⟨m, _, rfl, hd.put (x := .gv G v) (y := v.den ρ m s.gen) hali (.inr (by simp [RA.den, hb])), Zbm .., Za0 .., fun g a w hR K Q hK => Zyc ho hwant (Ze1 hdst (by rw [hN]; exact hc.1) (by rw [hP]; exact hq)) hR hK⟩
      ·cases h
     ·cases h
    ·cases h
end
def Zfv : List (Nat × RSt) -> Nat -> Option RSt
 | [], _ => none
 | (L, rs) :: l, k => if k = L then some rs else Zfv l k
theorem Ze5 : ∀ {l : List (Nat × RSt)} {k : Nat} {rs : RSt}, Zfv l k = some rs -> (k, rs) ∈ l
 | (L, r) :: l, k, rs, h => by
   unfold Zfv at h
   split at h
   ·rename_i e; cases h; subst e; exact List.mem_cons_self ..
   ·exact List.mem_cons_of_mem _ (Ze5 h)
def Zjo (ops : Array Oper) (L i : Nat) : Bool := !L.testBit i && (Zbw ops i).all fun j => L.testBit j
def Z7i (c : Cfg) (ops : Array Oper) (m skip L : Nat) (rs : RSt) : List (Nat × RSt) := (List.range m).filterMap fun i =>
 if i ≠ skip && Zjo ops L i then (match ops[i]? with
  | some o => (match Zsl c ops o rs with
    | some (_, rs') => some (L ||| 1 <<< i, rs')
    | none => none)
  | none => none) else none
def Zp6 (c : Cfg) (ops : Array Oper) (m skip : Nat) : Nat -> List (Nat × RSt) -> List (Nat × RSt) -> List (Nat × RSt)
 | 0, _, done => done
 | _ + 1, [], done => done
 | k + 1, (L, rs) :: t, done => if (Zfv done L).isSome then Zp6 c ops m skip k t done else Zp6 c ops m skip k (Z7i c ops m skip L rs ++ t) ((L, rs) :: done)
def Zt2 (c : Cfg) (ops : Array Oper) (skip : Nat) (nodes : List (Nat × RSt)) (L : Nat) (rs : RSt) : List Nat -> Option (List E)
 | [] => some []
 | i :: is => match Zt2 c ops skip nodes L rs is with
   | none => none
   | some r => if i = skip || !Zjo ops L i then some r else (match ops[i]? with
     | some o => (match Zsl c ops o rs with
       | some (l, rs') => (match Zfv nodes (L ||| 1 <<< i) with
         | some rs'' => if rs'.beq rs'' then some (l ++ r) else none
         | none => none)
       | none => none)
     | none => none)
def allL (c : Cfg) (ops : Array Oper) (m skip : Nat) (nodes : List (Nat × RSt)) : List (Nat × RSt) -> Option (List E)
 | [] => some []
 | (L, rs) :: t => match Zt2 c ops skip nodes L rs (List.range m), allL c ops m skip nodes t with
   | some a, some b => some (a ++ b)
   | _, _ => none
theorem Zp7 {c : Cfg} {ops : Array Oper} {skip : Nat} {nodes : List (Nat × RSt)} {L : Nat} {rs : RSt} {ρ : Env} : ∀ {is : List Nat} {n : List E}, Zt2 c ops skip nodes L rs is = some n -> Nds ρ n -> ∀ i ∈ is, i ≠ skip -> Zjo ops L i = true ->
 ∃ o l rs', ops[i]? = some o /\ Zsl c ops o rs = some (l, rs') /\ Nds ρ l /\ Zfv nodes (L ||| 1 <<< i) = some rs'
 | [], n, h, hn, i, hi, _, _ => by cases hi
 | j :: is, n, h, hn, i, hi, hs, hr => by
   unfold Zt2 at h
   split at h
   ·cases h
   ·rename_i r he
    have rest : Nds ρ r -> i ∈ is -> ∃ o l rs', ops[i]? = some o /\ Zsl c ops o rs = some (l, rs') /\ Nds ρ l /\ Zfv nodes (L ||| 1 <<< i) = some rs' := fun h1 h2 => Zp7 he h1 i h2 hs hr
    split at h
    ·rename_i hc
     cases h
     rcases List.mem_cons.1 hi with rfl | hi
     ·simp only [Bool.or_eq_true, decide_eq_true_eq, Bool.not_eq_true'] at hc
      rcases hc with hc | hc
      ·exact absurd hc hs
      ·rw [hr] at hc; cases hc
     ·exact rest hn hi
    ·split at h
     ·rename_i o ho
      split at h
      ·rename_i l rs' hq
       split at h
       ·rename_i rs'' hl
        split at h
        ·rename_i hb
         cases h
         have hn' := Zb0.1 hn
         rcases List.mem_cons.1 hi with rfl | hi
         ·exact ⟨o, l, rs', ho, hq, hn'.1, by rw [hl, RSt.beq_eq hb]⟩
         ·exact rest hn'.2 hi
        ·cases h
       ·cases h
      ·cases h
     ·cases h
theorem Zn3 {c : Cfg} {ops : Array Oper} {m skip : Nat} {nodes : List (Nat × RSt)} {ρ : Env} : ∀ {t : List (Nat × RSt)} {n : List E}, allL c ops m skip nodes t = some n -> Nds ρ n -> ∀ L rs, (L, rs) ∈ t -> ∀ i, i < m -> i ≠ skip -> Zjo ops L i = true ->
 ∃ o l rs', ops[i]? = some o /\ Zsl c ops o rs = some (l, rs') /\ Nds ρ l /\ Zfv nodes (L ||| 1 <<< i) = some rs'
 | [], n, h, hn, L, rs, hm, _, _, _, _ => by cases hm
 | (L0, rs0) :: t, n, h, hn, L, rs, hm, i, hi, hs, hr => by
   unfold allL at h
   split at h
   ·rename_i a b h1 h2
    cases h
    have hn' := Zb0.1 hn
    rcases List.mem_cons.1 hm with e | hm
    ·cases e; exact Zp7 h1 hn'.1 i (List.mem_range.2 hi) hs hr
    ·exact Zn3 h2 hn'.2 L rs hm i hi hs hr
   ·cases h
def Zt3 (ops : Array Oper) : List Nat -> Option Nat
 | [] => none
 | i :: l => match ops[i]? with
   | some o => (match o.op with
     | .call q => (match q.callee with | .value _ => some i | _ => Zt3 ops l)
     | _ => Zt3 ops l)
   | none => Zt3 ops l
def Zye (rs : RSt) (fx : Operand) (args : List Operand) : Option (Nat × List RRef × List RA × List (RRef × List RA)) :=
 match rev rs fx, Zv1 rs args with
 | .fn F caps, some vals => (match Zd8 rs.K (Zmv rs.K 64 (vals.flatMap Ztt ++ caps) []) with
   | some bx => some (F, caps, vals, bx)
   | none => none)
 | _, _ => none
def Z6h : List RA -> List RA -> List RA
 | x :: l, y :: k => (if x.beq y then x else .any) :: Z6h l k
 | _, _ => []
def Z6i (a b : List (RRef × List RA)) : List (RRef × List RA) := a.filterMap fun x => match Zf4 b x.1 with | some y => some (x.1, Z6h x.2 y) | none => none
def leC : List RA -> List RA -> Bool
 | [], [] => true
 | x :: l, y :: k => (match x with | .any => true | x => x.beq y) && leC l k
 | _, _ => false
def leK (a b : List (RRef × List RA)) : Bool := a.all fun x => match Zf4 b x.1 with | some y => leC x.2 y | none => false
def Zyf (ops : Array Oper) (cl : List Nat) (m : Nat) (tl : Bool) : Bool :=
 Nat.ble m ops.size && ((List.range ops.size).all (fun i => (Zbw ops i).all fun j => Nat.blt j i)) && ((List.range ops.size).all fun i => Nat.blt (cl.getD i 0) (2 ^ i)) &&
  ((List.range ops.size).all fun i => Nat.blt i m || (if tl then cl.getD i 0 % 2 ^ m == 2 ^ m - 1 else cl.getD i 0 == 2 ^ i - 1)) && (!tl || ops.size == m + 3)
def Zyg (ops : Array Oper) : Bool :=
 match ops[ops.size - 3]?, ops[ops.size - 2]?, ops[ops.size - 1]? with
 | some o6, some o7, some o8 => (match o6.op, o7.op, o8.op with
   | .indexAddr _ (.tmp t) _, .store _ (.tmp _) _, .store _ (.tmp _) (.tmp t') => t == t'
   | _, _, _ => false)
 | _, _, _ => false
def latM (ops : Array Oper) (m : Nat) : Nat := if Zyg ops then ops.size - 3 else m
def sufT (c : Cfg) (op : Opt) (ops : Array Oper) (m : Nat) (tl : Bool) (K : Re -> RSt -> T) (rf : RSt) : T :=
 if tl then (match ops[m]?, ops[m + 1]?, ops[m + 2]? with
  | some o6, some o7, some o8 => (match o6.dst, o6.op, o7.op, o8.op with
    | some d, .indexAddr T6 (.tmp t) ix, .store _ (.tmp d') _, .store _ (.tmp p) (.tmp t') => (match rf.tm.get p, rf.tm.get t, Z0q c T6 d rf (.tmp t) (revG (.bool true) rf (.tmp t)) (revG (.bool true) rf ix) with
      | .ptr _ _, .own _ _ _, some (l6, .opt t7 m7 i7 j7) => (match rpst c (rf.put d (.opt t7 m7 i7 j7)) o7 with
        | some (l7, r2) => (match roth c ops r2 o8, roth c ops rf o8 with
          | some (l8, r3), some (l9, _) =>
            if d' == d && t' == t && !(p == d) && !(t == d) && o6.guard.isNone && o7.guard.isNone && o8.guard.isNone && o7.dst.isNone && o8.dst.isNone && decide (d < c.N) && (Zbw ops (m + 1)).contains m && !(t7 == d) then
             asks (.bool true) (l6 ++ (l7 ++ (l8 ++ l9))) rf (fun rs0 => K .nrm { r3 with known := rs0.known })
            else .bad 100
          | _, _ => .bad 101)
        | none => .bad 102)
      | _, _, _ => .bad 103)
    | _, _, _, _ => .bad 104)
  | _, _, _ => .bad 105)
 else opsT c op ops K (ops.toList.drop m) rf
def latT (c : Cfg) (op : Opt) (ops : Array Oper) (cl : List Nat) (m : Nat) (tl : Bool) (K : Re -> RSt -> T) (rs : RSt) : T :=
 let r0 : RSt := { rs with known := [] }
 match Zt3 ops (List.range m) with
 | none =>
   let nodes := Zp6 c ops m ops.size 4000 [(0, r0)] []
   (match Zfv nodes 0, allL c ops m ops.size nodes nodes, Zfv nodes (2 ^ m - 1) with
   | some r1, some l, some rf => if r0.beq r1 then asks (.bool true) l rs (fun rs0 => sufT c op ops m tl K { rf with known := rs0.known }) else .bad 85
   | some _, none, _ => .bad 86
   | _, _, _ => .bad 87)
 | some ci => (match ops[ci]? with
   | none => .bad 88
   | some o => (match o.dst, o.op with
     | some d, .call q => (match q.callee with
       | .value fx =>
         let nodes := Zp6 c ops m ci 4000 [(0, r0)] []
         (match Zfv nodes 0, allL c ops m ci nodes nodes, Zfv nodes (cl.getD ci 0) with
         | some r1, some l1, some rc => (match Zye rc fx q.args.toList with
           | some (F, caps, vals, bx) => (match Znw c op F rc.nv with
             | some (res, k1) => (match Znx (Z0s op.grow F) bx (rc.nv + k1.length), Zk2 (op.lose.contains F) bx (rc.nv + 1) with
               | some (bx', k2), some (bxp, k3) =>
                 let after := fun r : RSt => ({ r with K := Zd9 r.K bx', nv := rc.nv + k1.length + k2.length } : RSt).put d res
                 let n2 := Zp6 c ops m ops.size 4000 [(cl.getD ci 0 ||| 1 <<< ci, after rc)] []
                 let rdy := nodes.filter fun x => Zjo ops x.1 ci
                 let Kp := rdy.foldl (fun a x => Z6i a (Zd9 x.2.K bxp)) (Zd9 rc.K bxp)
                 (match allL c ops m ops.size n2 n2, Zfv n2 (2 ^ m - 1) with
                 | some l2, some rf =>
                   if d < c.N && ci < m && r0.beq r1 && o.guard.isNone && decide ((bx.map (·.1)).Nodup) && decide (bx'.map (·.1) = bx.map (·.1)) && decide (bxp.map (·.1) = bx.map (·.1)) && res.okRes && vals.all RA.plain && bx.all (fun x => x.2.all RA.okCell) && (bx'.all fun x => x.2.all RA.okCell) && (bxp.all fun x => x.2.all RA.okCellP) &&
                    decide ((Kp.map (·.1)).Nodup) && (nodes.all fun x => x.2.lt && x.2.nv == rc.nv && x.2.dep == rs.dep) &&
                    (rdy.all fun x => (match Zye x.2 fx q.args.toList with
                     | some (F', caps', vals', bxx) => F' == F && decide (caps' = caps) && Zp4 vals' vals && Zp5 bxx bx
                     | none => false) && (match Zfv n2 (x.1 ||| 1 <<< ci) with | some r2 => (after x.2).beq r2 | none => false) && leK Kp (Zd9 x.2.K bxp)) then
                    asks (.bool true) l1 rs (fun rs0 => .call F vals caps bx rc.nv (k1 ++ k2) res bx'
                     (asks (.bool true) l2 { rf with known := rs0.known.filter (E.lt rc.nv) } fun rs1 => sufT c op ops m tl K { rf with known := rs1.known })
                     k3 bxp (K (.pan (.var rc.nv)) { tm := .nil, K := Kp, nv := rc.nv + 1 + k3.length, dep := rs.dep, known := rs0.known.filter (E.lt rc.nv), al := false }))
                   else .bad 90
                 | none, _ => .bad 91
                 | _, _ => .bad 92)
               | _, _ => .bad 93)
             | none => .bad 94)
           | none => .bad 95)
         | _, none, _ => .bad 96
         | _, _, _ => .bad 97)
       | _ => .bad 98)
     | _, _ => .bad 99))
end Go.Rf
end
section
namespace Go.Rf
open Go.Ab
structure Pat where
 ks : List Dk
 rs : RSt
abbrev Args := List (Nat × Dk × E)
def eqA (base : Nat) (p v : RA) : Option Args := if p.beq v && p.lt base then some [] else none
def mA (base : Nat) (p v : RA) : Option Args :=
 match p with
 | .any => some []
 | .c (.o1 (.ci k) (.var n)) => if base <= n then (match v with | .c (.o1 (.ci k') e) => if k = k' then some [(n, .i, e)] else none | _ => none) else eqA base p v
 | .c (.o1 .cb (.o1 .tb (.var n))) => if base <= n then (match v with | .c (.o1 .cb e) => some [(n, .b, e)] | _ => none) else eqA base p v
 | .c (.o1 .cs (.var n)) => if base <= n then (match v with | .c (.o1 .cs e) => some [(n, .s, e)] | _ => none) else eqA base p v
 | .c (.o1 .cl (.var n)) => if base <= n then (match v with | .c (.o1 .cl e) => some [(n, .l, e)] | _ => none) else eqA base p v
 | .c (.var n) => if base <= n then (match v with | .c e => some [(n, .d, e)] | _ => none) else eqA base p v
 | .agg (.var n) => if base <= n then (match v with | .agg e => some [(n, .r, e)] | _ => none) else eqA base p v
 | .own sz (.var n) nw => if base <= n then (match v with | .own sz' e nw' => if sz = sz' /\ (nw.beq nw' && nw.lt base) = true then some [(n, .l, e)] else none | _ => none) else eqA base p v
 | .own sz .lnil (.var n) => if base <= n then (match v with | .own sz' .lnil e => if sz = sz' then some [(n, .l, e)] else none | _ => none) else eqA base p v
 | .zs (.var n) => if base <= n then (match v with | .zs e => some [(n, .l, e)] | _ => none) else eqA base p v
 | p => eqA base p v
def mT (base : Nat) : Tr -> Tr -> Option Args
 | .nil, _ => some []
 | .node .any l r, .nil => (match mT base l .nil, mT base r .nil with | some a, some b => some (a ++ b) | _, _ => none)
 | .node _ _ _, .nil => none
 | .node p l r, .node v l' r' => (match mA base p v, mT base l l', mT base r r' with | some a, some b, some c => some (a ++ (b ++ c)) | _, _, _ => none)
def mC (base : Nat) : List RA -> List RA -> Option Args
 | [], [] => some []
 | p :: l, v :: l' => if p.okCell && v.okCell then (match mA base p v, mC base l l' with | some a, some b => some (a ++ b) | _, _ => none) else none
 | _, _ => none
def mK (base : Nat) (K : List (RRef × List RA)) : List (RRef × List RA) -> Option Args
 | [] => some []
 | (r, c) :: l => (match Zf4 K r with
   | some c' => (match mC base c c', mK base K l with | some a, some b => some (a ++ b) | _, _ => none)
   | none => none)
def Z0x : Args -> Nat -> Dk -> Option E
 | [], _, _ => none
 | (n, k, e) :: l, m, k' => if n = m /\ k = k' then some e else Z0x l m k'
def Zt4 (l : Args) : List Dk -> Nat -> Option (List E)
 | [], _ => some []
 | k :: ks, n => match Z0x l n k, Zt4 l ks (n + 1) with | some e, some r => some (e :: r) | _, _ => none
def Z6j (l : Args) (ks : List Dk) (base : Nat) : Bool := l.all fun x => ks[x.1 - base]? == some x.2.1 && (match Z0x l x.1 x.2.1 with | some e => e.beq x.2.2 | none => false)
def Zt5 (base : Nat) (p : Pat) (rs : RSt) : Option (List E) :=
 match mT base p.rs.tm rs.tm, mK base rs.K p.rs.K with
 | some a, some b => if Z6j (a ++ b) p.ks base && decide ((p.rs.K.map (·.1)).Nodup) && (p.rs.al || !p.rs.tm.anyAli) then Zt4 (a ++ b) p.ks base else none
 | _, _ => none
def Zjp (base : Nat) : List Pat -> RSt -> Nat -> Option (Nat × List E)
 | [], _, _ => none
 | p :: l, rs, j => match Zt5 base p rs with
   | some a => some (j, a)
   | none => Zjp base l rs (j + 1)
def isV (base : Nat) : E -> Bool | .var n => Nat.ble base n | _ => false
def genA (base : Nat) (p v : RA) : Option RA :=
 match p, v with
 | .any, _ => some .any
 | _, .any => some .any
 | .c _, .own _ _ _ => none
 | .own _ _ _, .c _ => none
 | .c (.o1 (.ci k) x), .c (.o1 (.ci k') y) => if k = k' then (if x.beq y && x.lt base then some p else some (.c (.o1 (.ci k) (.var base)))) else some .any
 | .c (.o1 .cb x), .c (.o1 .cb y) => if x.beq y && x.lt base then some p else some (.c (.o1 .cb (.o1 .tb (.var base))))
 | .c (.o1 .cs x), .c (.o1 .cs y) => if x.beq y && x.lt base then some p else some (.c (.o1 .cs (.var base)))
 | .c (.o1 .cl x), .c (.o1 .cl y) => if x.beq y && x.lt base then some p else some (.c (.o1 .cl (.var base)))
 | .c x, .c y => if x.beq y && x.lt base then some p else some (.c (.var base))
 | .agg x, .agg y => if x.beq y && x.lt base then some p else some (.agg (.var base))
 | .own sz x a, .own sz' y b => if sz = sz' then (if a.beq b && a.lt base then (if x.beq y && x.lt base then some p else some (.own sz (.var base) a)) else (match x, y with
  | .lnil, .lnil => some (.own sz .lnil (.var base))
  | _, _ => none)) else some .any
 | .zs x, .zs y => if x.beq y && x.lt base then some p else some (.zs (.var base))
 | .zs _, .own _ _ _ => none
 | .own _ _ _, .zs _ => none
 | p, v => if p.beq v && p.lt base then some p else some .any
def genT (base : Nat) : Tr -> Tr -> Option Tr
 | .nil, _ => some .nil
 | .node _ _ _, .nil => none
 | .node p l r, .node v l' r' => (match genA base p v, genT base l l', genT base r r' with | some a, some b, some c => some (.node a b c) | _, _, _ => none)
def genC (base : Nat) : List RA -> List RA -> Option (List RA)
 | [], [] => some []
 | p :: l, v :: l' => (match genA base p v, genC base l l' with | some a, some b => some (a :: b) | _, _ => none)
 | _, _ => none
def genK (base : Nat) (K : List (RRef × List RA)) : List (RRef × List RA) -> Option (List (RRef × List RA))
 | [] => some []
 | (r, c) :: l => (match Zf4 K r, genK base K l with
   | some c', some b => (match genC base c c' with
     | some a => some ((if a.any (fun x => match x with | .any => true | _ => false) then [] else [(r, a)]) ++ b)
     | none => none)
   | none, some b => some b
   | _, none => none)
def numA (base : Nat) (x : RA) (n : Nat) : RA × List Dk :=
 match x with
 | .c (.o1 (.ci k) e) => if isV base e then (.c (.o1 (.ci k) (.var n)), [.i]) else (x, [])
 | .c (.o1 .cb (.o1 .tb e)) => if isV base e then (.c (.o1 .cb (.o1 .tb (.var n))), [.b]) else (x, [])
 | .c (.o1 .cs e) => if isV base e then (.c (.o1 .cs (.var n)), [.s]) else (x, [])
 | .c (.o1 .cl e) => if isV base e then (.c (.o1 .cl (.var n)), [.l]) else (x, [])
 | .c e => if isV base e then (.c (.var n), [.d]) else (x, [])
 | .agg e => if isV base e then (.agg (.var n), [.r]) else (x, [])
 | .own sz e nw => if isV base e then (.own sz (.var n) nw, [.l]) else if isV base nw then (.own sz e (.var n), [.l]) else (x, [])
 | .zs e => if isV base e then (.zs (.var n), [.l]) else (x, [])
 | x => (x, [])
def numT (base : Nat) (todo : List Nat) (t : Tr) (ks : List Dk) : Tr × List Dk :=
 match todo with
 | [] => (t, ks)
 | k :: l => let a := numA base (t.get k) (base + ks.length)
   match a.2 with
   | [] => numT base l t ks
   | _ => numT base l (t.set k a.1) (ks ++ a.2)
def numC (base : Nat) : List RA -> List Dk -> List RA × List Dk
 | [], ks => ([], ks)
 | x :: l, ks => let a := numA base x (base + ks.length); let b := numC base l (ks ++ a.2); (a.1 :: b.1, b.2)
def numK (base : Nat) : List (RRef × List RA) -> List Dk -> List (RRef × List RA) × List Dk
 | [], ks => ([], ks)
 | (r, c) :: l, ks => let a := numC base c ks; let b := numK base l a.2; ((r, a.1) :: b.1, b.2)
def Z0y (c : Cfg) (base : Nat) (known : List E) (tm : Tr) (K : List (RRef × List RA)) : Pat :=
 let a := numT base c.live tm []
 let b := numK base K a.2
 { ks := b.2, rs := { tm := a.1, K := b.1, nv := base + b.2.length, dep := 0, known := known, al := a.1.anyAli } }
def Zt6 (c : Cfg) (base : Nat) (known : List E) (leaf : RSt) : List Pat -> List Pat
 | [] => (match genT base leaf.tm leaf.tm, genK base leaf.K leaf.K with
   | some t, some K => [Z0y c base known t K]
   | _, _ => [])
 | p :: l => match genT base p.rs.tm leaf.tm, genK base leaf.K p.rs.K with
   | some t, some K => Z0y c base known t K :: l
   | _, _ => p :: Zt6 c base known leaf l
def Zfl (c : Cfg) (base : Nat) (known : List E) : List RSt -> List Pat -> Bool -> List Pat × Bool
 | [], ps, ch => (ps, ch)
 | x :: l, ps, ch => match Zjp base ps x 0 with
   | some _ => Zfl c base known l ps ch
   | none => Zfl c base known l (Zt6 c base known x ps) true
def T.leaves : T -> List RSt
 | .fork _ a b => a.leaves ++ b.leaves
 | .need _ k => k.leaves
 | .call _ _ _ _ _ _ _ _ kr _ _ kp => kr.leaves ++ kp.leaves
 | .dcall _ _ _ _ _ _ _ k => k.leaves
 | .loop _ _ _ vs => vs.leaves
 | .cut _ b vs => b.leaves ++ vs.leaves
 | .vcons _ b r => b.leaves ++ r.leaves
 | .leaf rs => [rs]
 | _ => []
def Zyh (c : Cfg) (run : RSt -> (Re -> RSt -> T) -> T) (base dep : Nat) (known : List E) : Nat -> List Pat -> List Pat
 | 0, ps => ps
 | n + 1, ps =>
   let lv := ps.flatMap fun p => (run { p.rs with dep := dep + 1, nv := base + p.ks.length } (fun e rs => match e with | .nrm => .leaf rs | _ => .vnil)).leaves
   match Zfl c base known lv ps false with
   | (ps', true) => Zyh c run base dep known n ps'
   | (_, false) => ps
def Zsm (run : RSt -> (Re -> RSt -> T) -> T) (base dep : Nat) (ps : List Pat) (K : Re -> RSt -> T) : List Pat -> T
 | [] => .vnil
 | p :: l => .vcons p.ks (run { p.rs with dep := dep + 1, nv := base + p.ks.length } (fun e rs => match e with
     | .nrm => (match Zjp base ps rs 0 with
       | some (j, a) => .again dep j a
       | none => .bad 61)
     | e => K e rs)) (Zsm run base dep ps K l)
def Z6k (c : Cfg) (run : RSt -> (Re -> RSt -> T) -> T) (rs : RSt) (K : Re -> RSt -> T) : T :=
 let known := rs.known.filter (E.lt rs.nv)
 let ps := Zyh c run rs.nv rs.dep known 6 [Z0y c rs.nv known rs.tm rs.K]
 match Zjp rs.nv ps rs 0 with
 | some (j, a) => if ps.all (fun p => p.rs.known.all fun e => e.lt rs.nv && rs.known.any fun k => k.beq e) then .loop rs.nv j a (Zsm run rs.nv rs.dep ps K ps) else .bad 62
 | none => .bad 60
def Zsn (next : RSt -> T) (base dep : Nat) : List Pat -> T
 | [] => .vnil
 | p :: l => .vcons p.ks (next { p.rs with dep := dep, nv := base + p.ks.length }) (Zsn next base dep l)
def cutT (c : Cfg) (run : RSt -> (Re -> RSt -> T) -> T) (next : RSt -> T) (rs : RSt) (K : Re -> RSt -> T) : T :=
 let known := rs.known.filter (E.lt rs.nv)
 let lv := (run { rs with dep := rs.dep + 1 } (fun e rs => match e with | .nrm => .leaf rs | _ => .vnil)).leaves
 let ps := (Zfl c rs.nv known lv (Zfl c rs.nv known lv [] false).1 false).1
 if ps.all (fun p => p.rs.known.all fun e => e.lt rs.nv && rs.known.any fun k => k.beq e) then
  .cut rs.nv (run { rs with dep := rs.dep + 1 } (fun e rs' => match e with
   | .nrm => (match Zjp rs.nv ps rs' 0 with
     | some (j, a) => .again rs.dep j a
     | none => .bad 63)
   | e => K e rs')) (Zsn next rs.nv rs.dep ps) else .bad 64
def Zj0 : Code -> Option Nat
 | .region i _ _ => some i
 | .seq x _ => Zj0 x
 | .block _ x => Zj0 x
 | .loop x => Zj0 x
 | _ => none
def Z7j (op : Opt) (y : Code) : Bool := match Zj0 y with | some i => op.cuts.contains i | none => false
def Z7k (o : Oper) : List Operand :=
 match o.op with
 | .store _ _ x => [x]
 | .box _ x => [x]
 | .build _ p => p.toList.map (·.2)
 | .buildSlice _ _ p => p.toList.map (·.2)
 | .slice _ x _ _ _ => [x]
 | .convert _ _ x => [x]
 | .assign x => [x]
 | .call q => (match q.callee with
   | .builtin .append => q.args.toList.drop 1
   | .builtin .len => []
   | _ => q.args.toList)
 | _ => []
def Z6l (u : Nat) : Operand -> Bool | .tmp t => t == u | _ => false
def Z7l (u : Nat) (ops : List Oper) : List Nat := ops.filterMap fun o => match o.op, o.dst with
 | .move x, some d => if Z6l u x then some d else none
 | _, _ => none
def Zyi (ops : List Oper) (u : Nat) : Bool :=
 let us := u :: Z7l u ops
 ops.any fun o => (Z7k o).any fun x => us.any fun t => Z6l t x
def Zk9 (c : Cfg) (rs : RSt) (u : Nat) : RSt :=
 match rs.tm.get u with
 | .own _ _ .lnil => rs
 | .own z es nw => if u < c.N then rs.put u (.own z (Zsh es nw) .lnil) else rs
 | _ => rs
def Zea (c : Cfg) (rs : RSt) (l : List Nat) : RSt := l.foldl (Zk9 c) rs
def Z4e (rs : RSt) (u : Nat) : Bool := match rs.tm.get u with | .own _ _ .lnil => false | .own _ _ _ => true | _ => false
def Zso (c : Cfg) (ops : Array Oper) (rs : RSt) : RSt := Zea c rs (c.live.filter fun u => Z4e rs u && Zyi ops.toList u)
def Zyj (c : Cfg) (K : Re -> RSt -> T) : Re -> RSt -> T := fun e rs => match e with
 | .nrm => K .nrm (rs.keep c.live c.N)
 | e => K e rs
def Zc4 (c : Cfg) (op : Opt) : Code -> RSt -> (Re -> RSt -> T) -> T
 | .skip, rs, K => K .nrm rs
 | .label _, rs, K => K .nrm rs
 | .ret, rs, K => K .ret (Zea c rs c.live)
 | .exit id, rs, K => K (.exit id) rs
 | .seq x y, rs, K => if Z7j op y then cutT c (Zc4 c op x) (fun rs => Zc4 c op y rs K) rs K else Zc4 c op x rs fun e rs => match e with
   | .nrm => Zc4 c op y rs K
   | e => K e rs
 | .cond q x y, rs, K => (match rev rs q with
   | .c (.o1 .cb e) => if e.isT then Zc4 c op x rs K else if e.isF then Zc4 c op y rs K else .fork e (Zc4 c op x (rs.assume e true) K) (Zc4 c op y (rs.assume e false) K)
   | _ => .bad 70)
 | .block id x, rs, K => Zc4 c op x rs fun e rs => match e with
   | .exit id' => if id' = id then K .nrm rs else K (.exit id') rs
   | e => K e rs
 | .region _ ops false, rs, K => opsT c op ops (Zyj c K) ops.toList (Zso c ops rs)
 | .region id ops true, rs, K =>
   let cl := clOf ops
   let m := Z4c cl ops.size
   if op.lat.contains id then (if Zyf ops cl (latM ops m) (Zyg ops) then latT c op ops cl (latM ops m) (Zyg ops) (Zyj c K) (Zso c ops rs) else .bad 73)
   else if Zty ops cl m then Zi6 c op ops cl (Zh9 ops m) m (Zyj c K) (ops.toList.take m) 0 (Zso c ops rs) else .bad 71
 | .loop b, rs, K => Z6k c (Zc4 c op b) rs K
 | _, _, _ => .bad 72
end Go.Rf
end
section
namespace Go.Ab
open Classical
def Zba (w : World) (b off : Nat) : List Value -> World
 | [] => w
 | v :: vs => Zba (w.setCell ⟨b, off, none⟩ v) b (off + 1) vs
theorem Zv6 (w : World) {b b' : Nat} (o : Nat) (v : Value) (h : b' ≠ b) : (w.setCell ⟨b, o, none⟩ v).heap[b']? = w.heap[b']? := by
 simp only [World.setCell, Array.getElem?_modify]
 rw [if_neg (fun e => h e.symm)]
theorem Zel {b b' : Nat} {cs : Array Value} (h : b' ≠ b) : ∀ (vs : List Value) (w : World) (off : Nat), Row w b' cs -> Row (Zba w b off vs) b' cs
 | [], _, _, hr => hr
 | v :: vs, w, off, hr => Zel h vs _ _ (hr.of_same (Zv6 w off v h))
theorem Zp8 (w : World) {b b' : Nat} (h : b ≠ b') (o o' : Nat) (v v' : Value) : (w.setCell ⟨b, o, none⟩ v).setCell ⟨b', o', none⟩ v' = (w.setCell ⟨b', o', none⟩ v').setCell ⟨b, o, none⟩ v := by
 unfold World.setCell
 simp only [World.mk.injEq, and_true, true_and]
 refine Array.ext (by simp) fun i h1 h2 => ?_
 simp only [Array.getElem_modify]
 by_cases hb : b = i
 ·subst hb
  rw [if_neg (fun e => h e.symm)]
  simp [h.symm]
 ·by_cases hb' : b' = i
  ·subst hb'
   simp [h]
  ·simp [hb, hb']
theorem Zjq (b b' : Nat) (h : b ≠ b') (o' : Nat) (v' : Value) : ∀ (vs : List Value) (w : World) (off : Nat), (Zba w b off vs).setCell ⟨b', o', none⟩ v' = Zba (w.setCell ⟨b', o', none⟩ v') b off vs
 | [], _, _ => rfl
 | v :: vs, w, off => by
   simp only [Zba]
   rw [Zjq b b' h o' v' vs, Zp8 w h]
theorem Zia (b b' : Nat) (h : b ≠ b') (vs : List Value) (off : Nat) : ∀ (vs' : List Value) (w : World) (off' : Nat), Zba (Zba w b off vs) b' off' vs' = Zba (Zba w b' off' vs') b off vs
 | [], _, _ => rfl
 | v :: vs', w, off' => by
   simp only [Zba]
   rw [Zjq b b' h, Zia b b' h vs off vs']
theorem Zf8 {P : Program} {b : Nat} : ∀ (vs : List Value) (w : World) (cs : Array Value) (off i : Nat), Row w b cs -> off + i + vs.length <= cs.size -> (∀ v ∈ vs, isCell v = true) ->
 (storeCells ⟨b, off, none⟩ vs i).run P w = .ok () (Zba w b (off + i) vs)
 | [], w, cs, off, i, h, _, _ => rfl
 | v :: vs, w, cs, off, i, h, hs, hv => by
   simp only [List.length_cons] at hs
   have h1 := Zhs h (off + i) v
   have h2 := Zf8 (P := P) vs (w.setCell ⟨b, off + i, none⟩ v) _ off (i + 1) h1.row (by simp; omega) (fun x hx => hv x (List.mem_cons_of_mem _ hx))
   unfold storeCells
   rw [Zkb, Zbt, Zoy h (by omega) (hv v (List.mem_cons_self ..))]
   simp only
   rw [h2]
   rfl
theorem Zib {P : Program} {t : TypeId} {n : Nat} {ag : Bool} (h : szOf P t = some (n, ag)) {w : World} {b off : Nat} {cs : Array Value} {v : Value} (hr : Row w b cs) (hs : v.cells.size = n)
 (hf : off + n <= cs.size) (hc : ∀ u ∈ v.cells.toList, isCell u = true) : (storeVar t ⟨b, off, none⟩ v).run P w = .ok () (Zba w b off v.cells.toList) := by
 have h1 := Zf8 (P := P) v.cells.toList w cs off 0 hr (by simp; omega) hc
 simp [storeVar, Zcg h, hs, h1]
theorem Z0z {C : Ctx} {s : St} {g : Gh} {a : Act} {w : World} (hR : Rel C s g a w) {o : Oper} {d : Nat} {y : A} {T : TypeId} {x ix : Operand} (hop : o.op = .indexAddr T x ix) (h : Zch C.P d s T x ix = some y) :
 ∃ v, ∀ w1, (execOp a.eval o).run C.P w1 = .ok (.value v) w1 := by
 unfold Zch at h
 split at h
 ·rename_i u sz es nw k i m by_ c e ho hi hs
  split at h
  ·rename_i hc
   cases h
   obtain ⟨h1, h2, h3, h4⟩ := hc
   subst h1
   obtain ⟨ht, hv⟩ := Zte hR ho
   obtain ⟨cap, cs, hw⟩ := hR.own ht
   refine ⟨.pointer (some ⟨g.ow (.slot u), 0 + i.toNat * sz, none⟩), fun w1 => ?_⟩
   have := Zev hs w1 (g.ow (.slot u)) 0 (es.length + nw.length) cap k i (by omega) (by omega)
   rw [<- hw.val] at this
   simp only [execOp, hop, hR.lit hi, hv, Sem.run_bind, this, Result.andThen_ok, Sem.run_pure]
  ·cases h
 ·cases h
theorem Z4f {C : Ctx} {s : St} {g : Gh} {a : Act} {w : World} (hR : Rel C s g a w) {o : Oper} {T : TypeId} {p : Operand} {t off : Nat} {r : Ref} {s' : St} (hop : o.op = .store T p (.tmp t)) (hp : s.ev p = .ptr r off) {m : Nat} {es nw : List (List D)} (ht : s.tm t = .own m es nw)
 (h : Zci C.P C.N s T p (.tmp t) = some s') : ∃ vs cs, Row w (g.bx r) cs /\ Owns s g (.box r) (g.bx r) /\ ∀ w1, Row w1 (g.bx r) cs -> (execOp a.eval o).run C.P w1 = .ok .skip (Zba w1 (g.bx r) off vs) := by
 unfold Zci at h
 rw [hp] at h
 have hoT : ownT s (.tmp t) = some (t, m, es, nw) := by simp [ownT, ht]
 simp only [hoT] at h
 split at h
 ·rename_i r' off' n ag e hT
  cases e
  split at h
  ·rename_i c hK
   split at h
   ·rename_i hc
    obtain ⟨h1, h2, h3⟩ := hc
    subst h1
    subst h2
    obtain ⟨cs, hr, hs, hcs, _, _⟩ := hR.heap.box r c hK
    obtain ⟨cap, ds, ho⟩ := hR.own ht
    have hev := hR.ev p (by rw [hp]; rfl) .res
    rw [hp] at hev
    have hval : (a.tmps.getD t undef).cells = #[a.tmps.getD t undef] := by rw [ho.val]; rfl
    refine ⟨(a.tmps.getD t undef).cells.toList, cs, hr, .box hK, fun w1 hr1 => ?_⟩
    have h3 := Zib (P := C.P) hT (w := w1) (off := off) (v := a.tmps.getD t undef) hr1 (by rw [hval]; rfl) (by omega) (fun u hu => by rw [hval] at hu; simp at hu; subst hu; rw [<- Array.getD_eq_getD_getElem?, ho.val]; rfl)
    have : a.eval (.tmp t) = a.tmps.getD t undef := rfl
    simp only [execOp, hop, hev.1, this, Instr.storeAt, Instr.sureAddr, Sem.run_bind, Sem.run_pure, Result.andThen_ok, h3]
   ·cases h
  ·cases h
 ·rename_i e _; cases e
 ·cases h
theorem Z4g {C : Ctx} {s : St} {g : Gh} {a : Act} {w : World} (hR : Rel C s g a w) {o : Oper} {T : TypeId} {u : Nat} {x : Operand} {t k m i j : Nat} {s' : St} (hop : o.op = .store T (.tmp u) x) (hp : s.ev (.tmp u) = .opt t k m i j)
 (h : Zci C.P C.N s T (.tmp u) x = some s') : ∃ off vs cs, Row w (g.ow (.slot t)) cs /\ Owns s g (.slot t) (g.ow (.slot t)) /\ ∀ w1, Row w1 (g.ow (.slot t)) cs -> (execOp a.eval o).run C.P w1 = .ok .skip (Zba w1 (g.ow (.slot t)) off vs) := by
 unfold Zci at h
 rw [hp] at h
 split at h
 ·rename_i e _; cases e
 ·rename_i t' k' m' i' j' n ag e hT
  cases e
  split at h
  ·rename_i u' q sz es nw vs e1 ho hv
   split at h
   ·rename_i e he
    split at h
    ·rename_i hc
     obtain ⟨h1, h2, h3, h4, h5, h6⟩ := hc
     obtain ⟨e2, ht'⟩ := Zbl ho
     cases e2
     subst h2
     have h1 : k = s.gen t := h1
     obtain ⟨cap, cs, hw⟩ := hR.own ht'
     obtain ⟨_, h7⟩ := hR.opt u t k sz i j hp
     obtain ⟨_, hpv⟩ := h7 h1
     have hx := hR.escs hv
     have hlen := Zbi hx
     simp only [Array.length_toList] at hlen
     have hown : Owns s g (.slot t) (g.ow (.slot t)) := .slot (by rw [ht']; rfl)
     have hlt : i - es.length < nw.length := (List.getElem?_eq_some_iff.1 he).1
     have hi2 : i < es.length + nw.length := by omega
     have hcells : ∀ z ∈ (a.eval x).cells.toList, isCell z = true := fun z hz => by
      obtain ⟨k, hk, rfl⟩ := List.mem_iff_getElem.1 hz
      simp only [Array.length_toList] at hk
      obtain ⟨y, h2, h3⟩ := Zbu hx k (vs[k]'(by omega)) (List.getElem?_eq_getElem _)
      have e' : (a.eval x).cells.toList[k] = y := by
       rw [List.getElem?_eq_getElem (by simpa using hk)] at h2
       exact Option.some.inj h2
      rw [e']; exact h3.isCell
     have hpos : i * sz + j + vs.length <= cs.size := by
      rw [hw.size]
      have h2 : (i + 1) * sz <= cap * sz := Nat.mul_le_mul_right _ (Nat.le_trans hi2 hw.room)
      rw [Nat.add_mul] at h2
      omega
     refine ⟨i * sz + j, (a.eval x).cells.toList, cs, hw.row, hown, fun w1 hr1 => ?_⟩
     have h3 := Zib (P := C.P) hT (w := w1) (off := i * sz + j) (v := a.eval x) hr1 (by omega) (by omega) hcells
     have : a.eval (.tmp u) = .pointer (some ⟨g.ow (.slot t), i * sz + j, none⟩) := hpv
     simp only [execOp, hop, this, Instr.storeAt, Instr.sureAddr, Sem.run_bind, Sem.run_pure, Result.andThen_ok, h3]
    ·cases h
   ·cases h
  ·cases h
 ·cases h
theorem OpOk.at_val {C : Ctx} {o : Oper} {s s' : St} (h : OpOk C o s s') {g : Gh} {a : Act} {w w' : World} {v : Value} (hR : Rel C s g a w) (hr : (execOp a.eval o).run C.P w = .ok (.value v) w') : ∃ g', Rel C s' g' (a.put o.dst v) w' := by
 have := h g a w hR (fun a w => ∃ g', Rel C s' g' a w) (fun _ _ _ => False) (fun g' a' w' hR' => ⟨g', hR'⟩)
 unfold Oper.wp at this
 rw [hr] at this
 exact this
theorem OpOk.at_skip {C : Ctx} {o : Oper} {s s' : St} (h : OpOk C o s s') {g : Gh} {a : Act} {w w' : World} (hR : Rel C s g a w) (hr : (execOp a.eval o).run C.P w = .ok .skip w') : ∃ g', Rel C s' g' (a.put o.dst undef) w' := by
 have := h g a w hR (fun a w => ∃ g', Rel C s' g' a w) (fun _ _ _ => False) (fun g' a' w' hR' => ⟨g', hR'⟩)
 unfold Oper.wp at this
 rw [hr] at this
 exact this
theorem Zt7 {P : Program} {ops : Array Oper} {Q : Exit -> Act -> World -> Prop} {i : Nat} {o : Oper} (ho : ops[i]? = some o) (hg : o.guard = none) {a : Act} {w w' : World} {v : Value} {K : Act -> World -> Prop} (hr : (execOp a.eval o).run P w = .ok (.value v) w') (hk : K (a.put o.dst v) w') : wpOp P ops Q i K a w := by
 have : Region.wanted o (yielded ops a.tmps) = true := by unfold Region.wanted; rw [hg]
 simp only [wpOp, ho, this, if_true]
 exact .inl (Zd2 hr hk)
theorem Zic {P : Program} {ops : Array Oper} {Q : Exit -> Act -> World -> Prop} {i : Nat} {o : Oper} (ho : ops[i]? = some o) (hg : o.guard = none) (hd : o.dst = none) {a : Act} {w w' : World} {K : Act -> World -> Prop} (hr : (execOp a.eval o).run P w = .ok .skip w') (hk : K a w') : wpOp P ops Q i K a w := by
 have : Region.wanted o (yielded ops a.tmps) = true := by unfold Region.wanted; rw [hg]
 simp only [wpOp, ho, this, if_true]
 refine .inl (Zs9 hr ?_)
 rw [hd]; exact hk
theorem Zgo {ops : Array Oper} {listed : Array Bool} (hs : listed.size = ops.size) {i : Nat} (h : i ∈ Region.ready .any ops listed) : i < ops.size /\ listed.getD i false = false /\ ∀ j ∈ Zbw ops i, listed.getD j false = true := by
 rw [mem_ready] at h
 obtain ⟨h1, o, ho, h2⟩ := h
 have hio : i < ops.size := (Array.getElem?_eq_some_iff.1 ho).1
 refine ⟨hio, by simp [hs, hio] at h1 ⊢; exact h1, fun j hj => ?_⟩
 unfold Zbw at hj
 rw [ho] at hj
 obtain ⟨e, he, rfl⟩ := List.mem_map.1 hj
 have h3 := List.mem_filter.1 he
 exact h2 e (by simpa using h3.1) h3.2
theorem Zid {ops : Array Oper} {listed : Array Bool} (hs : listed.size = ops.size) (hdir : ∀ i j, j ∈ Zbw ops i -> j < i) {i : Nat} (hi : i < ops.size) (h1 : listed.getD i false = false) (h2 : ∀ j < i, listed.getD j false = true) : i ∈ Region.ready .any ops listed := by
 rw [mem_ready]
 refine ⟨by simp [hs, hi] at h1 ⊢; exact h1, ops[i], Array.getElem?_eq_getElem hi, fun e he hb => h2 _ (hdir i _ ?_)⟩
 unfold Zbw
 rw [Array.getElem?_eq_getElem hi]
 exact List.mem_map.2 ⟨e, List.mem_filter.2 ⟨by simpa using he, hb⟩, rfl⟩
theorem any3 {C : Ctx} {ops : Array Oper} {Q : Ex -> St -> Prop} {k : Nat} {o6 o7 o8 : Oper} {d t p : Nat} {T6 T7 T8 : TypeId} {ix x7 : Operand} {s s2 s3 : St} {y : A} (hsz : ops.size = k + 3) (hdir : ∀ i j, j ∈ Zbw ops i -> j < i)
 (h6 : ops[k]? = some o6) (h7 : ops[k + 1]? = some o7) (h8 : ops[k + 2]? = some o8) (g6 : o6.guard = none) (g7 : o7.guard = none) (g8 : o8.guard = none) (d6 : o6.dst = some d) (d7 : o7.dst = none) (d8 : o8.dst = none)
 (op6 : o6.op = .indexAddr T6 (.tmp t) ix) (op7 : o7.op = .store T7 (.tmp d) x7) (op8 : o8.op = .store T8 (.tmp p) (.tmp t)) (hdN : d < C.N) (hpd : p ≠ d) (htd : t ≠ d) (h76 : k ∈ Zbw ops (k + 1))
 {r : Ref} {off m : Nat} {es nw : List (List D)} (hp : s.tm p = .ptr r off) (ht : s.tm t = .own m es nw) (hpoke : Zch C.P d s T6 (.tmp t) ix = some y) {i7 : Nat} {n7 m7 j7 : Nat} {t7 : Nat} (hy : y = .opt t7 n7 m7 i7 j7)
 (hs7 : Zci C.P C.N (s.put d y) T7 (.tmp d) x7 = some s2) (hs8 : Zci C.P C.N s T8 (.tmp p) (.tmp t) = some s3) {s4 : St} (hs4 : Zci C.P C.N s2 T8 (.tmp p) (.tmp t) = some s4) (hQ : Q .normal s4) :
 ∀ g a w (listed : Array Bool), listed.size = ops.size -> (∀ j, listed.getD j false = decide (j < k)) -> Rel C s g a w -> wpAny C.P .any ops (Qc C Q) 3 listed a w := by
 intro g a w listed hls hl hR
 obtain ⟨v6, run6⟩ := Z0z hR op6 hpoke
 have hp' : s.ev (.tmp p) = .ptr r off := hp
 obtain ⟨vs8, cs8, row8, own8, run8⟩ := Z4f hR op8 hp' ht hs8
 obtain ⟨g1, R1⟩ := (Zkl d6 hdN op6 hpoke).at_val hR (run6 w)
 rw [d6] at R1
 have hdN' : d < a.tmps.size := by rw [hR.size]; exact hdN
 have hev : ∀ q, q ≠ d -> (a.put (some d) v6).eval (.tmp q) = a.eval (.tmp q) := fun q hq => by
  show (a.put (some d) v6).tmps.getD q undef = a.tmps.getD q undef
  rw [Zbs hdN', if_neg hq]
 have hp1 : (s.put d y).ev (.tmp p) = .ptr r off := by show (s.put d y).tm p = _; rw [<- hp]; exact Zal _ _ hpd
 have hbx : g1.bx r = g.bx r := by
  have e1 := hR.ev (.tmp p) (by rw [hp']; rfl) .res
  have e2 := R1.ev (.tmp p) (by rw [hp1]; rfl) .res
  rw [hp'] at e1
  rw [hp1] at e2
  have e3 := e2.1
  rw [hev p hpd, e1.1] at e3
  injection e3 with e3
  injection e3 with e3
  injection e3 with e4 _ _
  exact e4.symm
 have hd1 : (s.put d y).ev (.tmp d) = .opt t7 n7 m7 i7 j7 := by show (s.put d y).tm d = _; rw [<- hy]; exact Zap _ _ _
 obtain ⟨off7, vs7, cs7, row7, own7, run7⟩ := Z4g R1 op7 hd1 hs7
 have own8' : Owns (s.put d y) g1 (.box r) (g.bx r) := by
  rw [<- hbx]
  cases own8 with
  | box h => exact .box (c := _) h
 have hne : g1.ow (.slot t7) ≠ g.bx r := fun e => by
  have := R1.heap.inj _ _ _ own7 (e ▸ own8')
  cases this
 have run8' : ∀ w1, Row w1 (g.bx r) cs8 -> (execOp (a.put (some d) v6).eval o8).run C.P w1 = .ok .skip (Zba w1 (g.bx r) off vs8) := fun w1 hr => by
  have := run8 w1 hr
  simp only [execOp, op8] at this ⊢
  rw [hev p hpd, hev t htd]
  exact this
 obtain ⟨g2, R2⟩ := (Zi2 d7 op7 hs7).at_skip R1 (run7 w row7)
 rw [d7] at R2
 obtain ⟨g3, R3⟩ := (Zi2 d8 op8 hs4).at_skip R2 (run8' _ (Zel hne.symm vs7 w off7 row8))
 rw [d8] at R3
 have hfin : Qc C Q .normal (a.put (some d) v6) (Zba (Zba w (g1.ow (.slot t7)) off7 vs7) (g.bx r) off vs8) := ⟨s4, g3, R3, hQ⟩
 have hfin' : Qc C Q .normal (a.put (some d) v6) (Zba (Zba w (g.bx r) off vs8) (g1.ow (.slot t7)) off7 vs7) := by
  rw [Zia _ _ hne.symm]; exact hfin
 have hgl : ∀ {l : Array Bool} {i : Nat}, l.size = ops.size -> i < ops.size -> ∀ j, (l.setIfInBounds i true).getD j false = (decide (j = i) || l.getD j false) := fun {l i} hs hi j => by
  by_cases e : j = i
  ·subst e; simp [hs, hi]
  ·rw [getD_set_ne false (Ne.symm e)]; simp [e]
 have done0 : ∀ {l : Array Bool} {a : Act} {w : World}, l.size = ops.size -> (∀ j < k + 3, l.getD j false = true) -> Qc C Q .normal a w -> wpAny C.P .any ops (Qc C Q) 0 l a w := fun {l a w} hs hall hq => by
  refine ⟨List.eq_nil_iff_forall_not_mem.2 fun i hi => ?_, hq⟩
  obtain ⟨h1, h2, _⟩ := Zgo hs hi
  rw [hall i (by omega)] at h2
  cases h2
 have hk : k < ops.size := by omega
 have hk1 : k + 1 < ops.size := by omega
 have hk2 : k + 2 < ops.size := by omega
 have last7 : ∀ {l : Array Bool}, l.size = ops.size -> (∀ j, l.getD j false = (decide (j < k) || decide (j = k) || decide (j = k + 2))) -> wpAny C.P .any ops (Qc C Q) 1 l (a.put (some d) v6) (Zba w (g.bx r) off vs8) := fun {l} hs hb => by
  refine ⟨fun hnil => ?_, fun i hi => ?_⟩
  ·have := Zid hs hdir hk1 (by rw [hb]; simp) (fun j hj => by rw [hb]; simp; omega)
   rw [hnil] at this; cases this
  ·obtain ⟨h1, h2, _⟩ := Zgo hs hi
   rw [hb] at h2
   have : i = k + 1 := by simp at h2; omega
   subst this
   refine Zic h7 g7 d7 (run7 _ (Zel hne vs8 w off row7)) (done0 (by simpa using hs) (fun j hj => ?_) hfin')
   rw [hgl hs hk1, hb]; simp; omega
 have last8 : ∀ {l : Array Bool}, l.size = ops.size -> (∀ j, l.getD j false = (decide (j < k) || decide (j = k) || decide (j = k + 1))) -> wpAny C.P .any ops (Qc C Q) 1 l (a.put (some d) v6) (Zba w (g1.ow (.slot t7)) off7 vs7) := fun {l} hs hb => by
  refine ⟨fun hnil => ?_, fun i hi => ?_⟩
  ·have := Zid hs hdir hk2 (by rw [hb]; simp) (fun j hj => by rw [hb]; simp; omega)
   rw [hnil] at this; cases this
  ·obtain ⟨h1, h2, _⟩ := Zgo hs hi
   rw [hb] at h2
   have : i = k + 2 := by simp at h2; omega
   subst this
   refine Zic h8 g8 d8 (run8' _ (Zel hne.symm vs7 w off7 row8)) (done0 (by simpa using hs) (fun j hj => ?_) hfin)
   rw [hgl hs hk2, hb]; simp; omega
 refine ⟨fun hnil => ?_, fun i hi => ?_⟩
 ·have := Zid hls hdir hk (by rw [hl]; simp) (fun j hj => by rw [hl]; simpa using hj)
  rw [hnil] at this; cases this
 ·obtain ⟨h1, h2, h3⟩ := Zgo hls hi
  rw [hl] at h2
  have hi3 : i = k \/ i = k + 1 \/ i = k + 2 := by simp at h2; omega
  rcases hi3 with rfl | rfl | rfl
  ·refine Zt7 h6 g6 (run6 w) ?_
   rw [d6]
   have hb1 : ∀ j, (listed.setIfInBounds i true).getD j false = (decide (j < i) || decide (j = i)) := fun j => by rw [hgl hls hk, hl, Bool.or_comm]
   have hls1 : (listed.setIfInBounds i true).size = ops.size := by simpa using hls
   refine ⟨fun hnil => ?_, fun j hj => ?_⟩
   ·have := Zid hls1 hdir hk1 (by rw [hb1]; simp) (fun j hj => by rw [hb1]; simp; omega)
    rw [hnil] at this; cases this
   ·obtain ⟨k1, k2, _⟩ := Zgo hls1 hj
    rw [hb1] at k2
    have hj2 : j = i + 1 \/ j = i + 2 := by simp at k2; omega
    rcases hj2 with rfl | rfl
    ·refine Zic h7 g7 d7 (run7 w row7) (last8 (by simpa using hls) fun q => ?_)
     rw [hgl hls1 hk1, hb1, Bool.or_comm]
    ·refine Zic h8 g8 d8 (run8' w row8) (last7 (by simpa using hls) fun q => ?_)
     rw [hgl hls1 hk2, hb1, Bool.or_comm]
  ·have := h3 k h76
   rw [hl] at this
   simp at this
  ·refine Zic h8 g8 d8 (run8 w row8) ?_
   have hb1 : ∀ j, (listed.setIfInBounds (k + 2) true).getD j false = (decide (j < k) || decide (j = k + 2)) := fun j => by rw [hgl hls hk2, hl, Bool.or_comm]
   have hls1 : (listed.setIfInBounds (k + 2) true).size = ops.size := by simpa using hls
   refine ⟨fun hnil => ?_, fun j hj => ?_⟩
   ·have := Zid hls1 hdir hk (by rw [hb1]; simp) (fun j hj => by rw [hb1]; simp; omega)
    rw [hnil] at this; cases this
   ·obtain ⟨k1, k2, k3⟩ := Zgo hls1 hj
    rw [hb1] at k2
    have hj2 : j = k \/ j = k + 1 := by simp at k2; omega
    rcases hj2 with rfl | rfl
    ·refine Zt7 h6 g6 (run6 _) ?_
     rw [d6]
     refine last7 (by simpa using hls) fun q => ?_
     rw [hgl hls1 hk, hb1]
     cases decide (q < j) <;> cases decide (q = j) <;> rfl
    ·have := k3 k h76
     rw [hb1] at this
     simp at this
end Go.Ab
end
section
namespace Go.Rf
open Go.Ab
theorem Zp9 {ops : Array Oper} {m : Nat} {tl : Bool} (hc : Zyf ops (clOf ops) m tl = true) : m <= ops.size /\ (∀ i j, j ∈ Zbw ops i -> j < i) /\ (∀ i j, preP ops i j -> j < i) /\ (∀ i, m <= i -> i < ops.size -> ∀ j < m, preP ops i j) /\
 (tl = false -> ∀ i, m <= i -> i < ops.size -> ∀ j < i, preP ops i j) /\ (tl = true -> ops.size = m + 3) := by
 simp only [Zyf, Bool.and_eq_true, Nat.ble_eq, List.all_eq_true, List.mem_range, Nat.blt_eq, Bool.or_eq_true, Bool.not_eq_true', beq_iff_eq] at hc
 obtain ⟨⟨⟨⟨h1, h2⟩, h3⟩, h4⟩, h5⟩ := hc
 have hA : tl = false -> ∀ i, m <= i -> i < ops.size -> ∀ j < i, preP ops i j := fun htl i hi hio j hji => by
  subst htl
  rcases h4 i hio with h | h
  ·omega
  ·have h : (clOf ops).getD i 0 = 2 ^ i - 1 := by simpa using h
   unfold preP
   rw [h, Nat.testBit_two_pow_sub_one]
   exact decide_eq_true hji
 have hB : tl = true -> ∀ i, m <= i -> i < ops.size -> ∀ j < m, preP ops i j := fun htl i hi hio j hjm => by
  subst htl
  rcases h4 i hio with h | h
  ·omega
  ·have h : (clOf ops).getD i 0 % 2 ^ m = 2 ^ m - 1 := by simpa using h
   have := congrArg (Nat.testBit · j) h
   simp only [Nat.testBit_mod_two_pow, Nat.testBit_two_pow_sub_one, decide_eq_true hjm, Bool.true_and] at this
   exact this
 have hcllen : ∀ (ds : List (List Nat)) (L : List Nat), (clos ds L).length = L.length + ds.length := by
  intro ds
  induction ds with
  | nil => intro L; rfl
  | cons d ds ih => intro L; unfold clos; rw [ih]; simp; omega
 refine ⟨h1, fun i j hj => ?_, fun i j hj => ?_, fun i hi hio j hji => ?_, hA, fun htl => ?_⟩
 ·by_cases hi : i < ops.size
  ·exact h2 i hi j hj
  ·unfold Zbw at hj
   rw [Array.getElem?_eq_none (by omega)] at hj
   cases hj
 ·by_cases hi : i < ops.size
  ·refine Nat.lt_of_not_le fun hle => ?_
   have := Nat.testBit_lt_two_pow (Nat.lt_of_lt_of_le (h3 i hi) (Nat.pow_le_pow_right (by decide) hle))
   unfold preP at hj
   rw [this] at hj; cases hj
  ·unfold preP at hj
   rw [List.getD, List.getElem?_eq_none (by unfold clOf; rw [hcllen]; simp; omega)] at hj
   simp at hj
 ·cases tl with
  | false => exact hA rfl i hi hio j (by omega)
  | true => exact hB rfl i hi hio j hji
 ·rcases h5 with h5 | h5
  ·rw [h5] at htl; cases htl
  ·exact h5
theorem Zyk {ρ : Env} {m : Nm} : ∀ {x y : List RA}, leC x y = true -> x.length = y.length /\ ∀ (j : Nat) (a : A), (kDen ρ m x)[j]? = some a -> a = .any \/ (kDen ρ m y)[j]? = some a
 | [], [], _ => ⟨rfl, fun j a h => by simp [kDen] at h⟩
 | x :: l, y :: k, h => by
   simp only [leC, Bool.and_eq_true] at h
   obtain ⟨h1, h2⟩ := Zyk (ρ := ρ) (m := m) h.2
   refine ⟨by simp [h1], fun j a ha => ?_⟩
   cases j with
   | zero =>
     have h3 := h.1
     have ha : x.den ρ m (fun _ => 0) = a := by simpa [kDen] using ha
     split at h3
     ·exact .inl ha.symm
     ·rw [RA.beq_eq h3] at ha
      exact .inr (by simp [kDen, ha])
   | succ j =>
     have := h2 j a (by simpa [kDen] using ha)
     simpa [kDen] using this
 | [], _ :: _, h => by cases h
 | _ :: _, [], h => by cases h
theorem Z4h {a b : List (RRef × List RA)} (h : leK a b = true) : ∀ r x, (r, x) ∈ a -> ∃ y, (r, y) ∈ b /\ leC x y = true := fun r x hx => by
 have := List.all_eq_true.1 h (r, x) hx
 simp only at this
 split at this
 ·rename_i y hy; exact ⟨y, Zcx hy, this⟩
 ·cases this
section
variable {ρ : Env} {m : Nm} {rs : RSt} {s : St} {P : Program} {up : Nat -> Ref} {R : Out -> List (Ref × List A) -> Prop} {σ : Sig}
theorem Den.meet (hd : Den ρ m rs s) {Kp : List (RRef × List RA)} (hKn : (Kp.map (·.1)).Nodup) (hle : leK Kp rs.K = true) {nv dep : Nat} {kn : List E} (hk : ∀ e ∈ kn, (e.den ρ).bool = true) :
 ∃ s', (∀ (C : Ctx) (g : Gh) (a : Act) (w : World), Rel C s g a w -> Rel C s' g a w) /\ Den ρ m { tm := .nil, K := Kp, nv := nv, dep := dep, known := kn, al := false } s' := by
 have hg := Z4h hle
 have hnd : (Kp.map fun x => x.1.den m).Nodup := by
  have : (Kp.map fun x => x.1.den m) = (Kp.map (·.1)).map (RRef.den m) := by simp [Function.comp_def]
  rw [this]
  refine List.pairwise_map.2 (List.Pairwise.imp_of_mem (fun {x y} hx hy hxy e => hxy ?_) hKn)
  obtain ⟨x', hx', rfl⟩ := List.mem_map.1 hx
  obtain ⟨y', hy', rfl⟩ := List.mem_map.1 hy
  obtain ⟨c1, h1, _⟩ := hg x'.1 x'.2 hx'
  obtain ⟨c2, h2, _⟩ := hg y'.1 y'.2 hy'
  exact Zdg hd.nd (List.mem_map.2 ⟨_, h1, rfl⟩) (List.mem_map.2 ⟨_, h2, rfl⟩) e
 have hnd2 : ((Zad ρ m Kp).map (·.1)).Nodup := by
  have : (Zad ρ m Kp).map (·.1) = Kp.map fun x => x.1.den m := by simp [Zad, Function.comp_def]
  rw [this]; exact hnd
 refine ⟨{ s with K := kOf (Zad ρ m Kp) }, fun C g a w hR => hR.dropCells fun r c' hc => ?_, fun t => .inl rfl, fun _ t => rfl, fun r c hc => ?_, hnd, hk⟩
 ·obtain ⟨x, hx, e⟩ := List.mem_map.1 (Zff hc)
  cases e
  obtain ⟨y, hy, hl⟩ := hg x.1 x.2 hx
  obtain ⟨h1, h2⟩ := Zyk (ρ := ρ) (m := m) hl
  exact ⟨kDen ρ m y, hd.K x.1 y hy, by simp [kDen, h1], h2⟩
 ·exact Zb9 hnd2 (List.mem_map.2 ⟨(r, c), hc, rfl⟩)
theorem Zi7 {c : Cfg} {ops : Array Oper} {s s' : St} {o : Oper} {t : TypeId} {p x : Operand} (hd : o.dst = none) (hop : o.op = .store t p x) (h : Zcd c.P c.N ops s o = some s') : Zci c.P c.N s t p x = some s' := by
 unfold Zcd at h
 rw [hd, hop] at h
 exact h
theorem Zyl {c : Cfg} {op : Opt} {ops : Array Oper} {C : Ctx} (hP : C.P = c.P) (hN : C.N = c.N) {mm : Nat} {tl : Bool} (hcl : Zyf ops (clOf ops) mm tl = true) {Q : Ex -> St -> Prop} {K : Re -> RSt -> T} {n0 : Nat} {ρ0 : Env} {σ0 : Sig}
 (hK : Zk5 c.P up R n0 ρ0 σ0 Q K) (ha : Agr n0 ρ0 ρ) (hnv : n0 <= rs.nv) (hu : m.up = up) (hσ : σ0 <+: σ) (hdep : rs.dep = σ.length) (hd : Den ρ m rs s) (h : (sufT c op ops mm tl K rs).den c.P up R ρ σ) :
 ∀ g a w (listed : Array Bool), listed.size = ops.size -> (∀ j, listed.getD j false = decide (j < mm)) -> Rel C s g a w -> wpAny C.P .any ops (Qc C Q) (ops.size - mm) listed a w := by
 obtain ⟨hmm, hdir, hplt, _, hsuf, htl⟩ := Zp9 hcl
 unfold sufT at h
 split at h
 ·rename_i htr
  split at h
  ·rename_i o6 o7 o8 h6 h7 h8
   split at h
   ·rename_i d T6 t ix T7 d' x7 T8 p t' hd6 hop6 hop7 hop8
    split at h
    ·rename_i r off m0 es nw l6 t7 m7 i7 j7 hp ht hpk
     split at h
     ·rename_i l7 r2 h7s
      split at h
      ·rename_i l8 r3 l9 q9 h8s h9s
       split at h
       ·rename_i hc
        simp only [Bool.and_eq_true, beq_iff_eq, Bool.not_eq_true', beq_eq_false_iff_ne, Option.isNone_iff_eq_none, decide_eq_true_eq, List.contains_iff_mem] at hc
        obtain ⟨⟨⟨⟨⟨⟨⟨⟨⟨⟨⟨e1, e2⟩, e3⟩, e4⟩, e5⟩, e6⟩, e7⟩, e8⟩, e9⟩, e10⟩, e11⟩, e12⟩ := hc
        subst e1
        subst e2
        obtain ⟨kn, hkn, hn, hk⟩ := Zb3 hd.known h
        have hn := Zb0.1 (hn rfl)
        have hn2 := Zb0.1 hn.2
        have hn3 := Zb0.1 hn2.2
        obtain ⟨hpoke, hali⟩ := Zx4 hd (G := .bool true) rfl hpk hn.1
        have hd1 : Den ρ m (rs.put d' (.opt t7 m7 i7 j7)) (s.put d' ((RA.opt t7 m7 i7 j7).den ρ m s.gen)) := hd.put hali (.inr rfl)
        obtain ⟨s2, hev7, hd2, hnv2, hdep2⟩ := Zsj (ops := ops) hd1 e8 h7s hn2.1
        obtain ⟨s4, hev8, hd3, hnv3, hdep3⟩ := Znz hd2 h8s hn3.1 (fun d e => by rw [e9] at e; cases e)
        obtain ⟨s3, hev9, _, _, _⟩ := Znz hd h9s hn3.2 (fun d e => by rw [e9] at e; cases e)
        have hpv : s.tm p = .ptr (r.den m) off := by
         have := (hd.tm p).resolve_left (by rw [hp]; intro e; cases e)
         rw [hp] at this; exact this
        have htv : s.tm t' = .own m0 (es.den ρ).lst (nw.den ρ).lst := by
         have := (hd.tm t').resolve_left (by rw [ht]; intro e; cases e)
         rw [ht] at this; exact this
        have hsz := htl htr
        intro g a w listed hls hl hR
        have e13 : ops.size - mm = 3 := by omega
        rw [e13]
        refine any3 (s2 := s2) (s3 := s3) (s4 := s4) hsz hdir h6 h7 h8 e5 e6 e7 hd6 e8 e9 hop6 hop7 hop8 (by rw [hN]; exact e10) e3 e4 e11 hpv htv (by rw [hP]; exact hpoke) rfl (by rw [hP, hN]; exact Zi7 e8 hop7 hev7) (by rw [hP, hN]; exact Zi7 e9 hop8 hev9) (by rw [hP, hN]; exact Zi7 e9 hop8 hev8) ?_ g a w listed hls hl hR
        exact hK .nrm ρ m _ s4 σ ha (by show n0 <= r3.nv; rw [hnv3, hnv2, Zbm]; exact hnv) hu hσ (by show r3.dep = _; rw [hdep3, hdep2, Za0]; exact hdep) (hd3.knew hkn) hk
       ·unfold T.den at h; exact h.elim
      ·unfold T.den at h; exact h.elim
     ·unfold T.den at h; exact h.elim
    ·unfold T.den at h; exact h.elim
   ·unfold T.den at h; exact h.elim
  ·unfold T.den at h; exact h.elim
 ·rename_i htr
  have := Ztx hP hN (l := ops.toList.drop mm) (k := mm) (fun j => by simp) hK ha hnv hu hσ hdep hd h
  have e : (ops.toList.drop mm).length = ops.size - mm := by simp
  rw [e] at this
  intro g a w listed hls hl hR
  exact Zk6 (preP ops) Zh8 hplt (hsuf (by simpa using htr)) hdir _ mm listed a w (Nat.le_refl _) (by omega) hls hl (this g a w hR)
theorem Z6m {c : Cfg} {op : Opt} {ops : Array Oper} {C : Ctx} (hP : C.P = c.P) (hN : C.N = c.N) (hmx : C.P.follows .mixedOrders = true) {id mm : Nat} {tl : Bool} (hcl : Zyf ops (clOf ops) mm tl = true) {Q : Ex -> St -> Prop} {K : Re -> RSt -> T} {n0 : Nat} {ρ0 : Env} {σ0 : Sig}
 (hK : Zk5 c.P up R n0 ρ0 σ0 Q K) (ha : Agr n0 ρ0 ρ) (hnv : n0 <= rs.nv) (hu : m.up = up) (hσ : σ0 <+: σ) (hdep : rs.dep = σ.length) (hd : Den ρ m rs s) (h : (latT c op ops (clOf ops) mm tl K rs).den c.P up R ρ σ) :
 AW C (.region id ops true) Q s := by
 have tt : ((E.bool true).den ρ).bool = true := rfl
 obtain ⟨hmm, hdir, hplt, hsuf, _, _⟩ := Zp9 hcl
 have hd0 : Den ρ m { rs with known := [] } s := hd.knew (by intro e he; cases he)
 have hready : ∀ {L i : Nat}, L.testBit i = false -> (∀ j ∈ Zbw ops i, L.testBit j = true) -> Zjo ops L i = true := fun {L i} h1 h2 => by
  simp only [Zjo, h1, Bool.not_false, Bool.true_and, List.all_eq_true]; exact h2
 unfold latT at h
 simp only at h
 split at h
 ·
  generalize Zp6 c ops mm ops.size 4000 [(0, { rs with known := [] })] [] = nodes at h
  split at h
  ·rename_i r1 l rf h1 h2 h3
   split at h
   ·rename_i hb
    have hr1 := RSt.beq_eq hb
    obtain ⟨kn, hkn, hn, hrest⟩ := Zb3 hd.known h
    have hn := hn tt
    refine Z2o hmx mm (preP ops) (fun L s => ∃ rsL m', Zfv nodes L = some rsL /\ m'.up = up /\ Den ρ m' rsL s /\ rsL.nv = rs.nv /\ rsL.dep = rs.dep) Zh8 hplt hsuf hdir hmm ⟨r1, m, h1, hu, by rw [<- hr1]; exact hd0, by rw [<- hr1], by rw [<- hr1]⟩
     (fun L s i hI hi hLi hdl g a w hR => ?_) (fun s hI => ?_)
    ·obtain ⟨rsL, m', hl, hu', hd', e1, e2⟩ := hI
     obtain ⟨o, l', rs', ho, hq, hnl, hlk⟩ := Zn3 h2 hn L rsL (Ze5 hl) i hi (by omega) (hready hLi hdl)
     obtain ⟨m'', s', hu'', hd'', e3, e4, hstep⟩ := Zn2 hP hN ho hd' hq hnl
     exact hstep g a w hR _ _ fun g' a' w' hR' => ⟨s', g', hR', rs', m'', hlk, hu''.trans hu', hd'', e3.trans e1, e4.trans e2⟩
    ·obtain ⟨rsL, m', hl, hu', hd', e1, e2⟩ := hI
     rw [h3] at hl
     cases hl
     exact Zyl hP hN hcl hK ha (by show n0 <= rf.nv; rw [e1]; exact hnv) hu' hσ (by show rf.dep = _; rw [e2]; exact hdep) (hd'.knew hkn) hrest
   ·unfold T.den at h; exact h.elim
  ·unfold T.den at h; exact h.elim
  ·unfold T.den at h; exact h.elim
 ·
  rename_i ci hci
  split at h
  ·unfold T.den at h; exact h.elim
  ·rename_i o ho
   split at h
   ·rename_i d q hdst hop
    split at h
    ·rename_i fx hcal
     generalize Zp6 c ops mm ci 4000 [(0, { rs with known := [] })] [] = nodes at h
     split at h
     ·rename_i r1 l1 rc h1 h2 h3
      split at h
      ·rename_i F caps vals bx hinfo
       split at h
       ·rename_i res k1 hres
        split at h
        ·rename_i bx' k2 bxp k3 hb2 hb3
         generalize (nodes.filter fun x => Zjo ops x.1 ci).foldl (fun a x => Z6i a (Zd9 x.2.K bxp)) (Zd9 rc.K bxp) = Kp at h
         generalize hn2 : Zp6 c ops mm ops.size 4000 [((clOf ops).getD ci 0 ||| 1 <<< ci, ({ rc with K := Zd9 rc.K bx', nv := rc.nv + k1.length + k2.length } : RSt).put d res)] [] = n2 at h
         split at h
         ·rename_i l2 rf h4 h5
          split at h
          ·rename_i hc
           simp only [Bool.and_eq_true, decide_eq_true_eq, List.all_eq_true, beq_iff_eq, Option.isNone_iff_eq_none] at hc
           obtain ⟨⟨⟨⟨⟨⟨⟨⟨⟨⟨⟨⟨⟨⟨hlt, hcim⟩, hr1⟩, hgd⟩, hnd⟩, hnm⟩, hnmp⟩, hokr⟩, hpl⟩, hok⟩, hok'⟩, hokp⟩, hKn⟩, hnodes⟩, hrdy⟩ := hc
           have hr1 := RSt.beq_eq hr1
           obtain ⟨kn, hkn, hn, hrest⟩ := Zb3 hd.known h
           have hn := hn tt
           have hpl : vals.all RA.plain = true := List.all_eq_true.2 hpl
           have hok : (bx.all fun x => x.2.all RA.okCell) = true := List.all_eq_true.2 fun x hx => List.all_eq_true.2 (hok x hx)
           have hok' : (bx'.all fun x => x.2.all RA.okCell) = true := List.all_eq_true.2 fun x hx => List.all_eq_true.2 (hok' x hx)
           have hokp : (bxp.all fun x => x.2.all RA.okCellP) = true := List.all_eq_true.2 fun x hx => List.all_eq_true.2 (hokp x hx)
           unfold T.den at hrest
           have hnv0 : rc.nv = rs.nv := by
            have := (hnodes _ (Ze5 h1)).1.2
            rw [<- this, <- hr1]
           refine Z2o hmx mm (preP ops) (fun L s => if L.testBit ci then
            ∃ ρ' kn' rsL m', Agr rc.nv ρ ρ' /\ (∀ e ∈ kn', (e.den ρ').bool = true) /\ Nds ρ' l2 /\ (sufT c op ops mm tl K { rf with known := kn' }).den c.P up R ρ' σ /\ Zfv n2 L = some rsL /\ m'.up = up /\ Den ρ' m' rsL s /\ rsL.nv = rc.nv + k1.length + k2.length /\ rsL.dep = rs.dep
            else ∃ rsL m', Zfv nodes L = some rsL /\ m'.up = up /\ Den ρ m' rsL s) Zh8 hplt hsuf hdir hmm ?_
            (fun L s i hI hi hLi hdl g a w hR => ?_) (fun s hI => ?_)
           ·rw [if_neg (by simp)]
            exact ⟨r1, m, h1, hu, by rw [<- hr1]; exact hd0⟩
           ·by_cases hLc : L.testBit ci = true
            ·
             rw [if_pos hLc] at hI
             obtain ⟨ρ', kn', rsL, m', hag, hkn', hnl2, hk2, hl, hu', hd', e1, e2⟩ := hI
             obtain ⟨o', l', rs', ho', hq, hnl, hlk⟩ := Zn3 h4 hnl2 L rsL (Ze5 hl) i hi (by omega) (hready hLi hdl)
             obtain ⟨m'', s', hu'', hd'', e3, e4, hstep⟩ := Zn2 hP hN ho' hd' hq hnl
             refine hstep g a w hR _ _ fun g' a' w' hR' => ⟨s', g', hR', ?_⟩
             rw [if_pos (by rw [Nat.testBit_or, hLc]; rfl)]
             exact ⟨ρ', kn', rs', m'', hag, hkn', hnl2, hk2, hlk, hu''.trans hu', hd'', e3.trans e1, e4.trans e2⟩
            ·rw [if_neg hLc] at hI
             obtain ⟨rsL, m', hl, hu', hd'⟩ := hI
             by_cases hic : i = ci
             ·
              subst hic
              have hmem := Ze5 hl
              obtain ⟨⟨hltL, hnvL⟩, hdepL⟩ := hnodes _ hmem
              have hrd := hrdy (L, rsL) (List.mem_filter.2 ⟨hmem, hready hLi hdl⟩)
              obtain ⟨⟨hr2, hr3⟩, hr4⟩ := hrd
              have hnvL : rsL.nv = rc.nv := hnvL
              have hdepL : rsL.dep = rs.dep := hdepL
              have hltL : rsL.lt = true := hltL
              have hinf : Zye rsL fx q.args.toList = some (F, caps, vals, bx) := by
               split at hr2
               ·rename_i F' caps' vals' bxx hi'
                simp only [Bool.and_eq_true, beq_iff_eq, decide_eq_true_eq] at hr2
                obtain ⟨⟨⟨e1, e2⟩, e3⟩, e4⟩ := hr2
                have hi' : Zye rsL fx q.args.toList = some (F', caps', vals', bxx) := hi'
                rw [hi', e1, e2, Zk7 e3, Zk8 e4]
               ·cases hr2
              have hlk2 : Zfv n2 (L ||| 1 <<< i) = some (({ rsL with K := Zd9 rsL.K bx', nv := rc.nv + k1.length + k2.length } : RSt).put d res) := by
               split at hr3
               ·rename_i r2 e; rw [e, RSt.beq_eq hr3]
               ·cases hr3
              unfold Zye at hinf
              split at hinf
              ·rename_i F0 caps0 vals0 hfx hvals
               split at hinf
               ·rename_i bx0 hbx
                cases hinf
                obtain ⟨R', hh, hret, hpan⟩ := hrest m'.ν
                have hm : (⟨up, m'.ν⟩ : Nm) = m' := by rw [<- hu']
                rw [hm] at hh
                simp only [hm] at hret hpan
                have hin := Zc7 hbx
                have hsub : ∀ x ∈ bx, x.1 ∈ rsL.K.map (·.1) := fun x hx => List.mem_map.2 ⟨_, Zcx (hin x hx), rfl⟩
                have hH : ∀ x ∈ Zad ρ m' bx, s.K x.1 = some x.2 := fun x hx => by
                 obtain ⟨y, hy, rfl⟩ := List.mem_map.1 hx
                 exact hd'.look (hin y hy)
                have hHn : ((Zad ρ m' bx).map (·.1)).Nodup := by
                 have : (Zad ρ m' bx).map (·.1) = (bx.map (·.1)).map (RRef.den m') := by simp [Zad, Function.comp_def]
                 rw [this]
                 refine List.pairwise_map.2 (List.Pairwise.imp_of_mem (fun {x y} hx hy hxy e => hxy ?_) hnd)
                 obtain ⟨x', hx', rfl⟩ := List.mem_map.1 hx
                 obtain ⟨y', hy', rfl⟩ := List.mem_map.1 hy
                 exact Zdg hd'.nd (hsub _ hx') (hsub _ hy') e
                have hfst : ∀ {ρ' : Env} {b : List (RRef × List RA)}, b.map (·.1) = bx.map (·.1) -> (Zad ρ' m' b).map (·.1) = (Zad ρ m' bx).map (·.1) := fun {ρ' b} e => by
                 have := congrArg (List.map (RRef.den m')) e
                 simpa [Zad, Function.comp_def] using this
                have hplain : ∀ {ρ' : Env} {b : List (RRef × List RA)}, (b.all fun x => x.2.all RA.okCell) = true -> ∀ x ∈ Zad ρ' m' b, ∀ y ∈ x.2, y.plain = true := fun {ρ' b} hb x hx y hy => by
                 obtain ⟨z, hz, rfl⟩ := List.mem_map.1 hx
                 obtain ⟨w, hw, rfl⟩ := List.mem_map.1 hy
                 exact Zek (List.all_eq_true.1 (List.all_eq_true.1 hb z hz) w hw)
                have hplainP : ∀ {ρ' : Env} {b : List (RRef × List RA)}, (b.all fun x => x.2.all RA.okCellP) = true -> ∀ x ∈ Zad ρ' m' b, ∀ y ∈ x.2, y.plain = true := fun {ρ' b} hb x hx y hy => by
                 obtain ⟨z, hz, rfl⟩ := List.mem_map.1 hx
                 obtain ⟨w, hw, rfl⟩ := List.mem_map.1 hy
                 exact Zh6 (List.all_eq_true.1 (List.all_eq_true.1 hb z hz) w hw)
                have hsub' : ∀ {b : List (RRef × List RA)}, b.map (·.1) = bx.map (·.1) -> ∀ x ∈ b, x.1 ∈ rsL.K.map (·.1) := fun {b} e x hx => by
                 have : x.1 ∈ bx.map (·.1) := e ▸ List.mem_map.2 ⟨x, hx, rfl⟩
                 obtain ⟨y, hy, e2⟩ := List.mem_map.1 this
                 rw [<- e2]; exact hsub y hy
                have hcall : o.op = .call { callee := .value fx, args := q.args, argTypes := q.argTypes } := by rw [hop, <- hcal]
                have hfx' : s.ev fx = .fn F (caps.map (RRef.den m')) := by
                 have := Zc6 hd' (x := fx) (by rw [hfx]; intro e; cases e)
                 rw [hfx] at this; exact this
                have hw : Za8 ops s o = some true := by unfold Za8; rw [hgd]
                refine Zw3 (H := Zad ρ m' bx) (R := R') ho hw hcall hdst (by rw [hN]; exact hlt) hfx' (Zjz hd' hvals) hH hHn ?_ ?_ ?_ g a w hR
                ·rw [hP]
                 have e1 : (vals.map fun x => x.den ρ m' s.gen).map A.lift = vals.map fun a => (a.den ρ m' gen0).lift := by
                  rw [List.map_map]
                  refine List.map_congr_left fun x hx => ?_
                  have := Zh7 (List.all_eq_true.1 hpl x hx)
                  show A.lift (x.den ρ m' s.gen) = _
                  rw [RA.den_gen (gen := gen0) (gen' := s.gen) fun t ht => by rw [this] at ht; cases ht]
                 rw [e1, List.map_map]
                 exact hh
                ·intro v H' hR'
                 obtain ⟨ρ', hag, hv, hH', hk⟩ := Zgn (hret v H' hR')
                 obtain ⟨hb, hali, hgen⟩ := Zi5 (ρ := ρ') (m := m') (gen := s.gen) hokr
                 refine ⟨v, Zad ρ' m' bx', by rw [hv, <- hgen]; exact hb, hH', hfst hnm, hplain hok', fun g' a' w' hR2 => ⟨_, g', hR2, ?_⟩⟩
                 have hag' : Agr rsL.nv ρ ρ' := by rw [hnvL]; exact hag
                 have hd2 := (hd'.agr hag' hltL).setH (hsub' hnm) (by rw [hnm]; exact hnd)
                 have hd3 : Den ρ' m' { rsL with K := Zd9 rsL.K bx', nv := rc.nv + k1.length + k2.length } (s.setH (Zad ρ' m' bx')) := ⟨hd2.tm, hd2.al, hd2.K, hd2.nd, hd2.known⟩
                 have hfk : ∀ e ∈ kn.filter (E.lt rc.nv), (e.den ρ').bool = true := fun e he => by
                  have := List.mem_filter.1 he
                  rw [E.den_agr hag this.2]; exact hkn e this.1
                 obtain ⟨kn', hkn', hn', hk'⟩ := Zb3 hfk hk
                 rw [if_pos (by rw [Nat.testBit_or, Nat.one_shiftLeft, Nat.testBit_two_pow_self, Bool.or_true])]
                 exact ⟨ρ', kn', _, m', hag, hkn', hn' rfl, hk', hlk2, hu', hd3.put (d := d) (x := res) (y := v) (by rw [hali]; intro e; cases e) (.inr (by rw [hv, <- hgen]; rfl)), by rw [Zbm], by rw [Za0]; exact hdepL⟩
                ·intro v H' hR'
                 obtain ⟨ρ', hag, hH', hk⟩ := Zgn (hpan v H' hR')
                 have hag' : Agr rc.nv ρ ρ' := ((Agr.refl rc.nv ρ).set (.d (.lit v)) (Nat.le_refl _)).trans hag (Nat.le_succ _)
                 have hvn : ρ' rc.nv = .d (.lit v) := by rw [hag rc.nv (Nat.lt_succ_self _), Env.set_same]
                 have hd2 := (hd'.agr (by rw [hnvL]; exact hag') hltL).setH (hsub' hnmp) (by rw [hnmp]; exact hnd)
                 have hfk : ∀ e ∈ kn.filter (E.lt rc.nv), (e.den ρ').bool = true := fun e he => by
                  have := List.mem_filter.1 he
                  rw [E.den_agr hag' this.2]; exact hkn e this.1
                 obtain ⟨s', hs', hd3⟩ := hd2.meet (Kp := Kp) hKn hr4 (nv := rc.nv + 1 + k3.length) (dep := rs.dep) hfk
                 refine ⟨Zad ρ' m' bxp, hH', hfst hnmp, hplainP hokp, s', fun g a w hR => hs' C g a w hR, ?_⟩
                 have := hK (.pan (.var rc.nv)) ρ' m' { tm := .nil, K := Kp, nv := rc.nv + 1 + k3.length, dep := rs.dep, known := kn.filter (E.lt rc.nv), al := false } s' σ (ha.trans hag' (by rw [hnv0]; exact hnv)) (by show n0 <= rc.nv + 1 + k3.length; omega) hu' hσ hdep hd3 hk
                 have e : dval (((E.var rc.nv).den ρ').dd) = v := by show dval (ρ' rc.nv).dd = v; rw [hvn]; rfl
                 simp only [Re.conv] at this
                 rw [e] at this
                 exact this
               ·cases hinf
              ·cases hinf
             ·
              obtain ⟨o', l', rs', ho', hq, hnl, hlk⟩ := Zn3 h2 hn L rsL (Ze5 hl) i hi hic (hready hLi hdl)
              obtain ⟨m'', s', hu'', hd'', e3, e4, hstep⟩ := Zn2 hP hN ho' hd' hq hnl
              refine hstep g a w hR _ _ fun g' a' w' hR' => ⟨s', g', hR', ?_⟩
              rw [if_neg (by
               rw [Nat.testBit_or, Nat.one_shiftLeft, Nat.testBit_two_pow]
               have : ¬ i = ci := hic
               simp [this]
               simpa using hLc)]
              exact ⟨rs', m'', hlk, hu''.trans hu', hd''⟩
           ·rw [if_pos (by rw [Nat.testBit_two_pow_sub_one]; exact decide_eq_true hcim)] at hI
            obtain ⟨ρ', kn', rsL, m', hag, hkn', hnl2, hk2, hl, hu', hd', e1, e2⟩ := hI
            rw [h5] at hl
            cases hl
            exact Zyl hP hN hcl hK (ha.trans hag (by rw [hnv0]; exact hnv)) (by show n0 <= rf.nv; rw [e1]; omega) hu' hσ (by show rf.dep = _; rw [e2]; exact hdep) (hd'.knew hkn') hk2
          ·unfold T.den at h; exact h.elim
         ·unfold T.den at h; exact h.elim
         ·unfold T.den at h; exact h.elim
        ·unfold T.den at h; exact h.elim
       ·unfold T.den at h; exact h.elim
      ·unfold T.den at h; exact h.elim
     ·unfold T.den at h; exact h.elim
     ·unfold T.den at h; exact h.elim
    ·unfold T.den at h; exact h.elim
   ·unfold T.den at h; exact h.elim
end
end Go.Rf
end
section
namespace Go.Rf
open Go.Ab
section
variable {up : Nat -> Ref} {R : Out -> List (Ref × List A) -> Prop}
theorem Zym {c : Cfg} {op : Opt} {ops : Array Oper} {cl ds : List Nat} {mm : Nat} (hmm : mm <= ops.size) {C : Ctx} (hP : C.P = c.P) (hN : C.N = c.N) {Q : Ex -> St -> Prop} {K : Re -> RSt -> T} : ∀ {l : List Oper} {k n0 : Nat} {ρ0 ρ : Env} {σ0 σ : Sig} {m : Nm} {rs : RSt} {s : St},
 (∀ j, j < l.length -> l[j]? = ops[k + j]?) -> k + l.length = mm -> Zk5 c.P up R n0 ρ0 σ0 Q K -> Agr n0 ρ0 ρ -> n0 <= rs.nv -> m.up = up -> σ0 <+: σ -> rs.dep = σ.length -> Den ρ m rs s -> (Zi6 c op ops cl ds mm K l k rs).den c.P up R ρ σ -> DP C ops cl ds mm Q l k s
 | [], k, n0, ρ0, ρ, σ0, σ, m, rs, s, _, hk, hK, ha, hnv, hu, hσ, hdep, hd, h => by
   unfold Zi6 at h
   have := Ztx hP hN (l := ops.toList.drop mm) (k := mm) (fun j => by simp) hK ha hnv hu hσ hdep hd h
   have e : (ops.toList.drop mm).length = ops.size - mm := by simp
   rw [e] at this
   exact this
 | o :: l, k, n0, ρ0, ρ, σ0, σ, m, rs, s, hl, hk, hK, ha, hnv, hu, hσ, hdep, hd, h => by
   have h0 : ops[k]? = some o := by simpa using (hl 0 (by simp)).symm
   have hl' : ∀ j, j < l.length -> l[j]? = ops[k + 1 + j]? := fun j hj => by
    have := hl (j + 1) (by simpa using hj)
    simpa [Nat.add_assoc, Nat.add_comm 1 j] using this
   have hk' : k + 1 + l.length = mm := by simp at hk; omega
   unfold Zi6 at h
   split at h
   ·rename_i d G looks hdst hG hlk
    have hwant := Zn0 hd hG
    have hsub := Zyb hd hlk
    split at h
    ·rename_i hc
     have hsl := Zv5 hc.2 hsub
     have hlt := hc.1
     have ih : ∀ {ρ' : Env} {m' : Nm} {rs' : RSt} {s' : St}, Agr n0 ρ0 ρ' -> n0 <= rs'.nv -> m'.up = up -> rs'.dep = σ.length -> Den ρ' m' rs' s' -> (Zi6 c op ops cl ds mm K l (k + 1) rs').den c.P up R ρ' σ -> DP C ops cl ds mm Q l (k + 1) s' :=
      fun h1 h2 h3 h4 h5 h6 => Zym hmm hP hN hl' hk' hK h1 h2 h3 hσ h4 h5 h6
     have skip : ∀ {rs : RSt}, Den ρ m rs s -> n0 <= rs.nv -> rs.dep = σ.length -> (G.den ρ).bool = false -> (Zi6 c op ops cl ds mm K l (k + 1) (rs.put d (.tup []))).den c.P up R ρ σ -> DP C ops cl ds mm Q (o :: l) k s := fun {rs} hd hnv hdep hb hk => by
      rw [hb] at hwant
      exact ⟨d, _, _, hdst, Ztl h0 hdst (by rw [hN]; exact hlt) hwant, hsl, ih ha (by rw [Zbm]; exact hnv) hu (by rw [Za0]; exact hdep) (hd.put (by intro e; cases e) (.inr rfl)) hk⟩
     split at h
     ·rename_i hF
      exact skip hd hnv hdep (by rw [Ztu hF]; rfl) h
     ·split at h
      ·rename_i n v hr
       split at h
       ·rename_i hali
        obtain ⟨kn, h1, h2, h3⟩ := Zb3 hd.known h
        cases hb : (G.den ρ).bool
        ·rw [hb] at hwant
         have hgT : G.isT = false := by
          cases ht : G.isT
          ·rfl
          ·rw [Zjn ht] at hb; cases hb
         rw [hgT] at h3
         simp only [Bool.false_eq_true, if_false] at h3
         refine ⟨d, _, _, hdst, Ztl h0 hdst (by rw [hN]; exact hlt) hwant, hsl, ih ha (by rw [Zbm]; exact hnv) hu (by rw [Za0]; exact hdep) ((hd.knew h1).put (x := .gv G v) hali (.inr (by simp [RA.den, hb]))) h3⟩
        ·rw [hb] at hwant
         obtain ⟨hq, hali2⟩ := Zfk hd hb hr (h2 hb) (r := v) rfl
         refine ⟨d, _, _, hdst, Zpn h0 hdst (by rw [hN]; exact hlt) hwant (by rw [hP]; exact hq), hsl, ?_⟩
         cases ht : G.isT
         ·rw [ht] at h3
          simp only [Bool.false_eq_true, if_false] at h3
          exact ih ha (by rw [Zbm]; exact hnv) hu (by rw [Za0]; exact hdep) ((hd.knew h1).put (x := .gv G v) hali (.inr (by simp [RA.den, hb]))) h3
         ·rw [ht] at h3
          simp only [if_true] at h3
          exact ih ha (by rw [Zbm]; exact hnv) hu (by rw [Za0]; exact hdep) ((hd.knew h1).put hali (.inr rfl)) h3
       ·unfold T.den at h; exact h.elim
      ·rename_i n i' vs hr
       split at h
       ·rename_i ht
        obtain ⟨kn, h1, h2, h3⟩ := Zb3 hd.known h
        obtain ⟨kk, v, rs1, hv, hi, hd1, e1, e2, h4⟩ := Z2n (hd.knew h1) h3
        have hb : (G.den ρ).bool = true := by rw [Zjn ht]; rfl
        rw [hb] at hwant
        obtain ⟨hq, hali⟩ := Zfk hd hb hr (h2 rfl) (r := v) ⟨kk, by simpa using hi, hv⟩
        exact ⟨d, _, _, hdst, Zpn h0 hdst (by rw [hN]; exact hlt) hwant (by rw [hP]; exact hq), hsl, ih ha (by rw [Zbm, e1]; exact hnv) hu (by rw [Za0, e2]; exact hdep) (hd1.put hali (.inr rfl)) h4⟩
       ·unfold T.den at h; exact h.elim
      ·split at h
       ·rename_i ht
        have hb : (G.den ρ).bool = true := by rw [Zjn ht]; rfl
        rw [hb] at hwant
        split at h
        ·rename_i n cs hr
         split at h
         ·rename_i hcs
          obtain ⟨kn, h1, h2, h3⟩ := Zb3 hd.known h
          have hA := Zsi hd hr (h2 rfl)
          refine ⟨d, _, _, hdst, Z3q h0 hdst (by rw [hN]; exact hlt) hwant (by rw [hP]; exact hA), hsl, ?_⟩
          have hkd : kDen ρ m cs = kDen ρ (m.set d (s.gen d)) cs := List.map_congr_left fun x hx => by
           have := List.all_eq_true.1 hcs x hx
           simp only [Bool.and_eq_true, Bool.not_eq_true'] at this
           exact (RA.den_nm (m := m) (m' := m.set d (s.gen d)) rfl (fun t ht => by simp [Nm.set, ht]) this.1).symm
          exact ih (m' := m.set d (s.gen d)) ha (by rw [Zny]; exact hnv) hu (by rw [Zk4]; exact hdep) ((hd.knew h1).alloc hkd) h3
         ·unfold T.den at h; exact h.elim
        ·split at h
         ·rename_i q hop
          obtain ⟨v, x, ρ', kn, h1, h2, h3, h4⟩ := Zt1 hP hN h0 hdst hlt hop hwant hu hd h
          exact ⟨d, _, _, hdst, h2, hsl, ih (ha.trans h1 hnv) (by rw [Zbm]; show n0 <= rs.nv + kn; omega) hu (by rw [Za0]; exact hdep) h3 h4⟩
         ·unfold T.den at h; exact h.elim
       ·split at h
        ·rename_i q hop
         unfold T.den at h
         cases hb : (G.den ρ).bool
         ·exact skip (hd.assume hb) (by rw [(Zas rs G false).1]; exact hnv) (by rw [(Zas rs G false).2]; exact hdep) hb (h.2 hb)
         ·rw [hb] at hwant
          obtain ⟨v, x, ρ', kn, h1, h2, h3, h4⟩ := Zt1 hP hN h0 hdst hlt hop hwant hu (hd.assume hb) (h.1 hb)
          rw [(Zas rs G true).1] at h1
          exact ⟨d, _, _, hdst, h2, hsl, ih (ha.trans h1 hnv) (by rw [Zbm]; show n0 <= (rs.assume G true).nv + kn; rw [(Zas rs G true).1]; omega) hu (by rw [Za0]; show (rs.assume G true).dep = _; rw [(Zas rs G true).2]; exact hdep) h3 h4⟩
        ·unfold T.den at h; exact h.elim
    ·unfold T.den at h; exact h.elim
   ·unfold T.den at h; exact h.elim
def Zn4 (ρ ρ' : Env) (l : Args) : Prop := ∀ x ∈ l, ρ' x.1 = x.2.1.mk (x.2.1.un (x.2.2.den ρ))
theorem Ze6 {ρ ρ' : Env} {a b : Args} : Zn4 ρ ρ' (a ++ b) ↔ Zn4 ρ ρ' a /\ Zn4 ρ ρ' b := by simp [Zn4, or_imp, forall_and]
theorem Zyn {base : Nat} {p v : RA} {l : Args} {ρ ρ' : Env} {m : Nm} {gen : Nat -> Nat} (h : eqA base p v = some l) (ha : Agr base ρ ρ') : p.den ρ' m gen = v.den ρ m gen := by
 unfold eqA at h
 split at h
 ·rename_i hc
  simp only [Bool.and_eq_true] at hc
  rw [<- RA.beq_eq hc.1, RA.den_agr ha hc.2]
 ·cases h
theorem Z2q {base : Nat} {p v : RA} {l : Args} {ρ ρ' : Env} {m : Nm} {gen : Nat -> Nat} (h : mA base p v = some l) (ha : Agr base ρ ρ') (hl : Zn4 ρ ρ' l) : p = .any \/ p.den ρ' m gen = v.den ρ m gen := by
 unfold mA at h
 split at h
 ·exact .inl rfl
 all_goals right
 all_goals first
  | exact Zyn h ha
  | skip
 all_goals
  split at h
  rotate_left
  ·exact Zyn h ha
  split at h
  rotate_left
  ·cases h
 ·split at h
  ·rename_i e; cases h; subst e
   have := hl _ (List.mem_cons_self ..)
   simp only [RA.den, E.den, sem1, this, Dk.mk, Dk.un, Dat.int_i]
  ·cases h
 ·cases h
  have := hl _ (List.mem_cons_self ..)
  simp only [RA.den, E.den, sem1, this, Dk.mk, Dk.un, Dat.bool_b]
 ·cases h
  have := hl _ (List.mem_cons_self ..)
  simp only [RA.den, E.den, sem1, this, Dk.mk, Dk.un, Dat.str_s]
 ·cases h
  have := hl _ (List.mem_cons_self ..)
  simp only [RA.den, E.den, sem1, this, Dk.mk, Dk.un, Dat.lst_l]
 ·cases h
  have := hl _ (List.mem_cons_self ..)
  simp only [RA.den, E.den, this, Dk.mk, Dk.un, Dat.dd_d]
 ·cases h
  have := hl _ (List.mem_cons_self ..)
  simp only [RA.den, E.den, this, Dk.mk, Dk.un, Dat.row_r]
 ·split at h
  ·rename_i e; cases h
   obtain ⟨rfl, e2⟩ := e
   simp only [Bool.and_eq_true] at e2
   have := hl _ (List.mem_cons_self ..)
   rw [<- E.beq_eq e2.1]
   simp only [RA.den, E.den, this, Dk.mk, Dk.un, Dat.lst_l, E.den_agr ha e2.2]
  ·cases h
 ·split at h
  ·rename_i e; cases h; subst e
   have := hl _ (List.mem_cons_self ..)
   simp only [RA.den, E.den, this, Dk.mk, Dk.un, Dat.lst_l]
  ·cases h
 ·cases h
  have := hl _ (List.mem_cons_self ..)
  simp only [RA.den, E.den, this, Dk.mk, Dk.un, Dat.lst_l]
theorem Zqa {base : Nat} {ρ ρ' : Env} {m : Nm} {gen : Nat -> Nat} (ha : Agr base ρ ρ') : ∀ {p v : Tr} {l : Args}, mT base p v = some l -> Zn4 ρ ρ' l -> ∀ k, p.get k = .any \/ (p.get k).den ρ' m gen = (v.get k).den ρ m gen
 | .nil, _, _, _, _, _ => .inl rfl
 | .node p a b, .nil, l, h, hl, k => by
   unfold mT at h
   split at h
   ·rename_i e; cases e
   ·rename_i e1 e2
    cases e1
    split at h
    ·rename_i x y h1 h2
     cases h
     have h3 := Ze6.1 hl
     unfold Tr.get
     split
     ·exact .inl rfl
     ·split
      ·have := Zqa (m := m) (gen := gen) ha h1 h3.1 (k / 2); exact this
      ·have := Zqa (m := m) (gen := gen) ha h2 h3.2 (k / 2 - 1); exact this
    ·cases h
   ·cases h
   ·rename_i e; cases e
 | .node p a b, .node v a' b', l, h, hl, k => by
   unfold mT at h
   split at h <;> first
    | (rename_i e _; cases e; done)
    | (rename_i e; cases e; done)
    | skip
   rename_i e1 e2
   cases e1
   cases e2
   split at h
   ·rename_i x y z h1 h2 h3
    cases h
    have h4 := Ze6.1 hl
    have h5 := Ze6.1 h4.2
    unfold Tr.get
    split
    ·exact Z2q h1 ha h4.1
    ·split
     ·exact Zqa ha h2 h5.1 _
     ·exact Zqa ha h3 h5.2 _
   ·cases h
theorem Z2r {base : Nat} {ρ ρ' : Env} {m : Nm} (ha : Agr base ρ ρ') : ∀ {p v : List RA} {l : Args}, mC base p v = some l -> Zn4 ρ ρ' l -> kDen ρ' m p = kDen ρ m v
 | [], [], _, _, _ => rfl
 | p :: a, v :: b, l, h, hl => by
   unfold mC at h
   split at h
   ·rename_i hc
    simp only [Bool.and_eq_true] at hc
    split at h
    ·rename_i x y h1 h2
     cases h
     have h3 := Ze6.1 hl
     have h4 := Z2q (m := m) (gen := fun _ => 0) h1 ha h3.1
     have h5 : p.den ρ' m (fun _ => 0) = v.den ρ m fun _ => 0 := h4.resolve_left (by intro e; subst e; simp [RA.okCell] at hc)
     show _ :: kDen ρ' m a = _ :: kDen ρ m b
     rw [h5, Z2r ha h2 h3.2]
    ·cases h
   ·cases h
 | [], _ :: _, _, h, _ => by cases h
 | _ :: _, [], _, h, _ => by cases h
theorem Zyo {base : Nat} {ρ ρ' : Env} {m : Nm} (ha : Agr base ρ ρ') {K : List (RRef × List RA)} : ∀ {p : List (RRef × List RA)} {l : Args}, mK base K p = some l -> Zn4 ρ ρ' l -> ∀ r c, (r, c) ∈ p -> ∃ c', Zf4 K r = some c' /\ kDen ρ' m c = kDen ρ m c'
 | [], _, _, _, _, _, h => by cases h
 | (q, d) :: p, l, h, hl, r, c, hm => by
   unfold mK at h
   split at h
   ·rename_i c' hc'
    split at h
    ·rename_i a b h1 h2
     cases h
     have h3 := Ze6.1 hl
     rcases List.mem_cons.1 hm with e | hm
     ·cases e; exact ⟨c', hc', Z2r ha h1 h3.1⟩
     ·exact Zyo ha h2 h3.2 r c hm
    ·cases h
   ·cases h
def Zem (ρ : Env) : Nat -> List Dat -> Env
 | _, [] => ρ
 | n, x :: l => Zem (ρ.set n x) (n + 1) l
theorem Zd0 : ∀ (l : List Dat) (ρ : Env) (n : Nat), Agr n ρ (Zem ρ n l)
 | [], ρ, n => Agr.refl n ρ
 | x :: l, ρ, n => ((Agr.refl n ρ).set x (Nat.le_refl n)).trans (Zd0 l _ (n + 1)) (Nat.le_succ n)
theorem Zmx : ∀ (l : List Dat) (ρ : Env) (n i : Nat) (x : Dat), l[i]? = some x -> Zem ρ n l (n + i) = x
 | y :: l, ρ, n, 0, x, h => by
   simp at h; subst h
   show Zem (ρ.set n y) (n + 1) l n = y
   rw [Zd0 l (ρ.set n y) (n + 1) n (Nat.lt_succ_self n)]
   simp [Env.set]
 | y :: l, ρ, n, i + 1, x, h => by
   have := Zmx l (ρ.set n y) (n + 1) i x (by simpa using h)
   rw [show n + 1 + i = n + (i + 1) by omega] at this
   exact this
def Zb8 : List Dk -> List Dat -> List Dat
 | [], _ => []
 | k :: ks, x :: l => k.mk (k.un x) :: Zb8 ks l
 | k :: ks, [] => k.mk (k.un (.i 0)) :: Zb8 ks []
theorem Zqb (k : Dk) (x : k.ty) : k.un (k.mk x) = x := by cases k <;> rfl
theorem Zie : ∀ (ks : List Dk) (I : CurP ks) (l : List Dat), appP ks I (Zb8 ks l) = appP ks I l
 | [], _, _ => rfl
 | k :: ks, I, x :: l => by simp only [Zb8, appP, Zqb]; exact Zie ks _ l
 | k :: ks, I, [] => by simp only [Zb8, appP, Zqb]; exact Zie ks _ []
theorem Zla : ∀ (ks : List Dk) (I : CurN ks) (l : List Dat), appN ks I (Zb8 ks l) = appN ks I l
 | [], _, _ => rfl
 | k :: ks, I, x :: l => by simp only [Zb8, appN, Zqb]; exact Zla ks _ l
 | k :: ks, I, [] => by simp only [Zb8, appN, Zqb]; exact Zla ks _ []
theorem Zif : ∀ {ks : List Dk} {n : Nat} {ρ : Env} {acc l : List Dat} {p : Env -> List Dat -> Prop}, allK ks n ρ acc p -> p (Zem ρ n (Zb8 ks l)) (acc ++ Zb8 ks l)
 | [], n, ρ, acc, l, p, h => by simpa [Zb8, Zem, allK] using h
 | k :: ks, n, ρ, acc, x :: l, p, h => by
   have := Zif (l := l) (h (k.un x))
   simpa [Zb8, Zem] using this
 | k :: ks, n, ρ, acc, [], p, h => by
   have := Zif (l := []) (h (k.un (.i 0)))
   simpa [Zb8, Zem] using this
theorem Zqc : ∀ {ks : List Dk} {l : List Dat} {i : Nat} {k : Dk} {x : Dat}, ks[i]? = some k -> l[i]? = some x -> (Zb8 ks l)[i]? = some (k.mk (k.un x))
 | k' :: ks, y :: l, 0, k, x, h1, h2 => by simp at h1 h2; subst h1; subst h2; rfl
 | k' :: ks, y :: l, i + 1, k, x, h1, h2 => by
   have := Zqc (ks := ks) (l := l) (by simpa using h1) (by simpa using h2)
   simpa [Zb8] using this
theorem Zmy {l : Args} : ∀ {ks : List Dk} {n : Nat} {a : List E} {i : Nat} {k : Dk}, Zt4 l ks n = some a -> ks[i]? = some k -> ∃ e, a[i]? = some e /\ Z0x l (n + i) k = some e
 | k' :: ks, n, a, i, k, h, hk => by
   unfold Zt4 at h
   split at h
   ·rename_i e r h1 h2
    cases h
    cases i with
    | zero => simp at hk; subst hk; exact ⟨e, rfl, h1⟩
    | succ i =>
      obtain ⟨e', h3, h4⟩ := Zmy h2 (by simpa using hk)
      exact ⟨e', by simpa using h3, by rw [show n + (i + 1) = n + 1 + i by omega]; exact h4⟩
   ·cases h
theorem Zlb {base : Nat} {p : Pat} {rs : RSt} {a : List E} {ρ0 ρ : Env} {m : Nm} {s : St} (h : Zt5 base p rs = some a) (ha : Agr base ρ0 ρ) (hd : Den ρ m rs s) (hkn : ∀ e ∈ p.rs.known, e.lt base = true /\ (e.den ρ0).bool = true) {n d : Nat} :
 Den (Zem ρ0 base (Zb8 p.ks (a.map fun e => e.den ρ))) m { p.rs with nv := n, dep := d } s := by
 unfold Zt5 at h
 split at h
 ·rename_i x y h1 h2
  split at h
  ·rename_i hc
   simp only [Bool.and_eq_true, decide_eq_true_eq, Bool.or_eq_true, Bool.not_eq_true'] at hc
   obtain ⟨⟨hin, hnd⟩, hal⟩ := hc
   have hag : Agr base ρ (Zem ρ0 base (Zb8 p.ks (a.map fun e => e.den ρ))) := fun i hi => by rw [Zd0 _ ρ0 base i hi, ha i hi]
   have hok : Zn4 ρ (Zem ρ0 base (Zb8 p.ks (a.map fun e => e.den ρ))) (x ++ y) := by
    intro z hz
    have h3 := List.all_eq_true.1 hin z hz
    simp only [Bool.and_eq_true, beq_iff_eq] at h3
    obtain ⟨h4, h5⟩ := h3
    split at h5
    ·rename_i e he
     have h6 := E.beq_eq h5
     obtain ⟨e', h7, h8⟩ := Zmy h h4
     by_cases hb : base <= z.1
     ·have e1 : base + (z.1 - base) = z.1 := by omega
      rw [e1, he] at h8
      cases h8
      rw [<- e1, Zmx _ ρ0 base (z.1 - base) _ (Zqc h4 (by rw [List.getElem?_map, h7]; rfl)), h6]
     ·
      exfalso
      have hmA : ∀ {p v : RA} {l : Args}, mA base p v = some l -> ∀ z ∈ l, base <= z.1 := by
       intro p v l h z hz
       unfold mA eqA at h
       repeat' (first | (cases h; done) | (cases h; first | (cases hz; done) | (simp at hz; subst hz; assumption)) | split at h)
      have hmT : ∀ {p v : Tr} {l : Args}, mT base p v = some l -> ∀ z ∈ l, base <= z.1 := by
       intro p
       induction p with
       | nil => intro v l h z hz; unfold mT at h; cases h; cases hz
       | node q a b iha ihb =>
         intro v l h z hz
         unfold mT at h
         split at h <;> first
          | (rename_i e _; cases e; done)
          | (rename_i e; cases e; done)
          | skip
         ·rename_i e1; cases e1
          split at h
          ·rename_i h1 h2; cases h
           rcases List.mem_append.1 hz with hz | hz
           ·exact iha h1 z hz
           ·exact ihb h2 z hz
          ·cases h
         ·cases h
         ·rename_i e1; cases e1
          split at h
          ·rename_i h1 h2 h3; cases h
           rcases List.mem_append.1 hz with hz | hz
           ·exact hmA h1 z hz
           ·rcases List.mem_append.1 hz with hz | hz
            ·exact iha h2 z hz
            ·exact ihb h3 z hz
          ·cases h
      have hmC : ∀ {p v : List RA} {l : Args}, mC base p v = some l -> ∀ z ∈ l, base <= z.1 := by
       intro p
       induction p with
       | nil => intro v l h z hz; cases v <;> simp [mC] at h; subst h; cases hz
       | cons q a iha =>
         intro v l h z hz
         cases v with
         | nil => cases h
         | cons v b =>
           unfold mC at h
           split at h
           ·split at h
            ·rename_i h1 h2; cases h
             rcases List.mem_append.1 hz with hz | hz
             ·exact hmA h1 z hz
             ·exact iha h2 z hz
            ·cases h
           ·cases h
      have hmK : ∀ {p : List (RRef × List RA)} {l : Args}, mK base rs.K p = some l -> ∀ z ∈ l, base <= z.1 := by
       intro p
       induction p with
       | nil => intro l h z hz; cases h; cases hz
       | cons q a iha =>
         intro l h z hz
         unfold mK at h
         split at h
         ·split at h
          ·rename_i h1 h2; cases h
           rcases List.mem_append.1 hz with hz | hz
           ·exact hmC h1 z hz
           ·exact iha h2 z hz
          ·cases h
         ·cases h
      rcases List.mem_append.1 hz with hz | hz
      ·exact hb (hmT h1 z hz)
      ·exact hb (hmK h2 z hz)
    ·cases h5
   have hok' := Ze6.1 hok
   refine ⟨fun t => ?_, fun hal2 t => ?_, fun r c hrc => ?_, ?_, fun e he => ?_⟩
   ·rcases Zqa (m := m) (gen := s.gen) hag h1 hok'.1 t with e | e
    ·exact .inl e
    ·by_cases hv : rs.tm.get t = .any
     ·
      rcases hd.tm t with _ | h3
      ·by_cases hp : p.rs.tm.get t = .any
       ·exact .inl hp
       ·exfalso
        have hmA : ∀ {p : RA} {l : Args}, mA base p .any = some l -> p = .any := by
         intro p l h
         unfold mA eqA at h
         repeat' (first | rfl | (cases h; done) | split at h)
         all_goals first
          | rfl
          | (rename_i hb; simp only [Bool.and_eq_true] at hb; exact RA.beq_eq hb.1)
          | (rename_i hb _; simp only [Bool.and_eq_true] at hb; exact RA.beq_eq hb.1)
        have hmT : ∀ {p v : Tr} {l : Args} (t : Nat), mT base p v = some l -> v.get t = .any -> p.get t = .any := by
         intro p
         induction p with
         | nil => intro v l t _ _; rfl
         | node q a b iha ihb =>
           intro v l t h hv
           unfold mT at h
           split at h <;> first
            | (rename_i e _; cases e; done)
            | (rename_i e; cases e; done)
            | skip
           ·rename_i e1; cases e1
            split at h
            ·rename_i h1 h2
             unfold Tr.get
             split
             ·rfl
             ·split
              ·exact iha _ h1 rfl
              ·exact ihb _ h2 rfl
            ·cases h
           ·cases h
           ·rename_i e1; cases e1
            split at h
            ·rename_i h1 h2 h3
             unfold Tr.get at hv ⊢
             split at hv
             ·rename_i e; simp only [e, if_true]; rw [hv] at h1; exact hmA h1
             ·rename_i e
              simp only [e, if_false]
              split at hv
              ·rename_i e2; simp only [e2, if_true]; exact iha _ h2 hv
              ·rename_i e2; simp only [e2, if_false]; exact ihb _ h3 hv
            ·cases h
        exact hp (hmT t h1 hv)
      ·right; show s.tm t = _; rw [e, <- h3]
     ·right
      show s.tm t = _
      rw [e]; exact (hd.tm t).resolve_left hv
   ·have hal2 : p.rs.al = false := hal2
    rcases hal with h3 | h3
    ·rw [hal2] at h3; cases h3
    ·exact Tr.anyAli_get h3 t
   ·obtain ⟨c', h3, h4⟩ := Zyo (m := m) hag h2 hok'.2 r c hrc
    rw [h4]; exact hd.look h3
   ·have hsub : ∀ x ∈ p.rs.K, x.1 ∈ rs.K.map (·.1) := fun x hx => by
     obtain ⟨c', h3, _⟩ := Zyo (m := m) hag h2 hok'.2 x.1 x.2 hx
     exact List.mem_map.2 ⟨_, Zcx h3, rfl⟩
    have e : (p.rs.K.map fun x => x.1.den m) = (p.rs.K.map (·.1)).map (RRef.den m) := by simp [Function.comp_def]
    show (p.rs.K.map fun x => x.1.den m).Nodup
    rw [e]
    refine List.pairwise_map.2 (List.Pairwise.imp_of_mem (fun {x y} hx hy hxy e => hxy ?_) hnd)
    obtain ⟨x', hx', rfl⟩ := List.mem_map.1 hx
    obtain ⟨y', hy', rfl⟩ := List.mem_map.1 hy
    exact Zdg hd.nd (hsub _ hx') (hsub _ hy') e
   ·obtain ⟨h3, h4⟩ := hkn e he
    rw [E.den_agr (Zd0 _ ρ0 base) h3]; exact h4
  ·cases h
 ·cases h
theorem Zig {base : Nat} {rs : RSt} : ∀ {ps : List Pat} {j j' : Nat} {a : List E}, Zjp base ps rs j = some (j', a) -> ∃ i p, j' = j + i /\ ps[i]? = some p /\ Zt5 base p rs = some a
 | p :: ps, j, j', a, h => by
   unfold Zjp at h
   split at h
   ·rename_i a' h1; cases h; exact ⟨0, p, rfl, rfl, h1⟩
   ·obtain ⟨i, q, h1, h2, h3⟩ := Zig h
    exact ⟨i + 1, q, by omega, by simpa using h2, h3⟩
theorem Zt8 : ∀ {L : List (List Dk)} {p : Invs -> Prop}, exL L p -> ∃ Is : Invs, Is.length = L.length /\ (∀ (i : Nat) (ks : List Dk), L[i]? = some ks -> ∃ (I : CurP ks) (μ : CurN ks), Is[i]? = some (appP ks I, appN ks μ)) /\ p Is
 | [], p, h => ⟨[], rfl, (fun i ks h => by cases h), h⟩
 | ks :: L, p, ⟨I, μ, h⟩ => by
   obtain ⟨Is, h1, h2, h3⟩ := Zt8 h
   refine ⟨(appP ks I, appN ks μ) :: Is, by simp [h1], fun i k hk => ?_, h3⟩
   cases i with
   | zero => simp at hk; subst hk; exact ⟨I, μ, rfl⟩
   | succ i => simpa using h2 i k (by simpa using hk)
theorem Zt9 (run : RSt -> (Re -> RSt -> T) -> T) (base dep : Nat) (ps : List Pat) (K : Re -> RSt -> T) : ∀ l : List Pat, (Zsm run base dep ps K l).ksL = l.map (·.ks)
 | [] => rfl
 | p :: l => by simp only [Zsm, T.ksL, List.map_cons, Zt9 run base dep ps K l]
theorem Zqd {P : Program} {run : RSt -> (Re -> RSt -> T) -> T} {base dep : Nat} {ps : List Pat} {K : Re -> RSt -> T} {Is : Invs} {n : Nat} {ρ : Env} {σ : Sig} : ∀ {l : List Pat} {j i : Nat} {p : Pat}, (Zsm run base dep ps K l).denV P up R j Is n ρ σ -> l[i]? = some p ->
 allK p.ks n ρ [] fun ρ' vals => Zew Is (j + i) vals -> (run { p.rs with dep := dep + 1, nv := base + p.ks.length } (fun e rs => match e with
  | .nrm => (match Zjp base ps rs 0 with
    | some (j, a) => .again dep j a
    | none => .bad 61)
  | e => K e rs)).den P up R ρ' (σ ++ [fun j' a => Zew Is j' a /\ Zhi Is j' a < Zhi Is (j + i) vals])
 | q :: l, j, 0, p, h, hp => by
   simp at hp; subst hp
   unfold Zsm T.denV at h
   exact h.1
 | q :: l, j, i + 1, p, h, hp => by
   unfold Zsm T.denV at h
   have := Zqd h.2 (by simpa using hp)
   rw [show j + (i + 1) = j + 1 + i by omega]
   exact this
theorem Zua : ∀ {L : List (List Dk)} {p : Invs -> Prop}, exC L p -> ∃ Is : Invs, Is.length = L.length /\ (∀ (i : Nat) (ks : List Dk), L[i]? = some ks -> ∃ (I : CurP ks), Is[i]? = some (appP ks I, fun _ => 0)) /\ p Is
 | [], p, h => ⟨[], rfl, (fun i ks h => by cases h), h⟩
 | ks :: L, p, ⟨I, h⟩ => by
   obtain ⟨Is, h1, h2, h3⟩ := Zua h
   refine ⟨(appP ks I, fun _ => 0) :: Is, by simp [h1], fun i k hk => ?_, h3⟩
   cases i with
   | zero => simp at hk; subst hk; exact ⟨I, rfl⟩
   | succ i => simpa using h2 i k (by simpa using hk)
theorem Zub (next : RSt -> T) (base dep : Nat) : ∀ l : List Pat, (Zsn next base dep l).ksL = l.map (·.ks)
 | [] => rfl
 | p :: l => by simp only [Zsn, T.ksL, List.map_cons, Zub next base dep l]
theorem Zqe {P : Program} {next : RSt -> T} {base dep : Nat} {Is : Invs} {n : Nat} {ρ : Env} {σ : Sig} : ∀ {l : List Pat} {j i : Nat} {p : Pat}, (Zsn next base dep l).denC P up R j Is n ρ σ -> l[i]? = some p ->
 allK p.ks n ρ [] fun ρ' vals => Zew Is (j + i) vals -> (next { p.rs with dep := dep, nv := base + p.ks.length }).den P up R ρ' σ
 | q :: l, j, 0, p, h, hp => by
   simp at hp; subst hp
   unfold Zsn T.denC at h
   exact h.1
 | q :: l, j, i + 1, p, h, hp => by
   unfold Zsn T.denC at h
   have := Zqe h.2 (by simpa using hp)
   rw [show j + (i + 1) = j + 1 + i by omega]
   exact this
theorem Zv7 {ρ : Env} {m : Nm} {rs : RSt} {s : St} {c : Cfg} {C : Ctx} (hN : C.N = c.N) (hd : Den ρ m rs s) (u : Nat) : ∃ s', Den ρ m (Zk9 c rs u) s' /\ (Zk9 c rs u).nv = rs.nv /\ (Zk9 c rs u).dep = rs.dep /\ ∀ (code : Code) (Q : Ex -> St -> Prop), AW C code Q s' -> AW C code Q s := by
 unfold Zk9
 split
 ·exact ⟨s, hd, rfl, rfl, fun _ _ h => h⟩
 ·rename_i z es nw _ ht
  split
  ·rename_i hlt
   have hu : s.tm u = .own z (es.den ρ).lst (nw.den ρ).lst := by
    have := (hd.tm u).resolve_left (by rw [ht]; intro e; cases e)
    rw [ht] at this; exact this
   exact ⟨_, hd.reput (y := .own z ((es.den ρ).lst ++ (nw.den ρ).lst) []) (by intro e; cases e) (.inr (by simp only [RA.den, Zh4, E.den, Dat.lst_l])), Zbm .., Za0 .., fun code Q h => Zw7 u (by rw [hN]; exact hlt) hu h⟩
  ·exact ⟨s, hd, rfl, rfl, fun _ _ h => h⟩
 ·exact ⟨s, hd, rfl, rfl, fun _ _ h => h⟩
theorem Zgp {ρ : Env} {m : Nm} {c : Cfg} {C : Ctx} (hN : C.N = c.N) : ∀ (l : List Nat) {rs : RSt} {s : St}, Den ρ m rs s -> ∃ s', Den ρ m (Zea c rs l) s' /\ (Zea c rs l).nv = rs.nv /\ (Zea c rs l).dep = rs.dep /\ ∀ (code : Code) (Q : Ex -> St -> Prop), AW C code Q s' -> AW C code Q s
 | [], rs, s, hd => ⟨s, hd, rfl, rfl, fun _ _ h => h⟩
 | u :: l, rs, s, hd => by
   obtain ⟨s1, h1, h2, h3, h4⟩ := Zv7 (c := c) hN hd u
   obtain ⟨s2, k1, k2, k3, k4⟩ := Zgp (c := c) hN l h1
   exact ⟨s2, k1, k2.trans h2, k3.trans h3, fun code Q h => h4 code Q (k4 code Q h)⟩
theorem Zcy {c : Cfg} {op : Opt} {C : Ctx} (hP : C.P = c.P) (hN : C.N = c.N) (hmx : c.P.follows .mixedOrders = true) : ∀ (code : Code) {Q : Ex -> St -> Prop} {K : Re -> RSt -> T} {n0 : Nat} {ρ0 ρ : Env} {σ0 σ : Sig} {m : Nm} {rs : RSt} {s : St},
 Zk5 c.P up R n0 ρ0 σ0 Q K -> Agr n0 ρ0 ρ -> n0 <= rs.nv -> m.up = up -> σ0 <+: σ -> rs.dep = σ.length -> Den ρ m rs s -> (Zc4 c op code rs K).den c.P up R ρ σ -> AW C code Q s
 | .skip, _, _, _, _, ρ, _, σ, m, rs, s, hK, ha, hnv, hu, hσ, hdep, hd, h => Z3d (hK .nrm ρ m rs s σ ha hnv hu hσ hdep hd h)
 | .label _, _, _, _, _, ρ, _, σ, m, rs, s, hK, ha, hnv, hu, hσ, hdep, hd, h => Zz7 (hK .nrm ρ m rs s σ ha hnv hu hσ hdep hd h)
 | .ret, _, _, _, _, ρ, _, σ, m, rs, s, hK, ha, hnv, hu, hσ, hdep, hd, h => by
   unfold Zc4 at h
   obtain ⟨s', h1, h2, h3, h4⟩ := Zgp (c := c) hN c.live hd
   exact h4 _ _ (Z5s (hK .ret ρ m _ s' σ ha (by rw [h2]; exact hnv) hu hσ (by rw [h3]; exact hdep) h1 h))
 | .exit id, _, _, _, _, ρ, _, σ, m, rs, s, hK, ha, hnv, hu, hσ, hdep, hd, h => Z3e (hK (.exit id) ρ m rs s σ ha hnv hu hσ hdep hd h)
 | .seq x y, Q, K, n0, ρ0, ρ, σ0, σ, m, rs, s, hK, ha, hnv, hu, hσ, hdep, hd, h => by
   unfold Zc4 at h
   split at h
   ·unfold cutT at h
    simp only at h
    generalize (Zfl c rs.nv (rs.known.filter (E.lt rs.nv)) (Zc4 c op x { rs with dep := rs.dep + 1 } (fun e rs => match e with | .nrm => T.leaf rs | _ => .vnil)).leaves (Zfl c rs.nv (rs.known.filter (E.lt rs.nv)) (Zc4 c op x { rs with dep := rs.dep + 1 } (fun e rs => match e with | .nrm => T.leaf rs | _ => .vnil)).leaves [] false).1 false).1 = ps at h
    split at h
    ·rename_i hkn
     have hkn' : ∀ p ∈ ps, ∀ e ∈ p.rs.known, e.lt rs.nv = true /\ (e.den ρ).bool = true := fun p hp e he => by
      have h1 := List.all_eq_true.1 (List.all_eq_true.1 hkn p hp) e he
      simp only [Bool.and_eq_true] at h1
      exact ⟨h1.1, Ze4 hd.known h1.2⟩
     unfold T.den at h
     rw [Zub] at h
     obtain ⟨Is, hlen, hIs, hbody, hden⟩ := Zua h
     refine Z5t (Σ' s' : St, ∃ (i : Nat) (p : Pat) (m' : Nm) (l : List Dat), ps[i]? = some p /\ m'.up = up /\ Zew Is i (Zb8 p.ks l) /\ Den (Zem ρ rs.nv (Zb8 p.ks l)) m' { p.rs with nv := rs.nv + p.ks.length, dep := rs.dep } s') (fun x => x.1) (fun _ => True) ?_ ?_
     ·refine Zcy hP hN hmx x (n0 := rs.nv) (ρ0 := ρ) (σ0 := σ ++ [fun j a => Zew Is j a]) (rs := { rs with dep := rs.dep + 1 }) (fun e ρ2 m2 rs2 s2 σ2 k1 k2 k3 k4 k5 k6 k7 => ?_) (Agr.refl _ _) (Nat.le_refl _) hu (List.prefix_rfl) (by simp [hdep]) (⟨hd.tm, hd.al, hd.K, hd.nd, hd.known⟩ : Den ρ m { rs with dep := rs.dep + 1 } s) hbody
      have hσ2 : σ0 <+: σ2 := hσ.trans ((List.prefix_append _ _).trans k4)
      cases e with
      | nrm =>
        simp only at k7
        split at k7
        ·rename_i j2 a2 hj2
         obtain ⟨i2, p2, hj2', hp2, hm2⟩ := Zig hj2
         have : j2 = i2 := by omega
         subst this
         unfold T.den at k7
         have hlook : σ2[rs.dep]? = some (fun j a => Zew Is j a) := by
          obtain ⟨t, ht⟩ := k4
          rw [<- ht, hdep]
          simp
         rw [hlook] at k7
         have hinv : Zew Is j2 (Zb8 p2.ks (a2.map fun e => e.den ρ2)) := by
          obtain ⟨I, h1⟩ := hIs j2 p2.ks (by rw [List.getElem?_map, hp2]; rfl)
          have k7 : Zew Is j2 (a2.map fun e => e.den ρ2) := k7
          simp only [Zew, h1] at k7 ⊢
          rw [Zie]; exact k7
         exact ⟨⟨s2, j2, p2, m2, _, hp2, k3, hinv, Zlb hm2 k1 k6 (hkn' p2 (List.mem_of_getElem? hp2))⟩, trivial, Weaker.refl s2⟩
        ·unfold T.den at k7; exact k7.elim
      | exit id => exact hK (.exit id) ρ2 m2 rs2 s2 σ2 (ha.trans k1 hnv) (Nat.le_trans hnv k2) k3 hσ2 k5 k6 k7
      | ret => exact hK .ret ρ2 m2 rs2 s2 σ2 (ha.trans k1 hnv) (Nat.le_trans hnv k2) k3 hσ2 k5 k6 k7
      | pan v => exact hK (.pan v) ρ2 m2 rs2 s2 σ2 (ha.trans k1 hnv) (Nat.le_trans hnv k2) k3 hσ2 k5 k6 k7
     ·rintro ⟨s1, i1, p, m', l, hp, hu', hI, hden'⟩ _
      have h5 := Zif (l := l) (Zqe hden hp)
      simp only [List.nil_append, Nat.zero_add] at h5
      exact Zcy hP hN hmx y (rs := { p.rs with nv := rs.nv + p.ks.length, dep := rs.dep }) hK (ha.trans (Zd0 _ ρ rs.nv) hnv) (Nat.le_trans hnv (Nat.le_add_right _ _)) hu' hσ hdep hden' (h5 hI)
    ·unfold T.den at h; exact h.elim
   ·refine Z2j (Zcy hP hN hmx x (Q := Ex.then (AW C y Q) Q) (fun e ρ m rs s σ h1 h2 h3 h4 h5 h6 h7 => ?_) ha hnv hu hσ hdep hd h)
    cases e with
    | nrm => exact Zcy hP hN hmx y hK h1 h2 h3 h4 h5 h6 h7
    | exit id => exact hK (.exit id) ρ m rs s σ h1 h2 h3 h4 h5 h6 h7
    | ret => exact hK .ret ρ m rs s σ h1 h2 h3 h4 h5 h6 h7
    | pan v => exact hK (.pan v) ρ m rs s σ h1 h2 h3 h4 h5 h6 h7
 | .cond q x y, Q, K, n0, ρ0, ρ, σ0, σ, m, rs, s, hK, ha, hnv, hu, hσ, hdep, hd, h => by
   unfold Zc4 at h
   split at h
   ·rename_i e he
    have hev : s.ev q = .d (.lit (.bool (e.den ρ).bool)) := by
     have := Zc6 hd (x := q) (by rw [he]; intro e; cases e)
     rw [he] at this; exact this
    refine Z3f hev (fun hb => ?_) (fun hb => ?_)
    ·split at h
     ·exact Zcy hP hN hmx x hK ha hnv hu hσ hdep hd h
     ·split at h
      ·rename_i hF; rw [Ztu hF] at hb; cases hb
      ·unfold T.den at h
       exact Zcy hP hN hmx x hK ha (by rw [(Zas rs e true).1]; exact hnv) hu hσ (by rw [(Zas rs e true).2]; exact hdep) (hd.assume hb) (h.1 hb)
    ·split at h
     ·rename_i hT; rw [Zjn hT] at hb; cases hb
     ·split at h
      ·exact Zcy hP hN hmx y hK ha hnv hu hσ hdep hd h
      ·unfold T.den at h
       exact Zcy hP hN hmx y hK ha (by rw [(Zas rs e false).1]; exact hnv) hu hσ (by rw [(Zas rs e false).2]; exact hdep) (hd.assume hb) (h.2 hb)
   ·unfold T.den at h; exact h.elim
 | .block id x, Q, K, n0, ρ0, ρ, σ0, σ, m, rs, s, hK, ha, hnv, hu, hσ, hdep, hd, h => by
   refine Zz8 (Zcy hP hN hmx x (Q := Ex.inBlock id Q) (fun e ρ m rs s σ h1 h2 h3 h4 h5 h6 h7 => ?_) ha hnv hu hσ hdep hd h)
   cases e with
   | nrm => exact hK .nrm ρ m rs s σ h1 h2 h3 h4 h5 h6 h7
   | exit id' =>
     simp only [Re.conv, Ex.inBlock]
     simp only at h7
     split
     ·rename_i e; rw [if_pos e] at h7; exact hK .nrm ρ m rs s σ h1 h2 h3 h4 h5 h6 h7
     ·rename_i e; rw [if_neg e] at h7; exact hK (.exit id') ρ m rs s σ h1 h2 h3 h4 h5 h6 h7
   | ret => exact hK .ret ρ m rs s σ h1 h2 h3 h4 h5 h6 h7
   | pan v => exact hK (.pan v) ρ m rs s σ h1 h2 h3 h4 h5 h6 h7
 | .region _ ops false, Q, K, n0, ρ0, ρ, σ0, σ, m, rs, s, hK, ha, hnv, hu, hσ, hdep, hd, h => by
   unfold Zc4 at h
   have hK' : Zk5 c.P up R n0 ρ0 σ0 Q (Zyj c K) := fun e ρ m rs s σ h1 h2 h3 h4 h5 h6 h7 => by
    cases e with
    | nrm => exact hK .nrm ρ m (rs.keep c.live c.N) s σ h1 h2 h3 h4 h5 (h6.keep c.live c.N) h7
    | exit id => exact hK (.exit id) ρ m rs s σ h1 h2 h3 h4 h5 h6 h7
    | ret => exact hK .ret ρ m rs s σ h1 h2 h3 h4 h5 h6 h7
    | pan v => exact hK (.pan v) ρ m rs s σ h1 h2 h3 h4 h5 h6 h7
   obtain ⟨s', g1, g2, g3, g4⟩ := Zgp (c := c) hN (c.live.filter fun u => Z4e rs u && Zyi ops.toList u) hd
   refine g4 _ _ (Zw5 ?_)
   have := Ztx hP hN (l := ops.toList) (k := 0) (fun j => by simp) hK' ha (by show n0 <= (Zea c rs _).nv; rw [g2]; exact hnv) hu hσ (by show (Zea c rs _).dep = _; rw [g3]; exact hdep) g1 h
   rw [List.range_eq_range']
   simpa using this
 | .region _ ops true, Q, K, n0, ρ0, ρ, σ0, σ, m, rs, s, hK, ha, hnv, hu, hσ, hdep, hd, h => by
   unfold Zc4 at h
   simp only at h
   have hK' : Zk5 c.P up R n0 ρ0 σ0 Q (Zyj c K) := fun e ρ m rs s σ h1 h2 h3 h4 h5 h6 h7 => by
    cases e with
    | nrm => exact hK .nrm ρ m (rs.keep c.live c.N) s σ h1 h2 h3 h4 h5 (h6.keep c.live c.N) h7
    | exit id => exact hK (.exit id) ρ m rs s σ h1 h2 h3 h4 h5 h6 h7
    | ret => exact hK .ret ρ m rs s σ h1 h2 h3 h4 h5 h6 h7
    | pan v => exact hK (.pan v) ρ m rs s σ h1 h2 h3 h4 h5 h6 h7
   obtain ⟨s', g1, g2, g3, g4⟩ := Zgp (c := c) hN (c.live.filter fun u => Z4e rs u && Zyi ops.toList u) hd
   split at h
   ·split at h
    ·rename_i hok
     exact g4 _ _ (Z6m hP hN (by rw [hP]; exact hmx) hok hK' ha (by show n0 <= (Zea c rs _).nv; rw [g2]; exact hnv) hu hσ (by show (Zea c rs _).dep = _; rw [g3]; exact hdep) g1 h)
    ·unfold T.den at h; exact h.elim
   split at h
   ·rename_i hok
    have hm0 : Z4c (clOf ops) ops.size <= ops.size := by
     have := hok
     simp only [Zty, Bool.and_eq_true, Nat.ble_eq] at this
     exact this.1.1.1.1
    refine g4 _ _ (Z7h (by rw [hP]; exact hmx) hok (Zym hm0 hP hN (fun j hj => by simp at hj; simp [hj]) (by simp; omega) hK' ha (by show n0 <= (Zea c rs _).nv; rw [g2]; exact hnv) hu hσ (by show (Zea c rs _).dep = _; rw [g3]; exact hdep) g1 h))
   ·unfold T.den at h; exact h.elim
 | .loop b, Q, K, n0, ρ0, ρ, σ0, σ, m, rs, s, hK, ha, hnv, hu, hσ, hdep, hd, h => by
   unfold Zc4 Z6k at h
   simp only at h
   generalize Zyh c (Zc4 c op b) rs.nv rs.dep (rs.known.filter (E.lt rs.nv)) 6 [Z0y c rs.nv (rs.known.filter (E.lt rs.nv)) rs.tm rs.K] = ps at h
   split at h
   ·rename_i j a hj
    split at h
    ·rename_i hkn
     have hkn' : ∀ p ∈ ps, ∀ e ∈ p.rs.known, e.lt rs.nv = true /\ (e.den ρ).bool = true := fun p hp e he => by
      have h1 := List.all_eq_true.1 (List.all_eq_true.1 hkn p hp) e he
      simp only [Bool.and_eq_true] at h1
      exact ⟨h1.1, Ze4 hd.known h1.2⟩
     unfold T.den at h
     rw [Zt9] at h
     obtain ⟨Is, hlen, hIs, hinv, hden⟩ := Zt8 h
     obtain ⟨i0, p0, hj0, hp0, hm0⟩ := Zig hj
     have norm : ∀ {i : Nat} {p : Pat} (l : List Dat), ps[i]? = some p -> (Zew Is i (Zb8 p.ks l) ↔ Zew Is i l) /\ Zhi Is i (Zb8 p.ks l) = Zhi Is i l := fun {i p} l hp => by
      obtain ⟨I, μ, h1⟩ := hIs i p.ks (by rw [List.getElem?_map, hp]; rfl)
      simp only [Zew, Zhi, h1]
      exact ⟨by rw [Zie], Zla p.ks μ l⟩
     refine Z3g (X := St × (Nat × List Dat)) (fun x => x.1) (fun x => Zhi Is x.2.1 x.2.2)
      (fun x => ∃ (p : Pat) (m' : Nm), ps[x.2.1]? = some p /\ m'.up = up /\ x.2.2 = Zb8 p.ks x.2.2 /\ Zew Is x.2.1 x.2.2 /\ Den (Zem ρ rs.nv x.2.2) m' { p.rs with nv := rs.nv + p.ks.length, dep := rs.dep + 1 } x.1)
      (s, (i0, Zb8 p0.ks (a.map fun e => e.den ρ))) ⟨p0, m, hp0, hu, ?_, ?_, ?_⟩ (Weaker.refl s) ?_
     ·have : ∀ (ks : List Dk) (l : List Dat), Zb8 ks l = Zb8 ks (Zb8 ks l) := by
       intro ks
       induction ks with
       | nil => intro l; rfl
       | cons k ks ih => intro l; cases l with
         | nil => simp only [Zb8, Zqb]; rw [<- ih]
         | cons x l => simp only [Zb8, Zqb]; rw [<- ih]
      exact this _ _
     ·have : j = i0 := by omega
      subst this
      exact ((norm _ hp0).1).2 hinv
     ·exact Zlb hm0 (Agr.refl _ _) hd (hkn' p0 (List.mem_of_getElem? hp0))
     ·rintro ⟨s1, i1, vals⟩ ⟨p, m', hp, hu', hnorm, hI, hden'⟩
      have h5 := Zif (l := vals) (Zqd hden hp)
      rw [<- hnorm] at h5
      simp only [List.nil_append, Nat.zero_add] at h5
      have h6 := h5 hI
      refine Zcy hP hN hmx b (Q := Ex.then (fun s' => ∃ x' : St × (Nat × List Dat), (∃ (p : Pat) (m' : Nm), ps[x'.2.1]? = some p /\ m'.up = up /\ x'.2.2 = Zb8 p.ks x'.2.2 /\ Zew Is x'.2.1 x'.2.2 /\ Den (Zem ρ rs.nv x'.2.2) m' { p.rs with nv := rs.nv + p.ks.length, dep := rs.dep + 1 } x'.1) /\ Weaker x'.1 s' /\ Zhi Is x'.2.1 x'.2.2 < Zhi Is i1 vals) Q)
       (n0 := rs.nv) (ρ0 := ρ) (σ0 := σ ++ [fun j' a => Zew Is j' a /\ Zhi Is j' a < Zhi Is i1 vals]) (fun e ρ2 m2 rs2 s2 σ2 k1 k2 k3 k4 k5 k6 k7 => ?_) (Zd0 _ _ _) (Nat.le_add_right _ _) hu' (List.prefix_rfl) (by simp [hdep]) hden' h6
      have hσ2 : σ0 <+: σ2 := hσ.trans ((List.prefix_append _ _).trans k4)
      cases e with
      | nrm =>
        simp only at k7
        split at k7
        ·rename_i j2 a2 hj2
         obtain ⟨i2, p2, hj2', hp2, hm2⟩ := Zig hj2
         have : j2 = i2 := by omega
         subst this
         unfold T.den at k7
         have hlook : σ2[rs.dep]? = some (fun j' a => Zew Is j' a /\ Zhi Is j' a < Zhi Is i1 vals) := by
          obtain ⟨t, ht⟩ := k4
          rw [<- ht, hdep]
          simp
         rw [hlook] at k7
         obtain ⟨k8, k9⟩ := k7
         refine ⟨(s2, (j2, Zb8 p2.ks (a2.map fun e => e.den ρ2))), ⟨p2, m2, hp2, k3, ?_, ((norm _ hp2).1).2 k8, Zlb hm2 k1 k6 (hkn' p2 (List.mem_of_getElem? hp2))⟩, Weaker.refl s2, ?_⟩
         ·have : ∀ (ks : List Dk) (l : List Dat), Zb8 ks l = Zb8 ks (Zb8 ks l) := by
           intro ks
           induction ks with
           | nil => intro l; rfl
           | cons k ks ih => intro l; cases l with
             | nil => simp only [Zb8, Zqb]; rw [<- ih]
             | cons x l => simp only [Zb8, Zqb]; rw [<- ih]
          exact this _ _
         ·show Zhi Is j2 (Zb8 p2.ks _) < _
          rw [(norm _ hp2).2]; exact k9
        ·unfold T.den at k7; exact k7.elim
      | exit id => exact hK (.exit id) ρ2 m2 rs2 s2 σ2 (ha.trans k1 hnv) (Nat.le_trans hnv k2) k3 hσ2 k5 k6 k7
      | ret => exact hK .ret ρ2 m2 rs2 s2 σ2 (ha.trans k1 hnv) (Nat.le_trans hnv k2) k3 hσ2 k5 k6 k7
      | pan v => exact hK (.pan v) ρ2 m2 rs2 s2 σ2 (ha.trans k1 hnv) (Nat.le_trans hnv k2) k3 hσ2 k5 k6 k7
    ·unfold T.den at h; exact h.elim
   ·unfold T.den at h; exact h.elim
 | .rangeFunc _ _ _ _, _, _, _, _, _, _, _, _, _, _, _, _, _, _, _, _, _, h => by unfold Zc4 T.den at h; exact h.elim
 | .scope _, _, _, _, _, _, _, _, _, _, _, _, _, _, _, _, _, _, h => by unfold Zc4 T.den at h; exact h.elim
 | .goto _, _, _, _, _, _, _, _, _, _, _, _, _, _, _, _, _, _, h => by unfold Zc4 T.den at h; exact h.elim
 | .refuse _, _, _, _, _, _, _, _, _, _, _, _, _, _, _, _, _, _, h => by unfold Zc4 T.den at h; exact h.elim
end
end Go.Rf
end
section
namespace Go.Rf
open Go.Ab
def RA.noOwn : RA -> Bool
 | .ptr (.own _) _ => false
 | .fn _ l => l.all fun r => match r with | .up _ => true | .own _ => false
 | .als _ | .opt _ _ _ _ | .gv _ _ => false
 | _ => true
theorem Zf9 {x : RA} (h : x.noOwn = true) {ρ : Env} {m : Nm} {gen : Nat -> Nat} : x.den ρ m gen = x.den ρ ⟨m.up, gen0⟩ gen0 /\ Za2 (x.den ρ m gen) = true := by
 cases x with
 | ptr r o => cases r with
   | own t => cases h
   | up n => exact ⟨rfl, rfl⟩
 | fn f l =>
   have key : ∀ r ∈ l, r.den m = r.den ⟨m.up, gen0⟩ /\ ∃ q, r.den m = .up q := fun r hr => by
    have := List.all_eq_true.1 h r hr
    cases r with
    | own t => cases this
    | up n => exact ⟨rfl, _, rfl⟩
   refine ⟨by simp only [RA.den]; congr 1; exact List.map_congr_left fun r hr => (key r hr).1, ?_⟩
   simp only [RA.den, Za2, List.all_eq_true, List.mem_map]
   rintro r ⟨q, hq, rfl⟩
   obtain ⟨u, hu⟩ := (key q hq).2
   rw [hu]
 | als t => cases h
 | opt t sz i j => cases h
 | gv g v => cases h
 | _ => exact ⟨rfl, rfl⟩
def res1 (c : Cfg) (rs : RSt) : ResultVar -> Option (List E × RA)
 | .tmp t => (match rs.tm.get t with
   | .own sz es nw => some ([], .own sz es nw)
   | r => (match rval rs r with | some v => some ([], v) | none => none))
 | .cell t ty => Zvy c.P ty rs (rs.tm.get t)
def tup1 : RA -> Option (Bool × E)
 | .c x => some (false, x)
 | .agg e => some (true, e)
 | .zs es => some (false, .o1 .cl es)
 | .own _ es .lnil => some (false, .o1 .cl es)
 | _ => none
def resN (c : Cfg) (rs : RSt) : List ResultVar -> Option (List E × List (Bool × E))
 | [] => some ([], [])
 | r :: l => match res1 c rs r, resN c rs l with
   | some (n, v), some (n', vs) => (match tup1 v with | some x => some (n ++ n', x :: vs) | none => none)
   | _, _ => none
def resT (c : Cfg) (rs : RSt) (l : List ResultVar) : Option (List E × RA) :=
 match l with
 | [r] => res1 c rs r
 | l => (match resN c rs l with | some (n, vs) => some (n, .tup vs) | none => none)
def finT (c : Cfg) (rl : List ResultVar) (names : List RRef) : Re -> RSt -> T := fun e rs =>
 match Zd8 rs.K names with
 | some K => if K.all (fun x => x.2.all RA.noOwn) then (match e with
   | .nrm | .ret => (match resT c rs rl with
     | some (n, v) => asks (.bool true) n rs (fun _ => if v.noOwn then .ret v K else .bad 80)
     | none => .bad 81)
   | .pan v => .pan v K
   | .exit _ => .bad 82) else .bad 83
 | none => .bad 84
def Zc8 : Tr -> Nat -> List RA -> Tr
 | t, _, [] => t
 | t, k, x :: l => Zc8 (t.set k x) (k + 1) l
def Zju (depth : Nat) (args : List RA) (K : List (RRef × List RA)) (nv : Nat) : RSt := { tm := Zc8 (Tr.full depth) 0 args, K := K, nv := nv, dep := 0, known := [], al := false }
theorem Zih : ∀ (n k : Nat), (Tr.full n).get k = .any
 | 0, _ => rfl
 | n + 1, k => by
   unfold Tr.full Tr.get
   split
   ·rfl
   ·split <;> exact Zih n _
theorem Zfm : ∀ (l : List RA) (t : Tr) (k j : Nat), (Zc8 t k l).get j = .any \/ (j < k /\ (Zc8 t k l).get j = t.get j) \/ (k <= j /\ l[j - k]? = some ((Zc8 t k l).get j)) \/ (k + l.length <= j /\ (Zc8 t k l).get j = t.get j)
 | [], t, k, j => by
   by_cases h : j < k
   ·exact .inr (.inl ⟨h, rfl⟩)
   ·exact .inr (.inr (.inr ⟨by simpa using h, rfl⟩))
 | x :: l, t, k, j => by
   rcases Zfm l (t.set k x) (k + 1) j with h | ⟨h1, h2⟩ | ⟨h1, h2⟩ | ⟨h1, h2⟩
   ·exact .inl h
   ·by_cases e : j = k
    ·subst e
     rcases Tr.get_set x t j with h3 | h3
     ·right; right; left
      refine ⟨Nat.le_refl _, ?_⟩
      show (x :: l)[j - j]? = some ((Zc8 (t.set j x) (j + 1) l).get j)
      rw [h2, h3]; simp
     ·left
      show (Zc8 (t.set j x) (j + 1) l).get j = .any
      rw [h2, h3]
    ·right; left
     refine ⟨by omega, ?_⟩
     show (Zc8 (t.set k x) (k + 1) l).get j = t.get j
     rw [h2, Tr.get_set_ne x t e]
   ·right; right; left
    refine ⟨by omega, ?_⟩
    have : j - k = (j - (k + 1)) + 1 := by omega
    rw [this, List.getElem?_cons_succ]
    exact h2
   ·right; right; right
    refine ⟨by simp; omega, ?_⟩
    show (Zc8 (t.set k x) (k + 1) l).get j = t.get j
    rw [h2, Tr.get_set_ne x t (by omega)]
section
variable {ρ : Env} {m : Nm} {rs : RSt} {s : St} {R : Out -> List (Ref × List A) -> Prop}
theorem Zyp {c : Cfg} (hd : Den ρ m rs s) {r : ResultVar} {n : List E} {v : RA} (h : res1 c rs r = some (n, v)) (hn : Nds ρ n) : Zdr c.P s r = some (v.den ρ m s.gen) := by
 cases r with
 | tmp t =>
   simp only [res1] at h
   split at h
   ·rename_i sz es nw ht
    cases h
    have := (hd.tm t).resolve_left (by rw [ht]; intro e; cases e)
    rw [ht] at this
    simp only [Zdr, this, RA.den]
   ·rename_i hne
    split at h
    ·rename_i v' hv
     cases h
     have hany : rs.tm.get t ≠ .any := by intro e; rw [e] at hv; simp [rval] at hv
     have he := (hd.tm t).resolve_left hany
     have he' : s.ev (.tmp t) = (rs.tm.get t).den ρ m s.gen := he
     have h1 := (Zmq hd he' hv).1
     show (match s.tm t with
      | .own sz es nw => some (A.own sz es nw)
      | _ => s.val (.tmp t)) = _
     split
     ·rename_i sz es nw ht
      exfalso
      rw [ht] at he
      generalize rs.tm.get t = q at *
      cases q with
      | own a b e => exact hne _ _ _ rfl
      | gv g v => simp [rval] at hv
      | _ => cases he
     ·exact h1
    ·cases h
 | cell t ty =>
   simp only [res1] at h
   have hany : rs.tm.get t ≠ .any := by intro e; rw [e] at h; unfold Zvy at h; split at h <;> simp at h
   have he := (hd.tm t).resolve_left hany
   have := Zxy (x := .tmp t) hd (r := rs.tm.get t) he h hn
   exact this.1
theorem Z4i {v : RA} {x : Bool × E} {gen : Nat -> Nat} (h : tup1 v = some x) : Zhw (v.den ρ m gen) = some (Zg6 ρ x) := by
 unfold tup1 at h
 split at h <;> cases h <;> rfl
theorem Zyq {c : Cfg} (hd : Den ρ m rs s) : ∀ {l : List ResultVar} {n : List E} {vs : List (Bool × E)}, resN c rs l = some (n, vs) -> Nds ρ n -> ((l.mapM (Zdr c.P s)).bind fun vs => vs.mapM Zhw) = some (vs.map (Zg6 ρ))
 | [], _, _, h, _ => by cases h; rfl
 | r :: l, n, vs, h, hn => by
   unfold resN at h
   split at h
   ·rename_i a v b vs' h1 h2
    split at h
    ·rename_i x hx
     cases h
     have h3 := Zb0.1 hn
     have h4 := Zyp hd h1 h3.1
     have h5 := Zyq hd h2 h3.2
     rw [Option.bind_eq_some_iff] at h5
     obtain ⟨as, h6, h7⟩ := h5
     simp only [List.mapM_cons, h4, h6, bind, Option.bind_some, pure, Z4i hx, h7, List.map_cons]
    ·cases h
   ·cases h
theorem Z4j {c : Cfg} (hd : Den ρ m rs s) {l : List ResultVar} {n : List E} {v : RA} (h : resT c rs l = some (n, v)) (hn : Nds ρ n) : resA c.P s l = some (v.den ρ m s.gen) := by
 unfold resT at h
 unfold resA
 split at h
 ·exact Zyp hd h hn
 ·rename_i hne
  split at h
  ·rename_i a vs h1
   cases h
   have h2 := Zyq hd h1 hn
   split
   ·rename_i r; exact absurd rfl (hne r)
   ·rw [h2]; rfl
  ·cases h
theorem Zen {K : List (RRef × List RA)} : ∀ {l : List RRef} {b : List (RRef × List RA)}, Zd8 K l = some b -> b.map (·.1) = l
 | [], _, h => by cases h; rfl
 | r :: l, b, h => by
   unfold Zd8 at h
   split at h
   ·rename_i c b' h1 h2
    cases h
    rw [List.map_cons, Zen h2]
   ·cases h
theorem Zyr {c : Cfg} {rl : List ResultVar} {up : Nat -> Ref} {H : List (Ref × List A)} {K0 : List (RRef × List RA)} {ρ0 : Env} (hH : H.map (·.1) = (Zad ρ0 ⟨up, gen0⟩ K0).map (·.1)) (hnames : ∀ x ∈ K0, ∃ n, x.1 = .up n) {n0 : Nat} :
 Zk5 c.P up R n0 ρ0 [] (Kf c.P rl H R) (finT c rl (K0.map (·.1))) := by
 intro e ρ m rs s σ _ _ hu _ _ hd h
 unfold finT at h
 split at h
 ·rename_i K hK
  split at h
  ·rename_i hno
   have hup : (⟨m.up, gen0⟩ : Nm) = ⟨up, gen0⟩ := by rw [hu]
   have hcell : ∀ x ∈ K, kDen ρ m x.2 = kDen ρ ⟨up, gen0⟩ x.2 /\ (kDen ρ m x.2).all Za2 = true := fun x hx => by
    have h1 := List.all_eq_true.1 hno x hx
    refine ⟨List.map_congr_left fun y hy => ?_, ?_⟩
    ·have := (Zf9 (List.all_eq_true.1 h1 y hy) (ρ := ρ) (m := m) (gen := fun _ => 0)).1
     rw [this, hup]; rfl
    ·rw [List.all_eq_true]
     intro a ha
     obtain ⟨y, hy, rfl⟩ := List.mem_map.1 ha
     exact (Zf9 (List.all_eq_true.1 h1 y hy)).2
   have hnm : K.map (·.1) = K0.map (·.1) := Zen hK
   have hname : ∀ x ∈ K, x.1.den m = x.1.den ⟨up, gen0⟩ := fun x hx => by
    have : x.1 ∈ K0.map (·.1) := hnm ▸ List.mem_map.2 ⟨x, hx, rfl⟩
    obtain ⟨y, hy, e⟩ := List.mem_map.1 this
    obtain ⟨n, hn⟩ := hnames y hy
    rw [<- e, hn]
    show Ref.up (m.up n) = Ref.up (up n)
    rw [hu]
   have hleft : Ab.Left s H (Zad ρ ⟨up, gen0⟩ K) := by
    refine ⟨?_, fun x hx => ?_⟩
    ·rw [hH]
     have := congrArg (List.map (RRef.den ⟨up, gen0⟩)) hnm
     simpa [Zad, Function.comp_def] using this
    ·obtain ⟨y, hy, rfl⟩ := List.mem_map.1 hx
     obtain ⟨h1, h2⟩ := hcell y hy
     rw [<- h1]
     exact ⟨by rw [<- hname y hy]; exact hd.look (Zc7 hK y hy), h2⟩
   have ret : (match resT c rs rl with
    | some (n, v) => asks (.bool true) n rs (fun _ => if v.noOwn then .ret v K else .bad 80)
    | none => .bad 81 : T).den c.P up R ρ σ -> Done c.P rl H R s := fun hk => by
    split at hk
    ·rename_i n v hv
     obtain ⟨kn, h1, h2, h3⟩ := Zb3 hd.known hk
     split at h3
     ·rename_i hvo
      unfold T.den at h3
      obtain ⟨h4, h5⟩ := Zf9 hvo (ρ := ρ) (m := m) (gen := s.gen)
      exact ⟨v.den ρ m s.gen, Zad ρ ⟨up, gen0⟩ K, Z4j hd hv (h2 rfl), h5, hleft, by rw [h4, hup]; exact h3⟩
     ·unfold T.den at h3; exact h3.elim
    ·unfold T.den at hk; exact hk.elim
   cases e with
   | nrm => exact ret h
   | ret => exact ret h
   | pan v =>
     unfold T.den at h
     exact ⟨Zad ρ ⟨up, gen0⟩ K, hleft, h⟩
   | exit id => unfold T.den at h; exact h.elim
  ·unfold T.den at h; exact h.elim
 ·unfold T.den at h; exact h.elim
def Z4k (args : List RA) : Bool := args.all fun x => match x with | .c _ | .agg _ | .zs _ => true | .ptr (.up _) _ => true | .fn _ l => (l.all fun r => match r with | .up _ => true | .own _ => false) | _ => false
def Z4l (K : List (RRef × List RA)) : Bool := K.all fun x => (match x.1 with | .up _ => true | .own _ => false)
@[irreducible] def T.vc (P : Program) (up : Nat -> Ref) (R : Out -> List (Ref × List A) -> Prop) (t : T) (ρ : Env) : Prop := t.den P up R ρ []
theorem walk {c : Cfg} {op : Opt} {f : FuncId} {fn : Func} {code : Code} {rl : List ResultVar} {args : List RA} {K : List (RRef × List RA)} {nv depth : Nat} {up : Nat -> Ref} {ρ : Env} {t : T} (hmx : c.P.follows .mixedOrders = true) (hf : c.P.funcs[f]? = some fn) (hb : fn.body = some code) (hrs : fn.results.toList = rl) (hN : fn.ntmps = c.N)
 (hn : (fn.name == "runtime.NumGoroutine") = false) (hlen : args.length <= c.N) (ha : Z4k args = true) (hK : Z4l K = true)
 (ht : Zc4 c op code (Zju depth args K nv) (finT c rl (K.map (·.1))) = t) (hnd : ((Zad ρ ⟨up, gen0⟩ K).map (·.1)).Nodup) (h : t.vc c.P up R ρ) :
 Holds c.P f (args.map (RA.den ρ ⟨up, gen0⟩ gen0)) (Zad ρ ⟨up, gen0⟩ K) R := by
 unfold T.vc at h
 have hargs : ∀ x ∈ args, (x.den ρ ⟨up, gen0⟩ gen0).isOwn = false /\ (x.den ρ ⟨up, gen0⟩ gen0).plain = true /\ x.ali = none := fun x hx => by
  have := List.all_eq_true.1 ha x hx
  cases x with
  | c x => exact ⟨rfl, rfl, rfl⟩
  | agg x => exact ⟨rfl, rfl, rfl⟩
  | zs x => exact ⟨rfl, rfl, rfl⟩
  | ptr r o => exact ⟨rfl, rfl, rfl⟩
  | fn f l => exact ⟨rfl, rfl, rfl⟩
  | _ => cases this
 refine Z0g fn c.N rl hf hb hrs hN hn (by simpa using hlen) hnd (fun x hx => ?_) fun C hP hCN => ?_
 ·obtain ⟨y, hy, rfl⟩ := List.mem_map.1 hx
  exact ⟨(hargs y hy).1, (hargs y hy).2.1⟩
 ·have hnames : ∀ x ∈ K, ∃ n, x.1 = .up n := fun x hx => by
   have := List.all_eq_true.1 hK x hx
   cases hx1 : x.1 with
   | own t => rw [hx1] at this; cases this
   | up n => exact ⟨n, rfl⟩
  have hget : ∀ j, (Zju depth args K nv).tm.get j = .any \/ args[j]? = some ((Zju depth args K nv).tm.get j) := fun j => by
   rcases Zfm args (Tr.full depth) 0 j with h | ⟨h1, _⟩ | ⟨_, h2⟩ | ⟨_, h2⟩
   ·exact .inl h
   ·omega
   ·right; rw [Nat.sub_zero] at h2; exact h2
   ·left
    show (Zc8 (Tr.full depth) 0 args).get j = .any
    rw [h2, Zih]
  have hd : Den ρ ⟨up, gen0⟩ (Zju depth args K nv) (Zf3 (args.map (RA.den ρ ⟨up, gen0⟩ gen0)) (Zad ρ ⟨up, gen0⟩ K)) := by
   refine ⟨fun j => ?_, fun _ j => ?_, fun r x hx => ?_, ?_, fun e he => by cases he⟩
   ·rcases hget j with h1 | h1
    ·exact .inl h1
    ·right
     show ((args.map (RA.den ρ ⟨up, gen0⟩ gen0))[j]?).getD .any = _
     rw [List.getElem?_map, h1]
     rfl
   ·rcases hget j with h1 | h1
    ·rw [h1]; rfl
    ·exact (hargs _ (List.mem_of_getElem? h1)).2.2
   ·exact Zb9 hnd (List.mem_map.2 ⟨(r, x), hx, rfl⟩)
   ·have e : (K.map fun x => x.1.den ⟨up, gen0⟩) = (Zad ρ ⟨up, gen0⟩ K).map (·.1) := by simp [Zad, Function.comp_def]
    show (K.map fun x => x.1.den ⟨up, gen0⟩).Nodup
    rw [e]; exact hnd
  subst ht
  have := Zcy (c := c) (op := op) (C := C) hP hCN hmx code (n0 := nv) (ρ0 := ρ) (σ0 := []) (Zyr (K0 := K) (ρ0 := ρ) rfl hnames) (Agr.refl _ _) (Nat.le_refl _) rfl (List.prefix_rfl) rfl hd h
  exact this
end
def upOf (l : List Ref) : Nat -> Ref := fun n => l.getD n (.own 0 0)
def Zat (l : List Dat) : Env := fun n => l.getD n (.i 0)
theorem T_of {a b : Prop} (h : a = b) (hb : b) : a := h ▸ hb
def tB (b : Bool) : Bool := (Dat.b b).bool
@[simp] theorem Zbg (b : Bool) : tB b = b := by cases b <;> rfl
def gNot (k : IntKind) (a : Int) : Int := k.wrap (BitVec.ofInt k.bits (if k.signed then -1 else k.max) ^^^ BitVec.ofInt k.bits a).toNat
def gAnd (k : IntKind) (a b : Int) : Int := k.wrap (BitVec.ofInt k.bits a &&& BitVec.ofInt k.bits b).toNat
def gOr (k : IntKind) (a b : Int) : Int := k.wrap (BitVec.ofInt k.bits a ||| BitVec.ofInt k.bits b).toNat
def gShl (k : IntKind) (a b : Int) : Int := k.wrap (a * 2 ^ (min b.toNat k.bits))
def gShr (k : IntKind) (a b : Int) : Int := a.fdiv (2 ^ (min b.toNat k.bits))
def Zak (s : List UInt8) (i : Int) : Int := ((s.getD i.toNat 0).toNat : Nat)
def Z6n (a : Int) : List UInt8 := (Utf8.encode a).data.toList
def gSub {α : Type} (l : List α) (a b : Int) : List α := (l.take b.toNat).drop a.toNat
def gAt (l : List (List D)) (i : Int) : List D := l.getD i.toNat []
def gSet (l : List (List D)) (i : Int) (r : List D) : List (List D) := l.set i.toNat r
def gRpt (n : Int) (r : List D) : List (List D) := List.replicate n.toNat r
def Zga (m : Nat) (l : List (List D)) : Bool := l.all fun z => z.length == m
end Go.Rf
end
section
namespace Go.Rf
open Go.Ab
def Zqf (P : Program) (f : FuncId) (args : List A) (H : List (Ref × List A)) (u u' : FrameMode) (R : List (Ref × List A) -> Prop) : Prop :=
 ∀ (w : World) (cargs : Array Value) (g : Gh), All2 (fun x v => ∀ p, RepA w g (fun _ => 0) p x v) args cargs.toList -> HeapRel (Zah P w g H 0) (Zay H) g w ->
   CallsD P f cargs u w fun e u'' w' => u'' = u' /\ (∃ cv, e = .returned cv) /\ ∃ H' g', R H' /\ H'.map (·.1) = H.map (·.1) /\ HeapRel (Zah P w g H 0) (Zay H') g' w' /\ ∀ x ∈ H', x.2.all Za2 = true
def Zeb (u : FrameMode) : Value × FrameMode := match u with
 | .panicking ({ v, recovered := false, goexit := false } :: older) => (v, .panicking ({ v, recovered := true } :: older))
 | u => (.nilIface, u)
theorem Zsp (c₀ : Frame) (cs : List Frame) : (recoverD (c₀ :: cs) = some ((Zeb c₀.mode).1, { c₀ with mode := (Zeb c₀.mode).2 } :: cs)) \/ (recoverD (c₀ :: cs) = none /\ Zeb c₀.mode = (.nilIface, c₀.mode)) := by
 cases hm : c₀.mode with
 | run => right; simp [recoverD, Zeb, hm]
 | returning => right; simp [recoverD, Zeb, hm]
 | panicking l =>
   cases l with
   | nil => right; simp [recoverD, Zeb, hm]
   | cons p older =>
     obtain ⟨v, r, ge⟩ := p
     cases r <;> cases ge <;> first
      | (left; simp [recoverD, Zeb, hm]; done)
      | (right; simp [recoverD, Zeb, hm]; done)
section
variable {P : Program}
theorem Zv8 {o1 o2 : Oper} {tys : Array TypeId} {d6 d3 : Nat} (h1 : o1.op = .call { callee := .builtin .recover, args := #[], argTypes := tys }) (g1 : o1.guard = none) (e1 : o1.dst = some d6)
 (h2 : o2.op = .assign (.tmp d6)) (g2 : o2.guard = none) (e2 : o2.dst = some d3) {Q : Exit -> Act -> List Frame -> World -> Prop} {a : Act} {c₀ : Frame} {cs : List Frame} {w : World} (hs : d6 < a.tmps.size)
 (h : Q .normal ((a.put (some d6) (Zeb c₀.mode).1).put (some d3) (Zeb c₀.mode).1) ({ c₀ with mode := (Zeb c₀.mode).2 } :: cs) w) : wpOpsS P #[o1, o2] Q (List.range 2) a (c₀ :: cs) w := by
 have hr : List.range 2 = [0, 1] := rfl
 have w1 : ∀ b : Act, Region.wanted o1 (yielded #[o1, o2] b.tmps) = true := fun b => by simp [Region.wanted, g1]
 have w2 : ∀ b : Act, Region.wanted o2 (yielded #[o1, o2] b.tmps) = true := fun b => by simp [Region.wanted, g2]
 have x1 : ∀ ev, (execOp ev o1).run P w = .ok .recover w := fun ev => by simp [execOp, h1, resolve, invoke, builtin]
 have x2 : ∀ v : Value, (execOp ((a.put (some d6) v).eval) o2).run P w = .ok (.value v) w := fun v => by
  simp [execOp, h2, Act.eval, Act.put, hs]
 have e0 : (#[o1, o2])[0]? = some o1 := rfl
 have e9 : (#[o1, o2])[1]? = some o2 := rfl
 rw [hr]
 simp only [wpOpsS, e0, e9, w1, w2, if_true, x1]
 rcases Zsp c₀ cs with hd | ⟨hd, hi⟩
 ·rw [hd]
  simp only [e1, x2, Oper.upon_value, e2]
  exact h
 ·rw [hd]
  rw [hi] at h
  simp only [e1, x2, Oper.upon_value, e2]
  have : ({ c₀ with mode := c₀.mode } : Frame) = c₀ := rfl
  rw [this] at h
  exact h
end
theorem Z4m {c : Cfg} {op : Opt} {f : FuncId} {fn : Func} {id : Nat} {o1 o2 : Oper} {rest : Code} {tys : Array TypeId} {d6 d3 : Nat} {args : List RA} {K : List (RRef × List RA)} {nv depth : Nat} {up : Nat -> Ref} {ρ : Env} {t : T} {e : E} {u : FrameMode}
 {R : List (Ref × List A) -> Prop}
 (hmx : c.P.follows .mixedOrders = true) (hf : c.P.funcs[f]? = some fn) (hb : fn.body = some (.seq (.region id #[o1, o2] false) rest)) (hrs : fn.results.toList = []) (hN : fn.ntmps = c.N)
 (h1 : o1.op = .call { callee := .builtin .recover, args := #[], argTypes := tys }) (g1 : o1.guard = none) (e1 : o1.dst = some d6)
 (h2 : o2.op = .assign (.tmp d6)) (g2 : o2.guard = none) (e2 : o2.dst = some d3) (hd6 : d6 < c.N) (hd3 : d3 < c.N)
 (hlen : args.length <= c.N) (ha : Z4k args = true) (hK : Z4l K = true) (hcell : isCell (Zeb u).1 = true) (he : (e.den ρ).dd = .lit (Zeb u).1)
 (ht : Zc4 c op rest (((Zju depth args K nv).put d6 (.c e)).put d3 (.c e)) (finT c [] (K.map (·.1))) = t) (hnd : ((Zad ρ ⟨up, gen0⟩ K).map (·.1)).Nodup)
 (h : t.vc c.P up (fun o H => match o with | .ret _ => R H | .pan _ => False) ρ) :
 Zqf c.P f (args.map (RA.den ρ ⟨up, gen0⟩ gen0)) (Zad ρ ⟨up, gen0⟩ K) u (Zeb u).2 R := by
 unfold T.vc at h
 have hargs : ∀ x ∈ args, (x.den ρ ⟨up, gen0⟩ gen0).isOwn = false /\ (x.den ρ ⟨up, gen0⟩ gen0).plain = true /\ x.ali = none := fun x hx => by
  have := List.all_eq_true.1 ha x hx
  cases x with
  | c x => exact ⟨rfl, rfl, rfl⟩
  | agg x => exact ⟨rfl, rfl, rfl⟩
  | zs x => exact ⟨rfl, rfl, rfl⟩
  | ptr r o => exact ⟨rfl, rfl, rfl⟩
  | fn f l => exact ⟨rfl, rfl, rfl⟩
  | _ => cases this
 have hnames : ∀ x ∈ K, ∃ n, x.1 = .up n := fun x hx => by
  have := List.all_eq_true.1 hK x hx
  cases hx1 : x.1 with
  | own t => rw [hx1] at this; cases this
  | up n => exact ⟨n, rfl⟩
 have hget : ∀ j, (Zju depth args K nv).tm.get j = .any \/ args[j]? = some ((Zju depth args K nv).tm.get j) := fun j => by
  rcases Zfm args (Tr.full depth) 0 j with h | ⟨h1, _⟩ | ⟨_, h2⟩ | ⟨_, h2⟩
  ·exact .inl h
  ·omega
  ·right; rw [Nat.sub_zero] at h2; exact h2
  ·left
   show (Zc8 (Tr.full depth) 0 args).get j = .any
   rw [h2, Zih]
 have hd : Den ρ ⟨up, gen0⟩ (Zju depth args K nv) (Zf3 (args.map (RA.den ρ ⟨up, gen0⟩ gen0)) (Zad ρ ⟨up, gen0⟩ K)) := by
  refine ⟨fun j => ?_, fun _ j => ?_, fun r x hx => ?_, ?_, fun e he => by cases he⟩
  ·rcases hget j with h1 | h1
   ·exact .inl h1
   ·right
    show ((args.map (RA.den ρ ⟨up, gen0⟩ gen0))[j]?).getD .any = _
    rw [List.getElem?_map, h1]
    rfl
  ·rcases hget j with h1 | h1
   ·rw [h1]; rfl
   ·exact (hargs _ (List.mem_of_getElem? h1)).2.2
  ·exact Zb9 hnd (List.mem_map.2 ⟨(r, x), hx, rfl⟩)
  ·have e : (K.map fun x => x.1.den ⟨up, gen0⟩) = (Zad ρ ⟨up, gen0⟩ K).map (·.1) := by simp [Zad, Function.comp_def]
   show (K.map fun x => x.1.den ⟨up, gen0⟩).Nodup
   rw [e]; exact hnd
 intro w cargs g hcargs hheap
 refine callsD_of_wpS hf hb fun c₀ cs hu => ?_
 subst hu
 have hR := Znn (N := fn.ntmps) (by rw [hN]; simpa using hlen) (fun x hx => by
  obtain ⟨y, hy, rfl⟩ := List.mem_map.1 hx
  exact ⟨(hargs y hy).1, (hargs y hy).2.1⟩) hcargs hheap
 have hsz := hR.size
 refine wpS_seq (wpS_region ?_)
 have hn6 : d6 < fn.ntmps := by rw [hN]; exact hd6
 have hn3 : d3 < fn.ntmps := by rw [hN]; exact hd3
 refine Zv8 h1 g1 e1 h2 g2 e2 (by rw [hsz]; exact hn6) ?_
 refine wpS_of_wp ?_
 have hR1 := (hR.put (x := .d (.lit (Zeb c₀.mode).1)) (v := (Zeb c₀.mode).1) hn6 rfl (.lit _ hcell) (fun t n e => by cases e) (fun t n a b j e => by cases e))
 have hR2 := (hR1.put (x := .d (.lit (Zeb c₀.mode).1)) (v := (Zeb c₀.mode).1) hn3 rfl (.lit _ hcell) (fun t n e => by cases e) (fun t n a b j e => by cases e))
 have hd1 := hd.put (d := d6) (x := .c e) (y := .d (.lit (Zeb c₀.mode).1)) (fun h => by cases (show (none : Option Nat) = some _ from h)) (.inr (by simp only [RA.den, he]))
 have hd2 := hd1.put (d := d3) (x := .c e) (y := .d (.lit (Zeb c₀.mode).1)) (fun h => by cases (show (none : Option Nat) = some _ from h)) (.inr (by simp only [RA.den, he]))
 subst ht
 have hupE : ∀ r ∈ (Zad ρ ⟨up, gen0⟩ K).map (·.1), ∃ q, r = .up q := fun r hr => by
  obtain ⟨c', hc'⟩ := Zdx.2 hr
  obtain ⟨_, _, _, _, _, h5⟩ := hheap.box r c' hc'
  cases r with
  | own t n => exact absurd h5 (Nat.not_lt_zero _)
  | up q => exact ⟨q, rfl⟩
 have hwalk := Zcy (c := c) (op := op) (C := Zah c.P w g (Zad ρ ⟨up, gen0⟩ K) fn.ntmps) rfl hN hmx rest (n0 := nv) (ρ0 := ρ) (σ0 := []) (Zyr (K0 := K) (ρ0 := ρ) rfl hnames) (Agr.refl _ _) (Nat.le_refl _) rfl (List.prefix_rfl) rfl hd2 h
 refine wp_mono (hwalk g _ w hR2) fun ex a w' hq => ?_
 have fin : ∀ s g', Rel (Zah c.P w g (Zad ρ ⟨up, gen0⟩ K) fn.ntmps) s g' a w' -> (∃ v H', resA c.P s [] = some v /\ Za2 v = true /\ Ab.Left s (Zad ρ ⟨up, gen0⟩ K) H' /\ R H') ->
  a.defers = [] /\ ∃ v, (results fn a.tmps).run c.P w' = .ok v w' /\ ∃ H' g', R H' /\ H'.map (·.1) = (Zad ρ ⟨up, gen0⟩ K).map (·.1) /\ HeapRel (Zah c.P w g (Zad ρ ⟨up, gen0⟩ K) 0) (Zay H') g' w' /\ ∀ x ∈ H', x.2.all Za2 = true := by
  rintro s g' hR' ⟨v, H', k1, k2, k3, k4⟩
  rw [<- hrs] at k1
  obtain ⟨cv, m1, _⟩ := Zfg (C := Zah c.P w g (Zad ρ ⟨up, gen0⟩ K) fn.ntmps) (fn := fn) hR' k1
  obtain ⟨m4, _⟩ := HeapRel.out rfl hR'.heap hnd hupE k3
  exact ⟨hR'.defers, cv, m1, H', g', k4, k3.1, m4, fun x hx => (k3.2 x hx).2⟩
 cases ex with
 | normal =>
   obtain ⟨s, g', hR', hq⟩ := hq
   obtain ⟨q1, v, q2, q3⟩ := fin s g' hR' hq
   exact ⟨q1, _, rfl, v, q2, rfl, ⟨v, rfl⟩, q3⟩
 | ret =>
   obtain ⟨s, g', hR', hq⟩ := hq
   obtain ⟨q1, v, q2, q3⟩ := fin s g' hR' hq
   exact ⟨q1, _, rfl, v, q2, rfl, ⟨v, rfl⟩, q3⟩
 | panic ch => obtain ⟨v, _, s, g', hR', H', _, hf⟩ := hq; exact hf.elim
 | exit i => obtain ⟨s, g', hR', hq⟩ := hq; exact hq.elim
 | goto l => exact hq.elim
 | outgrown => exact hq.elim
end Go.Rf
end
section
namespace Go.Rf
open Go.Ab
def Zlc (P : Program) (post : Code) (N : Nat) (slots : List (Nat × A)) (H : List (Ref × List A)) (keep : List (Nat × Ref)) (R : Out -> List (Ref × List A) -> Prop) : Prop :=
 ∀ (w : World) (g : Gh) (a : Act), a.tmps.size = N -> (∀ x ∈ slots, RepA w g (fun _ => 0) (.slot x.1) x.2 (a.tmps.getD x.1 undef)) -> HeapRel (Zah P w g H 0) (Zay H) g w ->
   post.wp P (fun e a' w' => ∃ o H' g', (match o with | .ret _ => e = .normal \/ e = .ret | .pan v => e = .panic [{ v, recovered := false }]) /\ R o H' /\ H'.map (·.1) = H.map (·.1) /\ HeapRel (Zah P w g H 0) (Zay H') g' w' /\ a'.defers = a.defers /\ a'.tmps.size = N /\
    ∀ x ∈ keep, a'.tmps.getD x.1 undef = .pointer (some ⟨g'.bx x.2, 0, none⟩)) a w
def Zc5 {α : Type} : List (Nat × α) -> Nat -> Option α
 | [], _ => none
 | (k, x) :: l, j => if j = k then some x else Zc5 l j
theorem Zgb {α : Type} : ∀ {l : List (Nat × α)} {j : Nat} {x : α}, Zc5 l j = some x -> (j, x) ∈ l
 | (k, y) :: l, j, x, h => by
   unfold Zc5 at h
   split at h
   ·rename_i e; cases h; subst e; exact List.mem_cons_self ..
   ·exact List.mem_cons_of_mem _ (Zgb h)
theorem Zqg {α β : Type} (f : α -> β) : ∀ (l : List (Nat × α)) (j : Nat), Zc5 (l.map fun x => (x.1, f x.2)) j = (Zc5 l j).map f
 | [], _ => rfl
 | (k, x) :: l, j => by
   simp only [List.map_cons, Zc5]
   split
   ·rfl
   ·exact Zqg f l j
def Zeo (t : Tr) : List (Nat × RA) -> Tr
 | [] => t
 | (k, x) :: l => (Zeo t l).set k x
theorem Zjr (n : Nat) : ∀ (l : List (Nat × RA)) (j : Nat), (Zeo (Tr.full n) l).get j = .any \/ Zc5 l j = some ((Zeo (Tr.full n) l).get j)
 | [], j => .inl (Zih n j)
 | (k, x) :: l, j => by
   by_cases e : j = k
   ·subst e
    rcases Tr.get_set x (Zeo (Tr.full n) l) j with h | h
    ·right; unfold Zc5; rw [if_pos rfl]; exact congrArg some h.symm
    ·exact .inl h
   ·have := Tr.get_set_ne x (Zeo (Tr.full n) l) e
    unfold Zc5
    rw [if_neg e]
    show ((Zeo (Tr.full n) l).set k x).get j = .any \/ _ = some (((Zeo (Tr.full n) l).set k x).get j)
    rw [this]
    exact Zjr n l j
def Zuc (depth : Nat) (slots : List (Nat × RA)) (K : List (RRef × List RA)) (nv : Nat) : RSt := { tm := Zeo (Tr.full depth) slots, K := K, nv := nv, dep := 0, known := [], al := false }
def Z6o (x : RA) : Bool := match x with | .c _ | .agg _ | .zs _ => true | .ptr (.up _) _ => true | _ => false
def Z7m (rs : RSt) (names : List RRef) (keep : List (Nat × Nat)) : Bool := keep.all fun x => match names[x.2]?, rs.tm.get x.1 with | some q, .ptr q' 0 => decide (q = q') | _, _ => false
def finP (keep : List (Nat × Nat)) (names : List RRef) : Re -> RSt -> T := fun e rs =>
 match Zd8 rs.K names with
 | some K => if K.all (fun x => x.2.all RA.noOwn) && Z7m rs names keep then (match e with
   | .nrm | .ret => .ret (.tup []) K
   | .pan v => .pan v K
   | .exit _ => .bad 110) else .bad 111
 | none => .bad 112
theorem HeapRel.conv {C C' : Ctx} {s s' : St} {g : Gh} {w : World} (h : HeapRel C s g w) (hK : s'.K = s.K) (hgen : s'.gen = s.gen) (ho : ∀ t, (s'.tm t).isOwn = false) (e1 : C'.w0 = C.w0) (e2 : C'.E = C.E) (e3 : C'.Pr0 = C.Pr0) (e4 : C'.bx0 = C.bx0) (e5 : C'.U = C.U) : HeapRel C' s' g w := by
 have old : ∀ {o b}, Owns s' g o b -> Owns s g o b := fun {o b} h1 => by
  cases h1 with
  | box h1 => exact .box (by rw [<- hK]; exact h1)
  | @slot t h1 => rw [ho t] at h1; cases h1
  | cell h1 h2 h3 => exact .cell (by rw [<- hK]; exact h1) h2 h3
 refine ⟨fun r c hc => ?_, fun o o' b h1 h2 => h.inj o o' b (old h1) (old h2), fun o b h1 => ?_, h.prs, fun b o hp => ?_, fun b o hp => ?_, fun r => ?_, fun r hr => ?_, ?_⟩
 ·rw [hK] at hc
  rw [hgen]
  exact h.box r c hc
 ·rw [e1, e2]; exact h.wr o b (old h1)
 ·rw [e3] at hp; exact h.pr0 b o hp
 ·rw [e1, e2, e3]; exact h.prn b o hp
 ·rw [e4]; exact h.up r
 ·rw [e5]; exact h.uu r hr
 ·rw [e1, e2, e3]; exact h.fr
theorem HeapRel.fresh {C : Ctx} {P : Program} {H : List (Ref × List A)} {g : Gh} {w : World} (h : HeapRel C (Zay H) g w) : HeapRel (Zah P w g H 0) (Zay H) g w :=
 ⟨h.box, h.inj, fun o b h1 => .inr ⟨o, h1⟩, h.prs, fun _ _ h => h, fun _ _ h => .inl h, fun _ => rfl, fun _ h => h, Fr.refl _ _ _⟩
theorem HeapRel.trans {P : Program} {w w' w2 : World} {g g' g2 : Gh} {H H' H2 : List (Ref × List A)} (h1 : HeapRel (Zah P w g H 0) (Zay H') g' w') (h2 : HeapRel (Zah P w' g' H' 0) (Zay H2) g2 w2) : HeapRel (Zah P w g H 0) (Zay H2) g2 w2 := by
 have hwr : ∀ b, (w'.heap.size <= b \/ ∃ o, Owns (Zay H') g' o b) -> w.heap.size <= b \/ ∃ o, Owns (Zay H) g o b := fun b hb => by
  rcases hb with hb | ⟨o, hb⟩
  ·exact .inl (Nat.le_trans h1.fr.size hb)
  ·exact h1.wr o b hb
 refine ⟨h2.box, h2.inj, fun o b ho => hwr b (h2.wr o b ho), h2.prs, fun b o hp => h2.pr0 b o (h1.pr0 b o hp), fun b o hp => ?_, fun r => (h2.up r).trans (h1.up r), fun r hr => h1.uu r (h2.uu r hr), ?_⟩
 ·rcases h2.prn b o hp with h3 | h3 | h3
  ·exact h1.prn b o h3
  ·exact .inr (hwr b (.inr h3)).symm
  ·exact .inr (hwr b (.inl h3)).symm
 ·exact h1.fr.trans h2.fr (fun b hb => (hwr b (.inr hb)).symm) h1.pr0
theorem Z00 {c : Cfg} {op : Opt} {post : Code} {slots : List (Nat × RA)} {K : List (RRef × List RA)} {keep : List (Nat × Nat)} {nv depth : Nat} {up : Nat -> Ref} {ρ : Env} {t : T} {R : Out -> List (Ref × List A) -> Prop}
 (hmx : c.P.follows .mixedOrders = true) (hs : slots.all (fun x => Z6o x.2) = true) (hK : Z4l K = true)
 (ht : Zc4 c op post (Zuc depth slots K nv) (finP keep (K.map (·.1))) = t) (hnd : ((Zad ρ ⟨up, gen0⟩ K).map (·.1)).Nodup) (h : t.vc c.P up R ρ) :
 Zlc c.P post c.N (slots.map fun x => (x.1, x.2.den ρ ⟨up, gen0⟩ gen0)) (Zad ρ ⟨up, gen0⟩ K) (keep.map fun x => (x.1, (((K.map (·.1))[x.2]?).map (RRef.den ⟨up, gen0⟩)).getD (.own 0 0))) R := by
 unfold T.vc at h
 have hslot : ∀ x ∈ slots, (x.2.den ρ ⟨up, gen0⟩ gen0).isOwn = false /\ (x.2.den ρ ⟨up, gen0⟩ gen0).plain = true /\ x.2.ali = none := fun x hx => by
  have := List.all_eq_true.1 hs x hx
  revert this
  generalize x.2 = y
  intro this
  cases y with
  | c x => exact ⟨rfl, rfl, rfl⟩
  | agg x => exact ⟨rfl, rfl, rfl⟩
  | zs x => exact ⟨rfl, rfl, rfl⟩
  | ptr r o => exact ⟨rfl, rfl, rfl⟩
  | _ => cases this
 have hnames : ∀ x ∈ K, ∃ n, x.1 = .up n := fun x hx => by
  have := List.all_eq_true.1 hK x hx
  cases hx1 : x.1 with
  | own t => rw [hx1] at this; cases this
  | up n => exact ⟨n, rfl⟩
 intro w g a hsz hsl hheap
 let D : Ctx := { Zah c.P w g (Zad ρ ⟨up, gen0⟩ K) c.N with ds := a.defers }
 let s0 : St := ⟨fun j => (Zc5 (slots.map fun x : Nat × RA => (x.1, x.2.den ρ ⟨up, gen0⟩ gen0)) j).getD A.any, kOf (Zad ρ ⟨up, gen0⟩ K), fun _ => 0⟩
 have hplain : ∀ j, (s0.tm j).isOwn = false /\ (s0.tm j).plain = true := fun j => by
  show ((Zc5 (slots.map fun x : Nat × RA => (x.1, x.2.den ρ ⟨up, gen0⟩ gen0)) j).getD A.any).isOwn = false /\ _
  cases hl : Zc5 (slots.map fun x => (x.1, x.2.den ρ ⟨up, gen0⟩ gen0)) j with
  | none => exact ⟨rfl, by show ((Zc5 (slots.map fun x : Nat × RA => (x.1, x.2.den ρ ⟨up, gen0⟩ gen0)) j).getD A.any).plain = true; rw [hl]; rfl⟩
  | some x =>
    obtain ⟨y, hy, e⟩ := List.mem_map.1 (Zgb hl)
    cases e
    exact ⟨(hslot y hy).1, by show ((Zc5 (slots.map fun x : Nat × RA => (x.1, x.2.den ρ ⟨up, gen0⟩ gen0)) _).getD A.any).plain = true; rw [hl]; exact (hslot y hy).2.1⟩
 have hR : Rel D s0 g a w := by
  refine ⟨rfl, hsz, fun j => ?_, fun u t n hu => ?_, fun u t n m i j hu => ?_, ?_⟩
  ·show RepA w g (fun _ => 0) (.slot j) ((Zc5 (slots.map fun x : Nat × RA => (x.1, x.2.den ρ ⟨up, gen0⟩ gen0)) j).getD A.any) _
   cases hl : Zc5 (slots.map fun x => (x.1, x.2.den ρ ⟨up, gen0⟩ gen0)) j with
   | none => trivial
   | some x => exact hsl _ (Zgb hl)
  ·have := (hplain u).2; rw [hu] at this; cases this
  ·have := (hplain u).2; rw [hu] at this; cases this
  ·exact HeapRel.conv hheap rfl rfl (fun t => (hplain t).1) rfl rfl rfl rfl rfl
 have hget : ∀ j, (Zuc depth slots K nv).tm.get j = .any \/ Zc5 slots j = some ((Zuc depth slots K nv).tm.get j) := fun j => Zjr depth slots j
 have hd : Den ρ ⟨up, gen0⟩ (Zuc depth slots K nv) s0 := by
  refine ⟨fun j => ?_, fun _ j => ?_, fun r x hx => ?_, ?_, fun e he => by cases he⟩
  ·rcases hget j with h1 | h1
   ·exact .inl h1
   ·right
    show (Zc5 (slots.map fun x : Nat × RA => (x.1, x.2.den ρ ⟨up, gen0⟩ gen0)) j).getD A.any = _
    rw [Zqg (fun x : RA => x.den ρ ⟨up, gen0⟩ gen0), h1]
    rfl
  ·rcases hget j with h1 | h1
   ·rw [h1]; rfl
   ·exact (hslot _ (Zgb h1)).2.2
  ·exact Zb9 hnd (List.mem_map.2 ⟨(r, x), hx, rfl⟩)
  ·have e : (K.map fun x => x.1.den ⟨up, gen0⟩) = (Zad ρ ⟨up, gen0⟩ K).map (·.1) := by simp [Zad, Function.comp_def]
   show (K.map fun x => x.1.den ⟨up, gen0⟩).Nodup
   rw [e]; exact hnd
 let Q : Ex -> St -> Prop := fun ex s => ∃ o H', (match o with | .ret _ => ex = .normal \/ ex = .ret | .pan v => ex = .pan v) /\ R o H' /\ Ab.Left s (Zad ρ ⟨up, gen0⟩ K) H' /\
  ∀ x ∈ keep, ∃ q, (K.map (·.1))[x.2]? = some q /\ s.tm x.1 = .ptr (q.den ⟨up, gen0⟩) 0
 have hG : Zk5 c.P up R nv ρ [] Q (finP keep (K.map (·.1))) := by
  intro e ρ' m rs s σ _ _ hu _ _ hd h
  unfold finP at h
  split at h
  ·rename_i K' hK'
   split at h
   ·rename_i hno
    rw [Bool.and_eq_true] at hno
    obtain ⟨hno, hkp⟩ := hno
    have hup : (⟨m.up, gen0⟩ : Nm) = ⟨up, gen0⟩ := by rw [hu]
    have hcell : ∀ x ∈ K', kDen ρ' m x.2 = kDen ρ' ⟨up, gen0⟩ x.2 /\ (kDen ρ' m x.2).all Za2 = true := fun x hx => by
     have h1 := List.all_eq_true.1 hno x hx
     refine ⟨List.map_congr_left fun y hy => ?_, ?_⟩
     ·have := (Zf9 (List.all_eq_true.1 h1 y hy) (ρ := ρ') (m := m) (gen := fun _ => 0)).1
      rw [this, hup]; rfl
     ·rw [List.all_eq_true]
      intro a ha
      obtain ⟨y, hy, rfl⟩ := List.mem_map.1 ha
      exact (Zf9 (List.all_eq_true.1 h1 y hy)).2
    have hnm : K'.map (·.1) = K.map (·.1) := Zen hK'
    have hnameD : ∀ q ∈ K.map (·.1), q.den m = q.den ⟨up, gen0⟩ := fun q hq => by
     obtain ⟨y, hy, rfl⟩ := List.mem_map.1 hq
     obtain ⟨n, hn⟩ := hnames y hy
     rw [hn]
     show Ref.up (m.up n) = Ref.up (up n)
     rw [hu]
    have hleft : Ab.Left s (Zad ρ ⟨up, gen0⟩ K) (Zad ρ' ⟨up, gen0⟩ K') := by
     refine ⟨?_, fun x hx => ?_⟩
     ·have := congrArg (List.map (RRef.den ⟨up, gen0⟩)) hnm
      simpa [Zad, Function.comp_def] using this
     ·obtain ⟨y, hy, rfl⟩ := List.mem_map.1 hx
      obtain ⟨h1, h2⟩ := hcell y hy
      rw [<- h1]
      exact ⟨by rw [<- hnameD y.1 (hnm ▸ List.mem_map.2 ⟨y, hy, rfl⟩)]; exact hd.look (Zc7 hK' y hy), h2⟩
    have hkeep : ∀ x ∈ keep, ∃ q, (K.map (·.1))[x.2]? = some q /\ s.tm x.1 = .ptr (q.den ⟨up, gen0⟩) 0 := fun x hx => by
     have := List.all_eq_true.1 hkp x hx
     split at this
     ·rename_i q q' h1 h2
      have e := of_decide_eq_true this
      subst e
      refine ⟨q, h1, ?_⟩
      have h3 := (hd.tm x.1).resolve_left (by rw [h2]; intro e; cases e)
      rw [h3, h2]
      show A.ptr (q.den m) 0 = _
      rw [hnameD q (List.mem_of_getElem? h1)]
     ·cases this
    cases e with
    | nrm => unfold T.den at h; exact ⟨.ret (.tup []), _, Or.inl rfl, h, hleft, hkeep⟩
    | ret => unfold T.den at h; exact ⟨.ret (.tup []), _, Or.inr rfl, h, hleft, hkeep⟩
    | pan v => unfold T.den at h; exact ⟨.pan (dval (v.den ρ').dd), _, rfl, h, hleft, hkeep⟩
    | exit id => unfold T.den at h; exact h.elim
   ·unfold T.den at h; exact h.elim
  ·unfold T.den at h; exact h.elim
 subst ht
 have hwalk := Zcy (c := c) (op := op) (C := D) rfl rfl hmx post (n0 := nv) (ρ0 := ρ) (σ0 := []) hG (Agr.refl _ _) (Nat.le_refl _) rfl (List.prefix_rfl) rfl hd h
 refine wp_mono (hwalk g a w hR) fun ex a' w' hq => ?_
 have hupE : ∀ r ∈ (Zad ρ ⟨up, gen0⟩ K).map (·.1), ∃ q, r = .up q := fun r hr => by
  obtain ⟨c', hc'⟩ := Zdx.2 hr
  obtain ⟨_, _, _, _, _, h5⟩ := hheap.box r c' hc'
  cases r with
  | own t n => exact absurd h5 (Nat.not_lt_zero _)
  | up q => exact ⟨q, rfl⟩
 have fin : ∀ (s : St) (g' : Gh) (o : Out) (H' : List (Ref × List A)), Rel D s g' a' w' -> R o H' -> Ab.Left s (Zad ρ ⟨up, gen0⟩ K) H' -> (∀ x ∈ keep, ∃ q, (K.map (·.1))[x.2]? = some q /\ s.tm x.1 = .ptr (q.den ⟨up, gen0⟩) 0) ->
  (match o with | .ret _ => ex = .normal \/ ex = .ret | .pan v => ex = .panic [{ v, recovered := false }]) ->
  ∃ o H' g', (match o with | .ret _ => ex = .normal \/ ex = .ret | .pan v => ex = .panic [{ v, recovered := false }]) /\ R o H' /\ H'.map (·.1) = (Zad ρ ⟨up, gen0⟩ K).map (·.1) /\ HeapRel (Zah c.P w g (Zad ρ ⟨up, gen0⟩ K) 0) (Zay H') g' w' /\ a'.defers = a.defers /\ a'.tmps.size = c.N /\
  ∀ x ∈ keep.map fun x => (x.1, (((K.map (·.1))[x.2]?).map (RRef.den ⟨up, gen0⟩)).getD (.own 0 0)), a'.tmps.getD x.1 undef = .pointer (some ⟨g'.bx x.2, 0, none⟩) := fun s g' o H' hR' k1 k2 k3 k4 => by
  have hh : HeapRel (Zah c.P w g (Zad ρ ⟨up, gen0⟩ K) c.N) s g' w' := ⟨hR'.heap.box, hR'.heap.inj, hR'.heap.wr, hR'.heap.prs, hR'.heap.pr0, hR'.heap.prn, hR'.heap.up, hR'.heap.uu, hR'.heap.fr⟩
  obtain ⟨m4, _⟩ := HeapRel.out rfl hh hnd hupE k2
  refine ⟨o, H', g', k4, k1, k2.1, m4, hR'.defers, hR'.size, fun x hx => ?_⟩
  obtain ⟨y, hy, rfl⟩ := List.mem_map.1 hx
  obtain ⟨q, h1, h2⟩ := k3 y hy
  have h3 := hR'.slot y.1
  rw [h2] at h3
  have h4 := h3.1
  show a'.tmps.getD y.1 undef = _
  rw [h4, h1]
  rfl
 cases ex with
 | normal =>
   obtain ⟨s, g', hR', o, H', h1, h2, h3, h4⟩ := hq
   cases o with
   | ret v => exact fin s g' (.ret v) H' hR' h2 h3 h4 (.inl rfl)
   | pan v => cases h1
 | ret =>
   obtain ⟨s, g', hR', o, H', h1, h2, h3, h4⟩ := hq
   cases o with
   | ret v => exact fin s g' (.ret v) H' hR' h2 h3 h4 (.inr rfl)
   | pan v => cases h1
 | panic ch =>
   obtain ⟨v, e, s, g', hR', o, H', h1, h2, h3, h4⟩ := hq
   cases o with
   | ret v => rcases h1 with h1 | h1 <;> cases h1
   | pan u => cases h1; exact fin s g' (.pan v) H' hR' h2 h3 h4 (congrArg Exit.panic e)
 | exit i =>
   obtain ⟨s, g', hR', o, H', h1, _⟩ := hq
   cases o with
   | ret v => rcases h1 with h1 | h1 <;> cases h1
   | pan v => cases h1
 | goto l => exact hq.elim
 | outgrown => exact hq.elim
end Go.Rf
end
section
namespace Go.Rf
open Go.Ab
def Z01 (c : Cfg) (op : Opt) : List Code -> RSt -> (Re -> RSt -> T) -> T
 | [], rs, K => K .nrm rs
 | x :: l, rs, K => Zc4 c op x rs fun e rs => match e with
   | .nrm => Z01 c op l rs K
   | e => K e rs
def endW (P : Program) (y : Code) (Qw : Exit -> Act -> World -> Prop) : Ex -> Act -> World -> Prop
 | .normal, a, w => y.wp P Qw a w
 | .ret, a, w => Qw .ret a w
 | .exit i, a, w => Qw (.exit i) a w
 | .pan v, a, w => Qw (.panic [{ v, recovered := false }]) a w
def QW (C : Ctx) (y : Code) (Qw : Exit -> Act -> World -> Prop) : Ex -> St -> Prop := fun ex s => ∀ g a w, Rel C s g a w -> endW C.P y Qw ex a w
section
variable {up : Nat -> Ref} {R : Out -> List (Ref × List A) -> Prop}
theorem Z6p {C : Ctx} {y : Code} {Qw : Exit -> Act -> World -> Prop} : ∀ e a w, Qc C (QW C y Qw) e a w -> (Exit.then (y.wp C.P Qw) Qw) e a w
 | .normal, _, _, ⟨s, g, r, q⟩ => q g _ _ r
 | .exit _, _, _, ⟨s, g, r, q⟩ => q g _ _ r
 | .ret, _, _, ⟨s, g, r, q⟩ => q g _ _ r
 | .panic _, _, _, ⟨v, e, s, g, r, q⟩ => by subst e; exact q g _ _ r
 | .goto _, _, _, q => q.elim
 | .outgrown, _, _, q => q.elim
theorem Zud {c : Cfg} {op : Opt} {C : Ctx} (hP : C.P = c.P) (hN : C.N = c.N) (hmx : c.P.follows .mixedOrders = true) {y : Code} {Qw : Exit -> Act -> World -> Prop} {K : Re -> RSt -> T} {n0 : Nat} {ρ0 : Env} {σ0 : Sig} (hK : Zk5 c.P up R n0 ρ0 σ0 (QW C y Qw) K) :
 ∀ (l : List Code) {ρ : Env} {m : Nm} {rs : RSt} {s : St} {σ : Sig}, Agr n0 ρ0 ρ -> n0 <= rs.nv -> m.up = up -> σ0 <+: σ -> rs.dep = σ.length -> Den ρ m rs s -> (Z01 c op l rs K).den c.P up R ρ σ ->
   ∀ g a w, Rel C s g a w -> (l.foldr Code.seq y).wp C.P Qw a w
 | [], ρ, m, rs, s, σ, ha, hnv, hu, hσ, hdep, hd, h => fun g a w hR => hK .nrm ρ m rs s σ ha hnv hu hσ hdep hd h g a w hR
 | x :: l, ρ, m, rs, s, σ, ha, hnv, hu, hσ, hdep, hd, h => fun g a w hR => by
   have hx := Zcy (c := c) (op := op) (C := C) hP hN hmx x (Q := QW C (l.foldr Code.seq y) Qw) (K := fun e rs => match e with | .nrm => Z01 c op l rs K | e => K e rs) (n0 := n0) (ρ0 := ρ0) (σ0 := σ0) (up := up) (R := R)
    (fun e ρ' m' rs' s' σ' ha' hnv' hu' hσ' hdep' hd' h' => by
     cases e with
     | nrm => exact Zud hP hN hmx hK l ha' hnv' hu' hσ' hdep' hd' h'
     | ret => exact hK .ret ρ' m' rs' s' σ' ha' hnv' hu' hσ' hdep' hd' h'
     | exit i => exact hK (.exit i) ρ' m' rs' s' σ' ha' hnv' hu' hσ' hdep' hd' h'
     | pan v => exact hK (.pan v) ρ' m' rs' s' σ' ha' hnv' hu' hσ' hdep' hd' h') ha hnv hu hσ hdep hd h
   exact wp_seq (wp_mono (hx g a w hR) Z6p)
end
def Zue (rs : RSt) : List Nat -> Option (List (Bool × E))
 | [] => some []
 | t :: l => match rs.tm.get t, Zue rs l with
   | .c e, some r => some ((false, e) :: r)
   | .agg e, some r => some ((true, e) :: r)
   | _, _ => none
def up0 : Nat -> Ref := fun i => .own i i
def idxR : List RRef -> RRef -> Option Nat
 | [], _ => none
 | q :: l, r => if q = r then some 0 else (idxR l r).map (· + 1)
theorem Zqh : ∀ {l : List RRef} {r : RRef} {i : Nat}, idxR l r = some i -> l[i]? = some r
 | q :: l, r, i, h => by
   unfold idxR at h
   split at h
   ·rename_i e; cases h; rw [e]; rfl
   ·cases hi : idxR l r with
    | none => rw [hi] at h; cases h
    | some j =>
      rw [hi] at h; cases h
      rw [List.getElem?_cons_succ]
      exact Zqh hi
def renC (refs : List RRef) : RA -> Option RA
 | .c e => some (.c e)
 | .zs e => some (.zs e)
 | .ptr r 0 => (idxR refs r).map fun i => .ptr (.up i) 0
 | _ => none
def renL (refs : List RRef) : List RA -> Option (List RA)
 | [] => some []
 | x :: l => match renC refs x, renL refs l with | some y, some m => some (y :: m) | _, _ => none
def renK (refs : List RRef) : List (RRef × List RA) -> Option (List (RRef × List RA))
 | [] => some []
 | (r, c) :: l => match renL refs c, renK refs l with | some d, some m => some ((r, d) :: m) | _, _ => none
def renA (qs : List Ref) : A -> A
 | .ptr (.up (.own i _)) o => .ptr (.up (qs.getD i (.own 0 0))) o
 | x => x
theorem Zys {refs : List RRef} {x y : RA} (h : renC refs x = some y) (ρ : Env) (m : Nm) (gen : Nat -> Nat) : (x.den ρ m gen).lift = renA (refs.map (RRef.den m)) (y.den ρ ⟨up0, gen0⟩ gen) := by
 unfold renC at h
 split at h
 ·cases h; rfl
 ·cases h; rfl
 ·rename_i r
  cases hi : idxR refs r with
  | none => rw [hi] at h; cases h
  | some i =>
    rw [hi] at h; cases h
    have := Zqh hi
    show A.ptr (.up (r.den m)) 0 = A.ptr (.up ((refs.map (RRef.den m)).getD i (.own 0 0))) 0
    rw [List.getD, List.getElem?_map, this]
    rfl
 ·cases h
theorem Zqi {refs : List RRef} (ρ : Env) (m : Nm) : ∀ {l l2 : List RA}, renL refs l = some l2 -> (kDen ρ m l).map A.lift = (kDen ρ ⟨up0, gen0⟩ l2).map (renA (refs.map (RRef.den m)))
 | [], l2, h => by cases h; rfl
 | x :: l, l2, h => by
   unfold renL at h
   split at h
   ·rename_i y n h1 h2
    cases h
    have := Zqi ρ m h2
    simp only [kDen, List.map_cons] at this ⊢
    rw [this, Zys h1]
   ·cases h
theorem Zqj {refs : List RRef} (ρ : Env) (m : Nm) : ∀ {K K2 : List (RRef × List RA)}, renK refs K = some K2 -> K2.map (·.1) = K.map (·.1) /\ Zbe (Zad ρ m K) = ((K.map (·.1)).map fun r => Ref.up (r.den m)).zip ((Zad ρ ⟨up0, gen0⟩ K2).map fun x => x.2.map (renA (refs.map (RRef.den m))))
 | [], K2, h => by cases h; exact ⟨rfl, rfl⟩
 | (r, c) :: l, K2, h => by
   unfold renK at h
   split at h
   ·rename_i d n h1 h2
    cases h
    obtain ⟨k1, k2⟩ := Zqj ρ m h2
    refine ⟨by simp [k1], ?_⟩
    have := Zqi ρ m h1
    simp only [Zbe, Zad, List.map_cons, List.zip_cons_cons] at k2 ⊢
    rw [this, k2]
   ·cases h
def preT (c : Cfg) (caps : List Nat) (extra : List RRef) (data : List Nat) (rl : List ResultVar) : Re -> RSt -> T := fun e rs =>
 match e with
 | .nrm => (match Zpt (caps.map fun t => rs.tm.get t), Zue rs data with
   | some refs, some vs => (match Zd8 rs.K (refs ++ extra) with
     | some K => (match renK (refs ++ extra) K with
       | some K2 => if decide (refs ++ extra).Nodup && !(refs ++ extra).isEmpty then .ret (.tup vs) K2 else .bad 120
       | none => .bad 123)
     | none => .bad 121)
   | _, _ => .bad 122)
 | e => finT c rl [] e rs
def Z4n : Bool × List D -> A
 | (true, l) => .agg l
 | (false, [x]) => .d x
 | _ => .any
def Z2s : Out -> FrameMode | .ret _ => .returning | .pan v => .panicking [{ v, recovered := false }]
def resD (kn : List (Nat × Nat)) (ls : List (List A)) : Option (List (Bool × List D)) := kn.mapM fun x => match ls[x.1]? with
 | some l => (match Zey l with | some l => if l.length = x.2 then some (true, l) else none | none => none)
 | none => none
def midR (P : Program) (F : FuncId) (nc : Nat) (kn : List (Nat × Nat)) (Rfin : Out -> Prop) (qs : List Ref) : Out -> List (Ref × List A) -> Prop := fun o H' =>
 ∃ u' RH, Zqf P F ((qs.take nc).map fun q => A.ptr (.up q) 0) H' (Z2s o) u' RH /\ settle u' = .returning /\ ∀ H2, RH H2 -> ∃ vs, resD kn (H2.map (·.2)) = some vs /\ Rfin (.ret (.tup vs))
def preR (P : Program) (post : Code) (N : Nat) (F : FuncId) (caps data : List Nat) (keep kn : List (Nat × Nat)) (Rfin : Out -> Prop) : Out -> List (Ref × List A) -> Prop := fun o H =>
 (H = [] -> Rfin o) /\ (H ≠ [] -> ∃ vs, o = .ret (.tup vs) /\ ∀ qs : List Ref, qs.length = H.length -> qs.Nodup ->
  Zlc P post N (data.zip (vs.map Z4n) ++ caps.zip ((qs.take caps.length).map fun q => A.ptr (.up q) 0)) ((qs.map Ref.up).zip (H.map fun x => x.2.map (renA qs))) (keep.map fun x => (x.1, (qs.map Ref.up).getD x.2 (.own 0 0))) (midR P F caps.length kn Rfin qs))
def Zdt (P : Program) : List ResultVar -> List (Nat × Nat) -> List (Nat × Nat) -> Bool
 | [], [], [] => true
 | .cell t ty :: l, (t', i) :: k, (j, n) :: m => (t == t') && (i == j) && (szOf P ty == some (n, true)) && Zdt P l k m
 | _, _, _ => false
theorem Zhk {rs : RSt} : ∀ {l : List Nat} {vs : List (Bool × E)}, Zue rs l = some vs -> ∀ (ρ : Env) (m : Nm) (gen : Nat -> Nat), ∀ x ∈ l.zip ((vs.map (Zg6 ρ)).map Z4n), rs.tm.get x.1 ≠ .any /\ x.2 = (rs.tm.get x.1).den ρ m gen /\ (∃ d, x.2 = .d d) \/ rs.tm.get x.1 ≠ .any /\ x.2 = (rs.tm.get x.1).den ρ m gen /\ ∃ d, x.2 = .agg d
 | [], _, _, _, _, _, x, hx => by simp at hx
 | t :: l, vs, h, ρ, m, gen, x, hx => by
   unfold Zue at h
   split at h
   ·rename_i e r h1 h2
    cases h
    simp only [List.map_cons, List.zip_cons_cons, List.mem_cons] at hx
    rcases hx with rfl | hx
    ·left
     dsimp only
     rw [h1]
     exact ⟨(fun e => by cases e), rfl, _, rfl⟩
    ·exact Zhk h2 ρ m gen x hx
   ·rename_i e r h1 h2
    cases h
    simp only [List.map_cons, List.zip_cons_cons, List.mem_cons] at hx
    rcases hx with rfl | hx
    ·right
     dsimp only
     rw [h1]
     exact ⟨(fun e => by cases e), rfl, _, rfl⟩
    ·exact Zhk h2 ρ m gen x hx
   ·cases h
theorem Zi8 : ∀ {l : List RA} {q : List RRef}, Zpt l = some q -> l = q.map fun r => RA.ptr r 0
 | [], q, h => by cases h; rfl
 | x :: l, q, h => by
   unfold Zpt at h
   split at h
   ·rename_i heq; cases heq
   ·rename_i r l' heq
    cases heq
    cases hq : Zpt l with
    | none => rw [hq] at h; cases h
    | some q' =>
      rw [hq] at h; cases h
      rw [Zi8 hq]; rfl
   ·cases h
theorem Zld {α : Type} : ∀ {l : List (Nat × α)} {x : Nat × α}, (l.map (·.1)).Nodup -> x ∈ l -> Zc5 l x.1 = some x.2
 | (k, y) :: l, x, hn, hx => by
   simp only [List.map_cons, List.nodup_cons] at hn
   unfold Zc5
   rcases List.mem_cons.1 hx with rfl | hx
   ·rw [if_pos rfl]
   ·rw [if_neg (fun e => hn.1 (by rw [<- e]; exact List.mem_map_of_mem hx))]
    exact Zld hn.2 hx
theorem cellsD_map : ∀ l : List D, Zey (l.map A.d) = some l
 | [] => rfl
 | x :: l => by simp [Zey, cellsD_map l]
theorem Zuf {P : Program} {s : St} {ls : List (List A)} {qs : List Ref} (hb : ∀ i (h : i < ls.length), ∃ r, qs[i]? = some r /\ s.K r = some ls[i]) :
 ∀ {rl : List ResultVar} {keep kn : List (Nat × Nat)} {vs : List (Bool × List D)}, Zdt P rl keep kn = true -> (∀ x ∈ keep, s.tm x.1 = .ptr (qs.getD x.2 (.own 0 0)) 0) -> resD kn ls = some vs ->
   ∃ as, rl.mapM (Zdr P s) = some as /\ as.mapM Zhw = some vs
 | [], [], [], vs, _, _, h => by cases h; exact ⟨[], rfl, rfl⟩
 | .cell t ty :: rl, (t', i) :: keep, (j, n) :: kn, vs, hc, hk, h => by
   simp only [Zdt, Bool.and_eq_true, beq_iff_eq] at hc
   obtain ⟨⟨⟨rfl, rfl⟩, hz⟩, hc⟩ := hc
   unfold resD at h
   rw [List.mapM_cons] at h
   simp only [bind, Option.bind_eq_some_iff, pure, Option.some.injEq] at h
   obtain ⟨v, h1, vs', h2, rfl⟩ := h
   obtain ⟨as, h3, h4⟩ := Zuf hb hc (fun x hx => hk x (List.mem_cons_of_mem _ hx)) h2
   split at h1
   ·rename_i l0 hl
    split at h1
    rotate_left
    ·cases h1
    rename_i l hcd
    split at h1
    ·rename_i hn
     cases h1
     have hi : i < ls.length := (List.getElem?_eq_some_iff.1 hl).1
     obtain ⟨r, hr, hK⟩ := hb i hi
     have e : ls[i] = l0 := (List.getElem?_eq_some_iff.1 hl).2
     have ht := hk (t, i) (List.mem_cons_self ..)
     have hg : qs.getD i (.own 0 0) = r := by rw [List.getD, hr]; rfl
     dsimp only at ht
     rw [hg] at ht
     have : Zdr P s (.cell t ty) = some (.agg l) := by
      simp only [Zdr, Zfy, hz, ht, hK, e, List.drop_zero]
      have : l0.take n = l0 := List.take_of_length_le (by have := (Ziy hcd).1; omega)
      rw [this, hcd]
      simp [hn]
     refine ⟨.agg l :: as, ?_, ?_⟩
     ·rw [List.mapM_cons, this, h3]; rfl
     ·rw [List.mapM_cons, h4]; rfl
    ·cases h1
   ·cases h1
 | [], [], _ :: _, _, h, _, _ => by simp [Zdt] at h
 | [], _ :: _, _, _, h, _, _ => by simp [Zdt] at h
 | .tmp _ :: _, _, _, _, h, _, _ => by simp [Zdt] at h
 | .cell _ _ :: _, [], _, _, h, _, _ => by simp [Zdt] at h
 | .cell _ _ :: _, _ :: _, [], _, h, _, _ => by simp [Zdt] at h
theorem Zqk {α β γ : Type} {R : β -> γ -> Prop} {f : α -> β} {g : α -> γ} : ∀ {l : List α}, (∀ x ∈ l, R (f x) (g x)) -> All2 R (l.map f) (l.map g)
 | [], _ => trivial
 | x :: l, h => ⟨h x (List.mem_cons_self ..), Zqk fun y hy => h y (List.mem_cons_of_mem _ hy)⟩
theorem Z4o (g : Gh) (o : Owner) (b : Nat) : ¬ Owns (Zay []) g o b := fun h => by
 cases h with
 | box h => cases h
 | slot h => cases h
 | cell h _ _ => cases h
theorem Zyt {P : Program} {ls : List (List A)} : ∀ {rl : List ResultVar} {keep kn : List (Nat × Nat)} {vs : List (Bool × List D)}, Zdt P rl keep kn = true -> resD kn ls = some vs -> ∀ x ∈ keep, x.2 < ls.length
 | [], [], [], vs, _, _, x, hx => by cases hx
 | .cell t ty :: rl, (t', i) :: keep, (j, n) :: kn, vs, hc, h, x, hx => by
   simp only [Zdt, Bool.and_eq_true, beq_iff_eq] at hc
   obtain ⟨⟨⟨rfl, rfl⟩, hz⟩, hc⟩ := hc
   unfold resD at h
   rw [List.mapM_cons] at h
   simp only [bind, Option.bind_eq_some_iff, pure, Option.some.injEq] at h
   obtain ⟨v, h1, vs', h2, rfl⟩ := h
   rcases List.mem_cons.1 hx with rfl | hx
   ·split at h1
    ·rename_i l hl; exact (List.getElem?_eq_some_iff.1 hl).1
    ·cases h1
   ·exact Zyt hc h2 x hx
 | [], [], _ :: _, _, h, _, _, _ => by simp [Zdt] at h
 | [], _ :: _, _, _, h, _, _, _ => by simp [Zdt] at h
 | .tmp _ :: _, _, _, _, h, _, _, _ => by simp [Zdt] at h
 | .cell _ _ :: _, [], _, _, h, _, _, _ => by simp [Zdt] at h
 | .cell _ _ :: _, _ :: _, [], _, h, _, _, _ => by simp [Zdt] at h
def A.unlift : A -> A
 | .ptr (.up r) o => .ptr r o
 | .fn f rs => .fn f (rs.map fun r => match r with | .up q => q | q => q)
 | x => x
theorem Zle {x : A} (h : Za2 x = true) (hp : x.plain = true) : (A.unlift x).lift = x /\ (A.unlift x).plain = true := by
 cases x with
 | ptr r o => cases r with
   | own a b => cases h
   | up q => exact ⟨rfl, rfl⟩
 | fn f rs =>
   refine ⟨?_, rfl⟩
   show A.fn f ((rs.map _).map Ref.up) = _
   rw [List.map_map]
   congr 1
   have : rs.map (Ref.up ∘ fun r => match r with | .up q => q | q => q) = rs.map _root_.id := List.map_congr_left fun r hr => by
    have := List.all_eq_true.1 h r hr
    cases r with
    | own a b => cases this
    | up q => rfl
   rw [this, List.map_id]
 | als _ _ => cases hp
 | opt _ _ _ _ _ => cases hp
 | _ => exact ⟨rfl, hp⟩
theorem Z4p {l : List A} (h : l.all Za2 = true) (hp : ∀ x ∈ l, x.plain = true) : (l.map A.unlift).map A.lift = l := by
 rw [List.map_map]
 have : l.map (A.lift ∘ A.unlift) = l.map _root_.id := List.map_congr_left fun x hx => (Zle (List.all_eq_true.1 h x hx) (hp x hx)).1
 rw [this, List.map_id]
theorem Zyu : ∀ {qs : List Ref} {H : List (Ref × List A)}, H.map (·.1) = qs.map Ref.up -> (∀ x ∈ H, x.2.all Za2 = true /\ ∀ y ∈ x.2, y.plain = true) -> Zbe (qs.zip (H.map fun x => x.2.map A.unlift)) = H
 | [], [], _, _ => rfl
 | [], x :: H, h, _ => by cases h
 | q :: qs, [], h, _ => by cases h
 | q :: qs, x :: H, h, hx => by
   simp only [List.map_cons, List.cons.injEq] at h
   have := Zyu h.2 fun y hy => hx y (List.mem_cons_of_mem _ hy)
   simp only [Zbe, List.map_cons, List.zip_cons_cons] at this ⊢
   rw [this, Z4p (hx x (List.mem_cons_self ..)).1 (hx x (List.mem_cons_self ..)).2, <- h.1]
theorem Zsq {c : Cfg} {op : Opt} {f F : FuncId} {fn Fn' : Func} {Fcode : Code} {l : List Code} {id : Nat} {o1 o2 : Oper} {post : Code} {tys : Array TypeId} {dt : Nat} {caps data : List Nat} {extra : List RRef} {rl : List ResultVar} {keep kn : List (Nat × Nat)} {args : List RA} {nv depth : Nat} {ρ : Env} {t : T} {Rfin : Out -> Prop}
 (hmx : c.P.follows .mixedOrders = true) (hf : c.P.funcs[f]? = some fn) (hb : fn.body = some (l.foldr Code.seq (.seq (.region id #[o1, o2] false) post))) (hrs : fn.results.toList = rl) (hN : fn.ntmps = c.N)
 (hn : (fn.name == "runtime.NumGoroutine") = false) (hF : c.P.funcs[F]? = some Fn') (hFb : Fn'.body = some Fcode) (hFn : (Fn'.name == "runtime.NumGoroutine") = false)
 (h1 : o1.op = .makeFunc (.func F) #[] (caps.map Operand.tmp).toArray) (g1 : o1.guard = none) (e1 : o1.dst = some dt)
 (h2 : o2.op = .defer { callee := .value (.tmp dt), args := #[], argTypes := tys }) (g2 : o2.guard = none) (e2 : o2.dst = none) (hdt : dt < c.N)
 (hlen : args.length <= c.N) (ha : Z4k args = true) (hne : ∀ t ∈ caps ++ data, t ≠ dt) (hcap : caps.length ≠ 0) (hrc : Zdt c.P rl keep kn = true) (hkn : (keep.map (·.1)).Nodup) (hrl : rl.length ≠ 1)
 (ht : Z01 c op l (Zju depth args [] nv) (preT c caps extra data rl) = t)
 (h : t.vc c.P (up0) (preR c.P post c.N F caps data keep kn Rfin) ρ) :
 Holds c.P f (args.map (RA.den ρ ⟨up0, gen0⟩ gen0)) [] (fun o H => H = [] /\ Rfin o) := by
 unfold T.vc at h
 have hargs : ∀ x ∈ args, (x.den ρ ⟨up0, gen0⟩ gen0).isOwn = false /\ (x.den ρ ⟨up0, gen0⟩ gen0).plain = true /\ x.ali = none := fun x hx => by
  have := List.all_eq_true.1 ha x hx
  cases x with
  | c x => exact ⟨rfl, rfl, rfl⟩
  | agg x => exact ⟨rfl, rfl, rfl⟩
  | zs x => exact ⟨rfl, rfl, rfl⟩
  | ptr r o => exact ⟨rfl, rfl, rfl⟩
  | fn f l => exact ⟨rfl, rfl, rfl⟩
  | _ => cases this
 have hget : ∀ j, (Zju depth args [] nv).tm.get j = .any \/ args[j]? = some ((Zju depth args [] nv).tm.get j) := fun j => by
  rcases Zfm args (Tr.full depth) 0 j with h | ⟨h1, _⟩ | ⟨_, h2⟩ | ⟨_, h2⟩
  ·exact .inl h
  ·omega
  ·right; rw [Nat.sub_zero] at h2; exact h2
  ·left
   show (Zc8 (Tr.full depth) 0 args).get j = .any
   rw [h2, Zih]
 have hd : Den ρ ⟨up0, gen0⟩ (Zju depth args [] nv) (Zf3 (args.map (RA.den ρ ⟨up0, gen0⟩ gen0)) []) := by
  refine ⟨fun j => ?_, fun _ j => ?_, fun r x hx => (by cases hx), List.nodup_nil, fun e he => by cases he⟩
  ·rcases hget j with h1 | h1
   ·exact .inl h1
   ·right
    show ((args.map (RA.den ρ ⟨up0, gen0⟩ gen0))[j]?).getD .any = _
    rw [List.getElem?_map, h1]
    rfl
  ·rcases hget j with h1 | h1
   ·rw [h1]; rfl
   ·exact (hargs _ (List.mem_of_getElem? h1)).2.2
 intro w0 cargs g0 hcargs hheap0
 unfold CallsX
 have hbody : fn.body = some (l.foldr Code.seq (.seq (.region id #[o1, o2] false) post)) := hb
 rw [Zeh hf hbody hn]
 refine calls_of_wp_defers hf hbody ?_
 have hR0 := Znn (N := fn.ntmps) (by rw [hN]; simpa using hlen) (fun x hx => by
  obtain ⟨y, hy, rfl⟩ := List.mem_map.1 hx
  exact ⟨(hargs y hy).1, (hargs y hy).2.1⟩) hcargs hheap0
 let Rend : Ending -> World -> Prop := fun e w' => ∃ out H' g', ((fun o H => H = [] /\ Rfin o : Out -> List (Ref × List A) -> Prop)) out H' /\ H'.map (·.1) = ([] : List (Ref × List A)).map (·.1) /\ HeapRel (Zah c.P w0 g0 [] 0) (Zay H') g' w' /\ Ztg (Zah c.P w0 g0 [] 0) (Zay H') g' w' out e
 show (l.foldr Code.seq (.seq (.region id #[o1, o2] false) post)).wp c.P (bodyPostD c.P fn Rend) _ w0
 let C : Ctx := Zah c.P w0 g0 [] fn.ntmps
 have hnil : ∀ {s : St} {g' : Gh} {a : Act} {w : World}, Rel C s g' a w -> HeapRel (Zah c.P w0 g0 [] 0) (Zay []) g' w := fun {s g' a w} hR =>
  (HeapRel.out (H := []) (H' := []) rfl hR.heap List.nodup_nil (fun r hr => by cases hr) ⟨rfl, fun x hx => by cases hx⟩).1
 have hgood : Zk5 c.P (up0) (preR c.P post c.N F caps data keep kn Rfin) nv ρ [] (QW C (.seq (.region id #[o1, o2] false) post) (bodyPostD c.P fn Rend)) (preT c caps extra data rl) := by
  intro e ρ' m rs s σ hag hnv hu hσ hdep hd h
  have early : e ≠ .nrm -> QW C (.seq (.region id #[o1, o2] false) post) (bodyPostD c.P fn Rend) (e.conv ρ') s := fun hne => by
   have hfin : (finT c rl [] e rs).den c.P (up0) (preR c.P post c.N F caps data keep kn Rfin) ρ' σ := by
    unfold preT at h
    cases e with
    | nrm => exact absurd rfl hne
    | ret => exact h
    | exit i => exact h
    | pan v => exact h
   have hk := Zyr (c := c) (rl := rl) (H := []) (K0 := []) (ρ0 := ρ) (up := up0) (R := preR c.P post c.N F caps data keep kn Rfin) (n0 := nv) rfl (fun x hx => by cases hx) e ρ' m rs s σ hag hnv hu (List.nil_prefix) hdep hd hfin
   intro g a w hR
   cases e with
   | nrm => exact absurd rfl hne
   | ret =>
     obtain ⟨v, H', k1, k2, k3, k4⟩ := hk
     have hH' : H' = [] := List.map_eq_nil_iff.1 k3.1
     subst hH'
     show Leaves c.P fn a.tmps Rend a.defers .returning w
     have hdf : a.defers = [] := hR.defers
     rw [hdf]
     rw [<- hrs] at k1
     obtain ⟨cv, m1, p, m2, m3⟩ := Zfg (C := C) (fn := fn) hR k1
     refine ⟨cv, m1, .ret v, [], g.give .res (g.ow p), ⟨rfl, k4.1 rfl⟩, rfl, ?_, cv, rfl, ?_, fun ho => ?_⟩
     ·have k5 := hnil hR
      exact ⟨fun r c hc => (by cases hc), fun o o' b h1 h2 => (Z4o _ _ _ h1).elim, fun o b h1 => (Z4o _ _ _ h1).elim, k5.prs, k5.pr0, k5.prn, k5.up, k5.uu, k5.fr⟩
     ·refine (m2.gen0 (p' := p) k2 fun _ => rfl).keep (g.give_keeps .res _ w _ _ fun _ => Nat.le_refl _) fun _ => ⟨Zap _ _ _, rfl, fun _ => Iff.rfl⟩
     ·obtain ⟨t, rfl, ho'⟩ := m3 ho
      refine ⟨fun o h5 => Z4o _ _ _ h5, ?_⟩
      have e0 : (g.give .res (g.ow (.slot t))).ow .res = g.ow (.slot t) := Zap _ _ _
      rw [e0]
      exact hR.heap.wr _ _ ho'
   | pan v =>
     obtain ⟨H', k3, k4⟩ := hk
     have hH' : H' = [] := List.map_eq_nil_iff.1 k3.1
     subst hH'
     show Leaves c.P fn a.tmps Rend a.defers (.panicking _) w
     have hdf : a.defers = [] := hR.defers
     rw [hdf]
     exact ⟨.pan _, [], g, ⟨rfl, k4.1 rfl⟩, rfl, hnil hR, rfl⟩
   | exit i => exact hk.elim
  cases e with
  | ret => exact early (by intro e; cases e)
  | exit i => exact early (by intro e; cases e)
  | pan v => exact early (by intro e; cases e)
  | nrm =>
    unfold preT at h
    dsimp only at h
    split at h
    ·rename_i refs1 vs hrefs hvs
     let refs : List RRef := refs1 ++ extra
     split at h
     rotate_left
     ·unfold T.den at h; exact h.elim
     ·rename_i K hK
      split at h
      rotate_left
      ·unfold T.den at h; exact h.elim
      rename_i K2 hK2
      split at h
      ·rename_i hchk
       simp only [Bool.and_eq_true, decide_eq_true_eq, Bool.not_eq_true', List.isEmpty_eq_false_iff] at hchk
       obtain ⟨hrn, hrne⟩ := hchk
       obtain ⟨hK2n, hK2l⟩ := Zqj ρ' m hK2
       unfold T.den at h
       intro g a w hR
       show (Code.seq (.region id #[o1, o2] false) post).wp c.P (bodyPostD c.P fn Rend) a w
       have hnm : K.map (·.1) = refs := Zen hK
       have hin := Zc7 hK
       have hsub : ∀ x ∈ K, x.1 ∈ rs.K.map (·.1) := fun x hx => List.mem_map.2 ⟨_, Zcx (hin x hx), rfl⟩
       let H : List (Ref × List A) := Zad ρ' m K
       have hHK : ∀ x ∈ H, s.K x.1 = some x.2 := fun x hx => by
        obtain ⟨y, hy, rfl⟩ := List.mem_map.1 hx
        exact hd.look (hin y hy)
       have hHfst : H.map (·.1) = refs.map (RRef.den m) := by
        show (Zad ρ' m K).map (·.1) = _
        rw [<- hnm]; simp [Zad, Function.comp_def]
       have hHn : (H.map (·.1)).Nodup := by
        have hrn' : (K.map (·.1)).Nodup := by rw [hnm]; exact hrn
        rw [hHfst]
        show (refs.map (RRef.den m)).Nodup
        have hnm' : refs = K.map (·.1) := hnm.symm
        rw [hnm']
        refine List.pairwise_map.2 (List.Pairwise.imp_of_mem (fun {x y} hx hy hxy e => hxy ?_) hrn')
        obtain ⟨x', hx', rfl⟩ := List.mem_map.1 hx
        obtain ⟨y', hy', rfl⟩ := List.mem_map.1 hy
        exact Zdg hd.nd (hsub _ hx') (hsub _ hy') e
       let qs : List Ref := refs.map (RRef.den m)
       have hlift : Zbe H = (qs.map Ref.up).zip ((Zad ρ' ⟨up0, gen0⟩ K2).map fun x => x.2.map (renA qs)) := by
        show Zbe (Zad ρ' m K) = _
        rw [hK2l, hnm]
        show _ = ((refs.map (RRef.den m)).map Ref.up).zip _
        rw [List.map_map]
        rfl
       have hHne : Zad ρ' ⟨up0, gen0⟩ K2 ≠ [] := fun e0 => by
        have hk0 : K2 = [] := List.map_eq_nil_iff.1 e0
        have hk1 : K.map (·.1) = [] := by rw [<- hK2n, hk0]; rfl
        exact hrne (hnm.symm.trans hk1)
       obtain ⟨vs', hvs', hpost⟩ := h.2 hHne
       have hvs2 : vs' = vs.map (Zg6 ρ') := by
        have : (RA.tup vs).den ρ' ⟨up0, gen0⟩ gen0 = A.tup vs' := by injection hvs'
        have e9 : (RA.tup vs).den ρ' ⟨up0, gen0⟩ gen0 = A.tup (vs.map (Zg6 ρ')) := rfl
        rw [e9] at this
        injection this with this
        exact this.symm
       subst hvs2
       have hqlen : qs.length = (Zad ρ' ⟨up0, gen0⟩ K2).length := by
        show (refs.map (RRef.den m)).length = _
        have := congrArg List.length hK2n
        rw [<- hnm]; simp [Zad] at this ⊢; omega
       have hqn : qs.Nodup := by show (refs.map (RRef.den m)).Nodup; rw [<- hHfst]; exact hHn
       have hP := hpost qs hqlen hqn
       rw [<- hlift] at hP
       have hcl : caps.length = refs1.length := by
        have := Zi8 hrefs
        have := congrArg List.length this
        simpa using this
       have hgetc : ∀ i (hi : i < caps.length), rs.tm.get caps[i] = .ptr (refs1[i]'(by omega)) 0 := fun i hi => by
        have := Zi8 hrefs
        have h3 := congrArg (fun l => l[i]?) this
        simp only [List.getElem?_map] at h3
        rw [List.getElem?_eq_getElem hi, List.getElem?_eq_getElem (show i < refs1.length by omega)] at h3
        simpa using h3
       have hec : ∀ i (hi : i < caps.length), s.tm caps[i] = .ptr ((refs1[i]'(by omega)).den m) 0 := fun i hi => by
        have h3 := (hd.tm caps[i]).resolve_left (by rw [hgetc i hi]; intro e; cases e)
        rw [h3, hgetc i hi]; rfl
       let qc : List Ref := refs1.map (RRef.den m)
       have hqc : qs.take caps.length = qc := by
        show ((refs1 ++ extra).map (RRef.den m)).take caps.length = _
        rw [List.map_append, hcl, List.take_left' (by simp)]
       have hev : Za7 c.P s o1 = some (.fn F qc) := by
        unfold Za7
        rw [h1]
        have e5 : (caps.map Operand.tmp).toArray.toList.map s.ev = (caps.map fun t => rs.tm.get t).map fun x => x.den ρ' m s.gen := by
         simp only [List.map_map]
         refine List.ext_getElem (by simp) fun i h3 h4 => ?_
         have hi : i < caps.length := by simpa using h3
         simp only [List.getElem_map, Function.comp]
         show s.tm caps[i] = _
         rw [hec i hi, hgetc i hi]; rfl
        have e6 := (Zx0 (ρ := ρ') (m := m) (s := s) hrefs).1
        show (if (#[] : Array Operand).toList = [] then (Zeg ((caps.map Operand.tmp).toArray.toList.map s.ev)).map (fun rs => A.fn F rs) else none) = _
        rw [e5, e6]
        rfl
       obtain ⟨v, hv1, hv2, _, _⟩ := Ztd (C := C) hev hR (.slot dt)
       obtain ⟨hv3, hv4⟩ := hv2
       let ptrs : Array Value := (qc.map fun r => Value.pointer (some ⟨g.bx r, 0, none⟩)).toArray
       have hv5 : v = .func (.func F) #[] ptrs := hv3
       let d : Deferred := { target := .fn (.func F) ptrs, args := #[] }
       have hdt' : dt < fn.ntmps := by rw [hN]; exact hdt
       have hR1 : Rel C (s.put dt (.fn F qc)) g (a.put (some dt) v) w := hR.put hdt' rfl ⟨hv3, hv4⟩ (fun t n e => by cases e) (fun t n sz i j e => by cases e)
       let a2 : Act := { (a.put (some dt) v) with defers := [d] }
       have hadf : a.defers = [] := hR.defers
       have hsz : dt < a.tmps.size := by rw [hR.size]; exact hdt'
       refine wp_seq (wp_region ?_)
       have w1 : ∀ b : Act, Region.wanted o1 (yielded #[o1, o2] b.tmps) = true := fun b => by simp [Region.wanted, g1]
       have w2 : ∀ b : Act, Region.wanted o2 (yielded #[o1, o2] b.tmps) = true := fun b => by simp [Region.wanted, g2]
       have x2 : (execOp ((a.put (some dt) v).eval) o2).run c.P w = .ok (.defer d) w := by
        have e6 : (a.put (some dt) v).eval (.tmp dt) = v := by simp [Act.eval, Act.put, hsz]
        have e7 := e6.trans hv5
        simp [execOp, h2, resolve, e7, Deferred.ofValue, d]
       have hrg : List.range (#[o1, o2] : Array Oper).size = [0, 1] := rfl
       have z0 : (#[o1, o2] : Array Oper)[0]? = some o1 := rfl
       have z1 : (#[o1, o2] : Array Oper)[1]? = some o2 := rfl
       rw [hrg]
       simp only [wpOps, z0, z1, w1, w2, if_true]
       left
       unfold Oper.wp
       have x1 : (execOp a.eval o1).run c.P w = .ok (.value v) w := hv1
       rw [x1, Oper.upon_value, e1]
       left
       rw [x2, Oper.upon_defer, e2]
       show post.wp c.P (bodyPostD c.P fn Rend) ({ (a.put (some dt) v) with defers := d :: (a.put (some dt) v).defers }.put none undef) w
       have ea2 : ({ (a.put (some dt) v) with defers := d :: (a.put (some dt) v).defers }.put none undef : Act) = a2 := by
        have : (a.put (some dt) v).defers = [] := by rw [Zgj]; exact hadf
        simp only [this]; rfl
       rw [ea2]
       have hsz2 : a2.tmps.size = c.N := by
        show (a.put (some dt) v).tmps.size = _
        rw [Zjw, hR.size]; exact hN
       have hslots : ∀ x ∈ data.zip ((vs.map (Zg6 ρ')).map Z4n) ++ caps.zip ((qs.take caps.length).map fun q => A.ptr (.up q) 0), RepA w (g.down s.gen) (fun _ => 0) (.slot x.1) x.2 (a2.tmps.getD x.1 undef) := fun x hx => by
        have hsame : ∀ t, t ≠ dt -> a2.tmps.getD t undef = a.tmps.getD t undef := fun t ht => by
         show (a.put (some dt) v).tmps.getD t undef = _
         rw [Zbs hsz, if_neg ht]
        rcases List.mem_append.1 hx with hx | hx
        ·have ht : x.1 ≠ dt := hne _ (List.mem_append.2 (.inr (List.of_mem_zip hx).1))
         rw [hsame _ ht]
         have h3 := hR.slot x.1
         rcases Zhk hvs ρ' m s.gen x hx with ⟨k1, k2, d', k3⟩ | ⟨k1, k2, d', k3⟩
         ·have h4 := (hd.tm x.1).resolve_left k1
          rw [h4, <- k2, k3] at h3
          rw [k3]; exact h3
         ·have h4 := (hd.tm x.1).resolve_left k1
          rw [h4, <- k2, k3] at h3
          rw [k3]; exact h3
        ·have ht : x.1 ≠ dt := hne _ (List.mem_append.2 (.inl (List.of_mem_zip hx).1))
         rw [hsame _ ht]
         rw [hqc] at hx
         obtain ⟨i, hi, rfl⟩ := List.mem_iff_getElem.1 hx
         have hi' : i < caps.length := by
          simp only [List.length_zip] at hi; omega
         simp only [List.getElem_zip, List.getElem_map]
         have h3 := hR.slot caps[i]
         rw [hec i hi'] at h3
         have h5 : qc[i]'(by show i < (refs1.map _).length; simp; omega) = (refs1[i]'(by omega)).den m := List.getElem_map _
         rw [h5]
         exact ⟨h3.1, h3.2⟩
       have hheapD : HeapRel (Zah c.P w (g.down s.gen) (Zbe H) 0) (Zay (Zbe H)) (g.down s.gen) w := hR.down hHK
       refine wp_mono (hP w (g.down s.gen) a2 hsz2 hslots hheapD) fun ex a' w' hq => ?_
       obtain ⟨o, H', g', k1, k2, k3, k4, k5, k6, k7⟩ := hq
       obtain ⟨u', RH, k8, k9, k10⟩ := k2
       have hadf' : a'.defers = [d] := k5
       have hlf : (Zbe H).map (·.1) = qs.map Ref.up := by rw [Zpg, hHfst]
       have hH'n : (H'.map (·.1)).Nodup := by rw [k3]; exact Zkm hHn
       have hgbx : ∀ r, g'.bx (.up r) = g.bx r := fun r => k4.up r
       have hok' : ∀ q ∈ qs, RefOk g' (fun _ => 0) (.up q) := fun q hq => by
        have hmem : Ref.up q ∈ H'.map (·.1) := by rw [k3, hlf]; exact List.mem_map_of_mem hq
        obtain ⟨c', hc'⟩ := Zdx.2 hmem
        obtain ⟨_, _, _, _, _, h5⟩ := k4.box _ c' hc'
        exact h5
       have hleave : Leaves c.P fn a'.tmps Rend [d] (Z2s o) w' := by
        refine leaves_cons (f := F) (args := ptrs) (by cases o <;> (intro e; cases e)) ?_ ?_
        ·have : (#[] : Array Value) ++ ptrs = ptrs := by simp
         simp only [invoke, this]
         exact Zeh hF hFb hFn ptrs w'
        ·have hall : All2 (fun x v => ∀ p, RepA w' g' (fun _ => 0) p x v) ((qs.take caps.length).map fun q => A.ptr (.up q) 0) ptrs.toList := by
          rw [hqc]
          exact Zqk fun q hq p => ⟨by rw [hgbx], hok' q (List.mem_of_mem_take (by rw [hqc]; exact hq))⟩
         have hcall := k8 w' ptrs g' hall (HeapRel.fresh k4)
         refine hcall.mono fun e u2 w2 hq2 => ?_
         obtain ⟨rfl, ⟨cv0, rfl⟩, H2, g2, m1, m2, m3, m3n⟩ := hq2
         show Leaves c.P fn a'.tmps Rend [] (settle u2) w2
         rw [k9]
         obtain ⟨vs2, m5, m6⟩ := k10 H2 m1
         have hH2f : H2.map (·.1) = qs.map Ref.up := by rw [m2, k3, hlf]
         have hH2n : (H2.map (·.1)).Nodup := by rw [m2]; exact hH'n
         have hll : H2.length = qs.length := by
          have h6 := congrArg List.length hH2f
          simpa using h6
         let kq : List (Nat × Ref) := keep.map fun x => (x.1, (qs.map Ref.up).getD x.2 (.own 0 0))
         let s3 : St := ⟨fun t => match Zc5 kq t with | some q => if (kOf H2 q).isSome = true then .ptr q 0 else .any | none => .any, kOf H2, fun _ => 0⟩
         have hs3 : ∀ t, (s3.tm t).isOwn = false /\ (s3.tm t).plain = true := fun t => by
          show (match Zc5 kq t with | some q => if (kOf H2 q).isSome = true then A.ptr q 0 else .any | none => .any).isOwn = false /\ (match Zc5 kq t with | some q => if (kOf H2 q).isSome = true then A.ptr q 0 else .any | none => .any).plain = true
          cases Zc5 kq t with
          | none => exact ⟨rfl, rfl⟩
          | some q => dsimp only; split <;> exact ⟨rfl, rfl⟩
         let D2 : Ctx := { Zah c.P w2 g2 H2 fn.ntmps with ds := a'.defers }
         have hRel3 : Rel D2 s3 g2 a' w2 := by
          refine ⟨rfl, by show a'.tmps.size = fn.ntmps; rw [k6, hN], fun t => ?_, fun u t n hu => ?_, fun u t n x i j hu => ?_, ?_⟩
          ·show RepA w2 g2 (fun _ => 0) (.slot t) (match Zc5 kq t with | some q => if (kOf H2 q).isSome = true then A.ptr q 0 else .any | none => .any) _
           cases hl : Zc5 kq t with
           | none => trivial
           | some q =>
             dsimp only
             split
             ·rename_i hex
              have hkk := k7 _ (Zgb hl)
              dsimp only at hkk
              obtain ⟨c', hc'⟩ := Option.isSome_iff_exists.1 hex
              obtain ⟨_, _, _, _, _, h5⟩ := m3.box q c' hc'
              have hmem : q ∈ qs.map Ref.up := by rw [<- hH2f]; exact Zdx.1 ⟨c', hc'⟩
              obtain ⟨q', hq', rfl⟩ := List.mem_map.1 hmem
              refine ⟨?_, h5⟩
              rw [hkk, m3.up q']
              rfl
             ·trivial
          ·have := (hs3 u).2; rw [hu] at this; cases this
          ·have := (hs3 u).2; rw [hu] at this; cases this
          ·exact HeapRel.conv (C := Zah c.P w2 g2 H2 0) (HeapRel.fresh m3) rfl rfl (fun t => (hs3 t).1) rfl rfl rfl rfl rfl
         have hbb : ∀ i (hi : i < (H2.map (·.2)).length), ∃ r, (qs.map Ref.up)[i]? = some r /\ s3.K r = some (H2.map (·.2))[i] := fun i hi => by
          have hi2 : i < H2.length := by simpa using hi
          refine ⟨H2[i].1, ?_, ?_⟩
          ·rw [<- hH2f, List.getElem?_map, List.getElem?_eq_getElem hi2]; rfl
          ·refine Zb9 hH2n ?_
           simp only [List.getElem_map]
           exact List.getElem_mem hi2
         have hkeep : ∀ x ∈ keep, s3.tm x.1 = .ptr ((qs.map Ref.up).getD x.2 (.own 0 0)) 0 := fun x hx => by
          have hlt := Zyt hrc m5 x hx
          have hl : Zc5 kq x.1 = some ((qs.map Ref.up).getD x.2 (.own 0 0)) := Zld (x := (x.1, (qs.map Ref.up).getD x.2 (.own 0 0))) (by
           have : kq.map (·.1) = keep.map (·.1) := by show (keep.map _).map _ = _; rw [List.map_map]; rfl
           rw [this]; exact hkn) (List.mem_map.2 ⟨x, hx, rfl⟩)
          obtain ⟨r, h5, h6⟩ := hbb x.2 hlt
          have hg : (qs.map Ref.up).getD x.2 (.own 0 0) = r := by rw [List.getD, h5]; rfl
          show (match Zc5 kq x.1 with | some q => if (kOf H2 q).isSome = true then A.ptr q 0 else .any | none => .any) = _
          rw [hl, hg]
          have h7 : kOf H2 r = some _ := h6
          exact if_pos (by rw [h7]; rfl)
         obtain ⟨as, n1, n2⟩ := Zuf hbb hrc hkeep m5
         have hres : resA D2.P s3 fn.results.toList = some (.tup vs2) := by
          rw [hrs]
          unfold resA
          split
          ·exact absurd rfl hrl
          ·show (((rl.mapM (Zdr c.P s3)).bind fun vs => vs.mapM Zhw)).map A.tup = _
           rw [n1]; simp only [Option.bind_some, n2, Option.map_some]
         obtain ⟨cv, r1, p, r2, _⟩ := Zfg (C := D2) (fn := fn) hRel3 hres
         refine ⟨cv, r1, .ret (.tup vs2), [], ?_⟩
         have htr : HeapRel (Zah c.P w (g.down s.gen) (Zbe H) 0) (Zay H2) g2 w2 := HeapRel.trans k4 m3
         have hpl2 : ∀ x ∈ H2, x.2.all Za2 = true /\ ∀ y ∈ x.2, y.plain = true := fun x hx => ⟨m3n x hx, fun y hy => by
          obtain ⟨cs, _, _, h7, _, _⟩ := m3.box x.1 x.2 (Zb9 hH2n hx)
          obtain ⟨j, hj⟩ := List.mem_iff_getElem?.1 hy
          exact (h7 j y hj).1⟩
         let H2c : List (Ref × List A) := qs.zip (H2.map fun x => x.2.map A.unlift)
         have hl2 : Zbe H2c = H2 := Zyu hH2f hpl2
         have hback := hR.back (H := H) hHK hHn (g' := g2) (w' := w2) (H2 := H2c) (by
          show (qs.zip (H2.map fun x => x.2.map A.unlift)).map (·.1) = H.map (·.1)
          rw [List.map_fst_zip (by simp; omega), hHfst]) (fun x hx y hy => by
          have := (List.of_mem_zip hx).2
          obtain ⟨z, hz, e8⟩ := List.mem_map.1 this
          rw [<- e8] at hy
          obtain ⟨v9, hv9, rfl⟩ := List.mem_map.1 hy
          exact (Zle (List.all_eq_true.1 (hpl2 z hz).1 v9 hv9) ((hpl2 z hz).2 v9 hv9)).2) (by rw [hl2]; exact htr)
         refine ⟨g.back g2 H, ⟨rfl, m6⟩, rfl, hnil hback.rel, cv, rfl, ?_, fun ho => by cases ho⟩
         obtain ⟨vs3, r3, r4⟩ := r2
         exact ⟨vs3, r3, r4⟩
       cases o with
       | ret v' =>
         rcases k1 with rfl | rfl
         ·show Leaves c.P fn a'.tmps Rend a'.defers .returning w'
          rw [hadf']; exact hleave
         ·show Leaves c.P fn a'.tmps Rend a'.defers .returning w'
          rw [hadf']; exact hleave
       | pan v' =>
         cases k1
         show Leaves c.P fn a'.tmps Rend a'.defers (.panicking [{ v := v', recovered := false }]) w'
         rw [hadf']; exact hleave
      ·unfold T.den at h; exact h.elim
    ·unfold T.den at h; exact h.elim
 subst ht
 exact Zud (c := c) (op := op) (C := C) rfl hN hmx hgood l (Agr.refl _ _) (Nat.le_refl _) rfl (List.prefix_rfl) rfl hd h g0 _ w0 hR0
def Zdh (fn : Func) : Code := fn.body.getD .skip
def Zn5 (id : Nat) : Code -> List Code
 | .seq (.region i ops d) y => if i = id then [] else .region i ops d :: Zn5 id y
 | .seq x y => x :: Zn5 id y
 | _ => []
def Zg7 (id : Nat) : Code -> Array Oper
 | .seq (.region i ops d) y => if i = id then ops else Zg7 id y
 | .seq _ y => Zg7 id y
 | _ => #[]
def Zdy (id : Nat) : Code -> Code
 | .seq (.region i _ _) y => if i = id then y else Zdy id y
 | .seq _ y => Zdy id y
 | _ => .skip
def opAt (ops : Array Oper) (i : Nat) : Oper := ops.toList.getD i { dst := none, op := .alloc 0, type := 0, pos := "", after := #[], guard := none }
end Go.Rf
end
